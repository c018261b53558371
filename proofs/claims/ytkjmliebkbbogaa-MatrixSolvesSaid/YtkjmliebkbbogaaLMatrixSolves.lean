/- The statement MatrixSolves of the given program: the law returns true for every input, and writes nothing that was there. The walk is proved over the contracts of the functions it calls. -/
import Derived.Test.YtkjmliebkbbogaaRows
import Derived.Test.YtkjmliebkbbogaaMOpen
import Derived.Test.YtkjmliebkbbogaaMRIsP
import Derived.Test.YtkjmliebkbbogaaMRTimes
import Derived.Test.YtkjmliebkbbogaaMRSolvb
import Derived.Test.YtkjmliebkbbogaaMLin
import Derived.Test.YtkjmliebkbbogaaMAwake
import Derived.WalkKit
import Derived.ProofKit
import Derived.OpenShut
import Derived.ShutString
import Derived.ChangeOld
import Derived.Below
namespace Go.Proofs.Ytkjmliebkbbogaa.matrixSolves
open Go.ChangeShapes Go.WideShapes Go.ChangeAt Go.RowKit
open Plain
open Go.ChangeMaps (open_string shut_string)
set_option linter.unusedVariables false
set_option linter.unusedSimpArgs false

theorem own : ownKnob Try.prog.godebug = none := by kernel_rfl
theorem laidOut : laidOutB Try.prog = true := by kernel_rfl

theorem colsL_le {rows : List RwD} {n : Nat} (h : ∀ r ∈ rows, r.ds.length ≤ n) : colsL (qsM rows) ≤ n := by
  cases rows with
  | nil => exact Nat.zero_le _
  | cons r rs => show r.qs.length ≤ n; rw [RwD.qs_len]; exact h r List.mem_cons_self
theorem gK_small {n : Nat} (h : n ≤ 7) : 4 * gK 3 n + 1 < 400000000 := by
  have h1 := gK_mono 3 h
  have h2 : gK 3 7 < 90000000 := by decide
  omega
theorem listB_len {ds : List FrD} (h : listB ds = true) : ds.length ≤ 6 ∧ smL ds = true := by
  unfold listB at h
  simpa using h
set_option maxRecDepth 100000 in
set_option maxHeartbeats 2000000 in
theorem walk (A0 : Option Addr) (c0 : Nat) (rs0 : List RwD) (A1 : Option Addr) (c1 : Nat) (ds1 : List FrD) (w : World) (w0 : MOk w A0 c0 rs0) (w1 : Srow w 3 FrD.cells A1 c1 ds1) (x1 : ∀ f ∈ ds1, f.ok w) :
    Calls Try.prog 5 #[.slice A0 rs0.length c0, .slice A1 ds1.length c1] w fun e w' => e = .returned (.bool true) ∧ Below w.heap.size w w' := by
  have bT := Below.refl w.heap.size w
  have hm := w0
  clear w0
  have hlm := hm.row.1
  have hlm2 := hm.row.2.1
  have hx1 : FOkM w A1 c1 ds1 := ⟨w1, x1⟩
  have hlx1 := hx1.1.1
  have hly1 := hx1.1.2.1
  clear w1 x1
  go_enter Try.func5, Try.ntmps5
  go_wp2_with fail
  refine (few17_any hm).mono ?_
  rintro e y1 ⟨rfl, by1⟩
  replace hm := hm.below by1
  replace hx1 := hx1.below by1
  replace bT := bT.trans (by1.mono bT.size)
  rcases hfew : fewM rs0 with _ | _
  · clear hfew
    go_wp2_with fail
    refine (awake17_any _).mono ?_
    rintro e wz ⟨rfl, bz⟩
    go_wp2
    go_ret
    exact ⟨rfl, bT.trans (bz.mono bT.size)⟩
  go_wp2_with fail
  refine (list17_any hx1).mono ?_
  rintro e y2 ⟨rfl, by2⟩
  replace hm := hm.below by2
  replace hx1 := hx1.below by2
  replace bT := bT.trans (by2.mono bT.size)
  rcases hlist : listB ds1 with _ | _
  · clear hfew hlist
    go_wp2_with fail
    refine (awake17_any _).mono ?_
    rintro e wz ⟨rfl, bz⟩
    go_wp2
    go_ret
    exact ⟨rfl, bT.trans (bz.mono bT.size)⟩
  obtain ⟨hM, hfm, hr6, hr7⟩ := fewM_ml hm hfew
  obtain ⟨hl6, hsm⟩ := listB_len hlist
  obtain ⟨hX, hfx⟩ := smL_fl hx1 hsm
  obtain ⟨n, hn⟩ : ∃ n, Hid (colsL (qsM rs0) = n) := ⟨_, rfl⟩
  have hcl := Lib.hid (show n ≤ 6 by rw [← hn.out]; exact colsL_le hr7)
  have hn6 := hcl.out
  have hfm' := Lib.hid hfm
  have hfx' := Lib.hid hfx
  clear hfew hlist hm hx1 hr7 hsm hfm hfx
  obtain ⟨⟨T, z⟩, hT⟩ : ∃ T, Hid (solveS (qsM rs0) (ds1.map FrD.q) = T) := ⟨_, rfl⟩
  have hc1 := solve_any hM hX hfm'.out hfx'.out (by rw [hn.out]; exact gK_small (by omega)) (by omega) (by rw [hn.out]; omega)
  rw [hT.out] at hc1
  go_wp2_with fail
  refine (hc1).mono ?_
  rintro e y3 ⟨A3, c3, d3, rfl, h3, q3, by3⟩
  replace hM := hM.below by3
  replace hX := hX.below by3
  replace bT := bT.trans (by3.mono bT.size)
  clear hc1
  have hl3 := h3.len
  have hlX := hX.len
  go_wp2_with fail
  refine (formed17_any hM).mono ?_
  rintro e y4 ⟨rfl, by4⟩
  replace hM := hM.below by4
  replace hX := hX.below by4
  replace h3 := h3.below by4
  replace bT := bT.trans (by4.mono bT.size)
  rcases hfo : formedL (qsM rs0) with _ | _
  · have hS := hT.out
    rw [solveS_form (by rw [hfo]; simp)] at hS
    injection hS with hT1 hz
    have hT2 := Lib.hid hT1.symm
    subst hz
    clear hT1 hfo hT
    obtain rfl : d3 = [] := List.eq_nil_of_length_eq_zero (by rw [← List.length_map (f := FrD.q), q3.out, hT2.out]; rfl)
    go_wp2_with fail
    refine (awake17_any _).mono ?_
    rintro e wz ⟨rfl, bz⟩
    go_wp2
    go_ret
    exact ⟨rfl, bT.trans (bz.mono bT.size)⟩
  have hfo' := Lib.hid hfo
  clear hfo
  by_cases hle0 : ¬ ds1.length = rs0.length
  · have hne : ((ds1.length : Int) != (rs0.length : Int)) = true := by simp; omega
    have hS := hT.out
    rw [solveS_form (by rw [List.length_map, qsM_len]; exact fun h => hle0 h.2)] at hS
    injection hS with hT1 hz
    have hT2 := Lib.hid hT1.symm
    subst hz
    clear hT1 hT hle0
    obtain rfl : d3 = [] := List.eq_nil_of_length_eq_zero (by rw [← List.length_map (f := FrD.q), q3.out, hT2.out]; rfl)
    go_wp2_with fail
    refine (awake17_any _).mono ?_
    rintro e wz ⟨rfl, bz⟩
    go_wp2
    go_ret
    exact ⟨rfl, bT.trans (bz.mono bT.size)⟩
  have hle' := Lib.hid (Decidable.not_not.1 hle0)
  clear hle0
  have hne : ((ds1.length : Int) != (rs0.length : Int)) = false := by rw [bne_eq_false_iff_eq]; have := hle'.out; omega
  have hbl := Lib.hid (show (ds1.map FrD.q).length = (qsM rs0).length by rw [List.length_map, qsM_len]; exact hle'.out)
  have hrect := Lib.hid (show rect (qsM rs0) n by rw [← hn.out]; exact formedL_rect hfo'.out)
  have hiff := Lib.hid (solve_none hfo'.out hbl.out)
  obtain ⟨v, hv⟩ : ∃ v, Hid (decide (rankR (withL (qsM rs0) (ds1.map FrD.q)) = rankR (qsM rs0)) = v) := ⟨_, rfl⟩
  have hc2 := solvable_any (K := 3) hM hX hrect.out hle'.out.symm hfm'.out hfx'.out (gK_small (by omega)) (by omega) (by omega)
  rw [hv.out] at hc2
  go_wp2_with fail
  refine (hc2).mono ?_
  rintro e y5 ⟨rfl, by5⟩
  replace hM := hM.below by5
  replace hX := hX.below by5
  replace h3 := h3.below by5
  replace bT := bT.trans (by5.mono bT.size)
  clear hc2
  cases v with
  | false =>
    have hno : solveL (qsM rs0) (ds1.map FrD.q) = none := Classical.byContradiction fun h => of_decide_eq_false hv.out (hiff.out.2 h)
    have hS := hT.out
    unfold solveS at hS
    rw [if_pos ⟨hfo'.out, hbl.out⟩, hno] at hS
    injection hS with hT1 hz
    have hT2 := Lib.hid hT1.symm
    subst hz
    clear hT1 hT hno
    obtain rfl : d3 = [] := List.eq_nil_of_length_eq_zero (by rw [← List.length_map (f := FrD.q), q3.out, hT2.out]; rfl)
    go_wp2_with fail
    refine (awake17_any _).mono ?_
    rintro e wz ⟨rfl, bz⟩
    go_wp2
    go_ret
    exact ⟨rfl, bT.trans (bz.mono bT.size)⟩
  | true =>
    obtain ⟨x, hx0⟩ : ∃ x, solveL (qsM rs0) (ds1.map FrD.q) = some x := by
      cases hx : solveL (qsM rs0) (ds1.map FrD.q) with
      | none => exact absurd hx (hiff.out.1 (of_decide_eq_true hv.out))
      | some x => exact ⟨x, rfl⟩
    have hS := hT.out
    unfold solveS at hS
    rw [if_pos ⟨hfo'.out, hbl.out⟩, hx0] at hS
    injection hS with hT1 hz
    have hT2 := Lib.hid hT1.symm
    subst hz
    clear hT1 hT hiff
    obtain ⟨z1, z2, z3⟩ := solve_sol hfo'.out hbl.out hx0
    have hz2 := Lib.hid z2
    have hz3 := Lib.hid z3
    have q3' := Lib.hid (show d3.map FrD.q = x by rw [q3.out, hT2.out])
    have g3 := Lib.hid (show d3.length = n by rw [← List.length_map (f := FrD.q), q3'.out, z1, hn.out])
    have hz1 := Lib.hid z1
    have hxf := Lib.hid (show QFits (gK 3 n) (d3.map FrD.q) by rw [q3'.out, ← hn.out]; exact solve_fits (by decide) hfo'.out hfm'.out hfx'.out hbl.out hx0)
    clear z1 z2 z3 hx0
    have gn : ((d3.length : Int) != (n : Int)) = false := by rw [bne_eq_false_iff_eq]; have := g3.out; omega
    have hgb : gK 3 n ≤ 20000 := Nat.le_trans (gK_mono 3 hcl.out) (by decide)
    go_wp2_with fail
    refine (cols17_any hM).mono ?_
    rintro e yc ⟨rfl, rfl⟩
    rw [hn.out]
    have tS := Lib.hid (show timesS (qsM rs0) (d3.map FrD.q) = ds1.map FrD.q by
      unfold timesS; rw [hfo'.out, List.length_map, g3.out, hn.out, q3'.out, hz2.out]; simp)
    have hc3 := rtimes_any (K := gK 3 n) hM h3 (hfm'.out.mono (gK_le 3 n)) hxf.out (by
      have h1 : (d3.length + 1) * (gK 3 n + gK 3 n + 1) ≤ 7 * 40001 := Nat.mul_le_mul (by have := g3.out; omega) (by omega)
      omega) (by omega)
    rw [tS.out] at hc3
    go_wp2_with fail
    refine (hc3).mono ?_
    rintro e y6 ⟨A4, c4, d4, rfl, h4, q4, by6⟩
    replace hM := hM.below by6
    replace hX := hX.below by6
    replace h3 := h3.below by6
    replace bT := bT.trans (by6.mono bT.size)
    clear hc3
    have e4 := Lib.hid (show decide (d4.map FrD.q = ds1.map FrD.q) = true from decide_eq_true q4.out)
    have hsm := same17_any h4 hX
    rw [e4.out] at hsm
    have hl4 := h4.len
    go_wp2_with fail
    refine (hsm).mono ?_
    rintro e y7 ⟨rfl, by7⟩
    replace hM := hM.below by7
    replace hX := hX.below by7
    replace h3 := h3.below by7
    replace h4 := h4.below by7
    replace bT := bT.trans (by7.mono bT.size)
    clear hsm h4 hX
    go_wp2
    go_loopw [76] (fun i wr => ∃ k : Nat, k ≤ d3.length ∧ i = .int .i64 (k : Int) ∧ Below y7.heap.size y7 wr) (fun i _ => d3.length - (intOf i).toNat)
    case atStart => exact ⟨0, by omega, rfl, Below.refl _ _⟩
    case round =>
      obtain ⟨k, hk, rfl, bk⟩ := hrel
      by_cases hkl : k < d3.length
      · have hki : (k : Int) < (d3.length : Int) := by omega
        have hkn : k < n := by have := g3.out; omega
        have hkb : (k : Int) < 1000000000 := by omega
        obtain ⟨p, hp⟩ : ∃ p, Hid (isPivL (qsM rs0) k = p) := ⟨_, rfl⟩
        have hcp := isPivot_any (K := 3) (hM.below bk) hrect.out hkn hfm'.out (gK_small (by omega)) (by omega) (by omega)
        rw [hp.out] at hcp
        go_wp2_with fail
        refine hcp.mono ?_
        rintro e x5 ⟨rfl, b5⟩
        clear hcp
        have b25 := bk.trans (b5.mono bk.size)
        cases p with
        | true =>
          go_wp2
          go_roundw
          case rel => exact ⟨k + 1, by omega, by go_num, b25⟩
          case measure => simp [intOf]; omega
        | false =>
          obtain ⟨e, d, rfl, heb, he0, he1, he2, hd, hdk⟩ := (h3.below b25).at hkl
          have hdq := Lib.hid (show d.q = 0 by
            have e1 : x.getD k 0 = d.q := by rw [← q3'.out, List.getD_eq_getElem?_getD, List.getElem?_map, hdk.out]; rfl
            rw [← e1]
            exact hz3.out k (by rw [hn.out]; exact hkn) hp.out)
          have hs : Hid (cmpR d.q 0 = 0) := cmpR_zero.2 hdq.out
          have hcs := refSign_any hd
          rw [hs.out] at hcs
          go_wp2_with fail
          refine hcs.mono ?_
          rintro e x6 ⟨rfl, b6⟩
          clear hcs
          go_wp2
          go_roundw
          case rel => exact ⟨k + 1, by omega, by go_num, b25.trans (b6.mono b25.size)⟩
          case measure => simp [intOf]; omega
      · obtain rfl : k = d3.length := by omega
        have hlt' : decide ((d3.length : Int) < (d3.length : Int)) = false := decide_eq_false (by omega)
        replace bT := bT.trans (bk.mono bT.size)
        go_wp2_with fail
        refine (awake17_any _).mono ?_
        rintro e wz ⟨rfl, bz⟩
        go_wp2
        go_ret
        exact ⟨rfl, bT.trans (bz.mono bT.size)⟩

/-! ### THE ROW's STEP: WRITTEN OUT: LEAVE IT -/
set_option maxRecDepth 100000 in
theorem lifted (os : Os) (started : os.Started) (H : Type) (enc : TypeId × Value → H) :
    ReturnsInHanded {} Try.checked os 5 .any (Rows.matrixSolvesSpec.pre6 enc Try.prog Try.f5 Rows.matrixSolvesRow.domain false) (Rows.matrixSolvesSpec.post enc Try.prog Try.f5 false true false false) := by
  refine returnsInHanded_of_change (C := Try.checked) own started (by kernel_rfl) Try.func5
    (ChangeSpec.witness6 (enc := enc) (C := Try.checked) false ⟨#[], #[.slice none 0 0, .slice none 0 0], []⟩ 8 (by kernel_rfl) (by kernel_rfl) (by kernel_rfl) (by kernel_rfl)) ?_
  intro W base args ds gs before hval0 hW hcnd _
  have hval : ∀ (j : Nat) t v, Try.f5.params[j]? = some t → args[j]? = some v → Value.okWide Try.prog W .any base t v := hval0
  have hW' := hW
  obtain ⟨p, q, hA0, hV, rfl, hfz, hnd⟩ := hW
  have hA : DataW.TrodAll enc Try.prog W 0 (fun _ => true) true Try.f5.params.toList args.toList ds p := hA0
  rw [Try.params5] at hA hval
  obtain ⟨v0, vs0, d0, ds0, p0, q0, hargs, rfl, rfl, h0, r0⟩ := trodAll_cons hA
  obtain ⟨v1, vs1, d1, ds1, p1, q1, rfl, rfl, rfl, h1, r1⟩ := trodAll_cons r0
  obtain ⟨rfl, rfl, rfl⟩ := trodAll_nil r1
  obtain rfl : args = #[v0, v1] := by cases args; simp_all
  obtain ⟨rfl, rfl⟩ := trodVars_none hV
  have k0 := h0
  have lt0 : ∀ x ∈ p0, x.block < W.heap.size := by obtain ⟨m, hm⟩ := k0; exact DataW.trod_lt m _ _ _ hm
  obtain ⟨A0, c0, rs0, rfl, w0⟩ := open_matrix (hval 0 22 v0 rfl rfl) h0
  have k1 := h1
  have lt1 : ∀ x ∈ p1, x.block < W.heap.size := by obtain ⟨m, hm⟩ := k1; exact DataW.trod_lt m _ _ _ hm
  obtain ⟨A1, c1, ds1, rfl, w1, x1⟩ := open_fracs (hval 1 23 v1 rfl rfl) h1
  clear hA0 hval0
  refine (walk A0 c0 rs0 A1 c1 ds1 W w0 w1 x1).mono fun e W' ⟨he, bel⟩ => ?_
  subst he
  exact ⟨_, rfl, _, _, _, [], _, [], hW', trodAll_mk1 (shut_bool Try.underlying4 _), (trodAll_cons_mk (Below.trod laidOut (by kernel_rfl) (of_decide_eq_true (by kernel_rfl)) k0 bel lt0) (trodAll_cons_mk (Below.trod laidOut (by kernel_rfl) (of_decide_eq_true (by kernel_rfl)) k1 bel lt1) trodAll_mk0)), rfl, bel.frame _, fun h => by cases h⟩

theorem over : Rows.matrixSolvesRow.holds Try.pinned (OpenSpec.ofChange Rows.matrixSolvesSpec) :=
  OpenClaim.holds_of_wide 5 Try.f5 rfl rfl rfl rfl rfl rfl rfl ⟨rfl, rfl, rfl, rfl, rfl⟩ rfl rfl rfl rfl rfl (by kernel_rfl) Try.func5 (by kernel_rfl)
    (of_decide_eq_true (by kernel_rfl)) (by unfold Func.isWrapper; first | (rw [if_pos (by decide +kernel)]; kernel_rfl) | (rw [if_neg (by decide +kernel)]; exact ⟨rfl, rfl⟩))
    (fun os started H enc _ => lifted os started H enc)

/-- ████ THE STATEMENT ████ -/
theorem proved : Rows.MatrixSolvesSaid := over
#print axioms proved
end Go.Proofs.Ytkjmliebkbbogaa.matrixSolves
