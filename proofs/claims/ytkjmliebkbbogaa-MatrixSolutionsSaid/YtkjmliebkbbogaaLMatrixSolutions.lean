/- The statement MatrixSolutions of the given program: the law returns true for every input, and writes nothing that was there. The walk is proved over the contracts of the functions it calls. -/
import Derived.Test.YtkjmliebkbbogaaRows
import Derived.Test.YtkjmliebkbbogaaMOpen
import Derived.Test.YtkjmliebkbbogaaMRSol
import Derived.Test.YtkjmliebkbbogaaMLin
import Derived.Test.YtkjmliebkbbogaaMAwake
import Derived.WalkKit
import Derived.ProofKit
import Derived.OpenShut
import Derived.ShutString
import Derived.ChangeOld
import Derived.Below
namespace Go.Proofs.Ytkjmliebkbbogaa.matrixSolutions
open Go.ChangeShapes Go.WideShapes Go.ChangeAt Go.RowKit
open Plain
open Go.ChangeMaps (open_string shut_string)
set_option linter.unusedVariables false
set_option linter.unusedSimpArgs false

theorem own : ownKnob Try.prog.godebug = none := by kernel_rfl
theorem laidOut : laidOutB Try.prog = true := by kernel_rfl

theorem colsL_le {rows : List RwD} {n : Nat} (h : ∀ r ∈ rows, r.ds.length ≤ n) : colsL (qsM rows) ≤ n := by
  cases rows with
  | nil => exact Nat.zero_le _
  | cons r rs => show r.qs.length ≤ n; rw [RwD.qs_len]; exact h r List.mem_cons_self
theorem gK_small {n : Nat} (h : n ≤ 7) : 4 * gK 3 n + 1 < 400000000 := by
  have h1 := gK_mono 3 h
  have h2 : gK 3 7 < 90000000 := by decide
  omega
theorem listB_len {ds : List FrD} (h : listB ds = true) : ds.length ≤ 6 ∧ smL ds = true := by
  unfold listB at h
  simpa using h
set_option maxRecDepth 100000 in
set_option maxHeartbeats 2000000 in
theorem walk (A0 : Option Addr) (c0 : Nat) (rs0 : List RwD) (A1 : Option Addr) (c1 : Nat) (ds1 : List FrD) (w : World) (w0 : MOk w A0 c0 rs0) (w1 : Srow w 3 FrD.cells A1 c1 ds1) (x1 : ∀ f ∈ ds1, f.ok w) :
    Calls Try.prog 6 #[.slice A0 rs0.length c0, .slice A1 ds1.length c1] w fun e w' => e = .returned (.bool true) ∧ Below w.heap.size w w' := by
  have bT := Below.refl w.heap.size w
  have hm := w0
  clear w0
  have hlm := hm.row.1
  have hlm2 := hm.row.2.1
  have hx1 : FOkM w A1 c1 ds1 := ⟨w1, x1⟩
  have hlx1 := hx1.1.1
  have hly1 := hx1.1.2.1
  clear w1 x1
  go_enter Try.func6, Try.ntmps6
  go_wp2_with fail
  refine (few17_any hm).mono ?_
  rintro e y1 ⟨rfl, by1⟩
  replace hm := hm.below by1
  replace hx1 := hx1.below by1
  replace bT := bT.trans (by1.mono bT.size)
  rcases hfew : fewM rs0 with _ | _
  · clear hfew
    go_wp2_with fail
    refine (awake17_any _).mono ?_
    rintro e wz ⟨rfl, bz⟩
    go_wp2
    go_ret
    exact ⟨rfl, bT.trans (bz.mono bT.size)⟩
  go_wp2_with fail
  refine (list17_any hx1).mono ?_
  rintro e y2 ⟨rfl, by2⟩
  replace hm := hm.below by2
  replace hx1 := hx1.below by2
  replace bT := bT.trans (by2.mono bT.size)
  rcases hlist : listB ds1 with _ | _
  · clear hfew hlist
    go_wp2_with fail
    refine (awake17_any _).mono ?_
    rintro e wz ⟨rfl, bz⟩
    go_wp2
    go_ret
    exact ⟨rfl, bT.trans (bz.mono bT.size)⟩
  obtain ⟨hM, hfm, hr6, hr7⟩ := fewM_ml hm hfew
  obtain ⟨hl6, hsm⟩ := listB_len hlist
  obtain ⟨hX, hfx⟩ := smL_fl hx1 hsm
  obtain ⟨n, hn⟩ : ∃ n, Hid (colsL (qsM rs0) = n) := ⟨_, rfl⟩
  have hcl := Lib.hid (show n ≤ 6 by rw [← hn.out]; exact colsL_le hr7)
  have hn6 := hcl.out
  have hfm' := Lib.hid hfm
  have hfx' := Lib.hid hfx
  clear hfew hlist hm hx1 hr7 hsm hfm hfx
  obtain ⟨⟨T, z⟩, hT⟩ : ∃ T, Hid (solveS (qsM rs0) (ds1.map FrD.q) = T) := ⟨_, rfl⟩
  have hc1 := solve_any hM hX hfm'.out hfx'.out (by rw [hn.out]; exact gK_small (by omega)) (by omega) (by rw [hn.out]; omega)
  rw [hT.out] at hc1
  go_wp2_with fail
  refine (hc1).mono ?_
  rintro e y3 ⟨A3, c3, d3, rfl, h3, q3, by3⟩
  replace hM := hM.below by3
  replace hX := hX.below by3
  replace bT := bT.trans (by3.mono bT.size)
  clear hc1
  have hl3 := h3.len
  have hlX := hX.len
  have hc2 := rsolve_any hM hX hfm'.out hfx'.out (by rw [hn.out]; exact gK_small (by omega)) (by omega) (by rw [hn.out]; omega)
  rw [hT.out] at hc2
  go_wp2_with fail
  refine (hc2).mono ?_
  rintro e y4 ⟨A4, c4, d4, rfl, h4, q4, by4⟩
  replace hM := hM.below by4
  replace hX := hX.below by4
  replace h3 := h3.below by4
  replace bT := bT.trans (by4.mono bT.size)
  clear hc2
  have hl4 := h4.len
  have hzz : (z == z) = true := by simp
  have e34 := Lib.hid (show decide (d3.map FrD.q = d4.map FrD.q) = true by rw [q3.out, q4.out]; exact decide_eq_true rfl)
  have hsm := same17_any h3 h4
  rw [e34.out] at hsm
  go_wp2_with fail
  refine (hsm).mono ?_
  rintro e y5 ⟨rfl, by5⟩
  replace hM := hM.below by5
  replace hX := hX.below by5
  replace h3 := h3.below by5
  replace h4 := h4.below by5
  replace bT := bT.trans (by5.mono bT.size)
  clear hsm
  go_wp2_with fail
  refine (awake17_any _).mono ?_
  rintro e wz ⟨rfl, bz⟩
  go_wp2
  go_ret
  exact ⟨rfl, bT.trans (bz.mono bT.size)⟩

/-! ### THE ROW's STEP: WRITTEN OUT: LEAVE IT -/
set_option maxRecDepth 100000 in
theorem lifted (os : Os) (started : os.Started) (H : Type) (enc : TypeId × Value → H) :
    ReturnsInHanded {} Try.checked os 6 .any (Rows.matrixSolutionsSpec.pre6 enc Try.prog Try.f6 Rows.matrixSolutionsRow.domain false) (Rows.matrixSolutionsSpec.post enc Try.prog Try.f6 false true false false) := by
  refine returnsInHanded_of_change (C := Try.checked) own started (by kernel_rfl) Try.func6
    (ChangeSpec.witness6 (enc := enc) (C := Try.checked) false ⟨#[], #[.slice none 0 0, .slice none 0 0], []⟩ 8 (by kernel_rfl) (by kernel_rfl) (by kernel_rfl) (by kernel_rfl)) ?_
  intro W base args ds gs before hval0 hW hcnd _
  have hval : ∀ (j : Nat) t v, Try.f6.params[j]? = some t → args[j]? = some v → Value.okWide Try.prog W .any base t v := hval0
  have hW' := hW
  obtain ⟨p, q, hA0, hV, rfl, hfz, hnd⟩ := hW
  have hA : DataW.TrodAll enc Try.prog W 0 (fun _ => true) true Try.f6.params.toList args.toList ds p := hA0
  rw [Try.params6] at hA hval
  obtain ⟨v0, vs0, d0, ds0, p0, q0, hargs, rfl, rfl, h0, r0⟩ := trodAll_cons hA
  obtain ⟨v1, vs1, d1, ds1, p1, q1, rfl, rfl, rfl, h1, r1⟩ := trodAll_cons r0
  obtain ⟨rfl, rfl, rfl⟩ := trodAll_nil r1
  obtain rfl : args = #[v0, v1] := by cases args; simp_all
  obtain ⟨rfl, rfl⟩ := trodVars_none hV
  have k0 := h0
  have lt0 : ∀ x ∈ p0, x.block < W.heap.size := by obtain ⟨m, hm⟩ := k0; exact DataW.trod_lt m _ _ _ hm
  obtain ⟨A0, c0, rs0, rfl, w0⟩ := open_matrix (hval 0 22 v0 rfl rfl) h0
  have k1 := h1
  have lt1 : ∀ x ∈ p1, x.block < W.heap.size := by obtain ⟨m, hm⟩ := k1; exact DataW.trod_lt m _ _ _ hm
  obtain ⟨A1, c1, ds1, rfl, w1, x1⟩ := open_fracs (hval 1 23 v1 rfl rfl) h1
  clear hA0 hval0
  refine (walk A0 c0 rs0 A1 c1 ds1 W w0 w1 x1).mono fun e W' ⟨he, bel⟩ => ?_
  subst he
  exact ⟨_, rfl, _, _, _, [], _, [], hW', trodAll_mk1 (shut_bool Try.underlying4 _), (trodAll_cons_mk (Below.trod laidOut (by kernel_rfl) (of_decide_eq_true (by kernel_rfl)) k0 bel lt0) (trodAll_cons_mk (Below.trod laidOut (by kernel_rfl) (of_decide_eq_true (by kernel_rfl)) k1 bel lt1) trodAll_mk0)), rfl, bel.frame _, fun h => by cases h⟩

theorem over : Rows.matrixSolutionsRow.holds Try.pinned (OpenSpec.ofChange Rows.matrixSolutionsSpec) :=
  OpenClaim.holds_of_wide 6 Try.f6 rfl rfl rfl rfl rfl rfl rfl ⟨rfl, rfl, rfl, rfl, rfl⟩ rfl rfl rfl rfl rfl (by kernel_rfl) Try.func6 (by kernel_rfl)
    (of_decide_eq_true (by kernel_rfl)) (by unfold Func.isWrapper; first | (rw [if_pos (by decide +kernel)]; kernel_rfl) | (rw [if_neg (by decide +kernel)]; exact ⟨rfl, rfl⟩))
    (fun os started H enc _ => lifted os started H enc)

/-- ████ THE STATEMENT ████ -/
theorem proved : Rows.MatrixSolutionsSaid := over
#print axioms proved
end Go.Proofs.Ytkjmliebkbbogaa.matrixSolutions
