/- The statement MatrixRanks of the given program: the law returns true for every input, and writes nothing that was there. The walk is proved over the contracts of the functions it calls. -/
import Derived.Test.YtkjmliebkbbogaaRows
import Derived.Test.YtkjmliebkbbogaaMOpen
import Derived.Test.YtkjmliebkbbogaaMRRank
import Derived.Test.YtkjmliebkbbogaaMAwake
import Derived.WalkKit
import Derived.ProofKit
import Derived.OpenShut
import Derived.ShutString
import Derived.ChangeOld
import Derived.Below
namespace Go.Proofs.Ytkjmliebkbbogaa.matrixRanks
open Go.ChangeShapes Go.WideShapes Go.ChangeAt Go.RowKit
open Plain
open Go.ChangeMaps (open_string shut_string)
set_option linter.unusedVariables false
set_option linter.unusedSimpArgs false

theorem own : ownKnob Try.prog.godebug = none := by kernel_rfl
theorem laidOut : laidOutB Try.prog = true := by kernel_rfl

theorem transL_formed {M : Mat} (h : formedL M = true) : formedL (transL M) = true ∧ colsL (transL M) ≤ M.length := by
  rcases Nat.eq_zero_or_pos (transL M).length with h0 | h0
  · have : transL M = [] := List.eq_nil_of_length_eq_zero h0
    rw [this]
    exact ⟨rfl, Nat.zero_le _⟩
  · have := rect_formed (transL_rect M) h0
    exact ⟨this.1, by rw [this.2]; exact Nat.le_refl _⟩
theorem transL_fits {K : Nat} {M : Mat} (h : MFits K M) (hf : formedL M = true) : MFits K (transL M) := fun r hr q hq => by
  unfold transL at hr
  obtain ⟨k, hk, rfl⟩ := List.mem_map.1 hr
  obtain ⟨x, hx, rfl⟩ := List.mem_map.1 hq
  exact (h x hx).get (by rw [formedL_rect hf x hx]; exact List.mem_range.1 hk)
theorem colsL_le {rows : List RwD} {n : Nat} (h : ∀ r ∈ rows, r.ds.length ≤ n) : colsL (qsM rows) ≤ n := by
  cases rows with
  | nil => exact Nat.zero_le _
  | cons r rs => show r.qs.length ≤ n; rw [RwD.qs_len]; exact h r List.mem_cons_self
theorem gK_small {n : Nat} (h : n ≤ 7) : 4 * gK 3 n + 1 < 400000000 := by
  have h1 := gK_mono 3 h
  have h2 : gK 3 7 < 90000000 := by decide
  omega
theorem listB_len {ds : List FrD} (h : listB ds = true) : ds.length ≤ 6 ∧ smL ds = true := by
  unfold listB at h
  simpa using h
set_option maxRecDepth 100000 in
set_option maxHeartbeats 2000000 in
theorem walk (A0 : Option Addr) (c0 : Nat) (rs0 : List RwD) (w : World) (w0 : MOk w A0 c0 rs0) :
    Calls Try.prog 7 #[.slice A0 rs0.length c0] w fun e w' => e = .returned (.bool true) ∧ Below w.heap.size w w' := by
  have bT := Below.refl w.heap.size w
  have hm := w0
  clear w0
  have hlm := hm.row.1
  have hlm2 := hm.row.2.1
  go_enter Try.func7, Try.ntmps7
  go_wp2_with fail
  refine (few17_any hm).mono ?_
  rintro e y1 ⟨rfl, by1⟩
  replace hm := hm.below by1
  replace bT := bT.trans (by1.mono bT.size)
  rcases hfew : fewM rs0 with _ | _
  · clear hfew
    go_wp2_with fail
    refine (awake17_any _).mono ?_
    rintro e wz ⟨rfl, bz⟩
    go_wp2
    go_ret
    exact ⟨rfl, bT.trans (bz.mono bT.size)⟩
  obtain ⟨hM, hfm, hr6, hr7⟩ := fewM_ml hm hfew
  have hcl := Lib.hid (colsL_le hr7)
  have hfm' := Lib.hid hfm
  clear hfew hm hr7 hfm
  obtain ⟨v, hv⟩ : ∃ v, Hid (rankS (qsM rs0) = v) := ⟨_, rfl⟩
  obtain ⟨n, hn⟩ : ∃ n, Hid (colsL (qsM rs0) = n) := ⟨_, rfl⟩
  have hv2 := Lib.hid (show rankRS (qsM rs0) = v by
    rw [← hv.out]; unfold rankRS rankS
    cases hf : formedL (qsM rs0) with
    | false => rfl
    | true => rw [if_pos rfl, if_pos rfl, rankR_eq hf])
  have hvl := Lib.hid (show v ≤ rs0.length ∧ v ≤ n by
    rw [← hv.out, ← hn.out]; unfold rankS
    cases hf : formedL (qsM rs0) with
    | false => exact ⟨Nat.zero_le _, Nat.zero_le _⟩
    | true => have := rankL_le hf; rw [qsM_len] at this; exact this)
  have hi1 : (v : Int) ≤ (rs0.length : Int) := by have := hvl.out.1; omega
  have hi2 : (v : Int) ≤ (n : Int) := by have := hvl.out.2; omega
  have hc1 := rank_any hM hfm'.out (gK_small (by have := hcl.out; omega)) (by omega) (by have := hcl.out; omega)
  rw [hv.out] at hc1
  go_wp2_with fail
  refine (hc1).mono ?_
  rintro e y2 ⟨rfl, by2⟩
  replace hM := hM.below by2
  replace bT := bT.trans (by2.mono bT.size)
  clear hc1
  have hc2 := rrank_any hM hfm'.out (gK_small (by omega)) (by omega) (by have := hcl.out; omega)
  rw [hv2.out] at hc2
  go_wp2_with fail
  refine (hc2).mono ?_
  rintro e y3 ⟨rfl, by3⟩
  replace hM := hM.below by3
  replace bT := bT.trans (by3.mono bT.size)
  clear hc2
  go_wp2_with fail
  refine (cols17_any hM).mono ?_
  rintro e yc ⟨rfl, rfl⟩
  rw [hn.out]
  go_wp2_with fail
  refine (formed17_any hM).mono ?_
  rintro e y4 ⟨rfl, by4⟩
  replace hM := hM.below by4
  replace bT := bT.trans (by4.mono bT.size)
  rcases hfo : formedL (qsM rs0) with _ | _
  · clear hfo
    go_wp2_with fail
    refine (awake17_any _).mono ?_
    rintro e wz ⟨rfl, bz⟩
    go_wp2
    go_ret
    exact ⟨rfl, bT.trans (bz.mono bT.size)⟩
  have hfo' := Lib.hid hfo
  clear hfo
  have htS := Lib.hid (show transS (qsM rs0) = transL (qsM rs0) by unfold transS; rw [hfo'.out]; rfl)
  have htf := Lib.hid (transL_formed hfo'.out)
  have htfit := Lib.hid (transL_fits hfm'.out hfo'.out)
  have hvt := Lib.hid (show rankS (transL (qsM rs0)) = v by
    rw [← hv.out]; unfold rankS; rw [htf.out.1, hfo'.out, if_pos rfl, if_pos rfl, rank_trans hfo'.out])
  have hc3 := trans_any hM (by omega) (by have := hcl.out; omega)
  rw [htS.out] at hc3
  go_wp2_with fail
  refine (hc3).mono ?_
  rintro e y5 ⟨A5, c5, r5, rfl, h5, q5, by5⟩
  replace hM := hM.below by5
  replace bT := bT.trans (by5.mono bT.size)
  clear hc3
  have hl5 := Lib.hid (show r5.length ≤ 6 by rw [← qsM_len, q5.out, transL_length]; exact hcl.out)
  have hc4 := rank_any (K := 3) h5 (by rw [q5.out]; exact htfit.out) (by rw [q5.out]; exact gK_small (by have := htf.out.2; rw [qsM_len] at this; omega)) (by have := hl5.out; omega) (by rw [q5.out]; have := htf.out.2; rw [qsM_len] at this; omega)
  rw [q5.out, hvt.out] at hc4
  have hlr5 := h5.len
  go_wp2_with fail
  refine (hc4).mono ?_
  rintro e y6 ⟨rfl, by6⟩
  replace h5 := h5.below by6
  replace bT := bT.trans (by6.mono bT.size)
  clear hc4
  go_wp2_with fail
  refine (awake17_any _).mono ?_
  rintro e wz ⟨rfl, bz⟩
  go_wp2
  go_ret
  exact ⟨rfl, bT.trans (bz.mono bT.size)⟩

/-! ### THE ROW's STEP: WRITTEN OUT: LEAVE IT -/
set_option maxRecDepth 100000 in
theorem lifted (os : Os) (started : os.Started) (H : Type) (enc : TypeId × Value → H) :
    ReturnsInHanded {} Try.checked os 7 .any (Rows.matrixRanksSpec.pre6 enc Try.prog Try.f7 Rows.matrixRanksRow.domain false) (Rows.matrixRanksSpec.post enc Try.prog Try.f7 false true false false) := by
  refine returnsInHanded_of_change (C := Try.checked) own started (by kernel_rfl) Try.func7
    (ChangeSpec.witness6 (enc := enc) (C := Try.checked) false ⟨#[], #[.slice none 0 0], []⟩ 8 (by kernel_rfl) (by kernel_rfl) (by kernel_rfl) (by kernel_rfl)) ?_
  intro W base args ds gs before hval0 hW hcnd _
  have hval : ∀ (j : Nat) t v, Try.f7.params[j]? = some t → args[j]? = some v → Value.okWide Try.prog W .any base t v := hval0
  have hW' := hW
  obtain ⟨p, q, hA0, hV, rfl, hfz, hnd⟩ := hW
  have hA : DataW.TrodAll enc Try.prog W 0 (fun _ => true) true Try.f7.params.toList args.toList ds p := hA0
  rw [Try.params7] at hA hval
  obtain ⟨v0, vs0, d0, ds0, p0, q0, hargs, rfl, rfl, h0, r0⟩ := trodAll_cons hA
  obtain ⟨rfl, rfl, rfl⟩ := trodAll_nil r0
  obtain rfl : args = #[v0] := by cases args; simp_all
  obtain ⟨rfl, rfl⟩ := trodVars_none hV
  have k0 := h0
  have lt0 : ∀ x ∈ p0, x.block < W.heap.size := by obtain ⟨m, hm⟩ := k0; exact DataW.trod_lt m _ _ _ hm
  obtain ⟨A0, c0, rs0, rfl, w0⟩ := open_matrix (hval 0 22 v0 rfl rfl) h0
  clear hA0 hval0
  refine (walk A0 c0 rs0 W w0).mono fun e W' ⟨he, bel⟩ => ?_
  subst he
  exact ⟨_, rfl, _, _, _, [], _, [], hW', trodAll_mk1 (shut_bool Try.underlying4 _), (trodAll_cons_mk (Below.trod laidOut (by kernel_rfl) (of_decide_eq_true (by kernel_rfl)) k0 bel lt0) trodAll_mk0), rfl, bel.frame _, fun h => by cases h⟩

theorem over : Rows.matrixRanksRow.holds Try.pinned (OpenSpec.ofChange Rows.matrixRanksSpec) :=
  OpenClaim.holds_of_wide 7 Try.f7 rfl rfl rfl rfl rfl rfl rfl ⟨rfl, rfl, rfl, rfl, rfl⟩ rfl rfl rfl rfl rfl (by kernel_rfl) Try.func7 (by kernel_rfl)
    (of_decide_eq_true (by kernel_rfl)) (by unfold Func.isWrapper; first | (rw [if_pos (by decide +kernel)]; kernel_rfl) | (rw [if_neg (by decide +kernel)]; exact ⟨rfl, rfl⟩))
    (fun os started H enc _ => lifted os started H enc)

/-- ████ THE STATEMENT ████ -/
theorem proved : Rows.MatrixRanksSaid := over
#print axioms proved
end Go.Proofs.Ytkjmliebkbbogaa.matrixRanks
