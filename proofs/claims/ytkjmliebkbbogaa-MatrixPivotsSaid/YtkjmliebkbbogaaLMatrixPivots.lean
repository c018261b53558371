/- The statement MatrixPivots of the given program: the law returns true for every input, and writes nothing that was there. The walk is proved over the contracts of the functions it calls. -/
import Derived.Test.YtkjmliebkbbogaaRows
import Derived.Test.YtkjmliebkbbogaaMOpen
import Derived.Test.YtkjmliebkbbogaaMRRank
import Derived.Test.YtkjmliebkbbogaaMRTrans
import Derived.Test.YtkjmliebkbbogaaMAwake
import Derived.WalkKit
import Derived.ProofKit
import Derived.OpenShut
import Derived.ShutString
import Derived.ChangeOld
import Derived.Below
namespace Go.Proofs.Ytkjmliebkbbogaa.matrixPivots
open Go.ChangeShapes Go.WideShapes Go.ChangeAt Go.RowKit
open Plain
open Go.ChangeMaps (open_string shut_string)
set_option linter.unusedVariables false
set_option linter.unusedSimpArgs false

theorem own : ownKnob Try.prog.godebug = none := by kernel_rfl
theorem laidOut : laidOutB Try.prog = true := by kernel_rfl

theorem trans_trans {M : Mat} (h : formedL M = true) (hm : 0 < M.length) (hc : 0 < colsL M) : transL (transL M) = M := by
  have ht : colsL (transL M) = M.length := (rect_formed (transL_rect M) (by rw [transL_length]; exact hc)).2
  refine List.ext_getElem (by rw [transL_length, ht]) fun i h1 h2 => ?_
  have hr : M[i].length = colsL M := formedL_rect h _ (List.getElem_mem h2)
  have e1 : (transL (transL M))[i] = (transL M).map fun r => r.getD i 0 := by
    simp only [transL, List.getElem_map, List.getElem_range]
  rw [e1]
  refine List.ext_getElem (by rw [List.length_map, transL_length, hr]) fun k h3 h4 => ?_
  simp only [transL, List.getElem_map, List.getElem_range]
  rw [List.getD_eq_getElem?_getD, List.getElem?_map, List.getElem?_eq_getElem h2]
  show M[i].getD k 0 = _
  rw [List.getD_eq_getElem?_getD, List.getElem?_eq_getElem h4]; rfl
theorem pivS_cases (M : Mat) (x y : Int) : (pivS M x y).2 ≠ 0 ∨ (formedL M = true ∧ ∃ p j : Nat, x = p ∧ y = j ∧ p < M.length ∧ j < colsL M ∧ fn M p j ≠ 0 ∧ pivS M x y = (pivL M p j, 0)) := by
  by_cases hf : formedL M = true
  · by_cases hr : x < 0 ∨ (M.length : Int) ≤ x ∨ y < 0 ∨ (colsL M : Int) ≤ y
    · left; rw [pivS_range hf hr]; decide
    · obtain ⟨p, rfl⟩ : ∃ p : Nat, x = (p : Int) := ⟨x.toNat, by omega⟩
      obtain ⟨j, rfl⟩ : ∃ j : Nat, y = (j : Int) := ⟨y.toNat, by omega⟩
      have hp : p < M.length := by omega
      have hj : j < colsL M := by omega
      by_cases hz : fn M p j = 0
      · left; rw [pivS_zero hf hp hj hz]; decide
      · exact .inr ⟨hf, p, j, rfl, rfl, hp, hj, hz, pivS_ok hf hp hj hz⟩
  · left; rw [pivS_form (by simpa using hf)]; decide
theorem transL_colsle {M : Mat} (h : formedL M = true) : colsL (transL M) ≤ M.length := by
  rcases Nat.eq_zero_or_pos (transL M).length with h0 | h0
  · have : transL M = [] := List.eq_nil_of_length_eq_zero h0
    rw [this]; exact Nat.zero_le _
  · rw [(rect_formed (transL_rect M) h0).2]; exact Nat.le_refl _
theorem transS_colsle (M : Mat) : colsL (transS M) ≤ M.length := by
  unfold transS
  cases hf : formedL M with
  | false => exact Nat.zero_le _
  | true => exact transL_colsle hf
theorem int_bounds {a : Int} (h : (Lit.int .i64 a).wf = true) : -9223372036854775808 ≤ a ∧ a ≤ 9223372036854775807 := by
  simp [Lit.wf, IntKind.min, IntKind.max, IntKind.signed, IntKind.bits] at h
  omega
theorem gK_small13 {n : Nat} (h : n ≤ 7) : 4 * gK 13 n + 1 < 400000000 := by
  have h1 := gK_mono 13 h
  have h2 : gK 13 7 < 90000000 := by decide
  omega
theorem colsL_le {rows : List RwD} {n : Nat} (h : ∀ r ∈ rows, r.ds.length ≤ n) : colsL (qsM rows) ≤ n := by
  cases rows with
  | nil => exact Nat.zero_le _
  | cons r rs => show r.qs.length ≤ n; rw [RwD.qs_len]; exact h r List.mem_cons_self
theorem gK_small {n : Nat} (h : n ≤ 7) : 4 * gK 3 n + 1 < 400000000 := by
  have h1 := gK_mono 3 h
  have h2 : gK 3 7 < 90000000 := by decide
  omega
theorem listB_len {ds : List FrD} (h : listB ds = true) : ds.length ≤ 6 ∧ smL ds = true := by
  unfold listB at h
  simpa using h
set_option maxRecDepth 100000 in
set_option maxHeartbeats 2000000 in
theorem walk (A0 : Option Addr) (c0 : Nat) (rs0 : List RwD) (a1 : Int) (a2 : Int) (w : World) (w0 : MOk w A0 c0 rs0) (w1 : (Lit.int .i64 a1).wf = true) (w2 : (Lit.int .i64 a2).wf = true) :
    Calls Try.prog 4 #[.slice A0 rs0.length c0, .int .i64 a1, .int .i64 a2] w fun e w' => e = .returned (.bool true) ∧ Below w.heap.size w w' := by
  have bT := Below.refl w.heap.size w
  have hm := w0
  clear w0
  have hlm := hm.row.1
  have hlm2 := hm.row.2.1
  have hbx := int_bounds w1
  have hby := int_bounds w2
  clear w1 w2
  go_enter Try.func4, Try.ntmps4
  go_wp2_with fail
  refine (few17_any hm).mono ?_
  rintro e y1 ⟨rfl, by1⟩
  replace hm := hm.below by1
  replace bT := bT.trans (by1.mono bT.size)
  rcases hfew : fewM rs0 with _ | _
  · clear hfew
    go_wp2_with fail
    refine (awake17_any _).mono ?_
    rintro e wz ⟨rfl, bz⟩
    go_wp2
    go_ret
    exact ⟨rfl, bT.trans (bz.mono bT.size)⟩
  obtain ⟨hM, hfm, hr6, hr7⟩ := fewM_ml hm hfew
  have hcl := Lib.hid (colsL_le hr7)
  have hfm' := Lib.hid hfm
  clear hfew hm hr7 hfm
  obtain ⟨Z, hZ⟩ : ∃ Z, Hid (pivS (qsM rs0) a1 a2 = Z) := ⟨_, rfl⟩
  have ht1 := Lib.hid (transS_colsle (qsM rs0))
  have ht2 := Lib.hid (show (transS (qsM rs0)).length ≤ 6 by unfold transS; split; rw [transL_length]; exact hcl.out; exact Nat.zero_le _)
  go_wp2_with fail
  refine (rtrans_any hM (by omega) (by have := hcl.out; omega)).mono ?_
  rintro e y2 ⟨A5, c5, r5, rfl, h5, q5, by2⟩
  replace hM := hM.below by2
  replace bT := bT.trans (by2.mono bT.size)
  have hl5 := Lib.hid (show r5.length ≤ 6 by rw [← qsM_len, q5.out]; exact ht2.out)
  have hlr5 := h5.len
  go_wp2_with fail
  refine (rtrans_any h5 (by have := hl5.out; omega) (by rw [q5.out]; have := ht1.out; rw [qsM_len] at this; omega)).mono ?_
  rintro e y3 ⟨A6, c6, r6, rfl, h6, q6, by3⟩
  replace hM := hM.below by3
  replace h5 := h5.below by3
  replace bT := bT.trans (by3.mono bT.size)
  clear h5
  have hp1 := pivotS_any (x := a1) (y := a2) hM hfm'.out (by decide) (by omega) (by have := hcl.out; omega) hbx hby
  rw [hZ.out] at hp1
  go_wp2_with fail
  refine (hp1).mono ?_
  rintro e y4 ⟨A7, c7, r7, rfl, h7, q7, by4⟩
  replace hM := hM.below by4
  replace h6 := h6.below by4
  replace bT := bT.trans (by4.mono bT.size)
  clear hp1
  have hp2 := rpivot_any (x := a1) (y := a2) hM hfm'.out (by decide) (by omega) (by have := hcl.out; omega) hbx hby
  rw [hZ.out] at hp2
  go_wp2_with fail
  refine (hp2).mono ?_
  rintro e y5 ⟨A8, c8, r8, rfl, h8, q8, by5⟩
  replace hM := hM.below by5
  replace h6 := h6.below by5
  replace h7 := h7.below by5
  replace bT := bT.trans (by5.mono bT.size)
  clear hp2
  have e78 := Lib.hid (show decide (qsM r7 = qsM r8) = true by rw [q7.out, q8.out]; exact decide_eq_true rfl)
  have hs := sames17_any h7 h8
  rw [e78.out] at hs
  obtain ⟨zq, z⟩ := Z
  have hcs := pivS_cases (qsM rs0) a1 a2
  rw [hZ.out] at hcs
  have hzz : (z != z) = false := by simp
  go_wp2_with fail
  refine (hs).mono ?_
  rintro e y6 ⟨rfl, by6⟩
  replace hM := hM.below by6
  replace h6 := h6.below by6
  replace h7 := h7.below by6
  replace h8 := h8.below by6
  replace bT := bT.trans (by6.mono bT.size)
  clear hs
  rcases hcs with hz | ⟨hfo, p, j, hpx, hjy, hp, hj, hfn, hpz⟩
  · have hz0 : (z == 0) = false := by rw [beq_eq_false_iff_ne]; exact hz
    clear hz
    go_wp2_with fail
    refine (awake17_any _).mono ?_
    rintro e wz ⟨rfl, bz⟩
    go_wp2
    go_ret
    exact ⟨rfl, bT.trans (bz.mono bT.size)⟩
  have hz : z = 0 := by injection hpz
  have hzq := Lib.hid (show zq = pivL (qsM rs0) p j by injection hpz)
  clear hpz hpx hjy
  subst hz
  have hfo' := Lib.hid hfo
  have hfn' := Lib.hid hfn
  clear hfo hfn
  have hw6 := Lib.hid (show decide (qsM rs0 = qsM r6) = true by
    refine decide_eq_true ?_
    rw [q6.out, q5.out]
    have e1 : transS (qsM rs0) = transL (qsM rs0) := by unfold transS; rw [hfo'.out]; rfl
    have e2 : transS (transL (qsM rs0)) = transL (transL (qsM rs0)) := by unfold transS; rw [(rect_formed (transL_rect _) (by rw [transL_length]; omega)).1]; rfl
    rw [e1, e2, trans_trans hfo'.out (by omega) (by omega)])
  have hs := sames17_any hM h6
  rw [hw6.out] at hs
  go_wp2_with fail
  refine (hs).mono ?_
  rintro e y7 ⟨rfl, by7⟩
  replace hM := hM.below by7
  replace h6 := h6.below by7
  replace h7 := h7.below by7
  replace h8 := h8.below by7
  replace bT := bT.trans (by7.mono bT.size)
  clear hs
  have hr := Lib.hid (formedL_rect hfo'.out)
  have hpr := Lib.hid (rect_formed (pivL_rect (p := p) (c := j) hr.out hp) (by rw [pivL_length]; omega))
  have hq7 : Hid (qsM r7 = pivL (qsM rs0) p j) := by show _ = _; rw [← hzq.out]; exact q7.out
  obtain ⟨v, hv⟩ : ∃ v, Hid (rankS (qsM rs0) = v) := ⟨_, rfl⟩
  have hv7 := Lib.hid (show rankS (qsM r7) = v by
    rw [← hv.out, hq7.out]; unfold rankS; rw [hpr.out.1, hfo'.out, if_pos rfl, if_pos rfl, rank_piv hfo'.out hp hj hfn'.out])
  have hl7 := Lib.hid (show r7.length = rs0.length by rw [← qsM_len, hq7.out, pivL_length, qsM_len])
  have hlr7 := h7.len
  have hc1 := rank_any (K := 13) h7 (by rw [hq7.out]; exact pivL_fits (K := 3) hfm'.out hr.out hp hj) (by rw [hq7.out, hpr.out.2]; exact gK_small13 (by have := hcl.out; omega)) (by have := hl7.out; omega) (by rw [hq7.out, hpr.out.2]; have := hcl.out; omega)
  rw [hv7.out] at hc1
  go_wp2_with fail
  refine (hc1).mono ?_
  rintro e y8 ⟨rfl, by8⟩
  replace hM := hM.below by8
  replace h6 := h6.below by8
  replace h7 := h7.below by8
  replace h8 := h8.below by8
  replace bT := bT.trans (by8.mono bT.size)
  clear hc1
  have hc2 := rank_any hM hfm'.out (gK_small (by have := hcl.out; omega)) (by omega) (by have := hcl.out; omega)
  rw [hv.out] at hc2
  have hvv : ((v : Int) != (v : Int)) = false := by simp
  go_wp2_with fail
  refine (hc2).mono ?_
  rintro e y9 ⟨rfl, by9⟩
  replace hM := hM.below by9
  replace h6 := h6.below by9
  replace h7 := h7.below by9
  replace h8 := h8.below by9
  replace bT := bT.trans (by9.mono bT.size)
  clear hc2
  go_wp2_with fail
  refine (awake17_any _).mono ?_
  rintro e wz ⟨rfl, bz⟩
  go_wp2
  go_ret
  exact ⟨rfl, bT.trans (bz.mono bT.size)⟩

/-! ### THE ROW's STEP: WRITTEN OUT: LEAVE IT -/
set_option maxRecDepth 100000 in
theorem lifted (os : Os) (started : os.Started) (H : Type) (enc : TypeId × Value → H) :
    ReturnsInHanded {} Try.checked os 4 .any (Rows.matrixPivotsSpec.pre6 enc Try.prog Try.f4 Rows.matrixPivotsRow.domain false) (Rows.matrixPivotsSpec.post enc Try.prog Try.f4 false true false false) := by
  refine returnsInHanded_of_change (C := Try.checked) own started (by kernel_rfl) Try.func4
    (ChangeSpec.witness6 (enc := enc) (C := Try.checked) false ⟨#[], #[.slice none 0 0, .int .i64 0, .int .i64 0], []⟩ 8 (by kernel_rfl) (by kernel_rfl) (by kernel_rfl) (by kernel_rfl)) ?_
  intro W base args ds gs before hval0 hW hcnd _
  have hval : ∀ (j : Nat) t v, Try.f4.params[j]? = some t → args[j]? = some v → Value.okWide Try.prog W .any base t v := hval0
  have hW' := hW
  obtain ⟨p, q, hA0, hV, rfl, hfz, hnd⟩ := hW
  have hA : DataW.TrodAll enc Try.prog W 0 (fun _ => true) true Try.f4.params.toList args.toList ds p := hA0
  rw [Try.params4] at hA hval
  obtain ⟨v0, vs0, d0, ds0, p0, q0, hargs, rfl, rfl, h0, r0⟩ := trodAll_cons hA
  obtain ⟨v1, vs1, d1, ds1, p1, q1, rfl, rfl, rfl, h1, r1⟩ := trodAll_cons r0
  obtain ⟨v2, vs2, d2, ds2, p2, q2, rfl, rfl, rfl, h2, r2⟩ := trodAll_cons r1
  obtain ⟨rfl, rfl, rfl⟩ := trodAll_nil r2
  obtain rfl : args = #[v0, v1, v2] := by cases args; simp_all
  obtain ⟨rfl, rfl⟩ := trodVars_none hV
  have k0 := h0
  have lt0 : ∀ x ∈ p0, x.block < W.heap.size := by obtain ⟨m, hm⟩ := k0; exact DataW.trod_lt m _ _ _ hm
  obtain ⟨A0, c0, rs0, rfl, w0⟩ := open_matrix (hval 0 22 v0 rfl rfl) h0
  obtain ⟨a1, rfl, rfl, rfl, w1⟩ := open_int Try.underlying3 (hval 1 3 v1 rfl rfl) h1
  obtain ⟨a2, rfl, rfl, rfl, w2⟩ := open_int Try.underlying3 (hval 2 3 v2 rfl rfl) h2
  clear hA0 hval0
  refine (walk A0 c0 rs0 a1 a2 W w0 w1 w2).mono fun e W' ⟨he, bel⟩ => ?_
  subst he
  exact ⟨_, rfl, _, _, _, [], _, [], hW', trodAll_mk1 (shut_bool Try.underlying4 _), (trodAll_cons_mk (Below.trod laidOut (by kernel_rfl) (of_decide_eq_true (by kernel_rfl)) k0 bel lt0) (trodAll_cons_mk (shut_int Try.underlying3 w1) (trodAll_cons_mk (shut_int Try.underlying3 w2) trodAll_mk0))), rfl, bel.frame _, fun h => by cases h⟩

theorem over : Rows.matrixPivotsRow.holds Try.pinned (OpenSpec.ofChange Rows.matrixPivotsSpec) :=
  OpenClaim.holds_of_wide 4 Try.f4 rfl rfl rfl rfl rfl rfl rfl ⟨rfl, rfl, rfl, rfl, rfl⟩ rfl rfl rfl rfl rfl (by kernel_rfl) Try.func4 (by kernel_rfl)
    (of_decide_eq_true (by kernel_rfl)) (by unfold Func.isWrapper; first | (rw [if_pos (by decide +kernel)]; kernel_rfl) | (rw [if_neg (by decide +kernel)]; exact ⟨rfl, rfl⟩))
    (fun os started H enc _ => lifted os started H enc)

/-- ████ THE STATEMENT ████ -/
theorem proved : Rows.MatrixPivotsSaid := over
#print axioms proved
end Go.Proofs.Ytkjmliebkbbogaa.matrixPivots
