/- The statement LpcheckFeasible of the given program: the law returns true for every input, and writes nothing that was there. The walk is proved over the contracts of the functions it calls. -/
import Derived.Test.YtlocaleiloiaoaaRows
import Derived.Test.YtlocaleiloiaoaaPOpenS
import Derived.Test.YtlocaleiloiaoaaPAwake
import Derived.Test.YtlocaleiloiaoaaPCheck
import Derived.Test.YtlocaleiloiaoaaPRFeas
import Derived.Test.YtlocaleiloiaoaaPValue
import Derived.WalkKit
import Derived.ProofKit
import Derived.OpenShut
import Derived.ShutString
import Derived.ChangeOld
import Derived.Below
namespace Go.Proofs.Ytlocaleiloiaoaa.lpcheckFeasible
open Go.ChangeShapes Go.WideShapes Go.ChangeAt Go.RowKit
open Plain
open Go.ChangeMaps (open_string shut_string)
set_option linter.unusedVariables false
set_option linter.unusedSimpArgs false

theorem own : ownKnob Try.prog.godebug = none := by kernel_rfl
theorem laidOut : laidOutB Try.prog = true := by kernel_rfl

set_option maxRecDepth 100000 in
set_option maxHeartbeats 2000000 in
theorem walk (p0 : PrD) (A1 : Option Addr) (c1 : Nat) (ds1 : List FrD) (w : World) (w0 : p0.ok w) (w1 : Srow w 3 FrD.cells A1 c1 ds1) (x1 : ∀ f ∈ ds1, f.ok w) :
    Calls Try.prog 5 #[p0.v, .slice A1 ds1.length c1] w fun e w' => e = .returned (.bool true) ∧ Below w.heap.size w w' := by
  have bT := Below.refl w.heap.size w
  obtain ⟨hp⟩ : PLift (p0.ok w) := ⟨w0⟩
  clear w0
  obtain ⟨hl1⟩ : PLift (FOk w A1 c1 ds1) := ⟨⟨w1, x1⟩⟩
  clear w1 x1
  obtain ⟨y1, hy1, by1, ly1, By1⟩ := boxed w #[.slice p0.ga p0.gs.length p0.gc, .slice p0.ra p0.rs.length p0.rc] 25
  replace hp := hp.below by1
  replace hl1 := hl1.below by1
  replace bT := bT.trans (by1.mono bT.size)
  have BP := By1
  clear By1
  have hlg := hp.1.1
  have hlg2 := hp.1.2.1
  have hlr := hp.2.2.1.1
  have hlr2 := hp.2.2.1.2.1
  have z0 := BP.g0
  have z1 := BP.g1
  go_enter Try.func5, Try.ntmps5
  go_wp2_with fail
  refine (few19_any hp.1 hp.2.2.1 fun r hr => (hp.2.2.2 r hr).1).mono ?_
  rintro e y2 ⟨rfl, by2⟩
  replace hp := hp.below by2
  replace hl1 := hl1.below by2
  replace BP := BP.keep by2
  replace bT := bT.trans (by2.mono bT.size)
  clear z0 z1
  have z0 := BP.g0
  have z1 := BP.g1
  rcases hfew : fewB p0.gs p0.rs with _ | _
  · go_wp2_with fail
    refine (awake19_any _).mono ?_
    rintro e wz ⟨rfl, bz⟩
    go_wp2
    go_ret
    exact ⟨rfl, bT.trans (bz.mono bT.size)⟩
  go_wp2_with fail
  refine (short19_any hl1.1).mono ?_
  rintro e y3 ⟨rfl, by3⟩
  replace hp := hp.below by3
  replace hl1 := hl1.below by3
  replace BP := BP.keep by3
  replace bT := bT.trans (by3.mono bT.size)
  clear z0 z1
  have z0 := BP.g0
  have z1 := BP.g1
  rcases hsh1 : shortB ds1 with _ | _
  · go_wp2_with fail
    refine (awake19_any _).mono ?_
    rintro e wz ⟨rfl, bz⟩
    go_wp2
    go_ret
    exact ⟨rfl, bT.trans (bz.mono bT.size)⟩
  obtain ⟨Lg, Rr, l8g, l8r⟩ := few_ld hp hfew
  clear hp
  obtain ⟨L1, l12_1⟩ := hl1.ld hsh1
  clear hl1 hsh1
  obtain ⟨b, hb⟩ : ∃ b, Hid (feaB p0.gs p0.rs ds1 = b) := ⟨_, rfl⟩
  clear hfew
  rcases b with _ | _
  all_goals
    have hS : ∀ w', Below y3.heap.size y3 w' → w'.cell? ⟨w.heap.size, 0, none⟩ = some (.slice p0.ga p0.gs.length p0.gc) ∧ w'.cell? ⟨w.heap.size, 1, none⟩ = some (.slice p0.ra p0.rs.length p0.rc) ∧ Below y3.heap.size y3 w' := by
      intro w' o
      have hPw := BP.keep o
      exact ⟨hPw.g0, hPw.g1, o⟩
    have bo : Below y3.heap.size y3 y3 := Below.refl _ _
    have dS : Below y3.heap.size y3 y3.drew := (Below.refl _ _).drew
    go_wp2_with fail
    refine wp_region_noPanic ?_
    refine wp_region_held_drew (S := fun w' => w'.cell? ⟨w.heap.size, 0, none⟩ = some (.slice p0.ga p0.gs.length p0.gc) ∧ w'.cell? ⟨w.heap.size, 1, none⟩ = some (.slice p0.ra p0.rs.length p0.rc) ∧ Below y3.heap.size y3 w') (by kernel_rfl) (hS _ dS) (fun hHeld => ?_)
    refine wpAnyH_take (i := 0) (v := ?_) rfl (by kernel_rfl) (by kernel_rfl) (by kernel_rfl) (fun _ _ _ h => h) (Or.inl ⟨by rfl, ?_⟩) hHeld ?_
    rotate_left
    · (intro w hSw; (try dsimp only at hSw); go_simp)
      all_goals with_reducible rfl
    try simp only [Act.put, List.getElem_toArray, List.getElem_cons_succ, List.getElem_cons_zero, List.setIfInBounds_toArray, List.set_cons_zero, List.set_cons_succ]
    refine wpAnyH_take (i := 1) (v := ?_) rfl (by kernel_rfl) (by kernel_rfl) (by kernel_rfl) (fun _ _ _ h => h) (Or.inl ⟨by rfl, ?_⟩) hHeld ?_
    rotate_left
    · (intro w hSw; (try dsimp only at hSw); go_simp)
      all_goals with_reducible rfl
    try simp only [Act.put, List.getElem_toArray, List.getElem_cons_succ, List.getElem_cons_zero, List.setIfInBounds_toArray, List.set_cons_zero, List.set_cons_succ]
    refine wpAnyH_take (i := 3) (v := ?_) rfl (by kernel_rfl) (by kernel_rfl) (by kernel_rfl) (fun _ _ _ h => h) (Or.inl ⟨by rfl, ?_⟩) hHeld ?_
    rotate_left
    · (intro w hSw; (try dsimp only at hSw); go_simp)
      all_goals with_reducible rfl
    try simp only [Act.put, List.getElem_toArray, List.getElem_cons_succ, List.getElem_cons_zero, List.setIfInBounds_toArray, List.set_cons_zero, List.set_cons_succ]
    refine wpAnyH_take (i := 4) (v := ?_) rfl (by kernel_rfl) (by kernel_rfl) (by kernel_rfl) (fun _ _ _ h => h) (Or.inl ⟨by rfl, ?_⟩) hHeld ?_
    rotate_left
    · (intro w hSw; (try dsimp only at hSw); go_simp)
      all_goals with_reducible rfl
    try simp only [Act.put, List.getElem_toArray, List.getElem_cons_succ, List.getElem_cons_zero, List.setIfInBounds_toArray, List.set_cons_zero, List.set_cons_succ]
    refine wpAnyH_ready (rs := [2]) (by kernel_rfl) (by simp) ?_
    refine AllReadyH.cons rfl (fun K hK => ?_) AllReadyH.nil
    go_simp
    have dw3 : Below y3.heap.size y3 y3.drew := (Below.refl _ _).drew
    replace BP := BP.keep dw3
    replace Lg := Lg.below dw3
    replace Rr := Rr.below dw3
    replace L1 := L1.below dw3
    replace bT := bT.trans (dw3.mono bT.size)
    replace bo := bo.trans (dw3.mono bo.size)
    go_at_call 19
    refine (feasible_any Lg Rr L1 (by omega)).mono ?_
    rintro e y4 ⟨rfl, by4⟩
    replace BP := BP.keep by4
    replace Lg := Lg.below by4
    replace Rr := Rr.below by4
    replace L1 := L1.below by4
    replace bT := bT.trans (by4.mono bT.size)
    replace bo := bo.trans (by4.mono bo.size)
    rw [hb.out]
    go_wp2_with fail
    refine hK.out _ _ (hS _ bo) (fun hHeld => ?_)
    clear hK K
    try simp only [Act.put, List.getElem_toArray, List.getElem_cons_succ, List.getElem_cons_zero, List.setIfInBounds_toArray, List.set_cons_zero, List.set_cons_succ]
    refine wpAnyH_ready (rs := [5]) (by kernel_rfl) (by simp) ?_
    refine AllReadyH.cons rfl (fun K hK => ?_) AllReadyH.nil
    go_simp
    go_at_call 12
    refine (refFeasible_any Lg Rr L1 (by omega)).mono ?_
    rintro e y5 ⟨rfl, by5⟩
    replace BP := BP.keep by5
    replace Lg := Lg.below by5
    replace Rr := Rr.below by5
    replace L1 := L1.below by5
    replace bT := bT.trans (by5.mono bT.size)
    replace bo := bo.trans (by5.mono bo.size)
    rw [hb.out]
    go_wp2_with fail
    refine hK.out _ _ (hS _ bo) (fun hHeld => ?_)
    clear hK K
    try simp only [Act.put, List.getElem_toArray, List.getElem_cons_succ, List.getElem_cons_zero, List.setIfInBounds_toArray, List.set_cons_zero, List.set_cons_succ]
    refine wpAnyH_take (i := 6) (v := ?_) rfl (by kernel_rfl) (by kernel_rfl) (by kernel_rfl) (fun _ _ _ h => h) (Or.inl ⟨by rfl, ?_⟩) hHeld ?_
    rotate_left
    · (intro w hSw; (try dsimp only at hSw); go_simp)
      all_goals with_reducible rfl
    try simp only [Act.put, List.getElem_toArray, List.getElem_cons_succ, List.getElem_cons_zero, List.setIfInBounds_toArray, List.set_cons_zero, List.set_cons_succ]
    refine wpAnyH_take (i := 7) (v := ?_) rfl (by kernel_rfl) (by kernel_rfl) (by kernel_rfl) (fun _ _ _ h => h) (Or.inl ⟨by rfl, ?_⟩) hHeld ?_
    rotate_left
    · (intro w hSw; (try dsimp only at hSw); go_simp)
      all_goals with_reducible rfl
    try simp only [Act.put, List.getElem_toArray, List.getElem_cons_succ, List.getElem_cons_zero, List.setIfInBounds_toArray, List.set_cons_zero, List.set_cons_succ]
    refine wpAnyH_ready (rs := [8]) (by kernel_rfl) (by simp) ?_
    refine AllReadyH.cons rfl (fun K hK => ?_) AllReadyH.nil
    go_simp
    go_at_call 11
    refine (awake19_any _).mono ?_
    rintro e y6 ⟨rfl, by6⟩
    replace BP := BP.keep by6
    replace Lg := Lg.below by6
    replace Rr := Rr.below by6
    replace L1 := L1.below by6
    replace bT := bT.trans (by6.mono bT.size)
    replace bo := bo.trans (by6.mono bo.size)
    go_wp2_with fail
    refine hK.out _ _ (hS _ bo) (fun hHeld => ?_)
    clear hK K
    try simp only [Act.put, List.getElem_toArray, List.getElem_cons_succ, List.getElem_cons_zero, List.setIfInBounds_toArray, List.set_cons_zero, List.set_cons_succ]
    refine wpAnyH_take (i := 9) (v := ?_) rfl (by kernel_rfl) (by kernel_rfl) (by kernel_rfl) (fun _ _ _ h => h) (Or.inl ⟨by rfl, ?_⟩) hHeld ?_
    rotate_left
    · (intro w hSw; (try dsimp only at hSw); go_simp)
      all_goals with_reducible rfl
    try simp only [Act.put, List.getElem_toArray, List.getElem_cons_succ, List.getElem_cons_zero, List.setIfInBounds_toArray, List.set_cons_zero, List.set_cons_succ]
    refine wpAnyH_take (i := 10) (v := ?_) rfl (by kernel_rfl) (by kernel_rfl) (by kernel_rfl) (fun _ _ _ h => h) (Or.inl ⟨by rfl, ?_⟩) hHeld ?_
    rotate_left
    · (intro w hSw; (try dsimp only at hSw); go_simp)
      all_goals with_reducible rfl
    try simp only [Act.put, List.getElem_toArray, List.getElem_cons_succ, List.getElem_cons_zero, List.setIfInBounds_toArray, List.set_cons_zero, List.set_cons_succ]
    refine wpAnyH_done (by kernel_rfl) ?_ _
    refine NoPanic.normal ?_
    try go_simp
    clear hHeld
    clear hS dS bo
    go_wp2
    go_ret
    exact ⟨rfl, bT⟩

/-! ### THE ROW's STEP: WRITTEN OUT: LEAVE IT -/
set_option maxRecDepth 100000 in
theorem lifted (os : Os) (started : os.Started) (H : Type) (enc : TypeId × Value → H) :
    ReturnsInHanded {} Try.checked os 5 .any (Rows.lpcheckFeasibleSpec.pre6 enc Try.prog Try.f5 Rows.lpcheckFeasibleRow.domain false) (Rows.lpcheckFeasibleSpec.post enc Try.prog Try.f5 false true false false) := by
  refine returnsInHanded_of_change (C := Try.checked) own started (by kernel_rfl) Try.func5
    (ChangeSpec.witness6 (enc := enc) (C := Try.checked) false ⟨#[], #[.agg #[.slice none 0 0, .slice none 0 0], .slice none 0 0], []⟩ 8 (by kernel_rfl) (by kernel_rfl) (by kernel_rfl) (by kernel_rfl)) ?_
  intro W base args ds gs before hval0 hW hcnd _
  have hval : ∀ (j : Nat) t v, Try.f5.params[j]? = some t → args[j]? = some v → Value.okWide Try.prog W .any base t v := hval0
  have hW' := hW
  obtain ⟨p, q, hA0, hV, rfl, hfz, hnd⟩ := hW
  have hA : DataW.TrodAll enc Try.prog W 0 (fun _ => true) true Try.f5.params.toList args.toList ds p := hA0
  rw [Try.params5] at hA hval
  obtain ⟨v0, vs0, d0, ds0, p0, q0, hargs, rfl, rfl, h0, r0⟩ := trodAll_cons hA
  obtain ⟨v1, vs1, d1, ds1, p1, q1, rfl, rfl, rfl, h1, r1⟩ := trodAll_cons r0
  obtain ⟨rfl, rfl, rfl⟩ := trodAll_nil r1
  obtain rfl : args = #[v0, v1] := by cases args; simp_all
  obtain ⟨rfl, rfl⟩ := trodVars_none hV
  have k0 := h0
  have lt0 : ∀ x ∈ p0, x.block < W.heap.size := by obtain ⟨m, hm⟩ := k0; exact DataW.trod_lt m _ _ _ hm
  obtain ⟨p0, rfl, w0⟩ := open_prog (hval 0 25 v0 rfl rfl) h0
  have k1 := h1
  have lt1 : ∀ x ∈ p1, x.block < W.heap.size := by obtain ⟨m, hm⟩ := k1; exact DataW.trod_lt m _ _ _ hm
  obtain ⟨A1, c1, ds1, rfl, w1, x1⟩ := open_fracs (hval 1 22 v1 rfl rfl) h1
  clear hA0 hval0
  refine (walk p0 A1 c1 ds1 W w0 w1 x1).mono fun e W' ⟨he, bel⟩ => ?_
  subst he
  exact ⟨_, rfl, _, _, _, [], _, [], hW', trodAll_mk1 (shut_bool Try.underlying4 _), (trodAll_cons_mk (Below.trod laidOut (by kernel_rfl) (of_decide_eq_true (by kernel_rfl)) k0 bel lt0) (trodAll_cons_mk (Below.trod laidOut (by kernel_rfl) (of_decide_eq_true (by kernel_rfl)) k1 bel lt1) trodAll_mk0)), rfl, bel.frame _, fun h => by cases h⟩

theorem over : Rows.lpcheckFeasibleRow.holds Try.pinned (OpenSpec.ofChange Rows.lpcheckFeasibleSpec) :=
  OpenClaim.holds_of_wide 5 Try.f5 rfl rfl rfl rfl rfl rfl rfl ⟨rfl, rfl, rfl, rfl, rfl⟩ rfl rfl rfl rfl rfl (by kernel_rfl) Try.func5 (by kernel_rfl)
    (of_decide_eq_true (by kernel_rfl)) (by unfold Func.isWrapper; first | (rw [if_pos (by decide +kernel)]; kernel_rfl) | (rw [if_neg (by decide +kernel)]; exact ⟨rfl, rfl⟩))
    (fun os started H enc _ => lifted os started H enc)

/-- ████ THE STATEMENT ████ -/
theorem proved : Rows.LpcheckFeasibleSaid := over
#print axioms proved
end Go.Proofs.Ytlocaleiloiaoaa.lpcheckFeasible
