/- The statement LpcheckWeak of the given program: the law returns true for every input, and writes nothing that was there. The walk is proved over the contracts of the functions it calls. -/
import Derived.Test.YtlocaleiloiaoaaRows
import Derived.Test.YtlocaleiloiaoaaPOpenS
import Derived.Test.YtlocaleiloiaoaaPAwake
import Derived.Test.YtlocaleiloiaoaaPCheck
import Derived.Test.YtlocaleiloiaoaaPGap
import Derived.Test.YtlocaleiloiaoaaPRBound
import Derived.Test.YtlocaleiloiaoaaPRFeas
import Derived.Test.YtlocaleiloiaoaaPWeak
import Derived.WalkKit
import Derived.ProofKit
import Derived.OpenShut
import Derived.ShutString
import Derived.ChangeOld
import Derived.Below
namespace Go.Proofs.Ytlocaleiloiaoaa.lpcheckWeak
open Go.ChangeShapes Go.WideShapes Go.ChangeAt Go.RowKit
open Plain
open Go.ChangeMaps (open_string shut_string)
set_option linter.unusedVariables false
set_option linter.unusedSimpArgs false

theorem own : ownKnob Try.prog.godebug = none := by kernel_rfl
theorem laidOut : laidOutB Try.prog = true := by kernel_rfl

set_option maxRecDepth 100000 in
set_option maxHeartbeats 2000000 in
theorem walk (p0 : PrD) (A1 : Option Addr) (c1 : Nat) (ds1 : List FrD) (A2 : Option Addr) (c2 : Nat) (ds2 : List FrD) (w : World) (w0 : p0.ok w) (w1 : Srow w 3 FrD.cells A1 c1 ds1) (x1 : ∀ f ∈ ds1, f.ok w) (w2 : Srow w 3 FrD.cells A2 c2 ds2) (x2 : ∀ f ∈ ds2, f.ok w) :
    Calls Try.prog 7 #[p0.v, .slice A1 ds1.length c1, .slice A2 ds2.length c2] w fun e w' => e = .returned (.bool true) ∧ Below w.heap.size w w' := by
  have bT := Below.refl w.heap.size w
  obtain ⟨hp⟩ : PLift (p0.ok w) := ⟨w0⟩
  clear w0
  obtain ⟨hl1⟩ : PLift (FOk w A1 c1 ds1) := ⟨⟨w1, x1⟩⟩
  clear w1 x1
  obtain ⟨hl2⟩ : PLift (FOk w A2 c2 ds2) := ⟨⟨w2, x2⟩⟩
  clear w2 x2
  obtain ⟨y1, hy1, by1, ly1, By1⟩ := boxed w #[.slice p0.ga p0.gs.length p0.gc, .slice p0.ra p0.rs.length p0.rc] 25
  replace hp := hp.below by1
  replace hl1 := hl1.below by1
  replace hl2 := hl2.below by1
  replace bT := bT.trans (by1.mono bT.size)
  have BP := By1
  clear By1
  have hlg := hp.1.1
  have hlg2 := hp.1.2.1
  have hlr := hp.2.2.1.1
  have hlr2 := hp.2.2.1.2.1
  have z0 := BP.g0
  have z1 := BP.g1
  go_enter Try.func7, Try.ntmps7
  go_wp2_with fail
  refine (few19_any hp.1 hp.2.2.1 fun r hr => (hp.2.2.2 r hr).1).mono ?_
  rintro e y2 ⟨rfl, by2⟩
  replace hp := hp.below by2
  replace hl1 := hl1.below by2
  replace hl2 := hl2.below by2
  replace BP := BP.keep by2
  replace bT := bT.trans (by2.mono bT.size)
  clear z0 z1
  have z0 := BP.g0
  have z1 := BP.g1
  rcases hfew : fewB p0.gs p0.rs with _ | _
  · go_wp2_with fail
    refine (awake19_any _).mono ?_
    rintro e wz ⟨rfl, bz⟩
    go_wp2
    go_ret
    exact ⟨rfl, bT.trans (bz.mono bT.size)⟩
  go_wp2_with fail
  refine (short19_any hl1.1).mono ?_
  rintro e y3 ⟨rfl, by3⟩
  replace hp := hp.below by3
  replace hl1 := hl1.below by3
  replace hl2 := hl2.below by3
  replace BP := BP.keep by3
  replace bT := bT.trans (by3.mono bT.size)
  clear z0 z1
  have z0 := BP.g0
  have z1 := BP.g1
  rcases hsh1 : shortB ds1 with _ | _
  · go_wp2_with fail
    refine (awake19_any _).mono ?_
    rintro e wz ⟨rfl, bz⟩
    go_wp2
    go_ret
    exact ⟨rfl, bT.trans (bz.mono bT.size)⟩
  go_wp2_with fail
  refine (short19_any hl2.1).mono ?_
  rintro e y4 ⟨rfl, by4⟩
  replace hp := hp.below by4
  replace hl1 := hl1.below by4
  replace hl2 := hl2.below by4
  replace BP := BP.keep by4
  replace bT := bT.trans (by4.mono bT.size)
  clear z0 z1
  have z0 := BP.g0
  have z1 := BP.g1
  rcases hsh2 : shortB ds2 with _ | _
  · go_wp2_with fail
    refine (awake19_any _).mono ?_
    rintro e wz ⟨rfl, bz⟩
    go_wp2
    go_ret
    exact ⟨rfl, bT.trans (bz.mono bT.size)⟩
  obtain ⟨Lg, Rr, l8g, l8r⟩ := few_ld hp hfew
  clear hp
  obtain ⟨L1, l12_1⟩ := hl1.ld hsh1
  clear hl1 hsh1
  obtain ⟨L2, l12_2⟩ := hl2.ld hsh2
  clear hl2 hsh2
  go_wp2_with fail
  refine (refFormed_any Lg Rr (by omega)).mono ?_
  rintro e y5 ⟨rfl, by5⟩
  replace BP := BP.keep by5
  replace Lg := Lg.below by5
  replace Rr := Rr.below by5
  replace L1 := L1.below by5
  replace L2 := L2.below by5
  replace bT := bT.trans (by5.mono bT.size)
  clear z0 z1
  have z0 := BP.g0
  have z1 := BP.g1
  rcases hfm : (rowsB p0.gs.length p0.rs && whB p0.gs) with _ | _
  · go_wp2_with fail
    refine (awake19_any _).mono ?_
    rintro e wz ⟨rfl, bz⟩
    go_wp2
    go_ret
    exact ⟨rfl, bT.trans (bz.mono bT.size)⟩
  go_wp2_with fail
  refine (whole_any L1 (by omega)).mono ?_
  rintro e y6 ⟨rfl, by6⟩
  replace BP := BP.keep by6
  replace Lg := Lg.below by6
  replace Rr := Rr.below by6
  replace L1 := L1.below by6
  replace L2 := L2.below by6
  replace bT := bT.trans (by6.mono bT.size)
  clear z0 z1
  have z0 := BP.g0
  have z1 := BP.g1
  rcases hw1 : whB ds1 with _ | _
  · go_wp2_with fail
    refine (awake19_any _).mono ?_
    rintro e wz ⟨rfl, bz⟩
    go_wp2
    go_ret
    exact ⟨rfl, bT.trans (bz.mono bT.size)⟩
  go_wp2_with fail
  refine (whole_any L2 (by omega)).mono ?_
  rintro e y7 ⟨rfl, by7⟩
  replace BP := BP.keep by7
  replace Lg := Lg.below by7
  replace Rr := Rr.below by7
  replace L1 := L1.below by7
  replace L2 := L2.below by7
  replace bT := bT.trans (by7.mono bT.size)
  clear z0 z1
  have z0 := BP.g0
  have z1 := BP.g1
  rcases hw2 : whB ds2 with _ | _
  · go_wp2_with fail
    refine (awake19_any _).mono ?_
    rintro e wz ⟨rfl, bz⟩
    go_wp2
    go_ret
    exact ⟨rfl, bT.trans (bz.mono bT.size)⟩
  have hrw := Lib.hid (show rowsB p0.gs.length p0.rs = true by rw [Bool.and_eq_true] at hfm; exact hfm.1)
  have hwg := Lib.hid (show whB p0.gs = true by rw [Bool.and_eq_true] at hfm; exact hfm.2)
  have FL1 := (L1.fl hw1).1
  have FL2 := (L2.fl hw2).1
  have FLg := (Lg.fl hwg.out).1
  have fx := Lib.hid (L1.fl hw1).2
  have fy := Lib.hid (L2.fl hw2).2
  have fg := Lib.hid (Lg.fl hwg.out).2
  clear hfew hfm hw1 hw2
  obtain ⟨q, hq⟩ : ∃ q, Hid (sumR (bnds p0.rs ds2) - sumR (prods p0.gs ds1) = q) := ⟨_, rfl⟩
  obtain ⟨u, hu⟩ : ∃ u, Hid (sumR (prods p0.gs ds1) = u) := ⟨_, rfl⟩
  go_wp2_with fail
  refine (gap_any Lg Rr hwg.out hrw.out FL1 FL2 fx.out fy.out (by omega)).mono ?_
  rintro e y8 ⟨v1, rfl, fv1, by8⟩
  replace BP := BP.keep by8
  replace Lg := Lg.below by8
  replace Rr := Rr.below by8
  replace L1 := L1.below by8
  replace L2 := L2.below by8
  replace FL1 := FL1.below by8
  replace FL2 := FL2.below by8
  replace FLg := FLg.below by8
  replace bT := bT.trans (by8.mono bT.size)
  clear z0 z1
  have z0 := BP.g0
  have z1 := BP.g1
  rw [hq.out] at fv1
  obtain ⟨n1, X1, a1, l1, Y1, e1, m1, rfl, -, -, -⟩ := id fv1
  obtain ⟨y9, hy9, by9, ly9, By9⟩ := boxed y8 #[.bool n1, .slice X1 l1.length a1, .slice Y1 m1.length e1] 29
  replace BP := BP.keep by9
  replace Lg := Lg.below by9
  replace Rr := Rr.below by9
  replace L1 := L1.below by9
  replace L2 := L2.below by9
  replace FL1 := FL1.below by9
  replace FL2 := FL2.below by9
  replace FLg := FLg.below by9
  replace fv1 := fv1.below by9
  replace bT := bT.trans (by9.mono bT.size)
  have BA := By9
  clear By9
  clear z0 z1
  have z0 := BP.g0
  have z1 := BP.g1
  have hS : ∀ w', Below y9.heap.size y9 w' → w'.cell? ⟨w.heap.size, 0, none⟩ = some (.slice p0.ga p0.gs.length p0.gc) ∧ w'.cell? ⟨w.heap.size, 1, none⟩ = some (.slice p0.ra p0.rs.length p0.rc) ∧ w'.cell? ⟨y8.heap.size, 0, none⟩ = some (.bool n1) ∧ w'.cell? ⟨y8.heap.size, 1, none⟩ = some (.slice X1 l1.length a1) ∧ w'.cell? ⟨y8.heap.size, 2, none⟩ = some (.slice Y1 m1.length e1) ∧ Below y9.heap.size y9 w' := by
    intro w' o
    have hPw := BP.keep o
    have hAw := BA.keep o
    exact ⟨hPw.g0, hPw.g1, hAw.f0, hAw.f1, hAw.f2, o⟩
  have bo : Below y9.heap.size y9 y9 := Below.refl _ _
  have dS : Below y9.heap.size y9 y9.drew := bo.drew
  go_wp2_with fail
  refine wp_region_noPanic ?_
  refine wp_region_held_drew (S := fun w' => w'.cell? ⟨w.heap.size, 0, none⟩ = some (.slice p0.ga p0.gs.length p0.gc) ∧ w'.cell? ⟨w.heap.size, 1, none⟩ = some (.slice p0.ra p0.rs.length p0.rc) ∧ w'.cell? ⟨y8.heap.size, 0, none⟩ = some (.bool n1) ∧ w'.cell? ⟨y8.heap.size, 1, none⟩ = some (.slice X1 l1.length a1) ∧ w'.cell? ⟨y8.heap.size, 2, none⟩ = some (.slice Y1 m1.length e1) ∧ Below y9.heap.size y9 w') (by kernel_rfl) (hS _ dS) (fun hHeld => ?_)
  refine wpAnyH_take (i := 0) (v := ?_) rfl (by kernel_rfl) (by kernel_rfl) (by kernel_rfl) (fun _ _ _ h => h) (Or.inl ⟨by rfl, ?_⟩) hHeld ?_
  rotate_left
  · (intro w hSw; (try dsimp only at hSw); go_simp)
    all_goals with_reducible rfl
  try simp only [Act.put, List.getElem_toArray, List.getElem_cons_succ, List.getElem_cons_zero, List.setIfInBounds_toArray, List.set_cons_zero, List.set_cons_succ]
  refine wpAnyH_take (i := 1) (v := ?_) rfl (by kernel_rfl) (by kernel_rfl) (by kernel_rfl) (fun _ _ _ h => h) (Or.inl ⟨by rfl, ?_⟩) hHeld ?_
  rotate_left
  · (intro w hSw; (try dsimp only at hSw); go_simp)
    all_goals with_reducible rfl
  try simp only [Act.put, List.getElem_toArray, List.getElem_cons_succ, List.getElem_cons_zero, List.setIfInBounds_toArray, List.set_cons_zero, List.set_cons_succ]
  refine wpAnyH_take (i := 2) (v := ?_) rfl (by kernel_rfl) (by kernel_rfl) (by kernel_rfl) (fun _ _ _ h => h) (Or.inl ⟨by rfl, ?_⟩) hHeld ?_
  rotate_left
  · (intro w hSw; (try dsimp only at hSw); go_simp)
    all_goals with_reducible rfl
  try simp only [Act.put, List.getElem_toArray, List.getElem_cons_succ, List.getElem_cons_zero, List.setIfInBounds_toArray, List.set_cons_zero, List.set_cons_succ]
  refine wpAnyH_take (i := 3) (v := ?_) rfl (by kernel_rfl) (by kernel_rfl) (by kernel_rfl) (fun _ _ _ h => h) (Or.inl ⟨by rfl, ?_⟩) hHeld ?_
  rotate_left
  · (intro w hSw; (try dsimp only at hSw); go_simp)
    all_goals with_reducible rfl
  try simp only [Act.put, List.getElem_toArray, List.getElem_cons_succ, List.getElem_cons_zero, List.setIfInBounds_toArray, List.set_cons_zero, List.set_cons_succ]
  refine wpAnyH_ready (rs := [4]) (by kernel_rfl) (by simp) ?_
  refine AllReadyH.cons rfl (fun K hK => ?_) AllReadyH.nil
  go_simp
  have dw9 : Below y9.heap.size y9 y9.drew := (Below.refl _ _).drew
  replace BP := BP.keep dw9
  replace Lg := Lg.below dw9
  replace Rr := Rr.below dw9
  replace L1 := L1.below dw9
  replace L2 := L2.below dw9
  replace FL1 := FL1.below dw9
  replace FL2 := FL2.below dw9
  replace FLg := FLg.below dw9
  replace fv1 := fv1.below dw9
  replace BA := BA.keep dw9
  replace bT := bT.trans (dw9.mono bT.size)
  replace bo := bo.trans (dw9.mono bo.size)
  go_at_call 26
  refine (refGap_any Lg Rr hwg.out hrw.out FL1 FL2 fx.out fy.out (by omega)).mono ?_
  rintro e y10 ⟨v2, rfl, fv2, by10⟩
  replace BP := BP.keep by10
  replace Lg := Lg.below by10
  replace Rr := Rr.below by10
  replace L1 := L1.below by10
  replace L2 := L2.below by10
  replace FL1 := FL1.below by10
  replace FL2 := FL2.below by10
  replace FLg := FLg.below by10
  replace fv1 := fv1.below by10
  replace BA := BA.keep by10
  replace bT := bT.trans (by10.mono bT.size)
  replace bo := bo.trans (by10.mono bo.size)
  rw [hq.out] at fv2
  go_wp2_with fail
  refine hK.out _ _ (hS _ bo) (fun hHeld => ?_)
  clear hK K
  try simp only [Act.put, List.getElem_toArray, List.getElem_cons_succ, List.getElem_cons_zero, List.setIfInBounds_toArray, List.set_cons_zero, List.set_cons_succ]
  refine wpAnyH_ready (rs := [5]) (by kernel_rfl) (by simp) ?_
  refine AllReadyH.cons rfl (fun K hK => ?_) AllReadyH.nil
  go_simp
  go_at_call 22
  refine (sameFracQ_any fv1 fv2).mono ?_
  rintro e y11 ⟨rfl, by11⟩
  replace BP := BP.keep by11
  replace Lg := Lg.below by11
  replace Rr := Rr.below by11
  replace L1 := L1.below by11
  replace L2 := L2.below by11
  replace FL1 := FL1.below by11
  replace FL2 := FL2.below by11
  replace FLg := FLg.below by11
  replace fv1 := fv1.below by11
  replace BA := BA.keep by11
  replace fv2 := fv2.below by11
  replace bT := bT.trans (by11.mono bT.size)
  replace bo := bo.trans (by11.mono bo.size)
  rw [decide_eq_true (rfl : q = q)]
  clear fv2
  go_wp2_with fail
  refine hK.out _ _ (hS _ bo) (fun hHeld => ?_)
  clear hK K
  try simp only [Act.put, List.getElem_toArray, List.getElem_cons_succ, List.getElem_cons_zero, List.setIfInBounds_toArray, List.set_cons_zero, List.set_cons_succ]
  refine wpAnyH_take (i := 6) (v := ?_) rfl (by kernel_rfl) (by kernel_rfl) (by kernel_rfl) (fun _ _ _ h => h) (Or.inl ⟨by rfl, ?_⟩) hHeld ?_
  rotate_left
  · (intro w hSw; (try dsimp only at hSw); go_simp)
    all_goals with_reducible rfl
  try simp only [Act.put, List.getElem_toArray, List.getElem_cons_succ, List.getElem_cons_zero, List.setIfInBounds_toArray, List.set_cons_zero, List.set_cons_succ]
  refine wpAnyH_take (i := 7) (v := ?_) rfl (by kernel_rfl) (by kernel_rfl) (by kernel_rfl) (fun _ _ _ h => h) (Or.inl ⟨by rfl, ?_⟩) hHeld ?_
  rotate_left
  · (intro w hSw; (try dsimp only at hSw); go_simp)
    all_goals with_reducible rfl
  try simp only [Act.put, List.getElem_toArray, List.getElem_cons_succ, List.getElem_cons_zero, List.setIfInBounds_toArray, List.set_cons_zero, List.set_cons_succ]
  refine wpAnyH_take (i := 8) (v := ?_) rfl (by kernel_rfl) (by kernel_rfl) (by kernel_rfl) (fun _ _ _ h => h) (Or.inl ⟨by rfl, ?_⟩) hHeld ?_
  rotate_left
  · (intro w hSw; (try dsimp only at hSw); go_simp)
    all_goals with_reducible rfl
  try simp only [Act.put, List.getElem_toArray, List.getElem_cons_succ, List.getElem_cons_zero, List.setIfInBounds_toArray, List.set_cons_zero, List.set_cons_succ]
  refine wpAnyH_take (i := 9) (v := ?_) rfl (by kernel_rfl) (by kernel_rfl) (by kernel_rfl) (fun _ _ _ h => h) (Or.inl ⟨by rfl, ?_⟩) hHeld ?_
  rotate_left
  · (intro w hSw; (try dsimp only at hSw); go_simp)
    all_goals with_reducible rfl
  try simp only [Act.put, List.getElem_toArray, List.getElem_cons_succ, List.getElem_cons_zero, List.setIfInBounds_toArray, List.set_cons_zero, List.set_cons_succ]
  refine wpAnyH_take (i := 11) (v := ?_) rfl (by kernel_rfl) (by kernel_rfl) (by kernel_rfl) (fun _ _ _ h => h) (Or.inl ⟨by rfl, ?_⟩) hHeld ?_
  rotate_left
  · (intro w hSw; (try dsimp only at hSw); go_simp)
    all_goals with_reducible rfl
  try simp only [Act.put, List.getElem_toArray, List.getElem_cons_succ, List.getElem_cons_zero, List.setIfInBounds_toArray, List.set_cons_zero, List.set_cons_succ]
  refine wpAnyH_take (i := 12) (v := ?_) rfl (by kernel_rfl) (by kernel_rfl) (by kernel_rfl) (fun _ _ _ h => h) (Or.inl ⟨by rfl, ?_⟩) hHeld ?_
  rotate_left
  · (intro w hSw; (try dsimp only at hSw); go_simp)
    all_goals with_reducible rfl
  try simp only [Act.put, List.getElem_toArray, List.getElem_cons_succ, List.getElem_cons_zero, List.setIfInBounds_toArray, List.set_cons_zero, List.set_cons_succ]
  refine wpAnyH_ready (rs := [10]) (by kernel_rfl) (by simp) ?_
  refine AllReadyH.cons rfl (fun K hK => ?_) AllReadyH.nil
  go_simp
  go_at_call 27
  refine (value_any FLg FL1 fg.out fx.out (by omega)).mono ?_
  rintro e y12 ⟨v3, rfl, fv3, by12⟩
  replace BP := BP.keep by12
  replace Lg := Lg.below by12
  replace Rr := Rr.below by12
  replace L1 := L1.below by12
  replace L2 := L2.below by12
  replace FL1 := FL1.below by12
  replace FL2 := FL2.below by12
  replace FLg := FLg.below by12
  replace fv1 := fv1.below by12
  replace BA := BA.keep by12
  replace bT := bT.trans (by12.mono bT.size)
  replace bo := bo.trans (by12.mono bo.size)
  rw [hu.out] at fv3
  go_wp2_with fail
  refine hK.out _ _ (hS _ bo) (fun hHeld => ?_)
  clear hK K
  try simp only [Act.put, List.getElem_toArray, List.getElem_cons_succ, List.getElem_cons_zero, List.setIfInBounds_toArray, List.set_cons_zero, List.set_cons_succ]
  refine wpAnyH_ready (rs := [13]) (by kernel_rfl) (by simp) ?_
  refine AllReadyH.cons rfl (fun K hK => ?_) AllReadyH.nil
  go_simp
  go_at_call 14
  refine (refValue_any FLg FL1 fg.out fx.out (by omega)).mono ?_
  rintro e y13 ⟨v4, rfl, fv4, by13⟩
  replace BP := BP.keep by13
  replace Lg := Lg.below by13
  replace Rr := Rr.below by13
  replace L1 := L1.below by13
  replace L2 := L2.below by13
  replace FL1 := FL1.below by13
  replace FL2 := FL2.below by13
  replace FLg := FLg.below by13
  replace fv1 := fv1.below by13
  replace BA := BA.keep by13
  replace fv3 := fv3.below by13
  replace bT := bT.trans (by13.mono bT.size)
  replace bo := bo.trans (by13.mono bo.size)
  rw [hu.out] at fv4
  go_wp2_with fail
  refine hK.out _ _ (hS _ bo) (fun hHeld => ?_)
  clear hK K
  try simp only [Act.put, List.getElem_toArray, List.getElem_cons_succ, List.getElem_cons_zero, List.setIfInBounds_toArray, List.set_cons_zero, List.set_cons_succ]
  refine wpAnyH_ready (rs := [14]) (by kernel_rfl) (by simp) ?_
  refine AllReadyH.cons rfl (fun K hK => ?_) AllReadyH.nil
  go_simp
  go_at_call 22
  refine (sameFracQ_any fv3 fv4).mono ?_
  rintro e y14 ⟨rfl, by14⟩
  replace BP := BP.keep by14
  replace Lg := Lg.below by14
  replace Rr := Rr.below by14
  replace L1 := L1.below by14
  replace L2 := L2.below by14
  replace FL1 := FL1.below by14
  replace FL2 := FL2.below by14
  replace FLg := FLg.below by14
  replace fv1 := fv1.below by14
  replace BA := BA.keep by14
  replace fv3 := fv3.below by14
  replace fv4 := fv4.below by14
  replace bT := bT.trans (by14.mono bT.size)
  replace bo := bo.trans (by14.mono bo.size)
  rw [decide_eq_true (rfl : u = u)]
  clear fv3 fv4
  go_wp2_with fail
  refine hK.out _ _ (hS _ bo) (fun hHeld => ?_)
  clear hK K
  try simp only [Act.put, List.getElem_toArray, List.getElem_cons_succ, List.getElem_cons_zero, List.setIfInBounds_toArray, List.set_cons_zero, List.set_cons_succ]
  refine wpAnyH_take (i := 15) (v := ?_) rfl (by kernel_rfl) (by kernel_rfl) (by kernel_rfl) (fun _ _ _ h => h) (Or.inl ⟨by rfl, ?_⟩) hHeld ?_
  rotate_left
  · (intro w hSw; (try dsimp only at hSw); go_simp)
    all_goals with_reducible rfl
  try simp only [Act.put, List.getElem_toArray, List.getElem_cons_succ, List.getElem_cons_zero, List.setIfInBounds_toArray, List.set_cons_zero, List.set_cons_succ]
  refine wpAnyH_take (i := 16) (v := ?_) rfl (by kernel_rfl) (by kernel_rfl) (by kernel_rfl) (fun _ _ _ h => h) (Or.inl ⟨by rfl, ?_⟩) hHeld ?_
  rotate_left
  · (intro w hSw; (try dsimp only at hSw); go_simp)
    all_goals with_reducible rfl
  try simp only [Act.put, List.getElem_toArray, List.getElem_cons_succ, List.getElem_cons_zero, List.setIfInBounds_toArray, List.set_cons_zero, List.set_cons_succ]
  refine wpAnyH_done (by kernel_rfl) ?_ _
  refine NoPanic.normal ?_
  try go_simp
  clear hHeld
  clear hS dS bo
  clear z0 z1
  have z0 := BP.g0
  have z1 := BP.g1
  obtain ⟨b, hb⟩ : ∃ b, Hid (dualB p0.gs p0.rs ds2 = b) := ⟨_, rfl⟩
  rcases b with _ | _
  · go_wp2_with fail
    refine (refBound_any Lg Rr L2 (by omega)).mono ?_
    rintro e y15 ⟨v2, rfl, hT2, hF2, by15⟩
    replace BP := BP.keep by15
    replace Lg := Lg.below by15
    replace Rr := Rr.below by15
    replace L1 := L1.below by15
    replace L2 := L2.below by15
    replace FL1 := FL1.below by15
    replace FL2 := FL2.below by15
    replace FLg := FLg.below by15
    replace fv1 := fv1.below by15
    replace BA := BA.keep by15
    replace bT := bT.trans (by15.mono bT.size)
    clear z0 z1
    have z0 := BP.g0
    have z1 := BP.g1
    rw [hb.out] at hT2 hF2
    rw [hb.out]
    obtain rfl := hF2 rfl
    clear hT2 hF2
    obtain ⟨y16, hy16, by16, ly16, By16⟩ := boxed y15 #[.bool false, .slice none 0 0, .slice none 0 0] 29
    replace BP := BP.keep by16
    replace Lg := Lg.below by16
    replace Rr := Rr.below by16
    replace L1 := L1.below by16
    replace L2 := L2.below by16
    replace FL1 := FL1.below by16
    replace FL2 := FL2.below by16
    replace FLg := FLg.below by16
    replace fv1 := fv1.below by16
    replace BA := BA.keep by16
    replace bT := bT.trans (by16.mono bT.size)
    have BC := By16
    clear By16
    have sp0 := BC.f0
    have sp1 := BC.f1
    have sp2 := BC.f2
    have sq0 := BC.free 0
    have sq1 := BC.free 1
    have sq2 := BC.free 2
    have ss0 := BC.same (i := 0) (u := .bool false) rfl
    have ss1 := BC.same (i := 1) (u := .slice none 0 0) rfl
    have ss2 := BC.same (i := 2) (u := .slice none 0 0) rfl
    clear z0 z1
    have z0 := BP.g0
    have z1 := BP.g1
    go_wp2_with fail
    refine (awake19_any _).mono ?_
    rintro e y17 ⟨rfl, by17⟩
    replace BP := BP.keep by17
    replace Lg := Lg.below by17
    replace Rr := Rr.below by17
    replace L1 := L1.below by17
    replace L2 := L2.below by17
    replace FL1 := FL1.below by17
    replace FL2 := FL2.below by17
    replace FLg := FLg.below by17
    replace fv1 := fv1.below by17
    replace BA := BA.keep by17
    replace bT := bT.trans (by17.mono bT.size)
    go_wp2
    go_ret
    exact ⟨rfl, bT⟩
  · go_wp2_with fail
    refine (refBound_any Lg Rr L2 (by omega)).mono ?_
    rintro e y18 ⟨v2, rfl, hT2, hF2, by18⟩
    replace BP := BP.keep by18
    replace Lg := Lg.below by18
    replace Rr := Rr.below by18
    replace L1 := L1.below by18
    replace L2 := L2.below by18
    replace FL1 := FL1.below by18
    replace FL2 := FL2.below by18
    replace FLg := FLg.below by18
    replace fv1 := fv1.below by18
    replace BA := BA.keep by18
    replace bT := bT.trans (by18.mono bT.size)
    clear z0 z1
    have z0 := BP.g0
    have z1 := BP.g1
    rw [hb.out] at hT2 hF2
    rw [hb.out]
    have fv2 := hT2 rfl
    clear hT2 hF2
    obtain ⟨n2, X2, a2, l2, Y2, e2, m2, rfl, -, -, -⟩ := fv2
    obtain ⟨y19, hy19, by19, ly19, By19⟩ := boxed y18 #[.bool n2, .slice X2 l2.length a2, .slice Y2 m2.length e2] 29
    replace BP := BP.keep by19
    replace Lg := Lg.below by19
    replace Rr := Rr.below by19
    replace L1 := L1.below by19
    replace L2 := L2.below by19
    replace FL1 := FL1.below by19
    replace FL2 := FL2.below by19
    replace FLg := FLg.below by19
    replace fv1 := fv1.below by19
    replace BA := BA.keep by19
    replace bT := bT.trans (by19.mono bT.size)
    clear z0 z1
    have z0 := BP.g0
    have z1 := BP.g1
    go_wp2_with fail
    refine (refFeasible_any Lg Rr L1 (by omega)).mono ?_
    rintro e y20 ⟨rfl, by20⟩
    replace BP := BP.keep by20
    replace Lg := Lg.below by20
    replace Rr := Rr.below by20
    replace L1 := L1.below by20
    replace L2 := L2.below by20
    replace FL1 := FL1.below by20
    replace FL2 := FL2.below by20
    replace FLg := FLg.below by20
    replace fv1 := fv1.below by20
    replace BA := BA.keep by20
    replace bT := bT.trans (by20.mono bT.size)
    clear z0 z1
    have z0 := BP.g0
    have z1 := BP.g1
    rcases hfe : feaB p0.gs p0.rs ds1 with _ | _
    · go_wp2_with fail
      refine (awake19_any _).mono ?_
      rintro e wz ⟨rfl, bz⟩
      go_wp2
      go_ret
      exact ⟨rfl, bT.trans (bz.mono bT.size)⟩
    have hgs := gap_sign hfe hb.out
    rw [hq.out] at hgs
    obtain ⟨g, hg⟩ : ∃ g, Hid (cmpR q 0 = g) := ⟨_, rfl⟩
    rw [hg.out] at hgs
    clear hfe
    have a0 := BA.f0
    have a1_ := BA.f1
    have a2_ := BA.f2
    go_wp2_with fail
    refine (refSign_any fv1).mono ?_
    rintro e y21 ⟨rfl, by21⟩
    replace BP := BP.keep by21
    replace Lg := Lg.below by21
    replace Rr := Rr.below by21
    replace L1 := L1.below by21
    replace L2 := L2.below by21
    replace FL1 := FL1.below by21
    replace FL2 := FL2.below by21
    replace FLg := FLg.below by21
    replace fv1 := fv1.below by21
    replace BA := BA.keep by21
    replace bT := bT.trans (by21.mono bT.size)
    rw [hg.out]
    go_wp2_with fail
    refine (awake19_any _).mono ?_
    rintro e y22 ⟨rfl, by22⟩
    replace BP := BP.keep by22
    replace Lg := Lg.below by22
    replace Rr := Rr.below by22
    replace L1 := L1.below by22
    replace L2 := L2.below by22
    replace FL1 := FL1.below by22
    replace FL2 := FL2.below by22
    replace FLg := FLg.below by22
    replace fv1 := fv1.below by22
    replace BA := BA.keep by22
    replace bT := bT.trans (by22.mono bT.size)
    go_wp2
    go_ret
    exact ⟨rfl, bT⟩

/-! ### THE ROW's STEP: WRITTEN OUT: LEAVE IT -/
set_option maxRecDepth 100000 in
theorem lifted (os : Os) (started : os.Started) (H : Type) (enc : TypeId × Value → H) :
    ReturnsInHanded {} Try.checked os 7 .any (Rows.lpcheckWeakSpec.pre6 enc Try.prog Try.f7 Rows.lpcheckWeakRow.domain false) (Rows.lpcheckWeakSpec.post enc Try.prog Try.f7 false true false false) := by
  refine returnsInHanded_of_change (C := Try.checked) own started (by kernel_rfl) Try.func7
    (ChangeSpec.witness6 (enc := enc) (C := Try.checked) false ⟨#[], #[.agg #[.slice none 0 0, .slice none 0 0], .slice none 0 0, .slice none 0 0], []⟩ 8 (by kernel_rfl) (by kernel_rfl) (by kernel_rfl) (by kernel_rfl)) ?_
  intro W base args ds gs before hval0 hW hcnd _
  have hval : ∀ (j : Nat) t v, Try.f7.params[j]? = some t → args[j]? = some v → Value.okWide Try.prog W .any base t v := hval0
  have hW' := hW
  obtain ⟨p, q, hA0, hV, rfl, hfz, hnd⟩ := hW
  have hA : DataW.TrodAll enc Try.prog W 0 (fun _ => true) true Try.f7.params.toList args.toList ds p := hA0
  rw [Try.params7] at hA hval
  obtain ⟨v0, vs0, d0, ds0, p0, q0, hargs, rfl, rfl, h0, r0⟩ := trodAll_cons hA
  obtain ⟨v1, vs1, d1, ds1, p1, q1, rfl, rfl, rfl, h1, r1⟩ := trodAll_cons r0
  obtain ⟨v2, vs2, d2, ds2, p2, q2, rfl, rfl, rfl, h2, r2⟩ := trodAll_cons r1
  obtain ⟨rfl, rfl, rfl⟩ := trodAll_nil r2
  obtain rfl : args = #[v0, v1, v2] := by cases args; simp_all
  obtain ⟨rfl, rfl⟩ := trodVars_none hV
  have k0 := h0
  have lt0 : ∀ x ∈ p0, x.block < W.heap.size := by obtain ⟨m, hm⟩ := k0; exact DataW.trod_lt m _ _ _ hm
  obtain ⟨p0, rfl, w0⟩ := open_prog (hval 0 25 v0 rfl rfl) h0
  have k1 := h1
  have lt1 : ∀ x ∈ p1, x.block < W.heap.size := by obtain ⟨m, hm⟩ := k1; exact DataW.trod_lt m _ _ _ hm
  obtain ⟨A1, c1, ds1, rfl, w1, x1⟩ := open_fracs (hval 1 22 v1 rfl rfl) h1
  have k2 := h2
  have lt2 : ∀ x ∈ p2, x.block < W.heap.size := by obtain ⟨m, hm⟩ := k2; exact DataW.trod_lt m _ _ _ hm
  obtain ⟨A2, c2, ds2, rfl, w2, x2⟩ := open_fracs (hval 2 22 v2 rfl rfl) h2
  clear hA0 hval0
  refine (walk p0 A1 c1 ds1 A2 c2 ds2 W w0 w1 x1 w2 x2).mono fun e W' ⟨he, bel⟩ => ?_
  subst he
  exact ⟨_, rfl, _, _, _, [], _, [], hW', trodAll_mk1 (shut_bool Try.underlying4 _), (trodAll_cons_mk (Below.trod laidOut (by kernel_rfl) (of_decide_eq_true (by kernel_rfl)) k0 bel lt0) (trodAll_cons_mk (Below.trod laidOut (by kernel_rfl) (of_decide_eq_true (by kernel_rfl)) k1 bel lt1) (trodAll_cons_mk (Below.trod laidOut (by kernel_rfl) (of_decide_eq_true (by kernel_rfl)) k2 bel lt2) trodAll_mk0))), rfl, bel.frame _, fun h => by cases h⟩

theorem over : Rows.lpcheckWeakRow.holds Try.pinned (OpenSpec.ofChange Rows.lpcheckWeakSpec) :=
  OpenClaim.holds_of_wide 7 Try.f7 rfl rfl rfl rfl rfl rfl rfl ⟨rfl, rfl, rfl, rfl, rfl⟩ rfl rfl rfl rfl rfl (by kernel_rfl) Try.func7 (by kernel_rfl)
    (of_decide_eq_true (by kernel_rfl)) (by unfold Func.isWrapper; first | (rw [if_pos (by decide +kernel)]; kernel_rfl) | (rw [if_neg (by decide +kernel)]; exact ⟨rfl, rfl⟩))
    (fun os started H enc _ => lifted os started H enc)

/-- ████ THE STATEMENT ████ -/
theorem proved : Rows.LpcheckWeakSaid := over
#print axioms proved
end Go.Proofs.Ytlocaleiloiaoaa.lpcheckWeak
