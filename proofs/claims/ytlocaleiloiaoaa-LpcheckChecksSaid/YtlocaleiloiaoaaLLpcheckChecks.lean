/- The statement LpcheckChecks of the given program: the law returns true for every input, and writes nothing that was there. The walk is proved over the contracts of the functions it calls. -/
import Derived.Test.YtlocaleiloiaoaaRows
import Derived.Test.YtlocaleiloiaoaaPOpenS
import Derived.Test.YtlocaleiloiaoaaPAwake
import Derived.Test.YtlocaleiloiaoaaPCheck
import Derived.Test.YtlocaleiloiaoaaPRCheck
import Derived.WalkKit
import Derived.ProofKit
import Derived.OpenShut
import Derived.ShutString
import Derived.ChangeOld
import Derived.Below
namespace Go.Proofs.Ytlocaleiloiaoaa.lpcheckChecks
open Go.ChangeShapes Go.WideShapes Go.ChangeAt Go.RowKit
open Plain
open Go.ChangeMaps (open_string shut_string)
set_option linter.unusedVariables false
set_option linter.unusedSimpArgs false

theorem own : ownKnob Try.prog.godebug = none := by kernel_rfl
theorem laidOut : laidOutB Try.prog = true := by kernel_rfl

set_option maxRecDepth 100000 in
set_option maxHeartbeats 2000000 in
theorem walk (p0 : PrD) (p1 : SolD) (w : World) (w0 : p0.ok w) (w1 : p1.ok w) :
    Calls Try.prog 4 #[p0.v, p1.v] w fun e w' => e = .returned (.bool true) ∧ Below w.heap.size w w' := by
  have bT := Below.refl w.heap.size w
  obtain ⟨hp⟩ : PLift (p0.ok w) := ⟨w0⟩
  clear w0
  obtain ⟨hs⟩ : PLift (p1.ok w) := ⟨w1⟩
  clear w1
  obtain ⟨y1, hy1, by1, ly1, By1⟩ := boxed w #[.slice p0.ga p0.gs.length p0.gc, .slice p0.ra p0.rs.length p0.rc] 25
  replace hp := hp.below by1
  replace hs := hs.below by1
  replace bT := bT.trans (by1.mono bT.size)
  have BP := By1
  clear By1
  obtain ⟨y2, hy2, by2, ly2, By2⟩ := boxed y1 p1.cs 31
  replace hp := hp.below by2
  replace hs := hs.below by2
  replace BP := BP.keep by2
  replace bT := bT.trans (by2.mono bT.size)
  have BS := By2
  clear By2
  have hlg := hp.1.1
  have hlg2 := hp.1.2.1
  have hlr := hp.2.2.1.1
  have hlr2 := hp.2.2.1.2.1
  have z0 := BP.g0
  have z1 := BP.g1
  have c0_ : y2.cell? ⟨y1.heap.size, 0, none⟩ = some (.int .i64 p1.st) := BS.cell 0
  have c1_ : y2.cell? ⟨y1.heap.size, 1, none⟩ = some (.bool p1.d.neg) := BS.cell 1
  have c2_ : y2.cell? ⟨y1.heap.size, 2, none⟩ = some (.slice p1.d.a p1.d.la.length p1.d.ca) := BS.cell 2
  have c3_ : y2.cell? ⟨y1.heap.size, 3, none⟩ = some (.slice p1.d.b p1.d.lb.length p1.d.cb) := BS.cell 3
  have c4_ : y2.cell? ⟨y1.heap.size, 4, none⟩ = some (.slice p1.xa p1.xs.length p1.xc) := BS.cell 4
  have c5_ : y2.cell? ⟨y1.heap.size, 5, none⟩ = some (.slice p1.ya p1.ys.length p1.yc) := BS.cell 5
  have c6_ : y2.cell? ⟨y1.heap.size, 6, none⟩ = some (.slice p1.za p1.zs.length p1.zc) := BS.cell 6
  go_enter Try.func4, Try.ntmps4
  go_wp2_with fail
  refine (few19_any hp.1 hp.2.2.1 fun r hr => (hp.2.2.2 r hr).1).mono ?_
  rintro e y3 ⟨rfl, by3⟩
  replace hp := hp.below by3
  replace hs := hs.below by3
  replace BP := BP.keep by3
  replace BS := BS.keep by3
  replace bT := bT.trans (by3.mono bT.size)
  clear z0 z1
  have z0 := BP.g0
  have z1 := BP.g1
  clear c0_ c1_ c2_ c3_ c4_ c5_ c6_
  have c0_ : y3.cell? ⟨y1.heap.size, 0, none⟩ = some (.int .i64 p1.st) := BS.cell 0
  have c1_ : y3.cell? ⟨y1.heap.size, 1, none⟩ = some (.bool p1.d.neg) := BS.cell 1
  have c2_ : y3.cell? ⟨y1.heap.size, 2, none⟩ = some (.slice p1.d.a p1.d.la.length p1.d.ca) := BS.cell 2
  have c3_ : y3.cell? ⟨y1.heap.size, 3, none⟩ = some (.slice p1.d.b p1.d.lb.length p1.d.cb) := BS.cell 3
  have c4_ : y3.cell? ⟨y1.heap.size, 4, none⟩ = some (.slice p1.xa p1.xs.length p1.xc) := BS.cell 4
  have c5_ : y3.cell? ⟨y1.heap.size, 5, none⟩ = some (.slice p1.ya p1.ys.length p1.yc) := BS.cell 5
  have c6_ : y3.cell? ⟨y1.heap.size, 6, none⟩ = some (.slice p1.za p1.zs.length p1.zc) := BS.cell 6
  rcases hfew : fewB p0.gs p0.rs with _ | _
  · go_wp2_with fail
    refine (awake19_any _).mono ?_
    rintro e wz ⟨rfl, bz⟩
    go_wp2
    go_ret
    exact ⟨rfl, bT.trans (bz.mono bT.size)⟩
  go_wp2_with fail
  refine (short19_any hs.x.1).mono ?_
  rintro e y4 ⟨rfl, by4⟩
  replace hp := hp.below by4
  replace hs := hs.below by4
  replace BP := BP.keep by4
  replace BS := BS.keep by4
  replace bT := bT.trans (by4.mono bT.size)
  clear z0 z1
  have z0 := BP.g0
  have z1 := BP.g1
  clear c0_ c1_ c2_ c3_ c4_ c5_ c6_
  have c0_ : y4.cell? ⟨y1.heap.size, 0, none⟩ = some (.int .i64 p1.st) := BS.cell 0
  have c1_ : y4.cell? ⟨y1.heap.size, 1, none⟩ = some (.bool p1.d.neg) := BS.cell 1
  have c2_ : y4.cell? ⟨y1.heap.size, 2, none⟩ = some (.slice p1.d.a p1.d.la.length p1.d.ca) := BS.cell 2
  have c3_ : y4.cell? ⟨y1.heap.size, 3, none⟩ = some (.slice p1.d.b p1.d.lb.length p1.d.cb) := BS.cell 3
  have c4_ : y4.cell? ⟨y1.heap.size, 4, none⟩ = some (.slice p1.xa p1.xs.length p1.xc) := BS.cell 4
  have c5_ : y4.cell? ⟨y1.heap.size, 5, none⟩ = some (.slice p1.ya p1.ys.length p1.yc) := BS.cell 5
  have c6_ : y4.cell? ⟨y1.heap.size, 6, none⟩ = some (.slice p1.za p1.zs.length p1.zc) := BS.cell 6
  rcases hsx : shortB p1.xs with _ | _
  · go_wp2_with fail
    refine (awake19_any _).mono ?_
    rintro e wz ⟨rfl, bz⟩
    go_wp2
    go_ret
    exact ⟨rfl, bT.trans (bz.mono bT.size)⟩
  go_wp2_with fail
  refine (short19_any hs.y.1).mono ?_
  rintro e y5 ⟨rfl, by5⟩
  replace hp := hp.below by5
  replace hs := hs.below by5
  replace BP := BP.keep by5
  replace BS := BS.keep by5
  replace bT := bT.trans (by5.mono bT.size)
  clear z0 z1
  have z0 := BP.g0
  have z1 := BP.g1
  clear c0_ c1_ c2_ c3_ c4_ c5_ c6_
  have c0_ : y5.cell? ⟨y1.heap.size, 0, none⟩ = some (.int .i64 p1.st) := BS.cell 0
  have c1_ : y5.cell? ⟨y1.heap.size, 1, none⟩ = some (.bool p1.d.neg) := BS.cell 1
  have c2_ : y5.cell? ⟨y1.heap.size, 2, none⟩ = some (.slice p1.d.a p1.d.la.length p1.d.ca) := BS.cell 2
  have c3_ : y5.cell? ⟨y1.heap.size, 3, none⟩ = some (.slice p1.d.b p1.d.lb.length p1.d.cb) := BS.cell 3
  have c4_ : y5.cell? ⟨y1.heap.size, 4, none⟩ = some (.slice p1.xa p1.xs.length p1.xc) := BS.cell 4
  have c5_ : y5.cell? ⟨y1.heap.size, 5, none⟩ = some (.slice p1.ya p1.ys.length p1.yc) := BS.cell 5
  have c6_ : y5.cell? ⟨y1.heap.size, 6, none⟩ = some (.slice p1.za p1.zs.length p1.zc) := BS.cell 6
  rcases hsy : shortB p1.ys with _ | _
  · go_wp2_with fail
    refine (awake19_any _).mono ?_
    rintro e wz ⟨rfl, bz⟩
    go_wp2
    go_ret
    exact ⟨rfl, bT.trans (bz.mono bT.size)⟩
  go_wp2_with fail
  refine (short19_any hs.z.1).mono ?_
  rintro e y6 ⟨rfl, by6⟩
  replace hp := hp.below by6
  replace hs := hs.below by6
  replace BP := BP.keep by6
  replace BS := BS.keep by6
  replace bT := bT.trans (by6.mono bT.size)
  clear z0 z1
  have z0 := BP.g0
  have z1 := BP.g1
  clear c0_ c1_ c2_ c3_ c4_ c5_ c6_
  have c0_ : y6.cell? ⟨y1.heap.size, 0, none⟩ = some (.int .i64 p1.st) := BS.cell 0
  have c1_ : y6.cell? ⟨y1.heap.size, 1, none⟩ = some (.bool p1.d.neg) := BS.cell 1
  have c2_ : y6.cell? ⟨y1.heap.size, 2, none⟩ = some (.slice p1.d.a p1.d.la.length p1.d.ca) := BS.cell 2
  have c3_ : y6.cell? ⟨y1.heap.size, 3, none⟩ = some (.slice p1.d.b p1.d.lb.length p1.d.cb) := BS.cell 3
  have c4_ : y6.cell? ⟨y1.heap.size, 4, none⟩ = some (.slice p1.xa p1.xs.length p1.xc) := BS.cell 4
  have c5_ : y6.cell? ⟨y1.heap.size, 5, none⟩ = some (.slice p1.ya p1.ys.length p1.yc) := BS.cell 5
  have c6_ : y6.cell? ⟨y1.heap.size, 6, none⟩ = some (.slice p1.za p1.zs.length p1.zc) := BS.cell 6
  rcases hsz : shortB p1.zs with _ | _
  · go_wp2_with fail
    refine (awake19_any _).mono ?_
    rintro e wz ⟨rfl, bz⟩
    go_wp2
    go_ret
    exact ⟨rfl, bT.trans (bz.mono bT.size)⟩
  obtain ⟨y7, hy7, by7, ly7, By7⟩ := boxed y6 #[.bool p1.d.neg, .slice p1.d.a p1.d.la.length p1.d.ca, .slice p1.d.b p1.d.lb.length p1.d.cb] 29
  replace hp := hp.below by7
  replace hs := hs.below by7
  replace BP := BP.keep by7
  replace BS := BS.keep by7
  replace bT := bT.trans (by7.mono bT.size)
  have BD := By7
  clear By7
  go_wp2_with fail
  refine (short19_any (ds := [p1.d]) BD.one).mono ?_
  rintro e y8 ⟨rfl, by8⟩
  replace hp := hp.below by8
  replace hs := hs.below by8
  replace BP := BP.keep by8
  replace BS := BS.keep by8
  replace BD := BD.keep by8
  replace bT := bT.trans (by8.mono bT.size)
  clear z0 z1
  have z0 := BP.g0
  have z1 := BP.g1
  clear c0_ c1_ c2_ c3_ c4_ c5_ c6_
  have c0_ : y8.cell? ⟨y1.heap.size, 0, none⟩ = some (.int .i64 p1.st) := BS.cell 0
  have c1_ : y8.cell? ⟨y1.heap.size, 1, none⟩ = some (.bool p1.d.neg) := BS.cell 1
  have c2_ : y8.cell? ⟨y1.heap.size, 2, none⟩ = some (.slice p1.d.a p1.d.la.length p1.d.ca) := BS.cell 2
  have c3_ : y8.cell? ⟨y1.heap.size, 3, none⟩ = some (.slice p1.d.b p1.d.lb.length p1.d.cb) := BS.cell 3
  have c4_ : y8.cell? ⟨y1.heap.size, 4, none⟩ = some (.slice p1.xa p1.xs.length p1.xc) := BS.cell 4
  have c5_ : y8.cell? ⟨y1.heap.size, 5, none⟩ = some (.slice p1.ya p1.ys.length p1.yc) := BS.cell 5
  have c6_ : y8.cell? ⟨y1.heap.size, 6, none⟩ = some (.slice p1.za p1.zs.length p1.zc) := BS.cell 6
  rcases hsd : shortB [p1.d] with _ | _
  · go_wp2_with fail
    refine (awake19_any _).mono ?_
    rintro e wz ⟨rfl, bz⟩
    go_wp2
    go_ret
    exact ⟨rfl, bT.trans (bz.mono bT.size)⟩
  obtain ⟨Lg, Rr, l8g, l8r⟩ := few_ld hp hfew
  clear hp
  have hsf : p1.few y8 4 := ⟨frS_few hs.d (one_short hsd), (hs.x.ld hsx).1, (hs.y.ld hsy).1, (hs.z.ld hsz).1⟩
  obtain ⟨b, hb⟩ : ∃ b, Hid (checkN p0.gs p0.rs p1 = b) := ⟨_, rfl⟩
  clear hfew hsx hsy hsz hsd
  have hS : ∀ w', Below y8.heap.size y8 w' → w'.cell? ⟨w.heap.size, 0, none⟩ = some (.slice p0.ga p0.gs.length p0.gc) ∧ w'.cell? ⟨w.heap.size, 1, none⟩ = some (.slice p0.ra p0.rs.length p0.rc) ∧ w'.cell? ⟨y1.heap.size, 0, none⟩ = some (.int .i64 p1.st) ∧ w'.cell? ⟨y1.heap.size, 1, none⟩ = some (.bool p1.d.neg) ∧ w'.cell? ⟨y1.heap.size, 2, none⟩ = some (.slice p1.d.a p1.d.la.length p1.d.ca) ∧ w'.cell? ⟨y1.heap.size, 3, none⟩ = some (.slice p1.d.b p1.d.lb.length p1.d.cb) ∧ w'.cell? ⟨y1.heap.size, 4, none⟩ = some (.slice p1.xa p1.xs.length p1.xc) ∧ w'.cell? ⟨y1.heap.size, 5, none⟩ = some (.slice p1.ya p1.ys.length p1.yc) ∧ w'.cell? ⟨y1.heap.size, 6, none⟩ = some (.slice p1.za p1.zs.length p1.zc) ∧ Below y8.heap.size y8 w' := by
    intro w' o
    have hPw := BP.keep o
    have hSw := BS.keep o
    exact ⟨hPw.g0, hPw.g1, hSw.cell 0, hSw.cell 1, hSw.cell 2, hSw.cell 3, hSw.cell 4, hSw.cell 5, hSw.cell 6, o⟩
  have bo : Below y8.heap.size y8 y8 := Below.refl _ _
  have dS : Below y8.heap.size y8 y8.drew := bo.drew
  go_wp2_with fail
  refine wp_region_noPanic ?_
  refine wp_region_held_drew (S := fun w' => w'.cell? ⟨w.heap.size, 0, none⟩ = some (.slice p0.ga p0.gs.length p0.gc) ∧ w'.cell? ⟨w.heap.size, 1, none⟩ = some (.slice p0.ra p0.rs.length p0.rc) ∧ w'.cell? ⟨y1.heap.size, 0, none⟩ = some (.int .i64 p1.st) ∧ w'.cell? ⟨y1.heap.size, 1, none⟩ = some (.bool p1.d.neg) ∧ w'.cell? ⟨y1.heap.size, 2, none⟩ = some (.slice p1.d.a p1.d.la.length p1.d.ca) ∧ w'.cell? ⟨y1.heap.size, 3, none⟩ = some (.slice p1.d.b p1.d.lb.length p1.d.cb) ∧ w'.cell? ⟨y1.heap.size, 4, none⟩ = some (.slice p1.xa p1.xs.length p1.xc) ∧ w'.cell? ⟨y1.heap.size, 5, none⟩ = some (.slice p1.ya p1.ys.length p1.yc) ∧ w'.cell? ⟨y1.heap.size, 6, none⟩ = some (.slice p1.za p1.zs.length p1.zc) ∧ Below y8.heap.size y8 w') (by kernel_rfl) (hS _ dS) (fun hHeld => ?_)
  refine wpAnyH_take (i := 0) (v := ?_) rfl (by kernel_rfl) (by kernel_rfl) (by kernel_rfl) (fun _ _ _ h => h) (Or.inl ⟨by rfl, ?_⟩) hHeld ?_
  rotate_left
  · (intro w hSw; (try dsimp only at hSw); go_simp)
    all_goals with_reducible rfl
  try simp only [Act.put, List.getElem_toArray, List.getElem_cons_succ, List.getElem_cons_zero, List.setIfInBounds_toArray, List.set_cons_zero, List.set_cons_succ]
  refine wpAnyH_take (i := 1) (v := ?_) rfl (by kernel_rfl) (by kernel_rfl) (by kernel_rfl) (fun _ _ _ h => h) (Or.inl ⟨by rfl, ?_⟩) hHeld ?_
  rotate_left
  · (intro w hSw; (try dsimp only at hSw); go_simp)
    all_goals with_reducible rfl
  try simp only [Act.put, List.getElem_toArray, List.getElem_cons_succ, List.getElem_cons_zero, List.setIfInBounds_toArray, List.set_cons_zero, List.set_cons_succ]
  refine wpAnyH_take (i := 3) (v := ?_) rfl (by kernel_rfl) (by kernel_rfl) (by kernel_rfl) (fun _ _ _ h => h) (Or.inl ⟨by rfl, ?_⟩) hHeld ?_
  rotate_left
  · (intro w hSw; (try dsimp only at hSw); go_simp)
    all_goals with_reducible rfl
  try simp only [Act.put, List.getElem_toArray, List.getElem_cons_succ, List.getElem_cons_zero, List.setIfInBounds_toArray, List.set_cons_zero, List.set_cons_succ]
  refine wpAnyH_take (i := 4) (v := ?_) rfl (by kernel_rfl) (by kernel_rfl) (by kernel_rfl) (fun _ _ _ h => h) (Or.inl ⟨by rfl, ?_⟩) hHeld ?_
  rotate_left
  · (intro w hSw; (try dsimp only at hSw); go_simp)
    all_goals with_reducible rfl
  try simp only [Act.put, List.getElem_toArray, List.getElem_cons_succ, List.getElem_cons_zero, List.setIfInBounds_toArray, List.set_cons_zero, List.set_cons_succ]
  refine wpAnyH_ready (rs := [2]) (by kernel_rfl) (by simp) ?_
  refine AllReadyH.cons rfl (fun K hK => ?_) AllReadyH.nil
  go_simp
  have dw8 : Below y8.heap.size y8 y8.drew := (Below.refl _ _).drew
  replace hs := hs.below dw8
  replace BP := BP.keep dw8
  replace BS := BS.keep dw8
  replace BD := BD.keep dw8
  replace Lg := Lg.below dw8
  replace Rr := Rr.below dw8
  replace hsf := hsf.below dw8
  replace bT := bT.trans (dw8.mono bT.size)
  replace bo := bo.trans (dw8.mono bo.size)
  go_at_call 10
  refine (check_any Lg Rr hsf (by omega) (by omega)).mono ?_
  rintro e y9 ⟨rfl, by9⟩
  replace hs := hs.below by9
  replace BP := BP.keep by9
  replace BS := BS.keep by9
  replace BD := BD.keep by9
  replace Lg := Lg.below by9
  replace Rr := Rr.below by9
  replace hsf := hsf.below by9
  replace bT := bT.trans (by9.mono bT.size)
  replace bo := bo.trans (by9.mono bo.size)
  rw [hb.out]
  go_wp2_with fail
  refine hK.out _ _ (hS _ bo) (fun hHeld => ?_)
  clear hK K
  try simp only [Act.put, List.getElem_toArray, List.getElem_cons_succ, List.getElem_cons_zero, List.setIfInBounds_toArray, List.set_cons_zero, List.set_cons_succ]
  refine wpAnyH_ready (rs := [5]) (by kernel_rfl) (by simp) ?_
  refine AllReadyH.cons rfl (fun K hK => ?_) AllReadyH.nil
  go_simp
  go_at_call 18
  refine (refCheck_any Lg Rr hsf (by omega) (by omega)).mono ?_
  rintro e y10 ⟨rfl, by10⟩
  replace hs := hs.below by10
  replace BP := BP.keep by10
  replace BS := BS.keep by10
  replace BD := BD.keep by10
  replace Lg := Lg.below by10
  replace Rr := Rr.below by10
  replace hsf := hsf.below by10
  replace bT := bT.trans (by10.mono bT.size)
  replace bo := bo.trans (by10.mono bo.size)
  rw [hb.out]
  go_wp2_with fail
  refine hK.out _ _ (hS _ bo) (fun hHeld => ?_)
  clear hK K
  try simp only [Act.put, List.getElem_toArray, List.getElem_cons_succ, List.getElem_cons_zero, List.setIfInBounds_toArray, List.set_cons_zero, List.set_cons_succ]
  refine wpAnyH_take (i := 6) (v := ?_) rfl (by kernel_rfl) (by kernel_rfl) (by kernel_rfl) (fun _ _ _ h => h) (Or.inl ⟨by rfl, ?_⟩) hHeld ?_
  rotate_left
  · (intro w hSw; (try dsimp only at hSw); go_simp)
    all_goals with_reducible rfl
  try simp only [Act.put, List.getElem_toArray, List.getElem_cons_succ, List.getElem_cons_zero, List.setIfInBounds_toArray, List.set_cons_zero, List.set_cons_succ]
  refine wpAnyH_take (i := 7) (v := ?_) rfl (by kernel_rfl) (by kernel_rfl) (by kernel_rfl) (fun _ _ _ h => h) (Or.inl ⟨by rfl, ?_⟩) hHeld ?_
  rotate_left
  · (intro w hSw; (try dsimp only at hSw); go_simp)
    all_goals with_reducible rfl
  try simp only [Act.put, List.getElem_toArray, List.getElem_cons_succ, List.getElem_cons_zero, List.setIfInBounds_toArray, List.set_cons_zero, List.set_cons_succ]
  refine wpAnyH_ready (rs := [8]) (by kernel_rfl) (by simp) ?_
  refine AllReadyH.cons rfl (fun K hK => ?_) AllReadyH.nil
  go_simp
  go_at_call 11
  refine (awake19_any _).mono ?_
  rintro e y11 ⟨rfl, by11⟩
  replace hs := hs.below by11
  replace BP := BP.keep by11
  replace BS := BS.keep by11
  replace BD := BD.keep by11
  replace Lg := Lg.below by11
  replace Rr := Rr.below by11
  replace hsf := hsf.below by11
  replace bT := bT.trans (by11.mono bT.size)
  replace bo := bo.trans (by11.mono bo.size)
  go_wp2_with fail
  refine hK.out _ _ (hS _ bo) (fun hHeld => ?_)
  clear hK K
  try simp only [Act.put, List.getElem_toArray, List.getElem_cons_succ, List.getElem_cons_zero, List.setIfInBounds_toArray, List.set_cons_zero, List.set_cons_succ]
  refine wpAnyH_take (i := 9) (v := ?_) rfl (by kernel_rfl) (by kernel_rfl) (by kernel_rfl) (fun _ _ _ h => h) (Or.inl ⟨by rfl, ?_⟩) hHeld ?_
  rotate_left
  · (intro w hSw; (try dsimp only at hSw); go_simp)
    all_goals with_reducible rfl
  try simp only [Act.put, List.getElem_toArray, List.getElem_cons_succ, List.getElem_cons_zero, List.setIfInBounds_toArray, List.set_cons_zero, List.set_cons_succ]
  refine wpAnyH_take (i := 10) (v := ?_) rfl (by kernel_rfl) (by kernel_rfl) (by kernel_rfl) (fun _ _ _ h => h) (Or.inl ⟨by rfl, ?_⟩) hHeld ?_
  rotate_left
  · (intro w hSw; (try dsimp only at hSw); go_simp)
    all_goals with_reducible rfl
  try simp only [Act.put, List.getElem_toArray, List.getElem_cons_succ, List.getElem_cons_zero, List.setIfInBounds_toArray, List.set_cons_zero, List.set_cons_succ]
  refine wpAnyH_done (by kernel_rfl) ?_ _
  refine NoPanic.normal ?_
  try go_simp
  clear hHeld
  clear hS dS bo
  go_wp2
  go_ret
  exact ⟨rfl, bT⟩

/-! ### THE ROW's STEP: WRITTEN OUT: LEAVE IT -/
set_option maxRecDepth 100000 in
theorem lifted (os : Os) (started : os.Started) (H : Type) (enc : TypeId × Value → H) :
    ReturnsInHanded {} Try.checked os 4 .any (Rows.lpcheckChecksSpec.pre6 enc Try.prog Try.f4 Rows.lpcheckChecksRow.domain false) (Rows.lpcheckChecksSpec.post enc Try.prog Try.f4 false true false false) := by
  refine returnsInHanded_of_change (C := Try.checked) own started (by kernel_rfl) Try.func4
    (ChangeSpec.witness6 (enc := enc) (C := Try.checked) false ⟨#[], #[.agg #[.slice none 0 0, .slice none 0 0], .agg #[.int .i64 0, .bool false, .slice none 0 0, .slice none 0 0, .slice none 0 0, .slice none 0 0, .slice none 0 0]], []⟩ 8 (by kernel_rfl) (by kernel_rfl) (by kernel_rfl) (by kernel_rfl)) ?_
  intro W base args ds gs before hval0 hW hcnd _
  have hval : ∀ (j : Nat) t v, Try.f4.params[j]? = some t → args[j]? = some v → Value.okWide Try.prog W .any base t v := hval0
  have hW' := hW
  obtain ⟨p, q, hA0, hV, rfl, hfz, hnd⟩ := hW
  have hA : DataW.TrodAll enc Try.prog W 0 (fun _ => true) true Try.f4.params.toList args.toList ds p := hA0
  rw [Try.params4] at hA hval
  obtain ⟨v0, vs0, d0, ds0, p0, q0, hargs, rfl, rfl, h0, r0⟩ := trodAll_cons hA
  obtain ⟨v1, vs1, d1, ds1, p1, q1, rfl, rfl, rfl, h1, r1⟩ := trodAll_cons r0
  obtain ⟨rfl, rfl, rfl⟩ := trodAll_nil r1
  obtain rfl : args = #[v0, v1] := by cases args; simp_all
  obtain ⟨rfl, rfl⟩ := trodVars_none hV
  have k0 := h0
  have lt0 : ∀ x ∈ p0, x.block < W.heap.size := by obtain ⟨m, hm⟩ := k0; exact DataW.trod_lt m _ _ _ hm
  obtain ⟨p0, rfl, w0⟩ := open_prog (hval 0 25 v0 rfl rfl) h0
  have k1 := h1
  have lt1 : ∀ x ∈ p1, x.block < W.heap.size := by obtain ⟨m, hm⟩ := k1; exact DataW.trod_lt m _ _ _ hm
  obtain ⟨p1, rfl, w1⟩ := open_sol (hval 1 31 v1 rfl rfl) h1
  clear hA0 hval0
  refine (walk p0 p1 W w0 w1).mono fun e W' ⟨he, bel⟩ => ?_
  subst he
  exact ⟨_, rfl, _, _, _, [], _, [], hW', trodAll_mk1 (shut_bool Try.underlying4 _), (trodAll_cons_mk (Below.trod laidOut (by kernel_rfl) (of_decide_eq_true (by kernel_rfl)) k0 bel lt0) (trodAll_cons_mk (Below.trod laidOut (by kernel_rfl) (of_decide_eq_true (by kernel_rfl)) k1 bel lt1) trodAll_mk0)), rfl, bel.frame _, fun h => by cases h⟩

theorem over : Rows.lpcheckChecksRow.holds Try.pinned (OpenSpec.ofChange Rows.lpcheckChecksSpec) :=
  OpenClaim.holds_of_wide 4 Try.f4 rfl rfl rfl rfl rfl rfl rfl ⟨rfl, rfl, rfl, rfl, rfl⟩ rfl rfl rfl rfl rfl (by kernel_rfl) Try.func4 (by kernel_rfl)
    (of_decide_eq_true (by kernel_rfl)) (by unfold Func.isWrapper; first | (rw [if_pos (by decide +kernel)]; kernel_rfl) | (rw [if_neg (by decide +kernel)]; exact ⟨rfl, rfl⟩))
    (fun os started H enc _ => lifted os started H enc)

/-- ████ THE STATEMENT ████ -/
theorem proved : Rows.LpcheckChecksSaid := over
#print axioms proved
end Go.Proofs.Ytlocaleiloiaoaa.lpcheckChecks
