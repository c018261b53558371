/- The statement LpcheckSound of the given program: the law returns true for every input, and writes nothing that was there. The walk is proved over the contracts of the functions it calls. -/
import Derived.Test.YtlocaleiloiaoaaRows
import Derived.Test.YtlocaleiloiaoaaPOpenS
import Derived.Test.YtlocaleiloiaoaaPAwake
import Derived.Test.YtlocaleiloiaoaaPCheck
import Derived.Test.YtlocaleiloiaoaaPRFeas
import Derived.Test.YtlocaleiloiaoaaPWeak
import Derived.Test.YtlocaleiloiaoaaPFar
import Derived.WalkKit
import Derived.ProofKit
import Derived.OpenShut
import Derived.ShutString
import Derived.ChangeOld
import Derived.Below
namespace Go.Proofs.Ytlocaleiloiaoaa.lpcheckSound
open Go.ChangeShapes Go.WideShapes Go.ChangeAt Go.RowKit
open Plain
open Go.ChangeMaps (open_string shut_string)
set_option linter.unusedVariables false
set_option linter.unusedSimpArgs false

theorem own : ownKnob Try.prog.godebug = none := by kernel_rfl
theorem laidOut : laidOutB Try.prog = true := by kernel_rfl

set_option maxRecDepth 100000 in
set_option maxHeartbeats 2000000 in
theorem walk (p0 : PrD) (p1 : SolD) (A2 : Option Addr) (c2 : Nat) (ds2 : List FrD) (w : World) (w0 : p0.ok w) (w1 : p1.ok w) (w2 : Srow w 3 FrD.cells A2 c2 ds2) (x2 : ∀ f ∈ ds2, f.ok w) :
    Calls Try.prog 3 #[p0.v, p1.v, .slice A2 ds2.length c2] w fun e w' => e = .returned (.bool true) ∧ Below w.heap.size w w' := by
  have bT := Below.refl w.heap.size w
  obtain ⟨hp⟩ : PLift (p0.ok w) := ⟨w0⟩
  clear w0
  obtain ⟨hl2⟩ : PLift (FOk w A2 c2 ds2) := ⟨⟨w2, x2⟩⟩
  clear w2 x2
  obtain ⟨hs⟩ : PLift (p1.ok w) := ⟨w1⟩
  clear w1
  obtain ⟨y1, hy1, by1, ly1, By1⟩ := boxed w #[.slice p0.ga p0.gs.length p0.gc, .slice p0.ra p0.rs.length p0.rc] 25
  replace hp := hp.below by1
  replace hl2 := hl2.below by1
  replace hs := hs.below by1
  replace bT := bT.trans (by1.mono bT.size)
  have BP := By1
  clear By1
  obtain ⟨y2, hy2, by2, ly2, By2⟩ := boxed y1 p1.cs 31
  replace hp := hp.below by2
  replace hl2 := hl2.below by2
  replace hs := hs.below by2
  replace BP := BP.keep by2
  replace bT := bT.trans (by2.mono bT.size)
  have BS := By2
  clear By2
  have hlg := hp.1.1
  have hlg2 := hp.1.2.1
  have hlr := hp.2.2.1.1
  have hlr2 := hp.2.2.1.2.1
  have z0 := BP.g0
  have z1 := BP.g1
  have c0_ : y2.cell? ⟨y1.heap.size, 0, none⟩ = some (.int .i64 p1.st) := BS.cell 0
  have c1_ : y2.cell? ⟨y1.heap.size, 1, none⟩ = some (.bool p1.d.neg) := BS.cell 1
  have c2_ : y2.cell? ⟨y1.heap.size, 2, none⟩ = some (.slice p1.d.a p1.d.la.length p1.d.ca) := BS.cell 2
  have c3_ : y2.cell? ⟨y1.heap.size, 3, none⟩ = some (.slice p1.d.b p1.d.lb.length p1.d.cb) := BS.cell 3
  have c4_ : y2.cell? ⟨y1.heap.size, 4, none⟩ = some (.slice p1.xa p1.xs.length p1.xc) := BS.cell 4
  have c5_ : y2.cell? ⟨y1.heap.size, 5, none⟩ = some (.slice p1.ya p1.ys.length p1.yc) := BS.cell 5
  have c6_ : y2.cell? ⟨y1.heap.size, 6, none⟩ = some (.slice p1.za p1.zs.length p1.zc) := BS.cell 6
  go_enter Try.func3, Try.ntmps3
  go_wp2_with fail
  refine (few19_any hp.1 hp.2.2.1 fun r hr => (hp.2.2.2 r hr).1).mono ?_
  rintro e y3 ⟨rfl, by3⟩
  replace hp := hp.below by3
  replace hl2 := hl2.below by3
  replace hs := hs.below by3
  replace BP := BP.keep by3
  replace BS := BS.keep by3
  replace bT := bT.trans (by3.mono bT.size)
  clear z0 z1
  have z0 := BP.g0
  have z1 := BP.g1
  clear c0_ c1_ c2_ c3_ c4_ c5_ c6_
  have c0_ : y3.cell? ⟨y1.heap.size, 0, none⟩ = some (.int .i64 p1.st) := BS.cell 0
  have c1_ : y3.cell? ⟨y1.heap.size, 1, none⟩ = some (.bool p1.d.neg) := BS.cell 1
  have c2_ : y3.cell? ⟨y1.heap.size, 2, none⟩ = some (.slice p1.d.a p1.d.la.length p1.d.ca) := BS.cell 2
  have c3_ : y3.cell? ⟨y1.heap.size, 3, none⟩ = some (.slice p1.d.b p1.d.lb.length p1.d.cb) := BS.cell 3
  have c4_ : y3.cell? ⟨y1.heap.size, 4, none⟩ = some (.slice p1.xa p1.xs.length p1.xc) := BS.cell 4
  have c5_ : y3.cell? ⟨y1.heap.size, 5, none⟩ = some (.slice p1.ya p1.ys.length p1.yc) := BS.cell 5
  have c6_ : y3.cell? ⟨y1.heap.size, 6, none⟩ = some (.slice p1.za p1.zs.length p1.zc) := BS.cell 6
  rcases hfew : fewB p0.gs p0.rs with _ | _
  · go_wp2_with fail
    refine (awake19_any _).mono ?_
    rintro e wz ⟨rfl, bz⟩
    go_wp2
    go_ret
    exact ⟨rfl, bT.trans (bz.mono bT.size)⟩
  go_wp2_with fail
  refine (short19_any hs.x.1).mono ?_
  rintro e y4 ⟨rfl, by4⟩
  replace hp := hp.below by4
  replace hl2 := hl2.below by4
  replace hs := hs.below by4
  replace BP := BP.keep by4
  replace BS := BS.keep by4
  replace bT := bT.trans (by4.mono bT.size)
  clear z0 z1
  have z0 := BP.g0
  have z1 := BP.g1
  clear c0_ c1_ c2_ c3_ c4_ c5_ c6_
  have c0_ : y4.cell? ⟨y1.heap.size, 0, none⟩ = some (.int .i64 p1.st) := BS.cell 0
  have c1_ : y4.cell? ⟨y1.heap.size, 1, none⟩ = some (.bool p1.d.neg) := BS.cell 1
  have c2_ : y4.cell? ⟨y1.heap.size, 2, none⟩ = some (.slice p1.d.a p1.d.la.length p1.d.ca) := BS.cell 2
  have c3_ : y4.cell? ⟨y1.heap.size, 3, none⟩ = some (.slice p1.d.b p1.d.lb.length p1.d.cb) := BS.cell 3
  have c4_ : y4.cell? ⟨y1.heap.size, 4, none⟩ = some (.slice p1.xa p1.xs.length p1.xc) := BS.cell 4
  have c5_ : y4.cell? ⟨y1.heap.size, 5, none⟩ = some (.slice p1.ya p1.ys.length p1.yc) := BS.cell 5
  have c6_ : y4.cell? ⟨y1.heap.size, 6, none⟩ = some (.slice p1.za p1.zs.length p1.zc) := BS.cell 6
  rcases hsx : shortB p1.xs with _ | _
  · go_wp2_with fail
    refine (awake19_any _).mono ?_
    rintro e wz ⟨rfl, bz⟩
    go_wp2
    go_ret
    exact ⟨rfl, bT.trans (bz.mono bT.size)⟩
  go_wp2_with fail
  refine (short19_any hs.y.1).mono ?_
  rintro e y5 ⟨rfl, by5⟩
  replace hp := hp.below by5
  replace hl2 := hl2.below by5
  replace hs := hs.below by5
  replace BP := BP.keep by5
  replace BS := BS.keep by5
  replace bT := bT.trans (by5.mono bT.size)
  clear z0 z1
  have z0 := BP.g0
  have z1 := BP.g1
  clear c0_ c1_ c2_ c3_ c4_ c5_ c6_
  have c0_ : y5.cell? ⟨y1.heap.size, 0, none⟩ = some (.int .i64 p1.st) := BS.cell 0
  have c1_ : y5.cell? ⟨y1.heap.size, 1, none⟩ = some (.bool p1.d.neg) := BS.cell 1
  have c2_ : y5.cell? ⟨y1.heap.size, 2, none⟩ = some (.slice p1.d.a p1.d.la.length p1.d.ca) := BS.cell 2
  have c3_ : y5.cell? ⟨y1.heap.size, 3, none⟩ = some (.slice p1.d.b p1.d.lb.length p1.d.cb) := BS.cell 3
  have c4_ : y5.cell? ⟨y1.heap.size, 4, none⟩ = some (.slice p1.xa p1.xs.length p1.xc) := BS.cell 4
  have c5_ : y5.cell? ⟨y1.heap.size, 5, none⟩ = some (.slice p1.ya p1.ys.length p1.yc) := BS.cell 5
  have c6_ : y5.cell? ⟨y1.heap.size, 6, none⟩ = some (.slice p1.za p1.zs.length p1.zc) := BS.cell 6
  rcases hsy : shortB p1.ys with _ | _
  · go_wp2_with fail
    refine (awake19_any _).mono ?_
    rintro e wz ⟨rfl, bz⟩
    go_wp2
    go_ret
    exact ⟨rfl, bT.trans (bz.mono bT.size)⟩
  go_wp2_with fail
  refine (short19_any hs.z.1).mono ?_
  rintro e y6 ⟨rfl, by6⟩
  replace hp := hp.below by6
  replace hl2 := hl2.below by6
  replace hs := hs.below by6
  replace BP := BP.keep by6
  replace BS := BS.keep by6
  replace bT := bT.trans (by6.mono bT.size)
  clear z0 z1
  have z0 := BP.g0
  have z1 := BP.g1
  clear c0_ c1_ c2_ c3_ c4_ c5_ c6_
  have c0_ : y6.cell? ⟨y1.heap.size, 0, none⟩ = some (.int .i64 p1.st) := BS.cell 0
  have c1_ : y6.cell? ⟨y1.heap.size, 1, none⟩ = some (.bool p1.d.neg) := BS.cell 1
  have c2_ : y6.cell? ⟨y1.heap.size, 2, none⟩ = some (.slice p1.d.a p1.d.la.length p1.d.ca) := BS.cell 2
  have c3_ : y6.cell? ⟨y1.heap.size, 3, none⟩ = some (.slice p1.d.b p1.d.lb.length p1.d.cb) := BS.cell 3
  have c4_ : y6.cell? ⟨y1.heap.size, 4, none⟩ = some (.slice p1.xa p1.xs.length p1.xc) := BS.cell 4
  have c5_ : y6.cell? ⟨y1.heap.size, 5, none⟩ = some (.slice p1.ya p1.ys.length p1.yc) := BS.cell 5
  have c6_ : y6.cell? ⟨y1.heap.size, 6, none⟩ = some (.slice p1.za p1.zs.length p1.zc) := BS.cell 6
  rcases hsz : shortB p1.zs with _ | _
  · go_wp2_with fail
    refine (awake19_any _).mono ?_
    rintro e wz ⟨rfl, bz⟩
    go_wp2
    go_ret
    exact ⟨rfl, bT.trans (bz.mono bT.size)⟩
  go_wp2_with fail
  refine (short19_any hl2.1).mono ?_
  rintro e y7 ⟨rfl, by7⟩
  replace hp := hp.below by7
  replace hl2 := hl2.below by7
  replace hs := hs.below by7
  replace BP := BP.keep by7
  replace BS := BS.keep by7
  replace bT := bT.trans (by7.mono bT.size)
  clear z0 z1
  have z0 := BP.g0
  have z1 := BP.g1
  clear c0_ c1_ c2_ c3_ c4_ c5_ c6_
  have c0_ : y7.cell? ⟨y1.heap.size, 0, none⟩ = some (.int .i64 p1.st) := BS.cell 0
  have c1_ : y7.cell? ⟨y1.heap.size, 1, none⟩ = some (.bool p1.d.neg) := BS.cell 1
  have c2_ : y7.cell? ⟨y1.heap.size, 2, none⟩ = some (.slice p1.d.a p1.d.la.length p1.d.ca) := BS.cell 2
  have c3_ : y7.cell? ⟨y1.heap.size, 3, none⟩ = some (.slice p1.d.b p1.d.lb.length p1.d.cb) := BS.cell 3
  have c4_ : y7.cell? ⟨y1.heap.size, 4, none⟩ = some (.slice p1.xa p1.xs.length p1.xc) := BS.cell 4
  have c5_ : y7.cell? ⟨y1.heap.size, 5, none⟩ = some (.slice p1.ya p1.ys.length p1.yc) := BS.cell 5
  have c6_ : y7.cell? ⟨y1.heap.size, 6, none⟩ = some (.slice p1.za p1.zs.length p1.zc) := BS.cell 6
  rcases hsh2 : shortB ds2 with _ | _
  · go_wp2_with fail
    refine (awake19_any _).mono ?_
    rintro e wz ⟨rfl, bz⟩
    go_wp2
    go_ret
    exact ⟨rfl, bT.trans (bz.mono bT.size)⟩
  obtain ⟨y8, hy8, by8, ly8, By8⟩ := boxed y7 #[.bool p1.d.neg, .slice p1.d.a p1.d.la.length p1.d.ca, .slice p1.d.b p1.d.lb.length p1.d.cb] 29
  replace hp := hp.below by8
  replace hl2 := hl2.below by8
  replace hs := hs.below by8
  replace BP := BP.keep by8
  replace BS := BS.keep by8
  replace bT := bT.trans (by8.mono bT.size)
  have BD := By8
  clear By8
  go_wp2_with fail
  refine (short19_any (ds := [p1.d]) BD.one).mono ?_
  rintro e y9 ⟨rfl, by9⟩
  replace hp := hp.below by9
  replace hl2 := hl2.below by9
  replace hs := hs.below by9
  replace BP := BP.keep by9
  replace BS := BS.keep by9
  replace BD := BD.keep by9
  replace bT := bT.trans (by9.mono bT.size)
  clear z0 z1
  have z0 := BP.g0
  have z1 := BP.g1
  clear c0_ c1_ c2_ c3_ c4_ c5_ c6_
  have c0_ : y9.cell? ⟨y1.heap.size, 0, none⟩ = some (.int .i64 p1.st) := BS.cell 0
  have c1_ : y9.cell? ⟨y1.heap.size, 1, none⟩ = some (.bool p1.d.neg) := BS.cell 1
  have c2_ : y9.cell? ⟨y1.heap.size, 2, none⟩ = some (.slice p1.d.a p1.d.la.length p1.d.ca) := BS.cell 2
  have c3_ : y9.cell? ⟨y1.heap.size, 3, none⟩ = some (.slice p1.d.b p1.d.lb.length p1.d.cb) := BS.cell 3
  have c4_ : y9.cell? ⟨y1.heap.size, 4, none⟩ = some (.slice p1.xa p1.xs.length p1.xc) := BS.cell 4
  have c5_ : y9.cell? ⟨y1.heap.size, 5, none⟩ = some (.slice p1.ya p1.ys.length p1.yc) := BS.cell 5
  have c6_ : y9.cell? ⟨y1.heap.size, 6, none⟩ = some (.slice p1.za p1.zs.length p1.zc) := BS.cell 6
  rcases hsd : shortB [p1.d] with _ | _
  · go_wp2_with fail
    refine (awake19_any _).mono ?_
    rintro e wz ⟨rfl, bz⟩
    go_wp2
    go_ret
    exact ⟨rfl, bT.trans (bz.mono bT.size)⟩
  obtain ⟨Lg, Rr, l8g, l8r⟩ := few_ld hp hfew
  clear hp
  obtain ⟨L2, l12_2⟩ := hl2.ld hsh2
  clear hl2 hsh2
  have hsf : p1.few y9 4 := ⟨frS_few hs.d (one_short hsd), (hs.x.ld hsx).1, (hs.y.ld hsy).1, (hs.z.ld hsz).1⟩
  have l12x := (hs.x.ld hsx).2
  have l12z := (hs.z.ld hsz).2
  clear hfew hsx hsy hsz hsd hs BD
  obtain ⟨n, hn⟩ : ∃ n, Hid (checkN p0.gs p0.rs p1 = n) := ⟨_, rfl⟩
  go_wp2_with fail
  refine (check_any Lg Rr hsf (by omega) (by omega)).mono ?_
  rintro e y10 ⟨rfl, by10⟩
  replace BP := BP.keep by10
  replace BS := BS.keep by10
  replace Lg := Lg.below by10
  replace Rr := Rr.below by10
  replace L2 := L2.below by10
  replace hsf := hsf.below by10
  replace bT := bT.trans (by10.mono bT.size)
  clear z0 z1
  have z0 := BP.g0
  have z1 := BP.g1
  clear c0_ c1_ c2_ c3_ c4_ c5_ c6_
  have c0_ : y10.cell? ⟨y1.heap.size, 0, none⟩ = some (.int .i64 p1.st) := BS.cell 0
  have c1_ : y10.cell? ⟨y1.heap.size, 1, none⟩ = some (.bool p1.d.neg) := BS.cell 1
  have c2_ : y10.cell? ⟨y1.heap.size, 2, none⟩ = some (.slice p1.d.a p1.d.la.length p1.d.ca) := BS.cell 2
  have c3_ : y10.cell? ⟨y1.heap.size, 3, none⟩ = some (.slice p1.d.b p1.d.lb.length p1.d.cb) := BS.cell 3
  have c4_ : y10.cell? ⟨y1.heap.size, 4, none⟩ = some (.slice p1.xa p1.xs.length p1.xc) := BS.cell 4
  have c5_ : y10.cell? ⟨y1.heap.size, 5, none⟩ = some (.slice p1.ya p1.ys.length p1.yc) := BS.cell 5
  have c6_ : y10.cell? ⟨y1.heap.size, 6, none⟩ = some (.slice p1.za p1.zs.length p1.zc) := BS.cell 6
  rw [hn.out]
  by_cases hn0 : n = 0
  rotate_left
  · have hnn : (n != 0) = true := by simpa using hn0
    go_wp2_with fail
    refine (awake19_any _).mono ?_
    rintro e wz ⟨rfl, bz⟩
    go_wp2
    go_ret
    exact ⟨rfl, bT.trans (bz.mono bT.size)⟩
  subst hn0
  obtain ⟨hfm, hpv⟩ := checkN_zero hn.out
  have hfm' := Lib.hid hfm
  have hpv' := Lib.hid hpv
  have hwg := Lib.hid (show whB p0.gs = true by rw [Bool.and_eq_true] at hfm; exact hfm.2)
  have hrw := Lib.hid (show rowsB p0.gs.length p0.rs = true by rw [Bool.and_eq_true] at hfm; exact hfm.1)
  clear hfm hpv hn
  by_cases h1 : p1.st = 1
  · have hst := Lib.hid h1
    have hop := Lib.hid (show optB p0.gs p0.rs p1.d p1.xs p1.ys = true by have := hpv'.out; unfold provenB at this; rw [if_pos h1] at this; exact this)
    clear h1
    clear z0 z1
    have z0 := BP.g0
    have z1 := BP.g1
    clear c0_ c1_ c2_ c3_ c4_ c5_ c6_
    have c0_ : y10.cell? ⟨y1.heap.size, 0, none⟩ = some (.int .i64 1) := by rw [← hst.out]; exact BS.cell 0
    have c1_ : y10.cell? ⟨y1.heap.size, 1, none⟩ = some (.bool p1.d.neg) := BS.cell 1
    have c2_ : y10.cell? ⟨y1.heap.size, 2, none⟩ = some (.slice p1.d.a p1.d.la.length p1.d.ca) := BS.cell 2
    have c3_ : y10.cell? ⟨y1.heap.size, 3, none⟩ = some (.slice p1.d.b p1.d.lb.length p1.d.cb) := BS.cell 3
    have c4_ : y10.cell? ⟨y1.heap.size, 4, none⟩ = some (.slice p1.xa p1.xs.length p1.xc) := BS.cell 4
    have c5_ : y10.cell? ⟨y1.heap.size, 5, none⟩ = some (.slice p1.ya p1.ys.length p1.yc) := BS.cell 5
    have c6_ : y10.cell? ⟨y1.heap.size, 6, none⟩ = some (.slice p1.za p1.zs.length p1.zc) := BS.cell 6
    have hvd := Lib.hid (show p1.d.vld = true by have := hop.out; unfold optB at this; simp only [Bool.and_eq_true] at this; exact this.2.1)
    have fvd := (hsf.d.fv hvd.out).1
    have fid := Lib.hid (hsf.d.fv hvd.out).2
    obtain ⟨b, hb⟩ : ∃ b, Hid (feaB p0.gs p0.rs ds2 = b) := ⟨_, rfl⟩
    rcases b with _ | _
    · have htriv := True.intro
      have hS : ∀ w', Below y10.heap.size y10 w' → w'.cell? ⟨w.heap.size, 0, none⟩ = some (.slice p0.ga p0.gs.length p0.gc) ∧ w'.cell? ⟨w.heap.size, 1, none⟩ = some (.slice p0.ra p0.rs.length p0.rc) ∧ w'.cell? ⟨y1.heap.size, 0, none⟩ = some (.int .i64 1) ∧ w'.cell? ⟨y1.heap.size, 1, none⟩ = some (.bool p1.d.neg) ∧ w'.cell? ⟨y1.heap.size, 2, none⟩ = some (.slice p1.d.a p1.d.la.length p1.d.ca) ∧ w'.cell? ⟨y1.heap.size, 3, none⟩ = some (.slice p1.d.b p1.d.lb.length p1.d.cb) ∧ w'.cell? ⟨y1.heap.size, 4, none⟩ = some (.slice p1.xa p1.xs.length p1.xc) ∧ w'.cell? ⟨y1.heap.size, 5, none⟩ = some (.slice p1.ya p1.ys.length p1.yc) ∧ w'.cell? ⟨y1.heap.size, 6, none⟩ = some (.slice p1.za p1.zs.length p1.zc) ∧ Below y10.heap.size y10 w' := by
        intro w' o
        have hPw := BP.keep o
        have hSw := BS.keep o
        exact ⟨hPw.g0, hPw.g1, by rw [← hst.out]; exact hSw.cell 0, hSw.cell 1, hSw.cell 2, hSw.cell 3, hSw.cell 4, hSw.cell 5, hSw.cell 6, o⟩
      have bo : Below y10.heap.size y10 y10 := Below.refl _ _
      have dS : Below y10.heap.size y10 y10.drew := bo.drew
      go_wp2_with fail
      refine wp_region_noPanic ?_
      refine wp_region_held_drew (S := fun w' => w'.cell? ⟨w.heap.size, 0, none⟩ = some (.slice p0.ga p0.gs.length p0.gc) ∧ w'.cell? ⟨w.heap.size, 1, none⟩ = some (.slice p0.ra p0.rs.length p0.rc) ∧ w'.cell? ⟨y1.heap.size, 0, none⟩ = some (.int .i64 1) ∧ w'.cell? ⟨y1.heap.size, 1, none⟩ = some (.bool p1.d.neg) ∧ w'.cell? ⟨y1.heap.size, 2, none⟩ = some (.slice p1.d.a p1.d.la.length p1.d.ca) ∧ w'.cell? ⟨y1.heap.size, 3, none⟩ = some (.slice p1.d.b p1.d.lb.length p1.d.cb) ∧ w'.cell? ⟨y1.heap.size, 4, none⟩ = some (.slice p1.xa p1.xs.length p1.xc) ∧ w'.cell? ⟨y1.heap.size, 5, none⟩ = some (.slice p1.ya p1.ys.length p1.yc) ∧ w'.cell? ⟨y1.heap.size, 6, none⟩ = some (.slice p1.za p1.zs.length p1.zc) ∧ Below y10.heap.size y10 w') (by kernel_rfl) (hS _ dS) (fun hHeld => ?_)
      refine wpAnyH_take (i := 0) (v := ?_) rfl (by kernel_rfl) (by kernel_rfl) (by kernel_rfl) (fun _ _ _ h => h) (Or.inl ⟨by rfl, ?_⟩) hHeld ?_
      rotate_left
      · (intro w hSw; (try dsimp only at hSw); go_simp)
        all_goals with_reducible rfl
      try simp only [Act.put, List.getElem_toArray, List.getElem_cons_succ, List.getElem_cons_zero, List.setIfInBounds_toArray, List.set_cons_zero, List.set_cons_succ]
      refine wpAnyH_take (i := 1) (v := ?_) rfl (by kernel_rfl) (by kernel_rfl) (by kernel_rfl) (fun _ _ _ h => h) (Or.inl ⟨by rfl, ?_⟩) hHeld ?_
      rotate_left
      · (intro w hSw; (try dsimp only at hSw); go_simp)
        all_goals with_reducible rfl
      try simp only [Act.put, List.getElem_toArray, List.getElem_cons_succ, List.getElem_cons_zero, List.setIfInBounds_toArray, List.set_cons_zero, List.set_cons_succ]
      refine wpAnyH_take (i := 2) (v := ?_) rfl (by kernel_rfl) (by kernel_rfl) (by kernel_rfl) (fun _ _ _ h => h) (Or.inl ⟨by rfl, ?_⟩) hHeld ?_
      rotate_left
      · (intro w hSw; (try dsimp only at hSw); go_simp)
        all_goals with_reducible rfl
      try simp only [Act.put, List.getElem_toArray, List.getElem_cons_succ, List.getElem_cons_zero, List.setIfInBounds_toArray, List.set_cons_zero, List.set_cons_succ]
      refine wpAnyH_take (i := 3) (v := ?_) rfl (by kernel_rfl) (by kernel_rfl) (by kernel_rfl) (fun _ _ _ h => h) (Or.inl ⟨by rfl, ?_⟩) hHeld ?_
      rotate_left
      · (intro w hSw; (try dsimp only at hSw); go_simp)
        all_goals with_reducible rfl
      try simp only [Act.put, List.getElem_toArray, List.getElem_cons_succ, List.getElem_cons_zero, List.setIfInBounds_toArray, List.set_cons_zero, List.set_cons_succ]
      refine wpAnyH_take (i := 4) (v := ?_) rfl (by kernel_rfl) (by kernel_rfl) (by kernel_rfl) (fun _ _ _ h => h) (Or.inl ⟨by rfl, ?_⟩) hHeld ?_
      rotate_left
      · (intro w hSw; (try dsimp only at hSw); go_simp)
        all_goals with_reducible rfl
      try simp only [Act.put, List.getElem_toArray, List.getElem_cons_succ, List.getElem_cons_zero, List.setIfInBounds_toArray, List.set_cons_zero, List.set_cons_succ]
      refine wpAnyH_take (i := 5) (v := ?_) rfl (by kernel_rfl) (by kernel_rfl) (by kernel_rfl) (fun _ _ _ h => h) (Or.inl ⟨by rfl, ?_⟩) hHeld ?_
      rotate_left
      · (intro w hSw; (try dsimp only at hSw); go_simp)
        all_goals with_reducible rfl
      try simp only [Act.put, List.getElem_toArray, List.getElem_cons_succ, List.getElem_cons_zero, List.setIfInBounds_toArray, List.set_cons_zero, List.set_cons_succ]
      refine wpAnyH_ready (rs := [6]) (by kernel_rfl) (by simp) ?_
      refine AllReadyH.cons rfl (fun K hK => ?_) AllReadyH.nil
      go_simp
      have dw10 : Below y10.heap.size y10 y10.drew := (Below.refl _ _).drew
      replace BP := BP.keep dw10
      replace BS := BS.keep dw10
      replace Lg := Lg.below dw10
      replace Rr := Rr.below dw10
      replace L2 := L2.below dw10
      replace hsf := hsf.below dw10
      replace fvd := fvd.below dw10
      replace bT := bT.trans (dw10.mono bT.size)
      replace bo := bo.trans (dw10.mono bo.size)
      go_at_call 12
      refine (refFeasible_any Lg Rr L2 (by omega)).mono ?_
      rintro e y11 ⟨rfl, by11⟩
      replace BP := BP.keep by11
      replace BS := BS.keep by11
      replace Lg := Lg.below by11
      replace Rr := Rr.below by11
      replace L2 := L2.below by11
      replace hsf := hsf.below by11
      replace fvd := fvd.below by11
      replace bT := bT.trans (by11.mono bT.size)
      replace bo := bo.trans (by11.mono bo.size)
      rw [hb.out]
      go_wp2_with fail
      refine hK.out _ _ (hS _ bo) (fun hHeld => ?_)
      clear hK K
      try simp only [Act.put, List.getElem_toArray, List.getElem_cons_succ, List.getElem_cons_zero, List.setIfInBounds_toArray, List.set_cons_zero, List.set_cons_succ]
      refine wpAnyH_take (i := 7) (v := ?_) rfl (by kernel_rfl) (by kernel_rfl) (by kernel_rfl) (fun _ _ _ h => h) (Or.inl ⟨by rfl, ?_⟩) hHeld ?_
      rotate_left
      · (intro w hSw; (try dsimp only at hSw); go_simp)
        all_goals with_reducible rfl
      try simp only [Act.put, List.getElem_toArray, List.getElem_cons_succ, List.getElem_cons_zero, List.setIfInBounds_toArray, List.set_cons_zero, List.set_cons_succ]
      refine wpAnyH_take (i := 8) (v := ?_) rfl (by kernel_rfl) (by kernel_rfl) (by kernel_rfl) (fun _ _ _ h => h) (Or.inl ⟨by rfl, ?_⟩) hHeld ?_
      rotate_left
      · (intro w hSw; (try dsimp only at hSw); go_simp)
        all_goals with_reducible rfl
      try simp only [Act.put, List.getElem_toArray, List.getElem_cons_succ, List.getElem_cons_zero, List.setIfInBounds_toArray, List.set_cons_zero, List.set_cons_succ]
      refine wpAnyH_take (i := 9) (v := undef) rfl (by kernel_rfl) (by kernel_rfl) (by kernel_rfl) (fun _ _ _ h => h) (Or.inr ⟨by kernel_rfl, rfl⟩) hHeld ?_
      try simp only [Act.put, List.getElem_toArray, List.getElem_cons_succ, List.getElem_cons_zero, List.setIfInBounds_toArray, List.set_cons_zero, List.set_cons_succ]
      refine wpAnyH_take (i := 10) (v := undef) rfl (by kernel_rfl) (by kernel_rfl) (by kernel_rfl) (fun _ _ _ h => h) (Or.inr ⟨by kernel_rfl, rfl⟩) hHeld ?_
      try simp only [Act.put, List.getElem_toArray, List.getElem_cons_succ, List.getElem_cons_zero, List.setIfInBounds_toArray, List.set_cons_zero, List.set_cons_succ]
      refine wpAnyH_take (i := 12) (v := undef) rfl (by kernel_rfl) (by kernel_rfl) (by kernel_rfl) (fun _ _ _ h => h) (Or.inr ⟨by kernel_rfl, rfl⟩) hHeld ?_
      try simp only [Act.put, List.getElem_toArray, List.getElem_cons_succ, List.getElem_cons_zero, List.setIfInBounds_toArray, List.set_cons_zero, List.set_cons_succ]
      refine wpAnyH_take (i := 13) (v := undef) rfl (by kernel_rfl) (by kernel_rfl) (by kernel_rfl) (fun _ _ _ h => h) (Or.inr ⟨by kernel_rfl, rfl⟩) hHeld ?_
      try simp only [Act.put, List.getElem_toArray, List.getElem_cons_succ, List.getElem_cons_zero, List.setIfInBounds_toArray, List.set_cons_zero, List.set_cons_succ]
      refine wpAnyH_ready (rs := [11]) (by kernel_rfl) (by simp) ?_
      refine AllReadyH.cons rfl (fun K hK => ?_) AllReadyH.nil
      go_simp
      refine hK.out _ _ (hS _ bo) (fun hHeld => ?_)
      clear hK K
      try simp only [Act.put, List.getElem_toArray, List.getElem_cons_succ, List.getElem_cons_zero, List.setIfInBounds_toArray, List.set_cons_zero, List.set_cons_succ]
      refine wpAnyH_ready (rs := [14]) (by kernel_rfl) (by simp) ?_
      refine AllReadyH.cons rfl (fun K hK => ?_) AllReadyH.nil
      go_simp
      refine hK.out _ _ (hS _ bo) (fun hHeld => ?_)
      clear hK K
      try simp only [Act.put, List.getElem_toArray, List.getElem_cons_succ, List.getElem_cons_zero, List.setIfInBounds_toArray, List.set_cons_zero, List.set_cons_succ]
      refine wpAnyH_take (i := 15) (v := undef) rfl (by kernel_rfl) (by kernel_rfl) (by kernel_rfl) (fun _ _ _ h => h) (Or.inr ⟨by kernel_rfl, rfl⟩) hHeld ?_
      try simp only [Act.put, List.getElem_toArray, List.getElem_cons_succ, List.getElem_cons_zero, List.setIfInBounds_toArray, List.set_cons_zero, List.set_cons_succ]
      refine wpAnyH_take (i := 16) (v := ?_) rfl (by kernel_rfl) (by kernel_rfl) (by kernel_rfl) (fun _ _ _ h => h) (Or.inl ⟨by rfl, ?_⟩) hHeld ?_
      rotate_left
      · (intro w hSw; (try dsimp only at hSw); go_simp)
        all_goals with_reducible rfl
      try simp only [Act.put, List.getElem_toArray, List.getElem_cons_succ, List.getElem_cons_zero, List.setIfInBounds_toArray, List.set_cons_zero, List.set_cons_succ]
      refine wpAnyH_done (by kernel_rfl) ?_ _
      refine NoPanic.normal ?_
      try go_simp
      clear hHeld
      clear hS dS bo
      clear z0 z1
      have z0 := BP.g0
      have z1 := BP.g1
      clear c0_ c1_ c2_ c3_ c4_ c5_ c6_
      have c0_ : y11.cell? ⟨y1.heap.size, 0, none⟩ = some (.int .i64 1) := by rw [← hst.out]; exact BS.cell 0
      have c1_ : y11.cell? ⟨y1.heap.size, 1, none⟩ = some (.bool p1.d.neg) := BS.cell 1
      have c2_ : y11.cell? ⟨y1.heap.size, 2, none⟩ = some (.slice p1.d.a p1.d.la.length p1.d.ca) := BS.cell 2
      have c3_ : y11.cell? ⟨y1.heap.size, 3, none⟩ = some (.slice p1.d.b p1.d.lb.length p1.d.cb) := BS.cell 3
      have c4_ : y11.cell? ⟨y1.heap.size, 4, none⟩ = some (.slice p1.xa p1.xs.length p1.xc) := BS.cell 4
      have c5_ : y11.cell? ⟨y1.heap.size, 5, none⟩ = some (.slice p1.ya p1.ys.length p1.yc) := BS.cell 5
      have c6_ : y11.cell? ⟨y1.heap.size, 6, none⟩ = some (.slice p1.za p1.zs.length p1.zc) := BS.cell 6
      go_wp2_with fail
      refine (awake19_any _).mono ?_
      rintro e y12 ⟨rfl, by12⟩
      replace BP := BP.keep by12
      replace BS := BS.keep by12
      replace Lg := Lg.below by12
      replace Rr := Rr.below by12
      replace L2 := L2.below by12
      replace hsf := hsf.below by12
      replace fvd := fvd.below by12
      replace bT := bT.trans (by12.mono bT.size)
      go_wp2
      go_ret
      exact ⟨rfl, bT⟩
    · have hwx := Lib.hid (feaB_at hb.out).2.2.1
      have FLx := (L2.fl hwx.out).1
      have FLg := (Lg.fl hwg.out).1
      have fx := Lib.hid (L2.fl hwx.out).2
      have fg := Lib.hid (Lg.fl hwg.out).2
      have hos := opt_sound hop.out hb.out
      obtain ⟨u, hu⟩ : ∃ u, Hid (sumR (prods p0.gs ds2) = u) := ⟨_, rfl⟩
      have hfu := Lib.hid (prods_sum_fits (m := p0.gs.length) fg.out fx.out (Nat.le_refl _))
      rw [hu.out] at hos hfu
      obtain ⟨c, hc⟩ : ∃ c, Hid (cmpR u p1.d.q = c) := ⟨_, rfl⟩
      rw [hc.out] at hos
      have hS : ∀ w', Below y10.heap.size y10 w' → w'.cell? ⟨w.heap.size, 0, none⟩ = some (.slice p0.ga p0.gs.length p0.gc) ∧ w'.cell? ⟨w.heap.size, 1, none⟩ = some (.slice p0.ra p0.rs.length p0.rc) ∧ w'.cell? ⟨y1.heap.size, 0, none⟩ = some (.int .i64 1) ∧ w'.cell? ⟨y1.heap.size, 1, none⟩ = some (.bool p1.d.neg) ∧ w'.cell? ⟨y1.heap.size, 2, none⟩ = some (.slice p1.d.a p1.d.la.length p1.d.ca) ∧ w'.cell? ⟨y1.heap.size, 3, none⟩ = some (.slice p1.d.b p1.d.lb.length p1.d.cb) ∧ w'.cell? ⟨y1.heap.size, 4, none⟩ = some (.slice p1.xa p1.xs.length p1.xc) ∧ w'.cell? ⟨y1.heap.size, 5, none⟩ = some (.slice p1.ya p1.ys.length p1.yc) ∧ w'.cell? ⟨y1.heap.size, 6, none⟩ = some (.slice p1.za p1.zs.length p1.zc) ∧ Below y10.heap.size y10 w' := by
        intro w' o
        have hPw := BP.keep o
        have hSw := BS.keep o
        exact ⟨hPw.g0, hPw.g1, by rw [← hst.out]; exact hSw.cell 0, hSw.cell 1, hSw.cell 2, hSw.cell 3, hSw.cell 4, hSw.cell 5, hSw.cell 6, o⟩
      have bo : Below y10.heap.size y10 y10 := Below.refl _ _
      have dS : Below y10.heap.size y10 y10.drew := bo.drew
      go_wp2_with fail
      refine wp_region_noPanic ?_
      refine wp_region_held_drew (S := fun w' => w'.cell? ⟨w.heap.size, 0, none⟩ = some (.slice p0.ga p0.gs.length p0.gc) ∧ w'.cell? ⟨w.heap.size, 1, none⟩ = some (.slice p0.ra p0.rs.length p0.rc) ∧ w'.cell? ⟨y1.heap.size, 0, none⟩ = some (.int .i64 1) ∧ w'.cell? ⟨y1.heap.size, 1, none⟩ = some (.bool p1.d.neg) ∧ w'.cell? ⟨y1.heap.size, 2, none⟩ = some (.slice p1.d.a p1.d.la.length p1.d.ca) ∧ w'.cell? ⟨y1.heap.size, 3, none⟩ = some (.slice p1.d.b p1.d.lb.length p1.d.cb) ∧ w'.cell? ⟨y1.heap.size, 4, none⟩ = some (.slice p1.xa p1.xs.length p1.xc) ∧ w'.cell? ⟨y1.heap.size, 5, none⟩ = some (.slice p1.ya p1.ys.length p1.yc) ∧ w'.cell? ⟨y1.heap.size, 6, none⟩ = some (.slice p1.za p1.zs.length p1.zc) ∧ Below y10.heap.size y10 w') (by kernel_rfl) (hS _ dS) (fun hHeld => ?_)
      refine wpAnyH_take (i := 0) (v := ?_) rfl (by kernel_rfl) (by kernel_rfl) (by kernel_rfl) (fun _ _ _ h => h) (Or.inl ⟨by rfl, ?_⟩) hHeld ?_
      rotate_left
      · (intro w hSw; (try dsimp only at hSw); go_simp)
        all_goals with_reducible rfl
      try simp only [Act.put, List.getElem_toArray, List.getElem_cons_succ, List.getElem_cons_zero, List.setIfInBounds_toArray, List.set_cons_zero, List.set_cons_succ]
      refine wpAnyH_take (i := 1) (v := ?_) rfl (by kernel_rfl) (by kernel_rfl) (by kernel_rfl) (fun _ _ _ h => h) (Or.inl ⟨by rfl, ?_⟩) hHeld ?_
      rotate_left
      · (intro w hSw; (try dsimp only at hSw); go_simp)
        all_goals with_reducible rfl
      try simp only [Act.put, List.getElem_toArray, List.getElem_cons_succ, List.getElem_cons_zero, List.setIfInBounds_toArray, List.set_cons_zero, List.set_cons_succ]
      refine wpAnyH_take (i := 2) (v := ?_) rfl (by kernel_rfl) (by kernel_rfl) (by kernel_rfl) (fun _ _ _ h => h) (Or.inl ⟨by rfl, ?_⟩) hHeld ?_
      rotate_left
      · (intro w hSw; (try dsimp only at hSw); go_simp)
        all_goals with_reducible rfl
      try simp only [Act.put, List.getElem_toArray, List.getElem_cons_succ, List.getElem_cons_zero, List.setIfInBounds_toArray, List.set_cons_zero, List.set_cons_succ]
      refine wpAnyH_take (i := 3) (v := ?_) rfl (by kernel_rfl) (by kernel_rfl) (by kernel_rfl) (fun _ _ _ h => h) (Or.inl ⟨by rfl, ?_⟩) hHeld ?_
      rotate_left
      · (intro w hSw; (try dsimp only at hSw); go_simp)
        all_goals with_reducible rfl
      try simp only [Act.put, List.getElem_toArray, List.getElem_cons_succ, List.getElem_cons_zero, List.setIfInBounds_toArray, List.set_cons_zero, List.set_cons_succ]
      refine wpAnyH_take (i := 4) (v := ?_) rfl (by kernel_rfl) (by kernel_rfl) (by kernel_rfl) (fun _ _ _ h => h) (Or.inl ⟨by rfl, ?_⟩) hHeld ?_
      rotate_left
      · (intro w hSw; (try dsimp only at hSw); go_simp)
        all_goals with_reducible rfl
      try simp only [Act.put, List.getElem_toArray, List.getElem_cons_succ, List.getElem_cons_zero, List.setIfInBounds_toArray, List.set_cons_zero, List.set_cons_succ]
      refine wpAnyH_take (i := 5) (v := ?_) rfl (by kernel_rfl) (by kernel_rfl) (by kernel_rfl) (fun _ _ _ h => h) (Or.inl ⟨by rfl, ?_⟩) hHeld ?_
      rotate_left
      · (intro w hSw; (try dsimp only at hSw); go_simp)
        all_goals with_reducible rfl
      try simp only [Act.put, List.getElem_toArray, List.getElem_cons_succ, List.getElem_cons_zero, List.setIfInBounds_toArray, List.set_cons_zero, List.set_cons_succ]
      refine wpAnyH_ready (rs := [6]) (by kernel_rfl) (by simp) ?_
      refine AllReadyH.cons rfl (fun K hK => ?_) AllReadyH.nil
      go_simp
      have dw12 : Below y10.heap.size y10 y10.drew := (Below.refl _ _).drew
      replace BP := BP.keep dw12
      replace BS := BS.keep dw12
      replace Lg := Lg.below dw12
      replace Rr := Rr.below dw12
      replace L2 := L2.below dw12
      replace hsf := hsf.below dw12
      replace fvd := fvd.below dw12
      replace FLx := FLx.below dw12
      replace FLg := FLg.below dw12
      replace bT := bT.trans (dw12.mono bT.size)
      replace bo := bo.trans (dw12.mono bo.size)
      go_at_call 12
      refine (refFeasible_any Lg Rr L2 (by omega)).mono ?_
      rintro e y13 ⟨rfl, by13⟩
      replace BP := BP.keep by13
      replace BS := BS.keep by13
      replace Lg := Lg.below by13
      replace Rr := Rr.below by13
      replace L2 := L2.below by13
      replace hsf := hsf.below by13
      replace fvd := fvd.below by13
      replace FLx := FLx.below by13
      replace FLg := FLg.below by13
      replace bT := bT.trans (by13.mono bT.size)
      replace bo := bo.trans (by13.mono bo.size)
      rw [hb.out]
      go_wp2_with fail
      refine hK.out _ _ (hS _ bo) (fun hHeld => ?_)
      clear hK K
      try simp only [Act.put, List.getElem_toArray, List.getElem_cons_succ, List.getElem_cons_zero, List.setIfInBounds_toArray, List.set_cons_zero, List.set_cons_succ]
      refine wpAnyH_take (i := 7) (v := ?_) rfl (by kernel_rfl) (by kernel_rfl) (by kernel_rfl) (fun _ _ _ h => h) (Or.inl ⟨by rfl, ?_⟩) hHeld ?_
      rotate_left
      · (intro w hSw; (try dsimp only at hSw); go_simp)
        all_goals with_reducible rfl
      try simp only [Act.put, List.getElem_toArray, List.getElem_cons_succ, List.getElem_cons_zero, List.setIfInBounds_toArray, List.set_cons_zero, List.set_cons_succ]
      refine wpAnyH_take (i := 8) (v := ?_) rfl (by kernel_rfl) (by kernel_rfl) (by kernel_rfl) (fun _ _ _ h => h) (Or.inl ⟨by rfl, ?_⟩) hHeld ?_
      rotate_left
      · (intro w hSw; (try dsimp only at hSw); go_simp)
        all_goals with_reducible rfl
      try simp only [Act.put, List.getElem_toArray, List.getElem_cons_succ, List.getElem_cons_zero, List.setIfInBounds_toArray, List.set_cons_zero, List.set_cons_succ]
      refine wpAnyH_take (i := 9) (v := ?_) rfl (by kernel_rfl) (by kernel_rfl) (by kernel_rfl) (fun _ _ _ h => h) (Or.inl ⟨by rfl, ?_⟩) hHeld ?_
      rotate_left
      · (intro w hSw; (try dsimp only at hSw); go_simp)
        all_goals with_reducible rfl
      try simp only [Act.put, List.getElem_toArray, List.getElem_cons_succ, List.getElem_cons_zero, List.setIfInBounds_toArray, List.set_cons_zero, List.set_cons_succ]
      refine wpAnyH_take (i := 10) (v := ?_) rfl (by kernel_rfl) (by kernel_rfl) (by kernel_rfl) (fun _ _ _ h => h) (Or.inl ⟨by rfl, ?_⟩) hHeld ?_
      rotate_left
      · (intro w hSw; (try dsimp only at hSw); go_simp)
        all_goals with_reducible rfl
      try simp only [Act.put, List.getElem_toArray, List.getElem_cons_succ, List.getElem_cons_zero, List.setIfInBounds_toArray, List.set_cons_zero, List.set_cons_succ]
      refine wpAnyH_take (i := 12) (v := ?_) rfl (by kernel_rfl) (by kernel_rfl) (by kernel_rfl) (fun _ _ _ h => h) (Or.inl ⟨by rfl, ?_⟩) hHeld ?_
      rotate_left
      · (intro w hSw; (try dsimp only at hSw); go_simp)
        all_goals with_reducible rfl
      try simp only [Act.put, List.getElem_toArray, List.getElem_cons_succ, List.getElem_cons_zero, List.setIfInBounds_toArray, List.set_cons_zero, List.set_cons_succ]
      refine wpAnyH_take (i := 13) (v := ?_) rfl (by kernel_rfl) (by kernel_rfl) (by kernel_rfl) (fun _ _ _ h => h) (Or.inl ⟨by rfl, ?_⟩) hHeld ?_
      rotate_left
      · (intro w hSw; (try dsimp only at hSw); go_simp)
        all_goals with_reducible rfl
      try simp only [Act.put, List.getElem_toArray, List.getElem_cons_succ, List.getElem_cons_zero, List.setIfInBounds_toArray, List.set_cons_zero, List.set_cons_succ]
      refine wpAnyH_ready (rs := [11]) (by kernel_rfl) (by simp) ?_
      refine AllReadyH.cons rfl (fun K hK => ?_) AllReadyH.nil
      go_simp
      go_at_call 14
      refine (refValue_any FLg FLx fg.out fx.out (by omega)).mono ?_
      rintro e y14 ⟨v3, rfl, fv3, by14⟩
      replace BP := BP.keep by14
      replace BS := BS.keep by14
      replace Lg := Lg.below by14
      replace Rr := Rr.below by14
      replace L2 := L2.below by14
      replace hsf := hsf.below by14
      replace fvd := fvd.below by14
      replace FLx := FLx.below by14
      replace FLg := FLg.below by14
      replace bT := bT.trans (by14.mono bT.size)
      replace bo := bo.trans (by14.mono bo.size)
      rw [hu.out] at fv3
      go_wp2_with fail
      refine hK.out _ _ (hS _ bo) (fun hHeld => ?_)
      clear hK K
      try simp only [Act.put, List.getElem_toArray, List.getElem_cons_succ, List.getElem_cons_zero, List.setIfInBounds_toArray, List.set_cons_zero, List.set_cons_succ]
      refine wpAnyH_ready (rs := [14]) (by kernel_rfl) (by simp) ?_
      refine AllReadyH.cons rfl (fun K hK => ?_) AllReadyH.nil
      go_simp
      go_at_call 13
      refine (refCmpF_any fv3 fvd hfu.out fid.out (by omega)).mono ?_
      rintro e y15 ⟨rfl, by15⟩
      replace BP := BP.keep by15
      replace BS := BS.keep by15
      replace Lg := Lg.below by15
      replace Rr := Rr.below by15
      replace L2 := L2.below by15
      replace hsf := hsf.below by15
      replace fvd := fvd.below by15
      replace FLx := FLx.below by15
      replace FLg := FLg.below by15
      replace fv3 := fv3.below by15
      replace bT := bT.trans (by15.mono bT.size)
      replace bo := bo.trans (by15.mono bo.size)
      rw [hc.out]
      clear fv3
      go_wp2_with fail
      refine hK.out _ _ (hS _ bo) (fun hHeld => ?_)
      clear hK K
      try simp only [Act.put, List.getElem_toArray, List.getElem_cons_succ, List.getElem_cons_zero, List.setIfInBounds_toArray, List.set_cons_zero, List.set_cons_succ]
      refine wpAnyH_take (i := 15) (v := ?_) rfl (by kernel_rfl) (by kernel_rfl) (by kernel_rfl) (fun _ _ _ h => h) (Or.inl ⟨by rfl, ?_⟩) hHeld ?_
      rotate_left
      · (intro w hSw; (try dsimp only at hSw); go_simp)
        all_goals with_reducible rfl
      try simp only [Act.put, List.getElem_toArray, List.getElem_cons_succ, List.getElem_cons_zero, List.setIfInBounds_toArray, List.set_cons_zero, List.set_cons_succ]
      refine wpAnyH_take (i := 16) (v := ?_) rfl (by kernel_rfl) (by kernel_rfl) (by kernel_rfl) (fun _ _ _ h => h) (Or.inl ⟨by rfl, ?_⟩) hHeld ?_
      rotate_left
      · (intro w hSw; (try dsimp only at hSw); go_simp)
        all_goals with_reducible rfl
      try simp only [Act.put, List.getElem_toArray, List.getElem_cons_succ, List.getElem_cons_zero, List.setIfInBounds_toArray, List.set_cons_zero, List.set_cons_succ]
      refine wpAnyH_done (by kernel_rfl) ?_ _
      refine NoPanic.normal ?_
      try go_simp
      clear hHeld
      clear hS dS bo
      clear z0 z1
      have z0 := BP.g0
      have z1 := BP.g1
      clear c0_ c1_ c2_ c3_ c4_ c5_ c6_
      have c0_ : y15.cell? ⟨y1.heap.size, 0, none⟩ = some (.int .i64 1) := by rw [← hst.out]; exact BS.cell 0
      have c1_ : y15.cell? ⟨y1.heap.size, 1, none⟩ = some (.bool p1.d.neg) := BS.cell 1
      have c2_ : y15.cell? ⟨y1.heap.size, 2, none⟩ = some (.slice p1.d.a p1.d.la.length p1.d.ca) := BS.cell 2
      have c3_ : y15.cell? ⟨y1.heap.size, 3, none⟩ = some (.slice p1.d.b p1.d.lb.length p1.d.cb) := BS.cell 3
      have c4_ : y15.cell? ⟨y1.heap.size, 4, none⟩ = some (.slice p1.xa p1.xs.length p1.xc) := BS.cell 4
      have c5_ : y15.cell? ⟨y1.heap.size, 5, none⟩ = some (.slice p1.ya p1.ys.length p1.yc) := BS.cell 5
      have c6_ : y15.cell? ⟨y1.heap.size, 6, none⟩ = some (.slice p1.za p1.zs.length p1.zc) := BS.cell 6
      go_wp2_with fail
      refine (awake19_any _).mono ?_
      rintro e y16 ⟨rfl, by16⟩
      replace BP := BP.keep by16
      replace BS := BS.keep by16
      replace Lg := Lg.below by16
      replace Rr := Rr.below by16
      replace L2 := L2.below by16
      replace hsf := hsf.below by16
      replace fvd := fvd.below by16
      replace FLx := FLx.below by16
      replace FLg := FLg.below by16
      replace bT := bT.trans (by16.mono bT.size)
      go_wp2
      go_ret
      exact ⟨rfl, bT⟩
  by_cases h2 : p1.st = 2
  · have hst := Lib.hid h2
    have hop := Lib.hid (show emptyB p0.gs p0.rs p1.ys = true by have := hpv'.out; unfold provenB at this; rw [if_neg h1, if_pos h2] at this; exact this)
    clear h1 h2
    clear z0 z1
    have z0 := BP.g0
    have z1 := BP.g1
    clear c0_ c1_ c2_ c3_ c4_ c5_ c6_
    have c0_ : y10.cell? ⟨y1.heap.size, 0, none⟩ = some (.int .i64 2) := by rw [← hst.out]; exact BS.cell 0
    have c1_ : y10.cell? ⟨y1.heap.size, 1, none⟩ = some (.bool p1.d.neg) := BS.cell 1
    have c2_ : y10.cell? ⟨y1.heap.size, 2, none⟩ = some (.slice p1.d.a p1.d.la.length p1.d.ca) := BS.cell 2
    have c3_ : y10.cell? ⟨y1.heap.size, 3, none⟩ = some (.slice p1.d.b p1.d.lb.length p1.d.cb) := BS.cell 3
    have c4_ : y10.cell? ⟨y1.heap.size, 4, none⟩ = some (.slice p1.xa p1.xs.length p1.xc) := BS.cell 4
    have c5_ : y10.cell? ⟨y1.heap.size, 5, none⟩ = some (.slice p1.ya p1.ys.length p1.yc) := BS.cell 5
    have c6_ : y10.cell? ⟨y1.heap.size, 6, none⟩ = some (.slice p1.za p1.zs.length p1.zc) := BS.cell 6
    have hS : ∀ w', Below y10.heap.size y10 w' → w'.cell? ⟨w.heap.size, 0, none⟩ = some (.slice p0.ga p0.gs.length p0.gc) ∧ w'.cell? ⟨w.heap.size, 1, none⟩ = some (.slice p0.ra p0.rs.length p0.rc) ∧ w'.cell? ⟨y1.heap.size, 0, none⟩ = some (.int .i64 2) ∧ w'.cell? ⟨y1.heap.size, 1, none⟩ = some (.bool p1.d.neg) ∧ w'.cell? ⟨y1.heap.size, 2, none⟩ = some (.slice p1.d.a p1.d.la.length p1.d.ca) ∧ w'.cell? ⟨y1.heap.size, 3, none⟩ = some (.slice p1.d.b p1.d.lb.length p1.d.cb) ∧ w'.cell? ⟨y1.heap.size, 4, none⟩ = some (.slice p1.xa p1.xs.length p1.xc) ∧ w'.cell? ⟨y1.heap.size, 5, none⟩ = some (.slice p1.ya p1.ys.length p1.yc) ∧ w'.cell? ⟨y1.heap.size, 6, none⟩ = some (.slice p1.za p1.zs.length p1.zc) ∧ Below y10.heap.size y10 w' := by
      intro w' o
      have hPw := BP.keep o
      have hSw := BS.keep o
      exact ⟨hPw.g0, hPw.g1, by rw [← hst.out]; exact hSw.cell 0, hSw.cell 1, hSw.cell 2, hSw.cell 3, hSw.cell 4, hSw.cell 5, hSw.cell 6, o⟩
    have bo : Below y10.heap.size y10 y10 := Below.refl _ _
    have dS : Below y10.heap.size y10 y10.drew := bo.drew
    go_wp2_with fail
    refine wp_region_noPanic ?_
    refine wp_region_held_drew (S := fun w' => w'.cell? ⟨w.heap.size, 0, none⟩ = some (.slice p0.ga p0.gs.length p0.gc) ∧ w'.cell? ⟨w.heap.size, 1, none⟩ = some (.slice p0.ra p0.rs.length p0.rc) ∧ w'.cell? ⟨y1.heap.size, 0, none⟩ = some (.int .i64 2) ∧ w'.cell? ⟨y1.heap.size, 1, none⟩ = some (.bool p1.d.neg) ∧ w'.cell? ⟨y1.heap.size, 2, none⟩ = some (.slice p1.d.a p1.d.la.length p1.d.ca) ∧ w'.cell? ⟨y1.heap.size, 3, none⟩ = some (.slice p1.d.b p1.d.lb.length p1.d.cb) ∧ w'.cell? ⟨y1.heap.size, 4, none⟩ = some (.slice p1.xa p1.xs.length p1.xc) ∧ w'.cell? ⟨y1.heap.size, 5, none⟩ = some (.slice p1.ya p1.ys.length p1.yc) ∧ w'.cell? ⟨y1.heap.size, 6, none⟩ = some (.slice p1.za p1.zs.length p1.zc) ∧ Below y10.heap.size y10 w') (by kernel_rfl) (hS _ dS) (fun hHeld => ?_)
    refine wpAnyH_take (i := 0) (v := ?_) rfl (by kernel_rfl) (by kernel_rfl) (by kernel_rfl) (fun _ _ _ h => h) (Or.inl ⟨by rfl, ?_⟩) hHeld ?_
    rotate_left
    · (intro w hSw; (try dsimp only at hSw); go_simp)
      all_goals with_reducible rfl
    try simp only [Act.put, List.getElem_toArray, List.getElem_cons_succ, List.getElem_cons_zero, List.setIfInBounds_toArray, List.set_cons_zero, List.set_cons_succ]
    refine wpAnyH_take (i := 1) (v := ?_) rfl (by kernel_rfl) (by kernel_rfl) (by kernel_rfl) (fun _ _ _ h => h) (Or.inl ⟨by rfl, ?_⟩) hHeld ?_
    rotate_left
    · (intro w hSw; (try dsimp only at hSw); go_simp)
      all_goals with_reducible rfl
    try simp only [Act.put, List.getElem_toArray, List.getElem_cons_succ, List.getElem_cons_zero, List.setIfInBounds_toArray, List.set_cons_zero, List.set_cons_succ]
    refine wpAnyH_take (i := 2) (v := ?_) rfl (by kernel_rfl) (by kernel_rfl) (by kernel_rfl) (fun _ _ _ h => h) (Or.inl ⟨by rfl, ?_⟩) hHeld ?_
    rotate_left
    · (intro w hSw; (try dsimp only at hSw); go_simp)
      all_goals with_reducible rfl
    try simp only [Act.put, List.getElem_toArray, List.getElem_cons_succ, List.getElem_cons_zero, List.setIfInBounds_toArray, List.set_cons_zero, List.set_cons_succ]
    refine wpAnyH_take (i := 3) (v := ?_) rfl (by kernel_rfl) (by kernel_rfl) (by kernel_rfl) (fun _ _ _ h => h) (Or.inl ⟨by rfl, ?_⟩) hHeld ?_
    rotate_left
    · (intro w hSw; (try dsimp only at hSw); go_simp)
      all_goals with_reducible rfl
    try simp only [Act.put, List.getElem_toArray, List.getElem_cons_succ, List.getElem_cons_zero, List.setIfInBounds_toArray, List.set_cons_zero, List.set_cons_succ]
    refine wpAnyH_take (i := 4) (v := undef) rfl (by kernel_rfl) (by kernel_rfl) (by kernel_rfl) (fun _ _ _ h => h) (Or.inr ⟨by kernel_rfl, rfl⟩) hHeld ?_
    try simp only [Act.put, List.getElem_toArray, List.getElem_cons_succ, List.getElem_cons_zero, List.setIfInBounds_toArray, List.set_cons_zero, List.set_cons_succ]
    refine wpAnyH_take (i := 5) (v := undef) rfl (by kernel_rfl) (by kernel_rfl) (by kernel_rfl) (fun _ _ _ h => h) (Or.inr ⟨by kernel_rfl, rfl⟩) hHeld ?_
    try simp only [Act.put, List.getElem_toArray, List.getElem_cons_succ, List.getElem_cons_zero, List.setIfInBounds_toArray, List.set_cons_zero, List.set_cons_succ]
    refine wpAnyH_ready (rs := [6]) (by kernel_rfl) (by simp) ?_
    refine AllReadyH.cons rfl (fun K hK => ?_) AllReadyH.nil
    go_simp
    refine hK.out _ _ (hS _ bo.drew) (fun hHeld => ?_)
    clear hK K
    try simp only [Act.put, List.getElem_toArray, List.getElem_cons_succ, List.getElem_cons_zero, List.setIfInBounds_toArray, List.set_cons_zero, List.set_cons_succ]
    refine wpAnyH_take (i := 7) (v := ?_) rfl (by kernel_rfl) (by kernel_rfl) (by kernel_rfl) (fun _ _ _ h => h) (Or.inl ⟨by rfl, ?_⟩) hHeld ?_
    rotate_left
    · (intro w hSw; (try dsimp only at hSw); go_simp)
      all_goals with_reducible rfl
    try simp only [Act.put, List.getElem_toArray, List.getElem_cons_succ, List.getElem_cons_zero, List.setIfInBounds_toArray, List.set_cons_zero, List.set_cons_succ]
    refine wpAnyH_take (i := 8) (v := ?_) rfl (by kernel_rfl) (by kernel_rfl) (by kernel_rfl) (fun _ _ _ h => h) (Or.inl ⟨by rfl, ?_⟩) hHeld ?_
    rotate_left
    · (intro w hSw; (try dsimp only at hSw); go_simp)
      all_goals with_reducible rfl
    try simp only [Act.put, List.getElem_toArray, List.getElem_cons_succ, List.getElem_cons_zero, List.setIfInBounds_toArray, List.set_cons_zero, List.set_cons_succ]
    refine wpAnyH_take (i := 9) (v := undef) rfl (by kernel_rfl) (by kernel_rfl) (by kernel_rfl) (fun _ _ _ h => h) (Or.inr ⟨by kernel_rfl, rfl⟩) hHeld ?_
    try simp only [Act.put, List.getElem_toArray, List.getElem_cons_succ, List.getElem_cons_zero, List.setIfInBounds_toArray, List.set_cons_zero, List.set_cons_succ]
    refine wpAnyH_take (i := 10) (v := undef) rfl (by kernel_rfl) (by kernel_rfl) (by kernel_rfl) (fun _ _ _ h => h) (Or.inr ⟨by kernel_rfl, rfl⟩) hHeld ?_
    try simp only [Act.put, List.getElem_toArray, List.getElem_cons_succ, List.getElem_cons_zero, List.setIfInBounds_toArray, List.set_cons_zero, List.set_cons_succ]
    refine wpAnyH_take (i := 12) (v := undef) rfl (by kernel_rfl) (by kernel_rfl) (by kernel_rfl) (fun _ _ _ h => h) (Or.inr ⟨by kernel_rfl, rfl⟩) hHeld ?_
    try simp only [Act.put, List.getElem_toArray, List.getElem_cons_succ, List.getElem_cons_zero, List.setIfInBounds_toArray, List.set_cons_zero, List.set_cons_succ]
    refine wpAnyH_take (i := 13) (v := undef) rfl (by kernel_rfl) (by kernel_rfl) (by kernel_rfl) (fun _ _ _ h => h) (Or.inr ⟨by kernel_rfl, rfl⟩) hHeld ?_
    try simp only [Act.put, List.getElem_toArray, List.getElem_cons_succ, List.getElem_cons_zero, List.setIfInBounds_toArray, List.set_cons_zero, List.set_cons_succ]
    refine wpAnyH_ready (rs := [11]) (by kernel_rfl) (by simp) ?_
    refine AllReadyH.cons rfl (fun K hK => ?_) AllReadyH.nil
    go_simp
    refine hK.out _ _ (hS _ bo.drew) (fun hHeld => ?_)
    clear hK K
    try simp only [Act.put, List.getElem_toArray, List.getElem_cons_succ, List.getElem_cons_zero, List.setIfInBounds_toArray, List.set_cons_zero, List.set_cons_succ]
    refine wpAnyH_ready (rs := [14]) (by kernel_rfl) (by simp) ?_
    refine AllReadyH.cons rfl (fun K hK => ?_) AllReadyH.nil
    go_simp
    refine hK.out _ _ (hS _ bo.drew) (fun hHeld => ?_)
    clear hK K
    try simp only [Act.put, List.getElem_toArray, List.getElem_cons_succ, List.getElem_cons_zero, List.setIfInBounds_toArray, List.set_cons_zero, List.set_cons_succ]
    refine wpAnyH_take (i := 15) (v := undef) rfl (by kernel_rfl) (by kernel_rfl) (by kernel_rfl) (fun _ _ _ h => h) (Or.inr ⟨by kernel_rfl, rfl⟩) hHeld ?_
    try simp only [Act.put, List.getElem_toArray, List.getElem_cons_succ, List.getElem_cons_zero, List.setIfInBounds_toArray, List.set_cons_zero, List.set_cons_succ]
    refine wpAnyH_take (i := 16) (v := ?_) rfl (by kernel_rfl) (by kernel_rfl) (by kernel_rfl) (fun _ _ _ h => h) (Or.inl ⟨by rfl, ?_⟩) hHeld ?_
    rotate_left
    · (intro w hSw; (try dsimp only at hSw); go_simp)
      all_goals with_reducible rfl
    try simp only [Act.put, List.getElem_toArray, List.getElem_cons_succ, List.getElem_cons_zero, List.setIfInBounds_toArray, List.set_cons_zero, List.set_cons_succ]
    refine wpAnyH_done (by kernel_rfl) ?_ _
    refine NoPanic.normal ?_
    try go_simp
    clear hHeld
    clear hS dS bo
    have dw : Below y10.heap.size y10 y10.drew := (Below.refl _ _).drew
    replace BP := BP.keep dw
    replace BS := BS.keep dw
    replace Lg := Lg.below dw
    replace Rr := Rr.below dw
    replace L2 := L2.below dw
    replace hsf := hsf.below dw
    replace bT := bT.trans (dw.mono bT.size)
    have hfe := empty_sound (es := ds2) hop.out
    go_wp2_with fail
    refine (refFeasible_any Lg Rr L2 (by omega)).mono ?_
    rintro e y17 ⟨rfl, by17⟩
    replace BP := BP.keep by17
    replace BS := BS.keep by17
    replace Lg := Lg.below by17
    replace Rr := Rr.below by17
    replace L2 := L2.below by17
    replace hsf := hsf.below by17
    replace bT := bT.trans (by17.mono bT.size)
    rw [hfe]
    clear hfe
    clear z0 z1
    have z0 := BP.g0
    have z1 := BP.g1
    clear c0_ c1_ c2_ c3_ c4_ c5_ c6_
    have c0_ : y17.cell? ⟨y1.heap.size, 0, none⟩ = some (.int .i64 2) := by rw [← hst.out]; exact BS.cell 0
    have c1_ : y17.cell? ⟨y1.heap.size, 1, none⟩ = some (.bool p1.d.neg) := BS.cell 1
    have c2_ : y17.cell? ⟨y1.heap.size, 2, none⟩ = some (.slice p1.d.a p1.d.la.length p1.d.ca) := BS.cell 2
    have c3_ : y17.cell? ⟨y1.heap.size, 3, none⟩ = some (.slice p1.d.b p1.d.lb.length p1.d.cb) := BS.cell 3
    have c4_ : y17.cell? ⟨y1.heap.size, 4, none⟩ = some (.slice p1.xa p1.xs.length p1.xc) := BS.cell 4
    have c5_ : y17.cell? ⟨y1.heap.size, 5, none⟩ = some (.slice p1.ya p1.ys.length p1.yc) := BS.cell 5
    have c6_ : y17.cell? ⟨y1.heap.size, 6, none⟩ = some (.slice p1.za p1.zs.length p1.zc) := BS.cell 6
    go_wp2_with fail
    refine (awake19_any _).mono ?_
    rintro e y18 ⟨rfl, by18⟩
    replace BP := BP.keep by18
    replace BS := BS.keep by18
    replace Lg := Lg.below by18
    replace Rr := Rr.below by18
    replace L2 := L2.below by18
    replace hsf := hsf.below by18
    replace bT := bT.trans (by18.mono bT.size)
    go_wp2
    go_ret
    exact ⟨rfl, bT⟩
  by_cases h3 : p1.st = 3
  · have hst := Lib.hid h3
    have hop := Lib.hid (show (feaB p0.gs p0.rs p1.xs && endB p0.gs p0.rs p1.zs) = true by have := hpv'.out; unfold provenB at this; rw [if_neg h1, if_neg h2, if_pos h3] at this; exact this)
    clear h1 h2 h3
    have hfx := Lib.hid (show feaB p0.gs p0.rs p1.xs = true by have := hop.out; rw [Bool.and_eq_true] at this; exact this.1)
    have hez := Lib.hid (show endB p0.gs p0.rs p1.zs = true by have := hop.out; rw [Bool.and_eq_true] at this; exact this.2)
    have hwx := Lib.hid (feaB_at hfx.out).2.2.1
    have hwz := Lib.hid (endB_at hez.out).1
    have hlx := Lib.hid (feaB_at hfx.out).2.2.2
    have hlz := Lib.hid (endB_at hez.out).2
    clear hop
    have FLx := (hsf.x.fl hwx.out).1
    have FLz := (hsf.z.fl hwz.out).1
    have fx := Lib.hid (hsf.x.fl hwx.out).2
    have fz := Lib.hid (hsf.z.fl hwz.out).2
    clear z0 z1
    have z0 := BP.g0
    have z1 := BP.g1
    clear c0_ c1_ c2_ c3_ c4_ c5_ c6_
    have c0_ : y10.cell? ⟨y1.heap.size, 0, none⟩ = some (.int .i64 3) := by rw [← hst.out]; exact BS.cell 0
    have c1_ : y10.cell? ⟨y1.heap.size, 1, none⟩ = some (.bool p1.d.neg) := BS.cell 1
    have c2_ : y10.cell? ⟨y1.heap.size, 2, none⟩ = some (.slice p1.d.a p1.d.la.length p1.d.ca) := BS.cell 2
    have c3_ : y10.cell? ⟨y1.heap.size, 3, none⟩ = some (.slice p1.d.b p1.d.lb.length p1.d.cb) := BS.cell 3
    have c4_ : y10.cell? ⟨y1.heap.size, 4, none⟩ = some (.slice p1.xa p1.xs.length p1.xc) := BS.cell 4
    have c5_ : y10.cell? ⟨y1.heap.size, 5, none⟩ = some (.slice p1.ya p1.ys.length p1.yc) := BS.cell 5
    have c6_ : y10.cell? ⟨y1.heap.size, 6, none⟩ = some (.slice p1.za p1.zs.length p1.zc) := BS.cell 6
    have hS : ∀ w', Below y10.heap.size y10 w' → w'.cell? ⟨w.heap.size, 0, none⟩ = some (.slice p0.ga p0.gs.length p0.gc) ∧ w'.cell? ⟨w.heap.size, 1, none⟩ = some (.slice p0.ra p0.rs.length p0.rc) ∧ w'.cell? ⟨y1.heap.size, 0, none⟩ = some (.int .i64 3) ∧ w'.cell? ⟨y1.heap.size, 1, none⟩ = some (.bool p1.d.neg) ∧ w'.cell? ⟨y1.heap.size, 2, none⟩ = some (.slice p1.d.a p1.d.la.length p1.d.ca) ∧ w'.cell? ⟨y1.heap.size, 3, none⟩ = some (.slice p1.d.b p1.d.lb.length p1.d.cb) ∧ w'.cell? ⟨y1.heap.size, 4, none⟩ = some (.slice p1.xa p1.xs.length p1.xc) ∧ w'.cell? ⟨y1.heap.size, 5, none⟩ = some (.slice p1.ya p1.ys.length p1.yc) ∧ w'.cell? ⟨y1.heap.size, 6, none⟩ = some (.slice p1.za p1.zs.length p1.zc) ∧ Below y10.heap.size y10 w' := by
      intro w' o
      have hPw := BP.keep o
      have hSw := BS.keep o
      exact ⟨hPw.g0, hPw.g1, by rw [← hst.out]; exact hSw.cell 0, hSw.cell 1, hSw.cell 2, hSw.cell 3, hSw.cell 4, hSw.cell 5, hSw.cell 6, o⟩
    have bo : Below y10.heap.size y10 y10 := Below.refl _ _
    have dS : Below y10.heap.size y10 y10.drew := bo.drew
    go_wp2_with fail
    refine wp_region_noPanic ?_
    refine wp_region_held_drew (S := fun w' => w'.cell? ⟨w.heap.size, 0, none⟩ = some (.slice p0.ga p0.gs.length p0.gc) ∧ w'.cell? ⟨w.heap.size, 1, none⟩ = some (.slice p0.ra p0.rs.length p0.rc) ∧ w'.cell? ⟨y1.heap.size, 0, none⟩ = some (.int .i64 3) ∧ w'.cell? ⟨y1.heap.size, 1, none⟩ = some (.bool p1.d.neg) ∧ w'.cell? ⟨y1.heap.size, 2, none⟩ = some (.slice p1.d.a p1.d.la.length p1.d.ca) ∧ w'.cell? ⟨y1.heap.size, 3, none⟩ = some (.slice p1.d.b p1.d.lb.length p1.d.cb) ∧ w'.cell? ⟨y1.heap.size, 4, none⟩ = some (.slice p1.xa p1.xs.length p1.xc) ∧ w'.cell? ⟨y1.heap.size, 5, none⟩ = some (.slice p1.ya p1.ys.length p1.yc) ∧ w'.cell? ⟨y1.heap.size, 6, none⟩ = some (.slice p1.za p1.zs.length p1.zc) ∧ Below y10.heap.size y10 w') (by kernel_rfl) (hS _ dS) (fun hHeld => ?_)
    refine wpAnyH_take (i := 0) (v := ?_) rfl (by kernel_rfl) (by kernel_rfl) (by kernel_rfl) (fun _ _ _ h => h) (Or.inl ⟨by rfl, ?_⟩) hHeld ?_
    rotate_left
    · (intro w hSw; (try dsimp only at hSw); go_simp)
      all_goals with_reducible rfl
    try simp only [Act.put, List.getElem_toArray, List.getElem_cons_succ, List.getElem_cons_zero, List.setIfInBounds_toArray, List.set_cons_zero, List.set_cons_succ]
    refine wpAnyH_take (i := 1) (v := ?_) rfl (by kernel_rfl) (by kernel_rfl) (by kernel_rfl) (fun _ _ _ h => h) (Or.inl ⟨by rfl, ?_⟩) hHeld ?_
    rotate_left
    · (intro w hSw; (try dsimp only at hSw); go_simp)
      all_goals with_reducible rfl
    try simp only [Act.put, List.getElem_toArray, List.getElem_cons_succ, List.getElem_cons_zero, List.setIfInBounds_toArray, List.set_cons_zero, List.set_cons_succ]
    refine wpAnyH_take (i := 2) (v := ?_) rfl (by kernel_rfl) (by kernel_rfl) (by kernel_rfl) (fun _ _ _ h => h) (Or.inl ⟨by rfl, ?_⟩) hHeld ?_
    rotate_left
    · (intro w hSw; (try dsimp only at hSw); go_simp)
      all_goals with_reducible rfl
    try simp only [Act.put, List.getElem_toArray, List.getElem_cons_succ, List.getElem_cons_zero, List.setIfInBounds_toArray, List.set_cons_zero, List.set_cons_succ]
    refine wpAnyH_take (i := 3) (v := ?_) rfl (by kernel_rfl) (by kernel_rfl) (by kernel_rfl) (fun _ _ _ h => h) (Or.inl ⟨by rfl, ?_⟩) hHeld ?_
    rotate_left
    · (intro w hSw; (try dsimp only at hSw); go_simp)
      all_goals with_reducible rfl
    try simp only [Act.put, List.getElem_toArray, List.getElem_cons_succ, List.getElem_cons_zero, List.setIfInBounds_toArray, List.set_cons_zero, List.set_cons_succ]
    refine wpAnyH_take (i := 4) (v := undef) rfl (by kernel_rfl) (by kernel_rfl) (by kernel_rfl) (fun _ _ _ h => h) (Or.inr ⟨by kernel_rfl, rfl⟩) hHeld ?_
    try simp only [Act.put, List.getElem_toArray, List.getElem_cons_succ, List.getElem_cons_zero, List.setIfInBounds_toArray, List.set_cons_zero, List.set_cons_succ]
    refine wpAnyH_take (i := 5) (v := undef) rfl (by kernel_rfl) (by kernel_rfl) (by kernel_rfl) (fun _ _ _ h => h) (Or.inr ⟨by kernel_rfl, rfl⟩) hHeld ?_
    try simp only [Act.put, List.getElem_toArray, List.getElem_cons_succ, List.getElem_cons_zero, List.setIfInBounds_toArray, List.set_cons_zero, List.set_cons_succ]
    refine wpAnyH_ready (rs := [6]) (by kernel_rfl) (by simp) ?_
    refine AllReadyH.cons rfl (fun K hK => ?_) AllReadyH.nil
    go_simp
    refine hK.out _ _ (hS _ bo.drew) (fun hHeld => ?_)
    clear hK K
    try simp only [Act.put, List.getElem_toArray, List.getElem_cons_succ, List.getElem_cons_zero, List.setIfInBounds_toArray, List.set_cons_zero, List.set_cons_succ]
    refine wpAnyH_take (i := 7) (v := ?_) rfl (by kernel_rfl) (by kernel_rfl) (by kernel_rfl) (fun _ _ _ h => h) (Or.inl ⟨by rfl, ?_⟩) hHeld ?_
    rotate_left
    · (intro w hSw; (try dsimp only at hSw); go_simp)
      all_goals with_reducible rfl
    try simp only [Act.put, List.getElem_toArray, List.getElem_cons_succ, List.getElem_cons_zero, List.setIfInBounds_toArray, List.set_cons_zero, List.set_cons_succ]
    refine wpAnyH_take (i := 8) (v := ?_) rfl (by kernel_rfl) (by kernel_rfl) (by kernel_rfl) (fun _ _ _ h => h) (Or.inl ⟨by rfl, ?_⟩) hHeld ?_
    rotate_left
    · (intro w hSw; (try dsimp only at hSw); go_simp)
      all_goals with_reducible rfl
    try simp only [Act.put, List.getElem_toArray, List.getElem_cons_succ, List.getElem_cons_zero, List.setIfInBounds_toArray, List.set_cons_zero, List.set_cons_succ]
    refine wpAnyH_take (i := 9) (v := undef) rfl (by kernel_rfl) (by kernel_rfl) (by kernel_rfl) (fun _ _ _ h => h) (Or.inr ⟨by kernel_rfl, rfl⟩) hHeld ?_
    try simp only [Act.put, List.getElem_toArray, List.getElem_cons_succ, List.getElem_cons_zero, List.setIfInBounds_toArray, List.set_cons_zero, List.set_cons_succ]
    refine wpAnyH_take (i := 10) (v := undef) rfl (by kernel_rfl) (by kernel_rfl) (by kernel_rfl) (fun _ _ _ h => h) (Or.inr ⟨by kernel_rfl, rfl⟩) hHeld ?_
    try simp only [Act.put, List.getElem_toArray, List.getElem_cons_succ, List.getElem_cons_zero, List.setIfInBounds_toArray, List.set_cons_zero, List.set_cons_succ]
    refine wpAnyH_take (i := 12) (v := undef) rfl (by kernel_rfl) (by kernel_rfl) (by kernel_rfl) (fun _ _ _ h => h) (Or.inr ⟨by kernel_rfl, rfl⟩) hHeld ?_
    try simp only [Act.put, List.getElem_toArray, List.getElem_cons_succ, List.getElem_cons_zero, List.setIfInBounds_toArray, List.set_cons_zero, List.set_cons_succ]
    refine wpAnyH_take (i := 13) (v := undef) rfl (by kernel_rfl) (by kernel_rfl) (by kernel_rfl) (fun _ _ _ h => h) (Or.inr ⟨by kernel_rfl, rfl⟩) hHeld ?_
    try simp only [Act.put, List.getElem_toArray, List.getElem_cons_succ, List.getElem_cons_zero, List.setIfInBounds_toArray, List.set_cons_zero, List.set_cons_succ]
    refine wpAnyH_ready (rs := [11]) (by kernel_rfl) (by simp) ?_
    refine AllReadyH.cons rfl (fun K hK => ?_) AllReadyH.nil
    go_simp
    refine hK.out _ _ (hS _ bo.drew) (fun hHeld => ?_)
    clear hK K
    try simp only [Act.put, List.getElem_toArray, List.getElem_cons_succ, List.getElem_cons_zero, List.setIfInBounds_toArray, List.set_cons_zero, List.set_cons_succ]
    refine wpAnyH_ready (rs := [14]) (by kernel_rfl) (by simp) ?_
    refine AllReadyH.cons rfl (fun K hK => ?_) AllReadyH.nil
    go_simp
    refine hK.out _ _ (hS _ bo.drew) (fun hHeld => ?_)
    clear hK K
    try simp only [Act.put, List.getElem_toArray, List.getElem_cons_succ, List.getElem_cons_zero, List.setIfInBounds_toArray, List.set_cons_zero, List.set_cons_succ]
    refine wpAnyH_take (i := 15) (v := undef) rfl (by kernel_rfl) (by kernel_rfl) (by kernel_rfl) (fun _ _ _ h => h) (Or.inr ⟨by kernel_rfl, rfl⟩) hHeld ?_
    try simp only [Act.put, List.getElem_toArray, List.getElem_cons_succ, List.getElem_cons_zero, List.setIfInBounds_toArray, List.set_cons_zero, List.set_cons_succ]
    refine wpAnyH_take (i := 16) (v := ?_) rfl (by kernel_rfl) (by kernel_rfl) (by kernel_rfl) (fun _ _ _ h => h) (Or.inl ⟨by rfl, ?_⟩) hHeld ?_
    rotate_left
    · (intro w hSw; (try dsimp only at hSw); go_simp)
      all_goals with_reducible rfl
    try simp only [Act.put, List.getElem_toArray, List.getElem_cons_succ, List.getElem_cons_zero, List.setIfInBounds_toArray, List.set_cons_zero, List.set_cons_succ]
    refine wpAnyH_done (by kernel_rfl) ?_ _
    refine NoPanic.normal ?_
    try go_simp
    clear hHeld
    clear hS dS bo
    obtain ⟨y19, hy19, by19⟩ : ∃ x, y10.drew = x ∧ Below y10.heap.size y10 x := ⟨_, rfl, (Below.refl _ _).drew⟩
    rw [hy19]
    replace BP := BP.keep by19
    replace BS := BS.keep by19
    replace Lg := Lg.below by19
    replace Rr := Rr.below by19
    replace L2 := L2.below by19
    replace hsf := hsf.below by19
    replace FLx := FLx.below by19
    replace FLz := FLz.below by19
    replace bT := bT.trans (by19.mono bT.size)
    obtain ⟨qs, hqs⟩ : ∃ qs, Hid (farQ p1.xs p1.zs = qs) := ⟨_, rfl⟩
    have hql := Lib.hid (show qs.length = p1.xs.length by rw [← hqs.out]; unfold farQ; rw [List.length_zipWith, hlx.out, hlz.out, Nat.min_self])
    clear z0 z1
    have z0 := BP.g0
    have z1 := BP.g1
    clear c0_ c1_ c2_ c3_ c4_ c5_ c6_
    have c0_ : y19.cell? ⟨y1.heap.size, 0, none⟩ = some (.int .i64 3) := by rw [← hst.out]; exact BS.cell 0
    have c1_ : y19.cell? ⟨y1.heap.size, 1, none⟩ = some (.bool p1.d.neg) := BS.cell 1
    have c2_ : y19.cell? ⟨y1.heap.size, 2, none⟩ = some (.slice p1.d.a p1.d.la.length p1.d.ca) := BS.cell 2
    have c3_ : y19.cell? ⟨y1.heap.size, 3, none⟩ = some (.slice p1.d.b p1.d.lb.length p1.d.cb) := BS.cell 3
    have c4_ : y19.cell? ⟨y1.heap.size, 4, none⟩ = some (.slice p1.xa p1.xs.length p1.xc) := BS.cell 4
    have c5_ : y19.cell? ⟨y1.heap.size, 5, none⟩ = some (.slice p1.ya p1.ys.length p1.yc) := BS.cell 5
    have c6_ : y19.cell? ⟨y1.heap.size, 6, none⟩ = some (.slice p1.za p1.zs.length p1.zc) := BS.cell 6
    have lxl := hsf.x.len
    have lzl := hsf.z.len
    go_wp2
    go_loopw [7, 8] (fun v i wr => ColInv 11 qs y19 y19.heap.size v i wr) (fun _ i _ => p1.xs.length - (intOf i).toNat)
    case atStart => exact ⟨_, 0, [], rfl, by omega, rfl, OwnQ.nil _ _, fun d hd => by simp at hd, rfl, rfl, Nat.le_refl _, Below.refl _ _⟩
    case round =>
      obtain ⟨v, k, os, rfl, hk, rfl, hown, hall, hol, hmap, hbr, hbel⟩ := hrel
      rw [hql.out] at hk
      clear c0_ c1_ c2_ c3_ c4_ c5_ c6_
      clear z0 z1
      have BSk := BS.keep hbel
      by_cases hkl : k < p1.xs.length
      · have hkz : k < p1.zs.length := by rw [hlz.out, ← hlx.out]; exact hkl
        have hki : (k : Int) < (p1.xs.length : Int) := by omega
        have hkiz : (k : Int) < (p1.zs.length : Int) := by omega
        obtain ⟨a, d, ea, hab, hc0, hc1, hc2, hfd, hdk⟩ := FLx.at hkl
        obtain ⟨a', d', ea', hab', hc0', hc1', hc2', hfz, hzk⟩ := FLz.at hkz
        have ea1 := Lib.hid ea
        have ea1' := Lib.hid ea'
        clear ea ea'
        have hfd1 := Lib.hid (fx.out d (List.mem_of_getElem? hdk.out))
        have hfz1 := Lib.hid (fz.out d' (List.mem_of_getElem? hzk.out))
        have hqk := Lib.hid (show qs[k]? = some (d.q + ((1000 : Int) : Rat) * d'.q) by rw [← hqs.out]; unfold farQ; rw [List.getElem?_zipWith, hdk.out, hzk.out])
        have hos : os.length + 1 ≤ 1000000000000 := by rw [hol.out]; omega
        have f1000 := Lib.hid (fits_int (n := 1000) (by decide) (by decide))
        have ftot := Lib.hid ((hfd1.out.add (f1000.out.mul hfz1.out)).mono (show 4 + (2 + 4) + 1 ≤ 11 by omega))
        have hallr := Lib.hid hall.out
        have c0_ : wr.cell? ⟨y1.heap.size, 0, none⟩ = some (.int .i64 3) := by rw [← hst.out]; exact BSk.cell 0
        have c1_ : wr.cell? ⟨y1.heap.size, 1, none⟩ = some (.bool p1.d.neg) := (BSk.cell 1)
        have c2_ : wr.cell? ⟨y1.heap.size, 2, none⟩ = some (.slice p1.d.a p1.d.la.length p1.d.ca) := (BSk.cell 2)
        have c3_ : wr.cell? ⟨y1.heap.size, 3, none⟩ = some (.slice p1.d.b p1.d.lb.length p1.d.cb) := (BSk.cell 3)
        have c4_ : wr.cell? ⟨y1.heap.size, 4, none⟩ = some (.slice (some a) p1.xs.length p1.xc) := by rw [← ea1.out]; exact BSk.cell 4
        have c5_ : wr.cell? ⟨y1.heap.size, 5, none⟩ = some (.slice p1.ya p1.ys.length p1.yc) := (BSk.cell 5)
        have c6_ : wr.cell? ⟨y1.heap.size, 6, none⟩ = some (.slice (some a') p1.zs.length p1.zc) := by rw [← ea1'.out]; exact BSk.cell 6
        have hfdw := hfd.below hbel
        have hfzw := hfz.below hbel
        have bT := hbel
        have bw := Below.refl wr.heap.size wr
        have hS : ∀ w', Below y19.heap.size y19 w' → w'.cell? ⟨y1.heap.size, 0, none⟩ = some (.int .i64 3) ∧ w'.cell? ⟨y1.heap.size, 1, none⟩ = some (.bool p1.d.neg) ∧ w'.cell? ⟨y1.heap.size, 2, none⟩ = some (.slice p1.d.a p1.d.la.length p1.d.ca) ∧ w'.cell? ⟨y1.heap.size, 3, none⟩ = some (.slice p1.d.b p1.d.lb.length p1.d.cb) ∧ w'.cell? ⟨y1.heap.size, 4, none⟩ = some (.slice (some a) p1.xs.length p1.xc) ∧ w'.cell? ⟨y1.heap.size, 5, none⟩ = some (.slice p1.ya p1.ys.length p1.yc) ∧ w'.cell? ⟨y1.heap.size, 6, none⟩ = some (.slice (some a') p1.zs.length p1.zc) ∧ w'.cell? (a.add (k * 3)) = some (.bool d.neg) ∧ w'.cell? ⟨(a.add (k * 3)).block, (a.add (k * 3)).off + 1, none⟩ = some (.slice d.a d.la.length d.ca) ∧ w'.cell? ⟨(a.add (k * 3)).block, (a.add (k * 3)).off + 2, none⟩ = some (.slice d.b d.lb.length d.cb) ∧ w'.cell? (a'.add (k * 3)) = some (.bool d'.neg) ∧ w'.cell? ⟨(a'.add (k * 3)).block, (a'.add (k * 3)).off + 1, none⟩ = some (.slice d'.a d'.la.length d'.ca) ∧ w'.cell? ⟨(a'.add (k * 3)).block, (a'.add (k * 3)).off + 2, none⟩ = some (.slice d'.b d'.lb.length d'.cb) ∧ Below y19.heap.size y19 w' := by
          intro w' o
          have hSw := BS.keep o
          exact ⟨by rw [← hst.out]; exact hSw.cell 0, hSw.cell 1, hSw.cell 2, hSw.cell 3, by rw [← ea1.out]; exact hSw.cell 4, hSw.cell 5, by rw [← ea1'.out]; exact hSw.cell 6, (o.cell (by show (a.add (k * 3)).block < _; rw [block_add]; exact hab)).trans hc0, (o.cell (by show (a.add (k * 3)).block < _; rw [block_add]; exact hab)).trans hc1, (o.cell (by show (a.add (k * 3)).block < _; rw [block_add]; exact hab)).trans hc2, (o.cell (by show (a'.add (k * 3)).block < _; rw [block_add]; exact hab')).trans hc0', (o.cell (by show (a'.add (k * 3)).block < _; rw [block_add]; exact hab')).trans hc1', (o.cell (by show (a'.add (k * 3)).block < _; rw [block_add]; exact hab')).trans hc2', o⟩
        have bo : Below y19.heap.size y19 wr := hbel
        have dS : Below y19.heap.size y19 wr.drew := bo.drew
        go_wp2_with fail
        refine wp_region_noPanic ?_
        refine wp_region_held_drew (S := fun w' => w'.cell? ⟨y1.heap.size, 0, none⟩ = some (.int .i64 3) ∧ w'.cell? ⟨y1.heap.size, 1, none⟩ = some (.bool p1.d.neg) ∧ w'.cell? ⟨y1.heap.size, 2, none⟩ = some (.slice p1.d.a p1.d.la.length p1.d.ca) ∧ w'.cell? ⟨y1.heap.size, 3, none⟩ = some (.slice p1.d.b p1.d.lb.length p1.d.cb) ∧ w'.cell? ⟨y1.heap.size, 4, none⟩ = some (.slice (some a) p1.xs.length p1.xc) ∧ w'.cell? ⟨y1.heap.size, 5, none⟩ = some (.slice p1.ya p1.ys.length p1.yc) ∧ w'.cell? ⟨y1.heap.size, 6, none⟩ = some (.slice (some a') p1.zs.length p1.zc) ∧ w'.cell? (a.add (k * 3)) = some (.bool d.neg) ∧ w'.cell? ⟨(a.add (k * 3)).block, (a.add (k * 3)).off + 1, none⟩ = some (.slice d.a d.la.length d.ca) ∧ w'.cell? ⟨(a.add (k * 3)).block, (a.add (k * 3)).off + 2, none⟩ = some (.slice d.b d.lb.length d.cb) ∧ w'.cell? (a'.add (k * 3)) = some (.bool d'.neg) ∧ w'.cell? ⟨(a'.add (k * 3)).block, (a'.add (k * 3)).off + 1, none⟩ = some (.slice d'.a d'.la.length d'.ca) ∧ w'.cell? ⟨(a'.add (k * 3)).block, (a'.add (k * 3)).off + 2, none⟩ = some (.slice d'.b d'.lb.length d'.cb) ∧ Below y19.heap.size y19 w') (by kernel_rfl) (hS _ dS) (fun hHeld => ?_)
        refine wpAnyH_take (i := 0) (v := ?_) rfl (by kernel_rfl) (by kernel_rfl) (by kernel_rfl) (fun _ _ _ h => h) (Or.inl ⟨by rfl, ?_⟩) hHeld ?_
        rotate_left
        · (intro w hSw; (try dsimp only at hSw); go_simp)
          all_goals with_reducible rfl
        try simp only [Act.put, List.getElem_toArray, List.getElem_cons_succ, List.getElem_cons_zero, List.setIfInBounds_toArray, List.set_cons_zero, List.set_cons_succ]
        refine wpAnyH_take (i := 1) (v := ?_) rfl (by kernel_rfl) (by kernel_rfl) (by kernel_rfl) (fun _ _ _ h => h) (Or.inl ⟨by rfl, ?_⟩) hHeld ?_
        rotate_left
        · (intro w hSw; (try dsimp only at hSw); go_simp)
          all_goals with_reducible rfl
        try simp only [Act.put, List.getElem_toArray, List.getElem_cons_succ, List.getElem_cons_zero, List.setIfInBounds_toArray, List.set_cons_zero, List.set_cons_succ]
        refine wpAnyH_take (i := 2) (v := ?_) rfl (by kernel_rfl) (by kernel_rfl) (by kernel_rfl) (fun _ _ _ h => h) (Or.inl ⟨by rfl, ?_⟩) hHeld ?_
        rotate_left
        · (intro w hSw; (try dsimp only at hSw); go_simp)
          all_goals with_reducible rfl
        try simp only [Act.put, List.getElem_toArray, List.getElem_cons_succ, List.getElem_cons_zero, List.setIfInBounds_toArray, List.set_cons_zero, List.set_cons_succ]
        refine wpAnyH_take (i := 3) (v := ?_) rfl (by kernel_rfl) (by kernel_rfl) (by kernel_rfl) (fun _ _ _ h => h) (Or.inl ⟨by rfl, ?_⟩) hHeld ?_
        rotate_left
        · (intro w hSw; (try dsimp only at hSw); go_simp)
          all_goals with_reducible rfl
        try simp only [Act.put, List.getElem_toArray, List.getElem_cons_succ, List.getElem_cons_zero, List.setIfInBounds_toArray, List.set_cons_zero, List.set_cons_succ]
        refine wpAnyH_take (i := 4) (v := ?_) rfl (by kernel_rfl) (by kernel_rfl) (by kernel_rfl) (fun _ _ _ h => h) (Or.inl ⟨by rfl, ?_⟩) hHeld ?_
        rotate_left
        · (intro w hSw; (try dsimp only at hSw); go_simp)
          all_goals with_reducible rfl
        try simp only [Act.put, List.getElem_toArray, List.getElem_cons_succ, List.getElem_cons_zero, List.setIfInBounds_toArray, List.set_cons_zero, List.set_cons_succ]
        refine wpAnyH_take (i := 5) (v := ?_) rfl (by kernel_rfl) (by kernel_rfl) (by kernel_rfl) (fun _ _ _ h => h) (Or.inl ⟨by rfl, ?_⟩) hHeld ?_
        rotate_left
        · (intro w hSw; (try dsimp only at hSw); go_simp)
          all_goals with_reducible rfl
        try simp only [Act.put, List.getElem_toArray, List.getElem_cons_succ, List.getElem_cons_zero, List.setIfInBounds_toArray, List.set_cons_zero, List.set_cons_succ]
        refine wpAnyH_take (i := 7) (v := ?_) rfl (by kernel_rfl) (by kernel_rfl) (by kernel_rfl) (fun _ _ _ h => h) (Or.inl ⟨by rfl, ?_⟩) hHeld ?_
        rotate_left
        · (intro w hSw; (try dsimp only at hSw); go_simp)
          all_goals with_reducible rfl
        try simp only [Act.put, List.getElem_toArray, List.getElem_cons_succ, List.getElem_cons_zero, List.setIfInBounds_toArray, List.set_cons_zero, List.set_cons_succ]
        refine wpAnyH_take (i := 8) (v := ?_) rfl (by kernel_rfl) (by kernel_rfl) (by kernel_rfl) (fun _ _ _ h => h) (Or.inl ⟨by rfl, ?_⟩) hHeld ?_
        rotate_left
        · (intro w hSw; (try dsimp only at hSw); go_simp)
          all_goals with_reducible rfl
        try simp only [Act.put, List.getElem_toArray, List.getElem_cons_succ, List.getElem_cons_zero, List.setIfInBounds_toArray, List.set_cons_zero, List.set_cons_succ]
        refine wpAnyH_take (i := 9) (v := ?_) rfl (by kernel_rfl) (by kernel_rfl) (by kernel_rfl) (fun _ _ _ h => h) (Or.inl ⟨by rfl, ?_⟩) hHeld ?_
        rotate_left
        · (intro w hSw; (try dsimp only at hSw); go_simp)
          all_goals with_reducible rfl
        try simp only [Act.put, List.getElem_toArray, List.getElem_cons_succ, List.getElem_cons_zero, List.setIfInBounds_toArray, List.set_cons_zero, List.set_cons_succ]
        refine wpAnyH_take (i := 10) (v := ?_) rfl (by kernel_rfl) (by kernel_rfl) (by kernel_rfl) (fun _ _ _ h => h) (Or.inl ⟨by rfl, ?_⟩) hHeld ?_
        rotate_left
        · (intro w hSw; (try dsimp only at hSw); go_simp)
          all_goals with_reducible rfl
        try simp only [Act.put, List.getElem_toArray, List.getElem_cons_succ, List.getElem_cons_zero, List.setIfInBounds_toArray, List.set_cons_zero, List.set_cons_succ]
        refine wpAnyH_take (i := 11) (v := ?_) rfl (by kernel_rfl) (by kernel_rfl) (by kernel_rfl) (fun _ _ _ h => h) (Or.inl ⟨by rfl, ?_⟩) hHeld ?_
        rotate_left
        · (intro w hSw; (try dsimp only at hSw); go_simp)
          all_goals with_reducible rfl
        try simp only [Act.put, List.getElem_toArray, List.getElem_cons_succ, List.getElem_cons_zero, List.setIfInBounds_toArray, List.set_cons_zero, List.set_cons_succ]
        refine wpAnyH_ready (rs := [6]) (by kernel_rfl) (by simp) ?_
        refine AllReadyH.cons rfl (fun K hK => ?_) AllReadyH.nil
        go_simp
        have dw0 : Below wr.heap.size wr wr.drew := (Below.refl _ _).drew
        replace hown := hown.below dw0
        replace hfdw := hfdw.below dw0
        replace hfzw := hfzw.below dw0
        replace bT := bT.trans (dw0.mono bT.size)
        replace bw := bw.trans (dw0.mono bw.size)
        replace bo := bo.trans (dw0.mono bo.size)
        go_at_call 17
        refine (refFromInt_any 1000 _ (by decide) (by decide)).mono ?_
        rintro e u1 ⟨v1, rfl, fv1, bu1⟩
        replace hown := hown.below bu1
        replace hfdw := hfdw.below bu1
        replace hfzw := hfzw.below bu1
        replace bT := bT.trans (bu1.mono bT.size)
        replace bw := bw.trans (bu1.mono bw.size)
        replace bo := bo.trans (bu1.mono bo.size)
        go_wp2_with fail
        refine hK.out _ _ (hS _ bo) (fun hHeld => ?_)
        clear hK K
        try simp only [Act.put, List.getElem_toArray, List.getElem_cons_succ, List.getElem_cons_zero, List.setIfInBounds_toArray, List.set_cons_zero, List.set_cons_succ]
        refine wpAnyH_ready (rs := [12]) (by kernel_rfl) (by simp) ?_
        refine AllReadyH.cons rfl (fun K hK => ?_) AllReadyH.nil
        go_simp
        go_at_call 16
        refine (refMulF_any fv1 hfzw f1000.out hfz1.out (by omega)).mono ?_
        rintro e u2 ⟨v2, rfl, fv2, bu2⟩
        replace hown := hown.below bu2
        replace hfdw := hfdw.below bu2
        replace hfzw := hfzw.below bu2
        replace fv1 := fv1.below bu2
        replace bT := bT.trans (bu2.mono bT.size)
        replace bw := bw.trans (bu2.mono bw.size)
        replace bo := bo.trans (bu2.mono bo.size)
        clear fv1
        go_wp2_with fail
        refine hK.out _ _ (hS _ bo) (fun hHeld => ?_)
        clear hK K
        try simp only [Act.put, List.getElem_toArray, List.getElem_cons_succ, List.getElem_cons_zero, List.setIfInBounds_toArray, List.set_cons_zero, List.set_cons_succ]
        refine wpAnyH_ready (rs := [13]) (by kernel_rfl) (by simp) ?_
        refine AllReadyH.cons rfl (fun K hK => ?_) AllReadyH.nil
        go_simp
        go_at_call 15
        refine (refAddF_any hfdw fv2 hfd1.out (f1000.out.mul hfz1.out) (by omega)).mono ?_
        rintro e u3 ⟨v3, rfl, ⟨n1, A1, a1, l1, B1, c1, m1, rfl, na, nb, iq⟩, bu3⟩
        replace hown := hown.below bu3
        replace hfdw := hfdw.below bu3
        replace hfzw := hfzw.below bu3
        replace fv2 := fv2.below bu3
        replace bT := bT.trans (bu3.mono bT.size)
        replace bw := bw.trans (bu3.mono bw.size)
        replace bo := bo.trans (bu3.mono bo.size)
        clear fv2
        obtain ⟨hf1, hf2, hf3⟩ := few_of na nb iq ftot.out
        have hf3' := Lib.hid hf3
        have hf2' := Lib.hid hf2
        clear na nb iq hf2 hf3
        have hall4 := Lib.hid (hallr.out.below (show Below wr.heap.size wr u3 from bw))
        have hown4 := hown
        have bT4 := bT
        obtain ⟨w4, e4⟩ : ∃ x, x = u3 := ⟨_, rfl⟩
        clear e4
        go_wp2_with fail
        refine hK.out _ _ (hS _ bo) (fun hHeld => ?_)
        clear hK K
        try simp only [Act.put, List.getElem_toArray, List.getElem_cons_succ, List.getElem_cons_zero, List.setIfInBounds_toArray, List.set_cons_zero, List.set_cons_succ]
        refine wpAnyH_ready (rs := [14]) (by kernel_rfl) (by simp) ?_
        refine AllReadyH.cons rfl (fun K hK => ?_) AllReadyH.nil
        obtain ⟨u4, hu4, bu4, lu4, Bu4⟩ := boxed u3 #[.bool n1, .slice A1 l1.length a1, .slice B1 m1.length c1] 29
        replace hown := hown.below bu4
        replace hfdw := hfdw.below bu4
        replace hfzw := hfzw.below bu4
        replace bT := bT.trans (bu4.mono bT.size)
        replace bw := bw.trans (bu4.mono bw.size)
        replace bo := bo.trans (bu4.mono bo.size)
        go_simp
        refine hK.out _ _ (hS _ bo) (fun hHeld => ?_)
        clear hK K
        try simp only [Act.put, List.getElem_toArray, List.getElem_cons_succ, List.getElem_cons_zero, List.setIfInBounds_toArray, List.set_cons_zero, List.set_cons_succ]
        refine wpAnyH_ready (rs := [15]) (by kernel_rfl) (by simp) ?_
        refine AllReadyH.cons rfl (fun K hK => ?_) AllReadyH.nil
        have hsz : y19.heap.size ≤ u3.heap.size := bT4.size
        refine step_appQ rfl _ _ rfl rfl y19.heap.size v os rfl hown ⟨u3.heap.size, 0, none⟩ 1 ⟨n1, A1, a1, l1, B1, c1, m1⟩ rfl (World.news_of_block Bu4) hos (by omega) ?_
        intro v6 w6 ho6 hg6
        rw [← hu4] at hg6
        have o6 := (bT4.alloc bT4.size (.cells #[.bool n1, .slice A1 l1.length a1, .slice B1 m1.length c1] 29)).grown hg6 (Nat.le_trans bT4.size (by simp)) (fun g hg => hown.block hg)
        replace bo := o6
        have dX := True.intro
        refine hK.out _ _ (hS _ bo) (fun hHeld => ?_)
        clear hK K
        try simp only [Act.put, List.getElem_toArray, List.getElem_cons_succ, List.getElem_cons_zero, List.setIfInBounds_toArray, List.set_cons_zero, List.set_cons_succ]
        refine wpAnyH_take (i := 16) (v := ?_) rfl (by kernel_rfl) (by kernel_rfl) (by kernel_rfl) (fun _ _ _ h => h) (Or.inl ⟨by rfl, ?_⟩) hHeld ?_
        rotate_left
        · (intro w hSw; (try dsimp only at hSw); go_simp)
          all_goals with_reducible rfl
        try simp only [Act.put, List.getElem_toArray, List.getElem_cons_succ, List.getElem_cons_zero, List.setIfInBounds_toArray, List.set_cons_zero, List.set_cons_succ]
        refine wpAnyH_done (by kernel_rfl) ?_ _
        refine NoPanic.normal ?_
        try go_simp
        clear hHeld
        have hall6 := Lib.hid (AllQ.snoc (d := ⟨n1, A1, a1, l1, B1, c1, m1⟩) hall4.out ⟨hf1, hf2'.out⟩ (hown4.below ((Below.refl _ _).alloc (Nat.le_refl _) _)) hg6)
        have hmap6 := Lib.hid (col_snoc (d := ⟨n1, A1, a1, l1, B1, c1, m1⟩) hmap.out (by rw [hqk.out]; exact congrArg some hf3'.out.symm))
        have hbr6 : y19.heap.size ≤ w6.heap.size := o6.size
        clear hS dS bo
        go_wp2
        go_roundw
        case rel => exact ⟨_, k + 1, _, rfl, by rw [hql.out]; omega, by go_num, ho6, hall6, by show _ = _; rw [List.length_append, hol.out]; rfl, hmap6, hbr6, o6⟩
        case measure => simp [intOf]; omega
      · obtain rfl : k = p1.xs.length := by omega
        have hlt' : decide ((p1.xs.length : Int) < (p1.xs.length : Int)) = false := decide_eq_false (by omega)
        obtain ⟨B, cb, rfl, hld, hwh⟩ := hown.ld hall.out
        have hfin := Lib.hid (show os.map FrD.q = farQ p1.xs p1.zs by rw [hmap.out, List.take_of_length_le (by rw [hql.out]; exact Nat.le_refl _), hqs.out])
        obtain ⟨hse1, hse2⟩ := end_sound hwg.out hfx.out hez.out hfin.out hwh
        have hwh' := Lib.hid hwh
        have hse1' := Lib.hid hse1
        clear hwh hse1
        have hole : os.length ≤ 12 := by rw [hol.out, hlx.out]; omega
        replace BP := BP.keep hbel
        replace BS := BS.keep hbel
        replace Lg := Lg.below hbel
        replace Rr := Rr.below hbel
        replace L2 := L2.below hbel
        replace hsf := hsf.below hbel
        replace FLx := FLx.below hbel
        replace FLz := FLz.below hbel
        replace bT := bT.trans (hbel.mono bT.size)
        have Lg10 := Lg.up (show 4 ≤ 11 by omega)
        have Rr10 := Rr.up (show 4 ≤ 11 by omega)
        have FLf := (hld.fl hwh'.out).1
        have FLg := (Lg.fl hwg.out).1
        have ff := Lib.hid (hld.fl hwh'.out).2
        have fg := Lib.hid (Lg10.fl hwg.out).2
        have fg4 := Lib.hid (Lg.fl hwg.out).2
        obtain ⟨u, hu⟩ : ∃ u, Hid (sumR (prods p0.gs os) = u) := ⟨_, rfl⟩
        obtain ⟨t, ht⟩ : ∃ t, Hid (sumR (prods p0.gs p1.xs) = t) := ⟨_, rfl⟩
        have hfu := Lib.hid (prods_sum_fits (m := p0.gs.length) fg.out ff.out (Nat.le_refl _))
        have hft := Lib.hid (prods_sum_fits (m := p0.gs.length) fg4.out fx.out (Nat.le_refl _))
        rw [hu.out] at hse2 hfu
        rw [ht.out] at hse2 hft
        obtain ⟨c, hc⟩ : ∃ c, Hid (cmpR u t = c) := ⟨_, rfl⟩
        rw [hc.out] at hse2
        have z0 := BP.g0
        have z1 := BP.g1
        have c0_ : wr.cell? ⟨y1.heap.size, 0, none⟩ = some (.int .i64 3) := by rw [← hst.out]; exact BS.cell 0
        have c1_ : wr.cell? ⟨y1.heap.size, 1, none⟩ = some (.bool p1.d.neg) := BS.cell 1
        have c2_ : wr.cell? ⟨y1.heap.size, 2, none⟩ = some (.slice p1.d.a p1.d.la.length p1.d.ca) := BS.cell 2
        have c3_ : wr.cell? ⟨y1.heap.size, 3, none⟩ = some (.slice p1.d.b p1.d.lb.length p1.d.cb) := BS.cell 3
        have c4_ : wr.cell? ⟨y1.heap.size, 4, none⟩ = some (.slice p1.xa p1.xs.length p1.xc) := BS.cell 4
        have c5_ : wr.cell? ⟨y1.heap.size, 5, none⟩ = some (.slice p1.ya p1.ys.length p1.yc) := BS.cell 5
        have c6_ : wr.cell? ⟨y1.heap.size, 6, none⟩ = some (.slice p1.za p1.zs.length p1.zc) := BS.cell 6
        have hS : ∀ w', Below wr.heap.size wr w' → w'.cell? ⟨w.heap.size, 0, none⟩ = some (.slice p0.ga p0.gs.length p0.gc) ∧ w'.cell? ⟨w.heap.size, 1, none⟩ = some (.slice p0.ra p0.rs.length p0.rc) ∧ w'.cell? ⟨y1.heap.size, 0, none⟩ = some (.int .i64 3) ∧ w'.cell? ⟨y1.heap.size, 1, none⟩ = some (.bool p1.d.neg) ∧ w'.cell? ⟨y1.heap.size, 2, none⟩ = some (.slice p1.d.a p1.d.la.length p1.d.ca) ∧ w'.cell? ⟨y1.heap.size, 3, none⟩ = some (.slice p1.d.b p1.d.lb.length p1.d.cb) ∧ w'.cell? ⟨y1.heap.size, 4, none⟩ = some (.slice p1.xa p1.xs.length p1.xc) ∧ w'.cell? ⟨y1.heap.size, 5, none⟩ = some (.slice p1.ya p1.ys.length p1.yc) ∧ w'.cell? ⟨y1.heap.size, 6, none⟩ = some (.slice p1.za p1.zs.length p1.zc) ∧ Below wr.heap.size wr w' := by
          intro w' o
          have hPw := BP.keep o
          have hSw := BS.keep o
          exact ⟨hPw.g0, hPw.g1, by rw [← hst.out]; exact hSw.cell 0, hSw.cell 1, hSw.cell 2, hSw.cell 3, hSw.cell 4, hSw.cell 5, hSw.cell 6, o⟩
        have bo : Below wr.heap.size wr wr := Below.refl _ _
        have dS : Below wr.heap.size wr wr.drew := bo.drew
        go_wp2_with fail
        refine wp_region_noPanic ?_
        refine wp_region_held_drew (S := fun w' => w'.cell? ⟨w.heap.size, 0, none⟩ = some (.slice p0.ga p0.gs.length p0.gc) ∧ w'.cell? ⟨w.heap.size, 1, none⟩ = some (.slice p0.ra p0.rs.length p0.rc) ∧ w'.cell? ⟨y1.heap.size, 0, none⟩ = some (.int .i64 3) ∧ w'.cell? ⟨y1.heap.size, 1, none⟩ = some (.bool p1.d.neg) ∧ w'.cell? ⟨y1.heap.size, 2, none⟩ = some (.slice p1.d.a p1.d.la.length p1.d.ca) ∧ w'.cell? ⟨y1.heap.size, 3, none⟩ = some (.slice p1.d.b p1.d.lb.length p1.d.cb) ∧ w'.cell? ⟨y1.heap.size, 4, none⟩ = some (.slice p1.xa p1.xs.length p1.xc) ∧ w'.cell? ⟨y1.heap.size, 5, none⟩ = some (.slice p1.ya p1.ys.length p1.yc) ∧ w'.cell? ⟨y1.heap.size, 6, none⟩ = some (.slice p1.za p1.zs.length p1.zc) ∧ Below wr.heap.size wr w') (by kernel_rfl) (hS _ dS) (fun hHeld => ?_)
        refine wpAnyH_take (i := 0) (v := ?_) rfl (by kernel_rfl) (by kernel_rfl) (by kernel_rfl) (fun _ _ _ h => h) (Or.inl ⟨by rfl, ?_⟩) hHeld ?_
        rotate_left
        · (intro w hSw; (try dsimp only at hSw); go_simp)
          all_goals with_reducible rfl
        try simp only [Act.put, List.getElem_toArray, List.getElem_cons_succ, List.getElem_cons_zero, List.setIfInBounds_toArray, List.set_cons_zero, List.set_cons_succ]
        refine wpAnyH_take (i := 1) (v := ?_) rfl (by kernel_rfl) (by kernel_rfl) (by kernel_rfl) (fun _ _ _ h => h) (Or.inl ⟨by rfl, ?_⟩) hHeld ?_
        rotate_left
        · (intro w hSw; (try dsimp only at hSw); go_simp)
          all_goals with_reducible rfl
        try simp only [Act.put, List.getElem_toArray, List.getElem_cons_succ, List.getElem_cons_zero, List.setIfInBounds_toArray, List.set_cons_zero, List.set_cons_succ]
        refine wpAnyH_ready (rs := [2]) (by kernel_rfl) (by simp) ?_
        refine AllReadyH.cons rfl (fun K hK => ?_) AllReadyH.nil
        go_simp
        have dw19 : Below wr.heap.size wr wr.drew := (Below.refl _ _).drew
        replace BP := BP.keep dw19
        replace BS := BS.keep dw19
        replace Lg := Lg.below dw19
        replace Rr := Rr.below dw19
        replace L2 := L2.below dw19
        replace hsf := hsf.below dw19
        replace FLx := FLx.below dw19
        replace FLz := FLz.below dw19
        replace hld := hld.below dw19
        replace Lg10 := Lg10.below dw19
        replace Rr10 := Rr10.below dw19
        replace FLf := FLf.below dw19
        replace FLg := FLg.below dw19
        replace bT := bT.trans (dw19.mono bT.size)
        replace bo := bo.trans (dw19.mono bo.size)
        go_at_call 12
        refine (refFeasible_any Lg10 Rr10 hld (by omega)).mono ?_
        rintro e y20 ⟨rfl, by20⟩
        replace BP := BP.keep by20
        replace BS := BS.keep by20
        replace Lg := Lg.below by20
        replace Rr := Rr.below by20
        replace L2 := L2.below by20
        replace hsf := hsf.below by20
        replace FLx := FLx.below by20
        replace FLz := FLz.below by20
        replace hld := hld.below by20
        replace Lg10 := Lg10.below by20
        replace Rr10 := Rr10.below by20
        replace FLf := FLf.below by20
        replace FLg := FLg.below by20
        replace bT := bT.trans (by20.mono bT.size)
        replace bo := bo.trans (by20.mono bo.size)
        rw [hse1'.out]
        go_wp2_with fail
        refine hK.out _ _ (hS _ bo) (fun hHeld => ?_)
        clear hK K
        try simp only [Act.put, List.getElem_toArray, List.getElem_cons_succ, List.getElem_cons_zero, List.setIfInBounds_toArray, List.set_cons_zero, List.set_cons_succ]
        refine wpAnyH_take (i := 3) (v := ?_) rfl (by kernel_rfl) (by kernel_rfl) (by kernel_rfl) (fun _ _ _ h => h) (Or.inl ⟨by rfl, ?_⟩) hHeld ?_
        rotate_left
        · (intro w hSw; (try dsimp only at hSw); go_simp)
          all_goals with_reducible rfl
        try simp only [Act.put, List.getElem_toArray, List.getElem_cons_succ, List.getElem_cons_zero, List.setIfInBounds_toArray, List.set_cons_zero, List.set_cons_succ]
        refine wpAnyH_take (i := 4) (v := ?_) rfl (by kernel_rfl) (by kernel_rfl) (by kernel_rfl) (fun _ _ _ h => h) (Or.inl ⟨by rfl, ?_⟩) hHeld ?_
        rotate_left
        · (intro w hSw; (try dsimp only at hSw); go_simp)
          all_goals with_reducible rfl
        try simp only [Act.put, List.getElem_toArray, List.getElem_cons_succ, List.getElem_cons_zero, List.setIfInBounds_toArray, List.set_cons_zero, List.set_cons_succ]
        refine wpAnyH_take (i := 5) (v := ?_) rfl (by kernel_rfl) (by kernel_rfl) (by kernel_rfl) (fun _ _ _ h => h) (Or.inl ⟨by rfl, ?_⟩) hHeld ?_
        rotate_left
        · (intro w hSw; (try dsimp only at hSw); go_simp)
          all_goals with_reducible rfl
        try simp only [Act.put, List.getElem_toArray, List.getElem_cons_succ, List.getElem_cons_zero, List.setIfInBounds_toArray, List.set_cons_zero, List.set_cons_succ]
        refine wpAnyH_take (i := 6) (v := ?_) rfl (by kernel_rfl) (by kernel_rfl) (by kernel_rfl) (fun _ _ _ h => h) (Or.inl ⟨by rfl, ?_⟩) hHeld ?_
        rotate_left
        · (intro w hSw; (try dsimp only at hSw); go_simp)
          all_goals with_reducible rfl
        try simp only [Act.put, List.getElem_toArray, List.getElem_cons_succ, List.getElem_cons_zero, List.setIfInBounds_toArray, List.set_cons_zero, List.set_cons_succ]
        refine wpAnyH_take (i := 8) (v := ?_) rfl (by kernel_rfl) (by kernel_rfl) (by kernel_rfl) (fun _ _ _ h => h) (Or.inl ⟨by rfl, ?_⟩) hHeld ?_
        rotate_left
        · (intro w hSw; (try dsimp only at hSw); go_simp)
          all_goals with_reducible rfl
        try simp only [Act.put, List.getElem_toArray, List.getElem_cons_succ, List.getElem_cons_zero, List.setIfInBounds_toArray, List.set_cons_zero, List.set_cons_succ]
        refine wpAnyH_take (i := 9) (v := ?_) rfl (by kernel_rfl) (by kernel_rfl) (by kernel_rfl) (fun _ _ _ h => h) (Or.inl ⟨by rfl, ?_⟩) hHeld ?_
        rotate_left
        · (intro w hSw; (try dsimp only at hSw); go_simp)
          all_goals with_reducible rfl
        try simp only [Act.put, List.getElem_toArray, List.getElem_cons_succ, List.getElem_cons_zero, List.setIfInBounds_toArray, List.set_cons_zero, List.set_cons_succ]
        refine wpAnyH_take (i := 10) (v := ?_) rfl (by kernel_rfl) (by kernel_rfl) (by kernel_rfl) (fun _ _ _ h => h) (Or.inl ⟨by rfl, ?_⟩) hHeld ?_
        rotate_left
        · (intro w hSw; (try dsimp only at hSw); go_simp)
          all_goals with_reducible rfl
        try simp only [Act.put, List.getElem_toArray, List.getElem_cons_succ, List.getElem_cons_zero, List.setIfInBounds_toArray, List.set_cons_zero, List.set_cons_succ]
        refine wpAnyH_ready (rs := [7]) (by kernel_rfl) (by simp) ?_
        refine AllReadyH.cons rfl (fun K hK => ?_) AllReadyH.nil
        go_simp
        go_at_call 14
        refine (refValue_any FLg FLf fg.out ff.out (by omega)).mono ?_
        rintro e y21 ⟨v3, rfl, fv3, by21⟩
        replace BP := BP.keep by21
        replace BS := BS.keep by21
        replace Lg := Lg.below by21
        replace Rr := Rr.below by21
        replace L2 := L2.below by21
        replace hsf := hsf.below by21
        replace FLx := FLx.below by21
        replace FLz := FLz.below by21
        replace hld := hld.below by21
        replace Lg10 := Lg10.below by21
        replace Rr10 := Rr10.below by21
        replace FLf := FLf.below by21
        replace FLg := FLg.below by21
        replace bT := bT.trans (by21.mono bT.size)
        replace bo := bo.trans (by21.mono bo.size)
        rw [hu.out] at fv3
        go_wp2_with fail
        refine hK.out _ _ (hS _ bo) (fun hHeld => ?_)
        clear hK K
        try simp only [Act.put, List.getElem_toArray, List.getElem_cons_succ, List.getElem_cons_zero, List.setIfInBounds_toArray, List.set_cons_zero, List.set_cons_succ]
        refine wpAnyH_ready (rs := [11]) (by kernel_rfl) (by simp) ?_
        refine AllReadyH.cons rfl (fun K hK => ?_) AllReadyH.nil
        go_simp
        go_at_call 14
        refine (refValue_any FLg FLx fg4.out fx.out (by omega)).mono ?_
        rintro e y22 ⟨v4, rfl, fv4, by22⟩
        replace BP := BP.keep by22
        replace BS := BS.keep by22
        replace Lg := Lg.below by22
        replace Rr := Rr.below by22
        replace L2 := L2.below by22
        replace hsf := hsf.below by22
        replace FLx := FLx.below by22
        replace FLz := FLz.below by22
        replace hld := hld.below by22
        replace Lg10 := Lg10.below by22
        replace Rr10 := Rr10.below by22
        replace FLf := FLf.below by22
        replace FLg := FLg.below by22
        replace fv3 := fv3.below by22
        replace bT := bT.trans (by22.mono bT.size)
        replace bo := bo.trans (by22.mono bo.size)
        rw [ht.out] at fv4
        go_wp2_with fail
        refine hK.out _ _ (hS _ bo) (fun hHeld => ?_)
        clear hK K
        try simp only [Act.put, List.getElem_toArray, List.getElem_cons_succ, List.getElem_cons_zero, List.setIfInBounds_toArray, List.set_cons_zero, List.set_cons_succ]
        refine wpAnyH_ready (rs := [12]) (by kernel_rfl) (by simp) ?_
        refine AllReadyH.cons rfl (fun K hK => ?_) AllReadyH.nil
        go_simp
        go_at_call 13
        refine (refCmpF_any fv3 fv4 hfu.out hft.out (by omega)).mono ?_
        rintro e y23 ⟨rfl, by23⟩
        replace BP := BP.keep by23
        replace BS := BS.keep by23
        replace Lg := Lg.below by23
        replace Rr := Rr.below by23
        replace L2 := L2.below by23
        replace hsf := hsf.below by23
        replace FLx := FLx.below by23
        replace FLz := FLz.below by23
        replace hld := hld.below by23
        replace Lg10 := Lg10.below by23
        replace Rr10 := Rr10.below by23
        replace FLf := FLf.below by23
        replace FLg := FLg.below by23
        replace fv3 := fv3.below by23
        replace fv4 := fv4.below by23
        replace bT := bT.trans (by23.mono bT.size)
        replace bo := bo.trans (by23.mono bo.size)
        rw [hc.out]
        clear fv3 fv4
        go_wp2_with fail
        refine hK.out _ _ (hS _ bo) (fun hHeld => ?_)
        clear hK K
        try simp only [Act.put, List.getElem_toArray, List.getElem_cons_succ, List.getElem_cons_zero, List.setIfInBounds_toArray, List.set_cons_zero, List.set_cons_succ]
        refine wpAnyH_take (i := 13) (v := ?_) rfl (by kernel_rfl) (by kernel_rfl) (by kernel_rfl) (fun _ _ _ h => h) (Or.inl ⟨by rfl, ?_⟩) hHeld ?_
        rotate_left
        · (intro w hSw; (try dsimp only at hSw); go_simp)
          all_goals with_reducible rfl
        try simp only [Act.put, List.getElem_toArray, List.getElem_cons_succ, List.getElem_cons_zero, List.setIfInBounds_toArray, List.set_cons_zero, List.set_cons_succ]
        refine wpAnyH_take (i := 14) (v := ?_) rfl (by kernel_rfl) (by kernel_rfl) (by kernel_rfl) (fun _ _ _ h => h) (Or.inl ⟨by rfl, ?_⟩) hHeld ?_
        rotate_left
        · (intro w hSw; (try dsimp only at hSw); go_simp)
          all_goals with_reducible rfl
        try simp only [Act.put, List.getElem_toArray, List.getElem_cons_succ, List.getElem_cons_zero, List.setIfInBounds_toArray, List.set_cons_zero, List.set_cons_succ]
        refine wpAnyH_done (by kernel_rfl) ?_ _
        refine NoPanic.normal ?_
        try go_simp
        clear hHeld
        clear hS dS bo
        go_wp2_with fail
        refine (awake19_any _).mono ?_
        rintro e y24 ⟨rfl, by24⟩
        replace BP := BP.keep by24
        replace BS := BS.keep by24
        replace Lg := Lg.below by24
        replace Rr := Rr.below by24
        replace L2 := L2.below by24
        replace hsf := hsf.below by24
        replace FLx := FLx.below by24
        replace FLz := FLz.below by24
        replace hld := hld.below by24
        replace Lg10 := Lg10.below by24
        replace Rr10 := Rr10.below by24
        replace FLf := FLf.below by24
        replace FLg := FLg.below by24
        replace bT := bT.trans (by24.mono bT.size)
        go_wp2
        go_ret
        exact ⟨rfl, bT⟩
  exact absurd hpv'.out (by unfold provenB; rw [if_neg h1, if_neg h2, if_neg h3]; decide)

/-! ### THE ROW's STEP: WRITTEN OUT: LEAVE IT -/
set_option maxRecDepth 100000 in
theorem lifted (os : Os) (started : os.Started) (H : Type) (enc : TypeId × Value → H) :
    ReturnsInHanded {} Try.checked os 3 .any (Rows.lpcheckSoundSpec.pre6 enc Try.prog Try.f3 Rows.lpcheckSoundRow.domain false) (Rows.lpcheckSoundSpec.post enc Try.prog Try.f3 false true false false) := by
  refine returnsInHanded_of_change (C := Try.checked) own started (by kernel_rfl) Try.func3
    (ChangeSpec.witness6 (enc := enc) (C := Try.checked) false ⟨#[], #[.agg #[.slice none 0 0, .slice none 0 0], .agg #[.int .i64 0, .bool false, .slice none 0 0, .slice none 0 0, .slice none 0 0, .slice none 0 0, .slice none 0 0], .slice none 0 0], []⟩ 8 (by kernel_rfl) (by kernel_rfl) (by kernel_rfl) (by kernel_rfl)) ?_
  intro W base args ds gs before hval0 hW hcnd _
  have hval : ∀ (j : Nat) t v, Try.f3.params[j]? = some t → args[j]? = some v → Value.okWide Try.prog W .any base t v := hval0
  have hW' := hW
  obtain ⟨p, q, hA0, hV, rfl, hfz, hnd⟩ := hW
  have hA : DataW.TrodAll enc Try.prog W 0 (fun _ => true) true Try.f3.params.toList args.toList ds p := hA0
  rw [Try.params3] at hA hval
  obtain ⟨v0, vs0, d0, ds0, p0, q0, hargs, rfl, rfl, h0, r0⟩ := trodAll_cons hA
  obtain ⟨v1, vs1, d1, ds1, p1, q1, rfl, rfl, rfl, h1, r1⟩ := trodAll_cons r0
  obtain ⟨v2, vs2, d2, ds2, p2, q2, rfl, rfl, rfl, h2, r2⟩ := trodAll_cons r1
  obtain ⟨rfl, rfl, rfl⟩ := trodAll_nil r2
  obtain rfl : args = #[v0, v1, v2] := by cases args; simp_all
  obtain ⟨rfl, rfl⟩ := trodVars_none hV
  have k0 := h0
  have lt0 : ∀ x ∈ p0, x.block < W.heap.size := by obtain ⟨m, hm⟩ := k0; exact DataW.trod_lt m _ _ _ hm
  obtain ⟨p0, rfl, w0⟩ := open_prog (hval 0 25 v0 rfl rfl) h0
  have k1 := h1
  have lt1 : ∀ x ∈ p1, x.block < W.heap.size := by obtain ⟨m, hm⟩ := k1; exact DataW.trod_lt m _ _ _ hm
  obtain ⟨p1, rfl, w1⟩ := open_sol (hval 1 31 v1 rfl rfl) h1
  have k2 := h2
  have lt2 : ∀ x ∈ p2, x.block < W.heap.size := by obtain ⟨m, hm⟩ := k2; exact DataW.trod_lt m _ _ _ hm
  obtain ⟨A2, c2, ds2, rfl, w2, x2⟩ := open_fracs (hval 2 22 v2 rfl rfl) h2
  clear hA0 hval0
  refine (walk p0 p1 A2 c2 ds2 W w0 w1 w2 x2).mono fun e W' ⟨he, bel⟩ => ?_
  subst he
  exact ⟨_, rfl, _, _, _, [], _, [], hW', trodAll_mk1 (shut_bool Try.underlying4 _), (trodAll_cons_mk (Below.trod laidOut (by kernel_rfl) (of_decide_eq_true (by kernel_rfl)) k0 bel lt0) (trodAll_cons_mk (Below.trod laidOut (by kernel_rfl) (of_decide_eq_true (by kernel_rfl)) k1 bel lt1) (trodAll_cons_mk (Below.trod laidOut (by kernel_rfl) (of_decide_eq_true (by kernel_rfl)) k2 bel lt2) trodAll_mk0))), rfl, bel.frame _, fun h => by cases h⟩

theorem over : Rows.lpcheckSoundRow.holds Try.pinned (OpenSpec.ofChange Rows.lpcheckSoundSpec) :=
  OpenClaim.holds_of_wide 3 Try.f3 rfl rfl rfl rfl rfl rfl rfl ⟨rfl, rfl, rfl, rfl, rfl⟩ rfl rfl rfl rfl rfl (by kernel_rfl) Try.func3 (by kernel_rfl)
    (of_decide_eq_true (by kernel_rfl)) (by unfold Func.isWrapper; first | (rw [if_pos (by decide +kernel)]; kernel_rfl) | (rw [if_neg (by decide +kernel)]; exact ⟨rfl, rfl⟩))
    (fun os started H enc _ => lifted os started H enc)

/-- ████ THE STATEMENT ████ -/
theorem proved : Rows.LpcheckSoundSaid := over
#print axioms proved
end Go.Proofs.Ytlocaleiloiaoaa.lpcheckSound
