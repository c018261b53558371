/- L19 awake: what the call does. -/
import Derived.Test.YtlocaleiloiaoaaPSquare
import Derived.Test.YtlocaleiloiaoaaPCheck
import Derived.Test.YtlocaleiloiaoaaPGap
import Derived.Deep.RegionHeld3
namespace Go.Proofs.Ytlocaleiloiaoaa
set_option linter.unusedVariables false
set_option linter.unusedSimpArgs false
open Go.RowKit Plain
attribute [local go_sem ↓] Go.wp_at_zero Go.wp_at_succ

theorem LD.at0 {w : World} {K c : Nat} {A : Option Addr} {ds : List FrD} {q : Rat} (h : LD w K A c ds) (hw : whB ds = true) (hq : ds.map FrD.q = [q]) :
    ∃ (a : Addr) (d : FrD), A = some a ∧ w.cell? a = some (.bool d.neg) ∧ w.cell? ⟨a.block, a.off + 1, none⟩ = some (.slice d.a d.la.length d.ca) ∧ w.cell? ⟨a.block, a.off + 2, none⟩ = some (.slice d.b d.lb.length d.cb) ∧ d.few w K ∧ Hid (d.vld = true) ∧ Hid (d.q = q) := by
  have hl : ds.length = 1 := by rw [← List.length_map (f := FrD.q), hq]; rfl
  obtain ⟨d, rfl⟩ : ∃ d, ds = [d] := by
    match ds, hl with
    | [d], _ => exact ⟨d, rfl⟩
  obtain ⟨a, d', e, -, h0, h1, h2, h3, h4⟩ := h.at (k := 0) (by simp)
  have h5 := h4.out
  simp at h5
  subst h5
  refine ⟨a, d, e, ?_, ?_, ?_, h3, ?_, ?_⟩
  · simpa [Addr.add] using h0
  · simpa [Addr.add] using h1
  · simpa [Addr.add] using h2
  · show d.vld = true; simpa [whB] using hw
  · show d.q = q; simpa using hq

theorem LD.nil (w : World) (K : Nat) : LD w K none 0 [] := ⟨⟨by simp, by omega, fun j hj => by simp at hj⟩, fun d hd => by simp at hd⟩
theorem Nv.nil (w : World) : Nv w none 0 [] := ⟨by simp, by simp, fun h => by simp [u32s] at h, fun d hd => by simp at hd⟩
theorem few_zero (w : World) (K : Nat) : FrD.few w K ⟨false, none, 0, [], none, 0, []⟩ := ⟨Nv.nil w, Nv.nil w, Nat.zero_le _, Nat.zero_le _⟩

set_option maxRecDepth 100000 in
set_option maxHeartbeats 8000000 in
theorem awake19_any (w : World) : Calls Try.prog 11 #[] w (RetB true w) := by
  have bT := Below.refl w.heap.size w
  go_enter Try.func11, Try.ntmps11
  go_wp2_with fail
  refine (square_any _).mono ?_
  rintro e y1 ⟨Ap, cp, gs, Rp, kp, rs, rfl, Ip, lgs, lrs, by1⟩
  replace bT := bT.trans (by1.mono bT.size)
  obtain ⟨y2, hy2, by2, ly2, By2⟩ := boxed y1 #[.int .i64 4, .int .i64 4] 2
  replace Ip := Ip.below by2
  replace bT := bT.trans (by2.mono bT.size)
  have ilx := Blk.il (zs := [4, 4]) By2
  clear By2
  go_wp2_with fail
  refine (thirds19_any (zs := [4, 4]) ilx (i64_ok (by decide)) (by decide) (by decide) (by decide)).mono ?_
  rintro e y3 ⟨Ax, cx, dx, rfl, Lx, Vx, Qx, by3⟩
  replace Ip := Ip.below by3
  replace ilx := ilx.below by3
  replace bT := bT.trans (by3.mono bT.size)
  clear ilx
  replace Vx := Lib.hid Vx
  obtain ⟨y4, hy4, by4, ly4, By4⟩ := boxed y3 #[.int .i64 1, .int .i64 1] 2
  replace Ip := Ip.below by4
  replace Lx := Lx.below by4
  replace bT := bT.trans (by4.mono bT.size)
  have ily := Blk.il (zs := [1, 1]) By4
  clear By4
  go_wp2_with fail
  refine (thirds19_any (zs := [1, 1]) ily (i64_ok (by decide)) (by decide) (by decide) (by decide)).mono ?_
  rintro e y5 ⟨Ay, cy, dy, rfl, Ly, Vy, Qy, by5⟩
  replace Ip := Ip.below by5
  replace Lx := Lx.below by5
  replace ily := ily.below by5
  replace bT := bT.trans (by5.mono bT.size)
  clear ily
  replace Vy := Lib.hid Vy
  obtain ⟨y6, hy6, by6, ly6, By6⟩ := boxed y5 #[.slice Ap gs.length cp, .slice Rp rs.length kp] 25
  replace Ip := Ip.below by6
  replace Lx := Lx.below by6
  replace Ly := Ly.below by6
  replace bT := bT.trans (by6.mono bT.size)
  have BP := By6
  clear By6
  obtain ⟨y7, hy7, by7, ly7, By7⟩ := boxed y6 #[.int .i64 8] 2
  replace Ip := Ip.below by7
  replace Lx := Lx.below by7
  replace Ly := Ly.below by7
  replace BP := BP.keep by7
  replace bT := bT.trans (by7.mono bT.size)
  have ilv := Blk.il (zs := [8]) By7
  clear By7
  go_wp2_with fail
  refine (thirds19_any (zs := [8]) ilv (i64_ok (by decide)) (by decide) (by decide) (by decide)).mono ?_
  rintro e y8 ⟨Av, cv, dv, rfl, Lv, Vv, Qv, by8⟩
  replace Ip := Ip.below by8
  replace Lx := Lx.below by8
  replace Ly := Ly.below by8
  replace BP := BP.keep by8
  replace ilv := ilv.below by8
  replace bT := bT.trans (by8.mono bT.size)
  clear ilv
  replace Vv := Lib.hid Vv
  have hlv : 0 < dv.length := by have := len_of Qv.out; simp at this; omega
  obtain ⟨av, ev, rfl, v0, v1, v2, Fv, Wv, Ev⟩ := Lv.at0 Vv.out Qv.out
  obtain ⟨y9, hy9, by9, ly9, By9⟩ := boxed y8 #[.bool ev.neg, .slice ev.a ev.la.length ev.ca, .slice ev.b ev.lb.length ev.cb] 29
  replace Ip := Ip.below by9
  replace Lx := Lx.below by9
  replace Ly := Ly.below by9
  replace BP := BP.keep by9
  replace Lv := Lv.below by9
  replace Fv := Fv.below by9
  replace bT := bT.trans (by9.mono bT.size)
  have BV := By9
  clear By9
  have hp := Lib.hid (show dualB gs rs dy = true by rw [dual_Q Ip.f.out Vy.out, Ip.q.out, Qy.out]; decide +kernel)
  have hbq := Lib.hid (show sumR (bnds rs dy) = 8 / 3 by rw [bnds_Q gs, Ip.q.out, Qy.out]; decide +kernel)
  have p0 := BP.g0
  have p1 := BP.g1
  go_wp2_with fail
  refine (bound_any Ip.g Ip.r Ly (by omega)).mono ?_
  rintro e y10 ⟨vb, rfl, hTb, hFb, by10⟩
  replace Ip := Ip.below by10
  replace Lx := Lx.below by10
  replace Ly := Ly.below by10
  replace BP := BP.keep by10
  replace Lv := Lv.below by10
  replace Fv := Fv.below by10
  replace BV := BV.keep by10
  replace bT := bT.trans (by10.mono bT.size)
  have fvb := hTb hp.out
  rw [hbq.out] at fvb
  clear hTb hFb p0 p1
  rw [hp.out]
  obtain ⟨nB, AB, aB, lB, BB, bB, mB, rfl, -, -, -⟩ := id fvb
  obtain ⟨y11, hy11, by11, ly11, By11⟩ := boxed y10 #[.bool nB, .slice AB lB.length aB, .slice BB mB.length bB] 29
  replace Ip := Ip.below by11
  replace Lx := Lx.below by11
  replace Ly := Ly.below by11
  replace BP := BP.keep by11
  replace Lv := Lv.below by11
  replace Fv := Fv.below by11
  replace BV := BV.keep by11
  replace fvb := fvb.below by11
  replace bT := bT.trans (by11.mono bT.size)
  have BQ := By11
  clear By11
  obtain ⟨y12, hy12, by12, ly12, By12⟩ := boxed y11 #[.int .i64 1] 2
  replace Ip := Ip.below by12
  replace Lx := Lx.below by12
  replace Ly := Ly.below by12
  replace BP := BP.keep by12
  replace Lv := Lv.below by12
  replace Fv := Fv.below by12
  replace BV := BV.keep by12
  replace fvb := fvb.below by12
  replace BQ := BQ.keep by12
  replace bT := bT.trans (by12.mono bT.size)
  have iln := Blk.il (zs := [1]) By12
  clear By12
  go_wp2_with fail
  refine (whole19_any (zs := [1]) iln (i64_ok (by decide)) (by decide) (by decide) (by decide)).mono ?_
  rintro e y13 ⟨An, cn, dn, rfl, Ln, Vn, Qn, by13⟩
  replace Ip := Ip.below by13
  replace Lx := Lx.below by13
  replace Ly := Ly.below by13
  replace BP := BP.keep by13
  replace Lv := Lv.below by13
  replace Fv := Fv.below by13
  replace BV := BV.keep by13
  replace fvb := fvb.below by13
  replace BQ := BQ.keep by13
  replace iln := iln.below by13
  replace bT := bT.trans (by13.mono bT.size)
  clear iln
  replace Vn := Lib.hid Vn
  obtain ⟨y14, hy14, by14, ly14, By14⟩ := boxed y13 #[.int .i64 1] 2
  replace Ip := Ip.below by14
  replace Lx := Lx.below by14
  replace Ly := Ly.below by14
  replace BP := BP.keep by14
  replace Lv := Lv.below by14
  replace Fv := Fv.below by14
  replace BV := BV.keep by14
  replace fvb := fvb.below by14
  replace BQ := BQ.keep by14
  replace Ln := Ln.below by14
  replace bT := bT.trans (by14.mono bT.size)
  have ilm := Blk.il (zs := [1]) By14
  clear By14
  go_wp2_with fail
  refine (whole19_any (zs := [1]) ilm (i64_ok (by decide)) (by decide) (by decide) (by decide)).mono ?_
  rintro e y15 ⟨Am, cm, dm, rfl, Lm, Vm, Qm, by15⟩
  replace Ip := Ip.below by15
  replace Lx := Lx.below by15
  replace Ly := Ly.below by15
  replace BP := BP.keep by15
  replace Lv := Lv.below by15
  replace Fv := Fv.below by15
  replace BV := BV.keep by15
  replace fvb := fvb.below by15
  replace BQ := BQ.keep by15
  replace Ln := Ln.below by15
  replace ilm := ilm.below by15
  replace bT := bT.trans (by15.mono bT.size)
  clear ilm
  replace Vm := Lib.hid Vm
  go_wp2_with fail
  refine (refFromInt_any (-1) _ (by decide) (by decide)).mono ?_
  rintro e y16 ⟨vc, rfl, ⟨nC, XC, xC, lC, YC, zC, mC, rfl, na, nb, iq⟩, by16⟩
  replace Ip := Ip.below by16
  replace Lx := Lx.below by16
  replace Ly := Ly.below by16
  replace BP := BP.keep by16
  replace Lv := Lv.below by16
  replace Fv := Fv.below by16
  replace BV := BV.keep by16
  replace fvb := fvb.below by16
  replace BQ := BQ.keep by16
  replace Ln := Ln.below by16
  replace Lm := Lm.below by16
  replace bT := bT.trans (by16.mono bT.size)
  obtain ⟨FC, VC, QC⟩ := few_of na nb iq (fits_int4 (n := -1) (by decide) (by decide))
  replace VC := Lib.hid VC
  replace QC := Lib.hid QC
  clear na nb iq
  obtain ⟨r1, hr1⟩ : ∃ r : RowD, Hid (r = ⟨Am, cm, dm, ⟨nC, XC, xC, lC, YC, zC, mC⟩⟩) := ⟨_, rfl⟩
  obtain ⟨y17, hy17, by17, ly17, By17⟩ := boxed y16 #[.slice Am dm.length cm, .bool nC, .slice XC lC.length xC, .slice YC mC.length zC] 51
  replace Ip := Ip.below by17
  replace Lx := Lx.below by17
  replace Ly := Ly.below by17
  replace BP := BP.keep by17
  replace Lv := Lv.below by17
  replace Fv := Fv.below by17
  replace BV := BV.keep by17
  replace fvb := fvb.below by17
  replace BQ := BQ.keep by17
  replace Ln := Ln.below by17
  replace Lm := Lm.below by17
  replace FC := FC.below by17
  replace bT := bT.trans (by17.mono bT.size)
  have IN : IsP y17 An (some ⟨y16.heap.size, 0, none⟩) cn 1 dn [r1] ⟨[1], [[1]], [-1]⟩ := by
    have h1 := hr1.out
    subst h1
    have ln := len_of Qn.out
    have lm := len_of Qm.out
    simp at ln lm
    refine ⟨Ln, ⟨Blk.srow (cells := RowD.cells) rowCells_len (by simp) (t := 51) By17, ?_⟩, ?_, ?_⟩
    · intro r hr
      simp only [List.mem_cons, List.not_mem_nil, or_false] at hr
      subst hr
      exact ⟨Lm, FC⟩
    · show _ = true
      unfold rowsB
      simp only [List.all_cons, List.all_nil, Bool.and_true, Bool.and_eq_true]
      exact ⟨rowB_of (by show dm.length = dn.length; omega) Vm.out VC.out, Vn.out⟩
    · show _ = _
      unfold lpOf RowD.qs
      simp only [List.map_cons, List.map_nil, Qn.out, Qm.out, QC.out]
      rfl
  have lnn : dn.length ≤ 10 := by have := len_of Qn.out; simp at this; omega
  clear By17 hr1
  clear Ln Lm FC Vn Vm VC Qn Qm QC Lv
  obtain ⟨y18, hy18, by18, ly18, By18⟩ := boxed y17 #[.slice An dn.length cn, .slice (some ⟨y16.heap.size, 0, none⟩) 1 1] 25
  replace Ip := Ip.below by18
  replace Lx := Lx.below by18
  replace Ly := Ly.below by18
  replace BP := BP.keep by18
  replace Fv := Fv.below by18
  replace BV := BV.keep by18
  replace fvb := fvb.below by18
  replace BQ := BQ.keep by18
  replace IN := IN.below by18
  replace bT := bT.trans (by18.mono bT.size)
  have BN := By18
  clear By18
  obtain ⟨y19, hy19, by19, ly19, By19⟩ := boxed y18 #[.int .i64 1] 2
  replace Ip := Ip.below by19
  replace Lx := Lx.below by19
  replace Ly := Ly.below by19
  replace BP := BP.keep by19
  replace Fv := Fv.below by19
  replace BV := BV.keep by19
  replace fvb := fvb.below by19
  replace BQ := BQ.keep by19
  replace IN := IN.below by19
  replace BN := BN.keep by19
  replace bT := bT.trans (by19.mono bT.size)
  have ilf := Blk.il (zs := [1]) By19
  clear By19
  go_wp2_with fail
  refine (whole19_any (zs := [1]) ilf (i64_ok (by decide)) (by decide) (by decide) (by decide)).mono ?_
  rintro e y20 ⟨Af, cf, df, rfl, Lf, Vf, Qf, by20⟩
  replace Ip := Ip.below by20
  replace Lx := Lx.below by20
  replace Ly := Ly.below by20
  replace BP := BP.keep by20
  replace Fv := Fv.below by20
  replace BV := BV.keep by20
  replace fvb := fvb.below by20
  replace BQ := BQ.keep by20
  replace IN := IN.below by20
  replace BN := BN.keep by20
  replace ilf := ilf.below by20
  replace bT := bT.trans (by20.mono bT.size)
  clear ilf
  replace Vf := Lib.hid Vf
  have lff : df.length ≤ 10 := by have := len_of Qf.out; simp at this; omega
  have IF : IsP y20 Af none cf 0 df [] ⟨[1], [], []⟩ := by
    refine ⟨Lf, ⟨⟨by simp, by omega, fun j hj => by simp at hj⟩, fun r hr => by simp at hr⟩, ?_, ?_⟩
    · show _ = true
      unfold rowsB
      simp only [List.all_nil, Bool.true_and]
      exact Vf.out
    · show _ = _
      unfold lpOf
      simp only [List.map_nil, Qf.out]
      rfl
  clear Lf Vf Qf
  obtain ⟨y21, hy21, by21, ly21, By21⟩ := boxed y20 #[.slice Af df.length cf, .slice none 0 0] 25
  replace Ip := Ip.below by21
  replace Lx := Lx.below by21
  replace Ly := Ly.below by21
  replace BP := BP.keep by21
  replace Fv := Fv.below by21
  replace BV := BV.keep by21
  replace fvb := fvb.below by21
  replace BQ := BQ.keep by21
  replace IN := IN.below by21
  replace BN := BN.keep by21
  replace IF := IF.below by21
  replace bT := bT.trans (by21.mono bT.size)
  have BF := By21
  clear By21
  have x1 := BF.g1
  have x2 := BF.free 1
  have x3 := BF.same (i := 1) (u := .slice none 0 0) rfl
  clear v0 v1 v2
  have hfe := Lib.hid (show feaB gs rs dx = true by rw [fea_Q Ip.f.out Vx.out, Ip.q.out, Qx.out]; decide +kernel)
  have hdu := Lib.hid (show dualB gs rs dy = true by rw [dual_Q Ip.f.out Vy.out, Ip.q.out, Qy.out]; decide +kernel)
  have hgq : gs.map FrD.q = [1, 1] := by have := congrArg LP.g Ip.q.out; exact this
  have hvx := Lib.hid (show sumR (prods gs dx) = 8 / 3 by rw [dot_Q, hgq, Qx.out]; decide +kernel)
  have hev := Lib.hid (show ev.q = 8 / 3 by rw [Ev.out]; decide +kernel)
  clear hgq
  have fve := Lib.hid (show FV y21 ev.v (8 / 3) by have := (Fv.fv Wv.out).1; rw [hev.out] at this; exact this)
  have hrw := Lib.hid (show rowsB gs.length rs = true by have := Ip.f.out; rw [Bool.and_eq_true] at this; exact this.1)
  have hwg := Lib.hid (show whB gs = true by have := Ip.f.out; rw [Bool.and_eq_true] at this; exact this.2)
  have hwhx := Vx
  have FLx := (Lx.fl Vx.out).1
  have FLy := (Ly.fl Vy.out).1
  have FLg := (Ip.g.fl hwg.out).1
  have fx := Lib.hid (Lx.fl Vx.out).2
  have fy := Lib.hid (Ly.fl Vy.out).2
  have fg := Lib.hid (Ip.g.fl hwg.out).2
  have lx : dx.length ≤ 10 := by have := len_of Qx.out; simp at this; omega
  have ly : dy.length ≤ 10 := by have := len_of Qy.out; simp at this; omega
  replace fve := fve.out
  have hS : ∀ w', Below y21.heap.size y21 w' → w'.cell? ⟨y5.heap.size, 0, none⟩ = some (.slice Ap gs.length cp) ∧ w'.cell? ⟨y5.heap.size, 1, none⟩ = some (.slice Rp rs.length kp) ∧ w'.cell? ⟨y8.heap.size, 0, none⟩ = some (.bool ev.neg) ∧ w'.cell? ⟨y8.heap.size, 1, none⟩ = some (.slice ev.a ev.la.length ev.ca) ∧ w'.cell? ⟨y8.heap.size, 2, none⟩ = some (.slice ev.b ev.lb.length ev.cb) ∧ w'.cell? ⟨y10.heap.size, 0, none⟩ = some (.bool nB) ∧ w'.cell? ⟨y10.heap.size, 1, none⟩ = some (.slice AB lB.length aB) ∧ w'.cell? ⟨y10.heap.size, 2, none⟩ = some (.slice BB mB.length bB) ∧ Below y21.heap.size y21 w' := by
    intro w' o
    have hPw := BP.keep o
    have hVw := BV.keep o
    have hBw := BQ.keep o
    exact ⟨hPw.g0, hPw.g1, hVw.f0, hVw.f1, hVw.f2, hBw.f0, hBw.f1, hBw.f2, o⟩
  have bo : Below y21.heap.size y21 y21 := Below.refl _ _
  have dS : Below y21.heap.size y21 y21.drew := (Below.refl _ _).drew
  go_wp2_with fail
  refine wp_region_noPanic ?_
  refine wp_region_held_drew (S := fun w' => w'.cell? ⟨y5.heap.size, 0, none⟩ = some (.slice Ap gs.length cp) ∧ w'.cell? ⟨y5.heap.size, 1, none⟩ = some (.slice Rp rs.length kp) ∧ w'.cell? ⟨y8.heap.size, 0, none⟩ = some (.bool ev.neg) ∧ w'.cell? ⟨y8.heap.size, 1, none⟩ = some (.slice ev.a ev.la.length ev.ca) ∧ w'.cell? ⟨y8.heap.size, 2, none⟩ = some (.slice ev.b ev.lb.length ev.cb) ∧ w'.cell? ⟨y10.heap.size, 0, none⟩ = some (.bool nB) ∧ w'.cell? ⟨y10.heap.size, 1, none⟩ = some (.slice AB lB.length aB) ∧ w'.cell? ⟨y10.heap.size, 2, none⟩ = some (.slice BB mB.length bB) ∧ Below y21.heap.size y21 w') (by kernel_rfl) (hS _ dS) (fun hHeld => ?_)
  refine wpAnyH_take (i := 0) (v := ?_) rfl (by kernel_rfl) (by kernel_rfl) (by kernel_rfl) (fun _ _ _ h => h) (Or.inl ⟨by rfl, ?_⟩) hHeld ?_
  rotate_left
  · (intro w hSw; (try dsimp only at hSw); go_simp)
    all_goals with_reducible rfl
  try simp only [Act.put, List.getElem_toArray, List.getElem_cons_succ, List.getElem_cons_zero, List.setIfInBounds_toArray, List.set_cons_zero, List.set_cons_succ]
  refine wpAnyH_take (i := 1) (v := ?_) rfl (by kernel_rfl) (by kernel_rfl) (by kernel_rfl) (fun _ _ _ h => h) (Or.inl ⟨by rfl, ?_⟩) hHeld ?_
  rotate_left
  · (intro w hSw; (try dsimp only at hSw); go_simp)
    all_goals with_reducible rfl
  try simp only [Act.put, List.getElem_toArray, List.getElem_cons_succ, List.getElem_cons_zero, List.setIfInBounds_toArray, List.set_cons_zero, List.set_cons_succ]
  refine wpAnyH_ready (rs := [2]) (by kernel_rfl) (by simp) ?_
  refine AllReadyH.cons rfl (fun K hK => ?_) AllReadyH.nil
  go_simp
  have dw21 : Below y21.heap.size y21 y21.drew := (Below.refl _ _).drew
  replace Ip := Ip.below dw21
  replace Lx := Lx.below dw21
  replace Ly := Ly.below dw21
  replace BP := BP.keep dw21
  replace Fv := Fv.below dw21
  replace BV := BV.keep dw21
  replace fvb := fvb.below dw21
  replace BQ := BQ.keep dw21
  replace IN := IN.below dw21
  replace BN := BN.keep dw21
  replace IF := IF.below dw21
  replace BF := BF.keep dw21
  replace fve := fve.below dw21
  replace FLx := FLx.below dw21
  replace FLy := FLy.below dw21
  replace FLg := FLg.below dw21
  replace bT := bT.trans (dw21.mono bT.size)
  replace bo := bo.trans (dw21.mono bo.size)
  go_at_call 19
  refine (feasible_any Ip.g Ip.r Lx (by omega)).mono ?_
  rintro e y22 ⟨rfl, by22⟩
  replace Ip := Ip.below by22
  replace Lx := Lx.below by22
  replace Ly := Ly.below by22
  replace BP := BP.keep by22
  replace Fv := Fv.below by22
  replace BV := BV.keep by22
  replace fvb := fvb.below by22
  replace BQ := BQ.keep by22
  replace IN := IN.below by22
  replace BN := BN.keep by22
  replace IF := IF.below by22
  replace BF := BF.keep by22
  replace fve := fve.below by22
  replace FLx := FLx.below by22
  replace FLy := FLy.below by22
  replace FLg := FLg.below by22
  replace bT := bT.trans (by22.mono bT.size)
  replace bo := bo.trans (by22.mono bo.size)
  rw [hfe.out]
  go_wp2_with fail
  refine hK.out _ _ (hS _ bo) (fun hHeld => ?_)
  clear hK K
  try simp only [Act.put, List.getElem_toArray, List.getElem_cons_succ, List.getElem_cons_zero, List.setIfInBounds_toArray, List.set_cons_zero, List.set_cons_succ]
  refine wpAnyH_take (i := 3) (v := ?_) rfl (by kernel_rfl) (by kernel_rfl) (by kernel_rfl) (fun _ _ _ h => h) (Or.inl ⟨by rfl, ?_⟩) hHeld ?_
  rotate_left
  · (intro w hSw; (try dsimp only at hSw); go_simp)
    all_goals with_reducible rfl
  try simp only [Act.put, List.getElem_toArray, List.getElem_cons_succ, List.getElem_cons_zero, List.setIfInBounds_toArray, List.set_cons_zero, List.set_cons_succ]
  refine wpAnyH_take (i := 4) (v := ?_) rfl (by kernel_rfl) (by kernel_rfl) (by kernel_rfl) (fun _ _ _ h => h) (Or.inl ⟨by rfl, ?_⟩) hHeld ?_
  rotate_left
  · (intro w hSw; (try dsimp only at hSw); go_simp)
    all_goals with_reducible rfl
  try simp only [Act.put, List.getElem_toArray, List.getElem_cons_succ, List.getElem_cons_zero, List.setIfInBounds_toArray, List.set_cons_zero, List.set_cons_succ]
  refine wpAnyH_take (i := 5) (v := ?_) rfl (by kernel_rfl) (by kernel_rfl) (by kernel_rfl) (fun _ _ _ h => h) (Or.inl ⟨by rfl, ?_⟩) hHeld ?_
  rotate_left
  · (intro w hSw; (try dsimp only at hSw); go_simp)
    all_goals with_reducible rfl
  try simp only [Act.put, List.getElem_toArray, List.getElem_cons_succ, List.getElem_cons_zero, List.setIfInBounds_toArray, List.set_cons_zero, List.set_cons_succ]
  refine wpAnyH_ready (rs := [6]) (by kernel_rfl) (by simp) ?_
  refine AllReadyH.cons rfl (fun K hK => ?_) AllReadyH.nil
  obtain ⟨y23, hy23, by23, ly23, By23⟩ := boxed y22 #[.int .i64 4, .int .i64 0] 2
  replace Ip := Ip.below by23
  replace Lx := Lx.below by23
  replace Ly := Ly.below by23
  replace BP := BP.keep by23
  replace Fv := Fv.below by23
  replace BV := BV.keep by23
  replace fvb := fvb.below by23
  replace BQ := BQ.keep by23
  replace IN := IN.below by23
  replace BN := BN.keep by23
  replace IF := IF.below by23
  replace BF := BF.keep by23
  replace fve := fve.below by23
  replace FLx := FLx.below by23
  replace FLy := FLy.below by23
  replace FLg := FLg.below by23
  replace bT := bT.trans (by23.mono bT.size)
  replace bo := bo.trans (by23.mono bo.size)
  have ilu := Blk.il (zs := [4, 0]) By23
  clear By23
  go_simp
  refine hK.out _ _ (hS _ bo) (fun hHeld => ?_)
  clear hK K
  try simp only [Act.put, List.getElem_toArray, List.getElem_cons_succ, List.getElem_cons_zero, List.setIfInBounds_toArray, List.set_cons_zero, List.set_cons_succ]
  refine wpAnyH_ready (rs := [7]) (by kernel_rfl) (by simp) ?_
  refine AllReadyH.cons rfl (fun K hK => ?_) AllReadyH.nil
  go_simp
  go_at_call 32
  refine (whole19_any (zs := [4, 0]) ilu (i64_ok (by decide)) (by decide) (by decide) (by decide)).mono ?_
  rintro e y24 ⟨Au, cu, du, rfl, Lu, Vu, Qu, by24⟩
  replace Ip := Ip.below by24
  replace Lx := Lx.below by24
  replace Ly := Ly.below by24
  replace BP := BP.keep by24
  replace Fv := Fv.below by24
  replace BV := BV.keep by24
  replace fvb := fvb.below by24
  replace BQ := BQ.keep by24
  replace IN := IN.below by24
  replace BN := BN.keep by24
  replace IF := IF.below by24
  replace BF := BF.keep by24
  replace fve := fve.below by24
  replace FLx := FLx.below by24
  replace FLy := FLy.below by24
  replace FLg := FLg.below by24
  replace ilu := ilu.below by24
  replace bT := bT.trans (by24.mono bT.size)
  replace bo := bo.trans (by24.mono bo.size)
  clear ilu
  replace Vu := Lib.hid Vu
  go_wp2_with fail
  refine hK.out _ _ (hS _ bo) (fun hHeld => ?_)
  clear hK K
  try simp only [Act.put, List.getElem_toArray, List.getElem_cons_succ, List.getElem_cons_zero, List.setIfInBounds_toArray, List.set_cons_zero, List.set_cons_succ]
  refine wpAnyH_ready (rs := [8]) (by kernel_rfl) (by simp) ?_
  refine AllReadyH.cons rfl (fun K hK => ?_) AllReadyH.nil
  go_simp
  have hfe2 := Lib.hid (show feaB gs rs du = false by rw [fea_Q Ip.f.out Vu.out, Ip.q.out, Qu.out]; decide +kernel)
  have lu : du.length ≤ 10 := by have := len_of Qu.out; simp at this; omega
  go_at_call 19
  refine (feasible_any Ip.g Ip.r Lu (by omega)).mono ?_
  rintro e y25 ⟨rfl, by25⟩
  replace Ip := Ip.below by25
  replace Lx := Lx.below by25
  replace Ly := Ly.below by25
  replace BP := BP.keep by25
  replace Fv := Fv.below by25
  replace BV := BV.keep by25
  replace fvb := fvb.below by25
  replace BQ := BQ.keep by25
  replace IN := IN.below by25
  replace BN := BN.keep by25
  replace IF := IF.below by25
  replace BF := BF.keep by25
  replace fve := fve.below by25
  replace FLx := FLx.below by25
  replace FLy := FLy.below by25
  replace FLg := FLg.below by25
  replace Lu := Lu.below by25
  replace bT := bT.trans (by25.mono bT.size)
  replace bo := bo.trans (by25.mono bo.size)
  rw [hfe2.out]
  clear Lu Vu Qu hfe2 lu
  go_wp2_with fail
  refine hK.out _ _ (hS _ bo) (fun hHeld => ?_)
  clear hK K
  try simp only [Act.put, List.getElem_toArray, List.getElem_cons_succ, List.getElem_cons_zero, List.setIfInBounds_toArray, List.set_cons_zero, List.set_cons_succ]
  refine wpAnyH_take (i := 9) (v := ?_) rfl (by kernel_rfl) (by kernel_rfl) (by kernel_rfl) (fun _ _ _ h => h) (Or.inl ⟨by rfl, ?_⟩) hHeld ?_
  rotate_left
  · (intro w hSw; (try dsimp only at hSw); go_simp)
    all_goals with_reducible rfl
  try simp only [Act.put, List.getElem_toArray, List.getElem_cons_succ, List.getElem_cons_zero, List.setIfInBounds_toArray, List.set_cons_zero, List.set_cons_succ]
  refine wpAnyH_take (i := 10) (v := ?_) rfl (by kernel_rfl) (by kernel_rfl) (by kernel_rfl) (fun _ _ _ h => h) (Or.inl ⟨by rfl, ?_⟩) hHeld ?_
  rotate_left
  · (intro w hSw; (try dsimp only at hSw); go_simp)
    all_goals with_reducible rfl
  try simp only [Act.put, List.getElem_toArray, List.getElem_cons_succ, List.getElem_cons_zero, List.setIfInBounds_toArray, List.set_cons_zero, List.set_cons_succ]
  refine wpAnyH_take (i := 11) (v := ?_) rfl (by kernel_rfl) (by kernel_rfl) (by kernel_rfl) (fun _ _ _ h => h) (Or.inl ⟨by rfl, ?_⟩) hHeld ?_
  rotate_left
  · (intro w hSw; (try dsimp only at hSw); go_simp)
    all_goals with_reducible rfl
  try simp only [Act.put, List.getElem_toArray, List.getElem_cons_succ, List.getElem_cons_zero, List.setIfInBounds_toArray, List.set_cons_zero, List.set_cons_succ]
  refine wpAnyH_take (i := 12) (v := ?_) rfl (by kernel_rfl) (by kernel_rfl) (by kernel_rfl) (fun _ _ _ h => h) (Or.inl ⟨by rfl, ?_⟩) hHeld ?_
  rotate_left
  · (intro w hSw; (try dsimp only at hSw); go_simp)
    all_goals with_reducible rfl
  try simp only [Act.put, List.getElem_toArray, List.getElem_cons_succ, List.getElem_cons_zero, List.setIfInBounds_toArray, List.set_cons_zero, List.set_cons_succ]
  refine wpAnyH_take (i := 13) (v := ?_) rfl (by kernel_rfl) (by kernel_rfl) (by kernel_rfl) (fun _ _ _ h => h) (Or.inl ⟨by rfl, ?_⟩) hHeld ?_
  rotate_left
  · (intro w hSw; (try dsimp only at hSw); go_simp)
    all_goals with_reducible rfl
  try simp only [Act.put, List.getElem_toArray, List.getElem_cons_succ, List.getElem_cons_zero, List.setIfInBounds_toArray, List.set_cons_zero, List.set_cons_succ]
  refine wpAnyH_take (i := 14) (v := ?_) rfl (by kernel_rfl) (by kernel_rfl) (by kernel_rfl) (fun _ _ _ h => h) (Or.inl ⟨by rfl, ?_⟩) hHeld ?_
  rotate_left
  · (intro w hSw; (try dsimp only at hSw); go_simp)
    all_goals with_reducible rfl
  try simp only [Act.put, List.getElem_toArray, List.getElem_cons_succ, List.getElem_cons_zero, List.setIfInBounds_toArray, List.set_cons_zero, List.set_cons_succ]
  refine wpAnyH_take (i := 15) (v := ?_) rfl (by kernel_rfl) (by kernel_rfl) (by kernel_rfl) (fun _ _ _ h => h) (Or.inl ⟨by rfl, ?_⟩) hHeld ?_
  rotate_left
  · (intro w hSw; (try dsimp only at hSw); go_simp)
    all_goals with_reducible rfl
  try simp only [Act.put, List.getElem_toArray, List.getElem_cons_succ, List.getElem_cons_zero, List.setIfInBounds_toArray, List.set_cons_zero, List.set_cons_succ]
  refine wpAnyH_take (i := 16) (v := ?_) rfl (by kernel_rfl) (by kernel_rfl) (by kernel_rfl) (fun _ _ _ h => h) (Or.inl ⟨by rfl, ?_⟩) hHeld ?_
  rotate_left
  · (intro w hSw; (try dsimp only at hSw); go_simp)
    all_goals with_reducible rfl
  try simp only [Act.put, List.getElem_toArray, List.getElem_cons_succ, List.getElem_cons_zero, List.setIfInBounds_toArray, List.set_cons_zero, List.set_cons_succ]
  refine wpAnyH_ready (rs := [17]) (by kernel_rfl) (by simp) ?_
  refine AllReadyH.cons rfl (fun K hK => ?_) AllReadyH.nil
  go_simp
  go_at_call 22
  refine (sameFracQ_any fvb fve).mono ?_
  rintro e y26 ⟨rfl, by26⟩
  replace Ip := Ip.below by26
  replace Lx := Lx.below by26
  replace Ly := Ly.below by26
  replace BP := BP.keep by26
  replace Fv := Fv.below by26
  replace BV := BV.keep by26
  replace fvb := fvb.below by26
  replace BQ := BQ.keep by26
  replace IN := IN.below by26
  replace BN := BN.keep by26
  replace IF := IF.below by26
  replace BF := BF.keep by26
  replace fve := fve.below by26
  replace FLx := FLx.below by26
  replace FLy := FLy.below by26
  replace FLg := FLg.below by26
  replace bT := bT.trans (by26.mono bT.size)
  replace bo := bo.trans (by26.mono bo.size)
  rw [show decide ((8 / 3 : Rat) = 8 / 3) = true from by decide +kernel]
  go_wp2_with fail
  refine hK.out _ _ (hS _ bo) (fun hHeld => ?_)
  clear hK K
  try simp only [Act.put, List.getElem_toArray, List.getElem_cons_succ, List.getElem_cons_zero, List.setIfInBounds_toArray, List.set_cons_zero, List.set_cons_succ]
  refine wpAnyH_take (i := 18) (v := ?_) rfl (by kernel_rfl) (by kernel_rfl) (by kernel_rfl) (fun _ _ _ h => h) (Or.inl ⟨by rfl, ?_⟩) hHeld ?_
  rotate_left
  · (intro w hSw; (try dsimp only at hSw); go_simp)
    all_goals with_reducible rfl
  try simp only [Act.put, List.getElem_toArray, List.getElem_cons_succ, List.getElem_cons_zero, List.setIfInBounds_toArray, List.set_cons_zero, List.set_cons_succ]
  refine wpAnyH_take (i := 19) (v := ?_) rfl (by kernel_rfl) (by kernel_rfl) (by kernel_rfl) (fun _ _ _ h => h) (Or.inl ⟨by rfl, ?_⟩) hHeld ?_
  rotate_left
  · (intro w hSw; (try dsimp only at hSw); go_simp)
    all_goals with_reducible rfl
  try simp only [Act.put, List.getElem_toArray, List.getElem_cons_succ, List.getElem_cons_zero, List.setIfInBounds_toArray, List.set_cons_zero, List.set_cons_succ]
  refine wpAnyH_take (i := 20) (v := ?_) rfl (by kernel_rfl) (by kernel_rfl) (by kernel_rfl) (fun _ _ _ h => h) (Or.inl ⟨by rfl, ?_⟩) hHeld ?_
  rotate_left
  · (intro w hSw; (try dsimp only at hSw); go_simp)
    all_goals with_reducible rfl
  try simp only [Act.put, List.getElem_toArray, List.getElem_cons_succ, List.getElem_cons_zero, List.setIfInBounds_toArray, List.set_cons_zero, List.set_cons_succ]
  refine wpAnyH_take (i := 21) (v := ?_) rfl (by kernel_rfl) (by kernel_rfl) (by kernel_rfl) (fun _ _ _ h => h) (Or.inl ⟨by rfl, ?_⟩) hHeld ?_
  rotate_left
  · (intro w hSw; (try dsimp only at hSw); go_simp)
    all_goals with_reducible rfl
  try simp only [Act.put, List.getElem_toArray, List.getElem_cons_succ, List.getElem_cons_zero, List.setIfInBounds_toArray, List.set_cons_zero, List.set_cons_succ]
  refine wpAnyH_take (i := 22) (v := ?_) rfl (by kernel_rfl) (by kernel_rfl) (by kernel_rfl) (fun _ _ _ h => h) (Or.inl ⟨by rfl, ?_⟩) hHeld ?_
  rotate_left
  · (intro w hSw; (try dsimp only at hSw); go_simp)
    all_goals with_reducible rfl
  try simp only [Act.put, List.getElem_toArray, List.getElem_cons_succ, List.getElem_cons_zero, List.setIfInBounds_toArray, List.set_cons_zero, List.set_cons_succ]
  refine wpAnyH_take (i := 24) (v := ?_) rfl (by kernel_rfl) (by kernel_rfl) (by kernel_rfl) (fun _ _ _ h => h) (Or.inl ⟨by rfl, ?_⟩) hHeld ?_
  rotate_left
  · (intro w hSw; (try dsimp only at hSw); go_simp)
    all_goals with_reducible rfl
  try simp only [Act.put, List.getElem_toArray, List.getElem_cons_succ, List.getElem_cons_zero, List.setIfInBounds_toArray, List.set_cons_zero, List.set_cons_succ]
  refine wpAnyH_ready (rs := [23]) (by kernel_rfl) (by simp) ?_
  refine AllReadyH.cons rfl (fun K hK => ?_) AllReadyH.nil
  go_simp
  go_at_call 27
  refine (value_any FLg FLx fg.out fx.out (by omega)).mono ?_
  rintro e y27 ⟨vd, rfl, fvd, by27⟩
  replace Ip := Ip.below by27
  replace Lx := Lx.below by27
  replace Ly := Ly.below by27
  replace BP := BP.keep by27
  replace Fv := Fv.below by27
  replace BV := BV.keep by27
  replace fvb := fvb.below by27
  replace BQ := BQ.keep by27
  replace IN := IN.below by27
  replace BN := BN.keep by27
  replace IF := IF.below by27
  replace BF := BF.keep by27
  replace fve := fve.below by27
  replace FLx := FLx.below by27
  replace FLy := FLy.below by27
  replace FLg := FLg.below by27
  replace bT := bT.trans (by27.mono bT.size)
  replace bo := bo.trans (by27.mono bo.size)
  rw [hvx.out] at fvd
  go_wp2_with fail
  refine hK.out _ _ (hS _ bo) (fun hHeld => ?_)
  clear hK K
  try simp only [Act.put, List.getElem_toArray, List.getElem_cons_succ, List.getElem_cons_zero, List.setIfInBounds_toArray, List.set_cons_zero, List.set_cons_succ]
  refine wpAnyH_ready (rs := [25]) (by kernel_rfl) (by simp) ?_
  refine AllReadyH.cons rfl (fun K hK => ?_) AllReadyH.nil
  go_simp
  go_at_call 22
  refine (sameFracQ_any fvd fve).mono ?_
  rintro e y28 ⟨rfl, by28⟩
  replace Ip := Ip.below by28
  replace Lx := Lx.below by28
  replace Ly := Ly.below by28
  replace BP := BP.keep by28
  replace Fv := Fv.below by28
  replace BV := BV.keep by28
  replace fvb := fvb.below by28
  replace BQ := BQ.keep by28
  replace IN := IN.below by28
  replace BN := BN.keep by28
  replace IF := IF.below by28
  replace BF := BF.keep by28
  replace fve := fve.below by28
  replace FLx := FLx.below by28
  replace FLy := FLy.below by28
  replace FLg := FLg.below by28
  replace fvd := fvd.below by28
  replace bT := bT.trans (by28.mono bT.size)
  replace bo := bo.trans (by28.mono bo.size)
  rw [show decide ((8 / 3 : Rat) = 8 / 3) = true from by decide +kernel]
  clear fvd
  go_wp2_with fail
  refine hK.out _ _ (hS _ bo) (fun hHeld => ?_)
  clear hK K
  try simp only [Act.put, List.getElem_toArray, List.getElem_cons_succ, List.getElem_cons_zero, List.setIfInBounds_toArray, List.set_cons_zero, List.set_cons_succ]
  refine wpAnyH_take (i := 26) (v := ?_) rfl (by kernel_rfl) (by kernel_rfl) (by kernel_rfl) (fun _ _ _ h => h) (Or.inl ⟨by rfl, ?_⟩) hHeld ?_
  rotate_left
  · (intro w hSw; (try dsimp only at hSw); go_simp)
    all_goals with_reducible rfl
  try simp only [Act.put, List.getElem_toArray, List.getElem_cons_succ, List.getElem_cons_zero, List.setIfInBounds_toArray, List.set_cons_zero, List.set_cons_succ]
  refine wpAnyH_take (i := 27) (v := ?_) rfl (by kernel_rfl) (by kernel_rfl) (by kernel_rfl) (fun _ _ _ h => h) (Or.inl ⟨by rfl, ?_⟩) hHeld ?_
  rotate_left
  · (intro w hSw; (try dsimp only at hSw); go_simp)
    all_goals with_reducible rfl
  try simp only [Act.put, List.getElem_toArray, List.getElem_cons_succ, List.getElem_cons_zero, List.setIfInBounds_toArray, List.set_cons_zero, List.set_cons_succ]
  refine wpAnyH_take (i := 28) (v := ?_) rfl (by kernel_rfl) (by kernel_rfl) (by kernel_rfl) (fun _ _ _ h => h) (Or.inl ⟨by rfl, ?_⟩) hHeld ?_
  rotate_left
  · (intro w hSw; (try dsimp only at hSw); go_simp)
    all_goals with_reducible rfl
  try simp only [Act.put, List.getElem_toArray, List.getElem_cons_succ, List.getElem_cons_zero, List.setIfInBounds_toArray, List.set_cons_zero, List.set_cons_succ]
  refine wpAnyH_take (i := 29) (v := ?_) rfl (by kernel_rfl) (by kernel_rfl) (by kernel_rfl) (fun _ _ _ h => h) (Or.inl ⟨by rfl, ?_⟩) hHeld ?_
  rotate_left
  · (intro w hSw; (try dsimp only at hSw); go_simp)
    all_goals with_reducible rfl
  try simp only [Act.put, List.getElem_toArray, List.getElem_cons_succ, List.getElem_cons_zero, List.setIfInBounds_toArray, List.set_cons_zero, List.set_cons_succ]
  refine wpAnyH_take (i := 30) (v := ?_) rfl (by kernel_rfl) (by kernel_rfl) (by kernel_rfl) (fun _ _ _ h => h) (Or.inl ⟨by rfl, ?_⟩) hHeld ?_
  rotate_left
  · (intro w hSw; (try dsimp only at hSw); go_simp)
    all_goals with_reducible rfl
  try simp only [Act.put, List.getElem_toArray, List.getElem_cons_succ, List.getElem_cons_zero, List.setIfInBounds_toArray, List.set_cons_zero, List.set_cons_succ]
  refine wpAnyH_take (i := 31) (v := ?_) rfl (by kernel_rfl) (by kernel_rfl) (by kernel_rfl) (fun _ _ _ h => h) (Or.inl ⟨by rfl, ?_⟩) hHeld ?_
  rotate_left
  · (intro w hSw; (try dsimp only at hSw); go_simp)
    all_goals with_reducible rfl
  try simp only [Act.put, List.getElem_toArray, List.getElem_cons_succ, List.getElem_cons_zero, List.setIfInBounds_toArray, List.set_cons_zero, List.set_cons_succ]
  refine wpAnyH_ready (rs := [32]) (by kernel_rfl) (by simp) ?_
  refine AllReadyH.cons rfl (fun K hK => ?_) AllReadyH.nil
  go_simp
  go_at_call 25
  refine (gap_any Ip.g Ip.r hwg.out hrw.out FLx FLy fx.out fy.out (by omega)).mono ?_
  rintro e y29 ⟨vd, rfl, fvd, by29⟩
  replace Ip := Ip.below by29
  replace Lx := Lx.below by29
  replace Ly := Ly.below by29
  replace BP := BP.keep by29
  replace Fv := Fv.below by29
  replace BV := BV.keep by29
  replace fvb := fvb.below by29
  replace BQ := BQ.keep by29
  replace IN := IN.below by29
  replace BN := BN.keep by29
  replace IF := IF.below by29
  replace BF := BF.keep by29
  replace fve := fve.below by29
  replace FLx := FLx.below by29
  replace FLy := FLy.below by29
  replace FLg := FLg.below by29
  replace bT := bT.trans (by29.mono bT.size)
  replace bo := bo.trans (by29.mono bo.size)
  rw [hbq.out, hvx.out] at fvd
  go_wp2_with fail
  refine hK.out _ _ (hS _ bo) (fun hHeld => ?_)
  clear hK K
  try simp only [Act.put, List.getElem_toArray, List.getElem_cons_succ, List.getElem_cons_zero, List.setIfInBounds_toArray, List.set_cons_zero, List.set_cons_succ]
  refine wpAnyH_ready (rs := [33]) (by kernel_rfl) (by simp) ?_
  refine AllReadyH.cons rfl (fun K hK => ?_) AllReadyH.nil
  go_simp
  go_at_call 17
  refine (refFromInt_any 0 _ (by decide) (by decide)).mono ?_
  rintro e y30 ⟨vf, rfl, fvf, by30⟩
  replace Ip := Ip.below by30
  replace Lx := Lx.below by30
  replace Ly := Ly.below by30
  replace BP := BP.keep by30
  replace Fv := Fv.below by30
  replace BV := BV.keep by30
  replace fvb := fvb.below by30
  replace BQ := BQ.keep by30
  replace IN := IN.below by30
  replace BN := BN.keep by30
  replace IF := IF.below by30
  replace BF := BF.keep by30
  replace fve := fve.below by30
  replace FLx := FLx.below by30
  replace FLy := FLy.below by30
  replace FLg := FLg.below by30
  replace fvd := fvd.below by30
  replace bT := bT.trans (by30.mono bT.size)
  replace bo := bo.trans (by30.mono bo.size)
  go_wp2_with fail
  refine hK.out _ _ (hS _ bo) (fun hHeld => ?_)
  clear hK K
  try simp only [Act.put, List.getElem_toArray, List.getElem_cons_succ, List.getElem_cons_zero, List.setIfInBounds_toArray, List.set_cons_zero, List.set_cons_succ]
  refine wpAnyH_ready (rs := [34]) (by kernel_rfl) (by simp) ?_
  refine AllReadyH.cons rfl (fun K hK => ?_) AllReadyH.nil
  go_simp
  go_at_call 22
  refine (sameFracQ_any fvd fvf).mono ?_
  rintro e y31 ⟨rfl, by31⟩
  replace Ip := Ip.below by31
  replace Lx := Lx.below by31
  replace Ly := Ly.below by31
  replace BP := BP.keep by31
  replace Fv := Fv.below by31
  replace BV := BV.keep by31
  replace fvb := fvb.below by31
  replace BQ := BQ.keep by31
  replace IN := IN.below by31
  replace BN := BN.keep by31
  replace IF := IF.below by31
  replace BF := BF.keep by31
  replace fve := fve.below by31
  replace FLx := FLx.below by31
  replace FLy := FLy.below by31
  replace FLg := FLg.below by31
  replace fvd := fvd.below by31
  replace fvf := fvf.below by31
  replace bT := bT.trans (by31.mono bT.size)
  replace bo := bo.trans (by31.mono bo.size)
  rw [show decide ((8 / 3 : Rat) - 8 / 3 = ((0 : Int) : Rat)) = true from by decide +kernel]
  clear fvd fvf
  go_wp2_with fail
  refine hK.out _ _ (hS _ bo) (fun hHeld => ?_)
  clear hK K
  try simp only [Act.put, List.getElem_toArray, List.getElem_cons_succ, List.getElem_cons_zero, List.setIfInBounds_toArray, List.set_cons_zero, List.set_cons_succ]
  refine wpAnyH_take (i := 35) (v := ?_) rfl (by kernel_rfl) (by kernel_rfl) (by kernel_rfl) (fun _ _ _ h => h) (Or.inl ⟨by rfl, ?_⟩) hHeld ?_
  rotate_left
  · (intro w hSw; (try dsimp only at hSw); go_simp)
    all_goals with_reducible rfl
  try simp only [Act.put, List.getElem_toArray, List.getElem_cons_succ, List.getElem_cons_zero, List.setIfInBounds_toArray, List.set_cons_zero, List.set_cons_succ]
  refine wpAnyH_take (i := 36) (v := ?_) rfl (by kernel_rfl) (by kernel_rfl) (by kernel_rfl) (fun _ _ _ h => h) (Or.inl ⟨by rfl, ?_⟩) hHeld ?_
  rotate_left
  · (intro w hSw; (try dsimp only at hSw); go_simp)
    all_goals with_reducible rfl
  try simp only [Act.put, List.getElem_toArray, List.getElem_cons_succ, List.getElem_cons_zero, List.setIfInBounds_toArray, List.set_cons_zero, List.set_cons_succ]
  refine wpAnyH_done (by kernel_rfl) ?_ _
  refine NoPanic.normal ?_
  try go_simp
  clear hHeld
  clear hS dS bo
  have hgq : Hid (gs.map FrD.q = [1, 1]) := by have := congrArg LP.g Ip.q.out; exact this
  have hS : ∀ w', Below y31.heap.size y31 w' → w'.cell? ⟨y5.heap.size, 0, none⟩ = some (.slice Ap gs.length cp) ∧ w'.cell? ⟨y5.heap.size, 1, none⟩ = some (.slice Rp rs.length kp) ∧ w'.cell? ⟨y8.heap.size, 0, none⟩ = some (.bool ev.neg) ∧ w'.cell? ⟨y8.heap.size, 1, none⟩ = some (.slice ev.a ev.la.length ev.ca) ∧ w'.cell? ⟨y8.heap.size, 2, none⟩ = some (.slice ev.b ev.lb.length ev.cb) ∧ Below y31.heap.size y31 w' := by
    intro w' o
    have hPw := BP.keep o
    have hVw := BV.keep o
    exact ⟨hPw.g0, hPw.g1, hVw.f0, hVw.f1, hVw.f2, o⟩
  have bo : Below y31.heap.size y31 y31 := Below.refl _ _
  have dS : Below y31.heap.size y31 y31.drew := (Below.refl _ _).drew
  go_wp2_with fail
  refine wp_region_noPanic ?_
  refine wp_region_held_drew (S := fun w' => w'.cell? ⟨y5.heap.size, 0, none⟩ = some (.slice Ap gs.length cp) ∧ w'.cell? ⟨y5.heap.size, 1, none⟩ = some (.slice Rp rs.length kp) ∧ w'.cell? ⟨y8.heap.size, 0, none⟩ = some (.bool ev.neg) ∧ w'.cell? ⟨y8.heap.size, 1, none⟩ = some (.slice ev.a ev.la.length ev.ca) ∧ w'.cell? ⟨y8.heap.size, 2, none⟩ = some (.slice ev.b ev.lb.length ev.cb) ∧ Below y31.heap.size y31 w') (by kernel_rfl) (hS _ dS) (fun hHeld => ?_)
  refine wpAnyH_take (i := 0) (v := ?_) rfl (by kernel_rfl) (by kernel_rfl) (by kernel_rfl) (fun _ _ _ h => h) (Or.inl ⟨by rfl, ?_⟩) hHeld ?_
  rotate_left
  · (intro w hSw; (try dsimp only at hSw); go_simp)
    all_goals with_reducible rfl
  try simp only [Act.put, List.getElem_toArray, List.getElem_cons_succ, List.getElem_cons_zero, List.setIfInBounds_toArray, List.set_cons_zero, List.set_cons_succ]
  refine wpAnyH_take (i := 1) (v := ?_) rfl (by kernel_rfl) (by kernel_rfl) (by kernel_rfl) (fun _ _ _ h => h) (Or.inl ⟨by rfl, ?_⟩) hHeld ?_
  rotate_left
  · (intro w hSw; (try dsimp only at hSw); go_simp)
    all_goals with_reducible rfl
  try simp only [Act.put, List.getElem_toArray, List.getElem_cons_succ, List.getElem_cons_zero, List.setIfInBounds_toArray, List.set_cons_zero, List.set_cons_succ]
  refine wpAnyH_take (i := 2) (v := ?_) rfl (by kernel_rfl) (by kernel_rfl) (by kernel_rfl) (fun _ _ _ h => h) (Or.inl ⟨by rfl, ?_⟩) hHeld ?_
  rotate_left
  · (intro w hSw; (try dsimp only at hSw); go_simp)
    all_goals with_reducible rfl
  try simp only [Act.put, List.getElem_toArray, List.getElem_cons_succ, List.getElem_cons_zero, List.setIfInBounds_toArray, List.set_cons_zero, List.set_cons_succ]
  refine wpAnyH_take (i := 3) (v := ?_) rfl (by kernel_rfl) (by kernel_rfl) (by kernel_rfl) (fun _ _ _ h => h) (Or.inl ⟨by rfl, ?_⟩) hHeld ?_
  rotate_left
  · (intro w hSw; (try dsimp only at hSw); go_simp)
    all_goals with_reducible rfl
  try simp only [Act.put, List.getElem_toArray, List.getElem_cons_succ, List.getElem_cons_zero, List.setIfInBounds_toArray, List.set_cons_zero, List.set_cons_succ]
  refine wpAnyH_take (i := 4) (v := ?_) rfl (by kernel_rfl) (by kernel_rfl) (by kernel_rfl) (fun _ _ _ h => h) (Or.inl ⟨by rfl, ?_⟩) hHeld ?_
  rotate_left
  · (intro w hSw; (try dsimp only at hSw); go_simp)
    all_goals with_reducible rfl
  try simp only [Act.put, List.getElem_toArray, List.getElem_cons_succ, List.getElem_cons_zero, List.setIfInBounds_toArray, List.set_cons_zero, List.set_cons_succ]
  refine wpAnyH_ready (rs := [5]) (by kernel_rfl) (by simp) ?_
  refine AllReadyH.cons rfl (fun K hK => ?_) AllReadyH.nil
  go_simp
  have hck := Lib.hid (show checkN gs rs ⟨1, ev, Ax, cx, dx, Ay, cy, dy, none, 0, []⟩ = 0 by
      rw [checkN_ok Ip.f.out]
      have hpv : provenB gs rs ⟨1, ev, Ax, cx, dx, Ay, cy, dy, none, 0, []⟩ = true := by
        show optB gs rs ev dx dy = _
        rw [opt_Q Ip.f.out Vx.out Vy.out Wv.out, hgq.out, Ip.q.out, Qx.out, Qy.out, hev.out]
        decide +kernel
      rw [hpv]; rfl)
  have dw31 : Below y31.heap.size y31 y31.drew := (Below.refl _ _).drew
  replace Ip := Ip.below dw31
  replace Lx := Lx.below dw31
  replace Ly := Ly.below dw31
  replace BP := BP.keep dw31
  replace Fv := Fv.below dw31
  replace BV := BV.keep dw31
  replace fvb := fvb.below dw31
  replace BQ := BQ.keep dw31
  replace IN := IN.below dw31
  replace BN := BN.keep dw31
  replace IF := IF.below dw31
  replace BF := BF.keep dw31
  replace fve := fve.below dw31
  replace FLx := FLx.below dw31
  replace FLy := FLy.below dw31
  replace FLg := FLg.below dw31
  replace bT := bT.trans (dw31.mono bT.size)
  replace bo := bo.trans (dw31.mono bo.size)
  go_at_call 10
  refine (check_any (s := ⟨1, ev, Ax, cx, dx, Ay, cy, dy, none, 0, []⟩) Ip.g Ip.r ⟨Fv, Lx, Ly, LD.nil _ _⟩ (by first | (simp; done) | (simp; omega)) (by omega)).mono ?_
  rintro e y32 ⟨rfl, by32⟩
  replace Ip := Ip.below by32
  replace Lx := Lx.below by32
  replace Ly := Ly.below by32
  replace BP := BP.keep by32
  replace Fv := Fv.below by32
  replace BV := BV.keep by32
  replace fvb := fvb.below by32
  replace BQ := BQ.keep by32
  replace IN := IN.below by32
  replace BN := BN.keep by32
  replace IF := IF.below by32
  replace BF := BF.keep by32
  replace fve := fve.below by32
  replace FLx := FLx.below by32
  replace FLy := FLy.below by32
  replace FLg := FLg.below by32
  replace bT := bT.trans (by32.mono bT.size)
  replace bo := bo.trans (by32.mono bo.size)
  rw [hck.out]
  clear hck
  go_wp2_with fail
  refine hK.out _ _ (hS _ bo) (fun hHeld => ?_)
  clear hK K
  try simp only [Act.put, List.getElem_toArray, List.getElem_cons_succ, List.getElem_cons_zero, List.setIfInBounds_toArray, List.set_cons_zero, List.set_cons_succ]
  refine wpAnyH_take (i := 6) (v := ?_) rfl (by kernel_rfl) (by kernel_rfl) (by kernel_rfl) (fun _ _ _ h => h) (Or.inl ⟨by rfl, ?_⟩) hHeld ?_
  rotate_left
  · (intro w hSw; (try dsimp only at hSw); go_simp)
    all_goals with_reducible rfl
  try simp only [Act.put, List.getElem_toArray, List.getElem_cons_succ, List.getElem_cons_zero, List.setIfInBounds_toArray, List.set_cons_zero, List.set_cons_succ]
  refine wpAnyH_take (i := 7) (v := ?_) rfl (by kernel_rfl) (by kernel_rfl) (by kernel_rfl) (fun _ _ _ h => h) (Or.inl ⟨by rfl, ?_⟩) hHeld ?_
  rotate_left
  · (intro w hSw; (try dsimp only at hSw); go_simp)
    all_goals with_reducible rfl
  try simp only [Act.put, List.getElem_toArray, List.getElem_cons_succ, List.getElem_cons_zero, List.setIfInBounds_toArray, List.set_cons_zero, List.set_cons_succ]
  refine wpAnyH_take (i := 8) (v := ?_) rfl (by kernel_rfl) (by kernel_rfl) (by kernel_rfl) (fun _ _ _ h => h) (Or.inl ⟨by rfl, ?_⟩) hHeld ?_
  rotate_left
  · (intro w hSw; (try dsimp only at hSw); go_simp)
    all_goals with_reducible rfl
  try simp only [Act.put, List.getElem_toArray, List.getElem_cons_succ, List.getElem_cons_zero, List.setIfInBounds_toArray, List.set_cons_zero, List.set_cons_succ]
  refine wpAnyH_take (i := 9) (v := ?_) rfl (by kernel_rfl) (by kernel_rfl) (by kernel_rfl) (fun _ _ _ h => h) (Or.inl ⟨by rfl, ?_⟩) hHeld ?_
  rotate_left
  · (intro w hSw; (try dsimp only at hSw); go_simp)
    all_goals with_reducible rfl
  try simp only [Act.put, List.getElem_toArray, List.getElem_cons_succ, List.getElem_cons_zero, List.setIfInBounds_toArray, List.set_cons_zero, List.set_cons_succ]
  refine wpAnyH_take (i := 10) (v := ?_) rfl (by kernel_rfl) (by kernel_rfl) (by kernel_rfl) (fun _ _ _ h => h) (Or.inl ⟨by rfl, ?_⟩) hHeld ?_
  rotate_left
  · (intro w hSw; (try dsimp only at hSw); go_simp)
    all_goals with_reducible rfl
  try simp only [Act.put, List.getElem_toArray, List.getElem_cons_succ, List.getElem_cons_zero, List.setIfInBounds_toArray, List.set_cons_zero, List.set_cons_succ]
  refine wpAnyH_ready (rs := [11]) (by kernel_rfl) (by simp) ?_
  refine AllReadyH.cons rfl (fun K hK => ?_) AllReadyH.nil
  obtain ⟨y33, hy33, by33, ly33, By33⟩ := boxed y32 #[.int .i64 1, .int .i64 1] 2
  replace Ip := Ip.below by33
  replace Lx := Lx.below by33
  replace Ly := Ly.below by33
  replace BP := BP.keep by33
  replace Fv := Fv.below by33
  replace BV := BV.keep by33
  replace fvb := fvb.below by33
  replace BQ := BQ.keep by33
  replace IN := IN.below by33
  replace BN := BN.keep by33
  replace IF := IF.below by33
  replace BF := BF.keep by33
  replace fve := fve.below by33
  replace FLx := FLx.below by33
  replace FLy := FLy.below by33
  replace FLg := FLg.below by33
  replace bT := bT.trans (by33.mono bT.size)
  replace bo := bo.trans (by33.mono bo.size)
  have ile := Blk.il (zs := [1, 1]) By33
  clear By33
  go_simp
  refine hK.out _ _ (hS _ bo) (fun hHeld => ?_)
  clear hK K
  try simp only [Act.put, List.getElem_toArray, List.getElem_cons_succ, List.getElem_cons_zero, List.setIfInBounds_toArray, List.set_cons_zero, List.set_cons_succ]
  refine wpAnyH_ready (rs := [12]) (by kernel_rfl) (by simp) ?_
  refine AllReadyH.cons rfl (fun K hK => ?_) AllReadyH.nil
  go_simp
  go_at_call 32
  refine (whole19_any (zs := [1, 1]) ile (i64_ok (by decide)) (by decide) (by decide) (by decide)).mono ?_
  rintro e y34 ⟨Ae, ce, de, rfl, Le, Ve, Qe, by34⟩
  replace Ip := Ip.below by34
  replace Lx := Lx.below by34
  replace Ly := Ly.below by34
  replace BP := BP.keep by34
  replace Fv := Fv.below by34
  replace BV := BV.keep by34
  replace fvb := fvb.below by34
  replace BQ := BQ.keep by34
  replace IN := IN.below by34
  replace BN := BN.keep by34
  replace IF := IF.below by34
  replace BF := BF.keep by34
  replace fve := fve.below by34
  replace FLx := FLx.below by34
  replace FLy := FLy.below by34
  replace FLg := FLg.below by34
  replace ile := ile.below by34
  replace bT := bT.trans (by34.mono bT.size)
  replace bo := bo.trans (by34.mono bo.size)
  clear ile
  replace Ve := Lib.hid Ve
  go_wp2_with fail
  refine hK.out _ _ (hS _ bo) (fun hHeld => ?_)
  clear hK K
  try simp only [Act.put, List.getElem_toArray, List.getElem_cons_succ, List.getElem_cons_zero, List.setIfInBounds_toArray, List.set_cons_zero, List.set_cons_succ]
  refine wpAnyH_take (i := 13) (v := ?_) rfl (by kernel_rfl) (by kernel_rfl) (by kernel_rfl) (fun _ _ _ h => h) (Or.inl ⟨by rfl, ?_⟩) hHeld ?_
  rotate_left
  · (intro w hSw; (try dsimp only at hSw); go_simp)
    all_goals with_reducible rfl
  try simp only [Act.put, List.getElem_toArray, List.getElem_cons_succ, List.getElem_cons_zero, List.setIfInBounds_toArray, List.set_cons_zero, List.set_cons_succ]
  refine wpAnyH_ready (rs := [14]) (by kernel_rfl) (by simp) ?_
  refine AllReadyH.cons rfl (fun K hK => ?_) AllReadyH.nil
  go_simp
  have le : de.length ≤ 10 := by have := len_of Qe.out; simp at this; omega
  have hck := Lib.hid (show checkN gs rs ⟨1, ev, Ax, cx, dx, Ae, ce, de, none, 0, []⟩ = 13 by
      rw [checkN_ok Ip.f.out]
      have hpv : provenB gs rs ⟨1, ev, Ax, cx, dx, Ae, ce, de, none, 0, []⟩ = false := by
        show optB gs rs ev dx de = _
        rw [opt_Q Ip.f.out Vx.out Ve.out Wv.out, hgq.out, Ip.q.out, Qx.out, Qe.out, hev.out]
        decide +kernel
      rw [hpv]; rfl)
  go_at_call 10
  refine (check_any (s := ⟨1, ev, Ax, cx, dx, Ae, ce, de, none, 0, []⟩) Ip.g Ip.r ⟨Fv, Lx, Le, LD.nil _ _⟩ (by first | (simp; done) | (simp; omega)) (by omega)).mono ?_
  rintro e y35 ⟨rfl, by35⟩
  replace Ip := Ip.below by35
  replace Lx := Lx.below by35
  replace Ly := Ly.below by35
  replace BP := BP.keep by35
  replace Fv := Fv.below by35
  replace BV := BV.keep by35
  replace fvb := fvb.below by35
  replace BQ := BQ.keep by35
  replace IN := IN.below by35
  replace BN := BN.keep by35
  replace IF := IF.below by35
  replace BF := BF.keep by35
  replace fve := fve.below by35
  replace FLx := FLx.below by35
  replace FLy := FLy.below by35
  replace FLg := FLg.below by35
  replace Le := Le.below by35
  replace bT := bT.trans (by35.mono bT.size)
  replace bo := bo.trans (by35.mono bo.size)
  rw [hck.out]
  clear hck
  clear Le Ve Qe le
  go_wp2_with fail
  refine hK.out _ _ (hS _ bo) (fun hHeld => ?_)
  clear hK K
  try simp only [Act.put, List.getElem_toArray, List.getElem_cons_succ, List.getElem_cons_zero, List.setIfInBounds_toArray, List.set_cons_zero, List.set_cons_succ]
  refine wpAnyH_take (i := 15) (v := ?_) rfl (by kernel_rfl) (by kernel_rfl) (by kernel_rfl) (fun _ _ _ h => h) (Or.inl ⟨by rfl, ?_⟩) hHeld ?_
  rotate_left
  · (intro w hSw; (try dsimp only at hSw); go_simp)
    all_goals with_reducible rfl
  try simp only [Act.put, List.getElem_toArray, List.getElem_cons_succ, List.getElem_cons_zero, List.setIfInBounds_toArray, List.set_cons_zero, List.set_cons_succ]
  refine wpAnyH_take (i := 16) (v := ?_) rfl (by kernel_rfl) (by kernel_rfl) (by kernel_rfl) (fun _ _ _ h => h) (Or.inl ⟨by rfl, ?_⟩) hHeld ?_
  rotate_left
  · (intro w hSw; (try dsimp only at hSw); go_simp)
    all_goals with_reducible rfl
  try simp only [Act.put, List.getElem_toArray, List.getElem_cons_succ, List.getElem_cons_zero, List.setIfInBounds_toArray, List.set_cons_zero, List.set_cons_succ]
  refine wpAnyH_take (i := 17) (v := ?_) rfl (by kernel_rfl) (by kernel_rfl) (by kernel_rfl) (fun _ _ _ h => h) (Or.inl ⟨by rfl, ?_⟩) hHeld ?_
  rotate_left
  · (intro w hSw; (try dsimp only at hSw); go_simp)
    all_goals with_reducible rfl
  try simp only [Act.put, List.getElem_toArray, List.getElem_cons_succ, List.getElem_cons_zero, List.setIfInBounds_toArray, List.set_cons_zero, List.set_cons_succ]
  refine wpAnyH_take (i := 18) (v := ?_) rfl (by kernel_rfl) (by kernel_rfl) (by kernel_rfl) (fun _ _ _ h => h) (Or.inl ⟨by rfl, ?_⟩) hHeld ?_
  rotate_left
  · (intro w hSw; (try dsimp only at hSw); go_simp)
    all_goals with_reducible rfl
  try simp only [Act.put, List.getElem_toArray, List.getElem_cons_succ, List.getElem_cons_zero, List.setIfInBounds_toArray, List.set_cons_zero, List.set_cons_succ]
  refine wpAnyH_take (i := 19) (v := ?_) rfl (by kernel_rfl) (by kernel_rfl) (by kernel_rfl) (fun _ _ _ h => h) (Or.inl ⟨by rfl, ?_⟩) hHeld ?_
  rotate_left
  · (intro w hSw; (try dsimp only at hSw); go_simp)
    all_goals with_reducible rfl
  try simp only [Act.put, List.getElem_toArray, List.getElem_cons_succ, List.getElem_cons_zero, List.setIfInBounds_toArray, List.set_cons_zero, List.set_cons_succ]
  refine wpAnyH_ready (rs := [20]) (by kernel_rfl) (by simp) ?_
  refine AllReadyH.cons rfl (fun K hK => ?_) AllReadyH.nil
  go_simp
  have hck := Lib.hid (show checkN gs rs ⟨0, ⟨false, none, 0, [], none, 0, []⟩, none, 0, [], none, 0, [], none, 0, []⟩ = 13 by
      rw [checkN_ok Ip.f.out]
      have hpv : provenB gs rs ⟨0, ⟨false, none, 0, [], none, 0, []⟩, none, 0, [], none, 0, [], none, 0, []⟩ = false := by unfold provenB; rw [if_neg (by decide), if_neg (by decide), if_neg (by decide)]
      rw [hpv]; rfl)
  go_at_call 10
  refine (check_any (s := ⟨0, ⟨false, none, 0, [], none, 0, []⟩, none, 0, [], none, 0, [], none, 0, []⟩) Ip.g Ip.r ⟨few_zero _ _, LD.nil _ _, LD.nil _ _, LD.nil _ _⟩ (by first | (simp; done) | (simp; omega)) (by omega)).mono ?_
  rintro e y36 ⟨rfl, by36⟩
  replace Ip := Ip.below by36
  replace Lx := Lx.below by36
  replace Ly := Ly.below by36
  replace BP := BP.keep by36
  replace Fv := Fv.below by36
  replace BV := BV.keep by36
  replace fvb := fvb.below by36
  replace BQ := BQ.keep by36
  replace IN := IN.below by36
  replace BN := BN.keep by36
  replace IF := IF.below by36
  replace BF := BF.keep by36
  replace fve := fve.below by36
  replace FLx := FLx.below by36
  replace FLy := FLy.below by36
  replace FLg := FLg.below by36
  replace bT := bT.trans (by36.mono bT.size)
  replace bo := bo.trans (by36.mono bo.size)
  rw [hck.out]
  clear hck
  go_wp2_with fail
  refine hK.out _ _ (hS _ bo) (fun hHeld => ?_)
  clear hK K
  try simp only [Act.put, List.getElem_toArray, List.getElem_cons_succ, List.getElem_cons_zero, List.setIfInBounds_toArray, List.set_cons_zero, List.set_cons_succ]
  refine wpAnyH_take (i := 21) (v := ?_) rfl (by kernel_rfl) (by kernel_rfl) (by kernel_rfl) (fun _ _ _ h => h) (Or.inl ⟨by rfl, ?_⟩) hHeld ?_
  rotate_left
  · (intro w hSw; (try dsimp only at hSw); go_simp)
    all_goals with_reducible rfl
  try simp only [Act.put, List.getElem_toArray, List.getElem_cons_succ, List.getElem_cons_zero, List.setIfInBounds_toArray, List.set_cons_zero, List.set_cons_succ]
  refine wpAnyH_take (i := 22) (v := ?_) rfl (by kernel_rfl) (by kernel_rfl) (by kernel_rfl) (fun _ _ _ h => h) (Or.inl ⟨by rfl, ?_⟩) hHeld ?_
  rotate_left
  · (intro w hSw; (try dsimp only at hSw); go_simp)
    all_goals with_reducible rfl
  try simp only [Act.put, List.getElem_toArray, List.getElem_cons_succ, List.getElem_cons_zero, List.setIfInBounds_toArray, List.set_cons_zero, List.set_cons_succ]
  refine wpAnyH_done (by kernel_rfl) ?_ _
  refine NoPanic.normal ?_
  try go_simp
  clear hHeld
  clear hS dS bo
  clear hfe hdu hvx hev fve hrw hwg FLx FLy FLg fx fy fg hgq hp hbq fvb Lx Ly Fv
  have hS : ∀ w', Below y36.heap.size y36 w' → w'.cell? ⟨y17.heap.size, 0, none⟩ = some (.slice An dn.length cn) ∧ w'.cell? ⟨y17.heap.size, 1, none⟩ = some (.slice (some ⟨y16.heap.size, 0, none⟩) 1 1) ∧ w'.cell? ⟨y20.heap.size, 0, none⟩ = some (.slice Af df.length cf) ∧ w'.cell? ⟨y20.heap.size, 1, none⟩ = some (.slice none 0 0) ∧ Below y36.heap.size y36 w' := by
    intro w' o
    have hNw := BN.keep o
    have hFw := BF.keep o
    exact ⟨hNw.g0, hNw.g1, hFw.g0, hFw.g1, o⟩
  have bo : Below y36.heap.size y36 y36 := Below.refl _ _
  have dS : Below y36.heap.size y36 y36.drew := (Below.refl _ _).drew
  go_wp2_with fail
  refine wp_region_noPanic ?_
  refine wp_region_held_drew (S := fun w' => w'.cell? ⟨y17.heap.size, 0, none⟩ = some (.slice An dn.length cn) ∧ w'.cell? ⟨y17.heap.size, 1, none⟩ = some (.slice (some ⟨y16.heap.size, 0, none⟩) 1 1) ∧ w'.cell? ⟨y20.heap.size, 0, none⟩ = some (.slice Af df.length cf) ∧ w'.cell? ⟨y20.heap.size, 1, none⟩ = some (.slice none 0 0) ∧ Below y36.heap.size y36 w') (by kernel_rfl) (hS _ dS) (fun hHeld => ?_)
  refine wpAnyH_take (i := 0) (v := ?_) rfl (by kernel_rfl) (by kernel_rfl) (by kernel_rfl) (fun _ _ _ h => h) (Or.inl ⟨by rfl, ?_⟩) hHeld ?_
  rotate_left
  · (intro w hSw; (try dsimp only at hSw); go_simp)
    all_goals with_reducible rfl
  try simp only [Act.put, List.getElem_toArray, List.getElem_cons_succ, List.getElem_cons_zero, List.setIfInBounds_toArray, List.set_cons_zero, List.set_cons_succ]
  refine wpAnyH_ready (rs := [1]) (by kernel_rfl) (by simp) ?_
  refine AllReadyH.cons rfl (fun K hK => ?_) AllReadyH.nil
  obtain ⟨y37, hy37, by37, ly37, By37⟩ := boxed y36 #[.int .i64 1] 2
  replace Ip := Ip.below by37
  replace BP := BP.keep by37
  replace BV := BV.keep by37
  replace BQ := BQ.keep by37
  replace IN := IN.below by37
  replace BN := BN.keep by37
  replace IF := IF.below by37
  replace BF := BF.keep by37
  replace bT := bT.trans (by37.mono bT.size)
  replace bo := bo.trans (by37.mono bo.size)
  have ila := Blk.il (zs := [1]) By37
  clear By37
  go_simp
  refine hK.out _ _ (hS _ bo.drew) (fun hHeld => ?_)
  clear hK K
  try simp only [Act.put, List.getElem_toArray, List.getElem_cons_succ, List.getElem_cons_zero, List.setIfInBounds_toArray, List.set_cons_zero, List.set_cons_succ]
  refine wpAnyH_ready (rs := [2]) (by kernel_rfl) (by simp) ?_
  refine AllReadyH.cons rfl (fun K hK => ?_) AllReadyH.nil
  go_simp
  have dw37 : Below y37.heap.size y37 y37.drew := (Below.refl _ _).drew
  replace Ip := Ip.below dw37
  replace BP := BP.keep dw37
  replace BV := BV.keep dw37
  replace BQ := BQ.keep dw37
  replace IN := IN.below dw37
  replace BN := BN.keep dw37
  replace IF := IF.below dw37
  replace BF := BF.keep dw37
  replace ila := ila.below dw37
  replace bT := bT.trans (dw37.mono bT.size)
  replace bo := bo.trans (dw37.mono bo.size)
  go_at_call 32
  refine (whole19_any (zs := [1]) ila (i64_ok (by decide)) (by decide) (by decide) (by decide)).mono ?_
  rintro e y38 ⟨Aa, ca, da, rfl, La, Va, Qa, by38⟩
  replace Ip := Ip.below by38
  replace BP := BP.keep by38
  replace BV := BV.keep by38
  replace BQ := BQ.keep by38
  replace IN := IN.below by38
  replace BN := BN.keep by38
  replace IF := IF.below by38
  replace BF := BF.keep by38
  replace ila := ila.below by38
  replace bT := bT.trans (by38.mono bT.size)
  replace bo := bo.trans (by38.mono bo.size)
  clear ila
  replace Va := Lib.hid Va
  go_wp2_with fail
  refine hK.out _ _ (hS _ bo) (fun hHeld => ?_)
  clear hK K
  try simp only [Act.put, List.getElem_toArray, List.getElem_cons_succ, List.getElem_cons_zero, List.setIfInBounds_toArray, List.set_cons_zero, List.set_cons_succ]
  refine wpAnyH_take (i := 3) (v := ?_) rfl (by kernel_rfl) (by kernel_rfl) (by kernel_rfl) (fun _ _ _ h => h) (Or.inl ⟨by rfl, ?_⟩) hHeld ?_
  rotate_left
  · (intro w hSw; (try dsimp only at hSw); go_simp)
    all_goals with_reducible rfl
  try simp only [Act.put, List.getElem_toArray, List.getElem_cons_succ, List.getElem_cons_zero, List.setIfInBounds_toArray, List.set_cons_zero, List.set_cons_succ]
  refine wpAnyH_ready (rs := [4]) (by kernel_rfl) (by simp) ?_
  refine AllReadyH.cons rfl (fun K hK => ?_) AllReadyH.nil
  go_simp
  have la : da.length ≤ 10 := by have := len_of Qa.out; simp at this; omega
  have hck := Lib.hid (show checkN dn [r1] ⟨2, ⟨false, none, 0, [], none, 0, []⟩, none, 0, [], Aa, ca, da, none, 0, []⟩ = 0 by
      rw [checkN_ok IN.f.out]
      have hpv : provenB dn [r1] ⟨2, ⟨false, none, 0, [], none, 0, []⟩, none, 0, [], Aa, ca, da, none, 0, []⟩ = true := by
        show emptyB dn [r1] da = true
        rw [empty_Q Va.out, IN.q.out, Qa.out]
        decide +kernel
      rw [hpv]; rfl)
  go_at_call 10
  refine (check_any (s := ⟨2, ⟨false, none, 0, [], none, 0, []⟩, none, 0, [], Aa, ca, da, none, 0, []⟩) IN.g IN.r ⟨few_zero _ _, LD.nil _ _, La, LD.nil _ _⟩ (by first | (simp; done) | (simp; omega)) (by omega)).mono ?_
  rintro e y39 ⟨rfl, by39⟩
  replace Ip := Ip.below by39
  replace BP := BP.keep by39
  replace BV := BV.keep by39
  replace BQ := BQ.keep by39
  replace IN := IN.below by39
  replace BN := BN.keep by39
  replace IF := IF.below by39
  replace BF := BF.keep by39
  replace La := La.below by39
  replace bT := bT.trans (by39.mono bT.size)
  replace bo := bo.trans (by39.mono bo.size)
  rw [hck.out]
  clear hck
  clear La Va Qa la
  go_wp2_with fail
  refine hK.out _ _ (hS _ bo) (fun hHeld => ?_)
  clear hK K
  try simp only [Act.put, List.getElem_toArray, List.getElem_cons_succ, List.getElem_cons_zero, List.setIfInBounds_toArray, List.set_cons_zero, List.set_cons_succ]
  refine wpAnyH_take (i := 5) (v := ?_) rfl (by kernel_rfl) (by kernel_rfl) (by kernel_rfl) (fun _ _ _ h => h) (Or.inl ⟨by rfl, ?_⟩) hHeld ?_
  rotate_left
  · (intro w hSw; (try dsimp only at hSw); go_simp)
    all_goals with_reducible rfl
  try simp only [Act.put, List.getElem_toArray, List.getElem_cons_succ, List.getElem_cons_zero, List.setIfInBounds_toArray, List.set_cons_zero, List.set_cons_succ]
  refine wpAnyH_take (i := 6) (v := ?_) rfl (by kernel_rfl) (by kernel_rfl) (by kernel_rfl) (fun _ _ _ h => h) (Or.inl ⟨by rfl, ?_⟩) hHeld ?_
  rotate_left
  · (intro w hSw; (try dsimp only at hSw); go_simp)
    all_goals with_reducible rfl
  try simp only [Act.put, List.getElem_toArray, List.getElem_cons_succ, List.getElem_cons_zero, List.setIfInBounds_toArray, List.set_cons_zero, List.set_cons_succ]
  refine wpAnyH_take (i := 7) (v := ?_) rfl (by kernel_rfl) (by kernel_rfl) (by kernel_rfl) (fun _ _ _ h => h) (Or.inl ⟨by rfl, ?_⟩) hHeld ?_
  rotate_left
  · (intro w hSw; (try dsimp only at hSw); go_simp)
    all_goals with_reducible rfl
  try simp only [Act.put, List.getElem_toArray, List.getElem_cons_succ, List.getElem_cons_zero, List.setIfInBounds_toArray, List.set_cons_zero, List.set_cons_succ]
  refine wpAnyH_ready (rs := [8, 10]) (by kernel_rfl) (by simp) ?_
  refine AllReadyH.cons rfl (fun K hK => ?_) ?_
  · obtain ⟨y40, hy40, by40, ly40, By40⟩ := boxed y39 #[.int .i64 0] 2
    replace Ip := Ip.below by40
    replace BP := BP.keep by40
    replace BV := BV.keep by40
    replace BQ := BQ.keep by40
    replace IN := IN.below by40
    replace BN := BN.keep by40
    replace IF := IF.below by40
    replace BF := BF.keep by40
    replace bT := bT.trans (by40.mono bT.size)
    replace bo := bo.trans (by40.mono bo.size)
    have ilh := Blk.il (zs := [0]) By40
    clear By40
    go_simp
    refine hK.out _ _ (hS _ bo) (fun hHeld => ?_)
    clear hK K
    try simp only [Act.put, List.getElem_toArray, List.getElem_cons_succ, List.getElem_cons_zero, List.setIfInBounds_toArray, List.set_cons_zero, List.set_cons_succ]
    refine wpAnyH_ready (rs := [9, 10]) (by kernel_rfl) (by simp) ?_
    refine AllReadyH.cons rfl (fun K hK => ?_) ?_
    · go_simp
      go_at_call 32
      refine (whole19_any (zs := [0]) ilh (i64_ok (by decide)) (by decide) (by decide) (by decide)).mono ?_
      rintro e y41 ⟨Ah, ch, dh, rfl, Lh, Vh, Qh, by41⟩
      replace Ip := Ip.below by41
      replace BP := BP.keep by41
      replace BV := BV.keep by41
      replace BQ := BQ.keep by41
      replace IN := IN.below by41
      replace BN := BN.keep by41
      replace IF := IF.below by41
      replace BF := BF.keep by41
      replace ilh := ilh.below by41
      replace bT := bT.trans (by41.mono bT.size)
      replace bo := bo.trans (by41.mono bo.size)
      clear ilh
      replace Vh := Lib.hid Vh
      go_wp2_with fail
      refine hK.out _ _ (hS _ bo) (fun hHeld => ?_)
      clear hK K
      try simp only [Act.put, List.getElem_toArray, List.getElem_cons_succ, List.getElem_cons_zero, List.setIfInBounds_toArray, List.set_cons_zero, List.set_cons_succ]
      refine wpAnyH_ready (rs := [10]) (by kernel_rfl) (by simp) ?_
      refine AllReadyH.cons rfl (fun K hK => ?_) AllReadyH.nil
      obtain ⟨y42, hy42, by42, ly42, By42⟩ := boxed y41 #[.int .i64 1] 2
      replace Ip := Ip.below by42
      replace BP := BP.keep by42
      replace BV := BV.keep by42
      replace BQ := BQ.keep by42
      replace IN := IN.below by42
      replace BN := BN.keep by42
      replace IF := IF.below by42
      replace BF := BF.keep by42
      replace Lh := Lh.below by42
      replace bT := bT.trans (by42.mono bT.size)
      replace bo := bo.trans (by42.mono bo.size)
      have ili := Blk.il (zs := [1]) By42
      clear By42
      go_simp
      refine hK.out _ _ (hS _ bo) (fun hHeld => ?_)
      clear hK K
      try simp only [Act.put, List.getElem_toArray, List.getElem_cons_succ, List.getElem_cons_zero, List.setIfInBounds_toArray, List.set_cons_zero, List.set_cons_succ]
      refine wpAnyH_ready (rs := [11]) (by kernel_rfl) (by simp) ?_
      refine AllReadyH.cons rfl (fun K hK => ?_) AllReadyH.nil
      go_simp
      go_at_call 32
      refine (whole19_any (zs := [1]) ili (i64_ok (by decide)) (by decide) (by decide) (by decide)).mono ?_
      rintro e y43 ⟨Ai, ci, di, rfl, Li, Vi, Qi, by43⟩
      replace Ip := Ip.below by43
      replace BP := BP.keep by43
      replace BV := BV.keep by43
      replace BQ := BQ.keep by43
      replace IN := IN.below by43
      replace BN := BN.keep by43
      replace IF := IF.below by43
      replace BF := BF.keep by43
      replace Lh := Lh.below by43
      replace ili := ili.below by43
      replace bT := bT.trans (by43.mono bT.size)
      replace bo := bo.trans (by43.mono bo.size)
      clear ili
      replace Vi := Lib.hid Vi
      go_wp2_with fail
      refine hK.out _ _ (hS _ bo) (fun hHeld => ?_)
      clear hK K
      try simp only [Act.put, List.getElem_toArray, List.getElem_cons_succ, List.getElem_cons_zero, List.setIfInBounds_toArray, List.set_cons_zero, List.set_cons_succ]
      refine wpAnyH_take (i := 12) (v := ?_) rfl (by kernel_rfl) (by kernel_rfl) (by kernel_rfl) (fun _ _ _ h => h) (Or.inl ⟨by rfl, ?_⟩) hHeld ?_
      rotate_left
      · (intro w hSw; (try dsimp only at hSw); go_simp)
        all_goals with_reducible rfl
      try simp only [Act.put, List.getElem_toArray, List.getElem_cons_succ, List.getElem_cons_zero, List.setIfInBounds_toArray, List.set_cons_zero, List.set_cons_succ]
      refine wpAnyH_ready (rs := [13]) (by kernel_rfl) (by simp) ?_
      refine AllReadyH.cons rfl (fun K hK => ?_) AllReadyH.nil
      go_simp
      have lh : dh.length ≤ 10 := by have := len_of Qh.out; simp at this; omega
      have li : di.length ≤ 10 := by have := len_of Qi.out; simp at this; omega
      have hck := Lib.hid (show checkN df [] ⟨3, ⟨false, none, 0, [], none, 0, []⟩, Ah, ch, dh, none, 0, [], Ai, ci, di⟩ = 0 by
          rw [checkN_ok IF.f.out]
          have hpv : provenB df [] ⟨3, ⟨false, none, 0, [], none, 0, []⟩, Ah, ch, dh, none, 0, [], Ai, ci, di⟩ = true := by
            show (feaB df [] dh && endB df [] di) = true
            rw [fea_Q IF.f.out Vh.out, end_Q Vi.out, IF.q.out, Qh.out, Qi.out]
            decide +kernel
          rw [hpv]; rfl)
      go_at_call 10
      refine (check_any (s := ⟨3, ⟨false, none, 0, [], none, 0, []⟩, Ah, ch, dh, none, 0, [], Ai, ci, di⟩) IF.g IF.r ⟨few_zero _ _, Lh, LD.nil _ _, Li⟩ (by first | (simp; done) | (simp; omega)) (by omega)).mono ?_
      rintro e y44 ⟨rfl, by44⟩
      replace Ip := Ip.below by44
      replace BP := BP.keep by44
      replace BV := BV.keep by44
      replace BQ := BQ.keep by44
      replace IN := IN.below by44
      replace BN := BN.keep by44
      replace IF := IF.below by44
      replace BF := BF.keep by44
      replace Lh := Lh.below by44
      replace Li := Li.below by44
      replace bT := bT.trans (by44.mono bT.size)
      replace bo := bo.trans (by44.mono bo.size)
      rw [hck.out]
      clear hck
      clear Lh Vh Qh lh Li Vi Qi li
      go_wp2_with fail
      refine hK.out _ _ (hS _ bo) (fun hHeld => ?_)
      clear hK K
      try simp only [Act.put, List.getElem_toArray, List.getElem_cons_succ, List.getElem_cons_zero, List.setIfInBounds_toArray, List.set_cons_zero, List.set_cons_succ]
      refine wpAnyH_take (i := 14) (v := ?_) rfl (by kernel_rfl) (by kernel_rfl) (by kernel_rfl) (fun _ _ _ h => h) (Or.inl ⟨by rfl, ?_⟩) hHeld ?_
      rotate_left
      · (intro w hSw; (try dsimp only at hSw); go_simp)
        all_goals with_reducible rfl
      try simp only [Act.put, List.getElem_toArray, List.getElem_cons_succ, List.getElem_cons_zero, List.setIfInBounds_toArray, List.set_cons_zero, List.set_cons_succ]
      refine wpAnyH_take (i := 15) (v := ?_) rfl (by kernel_rfl) (by kernel_rfl) (by kernel_rfl) (fun _ _ _ h => h) (Or.inl ⟨by rfl, ?_⟩) hHeld ?_
      rotate_left
      · (intro w hSw; (try dsimp only at hSw); go_simp)
        all_goals with_reducible rfl
      try simp only [Act.put, List.getElem_toArray, List.getElem_cons_succ, List.getElem_cons_zero, List.setIfInBounds_toArray, List.set_cons_zero, List.set_cons_succ]
      refine wpAnyH_take (i := 16) (v := ?_) rfl (by kernel_rfl) (by kernel_rfl) (by kernel_rfl) (fun _ _ _ h => h) (Or.inl ⟨by rfl, ?_⟩) hHeld ?_
      rotate_left
      · (intro w hSw; (try dsimp only at hSw); go_simp)
        all_goals with_reducible rfl
      try simp only [Act.put, List.getElem_toArray, List.getElem_cons_succ, List.getElem_cons_zero, List.setIfInBounds_toArray, List.set_cons_zero, List.set_cons_succ]
      refine wpAnyH_take (i := 19) (v := ?_) rfl (by kernel_rfl) (by kernel_rfl) (by kernel_rfl) (fun _ _ _ h => h) (Or.inl ⟨by rfl, ?_⟩) hHeld ?_
      rotate_left
      · (intro w hSw; (try dsimp only at hSw); go_simp)
        all_goals with_reducible rfl
      try simp only [Act.put, List.getElem_toArray, List.getElem_cons_succ, List.getElem_cons_zero, List.setIfInBounds_toArray, List.set_cons_zero, List.set_cons_succ]
      refine wpAnyH_take (i := 22) (v := ?_) rfl (by kernel_rfl) (by kernel_rfl) (by kernel_rfl) (fun _ _ _ h => h) (Or.inl ⟨by rfl, ?_⟩) hHeld ?_
      rotate_left
      · (intro w hSw; (try dsimp only at hSw); go_simp)
        all_goals with_reducible rfl
      try simp only [Act.put, List.getElem_toArray, List.getElem_cons_succ, List.getElem_cons_zero, List.setIfInBounds_toArray, List.set_cons_zero, List.set_cons_succ]
      refine wpAnyH_ready (rs := [17, 20]) (by kernel_rfl) (by simp) ?_
      refine AllReadyH.cons rfl (fun K hK => ?_) ?_
      · obtain ⟨y45, hy45, by45, ly45, By45⟩ := boxed y44 #[.int .i64 1] 2
        replace Ip := Ip.below by45
        replace BP := BP.keep by45
        replace BV := BV.keep by45
        replace BQ := BQ.keep by45
        replace IN := IN.below by45
        replace BN := BN.keep by45
        replace IF := IF.below by45
        replace BF := BF.keep by45
        replace bT := bT.trans (by45.mono bT.size)
        replace bo := bo.trans (by45.mono bo.size)
        have ilj := Blk.il (zs := [1]) By45
        clear By45
        go_simp
        refine hK.out _ _ (hS _ bo) (fun hHeld => ?_)
        clear hK K
        try simp only [Act.put, List.getElem_toArray, List.getElem_cons_succ, List.getElem_cons_zero, List.setIfInBounds_toArray, List.set_cons_zero, List.set_cons_succ]
        refine wpAnyH_ready (rs := [18, 20]) (by kernel_rfl) (by simp) ?_
        refine AllReadyH.cons rfl (fun K hK => ?_) ?_
        · go_simp
          go_at_call 32
          refine (whole19_any (zs := [1]) ilj (i64_ok (by decide)) (by decide) (by decide) (by decide)).mono ?_
          rintro e y46 ⟨Aj, cj, dj, rfl, Lj, Vj, Qj, by46⟩
          replace Ip := Ip.below by46
          replace BP := BP.keep by46
          replace BV := BV.keep by46
          replace BQ := BQ.keep by46
          replace IN := IN.below by46
          replace BN := BN.keep by46
          replace IF := IF.below by46
          replace BF := BF.keep by46
          replace ilj := ilj.below by46
          replace bT := bT.trans (by46.mono bT.size)
          replace bo := bo.trans (by46.mono bo.size)
          clear ilj
          replace Vj := Lib.hid Vj
          go_wp2_with fail
          refine hK.out _ _ (hS _ bo) (fun hHeld => ?_)
          clear hK K
          try simp only [Act.put, List.getElem_toArray, List.getElem_cons_succ, List.getElem_cons_zero, List.setIfInBounds_toArray, List.set_cons_zero, List.set_cons_succ]
          refine wpAnyH_ready (rs := [20]) (by kernel_rfl) (by simp) ?_
          refine AllReadyH.cons rfl (fun K hK => ?_) AllReadyH.nil
          obtain ⟨y47, hy47, by47, ly47, By47⟩ := boxed y46 #[.slice none 0 0, .bool false, .slice none 0 0, .slice none 0 0] 51
          replace Ip := Ip.below by47
          replace BP := BP.keep by47
          replace BV := BV.keep by47
          replace BQ := BQ.keep by47
          replace IN := IN.below by47
          replace BN := BN.keep by47
          replace IF := IF.below by47
          replace BF := BF.keep by47
          replace Lj := Lj.below by47
          replace bT := bT.trans (by47.mono bT.size)
          replace bo := bo.trans (by47.mono bo.size)
          have RZ : RL y47 4 (some ⟨y46.heap.size, 0, none⟩) 1 [⟨none, 0, [], ⟨false, none, 0, [], none, 0, []⟩⟩] := ⟨Blk.srow (cells := RowD.cells) (ds := [⟨none, 0, [], ⟨false, none, 0, [], none, 0, []⟩⟩]) rowCells_len (by simp) (t := 51) By47, fun r hr => by simp only [List.mem_cons, List.not_mem_nil, or_false] at hr; subst hr; exact ⟨LD.nil _ _, few_zero _ _⟩⟩
          clear By47
          go_simp
          refine hK.out _ _ (hS _ bo) (fun hHeld => ?_)
          clear hK K
          try simp only [Act.put, List.getElem_toArray, List.getElem_cons_succ, List.getElem_cons_zero, List.setIfInBounds_toArray, List.set_cons_zero, List.set_cons_succ]
          refine wpAnyH_take (i := 21) (v := ?_) rfl (by kernel_rfl) (by kernel_rfl) (by kernel_rfl) (fun _ _ _ h => h) (Or.inl ⟨by rfl, ?_⟩) hHeld ?_
          rotate_left
          · (intro w hSw; (try dsimp only at hSw); go_simp)
            all_goals with_reducible rfl
          try simp only [Act.put, List.getElem_toArray, List.getElem_cons_succ, List.getElem_cons_zero, List.setIfInBounds_toArray, List.set_cons_zero, List.set_cons_succ]
          refine wpAnyH_ready (rs := [23]) (by kernel_rfl) (by simp) ?_
          refine AllReadyH.cons rfl (fun K hK => ?_) AllReadyH.nil
          go_simp
          have lj : dj.length ≤ 10 := by have := len_of Qj.out; simp at this; omega
          have hck := Lib.hid (show checkN dj [⟨none, 0, [], ⟨false, none, 0, [], none, 0, []⟩⟩] ⟨0, ⟨false, none, 0, [], none, 0, []⟩, none, 0, [], none, 0, [], none, 0, []⟩ = 2 by
              unfold checkN
              rw [if_pos (by
                have hj1 := len_of Qj.out
                simp at hj1
                have hrb : rowsB dj.length [⟨none, 0, [], ⟨false, none, 0, [], none, 0, []⟩⟩] = false := by
                  unfold rowsB rowB
                  simp only [List.all_cons, List.all_nil, Bool.and_true]
                  rw [decide_eq_false (by show ¬ 0 = dj.length; omega), Bool.false_and]
                rw [hrb, Bool.false_and])])
          go_at_call 10
          refine (check_any (s := ⟨0, ⟨false, none, 0, [], none, 0, []⟩, none, 0, [], none, 0, [], none, 0, []⟩) Lj RZ ⟨few_zero _ _, LD.nil _ _, LD.nil _ _, LD.nil _ _⟩ (by first | (simp; done) | (simp; omega)) (by omega)).mono ?_
          rintro e y48 ⟨rfl, by48⟩
          replace Ip := Ip.below by48
          replace BP := BP.keep by48
          replace BV := BV.keep by48
          replace BQ := BQ.keep by48
          replace IN := IN.below by48
          replace BN := BN.keep by48
          replace IF := IF.below by48
          replace BF := BF.keep by48
          replace Lj := Lj.below by48
          replace RZ := RZ.below by48
          replace bT := bT.trans (by48.mono bT.size)
          replace bo := bo.trans (by48.mono bo.size)
          rw [hck.out]
          clear hck
          go_wp2_with fail
          refine hK.out _ _ (hS _ bo) (fun hHeld => ?_)
          clear hK K
          try simp only [Act.put, List.getElem_toArray, List.getElem_cons_succ, List.getElem_cons_zero, List.setIfInBounds_toArray, List.set_cons_zero, List.set_cons_succ]
          refine wpAnyH_take (i := 24) (v := ?_) rfl (by kernel_rfl) (by kernel_rfl) (by kernel_rfl) (fun _ _ _ h => h) (Or.inl ⟨by rfl, ?_⟩) hHeld ?_
          rotate_left
          · (intro w hSw; (try dsimp only at hSw); go_simp)
            all_goals with_reducible rfl
          try simp only [Act.put, List.getElem_toArray, List.getElem_cons_succ, List.getElem_cons_zero, List.setIfInBounds_toArray, List.set_cons_zero, List.set_cons_succ]
          refine wpAnyH_take (i := 25) (v := ?_) rfl (by kernel_rfl) (by kernel_rfl) (by kernel_rfl) (fun _ _ _ h => h) (Or.inl ⟨by rfl, ?_⟩) hHeld ?_
          rotate_left
          · (intro w hSw; (try dsimp only at hSw); go_simp)
            all_goals with_reducible rfl
          try simp only [Act.put, List.getElem_toArray, List.getElem_cons_succ, List.getElem_cons_zero, List.setIfInBounds_toArray, List.set_cons_zero, List.set_cons_succ]
          refine wpAnyH_take (i := 26) (v := ?_) rfl (by kernel_rfl) (by kernel_rfl) (by kernel_rfl) (fun _ _ _ h => h) (Or.inl ⟨by rfl, ?_⟩) hHeld ?_
          rotate_left
          · (intro w hSw; (try dsimp only at hSw); go_simp)
            all_goals with_reducible rfl
          try simp only [Act.put, List.getElem_toArray, List.getElem_cons_succ, List.getElem_cons_zero, List.setIfInBounds_toArray, List.set_cons_zero, List.set_cons_succ]
          refine wpAnyH_done (by kernel_rfl) ?_ _
          refine NoPanic.normal ?_
          try go_simp
          clear hHeld
          clear hS dS bo
          go_wp2
          go_ret
          exact ⟨rfl, bT⟩
        refine AllReadyH.cons rfl (fun K hK => ?_) ?_
        · obtain ⟨y49, hy49, by49, ly49, By49⟩ := boxed y45 #[.slice none 0 0, .bool false, .slice none 0 0, .slice none 0 0] 51
          replace Ip := Ip.below by49
          replace BP := BP.keep by49
          replace BV := BV.keep by49
          replace BQ := BQ.keep by49
          replace IN := IN.below by49
          replace BN := BN.keep by49
          replace IF := IF.below by49
          replace BF := BF.keep by49
          replace ilj := ilj.below by49
          replace bT := bT.trans (by49.mono bT.size)
          replace bo := bo.trans (by49.mono bo.size)
          have RZ : RL y49 4 (some ⟨y45.heap.size, 0, none⟩) 1 [⟨none, 0, [], ⟨false, none, 0, [], none, 0, []⟩⟩] := ⟨Blk.srow (cells := RowD.cells) (ds := [⟨none, 0, [], ⟨false, none, 0, [], none, 0, []⟩⟩]) rowCells_len (by simp) (t := 51) By49, fun r hr => by simp only [List.mem_cons, List.not_mem_nil, or_false] at hr; subst hr; exact ⟨LD.nil _ _, few_zero _ _⟩⟩
          clear By49
          go_simp
          refine hK.out _ _ (hS _ bo) (fun hHeld => ?_)
          clear hK K
          try simp only [Act.put, List.getElem_toArray, List.getElem_cons_succ, List.getElem_cons_zero, List.setIfInBounds_toArray, List.set_cons_zero, List.set_cons_succ]
          refine wpAnyH_ready (rs := [18]) (by kernel_rfl) (by simp) ?_
          refine AllReadyH.cons rfl (fun K hK => ?_) AllReadyH.nil
          go_simp
          go_at_call 32
          refine (whole19_any (zs := [1]) ilj (i64_ok (by decide)) (by decide) (by decide) (by decide)).mono ?_
          rintro e y50 ⟨Aj, cj, dj, rfl, Lj, Vj, Qj, by50⟩
          replace Ip := Ip.below by50
          replace BP := BP.keep by50
          replace BV := BV.keep by50
          replace BQ := BQ.keep by50
          replace IN := IN.below by50
          replace BN := BN.keep by50
          replace IF := IF.below by50
          replace BF := BF.keep by50
          replace ilj := ilj.below by50
          replace RZ := RZ.below by50
          replace bT := bT.trans (by50.mono bT.size)
          replace bo := bo.trans (by50.mono bo.size)
          clear ilj
          replace Vj := Lib.hid Vj
          go_wp2_with fail
          refine hK.out _ _ (hS _ bo) (fun hHeld => ?_)
          clear hK K
          try simp only [Act.put, List.getElem_toArray, List.getElem_cons_succ, List.getElem_cons_zero, List.setIfInBounds_toArray, List.set_cons_zero, List.set_cons_succ]
          refine wpAnyH_take (i := 21) (v := ?_) rfl (by kernel_rfl) (by kernel_rfl) (by kernel_rfl) (fun _ _ _ h => h) (Or.inl ⟨by rfl, ?_⟩) hHeld ?_
          rotate_left
          · (intro w hSw; (try dsimp only at hSw); go_simp)
            all_goals with_reducible rfl
          try simp only [Act.put, List.getElem_toArray, List.getElem_cons_succ, List.getElem_cons_zero, List.setIfInBounds_toArray, List.set_cons_zero, List.set_cons_succ]
          refine wpAnyH_ready (rs := [23]) (by kernel_rfl) (by simp) ?_
          refine AllReadyH.cons rfl (fun K hK => ?_) AllReadyH.nil
          go_simp
          have lj : dj.length ≤ 10 := by have := len_of Qj.out; simp at this; omega
          have hck := Lib.hid (show checkN dj [⟨none, 0, [], ⟨false, none, 0, [], none, 0, []⟩⟩] ⟨0, ⟨false, none, 0, [], none, 0, []⟩, none, 0, [], none, 0, [], none, 0, []⟩ = 2 by
              unfold checkN
              rw [if_pos (by
                have hj1 := len_of Qj.out
                simp at hj1
                have hrb : rowsB dj.length [⟨none, 0, [], ⟨false, none, 0, [], none, 0, []⟩⟩] = false := by
                  unfold rowsB rowB
                  simp only [List.all_cons, List.all_nil, Bool.and_true]
                  rw [decide_eq_false (by show ¬ 0 = dj.length; omega), Bool.false_and]
                rw [hrb, Bool.false_and])])
          go_at_call 10
          refine (check_any (s := ⟨0, ⟨false, none, 0, [], none, 0, []⟩, none, 0, [], none, 0, [], none, 0, []⟩) Lj RZ ⟨few_zero _ _, LD.nil _ _, LD.nil _ _, LD.nil _ _⟩ (by first | (simp; done) | (simp; omega)) (by omega)).mono ?_
          rintro e y51 ⟨rfl, by51⟩
          replace Ip := Ip.below by51
          replace BP := BP.keep by51
          replace BV := BV.keep by51
          replace BQ := BQ.keep by51
          replace IN := IN.below by51
          replace BN := BN.keep by51
          replace IF := IF.below by51
          replace BF := BF.keep by51
          replace RZ := RZ.below by51
          replace Lj := Lj.below by51
          replace bT := bT.trans (by51.mono bT.size)
          replace bo := bo.trans (by51.mono bo.size)
          rw [hck.out]
          clear hck
          go_wp2_with fail
          refine hK.out _ _ (hS _ bo) (fun hHeld => ?_)
          clear hK K
          try simp only [Act.put, List.getElem_toArray, List.getElem_cons_succ, List.getElem_cons_zero, List.setIfInBounds_toArray, List.set_cons_zero, List.set_cons_succ]
          refine wpAnyH_take (i := 24) (v := ?_) rfl (by kernel_rfl) (by kernel_rfl) (by kernel_rfl) (fun _ _ _ h => h) (Or.inl ⟨by rfl, ?_⟩) hHeld ?_
          rotate_left
          · (intro w hSw; (try dsimp only at hSw); go_simp)
            all_goals with_reducible rfl
          try simp only [Act.put, List.getElem_toArray, List.getElem_cons_succ, List.getElem_cons_zero, List.setIfInBounds_toArray, List.set_cons_zero, List.set_cons_succ]
          refine wpAnyH_take (i := 25) (v := ?_) rfl (by kernel_rfl) (by kernel_rfl) (by kernel_rfl) (fun _ _ _ h => h) (Or.inl ⟨by rfl, ?_⟩) hHeld ?_
          rotate_left
          · (intro w hSw; (try dsimp only at hSw); go_simp)
            all_goals with_reducible rfl
          try simp only [Act.put, List.getElem_toArray, List.getElem_cons_succ, List.getElem_cons_zero, List.setIfInBounds_toArray, List.set_cons_zero, List.set_cons_succ]
          refine wpAnyH_take (i := 26) (v := ?_) rfl (by kernel_rfl) (by kernel_rfl) (by kernel_rfl) (fun _ _ _ h => h) (Or.inl ⟨by rfl, ?_⟩) hHeld ?_
          rotate_left
          · (intro w hSw; (try dsimp only at hSw); go_simp)
            all_goals with_reducible rfl
          try simp only [Act.put, List.getElem_toArray, List.getElem_cons_succ, List.getElem_cons_zero, List.setIfInBounds_toArray, List.set_cons_zero, List.set_cons_succ]
          refine wpAnyH_done (by kernel_rfl) ?_ _
          refine NoPanic.normal ?_
          try go_simp
          clear hHeld
          clear hS dS bo
          go_wp2
          go_ret
          exact ⟨rfl, bT⟩
        exact AllReadyH.nil
      refine AllReadyH.cons rfl (fun K hK => ?_) ?_
      · obtain ⟨y52, hy52, by52, ly52, By52⟩ := boxed y44 #[.slice none 0 0, .bool false, .slice none 0 0, .slice none 0 0] 51
        replace Ip := Ip.below by52
        replace BP := BP.keep by52
        replace BV := BV.keep by52
        replace BQ := BQ.keep by52
        replace IN := IN.below by52
        replace BN := BN.keep by52
        replace IF := IF.below by52
        replace BF := BF.keep by52
        replace bT := bT.trans (by52.mono bT.size)
        replace bo := bo.trans (by52.mono bo.size)
        have RZ : RL y52 4 (some ⟨y44.heap.size, 0, none⟩) 1 [⟨none, 0, [], ⟨false, none, 0, [], none, 0, []⟩⟩] := ⟨Blk.srow (cells := RowD.cells) (ds := [⟨none, 0, [], ⟨false, none, 0, [], none, 0, []⟩⟩]) rowCells_len (by simp) (t := 51) By52, fun r hr => by simp only [List.mem_cons, List.not_mem_nil, or_false] at hr; subst hr; exact ⟨LD.nil _ _, few_zero _ _⟩⟩
        clear By52
        go_simp
        refine hK.out _ _ (hS _ bo) (fun hHeld => ?_)
        clear hK K
        try simp only [Act.put, List.getElem_toArray, List.getElem_cons_succ, List.getElem_cons_zero, List.setIfInBounds_toArray, List.set_cons_zero, List.set_cons_succ]
        refine wpAnyH_ready (rs := [17]) (by kernel_rfl) (by simp) ?_
        refine AllReadyH.cons rfl (fun K hK => ?_) AllReadyH.nil
        obtain ⟨y53, hy53, by53, ly53, By53⟩ := boxed y52 #[.int .i64 1] 2
        replace Ip := Ip.below by53
        replace BP := BP.keep by53
        replace BV := BV.keep by53
        replace BQ := BQ.keep by53
        replace IN := IN.below by53
        replace BN := BN.keep by53
        replace IF := IF.below by53
        replace BF := BF.keep by53
        replace RZ := RZ.below by53
        replace bT := bT.trans (by53.mono bT.size)
        replace bo := bo.trans (by53.mono bo.size)
        have ilj := Blk.il (zs := [1]) By53
        clear By53
        go_simp
        refine hK.out _ _ (hS _ bo) (fun hHeld => ?_)
        clear hK K
        try simp only [Act.put, List.getElem_toArray, List.getElem_cons_succ, List.getElem_cons_zero, List.setIfInBounds_toArray, List.set_cons_zero, List.set_cons_succ]
        refine wpAnyH_ready (rs := [18]) (by kernel_rfl) (by simp) ?_
        refine AllReadyH.cons rfl (fun K hK => ?_) AllReadyH.nil
        go_simp
        go_at_call 32
        refine (whole19_any (zs := [1]) ilj (i64_ok (by decide)) (by decide) (by decide) (by decide)).mono ?_
        rintro e y54 ⟨Aj, cj, dj, rfl, Lj, Vj, Qj, by54⟩
        replace Ip := Ip.below by54
        replace BP := BP.keep by54
        replace BV := BV.keep by54
        replace BQ := BQ.keep by54
        replace IN := IN.below by54
        replace BN := BN.keep by54
        replace IF := IF.below by54
        replace BF := BF.keep by54
        replace RZ := RZ.below by54
        replace ilj := ilj.below by54
        replace bT := bT.trans (by54.mono bT.size)
        replace bo := bo.trans (by54.mono bo.size)
        clear ilj
        replace Vj := Lib.hid Vj
        go_wp2_with fail
        refine hK.out _ _ (hS _ bo) (fun hHeld => ?_)
        clear hK K
        try simp only [Act.put, List.getElem_toArray, List.getElem_cons_succ, List.getElem_cons_zero, List.setIfInBounds_toArray, List.set_cons_zero, List.set_cons_succ]
        refine wpAnyH_take (i := 21) (v := ?_) rfl (by kernel_rfl) (by kernel_rfl) (by kernel_rfl) (fun _ _ _ h => h) (Or.inl ⟨by rfl, ?_⟩) hHeld ?_
        rotate_left
        · (intro w hSw; (try dsimp only at hSw); go_simp)
          all_goals with_reducible rfl
        try simp only [Act.put, List.getElem_toArray, List.getElem_cons_succ, List.getElem_cons_zero, List.setIfInBounds_toArray, List.set_cons_zero, List.set_cons_succ]
        refine wpAnyH_ready (rs := [23]) (by kernel_rfl) (by simp) ?_
        refine AllReadyH.cons rfl (fun K hK => ?_) AllReadyH.nil
        go_simp
        have lj : dj.length ≤ 10 := by have := len_of Qj.out; simp at this; omega
        have hck := Lib.hid (show checkN dj [⟨none, 0, [], ⟨false, none, 0, [], none, 0, []⟩⟩] ⟨0, ⟨false, none, 0, [], none, 0, []⟩, none, 0, [], none, 0, [], none, 0, []⟩ = 2 by
            unfold checkN
            rw [if_pos (by
              have hj1 := len_of Qj.out
              simp at hj1
              have hrb : rowsB dj.length [⟨none, 0, [], ⟨false, none, 0, [], none, 0, []⟩⟩] = false := by
                unfold rowsB rowB
                simp only [List.all_cons, List.all_nil, Bool.and_true]
                rw [decide_eq_false (by show ¬ 0 = dj.length; omega), Bool.false_and]
              rw [hrb, Bool.false_and])])
        go_at_call 10
        refine (check_any (s := ⟨0, ⟨false, none, 0, [], none, 0, []⟩, none, 0, [], none, 0, [], none, 0, []⟩) Lj RZ ⟨few_zero _ _, LD.nil _ _, LD.nil _ _, LD.nil _ _⟩ (by first | (simp; done) | (simp; omega)) (by omega)).mono ?_
        rintro e y55 ⟨rfl, by55⟩
        replace Ip := Ip.below by55
        replace BP := BP.keep by55
        replace BV := BV.keep by55
        replace BQ := BQ.keep by55
        replace IN := IN.below by55
        replace BN := BN.keep by55
        replace IF := IF.below by55
        replace BF := BF.keep by55
        replace RZ := RZ.below by55
        replace Lj := Lj.below by55
        replace bT := bT.trans (by55.mono bT.size)
        replace bo := bo.trans (by55.mono bo.size)
        rw [hck.out]
        clear hck
        go_wp2_with fail
        refine hK.out _ _ (hS _ bo) (fun hHeld => ?_)
        clear hK K
        try simp only [Act.put, List.getElem_toArray, List.getElem_cons_succ, List.getElem_cons_zero, List.setIfInBounds_toArray, List.set_cons_zero, List.set_cons_succ]
        refine wpAnyH_take (i := 24) (v := ?_) rfl (by kernel_rfl) (by kernel_rfl) (by kernel_rfl) (fun _ _ _ h => h) (Or.inl ⟨by rfl, ?_⟩) hHeld ?_
        rotate_left
        · (intro w hSw; (try dsimp only at hSw); go_simp)
          all_goals with_reducible rfl
        try simp only [Act.put, List.getElem_toArray, List.getElem_cons_succ, List.getElem_cons_zero, List.setIfInBounds_toArray, List.set_cons_zero, List.set_cons_succ]
        refine wpAnyH_take (i := 25) (v := ?_) rfl (by kernel_rfl) (by kernel_rfl) (by kernel_rfl) (fun _ _ _ h => h) (Or.inl ⟨by rfl, ?_⟩) hHeld ?_
        rotate_left
        · (intro w hSw; (try dsimp only at hSw); go_simp)
          all_goals with_reducible rfl
        try simp only [Act.put, List.getElem_toArray, List.getElem_cons_succ, List.getElem_cons_zero, List.setIfInBounds_toArray, List.set_cons_zero, List.set_cons_succ]
        refine wpAnyH_take (i := 26) (v := ?_) rfl (by kernel_rfl) (by kernel_rfl) (by kernel_rfl) (fun _ _ _ h => h) (Or.inl ⟨by rfl, ?_⟩) hHeld ?_
        rotate_left
        · (intro w hSw; (try dsimp only at hSw); go_simp)
          all_goals with_reducible rfl
        try simp only [Act.put, List.getElem_toArray, List.getElem_cons_succ, List.getElem_cons_zero, List.setIfInBounds_toArray, List.set_cons_zero, List.set_cons_succ]
        refine wpAnyH_done (by kernel_rfl) ?_ _
        refine NoPanic.normal ?_
        try go_simp
        clear hHeld
        clear hS dS bo
        go_wp2
        go_ret
        exact ⟨rfl, bT⟩
      exact AllReadyH.nil
    refine AllReadyH.cons rfl (fun K hK => ?_) ?_
    · obtain ⟨y56, hy56, by56, ly56, By56⟩ := boxed y40 #[.int .i64 1] 2
      replace Ip := Ip.below by56
      replace BP := BP.keep by56
      replace BV := BV.keep by56
      replace BQ := BQ.keep by56
      replace IN := IN.below by56
      replace BN := BN.keep by56
      replace IF := IF.below by56
      replace BF := BF.keep by56
      replace ilh := ilh.below by56
      replace bT := bT.trans (by56.mono bT.size)
      replace bo := bo.trans (by56.mono bo.size)
      have ili := Blk.il (zs := [1]) By56
      clear By56
      go_simp
      refine hK.out _ _ (hS _ bo) (fun hHeld => ?_)
      clear hK K
      try simp only [Act.put, List.getElem_toArray, List.getElem_cons_succ, List.getElem_cons_zero, List.setIfInBounds_toArray, List.set_cons_zero, List.set_cons_succ]
      refine wpAnyH_ready (rs := [9]) (by kernel_rfl) (by simp) ?_
      refine AllReadyH.cons rfl (fun K hK => ?_) AllReadyH.nil
      go_simp
      go_at_call 32
      refine (whole19_any (zs := [0]) ilh (i64_ok (by decide)) (by decide) (by decide) (by decide)).mono ?_
      rintro e y57 ⟨Ah, ch, dh, rfl, Lh, Vh, Qh, by57⟩
      replace Ip := Ip.below by57
      replace BP := BP.keep by57
      replace BV := BV.keep by57
      replace BQ := BQ.keep by57
      replace IN := IN.below by57
      replace BN := BN.keep by57
      replace IF := IF.below by57
      replace BF := BF.keep by57
      replace ilh := ilh.below by57
      replace ili := ili.below by57
      replace bT := bT.trans (by57.mono bT.size)
      replace bo := bo.trans (by57.mono bo.size)
      clear ilh
      replace Vh := Lib.hid Vh
      go_wp2_with fail
      refine hK.out _ _ (hS _ bo) (fun hHeld => ?_)
      clear hK K
      try simp only [Act.put, List.getElem_toArray, List.getElem_cons_succ, List.getElem_cons_zero, List.setIfInBounds_toArray, List.set_cons_zero, List.set_cons_succ]
      refine wpAnyH_ready (rs := [11]) (by kernel_rfl) (by simp) ?_
      refine AllReadyH.cons rfl (fun K hK => ?_) AllReadyH.nil
      go_simp
      go_at_call 32
      refine (whole19_any (zs := [1]) ili (i64_ok (by decide)) (by decide) (by decide) (by decide)).mono ?_
      rintro e y58 ⟨Ai, ci, di, rfl, Li, Vi, Qi, by58⟩
      replace Ip := Ip.below by58
      replace BP := BP.keep by58
      replace BV := BV.keep by58
      replace BQ := BQ.keep by58
      replace IN := IN.below by58
      replace BN := BN.keep by58
      replace IF := IF.below by58
      replace BF := BF.keep by58
      replace ili := ili.below by58
      replace Lh := Lh.below by58
      replace bT := bT.trans (by58.mono bT.size)
      replace bo := bo.trans (by58.mono bo.size)
      clear ili
      replace Vi := Lib.hid Vi
      go_wp2_with fail
      refine hK.out _ _ (hS _ bo) (fun hHeld => ?_)
      clear hK K
      try simp only [Act.put, List.getElem_toArray, List.getElem_cons_succ, List.getElem_cons_zero, List.setIfInBounds_toArray, List.set_cons_zero, List.set_cons_succ]
      refine wpAnyH_take (i := 12) (v := ?_) rfl (by kernel_rfl) (by kernel_rfl) (by kernel_rfl) (fun _ _ _ h => h) (Or.inl ⟨by rfl, ?_⟩) hHeld ?_
      rotate_left
      · (intro w hSw; (try dsimp only at hSw); go_simp)
        all_goals with_reducible rfl
      try simp only [Act.put, List.getElem_toArray, List.getElem_cons_succ, List.getElem_cons_zero, List.setIfInBounds_toArray, List.set_cons_zero, List.set_cons_succ]
      refine wpAnyH_ready (rs := [13]) (by kernel_rfl) (by simp) ?_
      refine AllReadyH.cons rfl (fun K hK => ?_) AllReadyH.nil
      go_simp
      have lh : dh.length ≤ 10 := by have := len_of Qh.out; simp at this; omega
      have li : di.length ≤ 10 := by have := len_of Qi.out; simp at this; omega
      have hck := Lib.hid (show checkN df [] ⟨3, ⟨false, none, 0, [], none, 0, []⟩, Ah, ch, dh, none, 0, [], Ai, ci, di⟩ = 0 by
          rw [checkN_ok IF.f.out]
          have hpv : provenB df [] ⟨3, ⟨false, none, 0, [], none, 0, []⟩, Ah, ch, dh, none, 0, [], Ai, ci, di⟩ = true := by
            show (feaB df [] dh && endB df [] di) = true
            rw [fea_Q IF.f.out Vh.out, end_Q Vi.out, IF.q.out, Qh.out, Qi.out]
            decide +kernel
          rw [hpv]; rfl)
      go_at_call 10
      refine (check_any (s := ⟨3, ⟨false, none, 0, [], none, 0, []⟩, Ah, ch, dh, none, 0, [], Ai, ci, di⟩) IF.g IF.r ⟨few_zero _ _, Lh, LD.nil _ _, Li⟩ (by first | (simp; done) | (simp; omega)) (by omega)).mono ?_
      rintro e y59 ⟨rfl, by59⟩
      replace Ip := Ip.below by59
      replace BP := BP.keep by59
      replace BV := BV.keep by59
      replace BQ := BQ.keep by59
      replace IN := IN.below by59
      replace BN := BN.keep by59
      replace IF := IF.below by59
      replace BF := BF.keep by59
      replace Lh := Lh.below by59
      replace Li := Li.below by59
      replace bT := bT.trans (by59.mono bT.size)
      replace bo := bo.trans (by59.mono bo.size)
      rw [hck.out]
      clear hck
      clear Lh Vh Qh lh Li Vi Qi li
      go_wp2_with fail
      refine hK.out _ _ (hS _ bo) (fun hHeld => ?_)
      clear hK K
      try simp only [Act.put, List.getElem_toArray, List.getElem_cons_succ, List.getElem_cons_zero, List.setIfInBounds_toArray, List.set_cons_zero, List.set_cons_succ]
      refine wpAnyH_take (i := 14) (v := ?_) rfl (by kernel_rfl) (by kernel_rfl) (by kernel_rfl) (fun _ _ _ h => h) (Or.inl ⟨by rfl, ?_⟩) hHeld ?_
      rotate_left
      · (intro w hSw; (try dsimp only at hSw); go_simp)
        all_goals with_reducible rfl
      try simp only [Act.put, List.getElem_toArray, List.getElem_cons_succ, List.getElem_cons_zero, List.setIfInBounds_toArray, List.set_cons_zero, List.set_cons_succ]
      refine wpAnyH_take (i := 15) (v := ?_) rfl (by kernel_rfl) (by kernel_rfl) (by kernel_rfl) (fun _ _ _ h => h) (Or.inl ⟨by rfl, ?_⟩) hHeld ?_
      rotate_left
      · (intro w hSw; (try dsimp only at hSw); go_simp)
        all_goals with_reducible rfl
      try simp only [Act.put, List.getElem_toArray, List.getElem_cons_succ, List.getElem_cons_zero, List.setIfInBounds_toArray, List.set_cons_zero, List.set_cons_succ]
      refine wpAnyH_take (i := 16) (v := ?_) rfl (by kernel_rfl) (by kernel_rfl) (by kernel_rfl) (fun _ _ _ h => h) (Or.inl ⟨by rfl, ?_⟩) hHeld ?_
      rotate_left
      · (intro w hSw; (try dsimp only at hSw); go_simp)
        all_goals with_reducible rfl
      try simp only [Act.put, List.getElem_toArray, List.getElem_cons_succ, List.getElem_cons_zero, List.setIfInBounds_toArray, List.set_cons_zero, List.set_cons_succ]
      refine wpAnyH_take (i := 19) (v := ?_) rfl (by kernel_rfl) (by kernel_rfl) (by kernel_rfl) (fun _ _ _ h => h) (Or.inl ⟨by rfl, ?_⟩) hHeld ?_
      rotate_left
      · (intro w hSw; (try dsimp only at hSw); go_simp)
        all_goals with_reducible rfl
      try simp only [Act.put, List.getElem_toArray, List.getElem_cons_succ, List.getElem_cons_zero, List.setIfInBounds_toArray, List.set_cons_zero, List.set_cons_succ]
      refine wpAnyH_take (i := 22) (v := ?_) rfl (by kernel_rfl) (by kernel_rfl) (by kernel_rfl) (fun _ _ _ h => h) (Or.inl ⟨by rfl, ?_⟩) hHeld ?_
      rotate_left
      · (intro w hSw; (try dsimp only at hSw); go_simp)
        all_goals with_reducible rfl
      try simp only [Act.put, List.getElem_toArray, List.getElem_cons_succ, List.getElem_cons_zero, List.setIfInBounds_toArray, List.set_cons_zero, List.set_cons_succ]
      refine wpAnyH_ready (rs := [17, 20]) (by kernel_rfl) (by simp) ?_
      refine AllReadyH.cons rfl (fun K hK => ?_) ?_
      · obtain ⟨y60, hy60, by60, ly60, By60⟩ := boxed y59 #[.int .i64 1] 2
        replace Ip := Ip.below by60
        replace BP := BP.keep by60
        replace BV := BV.keep by60
        replace BQ := BQ.keep by60
        replace IN := IN.below by60
        replace BN := BN.keep by60
        replace IF := IF.below by60
        replace BF := BF.keep by60
        replace bT := bT.trans (by60.mono bT.size)
        replace bo := bo.trans (by60.mono bo.size)
        have ilj := Blk.il (zs := [1]) By60
        clear By60
        go_simp
        refine hK.out _ _ (hS _ bo) (fun hHeld => ?_)
        clear hK K
        try simp only [Act.put, List.getElem_toArray, List.getElem_cons_succ, List.getElem_cons_zero, List.setIfInBounds_toArray, List.set_cons_zero, List.set_cons_succ]
        refine wpAnyH_ready (rs := [18, 20]) (by kernel_rfl) (by simp) ?_
        refine AllReadyH.cons rfl (fun K hK => ?_) ?_
        · go_simp
          go_at_call 32
          refine (whole19_any (zs := [1]) ilj (i64_ok (by decide)) (by decide) (by decide) (by decide)).mono ?_
          rintro e y61 ⟨Aj, cj, dj, rfl, Lj, Vj, Qj, by61⟩
          replace Ip := Ip.below by61
          replace BP := BP.keep by61
          replace BV := BV.keep by61
          replace BQ := BQ.keep by61
          replace IN := IN.below by61
          replace BN := BN.keep by61
          replace IF := IF.below by61
          replace BF := BF.keep by61
          replace ilj := ilj.below by61
          replace bT := bT.trans (by61.mono bT.size)
          replace bo := bo.trans (by61.mono bo.size)
          clear ilj
          replace Vj := Lib.hid Vj
          go_wp2_with fail
          refine hK.out _ _ (hS _ bo) (fun hHeld => ?_)
          clear hK K
          try simp only [Act.put, List.getElem_toArray, List.getElem_cons_succ, List.getElem_cons_zero, List.setIfInBounds_toArray, List.set_cons_zero, List.set_cons_succ]
          refine wpAnyH_ready (rs := [20]) (by kernel_rfl) (by simp) ?_
          refine AllReadyH.cons rfl (fun K hK => ?_) AllReadyH.nil
          obtain ⟨y62, hy62, by62, ly62, By62⟩ := boxed y61 #[.slice none 0 0, .bool false, .slice none 0 0, .slice none 0 0] 51
          replace Ip := Ip.below by62
          replace BP := BP.keep by62
          replace BV := BV.keep by62
          replace BQ := BQ.keep by62
          replace IN := IN.below by62
          replace BN := BN.keep by62
          replace IF := IF.below by62
          replace BF := BF.keep by62
          replace Lj := Lj.below by62
          replace bT := bT.trans (by62.mono bT.size)
          replace bo := bo.trans (by62.mono bo.size)
          have RZ : RL y62 4 (some ⟨y61.heap.size, 0, none⟩) 1 [⟨none, 0, [], ⟨false, none, 0, [], none, 0, []⟩⟩] := ⟨Blk.srow (cells := RowD.cells) (ds := [⟨none, 0, [], ⟨false, none, 0, [], none, 0, []⟩⟩]) rowCells_len (by simp) (t := 51) By62, fun r hr => by simp only [List.mem_cons, List.not_mem_nil, or_false] at hr; subst hr; exact ⟨LD.nil _ _, few_zero _ _⟩⟩
          clear By62
          go_simp
          refine hK.out _ _ (hS _ bo) (fun hHeld => ?_)
          clear hK K
          try simp only [Act.put, List.getElem_toArray, List.getElem_cons_succ, List.getElem_cons_zero, List.setIfInBounds_toArray, List.set_cons_zero, List.set_cons_succ]
          refine wpAnyH_take (i := 21) (v := ?_) rfl (by kernel_rfl) (by kernel_rfl) (by kernel_rfl) (fun _ _ _ h => h) (Or.inl ⟨by rfl, ?_⟩) hHeld ?_
          rotate_left
          · (intro w hSw; (try dsimp only at hSw); go_simp)
            all_goals with_reducible rfl
          try simp only [Act.put, List.getElem_toArray, List.getElem_cons_succ, List.getElem_cons_zero, List.setIfInBounds_toArray, List.set_cons_zero, List.set_cons_succ]
          refine wpAnyH_ready (rs := [23]) (by kernel_rfl) (by simp) ?_
          refine AllReadyH.cons rfl (fun K hK => ?_) AllReadyH.nil
          go_simp
          have lj : dj.length ≤ 10 := by have := len_of Qj.out; simp at this; omega
          have hck := Lib.hid (show checkN dj [⟨none, 0, [], ⟨false, none, 0, [], none, 0, []⟩⟩] ⟨0, ⟨false, none, 0, [], none, 0, []⟩, none, 0, [], none, 0, [], none, 0, []⟩ = 2 by
              unfold checkN
              rw [if_pos (by
                have hj1 := len_of Qj.out
                simp at hj1
                have hrb : rowsB dj.length [⟨none, 0, [], ⟨false, none, 0, [], none, 0, []⟩⟩] = false := by
                  unfold rowsB rowB
                  simp only [List.all_cons, List.all_nil, Bool.and_true]
                  rw [decide_eq_false (by show ¬ 0 = dj.length; omega), Bool.false_and]
                rw [hrb, Bool.false_and])])
          go_at_call 10
          refine (check_any (s := ⟨0, ⟨false, none, 0, [], none, 0, []⟩, none, 0, [], none, 0, [], none, 0, []⟩) Lj RZ ⟨few_zero _ _, LD.nil _ _, LD.nil _ _, LD.nil _ _⟩ (by first | (simp; done) | (simp; omega)) (by omega)).mono ?_
          rintro e y63 ⟨rfl, by63⟩
          replace Ip := Ip.below by63
          replace BP := BP.keep by63
          replace BV := BV.keep by63
          replace BQ := BQ.keep by63
          replace IN := IN.below by63
          replace BN := BN.keep by63
          replace IF := IF.below by63
          replace BF := BF.keep by63
          replace Lj := Lj.below by63
          replace RZ := RZ.below by63
          replace bT := bT.trans (by63.mono bT.size)
          replace bo := bo.trans (by63.mono bo.size)
          rw [hck.out]
          clear hck
          go_wp2_with fail
          refine hK.out _ _ (hS _ bo) (fun hHeld => ?_)
          clear hK K
          try simp only [Act.put, List.getElem_toArray, List.getElem_cons_succ, List.getElem_cons_zero, List.setIfInBounds_toArray, List.set_cons_zero, List.set_cons_succ]
          refine wpAnyH_take (i := 24) (v := ?_) rfl (by kernel_rfl) (by kernel_rfl) (by kernel_rfl) (fun _ _ _ h => h) (Or.inl ⟨by rfl, ?_⟩) hHeld ?_
          rotate_left
          · (intro w hSw; (try dsimp only at hSw); go_simp)
            all_goals with_reducible rfl
          try simp only [Act.put, List.getElem_toArray, List.getElem_cons_succ, List.getElem_cons_zero, List.setIfInBounds_toArray, List.set_cons_zero, List.set_cons_succ]
          refine wpAnyH_take (i := 25) (v := ?_) rfl (by kernel_rfl) (by kernel_rfl) (by kernel_rfl) (fun _ _ _ h => h) (Or.inl ⟨by rfl, ?_⟩) hHeld ?_
          rotate_left
          · (intro w hSw; (try dsimp only at hSw); go_simp)
            all_goals with_reducible rfl
          try simp only [Act.put, List.getElem_toArray, List.getElem_cons_succ, List.getElem_cons_zero, List.setIfInBounds_toArray, List.set_cons_zero, List.set_cons_succ]
          refine wpAnyH_take (i := 26) (v := ?_) rfl (by kernel_rfl) (by kernel_rfl) (by kernel_rfl) (fun _ _ _ h => h) (Or.inl ⟨by rfl, ?_⟩) hHeld ?_
          rotate_left
          · (intro w hSw; (try dsimp only at hSw); go_simp)
            all_goals with_reducible rfl
          try simp only [Act.put, List.getElem_toArray, List.getElem_cons_succ, List.getElem_cons_zero, List.setIfInBounds_toArray, List.set_cons_zero, List.set_cons_succ]
          refine wpAnyH_done (by kernel_rfl) ?_ _
          refine NoPanic.normal ?_
          try go_simp
          clear hHeld
          clear hS dS bo
          go_wp2
          go_ret
          exact ⟨rfl, bT⟩
        refine AllReadyH.cons rfl (fun K hK => ?_) ?_
        · obtain ⟨y64, hy64, by64, ly64, By64⟩ := boxed y60 #[.slice none 0 0, .bool false, .slice none 0 0, .slice none 0 0] 51
          replace Ip := Ip.below by64
          replace BP := BP.keep by64
          replace BV := BV.keep by64
          replace BQ := BQ.keep by64
          replace IN := IN.below by64
          replace BN := BN.keep by64
          replace IF := IF.below by64
          replace BF := BF.keep by64
          replace ilj := ilj.below by64
          replace bT := bT.trans (by64.mono bT.size)
          replace bo := bo.trans (by64.mono bo.size)
          have RZ : RL y64 4 (some ⟨y60.heap.size, 0, none⟩) 1 [⟨none, 0, [], ⟨false, none, 0, [], none, 0, []⟩⟩] := ⟨Blk.srow (cells := RowD.cells) (ds := [⟨none, 0, [], ⟨false, none, 0, [], none, 0, []⟩⟩]) rowCells_len (by simp) (t := 51) By64, fun r hr => by simp only [List.mem_cons, List.not_mem_nil, or_false] at hr; subst hr; exact ⟨LD.nil _ _, few_zero _ _⟩⟩
          clear By64
          go_simp
          refine hK.out _ _ (hS _ bo) (fun hHeld => ?_)
          clear hK K
          try simp only [Act.put, List.getElem_toArray, List.getElem_cons_succ, List.getElem_cons_zero, List.setIfInBounds_toArray, List.set_cons_zero, List.set_cons_succ]
          refine wpAnyH_ready (rs := [18]) (by kernel_rfl) (by simp) ?_
          refine AllReadyH.cons rfl (fun K hK => ?_) AllReadyH.nil
          go_simp
          go_at_call 32
          refine (whole19_any (zs := [1]) ilj (i64_ok (by decide)) (by decide) (by decide) (by decide)).mono ?_
          rintro e y65 ⟨Aj, cj, dj, rfl, Lj, Vj, Qj, by65⟩
          replace Ip := Ip.below by65
          replace BP := BP.keep by65
          replace BV := BV.keep by65
          replace BQ := BQ.keep by65
          replace IN := IN.below by65
          replace BN := BN.keep by65
          replace IF := IF.below by65
          replace BF := BF.keep by65
          replace ilj := ilj.below by65
          replace RZ := RZ.below by65
          replace bT := bT.trans (by65.mono bT.size)
          replace bo := bo.trans (by65.mono bo.size)
          clear ilj
          replace Vj := Lib.hid Vj
          go_wp2_with fail
          refine hK.out _ _ (hS _ bo) (fun hHeld => ?_)
          clear hK K
          try simp only [Act.put, List.getElem_toArray, List.getElem_cons_succ, List.getElem_cons_zero, List.setIfInBounds_toArray, List.set_cons_zero, List.set_cons_succ]
          refine wpAnyH_take (i := 21) (v := ?_) rfl (by kernel_rfl) (by kernel_rfl) (by kernel_rfl) (fun _ _ _ h => h) (Or.inl ⟨by rfl, ?_⟩) hHeld ?_
          rotate_left
          · (intro w hSw; (try dsimp only at hSw); go_simp)
            all_goals with_reducible rfl
          try simp only [Act.put, List.getElem_toArray, List.getElem_cons_succ, List.getElem_cons_zero, List.setIfInBounds_toArray, List.set_cons_zero, List.set_cons_succ]
          refine wpAnyH_ready (rs := [23]) (by kernel_rfl) (by simp) ?_
          refine AllReadyH.cons rfl (fun K hK => ?_) AllReadyH.nil
          go_simp
          have lj : dj.length ≤ 10 := by have := len_of Qj.out; simp at this; omega
          have hck := Lib.hid (show checkN dj [⟨none, 0, [], ⟨false, none, 0, [], none, 0, []⟩⟩] ⟨0, ⟨false, none, 0, [], none, 0, []⟩, none, 0, [], none, 0, [], none, 0, []⟩ = 2 by
              unfold checkN
              rw [if_pos (by
                have hj1 := len_of Qj.out
                simp at hj1
                have hrb : rowsB dj.length [⟨none, 0, [], ⟨false, none, 0, [], none, 0, []⟩⟩] = false := by
                  unfold rowsB rowB
                  simp only [List.all_cons, List.all_nil, Bool.and_true]
                  rw [decide_eq_false (by show ¬ 0 = dj.length; omega), Bool.false_and]
                rw [hrb, Bool.false_and])])
          go_at_call 10
          refine (check_any (s := ⟨0, ⟨false, none, 0, [], none, 0, []⟩, none, 0, [], none, 0, [], none, 0, []⟩) Lj RZ ⟨few_zero _ _, LD.nil _ _, LD.nil _ _, LD.nil _ _⟩ (by first | (simp; done) | (simp; omega)) (by omega)).mono ?_
          rintro e y66 ⟨rfl, by66⟩
          replace Ip := Ip.below by66
          replace BP := BP.keep by66
          replace BV := BV.keep by66
          replace BQ := BQ.keep by66
          replace IN := IN.below by66
          replace BN := BN.keep by66
          replace IF := IF.below by66
          replace BF := BF.keep by66
          replace RZ := RZ.below by66
          replace Lj := Lj.below by66
          replace bT := bT.trans (by66.mono bT.size)
          replace bo := bo.trans (by66.mono bo.size)
          rw [hck.out]
          clear hck
          go_wp2_with fail
          refine hK.out _ _ (hS _ bo) (fun hHeld => ?_)
          clear hK K
          try simp only [Act.put, List.getElem_toArray, List.getElem_cons_succ, List.getElem_cons_zero, List.setIfInBounds_toArray, List.set_cons_zero, List.set_cons_succ]
          refine wpAnyH_take (i := 24) (v := ?_) rfl (by kernel_rfl) (by kernel_rfl) (by kernel_rfl) (fun _ _ _ h => h) (Or.inl ⟨by rfl, ?_⟩) hHeld ?_
          rotate_left
          · (intro w hSw; (try dsimp only at hSw); go_simp)
            all_goals with_reducible rfl
          try simp only [Act.put, List.getElem_toArray, List.getElem_cons_succ, List.getElem_cons_zero, List.setIfInBounds_toArray, List.set_cons_zero, List.set_cons_succ]
          refine wpAnyH_take (i := 25) (v := ?_) rfl (by kernel_rfl) (by kernel_rfl) (by kernel_rfl) (fun _ _ _ h => h) (Or.inl ⟨by rfl, ?_⟩) hHeld ?_
          rotate_left
          · (intro w hSw; (try dsimp only at hSw); go_simp)
            all_goals with_reducible rfl
          try simp only [Act.put, List.getElem_toArray, List.getElem_cons_succ, List.getElem_cons_zero, List.setIfInBounds_toArray, List.set_cons_zero, List.set_cons_succ]
          refine wpAnyH_take (i := 26) (v := ?_) rfl (by kernel_rfl) (by kernel_rfl) (by kernel_rfl) (fun _ _ _ h => h) (Or.inl ⟨by rfl, ?_⟩) hHeld ?_
          rotate_left
          · (intro w hSw; (try dsimp only at hSw); go_simp)
            all_goals with_reducible rfl
          try simp only [Act.put, List.getElem_toArray, List.getElem_cons_succ, List.getElem_cons_zero, List.setIfInBounds_toArray, List.set_cons_zero, List.set_cons_succ]
          refine wpAnyH_done (by kernel_rfl) ?_ _
          refine NoPanic.normal ?_
          try go_simp
          clear hHeld
          clear hS dS bo
          go_wp2
          go_ret
          exact ⟨rfl, bT⟩
        exact AllReadyH.nil
      refine AllReadyH.cons rfl (fun K hK => ?_) ?_
      · obtain ⟨y67, hy67, by67, ly67, By67⟩ := boxed y59 #[.slice none 0 0, .bool false, .slice none 0 0, .slice none 0 0] 51
        replace Ip := Ip.below by67
        replace BP := BP.keep by67
        replace BV := BV.keep by67
        replace BQ := BQ.keep by67
        replace IN := IN.below by67
        replace BN := BN.keep by67
        replace IF := IF.below by67
        replace BF := BF.keep by67
        replace bT := bT.trans (by67.mono bT.size)
        replace bo := bo.trans (by67.mono bo.size)
        have RZ : RL y67 4 (some ⟨y59.heap.size, 0, none⟩) 1 [⟨none, 0, [], ⟨false, none, 0, [], none, 0, []⟩⟩] := ⟨Blk.srow (cells := RowD.cells) (ds := [⟨none, 0, [], ⟨false, none, 0, [], none, 0, []⟩⟩]) rowCells_len (by simp) (t := 51) By67, fun r hr => by simp only [List.mem_cons, List.not_mem_nil, or_false] at hr; subst hr; exact ⟨LD.nil _ _, few_zero _ _⟩⟩
        clear By67
        go_simp
        refine hK.out _ _ (hS _ bo) (fun hHeld => ?_)
        clear hK K
        try simp only [Act.put, List.getElem_toArray, List.getElem_cons_succ, List.getElem_cons_zero, List.setIfInBounds_toArray, List.set_cons_zero, List.set_cons_succ]
        refine wpAnyH_ready (rs := [17]) (by kernel_rfl) (by simp) ?_
        refine AllReadyH.cons rfl (fun K hK => ?_) AllReadyH.nil
        obtain ⟨y68, hy68, by68, ly68, By68⟩ := boxed y67 #[.int .i64 1] 2
        replace Ip := Ip.below by68
        replace BP := BP.keep by68
        replace BV := BV.keep by68
        replace BQ := BQ.keep by68
        replace IN := IN.below by68
        replace BN := BN.keep by68
        replace IF := IF.below by68
        replace BF := BF.keep by68
        replace RZ := RZ.below by68
        replace bT := bT.trans (by68.mono bT.size)
        replace bo := bo.trans (by68.mono bo.size)
        have ilj := Blk.il (zs := [1]) By68
        clear By68
        go_simp
        refine hK.out _ _ (hS _ bo) (fun hHeld => ?_)
        clear hK K
        try simp only [Act.put, List.getElem_toArray, List.getElem_cons_succ, List.getElem_cons_zero, List.setIfInBounds_toArray, List.set_cons_zero, List.set_cons_succ]
        refine wpAnyH_ready (rs := [18]) (by kernel_rfl) (by simp) ?_
        refine AllReadyH.cons rfl (fun K hK => ?_) AllReadyH.nil
        go_simp
        go_at_call 32
        refine (whole19_any (zs := [1]) ilj (i64_ok (by decide)) (by decide) (by decide) (by decide)).mono ?_
        rintro e y69 ⟨Aj, cj, dj, rfl, Lj, Vj, Qj, by69⟩
        replace Ip := Ip.below by69
        replace BP := BP.keep by69
        replace BV := BV.keep by69
        replace BQ := BQ.keep by69
        replace IN := IN.below by69
        replace BN := BN.keep by69
        replace IF := IF.below by69
        replace BF := BF.keep by69
        replace RZ := RZ.below by69
        replace ilj := ilj.below by69
        replace bT := bT.trans (by69.mono bT.size)
        replace bo := bo.trans (by69.mono bo.size)
        clear ilj
        replace Vj := Lib.hid Vj
        go_wp2_with fail
        refine hK.out _ _ (hS _ bo) (fun hHeld => ?_)
        clear hK K
        try simp only [Act.put, List.getElem_toArray, List.getElem_cons_succ, List.getElem_cons_zero, List.setIfInBounds_toArray, List.set_cons_zero, List.set_cons_succ]
        refine wpAnyH_take (i := 21) (v := ?_) rfl (by kernel_rfl) (by kernel_rfl) (by kernel_rfl) (fun _ _ _ h => h) (Or.inl ⟨by rfl, ?_⟩) hHeld ?_
        rotate_left
        · (intro w hSw; (try dsimp only at hSw); go_simp)
          all_goals with_reducible rfl
        try simp only [Act.put, List.getElem_toArray, List.getElem_cons_succ, List.getElem_cons_zero, List.setIfInBounds_toArray, List.set_cons_zero, List.set_cons_succ]
        refine wpAnyH_ready (rs := [23]) (by kernel_rfl) (by simp) ?_
        refine AllReadyH.cons rfl (fun K hK => ?_) AllReadyH.nil
        go_simp
        have lj : dj.length ≤ 10 := by have := len_of Qj.out; simp at this; omega
        have hck := Lib.hid (show checkN dj [⟨none, 0, [], ⟨false, none, 0, [], none, 0, []⟩⟩] ⟨0, ⟨false, none, 0, [], none, 0, []⟩, none, 0, [], none, 0, [], none, 0, []⟩ = 2 by
            unfold checkN
            rw [if_pos (by
              have hj1 := len_of Qj.out
              simp at hj1
              have hrb : rowsB dj.length [⟨none, 0, [], ⟨false, none, 0, [], none, 0, []⟩⟩] = false := by
                unfold rowsB rowB
                simp only [List.all_cons, List.all_nil, Bool.and_true]
                rw [decide_eq_false (by show ¬ 0 = dj.length; omega), Bool.false_and]
              rw [hrb, Bool.false_and])])
        go_at_call 10
        refine (check_any (s := ⟨0, ⟨false, none, 0, [], none, 0, []⟩, none, 0, [], none, 0, [], none, 0, []⟩) Lj RZ ⟨few_zero _ _, LD.nil _ _, LD.nil _ _, LD.nil _ _⟩ (by first | (simp; done) | (simp; omega)) (by omega)).mono ?_
        rintro e y70 ⟨rfl, by70⟩
        replace Ip := Ip.below by70
        replace BP := BP.keep by70
        replace BV := BV.keep by70
        replace BQ := BQ.keep by70
        replace IN := IN.below by70
        replace BN := BN.keep by70
        replace IF := IF.below by70
        replace BF := BF.keep by70
        replace RZ := RZ.below by70
        replace Lj := Lj.below by70
        replace bT := bT.trans (by70.mono bT.size)
        replace bo := bo.trans (by70.mono bo.size)
        rw [hck.out]
        clear hck
        go_wp2_with fail
        refine hK.out _ _ (hS _ bo) (fun hHeld => ?_)
        clear hK K
        try simp only [Act.put, List.getElem_toArray, List.getElem_cons_succ, List.getElem_cons_zero, List.setIfInBounds_toArray, List.set_cons_zero, List.set_cons_succ]
        refine wpAnyH_take (i := 24) (v := ?_) rfl (by kernel_rfl) (by kernel_rfl) (by kernel_rfl) (fun _ _ _ h => h) (Or.inl ⟨by rfl, ?_⟩) hHeld ?_
        rotate_left
        · (intro w hSw; (try dsimp only at hSw); go_simp)
          all_goals with_reducible rfl
        try simp only [Act.put, List.getElem_toArray, List.getElem_cons_succ, List.getElem_cons_zero, List.setIfInBounds_toArray, List.set_cons_zero, List.set_cons_succ]
        refine wpAnyH_take (i := 25) (v := ?_) rfl (by kernel_rfl) (by kernel_rfl) (by kernel_rfl) (fun _ _ _ h => h) (Or.inl ⟨by rfl, ?_⟩) hHeld ?_
        rotate_left
        · (intro w hSw; (try dsimp only at hSw); go_simp)
          all_goals with_reducible rfl
        try simp only [Act.put, List.getElem_toArray, List.getElem_cons_succ, List.getElem_cons_zero, List.setIfInBounds_toArray, List.set_cons_zero, List.set_cons_succ]
        refine wpAnyH_take (i := 26) (v := ?_) rfl (by kernel_rfl) (by kernel_rfl) (by kernel_rfl) (fun _ _ _ h => h) (Or.inl ⟨by rfl, ?_⟩) hHeld ?_
        rotate_left
        · (intro w hSw; (try dsimp only at hSw); go_simp)
          all_goals with_reducible rfl
        try simp only [Act.put, List.getElem_toArray, List.getElem_cons_succ, List.getElem_cons_zero, List.setIfInBounds_toArray, List.set_cons_zero, List.set_cons_succ]
        refine wpAnyH_done (by kernel_rfl) ?_ _
        refine NoPanic.normal ?_
        try go_simp
        clear hHeld
        clear hS dS bo
        go_wp2
        go_ret
        exact ⟨rfl, bT⟩
      exact AllReadyH.nil
    exact AllReadyH.nil
  refine AllReadyH.cons rfl (fun K hK => ?_) ?_
  · obtain ⟨y71, hy71, by71, ly71, By71⟩ := boxed y39 #[.int .i64 1] 2
    replace Ip := Ip.below by71
    replace BP := BP.keep by71
    replace BV := BV.keep by71
    replace BQ := BQ.keep by71
    replace IN := IN.below by71
    replace BN := BN.keep by71
    replace IF := IF.below by71
    replace BF := BF.keep by71
    replace bT := bT.trans (by71.mono bT.size)
    replace bo := bo.trans (by71.mono bo.size)
    have ili := Blk.il (zs := [1]) By71
    clear By71
    go_simp
    refine hK.out _ _ (hS _ bo) (fun hHeld => ?_)
    clear hK K
    try simp only [Act.put, List.getElem_toArray, List.getElem_cons_succ, List.getElem_cons_zero, List.setIfInBounds_toArray, List.set_cons_zero, List.set_cons_succ]
    refine wpAnyH_ready (rs := [8]) (by kernel_rfl) (by simp) ?_
    refine AllReadyH.cons rfl (fun K hK => ?_) AllReadyH.nil
    obtain ⟨y72, hy72, by72, ly72, By72⟩ := boxed y71 #[.int .i64 0] 2
    replace Ip := Ip.below by72
    replace BP := BP.keep by72
    replace BV := BV.keep by72
    replace BQ := BQ.keep by72
    replace IN := IN.below by72
    replace BN := BN.keep by72
    replace IF := IF.below by72
    replace BF := BF.keep by72
    replace ili := ili.below by72
    replace bT := bT.trans (by72.mono bT.size)
    replace bo := bo.trans (by72.mono bo.size)
    have ilh := Blk.il (zs := [0]) By72
    clear By72
    go_simp
    refine hK.out _ _ (hS _ bo) (fun hHeld => ?_)
    clear hK K
    try simp only [Act.put, List.getElem_toArray, List.getElem_cons_succ, List.getElem_cons_zero, List.setIfInBounds_toArray, List.set_cons_zero, List.set_cons_succ]
    refine wpAnyH_ready (rs := [9]) (by kernel_rfl) (by simp) ?_
    refine AllReadyH.cons rfl (fun K hK => ?_) AllReadyH.nil
    go_simp
    go_at_call 32
    refine (whole19_any (zs := [0]) ilh (i64_ok (by decide)) (by decide) (by decide) (by decide)).mono ?_
    rintro e y73 ⟨Ah, ch, dh, rfl, Lh, Vh, Qh, by73⟩
    replace Ip := Ip.below by73
    replace BP := BP.keep by73
    replace BV := BV.keep by73
    replace BQ := BQ.keep by73
    replace IN := IN.below by73
    replace BN := BN.keep by73
    replace IF := IF.below by73
    replace BF := BF.keep by73
    replace ili := ili.below by73
    replace ilh := ilh.below by73
    replace bT := bT.trans (by73.mono bT.size)
    replace bo := bo.trans (by73.mono bo.size)
    clear ilh
    replace Vh := Lib.hid Vh
    go_wp2_with fail
    refine hK.out _ _ (hS _ bo) (fun hHeld => ?_)
    clear hK K
    try simp only [Act.put, List.getElem_toArray, List.getElem_cons_succ, List.getElem_cons_zero, List.setIfInBounds_toArray, List.set_cons_zero, List.set_cons_succ]
    refine wpAnyH_ready (rs := [11]) (by kernel_rfl) (by simp) ?_
    refine AllReadyH.cons rfl (fun K hK => ?_) AllReadyH.nil
    go_simp
    go_at_call 32
    refine (whole19_any (zs := [1]) ili (i64_ok (by decide)) (by decide) (by decide) (by decide)).mono ?_
    rintro e y74 ⟨Ai, ci, di, rfl, Li, Vi, Qi, by74⟩
    replace Ip := Ip.below by74
    replace BP := BP.keep by74
    replace BV := BV.keep by74
    replace BQ := BQ.keep by74
    replace IN := IN.below by74
    replace BN := BN.keep by74
    replace IF := IF.below by74
    replace BF := BF.keep by74
    replace ili := ili.below by74
    replace Lh := Lh.below by74
    replace bT := bT.trans (by74.mono bT.size)
    replace bo := bo.trans (by74.mono bo.size)
    clear ili
    replace Vi := Lib.hid Vi
    go_wp2_with fail
    refine hK.out _ _ (hS _ bo) (fun hHeld => ?_)
    clear hK K
    try simp only [Act.put, List.getElem_toArray, List.getElem_cons_succ, List.getElem_cons_zero, List.setIfInBounds_toArray, List.set_cons_zero, List.set_cons_succ]
    refine wpAnyH_take (i := 12) (v := ?_) rfl (by kernel_rfl) (by kernel_rfl) (by kernel_rfl) (fun _ _ _ h => h) (Or.inl ⟨by rfl, ?_⟩) hHeld ?_
    rotate_left
    · (intro w hSw; (try dsimp only at hSw); go_simp)
      all_goals with_reducible rfl
    try simp only [Act.put, List.getElem_toArray, List.getElem_cons_succ, List.getElem_cons_zero, List.setIfInBounds_toArray, List.set_cons_zero, List.set_cons_succ]
    refine wpAnyH_ready (rs := [13]) (by kernel_rfl) (by simp) ?_
    refine AllReadyH.cons rfl (fun K hK => ?_) AllReadyH.nil
    go_simp
    have lh : dh.length ≤ 10 := by have := len_of Qh.out; simp at this; omega
    have li : di.length ≤ 10 := by have := len_of Qi.out; simp at this; omega
    have hck := Lib.hid (show checkN df [] ⟨3, ⟨false, none, 0, [], none, 0, []⟩, Ah, ch, dh, none, 0, [], Ai, ci, di⟩ = 0 by
        rw [checkN_ok IF.f.out]
        have hpv : provenB df [] ⟨3, ⟨false, none, 0, [], none, 0, []⟩, Ah, ch, dh, none, 0, [], Ai, ci, di⟩ = true := by
          show (feaB df [] dh && endB df [] di) = true
          rw [fea_Q IF.f.out Vh.out, end_Q Vi.out, IF.q.out, Qh.out, Qi.out]
          decide +kernel
        rw [hpv]; rfl)
    go_at_call 10
    refine (check_any (s := ⟨3, ⟨false, none, 0, [], none, 0, []⟩, Ah, ch, dh, none, 0, [], Ai, ci, di⟩) IF.g IF.r ⟨few_zero _ _, Lh, LD.nil _ _, Li⟩ (by first | (simp; done) | (simp; omega)) (by omega)).mono ?_
    rintro e y75 ⟨rfl, by75⟩
    replace Ip := Ip.below by75
    replace BP := BP.keep by75
    replace BV := BV.keep by75
    replace BQ := BQ.keep by75
    replace IN := IN.below by75
    replace BN := BN.keep by75
    replace IF := IF.below by75
    replace BF := BF.keep by75
    replace Lh := Lh.below by75
    replace Li := Li.below by75
    replace bT := bT.trans (by75.mono bT.size)
    replace bo := bo.trans (by75.mono bo.size)
    rw [hck.out]
    clear hck
    clear Lh Vh Qh lh Li Vi Qi li
    go_wp2_with fail
    refine hK.out _ _ (hS _ bo) (fun hHeld => ?_)
    clear hK K
    try simp only [Act.put, List.getElem_toArray, List.getElem_cons_succ, List.getElem_cons_zero, List.setIfInBounds_toArray, List.set_cons_zero, List.set_cons_succ]
    refine wpAnyH_take (i := 14) (v := ?_) rfl (by kernel_rfl) (by kernel_rfl) (by kernel_rfl) (fun _ _ _ h => h) (Or.inl ⟨by rfl, ?_⟩) hHeld ?_
    rotate_left
    · (intro w hSw; (try dsimp only at hSw); go_simp)
      all_goals with_reducible rfl
    try simp only [Act.put, List.getElem_toArray, List.getElem_cons_succ, List.getElem_cons_zero, List.setIfInBounds_toArray, List.set_cons_zero, List.set_cons_succ]
    refine wpAnyH_take (i := 15) (v := ?_) rfl (by kernel_rfl) (by kernel_rfl) (by kernel_rfl) (fun _ _ _ h => h) (Or.inl ⟨by rfl, ?_⟩) hHeld ?_
    rotate_left
    · (intro w hSw; (try dsimp only at hSw); go_simp)
      all_goals with_reducible rfl
    try simp only [Act.put, List.getElem_toArray, List.getElem_cons_succ, List.getElem_cons_zero, List.setIfInBounds_toArray, List.set_cons_zero, List.set_cons_succ]
    refine wpAnyH_take (i := 16) (v := ?_) rfl (by kernel_rfl) (by kernel_rfl) (by kernel_rfl) (fun _ _ _ h => h) (Or.inl ⟨by rfl, ?_⟩) hHeld ?_
    rotate_left
    · (intro w hSw; (try dsimp only at hSw); go_simp)
      all_goals with_reducible rfl
    try simp only [Act.put, List.getElem_toArray, List.getElem_cons_succ, List.getElem_cons_zero, List.setIfInBounds_toArray, List.set_cons_zero, List.set_cons_succ]
    refine wpAnyH_take (i := 19) (v := ?_) rfl (by kernel_rfl) (by kernel_rfl) (by kernel_rfl) (fun _ _ _ h => h) (Or.inl ⟨by rfl, ?_⟩) hHeld ?_
    rotate_left
    · (intro w hSw; (try dsimp only at hSw); go_simp)
      all_goals with_reducible rfl
    try simp only [Act.put, List.getElem_toArray, List.getElem_cons_succ, List.getElem_cons_zero, List.setIfInBounds_toArray, List.set_cons_zero, List.set_cons_succ]
    refine wpAnyH_take (i := 22) (v := ?_) rfl (by kernel_rfl) (by kernel_rfl) (by kernel_rfl) (fun _ _ _ h => h) (Or.inl ⟨by rfl, ?_⟩) hHeld ?_
    rotate_left
    · (intro w hSw; (try dsimp only at hSw); go_simp)
      all_goals with_reducible rfl
    try simp only [Act.put, List.getElem_toArray, List.getElem_cons_succ, List.getElem_cons_zero, List.setIfInBounds_toArray, List.set_cons_zero, List.set_cons_succ]
    refine wpAnyH_ready (rs := [17, 20]) (by kernel_rfl) (by simp) ?_
    refine AllReadyH.cons rfl (fun K hK => ?_) ?_
    · obtain ⟨y76, hy76, by76, ly76, By76⟩ := boxed y75 #[.int .i64 1] 2
      replace Ip := Ip.below by76
      replace BP := BP.keep by76
      replace BV := BV.keep by76
      replace BQ := BQ.keep by76
      replace IN := IN.below by76
      replace BN := BN.keep by76
      replace IF := IF.below by76
      replace BF := BF.keep by76
      replace bT := bT.trans (by76.mono bT.size)
      replace bo := bo.trans (by76.mono bo.size)
      have ilj := Blk.il (zs := [1]) By76
      clear By76
      go_simp
      refine hK.out _ _ (hS _ bo) (fun hHeld => ?_)
      clear hK K
      try simp only [Act.put, List.getElem_toArray, List.getElem_cons_succ, List.getElem_cons_zero, List.setIfInBounds_toArray, List.set_cons_zero, List.set_cons_succ]
      refine wpAnyH_ready (rs := [18, 20]) (by kernel_rfl) (by simp) ?_
      refine AllReadyH.cons rfl (fun K hK => ?_) ?_
      · go_simp
        go_at_call 32
        refine (whole19_any (zs := [1]) ilj (i64_ok (by decide)) (by decide) (by decide) (by decide)).mono ?_
        rintro e y77 ⟨Aj, cj, dj, rfl, Lj, Vj, Qj, by77⟩
        replace Ip := Ip.below by77
        replace BP := BP.keep by77
        replace BV := BV.keep by77
        replace BQ := BQ.keep by77
        replace IN := IN.below by77
        replace BN := BN.keep by77
        replace IF := IF.below by77
        replace BF := BF.keep by77
        replace ilj := ilj.below by77
        replace bT := bT.trans (by77.mono bT.size)
        replace bo := bo.trans (by77.mono bo.size)
        clear ilj
        replace Vj := Lib.hid Vj
        go_wp2_with fail
        refine hK.out _ _ (hS _ bo) (fun hHeld => ?_)
        clear hK K
        try simp only [Act.put, List.getElem_toArray, List.getElem_cons_succ, List.getElem_cons_zero, List.setIfInBounds_toArray, List.set_cons_zero, List.set_cons_succ]
        refine wpAnyH_ready (rs := [20]) (by kernel_rfl) (by simp) ?_
        refine AllReadyH.cons rfl (fun K hK => ?_) AllReadyH.nil
        obtain ⟨y78, hy78, by78, ly78, By78⟩ := boxed y77 #[.slice none 0 0, .bool false, .slice none 0 0, .slice none 0 0] 51
        replace Ip := Ip.below by78
        replace BP := BP.keep by78
        replace BV := BV.keep by78
        replace BQ := BQ.keep by78
        replace IN := IN.below by78
        replace BN := BN.keep by78
        replace IF := IF.below by78
        replace BF := BF.keep by78
        replace Lj := Lj.below by78
        replace bT := bT.trans (by78.mono bT.size)
        replace bo := bo.trans (by78.mono bo.size)
        have RZ : RL y78 4 (some ⟨y77.heap.size, 0, none⟩) 1 [⟨none, 0, [], ⟨false, none, 0, [], none, 0, []⟩⟩] := ⟨Blk.srow (cells := RowD.cells) (ds := [⟨none, 0, [], ⟨false, none, 0, [], none, 0, []⟩⟩]) rowCells_len (by simp) (t := 51) By78, fun r hr => by simp only [List.mem_cons, List.not_mem_nil, or_false] at hr; subst hr; exact ⟨LD.nil _ _, few_zero _ _⟩⟩
        clear By78
        go_simp
        refine hK.out _ _ (hS _ bo) (fun hHeld => ?_)
        clear hK K
        try simp only [Act.put, List.getElem_toArray, List.getElem_cons_succ, List.getElem_cons_zero, List.setIfInBounds_toArray, List.set_cons_zero, List.set_cons_succ]
        refine wpAnyH_take (i := 21) (v := ?_) rfl (by kernel_rfl) (by kernel_rfl) (by kernel_rfl) (fun _ _ _ h => h) (Or.inl ⟨by rfl, ?_⟩) hHeld ?_
        rotate_left
        · (intro w hSw; (try dsimp only at hSw); go_simp)
          all_goals with_reducible rfl
        try simp only [Act.put, List.getElem_toArray, List.getElem_cons_succ, List.getElem_cons_zero, List.setIfInBounds_toArray, List.set_cons_zero, List.set_cons_succ]
        refine wpAnyH_ready (rs := [23]) (by kernel_rfl) (by simp) ?_
        refine AllReadyH.cons rfl (fun K hK => ?_) AllReadyH.nil
        go_simp
        have lj : dj.length ≤ 10 := by have := len_of Qj.out; simp at this; omega
        have hck := Lib.hid (show checkN dj [⟨none, 0, [], ⟨false, none, 0, [], none, 0, []⟩⟩] ⟨0, ⟨false, none, 0, [], none, 0, []⟩, none, 0, [], none, 0, [], none, 0, []⟩ = 2 by
            unfold checkN
            rw [if_pos (by
              have hj1 := len_of Qj.out
              simp at hj1
              have hrb : rowsB dj.length [⟨none, 0, [], ⟨false, none, 0, [], none, 0, []⟩⟩] = false := by
                unfold rowsB rowB
                simp only [List.all_cons, List.all_nil, Bool.and_true]
                rw [decide_eq_false (by show ¬ 0 = dj.length; omega), Bool.false_and]
              rw [hrb, Bool.false_and])])
        go_at_call 10
        refine (check_any (s := ⟨0, ⟨false, none, 0, [], none, 0, []⟩, none, 0, [], none, 0, [], none, 0, []⟩) Lj RZ ⟨few_zero _ _, LD.nil _ _, LD.nil _ _, LD.nil _ _⟩ (by first | (simp; done) | (simp; omega)) (by omega)).mono ?_
        rintro e y79 ⟨rfl, by79⟩
        replace Ip := Ip.below by79
        replace BP := BP.keep by79
        replace BV := BV.keep by79
        replace BQ := BQ.keep by79
        replace IN := IN.below by79
        replace BN := BN.keep by79
        replace IF := IF.below by79
        replace BF := BF.keep by79
        replace Lj := Lj.below by79
        replace RZ := RZ.below by79
        replace bT := bT.trans (by79.mono bT.size)
        replace bo := bo.trans (by79.mono bo.size)
        rw [hck.out]
        clear hck
        go_wp2_with fail
        refine hK.out _ _ (hS _ bo) (fun hHeld => ?_)
        clear hK K
        try simp only [Act.put, List.getElem_toArray, List.getElem_cons_succ, List.getElem_cons_zero, List.setIfInBounds_toArray, List.set_cons_zero, List.set_cons_succ]
        refine wpAnyH_take (i := 24) (v := ?_) rfl (by kernel_rfl) (by kernel_rfl) (by kernel_rfl) (fun _ _ _ h => h) (Or.inl ⟨by rfl, ?_⟩) hHeld ?_
        rotate_left
        · (intro w hSw; (try dsimp only at hSw); go_simp)
          all_goals with_reducible rfl
        try simp only [Act.put, List.getElem_toArray, List.getElem_cons_succ, List.getElem_cons_zero, List.setIfInBounds_toArray, List.set_cons_zero, List.set_cons_succ]
        refine wpAnyH_take (i := 25) (v := ?_) rfl (by kernel_rfl) (by kernel_rfl) (by kernel_rfl) (fun _ _ _ h => h) (Or.inl ⟨by rfl, ?_⟩) hHeld ?_
        rotate_left
        · (intro w hSw; (try dsimp only at hSw); go_simp)
          all_goals with_reducible rfl
        try simp only [Act.put, List.getElem_toArray, List.getElem_cons_succ, List.getElem_cons_zero, List.setIfInBounds_toArray, List.set_cons_zero, List.set_cons_succ]
        refine wpAnyH_take (i := 26) (v := ?_) rfl (by kernel_rfl) (by kernel_rfl) (by kernel_rfl) (fun _ _ _ h => h) (Or.inl ⟨by rfl, ?_⟩) hHeld ?_
        rotate_left
        · (intro w hSw; (try dsimp only at hSw); go_simp)
          all_goals with_reducible rfl
        try simp only [Act.put, List.getElem_toArray, List.getElem_cons_succ, List.getElem_cons_zero, List.setIfInBounds_toArray, List.set_cons_zero, List.set_cons_succ]
        refine wpAnyH_done (by kernel_rfl) ?_ _
        refine NoPanic.normal ?_
        try go_simp
        clear hHeld
        clear hS dS bo
        go_wp2
        go_ret
        exact ⟨rfl, bT⟩
      refine AllReadyH.cons rfl (fun K hK => ?_) ?_
      · obtain ⟨y80, hy80, by80, ly80, By80⟩ := boxed y76 #[.slice none 0 0, .bool false, .slice none 0 0, .slice none 0 0] 51
        replace Ip := Ip.below by80
        replace BP := BP.keep by80
        replace BV := BV.keep by80
        replace BQ := BQ.keep by80
        replace IN := IN.below by80
        replace BN := BN.keep by80
        replace IF := IF.below by80
        replace BF := BF.keep by80
        replace ilj := ilj.below by80
        replace bT := bT.trans (by80.mono bT.size)
        replace bo := bo.trans (by80.mono bo.size)
        have RZ : RL y80 4 (some ⟨y76.heap.size, 0, none⟩) 1 [⟨none, 0, [], ⟨false, none, 0, [], none, 0, []⟩⟩] := ⟨Blk.srow (cells := RowD.cells) (ds := [⟨none, 0, [], ⟨false, none, 0, [], none, 0, []⟩⟩]) rowCells_len (by simp) (t := 51) By80, fun r hr => by simp only [List.mem_cons, List.not_mem_nil, or_false] at hr; subst hr; exact ⟨LD.nil _ _, few_zero _ _⟩⟩
        clear By80
        go_simp
        refine hK.out _ _ (hS _ bo) (fun hHeld => ?_)
        clear hK K
        try simp only [Act.put, List.getElem_toArray, List.getElem_cons_succ, List.getElem_cons_zero, List.setIfInBounds_toArray, List.set_cons_zero, List.set_cons_succ]
        refine wpAnyH_ready (rs := [18]) (by kernel_rfl) (by simp) ?_
        refine AllReadyH.cons rfl (fun K hK => ?_) AllReadyH.nil
        go_simp
        go_at_call 32
        refine (whole19_any (zs := [1]) ilj (i64_ok (by decide)) (by decide) (by decide) (by decide)).mono ?_
        rintro e y81 ⟨Aj, cj, dj, rfl, Lj, Vj, Qj, by81⟩
        replace Ip := Ip.below by81
        replace BP := BP.keep by81
        replace BV := BV.keep by81
        replace BQ := BQ.keep by81
        replace IN := IN.below by81
        replace BN := BN.keep by81
        replace IF := IF.below by81
        replace BF := BF.keep by81
        replace ilj := ilj.below by81
        replace RZ := RZ.below by81
        replace bT := bT.trans (by81.mono bT.size)
        replace bo := bo.trans (by81.mono bo.size)
        clear ilj
        replace Vj := Lib.hid Vj
        go_wp2_with fail
        refine hK.out _ _ (hS _ bo) (fun hHeld => ?_)
        clear hK K
        try simp only [Act.put, List.getElem_toArray, List.getElem_cons_succ, List.getElem_cons_zero, List.setIfInBounds_toArray, List.set_cons_zero, List.set_cons_succ]
        refine wpAnyH_take (i := 21) (v := ?_) rfl (by kernel_rfl) (by kernel_rfl) (by kernel_rfl) (fun _ _ _ h => h) (Or.inl ⟨by rfl, ?_⟩) hHeld ?_
        rotate_left
        · (intro w hSw; (try dsimp only at hSw); go_simp)
          all_goals with_reducible rfl
        try simp only [Act.put, List.getElem_toArray, List.getElem_cons_succ, List.getElem_cons_zero, List.setIfInBounds_toArray, List.set_cons_zero, List.set_cons_succ]
        refine wpAnyH_ready (rs := [23]) (by kernel_rfl) (by simp) ?_
        refine AllReadyH.cons rfl (fun K hK => ?_) AllReadyH.nil
        go_simp
        have lj : dj.length ≤ 10 := by have := len_of Qj.out; simp at this; omega
        have hck := Lib.hid (show checkN dj [⟨none, 0, [], ⟨false, none, 0, [], none, 0, []⟩⟩] ⟨0, ⟨false, none, 0, [], none, 0, []⟩, none, 0, [], none, 0, [], none, 0, []⟩ = 2 by
            unfold checkN
            rw [if_pos (by
              have hj1 := len_of Qj.out
              simp at hj1
              have hrb : rowsB dj.length [⟨none, 0, [], ⟨false, none, 0, [], none, 0, []⟩⟩] = false := by
                unfold rowsB rowB
                simp only [List.all_cons, List.all_nil, Bool.and_true]
                rw [decide_eq_false (by show ¬ 0 = dj.length; omega), Bool.false_and]
              rw [hrb, Bool.false_and])])
        go_at_call 10
        refine (check_any (s := ⟨0, ⟨false, none, 0, [], none, 0, []⟩, none, 0, [], none, 0, [], none, 0, []⟩) Lj RZ ⟨few_zero _ _, LD.nil _ _, LD.nil _ _, LD.nil _ _⟩ (by first | (simp; done) | (simp; omega)) (by omega)).mono ?_
        rintro e y82 ⟨rfl, by82⟩
        replace Ip := Ip.below by82
        replace BP := BP.keep by82
        replace BV := BV.keep by82
        replace BQ := BQ.keep by82
        replace IN := IN.below by82
        replace BN := BN.keep by82
        replace IF := IF.below by82
        replace BF := BF.keep by82
        replace RZ := RZ.below by82
        replace Lj := Lj.below by82
        replace bT := bT.trans (by82.mono bT.size)
        replace bo := bo.trans (by82.mono bo.size)
        rw [hck.out]
        clear hck
        go_wp2_with fail
        refine hK.out _ _ (hS _ bo) (fun hHeld => ?_)
        clear hK K
        try simp only [Act.put, List.getElem_toArray, List.getElem_cons_succ, List.getElem_cons_zero, List.setIfInBounds_toArray, List.set_cons_zero, List.set_cons_succ]
        refine wpAnyH_take (i := 24) (v := ?_) rfl (by kernel_rfl) (by kernel_rfl) (by kernel_rfl) (fun _ _ _ h => h) (Or.inl ⟨by rfl, ?_⟩) hHeld ?_
        rotate_left
        · (intro w hSw; (try dsimp only at hSw); go_simp)
          all_goals with_reducible rfl
        try simp only [Act.put, List.getElem_toArray, List.getElem_cons_succ, List.getElem_cons_zero, List.setIfInBounds_toArray, List.set_cons_zero, List.set_cons_succ]
        refine wpAnyH_take (i := 25) (v := ?_) rfl (by kernel_rfl) (by kernel_rfl) (by kernel_rfl) (fun _ _ _ h => h) (Or.inl ⟨by rfl, ?_⟩) hHeld ?_
        rotate_left
        · (intro w hSw; (try dsimp only at hSw); go_simp)
          all_goals with_reducible rfl
        try simp only [Act.put, List.getElem_toArray, List.getElem_cons_succ, List.getElem_cons_zero, List.setIfInBounds_toArray, List.set_cons_zero, List.set_cons_succ]
        refine wpAnyH_take (i := 26) (v := ?_) rfl (by kernel_rfl) (by kernel_rfl) (by kernel_rfl) (fun _ _ _ h => h) (Or.inl ⟨by rfl, ?_⟩) hHeld ?_
        rotate_left
        · (intro w hSw; (try dsimp only at hSw); go_simp)
          all_goals with_reducible rfl
        try simp only [Act.put, List.getElem_toArray, List.getElem_cons_succ, List.getElem_cons_zero, List.setIfInBounds_toArray, List.set_cons_zero, List.set_cons_succ]
        refine wpAnyH_done (by kernel_rfl) ?_ _
        refine NoPanic.normal ?_
        try go_simp
        clear hHeld
        clear hS dS bo
        go_wp2
        go_ret
        exact ⟨rfl, bT⟩
      exact AllReadyH.nil
    refine AllReadyH.cons rfl (fun K hK => ?_) ?_
    · obtain ⟨y83, hy83, by83, ly83, By83⟩ := boxed y75 #[.slice none 0 0, .bool false, .slice none 0 0, .slice none 0 0] 51
      replace Ip := Ip.below by83
      replace BP := BP.keep by83
      replace BV := BV.keep by83
      replace BQ := BQ.keep by83
      replace IN := IN.below by83
      replace BN := BN.keep by83
      replace IF := IF.below by83
      replace BF := BF.keep by83
      replace bT := bT.trans (by83.mono bT.size)
      replace bo := bo.trans (by83.mono bo.size)
      have RZ : RL y83 4 (some ⟨y75.heap.size, 0, none⟩) 1 [⟨none, 0, [], ⟨false, none, 0, [], none, 0, []⟩⟩] := ⟨Blk.srow (cells := RowD.cells) (ds := [⟨none, 0, [], ⟨false, none, 0, [], none, 0, []⟩⟩]) rowCells_len (by simp) (t := 51) By83, fun r hr => by simp only [List.mem_cons, List.not_mem_nil, or_false] at hr; subst hr; exact ⟨LD.nil _ _, few_zero _ _⟩⟩
      clear By83
      go_simp
      refine hK.out _ _ (hS _ bo) (fun hHeld => ?_)
      clear hK K
      try simp only [Act.put, List.getElem_toArray, List.getElem_cons_succ, List.getElem_cons_zero, List.setIfInBounds_toArray, List.set_cons_zero, List.set_cons_succ]
      refine wpAnyH_ready (rs := [17]) (by kernel_rfl) (by simp) ?_
      refine AllReadyH.cons rfl (fun K hK => ?_) AllReadyH.nil
      obtain ⟨y84, hy84, by84, ly84, By84⟩ := boxed y83 #[.int .i64 1] 2
      replace Ip := Ip.below by84
      replace BP := BP.keep by84
      replace BV := BV.keep by84
      replace BQ := BQ.keep by84
      replace IN := IN.below by84
      replace BN := BN.keep by84
      replace IF := IF.below by84
      replace BF := BF.keep by84
      replace RZ := RZ.below by84
      replace bT := bT.trans (by84.mono bT.size)
      replace bo := bo.trans (by84.mono bo.size)
      have ilj := Blk.il (zs := [1]) By84
      clear By84
      go_simp
      refine hK.out _ _ (hS _ bo) (fun hHeld => ?_)
      clear hK K
      try simp only [Act.put, List.getElem_toArray, List.getElem_cons_succ, List.getElem_cons_zero, List.setIfInBounds_toArray, List.set_cons_zero, List.set_cons_succ]
      refine wpAnyH_ready (rs := [18]) (by kernel_rfl) (by simp) ?_
      refine AllReadyH.cons rfl (fun K hK => ?_) AllReadyH.nil
      go_simp
      go_at_call 32
      refine (whole19_any (zs := [1]) ilj (i64_ok (by decide)) (by decide) (by decide) (by decide)).mono ?_
      rintro e y85 ⟨Aj, cj, dj, rfl, Lj, Vj, Qj, by85⟩
      replace Ip := Ip.below by85
      replace BP := BP.keep by85
      replace BV := BV.keep by85
      replace BQ := BQ.keep by85
      replace IN := IN.below by85
      replace BN := BN.keep by85
      replace IF := IF.below by85
      replace BF := BF.keep by85
      replace RZ := RZ.below by85
      replace ilj := ilj.below by85
      replace bT := bT.trans (by85.mono bT.size)
      replace bo := bo.trans (by85.mono bo.size)
      clear ilj
      replace Vj := Lib.hid Vj
      go_wp2_with fail
      refine hK.out _ _ (hS _ bo) (fun hHeld => ?_)
      clear hK K
      try simp only [Act.put, List.getElem_toArray, List.getElem_cons_succ, List.getElem_cons_zero, List.setIfInBounds_toArray, List.set_cons_zero, List.set_cons_succ]
      refine wpAnyH_take (i := 21) (v := ?_) rfl (by kernel_rfl) (by kernel_rfl) (by kernel_rfl) (fun _ _ _ h => h) (Or.inl ⟨by rfl, ?_⟩) hHeld ?_
      rotate_left
      · (intro w hSw; (try dsimp only at hSw); go_simp)
        all_goals with_reducible rfl
      try simp only [Act.put, List.getElem_toArray, List.getElem_cons_succ, List.getElem_cons_zero, List.setIfInBounds_toArray, List.set_cons_zero, List.set_cons_succ]
      refine wpAnyH_ready (rs := [23]) (by kernel_rfl) (by simp) ?_
      refine AllReadyH.cons rfl (fun K hK => ?_) AllReadyH.nil
      go_simp
      have lj : dj.length ≤ 10 := by have := len_of Qj.out; simp at this; omega
      have hck := Lib.hid (show checkN dj [⟨none, 0, [], ⟨false, none, 0, [], none, 0, []⟩⟩] ⟨0, ⟨false, none, 0, [], none, 0, []⟩, none, 0, [], none, 0, [], none, 0, []⟩ = 2 by
          unfold checkN
          rw [if_pos (by
            have hj1 := len_of Qj.out
            simp at hj1
            have hrb : rowsB dj.length [⟨none, 0, [], ⟨false, none, 0, [], none, 0, []⟩⟩] = false := by
              unfold rowsB rowB
              simp only [List.all_cons, List.all_nil, Bool.and_true]
              rw [decide_eq_false (by show ¬ 0 = dj.length; omega), Bool.false_and]
            rw [hrb, Bool.false_and])])
      go_at_call 10
      refine (check_any (s := ⟨0, ⟨false, none, 0, [], none, 0, []⟩, none, 0, [], none, 0, [], none, 0, []⟩) Lj RZ ⟨few_zero _ _, LD.nil _ _, LD.nil _ _, LD.nil _ _⟩ (by first | (simp; done) | (simp; omega)) (by omega)).mono ?_
      rintro e y86 ⟨rfl, by86⟩
      replace Ip := Ip.below by86
      replace BP := BP.keep by86
      replace BV := BV.keep by86
      replace BQ := BQ.keep by86
      replace IN := IN.below by86
      replace BN := BN.keep by86
      replace IF := IF.below by86
      replace BF := BF.keep by86
      replace RZ := RZ.below by86
      replace Lj := Lj.below by86
      replace bT := bT.trans (by86.mono bT.size)
      replace bo := bo.trans (by86.mono bo.size)
      rw [hck.out]
      clear hck
      go_wp2_with fail
      refine hK.out _ _ (hS _ bo) (fun hHeld => ?_)
      clear hK K
      try simp only [Act.put, List.getElem_toArray, List.getElem_cons_succ, List.getElem_cons_zero, List.setIfInBounds_toArray, List.set_cons_zero, List.set_cons_succ]
      refine wpAnyH_take (i := 24) (v := ?_) rfl (by kernel_rfl) (by kernel_rfl) (by kernel_rfl) (fun _ _ _ h => h) (Or.inl ⟨by rfl, ?_⟩) hHeld ?_
      rotate_left
      · (intro w hSw; (try dsimp only at hSw); go_simp)
        all_goals with_reducible rfl
      try simp only [Act.put, List.getElem_toArray, List.getElem_cons_succ, List.getElem_cons_zero, List.setIfInBounds_toArray, List.set_cons_zero, List.set_cons_succ]
      refine wpAnyH_take (i := 25) (v := ?_) rfl (by kernel_rfl) (by kernel_rfl) (by kernel_rfl) (fun _ _ _ h => h) (Or.inl ⟨by rfl, ?_⟩) hHeld ?_
      rotate_left
      · (intro w hSw; (try dsimp only at hSw); go_simp)
        all_goals with_reducible rfl
      try simp only [Act.put, List.getElem_toArray, List.getElem_cons_succ, List.getElem_cons_zero, List.setIfInBounds_toArray, List.set_cons_zero, List.set_cons_succ]
      refine wpAnyH_take (i := 26) (v := ?_) rfl (by kernel_rfl) (by kernel_rfl) (by kernel_rfl) (fun _ _ _ h => h) (Or.inl ⟨by rfl, ?_⟩) hHeld ?_
      rotate_left
      · (intro w hSw; (try dsimp only at hSw); go_simp)
        all_goals with_reducible rfl
      try simp only [Act.put, List.getElem_toArray, List.getElem_cons_succ, List.getElem_cons_zero, List.setIfInBounds_toArray, List.set_cons_zero, List.set_cons_succ]
      refine wpAnyH_done (by kernel_rfl) ?_ _
      refine NoPanic.normal ?_
      try go_simp
      clear hHeld
      clear hS dS bo
      go_wp2
      go_ret
      exact ⟨rfl, bT⟩
    exact AllReadyH.nil
  exact AllReadyH.nil
end Go.Proofs.Ytlocaleiloiaoaa
