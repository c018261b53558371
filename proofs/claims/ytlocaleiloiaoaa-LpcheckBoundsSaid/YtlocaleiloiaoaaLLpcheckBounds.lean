/- The statement LpcheckBounds of the given program: the law returns true for every input, and writes nothing that was there. The walk is proved over the contracts of the functions it calls. -/
import Derived.Test.YtlocaleiloiaoaaRows
import Derived.Test.YtlocaleiloiaoaaPOpenS
import Derived.Test.YtlocaleiloiaoaaPAwake
import Derived.Test.YtlocaleiloiaoaaPCheck
import Derived.Test.YtlocaleiloiaoaaPRBound
import Derived.Test.YtlocaleiloiaoaaPBound
import Derived.WalkKit
import Derived.ProofKit
import Derived.OpenShut
import Derived.ShutString
import Derived.ChangeOld
import Derived.Below
namespace Go.Proofs.Ytlocaleiloiaoaa.lpcheckBounds
open Go.ChangeShapes Go.WideShapes Go.ChangeAt Go.RowKit
open Plain
open Go.ChangeMaps (open_string shut_string)
set_option linter.unusedVariables false
set_option linter.unusedSimpArgs false

theorem own : ownKnob Try.prog.godebug = none := by kernel_rfl
theorem laidOut : laidOutB Try.prog = true := by kernel_rfl

set_option maxRecDepth 100000 in
set_option maxHeartbeats 2000000 in
theorem walk (p0 : PrD) (A1 : Option Addr) (c1 : Nat) (ds1 : List FrD) (w : World) (w0 : p0.ok w) (w1 : Srow w 3 FrD.cells A1 c1 ds1) (x1 : ∀ f ∈ ds1, f.ok w) :
    Calls Try.prog 6 #[p0.v, .slice A1 ds1.length c1] w fun e w' => e = .returned (.bool true) ∧ Below w.heap.size w w' := by
  have bT := Below.refl w.heap.size w
  obtain ⟨hp⟩ : PLift (p0.ok w) := ⟨w0⟩
  clear w0
  obtain ⟨hl1⟩ : PLift (FOk w A1 c1 ds1) := ⟨⟨w1, x1⟩⟩
  clear w1 x1
  obtain ⟨y1, hy1, by1, ly1, By1⟩ := boxed w #[.slice p0.ga p0.gs.length p0.gc, .slice p0.ra p0.rs.length p0.rc] 25
  replace hp := hp.below by1
  replace hl1 := hl1.below by1
  replace bT := bT.trans (by1.mono bT.size)
  have BP := By1
  clear By1
  have hlg := hp.1.1
  have hlg2 := hp.1.2.1
  have hlr := hp.2.2.1.1
  have hlr2 := hp.2.2.1.2.1
  have z0 := BP.g0
  have z1 := BP.g1
  go_enter Try.func6, Try.ntmps6
  go_wp2_with fail
  refine (few19_any hp.1 hp.2.2.1 fun r hr => (hp.2.2.2 r hr).1).mono ?_
  rintro e y2 ⟨rfl, by2⟩
  replace hp := hp.below by2
  replace hl1 := hl1.below by2
  replace BP := BP.keep by2
  replace bT := bT.trans (by2.mono bT.size)
  clear z0 z1
  have z0 := BP.g0
  have z1 := BP.g1
  rcases hfew : fewB p0.gs p0.rs with _ | _
  · go_wp2_with fail
    refine (awake19_any _).mono ?_
    rintro e wz ⟨rfl, bz⟩
    go_wp2
    go_ret
    exact ⟨rfl, bT.trans (bz.mono bT.size)⟩
  go_wp2_with fail
  refine (short19_any hl1.1).mono ?_
  rintro e y3 ⟨rfl, by3⟩
  replace hp := hp.below by3
  replace hl1 := hl1.below by3
  replace BP := BP.keep by3
  replace bT := bT.trans (by3.mono bT.size)
  clear z0 z1
  have z0 := BP.g0
  have z1 := BP.g1
  rcases hsh1 : shortB ds1 with _ | _
  · go_wp2_with fail
    refine (awake19_any _).mono ?_
    rintro e wz ⟨rfl, bz⟩
    go_wp2
    go_ret
    exact ⟨rfl, bT.trans (bz.mono bT.size)⟩
  obtain ⟨Lg, Rr, l8g, l8r⟩ := few_ld hp hfew
  clear hp
  obtain ⟨L1, l12_1⟩ := hl1.ld hsh1
  clear hl1 hsh1
  obtain ⟨b, hb⟩ : ∃ b, Hid (dualB p0.gs p0.rs ds1 = b) := ⟨_, rfl⟩
  clear hfew
  rcases b with _ | _
  · go_wp2_with fail
    refine (bound_any Lg Rr L1 (by omega)).mono ?_
    rintro e y4 ⟨v1, rfl, hT1, hF1, by4⟩
    replace BP := BP.keep by4
    replace Lg := Lg.below by4
    replace Rr := Rr.below by4
    replace L1 := L1.below by4
    replace bT := bT.trans (by4.mono bT.size)
    clear z0 z1
    have z0 := BP.g0
    have z1 := BP.g1
    rw [hb.out] at hT1 hF1
    rw [hb.out]
    obtain rfl := hF1 rfl
    clear hT1 hF1
    obtain ⟨y5, hy5, by5, ly5, By5⟩ := boxed y4 #[.bool false, .slice none 0 0, .slice none 0 0] 29
    replace BP := BP.keep by5
    replace Lg := Lg.below by5
    replace Rr := Rr.below by5
    replace L1 := L1.below by5
    replace bT := bT.trans (by5.mono bT.size)
    have BA := By5
    clear By5
    have sp0 := BA.f0
    have sp1 := BA.f1
    have sp2 := BA.f2
    have sq0 := BA.free 0
    have sq1 := BA.free 1
    have sq2 := BA.free 2
    have ss0 := BA.same (i := 0) (u := .bool false) rfl
    have ss1 := BA.same (i := 1) (u := .slice none 0 0) rfl
    have ss2 := BA.same (i := 2) (u := .slice none 0 0) rfl
    clear z0 z1
    have z0 := BP.g0
    have z1 := BP.g1
    go_wp2_with fail
    refine (refBound_any Lg Rr L1 (by omega)).mono ?_
    rintro e y6 ⟨v2, rfl, hT2, hF2, by6⟩
    replace BP := BP.keep by6
    replace Lg := Lg.below by6
    replace Rr := Rr.below by6
    replace L1 := L1.below by6
    replace BA := BA.keep by6
    replace bT := bT.trans (by6.mono bT.size)
    clear z0 z1
    have z0 := BP.g0
    have z1 := BP.g1
    rw [hb.out] at hT2 hF2
    rw [hb.out]
    obtain rfl := hF2 rfl
    clear hT2 hF2
    clear sp0 sp1 sp2 sq0 sq1 sq2 ss0 ss1 ss2
    obtain ⟨y7, hy7, by7, ly7, By7⟩ := boxed y6 #[.bool false, .slice none 0 0, .slice none 0 0] 29
    replace BP := BP.keep by7
    replace Lg := Lg.below by7
    replace Rr := Rr.below by7
    replace L1 := L1.below by7
    replace BA := BA.keep by7
    replace bT := bT.trans (by7.mono bT.size)
    have BC := By7
    clear By7
    have sp0 := BC.f0
    have sp1 := BC.f1
    have sp2 := BC.f2
    have sq0 := BC.free 0
    have sq1 := BC.free 1
    have sq2 := BC.free 2
    have ss0 := BC.same (i := 0) (u := .bool false) rfl
    have ss1 := BC.same (i := 1) (u := .slice none 0 0) rfl
    have ss2 := BC.same (i := 2) (u := .slice none 0 0) rfl
    have a0 := BA.f0
    have a1_ := BA.f1
    have a2_ := BA.f2
    have k0 := BC.f0
    have k1 := BC.f1
    have k2 := BC.f2
    go_wp2_with fail
    refine (sameFrac_any (n1 := false) (n2 := false) (a1 := []) (b1 := []) (a2 := []) (b2 := []) (Nv.nil _) (Nv.nil _) (Nv.nil _) (Nv.nil _)).mono ?_
    rintro e y8 ⟨rfl, by8⟩
    replace BP := BP.keep by8
    replace Lg := Lg.below by8
    replace Rr := Rr.below by8
    replace L1 := L1.below by8
    replace BA := BA.keep by8
    replace BC := BC.keep by8
    replace bT := bT.trans (by8.mono bT.size)
    rw [show sameF false [] [] false [] [] = true from rfl]
    go_wp2_with fail
    refine (awake19_any _).mono ?_
    rintro e y9 ⟨rfl, by9⟩
    replace BP := BP.keep by9
    replace Lg := Lg.below by9
    replace Rr := Rr.below by9
    replace L1 := L1.below by9
    replace BA := BA.keep by9
    replace BC := BC.keep by9
    replace bT := bT.trans (by9.mono bT.size)
    go_wp2
    go_ret
    exact ⟨rfl, bT⟩
  · go_wp2_with fail
    refine (bound_any Lg Rr L1 (by omega)).mono ?_
    rintro e y10 ⟨v1, rfl, hT1, hF1, by10⟩
    replace BP := BP.keep by10
    replace Lg := Lg.below by10
    replace Rr := Rr.below by10
    replace L1 := L1.below by10
    replace bT := bT.trans (by10.mono bT.size)
    clear z0 z1
    have z0 := BP.g0
    have z1 := BP.g1
    rw [hb.out] at hT1 hF1
    rw [hb.out]
    have fv1 := hT1 rfl
    clear hT1 hF1
    obtain ⟨n1, X1, a1, l1, Y1, e1, m1, rfl, -, -, -⟩ := id fv1
    obtain ⟨y11, hy11, by11, ly11, By11⟩ := boxed y10 #[.bool n1, .slice X1 l1.length a1, .slice Y1 m1.length e1] 29
    replace BP := BP.keep by11
    replace Lg := Lg.below by11
    replace Rr := Rr.below by11
    replace L1 := L1.below by11
    replace fv1 := fv1.below by11
    replace bT := bT.trans (by11.mono bT.size)
    have BA := By11
    clear By11
    clear z0 z1
    have z0 := BP.g0
    have z1 := BP.g1
    go_wp2_with fail
    refine (refBound_any Lg Rr L1 (by omega)).mono ?_
    rintro e y12 ⟨v2, rfl, hT2, hF2, by12⟩
    replace BP := BP.keep by12
    replace Lg := Lg.below by12
    replace Rr := Rr.below by12
    replace L1 := L1.below by12
    replace fv1 := fv1.below by12
    replace BA := BA.keep by12
    replace bT := bT.trans (by12.mono bT.size)
    clear z0 z1
    have z0 := BP.g0
    have z1 := BP.g1
    rw [hb.out] at hT2 hF2
    rw [hb.out]
    have fv2 := hT2 rfl
    clear hT2 hF2
    obtain ⟨n2, X2, a2, l2, Y2, e2, m2, rfl, -, -, -⟩ := id fv2
    obtain ⟨y13, hy13, by13, ly13, By13⟩ := boxed y12 #[.bool n2, .slice X2 l2.length a2, .slice Y2 m2.length e2] 29
    replace BP := BP.keep by13
    replace Lg := Lg.below by13
    replace Rr := Rr.below by13
    replace L1 := L1.below by13
    replace fv1 := fv1.below by13
    replace BA := BA.keep by13
    replace fv2 := fv2.below by13
    replace bT := bT.trans (by13.mono bT.size)
    have BC := By13
    clear By13
    have a0 := BA.f0
    have a1_ := BA.f1
    have a2_ := BA.f2
    have k0 := BC.f0
    have k1 := BC.f1
    have k2 := BC.f2
    obtain ⟨q, hq⟩ : ∃ q, Hid (sumR (bnds p0.rs ds1) = q) := ⟨_, rfl⟩
    rw [hq.out] at fv1 fv2
    go_wp2_with fail
    refine (sameFracQ_any fv1 fv2).mono ?_
    rintro e y14 ⟨rfl, by14⟩
    replace BP := BP.keep by14
    replace Lg := Lg.below by14
    replace Rr := Rr.below by14
    replace L1 := L1.below by14
    replace fv1 := fv1.below by14
    replace BA := BA.keep by14
    replace fv2 := fv2.below by14
    replace BC := BC.keep by14
    replace bT := bT.trans (by14.mono bT.size)
    rw [decide_eq_true (rfl : q = q)]
    go_wp2_with fail
    refine (awake19_any _).mono ?_
    rintro e y15 ⟨rfl, by15⟩
    replace BP := BP.keep by15
    replace Lg := Lg.below by15
    replace Rr := Rr.below by15
    replace L1 := L1.below by15
    replace fv1 := fv1.below by15
    replace BA := BA.keep by15
    replace fv2 := fv2.below by15
    replace BC := BC.keep by15
    replace bT := bT.trans (by15.mono bT.size)
    go_wp2
    go_ret
    exact ⟨rfl, bT⟩

/-! ### THE ROW's STEP: WRITTEN OUT: LEAVE IT -/
set_option maxRecDepth 100000 in
theorem lifted (os : Os) (started : os.Started) (H : Type) (enc : TypeId × Value → H) :
    ReturnsInHanded {} Try.checked os 6 .any (Rows.lpcheckBoundsSpec.pre6 enc Try.prog Try.f6 Rows.lpcheckBoundsRow.domain false) (Rows.lpcheckBoundsSpec.post enc Try.prog Try.f6 false true false false) := by
  refine returnsInHanded_of_change (C := Try.checked) own started (by kernel_rfl) Try.func6
    (ChangeSpec.witness6 (enc := enc) (C := Try.checked) false ⟨#[], #[.agg #[.slice none 0 0, .slice none 0 0], .slice none 0 0], []⟩ 8 (by kernel_rfl) (by kernel_rfl) (by kernel_rfl) (by kernel_rfl)) ?_
  intro W base args ds gs before hval0 hW hcnd _
  have hval : ∀ (j : Nat) t v, Try.f6.params[j]? = some t → args[j]? = some v → Value.okWide Try.prog W .any base t v := hval0
  have hW' := hW
  obtain ⟨p, q, hA0, hV, rfl, hfz, hnd⟩ := hW
  have hA : DataW.TrodAll enc Try.prog W 0 (fun _ => true) true Try.f6.params.toList args.toList ds p := hA0
  rw [Try.params6] at hA hval
  obtain ⟨v0, vs0, d0, ds0, p0, q0, hargs, rfl, rfl, h0, r0⟩ := trodAll_cons hA
  obtain ⟨v1, vs1, d1, ds1, p1, q1, rfl, rfl, rfl, h1, r1⟩ := trodAll_cons r0
  obtain ⟨rfl, rfl, rfl⟩ := trodAll_nil r1
  obtain rfl : args = #[v0, v1] := by cases args; simp_all
  obtain ⟨rfl, rfl⟩ := trodVars_none hV
  have k0 := h0
  have lt0 : ∀ x ∈ p0, x.block < W.heap.size := by obtain ⟨m, hm⟩ := k0; exact DataW.trod_lt m _ _ _ hm
  obtain ⟨p0, rfl, w0⟩ := open_prog (hval 0 25 v0 rfl rfl) h0
  have k1 := h1
  have lt1 : ∀ x ∈ p1, x.block < W.heap.size := by obtain ⟨m, hm⟩ := k1; exact DataW.trod_lt m _ _ _ hm
  obtain ⟨A1, c1, ds1, rfl, w1, x1⟩ := open_fracs (hval 1 22 v1 rfl rfl) h1
  clear hA0 hval0
  refine (walk p0 A1 c1 ds1 W w0 w1 x1).mono fun e W' ⟨he, bel⟩ => ?_
  subst he
  exact ⟨_, rfl, _, _, _, [], _, [], hW', trodAll_mk1 (shut_bool Try.underlying4 _), (trodAll_cons_mk (Below.trod laidOut (by kernel_rfl) (of_decide_eq_true (by kernel_rfl)) k0 bel lt0) (trodAll_cons_mk (Below.trod laidOut (by kernel_rfl) (of_decide_eq_true (by kernel_rfl)) k1 bel lt1) trodAll_mk0)), rfl, bel.frame _, fun h => by cases h⟩

theorem over : Rows.lpcheckBoundsRow.holds Try.pinned (OpenSpec.ofChange Rows.lpcheckBoundsSpec) :=
  OpenClaim.holds_of_wide 6 Try.f6 rfl rfl rfl rfl rfl rfl rfl ⟨rfl, rfl, rfl, rfl, rfl⟩ rfl rfl rfl rfl rfl (by kernel_rfl) Try.func6 (by kernel_rfl)
    (of_decide_eq_true (by kernel_rfl)) (by unfold Func.isWrapper; first | (rw [if_pos (by decide +kernel)]; kernel_rfl) | (rw [if_neg (by decide +kernel)]; exact ⟨rfl, rfl⟩))
    (fun os started H enc _ => lifted os started H enc)

/-- ████ THE STATEMENT ████ -/
theorem proved : Rows.LpcheckBoundsSaid := over
#print axioms proved
end Go.Proofs.Ytlocaleiloiaoaa.lpcheckBounds
