/- The statement FractionRounds of the given program: the law returns true for every input, and writes nothing that was there. The walk is proved over the contracts of the functions it calls. -/
import Derived.Test.YtghpcimeobmonaaRows
import Derived.Test.YtghpcimeobmonaaLShort
import Derived.Test.YtghpcimeobmonaaLAwake
import Derived.Test.YtghpcimeobmonaaGRound
import Derived.WalkKit
import Derived.ProofKit
import Derived.OpenShut
import Derived.ShutString
import Derived.ChangeOld
import Derived.Below
namespace Go.Proofs.Ytghpcimeobmonaa.fractionRounds
open Go.ChangeShapes Go.WideShapes Go.ChangeAt Go.RowKit
open Plain
open Go.ChangeMaps (open_string shut_string)
set_option linter.unusedVariables false
set_option linter.unusedSimpArgs false

theorem own : ownKnob Try.prog.godebug = none := by kernel_rfl
theorem laidOut : laidOutB Try.prog = true := by kernel_rfl

set_option maxRecDepth 100000 in
set_option maxHeartbeats 2000000 in
theorem walk (f0 : FrD) (w : World) (w0 : f0.ok w) :
    Calls Try.prog 5 #[fracV f0.neg f0.a f0.la.length f0.ca f0.b f0.lb.length f0.cb] w fun e w' => e = .returned (.bool true) ∧ Below w.heap.size w w' := by
  have hf := w0
  obtain ⟨wb, hwb, bwb, hltb, hBb⟩ := boxed w #[.bool f0.neg, .slice f0.a f0.la.length f0.ca, .slice f0.b f0.lb.length f0.cb] 25
  have k0 := hBb.f0
  have k1 := hBb.f1
  have k2 := hBb.f2
  by_cases hs : shB f0 = true
  · obtain ⟨fv, fit⟩ := shB_fv (hf.below bwb) hs
    have hs' := Lib.hid hs
    obtain ⟨z1, hz1⟩ : ∃ z, Hid ((if inR (decide (f0.q.num < 0)) (rndN false f0.q) = true then sg (decide (f0.q.num < 0)) (rndN false f0.q) else 0) = z) := ⟨_, rfl⟩
    obtain ⟨o1, ho1⟩ : ∃ z, Hid (inR (decide (f0.q.num < 0)) (rndN false f0.q) = z) := ⟨_, rfl⟩
    obtain ⟨z2, hz2⟩ : ∃ z, Hid ((if inR (decide (f0.q.num < 0)) (rndN true f0.q) = true then sg (decide (f0.q.num < 0)) (rndN true f0.q) else 0) = z) := ⟨_, rfl⟩
    obtain ⟨o2, ho2⟩ : ∃ z, Hid (inR (decide (f0.q.num < 0)) (rndN true f0.q) = z) := ⟨_, rfl⟩
    clear hs w0
    have fo := hf.below bwb
    go_enter Try.func5, Try.ntmps5
    go_wp2_with fail
    refine (short_any f0 _ fo).mono ?_
    rintro en w1 ⟨rfl, b1⟩
    rw [hs'.out]
    have B1 := hBb.keep b1
    have fv1 := fv.below b1
    have b01 := bwb.trans (b1.mono (Nat.le_of_lt hltb))
    clear k0 k1 k2 fv fo
    have k0 := B1.f0
    have k1 := B1.f1
    have k2 := B1.f2
    go_wp2_with fail
    refine (floorF_any fv1 fit (by omega)).mono ?_
    rintro en w2 ⟨rfl, b2⟩
    rw [hz1.out, ho1.out]
    have B2 := B1.keep b2
    have fv2 := fv1.below b2
    have b02 := b01.trans (b2.mono b01.size)
    clear k0 k1 k2 fv1
    have k0 := B2.f0
    have k1 := B2.f1
    have k2 := B2.f2
    go_wp2_with fail
    refine (refFloorF_any fv2 fit (by omega)).mono ?_
    rintro en w3 ⟨rfl, b3⟩
    rw [hz1.out, ho1.out]
    have B3 := B2.keep b3
    have fv3 := fv2.below b3
    have b03 := b02.trans (b3.mono b02.size)
    clear k0 k1 k2 fv2
    have k0 := B3.f0
    have k1 := B3.f1
    have k2 := B3.f2
    go_wp2_with fail
    refine (ceilF_any fv3 fit (by omega)).mono ?_
    rintro en w4 ⟨rfl, b4⟩
    rw [hz2.out, ho2.out]
    have B4 := B3.keep b4
    have fv4 := fv3.below b4
    have b04 := b03.trans (b4.mono b03.size)
    clear k0 k1 k2 fv3
    have k0 := B4.f0
    have k1 := B4.f1
    have k2 := B4.f2
    go_wp2_with fail
    refine (refCeilF_any fv4 fit (by omega)).mono ?_
    rintro en w5 ⟨rfl, b5⟩
    rw [hz2.out, ho2.out]
    have b05 := b04.trans (b5.mono b04.size)
    go_wp2_with fail
    refine (awake_any _).mono ?_
    rintro en wz ⟨rfl, bz⟩
    go_wp2
    go_ret
    exact ⟨rfl, b05.trans (bz.mono b05.size)⟩
  · have hs' := Lib.hid (eq_false_of_ne_true hs)
    clear hs w0
    have fo := hf.below bwb
    go_enter Try.func5, Try.ntmps5
    go_wp2_with fail
    refine (short_any f0 _ fo).mono ?_
    rintro en w1 ⟨rfl, b1⟩
    rw [hs'.out]
    have b01 := bwb.trans (b1.mono (Nat.le_of_lt hltb))
    go_wp2_with fail
    refine (awake_any _).mono ?_
    rintro en wz ⟨rfl, bz⟩
    go_wp2
    go_ret
    exact ⟨rfl, b01.trans (bz.mono b01.size)⟩

/-! ### THE ROW's STEP: WRITTEN OUT: LEAVE IT -/
set_option maxRecDepth 100000 in
theorem lifted (os : Os) (started : os.Started) (H : Type) (enc : TypeId × Value → H) :
    ReturnsInHanded {} Try.checked os 5 .any (Rows.fractionRoundsSpec.pre6 enc Try.prog Try.f5 Rows.fractionRoundsRow.domain false) (Rows.fractionRoundsSpec.post enc Try.prog Try.f5 false true false false) := by
  refine returnsInHanded_of_change (C := Try.checked) own started (by kernel_rfl) Try.func5
    (ChangeSpec.witness6 (enc := enc) (C := Try.checked) false ⟨#[], #[.agg #[.bool false, .slice none 0 0, .slice none 0 0]], []⟩ 8 (by kernel_rfl) (by kernel_rfl) (by kernel_rfl) (by kernel_rfl)) ?_
  intro W base args ds gs before hval0 hW hcnd _
  have hval : ∀ (j : Nat) t v, Try.f5.params[j]? = some t → args[j]? = some v → Value.okWide Try.prog W .any base t v := hval0
  have hW' := hW
  obtain ⟨p, q, hA0, hV, rfl, hfz, hnd⟩ := hW
  have hA : DataW.TrodAll enc Try.prog W 0 (fun _ => true) true Try.f5.params.toList args.toList ds p := hA0
  rw [Try.params5] at hA hval
  obtain ⟨v0, vs0, d0, ds0, p0, q0, hargs, rfl, rfl, h0, r0⟩ := trodAll_cons hA
  obtain ⟨rfl, rfl, rfl⟩ := trodAll_nil r0
  obtain rfl : args = #[v0] := by cases args; simp_all
  obtain ⟨rfl, rfl⟩ := trodVars_none hV
  have k0 := h0
  have lt0 : ∀ x ∈ p0, x.block < W.heap.size := by obtain ⟨m, hm⟩ := k0; exact DataW.trod_lt m _ _ _ hm
  obtain ⟨f0, rfl, w0⟩ := open_frac (hval 0 25 v0 rfl rfl) h0
  clear hA0 hval0
  refine (walk f0 W w0).mono fun e W' ⟨he, bel⟩ => ?_
  subst he
  exact ⟨_, rfl, _, _, _, [], _, [], hW', trodAll_mk1 (shut_bool Try.underlying4 _), (trodAll_cons_mk (Below.trod laidOut (by kernel_rfl) (of_decide_eq_true (by kernel_rfl)) k0 bel lt0) trodAll_mk0), rfl, bel.frame _, fun h => by cases h⟩

theorem over : Rows.fractionRoundsRow.holds Try.pinned (OpenSpec.ofChange Rows.fractionRoundsSpec) :=
  OpenClaim.holds_of_wide 5 Try.f5 rfl rfl rfl rfl rfl rfl rfl ⟨rfl, rfl, rfl, rfl, rfl⟩ rfl rfl rfl rfl rfl (by kernel_rfl) Try.func5 (by kernel_rfl)
    (of_decide_eq_true (by kernel_rfl)) (by unfold Func.isWrapper; first | (rw [if_pos (by decide +kernel)]; kernel_rfl) | (rw [if_neg (by decide +kernel)]; exact ⟨rfl, rfl⟩))
    (fun os started H enc _ => lifted os started H enc)

/-- ████ THE STATEMENT ████ -/
theorem proved : Rows.FractionRoundsSaid := over
#print axioms proved
end Go.Proofs.Ytghpcimeobmonaa.fractionRounds
