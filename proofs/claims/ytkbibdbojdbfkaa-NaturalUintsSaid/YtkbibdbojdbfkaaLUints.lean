/- The statement NaturalUints of the given program: the law returns true for every input, and writes nothing that was there. The walk is proved over the contracts of the functions it calls. -/
import Derived.Test.YtkbibdbojdbfkaaRows
import Derived.Test.YtkbibdbojdbfkaaLRow
import Derived.WalkKit
import Derived.ChangeOld
import Derived.Below
import Derived.ProofKit
import Derived.OpenShut
import Derived.ShutString
namespace Go.Proofs.Ytkbibdbojdbfkaa.naturalUints
open Go.ChangeShapes Go.WideShapes Go.ChangeAt Go.RowKit
open Plain
open Go.ChangeMaps (open_string shut_string)
set_option linter.unusedVariables false
set_option linter.unusedSimpArgs false      -- a walk need not use every 'w<i>' (that an integer argument fits its kind)

theorem own : ownKnob Try.prog.godebug = none := by kernel_rfl

theorem u64_nat {a : Int} (h : (Lit.int .u64 a).wf = true) : ∃ n : Nat, a = (n : Int) ∧ n < pw 2 := by
  simp [Lit.wf, IntKind.min, IntKind.max, IntKind.bits, IntKind.signed] at h
  exact ⟨a.toNat, by omega, by simp only [pw]; omega⟩
theorem three (x y : Nat) : (decide (x < y) = true ∧ decide (y < x) = false ∧ Hid (cmpI x y = -1)) ∨ (decide (x < y) = false ∧ decide (y < x) = false ∧ Hid (cmpI x y = 0)) ∨ (decide (x < y) = false ∧ decide (y < x) = true ∧ Hid (cmpI x y = 1)) := by
  rcases Nat.lt_trichotomy x y with h | h | h
  · exact .inl ⟨decide_eq_true h, decide_eq_false (by omega), cmpI_lt h⟩
  · exact .inr (.inl ⟨decide_eq_false (by omega), decide_eq_false (by omega), cmpI_eq h⟩)
  · exact .inr (.inr ⟨decide_eq_false (by omega), decide_eq_true h, cmpI_gt h⟩)
theorem walk (a0 : Int) (a1 : Int) (w0 : (Lit.int .u64 a0).wf = true) (w1 : (Lit.int .u64 a1).wf = true) (w : World) :
    Calls Try.prog 10 #[.int .u64 a0, .int .u64 a1] w fun e w' => e = .returned (.bool true) ∧ Below w.heap.size w w' := by
  obtain ⟨x, rfl, hx⟩ := u64_nat w0
  obtain ⟨y, rfl, hy⟩ := u64_nat w1
  clear w0 w1
  have ux := Lib.hid (show uintOf x = x by unfold uintOf; rw [if_pos hx])
  have ux2 := Lib.hid (show isUint x = true by unfold isUint; rw [decide_eq_true hx])
  go_enter Try.func10, Try.ntmps10
  go_wp2_with fail
  refine (fromUint_any x _ hx).mono ?_
  rintro e w1 ⟨A1, c1, l1, rfl, n1, i1, h1, b1⟩
  have i1' := Lib.hid i1
  clear i1 h1
  go_wp2_with fail
  refine (fromUint_any y _ hy).mono ?_
  rintro e w2 ⟨A2, c2, l2, rfl, n2, i2, h2, b2⟩
  have i2' := Lib.hid i2
  have b12 := b1.trans (b2.mono b1.size)
  have n12 := n1.below b2
  clear i2 h2
  go_wp2_with fail
  refine (uint_any n12).mono ?_
  rintro e w3 ⟨rfl, b3⟩
  have b13 := b12.trans (b3.mono b12.size)
  have n13 := n12.below b3
  have n23 := n2.below b3
  rw [i1'.out.val, ux.out, ux2.out]
  have hxx : (((x : Nat) : Int) == ((x : Nat) : Int)) = true := beq_self_eq_true _
  rcases three x y with ⟨d1, d2, hc⟩ | ⟨d1, d2, hc⟩ | ⟨d1, d2, hc⟩
  all_goals
    go_wp2_with fail
    refine (refFromUint_any x _ hx).mono ?_
    rintro e w4 ⟨A4, c4, l4, rfl, n4, i4, h4, b4⟩
    have e14 := Lib.hid (decide_eq_true (i1'.out.uniq i4))
    have b14 := b13.trans (b4.mono b13.size)
    clear i4 h4
    go_wp2_with fail
    refine (same_any (n13.below b4) n4).mono ?_
    rintro e w5 ⟨rfl, b5⟩
    have b15 := b14.trans (b5.mono b14.size)
    rw [e14.out]
    go_wp2_with fail
    refine (cmp_any ((n13.below b4).below b5) ((n23.below b4).below b5)).mono ?_
    rintro e w6 ⟨rfl, b6⟩
    have b16 := b15.trans (b6.mono b15.size)
    rw [i1'.out.val, i2'.out.val, hc.out]
    go_wp2_with fail
    refine (lives_any _).mono ?_
    rintro e w7 ⟨rfl, b7⟩
    have b17 := b16.trans (b7.mono b16.size)
    go_wp2
    go_ret
    exact ⟨rfl, b17⟩
  -- go_enter Try.func10, Try.ntmps10
  -- go_wp2
  -- go_ret
  -- exact ⟨rfl, by repeat (first | exact Grown.refl _ | apply Grown.drew | apply Grown.alloc)⟩

/-! ### THE ROW's STEP: WRITTEN OUT: LEAVE IT -/
set_option maxRecDepth 100000 in
theorem lifted (os : Os) (started : os.Started) (H : Type) (enc : TypeId × Value → H) :
    ReturnsInHanded {} Try.checked os 10 .any (Rows.naturalUintsSpec.pre6 enc Try.prog Try.f10 Rows.naturalUintsRow.domain false) (Rows.naturalUintsSpec.post enc Try.prog Try.f10 false true false false) := by
  refine returnsInHanded_of_change (C := Try.checked) own started (by kernel_rfl) Try.func10
    (ChangeSpec.witness6 (enc := enc) (C := Try.checked) false ⟨#[], #[.int .u64 0, .int .u64 0], []⟩ 8 (by kernel_rfl) (by kernel_rfl) (by kernel_rfl) (by kernel_rfl)) ?_
  intro W base args ds gs before hval0 hW hcnd _
  have hval : ∀ (j : Nat) t v, Try.f10.params[j]? = some t → args[j]? = some v → Value.okWide Try.prog W .any base t v := hval0
  have hW' := hW
  obtain ⟨p, q, hA0, hV, rfl, hfz, hnd⟩ := hW
  have hA : DataW.TrodAll enc Try.prog W 0 (fun _ => true) true Try.f10.params.toList args.toList ds p := hA0
  rw [Try.params10] at hA hval
  obtain ⟨v0, vs0, d0, ds0, p0, q0, hargs, rfl, rfl, h0, r0⟩ := trodAll_cons hA
  obtain ⟨v1, vs1, d1, ds1, p1, q1, rfl, rfl, rfl, h1, r1⟩ := trodAll_cons r0
  obtain ⟨rfl, rfl, rfl⟩ := trodAll_nil r1
  obtain rfl : args = #[v0, v1] := by cases args; simp_all
  obtain ⟨rfl, rfl⟩ := trodVars_none hV
  obtain ⟨a0, rfl, rfl, rfl, w0⟩ := open_int Try.underlying22 (hval 0 22 v0 rfl rfl) h0
  obtain ⟨a1, rfl, rfl, rfl, w1⟩ := open_int Try.underlying22 (hval 1 22 v1 rfl rfl) h1
  clear hA0 hval0
  refine (walk a0 a1 w0 w1 W).mono fun e W' ⟨he, hg⟩ => ?_
  subst he
  exact ⟨_, rfl, _, _, _, [], _, [], hW', trodAll_mk1 (shut_bool Try.underlying4 _), (trodAll_cons_mk (shut_int Try.underlying22 w0) (trodAll_cons_mk (shut_int Try.underlying22 w1) trodAll_mk0)), rfl, hg.frame _, fun h => by cases h⟩

theorem over : Rows.naturalUintsRow.holds Try.pinned (OpenSpec.ofChange Rows.naturalUintsSpec) :=
  OpenClaim.holds_of_wide 10 Try.f10 rfl rfl rfl rfl rfl rfl rfl ⟨rfl, rfl, rfl, rfl, rfl⟩ rfl rfl rfl rfl rfl (by kernel_rfl) Try.func10 (by kernel_rfl)
    (of_decide_eq_true (by kernel_rfl)) (by unfold Func.isWrapper; first | (rw [if_pos (by decide +kernel)]; kernel_rfl) | (rw [if_neg (by decide +kernel)]; exact ⟨rfl, rfl⟩))
    (fun os started H enc _ => lifted os started H enc)

/-- ████ THE STATEMENT ████ -/
theorem proved : Rows.NaturalUintsSaid :=
  over
#print axioms proved
end Go.Proofs.Ytkbibdbojdbfkaa.naturalUints
