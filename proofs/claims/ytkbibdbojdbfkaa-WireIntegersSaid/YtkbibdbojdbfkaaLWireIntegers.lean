/- The statement WireIntegers of the given program: the law returns true for every input, and writes nothing that was there. The walk is proved over the contracts of the functions it calls. -/
import Derived.Test.YtkbibdbojdbfkaaRows
import Derived.Test.YtkbibdbojdbfkaaVLaw
import Derived.WalkKit
import Derived.ChangeOld
import Derived.Below
import Derived.ProofKit
import Derived.OpenShut
import Derived.ShutString
namespace Go.Proofs.Ytkbibdbojdbfkaa.wireIntegers
open Go.ChangeShapes Go.WideShapes Go.ChangeAt Go.RowKit
open Plain
open Go.ChangeMaps (open_string shut_string)
set_option linter.unusedVariables false
set_option linter.unusedSimpArgs false      -- a walk need not use every 'w<i>' (that an integer argument fits its kind)

theorem own : ownKnob Try.prog.godebug = none := by kernel_rfl

theorem walk (a0 : Int) (a1 : Int) (w0 : (Lit.int .u64 a0).wf = true) (w1 : (Lit.int .i64 a1).wf = true) (w : World) :
    Calls Try.prog 3 #[.int .u64 a0, .int .i64 a1] w fun e w' => e = .returned (.bool true) ∧ Below w.heap.size w w' := by
  obtain ⟨n, rfl, hn⟩ : ∃ n : Nat, a0 = (n : Int) ∧ n < 18446744073709551616 := by
    simp [Lit.wf, IntKind.min, IntKind.max, IntKind.signed, IntKind.bits] at w0
    exact ⟨a0.toNat, by omega, by omega⟩
  obtain ⟨h1, h2⟩ : -9223372036854775808 ≤ a1 ∧ a1 ≤ 9223372036854775807 := by
    simp [Lit.wf, IntKind.min, IntKind.max, IntKind.signed, IntKind.bits] at w1
    omega
  have hz := zig_lt h1 h2
  obtain ⟨s1, hs1⟩ : ∃ s, Hid (strOf (leb n) = s) := ⟨_, rfl⟩
  obtain ⟨s2, hs2⟩ : ∃ s, Hid (strOf (leb (zig a1)) = s) := ⟨_, rfl⟩
  have z1 : s1.size ≤ 10 := by rw [← hs1.out, strOf_size]; exact leb_len10 hn
  have z2 : s2.size ≤ 10 := by rw [← hs2.out, strOf_size]; exact leb_len10 hz
  have hb := Lib.hid (show bytes (s1 ++ s2) = leb n ++ (leb (zig a1) ++ []) by rw [bytes_append, ← hs1.out, ← hs2.out, bytes_leb, bytes_leb, List.append_nil])
  have r1 := Lib.hid (ui_leb (m := MU) (leb (zig a1) ++ []) hn (by unfold MU; omega))
  have r2 := Lib.hid (ui_leb (m := MU) [] hz (by unfold MU; omega))
  have hzz := Lib.hid (zag_zig a1)
  have hzs : (s1 ++ s2).size ≤ 1000000 := by rw [ByteArray.size_append]; omega
  clear w0 w1
  go_enter Try.func3, Try.ntmps3
  go_wp2_with fail
  refine (wUint_any n _ hn).mono ?_
  rintro e w1 ⟨rfl, b1⟩
  rw [hs1.out]
  go_wp2_with fail
  refine (wInt_any a1 _ h1 h2).mono ?_
  rintro e w2 ⟨rfl, b2⟩
  rw [hs2.out]
  have b12 := b1.trans (b2.mono b1.size)
  clear b1 b2
  go_wp2_with fail
  refine (refUintW_val n _ _ rfl hn).mono ?_
  rintro e w3 ⟨rfl, b3⟩
  rw [hs1.out]
  go_wp2_with fail
  refine (refIntW_any a1 _ h1 h2).mono ?_
  rintro e w4 ⟨rfl, b4⟩
  rw [hs2.out]
  have b13 := b12.trans (b3.mono b12.size)
  have b14 := b13.trans (b4.mono b13.size)
  clear b12 b3 b4 b13
  go_wp2_with fail
  refine (newR_any (s1 ++ s2) _ hzs).mono ?_
  rintro e w5 ⟨rfl, k5, b5⟩
  rw [hb.out] at k5
  have o5 := b14.trans (b5.mono b14.size)
  have hg : w.heap.size ≤ w4.heap.size := b14.size
  obtain ⟨g, hgg⟩ : ∃ g, w4.heap.size = g := ⟨_, rfl⟩
  rw [hgg] at k5 hg ⊢
  clear b5 b14 hgg
  go_wp2_with fail
  refine (readUint_any MU (by decide) k5).mono ?_
  rintro e w6 ⟨rfl, ⟨l6, k6, hl6⟩, q6⟩
  rw [r1.out.2.1]
  rw [r1.out.1] at k6 hl6
  have hl6' := hl6 rfl
  rw [r1.out.2.2] at hl6'
  subst hl6'
  have o6 := q6.to_below o5 hg o5.size
  clear hl6 o5 q6
  go_wp2_with fail
  refine (readInt_any k6).mono ?_
  rintro e w7 ⟨rfl, ⟨l7, k7, hl7⟩, q7⟩
  rw [r2.out.2.1, hzz.out]
  rw [r2.out.1] at k7 hl7
  have hl7' := hl7 rfl
  rw [r2.out.2.2] at hl7'
  subst hl7'
  have o7 := q7.to_below o6 hg o6.size
  clear hl7 o6 q7
  go_wp2_with fail
  refine (end_any k7).mono ?_
  rintro e w8 ⟨rfl, k8, q8⟩
  rw [n1]
  have o8 := q8.to_below o7 hg o7.size
  clear o7 q8
  go_wp2_with fail
  refine (livesW_any _).mono ?_
  rintro e w9 ⟨rfl, b9⟩
  go_wp2
  go_ret
  exact ⟨rfl, o8.trans (b9.mono o8.size)⟩
  -- go_enter Try.func3, Try.ntmps3
  -- go_wp2
  -- go_ret
  -- exact ⟨rfl, by repeat (first | exact Grown.refl _ | apply Grown.drew | apply Grown.alloc)⟩

/-! ### THE ROW's STEP: WRITTEN OUT: LEAVE IT -/
set_option maxRecDepth 100000 in
theorem lifted (os : Os) (started : os.Started) (H : Type) (enc : TypeId × Value → H) :
    ReturnsInHanded {} Try.checked os 3 .any (Rows.wireIntegersSpec.pre6 enc Try.prog Try.f3 Rows.wireIntegersRow.domain false) (Rows.wireIntegersSpec.post enc Try.prog Try.f3 false true false false) := by
  refine returnsInHanded_of_change (C := Try.checked) own started (by kernel_rfl) Try.func3
    (ChangeSpec.witness6 (enc := enc) (C := Try.checked) false ⟨#[], #[.int .u64 0, .int .i64 0], []⟩ 8 (by kernel_rfl) (by kernel_rfl) (by kernel_rfl) (by kernel_rfl)) ?_
  intro W base args ds gs before hval0 hW hcnd _
  have hval : ∀ (j : Nat) t v, Try.f3.params[j]? = some t → args[j]? = some v → Value.okWide Try.prog W .any base t v := hval0
  have hW' := hW
  obtain ⟨p, q, hA0, hV, rfl, hfz, hnd⟩ := hW
  have hA : DataW.TrodAll enc Try.prog W 0 (fun _ => true) true Try.f3.params.toList args.toList ds p := hA0
  rw [Try.params3] at hA hval
  obtain ⟨v0, vs0, d0, ds0, p0, q0, hargs, rfl, rfl, h0, r0⟩ := trodAll_cons hA
  obtain ⟨v1, vs1, d1, ds1, p1, q1, rfl, rfl, rfl, h1, r1⟩ := trodAll_cons r0
  obtain ⟨rfl, rfl, rfl⟩ := trodAll_nil r1
  obtain rfl : args = #[v0, v1] := by cases args; simp_all
  obtain ⟨rfl, rfl⟩ := trodVars_none hV
  obtain ⟨a0, rfl, rfl, rfl, w0⟩ := open_int Try.underlying22 (hval 0 22 v0 rfl rfl) h0
  obtain ⟨a1, rfl, rfl, rfl, w1⟩ := open_int Try.underlying2 (hval 1 2 v1 rfl rfl) h1
  clear hA0 hval0
  refine (walk a0 a1 w0 w1 W).mono fun e W' ⟨he, hg⟩ => ?_
  subst he
  exact ⟨_, rfl, _, _, _, [], _, [], hW', trodAll_mk1 (shut_bool Try.underlying4 _), (trodAll_cons_mk (shut_int Try.underlying22 w0) (trodAll_cons_mk (shut_int Try.underlying2 w1) trodAll_mk0)), rfl, hg.frame _, fun h => by cases h⟩

theorem over : Rows.wireIntegersRow.holds Try.pinned (OpenSpec.ofChange Rows.wireIntegersSpec) :=
  OpenClaim.holds_of_wide 3 Try.f3 rfl rfl rfl rfl rfl rfl rfl ⟨rfl, rfl, rfl, rfl, rfl⟩ rfl rfl rfl rfl rfl (by kernel_rfl) Try.func3 (by kernel_rfl)
    (of_decide_eq_true (by kernel_rfl)) (by unfold Func.isWrapper; first | (rw [if_pos (by decide +kernel)]; kernel_rfl) | (rw [if_neg (by decide +kernel)]; exact ⟨rfl, rfl⟩))
    (fun os started H enc _ => lifted os started H enc)

/-- ████ THE STATEMENT ████ -/
theorem proved : Rows.WireIntegersSaid :=
  over
#print axioms proved
end Go.Proofs.Ytkbibdbojdbfkaa.wireIntegers
