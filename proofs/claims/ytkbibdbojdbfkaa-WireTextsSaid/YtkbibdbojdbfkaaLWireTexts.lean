/- The statement WireTexts of the given program: the law returns true for every input, and writes nothing that was there. The walk is proved over the contracts of the functions it calls. -/
import Derived.Test.YtkbibdbojdbfkaaRows
import Derived.Test.YtkbibdbojdbfkaaVLaw
import Derived.WalkKit
import Derived.ChangeOld
import Derived.Below
import Derived.ProofKit
import Derived.OpenShut
import Derived.ShutString
namespace Go.Proofs.Ytkbibdbojdbfkaa.wireTexts
open Go.ChangeShapes Go.WideShapes Go.ChangeAt Go.RowKit
open Plain
open Go.ChangeMaps (open_string shut_string)
set_option linter.unusedVariables false
set_option linter.unusedSimpArgs false      -- a walk need not use every 'w<i>' (that an integer argument fits its kind)

theorem own : ownKnob Try.prog.godebug = none := by kernel_rfl

theorem walk (a0 : ByteArray) (a1 : ByteArray) (w0 : a0.size ≤ maxLen) (w1 : a1.size ≤ maxLen) (w : World) :
    Calls Try.prog 4 #[.string a0, .string a1] w fun e w' => e = .returned (.bool true) ∧ Below w.heap.size w w' := by
  unfold maxLen at w0 w1
  by_cases hbig : 4000 < a0.size ∨ 4000 < a1.size
  · by_cases h0 : 4000 < a0.size
    · have hd : decide ((4000 : Int) < (a0.size : Int)) = true := decide_eq_true (by omega)
      clear hbig h0
      go_enter Try.func4, Try.ntmps4
      go_wp2_with fail
      refine (livesW_any _).mono ?_
      rintro e w9 ⟨rfl, b9⟩
      go_wp2
      go_ret
      exact ⟨rfl, b9⟩
    · have hd : decide ((4000 : Int) < (a0.size : Int)) = false := decide_eq_false (by omega)
      have hd2 : decide ((4000 : Int) < (a1.size : Int)) = true := decide_eq_true (by omega)
      clear hbig h0
      go_enter Try.func4, Try.ntmps4
      go_wp2_with fail
      refine (livesW_any _).mono ?_
      rintro e w9 ⟨rfl, b9⟩
      go_wp2
      go_ret
      exact ⟨rfl, b9⟩
  · have hd : decide ((4000 : Int) < (a0.size : Int)) = false := decide_eq_false (by omega)
    have hd2 : decide ((4000 : Int) < (a1.size : Int)) = false := decide_eq_false (by omega)
    have z0 : a0.size ≤ 4000 := by omega
    have z1 : a1.size ≤ 4000 := by omega
    obtain ⟨s1, hs1⟩ : ∃ s, Hid (textEnc a0 = s) := ⟨_, rfl⟩
    obtain ⟨s2, hs2⟩ : ∃ s, Hid (textEnc a1 = s) := ⟨_, rfl⟩
    have y1 : s1.size ≤ 5000 := by rw [← hs1.out]; have := textEnc_size a0 (by omega); omega
    have y2 : s2.size ≤ 5000 := by rw [← hs2.out]; have := textEnc_size a1 (by omega); omega
    have hb := Lib.hid (show bytes (s1 ++ s2) = bytes (textEnc a0) ++ (bytes (textEnc a1) ++ []) by rw [bytes_append, ← hs1.out, ← hs2.out, List.append_nil])
    have r1 := Lib.hid (tx_text (m := (a0.size : Int)) a0 (bytes (textEnc a1) ++ []) (by omega) (by omega))
    have r2 := Lib.hid (tx_text (m := 4000) a1 [] (by omega) (by omega))
    have hzs : (s1 ++ s2).size ≤ 1000000 := by rw [ByteArray.size_append]; omega
    clear hbig w0 w1
    go_enter Try.func4, Try.ntmps4
    go_wp2_with fail
    refine (wText_any a0 _ (by omega)).mono ?_
    rintro e w1 ⟨rfl, b1⟩
    rw [hs1.out]
    go_wp2_with fail
    refine (wText_any a1 _ (by omega)).mono ?_
    rintro e w2 ⟨rfl, b2⟩
    rw [hs2.out]
    have b12 := b1.trans (b2.mono b1.size)
    clear b1 b2
    go_wp2_with fail
    refine (newR_any (s1 ++ s2) _ hzs).mono ?_
    rintro e w3 ⟨rfl, k3, b3⟩
    rw [hb.out] at k3
    have o3 := b12.trans (b3.mono b12.size)
    have hg : w.heap.size ≤ w2.heap.size := b12.size
    obtain ⟨g, hgg⟩ : ∃ g, w2.heap.size = g := ⟨_, rfl⟩
    rw [hgg] at k3 hg ⊢
    clear b3 b12 hgg
    go_wp2_with fail
    refine (refTextW_any a0 _ (by omega)).mono ?_
    rintro e w4 ⟨rfl, b4⟩
    rw [hs1.out]
    have k4 := k3.below b4 k3.lt
    have o4 := o3.trans (b4.mono o3.size)
    clear b4 k3 o3
    go_wp2_with fail
    refine (refTextW_any a1 _ (by omega)).mono ?_
    rintro e w5 ⟨rfl, b5⟩
    rw [hs2.out]
    have k5 := k4.below b5 k4.lt
    have o5 := o4.trans (b5.mono o4.size)
    clear b5 k4 o4
    go_wp2_with fail
    refine (readText_any (a0.size : Int) (by omega) (by omega) k5).mono ?_
    rintro e w6 ⟨rfl, ⟨l6, k6, hl6⟩, q6⟩
    rw [r1.out.2.1]
    rw [r1.out.1] at k6 hl6
    have hl6' := hl6 rfl
    rw [r1.out.2.2] at hl6'
    subst hl6'
    have o6 := q6.to_below o5 hg o5.size
    clear hl6 o5 q6
    go_wp2_with fail
    refine (readText_any 4000 (by omega) (by omega) k6).mono ?_
    rintro e w7 ⟨rfl, ⟨l7, k7, hl7⟩, q7⟩
    rw [r2.out.2.1]
    rw [r2.out.1] at k7 hl7
    have hl7' := hl7 rfl
    rw [r2.out.2.2] at hl7'
    subst hl7'
    have o7 := q7.to_below o6 hg o6.size
    clear hl7 o6 q7
    have hlf : leftE [] 0 = 0 := rfl
    go_wp2_with fail
    refine (left_any k7).mono ?_
    rintro e w8 ⟨rfl, rfl⟩
    rw [hlf]
    go_wp2_with fail
    refine (end_any k7).mono ?_
    rintro e w8 ⟨rfl, k8, q8⟩
    rw [n1]
    have o8 := q8.to_below o7 hg o7.size
    clear o7 q8
    go_wp2_with fail
    refine (livesW_any _).mono ?_
    rintro e w9 ⟨rfl, b9⟩
    go_wp2
    go_ret
    exact ⟨rfl, o8.trans (b9.mono o8.size)⟩
  -- go_enter Try.func4, Try.ntmps4
  -- go_wp2
  -- go_ret
  -- exact ⟨rfl, by repeat (first | exact Grown.refl _ | apply Grown.drew | apply Grown.alloc)⟩

/-! ### THE ROW's STEP: WRITTEN OUT: LEAVE IT -/
set_option maxRecDepth 100000 in
theorem lifted (os : Os) (started : os.Started) (H : Type) (enc : TypeId × Value → H) :
    ReturnsInHanded {} Try.checked os 4 .any (Rows.wireTextsSpec.pre6 enc Try.prog Try.f4 Rows.wireTextsRow.domain false) (Rows.wireTextsSpec.post enc Try.prog Try.f4 false true false false) := by
  refine returnsInHanded_of_change (C := Try.checked) own started (by kernel_rfl) Try.func4
    (ChangeSpec.witness6 (enc := enc) (C := Try.checked) false ⟨#[], #[.string ByteArray.empty, .string ByteArray.empty], []⟩ 8 (by kernel_rfl) (by kernel_rfl) (by kernel_rfl) (by kernel_rfl)) ?_
  intro W base args ds gs before hval0 hW hcnd _
  have hval : ∀ (j : Nat) t v, Try.f4.params[j]? = some t → args[j]? = some v → Value.okWide Try.prog W .any base t v := hval0
  have hW' := hW
  obtain ⟨p, q, hA0, hV, rfl, hfz, hnd⟩ := hW
  have hA : DataW.TrodAll enc Try.prog W 0 (fun _ => true) true Try.f4.params.toList args.toList ds p := hA0
  rw [Try.params4] at hA hval
  obtain ⟨v0, vs0, d0, ds0, p0, q0, hargs, rfl, rfl, h0, r0⟩ := trodAll_cons hA
  obtain ⟨v1, vs1, d1, ds1, p1, q1, rfl, rfl, rfl, h1, r1⟩ := trodAll_cons r0
  obtain ⟨rfl, rfl, rfl⟩ := trodAll_nil r1
  obtain rfl : args = #[v0, v1] := by cases args; simp_all
  obtain ⟨rfl, rfl⟩ := trodVars_none hV
  obtain ⟨a0, rfl, rfl, rfl, w0⟩ := open_string Try.underlying9 (hval 0 9 v0 rfl rfl) h0
  obtain ⟨a1, rfl, rfl, rfl, w1⟩ := open_string Try.underlying9 (hval 1 9 v1 rfl rfl) h1
  clear hA0 hval0
  refine (walk a0 a1 w0 w1 W).mono fun e W' ⟨he, hg⟩ => ?_
  subst he
  exact ⟨_, rfl, _, _, _, [], _, [], hW', trodAll_mk1 (shut_bool Try.underlying4 _), (trodAll_cons_mk (shut_string Try.underlying9 w0) (trodAll_cons_mk (shut_string Try.underlying9 w1) trodAll_mk0)), rfl, hg.frame _, fun h => by cases h⟩

theorem over : Rows.wireTextsRow.holds Try.pinned (OpenSpec.ofChange Rows.wireTextsSpec) :=
  OpenClaim.holds_of_wide 4 Try.f4 rfl rfl rfl rfl rfl rfl rfl ⟨rfl, rfl, rfl, rfl, rfl⟩ rfl rfl rfl rfl rfl (by kernel_rfl) Try.func4 (by kernel_rfl)
    (of_decide_eq_true (by kernel_rfl)) (by unfold Func.isWrapper; first | (rw [if_pos (by decide +kernel)]; kernel_rfl) | (rw [if_neg (by decide +kernel)]; exact ⟨rfl, rfl⟩))
    (fun os started H enc _ => lifted os started H enc)

/-- ████ THE STATEMENT ████ -/
theorem proved : Rows.WireTextsSaid :=
  over
#print axioms proved
end Go.Proofs.Ytkbibdbojdbfkaa.wireTexts
