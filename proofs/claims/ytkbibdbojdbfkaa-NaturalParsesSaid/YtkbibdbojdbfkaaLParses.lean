/- The statement NaturalParses of the given program: the law returns true for every input, and writes nothing that was there. The walk is proved over the contracts of the functions it calls. -/
import Derived.Test.YtkbibdbojdbfkaaRows
import Derived.Test.YtkbibdbojdbfkaaLParse
import Derived.Test.YtkbibdbojdbfkaaWLives
import Derived.WalkKit
import Derived.ChangeOld
import Derived.Below
import Derived.ProofKit
import Derived.OpenShut
import Derived.ShutString
namespace Go.Proofs.Ytkbibdbojdbfkaa.naturalParses
open Go.ChangeShapes Go.WideShapes Go.ChangeAt Go.RowKit
open Plain
open Go.ChangeMaps (open_string shut_string)
set_option linter.unusedVariables false
set_option linter.unusedSimpArgs false      -- a walk need not use every 'w<i>' (that an integer argument fits its kind)

theorem own : ownKnob Try.prog.godebug = none := by kernel_rfl

theorem walk (a0 : ByteArray) (w0 : a0.size ≤ maxLen) (w : World) :
    Calls Try.prog 7 #[.string a0] w fun e w' => e = .returned (.bool true) ∧ Below w.heap.size w w' := by
  unfold maxLen at w0
  have h0 : ∃ s : ByteArray, s = a0 := ⟨_, rfl⟩
  by_cases hbig : 700 < a0.size
  all_goals
    have hd60 : decide ((700 : Int) < (a0.size : Int)) = decide (700 < a0.size) := by rw [decide_eq_decide]; omega
    first
      | (rw [decide_eq_true hbig] at hd60
         obtain ⟨s, hs⟩ : ∃ s, a0.extract 0 700 = s := ⟨_, rfl⟩
         have hs60 : s.size ≤ 700 := by rw [← hs, ByteArray.size_extract]; omega
         have h60 : 700 ≤ a0.size := by omega)
      | (rw [decide_eq_false hbig] at hd60
         obtain ⟨s, hs⟩ := h0
         subst hs
         have hs60 : s.size ≤ 700 := by omega)
    clear hbig
    obtain ⟨x, hx⟩ : ∃ x, Hid (parErr (bytes s) = x) := ⟨_, rfl⟩
    go_enter Try.func7, Try.ntmps7
    go_wp2_with fail
    refine (parse_any s _ (by omega)).mono ?_
    rintro e w1 ⟨A1, c1, r1, rfl, n1, i1, m1, b1⟩
    rw [hx.out]
    have i1' := Lib.hid i1
    clear i1
    go_wp2_with fail
    refine (refParse_any s _ (by omega)).mono ?_
    rintro e w2 ⟨A2, c2, r2, rfl, n2, i2, m2, b2⟩
    rw [hx.out]
    have hsame := Lib.hid (decide_eq_true (i1'.out.uniq i2))
    clear i2
    have n12 := n1.below b2
    have b12 := b1.trans (b2.mono b1.size)
    have hxx : decide (x = x) = true := decide_eq_true rfl
    go_wp2_with fail
    refine (same_any n12 n2).mono ?_
    rintro e w3 ⟨rfl, b3⟩
    rw [hsame.out]
    have n13 := n12.below b3
    have b13 := b12.trans (b3.mono b12.size)
    by_cases hx0 : x = 0
    · have hxb : (((x : Nat) : Int) != 0) = false := by rw [bne_eq_false_iff_eq]; omega
      have hfmt := Lib.hid (show strOf (decs (val r1)) = s by
        rw [i1'.out.val, parse_back (hx.out.trans hx0)]
        exact byteArray_ext (bytes_strOf (fun b hb => by
          unfold bytes at hb
          obtain ⟨y, _, rfl⟩ := List.mem_map.1 hb
          exact UInt8.toNat_lt _)))
      clear hx0
      have hss : decide (s = s) = true := decide_eq_true rfl
      go_wp2_with fail
      refine (format_any n13 (by omega)).mono ?_
      rintro e w4 ⟨rfl, b4⟩
      rw [hfmt.out]
      have b14 := b13.trans (b4.mono b13.size)
      go_wp2_with fail
      refine (lives_any _).mono ?_
      rintro e w9 ⟨rfl, b9⟩
      go_wp2
      go_ret
      exact ⟨rfl, b14.trans (b9.mono b14.size)⟩
    · have hxb : (((x : Nat) : Int) != 0) = true := by rw [bne_iff_ne]; omega
      clear hx0
      go_wp2_with fail
      refine (lives_any _).mono ?_
      rintro e w9 ⟨rfl, b9⟩
      go_wp2
      go_ret
      exact ⟨rfl, b13.trans (b9.mono b13.size)⟩
  -- go_enter Try.func7, Try.ntmps7
  -- go_wp2
  -- go_ret
  -- exact ⟨rfl, by repeat (first | exact Grown.refl _ | apply Grown.drew | apply Grown.alloc)⟩

/-! ### THE ROW's STEP: WRITTEN OUT: LEAVE IT -/
set_option maxRecDepth 100000 in
theorem lifted (os : Os) (started : os.Started) (H : Type) (enc : TypeId × Value → H) :
    ReturnsInHanded {} Try.checked os 7 .any (Rows.naturalParsesSpec.pre6 enc Try.prog Try.f7 Rows.naturalParsesRow.domain false) (Rows.naturalParsesSpec.post enc Try.prog Try.f7 false true false false) := by
  refine returnsInHanded_of_change (C := Try.checked) own started (by kernel_rfl) Try.func7
    (ChangeSpec.witness6 (enc := enc) (C := Try.checked) false ⟨#[], #[.string ByteArray.empty], []⟩ 8 (by kernel_rfl) (by kernel_rfl) (by kernel_rfl) (by kernel_rfl)) ?_
  intro W base args ds gs before hval0 hW hcnd _
  have hval : ∀ (j : Nat) t v, Try.f7.params[j]? = some t → args[j]? = some v → Value.okWide Try.prog W .any base t v := hval0
  have hW' := hW
  obtain ⟨p, q, hA0, hV, rfl, hfz, hnd⟩ := hW
  have hA : DataW.TrodAll enc Try.prog W 0 (fun _ => true) true Try.f7.params.toList args.toList ds p := hA0
  rw [Try.params7] at hA hval
  obtain ⟨v0, vs0, d0, ds0, p0, q0, hargs, rfl, rfl, h0, r0⟩ := trodAll_cons hA
  obtain ⟨rfl, rfl, rfl⟩ := trodAll_nil r0
  obtain rfl : args = #[v0] := by cases args; simp_all
  obtain ⟨rfl, rfl⟩ := trodVars_none hV
  obtain ⟨a0, rfl, rfl, rfl, w0⟩ := open_string Try.underlying9 (hval 0 9 v0 rfl rfl) h0
  clear hA0 hval0
  refine (walk a0 w0 W).mono fun e W' ⟨he, hg⟩ => ?_
  subst he
  exact ⟨_, rfl, _, _, _, [], _, [], hW', trodAll_mk1 (shut_bool Try.underlying4 _), (trodAll_cons_mk (shut_string Try.underlying9 w0) trodAll_mk0), rfl, hg.frame _, fun h => by cases h⟩

theorem over : Rows.naturalParsesRow.holds Try.pinned (OpenSpec.ofChange Rows.naturalParsesSpec) :=
  OpenClaim.holds_of_wide 7 Try.f7 rfl rfl rfl rfl rfl rfl rfl ⟨rfl, rfl, rfl, rfl, rfl⟩ rfl rfl rfl rfl rfl (by kernel_rfl) Try.func7 (by kernel_rfl)
    (of_decide_eq_true (by kernel_rfl)) (by unfold Func.isWrapper; first | (rw [if_pos (by decide +kernel)]; kernel_rfl) | (rw [if_neg (by decide +kernel)]; exact ⟨rfl, rfl⟩))
    (fun os started H enc _ => lifted os started H enc)

/-- ████ THE STATEMENT ████ -/
theorem proved : Rows.NaturalParsesSaid :=
  over
#print axioms proved
end Go.Proofs.Ytkbibdbojdbfkaa.naturalParses
