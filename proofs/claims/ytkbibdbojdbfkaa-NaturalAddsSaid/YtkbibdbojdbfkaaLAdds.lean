/- The statement NaturalAdds of the given program: the law returns true for every input, and writes nothing that was there. The walk is proved over the contracts of the functions it calls. -/
import Derived.Test.YtkbibdbojdbfkaaRows
import Derived.Test.YtkbibdbojdbfkaaLRow
import Derived.Test.YtkbibdbojdbfkaaWRef2
import Derived.Test.YtkbibdbojdbfkaaWRef3
import Derived.Test.YtkbibdbojdbfkaaWSub
import Derived.Test.YtkbibdbojdbfkaaWAdd
import Derived.WalkKit
import Derived.ProofKit
import Derived.OpenShut
import Derived.ShutString
import Derived.ChangeOld
import Derived.Below
namespace Go.Proofs.Ytkbibdbojdbfkaa.naturalAdds
open Go.ChangeShapes Go.WideShapes Go.ChangeAt Go.RowKit
open Plain
open Go.ChangeMaps (open_string shut_string)
set_option linter.unusedVariables false

theorem own : ownKnob Try.prog.godebug = none := by kernel_rfl
theorem laidOut : laidOutB Try.prog = true := by kernel_rfl

/-- WHAT THE WALK IS TOLD OF A SLICE OF INTEGERS THAT CAME IN: it is nil; or it leads to a row of 'cap' cells, the numbers 'zs' (the first 'len' are its elements, the rest its spare room), each fitting its kind. -/
def IsRow (k : IntKind) (w : World) (a : Option Addr) (len cap : Nat) (zs : List Int) : Prop :=
  (a = none ∧ len = 0 ∧ cap = 0 ∧ zs = []) ∨
  ∃ x, a = some x ∧ len ≤ cap ∧ cap ≤ maxLen ∧ zs.length = cap ∧ (∀ i, i < zs.length → w.cell? (x.add i) = some (.int k (zs.getD i 0))) ∧ ∀ n ∈ zs, (Lit.int k n).wf = true

theorem cmp_ret {x y : Int} (h : x = y) : (x == y) = true := by subst h; simp
theorem walk (a0 : Option Addr) (len0 cap0 : Nat) (z0 : List Int) (a1 : Option Addr) (len1 cap1 : Nat) (z1 : List Int) (w : World) (w0 : IsRow .u32 w a0 len0 cap0 z0) (w1 : IsRow .u32 w a1 len1 cap1 z1) :
    Calls Try.prog 11 #[.slice a0 len0 cap0, .slice a1 len1 cap1] w fun e w' => e = .returned (.bool true) ∧ Below w.heap.size w w' := by
  obtain ⟨la, ha, rfl, ra⟩ := inRow_of w0
  obtain ⟨lb, hb, rfl, rb⟩ := inRow_of w1
  clear ha hb w0 w1
  by_cases fa : fewL la 40 = true
  · by_cases fb : fewL lb 40 = true
    · have la40 := fewL_le fa
      have lb40 := fewL_le fb
      have na := ra.nv (by omega)
      have nb := rb.nv (by omega)
      have fa' := Lib.hid fa
      have fb' := Lib.hid fb
      clear fa fb
      go_enter Try.func11, Try.ntmps11
      go_wp2_with fail
      refine (few_row ra 40 _ rfl (by omega)).mono ?_
      rintro e w1 ⟨rfl, rfl⟩
      rw [fa'.out]
      go_wp2_with fail
      refine (few_row rb 40 _ rfl (by omega)).mono ?_
      rintro e w1 ⟨rfl, rfl⟩
      rw [fb'.out]
      go_wp2_with fail
      refine (sub_any _ _ _ _ _ _ _ na nb).mono ?_
      rintro e w1 ⟨A1, c1, l1, rfl, n1, i1, h1, b1⟩
      have i1' := Lib.hid i1
      have na1 := na.below b1
      have nb1 := nb.below b1
      clear i1 h1
      go_wp2_with fail
      refine (refSub_any _ _ _ _ _ _ _ na1 nb1 (by omega) (by omega)).mono ?_
      rintro e w2 ⟨A2, c2, l2, rfl, n2, i2, h2, b2⟩
      have i2' := Lib.hid i2
      have na2 := na1.below b2
      have nb2 := nb1.below b2
      have b12 := b1.trans (b2.mono b1.size)
      clear i2 h2
      go_wp2_with fail
      refine (cmp_any na2 nb2).mono ?_
      rintro e w3 ⟨rfl, b3⟩
      have na3 := na2.below b3
      have nb3 := nb2.below b3
      have b13 := b12.trans (b3.mono b12.size)
      go_wp2_with fail
      refine (refCmp_any na3 nb3 (by omega) (by omega)).mono ?_
      rintro e w4 ⟨rfl, rfl⟩
      go_wp2_with fail
      refine (add_any _ _ _ _ _ _ _ na3 nb3 (by omega) (by omega)).mono ?_
      rintro e w5 ⟨A5, c5, l5, rfl, n5, i5, h5, b5⟩
      have i5' := Lib.hid i5
      have na5 := na3.below b5
      have nb5 := nb3.below b5
      have b15 := b13.trans (b5.mono b13.size)
      clear i5 h5
      go_wp2_with fail
      refine (refAdd_any _ _ _ _ _ _ _ na5 nb5 (by omega) (by omega)).mono ?_
      rintro e w6 ⟨A6, c6, l6, rfl, n6, i6, h6, b6⟩
      have b16 := b15.trans (b6.mono b15.size)
      have e56 := Lib.hid (decide_eq_true (i5'.out.uniq i6))
      clear i6 h6
      go_wp2_with fail
      refine (same_any (n5.below b6) n6).mono ?_
      rintro e w7 ⟨rfl, b7⟩
      have b17 := b16.trans (b7.mono b16.size)
      have e12 := Lib.hid (decide_eq_true (i1'.out.uniq i2'.out))
      rw [e56.out]
      go_wp2_with fail
      refine (same_any (((((n1.below b2).below b3).below b5).below b6).below b7) ((((n2.below b3).below b5).below b6).below b7)).mono ?_
      rintro e w8 ⟨rfl, b8⟩
      have b18 := b17.trans (b8.mono b17.size)
      rw [e12.out]
      go_wp2_with fail
      refine (lives_any _).mono ?_
      rintro e w9 ⟨rfl, b9⟩
      have b19 := b18.trans (b9.mono b18.size)
      go_wp2
      go_ret
      exact ⟨rfl, b19⟩
    · have fb' := Lib.hid (eq_false_of_ne_true fb)
      have fa' := Lib.hid fa
      clear fa fb
      go_enter Try.func11, Try.ntmps11
      go_wp2_with fail
      refine (few_row ra 40 _ rfl (by omega)).mono ?_
      rintro e w1 ⟨rfl, rfl⟩
      rw [fa'.out]
      go_wp2_with fail
      refine (few_row rb 40 _ rfl (by omega)).mono ?_
      rintro e w1 ⟨rfl, rfl⟩
      rw [fb'.out]
      go_wp2_with fail
      refine (lives_any _).mono ?_
      rintro e w1 ⟨rfl, bel⟩
      go_wp2
      go_ret
      exact ⟨rfl, bel⟩
  · have fa' := Lib.hid (eq_false_of_ne_true fa)
    clear fa
    go_enter Try.func11, Try.ntmps11
    go_wp2_with fail
    refine (few_row ra 40 _ rfl (by omega)).mono ?_
    rintro e w1 ⟨rfl, rfl⟩
    rw [fa'.out]
    go_wp2_with fail
    refine (lives_any _).mono ?_
    rintro e w1 ⟨rfl, bel⟩
    go_wp2
    go_ret
    exact ⟨rfl, bel⟩

/-! ### THE ROW's STEP: WRITTEN OUT: LEAVE IT -/
set_option maxRecDepth 100000 in
theorem lifted (os : Os) (started : os.Started) (H : Type) (enc : TypeId × Value → H) :
    ReturnsInHanded {} Try.checked os 11 .any (Rows.naturalAddsSpec.pre6 enc Try.prog Try.f11 Rows.naturalAddsRow.domain false) (Rows.naturalAddsSpec.post enc Try.prog Try.f11 false true false false) := by
  refine returnsInHanded_of_change (C := Try.checked) own started (by kernel_rfl) Try.func11
    (ChangeSpec.witness6 (enc := enc) (C := Try.checked) false ⟨#[], #[.slice none 0 0, .slice none 0 0], []⟩ 8 (by kernel_rfl) (by kernel_rfl) (by kernel_rfl) (by kernel_rfl)) ?_
  intro W base args ds gs before hval0 hW hcnd _
  have hval : ∀ (j : Nat) t v, Try.f11.params[j]? = some t → args[j]? = some v → Value.okWide Try.prog W .any base t v := hval0
  have hW' := hW
  obtain ⟨p, q, hA0, hV, rfl, hfz, hnd⟩ := hW
  have hA : DataW.TrodAll enc Try.prog W 0 (fun _ => true) true Try.f11.params.toList args.toList ds p := hA0
  rw [Try.params11] at hA hval
  obtain ⟨v0, vs0, d0, ds0, p0, q0, hargs, rfl, rfl, h0, r0⟩ := trodAll_cons hA
  obtain ⟨v1, vs1, d1, ds1, p1, q1, rfl, rfl, rfl, h1, r1⟩ := trodAll_cons r0
  obtain ⟨rfl, rfl, rfl⟩ := trodAll_nil r1
  obtain rfl : args = #[v0, v1] := by cases args; simp_all
  obtain ⟨rfl, rfl⟩ := trodVars_none hV
  obtain ⟨a0, len0, cap0, rfl⟩ := okWide_slice Try.underlying38 (hval 0 38 v0 rfl rfl)
  have k0 := h0
  have lt0 : ∀ x ∈ p0, x.block < W.heap.size := by obtain ⟨m, hm⟩ := k0; exact DataW.trod_lt m _ _ _ hm
  obtain ⟨z0, w0⟩ : ∃ zs, IsRow .u32 W a0 len0 cap0 zs := by
    obtain ⟨fuel, hf⟩ := h0
    rcases open_ints Try.underlying38 Try.underlying78 (by kernel_rfl) hf with ⟨hcs, _⟩ | ⟨x, l, c, zs, hcs, _, hl, hm, hz, _, hcell, hwz⟩
    · simp [Value.cells] at hcs
      obtain ⟨rfl, rfl, rfl⟩ := hcs
      exact ⟨[], .inl ⟨rfl, rfl, rfl, rfl⟩⟩
    · simp [Value.cells] at hcs
      obtain ⟨rfl, rfl, rfl⟩ := hcs
      exact ⟨zs, .inr ⟨_, rfl, hl, hm, by simpa using hz, hcell, hwz⟩⟩
  obtain ⟨a1, len1, cap1, rfl⟩ := okWide_slice Try.underlying38 (hval 1 38 v1 rfl rfl)
  have k1 := h1
  have lt1 : ∀ x ∈ p1, x.block < W.heap.size := by obtain ⟨m, hm⟩ := k1; exact DataW.trod_lt m _ _ _ hm
  obtain ⟨z1, w1⟩ : ∃ zs, IsRow .u32 W a1 len1 cap1 zs := by
    obtain ⟨fuel, hf⟩ := h1
    rcases open_ints Try.underlying38 Try.underlying78 (by kernel_rfl) hf with ⟨hcs, _⟩ | ⟨x, l, c, zs, hcs, _, hl, hm, hz, _, hcell, hwz⟩
    · simp [Value.cells] at hcs
      obtain ⟨rfl, rfl, rfl⟩ := hcs
      exact ⟨[], .inl ⟨rfl, rfl, rfl, rfl⟩⟩
    · simp [Value.cells] at hcs
      obtain ⟨rfl, rfl, rfl⟩ := hcs
      exact ⟨zs, .inr ⟨_, rfl, hl, hm, by simpa using hz, hcell, hwz⟩⟩
  clear hA0 hval0
  refine (walk a0 len0 cap0 z0 a1 len1 cap1 z1 W w0 w1).mono fun e W' ⟨he, bel⟩ => ?_
  subst he
  exact ⟨_, rfl, _, _, _, [], _, [], hW', trodAll_mk1 (shut_bool Try.underlying4 _), (trodAll_cons_mk (Below.trod laidOut (by kernel_rfl) (of_decide_eq_true (by kernel_rfl)) k0 bel lt0) (trodAll_cons_mk (Below.trod laidOut (by kernel_rfl) (of_decide_eq_true (by kernel_rfl)) k1 bel lt1) trodAll_mk0)), rfl, bel.frame _, fun h => by cases h⟩

theorem over : Rows.naturalAddsRow.holds Try.pinned (OpenSpec.ofChange Rows.naturalAddsSpec) :=
  OpenClaim.holds_of_wide 11 Try.f11 rfl rfl rfl rfl rfl rfl rfl ⟨rfl, rfl, rfl, rfl, rfl⟩ rfl rfl rfl rfl rfl (by kernel_rfl) Try.func11 (by kernel_rfl)
    (of_decide_eq_true (by kernel_rfl)) (by unfold Func.isWrapper; first | (rw [if_pos (by decide +kernel)]; kernel_rfl) | (rw [if_neg (by decide +kernel)]; exact ⟨rfl, rfl⟩))
    (fun os started H enc _ => lifted os started H enc)

/-- ████ THE STATEMENT ████ -/
theorem proved : Rows.NaturalAddsSaid := over
#print axioms proved
end Go.Proofs.Ytkbibdbojdbfkaa.naturalAdds
