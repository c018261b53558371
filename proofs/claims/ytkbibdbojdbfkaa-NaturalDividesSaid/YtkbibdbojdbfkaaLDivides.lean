/- The statement NaturalDivides of the given program: the law returns true for every input, and writes nothing that was there. The walk is proved over the contracts of the functions it calls. -/
import Derived.Test.YtkbibdbojdbfkaaRows
import Derived.Test.YtkbibdbojdbfkaaLValid
import Derived.Test.YtkbibdbojdbfkaaWRef6
import Derived.Test.YtkbibdbojdbfkaaWMul
import Derived.Test.YtkbibdbojdbfkaaWAdd
import Derived.WalkKit
import Derived.ProofKit
import Derived.OpenShut
import Derived.ShutString
import Derived.ChangeOld
import Derived.Below
namespace Go.Proofs.Ytkbibdbojdbfkaa.naturalDivides
open Go.ChangeShapes Go.WideShapes Go.ChangeAt Go.RowKit
open Plain
open Go.ChangeMaps (open_string shut_string)
set_option linter.unusedVariables false
set_option linter.unusedSimpArgs false

theorem own : ownKnob Try.prog.godebug = none := by kernel_rfl
theorem laidOut : laidOutB Try.prog = true := by kernel_rfl

/-- WHAT THE WALK IS TOLD OF A SLICE OF INTEGERS THAT CAME IN: it is nil; or it leads to a row of 'cap' cells, the numbers 'zs' (the first 'len' are its elements, the rest its spare room), each fitting its kind. -/
def IsRow (k : IntKind) (w : World) (a : Option Addr) (len cap : Nat) (zs : List Int) : Prop :=
  (a = none ∧ len = 0 ∧ cap = 0 ∧ zs = []) ∨
  ∃ x, a = some x ∧ len ≤ cap ∧ cap ≤ maxLen ∧ zs.length = cap ∧ (∀ i, i < zs.length → w.cell? (x.add i) = some (.int k (zs.getD i 0))) ∧ ∀ n ∈ zs, (Lit.int k n).wf = true

theorem walk (a0 : Option Addr) (len0 cap0 : Nat) (z0 : List Int) (a1 : Option Addr) (len1 cap1 : Nat) (z1 : List Int) (w : World) (w0 : IsRow .u32 w a0 len0 cap0 z0) (w1 : IsRow .u32 w a1 len1 cap1 z1) :
    Calls Try.prog 5 #[.slice a0 len0 cap0, .slice a1 len1 cap1] w fun e w' => e = .returned (.bool true) ∧ Below w.heap.size w w' := by
  obtain ⟨la, ha, rfl, ra⟩ := inRow_of w0
  obtain ⟨lb, hb, rfl, rb⟩ := inRow_of w1
  clear ha hb w0 w1
  by_cases fa : fewL la 10 = true
  · by_cases fb : fewL lb 10 = true
    · have la10 := fewL_le fa
      have lb10 := fewL_le fb
      have na := ra.nv (by omega)
      have nb := rb.nv (by omega)
      have fa' := Lib.hid fa
      have fb' := Lib.hid fb
      have ia' := Lib.hid (fewL_natIs ra.dig fa)
      have hcb := Lib.hid (fewL_natIs rb.dig fb).canon
      clear fa fb
      go_enter Try.func5, Try.ntmps5
      go_wp2_with fail
      refine (valid_row ra).mono ?_
      rintro e w1 ⟨rfl, rfl⟩
      go_wp2_with fail
      refine (refValid_row ra).mono ?_
      rintro e w1 ⟨rfl, rfl⟩
      obtain ⟨vb, hvb⟩ : ∃ vb, Hid (validL la = vb) := ⟨_, rfl⟩
      rw [hvb.out]
      go_wp2_with fail
      refine (few_row ra 10 _ rfl (by omega)).mono ?_
      rintro e w1 ⟨rfl, rfl⟩
      rw [fa'.out]
      go_wp2_with fail
      refine (few_row rb 10 _ rfl (by omega)).mono ?_
      rintro e w1 ⟨rfl, rfl⟩
      rw [fb'.out]
      by_cases hz : val lb = 0
      · replace hz := Lib.hid hz
        go_wp2_with fail
        refine (divMod_any na nb (by omega) (by omega)).mono ?_
        rintro e w1 ⟨A1, c1, l1, B1, d1, r1, rfl, nq1, nr1, iq1, ir1, mq1, mr1, b1⟩
        rw [if_pos hz.out] at iq1 ir1
        rw [if_pos hz.out]
        have iq1' := Lib.hid iq1
        have ir1' := Lib.hid ir1
        clear iq1 ir1
        go_wp2_with fail
        refine (refDivMod_any (na.below b1) (nb.below b1) hcb.out (by omega) (by omega)).mono ?_
        rintro e w2 ⟨A2, c2, l2, B2, d2, r2, rfl, nq2, nr2, iq2, ir2, mq2, mr2, b2⟩
        rw [if_pos hz.out] at iq2 ir2
        rw [if_pos hz.out]
        have b12 := b1.trans (b2.mono b1.size)
        have e1 := Lib.hid (decide_eq_true (iq1'.out.uniq iq2))
        have e2 := Lib.hid (decide_eq_true (ir1'.out.uniq ir2))
        clear iq2 ir2
        go_wp2_with fail
        refine (same_any (nq1.below b2) nq2).mono ?_
        rintro e w3 ⟨rfl, b3⟩
        have b13 := b12.trans (b3.mono b12.size)
        rw [e1.out]
        go_wp2_with fail
        refine (same_any ((nr1.below b2).below b3) (nr2.below b3)).mono ?_
        rintro e w4 ⟨rfl, b4⟩
        have b14 := b13.trans (b4.mono b13.size)
        rw [e2.out]
        go_wp2_with fail
        refine (lives_any _).mono ?_
        rintro e w5 ⟨rfl, b5⟩
        have b15 := b14.trans (b5.mono b14.size)
        go_wp2
        go_ret
        exact ⟨rfl, b15⟩
      · replace hz := Lib.hid hz
        go_wp2_with fail
        refine (divMod_any na nb (by omega) (by omega)).mono ?_
        rintro e w1 ⟨A1, c1, l1, B1, d1, r1, rfl, nq1, nr1, iq1, ir1, mq1, mr1, b1⟩
        rw [if_neg hz.out] at iq1 ir1
        rw [if_neg hz.out]
        have iq1' := Lib.hid iq1
        have ir1' := Lib.hid ir1
        clear iq1 ir1
        go_wp2_with fail
        refine (refDivMod_any (na.below b1) (nb.below b1) hcb.out (by omega) (by omega)).mono ?_
        rintro e w2 ⟨A2, c2, l2, B2, d2, r2, rfl, nq2, nr2, iq2, ir2, mq2, mr2, b2⟩
        rw [if_neg hz.out] at iq2 ir2
        rw [if_neg hz.out]
        have b12 := b1.trans (b2.mono b1.size)
        have e1 := Lib.hid (decide_eq_true (iq1'.out.uniq iq2))
        have e2 := Lib.hid (decide_eq_true (ir1'.out.uniq ir2))
        clear iq2 ir2
        go_wp2_with fail
        refine (same_any (nq1.below b2) nq2).mono ?_
        rintro e w3 ⟨rfl, b3⟩
        have b13 := b12.trans (b3.mono b12.size)
        rw [e1.out]
        go_wp2_with fail
        refine (same_any ((nr1.below b2).below b3) (nr2.below b3)).mono ?_
        rintro e w4 ⟨rfl, b4⟩
        have b14 := b13.trans (b4.mono b13.size)
        rw [e2.out]
        go_wp2_with fail
        refine (cmp_any (((nr1.below b2).below b3).below b4) (nb.below b14)).mono ?_
        rintro e w5 ⟨rfl, b5⟩
        have b15 := b14.trans (b5.mono b14.size)
        obtain ⟨cc, hcc⟩ : ∃ cc, Hid (cmpI (val r1) (val lb) = cc) := ⟨_, rfl⟩
        rw [hcc.out]
        have hdc : decide (cc < 0) = true := decide_eq_true (by
          rw [← hcc.out, cmpI_neg_iff, ir1'.out.val]
          exact Nat.mod_lt _ (Nat.pos_of_ne_zero hz.out))
        go_wp2_with fail
        refine (mul_any _ _ _ _ _ _ _ ((((nq1.below b2).below b3).below b4).below b5) (nb.below b15) (by omega) (by omega)).mono ?_
        rintro e w6 ⟨A6, c6, l6, rfl, n6, i6, m6, b6⟩
        have b16 := b15.trans (b6.mono b15.size)
        have i6' := Lib.hid (show NatIs l6 (val la / val lb * val lb) by have h := i6; rw [iq1'.out.val] at h; exact h)
        clear i6
        go_wp2_with fail
        refine (add_any _ _ _ _ _ _ _ n6 (((((nr1.below b2).below b3).below b4).below b5).below b6) (by omega) (by omega)).mono ?_
        rintro e w7 ⟨A7, c7, l7, rfl, n7, i7, m7, b7⟩
        have b17 := b16.trans (b7.mono b16.size)
        have e7 := Lib.hid (decide_eq_true (show l7 = la from by
          have h := i7
          rw [i6'.out.val, ir1'.out.val, Nat.mul_comm, Nat.div_add_mod] at h
          exact h.uniq ia'.out))
        clear i7
        go_wp2_with fail
        refine (same_any n7 (na.below b17)).mono ?_
        rintro e w8 ⟨rfl, b8⟩
        have b18 := b17.trans (b8.mono b17.size)
        rw [e7.out]
        go_wp2_with fail
        refine (lives_any _).mono ?_
        rintro e w9 ⟨rfl, b9⟩
        have b19 := b18.trans (b9.mono b18.size)
        go_wp2
        go_ret
        exact ⟨rfl, b19⟩
    · have fb' := Lib.hid (eq_false_of_ne_true fb)
      have fa' := Lib.hid fa
      clear fa fb
      go_enter Try.func5, Try.ntmps5
      go_wp2_with fail
      refine (valid_row ra).mono ?_
      rintro e w1 ⟨rfl, rfl⟩
      go_wp2_with fail
      refine (refValid_row ra).mono ?_
      rintro e w1 ⟨rfl, rfl⟩
      obtain ⟨vb, hvb⟩ : ∃ vb, Hid (validL la = vb) := ⟨_, rfl⟩
      rw [hvb.out]
      go_wp2_with fail
      refine (few_row ra 10 _ rfl (by omega)).mono ?_
      rintro e w1 ⟨rfl, rfl⟩
      rw [fa'.out]
      go_wp2_with fail
      refine (few_row rb 10 _ rfl (by omega)).mono ?_
      rintro e w1 ⟨rfl, rfl⟩
      rw [fb'.out]
      go_wp2_with fail
      refine (lives_any _).mono ?_
      rintro e w1 ⟨rfl, bel⟩
      go_wp2
      go_ret
      exact ⟨rfl, bel⟩
  · have fa' := Lib.hid (eq_false_of_ne_true fa)
    clear fa
    go_enter Try.func5, Try.ntmps5
    go_wp2_with fail
    refine (valid_row ra).mono ?_
    rintro e w1 ⟨rfl, rfl⟩
    go_wp2_with fail
    refine (refValid_row ra).mono ?_
    rintro e w1 ⟨rfl, rfl⟩
    obtain ⟨vb, hvb⟩ : ∃ vb, Hid (validL la = vb) := ⟨_, rfl⟩
    rw [hvb.out]
    go_wp2_with fail
    refine (few_row ra 10 _ rfl (by omega)).mono ?_
    rintro e w1 ⟨rfl, rfl⟩
    rw [fa'.out]
    go_wp2_with fail
    refine (lives_any _).mono ?_
    rintro e w1 ⟨rfl, bel⟩
    go_wp2
    go_ret
    exact ⟨rfl, bel⟩

/-! ### THE ROW's STEP: WRITTEN OUT: LEAVE IT -/
set_option maxRecDepth 100000 in
theorem lifted (os : Os) (started : os.Started) (H : Type) (enc : TypeId × Value → H) :
    ReturnsInHanded {} Try.checked os 5 .any (Rows.naturalDividesSpec.pre6 enc Try.prog Try.f5 Rows.naturalDividesRow.domain false) (Rows.naturalDividesSpec.post enc Try.prog Try.f5 false true false false) := by
  refine returnsInHanded_of_change (C := Try.checked) own started (by kernel_rfl) Try.func5
    (ChangeSpec.witness6 (enc := enc) (C := Try.checked) false ⟨#[], #[.slice none 0 0, .slice none 0 0], []⟩ 8 (by kernel_rfl) (by kernel_rfl) (by kernel_rfl) (by kernel_rfl)) ?_
  intro W base args ds gs before hval0 hW hcnd _
  have hval : ∀ (j : Nat) t v, Try.f5.params[j]? = some t → args[j]? = some v → Value.okWide Try.prog W .any base t v := hval0
  have hW' := hW
  obtain ⟨p, q, hA0, hV, rfl, hfz, hnd⟩ := hW
  have hA : DataW.TrodAll enc Try.prog W 0 (fun _ => true) true Try.f5.params.toList args.toList ds p := hA0
  rw [Try.params5] at hA hval
  obtain ⟨v0, vs0, d0, ds0, p0, q0, hargs, rfl, rfl, h0, r0⟩ := trodAll_cons hA
  obtain ⟨v1, vs1, d1, ds1, p1, q1, rfl, rfl, rfl, h1, r1⟩ := trodAll_cons r0
  obtain ⟨rfl, rfl, rfl⟩ := trodAll_nil r1
  obtain rfl : args = #[v0, v1] := by cases args; simp_all
  obtain ⟨rfl, rfl⟩ := trodVars_none hV
  obtain ⟨a0, len0, cap0, rfl⟩ := okWide_slice Try.underlying38 (hval 0 38 v0 rfl rfl)
  have k0 := h0
  have lt0 : ∀ x ∈ p0, x.block < W.heap.size := by obtain ⟨m, hm⟩ := k0; exact DataW.trod_lt m _ _ _ hm
  obtain ⟨z0, w0⟩ : ∃ zs, IsRow .u32 W a0 len0 cap0 zs := by
    obtain ⟨fuel, hf⟩ := h0
    rcases open_ints Try.underlying38 Try.underlying78 (by kernel_rfl) hf with ⟨hcs, _⟩ | ⟨x, l, c, zs, hcs, _, hl, hm, hz, _, hcell, hwz⟩
    · simp [Value.cells] at hcs
      obtain ⟨rfl, rfl, rfl⟩ := hcs
      exact ⟨[], .inl ⟨rfl, rfl, rfl, rfl⟩⟩
    · simp [Value.cells] at hcs
      obtain ⟨rfl, rfl, rfl⟩ := hcs
      exact ⟨zs, .inr ⟨_, rfl, hl, hm, by simpa using hz, hcell, hwz⟩⟩
  obtain ⟨a1, len1, cap1, rfl⟩ := okWide_slice Try.underlying38 (hval 1 38 v1 rfl rfl)
  have k1 := h1
  have lt1 : ∀ x ∈ p1, x.block < W.heap.size := by obtain ⟨m, hm⟩ := k1; exact DataW.trod_lt m _ _ _ hm
  obtain ⟨z1, w1⟩ : ∃ zs, IsRow .u32 W a1 len1 cap1 zs := by
    obtain ⟨fuel, hf⟩ := h1
    rcases open_ints Try.underlying38 Try.underlying78 (by kernel_rfl) hf with ⟨hcs, _⟩ | ⟨x, l, c, zs, hcs, _, hl, hm, hz, _, hcell, hwz⟩
    · simp [Value.cells] at hcs
      obtain ⟨rfl, rfl, rfl⟩ := hcs
      exact ⟨[], .inl ⟨rfl, rfl, rfl, rfl⟩⟩
    · simp [Value.cells] at hcs
      obtain ⟨rfl, rfl, rfl⟩ := hcs
      exact ⟨zs, .inr ⟨_, rfl, hl, hm, by simpa using hz, hcell, hwz⟩⟩
  clear hA0 hval0
  refine (walk a0 len0 cap0 z0 a1 len1 cap1 z1 W w0 w1).mono fun e W' ⟨he, bel⟩ => ?_
  subst he
  exact ⟨_, rfl, _, _, _, [], _, [], hW', trodAll_mk1 (shut_bool Try.underlying4 _), (trodAll_cons_mk (Below.trod laidOut (by kernel_rfl) (of_decide_eq_true (by kernel_rfl)) k0 bel lt0) (trodAll_cons_mk (Below.trod laidOut (by kernel_rfl) (of_decide_eq_true (by kernel_rfl)) k1 bel lt1) trodAll_mk0)), rfl, bel.frame _, fun h => by cases h⟩

theorem over : Rows.naturalDividesRow.holds Try.pinned (OpenSpec.ofChange Rows.naturalDividesSpec) :=
  OpenClaim.holds_of_wide 5 Try.f5 rfl rfl rfl rfl rfl rfl rfl ⟨rfl, rfl, rfl, rfl, rfl⟩ rfl rfl rfl rfl rfl (by kernel_rfl) Try.func5 (by kernel_rfl)
    (of_decide_eq_true (by kernel_rfl)) (by unfold Func.isWrapper; first | (rw [if_pos (by decide +kernel)]; kernel_rfl) | (rw [if_neg (by decide +kernel)]; exact ⟨rfl, rfl⟩))
    (fun os started H enc _ => lifted os started H enc)

/-- ████ THE STATEMENT ████ -/
theorem proved : Rows.NaturalDividesSaid := over
#print axioms proved
end Go.Proofs.Ytkbibdbojdbfkaa.naturalDivides
