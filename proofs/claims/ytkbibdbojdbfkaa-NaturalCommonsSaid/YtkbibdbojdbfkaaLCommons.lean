/- The statement NaturalCommons of the given program: the law returns true for every input, and writes nothing that was there. The walk is proved over the contracts of the functions it calls. -/
import Derived.Test.YtkbibdbojdbfkaaRows
import Derived.Test.YtkbibdbojdbfkaaLRow
import Derived.Test.YtkbibdbojdbfkaaWRef7
import Derived.Test.YtkbibdbojdbfkaaWGcd
import Derived.WalkKit
import Derived.ProofKit
import Derived.OpenShut
import Derived.ShutString
import Derived.ChangeOld
import Derived.Below
namespace Go.Proofs.Ytkbibdbojdbfkaa.naturalCommons
open Go.ChangeShapes Go.WideShapes Go.ChangeAt Go.RowKit
open Plain
open Go.ChangeMaps (open_string shut_string)
set_option linter.unusedVariables false
set_option linter.unusedSimpArgs false

theorem own : ownKnob Try.prog.godebug = none := by kernel_rfl
theorem laidOut : laidOutB Try.prog = true := by kernel_rfl

/-- WHAT THE WALK IS TOLD OF A SLICE OF INTEGERS THAT CAME IN: it is nil; or it leads to a row of 'cap' cells, the numbers 'zs' (the first 'len' are its elements, the rest its spare room), each fitting its kind. -/
def IsRow (k : IntKind) (w : World) (a : Option Addr) (len cap : Nat) (zs : List Int) : Prop :=
  (a = none ∧ len = 0 ∧ cap = 0 ∧ zs = []) ∨
  ∃ x, a = some x ∧ len ≤ cap ∧ cap ≤ maxLen ∧ zs.length = cap ∧ (∀ i, i < zs.length → w.cell? (x.add i) = some (.int k (zs.getD i 0))) ∧ ∀ n ∈ zs, (Lit.int k n).wf = true

theorem gcd_len {l la lb : List Nat} (h : NatIs l (Nat.gcd (val la) (val lb))) (ha : Dig la) (hb : Dig lb) (ka : la.length ≤ 6) (kb : lb.length ≤ 6) : l.length ≤ 6 := by
  refine length_le_of_lt h.canon ?_
  rw [h.val]
  have h1 := Nat.lt_of_lt_of_le (val_lt ha) (pw_mono ka)
  have h2 := Nat.lt_of_lt_of_le (val_lt hb) (pw_mono kb)
  rcases Nat.eq_zero_or_pos (val la) with h0 | h0
  · rw [h0, Nat.gcd_zero_left]; exact h2
  · exact Nat.lt_of_le_of_lt (Nat.gcd_le_left _ h0) h1
theorem gcd_zero {l la lb : List Nat} (h : NatIs l (Nat.gcd (val la) (val lb))) (ha : NatIs la (val la)) (hb : NatIs lb (val lb)) (hz : l.length = 0) : la = [] ∧ lb = [] := by
  have h1 := h.zero_iff.1 (List.eq_nil_of_length_eq_zero hz)
  rw [Nat.gcd_eq_zero_iff] at h1
  exact ⟨ha.zero_iff.2 h1.1, hb.zero_iff.2 h1.2⟩
theorem walk (a0 : Option Addr) (len0 cap0 : Nat) (z0 : List Int) (a1 : Option Addr) (len1 cap1 : Nat) (z1 : List Int) (w : World) (w0 : IsRow .u32 w a0 len0 cap0 z0) (w1 : IsRow .u32 w a1 len1 cap1 z1) :
    Calls Try.prog 8 #[.slice a0 len0 cap0, .slice a1 len1 cap1] w fun e w' => e = .returned (.bool true) ∧ Below w.heap.size w w' := by
  obtain ⟨la, ha, rfl, ra⟩ := inRow_of w0
  obtain ⟨lb, hb, rfl, rb⟩ := inRow_of w1
  clear ha hb w0 w1
  by_cases fa : fewL la 6 = true
  · by_cases fb : fewL lb 6 = true
    · have la6 := fewL_le fa
      have lb6 := fewL_le fb
      have na := ra.nv (by omega)
      have nb := rb.nv (by omega)
      have fa' := Lib.hid fa
      have fb' := Lib.hid fb
      have ia' := Lib.hid (fewL_natIs ra.dig fa)
      have ib' := Lib.hid (fewL_natIs rb.dig fb)
      clear fa fb
      go_enter Try.func8, Try.ntmps8
      go_wp2_with fail
      refine (few_row ra 6 _ rfl (by omega)).mono ?_
      rintro e w1 ⟨rfl, rfl⟩
      rw [fa'.out]
      go_wp2_with fail
      refine (few_row rb 6 _ rfl (by omega)).mono ?_
      rintro e w1 ⟨rfl, rfl⟩
      rw [fb'.out]
      go_wp2_with fail
      refine (gcd_any na nb (by omega) (by omega)).mono ?_
      rintro e w1 ⟨A1, c1, l1, rfl, n1, i1, m1, b1⟩
      have i1' := Lib.hid i1
      have m1' := Lib.hid (gcd_len i1 ra.dig rb.dig la6 lb6)
      clear i1 m1
      go_wp2_with fail
      refine (refGcd_any (na.below b1) (nb.below b1) ia'.out.canon ib'.out.canon (by omega) (by omega)).mono ?_
      rintro e w2 ⟨A2, c2, l2, rfl, n2, i2, m2, b2⟩
      have e1 := Lib.hid (decide_eq_true (i1'.out.uniq i2))
      have b12 := b1.trans (b2.mono b1.size)
      clear i2 m2
      go_wp2_with fail
      refine (same_any (n1.below b2) n2).mono ?_
      rintro e w3 ⟨rfl, b3⟩
      have b13 := b12.trans (b3.mono b12.size)
      rw [e1.out]
      by_cases hz : l1.length = 0
      · have hab := gcd_zero i1'.out ia'.out ib'.out hz
        have t1 : (((l1.length : Nat) : Int) == 0) = true := by rw [hz]; rfl
        have t2 : (((la.length : Nat) : Int) == 0) = true := by rw [hab.1]; rfl
        have t3 : (((lb.length : Nat) : Int) == 0) = true := by rw [hab.2]; rfl
        clear hab hz
        go_wp2_with fail
        refine (lives_any _).mono ?_
        rintro e w5 ⟨rfl, b5⟩
        have b15 := b13.trans (b5.mono b13.size)
        go_wp2
        go_ret
        exact ⟨rfl, b15⟩
      · have hg0 := Lib.hid (show val l1 ≠ 0 from fun e => hz (by rw [(show NatIs l1 0 from ⟨i1'.out.dig, i1'.out.canon, e⟩).zero_iff.2 rfl]; rfl))
        have t1 : (((l1.length : Nat) : Int) == 0) = false := by rw [beq_eq_false_iff_ne]; omega
        clear hz
        go_wp2_with fail
        have n13 := (n1.below b2).below b3
        refine (divMod_any (na.below b13) n13 (by omega) (by have := m1'.out; omega)).mono ?_
        rintro e w4 ⟨A4, c4, q4, B4, d4, r4, rfl, nq4, nr4, iq4, ir4, mq4, mr4, b4⟩
        rw [if_neg hg0.out] at ir4
        rw [if_neg hg0.out]
        have t4 : (((r4.length : Nat) : Int) == 0) = true := by
          rw [i1'.out.val, Nat.mod_eq_zero_of_dvd (Nat.gcd_dvd_left _ _)] at ir4
          rw [ir4.zero_iff.2 rfl]; rfl
        clear iq4 ir4
        have b14 := b13.trans (b4.mono b13.size)
        go_wp2_with fail
        refine (divMod_any (nb.below b14) (n13.below b4) (by omega) (by have := m1'.out; omega)).mono ?_
        rintro e w5 ⟨A5, c5, q5, B5, d5, r5, rfl, nq5, nr5, iq5, ir5, mq5, mr5, b5⟩
        rw [if_neg hg0.out] at ir5
        rw [if_neg hg0.out]
        have t5 : (((r5.length : Nat) : Int) == 0) = true := by
          rw [i1'.out.val, Nat.mod_eq_zero_of_dvd (Nat.gcd_dvd_right _ _)] at ir5
          rw [ir5.zero_iff.2 rfl]; rfl
        clear iq5 ir5
        have b15 := b14.trans (b5.mono b14.size)
        go_wp2_with fail
        refine (lives_any _).mono ?_
        rintro e w6 ⟨rfl, b6⟩
        have b16 := b15.trans (b6.mono b15.size)
        go_wp2
        go_ret
        exact ⟨rfl, b16⟩
    · have fb' := Lib.hid (eq_false_of_ne_true fb)
      have fa' := Lib.hid fa
      clear fa fb
      go_enter Try.func8, Try.ntmps8
      go_wp2_with fail
      refine (few_row ra 6 _ rfl (by omega)).mono ?_
      rintro e w1 ⟨rfl, rfl⟩
      rw [fa'.out]
      go_wp2_with fail
      refine (few_row rb 6 _ rfl (by omega)).mono ?_
      rintro e w1 ⟨rfl, rfl⟩
      rw [fb'.out]
      go_wp2_with fail
      refine (lives_any _).mono ?_
      rintro e w1 ⟨rfl, bel⟩
      go_wp2
      go_ret
      exact ⟨rfl, bel⟩
  · have fa' := Lib.hid (eq_false_of_ne_true fa)
    clear fa
    go_enter Try.func8, Try.ntmps8
    go_wp2_with fail
    refine (few_row ra 6 _ rfl (by omega)).mono ?_
    rintro e w1 ⟨rfl, rfl⟩
    rw [fa'.out]
    go_wp2_with fail
    refine (lives_any _).mono ?_
    rintro e w1 ⟨rfl, bel⟩
    go_wp2
    go_ret
    exact ⟨rfl, bel⟩

/-! ### THE ROW's STEP: WRITTEN OUT: LEAVE IT -/
set_option maxRecDepth 100000 in
theorem lifted (os : Os) (started : os.Started) (H : Type) (enc : TypeId × Value → H) :
    ReturnsInHanded {} Try.checked os 8 .any (Rows.naturalCommonsSpec.pre6 enc Try.prog Try.f8 Rows.naturalCommonsRow.domain false) (Rows.naturalCommonsSpec.post enc Try.prog Try.f8 false true false false) := by
  refine returnsInHanded_of_change (C := Try.checked) own started (by kernel_rfl) Try.func8
    (ChangeSpec.witness6 (enc := enc) (C := Try.checked) false ⟨#[], #[.slice none 0 0, .slice none 0 0], []⟩ 8 (by kernel_rfl) (by kernel_rfl) (by kernel_rfl) (by kernel_rfl)) ?_
  intro W base args ds gs before hval0 hW hcnd _
  have hval : ∀ (j : Nat) t v, Try.f8.params[j]? = some t → args[j]? = some v → Value.okWide Try.prog W .any base t v := hval0
  have hW' := hW
  obtain ⟨p, q, hA0, hV, rfl, hfz, hnd⟩ := hW
  have hA : DataW.TrodAll enc Try.prog W 0 (fun _ => true) true Try.f8.params.toList args.toList ds p := hA0
  rw [Try.params8] at hA hval
  obtain ⟨v0, vs0, d0, ds0, p0, q0, hargs, rfl, rfl, h0, r0⟩ := trodAll_cons hA
  obtain ⟨v1, vs1, d1, ds1, p1, q1, rfl, rfl, rfl, h1, r1⟩ := trodAll_cons r0
  obtain ⟨rfl, rfl, rfl⟩ := trodAll_nil r1
  obtain rfl : args = #[v0, v1] := by cases args; simp_all
  obtain ⟨rfl, rfl⟩ := trodVars_none hV
  obtain ⟨a0, len0, cap0, rfl⟩ := okWide_slice Try.underlying38 (hval 0 38 v0 rfl rfl)
  have k0 := h0
  have lt0 : ∀ x ∈ p0, x.block < W.heap.size := by obtain ⟨m, hm⟩ := k0; exact DataW.trod_lt m _ _ _ hm
  obtain ⟨z0, w0⟩ : ∃ zs, IsRow .u32 W a0 len0 cap0 zs := by
    obtain ⟨fuel, hf⟩ := h0
    rcases open_ints Try.underlying38 Try.underlying78 (by kernel_rfl) hf with ⟨hcs, _⟩ | ⟨x, l, c, zs, hcs, _, hl, hm, hz, _, hcell, hwz⟩
    · simp [Value.cells] at hcs
      obtain ⟨rfl, rfl, rfl⟩ := hcs
      exact ⟨[], .inl ⟨rfl, rfl, rfl, rfl⟩⟩
    · simp [Value.cells] at hcs
      obtain ⟨rfl, rfl, rfl⟩ := hcs
      exact ⟨zs, .inr ⟨_, rfl, hl, hm, by simpa using hz, hcell, hwz⟩⟩
  obtain ⟨a1, len1, cap1, rfl⟩ := okWide_slice Try.underlying38 (hval 1 38 v1 rfl rfl)
  have k1 := h1
  have lt1 : ∀ x ∈ p1, x.block < W.heap.size := by obtain ⟨m, hm⟩ := k1; exact DataW.trod_lt m _ _ _ hm
  obtain ⟨z1, w1⟩ : ∃ zs, IsRow .u32 W a1 len1 cap1 zs := by
    obtain ⟨fuel, hf⟩ := h1
    rcases open_ints Try.underlying38 Try.underlying78 (by kernel_rfl) hf with ⟨hcs, _⟩ | ⟨x, l, c, zs, hcs, _, hl, hm, hz, _, hcell, hwz⟩
    · simp [Value.cells] at hcs
      obtain ⟨rfl, rfl, rfl⟩ := hcs
      exact ⟨[], .inl ⟨rfl, rfl, rfl, rfl⟩⟩
    · simp [Value.cells] at hcs
      obtain ⟨rfl, rfl, rfl⟩ := hcs
      exact ⟨zs, .inr ⟨_, rfl, hl, hm, by simpa using hz, hcell, hwz⟩⟩
  clear hA0 hval0
  refine (walk a0 len0 cap0 z0 a1 len1 cap1 z1 W w0 w1).mono fun e W' ⟨he, bel⟩ => ?_
  subst he
  exact ⟨_, rfl, _, _, _, [], _, [], hW', trodAll_mk1 (shut_bool Try.underlying4 _), (trodAll_cons_mk (Below.trod laidOut (by kernel_rfl) (of_decide_eq_true (by kernel_rfl)) k0 bel lt0) (trodAll_cons_mk (Below.trod laidOut (by kernel_rfl) (of_decide_eq_true (by kernel_rfl)) k1 bel lt1) trodAll_mk0)), rfl, bel.frame _, fun h => by cases h⟩

theorem over : Rows.naturalCommonsRow.holds Try.pinned (OpenSpec.ofChange Rows.naturalCommonsSpec) :=
  OpenClaim.holds_of_wide 8 Try.f8 rfl rfl rfl rfl rfl rfl rfl ⟨rfl, rfl, rfl, rfl, rfl⟩ rfl rfl rfl rfl rfl (by kernel_rfl) Try.func8 (by kernel_rfl)
    (of_decide_eq_true (by kernel_rfl)) (by unfold Func.isWrapper; first | (rw [if_pos (by decide +kernel)]; kernel_rfl) | (rw [if_neg (by decide +kernel)]; exact ⟨rfl, rfl⟩))
    (fun os started H enc _ => lifted os started H enc)

/-- ████ THE STATEMENT ████ -/
theorem proved : Rows.NaturalCommonsSaid := over
#print axioms proved
end Go.Proofs.Ytkbibdbojdbfkaa.naturalCommons
