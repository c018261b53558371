/- LEB128 and zigzag: plain arithmetic. No program in sight. -/
import Derived.Test.YtkbibdbojdbfkaaNat
namespace Go.Proofs.Ytkbibdbojdbfkaa.Plain
set_option linter.unusedVariables false
set_option linter.unusedSimpArgs false

/-- The bytes of a number, seven bits each, the lowest first. -/
def lebF : Nat → Nat → List Nat
  | 0, x => [x]
  | f + 1, x => if x < 128 then [x] else (x % 128 + 128) :: lebF f (x / 128)
def leb (x : Nat) : List Nat := lebF x x
theorem lebF_fuel : ∀ (f g x : Nat), x ≤ f → x ≤ g → lebF f x = lebF g x
  | 0, 0, _, _, _ => rfl
  | 0, g + 1, x, h, _ => by
    have : x = 0 := by omega
    subst this; rfl
  | f + 1, 0, x, _, h => by
    have : x = 0 := by omega
    subst this; rfl
  | f + 1, g + 1, x, h1, h2 => by
    simp only [lebF]
    split
    · rfl
    · rw [lebF_fuel f g (x / 128) (by omega) (by omega)]
theorem leb_small {x : Nat} (h : x < 128) : leb x = [x] := by
  unfold leb
  cases x with
  | zero => rfl
  | succ x => simp only [lebF]; rw [if_pos h]
theorem leb_big {x : Nat} (h : ¬ x < 128) : leb x = (x % 128 + 128) :: leb (x / 128) := by
  obtain ⟨m, rfl⟩ : ∃ m, x = m + 1 := ⟨x - 1, by omega⟩
  show lebF (m + 1) (m + 1) = _
  simp only [lebF]
  rw [if_neg h]
  congr 1
  exact lebF_fuel _ _ _ (by omega) (Nat.le_refl _)
theorem leb_len : ∀ (k x : Nat), x < 128 ^ (k + 1) → (leb x).length ≤ k + 1
  | 0, x, h => by rw [leb_small (by simpa using h)]; simp
  | k + 1, x, h => by
    by_cases hs : x < 128
    · rw [leb_small hs]; simp
    · rw [leb_big hs, List.length_cons]
      have := leb_len k (x / 128) (by rw [Nat.div_lt_iff_lt_mul (by omega), ← Nat.pow_succ]; exact h)
      omega
theorem leb_len10 {x : Nat} (h : x < 18446744073709551616) : (leb x).length ≤ 10 := leb_len 9 x (by omega)
theorem leb_pos (x : Nat) : 0 < (leb x).length := by
  by_cases h : x < 128
  · rw [leb_small h]; simp
  · rw [leb_big h]; simp
theorem leb_byte : ∀ (f x : Nat), x ≤ f → ∀ b ∈ leb x, b < 256
  | 0, x, h, b, hb => by
    rw [leb_small (by omega)] at hb
    simp at hb; omega
  | f + 1, x, h, b, hb => by
    by_cases hs : x < 128
    · rw [leb_small hs] at hb
      simp at hb; omega
    · rw [leb_big hs] at hb
      rcases List.mem_cons.1 hb with rfl | hb
      · omega
      · exact leb_byte f (x / 128) (by omega) b hb
theorem leb_lt (x : Nat) : ∀ b ∈ leb x, b < 256 := leb_byte x x (Nat.le_refl _)

/-- A signed integer as an unsigned one. -/
def zig (x : Int) : Nat := if 0 ≤ x then (2 * x).toNat else (-2 * x - 1).toNat
def zag (n : Nat) : Int := if n % 2 = 0 then (n / 2 : Nat) else -((n / 2 : Nat) : Int) - 1
theorem zag_zig (x : Int) : zag (zig x) = x := by
  unfold zag zig
  split <;> split <;> omega
theorem zig_zag (n : Nat) : zig (zag n) = n := by
  unfold zag zig
  split <;> split <;> omega
theorem zig_lt {x : Int} (h1 : -9223372036854775808 ≤ x) (h2 : x ≤ 9223372036854775807) : zig x < 18446744073709551616 := by
  unfold zig
  split <;> omega
theorem zag_bd {n : Nat} (h : n < 18446744073709551616) : -9223372036854775808 ≤ zag n ∧ zag n ≤ 9223372036854775807 := by
  unfold zag
  split <;> omega

/-- Reading a number: the i-th byte is next, y is what the bytes before it say: the error, or 0 with the number and the count of its bytes. -/
def rdF (l : List Nat) : Nat → Nat → Nat → Nat × Nat × Nat
  | 0, _, _ => (0, 0, 0)
  | f + 1, i, y =>
    if l.length ≤ i then (1, 0, 0)
    else if (i = 9 ∧ 1 < l.getD i 0) ∨ (0 < i ∧ l.getD i 0 = 0) then (2, 0, 0)
    else if l.getD i 0 < 128 then (0, y + l.getD i 0 % 128 * 2 ^ (7 * i), i + 1)
    else rdF l f (i + 1) (y + l.getD i 0 % 128 * 2 ^ (7 * i))
def rdU (l : List Nat) : Nat × Nat × Nat := rdF l 10 0 0
theorem rdF_short {l : List Nat} {f i y : Nat} (h : l.length ≤ i) : rdF l (f + 1) i y = (1, 0, 0) := by simp only [rdF]; rw [if_pos h]
theorem rdF_form {l : List Nat} {f i y : Nat} (h : i < l.length) (h2 : (i = 9 ∧ 1 < l.getD i 0) ∨ (0 < i ∧ l.getD i 0 = 0)) : rdF l (f + 1) i y = (2, 0, 0) := by
  simp only [rdF]; rw [if_neg (by omega), if_pos h2]
theorem rdF_end {l : List Nat} {f i y : Nat} (h : i < l.length) (h2 : ¬ ((i = 9 ∧ 1 < l.getD i 0) ∨ (0 < i ∧ l.getD i 0 = 0))) (h3 : l.getD i 0 < 128) : rdF l (f + 1) i y = (0, y + l.getD i 0 * 2 ^ (7 * i), i + 1) := by
  simp only [rdF]; rw [if_neg (by omega), if_neg h2, if_pos h3, Nat.mod_eq_of_lt h3]
theorem rdF_next {l : List Nat} {f i y : Nat} (h : i < l.length) (h2 : ¬ ((i = 9 ∧ 1 < l.getD i 0) ∨ (0 < i ∧ l.getD i 0 = 0))) (h3 : ¬ l.getD i 0 < 128) : rdF l (f + 1) i y = rdF l f (i + 1) (y + l.getD i 0 % 128 * 2 ^ (7 * i)) := by
  simp only [rdF]; rw [if_neg (by omega), if_neg h2, if_neg h3]
theorem pow7 (i : Nat) : 2 ^ (7 * (i + 1)) = 128 * 2 ^ (7 * i) := by rw [Nat.mul_succ, Nat.pow_add, Nat.mul_comm]
theorem pow7_le {i : Nat} (h : i ≤ 9) : 2 ^ (7 * i) ≤ 9223372036854775808 := by
  have := Nat.pow_le_pow_right (n := 2) (by omega) (show 7 * i ≤ 63 by omega)
  simpa using this
theorem rdF_bd (l : List Nat) : ∀ (f i y : Nat), f + i = 10 → y < 2 ^ (7 * i) → (rdF l f i y).2.1 < 18446744073709551616 ∧ (rdF l f i y).2.2 ≤ l.length
  | 0, i, y, _, _ => by simp [rdF]
  | f + 1, i, y, hi, hy => by
    by_cases h1 : l.length ≤ i
    · rw [rdF_short h1]; simp
    by_cases h2 : (i = 9 ∧ 1 < l.getD i 0) ∨ (0 < i ∧ l.getD i 0 = 0)
    · rw [rdF_form (by omega) h2]; simp
    by_cases h3 : l.getD i 0 < 128
    · rw [rdF_end (by omega) h2 h3]
      refine ⟨?_, by simp; omega⟩
      have hp := pow7_le (i := i) (by omega)
      show y + l.getD i 0 * 2 ^ (7 * i) < _
      by_cases h9 : i = 9
      · have : l.getD i 0 ≤ 1 := by omega
        have := Nat.mul_le_mul_right (2 ^ (7 * i)) this
        omega
      · have h4 := Nat.mul_le_mul_right (2 ^ (7 * i)) (show l.getD i 0 ≤ 127 by omega)
        have h5 := pow7_le (i := i + 1) (by omega)
        rw [pow7] at h5
        omega
    · rw [rdF_next (by omega) h2 h3]
      have h9 : i ≠ 9 := by
        rintro rfl
        exact h2 (.inl ⟨rfl, by omega⟩)
      refine rdF_bd l f (i + 1) _ (by omega) ?_
      rw [pow7]
      have h4 := Nat.mul_le_mul_right (2 ^ (7 * i)) (show l.getD i 0 % 128 ≤ 127 by omega)
      omega
theorem rdU_bd (l : List Nat) : (rdU l).2.1 < 18446744073709551616 ∧ (rdU l).2.2 ≤ l.length := rdF_bd l 10 0 0 rfl (by decide)
theorem rdF_err (l : List Nat) : ∀ (f i y : Nat), (rdF l f i y).1 ≤ 2
  | 0, i, y => by simp [rdF]
  | f + 1, i, y => by
    simp only [rdF]
    split
    · simp
    · split
      · simp
      · split
        · simp
        · exact rdF_err l f _ _
theorem rdU_err (l : List Nat) : (rdU l).1 ≤ 2 := rdF_err l _ _ _
/-- What was written is read back. -/
theorem rdF_leb (r : List Nat) : ∀ (f i x y : Nat) (p : List Nat), f + i = 10 → p.length = i → x * 2 ^ (7 * i) < 18446744073709551616 → (0 < i → 0 < x) →
    rdF (p ++ leb x ++ r) f i y = (0, y + x * 2 ^ (7 * i), i + (leb x).length)
  | 0, i, x, y, p, hi, hp, hx, h0 => by
    obtain rfl : i = 10 := by omega
    have h1 := h0 (by omega)
    have h2 : 1 * 2 ^ (7 * 10) ≤ x * 2 ^ (7 * 10) := Nat.mul_le_mul_right _ h1
    simp at h2
    omega
  | f + 1, i, x, y, p, hi, hp, hx, h0 => by
    have hb : (p ++ leb x ++ r).getD i 0 = (leb x).getD 0 0 := by
      rw [List.append_assoc, List.getD_eq_getElem?_getD, List.getElem?_append_right (by omega), hp, Nat.sub_self, List.getElem?_append_left (leb_pos x), List.getD_eq_getElem?_getD]
    have hlen : i < (p ++ leb x ++ r).length := by
      simp only [List.length_append]
      have := leb_pos x
      omega
    have h9 : i = 9 → x ≤ 1 := by
      rintro rfl
      rcases Nat.lt_or_ge 1 x with h | h
      · have : 2 * 2 ^ (7 * 9) ≤ x * 2 ^ (7 * 9) := Nat.mul_le_mul_right _ h
        simp at this hx
        omega
      · exact h
    by_cases hs : x < 128
    · rw [leb_small hs] at hb ⊢
      simp only [List.getD_cons_zero] at hb
      rw [leb_small hs] at hlen
      rw [rdF_end hlen (by rw [hb]; omega) (by rw [hb]; exact hs), hb]
      rfl
    · have hb' : (p ++ leb x ++ r).getD i 0 = x % 128 + 128 := by rw [hb, leb_big hs]; rfl
      rw [rdF_next hlen (by rw [hb']; omega) (by rw [hb']; omega), hb']
      have e : p ++ leb x ++ r = (p ++ [x % 128 + 128]) ++ leb (x / 128) ++ r := by rw [leb_big hs]; simp
      have hm : x * 2 ^ (7 * i) = x % 128 * 2 ^ (7 * i) + x / 128 * 2 ^ (7 * (i + 1)) := by
        rw [pow7, ← Nat.mul_assoc, ← Nat.add_mul]
        congr 1
        omega
      rw [e, rdF_leb r f (i + 1) (x / 128) _ (p ++ [x % 128 + 128]) (by omega) (by simp [hp]) (by omega) (by omega), leb_big hs, List.length_cons]
      have e2 : (x % 128 + 128) % 128 = x % 128 := by omega
      rw [e2]
      congr 2
      · omega
      · omega
theorem rdU_leb (x : Nat) (r : List Nat) (hx : x < 18446744073709551616) : rdU (leb x ++ r) = (0, x, (leb x).length) := by
  have := rdF_leb r 10 0 x 0 [] rfl rfl (by simpa using hx) (by omega)
  simpa [rdU] using this
/-- What is read is what was written. -/
theorem rdF_take (l : List Nat) (hl : ∀ b ∈ l, b < 256) : ∀ (f i y x k : Nat), f + i = 10 → y < 2 ^ (7 * i) → 0 < f → rdF l f i y = (0, x, k) → ∃ z, x = y + z * 2 ^ (7 * i) ∧ (leb z).length + i = k ∧ (l.drop i).take (leb z).length = leb z ∧ (0 < i → 0 < z)
  | 0, i, y, x, k, hi, hy, hf, h => by omega
  | f + 1, i, y, x, k, hi, hy, hf, h => by
    by_cases h1 : l.length ≤ i
    · rw [rdF_short h1] at h; cases h
    by_cases h2 : (i = 9 ∧ 1 < l.getD i 0) ∨ (0 < i ∧ l.getD i 0 = 0)
    · rw [rdF_form (by omega) h2] at h; cases h
    have hd : l.drop i = l.getD i 0 :: l.drop (i + 1) := by
      rw [List.drop_eq_getElem_cons (by omega), List.getD_eq_getElem?_getD, List.getElem?_eq_getElem (by omega)]; rfl
    by_cases h3 : l.getD i 0 < 128
    · rw [rdF_end (by omega) h2 h3] at h
      simp only [Prod.mk.injEq] at h
      refine ⟨l.getD i 0, h.2.1.symm, by rw [leb_small h3]; simp; omega, ?_, by omega⟩
      rw [leb_small h3, hd]; simp
    · rw [rdF_next (by omega) h2 h3] at h
      have h9 : i ≠ 9 := by
        rintro rfl
        exact h2 (.inl ⟨rfl, by omega⟩)
      have hb : l.getD i 0 < 256 := by
        rw [List.getD_eq_getElem?_getD, List.getElem?_eq_getElem (by omega)]
        exact hl _ (List.getElem_mem _)
      obtain ⟨z, hz1, hz2, hz3, hz4⟩ := rdF_take l hl f (i + 1) _ x k (by omega) (by
        rw [pow7]
        have h4 := Nat.mul_le_mul_right (2 ^ (7 * i)) (show l.getD i 0 % 128 ≤ 127 by omega)
        omega) (by omega) h
      have hz0 := hz4 (by omega)
      have hns : ¬ (z * 128 + l.getD i 0 % 128) < 128 := by omega
      have e1 : (z * 128 + l.getD i 0 % 128) % 128 + 128 = l.getD i 0 := by omega
      have e2 : (z * 128 + l.getD i 0 % 128) / 128 = z := by omega
      refine ⟨z * 128 + l.getD i 0 % 128, ?_, ?_, ?_, by omega⟩
      · rw [hz1, pow7, Nat.add_mul, Nat.mul_assoc]
        omega
      · rw [leb_big hns, e2]; simp; omega
      · rw [leb_big hns, e1, e2, List.length_cons, hd, List.take_succ_cons, hz3]
theorem rdU_take {l : List Nat} {x k : Nat} (hl : ∀ b ∈ l, b < 256) (h : rdU l = (0, x, k)) : k = (leb x).length ∧ l.take k = leb x := by
  obtain ⟨z, h1, h2, h3, _⟩ := rdF_take l hl 10 0 0 x k rfl (by decide) (by omega) h
  simp at h1
  subst h1
  exact ⟨by omega, by rw [show k = (leb x).length by omega]; simpa using h3⟩
end Go.Proofs.Ytkbibdbojdbfkaa.Plain
