/- Decimal digits: plain arithmetic. -/
import Derived.Test.YtghpcimeobmonaaNat
namespace Go.Proofs.Ytghpcimeobmonaa.Plain
set_option linter.unusedVariables false
set_option linter.unusedSimpArgs false

/-- The decimal digits of a number, the lowest first; none of 0. -/
def decF : Nat → Nat → List Nat
  | 0, _ => []
  | f + 1, n => if n = 0 then [] else n % 10 :: decF f (n / 10)
def decR (n : Nat) : List Nat := decF n n
theorem decF_fuel : ∀ (f g n : Nat), n ≤ f → n ≤ g → decF f n = decF g n
  | 0, 0, _, _, _ => rfl
  | 0, g + 1, n, h, _ => by
    have : n = 0 := by omega
    subst this; rfl
  | f + 1, 0, n, _, h => by
    have : n = 0 := by omega
    subst this; rfl
  | f + 1, g + 1, n, h1, h2 => by
    simp only [decF]
    split
    · rfl
    · rw [decF_fuel f g (n / 10) (by omega) (by omega)]
theorem decR_zero : decR 0 = [] := rfl
theorem decR_pos {n : Nat} (h : n ≠ 0) : decR n = n % 10 :: decR (n / 10) := by
  obtain ⟨m, rfl⟩ : ∃ m, n = m + 1 := ⟨n - 1, by omega⟩
  show decF (m + 1) (m + 1) = _
  simp only [decF]
  rw [if_neg (by omega)]
  congr 1
  exact decF_fuel _ _ _ (by omega) (Nat.le_refl _)
theorem decR_small : ∀ (k n : Nat), n < 10 ^ k → (decR n).length ≤ k
  | 0, n, h => by
    have : n = 0 := by simpa using h
    subst this; simp [decR_zero]
  | k + 1, n, h => by
    by_cases h0 : n = 0
    · subst h0; simp [decR_zero]
    · rw [decR_pos h0, List.length_cons]
      have := decR_small k (n / 10) (by rw [Nat.div_lt_iff_lt_mul (by omega), ← Nat.pow_succ]; exact h)
      omega
theorem decR_lt10 : ∀ (f n : Nat), ∀ d ∈ decF f n, d < 10
  | 0, _, d, h => by simp [decF] at h
  | f + 1, n, d, h => by
    simp only [decF] at h
    split at h
    · simp at h
    · rcases List.mem_cons.1 h with rfl | h
      · omega
      · exact decR_lt10 f _ d h
/-- The value of decimal digits, the lowest first. -/
def decU : List Nat → Nat
  | [] => 0
  | d :: l => d + 10 * decU l
theorem decU_decR (n : Nat) : decU (decR n) = n := by
  induction n using Nat.strongRecOn with
  | _ n ih =>
    by_cases h0 : n = 0
    · subst h0; rfl
    · rw [decR_pos h0, decU, ih (n / 10) (by omega)]; omega
theorem decR_last {n : Nat} (h : n ≠ 0) : (decR n).getLast? ≠ some 0 := by
  induction n using Nat.strongRecOn with
  | _ n ih =>
    rw [decR_pos h]
    by_cases h1 : n / 10 = 0
    · rw [h1, decR_zero]; simp; omega
    · have := ih (n / 10) (by omega) h1
      rw [List.getLast?_cons]
      cases hl : (decR (n / 10)).getLast? with
      | none => rw [List.getLast?_eq_none_iff, decR_pos h1] at hl; cases hl
      | some x => rw [hl] at this; simpa using this
theorem decR_ne {n : Nat} (h : n ≠ 0) : decR n ≠ [] := by rw [decR_pos h]; simp
/-- The text of a number, as bytes. -/
def decs (n : Nat) : List Nat := if n = 0 then [48] else (decR n).reverse.map (48 + ·)
theorem decs_byte (n : Nat) : ∀ b ∈ decs n, 48 ≤ b ∧ b ≤ 57 := by
  intro b hb
  unfold decs at hb
  split at hb
  · simp at hb; omega
  · obtain ⟨d, hd, rfl⟩ := List.mem_map.1 hb
    have := decR_lt10 n n d (List.mem_reverse.1 hd)
    omega
theorem pw_le_ten (k : Nat) : pw k ≤ 10 ^ (10 * k) := by
  induction k with
  | zero => simp [pw]
  | succ k ih =>
    rw [pw, Nat.mul_succ, Nat.pow_add, Nat.mul_comm]
    exact Nat.mul_le_mul ih (by decide)
theorem decR_len {n k : Nat} (h : n < pw k) : (decR n).length ≤ 10 * k := decR_small _ _ (Nat.lt_of_lt_of_le h (pw_le_ten k))

/-- One decimal digit of a chunk: y = q * 10^k + r. -/
theorem chunk_step {q r k : Nat} (h : ¬ (q = 0 ∧ r = 0)) : decR (q * 10 ^ (k + 1) + r) = r % 10 :: decR (q * 10 ^ k + r / 10) := by
  have hp : 0 < 10 ^ k := Nat.pow_pos (by omega)
  have h0 : q * 10 ^ (k + 1) + r ≠ 0 := by
    intro e
    have h1 : q * 10 ^ (k + 1) = 0 := by omega
    have h2 : r = 0 := by omega
    rcases Nat.mul_eq_zero.1 h1 with h3 | h3
    · exact h ⟨h3, h2⟩
    · have := Nat.pow_pos (n := k + 1) (show 0 < 10 by omega)
      omega
  have e : q * 10 ^ (k + 1) = 10 * (q * 10 ^ k) := by rw [Nat.pow_succ, Nat.mul_comm _ 10, Nat.mul_left_comm]
  rw [decR_pos h0, e]
  congr 1
  · omega
  · congr 1; omega
end Go.Proofs.Ytghpcimeobmonaa.Plain
