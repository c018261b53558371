/- Binary digits of a list of digits: plain arithmetic. -/
import Derived.Test.YtghpcimeobmonaaNat
namespace Go.Proofs.Ytghpcimeobmonaa
set_option linter.unusedVariables false
set_option linter.unusedSimpArgs false
open Plain

theorem pw_bits (k : Nat) : pw k = 2 ^ (32 * k) := by
  induction k with
  | zero => rfl
  | succ k ih => rw [show 32 * (k + 1) = 32 * k + 32 by omega, Nat.pow_add, ← ih, pw_add k 1, pw_one]
theorem val_div_pw {l : List Nat} (hd : Dig l) (j : Nat) : val l / pw j = val (l.drop j) := by
  rcases Nat.lt_or_ge l.length j with h | h
  · rw [List.drop_eq_nil_of_le (by omega), val_nil]
    exact Nat.div_eq_of_lt (Nat.lt_of_lt_of_le (val_lt hd) (pw_mono (by omega)))
  · have h1 := val_take_drop l j h
    have h2 := val_take_lt hd j
    rw [← h1, Nat.add_mul_div_left _ _ (pw_pos j), Nat.div_eq_of_lt h2, Nat.zero_add]
theorem getD_ge {l : List Nat} {j : Nat} (h : l.length ≤ j) : l.getD j 0 = 0 := by
  rw [List.getD_eq_getElem?_getD, List.getElem?_eq_none h]; rfl
theorem val_drop_any (l : List Nat) (j : Nat) : val (l.drop j) = l.getD j 0 + 4294967296 * val (l.drop (j + 1)) := by
  rcases Nat.lt_or_ge j l.length with h | h
  · exact val_drop l j h
  · rw [getD_ge h, List.drop_eq_nil_of_le h, List.drop_eq_nil_of_le (by omega)]; rfl
theorem div_mod_low (x a b : Nat) (h : a + b ≤ 64) : x % 2 ^ 64 / 2 ^ a % 2 ^ b = x / 2 ^ a % 2 ^ b := by
  rw [show (2 : Nat) ^ 64 = 2 ^ a * 2 ^ (64 - a) by rw [← Nat.pow_add]; congr 1; omega, Nat.mod_mul_right_div_self]
  exact Nat.mod_mod_of_dvd _ (Nat.pow_dvd_pow 2 (by omega))
theorem div_bits (x i : Nat) : x / 2 ^ i = x / pw (i / 32) / 2 ^ (i % 32) := by
  rw [pw_bits, Nat.div_div_eq_div_mul, ← Nat.pow_add]
  congr 2
  omega
/-- One binary digit. -/
theorem bit_math {l : List Nat} (hd : Dig l) (i : Nat) : l.getD (i / 32) 0 / 2 ^ (i % 32) % 2 = val l / 2 ^ i % 2 := by
  have hr : i % 32 < 32 := Nat.mod_lt _ (by omega)
  rw [div_bits (val l), val_div_pw hd, val_drop_any]
  have h1 := div_mod_low (l.getD (i / 32) 0 + 4294967296 * val (l.drop (i / 32 + 1))) (i % 32) 1 (by omega)
  have h3 := hd.getD (i / 32)
  generalize hx : l.getD (i / 32) 0 = x at *
  generalize val (l.drop (i / 32 + 1)) = y at *
  generalize i % 32 = r at *
  rw [show (4294967296 : Nat) = 2 ^ r * 2 ^ (32 - r) by rw [← Nat.pow_add, show r + (32 - r) = 32 by omega], Nat.mul_assoc, Nat.add_mul_div_left _ _ (Nat.two_pow_pos r), show 32 - r = (31 - r) + 1 by omega, Nat.pow_succ, Nat.mul_comm _ 2, Nat.mul_assoc, Nat.add_mul_mod_self_left]
/-- One digit of the number without its lowest k binary digits. -/
theorem high_math {l : List Nat} (hd : Dig l) (k m : Nat) : val l / 2 ^ k / pw m % 4294967296 = (l.getD (k / 32 + m) 0 + 4294967296 * l.getD (k / 32 + m + 1) 0) / 2 ^ (k % 32) % 4294967296 := by
  have hr : k % 32 < 32 := Nat.mod_lt _ (by omega)
  have e1 : val l / 2 ^ k / pw m = val (l.drop (k / 32 + m)) / 2 ^ (k % 32) := by
    rw [div_bits (val l), Nat.div_div_eq_div_mul, Nat.mul_comm (2 ^ (k % 32)), ← Nat.div_div_eq_div_mul, Nat.div_div_eq_div_mul _ (pw (k / 32)), ← pw_add, val_div_pw hd]
  rw [e1, val_drop_any, val_drop_any l (k / 32 + m + 1)]
  have h2 := hd.getD (k / 32 + m)
  have h3 := hd.getD (k / 32 + m + 1)
  generalize l.getD (k / 32 + m) 0 = x at *
  generalize l.getD (k / 32 + m + 1) 0 = y at *
  generalize val (l.drop (k / 32 + m + 1 + 1)) = z at *
  have h := div_mod_low (x + 4294967296 * (y + 4294967296 * z)) (k % 32) 32 (by omega)
  rw [show (2 : Nat) ^ 32 = 4294967296 by rfl, show (2 : Nat) ^ 64 = 18446744073709551616 by rfl] at h
  rw [← h]
  congr 2
  omega
theorem high_step {o : List Nat} {N m d : Nat} (ho : o.length = m) (hv : val o = N % pw m) (hd : N / pw m % 4294967296 = d) : val (o ++ [d]) = N % pw (m + 1) := by
  rw [val_snoc, ho, hv, ← hd, show pw (m + 1) = pw m * 4294967296 by rw [pw_add, pw_one], Nat.mod_mul]
theorem high_fin {l o : List Nat} {k m : Nat} (hd : Dig l) (hm : l.length ≤ k / 32 + m) (hv : val o = val l / 2 ^ k % pw m) : val o = val l / 2 ^ k := by
  rw [hv]
  apply Nat.mod_eq_of_lt
  rw [div_bits (val l), val_div_pw hd]
  refine Nat.lt_of_le_of_lt (Nat.div_le_self _ _) (Nat.lt_of_lt_of_le (val_lt (hd.drop _)) (pw_mono ?_))
  rw [List.length_drop]
  omega
end Go.Proofs.Ytghpcimeobmonaa
/- Long division, binary digit by binary digit: plain arithmetic. -/
namespace Go.Proofs.Ytghpcimeobmonaa
set_option linter.unusedVariables false
set_option linter.unusedSimpArgs false
open Plain

theorem half_step (a j : Nat) : a / 2 ^ j = 2 * (a / 2 ^ (j + 1)) + a / 2 ^ j % 2 := by
  rw [Nat.pow_succ, ← Nat.div_div_eq_div_mul]
  omega
theorem ldiv_lt {a b Q R Q2 R2 j : Nat} (h : Q * b + R = a / 2 ^ (j + 1)) (h2 : Q2 = Q + Q) (h3 : R2 = R + R + a / 2 ^ j % 2) : Q2 * b + R2 = a / 2 ^ j := by
  rw [half_step a j, ← h, h2, h3, Nat.add_mul]
  omega
theorem ldiv_ge {a b Q R Q2 R2 j : Nat} (h : Q * b + R = a / 2 ^ (j + 1)) (h2 : Q2 = Q + Q + 1) (h3 : R2 = R + R + a / 2 ^ j % 2 - b) (hb : b ≤ R + R + a / 2 ^ j % 2) : Q2 * b + R2 = a / 2 ^ j := by
  rw [half_step a j, ← h, h2, h3, Nat.add_mul, Nat.add_mul, Nat.one_mul]
  omega
theorem ldiv_end {a b Q R : Nat} (h : Q * b + R = a / 2 ^ 0) (hR : R < b) : Q = a / b ∧ R = a % b := by
  rw [Nat.pow_zero, Nat.div_one] at h
  have hb : 0 < b := by omega
  subst h
  refine ⟨?_, ?_⟩
  · rw [Nat.add_comm, Nat.add_mul_div_right _ _ hb, Nat.div_eq_of_lt hR, Nat.zero_add]
  · rw [Nat.add_comm, Nat.add_mul_mod_self_right, Nat.mod_eq_of_lt hR]
end Go.Proofs.Ytghpcimeobmonaa
