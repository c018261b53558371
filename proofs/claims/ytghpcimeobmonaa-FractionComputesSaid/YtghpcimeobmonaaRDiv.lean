/- Long division, binary digit by binary digit: plain arithmetic. -/
import Derived.Test.YtghpcimeobmonaaRMath
namespace Go.Proofs.Ytghpcimeobmonaa
set_option linter.unusedVariables false
set_option linter.unusedSimpArgs false
open Plain

theorem half_step (a j : Nat) : a / 2 ^ j = 2 * (a / 2 ^ (j + 1)) + a / 2 ^ j % 2 := by
  rw [Nat.pow_succ, ← Nat.div_div_eq_div_mul]
  omega
theorem ldiv_lt {a b Q R Q2 R2 j : Nat} (h : Q * b + R = a / 2 ^ (j + 1)) (h2 : Q2 = Q + Q) (h3 : R2 = R + R + a / 2 ^ j % 2) : Q2 * b + R2 = a / 2 ^ j := by
  rw [half_step a j, ← h, h2, h3, Nat.add_mul]
  omega
theorem ldiv_ge {a b Q R Q2 R2 j : Nat} (h : Q * b + R = a / 2 ^ (j + 1)) (h2 : Q2 = Q + Q + 1) (h3 : R2 = R + R + a / 2 ^ j % 2 - b) (hb : b ≤ R + R + a / 2 ^ j % 2) : Q2 * b + R2 = a / 2 ^ j := by
  rw [half_step a j, ← h, h2, h3, Nat.add_mul, Nat.add_mul, Nat.one_mul]
  omega
theorem ldiv_end {a b Q R : Nat} (h : Q * b + R = a / 2 ^ 0) (hR : R < b) : Q = a / b ∧ R = a % b := by
  rw [Nat.pow_zero, Nat.div_one] at h
  have hb : 0 < b := by omega
  subst h
  refine ⟨?_, ?_⟩
  · rw [Nat.add_comm, Nat.add_mul_div_right _ _ hb, Nat.div_eq_of_lt hR, Nat.zero_add]
  · rw [Nat.add_comm, Nat.add_mul_mod_self_right, Nat.mod_eq_of_lt hR]
end Go.Proofs.Ytghpcimeobmonaa
