/- natural.GCD, natural.Bits: what the calls do. -/
import Derived.Test.YtkjmliebkbbogaaWDivMod
namespace Go.Proofs.Ytkjmliebkbbogaa
set_option linter.unusedVariables false
set_option linter.unusedSimpArgs false
open Go.RowKit Plain

def GcdInv (G N : Nat) (w : World) (g : Nat) (a b : Value) (wr : World) : Prop :=
  ∃ A ca la B cb lb x y, a = .slice A la.length ca ∧ b = .slice B lb.length cb ∧ Nv wr A ca la ∧ Nv wr B cb lb ∧ NatIs la x ∧ NatIs lb y ∧ g = y ∧ Hid (Nat.gcd x y = G) ∧ la.length ≤ N ∧ lb.length ≤ N ∧ Below w.heap.size w wr

theorem gcd_step (x y : Nat) : Nat.gcd y (x % y) = Nat.gcd x y := by
  rw [Nat.gcd_comm x y, Nat.gcd_rec y x, Nat.gcd_comm]

set_option maxRecDepth 100000 in
set_option maxHeartbeats 1000000 in
theorem gcd_any {A B : Option Addr} {ca cb : Nat} {la lb : List Nat} {w : World} (ha : Nv w A ca la) (hb : Nv w B cb lb) (hna : la.length ≤ 400000000) (hnb : lb.length ≤ 400000000) :
    Calls Try.prog 93 #[.slice A la.length ca, .slice B lb.length cb] w (RetNat (Nat.gcd (val la) (val lb)) 400000001 w) := by
  go_enter Try.func93, Try.ntmps93
  go_wp2_with fail
  refine (add_any _ none _ 0 la [] _ ha (nv_nil _) (by omega) (by simp)).mono ?_
  rintro e w1 ⟨A1, c1, l1, rfl, h1, n1, m1, b1⟩
  go_wp2_with fail
  refine (add_any _ none _ 0 lb [] _ (hb.below b1) (nv_nil _) (by omega) (by simp)).mono ?_
  rintro e w2 ⟨A2, c2, l2, rfl, h2, n2, m2, b2⟩
  go_wp2
  go_loopg [0, 1] (val lb) (fun g a b wr => GcdInv (Nat.gcd (val la) (val lb)) 400000001 w g a b wr)
  case atStart => exact ⟨A1, c1, l1, A2, c2, l2, val la, val lb, rfl, rfl, h1.below b2, h2, n1, n2, rfl, rfl, by simp at m1; omega, by simp at m2; omega, b1.trans (b2.mono b1.size)⟩
  case round =>
    obtain ⟨A, ca, la', B, cb, lb', x, y, rfl, rfl, h1, h2, n1, n2, rfl, hG, m1, m2, hbel⟩ := hrel
    have hg2 := h2.big
    by_cases hz : lb'.length = 0
    · have hy : Hid (gk = 0) := by
        have : lb' = [] := List.eq_nil_of_length_eq_zero hz
        show gk = 0
        exact (n2.zero_iff).1 this
      have hd : decide (0 < lb'.length) = false := decide_eq_false (by omega)
      have hG2 := Lib.hid (show x = Nat.gcd (val la) (val lb) by rw [← hG.out, hy.out, Nat.gcd_zero_right])
      go_wp2
      go_ret
      exact ⟨A, ca, la', rfl, h1, hG2.out ▸ n1, m1, hbel⟩
    · have hy : Hid (gk ≠ 0) := fun e => hz (by rw [(n2.zero_iff).2 e]; rfl)
      have hd : decide (0 < lb'.length) = true := decide_eq_true (by omega)
      clear hz
      go_wp2_with fail
      refine (divMod_any h1 h2 (by omega) (by omega)).mono ?_
      rintro e w3 ⟨A3, c3, q, B3, d3, r, rfl, hq, hr, nq, nr, lq, lr, b3⟩
      rw [n2.val, if_neg hy.out] at nr
      rw [n2.val, if_neg hy.out]
      rw [n1.val] at nr
      have hlt := Lib.hid (Nat.mod_lt x (Nat.pos_of_ne_zero hy.out))
      have hrl := Lib.hid (show r.length ≤ 400000001 from Nat.le_trans (length_le_of_lt nr.canon (by
        have h := val_lt n2.dig
        rw [n2.val] at h
        rw [nr.val]
        exact Nat.lt_trans hlt.out h)) m2)
      go_wp2
      go_roundg (x % gk)
      case measure => exact hlt.out
      case rel => exact ⟨B, cb, lb', B3, d3, r, gk, x % gk, rfl, rfl, h2.below b3, hr, n2, nr, rfl, by show Nat.gcd _ _ = _; rw [gcd_step]; exact hG.out, m2, hrl.out, hbel.trans (b3.mono hbel.size)⟩

/-- The number of binary digits. -/
def bitLen (n : Nat) : Nat := if n = 0 then 0 else n.log2 + 1
theorem bitLen_eq {n b : Nat} (h1 : 2 ^ b ≤ n) (h2 : n < 2 ^ (b + 1)) : bitLen n = b + 1 := by
  have hn : n ≠ 0 := by have := Nat.two_pow_pos b; omega
  unfold bitLen
  rw [if_neg hn]
  have h3 := (Nat.le_log2 hn).2 h1
  have h4 := (Nat.log2_lt hn).2 h2
  omega
theorem pw_eq_two (k : Nat) : pw k = 2 ^ (32 * k) := by
  induction k with
  | zero => rfl
  | succ k ih => rw [pw, ih, Nat.mul_succ, Nat.pow_add, Nat.mul_comm]
theorem bitLen_top {l : List Nat} {m d k : Nat} (hl : l.length = m + 1) (hd : Dig l) (ht : l.getD m 0 = d) (h1 : 2 ^ k ≤ d) (h2 : d < 2 ^ (k + 1)) : bitLen (val l) = 32 * m + (k + 1) := by
  have h3 : val l = val (l.take m) + pw m * d := by rw [← val_take_ge l (m + 1) (by omega), val_take_succ, ht]
  have h4 := val_take_lt hd m
  rw [← Nat.add_assoc]
  apply bitLen_eq
  · rw [Nat.pow_add, ← pw_eq_two, h3]
    have : pw m * 2 ^ k ≤ pw m * d := Nat.mul_le_mul_left _ h1
    omega
  · rw [Nat.add_assoc, Nat.pow_add, ← pw_eq_two, h3]
    have : pw m * (d + 1) ≤ pw m * 2 ^ (k + 1) := Nat.mul_le_mul_left _ h2
    rw [Nat.mul_add, Nat.mul_one] at this
    omega

theorem bits_next' {d xv k : Nat} (hd : d < 4294967296) (hx : xv = d / 2 ^ k) (h0 : xv ≠ 0) : k + 1 ≤ 32 ∧ xv / 2 = d / 2 ^ (k + 1) ∧ 2 ^ (k + 1 - 1) ≤ d := by
  have h1 : 2 ^ k ≤ d := by
    rcases Nat.lt_or_ge d (2 ^ k) with h | h
    · exact absurd (by rw [hx, Nat.div_eq_of_lt h]) h0
    · exact h
  refine ⟨?_, ?_, h1⟩
  · rcases Nat.lt_or_ge k 32 with h | h
    · exact h
    · have : 2 ^ 32 ≤ 2 ^ k := Nat.pow_le_pow_right (by omega) h
      simp only [Nat.reducePow] at this
      omega
  · rw [hx, Nat.div_div_eq_div_mul, Nat.pow_succ]
theorem bits_end {l : List Nat} {m d k : Nat} (hl : l.length = m + 1) (hd : Dig l) (ht : l.getD m 0 = d) (hd0 : 0 < d) (hx : 0 = d / 2 ^ k) (hk : k = 0 ∨ 2 ^ (k - 1) ≤ d) : bitLen (val l) = 32 * m + k := by
  have h1 : d < 2 ^ k := by
    rcases Nat.lt_or_ge d (2 ^ k) with h | h
    · exact h
    · have := Nat.div_pos h (Nat.two_pow_pos k)
      omega
  cases k with
  | zero => simp at h1; omega
  | succ k =>
    rcases hk with h | h
    · omega
    · exact bitLen_top hl hd ht (by simpa using h) h1

def BitInv (d m : Nat) (n x : Value) : Prop := ∃ k xv : Nat, k ≤ 32 ∧ n = .int .i64 ((32 * m + k : Nat) : Int) ∧ x = .int .u32 (xv : Int) ∧ Hid (xv = d / 2 ^ k) ∧ Hid (k = 0 ∨ 2 ^ (k - 1) ≤ d)
end Go.Proofs.Ytkjmliebkbbogaa
