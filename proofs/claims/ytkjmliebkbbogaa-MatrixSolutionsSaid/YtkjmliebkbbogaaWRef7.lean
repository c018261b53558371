/- The reference's GCD: what the calls do. -/
import Derived.Test.YtkjmliebkbbogaaWRef6
namespace Go.Proofs.Ytkjmliebkbbogaa
set_option linter.unusedVariables false
set_option linter.unusedSimpArgs false
open Go.RowKit Plain

set_option maxRecDepth 100000 in
set_option maxHeartbeats 1000000 in
theorem refGcd_any {A B : Option Addr} {ca cb : Nat} {la lb : List Nat} {w : World} (ha : Nv w A ca la) (hb : Nv w B cb lb) (hca : Canon la) (hcb : Canon lb) (hna : la.length ≤ 400000000) (hnb : lb.length ≤ 400000000) :
    Calls Try.prog 75 #[.slice A la.length ca, .slice B lb.length cb] w (RetNat (Nat.gcd (val la) (val lb)) 400000000 w) := by
  have ia : NatIs la (val la) := ⟨ha.dig, hca, rfl⟩
  have ib : NatIs lb (val lb) := ⟨hb.dig, hcb, rfl⟩
  go_enter Try.func75, Try.ntmps75
  go_wp2
  go_loopg [0, 1] (val lb) (fun g a b wr => GcdInv (Nat.gcd (val la) (val lb)) 400000000 w g a b wr)
  case atStart => exact ⟨A, ca, la, B, cb, lb, val la, val lb, rfl, rfl, ha, hb, ia, ib, rfl, rfl, hna, hnb, Below.refl _ _⟩
  case round =>
    obtain ⟨A, ca, la', B, cb, lb', x, y, rfl, rfl, h1, h2, n1, n2, rfl, hG, m1, m2, hbel⟩ := hrel
    have hg2 := h2.big
    by_cases hz : lb'.length = 0
    · have hy : Hid (gk = 0) := by
        have : lb' = [] := List.eq_nil_of_length_eq_zero hz
        show gk = 0
        exact (n2.zero_iff).1 this
      have hd : decide (0 < lb'.length) = false := decide_eq_false (by omega)
      have hG2 := Lib.hid (show val la' = Nat.gcd (val la) (val lb) by rw [n1.val, ← hG.out, hy.out, Nat.gcd_zero_right])
      go_wp2_with fail
      refine (refTrim_any h1 (by omega)).mono ?_
      rintro e w1 ⟨A1, c1, l1, rfl, k1, k2, k3, k4⟩
      go_wp2
      go_ret
      exact ⟨A1, c1, l1, rfl, k1, hG2.out ▸ k2, by omega, hbel.trans (k4.mono hbel.size)⟩
    · have hy : Hid (gk ≠ 0) := fun e => hz (by rw [(n2.zero_iff).2 e]; rfl)
      have hd : decide (0 < lb'.length) = true := decide_eq_true (by omega)
      clear hz
      go_wp2_with fail
      refine (refDivMod_any h1 h2 n2.canon (by omega) (by omega)).mono ?_
      rintro e w3 ⟨A3, c3, q, B3, d3, r, rfl, hq, hr, nq, nr, lq, lr, b3⟩
      rw [n2.val, if_neg hy.out] at nr
      rw [n2.val, if_neg hy.out]
      rw [n1.val] at nr
      have hlt := Lib.hid (Nat.mod_lt x (Nat.pos_of_ne_zero hy.out))
      have hrl := Lib.hid (show r.length ≤ 400000000 from Nat.le_trans (length_le_of_lt nr.canon (by
        have h := val_lt n2.dig
        rw [n2.val] at h
        rw [nr.val]
        exact Nat.lt_trans hlt.out h)) m2)
      go_wp2
      go_roundg (x % gk)
      case measure => exact hlt.out
      case rel => exact ⟨B, cb, lb', B3, d3, r, gk, x % gk, rfl, rfl, h2.below b3, hr, n2, nr, rfl, by show Nat.gcd _ _ = _; rw [gcd_step]; exact hG.out, m2, hrl.out, hbel.trans (b3.mono hbel.size)⟩
end Go.Proofs.Ytkjmliebkbbogaa
