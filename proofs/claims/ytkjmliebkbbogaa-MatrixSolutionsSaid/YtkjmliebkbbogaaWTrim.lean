/- Contracts of functions. -/
import Derived.Test.YtkjmliebkbbogaaMem
namespace Go.Proofs.Ytkjmliebkbbogaa
set_option linter.unusedVariables false
set_option linter.unusedSimpArgs false
open Go.RowKit Plain

set_option maxRecDepth 100000 in
set_option maxHeartbeats 400000 in
theorem trim_any (A : Option Addr) (c : Nat) (l : List Nat) (w : World) (h : Rd w A l) (hc : l.length ≤ c) (hm : l.length ≤ 70368744177664) :
    Calls Try.prog 85 #[.slice A l.length c] w fun e w' => e = .returned (.slice A (trimN l l.length) (trimN l l.length)) ∧ w = w' := by
  go_enter Try.func85, Try.ntmps85
  go_wp2
  go_loop [3] (fun n => ∃ k : Nat, k ≤ l.length ∧ n = .int .i64 k ∧ Hid (trimN l l.length = trimN l k)) (fun n => (intOf n).toNat)
  case atStart => exact ⟨_, Nat.le_refl _, rfl, rfl⟩
  case round =>
    obtain ⟨k, hk, rfl, hr⟩ := hrel
    rcases Nat.eq_zero_or_pos k with h0 | h0
    · subst h0
      go_wp2
      go_ret
      refine ⟨?_, rfl⟩
      rw [hr.out]
      rfl
    · obtain ⟨a, d, rfl, hb, hcell, hd⟩ := h.at (k := k - 1) (by omega)
      by_cases hz : d = 0
      · have e1 := Lib.hid (hr.out.trans (trimN_step h0 (hd.out.trans hz)))
        subst hz
        go_wp2
        go_round
        case rel => exact ⟨k - 1, by omega, by go_num, e1⟩
        case measure => simp [intOf]; omega
      · have e1 := Lib.hid (hr.out.trans (trimN_stop h0 (by rw [hd.out]; exact hz)))
        have hz' : ((d : Int) == 0) = false := by rw [beq_eq_false_iff_ne]; omega
        go_wp2
        go_ret
        refine ⟨?_, rfl⟩
        rw [e1.out]
        rfl

/-- 'trim' of a block of the call's own: the digits of its number. -/
theorem trim_row {g n : Nat} {l : List Nat} {w : World} (h : Row w g l) (hn : l.length = n) (hd : Dig l) (hm : n ≤ 70368744177664) :
    Calls Try.prog 85 #[.slice (some ⟨g, 0, none⟩) n n] w fun e w' => ∃ l', e = .returned (.slice (some ⟨g, 0, none⟩) l'.length l'.length) ∧ Nv w (some ⟨g, 0, none⟩) l'.length l' ∧ NatIs l' (val l) ∧ l'.length ≤ n ∧ w = w' := by
  subst hn
  refine (trim_any _ _ _ _ h.rd (Nat.le_refl _) hm).mono ?_
  rintro e w' ⟨rfl, rfl⟩
  refine ⟨trimL l, ?_, ⟨Nat.le_refl _, by rw [trimL_length]; have := trimN_le l l.length; omega, h.rd.take _, hd.trimL⟩, natIs_trimL hd, by rw [trimL_length]; exact trimN_le _ _, rfl⟩
  rw [trimL_length]
end Go.Proofs.Ytkjmliebkbbogaa
