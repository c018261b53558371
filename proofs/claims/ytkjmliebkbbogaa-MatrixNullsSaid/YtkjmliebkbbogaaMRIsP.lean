/- R17 IsPivot: what the call does. -/
import Derived.Test.YtkjmliebkbbogaaMRFirst
import Derived.Test.YtkjmliebkbbogaaMRRank
import Derived.Deep.RegionHeld3
namespace Go.Proofs.Ytkjmliebkbbogaa
set_option linter.unusedVariables false
set_option linter.unusedSimpArgs false
open Go.RowKit Plain
attribute [local go_sem ↓] Go.wp_at_zero Go.wp_at_succ

theorem firstL_fits {K n : Nat} {M : Mat} (h : MFits K M) : MFits K (firstL M n) := fun r hr q hq => by
  obtain ⟨x, hx, rfl⟩ := List.mem_map.1 hr
  exact h x hx q (List.mem_of_mem_take hq)
theorem rect_rankRS {M : Mat} {n : Nat} (h : rect M n) : rankRS M = rankR M := by
  unfold rankRS
  rcases Nat.eq_zero_or_pos M.length with h0 | h0
  · have : M = [] := List.eq_nil_of_length_eq_zero h0
    subst this; rfl
  · rw [(rect_formed h h0).1]; rfl
theorem rect_cols {M : Mat} {n : Nat} (h : rect M n) : colsL M ≤ n := by
  cases M with
  | nil => exact Nat.zero_le _
  | cons r T => exact Nat.le_of_eq (h r List.mem_cons_self)
set_option maxRecDepth 100000 in
set_option maxHeartbeats 4000000 in
theorem isPivot_any {K N k : Nat} {A : Option Addr} {c : Nat} {rows : List RwD} {w : World} (h : ML w A c rows) (hr : rect (qsM rows) N) (hk : k < N) (hfm : MFits K (qsM rows)) (hK : 4 * gK K rows.length + 1 < 400000000) (hrn : rows.length < 1000000000) (hN : N < 1000000000) :
    Calls Try.prog 27 #[.slice A rows.length c, .int .i64 (k : Int)] w (RetB (isPivL (qsM rows) k) w) := by
  have hl := h.len
  obtain ⟨v, hv⟩ : ∃ v, Hid (isPivL (qsM rows) k = v) := ⟨_, rfl⟩
  rw [hv.out]
  have hr' := Lib.hid hr
  have hfm' := Lib.hid hfm
  clear hr hfm
  have hf1 := first_any (n := k + 1) h hr'.out (by omega) hrn hN
  have e1 : (((k + 1 : Nat) : Int)) = (k : Int) + 1 := by omega
  rw [e1] at hf1
  clear e1
  go_enter Try.func27, Try.ntmps27
  go_wp2_with fail
  refine hf1.mono ?_
  rintro e w1 ⟨A1, c1, r1, rfl, h1, q1, b1⟩
  clear hf1
  have l1 := Lib.hid (show r1.length = rows.length by rw [← qsM_len, q1.out]; unfold firstL; rw [List.length_map, qsM_len])
  have t1 := Lib.hid (show rect (qsM r1) (k + 1) by rw [q1.out]; exact firstL_rect hr'.out (by omega))
  have hlr1 := h1.len
  have hc1 := rrank_any h1 (by rw [q1.out]; exact firstL_fits hfm'.out) (by rw [l1.out]; exact hK) (by rw [l1.out]; exact hrn) (by have := rect_cols t1.out; omega)
  obtain ⟨x, hx⟩ : ∃ x, Hid (rankRS (qsM r1) = x) := ⟨_, rfl⟩
  rw [hx.out] at hc1
  go_wp2_with fail
  refine hc1.mono ?_
  rintro e w2 ⟨rfl, b2⟩
  clear hc1
  have b02 := b1.trans (b2.mono b1.size)
  go_wp2_with fail
  refine (first_any (n := k) (h.below b02) hr'.out (by omega) hrn hN).mono ?_
  rintro e w3 ⟨A3, c3, r3, rfl, h3, q3, b3⟩
  have b03 := b02.trans (b3.mono b02.size)
  have l3 := Lib.hid (show r3.length = rows.length by rw [← qsM_len, q3.out]; unfold firstL; rw [List.length_map, qsM_len])
  have t3 := Lib.hid (show rect (qsM r3) k by rw [q3.out]; exact firstL_rect hr'.out (by omega))
  have hlr3 := h3.len
  have hc3 := rrank_any h3 (by rw [q3.out]; exact firstL_fits hfm'.out) (by rw [l3.out]; exact hK) (by rw [l3.out]; exact hrn) (by have := rect_cols t3.out; omega)
  obtain ⟨y, hy⟩ : ∃ y, Hid (rankRS (qsM r3) = y) := ⟨_, rfl⟩
  rw [hy.out] at hc3
  have hvv := Lib.hid (show decide ((y : Int) < (x : Int)) = v by
    rw [← hv.out, ← hx.out, ← hy.out, rect_rankRS t1.out, rect_rankRS t3.out, q1.out, q3.out]
    unfold isPivL
    exact decide_eq_decide.2 (by omega))
  go_wp2_with fail
  refine hc3.mono ?_
  rintro e w4 ⟨rfl, b4⟩
  clear hc3
  have hvw := hvv.out
  have hvw2 : decide (y < x) = v := by rw [← hvw]; exact decide_eq_decide.2 (by omega)
  go_wp2
  go_ret
  exact ⟨by first | rw [hvw] | rw [hvw2] | rfl, b03.trans (b4.mono b03.size)⟩
end Go.Proofs.Ytkjmliebkbbogaa
