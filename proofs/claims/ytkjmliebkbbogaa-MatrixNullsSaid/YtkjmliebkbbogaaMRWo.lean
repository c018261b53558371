/- R17 without: what the call does. -/
import Derived.Test.YtkjmliebkbbogaaMSame
import Derived.Deep.RegionHeld3
namespace Go.Proofs.Ytkjmliebkbbogaa
set_option linter.unusedVariables false
set_option linter.unusedSimpArgs false
open Go.RowKit Plain
attribute [local go_sem ↓] Go.wp_at_zero Go.wp_at_succ

set_option maxRecDepth 100000 in
set_option maxHeartbeats 4000000 in
theorem without_any {A : Option Addr} {c : Nat} {rows : List RwD} {w : World} (h : ML w A c rows) (hrn : rows.length < 1000000000) :
    Calls Try.prog 52 #[.slice A rows.length c, .int .i64 0] w (RetM (qsM rows).tail w) := by
  have hl := h.len
  obtain ⟨T, hT⟩ : ∃ T, Hid ((qsM rows).tail = T) := ⟨_, rfl⟩
  have hTl := Lib.hid (show T.length = rows.length - 1 by rw [← hT.out, List.length_tail, qsM_len])
  rw [hT.out]
  go_enter Try.func52, Try.ntmps52
  go_wp2
  go_loopw [5, 6] (fun v i wr => ∃ k : Nat, k ≤ rows.length ∧ i = .int .i64 (k : Int) ∧ MtAt T w (k - 1) v wr) (fun _ i _ => rows.length - (intOf i).toNat)
  case atStart => exact ⟨0, by omega, rfl, MtAt.start _ (Below.refl _ _)⟩
  case round =>
    obtain ⟨k, hk, rfl, hat⟩ := hrel
    have hbel := hat.bel
    by_cases hkl : k < rows.length
    · have hki : (k : Int) < (rows.length : Int) := by omega
      rcases Nat.eq_zero_or_pos k with rfl | hk0
      · go_wp2
        go_roundw
        case rel => exact ⟨1, by omega, by go_num, hat⟩
        case measure => simp [intOf]; omega
      · have hne : ((k : Int) != 0) = true := by simp; omega
        obtain ⟨j, hj⟩ : ∃ j, Hid (k - 1 = j) := ⟨_, rfl⟩
        rw [hj.out] at hat
        have hjk := Lib.hid (show j + 1 = k by have := hj.out; omega)
        obtain ⟨a, r, rfl, hab, hc0, hfl, hrk⟩ := (h.below hbel).at hkl
        have hkb : j < 1000000000000 := by have := hjk.out; omega
        have hq : Hid (T[j]? = some r.qs) := by
          show _ = _
          rw [← hT.out, List.getElem?_tail, hjk.out]; unfold qsM; rw [List.getElem?_map, hrk.out]; rfl
        obtain ⟨os, ho, h63, hbs, hnext⟩ := hat.app (r := r) hkb hq.out hfl
        go_wp2_with (at_builtin; go_loud (refine wpList_appM rfl Try.underlying22 rfl _ _ rfl _ _ os rfl ho ⟨wr.heap.size, 0, none⟩ 1 r rfl (row_cell wr r) h63 hbs ?_; intro v6 w6 ho6 hg6))
        have hat6 := hnext.out v6 w6 ho6 hg6
        clear hnext ho hg6 ho6 hat
        rw [hjk.out] at hat6
        go_wp2
        go_roundw
        case rel => exact ⟨k + 1, by omega, by go_num, hat6⟩
        case measure => simp [intOf]; omega
    · obtain rfl : k = rows.length := by omega
      have hlt' : decide ((rows.length : Int) < (rows.length : Int)) = false := decide_eq_false (by omega)
      obtain ⟨B, cb, es, rfl, hfl, hqe⟩ := hat.done hTl.out.symm
      go_wp2
      go_ret
      exact ⟨B, cb, es, rfl, hfl, hqe, hbel⟩
end Go.Proofs.Ytkjmliebkbbogaa
