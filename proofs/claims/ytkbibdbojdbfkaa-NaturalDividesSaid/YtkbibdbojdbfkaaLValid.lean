/- Valid of both packages, for slices of any length. -/
import Derived.Test.YtkbibdbojdbfkaaLRow
namespace Go.Proofs.Ytkbibdbojdbfkaa
set_option linter.unusedVariables false
set_option linter.unusedSimpArgs false
open Go.RowKit Plain

theorem InRow.at {w : World} {A : Option Addr} {c : Nat} {l : List Nat} (h : InRow w A c l) {k : Nat} (hk : k < l.length) :
    ∃ a d, A = some a ∧ a.block < w.heap.size ∧ w.cell? (a.add k) = some (.int .u32 ((d : Nat) : Int)) ∧ d < 4294967296 ∧ Hid (l.getD k 0 = d) := by
  obtain ⟨a, d, h1, h2, h3, h4⟩ := h.rd.at hk
  refine ⟨a, d, h1, h2, h3, ?_, h4⟩
  rw [← h4.out]; exact h.dig.getD k
set_option maxHeartbeats 400000 in
theorem trim_long (A : Option Addr) (c : Nat) (l : List Nat) (w : World) (h : Rd w A l) (hc : l.length ≤ c) (hm : l.length ≤ 9223372036854775807) :
    Calls Try.prog 69 #[.slice A l.length c] w fun e w' => e = .returned (.slice A (trimN l l.length) (trimN l l.length)) ∧ w = w' := by
  go_enter Try.func69, Try.ntmps69
  go_wp2
  go_loop [3] (fun n => ∃ k : Nat, k ≤ l.length ∧ n = .int .i64 k ∧ Hid (trimN l l.length = trimN l k)) (fun n => (intOf n).toNat)
  case atStart => exact ⟨_, Nat.le_refl _, rfl, rfl⟩
  case round =>
    obtain ⟨k, hk, rfl, hr⟩ := hrel
    rcases Nat.eq_zero_or_pos k with h0 | h0
    · subst h0
      go_wp2
      go_ret
      refine ⟨?_, rfl⟩
      rw [hr.out]
      rfl
    · obtain ⟨a, d, rfl, hb, hcell, hd⟩ := h.at (k := k - 1) (by omega)
      by_cases hz : d = 0
      · have e1 := Lib.hid (hr.out.trans (trimN_step h0 (hd.out.trans hz)))
        subst hz
        go_wp2
        go_round
        case rel => exact ⟨k - 1, by omega, by go_num, e1⟩
        case measure => simp [intOf]; omega
      · have e1 := Lib.hid (hr.out.trans (trimN_stop h0 (by rw [hd.out]; exact hz)))
        have hz' : ((d : Int) == 0) = false := by rw [beq_eq_false_iff_ne]; omega
        go_wp2
        go_ret
        refine ⟨?_, rfl⟩
        rw [e1.out]
        rfl

set_option maxHeartbeats 400000 in
theorem valid_row {A : Option Addr} {c : Nat} {l : List Nat} {w : World} (h : InRow w A c l) :
    Calls Try.prog 30 #[.slice A l.length c] w fun e w' => e = .returned (.bool (validL l)) ∧ w = w' := by
  have hb := h.big
  have hle := trimN_le l l.length
  go_enter Try.func30, Try.ntmps30
  go_wp2_with fail
  refine (trim_long _ _ _ _ h.rd h.len h.big).mono ?_
  rintro e w' ⟨rfl, rfl⟩
  go_wp2
  go_ret
  refine ⟨?_, rfl⟩
  unfold validL
  show Ending.returned (.bool ((trimN l l.length : Int) == (l.length : Int))) = _
  congr 2
  rw [Bool.eq_iff_iff]
  simp only [beq_iff_eq, decide_eq_true_eq]
  omega

set_option maxHeartbeats 400000 in
theorem refValid_row {A : Option Addr} {c : Nat} {l : List Nat} {w : World} (h : InRow w A c l) :
    Calls Try.prog 31 #[.slice A l.length c] w fun e w' => e = .returned (.bool (validL l)) ∧ w = w' := by
  have hb := h.big
  rw [← refValidL_eq]
  rcases Nat.eq_zero_or_pos l.length with h0 | h0
  · obtain rfl : l = [] := List.eq_nil_of_length_eq_zero h0
    clear h0
    go_enter Try.func31, Try.ntmps31
    go_wp2
    go_ret
    exact ⟨rfl, rfl⟩
  · obtain ⟨a, d, rfl, hab, hac, hda, hga⟩ := h.at (k := l.length - 1) (by omega)
    have hne : (((l.length : Nat) : Int) == 0) = false := by rw [beq_eq_false_iff_ne]; omega
    have hv : Hid (refValidL l = ((d : Int) != 0)) := by
      show _ = _
      rw [Bool.eq_iff_iff]
      unfold refValidL
      rw [hga.out, decide_eq_true_eq, bne_iff_ne]
      omega
    go_enter Try.func31, Try.ntmps31
    go_wp2
    go_ret
    refine ⟨?_, rfl⟩
    rw [hv.out]; rfl
end Go.Proofs.Ytkbibdbojdbfkaa
