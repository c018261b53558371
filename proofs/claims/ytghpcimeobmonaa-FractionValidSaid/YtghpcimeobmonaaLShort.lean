/- The law's short: what the call does. -/
import Derived.Test.YtghpcimeobmonaaOpenF
namespace Go.Proofs.Ytghpcimeobmonaa
set_option linter.unusedVariables false
set_option linter.unusedSimpArgs false
open Go.RowKit Plain
attribute [local go_sem ↓] Go.wp_at_zero Go.wp_at_succ

def shB (f : FrD) : Bool := decide (f.la.length ≤ 20) && (decide (f.lb.length ≤ 20) && vldF f.neg f.la f.lb)
theorem shB_fv {f : FrD} {w : World} (hf : f.ok w) (h : shB f = true) : FV w f.v f.q ∧ Fits 20 f.q := by
  unfold shB at h
  simp only [Bool.and_eq_true, decide_eq_true_eq] at h
  obtain ⟨h1, h2, h3⟩ := h
  have hq : QIs f.neg f.la f.lb f.q := vldF_qIs hf.1.dig hf.2.dig h3
  refine ⟨⟨_, _, _, _, _, _, _, rfl, hf.1.nv (by omega), hf.2.nv (by omega), hq⟩, ?_⟩
  exact ⟨by rw [← hq.na.val]; exact Nat.lt_of_lt_of_le (val_lt hf.1.dig) (pw_mono h1), by rw [← hq.nb.val]; exact Nat.lt_of_lt_of_le (val_lt hf.2.dig) (pw_mono h2)⟩
set_option maxRecDepth 100000 in
set_option maxHeartbeats 1000000 in
theorem short_any (f : FrD) (w : World) (hf : f.ok w) : Calls Try.prog 10 #[f.v] w (RetB (shB f) w) := by
  obtain ⟨neg, A, ca, la, B, cb, lb⟩ := f
  obtain ⟨ia, ib⟩ := hf
  dsimp only at ia ib
  unfold FrD.v
  dsimp only
  have ga := ia.big
  have gb := ib.big
  obtain ⟨w0, hw0, bw0, hlt0, hB0⟩ := boxed w #[.bool neg, .slice A la.length ca, .slice B lb.length cb] 25
  have k0 := hB0.f0
  have k1 := hB0.f1
  have k2 := hB0.f2
  by_cases h1 : la.length ≤ 20
  · by_cases h2 : lb.length ≤ 20
    · have hr : Hid (shB ⟨neg, A, ca, la, B, cb, lb⟩ = vldF neg la lb) := by show _ = _; unfold shB; dsimp only; rw [decide_eq_true h1, decide_eq_true h2]; rfl
      rw [hr.out]
      go_enter Try.func10, Try.ntmps10
      go_wp2_with fail
      refine (refValidF_any (neg := neg) ((ia.nv (by omega)).below bw0) ((ib.nv (by omega)).below bw0) (by omega) (by omega)).mono ?_
      rintro e w1 ⟨rfl, b1⟩
      obtain ⟨v, hv⟩ : ∃ v, Hid (vldF neg la lb = v) := ⟨_, rfl⟩
      rw [hv.out]
      go_wp2
      go_ret
      exact ⟨by rw [hv.out]; rfl, bw0.trans (b1.mono (Nat.le_of_lt hlt0))⟩
    · have hr : Hid (shB ⟨neg, A, ca, la, B, cb, lb⟩ = false) := by show _ = _; unfold shB; dsimp only; rw [decide_eq_false h2, Bool.false_and, Bool.and_false]
      rw [hr.out]
      go_enter Try.func10, Try.ntmps10
      go_wp2
      go_ret
      exact ⟨rfl, bw0⟩
  · have hr : Hid (shB ⟨neg, A, ca, la, B, cb, lb⟩ = false) := by show _ = _; unfold shB; dsimp only; rw [decide_eq_false h1, Bool.false_and]
    rw [hr.out]
    go_enter Try.func10, Try.ntmps10
    go_wp2
    go_ret
    exact ⟨rfl, bw0⟩
end Go.Proofs.Ytghpcimeobmonaa
