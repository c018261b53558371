/- fraction.Sign: what the call does. -/
import Derived.Test.YtghpcimeobmonaaFV
namespace Go.Proofs.Ytghpcimeobmonaa
set_option linter.unusedVariables false
set_option linter.unusedSimpArgs false
open Go.RowKit Plain
attribute [local go_sem ↓] Go.wp_at_zero Go.wp_at_succ

/-- A call that returns the whole number x. -/
def RetI (x : Int) (W : World) (e : Ending) (w' : World) : Prop := e = .returned (.int .i64 x) ∧ Below W.heap.size W w'

set_option maxRecDepth 100000 in
set_option maxHeartbeats 1000000 in
theorem sign_any {v : Value} {q : Rat} {w : World} (hv : FV w v q) :
    Calls Try.prog 39 #[v] w (RetI (cmpR q 0) w) := by
  obtain ⟨neg, A, ca, la, B, cb, lb, rfl, na, nb, iq⟩ := hv
  have hbg := na.big
  have hc := q_sign iq
  clear iq
  obtain ⟨w0, hw0, bw0, hlt0, hB0⟩ := boxed w #[.bool neg, .slice A la.length ca, .slice B lb.length cb] 25
  have x0 := hB0.f0
  have x1 := hB0.f1
  have x2 := hB0.f2
  rw [hc]
  rcases la with _ | ⟨a, la⟩
  · rw [if_pos rfl]
    go_enter Try.func39, Try.ntmps39
    go_wp2
    go_ret
    exact ⟨rfl, by first | exact bw0 | (subst hw0; exact bw0)⟩
  · have hlen : ((((a :: la).length : Nat) : Int) == 0) = false := by rw [beq_eq_false_iff_ne, List.length_cons]; omega
    rw [if_neg (by simp)]
    generalize (a :: la).length = n at *
    rcases neg with _ | _
    · go_enter Try.func39, Try.ntmps39
      go_wp2
      go_ret
      exact ⟨rfl, bw0⟩
    · go_enter Try.func39, Try.ntmps39
      go_wp2
      go_ret
      exact ⟨rfl, bw0⟩
end Go.Proofs.Ytghpcimeobmonaa
