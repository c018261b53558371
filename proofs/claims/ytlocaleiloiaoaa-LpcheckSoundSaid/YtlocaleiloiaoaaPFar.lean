/- Small facts for the law LpcheckSound. -/
import Derived.Test.YtlocaleiloiaoaaPWeak
namespace Go.Proofs.Ytlocaleiloiaoaa
set_option linter.unusedVariables false
set_option linter.unusedSimpArgs false
open Go.RowKit Plain

theorem checkN_zero {gs : List FrD} {rs : List RowD} {s : SolD} (h : checkN gs rs s = 0) : (rowsB gs.length rs && whB gs) = true ∧ provenB gs rs s = true := by
  unfold checkN at h
  rcases h1 : (rowsB gs.length rs && whB gs) with _ | _
  · rw [h1] at h; simp at h
  · rcases h2 : provenB gs rs s with _ | _
    · rw [h1, h2] at h; simp at h
    · exact ⟨rfl, rfl⟩
theorem endB_at {gs ds : List FrD} {rs : List RowD} (h : endB gs rs ds = true) : whB ds = true ∧ ds.length = gs.length := by
  unfold endB posB at h
  simp only [Bool.and_eq_true, decide_eq_true_eq] at h
  exact ⟨h.1.2.1, h.1.1⟩
theorem FrD.few.up {w : World} {K J : Nat} {d : FrD} (h : d.few w K) (hk : K ≤ J) : d.few w J := ⟨h.1, h.2.1, Nat.le_trans h.2.2.1 hk, Nat.le_trans h.2.2.2 hk⟩
theorem LD.up {w : World} {K J c : Nat} {A : Option Addr} {ds : List FrD} (h : LD w K A c ds) (hk : K ≤ J) : LD w J A c ds := ⟨h.row, fun d hd => (h.few d hd).up hk⟩
theorem RL.up {w : World} {K J c : Nat} {A : Option Addr} {rs : List RowD} (h : RL w K A c rs) (hk : K ≤ J) : RL w J A c rs := ⟨h.row, fun r hr => ⟨(h.few r hr).1.up hk, (h.few r hr).2.up hk⟩⟩
end Go.Proofs.Ytlocaleiloiaoaa
