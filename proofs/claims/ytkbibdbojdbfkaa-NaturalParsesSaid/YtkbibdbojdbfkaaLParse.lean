/- A text that denotes a number is this number's decimal text: plain law. -/
import Derived.Test.YtkbibdbojdbfkaaWRef9
import Derived.Test.YtkbibdbojdbfkaaLShow
namespace Go.Proofs.Ytkbibdbojdbfkaa
set_option linter.unusedVariables false
set_option linter.unusedSimpArgs false
open Go.RowKit Plain

theorem dec_back : ∀ (k : Nat) (l : List Nat), l.length = k + 1 → l.all isDec = true → l.getD 0 0 ≠ 48 → decVal l ≠ 0 ∧ (decR (decVal l)).reverse.map (48 + ·) = l
  | 0, l, h, ha, h0 => by
    match l, h with
    | [b], _ => 
      have hb := all_get [b] 0 (by simp) ha
      simp only [List.getD_cons_zero] at hb h0
      have hv : decVal [b] = b - 48 := by simp [decVal]
      rw [hv]
      have hn : b - 48 ≠ 0 := by omega
      refine ⟨hn, ?_⟩
      rw [decR_pos hn, show (b - 48) / 10 = 0 by omega, decR_zero]
      simp
      omega
  | k + 1, l, h, ha, h0 => by
    have h1 := decVal_take l (k + 1) (by omega)
    have hl : l.take (k + 1 + 1) = l := List.take_of_length_le (by omega)
    rw [hl] at h1
    have hb := all_get l (k + 1) (by omega) ha
    have hs := take_snoc' l (k + 1) (by omega)
    rw [hl] at hs
    obtain ⟨i1, i2⟩ := dec_back k (l.take (k + 1)) (by rw [List.length_take]; omega) (by
      rw [List.all_eq_true] at ha ⊢
      exact fun x hx => ha x (List.mem_of_mem_take hx)) (by
      rw [List.getD_eq_getElem?_getD, List.getElem?_take_of_lt (by omega), ← List.getD_eq_getElem?_getD]
      exact h0)
    generalize l.getD (k + 1) 0 = b at *
    refine ⟨by omega, ?_⟩
    rw [h1, decR_pos (by omega), show (10 * decVal (l.take (k + 1)) + (b - 48)) / 10 = decVal (l.take (k + 1)) by omega, show (10 * decVal (l.take (k + 1)) + (b - 48)) % 10 = b - 48 by omega, List.reverse_cons, List.map_append, i2, List.map_cons, List.map_nil, show 48 + (b - 48) = b by omega]
    exact hs.symm
theorem parse_back {l : List Nat} (h : parErr l = 0) : decs (parVal l) = l := by
  have hv : parVal l = decVal l := by unfold parVal; rw [if_pos h]
  rw [hv]
  unfold parErr at h
  by_cases h1 : l = []
  · rw [if_pos h1] at h; omega
  rw [if_neg h1] at h
  by_cases h2 : 600 < l.length
  · rw [if_pos h2] at h; omega
  rw [if_neg h2] at h
  by_cases h3 : l.all isDec = false
  · rw [if_pos h3] at h; omega
  rw [if_neg h3] at h
  have ha : l.all isDec = true := by simpa using h3
  by_cases h4 : l.getD 0 0 = 48
  · have h5 : ¬ 1 < l.length := fun e => by rw [if_pos ⟨h4, e⟩] at h; omega
    have : l.length = 1 := by
      rcases Nat.eq_zero_or_pos l.length with h0 | h0
      · exact absurd (List.eq_nil_of_length_eq_zero h0) h1
      · omega
    match l, this with
    | [b], _ =>
      simp at h4
      subst h4
      rfl
  · have h0 : l.length = (l.length - 1) + 1 := by
      rcases Nat.eq_zero_or_pos l.length with h0 | h0
      · exact absurd (List.eq_nil_of_length_eq_zero h0) h1
      · omega
    obtain ⟨i1, i2⟩ := dec_back (l.length - 1) l h0 ha h4
    unfold decs
    rw [if_neg i1]
    exact i2
end Go.Proofs.Ytkbibdbojdbfkaa
