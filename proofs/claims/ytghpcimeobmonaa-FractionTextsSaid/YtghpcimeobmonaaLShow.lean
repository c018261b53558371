/- The decimal text of a number denotes it: plain law. -/
import Derived.Test.YtghpcimeobmonaaWRef8
namespace Go.Proofs.Ytghpcimeobmonaa
set_option linter.unusedVariables false
set_option linter.unusedSimpArgs false
open Go.RowKit Plain

theorem decVal_rev : ∀ (f n : Nat), n ≤ f → decVal ((decR n).reverse.map (48 + ·)) = n
  | 0, n, h => by
    have : n = 0 := by omega
    subst this; rfl
  | f + 1, n, h => by
    by_cases h0 : n = 0
    · subst h0; rfl
    · rw [decR_pos h0, List.reverse_cons, List.map_append, List.map_cons, List.map_nil, decVal_snoc, decVal_rev f (n / 10) (by omega)]
      omega
theorem decVal_decs (n : Nat) : decVal (decs n) = n := by
  unfold decs
  split
  · rename_i h; subst h; rfl
  · exact decVal_rev n n (Nat.le_refl _)
theorem decs_len {n k : Nat} (h : n < pw k) (hk : 0 < k) : (decs n).length ≤ 10 * k := by
  unfold decs
  split
  · simp; omega
  · rw [List.length_map, List.length_reverse]; exact decR_len h
theorem decs_ne (n : Nat) : decs n ≠ [] := by
  unfold decs
  split
  · simp
  · rename_i h; simp [decR_ne h]
theorem decs_head {n : Nat} (h : (decs n).getD 0 0 = 48) : ¬ 1 < (decs n).length := by
  unfold decs at h ⊢
  split
  · simp
  · rename_i h0
    rw [if_neg h0] at h
    have h1 := decR_last h0
    have h2 := decR_ne h0
    exfalso
    apply h1
    rw [List.getD_eq_getElem?_getD, List.getElem?_map, List.getElem?_reverse (List.length_pos_iff.2 h2), Nat.sub_zero, ← List.getLast?_eq_getElem?] at h
    cases hl : (decR n).getLast? with
    | none => rw [List.getLast?_eq_none_iff] at hl; exact absurd hl h2
    | some d =>
      rw [hl] at h
      simp at h
      rw [h]
theorem shows {n : Nat} (h : n < pw 30) : parErr (bytes (strOf (decs n))) = 0 ∧ parVal (bytes (strOf (decs n))) = n ∧ (strOf (decs n)).size ≤ 300 := by
  have hb : bytes (strOf (decs n)) = decs n := bytes_strOf (fun b hb => by have := decs_byte n b hb; omega)
  have hl := decs_len h (by omega)
  have he : parErr (decs n) = 0 := by
    unfold parErr
    rw [if_neg (decs_ne n), if_neg (by omega), if_neg (by
      rw [Bool.not_eq_false]
      rw [List.all_eq_true]
      intro b hb
      have := decs_byte n b hb
      simpa [isDec] using this), if_neg (fun e => decs_head e.1 e.2)]
  refine ⟨by rw [hb]; exact he, ?_, by rw [strOf_size]; omega⟩
  unfold parVal
  rw [hb, if_pos he, decVal_decs]
end Go.Proofs.Ytghpcimeobmonaa
