/- The text of a fraction is read back: plain. -/
import Derived.Test.YtghpcimeobmonaaFParse
import Derived.Test.YtghpcimeobmonaaLShow
namespace Go.Proofs.Ytghpcimeobmonaa
set_option linter.unusedVariables false
set_option linter.unusedSimpArgs false
open Go.RowKit Plain

theorem bytes_app (a b : ByteArray) : bytes (a ++ b) = bytes a ++ bytes b := by simp [bytes]
theorem bytes_decs (n : Nat) : bytes (strOf (decs n)) = decs n := bytes_strOf fun b hb => by have := decs_byte n b hb; omega
/-- The bytes of a fraction's text. -/
def fmtL (neg : Bool) (a b : Nat) : List Nat := (if neg = true then [45] else []) ++ (decs a ++ if b = 1 then [] else 47 :: decs b)
theorem bytes_fmtB (neg : Bool) (a b : Nat) : bytes (fmtB neg a b) = fmtL neg a b := by
  have e1 : bytes (⟨#[45]⟩ : ByteArray) = [45] := rfl
  have e2 : bytes (⟨#[47]⟩ : ByteArray) = [47] := rfl
  unfold fmtB fmtL sgB
  by_cases hb : b = 1
  · rw [if_pos hb, if_pos hb]
    cases neg
    · simp [bytes_decs]
    · simp [bytes_app, bytes_decs, e1]
  · rw [if_neg hb, if_neg hb]
    cases neg
    · simp [bytes_app, bytes_decs, e2]
    · simp [bytes_app, bytes_decs, e1, e2]
theorem negL_fmt (neg : Bool) (a b : Nat) : negL (fmtL neg a b) = neg := by
  unfold negL fmtL
  cases neg with
  | true => simp
  | false =>
    obtain ⟨x, l, hx⟩ := List.exists_cons_of_ne_nil (decs_ne a)
    have := decs_byte a x (by rw [hx]; simp)
    rw [hx]
    simp
    omega
theorem restL_fmt (neg : Bool) (a b : Nat) : restL (fmtL neg a b) = decs a ++ if b = 1 then [] else 47 :: decs b := by
  unfold restL
  rw [negL_fmt]
  unfold fmtL
  cases neg <;> simp
theorem takeW {l r : List Nat} (h : ∀ b ∈ l, b ≠ 47) : numL (l ++ r) = l ++ numL r := by
  unfold numL
  rw [List.takeWhile_append_of_pos]
  intro b hb
  simpa using h b hb
theorem dropW {l r : List Nat} (h : ∀ b ∈ l, b ≠ 47) : denL (l ++ r) = denL r := by
  unfold denL
  rw [List.dropWhile_append_of_pos]
  intro b hb
  simpa using h b hb
theorem anyW {l r : List Nat} (h : ∀ b ∈ l, b ≠ 47) : twoL (l ++ r) = twoL r := by
  unfold twoL
  rw [List.any_append]
  have : l.any (· == 47) = false := by
    rw [List.any_eq_false]
    intro b hb
    simpa using h b hb
  rw [this, Bool.false_or]
theorem decs_no (n : Nat) : ∀ b ∈ decs n, b ≠ 47 := fun b hb => by have := decs_byte n b hb; omega
theorem num_fmt (neg : Bool) (a b : Nat) : numL (restL (fmtL neg a b)) = decs a := by
  rw [restL_fmt, takeW (decs_no a)]
  split <;> simp [numL]
theorem den_fmt (neg : Bool) (a b : Nat) : dL (fmtL neg a b) = if b = 1 then [49] else decs b := by
  unfold dL
  rw [restL_fmt, anyW (decs_no a), dropW (decs_no a)]
  by_cases hb : b = 1
  · rw [if_pos hb, if_pos hb]; rfl
  · rw [if_neg hb, if_neg hb]
    simp [twoL, denL]
theorem par_decs {n : Nat} (h : n < pw 30) : parErr (decs n) = 0 ∧ parVal (decs n) = n := by
  have := shows h
  rw [bytes_decs] at this
  exact ⟨this.1, this.2.1⟩
/-- A fraction's text is its own. -/
theorem parse_fmt {q : Rat} (h : Fits 20 q) : ¬ 1202 < (bytes (fmtQ q)).length ∧ pfOK (bytes (fmtQ q)) = true ∧ pfQ (bytes (fmtQ q)) = q := by
  have h30 := h.mono (show 20 ≤ 30 by omega)
  have ha := par_decs h30.1
  have hb := par_decs h30.2
  have hd : parErr (dL (bytes (fmtQ q))) = 0 ∧ parVal (dL (bytes (fmtQ q))) = q.den := by
    unfold fmtQ
    rw [bytes_fmtB, den_fmt]
    split
    · rename_i h1
      rw [h1]
      exact ⟨rfl, rfl⟩
    · exact hb
  have hn : parErr (numL (restL (bytes (fmtQ q)))) = 0 ∧ parVal (numL (restL (bytes (fmtQ q)))) = q.num.natAbs := by
    unfold fmtQ
    rw [bytes_fmtB, num_fmt]
    exact ha
  have hs : negL (bytes (fmtQ q)) = decide (q.num < 0) := by
    unfold fmtQ
    rw [bytes_fmtB, negL_fmt]
  have hq : pfQ (bytes (fmtQ q)) = q := by
    unfold pfQ
    rw [hn.2, hd.2, hs, sg_of, Rat.mkRat_self]
  refine ⟨?_, ?_, hq⟩
  · unfold fmtQ
    rw [bytes_fmtB]
    unfold fmtL
    have l1 := decs_len' h.1
    have l2 := decs_len' h.2
    rw [List.length_append, List.length_append]
    have e1 : (if decide (q.num < 0) = true then [45] else ([] : List Nat)).length ≤ 1 := by split <;> simp
    have e2 : (if q.den = 1 then ([] : List Nat) else 47 :: decs q.den).length ≤ 202 := by
      split
      · simp
      · rw [List.length_cons]; omega
    omega
  · exact decide_eq_true ⟨hn.1, hd.1, by rw [hd.2]; exact q.den_nz, by rw [hq]⟩
end Go.Proofs.Ytghpcimeobmonaa
