/- MatrixLinear: the plain part. -/
import Derived.Test.YtkjmliebkbbogaaMSolv
import Derived.Test.YtkjmliebkbbogaaMInts
namespace Go.Proofs.Ytkjmliebkbbogaa
set_option linter.unusedVariables false
set_option linter.unusedSimpArgs false
open Go.RowKit Plain

def sumL (x y : List Rat) : List Rat := List.zipWith (· + ·) x y
theorem sumL_length {x y : List Rat} (h : y.length = x.length) : (sumL x y).length = x.length := by simp [sumL, h]
theorem sumL_get {x y : List Rat} {k : Nat} (h : y.length = x.length) (hk : k < x.length) : (sumL x y).getD k 0 = x.getD k 0 + y.getD k 0 := by
  unfold sumL
  rw [List.getD_eq_getElem?_getD, List.getElem?_zipWith, List.getD_eq_getElem?_getD, List.getD_eq_getElem?_getD, List.getElem?_eq_getElem hk, List.getElem?_eq_getElem (by omega)]; rfl
theorem sumL_fits {J K : Nat} {x y : List Rat} (hx : QFits J x) (hy : QFits K y) : QFits (J + K + 1) (sumL x y) := fun q hq => by
  unfold sumL at hq
  obtain ⟨i, hi⟩ := List.mem_iff_getElem?.1 hq
  rw [List.getElem?_zipWith] at hi
  cases h1 : x[i]? with
  | none => rw [h1] at hi; simp at hi
  | some a =>
    cases h2 : y[i]? with
    | none => rw [h1, h2] at hi; simp at hi
    | some b =>
      rw [h1, h2] at hi
      simp at hi
      subst hi
      exact (hx a (List.mem_of_getElem? h1)).add (hy b (List.mem_of_getElem? h2))
theorem dotL_add {a x y : List Rat} (h1 : a.length = x.length) (h : y.length = x.length) : dotL a (sumL x y) = dotL a x + dotL a y := by
  rw [dotL_sm h1 (sumL_length h), dotL_sm h1 rfl, dotL_sm h1 h, ← sm_add]
  exact sm_congr fun k hk => by rw [sumL_get h hk, Rat.mul_add]
theorem dotL_fits {K n : Nat} {a x : List Rat} (ha : QFits K a) (hx : QFits K x) (hn : x.length ≤ n) : Fits (1 + n * (K + K + 1)) (dotL a x) := by
  have h1 : ∀ q ∈ List.zipWith (· * ·) a x, Fits (K + K) q := fun q hq => by
    obtain ⟨i, hi⟩ := List.mem_iff_getElem?.1 hq
    rw [List.getElem?_zipWith] at hi
    cases h1 : a[i]? with
    | none => rw [h1] at hi; simp at hi
    | some b =>
      cases h2 : x[i]? with
      | none => rw [h1, h2] at hi; simp at hi
      | some d =>
        rw [h1, h2] at hi
        simp at hi
        subst hi
        exact (ha b (List.mem_of_getElem? h1)).mul (hx d (List.mem_of_getElem? h2))
  refine (fits_sum h1).mono ?_
  have : (List.zipWith (· * ·) a x).length ≤ n := by rw [List.length_zipWith]; omega
  have := Nat.mul_le_mul_right (K + K + 1) this
  omega
theorem timesL_fits {K n : Nat} {M : Mat} {x : List Rat} (ha : MFits K M) (hx : QFits K x) (hn : x.length ≤ n) : QFits (1 + n * (K + K + 1)) (timesL M x) := fun q hq => by
  obtain ⟨r, hr, rfl⟩ := List.mem_map.1 hq
  exact dotL_fits (ha r hr) hx hn
theorem timesL_length (M : Mat) (x : List Rat) : (timesL M x).length = M.length := by simp [timesL]
theorem timesL_add {M : Mat} {n : Nat} {x y : List Rat} (hr : rect M n) (hx : x.length = n) (hy : y.length = x.length) {i : Nat} {p q : Rat} (h1 : (timesL M x)[i]? = some p) (h2 : (timesL M y)[i]? = some q) : (timesL M (sumL x y))[i]? = some (p + q) := by
  unfold timesL at *
  rw [List.getElem?_map] at *
  cases h : M[i]? with
  | none => rw [h] at h1; simp at h1
  | some r =>
    rw [h] at h1 h2
    simp at h1 h2 ⊢
    rw [← h1, ← h2]
    exact dotL_add (by rw [hr r (List.mem_of_getElem? h), hx]) hy
theorem solve_fits {K : Nat} {M : Mat} {b z : List Rat} (hK0 : 0 < K) (h : formedL M = true) (hf : MFits K M) (hb : QFits K b) (hbl : b.length = M.length) (hz : solveL M b = some z) : QFits (gK K (colsL M)) z := by
  unfold solveL at hz
  simp only at hz
  split at hz
  · injection hz with hz
    subst hz
    have hr := formedL_rect h
    have hw : rect (withL M b) (colsL M + 1) := withL_rect hr
    have h1 := reduceL_ok hw (colsL M) (by omega)
    have h2 := reduceL_fits (withL_fits hf hb) hw (colsL M) (by omega)
    intro q hq
    obtain ⟨k, hk, rfl⟩ := List.mem_map.1 hq
    by_cases e : ∃ p ∈ (reduceL (withL M b) (colsL M)).2.zipIdx, p.1 = k
    · obtain ⟨p, hp, rfl⟩ := e
      rw [xval_mem h1.red.col hp]
      exact h2.fn h1.rct (by rw [h1.len]; exact (h1.red.lt p hp).2) (by omega)
    · rw [xval_none fun p hp e2 => e ⟨p, hp, e2⟩]
      exact Fits.zero (Nat.lt_of_lt_of_le hK0 (gK_le K _))
  · cases hz
end Go.Proofs.Ytkjmliebkbbogaa
