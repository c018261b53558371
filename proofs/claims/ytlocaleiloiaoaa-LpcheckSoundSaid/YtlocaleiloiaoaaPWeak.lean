/- Weak duality, Farkas' certificate and rays over the lists in memory. No program in sight. -/
import Derived.Test.YtlocaleiloiaoaaPSquare
namespace Go.Proofs.Ytlocaleiloiaoaa
set_option linter.unusedVariables false
set_option linter.unusedSimpArgs false
open Go.RowKit Plain

def aAt (rs : List RowD) (i k : Nat) : Rat := match rs[i]? with | some r => r.cq k | none => 0
def bAt (rs : List RowD) (i : Nat) : Rat := match rs[i]? with | some r => r.b.q | none => 0
theorem bnds_sm {rs : List RowD} {ys : List FrD} (h : ys.length = rs.length) : sumR (bnds rs ys) = sm rs.length (fun i => qAt ys i * bAt rs i) := by
  rw [sumR_sm, bnds_len, show min rs.length ys.length = rs.length by omega]
  refine sm_congr fun k hk => ?_
  have e1 : rs[k]? = some rs[k] := List.getElem?_eq_getElem hk
  have e2 : ys[k]? = some (ys[k]'(by omega)) := List.getElem?_eq_getElem (by omega)
  rw [List.getD_eq_getElem?_getD, bnds_get e1 e2]
  simp [qAt, bAt, e1, e2]
theorem cols_sm {rs : List RowD} {ys : List FrD} (h : ys.length = rs.length) (k : Nat) : sumR (cols rs ys k) = sm rs.length (fun i => qAt ys i * aAt rs i k) := by
  rw [sumR_sm, cols_len, show min rs.length ys.length = rs.length by omega]
  refine sm_congr fun i hi => ?_
  have e1 : rs[i]? = some rs[i] := List.getElem?_eq_getElem hi
  have e2 : ys[i]? = some (ys[i]'(by omega)) := List.getElem?_eq_getElem (by omega)
  have e3 : (cols rs ys k)[i]? = some ((ys[i]'(by omega)).q * rs[i].cq k) := by
    unfold cols; rw [List.getElem?_zipWith, e1, e2]
  rw [List.getD_eq_getElem?_getD, e3]
  simp [qAt, aAt, e1, e2]
theorem row_sm {rs : List RowD} {xs : List FrD} {n i : Nat} (h : rowsB n rs = true) (hi : i < rs.length) (hx : xs.length = n) : sumR (prods rs[i].ds xs) = sm n (fun k => aAt rs i k * qAt xs k) := by
  have hl : rs[i].ds.length = n := by
    unfold rowsB at h
    rw [List.all_eq_true] at h
    have := h _ (List.getElem_mem hi)
    unfold rowB at this
    simp only [Bool.and_eq_true, decide_eq_true_eq] at this
    exact this.1
  rw [prods_sm hl hx]
  refine sm_congr fun k hk => ?_
  have e1 : rs[i]? = some rs[i] := List.getElem?_eq_getElem hi
  simp only [aAt, e1, qAt, RowD.cq]
  cases rs[i].ds[k]? <;> rfl
theorem posB_at {ds : List FrD} {n : Nat} (h : posB ds n = true) : ds.length = n ∧ ∀ k, k < n → 0 ≤ qAt ds k := by
  unfold posB nnB at h
  simp only [Bool.and_eq_true, decide_eq_true_eq, List.all_eq_true, Bool.not_eq_true', decide_eq_false_iff_not] at h
  obtain ⟨h1, h2, h3⟩ := h
  refine ⟨h1, fun k hk => ?_⟩
  have e1 : ds[k]? = some (ds[k]'(by omega)) := List.getElem?_eq_getElem (by omega)
  have h4 := h3 (ds[k]'(by omega)) (List.getElem_mem _)
  unfold qAt
  rw [e1]
  simp only
  rw [cmpR_neg] at h4
  exact Rat.not_lt.1 h4
theorem fea_at {gs xs : List FrD} {rs : List RowD} (h : feaB gs rs xs = true) : rowsB gs.length rs = true ∧ xs.length = gs.length ∧ (∀ k, k < gs.length → 0 ≤ qAt xs k) ∧ ∀ i, i < rs.length → sm gs.length (fun k => aAt rs i k * qAt xs k) ≤ bAt rs i := by
  have h0 := h
  unfold feaB at h
  simp only [Bool.and_eq_true, List.all_eq_true] at h
  obtain ⟨⟨h1, -⟩, h2, h3⟩ := h
  obtain ⟨h4, h5⟩ := posB_at h2
  refine ⟨h1, h4, h5, fun i hi => ?_⟩
  have h6 := h3 rs[i] (List.getElem_mem hi)
  unfold rowOk at h6
  simp only [Bool.not_eq_true', decide_eq_false_iff_not, cmpR_pos] at h6
  rw [row_sm h1 hi h4] at h6
  have e1 : rs[i]? = some rs[i] := List.getElem?_eq_getElem hi
  unfold bAt
  rw [e1]
  exact Rat.not_lt.1 h6
theorem allN_at {n : Nat} {f : Nat → Bool} (h : allN n f = true) : ∀ k, k < n → f k = true := by
  unfold allN at h
  rw [List.all_eq_true] at h
  exact fun k hk => h k (List.mem_range.2 hk)
theorem weak_L {gs xs ys : List FrD} {rs : List RowD} (h : feaB gs rs xs = true) (hd : dualB gs rs ys = true) : sumR (prods gs xs) ≤ sumR (bnds rs ys) := by
  obtain ⟨h1, h2, h3, h4⟩ := fea_at h
  unfold dualB at hd
  simp only [Bool.and_eq_true] at hd
  obtain ⟨-, h5, h6⟩ := hd
  obtain ⟨h7, h8⟩ := posB_at h5
  rw [prods_sm rfl h2, bnds_sm h7]
  refine weak h3 h8 h4 fun k hk => ?_
  have h9 := allN_at h6 k hk
  unfold colOk at h9
  simp only [Bool.not_eq_true', decide_eq_false_iff_not, cmpR_neg] at h9
  rw [cols_sm h7] at h9
  exact Rat.not_lt.1 h9
theorem gap_sign {gs xs ys : List FrD} {rs : List RowD} (h : feaB gs rs xs = true) (hd : dualB gs rs ys = true) : decide (0 ≤ cmpR (sumR (bnds rs ys) - sumR (prods gs xs)) 0) = true := by
  have hw := weak_L h hd
  rw [decide_eq_true_eq, cmpR_sub]
  have := mt cmpR_neg.1 (Rat.not_lt.2 hw)
  omega
/-- An optimal solution: no feasible list has a greater value. -/
theorem opt_sound {gs xs ys es : List FrD} {rs : List RowD} {d : FrD} (h : optB gs rs d xs ys = true) (he : feaB gs rs es = true) : decide (0 < cmpR (sumR (prods gs es)) d.q) = false := by
  unfold optB at h
  simp only [Bool.and_eq_true, decide_eq_true_eq] at h
  obtain ⟨-, -, h1, -, h2⟩ := h
  have hw := weak_L he h1
  rw [← h2] at hw
  rw [decide_eq_false_iff_not, cmpR_pos]
  exact Rat.not_lt.2 hw
/-- A certificate of infeasibility. -/
theorem empty_sound {gs ys es : List FrD} {rs : List RowD} (h : emptyB gs rs ys = true) : feaB gs rs es = false := by
  rw [Bool.eq_false_iff]
  intro he
  obtain ⟨h1, h2, h3, h4⟩ := fea_at he
  unfold emptyB at h
  simp only [Bool.and_eq_true, decide_eq_true_eq, cmpR_neg] at h
  obtain ⟨h5, h6, h7⟩ := h
  obtain ⟨h8, h9⟩ := posB_at h5
  rw [bnds_sm h8] at h7
  have hw := weak (g := fun _ => 0) h3 h9 h4 (fun k hk => by
    have h10 := allN_at h6 k hk
    unfold colNN at h10
    simp only [Bool.not_eq_true', decide_eq_false_iff_not, cmpR_neg] at h10
    rw [cols_sm h8] at h10
    exact Rat.not_lt.1 h10)
  have e0 : sm gs.length (fun k => 0 * qAt es k) = 0 := by rw [sm_congr (g := fun _ => 0) (fun k _ => by grind)]; exact sm_zero _
  rw [e0] at hw
  exact absurd h7 (Rat.not_lt.2 hw)
/-- The list that the law reckons far along a ray. -/
def farQ (xs ds : List FrD) : List Rat := List.zipWith (fun x d => x.q + ((1000 : Int) : Rat) * d.q) xs ds
theorem far_get {xs ds fs : List FrD} {n : Nat} (h1 : xs.length = n) (h2 : ds.length = n) (hf : fs.map FrD.q = farQ xs ds) : fs.length = n ∧ ∀ k, k < n → qAt fs k = qAt xs k + 1000 * qAt ds k := by
  have hl : fs.length = n := by rw [← List.length_map (f := FrD.q), hf]; simp [farQ, h1, h2]
  refine ⟨hl, fun k hk => ?_⟩
  have e1 : xs[k]? = some (xs[k]'(by omega)) := List.getElem?_eq_getElem (by omega)
  have e2 : ds[k]? = some (ds[k]'(by omega)) := List.getElem?_eq_getElem (by omega)
  have e3 : fs[k]? = some (fs[k]'(by omega)) := List.getElem?_eq_getElem (by omega)
  have h3 : (fs.map FrD.q)[k]? = (farQ xs ds)[k]? := by rw [hf]
  rw [List.getElem?_map, e3] at h3
  unfold farQ at h3
  rw [List.getElem?_zipWith, e1, e2] at h3
  simp only [Option.map_some, Option.some.injEq] at h3
  simp only [qAt, e1, e2, e3, h3]
  rfl
theorem end_sound {gs xs ds fs : List FrD} {rs : List RowD} (hw : whB gs = true) (h : feaB gs rs xs = true) (hd : endB gs rs ds = true) (hf : fs.map FrD.q = farQ xs ds) (hv : whB fs = true) :
    feaB gs rs fs = true ∧ decide (cmpR (sumR (prods gs fs)) (sumR (prods gs xs)) ≤ 0) = false := by
  obtain ⟨h1, h2, h3, h4⟩ := fea_at h
  unfold endB at hd
  simp only [Bool.and_eq_true, List.all_eq_true, decide_eq_true_eq, cmpR_pos] at hd
  obtain ⟨h5, h6, h7⟩ := hd
  obtain ⟨h8, h9⟩ := posB_at h5
  obtain ⟨h10, h11⟩ := far_get h2 h8 hf
  have h12 : (0 : Rat) < 1000 := by decide +kernel
  have h13 : (0 : Rat) ≤ 1000 := by decide +kernel
  constructor
  · unfold feaB
    rw [h1, hw]
    simp only [Bool.true_and, Bool.and_eq_true, List.all_eq_true]
    constructor
    · unfold posB nnB
      rw [hv, decide_eq_true h10]
      simp only [Bool.true_and, List.all_eq_true]
      intro d hd'
      obtain ⟨k, hk, rfl⟩ := List.getElem_of_mem hd'
      have e3 : fs[k]? = some fs[k] := List.getElem?_eq_getElem hk
      have h14 := h11 k (by omega)
      have h15 : 0 ≤ qAt fs k := by
        rw [h14]
        have a1 := h3 k (by omega)
        have a2 := Rat.mul_nonneg h13 (h9 k (by omega))
        grind
      unfold qAt at h15
      rw [e3] at h15
      simp only [Bool.not_eq_true', decide_eq_false_iff_not, cmpR_neg]
      exact Rat.not_lt.2 h15
    · intro r hr
      obtain ⟨i, hi, rfl⟩ := List.getElem_of_mem hr
      unfold rowOk
      simp only [Bool.not_eq_true', decide_eq_false_iff_not, cmpR_pos]
      rw [row_sm h1 hi h10]
      have h16 := h6 rs[i] (List.getElem_mem hi)
      unfold rayOk at h16
      simp only [Bool.not_eq_true', decide_eq_false_iff_not, cmpR_pos] at h16
      rw [row_sm h1 hi h8] at h16
      have h17 := ray_row (c := 1000) h13 (h4 i hi) (Rat.not_lt.1 h16)
      rw [sm_congr (g := fun k => aAt rs i k * (qAt xs k + 1000 * qAt ds k)) (fun k hk => by rw [h11 k hk])]
      have e1 : rs[i]? = some rs[i] := List.getElem?_eq_getElem hi
      unfold bAt at h17
      rw [e1] at h17
      exact Rat.not_lt.2 h17
  · rw [prods_sm rfl h8] at h7
    rw [prods_sm rfl h10, prods_sm rfl h2]
    have h18 := ray_goal (x := qAt xs) h12 h7
    rw [sm_congr (g := fun k => qAt gs k * (qAt xs k + 1000 * qAt ds k)) (fun k hk => by rw [h11 k hk])]
    rw [decide_eq_false_iff_not]
    have := cmpR_pos.2 h18
    omega
end Go.Proofs.Ytlocaleiloiaoaa
