/- Ranks of matrices over the rational numbers. Plain, no program in sight. -/
import Derived.Test.YtkjmliebkbbogaaPLp
namespace Go.Proofs.Ytkjmliebkbbogaa.Plain
set_option linter.unusedVariables false
set_option linter.unusedSimpArgs false

/-- The unit matrix. -/
def dl (i j : Nat) : Rat := if i = j then 1 else 0
theorem dl_self (i : Nat) : dl i i = 1 := by simp [dl]
theorem dl_ne {i j : Nat} (h : i ≠ j) : dl i j = 0 := by simp [dl, h]
theorem dl_comm (i j : Nat) : dl i j = dl j i := by
  unfold dl
  by_cases h : i = j
  · rw [if_pos h, if_pos h.symm]
  · rw [if_neg h, if_neg fun e => h e.symm]
theorem sm_zeroOf {n : Nat} {f : Nat → Rat} (h : ∀ k, k < n → f k = 0) : sm n f = 0 := by
  rw [sm_congr (g := fun _ => 0) h]; exact sm_zero n
theorem sm_dl {n t : Nat} (f : Nat → Rat) (ht : t < n) : sm n (fun k => dl t k * f k) = f t := by
  induction n with
  | zero => omega
  | succ n ih =>
    show sm n (fun k => dl t k * f k) + dl t n * f n = f t
    by_cases h : t = n
    · subst h
      rw [dl_self, sm_zeroOf fun k hk => by rw [dl_ne (by omega)]; grind]
      grind
    · rw [ih (by omega), dl_ne h]; grind
theorem sm_dl' {n t : Nat} (f : Nat → Rat) (ht : t < n) : sm n (fun k => f k * dl k t) = f t := by
  rw [sm_congr (g := fun k => dl t k * f k) (fun k _ => by rw [dl_comm k t]; grind)]
  exact sm_dl f ht
theorem sm_two {n i p : Nat} (x y : Rat) (g : Nat → Rat) (hi : i < n) (hp : p < n) : sm n (fun t => (x * dl i t + y * dl p t) * g t) = x * g i + y * g p := by
  rw [sm_congr (g := fun t => x * (dl i t * g t) + y * (dl p t * g t)) (fun t _ => by grind), sm_add, sm_mul, sm_mul, sm_dl g hi, sm_dl g hp]
theorem sm_sub (n : Nat) (f g : Nat → Rat) : sm n (fun k => f k - g k) = sm n f - sm n g := by
  rw [sm_congr (g := fun k => f k + (-1) * g k) (fun k _ => by grind), sm_add, sm_mul]; grind
/-- A product of a product. -/
theorem sm_assoc (a b : Nat) (x : Nat → Rat) (Y : Nat → Nat → Rat) (z : Nat → Rat) : sm a (fun s => x s * sm b (fun t => Y s t * z t)) = sm b (fun t => sm a (fun s => x s * Y s t) * z t) := by
  rw [sm_congr (g := fun s => sm b (fun t => x s * (Y s t * z t))) (fun s _ => (sm_mul b _ _).symm)]
  rw [← sm_swap]
  refine sm_congr fun t _ => ?_
  rw [← sm_mulr]
  exact sm_congr fun s _ => by grind

/-- More unknowns than equations. -/
theorem ker_exists : ∀ (s r : Nat) (Y : Nat → Nat → Rat), s < r → ∃ v : Nat → Rat, (∃ k, k < r ∧ v k ≠ 0) ∧ ∀ i, i < s → sm r (fun k => Y i k * v k) = 0 := by
  intro s
  induction s with
  | zero => exact fun r Y h => ⟨dl 0, ⟨0, h, by rw [dl_self]; decide⟩, fun i hi => by omega⟩
  | succ s ih =>
    intro r Y h
    obtain ⟨r, rfl⟩ : ∃ q, r = q + 1 := ⟨r - 1, by omega⟩
    by_cases hz : ∀ i, i < s + 1 → Y i r = 0
    · refine ⟨dl r, ⟨r, by omega, by rw [dl_self]; decide⟩, fun i hi => ?_⟩
      rw [sm_congr (g := fun k => Y i k * dl k r) (fun k _ => by rw [dl_comm r k]), sm_dl' (Y i) (by omega)]
      exact hz i hi
    · obtain ⟨i0, hi0, hp⟩ : ∃ i, i < s + 1 ∧ Y i r ≠ 0 := by
        refine Classical.byContradiction fun hc => hz fun i hi => Classical.byContradiction fun hy => hc ⟨i, hi, hy⟩
      let σ : Nat → Nat := fun j => if j = i0 then s else j
      obtain ⟨v, ⟨k, hk, hvk⟩, hv⟩ := ih r (fun j k => Y (σ j) k - Y (σ j) r / Y i0 r * Y i0 k) (by omega)
      refine ⟨fun k => if k < r then v k else -(sm r (fun k => Y i0 k * v k)) / Y i0 r, ⟨k, by omega, by simpa [hk] using hvk⟩, fun i hi => ?_⟩
      have e : ∀ i, sm (r + 1) (fun k => Y i k * if k < r then v k else -(sm r (fun k => Y i0 k * v k)) / Y i0 r) = sm r (fun k => Y i k * v k) + Y i r * (-(sm r (fun k => Y i0 k * v k)) / Y i0 r) := by
        intro i
        show sm r _ + _ = _
        rw [sm_congr (g := fun k => Y i k * v k) (fun k hk => by simp [hk])]
        simp
      rw [e]
      by_cases hii : i = i0
      · subst hii
        generalize sm r (fun k => Y i k * v k) = S
        grind
      · have hj : ∃ j, j < s ∧ σ j = i := by
          by_cases his : i = s
          · refine ⟨i0, by omega, ?_⟩
            show (if i0 = i0 then s else i0) = i
            rw [if_pos rfl]; exact his.symm
          · refine ⟨i, by omega, ?_⟩
            show (if i = i0 then s else i) = i
            rw [if_neg hii]
        obtain ⟨j, hj, hσ⟩ := hj
        have h1 := hv j hj
        rw [hσ] at h1
        rw [sm_congr (g := fun k => Y i k * v k - Y i r / Y i0 r * (Y i0 k * v k)) (fun k _ => by grind), sm_sub, sm_mul] at h1
        generalize sm r (fun k => Y i0 k * v k) = S at *
        generalize sm r (fun k => Y i k * v k) = T at *
        grind
/-- A unit matrix does not pass through fewer dimensions. -/
theorem dim_le {r s : Nat} {X Y : Nat → Nat → Rat} (h : ∀ t u, t < r → u < r → sm s (fun i => X t i * Y i u) = dl t u) : r ≤ s := by
  refine Classical.byContradiction fun hc => ?_
  obtain ⟨v, ⟨k, hk, hvk⟩, hv⟩ := ker_exists s r Y (by omega)
  apply hvk
  have h1 : sm r (fun u => sm s (fun i => X k i * Y i u) * v u) = v k := by
    rw [sm_congr (g := fun u => dl k u * v u) (fun u hu => by rw [h k u hk hu])]
    exact sm_dl v hk
  rw [← h1, ← sm_assoc]
  exact sm_zeroOf fun i hi => by rw [hv i hi]; grind
/-- The rank: a factorization through r dimensions. -/
def HasRank (m n : Nat) (M : Nat → Nat → Rat) (r : Nat) : Prop :=
  ∃ A A' B B' : Nat → Nat → Rat, (∀ i k, i < m → k < n → M i k = sm r (fun t => A i t * B t k)) ∧ (∀ s t, s < r → t < r → sm m (fun i => A' s i * A i t) = dl s t) ∧ (∀ s t, s < r → t < r → sm n (fun k => B s k * B' k t) = dl s t)
theorem HasRank.le {m n : Nat} {M : Nat → Nat → Rat} {r s : Nat} (h1 : HasRank m n M r) (h2 : HasRank m n M s) : r ≤ s := by
  obtain ⟨A, A', B, B', a1, a2, a3⟩ := h1
  obtain ⟨C, C', D, D', c1, c2, c3⟩ := h2
  refine dim_le (s := s) (X := fun t u => sm m (fun i => A' t i * C i u)) (Y := fun u t => sm n (fun k => D u k * B' k t)) fun t u ht hu => ?_
  have e1 : sm s (fun j => sm m (fun i => A' t i * C i j) * sm n (fun k => D j k * B' k u)) = sm m (fun i => A' t i * sm n (fun k => M i k * B' k u)) := by
    rw [← sm_assoc]
    refine sm_congr fun i hi => ?_
    rw [sm_assoc]
    congr 1
    exact sm_congr fun k hk => by rw [← c1 i k hi hk]
  rw [e1]
  have e2 : ∀ i, i < m → sm n (fun k => M i k * B' k u) = A i u := by
    intro i hi
    rw [sm_congr (g := fun k => sm r (fun q => A i q * B q k) * B' k u) (fun k hk => by rw [a1 i k hi hk]), ← sm_assoc]
    rw [sm_congr (g := fun q => A i q * dl q u) (fun q hq => by rw [a3 q u hq hu])]
    exact sm_dl' _ hu
  rw [sm_congr (g := fun i => A' t i * A i u) (fun i hi => by rw [e2 i hi])]
  exact a2 t u ht hu
theorem HasRank.unique {m n : Nat} {M : Nat → Nat → Rat} {r s : Nat} (h1 : HasRank m n M r) (h2 : HasRank m n M s) : r = s := Nat.le_antisymm (h1.le h2) (h2.le h1)
theorem HasRank.congr {m n : Nat} {M M' : Nat → Nat → Rat} {r : Nat} (h : HasRank m n M r) (e : ∀ i k, i < m → k < n → M' i k = M i k) : HasRank m n M' r := by
  obtain ⟨A, A', B, B', a1, a2, a3⟩ := h
  exact ⟨A, A', B, B', fun i k hi hk => by rw [e i k hi hk, a1 i k hi hk], a2, a3⟩
theorem HasRank.transpose {m n : Nat} {M : Nat → Nat → Rat} {r : Nat} (h : HasRank m n M r) : HasRank n m (fun i k => M k i) r := by
  obtain ⟨A, A', B, B', a1, a2, a3⟩ := h
  refine ⟨fun i t => B t i, fun s k => B' k s, fun t k => A k t, fun i s => A' s i, fun i k hi hk => ?_, fun s t hs ht => ?_, fun s t hs ht => ?_⟩
  · show M k i = _
    rw [a1 k i hk hi]; exact sm_congr fun t _ => by grind
  · rw [sm_congr (g := fun i => B t i * B' i s) (fun i _ => by grind), a3 t s ht hs, dl_comm]
  · rw [sm_congr (g := fun k => A' t k * A k s) (fun k _ => by grind), a2 t s ht hs, dl_comm]
theorem HasRank.le_cols {m n : Nat} {M : Nat → Nat → Rat} {r : Nat} (h : HasRank m n M r) : r ≤ n := by
  obtain ⟨A, A', B, B', a1, a2, a3⟩ := h
  exact dim_le a3
theorem HasRank.le_rows {m n : Nat} {M : Nat → Nat → Rat} {r : Nat} (h : HasRank m n M r) : r ≤ m := h.transpose.le_cols

/-- The rows are turned by an invertible matrix. -/
def RowEq (m n : Nat) (M M' : Nat → Nat → Rat) : Prop :=
  ∃ E F : Nat → Nat → Rat, (∀ i j, i < m → j < m → sm m (fun t => E i t * F t j) = dl i j) ∧ (∀ i j, i < m → j < m → sm m (fun t => F i t * E t j) = dl i j) ∧ ∀ i k, i < m → k < n → M' i k = sm m (fun t => E i t * M t k)
theorem RowEq.refl (m n : Nat) (M : Nat → Nat → Rat) : RowEq m n M M :=
  ⟨dl, dl, fun i j hi hj => sm_dl (fun t => dl t j) hi, fun i j hi hj => sm_dl (fun t => dl t j) hi, fun i k hi hk => (sm_dl (fun t => M t k) hi).symm⟩
theorem RowEq.congr {m n : Nat} {M M' M'' : Nat → Nat → Rat} (h : RowEq m n M M') (e : ∀ i k, i < m → k < n → M'' i k = M' i k) : RowEq m n M M'' := by
  obtain ⟨E, F, h1, h2, h3⟩ := h
  exact ⟨E, F, h1, h2, fun i k hi hk => by rw [e i k hi hk, h3 i k hi hk]⟩
theorem RowEq.symm {m n : Nat} {M M' : Nat → Nat → Rat} (h : RowEq m n M M') : RowEq m n M' M := by
  obtain ⟨E, F, h1, h2, h3⟩ := h
  refine ⟨F, E, h2, h1, fun i k hi hk => ?_⟩
  rw [sm_congr (g := fun t => F i t * sm m (fun u => E t u * M u k)) (fun t ht => by rw [h3 t k ht hk]), sm_assoc]
  rw [sm_congr (g := fun u => dl i u * M u k) (fun u hu => by rw [h2 i u hi hu])]
  exact (sm_dl (fun u => M u k) hi).symm
theorem RowEq.trans {m n : Nat} {M M' M'' : Nat → Nat → Rat} (h : RowEq m n M M') (g : RowEq m n M' M'') : RowEq m n M M'' := by
  obtain ⟨E, F, h1, h2, h3⟩ := h
  obtain ⟨G, H, g1, g2, g3⟩ := g
  refine ⟨fun i j => sm m (fun t => G i t * E t j), fun i j => sm m (fun t => F i t * H t j), fun i j hi hj => ?_, fun i j hi hj => ?_, fun i k hi hk => ?_⟩
  · rw [← sm_assoc]
    rw [sm_congr (g := fun t => G i t * H t j) (fun t ht => by
      rw [sm_assoc, sm_congr (g := fun u => dl t u * H u j) (fun u hu => by rw [h1 t u ht hu]), sm_dl (fun u => H u j) ht])]
    exact g1 i j hi hj
  · rw [← sm_assoc]
    rw [sm_congr (g := fun t => F i t * E t j) (fun t ht => by
      rw [sm_assoc, sm_congr (g := fun u => dl t u * E u j) (fun u hu => by rw [g2 t u ht hu]), sm_dl (fun u => E u j) ht])]
    exact h2 i j hi hj
  · rw [g3 i k hi hk, ← sm_assoc]
    exact sm_congr fun t ht => by rw [h3 t k ht hk]
theorem RowEq.rank {m n : Nat} {M M' : Nat → Nat → Rat} {r : Nat} (h : RowEq m n M M') (g : HasRank m n M r) : HasRank m n M' r := by
  obtain ⟨E, F, h1, h2, h3⟩ := h
  obtain ⟨A, A', B, B', a1, a2, a3⟩ := g
  refine ⟨fun i t => sm m (fun j => E i j * A j t), fun s i => sm m (fun j => A' s j * F j i), B, B', fun i k hi hk => ?_, fun s t hs ht => ?_, a3⟩
  · rw [h3 i k hi hk, ← sm_assoc]
    exact sm_congr fun j hj => by rw [a1 j k hj hk]
  · rw [← sm_assoc]
    rw [sm_congr (g := fun j => A' s j * A j t) (fun j hj => by
      rw [sm_assoc, sm_congr (g := fun u => dl j u * A u t) (fun u hu => by rw [h2 j u hj hu]), sm_dl (fun u => A u t) hj])]
    exact a2 s t hs ht
/-- The solutions stay. -/
theorem RowEq.ker {m n : Nat} {M M' : Nat → Nat → Rat} {x : Nat → Rat} (h : RowEq m n M M') (hx : ∀ i, i < m → sm n (fun k => M i k * x k) = 0) : ∀ i, i < m → sm n (fun k => M' i k * x k) = 0 := by
  obtain ⟨E, F, h1, h2, h3⟩ := h
  intro i hi
  rw [sm_congr (g := fun k => sm m (fun t => E i t * M t k) * x k) (fun k hk => by rw [h3 i k hi hk]), ← sm_assoc]
  exact sm_zeroOf fun t ht => by rw [hx t ht]; grind
/-- A step of the elimination. -/
def piv (M : Nat → Nat → Rat) (p c : Nat) : Nat → Nat → Rat := fun i k => if i = p then M p k / M p c else M i k - M i c * (M p k / M p c)
theorem RowEq.piv {m n p c : Nat} {M : Nat → Nat → Rat} (hp : p < m) (ha : M p c ≠ 0) : RowEq m n M (piv M p c) := by
  refine ⟨fun i t => (if i = p then 1 / M p c else 1) * dl i t + (if i = p then 0 else -(M i c / M p c)) * dl p t, fun i t => (if i = p then M p c else 1) * dl i t + (if i = p then 0 else M i c) * dl p t, fun i j hi hj => ?_, fun i j hi hj => ?_, fun i k hi hk => ?_⟩
  · rw [sm_two _ _ _ hi hp]
    by_cases h : i = p
    · subst h; simp only [if_true]; grind
    · simp only [if_neg h, if_true]; grind
  · rw [sm_two _ _ _ hi hp]
    by_cases h : i = p
    · subst h; simp only [if_true]; grind
    · simp only [if_neg h, if_true]; grind
  · rw [sm_two _ _ _ hi hp]
    unfold Plain.piv
    by_cases h : i = p
    · subst h; simp only [if_true]; grind
    · simp only [if_neg h]; grind
/-- The rows in another order. -/
theorem RowEq.perm {m n : Nat} {M : Nat → Nat → Rat} {σ τ : Nat → Nat} (h1 : ∀ i, i < m → σ i < m ∧ τ (σ i) = i) (h2 : ∀ i, i < m → τ i < m ∧ σ (τ i) = i) : RowEq m n M (fun i k => M (σ i) k) := by
  refine ⟨fun i t => dl (σ i) t, fun i t => dl (τ i) t, fun i j hi hj => ?_, fun i j hi hj => ?_, fun i k hi hk => (sm_dl (fun t => M t k) (h1 i hi).1).symm⟩
  · rw [sm_dl (fun t => dl (τ t) j) (h1 i hi).1, (h1 i hi).2]
  · rw [sm_dl (fun t => dl (σ t) j) (h2 i hi).1, (h2 i hi).2]
end Go.Proofs.Ytkjmliebkbbogaa.Plain
/- Reduced matrices: pivots, solutions, free columns. Plain, no program in sight. -/
namespace Go.Proofs.Ytkjmliebkbbogaa.Plain
set_option linter.unusedVariables false
set_option linter.unusedSimpArgs false

/-- The first c columns are reduced; ps: the pivots (column, row). -/
structure Red (m c : Nat) (R : Nat → Nat → Rat) (ps : List (Nat × Nat)) : Prop where
  lt : ∀ p ∈ ps, p.1 < c ∧ p.2 < m
  col : ps.Pairwise fun p q => p.1 < q.1
  row : ps.Pairwise fun p q => p.2 ≠ q.2
  unit : ∀ p ∈ ps, ∀ i, i < m → R i p.1 = dl i p.2
  zero : ∀ j, j < c → (∀ p ∈ ps, p.1 ≠ j) → ∀ i, i < m → (∀ p ∈ ps, p.1 < j → p.2 ≠ i) → R i j = 0
theorem Red.nil (m : Nat) (R : Nat → Nat → Rat) : Red m 0 R [] := ⟨by simp, .nil, .nil, by simp, fun j hj => by omega⟩
theorem Red.congr {m c : Nat} {R R' : Nat → Nat → Rat} {ps : List (Nat × Nat)} (h : Red m c R ps) (e : ∀ i k, i < m → k < c → R' i k = R i k) : Red m c R' ps :=
  ⟨h.lt, h.col, h.row, fun p hp i hi => by rw [e i p.1 hi (h.lt p hp).1]; exact h.unit p hp i hi, fun j hj h1 i hi h2 => by rw [e i j hi hj]; exact h.zero j hj h1 i hi h2⟩
theorem Red.skip {m c : Nat} {R : Nat → Nat → Rat} {ps : List (Nat × Nat)} (h : Red m c R ps) (hz : ∀ i, i < m → (∀ p ∈ ps, p.2 ≠ i) → R i c = 0) : Red m (c + 1) R ps :=
  ⟨fun p hp => ⟨by have := (h.lt p hp).1; omega, (h.lt p hp).2⟩, h.col, h.row, h.unit, fun j hj h1 i hi h2 => by
    by_cases hc : j = c
    · subst hc
      exact hz i hi fun p hp => h2 p hp (h.lt p hp).1
    · exact h.zero j (by omega) h1 i hi h2⟩
theorem Red.step {m c p : Nat} {R : Nat → Nat → Rat} {ps : List (Nat × Nat)} (h : Red m c R ps) (hp : p < m) (hu : ∀ q ∈ ps, q.2 ≠ p) (ha : R p c ≠ 0) : Red m (c + 1) (piv R p c) (ps ++ [(c, p)]) := by
  refine ⟨fun q hq => ?_, ?_, ?_, fun q hq i hi => ?_, fun j hj h1 i hi h2 => ?_⟩
  · rcases List.mem_append.1 hq with h1 | h1
    · exact ⟨by have := (h.lt q h1).1; omega, (h.lt q h1).2⟩
    · simp at h1; subst h1; exact ⟨by show c < c + 1; omega, hp⟩
  · rw [List.pairwise_append]
    exact ⟨h.col, by simp, fun a ha' b hb => by simp at hb; subst hb; exact (h.lt a ha').1⟩
  · rw [List.pairwise_append]
    exact ⟨h.row, by simp, fun a ha' b hb => by simp at hb; subst hb; exact hu a ha'⟩
  · unfold piv
    rcases List.mem_append.1 hq with h1 | h1
    · have e1 := h.unit q h1 p hp
      rw [dl_ne fun e => hu q h1 e.symm] at e1
      by_cases hip : i = p
      · subst hip
        rw [if_pos rfl, e1, dl_ne fun e => hu q h1 e.symm]
        grind
      · rw [if_neg hip, e1, h.unit q h1 i hi]
        grind
    · simp at h1; subst h1
      by_cases hip : i = p
      · subst hip
        simp only [if_true, dl_self]
        grind
      · simp only [if_neg hip, dl_ne hip]
        grind
  · have hjc : j ≠ c := fun e => h1 (c, p) (by simp) e.symm
    have e1 : R i j = 0 := h.zero j (by omega) (fun q hq => h1 q (List.mem_append_left _ hq)) i hi fun q hq => h2 q (List.mem_append_left _ hq)
    have e2 : R p j = 0 := h.zero j (by omega) (fun q hq => h1 q (List.mem_append_left _ hq)) p hp fun q hq _ => hu q hq
    unfold piv
    by_cases hip : i = p
    · rw [if_pos hip, e2]; grind
    · rw [if_neg hip, e1, e2]; grind
theorem Red.mono {m c j : Nat} {R : Nat → Nat → Rat} {ps : List (Nat × Nat)} (h : Red m c R ps) (hj : j ≤ c) : Red m j R (ps.filter fun p => decide (p.1 < j)) := by
  refine ⟨fun p hp => ?_, h.col.filter _, h.row.filter _, fun p hp => h.unit p (List.mem_filter.1 hp).1, fun k hk h1 i hi h2 => ?_⟩
  · obtain ⟨h1, h2⟩ := List.mem_filter.1 hp
    exact ⟨of_decide_eq_true h2, (h.lt p h1).2⟩
  · refine h.zero k (by omega) (fun p hp e => h1 p (List.mem_filter.2 ⟨hp, decide_eq_true (by omega)⟩) e) i hi fun p hp hlt => h2 p (List.mem_filter.2 ⟨hp, decide_eq_true (by omega)⟩) hlt
theorem Red.perm {m c : Nat} {R : Nat → Nat → Rat} {ps : List (Nat × Nat)} {σ τ : Nat → Nat} (h : Red m c R ps) (h1 : ∀ i, i < m → σ i < m ∧ τ (σ i) = i) (h2 : ∀ i, i < m → τ i < m ∧ σ (τ i) = i) :
    Red m c (fun i k => R (σ i) k) (ps.map fun p => (p.1, τ p.2)) := by
  refine ⟨fun p hp => ?_, ?_, ?_, fun p hp i hi => ?_, fun j hj k1 i hi k2 => ?_⟩
  · obtain ⟨q, hq, rfl⟩ := List.mem_map.1 hp
    exact ⟨(h.lt q hq).1, (h2 _ (h.lt q hq).2).1⟩
  · rw [List.pairwise_map]; exact h.col
  · rw [List.pairwise_map]
    refine List.Pairwise.imp_of_mem ?_ h.row
    intro a b ha hb hne e
    apply hne
    have := congrArg σ e
    rw [(h2 _ (h.lt a ha).2).2, (h2 _ (h.lt b hb).2).2] at this
    exact this
  · obtain ⟨q, hq, rfl⟩ := List.mem_map.1 hp
    show R (σ i) q.1 = dl i (τ q.2)
    rw [h.unit q hq (σ i) (h1 i hi).1]
    by_cases e : σ i = q.2
    · rw [e, dl_self, ← e, (h1 i hi).2, dl_self]
    · rw [dl_ne e, dl_ne]
      intro e2
      apply e
      rw [e2, (h2 _ (h.lt q hq).2).2]
  · refine h.zero j hj (fun p hp => k1 (p.1, τ p.2) (List.mem_map.2 ⟨p, hp, rfl⟩)) (σ i) (h1 i hi).1 fun p hp hlt e => k2 (p.1, τ p.2) (List.mem_map.2 ⟨p, hp, rfl⟩) hlt ?_
    show τ p.2 = i
    rw [e, (h1 i hi).2]
theorem Red.rowInj {m c : Nat} {R : Nat → Nat → Rat} {ps : List (Nat × Nat)} (h : Red m c R ps) {p q : Nat × Nat} (hp : p ∈ ps) (hq : q ∈ ps) (e : p.2 = q.2) : p = q := by
  obtain ⟨s, hs, rfl⟩ := List.getElem_of_mem hp
  obtain ⟨t, ht, rfl⟩ := List.getElem_of_mem hq
  rcases Nat.lt_trichotomy s t with hlt | he | hgt
  · exact absurd e (List.pairwise_iff_getElem.1 h.row s t hs ht hlt)
  · subst he; rfl
  · exact absurd e.symm (List.pairwise_iff_getElem.1 h.row t s ht hs hgt)
/-- A pivot's row has zeros before its column. -/
theorem Red.lead {m c : Nat} {R : Nat → Nat → Rat} {ps : List (Nat × Nat)} (h : Red m c R ps) {p : Nat × Nat} (hp : p ∈ ps) {j : Nat} (hj : j < p.1) : R p.2 j = 0 := by
  have hpl := h.lt p hp
  by_cases hq : ∃ q ∈ ps, q.1 = j
  · obtain ⟨q, hq, rfl⟩ := hq
    rw [h.unit q hq p.2 hpl.2, dl_ne]
    intro e
    have := h.rowInj hp hq e
    subst this
    omega
  · refine h.zero j (by omega) (fun q hq' e => hq ⟨q, hq', e⟩) p.2 hpl.2 fun q hq' hlt e => ?_
    have := h.rowInj hq' hp e
    subst this
    omega
/-- An unused row is zero. -/
theorem Red.unused {m c : Nat} {R : Nat → Nat → Rat} {ps : List (Nat × Nat)} (h : Red m c R ps) {i : Nat} (hi : i < m) (hu : ∀ p ∈ ps, p.2 ≠ i) {j : Nat} (hj : j < c) : R i j = 0 := by
  by_cases hq : ∃ q ∈ ps, q.1 = j
  · obtain ⟨q, hq, rfl⟩ := hq
    rw [h.unit q hq i hi, dl_ne fun e => hu q hq e.symm]
  · exact h.zero j hj (fun q hq' e => hq ⟨q, hq', e⟩) i hi fun q hq' _ => hu q hq'
theorem Red.rank {m c : Nat} {R : Nat → Nat → Rat} {ps : List (Nat × Nat)} (h : Red m c R ps) : HasRank m c R ps.length := by
  have key : ∀ s t, s < ps.length → t < ps.length → dl (ps.getD s (0, 0)).2 (ps.getD t (0, 0)).2 = dl s t := by
    intro s t hs ht
    rw [List.getD_eq_getElem?_getD, List.getD_eq_getElem?_getD, List.getElem?_eq_getElem hs, List.getElem?_eq_getElem ht]
    simp only [Option.getD_some]
    by_cases e : s = t
    · subst e; rw [dl_self, dl_self]
    · rw [dl_ne e, dl_ne]
      intro e2
      rcases Nat.lt_or_ge s t with hlt | hge
      · exact List.pairwise_iff_getElem.1 h.row s t hs ht hlt e2
      · exact List.pairwise_iff_getElem.1 h.row t s ht hs (by omega) e2.symm
  have mem : ∀ s, s < ps.length → ps.getD s (0, 0) ∈ ps := by
    intro s hs
    rw [List.getD_eq_getElem?_getD, List.getElem?_eq_getElem hs]
    exact List.getElem_mem hs
  refine ⟨fun i t => dl i (ps.getD t (0, 0)).2, fun s i => dl (ps.getD s (0, 0)).2 i, fun t k => R (ps.getD t (0, 0)).2 k, fun k t => dl k (ps.getD t (0, 0)).1, fun i k hi hk => ?_, fun s t hs ht => ?_, fun s t hs ht => ?_⟩
  · by_cases hu : ∃ p ∈ ps, p.2 = i
    · obtain ⟨p, hp, rfl⟩ := hu
      obtain ⟨t0, ht0, rfl⟩ := List.getElem_of_mem hp
      have e0 : ps.getD t0 (0, 0) = ps[t0] := by rw [List.getD_eq_getElem?_getD, List.getElem?_eq_getElem ht0]; rfl
      rw [← e0, sm_congr (g := fun t => dl t0 t * R (ps.getD t (0, 0)).2 k) (fun t ht => by show dl (ps.getD t0 (0, 0)).2 (ps.getD t (0, 0)).2 * _ = _; rw [key t0 t ht0 ht])]
      exact (sm_dl (fun t => R (ps.getD t (0, 0)).2 k) ht0).symm
    · rw [h.unused hi (fun p hp e => hu ⟨p, hp, e⟩) hk, sm_zeroOf]
      intro t ht
      show dl i (ps.getD t (0, 0)).2 * _ = 0
      rw [dl_ne fun e => hu ⟨_, mem t ht, e.symm⟩]
      grind
  · rw [sm_dl (fun i => dl i (ps.getD t (0, 0)).2) (h.lt _ (mem s hs)).2]
    exact key s t hs ht
  · rw [sm_dl' (fun k => R (ps.getD s (0, 0)).2 k) (h.lt _ (mem t ht)).1, h.unit _ (mem t ht) _ (h.lt _ (mem s hs)).2]
    exact key s t hs ht

/-- A list of values at the pivots' columns. -/
def xval : List (Nat × Nat) → (Nat → Rat) → Nat → Rat
  | [], _, _ => 0
  | p :: ps, f, k => if p.1 = k then f p.2 else xval ps f k
theorem xval_none {ps : List (Nat × Nat)} {f : Nat → Rat} {k : Nat} (h : ∀ p ∈ ps, p.1 ≠ k) : xval ps f k = 0 := by
  induction ps with
  | nil => rfl
  | cons p ps ih =>
    unfold xval
    rw [if_neg (h p (by simp))]
    exact ih fun q hq => h q (List.mem_cons_of_mem _ hq)
theorem xval_mem {ps : List (Nat × Nat)} {f : Nat → Rat} (hc : ps.Pairwise fun p q => p.1 < q.1) {p : Nat × Nat} (hp : p ∈ ps) : xval ps f p.1 = f p.2 := by
  induction ps with
  | nil => simp at hp
  | cons q ps ih =>
    rw [List.pairwise_cons] at hc
    unfold xval
    rcases List.mem_cons.1 hp with rfl | h1
    · rw [if_pos rfl]
    · rw [if_neg (by have := hc.1 p h1; omega)]
      exact ih hc.2 h1
def psum : List (Nat × Nat) → (Nat × Nat → Rat) → Rat
  | [], _ => 0
  | p :: ps, f => f p + psum ps f
theorem psum_congr {ps : List (Nat × Nat)} {f g : Nat × Nat → Rat} (h : ∀ p ∈ ps, f p = g p) : psum ps f = psum ps g := by
  induction ps with
  | nil => rfl
  | cons p ps ih =>
    unfold psum
    rw [h p (by simp), ih fun q hq => h q (List.mem_cons_of_mem _ hq)]
theorem psum_zero {ps : List (Nat × Nat)} {f : Nat × Nat → Rat} (h : ∀ p ∈ ps, f p = 0) : psum ps f = 0 := by
  induction ps with
  | nil => rfl
  | cons p ps ih =>
    unfold psum
    rw [h p (by simp), ih fun q hq => h q (List.mem_cons_of_mem _ hq)]
    grind
theorem sm_xval {n : Nat} {ps : List (Nat × Nat)} {f : Nat → Rat} (g : Nat → Rat) (hc : ps.Pairwise fun p q => p.1 < q.1) (hl : ∀ p ∈ ps, p.1 < n) : sm n (fun k => g k * xval ps f k) = psum ps fun p => g p.1 * f p.2 := by
  induction ps with
  | nil => exact sm_zeroOf fun k _ => by unfold xval; grind
  | cons p ps ih =>
    rw [List.pairwise_cons] at hc
    have h1 := ih hc.2 fun q hq => hl q (List.mem_cons_of_mem _ hq)
    unfold psum
    rw [← h1]
    have h2 : p.1 < n := hl p (by simp)
    rw [sm_congr (g := fun k => (g k * f p.2) * dl k p.1 + g k * xval ps f k) (fun k hk => by
      rw [show xval (p :: ps) f k = if p.1 = k then f p.2 else xval ps f k from rfl]
      by_cases e : p.1 = k
      · subst e
        rw [if_pos rfl, dl_self, xval_none fun q hq => by have := hc.1 q hq; omega]
        grind
      · rw [if_neg e, dl_ne fun e2 => e e2.symm]
        grind), sm_add, sm_dl' (fun k => g k * f p.2) h2]
/-- One pivot's term of a sum over unit columns. -/
theorem psum_unit {ps : List (Nat × Nat)} {i : Nat} {f : Nat → Rat} (hr : ps.Pairwise fun p q => p.2 ≠ q.2) : psum ps (fun p => dl i p.2 * f p.2) = if ∃ p ∈ ps, p.2 = i then f i else 0 := by
  induction ps with
  | nil => simp [psum]
  | cons p ps ih =>
    rw [List.pairwise_cons] at hr
    show dl i p.2 * f p.2 + psum ps (fun p => dl i p.2 * f p.2) = _
    rw [ih hr.2]
    by_cases e : p.2 = i
    · subst e
      rw [dl_self, if_neg (by rintro ⟨q, hq, e⟩; exact hr.1 q hq e.symm), if_pos ⟨p, by simp, rfl⟩]
      grind
    · rw [dl_ne fun e2 => e e2.symm]
      by_cases h2 : ∃ q ∈ ps, q.2 = i
      · obtain ⟨q, hq, e3⟩ := h2
        rw [if_pos ⟨q, hq, e3⟩, if_pos ⟨q, List.mem_cons_of_mem _ hq, e3⟩]
        grind
      · rw [if_neg h2, if_neg]
        · grind
        · rintro ⟨q, hq, e3⟩
          rcases List.mem_cons.1 hq with rfl | h4
          · exact e e3
          · exact h2 ⟨q, h4, e3⟩
/-- The row times the values at the pivots. -/
theorem Red.apply {m c : Nat} {R : Nat → Nat → Rat} {ps : List (Nat × Nat)} (h : Red m c R ps) {n : Nat} (hn : c ≤ n) (f : Nat → Rat) {i : Nat} (hi : i < m) : sm n (fun k => R i k * xval ps f k) = if ∃ p ∈ ps, p.2 = i then f i else 0 := by
  rw [sm_xval (R i) h.col fun p hp => by have := (h.lt p hp).1; omega, psum_congr (g := fun p => dl i p.2 * f p.2) fun p hp => by rw [h.unit p hp i hi]]
  exact psum_unit h.row
/-- The solution whose free elements are zero. -/
theorem Red.solves {m n : Nat} {R : Nat → Nat → Rat} {ps : List (Nat × Nat)} (h : Red m n R ps) (hc : ∀ i, i < m → (∀ p ∈ ps, p.2 ≠ i) → R i n = 0) : ∀ i, i < m → sm n (fun k => R i k * xval ps (fun i => R i n) k) = R i n := by
  intro i hi
  rw [h.apply (Nat.le_refl n) _ hi]
  by_cases hu : ∃ p ∈ ps, p.2 = i
  · rw [if_pos hu]
  · rw [if_neg hu, hc i hi fun p hp e => hu ⟨p, hp, e⟩]
/-- A system that can be solved is consistent. -/
theorem Red.consistent {m n : Nat} {R : Nat → Nat → Rat} {ps : List (Nat × Nat)} {b : Nat → Rat} (h : Red m n R ps) {x : Nat → Rat} (hx : ∀ i, i < m → sm n (fun k => R i k * x k) = b i) : ∀ i, i < m → (∀ p ∈ ps, p.2 ≠ i) → b i = 0 := by
  intro i hi hu
  rw [← hx i hi]
  exact sm_zeroOf fun k hk => by rw [h.unused hi hu hk]; grind
/-- Solutions that agree on the free columns are equal. -/
theorem Red.unique {m n : Nat} {R : Nat → Nat → Rat} {ps : List (Nat × Nat)} (h : Red m n R ps) {x y : Nat → Rat} (hx : ∀ i, i < m → sm n (fun k => R i k * x k) = sm n (fun k => R i k * y k)) (hf : ∀ k, k < n → (∀ p ∈ ps, p.1 ≠ k) → x k = y k) : ∀ k, k < n → x k = y k := by
  intro k hk
  by_cases hp : ∃ p ∈ ps, p.1 = k
  · obtain ⟨p, hp, rfl⟩ := hp
    have h1 := hx p.2 (h.lt p hp).2
    have h2 : sm n (fun k => R p.2 k * (x k - y k)) = 0 := by
      rw [sm_congr (g := fun k => R p.2 k * x k - R p.2 k * y k) (fun k _ => by grind), sm_sub, h1]; grind
    have h3 : sm n (fun k => R p.2 k * (x k - y k)) = x p.1 - y p.1 := by
      rw [sm_congr (g := fun k => dl p.1 k * (x k - y k)) (fun k hk => ?_), sm_dl (fun k => x k - y k) hk]
      by_cases hq : ∃ q ∈ ps, q.1 = k
      · obtain ⟨q, hq, rfl⟩ := hq
        rw [h.unit q hq p.2 (h.lt p hp).2]
        by_cases e : p.2 = q.2
        · have := h.rowInj hp hq e
          subst this
          rw [dl_self, dl_self]
        · rw [dl_ne e, dl_ne]
          intro e2
          apply e
          have h5 : p = q := by
            obtain ⟨s, hs, rfl⟩ := List.getElem_of_mem hp
            obtain ⟨t, ht, rfl⟩ := List.getElem_of_mem hq
            rcases Nat.lt_trichotomy s t with hlt | he | hgt
            · have := List.pairwise_iff_getElem.1 h.col s t hs ht hlt; omega
            · subst he; rfl
            · have := List.pairwise_iff_getElem.1 h.col t s ht hs hgt; omega
          rw [h5]
      · rw [hf k hk fun q hq' e => hq ⟨q, hq', e⟩]
        grind
    rw [h3] at h2
    grind
  · exact hf k hk fun q hq e => hp ⟨q, hq, e⟩
/-- A column of the kernel for a free column. -/
def freeCol (ps : List (Nat × Nat)) (R : Nat → Nat → Rat) (f : Nat) : Nat → Rat := fun k => dl k f - xval ps (fun i => R i f) k
theorem Red.free {m n : Nat} {R : Nat → Nat → Rat} {ps : List (Nat × Nat)} (h : Red m n R ps) {f : Nat} (hf : f < n) (hn : ∀ p ∈ ps, p.1 ≠ f) : ∀ i, i < m → sm n (fun k => R i k * freeCol ps R f k) = 0 := by
  intro i hi
  rw [sm_congr (g := fun k => R i k * dl k f - R i k * xval ps (fun i => R i f) k) (fun k _ => by unfold freeCol; grind), sm_sub, sm_dl' (R i) hf, h.apply (Nat.le_refl n) _ hi]
  by_cases hu : ∃ p ∈ ps, p.2 = i
  · rw [if_pos hu]; grind
  · rw [if_neg hu, h.unused hi (fun p hp e => hu ⟨p, hp, e⟩) hf]; grind
theorem Red.freeCol_self {m n : Nat} {R : Nat → Nat → Rat} {ps : List (Nat × Nat)} {f : Nat} (hn : ∀ p ∈ ps, p.1 ≠ f) : freeCol ps R f f = 1 := by
  unfold freeCol
  rw [dl_self, xval_none hn]; grind
theorem Red.freeCol_gt {m n : Nat} {R : Nat → Nat → Rat} {ps : List (Nat × Nat)} (h : Red m n R ps) {f k : Nat} (hk : f < k) : freeCol ps R f k = 0 := by
  unfold freeCol
  rw [dl_ne (by omega)]
  by_cases hp : ∃ p ∈ ps, p.1 = k
  · obtain ⟨p, hp, rfl⟩ := hp
    rw [xval_mem h.col hp, h.lead hp hk]; grind
  · rw [xval_none fun p hp' e => hp ⟨p, hp', e⟩]; grind
/-- A column is free exactly if the columns before it give it. -/
theorem Red.pivot_iff {m n : Nat} {R : Nat → Nat → Rat} {ps : List (Nat × Nat)} (h : Red m n R ps) {k : Nat} (hk : k < n) : (∃ p ∈ ps, p.1 = k) ↔ ¬ ∃ z : Nat → Rat, (∀ i, i < m → sm n (fun j => R i j * z j) = 0) ∧ z k = 1 ∧ ∀ j, k < j → z j = 0 := by
  constructor
  · rintro ⟨p, hp, rfl⟩ ⟨z, h1, h2, h3⟩
    have h4 := h1 p.2 (h.lt p hp).2
    rw [sm_congr (g := fun j => dl p.1 j * (R p.2 p.1 * z p.1)) (fun j hj => by
      rcases Nat.lt_trichotomy j p.1 with hlt | he | hgt
      · rw [h.lead hp hlt, dl_ne (by omega)]; grind
      · subst he; rw [dl_self]; grind
      · rw [h3 j hgt, dl_ne (by omega)]; grind), sm_dl (fun _ => R p.2 p.1 * z p.1) hk, h.unit p hp p.2 (h.lt p hp).2, dl_self, h2] at h4
    exact absurd h4 (by decide +kernel)
  · intro hz
    refine Classical.byContradiction fun hp => hz ?_
    have hn : ∀ p ∈ ps, p.1 ≠ k := fun p hp' e => hp ⟨p, hp', e⟩
    exact ⟨freeCol ps R k, h.free hk hn, Red.freeCol_self (m := m) (n := n) hn, fun j hj => h.freeCol_gt hj⟩
theorem sorted_eq {l l' : List Nat} (h : l.Pairwise (· < ·)) (h' : l'.Pairwise (· < ·)) (e : ∀ x, x ∈ l ↔ x ∈ l') : l = l' := by
  induction l generalizing l' with
  | nil =>
    cases l' with
    | nil => rfl
    | cons b t => exact absurd ((e b).2 (by simp)) (by simp)
  | cons a s ih =>
    cases l' with
    | nil => exact absurd ((e a).1 (by simp)) (by simp)
    | cons b t =>
      rw [List.pairwise_cons] at h h'
      have hab : a = b := by
        have h1 := (e a).1 (by simp)
        have h2 := (e b).2 (by simp)
        rcases List.mem_cons.1 h1 with h3 | h3
        · exact h3
        · rcases List.mem_cons.1 h2 with h4 | h4
          · exact h4.symm
          · have := h'.1 a h3; have := h.1 b h4; omega
      subst hab
      congr 1
      refine ih h.2 h'.2 fun x => ⟨fun hx => ?_, fun hx => ?_⟩
      · rcases List.mem_cons.1 ((e x).1 (List.mem_cons_of_mem _ hx)) with h3 | h3
        · subst h3; have := h.1 x hx; omega
        · exact h3
      · rcases List.mem_cons.1 ((e x).2 (List.mem_cons_of_mem _ hx)) with h3 | h3
        · subst h3; have := h'.1 x hx; omega
        · exact h3
/-- The pivot columns do not depend on the way. -/
theorem Red.cols_eq {m n : Nat} {R R' : Nat → Nat → Rat} {ps ps' : List (Nat × Nat)} (h : Red m n R ps) (h' : Red m n R' ps') (e : RowEq m n R R') : ps.map Prod.fst = ps'.map Prod.fst := by
  refine sorted_eq (by rw [List.pairwise_map]; exact h.col) (by rw [List.pairwise_map]; exact h'.col) fun x => ?_
  have key : ∀ x, x < n → ((∃ p ∈ ps, p.1 = x) ↔ ∃ p ∈ ps', p.1 = x) := fun x hx => by
    rw [h.pivot_iff hx, h'.pivot_iff hx]
    constructor
    · rintro h1 ⟨z, h2, h3⟩; exact h1 ⟨z, e.symm.ker h2, h3⟩
    · rintro h1 ⟨z, h2, h3⟩; exact h1 ⟨z, e.ker h2, h3⟩
  simp only [List.mem_map]
  constructor
  · intro hx
    have hl : x < n := by obtain ⟨p, hp, rfl⟩ := hx; exact (h.lt p hp).1
    exact (key x hl).1 hx
  · intro hx
    have hl : x < n := by obtain ⟨p, hp, rfl⟩ := hx; exact (h'.lt p hp).1
    exact (key x hl).2 hx
end Go.Proofs.Ytkjmliebkbbogaa.Plain
/- The rank, row by row. Plain, no program in sight. -/
namespace Go.Proofs.Ytkjmliebkbbogaa.Plain
set_option linter.unusedVariables false
set_option linter.unusedSimpArgs false

theorem sm_head (m : Nat) (f : Nat → Rat) : sm (m + 1) f = f 0 + sm m (fun i => f (i + 1)) := by
  induction m with
  | zero => show (0 : Rat) + f 0 = f 0 + 0; grind
  | succ m ih => show sm (m + 1) f + f (m + 1) = f 0 + (sm m (fun i => f (i + 1)) + f (m + 1)); rw [ih]; grind
/-- A matrix whose first row is zero. -/
theorem HasRank.zeroRow {m n r : Nat} {M : Nat → Nat → Rat} (h : HasRank m n (fun i k => M (i + 1) k) r) (hz : ∀ k, k < n → M 0 k = 0) : HasRank (m + 1) n M r := by
  obtain ⟨A, A', B, B', a1, a2, a3⟩ := h
  refine ⟨fun i t => match i with | 0 => 0 | i + 1 => A i t, fun s i => match i with | 0 => 0 | i + 1 => A' s i, B, B', fun i k hi hk => ?_, fun s t hs ht => ?_, a3⟩
  · cases i with
    | zero => rw [hz k hk, sm_zeroOf fun t _ => by show (0 : Rat) * _ = 0; grind]
    | succ i => exact a1 i k (by omega) hk
  · rw [sm_head]
    show (0 : Rat) * 0 + sm m (fun i => A' s i * A i t) = _
    rw [a2 s t hs ht]; grind
/-- A first row with an element in a column that is zero below. -/
theorem HasRank.cons {m n r c : Nat} {M : Nat → Nat → Rat} (h : HasRank m n (fun i k => M (i + 1) k) r) (hc : c < n) (h1 : M 0 c = 1) (h0 : ∀ i, i < m → M (i + 1) c = 0) : HasRank (m + 1) n M (r + 1) := by
  obtain ⟨A, A', B, B', a1, a2, a3⟩ := h
  have hB : ∀ s, s < r → B s c = 0 := by
    intro s hs
    have e1 : sm m (fun i => A' s i * sm r (fun t => A i t * B t c)) = 0 := sm_zeroOf fun i hi => by rw [← a1 i c hi hc]; show A' s i * M (i + 1) c = 0; rw [h0 i hi]; grind
    rw [sm_assoc, sm_congr (g := fun t => dl s t * B t c) (fun t ht => by rw [a2 s t hs ht]), sm_dl (fun t => B t c) hs] at e1
    exact e1
  let A1 : Nat → Nat → Rat := fun i t => match i with | 0 => dl t r | i + 1 => if t < r then A i t else 0
  let A2 : Nat → Nat → Rat := fun s i => match i with | 0 => dl s r | i + 1 => if s < r then A' s i else 0
  let B1 : Nat → Nat → Rat := fun t k => if t < r then B t k else M 0 k
  let B2 : Nat → Nat → Rat := fun k t => if t < r then B' k t - dl k c * sm n (fun j => M 0 j * B' j t) else dl k c
  refine ⟨A1, A2, B1, B2, fun i k hi hk => ?_, fun s t hs ht => ?_, fun s t hs ht => ?_⟩
  · cases i with
    | zero =>
      show M 0 k = sm (r + 1) (fun t => dl t r * B1 t k)
      rw [sm_congr (g := fun t => B1 t k * dl t r) (fun t _ => by grind), sm_dl' (fun t => B1 t k) (by omega)]
      show M 0 k = if r < r then B r k else M 0 k
      rw [if_neg (by omega)]
    | succ i =>
      show M (i + 1) k = sm r (fun t => (if t < r then A i t else 0) * (if t < r then B t k else M 0 k)) + (if r < r then A i r else 0) * (if r < r then B r k else M 0 k)
      rw [sm_congr (g := fun t => A i t * B t k) (fun t ht => by rw [if_pos ht, if_pos ht]), if_neg (by omega), if_neg (by omega), ← a1 i k (by omega) hk]
      grind
  · rw [sm_head]
    show dl s r * dl t r + sm m (fun i => (if s < r then A' s i else 0) * (if t < r then A i t else 0)) = dl s t
    by_cases h2 : s < r
    · by_cases h3 : t < r
      · simp only [if_pos h2, if_pos h3]
        rw [a2 s t h2 h3, dl_ne (show s ≠ r by omega)]; grind
      · simp only [if_neg h3]
        rw [sm_zeroOf fun i _ => by grind, dl_ne (show s ≠ r by omega), dl_ne (show s ≠ t by omega)]; grind
    · have hsr : s = r := by omega
      subst hsr
      simp only [if_neg h2]
      rw [sm_zeroOf fun i _ => by grind, dl_self, dl_comm s t]; grind
  · by_cases h2 : s < r
    · have e1 : ∀ k, B1 s k = B s k := fun k => if_pos h2
      by_cases h3 : t < r
      · have e2 : ∀ k, B2 k t = B' k t - dl k c * sm n (fun j => M 0 j * B' j t) := fun k => if_pos h3
        rw [sm_congr (g := fun k => B s k * B' k t - (B s k * sm n (fun j => M 0 j * B' j t)) * dl k c) (fun k _ => by rw [e1, e2]; grind), sm_sub, a3 s t h2 h3, sm_dl' (fun k => B s k * sm n (fun j => M 0 j * B' j t)) hc, hB s h2]
        grind
      · have e2 : ∀ k, B2 k t = dl k c := fun k => if_neg h3
        rw [sm_congr (g := fun k => B s k * dl k c) (fun k _ => by rw [e1, e2]), sm_dl' (B s) hc, hB s h2, dl_ne (by omega)]
    · have e1 : ∀ k, B1 s k = M 0 k := fun k => if_neg h2
      by_cases h3 : t < r
      · have e2 : ∀ k, B2 k t = B' k t - dl k c * sm n (fun j => M 0 j * B' j t) := fun k => if_pos h3
        rw [sm_congr (g := fun k => M 0 k * B' k t - (M 0 k * sm n (fun j => M 0 j * B' j t)) * dl k c) (fun k _ => by rw [e1, e2]; grind), sm_sub, sm_dl' (fun k => M 0 k * sm n (fun j => M 0 j * B' j t)) hc, h1, dl_ne (by omega)]
        grind
      · have e2 : ∀ k, B2 k t = dl k c := fun k => if_neg h3
        rw [sm_congr (g := fun k => M 0 k * dl k c) (fun k _ => by rw [e1, e2]), sm_dl' (M 0) hc, h1, show s = t by omega, dl_self]
theorem HasRank.none {n : Nat} {M : Nat → Nat → Rat} : HasRank 0 n M 0 := ⟨fun _ _ => 0, fun _ _ => 0, fun _ _ => 0, fun _ _ => 0, fun i k hi => by omega, fun s t hs => by omega, fun s t hs => by omega⟩
/-- The pivots' number in the first columns. -/
theorem Red.count_succ {m c k : Nat} {R : Nat → Nat → Rat} {ps : List (Nat × Nat)} (h : Red m c R ps) : (ps.filter fun p => decide (p.1 < k + 1)).length = (ps.filter fun p => decide (p.1 < k)).length + if ∃ p ∈ ps, p.1 = k then 1 else 0 := by
  have hc := h.col
  clear h
  induction ps with
  | nil => simp
  | cons p ps ih =>
    rw [List.pairwise_cons] at hc
    have h1 := ih hc.2
    rw [List.filter_cons, List.filter_cons]
    rcases Nat.lt_trichotomy p.1 k with hlt | he | hgt
    · rw [if_pos (by simp; omega), if_pos (by simpa using hlt), List.length_cons, List.length_cons, h1]
      have e : (∃ q ∈ p :: ps, q.1 = k) ↔ ∃ q ∈ ps, q.1 = k := by
        constructor
        · rintro ⟨q, hq, rfl⟩
          rcases List.mem_cons.1 hq with rfl | h2
          · omega
          · exact ⟨q, h2, rfl⟩
        · rintro ⟨q, hq, rfl⟩; exact ⟨q, List.mem_cons_of_mem _ hq, rfl⟩
      simp only [e]
      omega
    · subst he
      have h2 : ∀ q ∈ ps, ¬ q.1 < p.1 + 1 := fun q hq => by have := hc.1 q hq; omega
      have e1 : (ps.filter fun q => decide (q.1 < p.1 + 1)) = [] := List.filter_eq_nil_iff.2 fun q hq => by simpa using h2 q hq
      have e2 : (ps.filter fun q => decide (q.1 < p.1)) = [] := List.filter_eq_nil_iff.2 fun q hq => by have := h2 q hq; simp; omega
      rw [if_pos (by simp), if_neg (by simp), e1, e2, if_pos ⟨p, by simp, rfl⟩]
      rfl
    · have h2 : ∀ q ∈ ps, ¬ q.1 < k + 1 := fun q hq => by have := hc.1 q hq; omega
      have e1 : (ps.filter fun q => decide (q.1 < k + 1)) = [] := List.filter_eq_nil_iff.2 fun q hq => by simpa using h2 q hq
      have e2 : (ps.filter fun q => decide (q.1 < k)) = [] := List.filter_eq_nil_iff.2 fun q hq => by have := h2 q hq; simp; omega
      have e3 : ¬ ∃ q ∈ p :: ps, q.1 = k := by
        rintro ⟨q, hq, rfl⟩
        rcases List.mem_cons.1 hq with rfl | h3
        · omega
        · exact h2 q h3 (by omega)
      rw [if_neg (by simp; omega), if_neg (by simp; omega), e1, e2, if_neg e3]
      rfl
end Go.Proofs.Ytkjmliebkbbogaa.Plain
/- The functions of the package matrix over lists of rational numbers, and what they compute. Plain, no program in sight. -/
namespace Go.Proofs.Ytkjmliebkbbogaa.Plain
set_option linter.unusedVariables false
set_option linter.unusedSimpArgs false

abbrev Mat := List (List Rat)
/-- The element in row i and column k. -/
def fn (M : Mat) (i k : Nat) : Rat := (M.getD i []).getD k 0
def rect (M : Mat) (n : Nat) : Prop := ∀ r ∈ M, r.length = n
def colsL (M : Mat) : Nat := (M.headD []).length
def formedL (M : Mat) : Bool := M.all fun r => decide (r.length = colsL M)
theorem formedL_rect {M : Mat} (h : formedL M = true) : rect M (colsL M) := by
  unfold formedL at h
  rw [List.all_eq_true] at h
  exact fun r hr => of_decide_eq_true (h r hr)
theorem rect_row {M : Mat} {n i : Nat} (h : rect M n) (hi : i < M.length) : (M.getD i []).length = n := by
  rw [List.getD_eq_getElem?_getD, List.getElem?_eq_getElem hi]
  exact h _ (List.getElem_mem hi)
def dotL (a x : List Rat) : Rat := (List.zipWith (· * ·) a x).foldl (· + ·) 0
theorem foldl_sm (l : List Rat) : l.foldl (· + ·) 0 = sm l.length fun k => l.getD k 0 := by
  have key : ∀ n, n ≤ l.length → (l.take n).foldl (· + ·) 0 = sm n fun k => l.getD k 0 := by
    intro n
    induction n with
    | zero => exact fun _ => rfl
    | succ n ih =>
      intro hn
      rw [List.take_add_one, List.getElem?_eq_getElem (by omega), List.foldl_append, ih (by omega)]
      show _ + l[n] = sm n _ + l.getD n 0
      rw [List.getD_eq_getElem?_getD, List.getElem?_eq_getElem (by omega)]
      rfl
  have := key l.length (Nat.le_refl _)
  rw [List.take_length] at this
  exact this
theorem dotL_sm {a x : List Rat} {n : Nat} (h1 : a.length = n) (h2 : x.length = n) : dotL a x = sm n fun k => a.getD k 0 * x.getD k 0 := by
  unfold dotL
  rw [foldl_sm, List.length_zipWith, h1, h2, Nat.min_self]
  refine sm_congr fun k hk => ?_
  rw [List.getD_eq_getElem?_getD, List.getElem?_zipWith, List.getD_eq_getElem?_getD, List.getD_eq_getElem?_getD, List.getElem?_eq_getElem (by omega), List.getElem?_eq_getElem (by omega)]
  rfl
def timesL (M : Mat) (x : List Rat) : List Rat := M.map fun r => dotL r x
def transL (M : Mat) : Mat := (List.range (colsL M)).map fun k => M.map fun r => r.getD k 0
def headL (M : Mat) (p c : Nat) : List Rat := (M.getD p []).map fun x => x / fn M p c
def lessL (a : List Rat) (f : Rat) (b : List Rat) : List Rat := List.zipWith (fun x h => x - f * h) a b
def pivL (M : Mat) (p c : Nat) : Mat := (List.range M.length).map fun i => if i = p then headL M p c else lessL (M.getD i []) (fn M i c) (headL M p c)
theorem pivL_length (M : Mat) (p c : Nat) : (pivL M p c).length = M.length := by simp [pivL]
theorem range_getD {α : Type} {m i : Nat} {f : Nat → α} {d : α} (hi : i < m) : ((List.range m).map f).getD i d = f i := by
  rw [List.getD_eq_getElem?_getD, List.getElem?_map, List.getElem?_range hi]; rfl
theorem headL_length {M : Mat} {n p c : Nat} (h : rect M n) (hp : p < M.length) : (headL M p c).length = n := by unfold headL; rw [List.length_map]; exact rect_row h hp
theorem lessL_length {a b : List Rat} {f : Rat} {n : Nat} (h1 : a.length = n) (h2 : b.length = n) : (lessL a f b).length = n := by unfold lessL; rw [List.length_zipWith, h1, h2, Nat.min_self]
theorem pivL_rect {M : Mat} {n p c : Nat} (h : rect M n) (hp : p < M.length) : rect (pivL M p c) n := fun r hr => by
  unfold pivL at hr
  obtain ⟨i, hi, rfl⟩ := List.mem_map.1 hr
  rw [List.mem_range] at hi
  split
  · exact headL_length h hp
  · exact lessL_length (rect_row h hi) (headL_length h hp)
theorem headL_get {M : Mat} {p c k : Nat} (hk : k < (M.getD p []).length) : (headL M p c).getD k 0 = fn M p k / fn M p c := by
  unfold headL fn
  rw [List.getD_eq_getElem?_getD, List.getElem?_map, List.getD_eq_getElem?_getD (l := M.getD p []) (i := k), List.getElem?_eq_getElem hk]
  rfl
theorem fn_pivL {M : Mat} {n p c i k : Nat} (h : rect M n) (hp : p < M.length) (hi : i < M.length) (hk : k < n) : fn (pivL M p c) i k = piv (fn M) p c i k := by
  have hh := headL_length (c := c) h hp
  have hr := rect_row h hi
  have hpr := rect_row h hp
  unfold pivL
  rw [fn, range_getD hi]
  unfold piv
  by_cases e : i = p
  · rw [if_pos e, if_pos e, headL_get (by omega)]
  · rw [if_neg e, if_neg e]
    unfold lessL
    rw [List.getD_eq_getElem?_getD, List.getElem?_zipWith, List.getElem?_eq_getElem (show k < (M.getD i []).length by omega), List.getElem?_eq_getElem (show k < (headL M p c).length by omega)]
    simp only [Option.getD_some]
    have e1 : (M.getD i [])[k]'(by omega) = fn M i k := by unfold fn; rw [List.getD_eq_getElem?_getD (i := k), List.getElem?_eq_getElem (by omega)]; rfl
    have e2 : (headL M p c)[k]'(by omega) = fn M p k / fn M p c := by rw [← headL_get (show k < (M.getD p []).length by omega), List.getD_eq_getElem?_getD, List.getElem?_eq_getElem (by omega)]; rfl
    rw [e1, e2]
/-- The row at is moved up. -/
def moveUp (M : Mat) (row t : Nat) : Mat := M.take row ++ (M.getD t [] :: ((M.drop row).take (t - row) ++ M.drop (t + 1)))
theorem moveUp_length {M : Mat} {row t : Nat} (h1 : row ≤ t) (h2 : t < M.length) : (moveUp M row t).length = M.length := by
  simp only [moveUp, List.length_append, List.length_cons, List.length_take, List.length_drop]
  omega
def upS (row t i : Nat) : Nat := if i < row then i else if i = row then t else if i ≤ t then i - 1 else i
def upT (row t i : Nat) : Nat := if i < row then i else if i < t then i + 1 else if i = t then row else i
theorem upS_ok {row t m : Nat} (h1 : row ≤ t) (h2 : t < m) : ∀ i, i < m → upS row t i < m ∧ upT row t (upS row t i) = i := fun i hi => by
  unfold upS upT
  repeat' split
  all_goals omega
theorem upT_ok {row t m : Nat} (h1 : row ≤ t) (h2 : t < m) : ∀ i, i < m → upT row t i < m ∧ upS row t (upT row t i) = i := fun i hi => by
  unfold upS upT
  repeat' split
  all_goals omega
theorem moveUp_get {M : Mat} {row t i : Nat} (h1 : row ≤ t) (h2 : t < M.length) (hi : i < M.length) : (moveUp M row t).getD i [] = M.getD (upS row t i) [] := by
  have hl : (M.take row).length = row := by rw [List.length_take]; omega
  have hl2 : ((M.drop row).take (t - row)).length = t - row := by rw [List.length_take, List.length_drop]; omega
  unfold moveUp upS
  simp only [List.getD_eq_getElem?_getD]
  by_cases a1 : i < row
  · rw [if_pos a1, List.getElem?_append_left (by omega), List.getElem?_take_of_lt a1]
  · rw [if_neg a1, List.getElem?_append_right (by omega), hl]
    by_cases a2 : i = row
    · rw [if_pos a2, a2, Nat.sub_self]
      simp
    · rw [if_neg a2]
      obtain ⟨j, hj⟩ : ∃ j, i - row = j + 1 := ⟨i - row - 1, by omega⟩
      rw [hj, List.getElem?_cons_succ]
      by_cases a3 : i ≤ t
      · rw [if_pos a3, List.getElem?_append_left (by omega), List.getElem?_take_of_lt (by omega), List.getElem?_drop, show row + j = i - 1 by omega]
      · rw [if_neg a3, List.getElem?_append_right (by omega), hl2, List.getElem?_drop, show t + 1 + (j - (t - row)) = i by omega]
theorem moveUp_rect {M : Mat} {n row t : Nat} (h : rect M n) (h2 : t < M.length) : rect (moveUp M row t) n := fun r hr => by
  unfold moveUp at hr
  simp only [List.mem_append, List.mem_cons] at hr
  rcases hr with h3 | rfl | h3 | h3
  · exact h r (List.mem_of_mem_take h3)
  · exact rect_row h h2
  · exact h r (List.mem_of_mem_drop (List.mem_of_mem_take h3))
  · exact h r (List.mem_of_mem_drop h3)
theorem moveUp_self {M : Mat} {row : Nat} (h : row < M.length) : moveUp M row row = M := by
  apply List.ext_getElem?
  intro i
  by_cases hi : i < M.length
  · have h1 := moveUp_get (M := M) (Nat.le_refl row) h hi
    have h2 : upS row row i = i := by
      unfold upS
      by_cases a1 : i < row
      · rw [if_pos a1]
      · by_cases a2 : i = row
        · rw [if_neg a1, if_pos a2, a2]
        · rw [if_neg a1, if_neg a2, if_neg (by omega)]
    rw [h2, List.getD_eq_getElem?_getD, List.getD_eq_getElem?_getD, List.getElem?_eq_getElem hi, List.getElem?_eq_getElem (by rw [moveUp_length (Nat.le_refl _) h]; exact hi)] at h1
    rw [List.getElem?_eq_getElem hi, List.getElem?_eq_getElem (by rw [moveUp_length (Nat.le_refl _) h]; exact hi)]
    exact congrArg some h1
  · rw [List.getElem?_eq_none (by rw [moveUp_length (Nat.le_refl _) h]; omega), List.getElem?_eq_none (by omega)]
/-- The first row from row on that is not zero in a column. -/
def findRow (M : Mat) (col row : Nat) : Nat := row + (M.drop row).findIdx fun r => decide (r.getD col 0 ≠ 0)
theorem findRow_ge (M : Mat) (col row : Nat) : row ≤ findRow M col row := by unfold findRow; omega
theorem findRow_zero {M : Mat} {col row i : Nat} (h1 : row ≤ i) (h2 : i < findRow M col row) (hi : i < M.length) : fn M i col = 0 := by
  unfold findRow at h2
  have h3 := List.not_of_lt_findIdx (xs := M.drop row) (p := fun r => decide (r.getD col 0 ≠ 0)) (i := i - row) (by omega)
  rw [List.getElem_drop] at h3
  have e : row + (i - row) = i := by omega
  simp only [e] at h3
  unfold fn
  rw [List.getD_eq_getElem?_getD (l := M), List.getElem?_eq_getElem hi]
  simpa using h3
theorem findRow_ne {M : Mat} {col row : Nat} (h : findRow M col row < M.length) : fn M (findRow M col row) col ≠ 0 := by
  have h4 : (M.drop row).findIdx (fun r => decide (r.getD col 0 ≠ 0)) < (M.drop row).length := by
    unfold findRow at h; rw [List.length_drop]; omega
  have h3 := List.findIdx_getElem (xs := M.drop row) (p := fun r => decide (r.getD col 0 ≠ 0)) (w := h4)
  rw [List.getElem_drop] at h3
  unfold fn
  rw [List.getD_eq_getElem?_getD (l := M), List.getElem?_eq_getElem h]
  simpa [findRow] using h3
/-- A column of the elimination. -/
def redStep (S : Mat × List Nat) (col : Nat) : Mat × List Nat :=
  if S.2.length < S.1.length then
    if findRow S.1 col S.2.length < S.1.length then (pivL (moveUp S.1 S.2.length (findRow S.1 col S.2.length)) S.2.length col, S.2 ++ [col]) else S
  else S
def reduceL (M : Mat) (n : Nat) : Mat × List Nat := (List.range n).foldl redStep (M, [])
theorem reduceL_succ (M : Mat) (n : Nat) : reduceL M (n + 1) = redStep (reduceL M n) n := by
  unfold reduceL; rw [List.range_succ, List.foldl_append]; rfl
theorem zipIdx_snoc (l : List Nat) (c : Nat) : (l ++ [c]).zipIdx = l.zipIdx ++ [(c, l.length)] := by rw [List.zipIdx_append]; simp
theorem mem_zip {l : List Nat} {p : Nat × Nat} (h : p ∈ l.zipIdx) : p.2 < l.length := by
  obtain ⟨a, i⟩ := p
  have := List.mem_zipIdx h
  simpa using this.2.1
/-- What the elimination computes. -/
structure Reduced (M : Mat) (n w : Nat) (S : Mat × List Nat) : Prop where
  len : S.1.length = M.length
  rct : rect S.1 w
  eqv : RowEq M.length w (fn M) (fn S.1)
  red : Red M.length n (fn S.1) S.2.zipIdx
  le : S.2.length ≤ M.length
theorem reduceL_ok {M : Mat} {w : Nat} (h : rect M w) : ∀ n, n ≤ w → Reduced M n w (reduceL M n) := by
  intro n
  induction n with
  | zero => exact fun _ => ⟨rfl, h, RowEq.refl _ _ _, Red.nil _ _, Nat.zero_le _⟩
  | succ n ih =>
    intro hn
    obtain ⟨h1, h2, h3, h4, h5⟩ := ih (by omega)
    rw [reduceL_succ]
    generalize reduceL M n = S at *
    obtain ⟨R, l⟩ := S
    simp only at h1 h2 h3 h4 h5
    unfold redStep
    simp only
    split
    · rename_i hlt
      split
      · rename_i hat
        generalize ht : findRow R n l.length = t at *
        have hge : l.length ≤ t := by rw [← ht]; exact findRow_ge _ _ _
        have hne : fn R t n ≠ 0 := by rw [← ht]; exact findRow_ne (by rw [ht]; exact hat)
        have hml := moveUp_length hge hat
        have hmr := moveUp_rect (row := l.length) h2 hat
        have e1 : ∀ i k, i < M.length → k < w → fn (moveUp R l.length t) i k = fn R (upS l.length t i) k := fun i k hi hk => by
          unfold fn; rw [moveUp_get hge hat (by omega)]
        have p1 := upS_ok (m := M.length) hge (by omega)
        have p2 := upT_ok (m := M.length) hge (by omega)
        have g1 : RowEq M.length w (fn M) (fn (moveUp R l.length t)) := (h3.trans (RowEq.perm (σ := upS l.length t) (τ := upT l.length t) p1 p2)).congr e1
        have g2 : Red M.length n (fn (moveUp R l.length t)) l.zipIdx := by
          have := (h4.perm p1 p2).congr fun i k hi hk => e1 i k hi (by omega)
          have e2 : (l.zipIdx.map fun p => (p.1, upT l.length t p.2)) = l.zipIdx := by
            conv => rhs; rw [← List.map_id l.zipIdx]
            refine List.map_congr_left fun p hp => ?_
            have := mem_zip hp
            show (p.1, upT l.length t p.2) = p
            unfold upT
            rw [if_pos this]
          rw [e2] at this
          exact this
        have g3 : fn (moveUp R l.length t) l.length n ≠ 0 := by
          rw [e1 _ _ (by omega) (by omega)]
          unfold upS
          rw [if_neg (by omega), if_pos rfl]
          exact hne
        have e3 : ∀ i k, i < M.length → k < w → fn (pivL (moveUp R l.length t) l.length n) i k = piv (fn (moveUp R l.length t)) l.length n i k := fun i k hi hk => fn_pivL hmr (by omega) (by omega) hk
        refine ⟨by rw [pivL_length, hml, h1], pivL_rect hmr (by omega), (g1.trans (RowEq.piv (by omega) g3)).congr e3, ?_, by rw [List.length_append]; simp; omega⟩
        show Red _ _ _ (l ++ [n]).zipIdx
        rw [zipIdx_snoc]
        exact (g2.step (by omega) (fun q hq => by have := mem_zip hq; omega) g3).congr fun i k hi hk => e3 i k hi (by omega)
      · rename_i hat
        refine ⟨h1, h2, h3, h4.skip fun i hi hu => ?_, h5⟩
        refine findRow_zero (row := l.length) (Nat.le_of_not_lt fun hil => ?_) (by have := findRow_ge R n l.length; omega) (by omega)
        exact hu (l[i], i) (by rw [List.mem_iff_getElem?]; exact ⟨i, by rw [List.getElem?_zipIdx, List.getElem?_eq_getElem hil]; simp⟩) rfl
    · rename_i hlt
      refine ⟨h1, h2, h3, h4.skip fun i hi hu => ?_, h5⟩
      exact absurd rfl (hu (l[i]'(by omega), i) (by rw [List.mem_iff_getElem?]; exact ⟨i, by rw [List.getElem?_zipIdx, List.getElem?_eq_getElem (by omega)]; simp⟩))
def rankL (M : Mat) : Nat := (reduceL M (colsL M)).2.length
theorem rankL_ok {M : Mat} {n : Nat} (h : rect M n) (hn : n = colsL M) : HasRank M.length n (fn M) (rankL M) := by
  subst hn
  have h1 := reduceL_ok h _ (Nat.le_refl _)
  have h2 := h1.eqv.symm.rank h1.red.rank
  rw [List.length_zipIdx] at h2
  exact h2
end Go.Proofs.Ytkjmliebkbbogaa.Plain
/- Ranks, solutions and kernels over lists of rational numbers: the ways of the program and of the reference agree. Plain, no program in sight. -/
namespace Go.Proofs.Ytkjmliebkbbogaa.Plain
set_option linter.unusedVariables false
set_option linter.unusedSimpArgs false

/-- The last column that is not zero. -/
def lastNz (r : List Rat) : Option Nat := (List.range r.length).foldl (fun c k => if r.getD k 0 ≠ 0 then some k else c) none
theorem lastNz_key (r : List Rat) : ∀ n, n ≤ r.length → match (List.range n).foldl (fun c k => if r.getD k 0 ≠ 0 then some k else c) none with
    | none => ∀ k, k < n → r.getD k 0 = 0
    | some c => c < n ∧ r.getD c 0 ≠ 0 := by
  intro n
  induction n with
  | zero => exact fun _ k hk => by omega
  | succ n ih =>
    intro hn
    have h := ih (by omega)
    rw [List.range_succ, List.foldl_append]
    simp only [List.foldl_cons, List.foldl_nil]
    by_cases hz : r.getD n 0 = 0
    · rw [if_neg (by simpa using hz)]
      generalize (List.range n).foldl (fun c k => if r.getD k 0 ≠ 0 then some k else c) none = o at *
      cases o with
      | none =>
        intro k hk
        by_cases e : k = n
        · subst e; exact hz
        · exact h k (by omega)
      | some c => exact ⟨by have := h.1; omega, h.2⟩
    · rw [if_pos hz]
      exact ⟨by omega, hz⟩
theorem lastNz_none {r : List Rat} (h : lastNz r = none) : ∀ k, k < r.length → r.getD k 0 = 0 := by
  have := lastNz_key r r.length (Nat.le_refl _)
  unfold lastNz at h
  rw [h] at this
  exact this
theorem lastNz_some {r : List Rat} {c : Nat} (h : lastNz r = some c) : c < r.length ∧ r.getD c 0 ≠ 0 := by
  have := lastNz_key r r.length (Nat.le_refl _)
  unfold lastNz at h
  rw [h] at this
  exact this
/-- The reference's rank: a row is removed after the other. -/
def rankF : Nat → Mat → Nat
  | 0, _ => 0
  | f + 1, M => match M with
    | [] => 0
    | r :: T => match lastNz r with
      | none => rankF f T
      | some c => rankF f (pivL (r :: T) 0 c).tail + 1
def rankR (M : Mat) : Nat := rankF M.length M
theorem rankF_ok : ∀ (f : Nat) (M : Mat) (n : Nat), rect M n → M.length = f → HasRank M.length n (fn M) (rankF f M) := by
  intro f
  induction f with
  | zero =>
    intro M n h hl
    rw [hl]; exact HasRank.none
  | succ f ih =>
    intro M n h hl
    match M, hl with
    | r :: T, hl =>
      have hr : r.length = n := h r (by simp)
      have hT : rect T n := fun x hx => h x (List.mem_cons_of_mem _ hx)
      have hlT : T.length = f := by simpa using hl
      unfold rankF
      simp only
      cases hz : lastNz r with
      | none =>
        have h0 := lastNz_none hz
        exact HasRank.zeroRow (m := T.length) (ih T n hT hlT) fun k hk => h0 k (by omega)
      | some c =>
        obtain ⟨hc, hne⟩ := lastNz_some hz
        have hp : 0 < (r :: T).length := by simp
        have hpl := pivL_length (r :: T) 0 c
        have hpr := pivL_rect (c := c) h hp
        obtain ⟨a, L, hL⟩ : ∃ a L, pivL (r :: T) 0 c = a :: L := by
          cases hq : pivL (r :: T) 0 c with
          | nil => rw [hq] at hpl; simp at hpl
          | cons a L => exact ⟨a, L, rfl⟩
        have hLr : rect L n := fun x hx => hpr x (by rw [hL]; exact List.mem_cons_of_mem _ hx)
        have hLl : L.length = f := by rw [hL] at hpl; simp at hpl; omega
        have ne : fn (r :: T) 0 c ≠ 0 := hne
        have e0 : ∀ i k, i < (r :: T).length → k < n → fn (pivL (r :: T) 0 c) i k = piv (fn (r :: T)) 0 c i k := fun i k hi hk => fn_pivL h hp hi hk
        have hrk : HasRank (L.length + 1) n (fn (a :: L)) (rankF f L + 1) := by
          refine HasRank.cons (m := L.length) (c := c) (ih L n hLr hLl) (by omega) ?_ fun i hi => ?_
          · rw [← hL, e0 0 c hp (by omega)]
            show (if 0 = 0 then _ / _ else _) = (1 : Rat)
            rw [if_pos rfl]; grind
          · rw [← hL, e0 (i + 1) c (by simp; omega) (by omega)]
            show (if i + 1 = 0 then _ else _ - _ * (_ / _)) = (0 : Rat)
            rw [if_neg (by omega)]; grind
        have heq : RowEq (r :: T).length n (fn (r :: T)) (fn (a :: L)) := by rw [← hL]; exact (RowEq.piv hp ne).congr e0
        have hll : (r :: T).length = L.length + 1 := by rw [hLl]; exact hl
        show HasRank (r :: T).length n (fn (r :: T)) (rankF f (pivL (r :: T) 0 c).tail + 1)
        rw [hL]
        rw [hll] at heq ⊢
        exact heq.symm.rank hrk
theorem rankR_ok {M : Mat} {n : Nat} (h : rect M n) : HasRank M.length n (fn M) (rankR M) := rankF_ok _ M n h rfl
theorem rankR_eq {M : Mat} (h : formedL M = true) : rankL M = rankR M := (rankL_ok (formedL_rect h) rfl).unique (rankR_ok (formedL_rect h))
theorem transL_length (M : Mat) : (transL M).length = colsL M := by simp [transL]
theorem transL_rect (M : Mat) : rect (transL M) M.length := fun r hr => by
  unfold transL at hr
  obtain ⟨k, _, rfl⟩ := List.mem_map.1 hr
  simp
theorem fn_transL {M : Mat} {i k : Nat} (hi : i < colsL M) (hk : k < M.length) : fn (transL M) i k = fn M k i := by
  unfold fn transL
  rw [range_getD hi, List.getD_eq_getElem?_getD, List.getElem?_map, List.getD_eq_getElem?_getD (l := M), List.getElem?_eq_getElem hk]
  rfl
theorem rank_trans {M : Mat} (h : formedL M = true) : rankL (transL M) = rankL M := by
  have h1 := (rankL_ok (formedL_rect h) rfl).transpose
  rcases Nat.eq_zero_or_pos (colsL M) with h0 | h0
  · have e : transL M = [] := List.eq_nil_of_length_eq_zero (by rw [transL_length]; exact h0)
    rw [e]
    have h2 := h1.le_rows
    have h3 : rankL [] = 0 := rfl
    omega
  · have hl := transL_length M
    have hc : colsL (transL M) = M.length := by
      cases hq : transL M with
      | nil => rw [hq] at hl; simp at hl; omega
      | cons a L =>
        have := transL_rect M a (by rw [hq]; simp)
        simpa [colsL] using this
    have h2 := rankL_ok (M := transL M) (n := M.length) (transL_rect M) hc.symm
    rw [hl] at h2
    exact h2.unique (h1.congr fun i k hi hk => fn_transL hi hk)
theorem rankL_le {M : Mat} (h : formedL M = true) : rankL M ≤ M.length ∧ rankL M ≤ colsL M := ⟨(rankL_ok (formedL_rect h) rfl).le_rows, (rankL_ok (formedL_rect h) rfl).le_cols⟩
/-- A pivot keeps the rank. -/
theorem rank_piv {M : Mat} {p c : Nat} (h : formedL M = true) (hp : p < M.length) (hc : c < colsL M) (hne : fn M p c ≠ 0) : rankL (pivL M p c) = rankL M := by
  have hr := formedL_rect h
  have h1 := rankL_ok hr rfl
  have hl := pivL_length M p c
  have hcl : colsL M = colsL (pivL M p c) := by
    cases hq : pivL M p c with
    | nil => rw [hq] at hl; simp at hl; omega
    | cons a L => exact (pivL_rect (c := c) hr hp a (by rw [hq]; simp)).symm
  have h2 := rankL_ok (pivL_rect (c := c) hr hp) hcl
  rw [hl] at h2
  exact h2.unique (((RowEq.piv hp hne).congr fun i k hi hk => fn_pivL hr hp hi hk).rank h1)
theorem RowEq.mono {m n k : Nat} {M M' : Nat → Nat → Rat} (h : RowEq m n M M') (hk : k ≤ n) : RowEq m k M M' := by
  obtain ⟨E, F, h1, h2, h3⟩ := h
  exact ⟨E, F, h1, h2, fun i j hi hj => h3 i j hi (by omega)⟩
theorem RowEq.left {m n : Nat} {M M' N : Nat → Nat → Rat} (h : RowEq m n M M') (e : ∀ i k, i < m → k < n → N i k = M i k) : RowEq m n N M' := (h.symm.congr e).symm
/-- The first columns. -/
def firstL (M : Mat) (k : Nat) : Mat := M.map fun r => r.take k
theorem firstL_rect {M : Mat} {n k : Nat} (h : rect M n) (hk : k ≤ n) : rect (firstL M k) k := fun r hr => by
  unfold firstL at hr
  obtain ⟨x, hx, rfl⟩ := List.mem_map.1 hr
  rw [List.length_take, h x hx]; omega
theorem fn_firstL {M : Mat} {k i j : Nat} (hj : j < k) : fn (firstL M k) i j = fn M i j := by
  unfold fn firstL
  rw [List.getD_eq_getElem?_getD (l := M.map _), List.getElem?_map, List.getD_eq_getElem?_getD (l := M)]
  cases M[i]? with
  | none => simp
  | some r => simp [List.getD_eq_getElem?_getD, List.getElem?_take, hj]
def isPivL (M : Mat) (k : Nat) : Bool := decide (rankR (firstL M k) < rankR (firstL M (k + 1)))
theorem prefix_rank {M : Mat} {n w k : Nat} {S : Mat × List Nat} (h : Reduced M n w S) (hM : rect M w) (hk : k ≤ n) (hn : n ≤ w) : rankR (firstL M k) = (S.2.zipIdx.filter fun p => decide (p.1 < k)).length := by
  have h1 := rankR_ok (firstL_rect hM (show k ≤ w by omega))
  have hl : (firstL M k).length = M.length := by simp [firstL]
  rw [hl] at h1
  have h2 := (h.red.mono hk).rank
  exact h1.unique (((h.eqv.mono (show k ≤ w by omega)).symm.rank h2).congr fun i j hi hj => fn_firstL hj)
theorem isPiv_iff {M : Mat} {n w k : Nat} {S : Mat × List Nat} (h : Reduced M n w S) (hM : rect M w) (hk : k < n) (hn : n ≤ w) : isPivL M k = true ↔ k ∈ S.2 := by
  unfold isPivL
  rw [decide_eq_true_eq, prefix_rank h hM (show k ≤ n by omega) hn, prefix_rank h hM (show k + 1 ≤ n by omega) hn, h.red.count_succ]
  have e : (∃ p ∈ S.2.zipIdx, p.1 = k) ↔ k ∈ S.2 := by
    constructor
    · rintro ⟨p, hp, rfl⟩
      obtain ⟨a, i⟩ := p
      have := List.mem_zipIdx hp
      simp at this
      rw [this.2]
      exact List.getElem_mem _
    · intro hk
      obtain ⟨i, hi, rfl⟩ := List.getElem_of_mem hk
      exact ⟨(S.2[i], i), by rw [List.mem_iff_getElem?]; exact ⟨i, by rw [List.getElem?_zipIdx, List.getElem?_eq_getElem hi]; simp⟩, rfl⟩
  rw [← e]
  by_cases hp : ∃ p ∈ S.2.zipIdx, p.1 = k
  · rw [if_pos hp]; exact ⟨fun _ => hp, fun _ => by omega⟩
  · rw [if_neg hp]; exact ⟨fun h => by omega, fun h => absurd h hp⟩
/-- One more column. -/
def withL (M : Mat) (b : List Rat) : Mat := List.zipWith (fun r x => r ++ [x]) M b
theorem withL_length {M : Mat} {b : List Rat} (h : b.length = M.length) : (withL M b).length = M.length := by simp [withL, h]
theorem withL_rect {M : Mat} {b : List Rat} {n : Nat} (h : rect M n) : rect (withL M b) (n + 1) := fun r hr => by
  unfold withL at hr
  obtain ⟨i, hi, rfl⟩ := List.getElem_of_mem hr
  rw [List.getElem_zipWith, List.length_append, h _ (List.getElem_mem _)]
  rfl
theorem withL_get {M : Mat} {b : List Rat} {i : Nat} (h : b.length = M.length) (hi : i < M.length) : (withL M b).getD i [] = M.getD i [] ++ [b.getD i 0] := by
  unfold withL
  rw [List.getD_eq_getElem?_getD, List.getElem?_zipWith, List.getElem?_eq_getElem hi, List.getElem?_eq_getElem (show i < b.length by omega), List.getD_eq_getElem?_getD, List.getD_eq_getElem?_getD, List.getElem?_eq_getElem hi, List.getElem?_eq_getElem (show i < b.length by omega)]
  rfl
theorem fn_withL {M : Mat} {b : List Rat} {n i k : Nat} (hM : rect M n) (h : b.length = M.length) (hi : i < M.length) (hk : k < n) : fn (withL M b) i k = fn M i k := by
  unfold fn
  rw [withL_get h hi, List.getD_eq_getElem?_getD, List.getElem?_append_left (by rw [rect_row hM hi]; exact hk), ← List.getD_eq_getElem?_getD]
theorem fn_withL_last {M : Mat} {b : List Rat} {n i : Nat} (hM : rect M n) (h : b.length = M.length) (hi : i < M.length) : fn (withL M b) i n = b.getD i 0 := by
  unfold fn
  have e := rect_row hM hi
  rw [withL_get h hi, List.getD_eq_getElem?_getD, List.getElem?_append_right (by omega), e, Nat.sub_self]
  rfl
/-- x solves the system whose right side is the column n. -/
def Sol (m n : Nat) (W : Nat → Nat → Rat) (x : Nat → Rat) : Prop := ∀ i, i < m → sm n (fun k => W i k * x k) = W i n
theorem Sol.ker {m n : Nat} {W : Nat → Nat → Rat} {x : Nat → Rat} : Sol m n W x ↔ ∀ i, i < m → sm (n + 1) (fun k => W i k * (if k < n then x k else -1)) = 0 := by
  have e : ∀ i, sm (n + 1) (fun k => W i k * (if k < n then x k else -1)) = sm n (fun k => W i k * x k) - W i n := by
    intro i
    show sm n (fun k => W i k * (if k < n then x k else -1)) + W i n * (if n < n then x n else -1) = _
    rw [sm_congr (g := fun k => W i k * x k) (fun k hk => by rw [if_pos hk]), if_neg (Nat.lt_irrefl n)]
    grind
  unfold Sol
  constructor
  · intro h i hi; rw [e, h i hi]; grind
  · intro h i hi; have := h i hi; rw [e] at this; grind
theorem RowEq.sol {m n : Nat} {W W' : Nat → Nat → Rat} {x : Nat → Rat} (h : RowEq m (n + 1) W W') (hx : Sol m n W x) : Sol m n W' x := Sol.ker.2 (h.ker (Sol.ker.1 hx))
/-- A reduced system and its solution. -/
theorem red_solution {m n : Nat} {W R : Nat → Nat → Rat} {ps : List (Nat × Nat)} (h : Red m n R ps) (e : RowEq m (n + 1) W R) :
    ((∀ i, i < m → (∀ p ∈ ps, p.2 ≠ i) → R i n = 0) ↔ ∃ x, Sol m n W x) ∧ ((∀ i, i < m → (∀ p ∈ ps, p.2 ≠ i) → R i n = 0) → Sol m n W (xval ps fun i => R i n)) := by
  have h1 : (∀ i, i < m → (∀ p ∈ ps, p.2 ≠ i) → R i n = 0) → Sol m n W (xval ps fun i => R i n) := fun hc => e.symm.sol (h.solves hc)
  exact ⟨⟨fun hc => ⟨_, h1 hc⟩, fun ⟨x, hx⟩ => h.consistent (b := fun i => R i n) (e.sol hx)⟩, h1⟩
/-- Two ways to a reduced system give the same solution. -/
theorem two_ways {m n : Nat} {W R R' : Nat → Nat → Rat} {ps ps' : List (Nat × Nat)} (h : Red m n R ps) (e : RowEq m (n + 1) W R) (h' : Red m n R' ps') (e' : RowEq m (n + 1) W R') :
    ((∀ i, i < m → (∀ p ∈ ps, p.2 ≠ i) → R i n = 0) ↔ (∀ i, i < m → (∀ p ∈ ps', p.2 ≠ i) → R' i n = 0)) ∧ ((∀ i, i < m → (∀ p ∈ ps, p.2 ≠ i) → R i n = 0) → ∀ k, k < n → xval ps (fun i => R i n) k = xval ps' (fun i => R' i n) k) := by
  have a := red_solution h e
  have b := red_solution h' e'
  refine ⟨a.1.trans b.1.symm, fun hc => ?_⟩
  have s1 := e.sol (a.2 hc)
  have s2 := e.sol (b.2 (b.1.2 (a.1.1 hc)))
  refine h.unique (fun i hi => (s1 i hi).trans (s2 i hi).symm) fun k hk hn => ?_
  rw [xval_none hn, xval_none]
  intro p hp ep
  have hm : k ∈ ps'.map Prod.fst := List.mem_map.2 ⟨p, hp, ep⟩
  rw [← h.cols_eq h' ((e.mono (Nat.le_succ n)).symm.trans (e'.mono (Nat.le_succ n)))] at hm
  obtain ⟨q, hq, eq⟩ := List.mem_map.1 hm
  exact hn q hq eq
end Go.Proofs.Ytkjmliebkbbogaa.Plain
/- Solve and Null over lists of rational numbers. Plain, no program in sight. -/
namespace Go.Proofs.Ytkjmliebkbbogaa.Plain
set_option linter.unusedVariables false
set_option linter.unusedSimpArgs false

theorem timesL_get {M : Mat} {x : List Rat} {i : Nat} (hi : i < M.length) {h : i < (timesL M x).length} : (timesL M x)[i] = dotL M[i] x := by simp [timesL]
/-- Are the rows from k on zero in a column? -/
def restZero (R : Mat) (k n : Nat) : Bool := (R.drop k).all fun r => decide (r.getD n 0 = 0)
theorem restZero_iff {R : Mat} {l : List Nat} {n : Nat} : restZero R l.length n = true ↔ ∀ i, i < R.length → (∀ p ∈ l.zipIdx, p.2 ≠ i) → fn R i n = 0 := by
  unfold restZero
  rw [List.all_eq_true]
  constructor
  · intro h i hi hu
    have hli : l.length ≤ i := Nat.le_of_not_lt fun hil => hu (l[i], i) (by rw [List.mem_iff_getElem?]; exact ⟨i, by rw [List.getElem?_zipIdx, List.getElem?_eq_getElem hil]; simp⟩) rfl
    have hm : R[i] ∈ R.drop l.length := by
      rw [List.mem_iff_getElem?]
      exact ⟨i - l.length, by rw [List.getElem?_drop, show l.length + (i - l.length) = i by omega, List.getElem?_eq_getElem hi]⟩
    have h1 := of_decide_eq_true (h _ hm)
    unfold fn
    rw [List.getD_eq_getElem?_getD (l := R), List.getElem?_eq_getElem hi]
    exact h1
  · intro h r hr
    obtain ⟨j, hj, rfl⟩ := List.getElem_of_mem hr
    rw [List.length_drop] at hj
    rw [List.getElem_drop]
    have h1 := h (l.length + j) (by omega) fun p hp => by have := mem_zip hp; omega
    unfold fn at h1
    rw [List.getD_eq_getElem?_getD (l := R), List.getElem?_eq_getElem (by omega)] at h1
    exact decide_eq_true h1
/-- The list of the values at the pivots' columns. -/
def outL (n : Nat) (ps : List (Nat × Nat)) (f : Nat → Rat) : List Rat := (List.range n).map (xval ps f)
theorem outL_length (n : Nat) (ps : List (Nat × Nat)) (f : Nat → Rat) : (outL n ps f).length = n := by simp [outL]
theorem outL_get {n k : Nat} (hk : k < n) (ps : List (Nat × Nat)) (f : Nat → Rat) : (outL n ps f).getD k 0 = xval ps f k := range_getD hk
/-- The program's solution. -/
def solveL (M : Mat) (b : List Rat) : Option (List Rat) :=
  let S := reduceL (withL M b) (colsL M)
  if restZero S.1 S.2.length (colsL M) = true then some (outL (colsL M) S.2.zipIdx fun i => fn S.1 i (colsL M)) else none
/-- The reference's: the rows stay where they are. -/
def usedB (ps : List (Nat × Nat)) (i : Nat) : Bool := ps.any fun p => decide (p.2 = i)
theorem usedB_false {ps : List (Nat × Nat)} {i : Nat} : usedB ps i = false ↔ ∀ p ∈ ps, p.2 ≠ i := by
  unfold usedB; rw [List.any_eq_false]; simp
def findFree (t : Mat) (ps : List (Nat × Nat)) (k : Nat) : Option Nat := (List.range t.length).find? fun i => !usedB ps i && decide (fn t i k ≠ 0)
def refStep (S : Mat × List (Nat × Nat)) (k : Nat) : Mat × List (Nat × Nat) :=
  match findFree S.1 S.2 k with
  | some i => (pivL S.1 i k, S.2 ++ [(k, i)])
  | none => S
def refReduce (M : Mat) (n : Nat) : Mat × List (Nat × Nat) := (List.range n).foldl refStep (M, [])
theorem refReduce_succ (M : Mat) (n : Nat) : refReduce M (n + 1) = refStep (refReduce M n) n := by
  unfold refReduce; rw [List.range_succ, List.foldl_append]; rfl
structure RefRed (M : Mat) (n w : Nat) (S : Mat × List (Nat × Nat)) : Prop where
  len : S.1.length = M.length
  rct : rect S.1 w
  eqv : RowEq M.length w (fn M) (fn S.1)
  red : Red M.length n (fn S.1) S.2
theorem refReduce_ok {M : Mat} {w : Nat} (h : rect M w) : ∀ n, n ≤ w → RefRed M n w (refReduce M n) := by
  intro n
  induction n with
  | zero => exact fun _ => ⟨rfl, h, RowEq.refl _ _ _, Red.nil _ _⟩
  | succ n ih =>
    intro hn
    obtain ⟨h1, h2, h3, h4⟩ := ih (by omega)
    rw [refReduce_succ]
    generalize refReduce M n = S at *
    obtain ⟨t, ps⟩ := S
    simp only at h1 h2 h3 h4
    unfold refStep
    simp only
    cases hf : findFree t ps n with
    | none =>
      refine ⟨h1, h2, h3, h4.skip fun i hi hu => ?_⟩
      unfold findFree at hf
      rw [List.find?_eq_none] at hf
      have h5 := hf i (List.mem_range.2 (by omega))
      rw [usedB_false.2 hu] at h5
      simpa using h5
    | some i =>
      unfold findFree at hf
      have h5 := List.find?_some hf
      have h6 := List.mem_of_find?_eq_some hf
      rw [List.mem_range] at h6
      simp only [Bool.and_eq_true, Bool.not_eq_true', decide_eq_true_eq] at h5
      have e3 : ∀ j k, j < M.length → k < w → fn (pivL t i n) j k = piv (fn t) i n j k := fun j k hj hk => fn_pivL h2 h6 (by omega) hk
      exact ⟨by rw [pivL_length, h1], pivL_rect h2 h6, (h3.trans (RowEq.piv (by omega) h5.2)).congr e3, (h4.step (by omega) (usedB_false.1 h5.1) h5.2).congr fun j k hj hk => e3 j k hj (by omega)⟩
def refZero (t : Mat) (ps : List (Nat × Nat)) (n : Nat) : Bool := (List.range t.length).all fun i => usedB ps i || decide (fn t i n = 0)
theorem refZero_iff {t : Mat} {ps : List (Nat × Nat)} {n : Nat} : refZero t ps n = true ↔ ∀ i, i < t.length → (∀ p ∈ ps, p.2 ≠ i) → fn t i n = 0 := by
  unfold refZero
  rw [List.all_eq_true]
  constructor
  · intro h i hi hu
    have h1 := h i (List.mem_range.2 hi)
    rw [usedB_false.2 hu] at h1
    simpa using h1
  · intro h i hi
    rw [List.mem_range] at hi
    cases hb : usedB ps i with
    | true => rfl
    | false => simpa using h i hi (usedB_false.1 hb)
def solveR (M : Mat) (b : List Rat) : Option (List Rat) :=
  let S := refReduce (withL M b) (colsL M)
  if refZero S.1 S.2 (colsL M) = true then some (outL (colsL M) S.2 fun i => fn S.1 i (colsL M)) else none
theorem solve_eq {M : Mat} {b : List Rat} (h : formedL M = true) (hb : b.length = M.length) : solveL M b = solveR M b := by
  have hr := formedL_rect h
  have hw := withL_rect (b := b) hr
  have h1 := reduceL_ok hw (colsL M) (by omega)
  have h2 := refReduce_ok hw (colsL M) (by omega)
  unfold solveL solveR
  generalize reduceL (withL M b) (colsL M) = S at *
  generalize refReduce (withL M b) (colsL M) = S' at *
  have h3 := two_ways h1.red h1.eqv h2.red h2.eqv
  have e1 : restZero S.1 S.2.length (colsL M) = true ↔ refZero S'.1 S'.2 (colsL M) = true := by
    rw [restZero_iff, refZero_iff, h1.len, h2.len]; exact h3.1
  by_cases hz : restZero S.1 S.2.length (colsL M) = true
  · simp only [if_pos hz, if_pos (e1.1 hz)]
    congr 1
    unfold outL
    refine List.map_congr_left fun k hk => ?_
    rw [List.mem_range] at hk
    rw [restZero_iff, h1.len] at hz
    exact h3.2 hz k hk
  · simp only [if_neg hz, if_neg fun hq => hz (e1.2 hq)]
/-- What a solution is. -/
theorem solve_sol {M : Mat} {b x : List Rat} (h : formedL M = true) (hb : b.length = M.length) (hs : solveL M b = some x) : x.length = colsL M ∧ timesL M x = b ∧ ∀ k, k < colsL M → isPivL M k = false → x.getD k 0 = 0 := by
  have hr := formedL_rect h
  have hw := withL_rect (b := b) hr
  have h1 := reduceL_ok hw (colsL M) (by omega)
  have hpre : ∀ k, k < colsL M → (isPivL M k = true ↔ k ∈ (reduceL (withL M b) (colsL M)).2) := by
    intro k hk
    have e : isPivL M k = isPivL (withL M b) k := by
      have e2 : ∀ j, j ≤ colsL M → firstL (withL M b) j = firstL M j := by
        intro j hj
        apply List.ext_getElem (by simp [firstL, withL, hb])
        intro i hi1 hi2
        have hi : i < M.length := by simpa [firstL] using hi2
        simp only [firstL, withL, List.getElem_map, List.getElem_zipWith]
        rw [List.take_append_of_le_length (by rw [hr _ (List.getElem_mem hi)]; exact hj)]
      unfold isPivL
      rw [e2 k (by omega), e2 (k + 1) (by omega)]
    rw [e]
    exact isPiv_iff h1 hw hk (by omega)
  unfold solveL at hs
  generalize reduceL (withL M b) (colsL M) = S at *
  simp only at hs
  split at hs
  · rename_i hz
    injection hs with hs
    subst hs
    rw [restZero_iff, h1.len] at hz
    have hwl := withL_length hb
    have h2 := (red_solution h1.red h1.eqv).2 hz
    refine ⟨outL_length _ _ _, ?_, fun k hk hp => ?_⟩
    · apply List.ext_getElem (by simp [timesL, hb])
      intro i hi1 hi2
      have hi : i < M.length := by omega
      have h3 := h2 i (by omega)
      rw [fn_withL_last hr hb hi] at h3
      rw [timesL_get hi, dotL_sm (hr _ (List.getElem_mem hi)) (outL_length _ _ _)]
      rw [List.getD_eq_getElem?_getD, List.getElem?_eq_getElem hi2] at h3
      refine Eq.trans (sm_congr fun k hk => ?_) h3
      rw [outL_get hk, fn_withL hr hb hi hk]
      unfold fn
      rw [List.getD_eq_getElem?_getD (l := M), List.getElem?_eq_getElem hi]
      rfl
    · rw [outL_get hk, xval_none]
      intro p hp2 e
      have hm : k ∈ S.2 := by
        obtain ⟨a, i⟩ := p
        have := List.mem_zipIdx hp2
        simp at this e
        rw [← e, this.2]
        exact List.getElem_mem _
      rw [(hpre k hk).2 hm] at hp
      cases hp
  · cases hs
/-- A system can be solved exactly if the right side does not increase the rank. -/
theorem solve_none {M : Mat} {b : List Rat} (h : formedL M = true) (hb : b.length = M.length) : (rankR (withL M b) = rankR M) ↔ solveL M b ≠ none := by
  have hr := formedL_rect h
  have hw := withL_rect (b := b) hr
  have h1 := reduceL_ok hw (colsL M) (by omega)
  have hwl := withL_length hb
  unfold solveL
  generalize reduceL (withL M b) (colsL M) = S at *
  simp only
  have hlen : (S.2.zipIdx).length = S.2.length := List.length_zipIdx
  have r1 : rankR M = S.2.length := by
    have a1 := rankR_ok hr
    have a2 := (h1.eqv.mono (show colsL M ≤ colsL M + 1 by omega)).symm.rank h1.red.rank
    rw [hwl, hlen] at a2
    exact a1.unique (a2.congr fun i k hi hk => (fn_withL hr hb hi hk).symm)
  have r2 := rankR_ok hw
  by_cases hz : restZero S.1 S.2.length (colsL M) = true
  · rw [if_pos hz]
    refine ⟨fun _ => by simp, fun _ => ?_⟩
    rw [r1]
    have hz' := hz
    rw [restZero_iff, h1.len] at hz'
    have a3 := h1.eqv.symm.rank (h1.red.skip hz').rank
    rw [hlen] at a3
    exact r2.unique a3
  · rw [if_neg hz]
    refine ⟨fun he => ?_, fun hn => absurd rfl hn⟩
    exfalso
    rw [restZero_iff, h1.len] at hz
    obtain ⟨i, hi, hu, hne⟩ : ∃ i, i < (withL M b).length ∧ (∀ p ∈ S.2.zipIdx, p.2 ≠ i) ∧ fn S.1 i (colsL M) ≠ 0 := by
      refine Classical.byContradiction fun hc => hz fun i hi hu => Classical.byContradiction fun hne => hc ⟨i, hi, hu, hne⟩
    have a3 := (h1.eqv.trans (RowEq.piv hi hne)).symm.rank (h1.red.step hi hu hne).rank
    rw [List.length_append, hlen] at a3
    have := r2.unique a3
    simp at this
    omega
theorem solve_some_of {M : Mat} {b x : List Rat} (h : formedL M = true) (hx : x.length = colsL M) (hb : timesL M x = b) : solveL M b ≠ none := by
  have hr := formedL_rect h
  have hbl : b.length = M.length := by rw [← hb]; simp [timesL]
  have hw := withL_rect (b := b) hr
  have h1 := reduceL_ok hw (colsL M) (by omega)
  have hwl := withL_length hbl
  unfold solveL
  generalize reduceL (withL M b) (colsL M) = S at *
  simp only
  have hs : Sol (withL M b).length (colsL M) (fn (withL M b)) fun k => x.getD k 0 := by
    intro i hi
    rw [hwl] at hi
    rw [fn_withL_last hr hbl hi]
    have e : b.getD i 0 = dotL (M.getD i []) x := by
      rw [← hb]
      unfold timesL
      rw [List.getD_eq_getElem?_getD, List.getElem?_map, List.getD_eq_getElem?_getD, List.getElem?_eq_getElem hi]; rfl
    rw [e, dotL_sm (rect_row hr hi) hx]
    exact sm_congr fun k hk => by rw [fn_withL hr hbl hi hk]; rfl
  rw [if_pos (restZero_iff.2 (by rw [h1.len]; exact (red_solution h1.red h1.eqv).1.2 ⟨_, hs⟩))]
  simp
/-- The first column that is no pivot. -/
def freeL (l : List Nat) : Nat := l.zipIdx.findIdx fun p => decide (p.1 ≠ p.2)
theorem freeL_le (l : List Nat) : freeL l ≤ l.length := by
  unfold freeL
  have := List.findIdx_le_length (xs := l.zipIdx) (p := fun p => decide (p.1 ≠ p.2))
  rw [List.length_zipIdx] at this; exact this
theorem freeL_lt {l : List Nat} {k : Nat} (h : k < freeL l) (hk : k < l.length) : l[k] = k := by
  unfold freeL at h
  have := List.not_of_lt_findIdx h
  simp at this
  exact this
theorem freeL_not {l : List Nat} (hs : l.Pairwise (· < ·)) : freeL l ∉ l := by
  intro hm
  obtain ⟨i, hi, he⟩ := List.getElem_of_mem hm
  rcases Nat.lt_trichotomy i (freeL l) with h1 | h1 | h1
  · have := freeL_lt h1 hi; omega
  · have h2 : freeL l < l.zipIdx.length := by rw [List.length_zipIdx]; omega
    have h3 : decide ((l.zipIdx[freeL l]'h2).1 ≠ (l.zipIdx[freeL l]'h2).2) = true := List.findIdx_getElem (xs := l.zipIdx) (p := fun p : Nat × Nat => decide (p.1 ≠ p.2)) (w := h2)
    rw [decide_eq_true_eq, List.getElem_zipIdx] at h3
    apply h3
    subst h1
    simpa using he
  · have h5 : ∀ k, (hk : k < l.length) → k ≤ l[k] := by
      intro k
      induction k with
      | zero => intro _; omega
      | succ k ih =>
        intro hk
        have := ih (by omega)
        have := List.pairwise_iff_getElem.1 hs k (k + 1) (by omega) hk (by omega)
        omega
    have := h5 i hi
    omega
/-- The program's column of the kernel. -/
def nullL (M : Mat) : Option (List Rat) :=
  let S := reduceL M (colsL M)
  if freeL S.2 = colsL M then none else some ((List.range (colsL M)).map (freeCol S.2.zipIdx (fn S.1) (freeL S.2)))
theorem null_ok {M : Mat} (h : formedL M = true) : (nullL M = none ↔ rankR M = colsL M) ∧ ∀ x, nullL M = some x → x.length = colsL M ∧ (timesL M x = M.map fun _ => 0) ∧ ∃ f, f < colsL M ∧ isPivL M f = false ∧ x.getD f 0 = 1 ∧ (∀ k, k < f → isPivL M k = true) ∧ ∀ k, k < colsL M → k ≠ f → isPivL M k = false → x.getD k 0 = 0 := by
  have hr := formedL_rect h
  have h1 := reduceL_ok hr (colsL M) (Nat.le_refl _)
  have hrk : rankR M = (reduceL M (colsL M)).2.length := (rankR_eq h).symm
  have hpiv : ∀ k, k < colsL M → (isPivL M k = true ↔ k ∈ (reduceL M (colsL M)).2) := fun k hk => isPiv_iff h1 hr hk (Nat.le_refl _)
  unfold nullL
  rw [hrk]
  generalize reduceL M (colsL M) = S at *
  have hs : S.2.Pairwise (· < ·) := by
    have := h1.red.col
    have e : S.2 = S.2.zipIdx.map Prod.fst := by simp
    rw [e, List.pairwise_map]
    exact this
  have hlt : ∀ x ∈ S.2, x < colsL M := fun x hx => by
    obtain ⟨i, hi, rfl⟩ := List.getElem_of_mem hx
    exact (h1.red.lt (S.2[i], i) (by rw [List.mem_iff_getElem?]; exact ⟨i, by rw [List.getElem?_zipIdx, List.getElem?_eq_getElem hi]; simp⟩)).1
  have hge : ∀ k, (hk : k < S.2.length) → k ≤ S.2[k] := by
    intro k
    induction k with
    | zero => intro _; omega
    | succ k ih =>
      intro hk
      have := ih (by omega)
      have := List.pairwise_iff_getElem.1 hs k (k + 1) (by omega) hk (by omega)
      omega
  have hll : S.2.length ≤ colsL M := by
    rcases Nat.eq_zero_or_pos S.2.length with h0 | h0
    · omega
    · have := hge (S.2.length - 1) (by omega)
      have := hlt _ (List.getElem_mem (show S.2.length - 1 < S.2.length by omega))
      omega
  have hfl := freeL_le S.2
  have hnot := freeL_not hs
  have hiff : freeL S.2 = colsL M ↔ S.2.length = colsL M := by
    constructor
    · intro e; omega
    · intro e
      refine Classical.byContradiction fun hc => hnot ?_
      have hf : freeL S.2 < S.2.length := by omega
      have key : ∀ j, j < S.2.length → ∀ hk : S.2.length - 1 - j < S.2.length, S.2[S.2.length - 1 - j] = S.2.length - 1 - j := by
        intro j
        induction j with
        | zero =>
          intro hj hk
          have := hge _ hk
          have := hlt _ (List.getElem_mem hk)
          omega
        | succ j ih =>
          intro hj hk
          have h2 := ih (by omega) (by omega)
          have h3 := List.pairwise_iff_getElem.1 hs (S.2.length - 1 - (j + 1)) (S.2.length - 1 - j) hk (by omega) (by omega)
          have h4 := hge _ hk
          omega
      have h5 := key (S.2.length - 1 - freeL S.2) (by omega) (by omega)
      have e6 : S.2.length - 1 - (S.2.length - 1 - freeL S.2) = freeL S.2 := by omega
      simp only [e6] at h5
      rw [← h5]
      exact List.getElem_mem _
  simp only
  refine ⟨⟨fun hn => ?_, fun he => by rw [if_pos (hiff.2 he)]⟩, fun x hx => ?_⟩
  · refine Classical.byContradiction fun hc => ?_
    rw [if_neg fun e => hc (hiff.1 e)] at hn
    cases hn
  · have hne : ¬ freeL S.2 = colsL M := fun e => by rw [if_pos e] at hx; cases hx
    rw [if_neg hne] at hx
    injection hx with hx
    have hf : freeL S.2 < colsL M := by omega
    have hn : ∀ p ∈ S.2.zipIdx, p.1 ≠ freeL S.2 := fun p hp e => by
      obtain ⟨a, i⟩ := p
      have := List.mem_zipIdx hp
      simp at this e
      apply hnot
      rw [← e, this.2]
      exact List.getElem_mem _
    have hg : ∀ k, k < colsL M → x.getD k 0 = freeCol S.2.zipIdx (fn S.1) (freeL S.2) k := fun k hk => by rw [← hx]; exact range_getD hk
    have hxl : x.length = colsL M := by rw [← hx]; simp
    refine ⟨hxl, ?_, freeL S.2, hf, ?_, ?_, fun k hk => ?_, fun k hk hkf hp => ?_⟩
    · apply List.ext_getElem (by simp [timesL])
      intro i hi1 hi2
      have hi : i < M.length := by simpa [timesL] using hi1
      have h3 := h1.eqv.symm.ker (h1.red.free hf hn) i hi
      rw [timesL_get hi, List.getElem_map, dotL_sm (hr _ (List.getElem_mem hi)) hxl]
      refine Eq.trans (sm_congr fun k hk => ?_) h3
      rw [hg k hk]
      unfold fn
      rw [List.getD_eq_getElem?_getD (l := M), List.getElem?_eq_getElem hi]
      rfl
    · exact Bool.eq_false_iff.2 fun hp => hnot ((hpiv _ hf).1 hp)
    · rw [hg _ hf]; exact Red.freeCol_self (m := M.length) (n := colsL M) hn
    · refine (hpiv k (by omega)).2 ?_
      have := freeL_lt hk (by omega)
      rw [← this]; exact List.getElem_mem _
    · rw [hg k hk]
      unfold freeCol
      rw [dl_ne hkf, xval_none]
      · grind
      · intro p hp2 e
        have hm : k ∈ S.2 := by
          obtain ⟨a, i⟩ := p
          have := List.mem_zipIdx hp2
          simp at this e
          rw [← e, this.2]
          exact List.getElem_mem _
        rw [(hpiv k hk).2 hm] at hp
        cases hp
end Go.Proofs.Ytkjmliebkbbogaa.Plain
