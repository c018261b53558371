/- Slices of fractions as lists of rational numbers. -/
import Derived.Test.YtghpcimeobmonaaLShort
namespace Go.Proofs.Ytghpcimeobmonaa
set_option linter.unusedVariables false
set_option linter.unusedSimpArgs false
open Go.RowKit Plain

/-- A slice of valid fractions. -/
structure FL (w : World) (A : Option Addr) (c : Nat) (ds : List FrD) : Prop where
  row : Srow w 3 FrD.cells A c ds
  fv : ∀ d ∈ ds, FV w d.v d.q
theorem FL.below {w w' : World} {A : Option Addr} {c : Nat} {ds : List FrD} (h : FL w A c ds) (hb : Below w.heap.size w w') : FL w' A c ds :=
  ⟨h.row.below hb, fun d hd => (h.fv d hd).below hb⟩
theorem FL.take {w : World} {A : Option Addr} {c : Nat} {ds : List FrD} (h : FL w A c ds) (n : Nat) : FL w A c (ds.take n) :=
  ⟨h.row.take n, fun d hd => h.fv d (List.mem_of_mem_take hd)⟩
theorem FL.len {w : World} {A : Option Addr} {c : Nat} {ds : List FrD} (h : FL w A c ds) : ds.length ≤ c ∧ c ≤ 9223372036854775807 := ⟨h.row.1, h.row.2.1⟩
/-- The j-th element: its cells. -/
theorem FL.at {w : World} {A : Option Addr} {c : Nat} {ds : List FrD} (h : FL w A c ds) {k : Nat} (hk : k < ds.length) :
    ∃ a d, A = some a ∧ a.block < w.heap.size ∧ w.cell? (a.add (k * 3)) = some (.bool d.neg) ∧ w.cell? ⟨(a.add (k * 3)).block, (a.add (k * 3)).off + 1, none⟩ = some (.slice d.a d.la.length d.ca) ∧
      w.cell? ⟨(a.add (k * 3)).block, (a.add (k * 3)).off + 2, none⟩ = some (.slice d.b d.lb.length d.cb) ∧ FV w d.v d.q ∧ Hid (ds[k]? = some d) := by
  obtain ⟨a, e, h1, h2⟩ := h.row.2.2 k hk
  have hc : ∀ i u, (ds[k]).cells[i]? = some u → w.cell? ((a.add (k * 3)).add i) = some u := fun i u hu => by
    rw [add_add]; exact h2 i u hu
  refine ⟨a, ds[k], e, h1, cell0 (hc 0 _ rfl), cellK (hc 1 _ rfl) (by decide), cellK (hc 2 _ rfl) (by decide), h.fv _ (List.getElem_mem hk), List.getElem?_eq_getElem hk⟩
/-- The sum of rational numbers, from the left. -/
def sumR (l : List Rat) : Rat := l.foldl (· + ·) 0
theorem sumR_nil : sumR [] = 0 := rfl
theorem sumR_snoc (l : List Rat) (q : Rat) : sumR (l ++ [q]) = sumR l + q := by unfold sumR; rw [List.foldl_append]; rfl
theorem sumR_take {ds : List FrD} {k : Nat} {d : FrD} (h : ds[k]? = some d) : sumR ((ds.take (k + 1)).map FrD.q) = sumR ((ds.take k).map FrD.q) + d.q := by
  have hk : k < ds.length := (List.getElem?_eq_some_iff.1 h).1
  have e : ds.take (k + 1) = ds.take k ++ [d] := by rw [List.take_add_one, h]; rfl
  rw [e, List.map_append, List.map_singleton, sumR_snoc]
theorem fits_sum {k : Nat} : ∀ {l : List Rat}, (∀ q ∈ l, Fits k q) → Fits (1 + l.length * (k + 1)) (sumR l) := by
  intro l h
  have key : ∀ n, n ≤ l.length → Fits (1 + n * (k + 1)) (sumR (l.take n)) := by
    intro n
    induction n with
    | zero => exact fun _ => Fits.zero (by omega)
    | succ n ih =>
      intro hn
      rw [show l.take (n + 1) = l.take n ++ [l[n]] by rw [List.take_add_one, List.getElem?_eq_getElem (by omega)]; rfl, sumR_snoc]
      have := (ih (by omega)).add (h _ (List.getElem_mem (show n < l.length by omega)))
      exact this.mono (by rw [Nat.add_mul]; omega)
  have := key l.length (Nat.le_refl _)
  rw [List.take_length] at this
  exact this
theorem FrD.mem_q {P : Rat → Prop} {ds : List FrD} (h : ∀ d ∈ ds, P d.q) : ∀ q ∈ ds.map FrD.q, P q := fun q hq => by
  obtain ⟨d, hd, rfl⟩ := List.mem_map.1 hq; exact h d hd
end Go.Proofs.Ytghpcimeobmonaa
