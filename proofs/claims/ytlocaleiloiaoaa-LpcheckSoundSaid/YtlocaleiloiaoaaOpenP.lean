/- Linear programs that are handed in. -/
import Derived.Test.YtlocaleiloiaoaaLD
namespace Go.Proofs.Ytlocaleiloiaoaa
set_option linter.unusedVariables false
set_option linter.unusedSimpArgs false
open Go.RowKit Plain Go.ChangeShapes Go.WideShapes

/-- A row of a program as it lies in memory. -/
structure RowD where
  a : Option Addr
  c : Nat
  ds : List FrD
  b : FrD
def RowD.cells (r : RowD) : List Value := [.slice r.a r.ds.length r.c, .bool r.b.neg, .slice r.b.a r.b.la.length r.b.ca, .slice r.b.b r.b.lb.length r.b.cb]
def RowD.ok (w : World) (r : RowD) : Prop := Srow w 3 FrD.cells r.a r.c r.ds ∧ (∀ f ∈ r.ds, f.ok w) ∧ r.b.ok w
/-- A program as it lies in memory. -/
structure PrD where
  ga : Option Addr
  gc : Nat
  gs : List FrD
  ra : Option Addr
  rc : Nat
  rs : List RowD
abbrev PrD.v (p : PrD) : Value := .agg #[.slice p.ga p.gs.length p.gc, .slice p.ra p.rs.length p.rc]
def PrD.ok (w : World) (p : PrD) : Prop := Srow w 3 FrD.cells p.ga p.gc p.gs ∧ (∀ f ∈ p.gs, f.ok w) ∧ Srow w 4 RowD.cells p.ra p.rc p.rs ∧ ∀ r ∈ p.rs, r.ok w
theorem RowD.ok.below {w w' : World} {r : RowD} (h : r.ok w) (hb : Below w.heap.size w w') : r.ok w' := ⟨h.1.below hb, fun f hf => (h.2.1 f hf).below hb, h.2.2.below hb⟩
theorem PrD.ok.below {w w' : World} {p : PrD} (h : p.ok w) (hb : Below w.heap.size w w') : p.ok w' := ⟨h.1.below hb, fun f hf => (h.2.1 f hf).below hb, h.2.2.1.below hb, fun r hr => (h.2.2.2 r hr).below hb⟩
section
variable {H : Type} {enc : TypeId × Value → H} {w : World} {fuel : Nat} {cs : List Value} {x : DataW H × List MemPlace}
theorem cellsRow : Try.prog.cellsOf 51 = 4 := by kernel_rfl
theorem cellsFracs : Try.prog.cellsOf 22 = 1 := by kernel_rfl
theorem cellsRows : Try.prog.cellsOf 23 = 1 := by kernel_rfl
theorem cellsProg : Try.prog.cellsOf 25 = 2 := by kernel_rfl
theorem list4 {α : Type} {l : List α} (h : l.length = 4) : ∃ a b c d, l = [a, b, c, d] := by
  match l, h with
  | [a, b, c, d], _ => exact ⟨a, b, c, d, rfl⟩
theorem list2 {α : Type} {l : List α} (h : l.length = 2) : ∃ a b, l = [a, b] := by
  match l, h with
  | [a, b], _ => exact ⟨a, b, rfl⟩
theorem trod_fracs (h : DataW.trod enc Try.prog w 0 (fun _ => true) true fuel 22 cs = some x) : ∃ A c ds, cs = [.slice A ds.length c] ∧ Srow w 3 FrD.cells A c ds ∧ ∀ f ∈ ds, f.ok w :=
  trod_rows (cells := FrD.cells) (P := FrD.ok w) Try.underlying22 cellsFrac (fun _ => by simp [FrD.cells]) (fun _ _ _ h => trod_frac h) h
theorem trod_row (h : DataW.trod enc Try.prog w 0 (fun _ => true) true fuel 51 cs = some x) : ∃ r : RowD, cs = r.cells ∧ r.ok w := by
  obtain ⟨y0, y1, n, rfl, hl, h0, h1⟩ := trod_struct2 Try.underlying51 h
  rw [cellsRow] at hl
  obtain ⟨c0, c1, c2, c3, rfl⟩ := list4 hl
  simp only [cellsFracs, cellsFrac] at h0 h1
  obtain ⟨A, c, ds, hA, h2, h3⟩ := trod_fracs h0
  obtain ⟨f, hf, h4⟩ := trod_frac h1
  simp [FrD.cells] at hA hf
  obtain ⟨rfl, rfl, rfl⟩ := hf
  subst hA
  exact ⟨⟨A, c, ds, f⟩, rfl, h2, h3, h4⟩
theorem trod_prog (h : DataW.trod enc Try.prog w 0 (fun _ => true) true fuel 25 cs = some x) : ∃ p : PrD, cs = [.slice p.ga p.gs.length p.gc, .slice p.ra p.rs.length p.rc] ∧ p.ok w := by
  obtain ⟨y0, y1, n, rfl, hl, h0, h1⟩ := trod_struct2 Try.underlying25 h
  rw [cellsProg] at hl
  obtain ⟨c0, c1, rfl⟩ := list2 hl
  simp only [cellsFracs, cellsRows] at h0 h1
  obtain ⟨A, c, ds, hA, h2, h3⟩ := trod_fracs h0
  obtain ⟨B, d, rs, hB, h4, h5⟩ := trod_rows (cells := RowD.cells) (P := RowD.ok w) Try.underlying23 cellsRow (fun _ => by simp [RowD.cells]) (fun _ _ _ h => trod_row h) h1
  simp at hA hB
  subst hA hB
  exact ⟨⟨A, c, ds, B, d, rs⟩, rfl, h2, h3, h4, h5⟩
/-- A parameter that is a program. -/
theorem open_prog {b0 : Nat} {v : Value} {d : DataW H} {p : List MemPlace} (hv : Value.okWide Try.prog w .any b0 25 v) (h : DataW.Trod enc Try.prog w 0 (fun _ => true) true 25 v d p) : ∃ f : PrD, v = f.v ∧ f.ok w := by
  obtain ⟨vs, rfl, hsz⟩ := okWide_struct Try.underlying25 hv
  obtain ⟨fuel, hf⟩ := h
  obtain ⟨f, hc, ho⟩ := trod_prog hf
  refine ⟨f, ?_, ho⟩
  have e : vs = #[.slice f.ga f.gs.length f.gc, .slice f.ra f.rs.length f.rc] := by
    apply Array.ext'
    simpa [Value.cells] using hc
  rw [e]
end
end Go.Proofs.Ytlocaleiloiaoaa
