/- Fractions, numbers and slices of fractions that are handed in; the law's short. -/
import Derived.Test.YtkjmliebkbbogaaFV
import Derived.Test.YtkjmliebkbbogaaGValid
import Derived.ChangeSlices
import Derived.Deep.Slices
import Derived.Deep.Strs
import Derived.ProofKit
import Derived.OpenShut
namespace Go.Proofs.Ytkjmliebkbbogaa
set_option linter.unusedVariables false
set_option linter.unusedSimpArgs false
open Go.RowKit Plain Go.ChangeShapes Go.WideShapes

/-- A slice handed in, of any length. -/
structure InRow (w : World) (A : Option Addr) (c : Nat) (l : List Nat) : Prop where
  len : l.length ≤ c
  big : l.length ≤ 9223372036854775807
  rd : Rd w A l
  dig : Dig l

theorem InRow.nv {w : World} {A : Option Addr} {c : Nat} {l : List Nat} (h : InRow w A c l) (hl : l.length ≤ 70368744177664) : Nv w A c l := ⟨h.len, hl, h.rd, h.dig⟩

theorem cell_lt {w : World} {a : Addr} {v : Value} (h : w.cell? a = some v) : a.block < w.heap.size := by
  rcases Nat.lt_or_ge a.block w.heap.size with hlt | hge
  · exact hlt
  · simp [World.cell?, Array.getElem?_eq_none hge] at h

theorem inRow_of {w : World} {a : Option Addr} {len cap : Nat} {zs : List Int}
    (h : (a = none ∧ len = 0 ∧ cap = 0 ∧ zs = []) ∨
      ∃ x, a = some x ∧ len ≤ cap ∧ cap ≤ maxLen ∧ zs.length = cap ∧ (∀ i, i < zs.length → w.cell? (x.add i) = some (.int .u32 (zs.getD i 0))) ∧ ∀ n ∈ zs, (Lit.int .u32 n).wf = true) :
    ∃ l, Hid (l = (zs.take len).map Int.toNat) ∧ l.length = len ∧ InRow w a cap l := by
  rcases h with ⟨rfl, rfl, rfl, rfl⟩ | ⟨x, rfl, h1, h2, h3, h4, h5⟩
  · exact ⟨[], rfl, rfl, by simp, by simp, fun hx => by simp [u32s] at hx, Dig.nil⟩
  · have hlen : ((zs.take len).map Int.toNat).length = len := by rw [List.length_map, List.length_take]; omega
    have hm : maxLen = 9223372036854775807 := rfl
    have hb : ∀ n ∈ zs, 0 ≤ n ∧ n < 4294967296 := fun n hn => by
      have := h5 n hn
      simp [Lit.wf, IntKind.min, IntKind.max, IntKind.bits, IntKind.signed] at this
      omega
    refine ⟨_, rfl, hlen, by rw [hlen]; exact h1, by rw [hlen]; omega, fun hx => ⟨x, rfl, ?_, fun j hj => ?_⟩, ?_⟩
    · rw [u32s_length, hlen] at hx
      have := h4 0 (by omega)
      exact cell_lt (by simpa [Addr.add] using this)
    · rw [u32s_length, hlen] at hj
      rw [h4 j (by omega)]
      have hz := hb (zs.getD j 0) (by rw [List.getD_eq_getElem?_getD, List.getElem?_eq_getElem (by omega)]; exact List.getElem_mem _)
      simp [u32s, List.getElem?_eq_getElem (show j < zs.length by omega)] at hz ⊢
      omega
    · intro d hd
      rw [List.mem_map] at hd
      obtain ⟨n, hn, rfl⟩ := hd
      have := hb n (List.mem_of_mem_take hn)
      omega

section
variable {H : Type} {enc : TypeId × Value → H} {w : World} {fuel : Nat} {cs : List Value} {x : DataW H × List MemPlace}
theorem trod_nat (h : DataW.trod enc Try.prog w 0 (fun _ => true) true fuel 48 cs = some x) : ∃ A c l, cs = [.slice A l.length c] ∧ InRow w A c l := by
  rcases Go.ChangeShapes.open_ints Try.underlying48 Try.underlying91 (by kernel_rfl) h with ⟨rfl, _⟩ | ⟨a, l, c, zs, rfl, _, hl, hm, hz, _, hcell, hwz⟩
  · exact ⟨none, 0, [], rfl, by simp, by simp, fun hx => by simp [u32s] at hx, Dig.nil⟩
  · obtain ⟨la, ha, rfl, ra⟩ := inRow_of (w := w) (a := some a) (len := l) (cap := c) (zs := zs) (.inr ⟨a, rfl, hl, hm, by simpa using hz, hcell, hwz⟩)
    exact ⟨some a, c, la, rfl, ra⟩
theorem cellsFrac : Try.prog.cellsOf 50 = 3 := by kernel_rfl
theorem cellsBool : Try.prog.cellsOf 4 = 1 := by kernel_rfl
theorem cellsNat : Try.prog.cellsOf 48 = 1 := by kernel_rfl
theorem list3 {α : Type} {l : List α} (h : l.length = 3) : ∃ a b c, l = [a, b, c] := by
  match l, h with
  | [a, b, c], _ => exact ⟨a, b, c, rfl⟩
/-- A fraction as it lies in memory. -/
structure FrD where
  neg : Bool
  a : Option Addr
  ca : Nat
  la : List Nat
  b : Option Addr
  cb : Nat
  lb : List Nat
def FrD.cells (f : FrD) : List Value := [.bool f.neg, .slice f.a f.la.length f.ca, .slice f.b f.lb.length f.cb]
def FrD.ok (w : World) (f : FrD) : Prop := InRow w f.a f.ca f.la ∧ InRow w f.b f.cb f.lb
theorem trod_frac (h : DataW.trod enc Try.prog w 0 (fun _ => true) true fuel 50 cs = some x) : ∃ f : FrD, cs = f.cells ∧ f.ok w := by
  obtain ⟨y0, y1, y2, n, rfl, hl, h0, h1, h2⟩ := Go.Deep.trod_struct3 Try.underlying50 h
  rw [cellsFrac] at hl
  obtain ⟨c0, c1, c2, rfl⟩ := list3 hl
  simp only [cellsBool, cellsNat] at h0 h1 h2
  obtain ⟨b, hb, _⟩ := DataW.trod_bool Try.underlying4 h0
  obtain ⟨A, ca, la, hA, iA⟩ := trod_nat h1
  obtain ⟨B, cb, lb, hB, iB⟩ := trod_nat h2
  simp at hb hA hB
  subst hb hA hB
  exact ⟨⟨b, A, ca, la, B, cb, lb⟩, rfl, iA, iB⟩
set_option maxRecDepth 100000 in
/-- A parameter that is a fraction. -/
theorem open_frac {b0 : Nat} {v : Value} {d : DataW H} {p : List MemPlace} (hv : Value.okWide Try.prog w .any b0 50 v) (h : DataW.Trod enc Try.prog w 0 (fun _ => true) true 50 v d p) : ∃ f : FrD, v = fracV f.neg f.a f.la.length f.ca f.b f.lb.length f.cb ∧ f.ok w := by
  obtain ⟨vs, rfl, hsz⟩ := okWide_struct Try.underlying50 hv
  obtain ⟨fuel, hf⟩ := h
  obtain ⟨f, hc, ho⟩ := trod_frac hf
  refine ⟨f, ?_, ho⟩
  have e : vs = f.cells.toArray := by
    apply Array.ext'
    simpa [Value.cells] using hc
  rw [e]
  rfl
/-- A slice whose elements are some cells each, as a list. -/
def Srow {δ : Type} (w : World) (C : Nat) (cells : δ → List Value) (A : Option Addr) (c : Nat) (ds : List δ) : Prop :=
  ds.length ≤ c ∧ c ≤ 9223372036854775807 ∧ ∀ (j : Nat) (hj : j < ds.length), ∃ a, A = some a ∧ a.block < w.heap.size ∧ ∀ i u, (cells ds[j])[i]? = some u → w.cell? (a.add (j * C + i)) = some u
theorem Srow.below {δ : Type} {w w' : World} {C : Nat} {cells : δ → List Value} {A : Option Addr} {c : Nat} {ds : List δ} (h : Srow w C cells A c ds) (hb : Below w.heap.size w w') : Srow w' C cells A c ds :=
  ⟨h.1, h.2.1, fun j hj => by
    obtain ⟨a, e, h1, h2⟩ := h.2.2 j hj
    exact ⟨a, e, Nat.lt_of_lt_of_le h1 hb.size, fun i u hu => (hb.cell (by rw [block_add]; exact h1)).trans (h2 i u hu)⟩⟩
theorem Srow.take {δ : Type} {w : World} {C : Nat} {cells : δ → List Value} {A : Option Addr} {c : Nat} {ds : List δ} (h : Srow w C cells A c ds) (n : Nat) : Srow w C cells A c (ds.take n) :=
  ⟨by rw [List.length_take]; have := h.1; omega, h.2.1, fun j hj => by
    rw [List.length_take] at hj
    obtain ⟨a, e, h1, h2⟩ := h.2.2 j (by omega)
    refine ⟨a, e, h1, fun i u hu => h2 i u ?_⟩
    rw [← hu]; simp⟩
theorem trod_rows {δ : Type} {t e : TypeId} {C : Nat} {cells : δ → List Value} {P : δ → Prop} (ht : Try.prog.underlying t = some (.slice e)) (hC : Try.prog.cellsOf e = C) (hpos : ∀ d, 0 < (cells d).length)
    (hel : ∀ n cs x, DataW.trod enc Try.prog w 0 (fun _ => true) true n e cs = some x → ∃ d, cs = cells d ∧ P d) (h : DataW.trod enc Try.prog w 0 (fun _ => true) true fuel t cs = some x) :
    ∃ A c ds, cs = [.slice A ds.length c] ∧ Srow w C cells A c ds ∧ ∀ d ∈ ds, P d := by
  rcases Go.Deep.open_slice ht h with ⟨rfl, _⟩ | ⟨a, len, cap, m, n, D, Pl, rfl, hb, hl, hm, hmm, _, hi⟩
  · exact ⟨none, 0, [], rfl, ⟨by simp, by omega, fun j hj => by simp at hj⟩, by simp⟩
  · rw [hC] at hi
    have hlm : len ≤ m := by rw [hmm]; split <;> omega
    have key : ∀ n, n ≤ m → ∃ ds : List δ, ds.length = n ∧ ∀ j (hj : j < ds.length), w.cells? 0 (a.add (j * C)) C = some (cells ds[j]) ∧ P ds[j] := by
      intro n
      induction n with
      | zero => exact fun _ => ⟨[], rfl, fun j hj => by simp at hj⟩
      | succ n ih =>
        intro hn
        obtain ⟨ds, h1, h2⟩ := ih (by omega)
        obtain ⟨cs', h3, h4⟩ := hi n (by omega)
        obtain ⟨d, rfl, h5⟩ := hel _ _ _ h4
        refine ⟨ds ++ [d], by simp [h1], fun j hj => ?_⟩
        by_cases hjn : j < ds.length
        · rw [List.getElem_append_left hjn]
          exact h2 j hjn
        · have : j = ds.length := by rw [List.length_append] at hj; simp at hj; omega
          subst this
          rw [List.getElem_append_right (Nat.le_refl _)]
          simp only [Nat.sub_self, List.getElem_cons_zero]
          rw [h1]
          exact ⟨h3, h5⟩
    obtain ⟨ds, h1, h2⟩ := key len hlm
    subst h1
    have hm63 : maxLen = 9223372036854775807 := rfl
    refine ⟨some a, cap, ds, rfl, ⟨hl, by omega, fun j hj => ?_⟩, fun d hd => ?_⟩
    · obtain ⟨h3, h4⟩ := h2 j hj
      obtain ⟨_, h5, h6⟩ := World.cells?_some h3
      have hc : ∀ i u, (cells ds[j])[i]? = some u → w.cell? (a.add (j * C + i)) = some u := fun i u hu => by
        have hic : i < C := by
          rw [← h5]
          exact (List.getElem?_eq_some_iff.1 hu).1
        rw [← add_add, h6 i hic, hu]
      refine ⟨a, rfl, ?_, hc⟩
      have h0 := hpos ds[j]
      have := cell_lt (hc 0 _ (List.getElem?_eq_getElem h0))
      rw [block_add] at this
      exact this
    · obtain ⟨j, hj, rfl⟩ := List.getElem_of_mem hd
      exact (h2 j hj).2
set_option maxRecDepth 100000 in
theorem open_natArg {b0 : Nat} {v : Value} {d : DataW H} {p : List MemPlace} (hv : Value.okWide Try.prog w .any b0 48 v) (h : DataW.Trod enc Try.prog w 0 (fun _ => true) true 48 v d p) :
    ∃ A c l, v = .slice A l.length c ∧ InRow w A c l := by
  obtain ⟨a, len, cap, rfl⟩ := okWide_slice Try.underlying48 hv
  obtain ⟨fuel, hf⟩ := h
  obtain ⟨A, c, l, hc, ho⟩ := trod_nat hf
  simp [Value.cells] at hc
  obtain ⟨rfl, rfl, rfl⟩ := hc
  exact ⟨_, _, l, rfl, ho⟩
set_option maxRecDepth 100000 in
theorem open_fracs {b0 : Nat} {v : Value} {d : DataW H} {p : List MemPlace} (hv : Value.okWide Try.prog w .any b0 23 v) (h : DataW.Trod enc Try.prog w 0 (fun _ => true) true 23 v d p) :
    ∃ A c ds, v = .slice A ds.length c ∧ Srow w 3 FrD.cells A c ds ∧ ∀ f ∈ ds, f.ok w := by
  obtain ⟨a, len, cap, rfl⟩ := okWide_slice Try.underlying23 hv
  obtain ⟨fuel, hf⟩ := h
  obtain ⟨A, c, ds, hc, h1, h2⟩ := trod_rows (cells := FrD.cells) (P := FrD.ok w) Try.underlying23 cellsFrac (fun _ => by simp [FrD.cells]) (fun _ _ _ h => trod_frac h) hf
  simp [Value.cells] at hc
  obtain ⟨rfl, rfl, rfl⟩ := hc
  exact ⟨_, _, ds, rfl, h1, h2⟩
end
/-- The value of a fraction that is handed in. -/
abbrev FrD.v (f : FrD) : Value := fracV f.neg f.a f.la.length f.ca f.b f.lb.length f.cb
def FrD.q (f : FrD) : Rat := mkRat (sg f.neg (val f.la)) (val f.lb)
theorem InRow.below {w w' : World} {A : Option Addr} {c : Nat} {l : List Nat} (h : InRow w A c l) (hb : Below w.heap.size w w') : InRow w' A c l := ⟨h.len, h.big, h.rd.below hb, h.dig⟩
theorem FrD.ok.below {w w' : World} {f : FrD} (h : f.ok w) (hb : Below w.heap.size w w') : f.ok w' := ⟨h.1.below hb, h.2.below hb⟩
end Go.Proofs.Ytkjmliebkbbogaa
/- Slices of fractions as lists of rational numbers. -/
namespace Go.Proofs.Ytkjmliebkbbogaa
set_option linter.unusedVariables false
set_option linter.unusedSimpArgs false
open Go.RowKit Plain

/-- A slice of valid fractions. -/
structure FL (w : World) (A : Option Addr) (c : Nat) (ds : List FrD) : Prop where
  row : Srow w 3 FrD.cells A c ds
  fv : ∀ d ∈ ds, FV w d.v d.q
theorem FL.below {w w' : World} {A : Option Addr} {c : Nat} {ds : List FrD} (h : FL w A c ds) (hb : Below w.heap.size w w') : FL w' A c ds :=
  ⟨h.row.below hb, fun d hd => (h.fv d hd).below hb⟩
theorem FL.take {w : World} {A : Option Addr} {c : Nat} {ds : List FrD} (h : FL w A c ds) (n : Nat) : FL w A c (ds.take n) :=
  ⟨h.row.take n, fun d hd => h.fv d (List.mem_of_mem_take hd)⟩
theorem FL.len {w : World} {A : Option Addr} {c : Nat} {ds : List FrD} (h : FL w A c ds) : ds.length ≤ c ∧ c ≤ 9223372036854775807 := ⟨h.row.1, h.row.2.1⟩
/-- The j-th element: its cells. -/
theorem FL.at {w : World} {A : Option Addr} {c : Nat} {ds : List FrD} (h : FL w A c ds) {k : Nat} (hk : k < ds.length) :
    ∃ a d, A = some a ∧ a.block < w.heap.size ∧ w.cell? (a.add (k * 3)) = some (.bool d.neg) ∧ w.cell? ⟨(a.add (k * 3)).block, (a.add (k * 3)).off + 1, none⟩ = some (.slice d.a d.la.length d.ca) ∧
      w.cell? ⟨(a.add (k * 3)).block, (a.add (k * 3)).off + 2, none⟩ = some (.slice d.b d.lb.length d.cb) ∧ FV w d.v d.q ∧ Hid (ds[k]? = some d) := by
  obtain ⟨a, e, h1, h2⟩ := h.row.2.2 k hk
  have hc : ∀ i u, (ds[k]).cells[i]? = some u → w.cell? ((a.add (k * 3)).add i) = some u := fun i u hu => by
    rw [add_add]; exact h2 i u hu
  refine ⟨a, ds[k], e, h1, cell0 (hc 0 _ rfl), cellK (hc 1 _ rfl) (by decide), cellK (hc 2 _ rfl) (by decide), h.fv _ (List.getElem_mem hk), List.getElem?_eq_getElem hk⟩
/-- The sum of rational numbers, from the left. -/
def sumR (l : List Rat) : Rat := l.foldl (· + ·) 0
theorem sumR_nil : sumR [] = 0 := rfl
theorem sumR_snoc (l : List Rat) (q : Rat) : sumR (l ++ [q]) = sumR l + q := by unfold sumR; rw [List.foldl_append]; rfl
theorem sumR_take {ds : List FrD} {k : Nat} {d : FrD} (h : ds[k]? = some d) : sumR ((ds.take (k + 1)).map FrD.q) = sumR ((ds.take k).map FrD.q) + d.q := by
  have hk : k < ds.length := (List.getElem?_eq_some_iff.1 h).1
  have e : ds.take (k + 1) = ds.take k ++ [d] := by rw [List.take_add_one, h]; rfl
  rw [e, List.map_append, List.map_singleton, sumR_snoc]
theorem fits_sum {k : Nat} : ∀ {l : List Rat}, (∀ q ∈ l, Fits k q) → Fits (1 + l.length * (k + 1)) (sumR l) := by
  intro l h
  have key : ∀ n, n ≤ l.length → Fits (1 + n * (k + 1)) (sumR (l.take n)) := by
    intro n
    induction n with
    | zero => exact fun _ => Fits.zero (by omega)
    | succ n ih =>
      intro hn
      rw [show l.take (n + 1) = l.take n ++ [l[n]] by rw [List.take_add_one, List.getElem?_eq_getElem (by omega)]; rfl, sumR_snoc]
      have := (ih (by omega)).add (h _ (List.getElem_mem (show n < l.length by omega)))
      exact this.mono (by rw [Nat.add_mul]; omega)
  have := key l.length (Nat.le_refl _)
  rw [List.take_length] at this
  exact this
theorem FrD.mem_q {P : Rat → Prop} {ds : List FrD} (h : ∀ d ∈ ds, P d.q) : ∀ q ∈ ds.map FrD.q, P q := fun q hq => by
  obtain ⟨d, hd, rfl⟩ := List.mem_map.1 hq; exact h d hd
end Go.Proofs.Ytkjmliebkbbogaa
/- Slices of fractions that may be valid or not: few digits each. -/
namespace Go.Proofs.Ytkjmliebkbbogaa
set_option linter.unusedVariables false
set_option linter.unusedSimpArgs false
open Go.RowKit Plain

/-- A fraction of few digits, valid or not. -/
def FrD.few (w : World) (K : Nat) (d : FrD) : Prop := Nv w d.a d.ca d.la ∧ Nv w d.b d.cb d.lb ∧ d.la.length ≤ K ∧ d.lb.length ≤ K
def FrD.vld (d : FrD) : Bool := vldF d.neg d.la d.lb
theorem FrD.few.below {w w' : World} {K : Nat} {d : FrD} (h : d.few w K) (hb : Below w.heap.size w w') : d.few w' K := ⟨h.1.below hb, h.2.1.below hb, h.2.2.1, h.2.2.2⟩
theorem FrD.few.fv {w : World} {K : Nat} {d : FrD} (h : d.few w K) (hv : d.vld = true) : FV w d.v d.q ∧ Fits K d.q := by
  have hq : QIs d.neg d.la d.lb d.q := vldF_qIs h.1.dig h.2.1.dig hv
  refine ⟨⟨_, _, _, _, _, _, _, rfl, h.1, h.2.1, hq⟩, ?_⟩
  exact ⟨by rw [← hq.na.val]; exact Nat.lt_of_lt_of_le (val_lt h.1.dig) (pw_mono h.2.2.1), by rw [← hq.nb.val]; exact Nat.lt_of_lt_of_le (val_lt h.2.1.dig) (pw_mono h.2.2.2)⟩
structure LD (w : World) (K : Nat) (A : Option Addr) (c : Nat) (ds : List FrD) : Prop where
  row : Srow w 3 FrD.cells A c ds
  few : ∀ d ∈ ds, d.few w K
theorem LD.below {w w' : World} {K : Nat} {A : Option Addr} {c : Nat} {ds : List FrD} (h : LD w K A c ds) (hb : Below w.heap.size w w') : LD w' K A c ds := ⟨h.row.below hb, fun d hd => (h.few d hd).below hb⟩
theorem LD.len {w : World} {K : Nat} {A : Option Addr} {c : Nat} {ds : List FrD} (h : LD w K A c ds) : ds.length ≤ c ∧ c ≤ 9223372036854775807 := ⟨h.row.1, h.row.2.1⟩
theorem LD.at {w : World} {K : Nat} {A : Option Addr} {c : Nat} {ds : List FrD} (h : LD w K A c ds) {k : Nat} (hk : k < ds.length) :
    ∃ a d, A = some a ∧ a.block < w.heap.size ∧ w.cell? (a.add (k * 3)) = some (.bool d.neg) ∧ w.cell? ⟨(a.add (k * 3)).block, (a.add (k * 3)).off + 1, none⟩ = some (.slice d.a d.la.length d.ca) ∧
      w.cell? ⟨(a.add (k * 3)).block, (a.add (k * 3)).off + 2, none⟩ = some (.slice d.b d.lb.length d.cb) ∧ d.few w K ∧ Hid (ds[k]? = some d) := by
  obtain ⟨a, e, h1, h2⟩ := h.row.2.2 k hk
  have hc : ∀ i u, (ds[k]).cells[i]? = some u → w.cell? ((a.add (k * 3)).add i) = some u := fun i u hu => by
    rw [add_add]; exact h2 i u hu
  exact ⟨a, ds[k], e, h1, cell0 (hc 0 _ rfl), cellK (hc 1 _ rfl) (by decide), cellK (hc 2 _ rfl) (by decide), h.few _ (List.getElem_mem hk), List.getElem?_eq_getElem hk⟩
/-- All are valid. -/
def whB (ds : List FrD) : Bool := ds.all FrD.vld
theorem LD.fl {w : World} {K : Nat} {A : Option Addr} {c : Nat} {ds : List FrD} (h : LD w K A c ds) (hv : whB ds = true) : FL w A c ds ∧ ∀ d ∈ ds, Fits K d.q := by
  unfold whB at hv
  rw [List.all_eq_true] at hv
  exact ⟨⟨h.row, fun d hd => ((h.few d hd).fv (hv d hd)).1⟩, fun d hd => ((h.few d hd).fv (hv d hd)).2⟩
theorem whB_take {ds : List FrD} {k : Nat} {d : FrD} (h : whB (ds.take k) = true) (hk : ds[k]? = some d) : whB (ds.take (k + 1)) = d.vld := by
  unfold whB at *
  rw [List.take_add_one, hk, List.all_append, h]
  simp
theorem whB_no {ds : List FrD} {k : Nat} {d : FrD} (hk : ds[k]? = some d) (h : d.vld = false) : whB ds = false := by
  unfold whB
  rw [List.all_eq_false]
  exact ⟨d, List.mem_of_getElem? hk, by rw [h]; decide⟩
end Go.Proofs.Ytkjmliebkbbogaa
