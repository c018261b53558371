/- Fractions, numbers and slices of fractions that are handed in; the law's short. -/
import Derived.Test.YtghpcimeobmonaaFV
import Derived.Test.YtghpcimeobmonaaGValid
import Derived.ChangeSlices
import Derived.Deep.Slices
import Derived.Deep.Strs
import Derived.ProofKit
import Derived.OpenShut
namespace Go.Proofs.Ytghpcimeobmonaa
set_option linter.unusedVariables false
set_option linter.unusedSimpArgs false
open Go.RowKit Plain Go.ChangeShapes Go.WideShapes

/-- A slice handed in, of any length. -/
structure InRow (w : World) (A : Option Addr) (c : Nat) (l : List Nat) : Prop where
  len : l.length ≤ c
  big : l.length ≤ 9223372036854775807
  rd : Rd w A l
  dig : Dig l

theorem InRow.nv {w : World} {A : Option Addr} {c : Nat} {l : List Nat} (h : InRow w A c l) (hl : l.length ≤ 70368744177664) : Nv w A c l := ⟨h.len, hl, h.rd, h.dig⟩

theorem cell_lt {w : World} {a : Addr} {v : Value} (h : w.cell? a = some v) : a.block < w.heap.size := by
  rcases Nat.lt_or_ge a.block w.heap.size with hlt | hge
  · exact hlt
  · simp [World.cell?, Array.getElem?_eq_none hge] at h

theorem inRow_of {w : World} {a : Option Addr} {len cap : Nat} {zs : List Int}
    (h : (a = none ∧ len = 0 ∧ cap = 0 ∧ zs = []) ∨
      ∃ x, a = some x ∧ len ≤ cap ∧ cap ≤ maxLen ∧ zs.length = cap ∧ (∀ i, i < zs.length → w.cell? (x.add i) = some (.int .u32 (zs.getD i 0))) ∧ ∀ n ∈ zs, (Lit.int .u32 n).wf = true) :
    ∃ l, Hid (l = (zs.take len).map Int.toNat) ∧ l.length = len ∧ InRow w a cap l := by
  rcases h with ⟨rfl, rfl, rfl, rfl⟩ | ⟨x, rfl, h1, h2, h3, h4, h5⟩
  · exact ⟨[], rfl, rfl, by simp, by simp, fun hx => by simp [u32s] at hx, Dig.nil⟩
  · have hlen : ((zs.take len).map Int.toNat).length = len := by rw [List.length_map, List.length_take]; omega
    have hm : maxLen = 9223372036854775807 := rfl
    have hb : ∀ n ∈ zs, 0 ≤ n ∧ n < 4294967296 := fun n hn => by
      have := h5 n hn
      simp [Lit.wf, IntKind.min, IntKind.max, IntKind.bits, IntKind.signed] at this
      omega
    refine ⟨_, rfl, hlen, by rw [hlen]; exact h1, by rw [hlen]; omega, fun hx => ⟨x, rfl, ?_, fun j hj => ?_⟩, ?_⟩
    · rw [u32s_length, hlen] at hx
      have := h4 0 (by omega)
      exact cell_lt (by simpa [Addr.add] using this)
    · rw [u32s_length, hlen] at hj
      rw [h4 j (by omega)]
      have hz := hb (zs.getD j 0) (by rw [List.getD_eq_getElem?_getD, List.getElem?_eq_getElem (by omega)]; exact List.getElem_mem _)
      simp [u32s, List.getElem?_eq_getElem (show j < zs.length by omega)] at hz ⊢
      omega
    · intro d hd
      rw [List.mem_map] at hd
      obtain ⟨n, hn, rfl⟩ := hd
      have := hb n (List.mem_of_mem_take hn)
      omega

section
variable {H : Type} {enc : TypeId × Value → H} {w : World} {fuel : Nat} {cs : List Value} {x : DataW H × List MemPlace}
theorem trod_nat (h : DataW.trod enc Try.prog w 0 (fun _ => true) true fuel 23 cs = some x) : ∃ A c l, cs = [.slice A l.length c] ∧ InRow w A c l := by
  rcases Go.ChangeShapes.open_ints Try.underlying23 Try.underlying62 (by kernel_rfl) h with ⟨rfl, _⟩ | ⟨a, l, c, zs, rfl, _, hl, hm, hz, _, hcell, hwz⟩
  · exact ⟨none, 0, [], rfl, by simp, by simp, fun hx => by simp [u32s] at hx, Dig.nil⟩
  · obtain ⟨la, ha, rfl, ra⟩ := inRow_of (w := w) (a := some a) (len := l) (cap := c) (zs := zs) (.inr ⟨a, rfl, hl, hm, by simpa using hz, hcell, hwz⟩)
    exact ⟨some a, c, la, rfl, ra⟩
theorem cellsFrac : Try.prog.cellsOf 25 = 3 := by kernel_rfl
theorem cellsBool : Try.prog.cellsOf 4 = 1 := by kernel_rfl
theorem cellsNat : Try.prog.cellsOf 23 = 1 := by kernel_rfl
theorem list3 {α : Type} {l : List α} (h : l.length = 3) : ∃ a b c, l = [a, b, c] := by
  match l, h with
  | [a, b, c], _ => exact ⟨a, b, c, rfl⟩
/-- A fraction as it lies in memory. -/
structure FrD where
  neg : Bool
  a : Option Addr
  ca : Nat
  la : List Nat
  b : Option Addr
  cb : Nat
  lb : List Nat
def FrD.cells (f : FrD) : List Value := [.bool f.neg, .slice f.a f.la.length f.ca, .slice f.b f.lb.length f.cb]
def FrD.ok (w : World) (f : FrD) : Prop := InRow w f.a f.ca f.la ∧ InRow w f.b f.cb f.lb
theorem trod_frac (h : DataW.trod enc Try.prog w 0 (fun _ => true) true fuel 25 cs = some x) : ∃ f : FrD, cs = f.cells ∧ f.ok w := by
  obtain ⟨y0, y1, y2, n, rfl, hl, h0, h1, h2⟩ := Go.Deep.trod_struct3 Try.underlying25 h
  rw [cellsFrac] at hl
  obtain ⟨c0, c1, c2, rfl⟩ := list3 hl
  simp only [cellsBool, cellsNat] at h0 h1 h2
  obtain ⟨b, hb, _⟩ := DataW.trod_bool Try.underlying4 h0
  obtain ⟨A, ca, la, hA, iA⟩ := trod_nat h1
  obtain ⟨B, cb, lb, hB, iB⟩ := trod_nat h2
  simp at hb hA hB
  subst hb hA hB
  exact ⟨⟨b, A, ca, la, B, cb, lb⟩, rfl, iA, iB⟩
/-- A parameter that is a fraction. -/
theorem open_frac {b0 : Nat} {v : Value} {d : DataW H} {p : List MemPlace} (hv : Value.okWide Try.prog w .any b0 25 v) (h : DataW.Trod enc Try.prog w 0 (fun _ => true) true 25 v d p) : ∃ f : FrD, v = fracV f.neg f.a f.la.length f.ca f.b f.lb.length f.cb ∧ f.ok w := by
  obtain ⟨vs, rfl, hsz⟩ := okWide_struct Try.underlying25 hv
  obtain ⟨fuel, hf⟩ := h
  obtain ⟨f, hc, ho⟩ := trod_frac hf
  refine ⟨f, ?_, ho⟩
  have e : vs = f.cells.toArray := by
    apply Array.ext'
    simpa [Value.cells] using hc
  rw [e]
  rfl
/-- A slice whose elements are some cells each, as a list. -/
def Srow {δ : Type} (w : World) (C : Nat) (cells : δ → List Value) (A : Option Addr) (c : Nat) (ds : List δ) : Prop :=
  ds.length ≤ c ∧ c ≤ 9223372036854775807 ∧ ∀ (j : Nat) (hj : j < ds.length), ∃ a, A = some a ∧ a.block < w.heap.size ∧ ∀ i u, (cells ds[j])[i]? = some u → w.cell? (a.add (j * C + i)) = some u
theorem Srow.below {δ : Type} {w w' : World} {C : Nat} {cells : δ → List Value} {A : Option Addr} {c : Nat} {ds : List δ} (h : Srow w C cells A c ds) (hb : Below w.heap.size w w') : Srow w' C cells A c ds :=
  ⟨h.1, h.2.1, fun j hj => by
    obtain ⟨a, e, h1, h2⟩ := h.2.2 j hj
    exact ⟨a, e, Nat.lt_of_lt_of_le h1 hb.size, fun i u hu => (hb.cell (by rw [block_add]; exact h1)).trans (h2 i u hu)⟩⟩
theorem Srow.take {δ : Type} {w : World} {C : Nat} {cells : δ → List Value} {A : Option Addr} {c : Nat} {ds : List δ} (h : Srow w C cells A c ds) (n : Nat) : Srow w C cells A c (ds.take n) :=
  ⟨by rw [List.length_take]; have := h.1; omega, h.2.1, fun j hj => by
    rw [List.length_take] at hj
    obtain ⟨a, e, h1, h2⟩ := h.2.2 j (by omega)
    refine ⟨a, e, h1, fun i u hu => h2 i u ?_⟩
    rw [← hu]; simp⟩
theorem trod_rows {δ : Type} {t e : TypeId} {C : Nat} {cells : δ → List Value} {P : δ → Prop} (ht : Try.prog.underlying t = some (.slice e)) (hC : Try.prog.cellsOf e = C) (hpos : ∀ d, 0 < (cells d).length)
    (hel : ∀ n cs x, DataW.trod enc Try.prog w 0 (fun _ => true) true n e cs = some x → ∃ d, cs = cells d ∧ P d) (h : DataW.trod enc Try.prog w 0 (fun _ => true) true fuel t cs = some x) :
    ∃ A c ds, cs = [.slice A ds.length c] ∧ Srow w C cells A c ds ∧ ∀ d ∈ ds, P d := by
  rcases Go.Deep.open_slice ht h with ⟨rfl, _⟩ | ⟨a, len, cap, m, n, D, Pl, rfl, hb, hl, hm, hmm, _, hi⟩
  · exact ⟨none, 0, [], rfl, ⟨by simp, by omega, fun j hj => by simp at hj⟩, by simp⟩
  · rw [hC] at hi
    have hlm : len ≤ m := by rw [hmm]; split <;> omega
    have key : ∀ n, n ≤ m → ∃ ds : List δ, ds.length = n ∧ ∀ j (hj : j < ds.length), w.cells? 0 (a.add (j * C)) C = some (cells ds[j]) ∧ P ds[j] := by
      intro n
      induction n with
      | zero => exact fun _ => ⟨[], rfl, fun j hj => by simp at hj⟩
      | succ n ih =>
        intro hn
        obtain ⟨ds, h1, h2⟩ := ih (by omega)
        obtain ⟨cs', h3, h4⟩ := hi n (by omega)
        obtain ⟨d, rfl, h5⟩ := hel _ _ _ h4
        refine ⟨ds ++ [d], by simp [h1], fun j hj => ?_⟩
        by_cases hjn : j < ds.length
        · rw [List.getElem_append_left hjn]
          exact h2 j hjn
        · have : j = ds.length := by rw [List.length_append] at hj; simp at hj; omega
          subst this
          rw [List.getElem_append_right (Nat.le_refl _)]
          simp only [Nat.sub_self, List.getElem_cons_zero]
          rw [h1]
          exact ⟨h3, h5⟩
    obtain ⟨ds, h1, h2⟩ := key len hlm
    subst h1
    have hm63 : maxLen = 9223372036854775807 := rfl
    refine ⟨some a, cap, ds, rfl, ⟨hl, by omega, fun j hj => ?_⟩, fun d hd => ?_⟩
    · obtain ⟨h3, h4⟩ := h2 j hj
      obtain ⟨_, h5, h6⟩ := World.cells?_some h3
      have hc : ∀ i u, (cells ds[j])[i]? = some u → w.cell? (a.add (j * C + i)) = some u := fun i u hu => by
        have hic : i < C := by
          rw [← h5]
          exact (List.getElem?_eq_some_iff.1 hu).1
        rw [← add_add, h6 i hic, hu]
      refine ⟨a, rfl, ?_, hc⟩
      have h0 := hpos ds[j]
      have := cell_lt (hc 0 _ (List.getElem?_eq_getElem h0))
      rw [block_add] at this
      exact this
    · obtain ⟨j, hj, rfl⟩ := List.getElem_of_mem hd
      exact (h2 j hj).2
theorem open_natArg {b0 : Nat} {v : Value} {d : DataW H} {p : List MemPlace} (hv : Value.okWide Try.prog w .any b0 23 v) (h : DataW.Trod enc Try.prog w 0 (fun _ => true) true 23 v d p) :
    ∃ A c l, v = .slice A l.length c ∧ InRow w A c l := by
  obtain ⟨a, len, cap, rfl⟩ := okWide_slice Try.underlying23 hv
  obtain ⟨fuel, hf⟩ := h
  obtain ⟨A, c, l, hc, ho⟩ := trod_nat hf
  simp [Value.cells] at hc
  obtain ⟨rfl, rfl, rfl⟩ := hc
  exact ⟨_, _, l, rfl, ho⟩
theorem open_fracs {b0 : Nat} {v : Value} {d : DataW H} {p : List MemPlace} (hv : Value.okWide Try.prog w .any b0 47 v) (h : DataW.Trod enc Try.prog w 0 (fun _ => true) true 47 v d p) :
    ∃ A c ds, v = .slice A ds.length c ∧ Srow w 3 FrD.cells A c ds ∧ ∀ f ∈ ds, f.ok w := by
  obtain ⟨a, len, cap, rfl⟩ := okWide_slice Try.underlying47 hv
  obtain ⟨fuel, hf⟩ := h
  obtain ⟨A, c, ds, hc, h1, h2⟩ := trod_rows (cells := FrD.cells) (P := FrD.ok w) Try.underlying47 cellsFrac (fun _ => by simp [FrD.cells]) (fun _ _ _ h => trod_frac h) hf
  simp [Value.cells] at hc
  obtain ⟨rfl, rfl, rfl⟩ := hc
  exact ⟨_, _, ds, rfl, h1, h2⟩
end
/-- The value of a fraction that is handed in. -/
abbrev FrD.v (f : FrD) : Value := fracV f.neg f.a f.la.length f.ca f.b f.lb.length f.cb
def FrD.q (f : FrD) : Rat := mkRat (sg f.neg (val f.la)) (val f.lb)
theorem InRow.below {w w' : World} {A : Option Addr} {c : Nat} {l : List Nat} (h : InRow w A c l) (hb : Below w.heap.size w w') : InRow w' A c l := ⟨h.len, h.big, h.rd.below hb, h.dig⟩
theorem FrD.ok.below {w w' : World} {f : FrD} (h : f.ok w) (hb : Below w.heap.size w w') : f.ok w' := ⟨h.1.below hb, h.2.below hb⟩
end Go.Proofs.Ytghpcimeobmonaa
/- The law's short: what the call does. -/
namespace Go.Proofs.Ytghpcimeobmonaa
set_option linter.unusedVariables false
set_option linter.unusedSimpArgs false
open Go.RowKit Plain
attribute [local go_sem ↓] Go.wp_at_zero Go.wp_at_succ

def shB (f : FrD) : Bool := decide (f.la.length ≤ 20) && (decide (f.lb.length ≤ 20) && vldF f.neg f.la f.lb)
theorem shB_fv {f : FrD} {w : World} (hf : f.ok w) (h : shB f = true) : FV w f.v f.q ∧ Fits 20 f.q := by
  unfold shB at h
  simp only [Bool.and_eq_true, decide_eq_true_eq] at h
  obtain ⟨h1, h2, h3⟩ := h
  have hq : QIs f.neg f.la f.lb f.q := vldF_qIs hf.1.dig hf.2.dig h3
  refine ⟨⟨_, _, _, _, _, _, _, rfl, hf.1.nv (by omega), hf.2.nv (by omega), hq⟩, ?_⟩
  exact ⟨by rw [← hq.na.val]; exact Nat.lt_of_lt_of_le (val_lt hf.1.dig) (pw_mono h1), by rw [← hq.nb.val]; exact Nat.lt_of_lt_of_le (val_lt hf.2.dig) (pw_mono h2)⟩
set_option maxRecDepth 100000 in
set_option maxHeartbeats 1000000 in
theorem short_any (f : FrD) (w : World) (hf : f.ok w) : Calls Try.prog 10 #[f.v] w (RetB (shB f) w) := by
  obtain ⟨neg, A, ca, la, B, cb, lb⟩ := f
  obtain ⟨ia, ib⟩ := hf
  dsimp only at ia ib
  unfold FrD.v
  dsimp only
  have ga := ia.big
  have gb := ib.big
  obtain ⟨w0, hw0, bw0, hlt0, hB0⟩ := boxed w #[.bool neg, .slice A la.length ca, .slice B lb.length cb] 25
  have k0 := hB0.f0
  have k1 := hB0.f1
  have k2 := hB0.f2
  by_cases h1 : la.length ≤ 20
  · by_cases h2 : lb.length ≤ 20
    · have hr : Hid (shB ⟨neg, A, ca, la, B, cb, lb⟩ = vldF neg la lb) := by show _ = _; unfold shB; dsimp only; rw [decide_eq_true h1, decide_eq_true h2]; rfl
      rw [hr.out]
      go_enter Try.func10, Try.ntmps10
      go_wp2_with fail
      refine (refValidF_any (neg := neg) ((ia.nv (by omega)).below bw0) ((ib.nv (by omega)).below bw0) (by omega) (by omega)).mono ?_
      rintro e w1 ⟨rfl, b1⟩
      obtain ⟨v, hv⟩ : ∃ v, Hid (vldF neg la lb = v) := ⟨_, rfl⟩
      rw [hv.out]
      go_wp2
      go_ret
      exact ⟨by rw [hv.out]; rfl, bw0.trans (b1.mono (Nat.le_of_lt hlt0))⟩
    · have hr : Hid (shB ⟨neg, A, ca, la, B, cb, lb⟩ = false) := by show _ = _; unfold shB; dsimp only; rw [decide_eq_false h2, Bool.false_and, Bool.and_false]
      rw [hr.out]
      go_enter Try.func10, Try.ntmps10
      go_wp2
      go_ret
      exact ⟨rfl, bw0⟩
  · have hr : Hid (shB ⟨neg, A, ca, la, B, cb, lb⟩ = false) := by show _ = _; unfold shB; dsimp only; rw [decide_eq_false h1, Bool.false_and]
    rw [hr.out]
    go_enter Try.func10, Try.ntmps10
    go_wp2
    go_ret
    exact ⟨rfl, bw0⟩
end Go.Proofs.Ytghpcimeobmonaa
