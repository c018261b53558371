/- Structs and slices of structs that are handed in. -/
import Derived.Test.YtkbibdbojdbfkaaVPlay
import Derived.Test.YtkbibdbojdbfkaaLRow
import Derived.ChangeSlices
import Derived.Deep.Slices
import Derived.Deep.Strs
import Derived.ProofKit
import Derived.OpenShut
namespace Go.Proofs.Ytkbibdbojdbfkaa
set_option linter.unusedVariables false
set_option linter.unusedSimpArgs false
open Go.RowKit Plain Go.ChangeShapes Go.WideShapes

theorem rdD_enc (r : List Nat) : ∀ o : List Nat, Dig o → rdD o.length (o.flatMap leb ++ r) = (0, o, r)
  | [], _ => rfl
  | x :: o, h => by
    have hx := h.head
    obtain ⟨h1, h2, h3⟩ := ui_leb (m := M32) (o.flatMap leb ++ r) (show x < 18446744073709551616 by omega) (by unfold M32; omega)
    rw [List.flatMap_cons, List.append_assoc, List.length_cons, rdD_ok h1, h3, h2, rdD_enc r o h.tail]
theorem nu_enc {o : List Nat} (r : List Nat) (h : Dig o) (hl : o.length ≤ 2000) : nuE (digE o ++ r) 0 = 0 ∧ nuO (digE o ++ r) = o ∧ nuL (digE o ++ r) = r := by
  unfold digE
  rw [List.append_assoc]
  obtain ⟨h1, h2, h3⟩ := ui_leb (m := 2000) (o.flatMap leb ++ r) (show o.length < 18446744073709551616 by omega) hl
  have hd := rdD_enc r o h
  refine ⟨?_, ?_, ?_⟩
  · unfold nuE
    rw [if_pos rfl, if_pos h1, h2, h3, hd]
  · unfold nuO
    rw [h2, h3, hd]
  · unfold nuL
    rw [h2, h3, hd]
theorem byt_digE (l : List Nat) : bytes (strOf (digE l)) = digE l := bytes_strOf (by
  intro b hb'
  unfold digE at hb'
  rcases List.mem_append.1 hb' with h | h
  · exact leb_lt _ b h
  · obtain ⟨x, _, hx⟩ := List.mem_flatMap.1 h
    exact leb_lt x b hx)
theorem fr_enc {neg : Bool} {la lb : List Nat} (ha : Dig la) (hb : Dig lb) (hla : la.length ≤ 2000) (hlb : lb.length ≤ 2000) (hv : vldF neg la lb = true) :
    frE (bytes (fracE neg la lb)) 0 = 0 ∧ frN (bytes (fracE neg la lb)) = neg ∧ frA (bytes (fracE neg la lb)) = la ∧ frB (bytes (fracE neg la lb)) = lb ∧ frL (bytes (fracE neg la lb)) = [] := by
  have e : bytes (fracE neg la lb) = leb (negN neg) ++ (digE la ++ (digE lb ++ [])) := by
    unfold fracE
    rw [bytes_append, bytes_append, bytes_leb, byt_digE, byt_digE, List.append_nil, List.append_assoc]
  have hn : negN neg ≤ 1 := by unfold negN; split <;> omega
  obtain ⟨h1, h2, h3⟩ := ui_leb (m := 1) (digE la ++ (digE lb ++ [])) (show negN neg < 18446744073709551616 by omega) hn
  obtain ⟨a1, a2, a3⟩ := nu_enc (digE lb ++ []) ha hla
  obtain ⟨b1, b2, b3⟩ := nu_enc [] hb hlb
  rw [e]
  have eN : frN (leb (negN neg) ++ (digE la ++ (digE lb ++ []))) = neg := by
    unfold frN
    rw [h2]
    unfold negN
    cases neg <;> rfl
  have eA : frA (leb (negN neg) ++ (digE la ++ (digE lb ++ []))) = la := by unfold frA; rw [h3, a2]
  have eB : frB (leb (negN neg) ++ (digE la ++ (digE lb ++ []))) = lb := by unfold frB; rw [h3, a3, b2]
  refine ⟨?_, eN, eA, eB, by unfold frL; rw [h3, a3, b3]⟩
  have hD : frD (leb (negN neg) ++ (digE la ++ (digE lb ++ []))) 0 = 0 := by
    unfold frD
    rw [h1, h3, a1, a3, b1]
  unfold frE
  rw [if_pos hD, eN, eA, eB, if_pos hv]
theorem fracE_size {neg : Bool} {la lb : List Nat} (ha : Dig la) (hb : Dig lb) (hla : la.length ≤ 2000) (hlb : lb.length ≤ 2000) : (fracE neg la lb).size ≤ 1000000 := by
  unfold fracE
  rw [ByteArray.size_append, ByteArray.size_append, strOf_size, strOf_size, strOf_size]
  have h1 := digE_len ha (by omega)
  have h2 := digE_len hb (by omega)
  have h3 := leb_len10 (x := negN neg) (by unfold negN; split <;> omega)
  omega
section
variable {H : Type} {enc : TypeId × Value → H} {w : World} {fuel : Nat} {cs : List Value} {x : DataW H × List MemPlace}
theorem trod_nat (h : DataW.trod enc Try.prog w 0 (fun _ => true) true fuel 38 cs = some x) : ∃ A c l, cs = [.slice A l.length c] ∧ InRow w A c l := by
  rcases Go.ChangeShapes.open_ints Try.underlying38 Try.underlying78 (by kernel_rfl) h with ⟨rfl, _⟩ | ⟨a, l, c, zs, rfl, _, hl, hm, hz, _, hcell, hwz⟩
  · exact ⟨none, 0, [], rfl, by simp, by simp, fun hx => by simp [u32s] at hx, Dig.nil⟩
  · obtain ⟨la, ha, rfl, ra⟩ := inRow_of (w := w) (a := some a) (len := l) (cap := c) (zs := zs) (.inr ⟨a, rfl, hl, hm, by simpa using hz, hcell, hwz⟩)
    exact ⟨some a, c, la, rfl, ra⟩
theorem cellsFrac : Try.prog.cellsOf 59 = 3 := by kernel_rfl
theorem cellsBool : Try.prog.cellsOf 4 = 1 := by kernel_rfl
theorem cellsNat : Try.prog.cellsOf 38 = 1 := by kernel_rfl
theorem list3 {α : Type} {l : List α} (h : l.length = 3) : ∃ a b c, l = [a, b, c] := by
  match l, h with
  | [a, b, c], _ => exact ⟨a, b, c, rfl⟩
/-- A fraction as it lies in memory. -/
structure FrD where
  neg : Bool
  a : Option Addr
  ca : Nat
  la : List Nat
  b : Option Addr
  cb : Nat
  lb : List Nat
def FrD.cells (f : FrD) : List Value := [.bool f.neg, .slice f.a f.la.length f.ca, .slice f.b f.lb.length f.cb]
def FrD.ok (w : World) (f : FrD) : Prop := InRow w f.a f.ca f.la ∧ InRow w f.b f.cb f.lb
theorem trod_frac (h : DataW.trod enc Try.prog w 0 (fun _ => true) true fuel 59 cs = some x) : ∃ f : FrD, cs = f.cells ∧ f.ok w := by
  obtain ⟨y0, y1, y2, n, rfl, hl, h0, h1, h2⟩ := Go.Deep.trod_struct3 Try.underlying59 h
  rw [cellsFrac] at hl
  obtain ⟨c0, c1, c2, rfl⟩ := list3 hl
  simp only [cellsBool, cellsNat] at h0 h1 h2
  obtain ⟨b, hb, _⟩ := DataW.trod_bool Try.underlying4 h0
  obtain ⟨A, ca, la, hA, iA⟩ := trod_nat h1
  obtain ⟨B, cb, lb, hB, iB⟩ := trod_nat h2
  simp at hb hA hB
  subst hb hA hB
  exact ⟨⟨b, A, ca, la, B, cb, lb⟩, rfl, iA, iB⟩
/-- A parameter that is a fraction. -/
theorem open_frac {b0 : Nat} {v : Value} {d : DataW H} {p : List MemPlace} (hv : Value.okWide Try.prog w .any b0 59 v) (h : DataW.Trod enc Try.prog w 0 (fun _ => true) true 59 v d p) : ∃ f : FrD, v = fracV f.neg f.a f.la.length f.ca f.b f.lb.length f.cb ∧ f.ok w := by
  obtain ⟨vs, rfl, hsz⟩ := okWide_struct Try.underlying59 hv
  obtain ⟨fuel, hf⟩ := h
  obtain ⟨f, hc, ho⟩ := trod_frac hf
  refine ⟨f, ?_, ho⟩
  have e : vs = f.cells.toArray := by
    apply Array.ext'
    simpa [Value.cells] using hc
  rw [e]
  rfl
/-- A slice whose elements are some cells each, as a list. -/
def Srow {δ : Type} (w : World) (C : Nat) (cells : δ → List Value) (A : Option Addr) (c : Nat) (ds : List δ) : Prop :=
  ds.length ≤ c ∧ c ≤ 9223372036854775807 ∧ ∀ (j : Nat) (hj : j < ds.length), ∃ a, A = some a ∧ a.block < w.heap.size ∧ ∀ i u, (cells ds[j])[i]? = some u → w.cell? (a.add (j * C + i)) = some u
theorem Srow.below {δ : Type} {w w' : World} {C : Nat} {cells : δ → List Value} {A : Option Addr} {c : Nat} {ds : List δ} (h : Srow w C cells A c ds) (hb : Below w.heap.size w w') : Srow w' C cells A c ds :=
  ⟨h.1, h.2.1, fun j hj => by
    obtain ⟨a, e, h1, h2⟩ := h.2.2 j hj
    exact ⟨a, e, Nat.lt_of_lt_of_le h1 hb.size, fun i u hu => (hb.cell (by rw [block_add]; exact h1)).trans (h2 i u hu)⟩⟩
theorem Srow.take {δ : Type} {w : World} {C : Nat} {cells : δ → List Value} {A : Option Addr} {c : Nat} {ds : List δ} (h : Srow w C cells A c ds) (n : Nat) : Srow w C cells A c (ds.take n) :=
  ⟨by rw [List.length_take]; have := h.1; omega, h.2.1, fun j hj => by
    rw [List.length_take] at hj
    obtain ⟨a, e, h1, h2⟩ := h.2.2 j (by omega)
    refine ⟨a, e, h1, fun i u hu => h2 i u ?_⟩
    rw [← hu]; simp⟩
theorem trod_rows {δ : Type} {t e : TypeId} {C : Nat} {cells : δ → List Value} {P : δ → Prop} (ht : Try.prog.underlying t = some (.slice e)) (hC : Try.prog.cellsOf e = C) (hpos : ∀ d, 0 < (cells d).length)
    (hel : ∀ n cs x, DataW.trod enc Try.prog w 0 (fun _ => true) true n e cs = some x → ∃ d, cs = cells d ∧ P d) (h : DataW.trod enc Try.prog w 0 (fun _ => true) true fuel t cs = some x) :
    ∃ A c ds, cs = [.slice A ds.length c] ∧ Srow w C cells A c ds ∧ ∀ d ∈ ds, P d := by
  rcases Go.Deep.open_slice ht h with ⟨rfl, _⟩ | ⟨a, len, cap, m, n, D, Pl, rfl, hb, hl, hm, hmm, _, hi⟩
  · exact ⟨none, 0, [], rfl, ⟨by simp, by omega, fun j hj => by simp at hj⟩, by simp⟩
  · rw [hC] at hi
    have hlm : len ≤ m := by rw [hmm]; split <;> omega
    have key : ∀ n, n ≤ m → ∃ ds : List δ, ds.length = n ∧ ∀ j (hj : j < ds.length), w.cells? 0 (a.add (j * C)) C = some (cells ds[j]) ∧ P ds[j] := by
      intro n
      induction n with
      | zero => exact fun _ => ⟨[], rfl, fun j hj => by simp at hj⟩
      | succ n ih =>
        intro hn
        obtain ⟨ds, h1, h2⟩ := ih (by omega)
        obtain ⟨cs', h3, h4⟩ := hi n (by omega)
        obtain ⟨d, rfl, h5⟩ := hel _ _ _ h4
        refine ⟨ds ++ [d], by simp [h1], fun j hj => ?_⟩
        by_cases hjn : j < ds.length
        · rw [List.getElem_append_left hjn]
          exact h2 j hjn
        · have : j = ds.length := by rw [List.length_append] at hj; simp at hj; omega
          subst this
          rw [List.getElem_append_right (Nat.le_refl _)]
          simp only [Nat.sub_self, List.getElem_cons_zero]
          rw [h1]
          exact ⟨h3, h5⟩
    obtain ⟨ds, h1, h2⟩ := key len hlm
    subst h1
    have hm63 : maxLen = 9223372036854775807 := rfl
    refine ⟨some a, cap, ds, rfl, ⟨hl, by omega, fun j hj => ?_⟩, fun d hd => ?_⟩
    · obtain ⟨h3, h4⟩ := h2 j hj
      obtain ⟨_, h5, h6⟩ := World.cells?_some h3
      have hc : ∀ i u, (cells ds[j])[i]? = some u → w.cell? (a.add (j * C + i)) = some u := fun i u hu => by
        have hic : i < C := by
          rw [← h5]
          exact (List.getElem?_eq_some_iff.1 hu).1
        rw [← add_add, h6 i hic, hu]
      refine ⟨a, rfl, ?_, hc⟩
      have h0 := hpos ds[j]
      have := cell_lt (hc 0 _ (List.getElem?_eq_getElem h0))
      rw [block_add] at this
      exact this
    · obtain ⟨j, hj, rfl⟩ := List.getElem_of_mem hd
      exact (h2 j hj).2
/-- A step of WireReads. -/
structure StD where
  k : Nat
  n : Int
  e : Int
def StD.cells (f : StD) : List Value := [.int .u8 (f.k : Int), .int .i64 f.n, .int .i64 f.e]
def StD.ok (f : StD) : Prop := f.k < 256 ∧ (-9223372036854775808 ≤ f.n ∧ f.n ≤ 9223372036854775807) ∧ (-9223372036854775808 ≤ f.e ∧ f.e ≤ 9223372036854775807)
theorem cellsStep : Try.prog.cellsOf 69 = 3 := by kernel_rfl
theorem cellsU8 : Try.prog.cellsOf 5 = 1 := by kernel_rfl
theorem cellsI64 : Try.prog.cellsOf 2 = 1 := by kernel_rfl
theorem cellsInt : Try.prog.cellsOf 3 = 1 := by kernel_rfl
theorem i64_bd {n : Int} (h : (Lit.int .i64 n).wf = true) : -9223372036854775808 ≤ n ∧ n ≤ 9223372036854775807 := by
  simp [Lit.wf, IntKind.min, IntKind.max, IntKind.signed, IntKind.bits] at h
  omega
theorem trod_step (h : DataW.trod enc Try.prog w 0 (fun _ => true) true fuel 69 cs = some x) : ∃ f : StD, cs = f.cells ∧ f.ok := by
  obtain ⟨y0, y1, y2, n, rfl, hl, h0, h1, h2⟩ := Go.Deep.trod_struct3 Try.underlying69 h
  rw [cellsStep] at hl
  obtain ⟨c0, c1, c2, rfl⟩ := list3 hl
  simp only [cellsU8, cellsI64, cellsInt] at h0 h1 h2
  obtain ⟨k, hk, _, wk⟩ := DataW.trod_int Try.underlying5 h0
  obtain ⟨a, ha, _, wa⟩ := DataW.trod_int Try.underlying2 h1
  obtain ⟨b, hb, _, wb⟩ := DataW.trod_int Try.underlying3 h2
  simp at hk ha hb
  have hkb : 0 ≤ k ∧ k < 256 := by
    simp [Lit.wf, IntKind.min, IntKind.max, IntKind.signed, IntKind.bits] at wk
    omega
  subst hk ha hb
  exact ⟨⟨k.toNat, _, _⟩, by simp [StD.cells]; omega, by show k.toNat < 256; omega, i64_bd wa, i64_bd wb⟩
theorem open_steps {b0 : Nat} {v : Value} {d : DataW H} {p : List MemPlace} (hv : Value.okWide Try.prog w .any b0 64 v) (h : DataW.Trod enc Try.prog w 0 (fun _ => true) true 64 v d p) :
    ∃ A c ds, v = .slice A ds.length c ∧ Srow w 3 StD.cells A c ds ∧ ∀ f ∈ ds, f.ok := by
  obtain ⟨a, len, cap, rfl⟩ := okWide_slice Try.underlying64 hv
  obtain ⟨fuel, hf⟩ := h
  obtain ⟨A, c, ds, hc, h1, h2⟩ := trod_rows (cells := StD.cells) (P := StD.ok) Try.underlying64 cellsStep (fun _ => by simp [StD.cells]) (fun _ _ _ h => trod_step h) hf
  simp [Value.cells] at hc
  obtain ⟨rfl, rfl, rfl⟩ := hc
  exact ⟨_, _, ds, rfl, h1, h2⟩
end
end Go.Proofs.Ytkbibdbojdbfkaa
