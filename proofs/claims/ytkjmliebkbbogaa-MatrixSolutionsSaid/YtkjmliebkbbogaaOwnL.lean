/- Lists of fractions of the call's own: their digits are known. -/
import Derived.Test.YtkjmliebkbbogaaApF
import Derived.Test.YtkjmliebkbbogaaLD
import Derived.Test.YtkjmliebkbbogaaGNew
namespace Go.Proofs.Ytkjmliebkbbogaa
set_option linter.unusedVariables false
set_option linter.unusedSimpArgs false
open Go.RowKit Plain

/-- Few digits, valid. -/
def AllQ (w : World) (K : Nat) (os : List FrD) : Prop := ∀ d ∈ os, d.few w K ∧ d.vld = true
theorem AllQ.below {w w' : World} {K : Nat} {os : List FrD} (h : AllQ w K os) (hb : Below w.heap.size w w') : AllQ w' K os := fun d hd => ⟨(h d hd).1.below hb, (h d hd).2⟩
theorem FrD.few.row {w w' : World} {base K : Nat} {d : FrD} {v : Value} {ds : List FrD} (h : d.few w K) (hown : OwnQ w base v ds) (hg : w.grownBy w' v.ownBlock) : d.few w' K := ⟨h.1.row hown hg, h.2.1.row hown hg, h.2.2.1, h.2.2.2⟩
theorem AllQ.snoc {w4 w6 : World} {K base : Nat} {v : Value} {os ds : List FrD} {o : Obj} {d : FrD} (h1 : AllQ w4 K os) (h2 : d.few w4 K ∧ d.vld = true) (hown : OwnQ (w4.alloc o) base v ds) (hg : (w4.alloc o).grownBy w6 v.ownBlock) : AllQ w6 K (os ++ [d]) := fun x hx => by
  have hb : Below w4.heap.size w4 (w4.alloc o) := (Below.refl _ _).alloc (Nat.le_refl _) o
  rcases List.mem_append.1 hx with h | h
  · exact ⟨((h1 x h).1.below hb).row hown hg, (h1 x h).2⟩
  · simp at h; subst h
    exact ⟨(h2.1.below hb).row hown hg, h2.2⟩
theorem OwnQ.ld {w : World} {base K : Nat} {v : Value} {ds : List FrD} (h : OwnQ w base v ds) (ha : AllQ w K ds) : ∃ A c, v = .slice A ds.length c ∧ LD w K A c ds ∧ whB ds = true := by
  obtain ⟨A, c, e, hf⟩ := h.fl fun d hd => ((ha d hd).1.fv (ha d hd).2).1
  exact ⟨A, c, e, ⟨hf.row, fun d hd => (ha d hd).1⟩, by unfold whB; rw [List.all_eq_true]; exact fun d hd => (ha d hd).2⟩
/-- A fraction's value with its digits. -/
theorem few_of {w : World} {K : Nat} {n : Bool} {A B : Option Addr} {a b : Nat} {la lb : List Nat} {q : Rat} (ha : Nv w A a la) (hb : Nv w B b lb) (hq : QIs n la lb q) (hf : Fits K q) :
    FrD.few w K ⟨n, A, a, la, B, b, lb⟩ ∧ FrD.vld ⟨n, A, a, la, B, b, lb⟩ = true ∧ FrD.q ⟨n, A, a, la, B, b, lb⟩ = q :=
  ⟨⟨ha, hb, (QIs.fits hq hf).1, (QIs.fits hq hf).2⟩, qIs_vldF hq, hq.mk.symm⟩
theorem pw_two : pw 2 = 18446744073709551616 := by decide
theorem fits_int {n : Int} (h1 : -9223372036854775808 ≤ n) (h2 : n ≤ 9223372036854775807) : Fits 2 (n : Rat) := by
  refine ⟨?_, ?_⟩
  · rw [pw_two, Rat.num_intCast]; omega
  · rw [pw_two, Rat.den_intCast]; omega
theorem fits_third {n : Int} (h1 : -9223372036854775808 ≤ n) (h2 : n ≤ 9223372036854775807) : Fits 4 ((n : Rat) / ((3 : Int) : Rat)) := by
  have e : (n : Rat) / ((3 : Int) : Rat) = mkRat n 3 := by rw [Rat.mkRat_eq_div]; rfl
  rw [e]
  have h4 : pw 2 ≤ pw 4 := pw_mono (by omega)
  rw [pw_two] at h4
  exact fits_mk (by omega) (by omega)
/-- A list of integers. -/
def i64s (zs : List Int) : List Value := zs.map (Value.int .i64)
def IL (w : World) (A : Option Addr) (zs : List Int) : Prop := Sl w A (i64s zs)
theorem i64s_get {l : List Int} {k : Nat} (h : k < l.length) : (i64s l)[k]? = some (.int .i64 (l.getD k 0)) := by simp [i64s, List.getElem?_eq_getElem h]
theorem IL.below {w w' : World} {A : Option Addr} {l : List Int} (h : IL w A l) (hb : Below w.heap.size w w') : IL w' A l := Sl.below h hb
theorem IL.at {w : World} {A : Option Addr} {l : List Int} (h : IL w A l) {k : Nat} (hk : k < l.length) : ∃ a, A = some a ∧ a.block < w.heap.size ∧ w.cell? (a.add k) = some (.int .i64 (l.getD k 0)) := by
  have hl : 0 < (i64s l).length := by simp [i64s]; omega
  obtain ⟨a, e, h1, h2⟩ := h hl
  have hk2 : k < (i64s l).length := by simp [i64s]; omega
  refine ⟨a, e, h1, ?_⟩
  rw [h2 k hk2, ← i64s_get hk, List.getElem?_eq_getElem hk2]
theorem Blk.il {w : World} {g : Nat} {t : TypeId} {zs : List Int} (h : Blk w g t (i64s zs).toArray) : IL w (some ⟨g, 0, none⟩) zs := fun hx =>
  ⟨_, rfl, h.lt, fun j hj => by rw [add_zero_, h.cell j]; simp [List.getElem?_eq_getElem hj]⟩

theorem fits_int4 {n : Int} (h1 : -9223372036854775808 ≤ n) (h2 : n ≤ 9223372036854775807) : Fits 4 (n : Rat) := (fits_int h1 h2).mono (by omega)
def RetL (K : Nat) (qs : List Rat) (W : World) (e : Ending) (w' : World) : Prop :=
  ∃ A c ds, e = .returned (.slice A ds.length c) ∧ LD w' K A c ds ∧ whB ds = true ∧ Hid (ds.map FrD.q = qs) ∧ Below W.heap.size W w'
/-- The round of a loop that collects fractions. -/
def ColInv (K : Nat) (qs : List Rat) (w : World) (base : Nat) (v i : Value) (wr : World) : Prop :=
  ∃ (u : Value) (k : Nat) (os : List FrD), u = v ∧ k ≤ qs.length ∧ i = .int .i64 (k : Int) ∧ OwnQ wr base u os ∧ Hid (AllQ wr K os) ∧ Hid (os.length = k) ∧ Hid (os.map FrD.q = qs.take k) ∧ base ≤ wr.heap.size ∧ Below w.heap.size w wr
theorem col_snoc {os : List FrD} {qs : List Rat} {k : Nat} {d : FrD} (h : os.map FrD.q = qs.take k) (hk : qs[k]? = some d.q) : (os ++ [d]).map FrD.q = qs.take (k + 1) := by
  rw [List.map_append, h, List.take_add_one, hk]; rfl
theorem ints_get {zs : List Int} {f : Int → Rat} {k : Nat} (hk : k < zs.length) : (zs.map f)[k]? = some (f (zs.getD k 0)) := by
  rw [List.getElem?_map, List.getElem?_eq_getElem hk, List.getD_eq_getElem?_getD, List.getElem?_eq_getElem hk]; rfl
end Go.Proofs.Ytkjmliebkbbogaa
