/- Fractions as values: the rational number that a value denotes. -/
import Derived.Test.YtkjmliebkbbogaaB
import Derived.Test.YtkjmliebkbbogaaPLp
namespace Go.Proofs.Ytkjmliebkbbogaa
set_option linter.unusedVariables false
set_option linter.unusedSimpArgs false
open Go.RowKit Plain

/-- No digit lies among the cells. -/
def NoDig (cs : Array Value) : Prop := ∀ (i : Nat) (d : Int), cs[i]? ≠ some (.int .u32 d)
theorem noDig3 (b : Bool) (A : Option Addr) (n c : Nat) (B : Option Addr) (m d : Nat) : NoDig #[.bool b, .slice A n c, .slice B m d] := fun i x => by
  match i with
  | 0 => simp
  | 1 => simp
  | 2 => simp
  | i + 3 => simp
/-- A list of digits is kept while a block that holds no digit turns. -/
theorem Nv.only_blk {w w' : World} {g : Nat} {t : TypeId} {cs : Array Value} {A : Option Addr} {c : Nat} {l : List Nat} (h : Nv w A c l) (hB : Blk w g t cs) (hd : NoDig cs) (ho : Only w w' g) : Nv w' A c l := by
  refine ⟨h.len, h.big, fun hx => ?_, h.dig⟩
  obtain ⟨a, e, h1, h2⟩ := h.rd hx
  have hne : a.block ≠ g := fun hg => by
    have h3 := h2 0 hx
    have hl : 0 < l.length := by rw [u32s_length] at hx; exact hx
    unfold Blk at hB
    unfold World.cell? at h3
    rw [block_add, hg, hB] at h3
    simp only at h3
    split at h3
    · cases h3
    · rw [List.getElem_of_eq (show u32s l = u32s l from rfl)] at h3
      simp only [u32s, List.getElem_map] at h3
      exact hd _ _ h3
  have hk := ho.block a.block h1 (by simpa using hne)
  exact ⟨a, e, Nat.lt_of_lt_of_le h1 ho.size, fun j hj => by
    rw [World.cell?_of_block (w := w) (by rw [block_add]; exact hk)]
    exact h2 j hj⟩
/-- A cell is written as it was. -/
theorem Blk.same {w : World} {g i : Nat} {t : TypeId} {cs : Array Value} {u : Value} (h : Blk w g t cs) (hi : cs[i]? = some u) : w.setCell ⟨g, i, none⟩ u = w := by
  unfold Blk at h
  have e : cs.setIfInBounds i u = cs := by
    apply Array.ext_getElem?
    intro j
    rw [Array.getElem?_setIfInBounds]
    split
    · rename_i h1
      subst h1
      split
      · exact hi.symm
      · rename_i h2
        rw [Array.getElem?_eq_none (by omega)] at hi
        cases hi
    · rfl
  have hh : (w.setCell ⟨g, i, none⟩ u).heap = w.heap := by
    unfold World.setCell
    apply Array.ext_getElem?
    intro j
    rw [Array.getElem?_modify]
    split
    · rename_i h1
      subst h1
      rw [h]
      simp [e]
    · rfl
  unfold World.setCell at hh ⊢
  simp only at hh
  rw [hh]
/-- A block of a fraction. -/
def Blk3 (w : World) (g : Nat) (t : TypeId) : Prop := ∃ b A n c B m d, Blk w g t #[.bool b, .slice A n c, .slice B m d]
theorem Blk.b3 {w : World} {g : Nat} {t : TypeId} {b : Bool} {A : Option Addr} {n c : Nat} {B : Option Addr} {m d : Nat} (h : Blk w g t #[.bool b, .slice A n c, .slice B m d]) : Blk3 w g t := ⟨b, A, n, c, B, m, d, h⟩
theorem Blk3.drew {w : World} {g : Nat} {t : TypeId} (h : Blk3 w g t) : Blk3 w.drew g t := h
theorem Blk3.keep {w w' : World} {g : Nat} {t : TypeId} (h : Blk3 w g t) (b : Below w.heap.size w w') : Blk3 w' g t := by
  obtain ⟨b', A, n, c, B, m, d, h⟩ := h; exact (h.keep b).b3
theorem Blk3.set {w : World} {g : Nat} {t : TypeId} (h : Blk3 w g t) (b : Bool) (A : Option Addr) (n c : Nat) (B : Option Addr) (m d : Nat) : Blk3 (((w.setCell ⟨g, 0, none⟩ (.bool b)).setCell ⟨g, 1, none⟩ (.slice A n c)).setCell ⟨g, 2, none⟩ (.slice B m d)) g t := by
  obtain ⟨b', A', n', c', B', m', d', h⟩ := h
  obtain ⟨w', e, h', -⟩ := h.set3 (.bool b) (.slice A n c) (.slice B m d)
  rw [e]; exact h'.b3
theorem Nv.alloc {w : World} {A : Option Addr} {c : Nat} {l : List Nat} (h : Nv w A c l) (o : Obj) : Nv (w.alloc o) A c l := h.below ((Below.refl _ _).alloc (Nat.le_refl _) o)
theorem below_set3 {B : Nat} {a w : World} {g : Nat} (h : Below B a w) (hg : B ≤ g) (x y z : Value) : Below B a (((w.setCell ⟨g, 0, none⟩ x).setCell ⟨g, 1, none⟩ y).setCell ⟨g, 2, none⟩ z) := ((h.setCell hg x).setCell hg y).setCell hg z
/-- The value v is the fraction q. -/
def FV (w : World) (v : Value) (q : Rat) : Prop :=
  ∃ (neg : Bool) (A : Option Addr) (ca : Nat) (la : List Nat) (B : Option Addr) (cb : Nat) (lb : List Nat), v = fracV neg A la.length ca B lb.length cb ∧ Nv w A ca la ∧ Nv w B cb lb ∧ QIs neg la lb q
theorem FV.below {w w' : World} {v : Value} {q : Rat} (h : FV w v q) (hb : Below w.heap.size w w') : FV w' v q := by
  obtain ⟨neg, A, ca, la, B, cb, lb, e, ha, hb', hq⟩ := h
  exact ⟨neg, A, ca, la, B, cb, lb, e, ha.below hb, hb'.below hb, hq⟩
theorem FV.only_blk {w w' : World} {g : Nat} {t : TypeId} {cs : Array Value} {v : Value} {q : Rat} (h : FV w v q) (hB : Blk w g t cs) (hd : NoDig cs) (ho : Only w w' g) : FV w' v q := by
  obtain ⟨neg, A, ca, la, B, cb, lb, e, ha, hb', hq⟩ := h
  exact ⟨neg, A, ca, la, B, cb, lb, e, ha.only_blk hB hd ho, hb'.only_blk hB hd ho, hq⟩
/-- A call that returns the fraction q. -/
def RetQ (q : Rat) (W : World) (e : Ending) (w' : World) : Prop := ∃ v, e = .returned v ∧ FV w' v q ∧ Below W.heap.size W w'
/-- A call that returns the fraction q and no error. -/
def RetQE (q : Rat) (W : World) (e : Ending) (w' : World) : Prop := ∃ v, e = .returned (.tuple #[v, .int .i64 0]) ∧ FV w' v q ∧ Below W.heap.size W w'
theorem nat_fits {l : List Nat} {n k : Nat} (h : NatIs l n) (hk : n < pw k) : l.length ≤ k := length_le_of_lt h.canon (by rw [h.val]; exact hk)
theorem QIs.fits {neg : Bool} {la lb : List Nat} {q : Rat} {k : Nat} (h : QIs neg la lb q) (hk : Fits k q) : la.length ≤ k ∧ lb.length ≤ k := ⟨nat_fits h.na hk.1, nat_fits h.nb hk.2⟩
theorem QIs.natA {neg : Bool} {la lb : List Nat} {q : Rat} (h : QIs neg la lb q) : NatIs la (val la) := by have := h.na; rw [← this.val] at this; exact this
theorem QIs.natB {neg : Bool} {la lb : List Nat} {q : Rat} (h : QIs neg la lb q) : NatIs lb (val lb) := by have := h.nb; rw [← this.val] at this; exact this
theorem QIs.pos {neg : Bool} {la lb : List Nat} {q : Rat} (h : QIs neg la lb q) : 0 < lb.length := List.length_pos_iff.2 h.ne
theorem QIs.den_ne {neg : Bool} {la lb : List Nat} {q : Rat} (h : QIs neg la lb q) : val lb ≠ 0 := by rw [h.den]; exact q.den_nz
end Go.Proofs.Ytkjmliebkbbogaa
