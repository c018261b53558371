/- append on a list of bytes that the call itself holds; a string made of bytes. -/
import Derived.Test.YtkjmliebkbbogaaB
import Derived.Test.YtkjmliebkbbogaaWParse
import Derived.Laws.BytesArg
namespace Go.Proofs.Ytkjmliebkbbogaa
set_option linter.unusedVariables false
set_option linter.unusedSimpArgs false
open Go.RowKit Plain

/-- Digits as cells. -/
def u8s (l : List Nat) : List Value := l.map fun d : Nat => .int .u8 (d : Int)
theorem u8s_length (l : List Nat) : (u8s l).length = l.length := by simp [u8s]

/-- The slice (A, l.length) reads as the digits l. -/
def RdB (w : World) (A : Option Addr) (l : List Nat) : Prop := Sl w A (u8s l)
theorem u8s_append (a b : List Nat) : u8s (a ++ b) = u8s a ++ u8s b := by simp [u8s]
theorem u8s_get {l : List Nat} {k : Nat} (h : k < l.length) : (u8s l)[k]? = some (.int .u8 ((l.getD k 0 : Nat) : Int)) := by simp [u8s, List.getElem?_eq_getElem h]
theorem RdB.below {w w' : World} {A : Option Addr} {l : List Nat} (h : RdB w A l) (hb : Below w.heap.size w w') : RdB w' A l := Sl.below h hb
theorem RdB.at {w : World} {A : Option Addr} {l : List Nat} (h : RdB w A l) {k : Nat} (hk : k < l.length) :
    ∃ a d, A = some a ∧ a.block < w.heap.size ∧ w.cell? (a.add k) = some (.int .u8 ((d : Nat) : Int)) ∧ Hid (l.getD k 0 = d) := by
  obtain ⟨a, e, h1, h2⟩ := h (by rw [u8s_length]; omega)
  refine ⟨a, _, e, h1, ?_, rfl⟩
  rw [h2 k (by rw [u8s_length]; exact hk)]
  simp [u8s, List.getElem?_eq_getElem hk]
/-- A block of the call's own that holds the digits l and nothing else. -/
def RowB (w : World) (g : Nat) (l : List Nat) : Prop := w.heap[g]? = some (.cells (u8s l).toArray 5 (0, 0))
section
variable {w w' : World} {g : Nat} {l : List Nat}
theorem RowB.lt (h : RowB w g l) : g < w.heap.size := by
  rcases Nat.lt_or_ge g w.heap.size with hlt | hge
  · exact hlt
  · unfold RowB at h; rw [Array.getElem?_eq_none hge] at h; cases h
theorem RowB.cell (h : RowB w g l) {i : Nat} (hi : i < l.length) : w.cell? ⟨g, i, none⟩ = some (.int .u8 ((l.getD i 0 : Nat) : Int)) := by
  unfold RowB at h
  simp only [World.cell?, h]
  have := u8s_get hi
  simpa using this
theorem RowB.free (h : RowB w g l) (i : Nat) : w.frozen? ⟨g, i, none⟩ = false := by
  unfold RowB at h
  simp [World.frozen?, h]
theorem RowB.set (h : RowB w g l) (i d : Nat) : RowB (w.setCell ⟨g, i, none⟩ (.int .u8 (d : Int))) g (l.set i d) := by
  unfold RowB at h ⊢
  simp [World.setCell, Array.getElem?_modify, h, u8s, List.map_set]
theorem RowB.keep (h : RowB w g l) {B : Nat} (hb : Below B w w') (hg : g < B) : RowB w' g l := (hb.block g hg).trans h
theorem RowB.far (h : RowB w g l) {p : Addr} (hp : g ≠ p.block) (u : Value) : RowB (w.setCell p u) g l := (Below.heap_setCell w p u g hp).trans h
theorem RowB.new (w : World) (l : List Nat) : RowB (w.alloc (.cells (u8s l).toArray 5)) w.heap.size l := heap_alloc_new w _
theorem RowB.eq (h : RowB w g l) {l' : List Nat} (e : l = l') : RowB w g l' := e ▸ h
theorem RowB.rd (h : RowB w g l) : RdB w (some ⟨g, 0, none⟩) l := fun hx => by
  refine ⟨_, rfl, h.lt, fun j hj => ?_⟩
  rw [u8s_length] at hj
  rw [add_zero_, h.cell hj]
  have := u8s_get hj
  rw [List.getElem?_eq_getElem (by rw [u8s_length]; exact hj)] at this
  exact this.symm
end
theorem infoU8 : (Try.prog.info? 5).map (fun i => (i.zero, i.size, i.bytes)) = some (some (.int .u8 0), 1, 1) := by kernel_rfl
theorem rowB_alloc (w : World) {cs : Array Value} {l : List Nat} (e : cs = (u8s l).toArray) : RowB (w.alloc (.cells cs 5)) w.heap.size l := by
  subst e; exact RowB.new w l
/-- The value v is a list of digits of the call's own (nil, or a row from block base on). -/
def OwnB (w : World) (base : Nat) (v : Value) (l : List Nat) : Prop := w.ownsRow base 5 1 v l.length (u8s l)

theorem OwnB.nil (w : World) (base : Nat) : OwnB w base (.slice none 0 0) [] := World.ownsRow_nil w base _ _
theorem OwnB.eq {w : World} {base : Nat} {v : Value} {l l' : List Nat} (h : OwnB w base v l) (e : l = l') : OwnB w base v l' := e ▸ h
theorem OwnB.form {w : World} {base : Nat} {v : Value} {l : List Nat} (h : OwnB w base v l) : ∃ A c, v = .slice A l.length c ∧ l.length ≤ c ∧ RdB w A l := by
  rcases h.2 with ⟨rfl, h0⟩ | ⟨g, cap, cur, rfl, hb, hg, hn, hm, hs, ht⟩
  · have : l = [] := List.eq_nil_of_length_eq_zero h0
    subst this
    exact ⟨none, 0, rfl, by simp, fun hx => by simp [u8s] at hx⟩
  · refine ⟨_, cap, rfl, hn, fun hx => ⟨_, rfl, (Array.getElem?_eq_some_iff.1 hg).1, fun j hj => ?_⟩⟩
    have h2 : w.cell? ⟨g, j, none⟩ = (u8s l)[j]? := World.ownsRow.cellAt (n := l.length) (xs := u8s l) (e := 5) (size := 1) (base := base) (cap := cap) ⟨by simp [u8s], .inr ⟨g, cap, cur, rfl, hb, hg, hn, hm, hs, ht⟩⟩ j (by rw [u8s_length] at hj; omega)
    rw [add_zero_, h2, List.getElem?_eq_getElem hj]
theorem OwnB.below {w w' : World} {base : Nat} {v : Value} {l : List Nat} (h : OwnB w base v l) (hb : Below w.heap.size w w') : OwnB w' base v l :=
  h.kept (row := none) ⟨hb.os, hb.tape, hb.output, hb.size, fun k hk _ => hb.block k hk⟩ (by cases hv : v.ownBlock <;> simp)
theorem OwnB.drewN {w : World} {base : Nat} {v : Value} {l : List Nat} (h : OwnB w base v l) (n : Nat) : OwnB (w.drewN n) base v l := h
theorem OwnB.alloc {w : World} {base : Nat} {v : Value} {l : List Nat} (h : OwnB w base v l) (o : Obj) : OwnB (w.alloc o) base v l := World.ownsRow.alloc h o
/-- 'api.Nat{}'. -/
theorem OwnB.empty (w : World) (base : Nat) (hb : base ≤ w.heap.size) : OwnB (w.alloc (.cells #[] 5)) base (.slice (some ⟨w.heap.size, 0, none⟩) 0 0) [] :=
  World.ownsRow_lit w #[] 0 hb (Nat.zero_le _) rfl
theorem RdB.alloc {w : World} {A : Option Addr} {l : List Nat} (h : RdB w A l) (o : Obj) : RdB (w.alloc o) A l := h.below ((Below.refl _ _).alloc (Nat.le_refl _) o)
/-- What 'Below' keeps where the one row that may have been written lies from base on. -/
theorem OwnB.grown_below {a w w' : World} {B base : Nat} {v : Value} {l : List Nat} (h : OwnB w base v l) (hb : Below B a w) (hg : w.grownBy w' v.ownBlock) (hB : B ≤ base) (hB2 : B ≤ w.heap.size) : Below B a w' :=
  hb.grown hg hB2 (fun k hk => by have := (World.ownsRow.lt h k hk).1; omega)

theorem own_snocB {w wr w2 : World} {v v' : Value} {o : List Nat} {x : Nat} {ob : Obj} (hown : OwnB wr w.heap.size v o) (hbel : Below w.heap.size w wr) (h2 : OwnB w2 w.heap.size v' (o ++ [x])) (hg : (wr.alloc ob).grownBy w2 v.ownBlock) : Below w.heap.size w w2 :=
  (hown.alloc ob).grown_below (hbel.alloc hbel.size ob) hg (Nat.le_refl _) (by have := hbel.size; simp; omega)

section
variable (w : World)
end

/-- A list of digits is kept while bytes are appended. -/
theorem nv_besides {w w' : World} {A : Option Addr} {c base : Nat} {q l : List Nat} {v : Value} {ob : Obj} (h : Nv w A c q) (hu : U32Blk w A) (hb : OwnB w base v l) (hg : (w.alloc ob).grownBy w' v.ownBlock) : Nv w' A c q ∧ (0 < q.length → U32Blk w' A) := by
  have key : ∀ a : Addr, A = some a → a.block < w.heap.size → w'.heap[a.block]? = w.heap[a.block]? := fun a e hlt => by
    obtain ⟨cs, hcs⟩ := hu a e
    refine (hg.block a.block (by simp; omega) ?_).trans (Below.heap_alloc w ob _ hlt)
    intro e2
    rcases hb.2 with ⟨rfl, _⟩ | ⟨g, cap, cur, rfl, _, hgg, _⟩
    · simp [Value.ownBlock] at e2
    · simp [Value.ownBlock] at e2
      rw [← e2, hcs] at hgg
      simp at hgg
  refine ⟨⟨h.len, h.big, fun hx => ?_, h.dig⟩, fun hq a e => ?_⟩
  · obtain ⟨a, e, h1, h2⟩ := h.rd hx
    refine ⟨a, e, ?_, fun j hj => ?_⟩
    · have := hg.size
      simp at this
      omega
    · rw [World.cell?_of_block (w := w) (by rw [block_add]; exact key a e h1)]
      exact h2 j hj
  · obtain ⟨a', e', h1, _⟩ := h.rd (by rw [u32s_length]; exact hq)
    rw [e] at e'
    injection e' with e'
    subst e'
    rw [key a e h1]
    exact hu a e
/-- The string of a list of bytes. -/
def strOf (l : List Nat) : ByteArray := strOfNums (l.map fun d : Nat => (d : Int))
theorem strOf_size (l : List Nat) : (strOf l).size = l.length := by rw [strOf, strOfNums_size, List.length_map]
theorem bytes_strOf {l : List Nat} (h : ∀ b ∈ l, b < 256) : bytes (strOf l) = l := by
  unfold bytes strOf
  rw [strOfNums_data, List.map_map, List.map_map]
  apply List.ext_getElem (by simp)
  intro i h1 h2
  simp only [List.getElem_map, Function.comp]
  have := h _ (List.getElem_mem h2)
  simp only [Int.toNat_natCast, UInt8.toNat_ofNat']
  omega
theorem byteArray_ext {a b : ByteArray} (h : bytes a = bytes b) : a = b := by
  have h1 : a.data.toList = b.data.toList := by
    unfold bytes at h
    have hinj : Function.Injective UInt8.toNat := fun x y e => UInt8.toNat_inj.1 e
    exact (List.map_inj_right (fun x y e => hinj e)).1 h
  cases a; cases b
  simp only [ByteArray.mk.injEq]
  exact Array.ext' h1
theorem OwnB.made (w : World) (n : Nat) (hn : n ≤ 10000000) (base : Nat) (hb : base ≤ w.heap.size) : OwnB (w.alloc (.cells (madeCells #[.int .u8 0] n) 5)) base (.slice (some ⟨w.heap.size, 0, none⟩) 0 n) [] :=
  World.ownsRow_made w _ n hb (by unfold maxLen; omega) (by rw [size_madeCells]; omega)
end Go.Proofs.Ytkjmliebkbbogaa
