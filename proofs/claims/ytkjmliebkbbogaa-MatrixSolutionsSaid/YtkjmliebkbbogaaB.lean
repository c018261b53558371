/- append on a list of digits that the call itself holds. -/
import Derived.Test.YtkjmliebkbbogaaWSub
import Derived.Laws.AppendOwnNone
import Derived.Deep.DeepMust
import Derived.Laws.OwnMore
import Derived.Deep.AppendLies
import Derived.Deep.RegionHeld3
import Derived.Deep.DrawnRows
namespace Go.Proofs.Ytkjmliebkbbogaa
set_option linter.unusedVariables false
set_option linter.unusedSimpArgs false
open Go.RowKit Plain

/-- The value v is a list of digits of the call's own (nil, or a row from block base on). -/
def OwnD (w : World) (base : Nat) (v : Value) (l : List Nat) : Prop := w.ownsRow base 91 1 v l.length (u32s l)

theorem OwnD.nil (w : World) (base : Nat) : OwnD w base (.slice none 0 0) [] := World.ownsRow_nil w base _ _
theorem OwnD.eq {w : World} {base : Nat} {v : Value} {l l' : List Nat} (h : OwnD w base v l) (e : l = l') : OwnD w base v l' := e ▸ h
theorem OwnD.form {w : World} {base : Nat} {v : Value} {l : List Nat} (h : OwnD w base v l) : ∃ A c, v = .slice A l.length c ∧ l.length ≤ c ∧ Rd w A l := by
  rcases h.2 with ⟨rfl, h0⟩ | ⟨g, cap, cur, rfl, hb, hg, hn, hm, hs, ht⟩
  · have : l = [] := List.eq_nil_of_length_eq_zero h0
    subst this
    exact ⟨none, 0, rfl, by simp, fun hx => by simp [u32s] at hx⟩
  · refine ⟨_, cap, rfl, hn, fun hx => ⟨_, rfl, (Array.getElem?_eq_some_iff.1 hg).1, fun j hj => ?_⟩⟩
    have h2 : w.cell? ⟨g, j, none⟩ = (u32s l)[j]? := World.ownsRow.cellAt (n := l.length) (xs := u32s l) (e := 91) (size := 1) (base := base) (cap := cap) ⟨by simp [u32s], .inr ⟨g, cap, cur, rfl, hb, hg, hn, hm, hs, ht⟩⟩ j (by rw [u32s_length] at hj; omega)
    rw [add_zero_, h2, List.getElem?_eq_getElem hj]
theorem OwnD.nv {w : World} {base : Nat} {v : Value} {l : List Nat} (h : OwnD w base v l) (hd : Dig l) (hm : l.length ≤ 70368744177664) : ∃ A c, v = .slice A l.length c ∧ Nv w A c l := by
  obtain ⟨A, c, e, h1, h2⟩ := h.form
  exact ⟨A, c, e, h1, hm, h2, hd⟩
theorem OwnD.below {w w' : World} {base : Nat} {v : Value} {l : List Nat} (h : OwnD w base v l) (hb : Below w.heap.size w w') : OwnD w' base v l :=
  h.kept (row := none) ⟨hb.os, hb.tape, hb.output, hb.size, fun k hk _ => hb.block k hk⟩ (by cases hv : v.ownBlock <;> simp)
theorem OwnD.drewN {w : World} {base : Nat} {v : Value} {l : List Nat} (h : OwnD w base v l) (n : Nat) : OwnD (w.drewN n) base v l := h
theorem OwnD.alloc {w : World} {base : Nat} {v : Value} {l : List Nat} (h : OwnD w base v l) (o : Obj) : OwnD (w.alloc o) base v l := World.ownsRow.alloc h o
theorem OwnD.row {w : World} {base : Nat} {A : Option Addr} {n c : Nat} {l : List Nat} (h : OwnD w base (.slice A n c) l) (hl : 0 < l.length) : ∃ g, A = some ⟨g, 0, none⟩ ∧ n = l.length ∧ base ≤ g ∧ g < w.heap.size ∧
    (∀ j, j < l.length → w.cell? ⟨g, j, none⟩ = some (.int .u32 ((l.getD j 0 : Nat) : Int))) ∧ (∀ j, w.frozen? ⟨g, j, none⟩ = false) ∧
    ∀ (j x : Nat) (v : Int), v = (x : Int) → OwnD (w.setCell ⟨g, j, none⟩ (.int .u32 v)) base (.slice A n c) (l.set j x) := by
  rcases h.2 with ⟨e, h0⟩ | ⟨g, cap, cur, e, hb, hg, hn, hm, hs, ht⟩
  · omega
  · injection e with e1 e2 e3
    subst e1 e2 e3
    have hown : w.ownsRow base 91 1 (.slice (some ⟨g, 0, none⟩) l.length c) l.length (u32s l) := h
    refine ⟨g, rfl, rfl, hb, (Array.getElem?_eq_some_iff.1 hg).1, fun j hj => ?_, fun j => hown.frozenAt j, fun j x v hv => ?_⟩
    · rw [hown.cellAt j (by omega), u32s_get hj]
    · subst hv
      have h1 := (hown.stored j (.int .u32 (x : Int))).1
      unfold OwnD
      rw [List.length_set]
      have e : u32s (l.set j x) = (u32s l).set j (.int .u32 (x : Int)) := by simp [u32s, List.map_set]
      rw [e]
      exact h1
/-- 'api.Nat{}'. -/
theorem OwnD.empty (w : World) (base : Nat) (hb : base ≤ w.heap.size) : OwnD (w.alloc (.cells #[] 91)) base (.slice (some ⟨w.heap.size, 0, none⟩) 0 0) [] :=
  World.ownsRow_lit w #[] 0 hb (Nat.zero_le _) rfl
theorem Rd.alloc {w : World} {A : Option Addr} {l : List Nat} (h : Rd w A l) (o : Obj) : Rd (w.alloc o) A l := h.below ((Below.refl _ _).alloc (Nat.le_refl _) o)
theorem OwnD.ret {w W : World} {v : Value} {l : List Nat} {n m : Nat} (h : OwnD w W.heap.size v l) (hn : NatIs l n) (hm : l.length ≤ m) (hb : Below W.heap.size W w) (h46 : l.length ≤ 70368744177664) : RetNat n m W (.returned v) w := by
  obtain ⟨A, c, rfl, hv⟩ := h.nv hn.dig h46
  exact ⟨A, c, l, rfl, hv, hn, hm, hb⟩
/-- What 'Below' keeps where the one row that may have been written lies from base on. -/
theorem OwnD.grown_below {a w w' : World} {B base : Nat} {v : Value} {l : List Nat} (h : OwnD w base v l) (hb : Below B a w) (hg : w.grownBy w' v.ownBlock) (hB : B ≤ base) (hB2 : B ≤ w.heap.size) : Below B a w' :=
  hb.grown hg hB2 (fun k hk => by have := (World.ownsRow.lt h k hk).1; omega)

theorem own_snoc {w wr w2 : World} {v v' : Value} {o : List Nat} {x : Nat} {ob : Obj} (hown : OwnD wr w.heap.size v o) (hbel : Below w.heap.size w wr) (h2 : OwnD w2 w.heap.size v' (o ++ [x])) (hg : (wr.alloc ob).grownBy w2 v.ownBlock) : Below w.heap.size w w2 :=
  (hown.alloc ob).grown_below (hbel.alloc hbel.size ob) hg (Nat.le_refl _) (by have := hbel.size; simp; omega)

section
variable (w : World)
theorem run_app (base : Nat) (v : Value) (l : List Nat) (hown : OwnD w base v l) (A : Option Addr) (m c : Nat) (l2 : List Nat) (hr : Rd w A l2) (hm : l2.length = m) (h63 : l.length + m ≤ 1000000000000) (hbase : base ≤ w.heap.size) :
    ∃ v' w', (Builtin.append_ #[48, 48] 48 #[v, .slice A m c]).run Try.prog w = .ok v' w' ∧ OwnD w' base v' (l ++ l2) ∧ w.grownBy w' v.ownBlock := by
  subst hm
  obtain ⟨i, hi, hz0, hz1, hz2⟩ := info_parts infoU32
  by_cases h0 : l2 = []
  · subst h0
    rcases A with _ | ad
    · have hrun : (Builtin.append_ #[48, 48] 48 #[v, .slice none 0 c]).run Try.prog w = .ok v w := by
        rcases hown.2 with ⟨rfl, h0⟩ | ⟨g, cap, cur, rfl, _, _, hnc, _⟩
        · simp [Builtin.append_, run_underlying Try.underlying48, sizeOf, typeInfo, hi, Builtin.lenOf, Builtin.firstCells]
        · simp [Builtin.append_, run_underlying Try.underlying48, sizeOf, typeInfo, hi, Builtin.lenOf, Builtin.firstCells, hnc, storeCells]
      exact ⟨v, w, hrun, hown.eq (by simp), World.grownBy.refl w _⟩
    · obtain ⟨v', w', hrun, h2, h3, _⟩ := run_append_own (P := Try.prog) w base 48 48 91 i (.int .u32 0) 1 4 Try.underlying48 hi hz0 hz1 hz2 rfl (by decide) v l.length (u32s l) hown ad 0 c [] rfl (by simp) (by simp) (by unfold maxLen; omega) (by omega) hbase
      exact ⟨v', w', hrun, by simpa [OwnD] using h2, h3⟩
  · obtain ⟨ad, rfl, h1, h2⟩ := hr (by rw [u32s_length]; exact List.length_pos_iff.2 h0)
    obtain ⟨v', w', hrun, h4, h5, _⟩ := run_append_own (P := Try.prog) w base 48 48 91 i (.int .u32 0) 1 4 Try.underlying48 hi hz0 hz1 hz2 rfl (by decide) v l.length (u32s l) hown ad l2.length c (u32s l2) (by simp [u32s])
      (fun j u hu => by
        obtain ⟨hj, rfl⟩ := List.getElem?_eq_some_iff.1 hu
        exact h2 j hj) (by intro u hu; simp [u32s] at hu; obtain ⟨d, _, rfl⟩ := hu; rfl) (by unfold maxLen; omega) (by omega) hbase
    refine ⟨v', w', hrun, ?_, h5⟩
    unfold OwnD
    rw [u32s_append, List.length_append]
    exact h4

theorem wpList_app {ops : Array Oper} {rest : List Oper} {o : Oper} {a : Act} {Q : Exit → Act → World → Prop} (hgd : o.guard = none) (hty : o.type = 48) (s x : Operand)
    (ho : o.op = .call { callee := .builtin .append, args := #[s, x], argTypes := #[48, 48] })
    (base : Nat) (v : Value) (l : List Nat) (hs : a.eval s = v) (hown : OwnD w base v l) (A : Option Addr) (m c : Nat) (l2 : List Nat) (hx : a.eval x = .slice A m c) (hr : Rd w A l2) (hm : l2.length = m)
    (h63 : l.length + m ≤ 1000000000000) (hbase : base ≤ w.heap.size)
    (h : ∀ v' w', OwnD w' base v' (l ++ l2) → w.grownBy w' v.ownBlock → wpList Try.prog ops Q rest (a.put o.dst v') w') : wpList Try.prog ops Q (o :: rest) a w := by
  refine wpList_plain hgd fun K hK => ?_
  obtain ⟨v', w', hrun, h2, h3⟩ := run_app w base v l hown A m c l2 hr hm h63 hbase
  unfold Oper.wp execOp
  simp only [ho, hty, resolve, invoke, builtin, Sem.run_bind, Sem.run_pure, Result.andThen_ok, List.map_toArray, List.map_cons, List.map_nil, hs, hx, hrun]
  exact hK _ _ (h v' w' h2 h3)
end
end Go.Proofs.Ytkjmliebkbbogaa
/- Blocks that are known whole; worlds in which one block alone has turned; fractions as values. -/
namespace Go.Proofs.Ytkjmliebkbbogaa
set_option linter.unusedVariables false
set_option linter.unusedSimpArgs false
open Go.RowKit Plain

/-- Only block g has turned; blocks are new. -/
abbrev Only (w w' : World) (g : Nat) : Prop := w.grownBy w' (some g)
section
variable {w w' w'' : World} {g : Nat}
theorem Only.refl (w : World) (g : Nat) : Only w w g := World.grownBy.refl w _
theorem Only.trans (h : Only w w' g) (k : Only w' w'' g) : Only w w'' g :=
  ⟨k.os.trans h.os, k.tape.trans h.tape, k.output.trans h.output, Nat.le_trans h.size k.size, fun i hi hn => (k.block i (Nat.lt_of_lt_of_le hi h.size) hn).trans (h.block i hi hn)⟩
theorem Only.set (h : Only w w' g) (o : Nat) (u : Value) : Only w (w'.setCell ⟨g, o, none⟩ u) g :=
  ⟨h.os, h.tape, h.output, by simpa [World.setCell] using h.size, fun i hi hn => (Below.heap_setCell w' ⟨g, o, none⟩ u i (by rintro rfl; exact hn rfl)).trans (h.block i hi hn)⟩
theorem Only.drewN (h : Only w w' g) (n : Nat) : Only w (w'.drewN n) g := ⟨h.os, h.tape, h.output, h.size, h.block⟩
theorem Only.drew (h : Only w w' g) : Only w w'.drew g := ⟨h.os, h.tape, h.output, h.size, h.block⟩
theorem Only.alloc (h : Only w w' g) (o : Obj) : Only w (w'.alloc o) g :=
  ⟨h.os, h.tape, h.output, Nat.le_trans h.size (by simp), fun i hi hn => (Below.heap_alloc w' o i (Nat.lt_of_lt_of_le hi h.size)).trans (h.block i hi hn)⟩
theorem Only.of_below (h : Below w.heap.size w w') (g : Nat) : Only w w' g := ⟨h.os, h.tape, h.output, h.size, fun i hi _ => h.block i hi⟩
theorem Only.to_below {B : Nat} {a : World} (hb : Below B a w) (h : Only w w' g) (hg : B ≤ g) (hB : B ≤ w.heap.size) : Below B a w' :=
  hb.grown h hB (fun k hk => by simp at hk; omega)
/-- Written: the block g, or what is new. -/
theorem Only.set_new (h : Only w w' g) (p : Addr) (hp : p.block = g ∨ w.heap.size ≤ p.block) (u : Value) : Only w (w'.setCell p u) g :=
  ⟨h.os, h.tape, h.output, by simpa [World.setCell] using h.size, fun i hi hn => (Below.heap_setCell w' p u i (by
    rintro rfl
    rcases hp with hp | hp
    · exact hn (by rw [hp])
    · omega)).trans (h.block i hi hn)⟩
end
theorem OwnD.only {w w' : World} {base g : Nat} {v : Value} {l : List Nat} (h : OwnD w base v l) (hb : Only w w' g) (hg : g < base) : OwnD w' base v l :=
  h.kept (row := some g) hb (by
    rcases h.2 with ⟨rfl, _⟩ | ⟨g', cap, cur, rfl, hb', _⟩
    · simp [Value.ownBlock]
    · simp [Value.ownBlock]; omega)
theorem own_ge {w : World} {base i : Nat} {v : Value} {l : List Nat} (h : OwnD w base v l) (hi : i < base) : v.ownBlock ≠ some i := by
  rcases h.2 with ⟨rfl, _⟩ | ⟨g', cap, cur, rfl, hb', _⟩
  · simp [Value.ownBlock]
  · simp [Value.ownBlock]; omega
theorem app_only {w w2 w3 : World} {g : Nat} {v : Value} {o : List Nat} {ob : Obj} (h : Only w w2 g) (hown : OwnD w2 w.heap.size v o) (hg : (w2.alloc ob).grownBy w3 v.ownBlock) : Only w w3 g :=
  ⟨hg.os.trans h.os, hg.tape.trans h.tape, hg.output.trans h.output, Nat.le_trans h.size (Nat.le_trans (by simp) hg.size), fun i hi hn =>
    ((hg.block i (by have := h.size; simp; omega) (own_ge hown hi).symm).trans (Below.heap_alloc w2 ob i (Nat.lt_of_lt_of_le hi h.size))).trans (h.block i hi hn)⟩
abbrev fracV (neg : Bool) (A : Option Addr) (n c : Nat) (B : Option Addr) (m d : Nat) : Value := .agg #[.bool neg, .slice A n c, .slice B m d]
abbrev fracB (neg : Bool) (A : Option Addr) (n c : Nat) (B : Option Addr) (m d : Nat) : Obj := .cells #[.bool neg, .slice A n c, .slice B m d] 50
theorem cellsAt {w w' : World} {b : Nat} {B : Nat} (hb : Below B w w') (h : b < B) (o : Nat) : w'.cell? ⟨b, o, none⟩ = w.cell? ⟨b, o, none⟩ := hb.cell (p := ⟨b, o, none⟩) h

/-- A block that is known whole. -/
def Blk (w : World) (g : Nat) (t : TypeId) (cs : Array Value) : Prop := w.heap[g]? = some (.cells cs t (0, 0))
section
variable {w w' : World} {g : Nat} {t : TypeId} {cs : Array Value}
theorem Blk.lt (h : Blk w g t cs) : g < w.heap.size := by
  rcases Nat.lt_or_ge g w.heap.size with hlt | hge
  · exact hlt
  · unfold Blk at h; rw [Array.getElem?_eq_none hge] at h; cases h
theorem Blk.cell (h : Blk w g t cs) (i : Nat) : w.cell? ⟨g, i, none⟩ = cs[i]? := by
  unfold Blk at h
  simp [World.cell?, h]
theorem Blk.free (h : Blk w g t cs) (i : Nat) : w.frozen? ⟨g, i, none⟩ = false := by
  unfold Blk at h
  simp [World.frozen?, h]
theorem Blk.new (w : World) (t : TypeId) (cs : Array Value) : Blk (w.alloc (.cells cs t)) w.heap.size t cs := heap_alloc_new w _
theorem Blk.drew (h : Blk w g t cs) : Blk w.drew g t cs := h
theorem Blk.drewN (h : Blk w g t cs) (n : Nat) : Blk (w.drewN n) g t cs := h
theorem Blk.set (h : Blk w g t cs) (i : Nat) (u : Value) : Blk (w.setCell ⟨g, i, none⟩ u) g t (cs.setIfInBounds i u) := by
  unfold Blk at h ⊢
  simp [World.setCell, Array.getElem?_modify, h]
theorem Blk.far (h : Blk w g t cs) {p : Addr} (hp : g ≠ p.block) (u : Value) : Blk (w.setCell p u) g t cs := (Below.heap_setCell w p u g hp).trans h
theorem Blk.below {B : Nat} (h : Blk w g t cs) (hb : Below B w w') (hg : g < B) : Blk w' g t cs := (hb.block g hg).trans h
theorem Blk.keep (h : Blk w g t cs) (hb : Below w.heap.size w w') : Blk w' g t cs := h.below hb h.lt
theorem Blk.only {g' : Nat} (h : Blk w g t cs) (hb : Only w w' g') (hg : g ≠ g') : Blk w' g t cs := (hb.block g h.lt (by simpa using hg)).trans h
end
/-- A struct is boxed: the world behind it gets a letter. -/
theorem boxed (w : World) (cs : Array Value) (t : TypeId) : ∃ w0, w.alloc (.cells cs t) = w0 ∧ Below w.heap.size w w0 ∧ w.heap.size < w0.heap.size ∧ Blk w0 w.heap.size t cs :=
  ⟨_, rfl, (Below.refl _ _).alloc (Nat.le_refl _) _, by simp, Blk.new w t cs⟩
theorem Blk.f0 {w : World} {g : Nat} {t : TypeId} {a b c : Value} (h : Blk w g t #[a, b, c]) : w.cell? ⟨g, 0, none⟩ = some a := h.cell 0
theorem Blk.f1 {w : World} {g : Nat} {t : TypeId} {a b c : Value} (h : Blk w g t #[a, b, c]) : w.cell? ⟨g, 1, none⟩ = some b := h.cell 1
theorem Blk.f2 {w : World} {g : Nat} {t : TypeId} {a b c : Value} (h : Blk w g t #[a, b, c]) : w.cell? ⟨g, 2, none⟩ = some c := h.cell 2

theorem nvK {w w0 W : World} {A : Option Addr} {c : Nat} {l : List Nat} (h : Nv w A c l) (b : Below w.heap.size w w0) (hlt : w.heap.size < w0.heap.size) (k : Below w0.heap.size w0 W) : Nv W A c l := (h.below b).below k
theorem below_step {w0 W w3 : World} (h : Below w0.heap.size w0 W) (b3 : Below W.heap.size W w3) : Below w0.heap.size w0 w3 := h.trans (b3.mono h.size)
/-- The digits, if there are any, lie in a block of uint32. -/
def U32 (w : World) (A : Option Addr) (l : List Nat) : Prop := 0 < l.length → ∀ a, A = some a → ∃ cs, w.heap[a.block]? = some (.cells cs 91 (0, 0))
theorem U32.nil (w : World) (A : Option Addr) : U32 w A [] := fun h => by simp at h
theorem OwnD.u32 {w : World} {base n : Nat} {A : Option Addr} {c : Nat} {l : List Nat} (h : OwnD w base (.slice A n c) l) : U32 w A l := fun hl a e => by
  subst e
  rcases h.2 with ⟨_, h0⟩ | ⟨g, cap, cur, e, hb, hg, _⟩
  · omega
  · injection e with e1 _ _
    injection e1 with e1
    subst e1
    exact ⟨_, hg⟩
theorem OwnD.nv' {w : World} {base n : Nat} {A : Option Addr} {c : Nat} {l : List Nat} (h : OwnD w base (.slice A n c) l) (hd : Dig l) (hm : l.length ≤ 2000) : Nv w A c l := by
  obtain ⟨A', c', e, h1, h2⟩ := h.form
  injection e with e1 e2 e3
  subst e1 e3
  exact ⟨h1, by omega, h2, hd⟩
theorem Blk.set3 {w : World} {g : Nat} {t : TypeId} {a b c : Value} (h : Blk w g t #[a, b, c]) (x y z : Value) : ∃ w', ((w.setCell ⟨g, 0, none⟩ x).setCell ⟨g, 1, none⟩ y).setCell ⟨g, 2, none⟩ z = w' ∧ Blk w' g t #[x, y, z] ∧ Only w w' g :=
  ⟨_, rfl, ((h.set 0 x).set 1 y).set 2 z, (((Only.refl w g).set 0 x).set 1 y).set 2 z⟩
theorem Only.set3 {w0 w w' : World} {g rb : Nat} (h : Only w0 w g) (hr : w0.heap.size ≤ rb) (ho : Only w w' rb) : Only w0 w' g :=
  ⟨ho.os.trans h.os, ho.tape.trans h.tape, ho.output.trans h.output, Nat.le_trans h.size ho.size, fun i hi hn => (ho.block i (Nat.lt_of_lt_of_le hi h.size) (by simp; omega)).trans (h.block i hi hn)⟩
theorem OwnD.only_blk {w w' : World} {base f : Nat} {v : Value} {l : List Nat} {t : TypeId} {cs : Array Value} (h : OwnD w base v l) (hb : Blk w f t cs) (ht : 91 ≠ t) (ho : Only w w' f) : OwnD w' base v l :=
  h.kept (row := some f) ho (by
    rcases h.2 with ⟨rfl, _⟩ | ⟨g', cap, cur, rfl, _, hg, _⟩
    · exact .inl rfl
    · refine .inr fun e => ?_
      simp [Value.ownBlock] at e
      subst e
      unfold Blk at hb
      rw [hb] at hg
      simp at hg
      exact ht hg.2.symm)
def zeroB (l : List Nat) : Bool := decide (l = [])
theorem zeroB_len (l : List Nat) : (((l.length : Nat) : Int) == 0) = zeroB l := by
  unfold zeroB
  rw [Bool.eq_iff_iff, beq_iff_eq, decide_eq_true_eq]
  constructor
  · intro h; exact List.eq_nil_of_length_eq_zero (by omega)
  · rintro rfl; rfl
/-- Is it a fraction in lowest terms? -/
def vldF (neg : Bool) (la lb : List Nat) : Bool := validL la && (validL lb && (!zeroB lb && (!(neg && zeroB la) && decide (Nat.gcd (val la) (val lb) = 1))))

theorem cmp_one (n : Nat) : (cmpI n 1 == 0) = decide (n = 1) := by
  rw [Bool.eq_iff_iff, beq_iff_eq, decide_eq_true_eq]
  unfold cmpI
  split
  · omega
  · split <;> omega
theorem one_iff {l : List Nat} {n : Nat} (h : NatIs l n) : decide (l = [1]) = decide (n = 1) := by
  have h1 : NatIs [1] 1 := ⟨Dig.cons (by omega) Dig.nil, by simp [Canon], rfl⟩
  rw [decide_eq_decide]
  constructor
  · rintro rfl; rw [← h.val]; rfl
  · rintro rfl; exact h.uniq h1
theorem nv_one (W : World) : Nv (W.alloc (.cells #[Value.int IntKind.u32 1] 91)) (some ⟨W.heap.size, 0, none⟩) 1 [1] :=
  ⟨by simp, by simp, (row_alloc W (cs := #[Value.int IntKind.u32 1]) (l := [1]) rfl).rd, Dig.cons (by omega) Dig.nil⟩
theorem canon_of_validL {l : List Nat} (h : validL l = true) : Canon l := canon_of_trimN (by unfold validL at h; simpa using h)
end Go.Proofs.Ytkjmliebkbbogaa
