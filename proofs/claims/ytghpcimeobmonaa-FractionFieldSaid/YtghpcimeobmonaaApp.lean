/- append on a list of digits that the call itself holds. -/
import Derived.Test.YtghpcimeobmonaaWCmp
import Derived.Laws.AppendOwnNone
import Derived.Deep.DeepMust
namespace Go.Proofs.Ytghpcimeobmonaa
set_option linter.unusedVariables false
set_option linter.unusedSimpArgs false
open Go.RowKit Plain

/-- The value v is a list of digits of the call's own (nil, or a row from block base on). -/
def OwnD (w : World) (base : Nat) (v : Value) (l : List Nat) : Prop := w.ownsRow base 62 1 v l.length (u32s l)

theorem OwnD.nil (w : World) (base : Nat) : OwnD w base (.slice none 0 0) [] := World.ownsRow_nil w base _ _
theorem OwnD.eq {w : World} {base : Nat} {v : Value} {l l' : List Nat} (h : OwnD w base v l) (e : l = l') : OwnD w base v l' := e ▸ h
theorem OwnD.form {w : World} {base : Nat} {v : Value} {l : List Nat} (h : OwnD w base v l) : ∃ A c, v = .slice A l.length c ∧ l.length ≤ c ∧ Rd w A l := by
  rcases h.2 with ⟨rfl, h0⟩ | ⟨g, cap, cur, rfl, hb, hg, hn, hm, hs, ht⟩
  · have : l = [] := List.eq_nil_of_length_eq_zero h0
    subst this
    exact ⟨none, 0, rfl, by simp, fun hx => by simp [u32s] at hx⟩
  · refine ⟨_, cap, rfl, hn, fun hx => ⟨_, rfl, (Array.getElem?_eq_some_iff.1 hg).1, fun j hj => ?_⟩⟩
    have h2 : w.cell? ⟨g, j, none⟩ = (u32s l)[j]? := World.ownsRow.cellAt (n := l.length) (xs := u32s l) (e := 62) (size := 1) (base := base) (cap := cap) ⟨by simp [u32s], .inr ⟨g, cap, cur, rfl, hb, hg, hn, hm, hs, ht⟩⟩ j (by rw [u32s_length] at hj; omega)
    rw [add_zero_, h2, List.getElem?_eq_getElem hj]
theorem OwnD.nv {w : World} {base : Nat} {v : Value} {l : List Nat} (h : OwnD w base v l) (hd : Dig l) (hm : l.length ≤ 70368744177664) : ∃ A c, v = .slice A l.length c ∧ Nv w A c l := by
  obtain ⟨A, c, e, h1, h2⟩ := h.form
  exact ⟨A, c, e, h1, hm, h2, hd⟩
theorem OwnD.below {w w' : World} {base : Nat} {v : Value} {l : List Nat} (h : OwnD w base v l) (hb : Below w.heap.size w w') : OwnD w' base v l :=
  h.kept (row := none) ⟨hb.os, hb.tape, hb.output, hb.size, fun k hk _ => hb.block k hk⟩ (by cases hv : v.ownBlock <;> simp)
theorem OwnD.drewN {w : World} {base : Nat} {v : Value} {l : List Nat} (h : OwnD w base v l) (n : Nat) : OwnD (w.drewN n) base v l := h
theorem OwnD.alloc {w : World} {base : Nat} {v : Value} {l : List Nat} (h : OwnD w base v l) (o : Obj) : OwnD (w.alloc o) base v l := World.ownsRow.alloc h o
theorem OwnD.row {w : World} {base : Nat} {A : Option Addr} {n c : Nat} {l : List Nat} (h : OwnD w base (.slice A n c) l) (hl : 0 < l.length) : ∃ g, A = some ⟨g, 0, none⟩ ∧ n = l.length ∧ base ≤ g ∧ g < w.heap.size ∧
    (∀ j, j < l.length → w.cell? ⟨g, j, none⟩ = some (.int .u32 ((l.getD j 0 : Nat) : Int))) ∧ (∀ j, w.frozen? ⟨g, j, none⟩ = false) ∧
    ∀ (j x : Nat) (v : Int), v = (x : Int) → OwnD (w.setCell ⟨g, j, none⟩ (.int .u32 v)) base (.slice A n c) (l.set j x) := by
  rcases h.2 with ⟨e, h0⟩ | ⟨g, cap, cur, e, hb, hg, hn, hm, hs, ht⟩
  · omega
  · injection e with e1 e2 e3
    subst e1 e2 e3
    have hown : w.ownsRow base 62 1 (.slice (some ⟨g, 0, none⟩) l.length c) l.length (u32s l) := h
    refine ⟨g, rfl, rfl, hb, (Array.getElem?_eq_some_iff.1 hg).1, fun j hj => ?_, fun j => hown.frozenAt j, fun j x v hv => ?_⟩
    · rw [hown.cellAt j (by omega), u32s_get hj]
    · subst hv
      have h1 := (hown.stored j (.int .u32 (x : Int))).1
      unfold OwnD
      rw [List.length_set]
      have e : u32s (l.set j x) = (u32s l).set j (.int .u32 (x : Int)) := by simp [u32s, List.map_set]
      rw [e]
      exact h1
/-- 'api.Nat{}'. -/
theorem OwnD.empty (w : World) (base : Nat) (hb : base ≤ w.heap.size) : OwnD (w.alloc (.cells #[] 62)) base (.slice (some ⟨w.heap.size, 0, none⟩) 0 0) [] :=
  World.ownsRow_lit w #[] 0 hb (Nat.zero_le _) rfl
theorem Rd.alloc {w : World} {A : Option Addr} {l : List Nat} (h : Rd w A l) (o : Obj) : Rd (w.alloc o) A l := h.below ((Below.refl _ _).alloc (Nat.le_refl _) o)
theorem OwnD.ret {w W : World} {v : Value} {l : List Nat} {n m : Nat} (h : OwnD w W.heap.size v l) (hn : NatIs l n) (hm : l.length ≤ m) (hb : Below W.heap.size W w) (h46 : l.length ≤ 70368744177664) : RetNat n m W (.returned v) w := by
  obtain ⟨A, c, rfl, hv⟩ := h.nv hn.dig h46
  exact ⟨A, c, l, rfl, hv, hn, hm, hb⟩
/-- What 'Below' keeps where the one row that may have been written lies from base on. -/
theorem OwnD.grown_below {a w w' : World} {B base : Nat} {v : Value} {l : List Nat} (h : OwnD w base v l) (hb : Below B a w) (hg : w.grownBy w' v.ownBlock) (hB : B ≤ base) (hB2 : B ≤ w.heap.size) : Below B a w' :=
  hb.grown hg hB2 (fun k hk => by have := (World.ownsRow.lt h k hk).1; omega)

theorem own_snoc {w wr w2 : World} {v v' : Value} {o : List Nat} {x : Nat} {ob : Obj} (hown : OwnD wr w.heap.size v o) (hbel : Below w.heap.size w wr) (h2 : OwnD w2 w.heap.size v' (o ++ [x])) (hg : (wr.alloc ob).grownBy w2 v.ownBlock) : Below w.heap.size w w2 :=
  (hown.alloc ob).grown_below (hbel.alloc hbel.size ob) hg (Nat.le_refl _) (by have := hbel.size; simp; omega)

section
variable (w : World)
theorem run_app (base : Nat) (v : Value) (l : List Nat) (hown : OwnD w base v l) (A : Option Addr) (m c : Nat) (l2 : List Nat) (hr : Rd w A l2) (hm : l2.length = m) (h63 : l.length + m ≤ 1000000000000) (hbase : base ≤ w.heap.size) :
    ∃ v' w', (Builtin.append_ #[23, 23] 23 #[v, .slice A m c]).run Try.prog w = .ok v' w' ∧ OwnD w' base v' (l ++ l2) ∧ w.grownBy w' v.ownBlock := by
  subst hm
  obtain ⟨i, hi, hz0, hz1, hz2⟩ := info_parts infoU32
  by_cases h0 : l2 = []
  · subst h0
    rcases A with _ | ad
    · have hrun : (Builtin.append_ #[23, 23] 23 #[v, .slice none 0 c]).run Try.prog w = .ok v w := by
        rcases hown.2 with ⟨rfl, h0⟩ | ⟨g, cap, cur, rfl, _, _, hnc, _⟩
        · simp [Builtin.append_, run_underlying Try.underlying23, sizeOf, typeInfo, hi, Builtin.lenOf, Builtin.firstCells]
        · simp [Builtin.append_, run_underlying Try.underlying23, sizeOf, typeInfo, hi, Builtin.lenOf, Builtin.firstCells, hnc, storeCells]
      exact ⟨v, w, hrun, hown.eq (by simp), World.grownBy.refl w _⟩
    · obtain ⟨v', w', hrun, h2, h3, _⟩ := run_append_own (P := Try.prog) w base 23 23 62 i (.int .u32 0) 1 4 Try.underlying23 hi hz0 hz1 hz2 rfl (by decide) v l.length (u32s l) hown ad 0 c [] rfl (by simp) (by simp) (by unfold maxLen; omega) (by omega) hbase
      exact ⟨v', w', hrun, by simpa [OwnD] using h2, h3⟩
  · obtain ⟨ad, rfl, h1, h2⟩ := hr (by rw [u32s_length]; exact List.length_pos_iff.2 h0)
    obtain ⟨v', w', hrun, h4, h5, _⟩ := run_append_own (P := Try.prog) w base 23 23 62 i (.int .u32 0) 1 4 Try.underlying23 hi hz0 hz1 hz2 rfl (by decide) v l.length (u32s l) hown ad l2.length c (u32s l2) (by simp [u32s])
      (fun j u hu => by
        obtain ⟨hj, rfl⟩ := List.getElem?_eq_some_iff.1 hu
        exact h2 j hj) (by intro u hu; simp [u32s] at hu; obtain ⟨d, _, rfl⟩ := hu; rfl) (by unfold maxLen; omega) (by omega) hbase
    refine ⟨v', w', hrun, ?_, h5⟩
    unfold OwnD
    rw [u32s_append, List.length_append]
    exact h4

theorem wpList_app {ops : Array Oper} {rest : List Oper} {o : Oper} {a : Act} {Q : Exit → Act → World → Prop} (hgd : o.guard = none) (hty : o.type = 23) (s x : Operand)
    (ho : o.op = .call { callee := .builtin .append, args := #[s, x], argTypes := #[23, 23] })
    (base : Nat) (v : Value) (l : List Nat) (hs : a.eval s = v) (hown : OwnD w base v l) (A : Option Addr) (m c : Nat) (l2 : List Nat) (hx : a.eval x = .slice A m c) (hr : Rd w A l2) (hm : l2.length = m)
    (h63 : l.length + m ≤ 1000000000000) (hbase : base ≤ w.heap.size)
    (h : ∀ v' w', OwnD w' base v' (l ++ l2) → w.grownBy w' v.ownBlock → wpList Try.prog ops Q rest (a.put o.dst v') w') : wpList Try.prog ops Q (o :: rest) a w := by
  refine wpList_plain hgd fun K hK => ?_
  obtain ⟨v', w', hrun, h2, h3⟩ := run_app w base v l hown A m c l2 hr hm h63 hbase
  unfold Oper.wp execOp
  simp only [ho, hty, resolve, invoke, builtin, Sem.run_bind, Sem.run_pure, Result.andThen_ok, List.map_toArray, List.map_cons, List.map_nil, hs, hx, hrun]
  exact hK _ _ (h v' w' h2 h3)
end
end Go.Proofs.Ytghpcimeobmonaa
