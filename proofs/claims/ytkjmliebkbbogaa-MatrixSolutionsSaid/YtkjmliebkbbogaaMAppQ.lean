/- Several fractions are appended to an own list. -/
import Derived.Test.YtkjmliebkbbogaaMRk
namespace Go.Proofs.Ytkjmliebkbbogaa
set_option linter.unusedVariables false
set_option linter.unusedSimpArgs false
open Go.RowKit Plain

def NotU (u : Value) : Prop := ∀ x, u ≠ .int .u32 x
theorem OwnQ.toG {w : World} {base : Nat} {v : Value} {ds : List FrD} (h : OwnQ w base v ds) : OwnG 50 3 NotU w base v ds.length (ds.flatMap FrD.cells) :=
  ⟨h.1, fun g hg => by
    obtain ⟨cur, h1, h2⟩ := h.2 g hg
    exact ⟨cur, h1, fun i u hi x e => h2 i x (by rw [hi, e])⟩⟩
theorem OwnQ.ofG {w : World} {base : Nat} {v : Value} {ds : List FrD} (h : OwnG 50 3 NotU w base v ds.length (ds.flatMap FrD.cells)) : OwnQ w base v ds :=
  ⟨h.1, fun g hg => by
    obtain ⟨cur, h1, h2⟩ := h.2 g hg
    exact ⟨cur, h1, fun i x hi => h2 i _ hi x rfl⟩⟩
theorem OwnQ.empty (w : World) {base : Nat} (hb : base ≤ w.heap.size) : OwnQ (w.alloc (.cells #[] 50)) base (.slice (some ⟨w.heap.size, 0, none⟩) 0 0) [] := by
  have hB := Blk.new w 50 #[]
  exact ⟨⟨rfl, .inr ⟨w.heap.size, 0, #[], rfl, hb, hB, Nat.le_refl _, by decide, rfl, rfl⟩⟩, fun g hg => by
    simp [Value.ownBlock] at hg
    subst hg
    exact ⟨_, hB, fun i x => by simp⟩⟩
theorem notU_cells (d : FrD) : ∀ u ∈ d.cells, NotU u := fun u hu x e => by
  subst e
  simp [FrD.cells] at hu
set_option maxRecDepth 100000 in
theorem run_appQs (w : World) (base : Nat) (v : Value) (ds : List FrD) (hown : OwnQ w base v ds) (ad : Addr) (c : Nat) (es : List FrD) (hnews : ∀ j u, (es.flatMap FrD.cells)[j]? = some u → w.cell? (ad.add j) = some u)
    (h63 : ds.length + es.length ≤ 1000000000000) (hbase : base ≤ w.heap.size) :
    ∃ v' w', (Builtin.append_ #[23, 23] 23 #[v, .slice (some ad) es.length c]).run Try.prog w = .ok v' w' ∧ OwnQ w' base v' (ds ++ es) ∧ w.grownBy w' v.ownBlock := by
  obtain ⟨v', w', h1, h2, h3⟩ := run_appG0 (P := NotU) w base v ds.length _ Try.underlying23 infoFrac rfl (by decide) (fun i u hi x e => by
    subst e
    match i with
    | 0 => injection hi with hi; cases hi
    | 1 => injection hi with hi; cases hi
    | 2 => injection hi with hi; cases hi
    | i + 3 => simp [Value.cells] at hi) (by decide) hown.toG ad es.length c (es.flatMap FrD.cells) (flat_len es) hnews (fun u hu => by
      obtain ⟨d, _, hd⟩ := List.mem_flatMap.1 hu
      simp only [FrD.cells, List.mem_cons, List.not_mem_nil, or_false] at hd
      rcases hd with rfl | rfl | rfl <;> rfl) (fun u hu => by
      obtain ⟨d, _, hd⟩ := List.mem_flatMap.1 hu
      exact notU_cells d u hd) h63 hbase (fun u hu => by
      obtain ⟨d, _, hd⟩ := List.mem_flatMap.1 hu
      exact notU_cells d u hd)
  refine ⟨v', w', h1, OwnQ.ofG ?_, h3⟩
  rw [List.length_append, List.flatMap_append]
  exact h2
set_option maxRecDepth 100000 in
/-- Nothing is appended to an empty list. -/
theorem run_appQ0 (w : World) (g c : Nat) : (Builtin.append_ #[23, 23] 23 #[.slice (some ⟨g, 0, none⟩) 0 0, .slice none 0 c]).run Try.prog w = .ok (.slice (some ⟨g, 0, none⟩) 0 0) w := by
  obtain ⟨i, hi, hz0, hz1, hz2⟩ := info_parts infoFrac
  simp [Builtin.append_, run_underlying Try.underlying23, sizeOf, typeInfo, hi, Builtin.lenOf, Builtin.firstCells, loadCells, loadCellsFrom, storeCells]
theorem flat_take {ds : List FrD} {k j : Nat} {u : Value} (h : ((ds.take k).flatMap FrD.cells)[j]? = some u) : (ds.flatMap FrD.cells)[j]? = some u := by
  have hl := (List.getElem?_eq_some_iff.1 h).1
  have e : ds.flatMap FrD.cells = (ds.take k).flatMap FrD.cells ++ (ds.drop k).flatMap FrD.cells := by rw [← List.flatMap_append, List.take_append_drop]
  rw [e, List.getElem?_append_left hl]; exact h
theorem wpList_appQs {ops : Array Oper} {rest : List Oper} {o : Oper} {a : Act} {Q : Exit → Act → World → Prop} (hgd : o.guard = none) (hty : o.type = 23) (s x : Operand)
    (ho : o.op = .call { callee := .builtin .append, args := #[s, x], argTypes := #[23, 23] }) {w : World}
    (base : Nat) (v : Value) (ds : List FrD) (hs : a.eval s = v) (hown : OwnQ w base v ds) (ad : Addr) (m c : Nat) (es : List FrD) (hm : es.length = m) (hx : a.eval x = .slice (some ad) m c) (hnews : ∀ j u, (es.flatMap FrD.cells)[j]? = some u → w.cell? (ad.add j) = some u)
    (h63 : ds.length + m ≤ 1000000000000) (hbase : base ≤ w.heap.size)
    (h : ∀ v' w', OwnQ w' base v' (ds ++ es) → w.grownBy w' v.ownBlock → wpList Try.prog ops Q rest (a.put o.dst v') w') : wpList Try.prog ops Q (o :: rest) a w := by
  subst hm
  refine wpList_plain hgd fun K hK => ?_
  obtain ⟨v', w', hrun, h2, h3⟩ := run_appQs w base v ds hown ad c es hnews h63 hbase
  unfold Oper.wp execOp
  simp only [ho, hty, resolve, invoke, builtin, Sem.run_bind, Sem.run_pure, Result.andThen_ok, List.map_toArray, List.map_cons, List.map_nil, hs, hx, hrun]
  exact hK _ _ (h v' w' h2 h3)
theorem wpList_appQ0 {ops : Array Oper} {rest : List Oper} {o : Oper} {a : Act} {Q : Exit → Act → World → Prop} (hgd : o.guard = none) (hty : o.type = 23) (s x : Operand)
    (ho : o.op = .call { callee := .builtin .append, args := #[s, x], argTypes := #[23, 23] }) {w : World} (g c : Nat) (hs : a.eval s = .slice (some ⟨g, 0, none⟩) 0 0) (hx : a.eval x = .slice none 0 c)
    (h : wpList Try.prog ops Q rest (a.put o.dst (.slice (some ⟨g, 0, none⟩) 0 0)) w) : wpList Try.prog ops Q (o :: rest) a w := by
  refine wpList_plain hgd fun K hK => ?_
  unfold Oper.wp execOp
  simp only [ho, hty, resolve, invoke, builtin, Sem.run_bind, Sem.run_pure, Result.andThen_ok, List.map_toArray, List.map_cons, List.map_nil, hs, hx, run_appQ0]
  exact hK _ _ h
end Go.Proofs.Ytkjmliebkbbogaa
