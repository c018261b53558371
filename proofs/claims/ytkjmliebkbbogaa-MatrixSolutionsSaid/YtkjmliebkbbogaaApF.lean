/- append of a fraction to a slice of fractions that the call itself holds. -/
import Derived.Test.YtkjmliebkbbogaaLD
import Derived.Deep.AppendLies
import Derived.Maps.AppendAt
namespace Go.Proofs.Ytkjmliebkbbogaa
set_option linter.unusedVariables false
set_option linter.unusedSimpArgs false
open Go.RowKit Plain

theorem infoFrac : (Try.prog.info? 50).map (fun i => (i.zero, i.size, i.bytes)) = some (some (.agg #[.bool false, .slice none 0 0, .slice none 0 0]), 3, 56) := by kernel_rfl
/-- No digit among the cells. -/
def NoDigL (l : List Value) : Prop := ∀ u ∈ l, ∀ d, u ≠ .int .u32 d
theorem NoDigL.noDig {l : List Value} {cs : Array Value} (h : NoDigL l) (e : cs.toList = l) : NoDig cs := fun i d hi => by
  have : cs.toList[i]? = some (.int .u32 d) := by rw [← hi]; simp
  rw [e] at this
  exact h _ (List.mem_of_getElem? this) d rfl
theorem NoDig.list {cs : Array Value} (h : NoDig cs) : NoDigL cs.toList := fun u hu d e => by
  subst e
  obtain ⟨i, hi⟩ := List.getElem?_of_mem hu
  exact h i d (by simpa using hi)
theorem NoDigL.append {a b : List Value} (ha : NoDigL a) (hb : NoDigL b) : NoDigL (a ++ b) := fun u hu => by
  rcases List.mem_append.1 hu with h | h
  · exact ha u h
  · exact hb u h
theorem NoDigL.take {a : List Value} (ha : NoDigL a) (n : Nat) : NoDigL (a.take n) := fun u hu => ha u (List.mem_of_mem_take hu)
theorem NoDigL.drop {a : List Value} (ha : NoDigL a) (n : Nat) : NoDigL (a.drop n) := fun u hu => ha u (List.mem_of_mem_drop hu)
theorem noDig_zero (n : Nat) : NoDigL (Builtin.zeroCells #[.bool false, .slice none 0 0, .slice none 0 0] n).toList := fun u hu d e => by
  subst e
  simp only [Builtin.zeroCells, Array.toList_map, List.mem_map] at hu
  obtain ⟨i, _, hi⟩ := hu
  have h3 : i % 3 = 0 ∨ i % 3 = 1 ∨ i % 3 = 2 := by omega
  have hs : (#[Value.bool false, .slice none 0 0, .slice none 0 0] : Array Value).size = 3 := rfl
  rw [hs] at hi
  rcases h3 with h | h | h <;> rw [h] at hi <;> simp at hi
theorem noDig_cells (d : FrD) : NoDigL d.cells := fun u hu x => by
  simp only [FrD.cells, List.mem_cons, List.not_mem_nil, or_false] at hu
  rcases hu with rfl | rfl | rfl <;> simp
theorem noDig_flat (ds : List FrD) : NoDigL (ds.flatMap FrD.cells) := fun u hu => by
  obtain ⟨d, _, hd⟩ := List.mem_flatMap.1 hu
  exact noDig_cells d u hd
theorem flat_len (ds : List FrD) : (ds.flatMap FrD.cells).length = ds.length * 3 := by
  induction ds with
  | nil => rfl
  | cons d ds ih => rw [List.flatMap_cons, List.length_append, ih]; simp [FrD.cells]; omega
theorem flat3 : ∀ (ds : List FrD) (j i : Nat) (hj : j < ds.length), i < 3 → (ds.flatMap FrD.cells)[j * 3 + i]? = (ds[j]).cells[i]?
  | d :: ds, 0, i, _, hi => by
    rw [List.flatMap_cons, List.getElem?_append_left (by simp [FrD.cells]; omega)]
    simp
  | d :: ds, j + 1, i, hj, hi => by
    rw [List.flatMap_cons, List.getElem?_append_right (by simp [FrD.cells]; omega)]
    have e : (j + 1) * 3 + i - d.cells.length = j * 3 + i := by simp [FrD.cells]; omega
    rw [e, flat3 ds j i (by simpa using hj) hi]
    rfl
/-- A slice of fractions of the call's own. -/
def OwnQ (w : World) (base : Nat) (v : Value) (ds : List FrD) : Prop :=
  w.ownsRow base 50 3 v ds.length (ds.flatMap FrD.cells) ∧ ∀ g, v.ownBlock = some g → ∃ cur, Blk w g 50 cur ∧ NoDig cur
theorem OwnQ.nil (w : World) (base : Nat) : OwnQ w base (.slice none 0 0) [] := ⟨World.ownsRow_nil w base _ _, fun g h => by simp [Value.ownBlock] at h⟩
theorem OwnQ.below {w w' : World} {base : Nat} {v : Value} {ds : List FrD} (h : OwnQ w base v ds) (hb : Below w.heap.size w w') : OwnQ w' base v ds :=
  ⟨h.1.kept (row := none) ⟨hb.os, hb.tape, hb.output, hb.size, fun k hk _ => hb.block k hk⟩ (by cases hv : v.ownBlock <;> simp), fun g hg => by
    obtain ⟨cur, h1, h2⟩ := h.2 g hg
    exact ⟨cur, h1.keep hb, h2⟩⟩
theorem OwnQ.block {w : World} {base g : Nat} {v : Value} {ds : List FrD} (h : OwnQ w base v ds) (hg : v.ownBlock = some g) : base ≤ g := by
  rcases h.1.2 with ⟨rfl, _⟩ | ⟨g', cap, cur, rfl, hb, _⟩
  · simp [Value.ownBlock] at hg
  · simp [Value.ownBlock] at hg; omega
theorem OwnQ.fl {w : World} {base : Nat} {v : Value} {ds : List FrD} (h : OwnQ w base v ds) (hv : ∀ d ∈ ds, FV w d.v d.q) : ∃ A c, v = .slice A ds.length c ∧ FL w A c ds := by
  rcases h.1.2 with ⟨rfl, h0⟩ | ⟨g, cap, cur, rfl, hb, hg, hn, hm, hs, ht⟩
  · have : ds = [] := List.eq_nil_of_length_eq_zero h0
    subst this
    exact ⟨none, 0, rfl, ⟨by simp, by omega, fun j hj => by simp at hj⟩, hv⟩
  · have hm2 : maxLen = 9223372036854775807 := rfl
    refine ⟨_, cap, rfl, ⟨hn, by omega, fun j hj => ⟨_, rfl, (Array.getElem?_eq_some_iff.1 hg).1, fun i u hu => ?_⟩⟩, hv⟩
    have hi : i < 3 := by
      have := (List.getElem?_eq_some_iff.1 hu).1
      simpa [FrD.cells] using this
    rw [add_zero_, World.ownsRow.cellAt (n := ds.length) (base := base) (e := 50) (size := 3) (cap := cap) h.1 (j * 3 + i) (by omega), flat3 ds j i hj hi]
    exact hu
/-- A fraction is kept where a row of fractions of the call's own is appended to. -/
theorem FV.row {w w' : World} {base : Nat} {u v : Value} {q : Rat} {ds : List FrD} (h : FV w u q) (hown : OwnQ w base v ds) (hg : w.grownBy w' v.ownBlock) : FV w' u q := by
  cases hb : v.ownBlock with
  | none =>
    rw [hb] at hg
    exact h.below ⟨hg.os, hg.tape, hg.output, hg.size, fun k hk => hg.block k hk (by simp)⟩
  | some g =>
    rw [hb] at hg
    obtain ⟨cur, h1, h2⟩ := hown.2 g hb
    exact h.only_blk h1 h2 hg
set_option maxRecDepth 100000 in
theorem run_appQ (w : World) (base : Nat) (v : Value) (ds : List FrD) (hown : OwnQ w base v ds) (ad : Addr) (c : Nat) (d : FrD) (hnews : ∀ j u, d.cells[j]? = some u → w.cell? (ad.add j) = some u)
    (h63 : ds.length + 1 ≤ 1000000000000) (hbase : base ≤ w.heap.size) :
    ∃ v' w', (Builtin.append_ #[23, 23] 23 #[v, .slice (some ad) 1 c]).run Try.prog w = .ok v' w' ∧ OwnQ w' base v' (ds ++ [d]) ∧ w.grownBy w' v.ownBlock := by
  obtain ⟨i, hi, hz0, hz1, hz2⟩ := info_parts infoFrac
  have hm : maxLen = 9223372036854775807 := rfl
  have h1 : ∀ u ∈ d.cells, u.oneCell' = true := by
    intro u hu
    simp only [FrD.cells, List.mem_cons, List.not_mem_nil, or_false] at hu
    rcases hu with rfl | rfl | rfl <;> rfl
  have hl : d.cells.length = 1 * 3 := rfl
  obtain ⟨v', w', hrun, h2, h3, _⟩ := run_append_own (P := Try.prog) w base 23 23 50 i (.agg #[.bool false, .slice none 0 0, .slice none 0 0]) 3 56 Try.underlying23 hi hz0 hz1 hz2 rfl (by decide) v ds.length (ds.flatMap FrD.cells) hown.1 ad 1 c d.cells hl hnews h1 (by omega) (by omega) hbase
  refine ⟨v', w', hrun, ⟨?_, ?_⟩, h3⟩
  · rw [List.flatMap_append, List.length_append]
    simpa using h2
  · have hzc : (Value.agg #[.bool false, .slice none 0 0, .slice none 0 0]).cells = #[.bool false, .slice none 0 0, .slice none 0 0] := rfl
    have key : ∀ v2 w2, (Builtin.append_ #[23, 23] 23 #[v, .slice (some ad) 1 c]).run Try.prog w = .ok v2 w2 → (∀ g, v2.ownBlock = some g → ∃ cur, Blk w2 g 50 cur ∧ NoDig cur) → ∀ g, v'.ownBlock = some g → ∃ cur, Blk w' g 50 cur ∧ NoDig cur := by
      intro v2 w2 hr hk
      rw [hrun] at hr
      injection hr with e1 e2
      subst e1 e2
      exact hk
    rcases hown.1.2 with ⟨rfl, h0⟩ | ⟨g, cap, cur, rfl, hbg, hg, hnc, hcm, hcs, htake⟩
    · have hr := run_append_nil (P := Try.prog) w 23 23 50 i (.agg #[.bool false, .slice none 0 0, .slice none 0 0]) Try.underlying23 hi hz0 ad 1 c d.cells (by rw [hz1]; rfl) hnews (by omega) (by omega) (by rw [hz2]; omega)
      refine key _ _ hr fun g hg => ?_
      simp [Value.ownBlock] at hg
      subst hg
      refine ⟨_, heap_alloc_new w.drew _, NoDigL.noDig ((noDig_cells d).append (noDig_zero (grownCap w 1 0 50 - 1))) ?_⟩
      rw [hzc]; simp
    · by_cases hroom : ds.length + 1 ≤ cap
      · have hfit : ds.length * i.size + d.cells.length ≤ cur.size := by rw [hz1, hl, hcs]; omega
        have hr := run_append_room (P := Try.prog) w 23 23 50 i Try.underlying23 hi g ds.length cap cur hg ad 1 c d.cells (by rw [hz1]; rfl) hnews h1 hroom hfit
        refine key _ _ hr fun g' hg' => ?_
        simp [Value.ownBlock] at hg'
        subst hg'
        obtain ⟨cur', hb', hn'⟩ := hown.2 g rfl
        have ec : cur' = cur := by
          unfold Blk at hb'
          rw [hg] at hb'
          injection hb' with hb'
          injection hb' with hb' _ _
          exact hb'.symm
        subst ec
        exact ⟨_, setRow_heap w g cur' _ _ _ hg, NoDigL.noDig (((hn'.list.take (ds.length * i.size)).append (noDig_cells d)).append (hn'.list.drop (ds.length * i.size + d.cells.length))) rfl⟩
      · have holds : ∀ j u, (ds.flatMap FrD.cells)[j]? = some u → w.cell? ((⟨g, 0, none⟩ : Addr).add j) = some u := hown.1.cells (g := g) rfl
        have hr := run_append_grow (P := Try.prog) w 23 23 50 i (.agg #[.bool false, .slice none 0 0, .slice none 0 0]) Try.underlying23 hi hz0 ⟨g, 0, none⟩ ds.length cap (ds.flatMap FrD.cells) (by rw [hz1]; exact flat_len ds) holds ad 1 c d.cells (by rw [hz1]; rfl) hnews (by omega) (by omega) (growslice_fits (by omega) (by rw [hz2]; omega))
        refine key _ _ hr fun g' hg' => ?_
        simp [Value.ownBlock] at hg'
        subst hg'
        refine ⟨_, heap_alloc_new w.drew _, NoDigL.noDig (((noDig_flat ds).append (noDig_cells d)).append (noDig_zero (grownCap w (ds.length + 1) cap 50 - (ds.length + 1)))) ?_⟩
        rw [hzc]; simp
/-- At a step of a region that draws its order. -/
theorem step_appQ {w : World} {ops : Array Oper} {o : Oper} {a : Act} {K : Act → World → Prop} {Q : Exit → Act → World → Prop} {E : Prop} (hgd : o.guard = none) (s x : Operand)
    (ho : o.op = .call { callee := .builtin .append, args := #[s, x], argTypes := #[23, 23] }) (hty : o.type = 23)
    (base : Nat) (v : Value) (ds : List FrD) (hs : a.eval s = v) (hown : OwnQ w base v ds) (ad : Addr) (c : Nat) (d : FrD) (hx : a.eval x = .slice (some ad) 1 c) (hnews : ∀ j u, d.cells[j]? = some u → w.cell? (ad.add j) = some u)
    (h63 : ds.length + 1 ≤ 1000000000000) (hbase : base ≤ w.heap.size)
    (h : ∀ v' w', OwnQ w' base v' (ds ++ [d]) → w.grownBy w' v.ownBlock → K (a.put o.dst v') w') :
    if Region.wanted o (yielded ops a.tmps) = true then Oper.wp Try.prog o a w K Q else E := by
  have hw : Region.wanted o (yielded ops a.tmps) = true := by simp [Region.wanted, hgd]
  rw [if_pos hw]
  obtain ⟨v', w', hr, h2, h3⟩ := run_appQ w base v ds hown ad c d hnews h63 hbase
  unfold Oper.wp execOp
  simp only [ho, hty, resolve, invoke, builtin, Sem.run_bind, Sem.run_pure, Result.andThen_ok, List.map_toArray, List.map_cons, List.map_nil, hs, hx, hr]
  exact h v' w' h2 h3
/-- Not in a drawn region. -/
theorem wpList_appQ {ops : Array Oper} {rest : List Oper} {o : Oper} {a : Act} {Q : Exit → Act → World → Prop} (hgd : o.guard = none) (hty : o.type = 23) (s x : Operand)
    (ho : o.op = .call { callee := .builtin .append, args := #[s, x], argTypes := #[23, 23] }) {w : World}
    (base : Nat) (v : Value) (ds : List FrD) (hs : a.eval s = v) (hown : OwnQ w base v ds) (ad : Addr) (c : Nat) (d : FrD) (hx : a.eval x = .slice (some ad) 1 c) (hnews : ∀ j u, d.cells[j]? = some u → w.cell? (ad.add j) = some u)
    (h63 : ds.length + 1 ≤ 1000000000000) (hbase : base ≤ w.heap.size)
    (h : ∀ v' w', OwnQ w' base v' (ds ++ [d]) → w.grownBy w' v.ownBlock → wpList Try.prog ops Q rest (a.put o.dst v') w') : wpList Try.prog ops Q (o :: rest) a w := by
  refine wpList_plain hgd fun K hK => ?_
  obtain ⟨v', w', hrun, h2, h3⟩ := run_appQ w base v ds hown ad c d hnews h63 hbase
  unfold Oper.wp execOp
  simp only [ho, hty, resolve, invoke, builtin, Sem.run_bind, Sem.run_pure, Result.andThen_ok, List.map_toArray, List.map_cons, List.map_nil, hs, hx, hrun]
  exact hK _ _ (h v' w' h2 h3)
theorem Nv.row {w w' : World} {base c : Nat} {A : Option Addr} {l : List Nat} {v : Value} {ds : List FrD} (h : Nv w A c l) (hown : OwnQ w base v ds) (hg : w.grownBy w' v.ownBlock) : Nv w' A c l := by
  cases hb : v.ownBlock with
  | none =>
    rw [hb] at hg
    exact h.below ⟨hg.os, hg.tape, hg.output, hg.size, fun k hk => hg.block k hk (by simp)⟩
  | some g =>
    rw [hb] at hg
    obtain ⟨cur, h1, h2⟩ := hown.2 g hb
    exact h.only_blk h1 h2 hg
end Go.Proofs.Ytkjmliebkbbogaa
