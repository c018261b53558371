/- Matrices of fractions in memory; slices of the call's own whose cells have one form. -/
import Derived.Test.YtkjmliebkbbogaaOwnL
import Derived.Test.YtkjmliebkbbogaaMSys
import Derived.Test.YtkjmliebkbbogaaFSign
import Derived.Test.YtkjmliebkbbogaaFDot
import Derived.Test.YtkjmliebkbbogaaGValid
import Derived.Deep.RegionHeld3
namespace Go.Proofs.Ytkjmliebkbbogaa
set_option linter.unusedVariables false
set_option linter.unusedSimpArgs false
open Go.RowKit Plain

/-- All cells of a block have the form P. -/
def AllP (P : Value → Prop) (cs : Array Value) : Prop := ∀ (i : Nat) (u : Value), cs[i]? = some u → P u
def AllPL (P : Value → Prop) (l : List Value) : Prop := ∀ u ∈ l, P u
theorem AllPL.toAll {P : Value → Prop} {l : List Value} {cs : Array Value} (h : AllPL P l) (e : cs.toList = l) : AllP P cs := fun i u hi => by
  have : cs.toList[i]? = some u := by rw [← hi]; simp
  rw [e] at this
  exact h _ (List.mem_of_getElem? this)
theorem AllP.list {P : Value → Prop} {cs : Array Value} (h : AllP P cs) : AllPL P cs.toList := fun u hu => by
  obtain ⟨i, hi⟩ := List.getElem?_of_mem hu
  exact h i u (by simpa using hi)
theorem AllPL.append {P : Value → Prop} {a b : List Value} (ha : AllPL P a) (hb : AllPL P b) : AllPL P (a ++ b) := fun u hu => by
  rcases List.mem_append.1 hu with h | h
  · exact ha u h
  · exact hb u h
theorem AllPL.take {P : Value → Prop} {a : List Value} (ha : AllPL P a) (n : Nat) : AllPL P (a.take n) := fun u hu => ha u (List.mem_of_mem_take hu)
theorem AllPL.drop {P : Value → Prop} {a : List Value} (ha : AllPL P a) (n : Nat) : AllPL P (a.drop n) := fun u hu => ha u (List.mem_of_mem_drop hu)
theorem allP_zero {P : Value → Prop} {z : Array Value} (h : AllP P z) (hs : 0 < z.size) (n : Nat) : AllPL P (Builtin.zeroCells z n).toList := fun u hu => by
  simp only [Builtin.zeroCells, Array.toList_map, List.mem_map] at hu
  obtain ⟨i, _, rfl⟩ := hu
  have hi : i % z.size < z.size := Nat.mod_lt _ hs
  refine h (i % z.size) _ ?_
  rw [getElem!_pos z _ hi, Array.getElem?_eq_getElem hi]
/-- A slice of the call's own. -/
def OwnG (E : TypeId) (C : Nat) (P : Value → Prop) (w : World) (base : Nat) (v : Value) (n : Nat) (xs : List Value) : Prop :=
  w.ownsRow base E C v n xs ∧ ∀ g, v.ownBlock = some g → ∃ cur, Blk w g E cur ∧ AllP P cur
section
variable {E T : TypeId} {C : Nat} {P : Value → Prop}
theorem OwnG.nil (w : World) (base : Nat) : OwnG E C P w base (.slice none 0 0) 0 [] := ⟨World.ownsRow_nil w base _ _, fun g h => by simp [Value.ownBlock] at h⟩
theorem OwnG.below {w w' : World} {base n : Nat} {v : Value} {xs : List Value} (h : OwnG E C P w base v n xs) (hb : Below w.heap.size w w') : OwnG E C P w' base v n xs :=
  ⟨h.1.kept (row := none) ⟨hb.os, hb.tape, hb.output, hb.size, fun k hk _ => hb.block k hk⟩ (by cases hv : v.ownBlock <;> simp), fun g hg => by
    obtain ⟨cur, h1, h2⟩ := h.2 g hg
    exact ⟨cur, h1.keep hb, h2⟩⟩
theorem OwnG.block {w : World} {base g n : Nat} {v : Value} {xs : List Value} (h : OwnG E C P w base v n xs) (hg : v.ownBlock = some g) : base ≤ g := by
  rcases h.1.2 with ⟨rfl, _⟩ | ⟨g', cap, cur, rfl, hb, _⟩
  · simp [Value.ownBlock] at hg
  · simp [Value.ownBlock] at hg; omega
theorem Nv.own {w w' : World} {base c n : Nat} {A : Option Addr} {l : List Nat} {v : Value} {xs : List Value} (hd : ∀ d, ¬ P (.int .u32 d)) (h : Nv w A c l) (hown : OwnG E C P w base v n xs) (hg : w.grownBy w' v.ownBlock) : Nv w' A c l := by
  cases hb : v.ownBlock with
  | none =>
    rw [hb] at hg
    exact h.below ⟨hg.os, hg.tape, hg.output, hg.size, fun k hk => hg.block k hk (by simp)⟩
  | some g =>
    rw [hb] at hg
    obtain ⟨cur, h1, h2⟩ := hown.2 g hb
    exact h.only_blk h1 (fun i d hi => hd d (h2 i _ hi)) hg
theorem FV.own {w w' : World} {base n : Nat} {u v : Value} {q : Rat} {xs : List Value} (hd : ∀ d, ¬ P (.int .u32 d)) (h : FV w u q) (hown : OwnG E C P w base v n xs) (hg : w.grownBy w' v.ownBlock) : FV w' u q := by
  obtain ⟨neg, A, ca, la, B, cb, lb, e, ha, hb', hq⟩ := h
  exact ⟨neg, A, ca, la, B, cb, lb, e, ha.own hd hown hg, hb'.own hd hown hg, hq⟩
/-- A slice of structs is kept where a block turns whose cells have another form. -/
theorem Srow.only_p {α : Type} {D : Nat} {cells : α → List Value} {w w' : World} {g c : Nat} {t : TypeId} {cs : Array Value} {A : Option Addr} {ds : List α} (hb : ∀ d, ∃ (i : Nat) (u : Value), (cells d)[i]? = some u ∧ ¬ P u)
    (h : Srow w D cells A c ds) (hB : Blk w g t cs) (hs : AllP P cs) (ho : Only w w' g) : Srow w' D cells A c ds :=
  ⟨h.1, h.2.1, fun j hj => by
    obtain ⟨a, e, h1, h2⟩ := h.2.2 j hj
    have hne : a.block ≠ g := fun hg => by
      obtain ⟨i, u, hib, hnp⟩ := hb ds[j]
      have h3 := h2 i _ hib
      unfold Blk at hB
      unfold World.cell? at h3
      rw [block_add, hg, hB] at h3
      simp only at h3
      split at h3
      · cases h3
      · exact hnp (hs _ _ h3)
    have hk := ho.block a.block h1 (by simpa using hne)
    exact ⟨a, e, Nat.lt_of_lt_of_le h1 ho.size, fun i u hu => by
      rw [World.cell?_of_block (w := w) (by rw [block_add]; exact hk)]
      exact h2 i u hu⟩⟩
theorem Srow.own {α : Type} {D : Nat} {cells : α → List Value} {w w' : World} {base c n : Nat} {A : Option Addr} {ds : List α} {v : Value} {xs : List Value} (hb : ∀ d, ∃ (i : Nat) (u : Value), (cells d)[i]? = some u ∧ ¬ P u)
    (h : Srow w D cells A c ds) (hown : OwnG E C P w base v n xs) (hg : w.grownBy w' v.ownBlock) : Srow w' D cells A c ds := by
  cases hv : v.ownBlock with
  | none =>
    rw [hv] at hg
    exact h.below ⟨hg.os, hg.tape, hg.output, hg.size, fun k hk => hg.block k hk (by simp)⟩
  | some g =>
    rw [hv] at hg
    obtain ⟨cur, h1, h2⟩ := hown.2 g hv
    exact h.only_p hb h1 h2 hg
theorem FL.own {w w' : World} {base c n : Nat} {A : Option Addr} {ds : List FrD} {v : Value} {xs : List Value} (hd : ∀ d, ¬ P (.int .u32 d)) (hp : ¬ P (.bool true) ∧ ¬ P (.bool false)) (h : FL w A c ds) (hown : OwnG E C P w base v n xs) (hg : w.grownBy w' v.ownBlock) : FL w' A c ds :=
  ⟨h.row.own (P := P) (fun d => ⟨0, .bool d.neg, rfl, by cases d.neg with | false => exact hp.2 | true => exact hp.1⟩) hown hg, fun d hx => (h.fv d hx).own hd hown hg⟩
set_option maxRecDepth 100000 in
theorem run_appG {z : Value} {b : Nat} (w : World) (base : Nat) (v : Value) (n : Nat) (xs : List Value) (hT : Try.prog.underlying T = some (.slice E)) (hI : (Try.prog.info? E).map (fun i => (i.zero, i.size, i.bytes)) = some (some z, C, b)) (hzs : z.cells.size = C) (hC : 0 < C) (hzP : AllP P z.cells) (hb : b ≤ 100)
    (hown : OwnG E C P w base v n xs) (ad : Addr) (m c : Nat) (news : List Value) (hm : 0 < m) (hl : news.length = m * C) (hnews : ∀ j u, news[j]? = some u → w.cell? (ad.add j) = some u) (h1 : ∀ u ∈ news, u.oneCell' = true) (hnP : AllPL P news)
    (h63 : n + m ≤ 1000000000000) (hbase : base ≤ w.heap.size) (hxP : AllPL P xs) :
    ∃ v' w', (Builtin.append_ #[T, T] T #[v, .slice (some ad) m c]).run Try.prog w = .ok v' w' ∧ OwnG E C P w' base v' (n + m) (xs ++ news) ∧ w.grownBy w' v.ownBlock := by
  obtain ⟨i, hi, hz0, hz1, hz2⟩ := info_parts hI
  have hmx : maxLen = 9223372036854775807 := rfl
  have hby : ∀ k, k ≤ 1000000000000 → k * b ≤ 140737488355328 := fun k hk => Nat.le_trans (Nat.mul_le_mul hk hb) (by omega)
  obtain ⟨v', w', hrun, h2, h3, _⟩ := run_append_own (P := Try.prog) w base T T E i z C b hT hi hz0 hz1 hz2 hzs hC v n xs hown.1 ad m c news hl hnews h1 (by omega) (hby _ h63) hbase
  refine ⟨v', w', hrun, ⟨h2, ?_⟩, h3⟩
  have key : ∀ v2 w2, (Builtin.append_ #[T, T] T #[v, .slice (some ad) m c]).run Try.prog w = .ok v2 w2 → (∀ g, v2.ownBlock = some g → ∃ cur, Blk w2 g E cur ∧ AllP P cur) → ∀ g, v'.ownBlock = some g → ∃ cur, Blk w' g E cur ∧ AllP P cur := by
    intro v2 w2 hr hk
    rw [hrun] at hr
    injection hr with e1 e2
    subst e1 e2
    exact hk
  rcases hown.1.2 with ⟨rfl, h0⟩ | ⟨g, cap, cur, rfl, hbg, hg, hnc, hcm, hcs, htake⟩
  · have hr := run_append_nil (P := Try.prog) w T T E i z hT hi hz0 ad m c news (by rw [hz1]; exact hl) hnews hm (by omega) (by rw [hz2]; have := hby m (by omega); omega)
    refine key _ _ hr fun g hg => ?_
    simp [Value.ownBlock] at hg
    subst hg
    exact ⟨_, heap_alloc_new w.drew _, AllPL.toAll (hnP.append (allP_zero hzP (by omega) (grownCap w m 0 E - m))) (by simp)⟩
  · by_cases hroom : n + m ≤ cap
    · have hfit : n * i.size + news.length ≤ cur.size := by rw [hz1, hl, hcs, ← Nat.add_mul]; exact Nat.mul_le_mul_right _ hroom
      have hr := run_append_room (P := Try.prog) w T T E i hT hi g n cap cur hg ad m c news (by rw [hz1]; exact hl) hnews h1 hroom hfit
      refine key _ _ hr fun g' hg' => ?_
      simp [Value.ownBlock] at hg'
      subst hg'
      obtain ⟨cur', hb', hn'⟩ := hown.2 g rfl
      have ec : cur' = cur := by
        unfold Blk at hb'
        rw [hg] at hb'
        injection hb' with hb'
        injection hb' with hb' _ _
        exact hb'.symm
      subst ec
      exact ⟨_, setRow_heap w g cur' _ _ _ hg, AllPL.toAll (((hn'.list.take (n * i.size)).append hnP).append (hn'.list.drop (n * i.size + news.length))) rfl⟩
    · have holds : ∀ j u, xs[j]? = some u → w.cell? ((⟨g, 0, none⟩ : Addr).add j) = some u := hown.1.cells (g := g) rfl
      have hr := run_append_grow (P := Try.prog) w T T E i z hT hi hz0 ⟨g, 0, none⟩ n cap xs (by rw [hz1]; exact hown.1.1) holds ad m c news (by rw [hz1]; exact hl) hnews (by omega) (by omega) (growslice_fits (by omega) (by rw [hz2]; exact hby _ h63))
      refine key _ _ hr fun g' hg' => ?_
      simp [Value.ownBlock] at hg'
      subst hg'
      exact ⟨_, heap_alloc_new w.drew _, AllPL.toAll ((hxP.append hnP).append (allP_zero hzP (by omega) (grownCap w (n + m) cap E - (n + m)))) (by simp)⟩
end
/-- A row of a matrix as it lies in memory. -/
structure RwD where
  a : Option Addr
  c : Nat
  ds : List FrD
abbrev RwD.v (r : RwD) : Value := .slice r.a r.ds.length r.c
def RwD.cells (r : RwD) : List Value := [r.v]
def RwD.qs (r : RwD) : List Rat := r.ds.map FrD.q
theorem RwD.qs_len (r : RwD) : r.qs.length = r.ds.length := by simp [RwD.qs]
/-- A matrix of valid fractions. -/
structure ML (w : World) (A : Option Addr) (c : Nat) (rows : List RwD) : Prop where
  row : Srow w 1 RwD.cells A c rows
  fl : ∀ r ∈ rows, FL w r.a r.c r.ds
def qsM (rows : List RwD) : Mat := rows.map RwD.qs
theorem qsM_len (rows : List RwD) : (qsM rows).length = rows.length := by simp [qsM]
theorem ML.below {w w' : World} {A : Option Addr} {c : Nat} {rows : List RwD} (h : ML w A c rows) (hb : Below w.heap.size w w') : ML w' A c rows := ⟨h.row.below hb, fun r hr => (h.fl r hr).below hb⟩
theorem ML.len {w : World} {A : Option Addr} {c : Nat} {rows : List RwD} (h : ML w A c rows) : rows.length ≤ c ∧ c ≤ 9223372036854775807 := ⟨h.row.1, h.row.2.1⟩
theorem ML.at {w : World} {A : Option Addr} {c : Nat} {rows : List RwD} (h : ML w A c rows) {k : Nat} (hk : k < rows.length) :
    ∃ a r, A = some a ∧ a.block < w.heap.size ∧ w.cell? (a.add k) = some (.slice r.a r.ds.length r.c) ∧ FL w r.a r.c r.ds ∧ Hid (rows[k]? = some r) := by
  obtain ⟨a, e, h1, h2⟩ := h.row.2.2 k hk
  have h3 := h2 0 _ rfl
  rw [Nat.mul_one, Nat.add_zero] at h3
  exact ⟨a, rows[k], e, h1, h3, h.fl _ (List.getElem_mem hk), List.getElem?_eq_getElem hk⟩
/-- Few digits. -/
def QFits (K : Nat) (l : List Rat) : Prop := ∀ q ∈ l, Fits K q
def MFits (K : Nat) (M : Mat) : Prop := ∀ r ∈ M, QFits K r
theorem QFits.mono {J K : Nat} {l : List Rat} (h : QFits J l) (hk : J ≤ K) : QFits K l := fun q hq => (h q hq).mono hk
theorem MFits.mono {J K : Nat} {M : Mat} (h : MFits J M) (hk : J ≤ K) : MFits K M := fun r hr => (h r hr).mono hk
theorem QFits.fr {K : Nat} {ds : List FrD} (h : QFits K (ds.map FrD.q)) : ∀ d ∈ ds, Fits K d.q := fun d hd => h _ (List.mem_map.2 ⟨d, hd, rfl⟩)
theorem QFits.of {K : Nat} {ds : List FrD} (h : ∀ d ∈ ds, Fits K d.q) : QFits K (ds.map FrD.q) := fun q hq => by obtain ⟨d, hd, rfl⟩ := List.mem_map.1 hq; exact h d hd
theorem MFits.row {K : Nat} {rows : List RwD} (h : MFits K (qsM rows)) {k : Nat} {r : RwD} (hk : rows[k]? = some r) : QFits K r.qs := h _ (List.mem_map.2 ⟨r, List.mem_of_getElem? hk, rfl⟩)
/-- Cells that hold slices. -/
def IsSl (u : Value) : Prop := ∃ A n c, u = .slice A n c
theorem isSl_u32 (d : Int) : ¬ IsSl (.int .u32 d) := by rintro ⟨A, n, c, h⟩; cases h
theorem isSl_bool (b : Bool) : ¬ IsSl (.bool b) := by rintro ⟨A, n, c, h⟩; cases h
theorem isSl_cells (rows : List RwD) : AllPL IsSl (rows.flatMap RwD.cells) := fun u hu => by
  obtain ⟨r, _, hr⟩ := List.mem_flatMap.1 hu
  simp [RwD.cells] at hr
  exact ⟨_, _, _, hr⟩
theorem flat_rows (rows : List RwD) : (rows.flatMap RwD.cells).length = rows.length * 1 := by
  induction rows with
  | nil => rfl
  | cons r rs ih => rw [List.flatMap_cons, List.length_append, ih]; simp [RwD.cells]; omega
/-- A matrix of the call's own. -/
def OwnM (w : World) (base : Nat) (v : Value) (rows : List RwD) : Prop := OwnG 23 1 IsSl w base v rows.length (rows.flatMap RwD.cells)
theorem OwnM.nil (w : World) (base : Nat) : OwnM w base (.slice none 0 0) [] := OwnG.nil w base
theorem infoRow : (Try.prog.info? 23).map (fun i => (i.zero, i.size, i.bytes)) = some (some (.slice none 0 0), 1, 24) := by kernel_rfl
set_option maxRecDepth 100000 in
/-- A row is appended. -/
theorem run_appM {T : TypeId} (hT : Try.prog.underlying T = some (.slice 23)) (w : World) (base : Nat) (v : Value) (rows : List RwD) (hown : OwnM w base v rows) (ad : Addr) (c : Nat) (r : RwD) (hnews : w.cell? ad = some r.v) (h63 : rows.length + 1 ≤ 1000000000000) (hbase : base ≤ w.heap.size) :
    ∃ v' w', (Builtin.append_ #[T, T] T #[v, .slice (some ad) 1 c]).run Try.prog w = .ok v' w' ∧ OwnM w' base v' (rows ++ [r]) ∧ w.grownBy w' v.ownBlock := by
  obtain ⟨v', w', h1, h2, h3⟩ := run_appG w base v rows.length _ hT infoRow rfl (by decide) (fun i u hi => by
    match i with
    | 0 => injection hi with hi; exact ⟨_, _, _, hi.symm⟩
    | i + 1 => simp [Value.cells] at hi) (by decide) hown ad 1 c r.cells (by decide) rfl (fun j u hj => by
    match j with
    | 0 => injection hj with hj; subst hj; simpa [Addr.add] using hnews
    | j + 1 => simp [RwD.cells] at hj) (fun u hu => by simp [RwD.cells] at hu; subst hu; rfl) (fun u hu => by simp [RwD.cells] at hu; exact ⟨_, _, _, hu⟩) h63 hbase (isSl_cells rows)
  refine ⟨v', w', h1, ?_, h3⟩
  unfold OwnM
  rw [List.length_append, List.flatMap_append]
  simpa using h2
theorem wpList_appM {ops : Array Oper} {rest : List Oper} {o : Oper} {a : Act} {Q : Exit → Act → World → Prop} (hgd : o.guard = none) {T : TypeId} (hT : Try.prog.underlying T = some (.slice 23)) (hty : o.type = T) (s x : Operand)
    (ho : o.op = .call { callee := .builtin .append, args := #[s, x], argTypes := #[T, T] }) {w : World}
    (base : Nat) (v : Value) (rows : List RwD) (hs : a.eval s = v) (hown : OwnM w base v rows) (ad : Addr) (c : Nat) (r : RwD) (hx : a.eval x = .slice (some ad) 1 c) (hnews : w.cell? ad = some r.v)
    (h63 : rows.length + 1 ≤ 1000000000000) (hbase : base ≤ w.heap.size)
    (h : ∀ v' w', OwnM w' base v' (rows ++ [r]) → w.grownBy w' v.ownBlock → wpList Try.prog ops Q rest (a.put o.dst v') w') : wpList Try.prog ops Q (o :: rest) a w := by
  refine wpList_plain hgd fun K hK => ?_
  obtain ⟨v', w', hrun, h2, h3⟩ := run_appM hT w base v rows hown ad c r hnews h63 hbase
  unfold Oper.wp execOp
  simp only [ho, hty, resolve, invoke, builtin, Sem.run_bind, Sem.run_pure, Result.andThen_ok, List.map_toArray, List.map_cons, List.map_nil, hs, hx, hrun]
  exact hK _ _ (h v' w' h2 h3)
theorem FL.ownM {w w' : World} {base c : Nat} {A : Option Addr} {ds : List FrD} {v : Value} {rows : List RwD} (h : FL w A c ds) (hown : OwnM w base v rows) (hg : w.grownBy w' v.ownBlock) : FL w' A c ds := h.own isSl_u32 ⟨isSl_bool _, isSl_bool _⟩ hown hg
theorem OwnM.below {w w' : World} {base : Nat} {v : Value} {rows : List RwD} (h : OwnM w base v rows) (hb : Below w.heap.size w w') : OwnM w' base v rows := OwnG.below h hb
theorem flat1 {rows : List RwD} {j : Nat} (hj : j < rows.length) : (rows.flatMap RwD.cells)[j]? = some (rows[j]).v := by
  have h : ∀ (rows : List RwD) (j : Nat) (hj : j < rows.length), (rows.flatMap RwD.cells)[j]? = some (rows[j]).v := by
    intro rows
    induction rows with
    | nil => intro j hj; simp at hj
    | cons r rs ih =>
      intro j hj
      cases j with
      | zero => rfl
      | succ j =>
        rw [List.flatMap_cons, show r.cells ++ rs.flatMap RwD.cells = r.v :: rs.flatMap RwD.cells from rfl, List.getElem?_cons_succ, ih j (by simpa using hj)]
        rfl
  exact h rows j hj
theorem OwnM.ml {w : World} {base : Nat} {v : Value} {rows : List RwD} (h : OwnM w base v rows) (hv : ∀ r ∈ rows, FL w r.a r.c r.ds) : ∃ A c, v = .slice A rows.length c ∧ ML w A c rows := by
  rcases h.1.2 with ⟨rfl, h0⟩ | ⟨g, cap, cur, rfl, hb, hg, hn, hm, hs, ht⟩
  · have : rows = [] := List.eq_nil_of_length_eq_zero h0
    subst this
    exact ⟨none, 0, rfl, ⟨by simp, by omega, fun j hj => by simp at hj⟩, hv⟩
  · have hm2 : maxLen = 9223372036854775807 := rfl
    refine ⟨_, cap, rfl, ⟨hn, by omega, fun j hj => ⟨_, rfl, (Array.getElem?_eq_some_iff.1 hg).1, fun i u hu => ?_⟩⟩, hv⟩
    have hi : i = 0 := by
      have := (List.getElem?_eq_some_iff.1 hu).1
      simpa [RwD.cells] using this
    subst hi
    rw [Nat.mul_one, Nat.add_zero, add_zero_, World.ownsRow.cellAt (n := rows.length) (base := base) (e := 23) (size := 1) (cap := cap) h.1 j (by omega), flat1 hj]
    exact hu
end Go.Proofs.Ytkjmliebkbbogaa
/- Invariants of rounds over lists. -/
namespace Go.Proofs.Ytkjmliebkbbogaa
set_option linter.unusedVariables false
set_option linter.unusedSimpArgs false
open Go.RowKit Plain

def EveryInv {α : Type} (f : α → Bool) (l : List α) (w : World) (i : Value) (wr : World) : Prop :=
  ∃ k : Nat, k ≤ l.length ∧ i = .int .i64 (k : Int) ∧ Hid ((l.take k).all f = true) ∧ Below w.heap.size w wr
theorem every_take {α : Type} {f : α → Bool} {l : List α} {k : Nat} {x : α} (h : (l.take k).all f = true) (hk : l[k]? = some x) (hx : f x = true) : (l.take (k + 1)).all f = true := by
  rw [List.take_add_one, hk, List.all_append, h]; simp [hx]
theorem every_no {α : Type} {f : α → Bool} {l : List α} {k : Nat} {x : α} (hk : l[k]? = some x) (h : f x = false) : l.all f = false := by
  rw [List.all_eq_false]; exact ⟨x, List.mem_of_getElem? hk, by rw [h]; decide⟩
def PairInv {α : Type} (xs ys : List α) (w : World) (i : Value) (wr : World) : Prop :=
  ∃ k : Nat, k ≤ xs.length ∧ i = .int .i64 (k : Int) ∧ Hid (xs.take k = ys.take k) ∧ Below w.heap.size w wr
theorem pair_take {α : Type} {xs ys : List α} {k : Nat} {x : α} (h : xs.take k = ys.take k) (hx : xs[k]? = some x) (hy : ys[k]? = some x) : xs.take (k + 1) = ys.take (k + 1) := by
  rw [List.take_add_one, List.take_add_one, h, hx, hy]
theorem pair_no {α : Type} {xs ys : List α} {k : Nat} {x y : α} (hx : xs[k]? = some x) (hy : ys[k]? = some y) (hn : x ≠ y) : xs ≠ ys := fun e => by
  subst e
  rw [hx] at hy
  injection hy with hy
  exact hn hy
theorem getD_some {l : List Nat} {k d : Nat} (h : l.getD k 0 = d) (hk : k < l.length) : l[k]? = some d := by
  rw [List.getD_eq_getElem?_getD, List.getElem?_eq_getElem hk] at h
  rw [List.getElem?_eq_getElem hk]; exact congrArg some h
theorem map_some {α β : Type} {f : α → β} {l : List α} {k : Nat} {d : α} (h : l[k]? = some d) : (l.map f)[k]? = some (f d) := by rw [List.getElem?_map, h]; rfl
/-- A call that returns an integer and a truth value. -/
def RetIB (n : Nat) (b : Bool) (W : World) (e : Ending) (w' : World) : Prop := e = .returned (.tuple #[.int .i64 (n : Int), .bool b]) ∧ Below W.heap.size W w'
/-- A call that returns a list of fractions. -/
def RetLs (qs : List Rat) (W : World) (e : Ending) (w' : World) : Prop := ∃ A c ds, e = .returned (.slice A ds.length c) ∧ FL w' A c ds ∧ Hid (ds.map FrD.q = qs) ∧ Below W.heap.size W w'
/-- A call that returns a matrix. -/
def RetM (M : Mat) (W : World) (e : Ending) (w' : World) : Prop := ∃ A c rows, e = .returned (.slice A rows.length c) ∧ ML w' A c rows ∧ Hid (qsM rows = M) ∧ Below W.heap.size W w'
theorem FL.nil (w : World) : FL w none 0 [] := ⟨⟨by simp, by omega, fun j hj => by simp at hj⟩, fun d hd => by simp at hd⟩
theorem ML.nil (w : World) : ML w none 0 [] := ⟨⟨by simp, by omega, fun j hj => by simp at hj⟩, fun d hd => by simp at hd⟩
end Go.Proofs.Ytkjmliebkbbogaa
/- Rounds that collect fractions, and rows. -/
namespace Go.Proofs.Ytkjmliebkbbogaa
set_option linter.unusedVariables false
set_option linter.unusedSimpArgs false
open Go.RowKit Plain

/-- The slice v holds the first k of the fractions qs; root is the world before the slice. -/
def LsAt (qs : List Rat) (root : World) (k : Nat) (v : Value) (wr : World) : Prop :=
  ∃ os : List FrD, OwnQ wr root.heap.size v os ∧ AllFV wr os ∧ os.length = k ∧ os.map FrD.q = qs.take k ∧ Below root.heap.size root wr
theorem LsAt.nil (qs : List Rat) (root : World) : LsAt qs root 0 (.slice none 0 0) root := ⟨[], OwnQ.nil _ _, fun d hd => by simp at hd, rfl, rfl, Below.refl _ _⟩
theorem LsAt.start (qs : List Rat) {root wr : World} (h : Below root.heap.size root wr) : LsAt qs root 0 (.slice none 0 0) wr := ⟨[], OwnQ.nil _ _, fun d hd => by simp at hd, rfl, rfl, h⟩
theorem LsAt.below {qs : List Rat} {root : World} {k : Nat} {v : Value} {w w' : World} (h : LsAt qs root k v w) (hb : Below w.heap.size w w') : LsAt qs root k v w' := by
  obtain ⟨os, h1, h2, h3, h4, h5⟩ := h
  exact ⟨os, h1.below hb, fun d hd => (h2 d hd).below hb, h3, h4, h5.trans (hb.mono h5.size)⟩
theorem LsAt.bel {qs : List Rat} {root : World} {k : Nat} {v : Value} {w : World} (h : LsAt qs root k v w) : Below root.heap.size root w := by
  obtain ⟨os, h1, h2, h3, h4, h5⟩ := h; exact h5
theorem LsAt.app {qs : List Rat} {root : World} {k : Nat} {v : Value} {w : World} {n1 : Bool} {A1 B1 : Option Addr} {a1 c1 : Nat} {l1 m1 : List Nat} {q : Rat} (h : LsAt qs root k v w) (hk : k < 1000000000000) (hq : qs[k]? = some q) (na : Nv w A1 a1 l1) (nb : Nv w B1 c1 m1) (iq : QIs n1 l1 m1 q) :
    ∃ os : List FrD, OwnQ (w.alloc (.cells #[.bool n1, .slice A1 l1.length a1, .slice B1 m1.length c1] 50)) root.heap.size v os ∧ os.length + 1 ≤ 1000000000000 ∧ root.heap.size ≤ (w.alloc (.cells #[.bool n1, .slice A1 l1.length a1, .slice B1 m1.length c1] 50)).heap.size ∧
      Hid (∀ v6 w6, OwnQ w6 root.heap.size v6 (os ++ [⟨n1, A1, a1, l1, B1, c1, m1⟩]) → (w.alloc (.cells #[.bool n1, .slice A1 l1.length a1, .slice B1 m1.length c1] 50)).grownBy w6 v.ownBlock → LsAt qs root (k + 1) v6 w6) := by
  obtain ⟨os, h1, h2, h3, h4, h5⟩ := h
  have ba := (Below.refl w.heap.size w).alloc (Nat.le_refl _) (.cells #[.bool n1, .slice A1 l1.length a1, .slice B1 m1.length c1] 50)
  have ho := h1.below ba
  have e := iq.mk
  refine ⟨os, ho, by omega, Nat.le_trans h5.size (by simp), fun v6 w6 g1 g2 => ⟨_, g1, ?_, by rw [List.length_append, h3]; rfl, map_snoc h4 (by rw [hq, e]; rfl), (h5.alloc h5.size _).grown g2 (Nat.le_trans h5.size (by simp)) fun g hg => h1.block hg⟩⟩
  refine allFV_snoc h2 ?_ ho g2
  exact ⟨n1, A1, a1, l1, B1, c1, m1, rfl, na, nb, by have := iq; rw [e] at this; exact this⟩
theorem LsAt.done {qs : List Rat} {root : World} {k : Nat} {v : Value} {w : World} (h : LsAt qs root k v w) (hk : k = qs.length) : ∃ A c ds, v = .slice A ds.length c ∧ FL w A c ds ∧ Hid (ds.map FrD.q = qs) := by
  obtain ⟨os, h1, h2, h3, h4, h5⟩ := h
  obtain ⟨A, c, e, hf⟩ := h1.fl h2
  exact ⟨A, c, os, e, hf, by show _ = _; rw [h4, hk, List.take_length]⟩
def LsInv (qs : List Rat) (root : World) (v i : Value) (wr : World) : Prop := ∃ k : Nat, k ≤ qs.length ∧ i = .int .i64 (k : Int) ∧ LsAt qs root k v wr
/-- The slice v holds the first k rows of the matrix M. -/
def MtAt (M : Mat) (root : World) (k : Nat) (v : Value) (wr : World) : Prop :=
  ∃ rows : List RwD, OwnM wr root.heap.size v rows ∧ (∀ r ∈ rows, FL wr r.a r.c r.ds) ∧ rows.length = k ∧ qsM rows = M.take k ∧ Below root.heap.size root wr
theorem MtAt.start (M : Mat) {root wr : World} (h : Below root.heap.size root wr) : MtAt M root 0 (.slice none 0 0) wr := ⟨[], OwnM.nil _ _, fun d hd => by simp at hd, rfl, rfl, h⟩
theorem MtAt.below {M : Mat} {root : World} {k : Nat} {v : Value} {w w' : World} (h : MtAt M root k v w) (hb : Below w.heap.size w w') : MtAt M root k v w' := by
  obtain ⟨os, h1, h2, h3, h4, h5⟩ := h
  exact ⟨os, h1.below hb, fun d hd => (h2 d hd).below hb, h3, h4, h5.trans (hb.mono h5.size)⟩
theorem MtAt.bel {M : Mat} {root : World} {k : Nat} {v : Value} {w : World} (h : MtAt M root k v w) : Below root.heap.size root w := by
  obtain ⟨os, h1, h2, h3, h4, h5⟩ := h; exact h5
theorem MtAt.app {M : Mat} {root : World} {k : Nat} {v : Value} {w : World} {r : RwD} (h : MtAt M root k v w) (hk : k < 1000000000000) (hq : M[k]? = some r.qs) (hr : FL w r.a r.c r.ds) :
    ∃ rows : List RwD, OwnM (w.alloc (.cells #[.slice r.a r.ds.length r.c] 23)) root.heap.size v rows ∧ rows.length + 1 ≤ 1000000000000 ∧ root.heap.size ≤ (w.alloc (.cells #[.slice r.a r.ds.length r.c] 23)).heap.size ∧
      Hid (∀ v6 w6, OwnM w6 root.heap.size v6 (rows ++ [r]) → (w.alloc (.cells #[.slice r.a r.ds.length r.c] 23)).grownBy w6 v.ownBlock → MtAt M root (k + 1) v6 w6) := by
  obtain ⟨os, h1, h2, h3, h4, h5⟩ := h
  have ba := (Below.refl w.heap.size w).alloc (Nat.le_refl _) (.cells #[.slice r.a r.ds.length r.c] 23)
  have ho := h1.below ba
  refine ⟨os, ho, by omega, Nat.le_trans h5.size (by simp), fun v6 w6 g1 g2 => ⟨_, g1, fun x hx => ?_, by rw [List.length_append, h3]; rfl, ?_, (h5.alloc h5.size _).grown g2 (Nat.le_trans h5.size (by simp)) fun g hg => OwnG.block h1 hg⟩⟩
  · rcases List.mem_append.1 hx with h6 | h6
    · exact ((h2 x h6).below ba).ownM ho g2
    · simp at h6; subst h6; exact (hr.below ba).ownM ho g2
  · rw [List.take_add_one, hq, ← h4]
    simp [qsM]
theorem MtAt.done {M : Mat} {root : World} {k : Nat} {v : Value} {w : World} (h : MtAt M root k v w) (hk : k = M.length) : ∃ A c rows, v = .slice A rows.length c ∧ ML w A c rows ∧ Hid (qsM rows = M) := by
  obtain ⟨os, h1, h2, h3, h4, h5⟩ := h
  obtain ⟨A, c, e, hf⟩ := h1.ml h2
  exact ⟨A, c, os, e, hf, by show _ = _; rw [h4, hk, List.take_length]⟩
def MtInv (M : Mat) (root : World) (v i : Value) (wr : World) : Prop := ∃ k : Nat, k ≤ M.length ∧ i = .int .i64 (k : Int) ∧ MtAt M root k v wr
/-- A row that lies alone in a new block. -/
theorem row_cell (w : World) (r : RwD) : (w.alloc (.cells #[.slice r.a r.ds.length r.c] 23)).cell? ⟨w.heap.size, 0, none⟩ = some r.v := (Blk.new w 23 #[.slice r.a r.ds.length r.c]).cell 0
end Go.Proofs.Ytkjmliebkbbogaa
/- R17 nats, Equal, Same, Sames: what the calls do. -/
namespace Go.Proofs.Ytkjmliebkbbogaa
set_option linter.unusedVariables false
set_option linter.unusedSimpArgs false
open Go.RowKit Plain
attribute [local go_sem ↓] Go.wp_at_zero Go.wp_at_succ

set_option maxRecDepth 100000 in
set_option maxHeartbeats 4000000 in
theorem nats17_any {A C : Option Addr} {ca cc : Nat} {la lc : List Nat} {w : World} (ha : Nv w A ca la) (hc : Nv w C cc lc) :
    Calls Try.prog 55 #[.slice A la.length ca, .slice C lc.length cc] w (RetB (decide (la = lc)) w) := by
  have g1 := ha.big
  have g2 := hc.big
  obtain ⟨v, hv⟩ : ∃ v, Hid (decide (la = lc) = v) := ⟨_, rfl⟩
  rw [hv.out]
  by_cases hl : la.length = lc.length
  · have hne : (((la.length : Nat) : Int) != ((lc.length : Nat) : Int)) = false := by rw [bne_eq_false_iff_eq]; omega
    have hl' := Lib.hid hl
    have hle : la.length ≤ lc.length := by omega
    clear hl
    go_enter Try.func55, Try.ntmps55
    go_wp2
    go_loopw [5] (fun i wr => PairInv la lc w i wr) (fun i _ => la.length - (intOf i).toNat)
    case atStart => exact ⟨0, by omega, rfl, rfl, Below.refl _ _⟩
    case round =>
      obtain ⟨k, hk, rfl, hdd, hbel⟩ := hrel
      by_cases hkl : k < la.length
      · obtain ⟨a, d, rfl, hab, hac, hda, hga⟩ := (ha.below hbel).at (k := k) hkl
        obtain ⟨b, f, rfl, hbb, hbc, hdb, hgb⟩ := (hc.below hbel).at (k := k) (by omega)
        have hki : (k : Int) < (la.length : Int) := by omega
        have hkj : (k : Int) < (lc.length : Int) := by omega
        have x1 := Lib.hid (getD_some hga.out hkl)
        have x2 := Lib.hid (getD_some hgb.out (by omega))
        by_cases hdf : d = f
        · subst hdf
          have hf := Lib.hid (pair_take hdd.out x1.out x2.out)
          have hdf' : ((d : Int) != (d : Int)) = false := by simp
          have bT := Below.refl wr.heap.size wr
          have hS : ∀ w', Below wr.heap.size wr w' → w'.cell? (a.add k) = some (.int .u32 ((d : Nat) : Int)) ∧ w'.cell? (b.add k) = some (.int .u32 ((d : Nat) : Int)) ∧ Below wr.heap.size wr w' := by
            intro w' o
            exact ⟨(o.cell (by show (a.add k).block < _; rw [block_add]; exact hab)).trans hac, (o.cell (by show (b.add k).block < _; rw [block_add]; exact hbb)).trans hbc, o⟩
          have bo : Below wr.heap.size wr wr := Below.refl _ _
          have dS : Below wr.heap.size wr wr.drew := bo.drew
          go_wp2_with fail
          refine wp_region_noPanic ?_
          refine wp_region_held_drew (S := fun w' => w'.cell? (a.add k) = some (.int .u32 ((d : Nat) : Int)) ∧ w'.cell? (b.add k) = some (.int .u32 ((d : Nat) : Int)) ∧ Below wr.heap.size wr w') (by kernel_rfl) (hS _ dS) (fun hHeld => ?_)
          refine wpAnyH_take (i := 0) (v := ?_) rfl (by kernel_rfl) (by kernel_rfl) (by kernel_rfl) (fun _ _ _ h => h) (Or.inl ⟨by rfl, ?_⟩) hHeld ?_
          rotate_left
          · (intro w hSw; (try dsimp only at hSw); go_simp)
            all_goals with_reducible rfl
          try simp only [Act.put, List.getElem_toArray, List.getElem_cons_succ, List.getElem_cons_zero, List.setIfInBounds_toArray, List.set_cons_zero, List.set_cons_succ]
          refine wpAnyH_take (i := 1) (v := ?_) rfl (by kernel_rfl) (by kernel_rfl) (by kernel_rfl) (fun _ _ _ h => h) (Or.inl ⟨by rfl, ?_⟩) hHeld ?_
          rotate_left
          · (intro w hSw; (try dsimp only at hSw); go_simp)
            all_goals with_reducible rfl
          try simp only [Act.put, List.getElem_toArray, List.getElem_cons_succ, List.getElem_cons_zero, List.setIfInBounds_toArray, List.set_cons_zero, List.set_cons_succ]
          refine wpAnyH_take (i := 2) (v := ?_) rfl (by kernel_rfl) (by kernel_rfl) (by kernel_rfl) (fun _ _ _ h => h) (Or.inl ⟨by rfl, ?_⟩) hHeld ?_
          rotate_left
          · (intro w hSw; (try dsimp only at hSw); go_simp)
            all_goals with_reducible rfl
          try simp only [Act.put, List.getElem_toArray, List.getElem_cons_succ, List.getElem_cons_zero, List.setIfInBounds_toArray, List.set_cons_zero, List.set_cons_succ]
          refine wpAnyH_take (i := 3) (v := ?_) rfl (by kernel_rfl) (by kernel_rfl) (by kernel_rfl) (fun _ _ _ h => h) (Or.inl ⟨by rfl, ?_⟩) hHeld ?_
          rotate_left
          · (intro w hSw; (try dsimp only at hSw); go_simp)
            all_goals with_reducible rfl
          try simp only [Act.put, List.getElem_toArray, List.getElem_cons_succ, List.getElem_cons_zero, List.setIfInBounds_toArray, List.set_cons_zero, List.set_cons_succ]
          refine wpAnyH_take (i := 4) (v := ?_) rfl (by kernel_rfl) (by kernel_rfl) (by kernel_rfl) (fun _ _ _ h => h) (Or.inl ⟨by rfl, ?_⟩) hHeld ?_
          rotate_left
          · (intro w hSw; (try dsimp only at hSw); go_simp)
            all_goals with_reducible rfl
          try simp only [Act.put, List.getElem_toArray, List.getElem_cons_succ, List.getElem_cons_zero, List.setIfInBounds_toArray, List.set_cons_zero, List.set_cons_succ]
          refine wpAnyH_take (i := 5) (v := ?_) rfl (by kernel_rfl) (by kernel_rfl) (by kernel_rfl) (fun _ _ _ h => h) (Or.inl ⟨by rfl, ?_⟩) hHeld ?_
          rotate_left
          · (intro w hSw; (try dsimp only at hSw); go_simp)
            all_goals with_reducible rfl
          try simp only [Act.put, List.getElem_toArray, List.getElem_cons_succ, List.getElem_cons_zero, List.setIfInBounds_toArray, List.set_cons_zero, List.set_cons_succ]
          refine wpAnyH_take (i := 6) (v := ?_) rfl (by kernel_rfl) (by kernel_rfl) (by kernel_rfl) (fun _ _ _ h => h) (Or.inl ⟨by rfl, ?_⟩) hHeld ?_
          rotate_left
          · (intro w hSw; (try dsimp only at hSw); go_simp)
            all_goals with_reducible rfl
          try simp only [Act.put, List.getElem_toArray, List.getElem_cons_succ, List.getElem_cons_zero, List.setIfInBounds_toArray, List.set_cons_zero, List.set_cons_succ]
          refine wpAnyH_take (i := 7) (v := ?_) rfl (by kernel_rfl) (by kernel_rfl) (by kernel_rfl) (fun _ _ _ h => h) (Or.inl ⟨by rfl, ?_⟩) hHeld ?_
          rotate_left
          · (intro w hSw; (try dsimp only at hSw); go_simp)
            all_goals with_reducible rfl
          try simp only [Act.put, List.getElem_toArray, List.getElem_cons_succ, List.getElem_cons_zero, List.setIfInBounds_toArray, List.set_cons_zero, List.set_cons_succ]
          refine wpAnyH_take (i := 8) (v := ?_) rfl (by kernel_rfl) (by kernel_rfl) (by kernel_rfl) (fun _ _ _ h => h) (Or.inl ⟨by rfl, ?_⟩) hHeld ?_
          rotate_left
          · (intro w hSw; (try dsimp only at hSw); go_simp)
            all_goals with_reducible rfl
          try simp only [Act.put, List.getElem_toArray, List.getElem_cons_succ, List.getElem_cons_zero, List.setIfInBounds_toArray, List.set_cons_zero, List.set_cons_succ]
          refine wpAnyH_done (by kernel_rfl) ?_ _
          refine NoPanic.normal ?_
          try go_simp
          clear hHeld
          clear hS dS bo
          have bT := bT.drew
          go_wp2
          go_roundw
          case rel => exact ⟨k + 1, by omega, by go_num, hf, hbel.trans (bT.mono hbel.size)⟩
          case measure => simp [intOf]; omega
        · have hf : Hid (v = false) := by show v = false; rw [← hv.out]; exact decide_eq_false (pair_no x1.out x2.out hdf)
          have hdf' : ((d : Int) != (f : Int)) = true := by rw [bne_iff_ne]; omega
          have bT := Below.refl wr.heap.size wr
          have hS : ∀ w', Below wr.heap.size wr w' → w'.cell? (a.add k) = some (.int .u32 ((d : Nat) : Int)) ∧ w'.cell? (b.add k) = some (.int .u32 ((f : Nat) : Int)) ∧ Below wr.heap.size wr w' := by
            intro w' o
            exact ⟨(o.cell (by show (a.add k).block < _; rw [block_add]; exact hab)).trans hac, (o.cell (by show (b.add k).block < _; rw [block_add]; exact hbb)).trans hbc, o⟩
          have bo : Below wr.heap.size wr wr := Below.refl _ _
          have dS : Below wr.heap.size wr wr.drew := bo.drew
          go_wp2_with fail
          refine wp_region_noPanic ?_
          refine wp_region_held_drew (S := fun w' => w'.cell? (a.add k) = some (.int .u32 ((d : Nat) : Int)) ∧ w'.cell? (b.add k) = some (.int .u32 ((f : Nat) : Int)) ∧ Below wr.heap.size wr w') (by kernel_rfl) (hS _ dS) (fun hHeld => ?_)
          refine wpAnyH_take (i := 0) (v := ?_) rfl (by kernel_rfl) (by kernel_rfl) (by kernel_rfl) (fun _ _ _ h => h) (Or.inl ⟨by rfl, ?_⟩) hHeld ?_
          rotate_left
          · (intro w hSw; (try dsimp only at hSw); go_simp)
            all_goals with_reducible rfl
          try simp only [Act.put, List.getElem_toArray, List.getElem_cons_succ, List.getElem_cons_zero, List.setIfInBounds_toArray, List.set_cons_zero, List.set_cons_succ]
          refine wpAnyH_take (i := 1) (v := ?_) rfl (by kernel_rfl) (by kernel_rfl) (by kernel_rfl) (fun _ _ _ h => h) (Or.inl ⟨by rfl, ?_⟩) hHeld ?_
          rotate_left
          · (intro w hSw; (try dsimp only at hSw); go_simp)
            all_goals with_reducible rfl
          try simp only [Act.put, List.getElem_toArray, List.getElem_cons_succ, List.getElem_cons_zero, List.setIfInBounds_toArray, List.set_cons_zero, List.set_cons_succ]
          refine wpAnyH_take (i := 2) (v := ?_) rfl (by kernel_rfl) (by kernel_rfl) (by kernel_rfl) (fun _ _ _ h => h) (Or.inl ⟨by rfl, ?_⟩) hHeld ?_
          rotate_left
          · (intro w hSw; (try dsimp only at hSw); go_simp)
            all_goals with_reducible rfl
          try simp only [Act.put, List.getElem_toArray, List.getElem_cons_succ, List.getElem_cons_zero, List.setIfInBounds_toArray, List.set_cons_zero, List.set_cons_succ]
          refine wpAnyH_take (i := 3) (v := ?_) rfl (by kernel_rfl) (by kernel_rfl) (by kernel_rfl) (fun _ _ _ h => h) (Or.inl ⟨by rfl, ?_⟩) hHeld ?_
          rotate_left
          · (intro w hSw; (try dsimp only at hSw); go_simp)
            all_goals with_reducible rfl
          try simp only [Act.put, List.getElem_toArray, List.getElem_cons_succ, List.getElem_cons_zero, List.setIfInBounds_toArray, List.set_cons_zero, List.set_cons_succ]
          refine wpAnyH_take (i := 4) (v := ?_) rfl (by kernel_rfl) (by kernel_rfl) (by kernel_rfl) (fun _ _ _ h => h) (Or.inl ⟨by rfl, ?_⟩) hHeld ?_
          rotate_left
          · (intro w hSw; (try dsimp only at hSw); go_simp)
            all_goals with_reducible rfl
          try simp only [Act.put, List.getElem_toArray, List.getElem_cons_succ, List.getElem_cons_zero, List.setIfInBounds_toArray, List.set_cons_zero, List.set_cons_succ]
          refine wpAnyH_take (i := 5) (v := ?_) rfl (by kernel_rfl) (by kernel_rfl) (by kernel_rfl) (fun _ _ _ h => h) (Or.inl ⟨by rfl, ?_⟩) hHeld ?_
          rotate_left
          · (intro w hSw; (try dsimp only at hSw); go_simp)
            all_goals with_reducible rfl
          try simp only [Act.put, List.getElem_toArray, List.getElem_cons_succ, List.getElem_cons_zero, List.setIfInBounds_toArray, List.set_cons_zero, List.set_cons_succ]
          refine wpAnyH_take (i := 6) (v := ?_) rfl (by kernel_rfl) (by kernel_rfl) (by kernel_rfl) (fun _ _ _ h => h) (Or.inl ⟨by rfl, ?_⟩) hHeld ?_
          rotate_left
          · (intro w hSw; (try dsimp only at hSw); go_simp)
            all_goals with_reducible rfl
          try simp only [Act.put, List.getElem_toArray, List.getElem_cons_succ, List.getElem_cons_zero, List.setIfInBounds_toArray, List.set_cons_zero, List.set_cons_succ]
          refine wpAnyH_take (i := 7) (v := ?_) rfl (by kernel_rfl) (by kernel_rfl) (by kernel_rfl) (fun _ _ _ h => h) (Or.inl ⟨by rfl, ?_⟩) hHeld ?_
          rotate_left
          · (intro w hSw; (try dsimp only at hSw); go_simp)
            all_goals with_reducible rfl
          try simp only [Act.put, List.getElem_toArray, List.getElem_cons_succ, List.getElem_cons_zero, List.setIfInBounds_toArray, List.set_cons_zero, List.set_cons_succ]
          refine wpAnyH_take (i := 8) (v := ?_) rfl (by kernel_rfl) (by kernel_rfl) (by kernel_rfl) (fun _ _ _ h => h) (Or.inl ⟨by rfl, ?_⟩) hHeld ?_
          rotate_left
          · (intro w hSw; (try dsimp only at hSw); go_simp)
            all_goals with_reducible rfl
          try simp only [Act.put, List.getElem_toArray, List.getElem_cons_succ, List.getElem_cons_zero, List.setIfInBounds_toArray, List.set_cons_zero, List.set_cons_succ]
          refine wpAnyH_done (by kernel_rfl) ?_ _
          refine NoPanic.normal ?_
          try go_simp
          clear hHeld
          clear hS dS bo
          have bT := bT.drew
          go_wp2
          go_ret
          exact ⟨by rw [hf.out]; rfl, hbel.trans (bT.mono hbel.size)⟩
      · obtain rfl : k = la.length := by omega
        have hlt' : decide ((la.length : Int) < (la.length : Int)) = false := decide_eq_false (by omega)
        have hf : Hid (v = true) := by
          show v = true
          rw [← hv.out, decide_eq_true_eq]
          have := hdd.out
          rw [List.take_length, hl'.out, List.take_length] at this
          exact this
        go_wp2
        go_ret
        exact ⟨by rw [hf.out]; rfl, hbel⟩
  · have hne : (((la.length : Nat) : Int) != ((lc.length : Nat) : Int)) = true := by rw [bne_iff_ne]; omega
    have hf : Hid (v = false) := by show v = false; rw [← hv.out]; exact decide_eq_false fun e => hl (by rw [e])
    clear hl
    go_enter Try.func55, Try.ntmps55
    go_wp2
    go_ret
    exact ⟨by rw [hf.out]; rfl, Below.refl _ _⟩

set_option maxRecDepth 100000 in
set_option maxHeartbeats 4000000 in
theorem equal17_any {v u : Value} {p q : Rat} {w : World} (hv : FV w v p) (hu : FV w u q) : Calls Try.prog 32 #[v, u] w (RetB (decide (p = q)) w) := by
  obtain ⟨n1, A, ca, la, B, cb, lb, rfl, na, nb, iq⟩ := hv
  obtain ⟨n2, C, cc, lc, D, cd, ld, rfl, nc, nd, ir⟩ := hu
  rw [← same_q iq ir]
  clear iq ir
  obtain ⟨w0, hw0, bw0, hlt0, hB0⟩ := boxed w #[.bool n1, .slice A la.length ca, .slice B lb.length cb] 50
  obtain ⟨w1, hw1, bw1, hlt1, hB1⟩ := boxed w0 #[.bool n2, .slice C lc.length cc, .slice D ld.length cd] 50
  have hA1 := hB0.keep bw1
  have b01 := bw0.trans (bw1.mono (Nat.le_of_lt hlt0))
  have x0 := hA1.f0
  have x1 := hA1.f1
  have x2 := hA1.f2
  have y0 := hB1.f0
  have y1 := hB1.f1
  have y2 := hB1.f2
  obtain ⟨v, hv⟩ : ∃ v, Hid (sameF n1 la lb n2 lc ld = v) := ⟨_, rfl⟩
  rw [hv.out]
  rcases hn : (n1 == n2) with _ | _
  · have hf : Hid (v = false) := by show v = false; rw [← hv.out]; unfold sameF; rw [hn]; rfl
    go_enter Try.func32, Try.ntmps32
    go_wp2
    go_ret
    exact ⟨by rw [hf.out]; rfl, b01⟩
  go_enter Try.func32, Try.ntmps32
  go_wp2_with fail
  refine (nats17_any (na.below b01) (nc.below b01)).mono ?_
  rintro e w2 ⟨rfl, b2⟩
  have b02 := b01.trans (b2.mono b01.size)
  have hA2 := hA1.keep b2
  have hB2 := hB1.keep b2
  clear x0 x1 x2 y0 y1 y2
  have x2 := hA2.f2
  have y2 := hB2.f2
  rcases h1 : decide (la = lc) with _ | _
  · have hf : Hid (v = false) := by show v = false; rw [← hv.out]; unfold sameF; rw [hn, h1]; rfl
    go_wp2
    go_ret
    exact ⟨by rw [hf.out]; rfl, b02⟩
  go_wp2_with fail
  refine (nats17_any (nb.below b02) (nd.below b02)).mono ?_
  rintro e w3 ⟨rfl, b3⟩
  have hf : Hid (v = decide (lb = ld)) := by show v = _; rw [← hv.out]; unfold sameF; rw [hn, h1]; rfl
  obtain ⟨u, hu⟩ : ∃ u, Hid (decide (lb = ld) = u) := ⟨_, rfl⟩
  rw [hu.out] at hf ⊢
  go_wp2
  go_ret
  exact ⟨by rw [hf.out]; rfl, b02.trans (b3.mono b02.size)⟩

set_option maxRecDepth 100000 in
set_option maxHeartbeats 4000000 in
theorem same17_any {A B : Option Addr} {ca cb : Nat} {ds es : List FrD} {w : World} (ha : FL w A ca ds) (hb : FL w B cb es) :
    Calls Try.prog 14 #[.slice A ds.length ca, .slice B es.length cb] w (RetB (decide (ds.map FrD.q = es.map FrD.q)) w) := by
  have g1 := ha.len
  have g2 := hb.len
  obtain ⟨v, hv⟩ : ∃ v, Hid (decide (ds.map FrD.q = es.map FrD.q) = v) := ⟨_, rfl⟩
  rw [hv.out]
  by_cases hl : ds.length = es.length
  · have hne : (((ds.length : Nat) : Int) != ((es.length : Nat) : Int)) = false := by rw [bne_eq_false_iff_eq]; omega
    have hl' := Lib.hid hl
    have hle : ds.length ≤ es.length := by omega
    clear hl
    go_enter Try.func14, Try.ntmps14
    go_wp2
    go_loopw [5] (fun i wr => PairInv (ds.map FrD.q) (es.map FrD.q) w i wr) (fun i _ => ds.length - (intOf i).toNat)
    case atStart => exact ⟨0, by omega, rfl, rfl, Below.refl _ _⟩
    case round =>
      obtain ⟨k, hk, rfl, hdd, hbel⟩ := hrel
      rw [List.length_map] at hk
      by_cases hkl : k < ds.length
      · obtain ⟨a, d, rfl, hab, hc0, hc1, hc2, fa, hdk⟩ := (ha.below hbel).at (k := k) hkl
        obtain ⟨b, f, rfl, hbb, hd0, hd1, hd2, fb, hek⟩ := (hb.below hbel).at (k := k) (by omega)
        have hki : (k : Int) < (ds.length : Int) := by omega
        have hkj : (k : Int) < (es.length : Int) := by omega
        have x1 := Lib.hid (map_some (f := FrD.q) hdk.out)
        have x2 := Lib.hid (map_some (f := FrD.q) hek.out)
        obtain ⟨qb, hqb⟩ : ∃ b, Hid (decide (d.q = f.q) = b) := ⟨_, rfl⟩
        have bT := Below.refl wr.heap.size wr
        have hS : ∀ w', Below wr.heap.size wr w' → w'.cell? (a.add (k * 3)) = some (.bool d.neg) ∧ w'.cell? ⟨(a.add (k * 3)).block, (a.add (k * 3)).off + 1, none⟩ = some (.slice d.a d.la.length d.ca) ∧ w'.cell? ⟨(a.add (k * 3)).block, (a.add (k * 3)).off + 2, none⟩ = some (.slice d.b d.lb.length d.cb) ∧ w'.cell? (b.add (k * 3)) = some (.bool f.neg) ∧ w'.cell? ⟨(b.add (k * 3)).block, (b.add (k * 3)).off + 1, none⟩ = some (.slice f.a f.la.length f.ca) ∧ w'.cell? ⟨(b.add (k * 3)).block, (b.add (k * 3)).off + 2, none⟩ = some (.slice f.b f.lb.length f.cb) ∧ Below wr.heap.size wr w' := by
          intro w' o
          exact ⟨(o.cell (by show (a.add (k * 3)).block < _; rw [block_add]; exact hab)).trans hc0, (o.cell (by show (a.add (k * 3)).block < _; rw [block_add]; exact hab)).trans hc1, (o.cell (by show (a.add (k * 3)).block < _; rw [block_add]; exact hab)).trans hc2, (o.cell (by show (b.add (k * 3)).block < _; rw [block_add]; exact hbb)).trans hd0, (o.cell (by show (b.add (k * 3)).block < _; rw [block_add]; exact hbb)).trans hd1, (o.cell (by show (b.add (k * 3)).block < _; rw [block_add]; exact hbb)).trans hd2, o⟩
        have bo : Below wr.heap.size wr wr := Below.refl _ _
        have dS : Below wr.heap.size wr wr.drew := bo.drew
        go_wp2_with fail
        refine wp_region_noPanic ?_
        refine wp_region_held_drew (S := fun w' => w'.cell? (a.add (k * 3)) = some (.bool d.neg) ∧ w'.cell? ⟨(a.add (k * 3)).block, (a.add (k * 3)).off + 1, none⟩ = some (.slice d.a d.la.length d.ca) ∧ w'.cell? ⟨(a.add (k * 3)).block, (a.add (k * 3)).off + 2, none⟩ = some (.slice d.b d.lb.length d.cb) ∧ w'.cell? (b.add (k * 3)) = some (.bool f.neg) ∧ w'.cell? ⟨(b.add (k * 3)).block, (b.add (k * 3)).off + 1, none⟩ = some (.slice f.a f.la.length f.ca) ∧ w'.cell? ⟨(b.add (k * 3)).block, (b.add (k * 3)).off + 2, none⟩ = some (.slice f.b f.lb.length f.cb) ∧ Below wr.heap.size wr w') (by kernel_rfl) (hS _ dS) (fun hHeld => ?_)
        refine wpAnyH_take (i := 0) (v := ?_) rfl (by kernel_rfl) (by kernel_rfl) (by kernel_rfl) (fun _ _ _ h => h) (Or.inl ⟨by rfl, ?_⟩) hHeld ?_
        rotate_left
        · (intro w hSw; (try dsimp only at hSw); go_simp)
          all_goals with_reducible rfl
        try simp only [Act.put, List.getElem_toArray, List.getElem_cons_succ, List.getElem_cons_zero, List.setIfInBounds_toArray, List.set_cons_zero, List.set_cons_succ]
        refine wpAnyH_take (i := 1) (v := ?_) rfl (by kernel_rfl) (by kernel_rfl) (by kernel_rfl) (fun _ _ _ h => h) (Or.inl ⟨by rfl, ?_⟩) hHeld ?_
        rotate_left
        · (intro w hSw; (try dsimp only at hSw); go_simp)
          all_goals with_reducible rfl
        try simp only [Act.put, List.getElem_toArray, List.getElem_cons_succ, List.getElem_cons_zero, List.setIfInBounds_toArray, List.set_cons_zero, List.set_cons_succ]
        refine wpAnyH_take (i := 2) (v := ?_) rfl (by kernel_rfl) (by kernel_rfl) (by kernel_rfl) (fun _ _ _ h => h) (Or.inl ⟨by rfl, ?_⟩) hHeld ?_
        rotate_left
        · (intro w hSw; (try dsimp only at hSw); go_simp)
          all_goals with_reducible rfl
        try simp only [Act.put, List.getElem_toArray, List.getElem_cons_succ, List.getElem_cons_zero, List.setIfInBounds_toArray, List.set_cons_zero, List.set_cons_succ]
        refine wpAnyH_take (i := 3) (v := ?_) rfl (by kernel_rfl) (by kernel_rfl) (by kernel_rfl) (fun _ _ _ h => h) (Or.inl ⟨by rfl, ?_⟩) hHeld ?_
        rotate_left
        · (intro w hSw; (try dsimp only at hSw); go_simp)
          all_goals with_reducible rfl
        try simp only [Act.put, List.getElem_toArray, List.getElem_cons_succ, List.getElem_cons_zero, List.setIfInBounds_toArray, List.set_cons_zero, List.set_cons_succ]
        refine wpAnyH_take (i := 4) (v := ?_) rfl (by kernel_rfl) (by kernel_rfl) (by kernel_rfl) (fun _ _ _ h => h) (Or.inl ⟨by rfl, ?_⟩) hHeld ?_
        rotate_left
        · (intro w hSw; (try dsimp only at hSw); go_simp)
          all_goals with_reducible rfl
        try simp only [Act.put, List.getElem_toArray, List.getElem_cons_succ, List.getElem_cons_zero, List.setIfInBounds_toArray, List.set_cons_zero, List.set_cons_succ]
        refine wpAnyH_take (i := 5) (v := ?_) rfl (by kernel_rfl) (by kernel_rfl) (by kernel_rfl) (fun _ _ _ h => h) (Or.inl ⟨by rfl, ?_⟩) hHeld ?_
        rotate_left
        · (intro w hSw; (try dsimp only at hSw); go_simp)
          all_goals with_reducible rfl
        try simp only [Act.put, List.getElem_toArray, List.getElem_cons_succ, List.getElem_cons_zero, List.setIfInBounds_toArray, List.set_cons_zero, List.set_cons_succ]
        refine wpAnyH_take (i := 6) (v := ?_) rfl (by kernel_rfl) (by kernel_rfl) (by kernel_rfl) (fun _ _ _ h => h) (Or.inl ⟨by rfl, ?_⟩) hHeld ?_
        rotate_left
        · (intro w hSw; (try dsimp only at hSw); go_simp)
          all_goals with_reducible rfl
        try simp only [Act.put, List.getElem_toArray, List.getElem_cons_succ, List.getElem_cons_zero, List.setIfInBounds_toArray, List.set_cons_zero, List.set_cons_succ]
        refine wpAnyH_take (i := 7) (v := ?_) rfl (by kernel_rfl) (by kernel_rfl) (by kernel_rfl) (fun _ _ _ h => h) (Or.inl ⟨by rfl, ?_⟩) hHeld ?_
        rotate_left
        · (intro w hSw; (try dsimp only at hSw); go_simp)
          all_goals with_reducible rfl
        try simp only [Act.put, List.getElem_toArray, List.getElem_cons_succ, List.getElem_cons_zero, List.setIfInBounds_toArray, List.set_cons_zero, List.set_cons_succ]
        refine wpAnyH_ready (rs := [8]) (by kernel_rfl) (by simp) ?_
        refine AllReadyH.cons rfl (fun K hK => ?_) AllReadyH.nil
        go_simp
        have dw0 : Below wr.heap.size wr wr.drew := (Below.refl _ _).drew
        replace fa := fa.below dw0
        replace fb := fb.below dw0
        replace bT := bT.trans (dw0.mono bT.size)
        replace bo := bo.trans (dw0.mono bo.size)
        go_at_call 32
        refine (equal17_any fa fb).mono ?_
        rintro e u1 ⟨rfl, bu1⟩
        replace fa := fa.below bu1
        replace fb := fb.below bu1
        replace bT := bT.trans (bu1.mono bT.size)
        replace bo := bo.trans (bu1.mono bo.size)
        rw [hqb.out]
        go_wp2_with fail
        refine hK.out _ _ (hS _ bo) (fun hHeld => ?_)
        clear hK K
        try simp only [Act.put, List.getElem_toArray, List.getElem_cons_succ, List.getElem_cons_zero, List.setIfInBounds_toArray, List.set_cons_zero, List.set_cons_succ]
        refine wpAnyH_take (i := 9) (v := ?_) rfl (by kernel_rfl) (by kernel_rfl) (by kernel_rfl) (fun _ _ _ h => h) (Or.inl ⟨by rfl, ?_⟩) hHeld ?_
        rotate_left
        · (intro w hSw; (try dsimp only at hSw); go_simp)
          all_goals with_reducible rfl
        try simp only [Act.put, List.getElem_toArray, List.getElem_cons_succ, List.getElem_cons_zero, List.setIfInBounds_toArray, List.set_cons_zero, List.set_cons_succ]
        refine wpAnyH_done (by kernel_rfl) ?_ _
        refine NoPanic.normal ?_
        try go_simp
        clear hHeld
        clear hS dS bo
        rcases qb with _ | _
        · have hf : Hid (v = false) := by show v = false; rw [← hv.out]; exact decide_eq_false (pair_no x1.out x2.out (of_decide_eq_false hqb.out))
          go_wp2
          go_ret
          exact ⟨by rw [hf.out]; rfl, hbel.trans (bT.mono hbel.size)⟩
        · have hf := Lib.hid (pair_take hdd.out x1.out (by rw [x2.out, of_decide_eq_true hqb.out]))
          go_wp2
          go_roundw
          case rel => exact ⟨k + 1, by rw [List.length_map]; omega, by go_num, hf, hbel.trans (bT.mono hbel.size)⟩
          case measure => simp [intOf]; omega
      · obtain rfl : k = ds.length := by omega
        have hlt' : decide ((ds.length : Int) < (ds.length : Int)) = false := decide_eq_false (by omega)
        have hf : Hid (v = true) := by
          show v = true
          rw [← hv.out, decide_eq_true_eq]
          have := hdd.out
          rw [List.take_of_length_le (by simp), List.take_of_length_le (by simp; have := hl'.out; omega)] at this
          exact this
        go_wp2
        go_ret
        exact ⟨by rw [hf.out]; rfl, hbel⟩
  · have hne : (((ds.length : Nat) : Int) != ((es.length : Nat) : Int)) = true := by rw [bne_iff_ne]; omega
    have hf : Hid (v = false) := by show v = false; rw [← hv.out]; exact decide_eq_false fun e => hl (by rw [← List.length_map (f := FrD.q), e, List.length_map])
    clear hl
    go_enter Try.func14, Try.ntmps14
    go_wp2
    go_ret
    exact ⟨by rw [hf.out]; rfl, Below.refl _ _⟩

set_option maxRecDepth 100000 in
set_option maxHeartbeats 4000000 in
theorem sames17_any {A B : Option Addr} {ca cb : Nat} {ds es : List RwD} {w : World} (ha : ML w A ca ds) (hb : ML w B cb es) :
    Calls Try.prog 17 #[.slice A ds.length ca, .slice B es.length cb] w (RetB (decide (qsM ds = qsM es)) w) := by
  have g1 := ha.len
  have g2 := hb.len
  obtain ⟨v, hv⟩ : ∃ v, Hid (decide (qsM ds = qsM es) = v) := ⟨_, rfl⟩
  rw [hv.out]
  by_cases hl : ds.length = es.length
  · have hne : (((ds.length : Nat) : Int) != ((es.length : Nat) : Int)) = false := by rw [bne_eq_false_iff_eq]; omega
    have hl' := Lib.hid hl
    have hle : ds.length ≤ es.length := by omega
    clear hl
    go_enter Try.func17, Try.ntmps17
    go_wp2
    go_loopw [5] (fun i wr => PairInv (qsM ds) (qsM es) w i wr) (fun i _ => ds.length - (intOf i).toNat)
    case atStart => exact ⟨0, by omega, rfl, rfl, Below.refl _ _⟩
    case round =>
      obtain ⟨k, hk, rfl, hdd, hbel⟩ := hrel
      rw [qsM_len] at hk
      by_cases hkl : k < ds.length
      · obtain ⟨a, d, rfl, hab, hc0, fa, hdk⟩ := (ha.below hbel).at (k := k) hkl
        obtain ⟨b, f, rfl, hbb, hd0, fb, hek⟩ := (hb.below hbel).at (k := k) (by omega)
        have hki : (k : Int) < (ds.length : Int) := by omega
        have hkj : (k : Int) < (es.length : Int) := by omega
        have l1 := fa.len
        have l2 := fb.len
        have x1 := Lib.hid (map_some (f := RwD.qs) hdk.out)
        have x2 := Lib.hid (map_some (f := RwD.qs) hek.out)
        obtain ⟨qb, hqb⟩ : ∃ b, Hid (decide (d.ds.map FrD.q = f.ds.map FrD.q) = b) := ⟨_, rfl⟩
        have bT := Below.refl wr.heap.size wr
        have hS : ∀ w', Below wr.heap.size wr w' → w'.cell? (a.add k) = some (.slice d.a d.ds.length d.c) ∧ w'.cell? (b.add k) = some (.slice f.a f.ds.length f.c) ∧ Below wr.heap.size wr w' := by
          intro w' o
          exact ⟨(o.cell (by show (a.add k).block < _; rw [block_add]; exact hab)).trans hc0, (o.cell (by show (b.add k).block < _; rw [block_add]; exact hbb)).trans hd0, o⟩
        have bo : Below wr.heap.size wr wr := Below.refl _ _
        have dS : Below wr.heap.size wr wr.drew := bo.drew
        go_wp2_with fail
        refine wp_region_noPanic ?_
        refine wp_region_held_drew (S := fun w' => w'.cell? (a.add k) = some (.slice d.a d.ds.length d.c) ∧ w'.cell? (b.add k) = some (.slice f.a f.ds.length f.c) ∧ Below wr.heap.size wr w') (by kernel_rfl) (hS _ dS) (fun hHeld => ?_)
        refine wpAnyH_take (i := 0) (v := ?_) rfl (by kernel_rfl) (by kernel_rfl) (by kernel_rfl) (fun _ _ _ h => h) (Or.inl ⟨by rfl, ?_⟩) hHeld ?_
        rotate_left
        · (intro w hSw; (try dsimp only at hSw); go_simp)
          all_goals with_reducible rfl
        try simp only [Act.put, List.getElem_toArray, List.getElem_cons_succ, List.getElem_cons_zero, List.setIfInBounds_toArray, List.set_cons_zero, List.set_cons_succ]
        refine wpAnyH_take (i := 1) (v := ?_) rfl (by kernel_rfl) (by kernel_rfl) (by kernel_rfl) (fun _ _ _ h => h) (Or.inl ⟨by rfl, ?_⟩) hHeld ?_
        rotate_left
        · (intro w hSw; (try dsimp only at hSw); go_simp)
          all_goals with_reducible rfl
        try simp only [Act.put, List.getElem_toArray, List.getElem_cons_succ, List.getElem_cons_zero, List.setIfInBounds_toArray, List.set_cons_zero, List.set_cons_succ]
        refine wpAnyH_take (i := 2) (v := ?_) rfl (by kernel_rfl) (by kernel_rfl) (by kernel_rfl) (fun _ _ _ h => h) (Or.inl ⟨by rfl, ?_⟩) hHeld ?_
        rotate_left
        · (intro w hSw; (try dsimp only at hSw); go_simp)
          all_goals with_reducible rfl
        try simp only [Act.put, List.getElem_toArray, List.getElem_cons_succ, List.getElem_cons_zero, List.setIfInBounds_toArray, List.set_cons_zero, List.set_cons_succ]
        refine wpAnyH_take (i := 3) (v := ?_) rfl (by kernel_rfl) (by kernel_rfl) (by kernel_rfl) (fun _ _ _ h => h) (Or.inl ⟨by rfl, ?_⟩) hHeld ?_
        rotate_left
        · (intro w hSw; (try dsimp only at hSw); go_simp)
          all_goals with_reducible rfl
        try simp only [Act.put, List.getElem_toArray, List.getElem_cons_succ, List.getElem_cons_zero, List.setIfInBounds_toArray, List.set_cons_zero, List.set_cons_succ]
        refine wpAnyH_take (i := 4) (v := ?_) rfl (by kernel_rfl) (by kernel_rfl) (by kernel_rfl) (fun _ _ _ h => h) (Or.inl ⟨by rfl, ?_⟩) hHeld ?_
        rotate_left
        · (intro w hSw; (try dsimp only at hSw); go_simp)
          all_goals with_reducible rfl
        try simp only [Act.put, List.getElem_toArray, List.getElem_cons_succ, List.getElem_cons_zero, List.setIfInBounds_toArray, List.set_cons_zero, List.set_cons_succ]
        refine wpAnyH_take (i := 5) (v := ?_) rfl (by kernel_rfl) (by kernel_rfl) (by kernel_rfl) (fun _ _ _ h => h) (Or.inl ⟨by rfl, ?_⟩) hHeld ?_
        rotate_left
        · (intro w hSw; (try dsimp only at hSw); go_simp)
          all_goals with_reducible rfl
        try simp only [Act.put, List.getElem_toArray, List.getElem_cons_succ, List.getElem_cons_zero, List.setIfInBounds_toArray, List.set_cons_zero, List.set_cons_succ]
        refine wpAnyH_take (i := 6) (v := ?_) rfl (by kernel_rfl) (by kernel_rfl) (by kernel_rfl) (fun _ _ _ h => h) (Or.inl ⟨by rfl, ?_⟩) hHeld ?_
        rotate_left
        · (intro w hSw; (try dsimp only at hSw); go_simp)
          all_goals with_reducible rfl
        try simp only [Act.put, List.getElem_toArray, List.getElem_cons_succ, List.getElem_cons_zero, List.setIfInBounds_toArray, List.set_cons_zero, List.set_cons_succ]
        refine wpAnyH_take (i := 7) (v := ?_) rfl (by kernel_rfl) (by kernel_rfl) (by kernel_rfl) (fun _ _ _ h => h) (Or.inl ⟨by rfl, ?_⟩) hHeld ?_
        rotate_left
        · (intro w hSw; (try dsimp only at hSw); go_simp)
          all_goals with_reducible rfl
        try simp only [Act.put, List.getElem_toArray, List.getElem_cons_succ, List.getElem_cons_zero, List.setIfInBounds_toArray, List.set_cons_zero, List.set_cons_succ]
        refine wpAnyH_ready (rs := [8]) (by kernel_rfl) (by simp) ?_
        refine AllReadyH.cons rfl (fun K hK => ?_) AllReadyH.nil
        go_simp
        have dw0 : Below wr.heap.size wr wr.drew := (Below.refl _ _).drew
        replace fa := fa.below dw0
        replace fb := fb.below dw0
        replace bT := bT.trans (dw0.mono bT.size)
        replace bo := bo.trans (dw0.mono bo.size)
        go_at_call 14
        refine (same17_any fa fb).mono ?_
        rintro e u1 ⟨rfl, bu1⟩
        replace fa := fa.below bu1
        replace fb := fb.below bu1
        replace bT := bT.trans (bu1.mono bT.size)
        replace bo := bo.trans (bu1.mono bo.size)
        rw [hqb.out]
        go_wp2_with fail
        refine hK.out _ _ (hS _ bo) (fun hHeld => ?_)
        clear hK K
        try simp only [Act.put, List.getElem_toArray, List.getElem_cons_succ, List.getElem_cons_zero, List.setIfInBounds_toArray, List.set_cons_zero, List.set_cons_succ]
        refine wpAnyH_take (i := 9) (v := ?_) rfl (by kernel_rfl) (by kernel_rfl) (by kernel_rfl) (fun _ _ _ h => h) (Or.inl ⟨by rfl, ?_⟩) hHeld ?_
        rotate_left
        · (intro w hSw; (try dsimp only at hSw); go_simp)
          all_goals with_reducible rfl
        try simp only [Act.put, List.getElem_toArray, List.getElem_cons_succ, List.getElem_cons_zero, List.setIfInBounds_toArray, List.set_cons_zero, List.set_cons_succ]
        refine wpAnyH_done (by kernel_rfl) ?_ _
        refine NoPanic.normal ?_
        try go_simp
        clear hHeld
        clear hS dS bo
        rcases qb with _ | _
        · have hf : Hid (v = false) := by show v = false; rw [← hv.out]; exact decide_eq_false (pair_no x1.out x2.out (of_decide_eq_false hqb.out))
          go_wp2
          go_ret
          exact ⟨by rw [hf.out]; rfl, hbel.trans (bT.mono hbel.size)⟩
        · have hf : Hid ((qsM ds).take (k + 1) = (qsM es).take (k + 1)) := pair_take hdd.out x1.out (x2.out.trans (congrArg some (of_decide_eq_true hqb.out).symm))
          go_wp2
          go_roundw
          case rel => exact ⟨k + 1, by rw [qsM_len]; omega, by go_num, hf, hbel.trans (bT.mono hbel.size)⟩
          case measure => simp [intOf]; omega
      · obtain rfl : k = ds.length := by omega
        have hlt' : decide ((ds.length : Int) < (ds.length : Int)) = false := decide_eq_false (by omega)
        have hf : Hid (v = true) := by
          show v = true
          rw [← hv.out, decide_eq_true_eq]
          have := hdd.out
          rw [List.take_of_length_le (by rw [qsM_len]; exact Nat.le_refl _), List.take_of_length_le (by rw [qsM_len]; have := hl'.out; omega)] at this
          exact this
        go_wp2
        go_ret
        exact ⟨by rw [hf.out]; rfl, hbel⟩
  · have hne : (((ds.length : Nat) : Int) != ((es.length : Nat) : Int)) = true := by rw [bne_iff_ne]; omega
    have hf : Hid (v = false) := by show v = false; rw [← hv.out]; exact decide_eq_false fun e => hl (by rw [← qsM_len, e, qsM_len])
    clear hl
    go_enter Try.func17, Try.ntmps17
    go_wp2
    go_ret
    exact ⟨by rw [hf.out]; rfl, Below.refl _ _⟩
end Go.Proofs.Ytkjmliebkbbogaa
