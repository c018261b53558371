/- Stores into a list of fractions of the call's own: in the plain and in memory. -/
import Derived.Test.YtkjmliebkbbogaaMAps
import Derived.Test.YtkjmliebkbbogaaMReduce
import Derived.Test.YtkjmliebkbbogaaMSys
import Derived.Deep.RegionHeld3
namespace Go.Proofs.Ytkjmliebkbbogaa
set_option linter.unusedVariables false
set_option linter.unusedSimpArgs false
open Go.RowKit Plain

def putAll (ps : List (Nat × Nat)) (f : Nat → Rat) (qs : List Rat) : List Rat := ps.foldl (fun qs p => qs.set p.1 (f p.2)) qs
theorem putAll_length (ps : List (Nat × Nat)) (f : Nat → Rat) : ∀ qs, (putAll ps f qs).length = qs.length := by
  induction ps with
  | nil => intro qs; rfl
  | cons p ps ih => intro qs; show (putAll ps f (qs.set p.1 (f p.2))).length = _; rw [ih, List.length_set]
theorem putAll_get (ps : List (Nat × Nat)) (f : Nat → Rat) (k : Nat) (hc : ps.Pairwise fun p q => p.1 < q.1) : ∀ qs : List Rat, (∀ p ∈ ps, p.1 < qs.length) →
    (putAll ps f qs).getD k 0 = if ∃ p ∈ ps, p.1 = k then xval ps f k else qs.getD k 0 := by
  induction ps with
  | nil => intro qs _; rw [if_neg (by simp)]; rfl
  | cons p ps ih =>
    intro qs hl
    obtain ⟨h1, h2⟩ := List.pairwise_cons.1 hc
    show (putAll ps f (qs.set p.1 (f p.2))).getD k 0 = _
    rw [ih h2 _ (fun q hq => by rw [List.length_set]; exact hl q (List.mem_cons_of_mem _ hq))]
    by_cases e : p.1 = k
    · rw [if_neg (by rintro ⟨q, hq, rfl⟩; have := h1 q hq; omega), if_pos ⟨p, List.mem_cons_self, e⟩]
      have hp := hl p List.mem_cons_self
      unfold xval
      rw [if_pos e, List.getD_eq_getElem?_getD, List.getElem?_set, if_pos e, if_pos hp]; rfl
    · by_cases h3 : ∃ q ∈ ps, q.1 = k
      · obtain ⟨q, hq, e2⟩ := h3
        rw [if_pos ⟨q, hq, e2⟩, if_pos ⟨q, List.mem_cons_of_mem _ hq, e2⟩]
        show _ = if p.1 = k then _ else _
        rw [if_neg e]
      · rw [if_neg h3, if_neg (by
          rintro ⟨q, hq, e2⟩
          rcases List.mem_cons.1 hq with rfl | hq
          · exact e e2
          · exact h3 ⟨q, hq, e2⟩), List.getD_eq_getElem?_getD, List.getElem?_set, if_neg e, ← List.getD_eq_getElem?_getD]
theorem putAll_step {ps : List (Nat × Nat)} {f : Nat → Rat} {qs : List Rat} {i : Nat} {p : Nat × Nat} (h : ps[i]? = some p) : putAll (ps.take (i + 1)) f qs = (putAll (ps.take i) f qs).set p.1 (f p.2) := by
  unfold putAll
  rw [List.take_add_one, h, List.foldl_append]; rfl
theorem zipIdx_at {is : List Nat} {i x : Nat} (h : is[i]? = some x) : is.zipIdx[i]? = some (x, i) := by
  rw [List.getElem?_zipIdx, h]; simp
theorem rat_ext {a b : List Rat} (hl : a.length = b.length) (h : ∀ k, k < a.length → a.getD k 0 = b.getD k 0) : a = b := by
  refine List.ext_getElem hl fun k h1 h2 => ?_
  have := h k h1
  rw [List.getD_eq_getElem?_getD, List.getD_eq_getElem?_getD, List.getElem?_eq_getElem h1, List.getElem?_eq_getElem h2] at this
  exact this
theorem putAll_out {m c : Nat} {R : Nat → Nat → Rat} {ps : List (Nat × Nat)} (h : Red m c R ps) (f : Nat → Rat) {n : Nat} (hn : c ≤ n) : putAll ps f (List.replicate n 0) = outL n ps f := by
  refine rat_ext (by rw [putAll_length, outL_length, List.length_replicate]) fun k hk => ?_
  rw [putAll_length, List.length_replicate] at hk
  rw [putAll_get ps f k h.col _ (fun p hp => by rw [List.length_replicate]; have := (h.lt p hp).1; omega), outL_get hk]
  by_cases e : ∃ p ∈ ps, p.1 = k
  · rw [if_pos e]
  · rw [if_neg e, xval_none (fun p hp e2 => e ⟨p, hp, e2⟩), List.getD_eq_getElem?_getD, List.getElem?_replicate, if_pos hk]; rfl
theorem xval_neg (ps : List (Nat × Nat)) (f : Nat → Rat) (k : Nat) : xval ps (fun i => -(f i)) k = - xval ps f k := by
  induction ps with
  | nil => simp [xval]
  | cons p ps ih =>
    show (if p.1 = k then _ else _) = -(if p.1 = k then _ else _)
    split
    · rfl
    · exact ih
theorem putAll_free {m c : Nat} {R : Nat → Nat → Rat} {ps : List (Nat × Nat)} (h : Red m c R ps) {f : Nat} (hf : ∀ p ∈ ps, p.1 ≠ f) : putAll ps (fun i => -(R i f)) ((List.replicate c 0).set f 1) = (List.range c).map (freeCol ps R f) := by
  refine rat_ext (by rw [putAll_length]; simp) fun k hk => ?_
  rw [putAll_length, List.length_set, List.length_replicate] at hk
  rw [putAll_get ps _ k h.col _ (fun p hp => by rw [List.length_set, List.length_replicate]; exact (h.lt p hp).1), range_getD hk]
  unfold freeCol
  by_cases e : ∃ p ∈ ps, p.1 = k
  · rw [if_pos e, xval_neg]
    obtain ⟨p, hp, rfl⟩ := e
    have : dl p.1 f = 0 := by unfold dl; rw [if_neg (hf p hp)]
    rw [this, Rat.sub_eq_add_neg, Rat.zero_add]
  · rw [if_neg e, xval_none (fun p hp e2 => e ⟨p, hp, e2⟩), List.getD_eq_getElem?_getD, List.getElem?_set, List.length_replicate, List.getElem?_replicate]
    unfold dl
    by_cases e3 : f = k
    · subst e3; rw [if_pos rfl, if_pos hk, if_pos rfl, Rat.sub_eq_add_neg, Rat.neg_zero, Rat.add_zero]; rfl
    · rw [if_neg e3, if_pos hk, if_neg (fun e4 => e3 e4.symm), Rat.sub_eq_add_neg, Rat.neg_zero, Rat.add_zero]; rfl
theorem freeL_of {l : List Nat} {f : Nat} (h : ∀ j, j < f → l[j]? = some j) (hx : l[f]? ≠ some f) (hf : f ≤ l.length) : freeL l = f := by
  rcases Nat.lt_trichotomy (freeL l) f with h1 | h1 | h1
  · have h2 : freeL l < l.zipIdx.length := by rw [List.length_zipIdx]; omega
    have h3 : decide ((l.zipIdx[freeL l]'h2).1 ≠ (l.zipIdx[freeL l]'h2).2) = true := List.findIdx_getElem (xs := l.zipIdx) (p := fun p : Nat × Nat => decide (p.1 ≠ p.2)) (w := h2)
    rw [decide_eq_true_eq, List.getElem_zipIdx] at h3
    have h4 := h _ h1
    rw [List.getElem?_eq_getElem (by omega)] at h4
    injection h4 with h4
    exact absurd (by simpa using h4) h3
  · exact h1
  · have h2 := freeL_le l
    have h3 := freeL_lt h1 (by omega)
    exact absurd (by rw [List.getElem?_eq_getElem (by omega), h3]) hx
/-- A list of fractions of the call's own, into which is stored. -/
def ColAt (g : Nat) (T : List Rat) (root w : World) : Prop := ∃ ds : List FrD, ArrQ w g ds ∧ (∀ d ∈ ds, FV w d.v d.q) ∧ ds.map FrD.q = T ∧ Below root.heap.size root w
theorem ColAt.bel {g : Nat} {T : List Rat} {root w : World} (h : ColAt g T root w) : Below root.heap.size root w := by
  obtain ⟨ds, h1, h2, h3, h4⟩ := h; exact h4
theorem ColAt.below {g : Nat} {T : List Rat} {root w w' : World} (h : ColAt g T root w) (hb : Below w.heap.size w w') : ColAt g T root w' := by
  obtain ⟨ds, h1, h2, h3, h4⟩ := h
  exact ⟨ds, h1.below hb, fun d hd => (h2 d hd).below hb, h3, h4.trans (hb.mono h4.size)⟩
theorem ColAt.store {g k : Nat} {T : List Rat} {root w : World} (h : ColAt g T root w) (hk : k < T.length) (hg : root.heap.size ≤ g) {n1 : Bool} {A1 : Option Addr} {a1 : Nat} {l1 : List Nat} {B1 : Option Addr} {c1 : Nat} {m1 : List Nat} (na : Nv w A1 a1 l1) (nb : Nv w B1 c1 m1) {q : Rat} (iq : QIs n1 l1 m1 q) :
    ∃ (u0 u1 u2 : Value) (w9 : World), w.cell? ⟨g, k * 3, none⟩ = some u0 ∧ w.cell? ⟨g, k * 3 + 1, none⟩ = some u1 ∧ w.cell? ⟨g, k * 3 + 2, none⟩ = some u2 ∧ w.frozen? ⟨g, k * 3, none⟩ = false ∧ w.frozen? ⟨g, k * 3 + 1, none⟩ = false ∧ w.frozen? ⟨g, k * 3 + 2, none⟩ = false ∧
      ((w.setCell ⟨g, k * 3, none⟩ (.bool n1)).setCell ⟨g, k * 3 + 1, none⟩ (.slice A1 l1.length a1)).setCell ⟨g, k * 3 + 2, none⟩ (.slice B1 m1.length c1) = w9 ∧ ColAt g (T.set k q) root w9 := by
  obtain ⟨ds, h1, h2, h3, h4⟩ := h
  have hkd : k < ds.length := by rw [← List.length_map (f := FrD.q), h3]; exact hk
  have hd0 := List.getElem?_eq_getElem hkd
  obtain ⟨w9, e9, hA9, o9⟩ := h1.set hkd ⟨n1, A1, a1, l1, B1, c1, m1⟩
  have hq0 : FrD.q ⟨n1, A1, a1, l1, B1, c1, m1⟩ = q := by
    show mkRat (sg n1 (val l1)) (val m1) = q
    rw [← iq.mk]
  refine ⟨_, _, _, w9, h1.cell (i := 0) hd0 rfl, h1.cell (i := 1) hd0 rfl, h1.cell (i := 2) hd0 rfl, Blk.free h1 _, Blk.free h1 _, Blk.free h1 _, e9, _, hA9, fun d hd => ?_, ?_, o9.to_below h4 hg h4.size⟩
  · rcases List.mem_or_eq_of_mem_set hd with hd | rfl
    · exact (h2 d hd).only_blk h1 (ArrQ.noDig ds) o9
    · rw [hq0]
      have hf : FV w (FrD.v ⟨n1, A1, a1, l1, B1, c1, m1⟩) q := ⟨n1, A1, a1, l1, B1, c1, m1, rfl, na, nb, iq⟩
      exact hf.only_blk h1 (ArrQ.noDig ds) o9
  · rw [List.map_set, h3, hq0]
theorem ColAt.done {g : Nat} {T : List Rat} {root w : World} (h : ColAt g T root w) (hm : T.length ≤ 9223372036854775807) : ∃ ds : List FrD, ds.length = T.length ∧ FL w (some ⟨g, 0, none⟩) ds.length ds ∧ Hid (ds.map FrD.q = T) := by
  obtain ⟨ds, h1, h2, h3, h4⟩ := h
  have hl : ds.length = T.length := by rw [← List.length_map (f := FrD.q), h3]
  exact ⟨ds, hl, h1.fl h2 (by omega), h3⟩
end Go.Proofs.Ytkjmliebkbbogaa
/- A list of rows of the call's own, into which is stored. -/
namespace Go.Proofs.Ytkjmliebkbbogaa
set_option linter.unusedVariables false
set_option linter.unusedSimpArgs false
open Go.RowKit Plain

def nilR : RwD := ⟨none, 0, []⟩
theorem made_rows (n : Nat) : madeCells #[.slice none 0 0] (n * 1) = ((List.replicate n nilR).flatMap RwD.cells).toArray := by
  apply Array.ext'
  apply List.ext_getElem?
  intro i
  rw [Array.getElem?_toList]
  show _ = ((List.replicate n nilR).flatMap RwD.cells)[i]?
  by_cases hi : i < n
  · rw [flat1 (by rw [List.length_replicate]; exact hi), List.getElem_replicate]
    have hs : i < (madeCells #[Value.slice none 0 0] (n * 1)).size := by rw [size_madeCells]; omega
    rw [Array.getElem?_eq_getElem hs]
    simp only [madeCells, nilR, RwD.v, Array.getElem_map, Array.getElem_range]
    have hz : (#[Value.slice none 0 0] : Array Value).size = 1 := rfl
    rw [hz, Nat.mod_one]; rfl
  · rw [Array.getElem?_eq_none (by rw [size_madeCells]; omega), List.getElem?_eq_none (by rw [flat_rows, List.length_replicate]; omega)]
/-- A block that holds the rows. -/
def ArrM (w : World) (g : Nat) (rows : List RwD) : Prop := Blk w g 23 (rows.flatMap RwD.cells).toArray
theorem ArrM.below {w w' : World} {g : Nat} {rows : List RwD} (h : ArrM w g rows) (hb : Below w.heap.size w w') : ArrM w' g rows := Blk.keep h hb
theorem ArrM.isSl (rows : List RwD) : AllP IsSl (rows.flatMap RwD.cells).toArray := AllPL.toAll (isSl_cells rows) rfl
theorem ArrM.cell {w : World} {g j : Nat} {rows : List RwD} {r : RwD} (h : ArrM w g rows) (hj : rows[j]? = some r) : w.cell? ⟨g, j, none⟩ = some r.v := by
  have hjl := (List.getElem?_eq_some_iff.1 hj).1
  have e := (List.getElem?_eq_some_iff.1 hj).2
  rw [Blk.cell h, List.getElem?_toArray, flat1 hjl, e]
theorem ArrM.ml {w : World} {g : Nat} {rows : List RwD} (h : ArrM w g rows) (hv : ∀ r ∈ rows, FL w r.a r.c r.ds) (hm : rows.length ≤ 9223372036854775807) : ML w (some ⟨g, 0, none⟩) rows.length rows :=
  ⟨⟨Nat.le_refl _, hm, fun j hj => ⟨_, rfl, Blk.lt h, fun i u hu => by
    have hi : i = 0 := by
      have := (List.getElem?_eq_some_iff.1 hu).1
      simpa [RwD.cells] using this
    subst hi
    rw [Nat.mul_one, Nat.add_zero, add_zero_, h.cell (List.getElem?_eq_getElem hj)]
    exact hu⟩⟩, hv⟩
theorem rows_set {rows : List RwD} {j : Nat} {r : RwD} (hj : j < rows.length) : (rows.set j r).flatMap RwD.cells = (rows.flatMap RwD.cells).set j r.v := by
  apply List.ext_getElem?
  intro i
  by_cases hi : i < rows.length
  · rw [flat1 (by rw [List.length_set]; exact hi), List.getElem_set, List.getElem?_set, flat_rows]
    by_cases e : j = i
    · rw [if_pos e, if_pos e, if_pos (by omega)]
    · rw [if_neg e, if_neg e, flat1 hi]
  · rw [List.getElem?_eq_none (by rw [flat_rows, List.length_set]; omega), List.getElem?_eq_none (by rw [List.length_set, flat_rows]; omega)]
theorem ArrM.set {w : World} {g j : Nat} {rows : List RwD} (h : ArrM w g rows) (hj : j < rows.length) (r : RwD) :
    ∃ w', w.setCell ⟨g, j, none⟩ r.v = w' ∧ ArrM w' g (rows.set j r) ∧ Only w w' g := by
  refine ⟨_, rfl, ?_, (Only.refl w g).set _ _⟩
  have h1 := Blk.set h j r.v
  unfold ArrM
  rw [rows_set hj]
  simpa using h1
theorem FL.onlyM {w w' : World} {g c : Nat} {A : Option Addr} {ds : List FrD} {rows : List RwD} (h : FL w A c ds) (hB : ArrM w g rows) (ho : Only w w' g) : FL w' A c ds :=
  ⟨h.row.only_p (P := IsSl) (fun d => ⟨0, .bool d.neg, rfl, isSl_bool _⟩) hB (ArrM.isSl rows) ho, fun d hd => (h.fv d hd).only_blk hB (fun i u hi => by
    have := ArrM.isSl rows i _ hi
    exact isSl_u32 u this) ho⟩
set_option maxRecDepth 100000 in
theorem make_mt (w : World) (n : Nat) (hn : n ≤ 100000000000) :
    (Instr.makeSlice 31 (.int .i64 (n : Int)) (.int .i64 (n : Int))).run Try.prog w = .ok (.slice (some ⟨w.heap.size, 0, none⟩) n n) (w.alloc (.cells ((List.replicate n nilR).flatMap RwD.cells).toArray 23)) := by
  obtain ⟨i, hi, hz0, hz1, hz2⟩ := info_parts infoRow
  have hr := run_make (P := Try.prog) w 31 23 i _ Try.underlying31 hi hz0 .i64 .i64 n n (by omega) (by omega) (by rw [hz2]; omega) (by omega)
  rw [hr, hz1, Int.toNat_natCast, ← made_rows]
  rfl
/-- The rows that New fills: the first k are zero. -/
def RowAt (m n g k : Nat) (root w : World) : Prop := ∃ rows : List RwD, ArrM w g rows ∧ rows.length = m ∧ (∀ j r, j < k → rows[j]? = some r → FL w r.a r.c r.ds ∧ r.qs = List.replicate n 0) ∧ Below root.heap.size root w
theorem RowAt.bel {m n g k : Nat} {root w : World} (h : RowAt m n g k root w) : Below root.heap.size root w := by
  obtain ⟨ds, h1, h2, h3, h4⟩ := h; exact h4
theorem RowAt.below {m n g k : Nat} {root w w' : World} (h : RowAt m n g k root w) (hb : Below w.heap.size w w') : RowAt m n g k root w' := by
  obtain ⟨ds, h1, h2, h3, h4⟩ := h
  exact ⟨ds, h1.below hb, h2, fun j d hj hd => ⟨(h3 j d hj hd).1.below hb, (h3 j d hj hd).2⟩, h4.trans (hb.mono h4.size)⟩
theorem RowAt.store {m n g k : Nat} {root w : World} (h : RowAt m n g k root w) (hk : k < m) (hg : root.heap.size ≤ g) {A : Option Addr} {c : Nat} {ds : List FrD} (hf : FL w A c ds) (hq : ds.map FrD.q = List.replicate n 0) :
    ∃ (u0 : Value) (w9 : World), w.cell? ⟨g, k, none⟩ = some u0 ∧ w.frozen? ⟨g, k, none⟩ = false ∧ w.setCell ⟨g, k, none⟩ (.slice A ds.length c) = w9 ∧ RowAt m n g (k + 1) root w9 := by
  obtain ⟨rows, h1, h2, h3, h4⟩ := h
  have hkd : k < rows.length := by omega
  obtain ⟨w9, e9, hA9, o9⟩ := h1.set hkd ⟨A, c, ds⟩
  refine ⟨_, w9, h1.cell (List.getElem?_eq_getElem hkd), Blk.free h1 _, e9, _, hA9, by simpa using h2, fun j d hj hd => ?_, o9.to_below h4 hg h4.size⟩
  rw [List.getElem?_set] at hd
  by_cases e : k = j
  · rw [if_pos e, if_pos hkd] at hd
    injection hd with hd
    subst hd
    exact ⟨hf.onlyM h1 o9, hq⟩
  · rw [if_neg e] at hd
    obtain ⟨h5, h6⟩ := h3 j d (by omega) hd
    exact ⟨h5.onlyM h1 o9, h6⟩
theorem RowAt.done {m n g : Nat} {root w : World} (h : RowAt m n g m root w) (hm : m ≤ 9223372036854775807) : ∃ rows : List RwD, rows.length = m ∧ ML w (some ⟨g, 0, none⟩) rows.length rows ∧ Hid (qsM rows = List.replicate m (List.replicate n 0)) := by
  obtain ⟨rows, h1, h2, h3, h4⟩ := h
  have key : ∀ r ∈ rows, FL w r.a r.c r.ds ∧ r.qs = List.replicate n 0 := fun r hr => by
    obtain ⟨j, hj, e⟩ := List.mem_iff_getElem.1 hr
    exact h3 j r (by omega) (by rw [List.getElem?_eq_getElem hj, e])
  refine ⟨rows, h2, h1.ml (fun r hr => (key r hr).1) (by omega), ?_⟩
  show qsM rows = _
  refine List.eq_replicate_iff.2 ⟨by rw [qsM_len]; exact h2, fun q hq => ?_⟩
  obtain ⟨r, hr, rfl⟩ := List.mem_map.1 hq
  exact (key r hr).2
end Go.Proofs.Ytkjmliebkbbogaa
/- Appends in regions that draw their order: to a full slice of fractions, and of a row to own rows. -/
namespace Go.Proofs.Ytkjmliebkbbogaa
set_option linter.unusedVariables false
set_option linter.unusedSimpArgs false
open Go.RowKit Plain

theorem FL.flat {w : World} {a : Addr} {c : Nat} {ds : List FrD} (h : FL w (some a) c ds) (j : Nat) (u : Value) (hu : (ds.flatMap FrD.cells)[j]? = some u) : w.cell? (a.add j) = some u := by
  have hj : j < ds.length * 3 := by
    have := (List.getElem?_eq_some_iff.1 hu).1
    rw [flat_len] at this
    exact this
  obtain ⟨a', e, h1, h2⟩ := h.row.2.2 (j / 3) (by omega)
  injection e with e
  subst e
  have h3 := flat3 ds (j / 3) (j % 3) (by omega) (by omega)
  rw [show j / 3 * 3 + j % 3 = j by omega, hu] at h3
  have h4 := h2 (j % 3) u h3.symm
  rwa [show j / 3 * 3 + j % 3 = j by omega] at h4
set_option maxRecDepth 100000 in
/-- A slice of a foreign row that is full is appended to: a new row. -/
theorem run_appFull {A : Option Addr} {c : Nat} {ds : List FrD} (w : World) (h : FL w A c ds) (ad : Addr) (cc : Nat) (d : FrD) (hnews : ∀ j u, d.cells[j]? = some u → w.cell? (ad.add j) = some u) (h63 : ds.length + 1 ≤ 1000000000000) :
    ∃ v' w', (Builtin.append_ #[23, 23] 23 #[.slice A ds.length ds.length, .slice (some ad) 1 cc]).run Try.prog w = .ok v' w' ∧ OwnQ w' w.heap.size v' (ds ++ [d]) ∧ w.grownBy w' none := by
  cases A with
  | none =>
    have h0 : ds.length = 0 := by
      rcases Nat.eq_zero_or_pos ds.length with h0 | h0
      · exact h0
      · obtain ⟨a, e, _⟩ := h.row.2.2 0 h0
        cases e
    have : ds = [] := List.eq_nil_of_length_eq_zero h0
    subst this
    exact run_appQ w w.heap.size (.slice none 0 0) [] (OwnQ.nil _ _) ad cc d hnews (by simp) (Nat.le_refl _)
  | some a =>
    obtain ⟨i, hi, hz0, hz1, hz2⟩ := info_parts infoFrac
    have hm : maxLen = 9223372036854775807 := rfl
    have hl : d.cells.length = 1 * 3 := rfl
    have hr := run_append_grow (P := Try.prog) w 23 23 50 i (.agg #[.bool false, .slice none 0 0, .slice none 0 0]) Try.underlying23 hi hz0 a ds.length ds.length (ds.flatMap FrD.cells) (by rw [hz1]; exact flat_len ds) h.flat ad 1 cc d.cells (by rw [hz1]; rfl) hnews (by omega) (by omega) (growslice_fits (by omega) (by rw [hz2]; omega))
    have hzc : (Value.agg #[.bool false, .slice none 0 0, .slice none 0 0]).cells = #[.bool false, .slice none 0 0, .slice none 0 0] := rfl
    have hge := grownCap_ge w (ds.length + 1) ds.length 50
    have hcm := grownCap_le_maxLen w (ds.length + 1) ds.length 50 (by omega)
    refine ⟨_, _, hr, ⟨⟨by rw [flat_len], .inr ⟨w.heap.size, _, _, by rw [List.length_append]; rfl, Nat.le_refl _, heap_alloc_new w.drew _, by simpa using hge, hcm, ?_, ?_⟩⟩, fun g hg => ?_⟩, ⟨rfl, rfl, rfl, by simp, fun k hk _ => heap_alloc_old w.drew _ hk⟩⟩
    · simp only [Array.size_append, List.size_toArray, size_zeroCells, flat_len, hl]
      rw [hzc]
      have h3 : (#[Value.bool false, .slice none 0 0, .slice none 0 0] : Array Value).size = 3 := rfl
      rw [h3]
      omega
    · have e : (ds ++ [d]).length * 3 = (ds.flatMap FrD.cells ++ d.cells).length := by simp only [List.length_append, flat_len, hl, List.length_singleton]; omega
      simp only [Array.toList_append]
      rw [e, List.take_left, List.flatMap_append]
      simp
    · simp [Value.ownBlock] at hg
      subst hg
      refine ⟨_, heap_alloc_new w.drew _, NoDigL.noDig (((noDig_flat ds).append (noDig_cells d)).append (noDig_zero (grownCap w (ds.length + 1) ds.length 50 - (ds.length + 1)))) ?_⟩
      rw [hzc]; simp
theorem step_appFull {w : World} {ops : Array Oper} {o : Oper} {a : Act} {K : Act → World → Prop} {Q : Exit → Act → World → Prop} {E : Prop} (hgd : o.guard = none) (s x : Operand)
    (ho : o.op = .call { callee := .builtin .append, args := #[s, x], argTypes := #[23, 23] }) (hty : o.type = 23)
    {A : Option Addr} {c : Nat} {ds : List FrD} (hf : FL w A c ds) (hs : a.eval s = .slice A ds.length ds.length) (ad : Addr) (cc : Nat) (d : FrD) (hx : a.eval x = .slice (some ad) 1 cc) (hnews : ∀ j u, d.cells[j]? = some u → w.cell? (ad.add j) = some u)
    (h63 : ds.length + 1 ≤ 1000000000000)
    (h : ∀ v' w', OwnQ w' w.heap.size v' (ds ++ [d]) → w.grownBy w' none → K (a.put o.dst v') w') :
    if Region.wanted o (yielded ops a.tmps) = true then Oper.wp Try.prog o a w K Q else E := by
  have hw : Region.wanted o (yielded ops a.tmps) = true := by simp [Region.wanted, hgd]
  rw [if_pos hw]
  obtain ⟨v', w', hr, h2, h3⟩ := run_appFull w hf ad cc d hnews h63
  unfold Oper.wp execOp
  simp only [ho, hty, resolve, invoke, builtin, Sem.run_bind, Sem.run_pure, Result.andThen_ok, List.map_toArray, List.map_cons, List.map_nil, hs, hx, hr]
  exact h v' w' h2 h3
theorem step_appM {w : World} {ops : Array Oper} {o : Oper} {a : Act} {K : Act → World → Prop} {Q : Exit → Act → World → Prop} {E : Prop} (hgd : o.guard = none) {T : TypeId} (hT : Try.prog.underlying T = some (.slice 23)) (s x : Operand)
    (ho : o.op = .call { callee := .builtin .append, args := #[s, x], argTypes := #[T, T] }) (hty : o.type = T)
    (base : Nat) (v : Value) (rows : List RwD) (hs : a.eval s = v) (hown : OwnM w base v rows) (ad : Addr) (c : Nat) (r : RwD) (hx : a.eval x = .slice (some ad) 1 c) (hnews : w.cell? ad = some r.v)
    (h63 : rows.length + 1 ≤ 1000000000000) (hbase : base ≤ w.heap.size)
    (h : ∀ v' w', OwnM w' base v' (rows ++ [r]) → w.grownBy w' v.ownBlock → K (a.put o.dst v') w') :
    if Region.wanted o (yielded ops a.tmps) = true then Oper.wp Try.prog o a w K Q else E := by
  have hw : Region.wanted o (yielded ops a.tmps) = true := by simp [Region.wanted, hgd]
  rw [if_pos hw]
  obtain ⟨v', w', hr, h2, h3⟩ := run_appM hT w base v rows hown ad c r hnews h63 hbase
  unfold Oper.wp execOp
  simp only [ho, hty, resolve, invoke, builtin, Sem.run_bind, Sem.run_pure, Result.andThen_ok, List.map_toArray, List.map_cons, List.map_nil, hs, hx, hr]
  exact h v' w' h2 h3
end Go.Proofs.Ytkjmliebkbbogaa
/- matrix.New: what the call does. -/
namespace Go.Proofs.Ytkjmliebkbbogaa
set_option linter.unusedVariables false
set_option linter.unusedSimpArgs false
open Go.RowKit Plain
attribute [local go_sem ↓] Go.wp_at_zero Go.wp_at_succ

/-- New with its error. -/
def newS (r c : Int) : Mat × Int := if r < 0 ∨ 300 < r ∨ c < 0 ∨ 300 < c then ([], 4) else (List.replicate r.toNat (List.replicate c.toNat 0), 0)
theorem newS_range {r c : Int} (h : r < 0 ∨ 300 < r ∨ c < 0 ∨ 300 < c) : newS r c = ([], 4) := by unfold newS; rw [if_pos h]
theorem newS_ok {r c : Nat} (h1 : r ≤ 300) (h2 : c ≤ 300) : newS r c = (List.replicate r (List.replicate c 0), 0) := by unfold newS; rw [if_neg (by omega)]; simp
def NewInv (m n g : Nat) (root : World) (i : Value) (wr : World) : Prop := ∃ k : Nat, k ≤ m ∧ i = .int .i64 (k : Int) ∧ RowAt m n g k root wr
set_option maxRecDepth 100000 in
set_option maxHeartbeats 4000000 in
theorem newS_any {x y : Int} {w : World} (hx : -9223372036854775808 ≤ x ∧ x ≤ 9223372036854775807) (hy : -9223372036854775808 ≤ y ∧ y ≤ 9223372036854775807) :
    Calls Try.prog 34 #[.int .i64 x, .int .i64 y] w (RetME (newS x y) w) := by
  obtain ⟨R, hR⟩ : ∃ R, Hid (newS x y = R) := ⟨_, rfl⟩
  rw [hR.out]
  by_cases h1 : x < 0
  · have t1 : decide (x < 0) = true := decide_eq_true h1
    go_enter Try.func34, Try.ntmps34
    have hf := Lib.hid (show R = ([], 4) by rw [← hR.out]; exact newS_range (.inl h1))
    go_wp2
    go_ret2
    exact RetME.err hf.out rfl (Below.refl _ _)
  have t1 : decide (x < 0) = false := decide_eq_false h1
  by_cases h2 : 300 < x
  · have t2 : decide ((300 : Int) < x) = true := decide_eq_true h2
    go_enter Try.func34, Try.ntmps34
    have hf := Lib.hid (show R = ([], 4) by rw [← hR.out]; exact newS_range (.inr (.inl h2)))
    go_wp2
    go_ret2
    exact RetME.err hf.out rfl (Below.refl _ _)
  have t2 : decide ((300 : Int) < x) = false := decide_eq_false h2
  by_cases h3 : y < 0
  · have t3 : decide (y < 0) = true := decide_eq_true h3
    go_enter Try.func34, Try.ntmps34
    have hf := Lib.hid (show R = ([], 4) by rw [← hR.out]; exact newS_range (.inr (.inr (.inl h3))))
    go_wp2
    go_ret2
    exact RetME.err hf.out rfl (Below.refl _ _)
  have t3 : decide (y < 0) = false := decide_eq_false h3
  by_cases h4 : 300 < y
  · have t4 : decide ((300 : Int) < y) = true := decide_eq_true h4
    go_enter Try.func34, Try.ntmps34
    have hf := Lib.hid (show R = ([], 4) by rw [← hR.out]; exact newS_range (.inr (.inr (.inr h4))))
    go_wp2
    go_ret2
    exact RetME.err hf.out rfl (Below.refl _ _)
  have t4 : decide ((300 : Int) < y) = false := decide_eq_false h4
  obtain ⟨m, rfl⟩ : ∃ p : Nat, x = (p : Int) := ⟨x.toNat, by omega⟩
  obtain ⟨n, rfl⟩ : ∃ j : Nat, y = (j : Int) := ⟨y.toNat, by omega⟩
  have hRe := Lib.hid (show (List.replicate m (List.replicate n (0 : Rat)), (0 : Int)) = R by rw [← hR.out]; exact (newS_ok (by omega) (by omega)).symm)
  have hmk := make_mt w m (by omega)
  obtain ⟨w1, hw1, b1⟩ : ∃ w1, w.alloc (.cells ((List.replicate m nilR).flatMap RwD.cells).toArray 23) = w1 ∧ Below w.heap.size w w1 := ⟨_, rfl, (Below.refl _ _).alloc (Nat.le_refl _) _⟩
  have hA : ArrM w1 w.heap.size (List.replicate m nilR) := by rw [← hw1]; exact Blk.new w _ _
  rw [hw1] at hmk
  obtain ⟨g, hg⟩ : ∃ g, w.heap.size = g := ⟨_, rfl⟩
  have hg' := Lib.hid (show w.heap.size ≤ g by omega)
  rw [hg] at hmk hA
  clear hg
  go_enter Try.func34, Try.ntmps34
  go_wp2
  go_loopw [26] (fun i wr => NewInv m n g w i wr) (fun i _ => m - (intOf i).toNat)
  case atStart => exact ⟨0, by omega, rfl, _, hA, by simp, fun j d hj => by omega, b1⟩
  case round =>
    obtain ⟨k, hk, rfl, hat⟩ := hrel
    by_cases hkl : k < m
    · have hki : (k : Int) < (m : Int) := by omega
      go_wp2_with fail
      refine (zeros_any n (by omega) _).mono ?_
      rintro e w4 ⟨g2, ds, rfl, hA2, hFV, hqs, hg2, b4⟩
      have hdl : ds.length = n := by rw [← List.length_map (f := FrD.q), hqs.out, List.length_replicate]
      have hfl := hA2.fl hFV (by omega)
      obtain ⟨u0, w9, s0, f0, e9, hat9⟩ := (hat.below b4).store hkl hg'.out hfl hqs.out
      clear hA2 hFV hqs hg2 hfl hat hdl
      go_wp2
      exact ⟨⟨k + 1, by omega, by go_num, hat9⟩, by simp [intOf]; omega⟩
    · obtain rfl : k = m := by omega
      have hlt' : decide ((k : Int) < (k : Int)) = false := decide_eq_false (by omega)
      have hb := hat.bel
      obtain ⟨rows, h1, h2, h3⟩ := hat.done (by omega)
      go_wp2
      go_ret2
      exact ⟨_, _, rows, by rw [← hRe.out, h1]; rfl, h2, by rw [← hRe.out]; exact h3, hb⟩
end Go.Proofs.Ytkjmliebkbbogaa
/- matrix.Rank: what the call does. -/
namespace Go.Proofs.Ytkjmliebkbbogaa
set_option linter.unusedVariables false
set_option linter.unusedSimpArgs false
open Go.RowKit Plain
attribute [local go_sem ↓] Go.wp_at_zero Go.wp_at_succ

/-- Rank; 0 where it is not regular. -/
def rankS (M : Mat) : Nat := if formedL M = true then rankL M else 0
set_option maxRecDepth 100000 in
set_option maxHeartbeats 4000000 in
theorem rank_any {K : Nat} {A : Option Addr} {c : Nat} {rows : List RwD} {w : World} (h : ML w A c rows) (hfm : MFits K (qsM rows)) (hK : 4 * gK K (colsL (qsM rows)) + 1 < 400000000) (hrn : rows.length < 1000000000) (hN : colsL (qsM rows) < 1000000000) :
    Calls Try.prog 22 #[.slice A rows.length c] w (RetI (rankS (qsM rows) : Int) w) := by
  obtain ⟨n, hn⟩ : ∃ n, Hid (colsL (qsM rows) = n) := ⟨_, rfl⟩
  obtain ⟨m, hm⟩ : ∃ m, Hid (rankS (qsM rows) = m) := ⟨_, rfl⟩
  rw [hn.out] at hK hN
  rw [hm.out]
  have hfm' := Lib.hid hfm
  clear hfm
  have hl := h.len
  go_enter Try.func22, Try.ntmps22
  go_wp2_with fail
  refine (cols_any h).mono ?_
  rintro e w1 ⟨rfl, b1⟩
  rw [hn.out]
  rcases hfo : formedL (qsM rows) with _ | _
  · have hf := Lib.hid (show 0 = m by rw [← hm.out]; unfold rankS; rw [hfo]; rfl)
    rw [if_neg (by decide)]
    go_wp2
    go_ret
    exact ⟨by rw [← hf.out]; rfl, b1⟩
  rw [if_pos rfl]
  have hf := Lib.hid (show (reduceL (qsM rows) n).2.length = m by rw [← hm.out, ← hn.out]; unfold rankS; rw [hfo]; rfl)
  have hr := Lib.hid (show rect (qsM rows) n by rw [← hn.out]; exact formedL_rect hfo)
  clear hfo
  go_wp2_with fail
  refine (reduce_any (h.below b1) hr.out (Nat.le_refl n) hfm'.out hK hrn hN).mono ?_
  rintro e w2 ⟨B, cb, es, L, cl, rfl, hml, hqe, hil, b2⟩
  go_wp2
  go_ret
  exact ⟨by rw [← hf.out]; rfl, b1.trans (b2.mono b1.size)⟩
end Go.Proofs.Ytkjmliebkbbogaa
