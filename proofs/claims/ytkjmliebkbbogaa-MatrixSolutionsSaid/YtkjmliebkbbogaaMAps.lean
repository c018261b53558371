/- Slices that the call makes: make, and stores into them. -/
import Derived.Test.YtkjmliebkbbogaaMSame
import Derived.Laws.MakeOwn
import Derived.Test.YtkjmliebkbbogaaFSign
import Derived.Deep.RegionHeld3
namespace Go.Proofs.Ytkjmliebkbbogaa
set_option linter.unusedVariables false
set_option linter.unusedSimpArgs false
open Go.RowKit Plain

def zeroD : FrD := ⟨false, none, 0, [], none, 0, []⟩
theorem made_flat (n : Nat) : madeCells #[.bool false, .slice none 0 0, .slice none 0 0] (n * 3) = ((List.replicate n zeroD).flatMap FrD.cells).toArray := by
  apply Array.ext'
  apply List.ext_getElem?
  intro i
  rw [Array.getElem?_toList]
  show _ = ((List.replicate n zeroD).flatMap FrD.cells)[i]?
  by_cases hi : i < n * 3
  · have h1 : i / 3 < (List.replicate n zeroD).length := by rw [List.length_replicate]; omega
    have h2 := flat3 (List.replicate n zeroD) (i / 3) (i % 3) h1 (by omega)
    rw [show i / 3 * 3 + i % 3 = i by omega] at h2
    rw [h2, List.getElem_replicate]
    have hs : i < (madeCells #[Value.bool false, .slice none 0 0, .slice none 0 0] (n * 3)).size := by rw [size_madeCells]; exact hi
    rw [Array.getElem?_eq_getElem hs]
    simp only [madeCells, Array.getElem_map, Array.getElem_range]
    have h3 : i % 3 = 0 ∨ i % 3 = 1 ∨ i % 3 = 2 := by omega
    have hz : (#[Value.bool false, .slice none 0 0, .slice none 0 0] : Array Value).size = 3 := rfl
    rw [hz]
    rcases h3 with h | h | h <;> rw [h] <;> rfl
  · rw [Array.getElem?_eq_none (by rw [size_madeCells]; omega), List.getElem?_eq_none (by rw [flat_len, List.length_replicate]; omega)]
/-- A block that holds the fractions ds. -/
def ArrQ (w : World) (g : Nat) (ds : List FrD) : Prop := Blk w g 50 (ds.flatMap FrD.cells).toArray
theorem ArrQ.noDig (ds : List FrD) : NoDig (ds.flatMap FrD.cells).toArray := NoDigL.noDig (noDig_flat ds) rfl
theorem ArrQ.below {w w' : World} {g : Nat} {ds : List FrD} (h : ArrQ w g ds) (hb : Below w.heap.size w w') : ArrQ w' g ds := Blk.keep h hb
theorem ArrQ.fl {w : World} {g : Nat} {ds : List FrD} (h : ArrQ w g ds) (hv : ∀ d ∈ ds, FV w d.v d.q) (hm : ds.length ≤ 9223372036854775807) : FL w (some ⟨g, 0, none⟩) ds.length ds :=
  ⟨⟨Nat.le_refl _, hm, fun j hj => ⟨_, rfl, Blk.lt h, fun i u hu => by
    have hi : i < 3 := by
      have := (List.getElem?_eq_some_iff.1 hu).1
      simpa [FrD.cells] using this
    rw [add_zero_, Blk.cell h (j * 3 + i), List.getElem?_toArray, flat3 ds j i hj hi]
    exact hu⟩⟩, hv⟩
theorem ArrQ.cell {w : World} {g j i : Nat} {ds : List FrD} {d : FrD} {u : Value} (h : ArrQ w g ds) (hj : ds[j]? = some d) (hu : d.cells[i]? = some u) : w.cell? ⟨g, j * 3 + i, none⟩ = some u := by
  have hjl := (List.getElem?_eq_some_iff.1 hj).1
  have hi : i < 3 := by
    have := (List.getElem?_eq_some_iff.1 hu).1
    simpa [FrD.cells] using this
  have e := (List.getElem?_eq_some_iff.1 hj).2
  rw [Blk.cell h, List.getElem?_toArray, flat3 ds j i hjl hi, e]
  exact hu
theorem flat_set {ds : List FrD} {j : Nat} {d : FrD} (hj : j < ds.length) : (ds.set j d).flatMap FrD.cells = (((ds.flatMap FrD.cells).set (j * 3) (.bool d.neg)).set (j * 3 + 1) (.slice d.a d.la.length d.ca)).set (j * 3 + 2) (.slice d.b d.lb.length d.cb) := by
  apply List.ext_getElem?
  intro i
  have hl : (ds.set j d).length = ds.length := by simp
  by_cases hi : i < ds.length * 3
  · have h1 := flat3 (ds.set j d) (i / 3) (i % 3) (by rw [hl]; omega) (by omega)
    have h2 := flat3 ds (i / 3) (i % 3) (by omega) (by omega)
    rw [show i / 3 * 3 + i % 3 = i by omega] at h1 h2
    rw [h1, List.getElem_set]
    have hlf : i < (ds.flatMap FrD.cells).length := by rw [flat_len]; exact hi
    simp only [List.getElem?_set, List.length_set]
    by_cases e : j = i / 3
    · rw [if_pos e]
      have h3 : i % 3 = 0 ∨ i % 3 = 1 ∨ i % 3 = 2 := by omega
      rcases h3 with h | h | h
      · rw [if_neg (by omega), if_neg (by omega), if_pos (by omega), if_pos (by omega), h]; rfl
      · rw [if_neg (by omega), if_pos (by omega), if_pos (by omega), h]; rfl
      · rw [if_pos (by omega), if_pos (by omega), h]; rfl
    · rw [if_neg e, if_neg (by omega), if_neg (by omega), if_neg (by omega), h2]
  · rw [List.getElem?_eq_none (by rw [flat_len, hl]; omega), List.getElem?_eq_none (by simp only [List.length_set]; rw [flat_len]; omega)]
/-- An element is stored. -/
theorem ArrQ.set {w : World} {g j : Nat} {ds : List FrD} (h : ArrQ w g ds) (hj : j < ds.length) (d : FrD) :
    ∃ w', ((w.setCell ⟨g, j * 3, none⟩ (.bool d.neg)).setCell ⟨g, j * 3 + 1, none⟩ (.slice d.a d.la.length d.ca)).setCell ⟨g, j * 3 + 2, none⟩ (.slice d.b d.lb.length d.cb) = w' ∧ ArrQ w' g (ds.set j d) ∧ Only w w' g := by
  refine ⟨_, rfl, ?_, (((Only.refl w g).set _ _).set _ _).set _ _⟩
  have h1 := ((Blk.set h (j * 3) (.bool d.neg)).set (j * 3 + 1) (.slice d.a d.la.length d.ca)).set (j * 3 + 2) (.slice d.b d.lb.length d.cb)
  unfold ArrQ
  rw [flat_set hj]
  simpa using h1
set_option maxRecDepth 100000 in
theorem make_fr (w : World) (n : Nat) (hn : n ≤ 100000000000) :
    (Instr.makeSlice 23 (.int .i64 (n : Int)) (.int .i64 (n : Int))).run Try.prog w = .ok (.slice (some ⟨w.heap.size, 0, none⟩) n n) (w.alloc (.cells ((List.replicate n zeroD).flatMap FrD.cells).toArray 50)) := by
  obtain ⟨i, hi, hz0, hz1, hz2⟩ := info_parts infoFrac
  have hr := run_make (P := Try.prog) w 23 50 i _ Try.underlying23 hi hz0 .i64 .i64 n n (by omega) (by omega) (by rw [hz2]; omega) (by omega)
  rw [hr, hz1, Int.toNat_natCast, ← made_flat]
  rfl
set_option maxRecDepth 100000 in
/-- An empty slice with room. -/
theorem make_fr0 (w : World) (n : Nat) (hn : n ≤ 100000000000) :
    (Instr.makeSlice 23 (.int .i64 0) (.int .i64 (n : Int))).run Try.prog w = .ok (.slice (some ⟨w.heap.size, 0, none⟩) 0 n) (w.alloc (.cells ((List.replicate n zeroD).flatMap FrD.cells).toArray 50)) := by
  obtain ⟨i, hi, hz0, hz1, hz2⟩ := info_parts infoFrac
  have hr := run_make (P := Try.prog) w 23 50 i _ Try.underlying23 hi hz0 .i64 .i64 0 n (by omega) (by omega) (by rw [hz2]; omega) (by omega)
  rw [hr, hz1, Int.toNat_natCast, ← made_flat]
  rfl
set_option maxRecDepth 100000 in
theorem own_fr0 (w : World) (n : Nat) (hn : n ≤ 100000000000) {base : Nat} (hb : base ≤ w.heap.size) : OwnQ (w.alloc (.cells ((List.replicate n zeroD).flatMap FrD.cells).toArray 50)) base (.slice (some ⟨w.heap.size, 0, none⟩) 0 n) [] := by
  obtain ⟨i, hi, hz0, hz1, hz2⟩ := info_parts infoFrac
  have hmx : maxLen = 9223372036854775807 := rfl
  obtain ⟨w', hr, h2, h3⟩ := run_make_own (P := Try.prog) w base 23 50 i _ 3 Try.underlying23 hi hz0 hz1 .i64 .i64 n (by rw [hz2]; omega) (by omega) hb
  rw [make_fr0 w n hn] at hr
  injection hr with _ e
  subst e
  refine ⟨h2, fun g hg => ?_⟩
  simp [Value.ownBlock] at hg
  subst hg
  exact ⟨_, Blk.new w _ _, ArrQ.noDig _⟩
theorem LsAt.make {qs : List Rat} {root w : World} {n : Nat} (h : Below root.heap.size root w) (hn : n ≤ 100000000000) : LsAt qs root 0 (.slice (some ⟨w.heap.size, 0, none⟩) 0 n) (w.alloc (.cells ((List.replicate n zeroD).flatMap FrD.cells).toArray 50)) :=
  ⟨[], own_fr0 w n hn h.size, fun d hd => by simp at hd, rfl, rfl, h.alloc h.size _⟩
end Go.Proofs.Ytkjmliebkbbogaa
/- matrix.zeros, New: what the calls do. -/
namespace Go.Proofs.Ytkjmliebkbbogaa
set_option linter.unusedVariables false
set_option linter.unusedSimpArgs false
open Go.RowKit Plain
attribute [local go_sem ↓] Go.wp_at_zero Go.wp_at_succ

/-- The array that zeros fills: the first k are zero. -/
def ZAt (n g k : Nat) (root wr : World) : Prop := ∃ ds : List FrD, ArrQ wr g ds ∧ ds.length = n ∧ (∀ j d, j < k → ds[j]? = some d → FV wr d.v d.q ∧ d.q = 0) ∧ Below root.heap.size root wr
theorem ZAt.below {n g k : Nat} {root w w' : World} (h : ZAt n g k root w) (hb : Below w.heap.size w w') : ZAt n g k root w' := by
  obtain ⟨ds, h1, h2, h3, h4⟩ := h
  exact ⟨ds, h1.below hb, h2, fun j d hj hd => ⟨(h3 j d hj hd).1.below hb, (h3 j d hj hd).2⟩, h4.trans (hb.mono h4.size)⟩
theorem ZAt.bel {n g k : Nat} {root w : World} (h : ZAt n g k root w) : Below root.heap.size root w := by
  obtain ⟨ds, h1, h2, h3, h4⟩ := h; exact h4
def ZInv (n g : Nat) (root : World) (i : Value) (wr : World) : Prop := ∃ k : Nat, k ≤ n ∧ i = .int .i64 (k : Int) ∧ ZAt n g k root wr
theorem ZAt.store {n g k : Nat} {root w : World} (h : ZAt n g k root w) (hk : k < n) (hg : root.heap.size ≤ g) {n1 : Bool} {A1 : Option Addr} {a1 : Nat} {l1 : List Nat} {B1 : Option Addr} {c1 : Nat} {m1 : List Nat} (na : Nv w A1 a1 l1) (nb : Nv w B1 c1 m1) {q : Rat} (iq : QIs n1 l1 m1 q) (hq : q = 0) :
    ∃ (u0 u1 u2 : Value) (w9 : World), w.cell? ⟨g, k * 3, none⟩ = some u0 ∧ w.cell? ⟨g, k * 3 + 1, none⟩ = some u1 ∧ w.cell? ⟨g, k * 3 + 2, none⟩ = some u2 ∧ w.frozen? ⟨g, k * 3, none⟩ = false ∧ w.frozen? ⟨g, k * 3 + 1, none⟩ = false ∧ w.frozen? ⟨g, k * 3 + 2, none⟩ = false ∧
      ((w.setCell ⟨g, k * 3, none⟩ (.bool n1)).setCell ⟨g, k * 3 + 1, none⟩ (.slice A1 l1.length a1)).setCell ⟨g, k * 3 + 2, none⟩ (.slice B1 m1.length c1) = w9 ∧ ZAt n g (k + 1) root w9 := by
  obtain ⟨ds, h1, h2, h3, h4⟩ := h
  have hkd : k < ds.length := by omega
  have hd0 := List.getElem?_eq_getElem hkd
  obtain ⟨w9, e9, hA9, o9⟩ := h1.set hkd ⟨n1, A1, a1, l1, B1, c1, m1⟩
  refine ⟨_, _, _, w9, h1.cell (i := 0) hd0 rfl, h1.cell (i := 1) hd0 rfl, h1.cell (i := 2) hd0 rfl, Blk.free h1 _, Blk.free h1 _, Blk.free h1 _, e9, _, hA9, by simpa using h2, fun j d hj hd => ?_, o9.to_below h4 hg h4.size⟩
  rw [List.getElem?_set] at hd
  by_cases e : k = j
  · rw [if_pos e, if_pos hkd] at hd
    injection hd with hd
    subst hd
    have hf : FV w (FrD.v ⟨n1, A1, a1, l1, B1, c1, m1⟩) 0 := ⟨n1, A1, a1, l1, B1, c1, m1, rfl, na, nb, by rw [← hq]; exact iq⟩
    have hq0 : FrD.q ⟨n1, A1, a1, l1, B1, c1, m1⟩ = 0 := by
      show mkRat (sg n1 (val l1)) (val m1) = 0
      rw [← iq.mk, hq]
    rw [hq0]
    exact ⟨hf.only_blk h1 (ArrQ.noDig ds) o9, rfl⟩
  · rw [if_neg e] at hd
    obtain ⟨h5, h6⟩ := h3 j d (by omega) hd
    exact ⟨h5.only_blk h1 (ArrQ.noDig ds) o9, h6⟩
theorem ZAt.done {n g : Nat} {root w : World} (h : ZAt n g n root w) : ∃ ds : List FrD, ArrQ w g ds ∧ ds.length = n ∧ (∀ d ∈ ds, FV w d.v d.q) ∧ Hid (ds.map FrD.q = List.replicate n 0) := by
  obtain ⟨ds, h1, h2, h3, h4⟩ := h
  refine ⟨ds, h1, h2, fun d hd => ?_, ?_⟩
  · obtain ⟨j, hj, e⟩ := List.mem_iff_getElem.1 hd
    exact (h3 j d (by omega) (by rw [List.getElem?_eq_getElem hj, e])).1
  · show ds.map FrD.q = _
    refine List.eq_replicate_iff.2 ⟨by simpa using h2, fun q hq => ?_⟩
    obtain ⟨d, hd, rfl⟩ := List.mem_map.1 hq
    obtain ⟨j, hj, e⟩ := List.mem_iff_getElem.1 hd
    exact (h3 j d (by omega) (by rw [List.getElem?_eq_getElem hj, e])).2
/-- A call that returns an array of its own. -/
def RetArr (qs : List Rat) (W : World) (e : Ending) (w' : World) : Prop :=
  ∃ (g : Nat) (ds : List FrD), e = .returned (.slice (some ⟨g, 0, none⟩) ds.length ds.length) ∧ ArrQ w' g ds ∧ (∀ d ∈ ds, FV w' d.v d.q) ∧ Hid (ds.map FrD.q = qs) ∧ W.heap.size ≤ g ∧ Below W.heap.size W w'
set_option maxRecDepth 100000 in
set_option maxHeartbeats 4000000 in
theorem zeros_any (n : Nat) (hn : n ≤ 1000000000) (w : World) : Calls Try.prog 49 #[.int .i64 (n : Int)] w (RetArr (List.replicate n 0) w) := by
  have hmk := make_fr w n (by omega)
  obtain ⟨w1, hw1, b1⟩ : ∃ w1, w.alloc (.cells ((List.replicate n zeroD).flatMap FrD.cells).toArray 50) = w1 ∧ Below w.heap.size w w1 := ⟨_, rfl, (Below.refl _ _).alloc (Nat.le_refl _) _⟩
  have hA : ArrQ w1 w.heap.size (List.replicate n zeroD) := by rw [← hw1]; exact Blk.new w _ _
  rw [hw1] at hmk
  obtain ⟨g, hg⟩ : ∃ g, w.heap.size = g := ⟨_, rfl⟩
  have hg' := Lib.hid (show w.heap.size ≤ g by omega)
  rw [hg] at hmk hA
  clear hg
  go_enter Try.func49, Try.ntmps49
  go_wp2
  go_loopw [4, 9] (fun x i wr => ZInv n g w i wr) (fun _ i _ => n - (intOf i).toNat)
  case atStart => exact ⟨0, by omega, rfl, _, hA, by simp, fun j d hj => by omega, b1⟩
  case round =>
    obtain ⟨k, hk, rfl, hat⟩ := hrel
    by_cases hkl : k < n
    · have hki : (k : Int) < (n : Int) := by omega
      go_wp2_with fail
      refine (fromInt_any 0 _ (by decide) (by decide)).mono ?_
      rintro e w4 ⟨v1, rfl, ⟨n1, A1, a1, l1, B1, c1, m1, rfl, na, nb, iq⟩, b4⟩
      replace hat := hat.below b4
      obtain ⟨u0, u1, u2, w9, s0, s1, s2, f0, f1, f2, e9, hat9⟩ := hat.store hkl hg'.out na nb iq (by simp)
      clear na nb iq hat
      go_wp2
      exact ⟨⟨k + 1, by omega, by go_num, hat9⟩, by simp [intOf]; omega⟩
    · obtain rfl : k = n := by omega
      have hlt' : decide ((k : Int) < (k : Int)) = false := decide_eq_false (by omega)
      have hb := hat.bel
      obtain ⟨ds, h1, h2, h3, h4⟩ := hat.done
      go_wp2
      go_ret
      exact ⟨g, ds, by rw [h2]; rfl, h1, h3, h4, hg'.out, hb⟩
end Go.Proofs.Ytkjmliebkbbogaa
/- Appends of several rows; lists of integers. -/
namespace Go.Proofs.Ytkjmliebkbbogaa
set_option linter.unusedVariables false
set_option linter.unusedSimpArgs false
open Go.RowKit Plain
attribute [local go_sem ↓] Go.wp_at_zero Go.wp_at_succ

section
variable {E T : TypeId} {C : Nat} {P : Value → Prop}
set_option maxRecDepth 100000 in
theorem run_appG0 {z : Value} {b : Nat} (w : World) (base : Nat) (v : Value) (n : Nat) (xs : List Value) (hT : Try.prog.underlying T = some (.slice E)) (hI : (Try.prog.info? E).map (fun i => (i.zero, i.size, i.bytes)) = some (some z, C, b)) (hzs : z.cells.size = C) (hC : 0 < C) (hzP : AllP P z.cells) (hb : b ≤ 100)
    (hown : OwnG E C P w base v n xs) (ad : Addr) (m c : Nat) (news : List Value) (hl : news.length = m * C) (hnews : ∀ j u, news[j]? = some u → w.cell? (ad.add j) = some u) (h1 : ∀ u ∈ news, u.oneCell' = true) (hnP : AllPL P news)
    (h63 : n + m ≤ 1000000000000) (hbase : base ≤ w.heap.size) (hxP : AllPL P xs) :
    ∃ v' w', (Builtin.append_ #[T, T] T #[v, .slice (some ad) m c]).run Try.prog w = .ok v' w' ∧ OwnG E C P w' base v' (n + m) (xs ++ news) ∧ w.grownBy w' v.ownBlock := by
  rcases Nat.eq_zero_or_pos m with rfl | hm
  · obtain ⟨i, hi, hz0, hz1, hz2⟩ := info_parts hI
    have hmx : maxLen = 9223372036854775807 := rfl
    have hby : ∀ k, k ≤ 1000000000000 → k * b ≤ 140737488355328 := fun k hk => Nat.le_trans (Nat.mul_le_mul hk hb) (by omega)
    obtain ⟨v', w', hrun, h2, h3, h4⟩ := run_append_own (P := Try.prog) w base T T E i z C b hT hi hz0 hz1 hz2 hzs hC v n xs hown.1 ad 0 c news hl hnews h1 (by omega) (hby _ h63) hbase
    refine ⟨v', w', hrun, ⟨h2, ?_⟩, h3⟩
    rcases hown.1.2 with ⟨rfl, h0⟩ | ⟨g, cap, cur, rfl, hbg, hg, hnc, hcm, hcs, htake⟩
    · have := h4.2 ⟨rfl, rfl⟩
      subst this
      intro g hg
      simp [Value.ownBlock] at hg
    · have hfit : n * i.size + news.length ≤ cur.size := by rw [hz1, hl, hcs, ← Nat.add_mul]; exact Nat.mul_le_mul_right _ hnc
      have hr := run_append_room (P := Try.prog) w T T E i hT hi g n cap cur hg ad 0 c news (by rw [hz1]; exact hl) hnews h1 hnc hfit
      rw [hrun] at hr
      injection hr with e1 e2
      subst e1 e2
      intro g' hg'
      simp [Value.ownBlock] at hg'
      subst hg'
      obtain ⟨cur', hb', hn'⟩ := hown.2 g rfl
      have ec : cur' = cur := by
        unfold Blk at hb'
        rw [hg] at hb'
        injection hb' with hb'
        injection hb' with hb' _ _
        exact hb'.symm
      subst ec
      exact ⟨_, setRow_heap w g cur' _ _ _ hg, AllPL.toAll (((hn'.list.take (n * i.size)).append hnP).append (hn'.list.drop (n * i.size + news.length))) rfl⟩
  · exact run_appG w base v n xs hT hI hzs hC hzP hb hown ad m c news hm hl hnews h1 hnP h63 hbase hxP
end
theorem rows_cell {rs : List RwD} {w : World} {ad : Addr} (h : ∀ j r, rs[j]? = some r → w.cell? (ad.add j) = some r.v) (j : Nat) (u : Value) (hu : (rs.flatMap RwD.cells)[j]? = some u) : w.cell? (ad.add j) = some u := by
  have hj : j < rs.length := by
    have := (List.getElem?_eq_some_iff.1 hu).1
    rw [flat_rows] at this
    omega
  rw [flat1 hj] at hu
  rw [← hu]
  exact h j _ (List.getElem?_eq_getElem hj)
set_option maxRecDepth 100000 in
/-- Rows are appended. -/
theorem run_appMs {T : TypeId} (hT : Try.prog.underlying T = some (.slice 23)) (w : World) (base : Nat) (v : Value) (rows : List RwD) (hown : OwnM w base v rows) (ad : Addr) (m c : Nat) (rs : List RwD) (hm : rs.length = m) (hnews : ∀ j r, rs[j]? = some r → w.cell? (ad.add j) = some r.v) (h63 : rows.length + m ≤ 1000000000000) (hbase : base ≤ w.heap.size) :
    ∃ v' w', (Builtin.append_ #[T, T] T #[v, .slice (some ad) m c]).run Try.prog w = .ok v' w' ∧ OwnM w' base v' (rows ++ rs) ∧ w.grownBy w' v.ownBlock := by
  subst hm
  obtain ⟨v', w', h1, h2, h3⟩ := run_appG0 w base v rows.length _ hT infoRow rfl (by decide) (fun i u hi => by
    match i with
    | 0 => injection hi with hi; exact ⟨_, _, _, hi.symm⟩
    | i + 1 => simp [Value.cells] at hi) (by decide) hown ad rs.length c (rs.flatMap RwD.cells) (by rw [flat_rows]) (rows_cell hnews) (fun u hu => by
      obtain ⟨A, n, c, e⟩ := isSl_cells rs u hu
      subst e; rfl) (isSl_cells rs) h63 hbase (isSl_cells rows)
  refine ⟨v', w', h1, ?_, h3⟩
  unfold OwnM
  rw [List.length_append, List.flatMap_append]
  exact h2
theorem wpList_appMs {ops : Array Oper} {rest : List Oper} {o : Oper} {a : Act} {Q : Exit → Act → World → Prop} (hgd : o.guard = none) {T : TypeId} (hT : Try.prog.underlying T = some (.slice 23)) (hty : o.type = T) (s x : Operand)
    (ho : o.op = .call { callee := .builtin .append, args := #[s, x], argTypes := #[T, T] }) {w : World}
    (base : Nat) (v : Value) (rows : List RwD) (hs : a.eval s = v) (hown : OwnM w base v rows) (ad : Addr) (m c : Nat) (rs : List RwD) (hm : rs.length = m) (hx : a.eval x = .slice (some ad) m c) (hnews : ∀ j r, rs[j]? = some r → w.cell? (ad.add j) = some r.v)
    (h63 : rows.length + m ≤ 1000000000000) (hbase : base ≤ w.heap.size)
    (h : ∀ v' w', OwnM w' base v' (rows ++ rs) → w.grownBy w' v.ownBlock → wpList Try.prog ops Q rest (a.put o.dst v') w') : wpList Try.prog ops Q (o :: rest) a w := by
  refine wpList_plain hgd fun K hK => ?_
  obtain ⟨v', w', hrun, h2, h3⟩ := run_appMs hT w base v rows hown ad m c rs hm hnews h63 hbase
  unfold Oper.wp execOp
  simp only [ho, hty, resolve, invoke, builtin, Sem.run_bind, Sem.run_pure, Result.andThen_ok, List.map_toArray, List.map_cons, List.map_nil, hs, hx, hrun]
  exact hK _ _ (h v' w' h2 h3)
/-- Cells that hold integers. -/
def IsI (u : Value) : Prop := ∃ z, u = .int .i64 z
theorem isI_u32 (d : Int) : ¬ IsI (.int .u32 d) := by rintro ⟨z, h⟩; cases h
theorem isI_bool (b : Bool) : ¬ IsI (.bool b) := by rintro ⟨z, h⟩; cases h
def icells (is : List Nat) : List Value := is.map fun (x : Nat) => Value.int .i64 (x : Int)
theorem isI_cells (is : List Nat) : AllPL IsI (icells is) := fun u hu => by
  obtain ⟨r, _, hr⟩ := List.mem_map.1 hu
  exact ⟨_, hr.symm⟩
/-- A list of integers of the call's own. -/
def OwnI (w : World) (base : Nat) (v : Value) (is : List Nat) : Prop := OwnG 3 1 IsI w base v is.length (icells is)
theorem OwnI.nil (w : World) (base : Nat) : OwnI w base (.slice none 0 0) [] := OwnG.nil w base
theorem infoInt : (Try.prog.info? 3).map (fun i => (i.zero, i.size, i.bytes)) = some (some (.int .i64 0), 1, 8) := by kernel_rfl
set_option maxRecDepth 100000 in
theorem run_appI {T : TypeId} (hT : Try.prog.underlying T = some (.slice 3)) (w : World) (base : Nat) (v : Value) (is : List Nat) (hown : OwnI w base v is) (ad : Addr) (c : Nat) (x : Nat) (hnews : w.cell? ad = some (.int .i64 (x : Int))) (h63 : is.length + 1 ≤ 1000000000000) (hbase : base ≤ w.heap.size) :
    ∃ v' w', (Builtin.append_ #[T, T] T #[v, .slice (some ad) 1 c]).run Try.prog w = .ok v' w' ∧ OwnI w' base v' (is ++ [x]) ∧ w.grownBy w' v.ownBlock := by
  obtain ⟨v', w', h1, h2, h3⟩ := run_appG w base v is.length _ hT infoInt rfl (by decide) (fun i u hi => by
    match i with
    | 0 => injection hi with hi; exact ⟨_, hi.symm⟩
    | i + 1 => simp [Value.cells] at hi) (by decide) hown ad 1 c [.int .i64 (x : Int)] (by decide) rfl (fun j u hj => by
    match j with
    | 0 => injection hj with hj; subst hj; simpa [Addr.add] using hnews
    | j + 1 => simp at hj) (fun u hu => by simp at hu; subst hu; rfl) (fun u hu => by simp at hu; exact ⟨_, hu⟩) h63 hbase (isI_cells is)
  refine ⟨v', w', h1, ?_, h3⟩
  unfold OwnI icells
  rw [List.length_append, List.map_append]
  simpa [icells] using h2
theorem wpList_appI {ops : Array Oper} {rest : List Oper} {o : Oper} {a : Act} {Q : Exit → Act → World → Prop} (hgd : o.guard = none) {T : TypeId} (hT : Try.prog.underlying T = some (.slice 3)) (hty : o.type = T) (s x : Operand)
    (ho : o.op = .call { callee := .builtin .append, args := #[s, x], argTypes := #[T, T] }) {w : World}
    (base : Nat) (v : Value) (is : List Nat) (hs : a.eval s = v) (hown : OwnI w base v is) (ad : Addr) (c : Nat) (y : Nat) (hx : a.eval x = .slice (some ad) 1 c) (hnews : w.cell? ad = some (.int .i64 (y : Int)))
    (h63 : is.length + 1 ≤ 1000000000000) (hbase : base ≤ w.heap.size)
    (h : ∀ v' w', OwnI w' base v' (is ++ [y]) → w.grownBy w' v.ownBlock → wpList Try.prog ops Q rest (a.put o.dst v') w') : wpList Try.prog ops Q (o :: rest) a w := by
  refine wpList_plain hgd fun K hK => ?_
  obtain ⟨v', w', hrun, h2, h3⟩ := run_appI hT w base v is hown ad c y hnews h63 hbase
  unfold Oper.wp execOp
  simp only [ho, hty, resolve, invoke, builtin, Sem.run_bind, Sem.run_pure, Result.andThen_ok, List.map_toArray, List.map_cons, List.map_nil, hs, hx, hrun]
  exact hK _ _ (h v' w' h2 h3)
theorem OwnI.below {w w' : World} {base : Nat} {v : Value} {is : List Nat} (h : OwnI w base v is) (hb : Below w.heap.size w w') : OwnI w' base v is := OwnG.below h hb
theorem OwnI.form {w : World} {base : Nat} {v : Value} {is : List Nat} (h : OwnI w base v is) : ∃ A c, v = .slice A is.length c ∧ is.length ≤ c ∧ c ≤ 9223372036854775807 := by
  have hm2 : maxLen = 9223372036854775807 := rfl
  rcases h.1.2 with ⟨rfl, h0⟩ | ⟨g, cap, cur, rfl, hb, hg, hn, hm, hs, ht⟩
  · exact ⟨none, 0, by rw [h0], by omega, by omega⟩
  · exact ⟨_, _, rfl, hn, by omega⟩
/-- A list of integers that is read. -/
def ILs (w : World) (A : Option Addr) (c : Nat) (is : List Nat) : Prop := is.length ≤ c ∧ c ≤ 9223372036854775807 ∧ ∀ (k x : Nat), is[k]? = some x → ∃ a, A = some a ∧ a.block < w.heap.size ∧ w.cell? (a.add k) = some (.int .i64 (x : Int))
theorem ILs.below {w w' : World} {A : Option Addr} {c : Nat} {is : List Nat} (h : ILs w A c is) (hb : Below w.heap.size w w') : ILs w' A c is :=
  ⟨h.1, h.2.1, fun k x hk => by
    obtain ⟨a, e, h1, h2⟩ := h.2.2 k x hk
    exact ⟨a, e, Nat.lt_of_lt_of_le h1 hb.size, by
      rw [World.cell?_of_block (w := w) (by rw [block_add]; exact hb.block _ h1)]; exact h2⟩⟩
theorem OwnI.il {w : World} {base : Nat} {v : Value} {is : List Nat} (h : OwnI w base v is) : ∃ A c, v = .slice A is.length c ∧ ILs w A c is := by
  have hm2 : maxLen = 9223372036854775807 := rfl
  rcases h.1.2 with ⟨rfl, h0⟩ | ⟨g, cap, cur, rfl, hb, hg, hn, hm, hs, ht⟩
  · have : is = [] := List.eq_nil_of_length_eq_zero h0
    subst this
    exact ⟨none, 0, rfl, by simp, by omega, fun k x hk => by simp at hk⟩
  · refine ⟨_, cap, rfl, hn, by omega, fun k x hk => ⟨_, rfl, (Array.getElem?_eq_some_iff.1 hg).1, ?_⟩⟩
    have hkl := (List.getElem?_eq_some_iff.1 hk).1
    rw [add_zero_, World.ownsRow.cellAt (n := is.length) (base := base) (e := 3) (size := 1) (cap := cap) h.1 k (by omega)]
    show (icells is)[k]? = _
    unfold icells
    rw [List.getElem?_map, hk]; rfl
theorem ML.own {E : TypeId} {C : Nat} {P : Value → Prop} {w w' : World} {base c n : Nat} {A : Option Addr} {rows : List RwD} {v : Value} {xs : List Value} (hd : ∀ d, ¬ P (.int .u32 d)) (hp : ¬ P (.bool true) ∧ ¬ P (.bool false)) (hs : ∀ A n c, ¬ P (.slice A n c)) (h : ML w A c rows) (hown : OwnG E C P w base v n xs) (hg : w.grownBy w' v.ownBlock) : ML w' A c rows :=
  ⟨h.row.own (P := P) (fun r => ⟨0, r.v, rfl, hs _ _ _⟩) hown hg, fun r hr => (h.fl r hr).own hd hp hown hg⟩
theorem ML.ownI {w w' : World} {base c : Nat} {A : Option Addr} {rows : List RwD} {v : Value} {is : List Nat} (h : ML w A c rows) (hown : OwnI w base v is) (hg : w.grownBy w' v.ownBlock) : ML w' A c rows :=
  h.own isI_u32 ⟨isI_bool _, isI_bool _⟩ (fun A n c => by rintro ⟨z, e⟩; cases e) hown hg
/-- The rows that a chain of appends holds. -/
def ChAt (ws : World) (rows : List RwD) (v : Value) (w : World) : Prop := OwnM w ws.heap.size v rows ∧ Below ws.heap.size ws w
theorem ChAt.below {ws w w' : World} {rows : List RwD} {v : Value} (h : ChAt ws rows v w) (hb : Below w.heap.size w w') : ChAt ws rows v w' := ⟨h.1.below hb, h.2.trans (hb.mono h.2.size)⟩
theorem ChAt.app {ws w w' : World} {rows rows' : List RwD} {v v' : Value} (h : ChAt ws rows v w) (ho : OwnM w' ws.heap.size v' rows') (hg : w.grownBy w' v.ownBlock) : ChAt ws rows' v' w' :=
  ⟨ho, h.2.grown hg h.2.size fun g hg => OwnG.block h.1 hg⟩
theorem ML.cellAt {w : World} {a : Addr} {c : Nat} {rows : List RwD} (h : ML w (some a) c rows) {k : Nat} {r : RwD} (hk : rows[k]? = some r) : w.cell? (a.add k) = some r.v := by
  obtain ⟨a', r', e, h1, h2, h3, h4⟩ := h.at (List.getElem?_eq_some_iff.1 hk).1
  injection e with e
  subst e
  have := h4.out
  rw [hk] at this
  injection this with this
  subst this
  exact h2
/-- The empty list that buildSlice lays. -/
theorem OwnM.empty (w : World) {base : Nat} (hb : base ≤ w.heap.size) : OwnM (w.alloc (.cells #[] 23)) base (.slice (some ⟨w.heap.size, 0, none⟩) 0 0) [] := by
  have hB := Blk.new w 23 #[]
  exact ⟨⟨rfl, .inr ⟨w.heap.size, 0, #[], rfl, hb, hB, Nat.le_refl _, by decide, rfl, rfl⟩⟩, fun g hg => by
    simp [Value.ownBlock] at hg
    subst hg
    exact ⟨_, hB, fun i u hi => by simp at hi⟩⟩
end Go.Proofs.Ytkjmliebkbbogaa
