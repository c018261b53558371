/- Own arrays of integers and of truth values. -/
import Derived.Test.YtkjmliebkbbogaaMRk
import Derived.Deep.RegionHeld3
import Derived.Test.YtkjmliebkbbogaaMRSolvb
import Derived.Test.YtkjmliebkbbogaaMRPiv
namespace Go.Proofs.Ytkjmliebkbbogaa
set_option linter.unusedVariables false
set_option linter.unusedSimpArgs false
open Go.RowKit Plain
attribute [local go_sem ↓] Go.wp_at_zero Go.wp_at_succ

theorem made_one (z : Value) (n : Nat) : madeCells #[z] (n * 1) = (List.replicate n z).toArray := by
  apply Array.ext'
  apply List.ext_getElem?
  intro i
  rw [Array.getElem?_toList]
  by_cases hi : i < n
  · have hs : i < (madeCells #[z] (n * 1)).size := by rw [size_madeCells]; omega
    rw [Array.getElem?_eq_getElem hs]
    simp only [madeCells, Array.getElem_map, Array.getElem_range]
    have hz : (#[z] : Array Value).size = 1 := rfl
    rw [hz, Nat.mod_one]
    simp [hi]
  · rw [Array.getElem?_eq_none (by rw [size_madeCells]; omega)]
    simp; omega
/-- A block that holds integers. -/
def IntA (w : World) (g : Nat) (av : List Int) : Prop := Blk w g 3 (av.map (Value.int .i64)).toArray
/-- A block that holds truth values. -/
def BoolA (w : World) (g : Nat) (ub : List Bool) : Prop := Blk w g 4 (ub.map Value.bool).toArray
def IsZ (u : Value) : Prop := ∃ z, u = .int .i64 z
def IsB (u : Value) : Prop := ∃ b, u = .bool b
theorem isZ_u32 (d : Int) : ¬ IsZ (.int .u32 d) := by rintro ⟨z, h⟩; cases h
theorem isB_u32 (d : Int) : ¬ IsB (.int .u32 d) := by rintro ⟨z, h⟩; cases h
theorem IntA.all (av : List Int) : AllP IsZ (av.map (Value.int .i64)).toArray := AllPL.toAll (l := av.map (Value.int .i64)) (fun u hu => by
  obtain ⟨z, _, rfl⟩ := List.mem_map.1 hu; exact ⟨z, rfl⟩) rfl
theorem BoolA.all (ub : List Bool) : AllP IsB (ub.map Value.bool).toArray := AllPL.toAll (l := ub.map Value.bool) (fun u hu => by
  obtain ⟨z, _, rfl⟩ := List.mem_map.1 hu; exact ⟨z, rfl⟩) rfl
section
variable {w w' : World} {g : Nat}
theorem IntA.below {av : List Int} (h : IntA w g av) (hb : Below w.heap.size w w') : IntA w' g av := Blk.keep h hb
theorem BoolA.below {ub : List Bool} (h : BoolA w g ub) (hb : Below w.heap.size w w') : BoolA w' g ub := Blk.keep h hb
theorem IntA.only {g' : Nat} {av : List Int} (h : IntA w g av) (ho : Only w w' g') (hne : g ≠ g') : IntA w' g av := Blk.only h ho hne
theorem BoolA.only {g' : Nat} {ub : List Bool} (h : BoolA w g ub) (ho : Only w w' g') (hne : g ≠ g') : BoolA w' g ub := Blk.only h ho hne
theorem IntA.cell {av : List Int} {j : Nat} {z : Int} (h : IntA w g av) (hj : av[j]? = some z) : w.cell? ⟨g, j, none⟩ = some (.int .i64 z) := by
  rw [Blk.cell h, List.getElem?_toArray, List.getElem?_map, hj]; rfl
theorem BoolA.cell {ub : List Bool} {j : Nat} {z : Bool} (h : BoolA w g ub) (hj : ub[j]? = some z) : w.cell? ⟨g, j, none⟩ = some (.bool z) := by
  rw [Blk.cell h, List.getElem?_toArray, List.getElem?_map, hj]; rfl
theorem IntA.set {av : List Int} (h : IntA w g av) (j : Nat) (z : Int) : ∃ w', w.setCell ⟨g, j, none⟩ (.int .i64 z) = w' ∧ IntA w' g (av.set j z) ∧ Only w w' g := by
  refine ⟨_, rfl, ?_, (Only.refl w g).set _ _⟩
  have h1 := Blk.set h j (.int .i64 z)
  unfold IntA
  rw [List.map_set]
  simpa using h1
theorem BoolA.set {ub : List Bool} (h : BoolA w g ub) (j : Nat) (z : Bool) : ∃ w', w.setCell ⟨g, j, none⟩ (.bool z) = w' ∧ BoolA w' g (ub.set j z) ∧ Only w w' g := by
  refine ⟨_, rfl, ?_, (Only.refl w g).set _ _⟩
  have h1 := Blk.set h j (.bool z)
  unfold BoolA
  rw [List.map_set]
  simpa using h1
theorem IntA.free {av : List Int} (h : IntA w g av) (j : Nat) : w.frozen? ⟨g, j, none⟩ = false := Blk.free h j
theorem BoolA.free {ub : List Bool} (h : BoolA w g ub) (j : Nat) : w.frozen? ⟨g, j, none⟩ = false := Blk.free h j
theorem FL.onlyI {av : List Int} {A : Option Addr} {c : Nat} {ds : List FrD} (h : FL w A c ds) (hB : IntA w g av) (ho : Only w w' g) : FL w' A c ds :=
  ⟨h.row.only_p (P := IsZ) (fun d => ⟨0, .bool d.neg, rfl, by rintro ⟨z, h⟩; cases h⟩) hB (IntA.all av) ho, fun d hd => (h.fv d hd).only_blk hB (fun i u hi => isZ_u32 u (IntA.all av i _ hi)) ho⟩
theorem FL.onlyB {ub : List Bool} {A : Option Addr} {c : Nat} {ds : List FrD} (h : FL w A c ds) (hB : BoolA w g ub) (ho : Only w w' g) : FL w' A c ds :=
  ⟨h.row.only_p (P := IsB) (fun d => ⟨1, .slice d.a d.la.length d.ca, rfl, by rintro ⟨z, h⟩; cases h⟩) hB (BoolA.all ub) ho, fun d hd => (h.fv d hd).only_blk hB (fun i u hi => isB_u32 u (BoolA.all ub i _ hi)) ho⟩
theorem ML.onlyI {av : List Int} {A : Option Addr} {c : Nat} {rows : List RwD} (h : ML w A c rows) (hB : IntA w g av) (ho : Only w w' g) : ML w' A c rows :=
  ⟨h.row.only_p (P := IsZ) (fun r => ⟨0, r.v, rfl, by rintro ⟨z, h⟩; cases h⟩) hB (IntA.all av) ho, fun r hr => (h.fl r hr).onlyI hB ho⟩
theorem ML.onlyB {ub : List Bool} {A : Option Addr} {c : Nat} {rows : List RwD} (h : ML w A c rows) (hB : BoolA w g ub) (ho : Only w w' g) : ML w' A c rows :=
  ⟨h.row.only_p (P := IsB) (fun r => ⟨0, r.v, rfl, by rintro ⟨z, h⟩; cases h⟩) hB (BoolA.all ub) ho, fun r hr => (h.fl r hr).onlyB hB ho⟩
end
theorem infoI1 : (Try.prog.info? 3).map (fun i => (i.zero, i.size, i.bytes)) = some (some (.int .i64 0), 1, 8) := by kernel_rfl
theorem infoBool : (Try.prog.info? 4).map (fun i => (i.zero, i.size, i.bytes)) = some (some (.bool false), 1, 1) := by kernel_rfl
set_option maxRecDepth 100000 in
theorem make_ints (w : World) (n : Nat) (hn : n ≤ 100000000000) :
    ∃ w', (Instr.makeSlice 69 (.int .i64 (n : Int)) (.int .i64 (n : Int))).run Try.prog w = .ok (.slice (some ⟨w.heap.size, 0, none⟩) n n) w' ∧ IntA w' w.heap.size (List.replicate n 0) ∧ Below w.heap.size w w' ∧ w.heap.size < w'.heap.size := by
  obtain ⟨i, hi, hz0, hz1, hz2⟩ := info_parts infoI1
  have hr := run_make (P := Try.prog) w 69 3 i _ Try.underlying69 hi hz0 .i64 .i64 n n (by omega) (by omega) (by rw [hz2]; omega) (by omega)
  refine ⟨w.alloc (.cells ((List.replicate n (0 : Int)).map (Value.int .i64)).toArray 3), ?_, Blk.new w _ _, (Below.refl _ _).alloc (Nat.le_refl _) _, by simp⟩
  rw [hr, hz1, Int.toNat_natCast, List.map_replicate, ← made_one]
  rfl
set_option maxRecDepth 100000 in
theorem make_bools (w : World) (n : Nat) (hn : n ≤ 100000000000) :
    ∃ w', (Instr.makeSlice 75 (.int .i64 (n : Int)) (.int .i64 (n : Int))).run Try.prog w = .ok (.slice (some ⟨w.heap.size, 0, none⟩) n n) w' ∧ BoolA w' w.heap.size (List.replicate n false) ∧ Below w.heap.size w w' ∧ w.heap.size < w'.heap.size := by
  obtain ⟨i, hi, hz0, hz1, hz2⟩ := info_parts infoBool
  have hr := run_make (P := Try.prog) w 75 4 i _ Try.underlying75 hi hz0 .i64 .i64 n n (by omega) (by omega) (by rw [hz2]; omega) (by omega)
  refine ⟨w.alloc (.cells ((List.replicate n false).map Value.bool).toArray 4), ?_, Blk.new w _ _, (Below.refl _ _).alloc (Nat.le_refl _) _, by simp⟩
  rw [hr, hz1, Int.toNat_natCast, List.map_replicate, ← made_one]
  rfl
end Go.Proofs.Ytkjmliebkbbogaa
/- R17 Solve: what the call does. -/
namespace Go.Proofs.Ytkjmliebkbbogaa
set_option linter.unusedVariables false
set_option linter.unusedSimpArgs false
open Go.RowKit Plain
attribute [local go_sem ↓] Go.wp_at_zero Go.wp_at_succ

def atO (ps : List (Nat × Nat)) (j : Nat) : Option Nat := (ps.find? fun p => decide (p.1 = j)).map Prod.snd
theorem xval_atO (ps : List (Nat × Nat)) (f : Nat → Rat) (j : Nat) : xval ps f j = match atO ps j with | some i => f i | none => 0 := by
  induction ps with
  | nil => rfl
  | cons p ps ih =>
    unfold atO
    rw [List.find?_cons]
    by_cases h : p.1 = j
    · rw [decide_eq_true h]; simp [xval, h]
    · rw [decide_eq_false h]; simp only [xval, if_neg h]; exact ih
theorem atO_none {ps : List (Nat × Nat)} {j : Nat} (h : ∀ p ∈ ps, p.1 ≠ j) : atO ps j = none := by
  unfold atO
  rw [List.find?_eq_none.2 (fun p hp => by simpa using h p hp)]; rfl
theorem atO_snoc (ps : List (Nat × Nat)) (k i j : Nat) (hj : j ≠ k) : atO (ps ++ [(k, i)]) j = atO ps j := by
  unfold atO
  rw [List.find?_append]
  cases ps.find? fun p => decide (p.1 = j) with
  | some p => rfl
  | none => simp [List.find?_cons, Ne.symm hj]
theorem atO_new {ps : List (Nat × Nat)} {k i : Nat} (h : ∀ p ∈ ps, p.1 ≠ k) : atO (ps ++ [(k, i)]) k = some i := by
  have h0 := atO_none h
  unfold atO at *
  rw [List.find?_append]
  cases hf : ps.find? fun p => decide (p.1 = k) with
  | some p => rw [hf] at h0; cases h0
  | none => simp [List.find?_cons]
theorem atO_lt {ps : List (Nat × Nat)} {j i n m : Nat} (h : atO ps j = some i) (hl : ∀ p ∈ ps, p.1 < n ∧ p.2 < m) : i < m := by
  unfold atO at h
  cases hf : ps.find? fun p => decide (p.1 = j) with
  | none => rw [hf] at h; cases h
  | some p =>
    rw [hf] at h
    injection h with h
    subst h
    exact (hl p (List.mem_of_find?_eq_some hf)).2
theorem usedB_snoc (ps : List (Nat × Nat)) (k i j : Nat) : usedB (ps ++ [(k, i)]) j = (usedB ps j || decide (i = j)) := by
  unfold usedB; rw [List.any_append]; simp
/-- What the arrays hold ahead of column k. -/
structure SvAt (W : Mat) (m n ga gu : Nat) (root : World) (k : Nat) (A : Option Addr) (c : Nat) (rows : List RwD) (av : List Int) (ub : List Bool) (wr : World) : Prop where
  ml : ML wr A c rows
  qs : qsM rows = (refReduce W k).1
  rl : rows.length = m
  ia : IntA wr ga av
  al : av.length = n
  at_ : ∀ j, j < k → av[j]? = some (colV (atO (refReduce W k).2 j))
  ba : BoolA wr gu ub
  ul : ub.length = m
  us : ∀ i, i < m → ub[i]? = some (usedB (refReduce W k).2 i)
  bel : Below root.heap.size root wr
def SvInv (W : Mat) (m n ga gu : Nat) (root : World) (tv kv : Value) (wr : World) : Prop :=
  ∃ (k : Nat) (A : Option Addr) (c : Nat) (rows : List RwD) (av : List Int) (ub : List Bool), k ≤ n ∧ tv = .slice A rows.length c ∧ kv = .int .i64 (k : Int) ∧ SvAt W m n ga gu root k A c rows av ub wr
/-- The search for a row. -/
def FdP (t : Mat) (ps : List (Nat × Nat)) (k i : Nat) : Bool := !usedB ps i && decide (fn t i k ≠ 0)
def FdInv (t : Mat) (ps : List (Nat × Nat)) (m k ga gu : Nat) (root : World) (A : Option Addr) (c : Nat) (rows : List RwD) (av : List Int) (ub : List Bool) (iv : Value) (wr : World) : Prop :=
  ∃ (i : Nat) (o : Option Nat), i ≤ m ∧ iv = .int .i64 (i : Int) ∧ Hid (o = (List.range i).find? (FdP t ps k)) ∧ IntA wr ga (av.set k (colV o)) ∧ BoolA wr gu ub ∧ ML wr A c rows ∧ Below root.heap.size root wr
theorem find_step {p : Nat → Bool} {i : Nat} {o : Option Nat} (h : o = (List.range i).find? p) : (List.range (i + 1)).find? p = o.or (if p i = true then some i else none) := by
  rw [List.range_succ, List.find?_append, ← h]
  congr 1
  rw [List.find?_cons]
  cases p i <;> simp
def RsInv (t : Mat) (ps : List (Nat × Nat)) (m n : Nat) (root : World) (iv : Value) (wr : World) : Prop :=
  ∃ i : Nat, i ≤ m ∧ iv = .int .i64 (i : Int) ∧ Hid (∀ j, j < i → (usedB ps j || decide (fn t j n = 0)) = true) ∧ Below root.heap.size root wr
theorem fn_row {rows : List RwD} {i k : Nat} {r : RwD} {d : FrD} (h : rows[i]? = some r) (hd : r.ds[k]? = some d) : fn (qsM rows) i k = d.q := by
  unfold fn qsM
  rw [List.getD_eq_getElem?_getD (l := rows.map RwD.qs), List.getElem?_map, h]
  show (r.ds.map FrD.q).getD k 0 = _
  rw [List.getD_eq_getElem?_getD, List.getElem?_map, hd]; rfl
theorem solveS_ref {M : Mat} {b : List Rat} {n : Nat} (h : formedL M = true) (hb : b.length = M.length) (hn : colsL M = n) :
    solveS M b = if refZero (refReduce (withL M b) n).1 (refReduce (withL M b) n).2 n = true then (outL n (refReduce (withL M b) n).2 fun i => fn (refReduce (withL M b) n).1 i n, 0) else ([], 6) := by
  unfold solveS
  rw [if_pos ⟨h, hb⟩, solve_eq h hb]
  unfold solveR
  rw [hn]
  simp only
  split <;> rename_i hz
  · split at hz
    · injection hz with hz
      rename_i h2
      rw [if_pos h2, ← hz]
    · cases hz
  · split at hz
    · cases hz
    · rename_i h2
      rw [if_neg h2]
set_option maxRecDepth 100000 in
set_option maxHeartbeats 4000000 in
theorem rsolve_any {K : Nat} {A X : Option Addr} {c cx : Nat} {rows : List RwD} {bs : List FrD} {w : World} (h : ML w A c rows) (hx : FL w X cx bs) (hfm : MFits K (qsM rows)) (hfx : QFits K (bs.map FrD.q)) (hK : 4 * gK K (colsL (qsM rows)) + 1 < 400000000) (hrn : rows.length < 1000000000) (hN : colsL (qsM rows) < 100000000) :
    Calls Try.prog 29 #[.slice A rows.length c, .slice X bs.length cx] w (RetLE (solveS (qsM rows) (bs.map FrD.q)) w) := by
  obtain ⟨n, hn⟩ : ∃ n, Hid (colsL (qsM rows) = n) := ⟨_, rfl⟩
  obtain ⟨R, hR⟩ : ∃ m, Hid (solveS (qsM rows) (bs.map FrD.q) = m) := ⟨_, rfl⟩
  rw [hn.out] at hK hN
  rw [hR.out]
  have hfm' := Lib.hid hfm
  have hfx' := Lib.hid hfx
  clear hfm hfx
  have hl := h.len
  have hlx := hx.len
  go_enter Try.func29, Try.ntmps29
  go_wp2_with fail
  refine (formed17_any h).mono ?_
  rintro e w1 ⟨rfl, b1⟩
  rcases hfo : formedL (qsM rows) with _ | _
  · have hf := Lib.hid (show R = ([], 2) by rw [← hR.out]; exact solveS_form (by rw [hfo]; simp))
    go_wp2
    go_ret2
    exact RetLE.err hf.out rfl b1
  have hfo' := Lib.hid hfo
  have hr := Lib.hid (show rect (qsM rows) n by rw [← hn.out]; exact formedL_rect hfo)
  clear hfo
  by_cases hle0 : ¬ bs.length = rows.length
  · have hle := hle0
    have hne : ((bs.length : Int) != (rows.length : Int)) = true := by simp; omega
    have hf := Lib.hid (show R = ([], 2) by rw [← hR.out]; exact solveS_form (by rw [List.length_map, qsM_len]; exact fun h => hle h.2))
    go_wp2
    go_ret2
    exact RetLE.err hf.out rfl b1
  have hle' := Lib.hid (Decidable.not_not.1 hle0)
  have hne : ((bs.length : Int) != (rows.length : Int)) = false := by rw [bne_eq_false_iff_eq]; have := hle'.out; omega
  clear hle0
  have hbl := Lib.hid (show (bs.map FrD.q).length = (qsM rows).length by rw [List.length_map, qsM_len]; exact hle'.out)
  go_wp2_with fail
  refine (cols17_any (h.below b1)).mono ?_
  rintro e w2 ⟨rfl, rfl⟩
  rw [hn.out]
  go_wp2_with fail
  refine (with_any (h.below b1) (hx.below b1) hr.out hle'.out.symm hrn (by omega)).mono ?_
  rintro e w3 ⟨A3, c3, r3, rfl, h3, q3, b3⟩
  have b03 := b1.trans (b3.mono b1.size)
  obtain ⟨W, hW⟩ : ∃ W, Hid (withL (qsM rows) (bs.map FrD.q) = W) := ⟨_, rfl⟩
  have hWr := Lib.hid (show rect W (n + 1) by rw [← hW.out]; exact withL_rect hr.out)
  have hWl := Lib.hid (show W.length = rows.length by rw [← hW.out, withL_length hbl.out, qsM_len])
  have hWf := Lib.hid (show MFits K W by rw [← hW.out]; exact withL_fits hfm'.out hfx'.out)
  have hRR := Lib.hid (show R = if refZero (refReduce W n).1 (refReduce W n).2 n = true then (outL n (refReduce W n).2 fun i => fn (refReduce W n).1 i n, 0) else ([], 6) by
    rw [← hR.out, ← hW.out]; exact solveS_ref hfo'.out hbl.out hn.out)
  rw [hW.out] at q3
  obtain ⟨m, hm⟩ : ∃ m, Hid (rows.length = m) := ⟨_, rfl⟩
  have hl3 := Lib.hid (show r3.length = m by rw [← qsM_len, q3.out, hWl.out, hm.out])
  have hlr3 := h3.len
  obtain ⟨w4, hmk4, i4, b4, s4⟩ := make_ints w3 n (by omega)
  obtain ⟨w5, hmk5, i5, b5, s5⟩ := make_bools w4 rows.length (by omega)
  have hg4 : w.heap.size ≤ w3.heap.size := b03.size
  have hg5 : w.heap.size ≤ w4.heap.size := Nat.le_trans b03.size b4.size
  have hg45 : w3.heap.size ≠ w4.heap.size := by omega
  obtain ⟨ga, hga⟩ : ∃ g, w3.heap.size = g := ⟨_, rfl⟩
  obtain ⟨gu, hgu⟩ : ∃ g, w4.heap.size = g := ⟨_, rfl⟩
  have i45 := i4.below b5
  have h35 := (h3.below b4).below b5
  have b05 := (b03.trans (b4.mono b03.size)).trans (b5.mono hg5)
  rw [hga] at hmk4 i45 hg4 hg45
  rw [hgu] at hmk5 i5 hg5 hg45
  rw [hm.out] at i5
  have hmlt : m < 1000000000 := by rw [← hm.out]; exact hrn
  have hgg := Lib.hid hg45
  have hg4' := Lib.hid hg4
  have hg5' := Lib.hid hg5
  clear i4 hga hgu hg4 hg5 hg45 h3
  have h0 : SvAt W m n ga gu w 0 A3 c3 r3 (List.replicate n 0) (List.replicate m false) w5 := by
    refine ⟨h35, q3.out, hl3.out, i45, by simp, fun j hj => by omega, i5, by simp, fun i hi => ?_, b05⟩
    rw [List.getElem?_replicate, if_pos hi]; rfl
  clear i45 i5 h35
  go_wp2
  go_loopw [7, 10] (fun tv kv wr => SvInv W m n ga gu w tv kv wr) (fun _ kv _ => n - (intOf kv).toNat)
  case atStart => exact ⟨0, A3, c3, r3, _, _, by omega, rfl, rfl, h0⟩
  case round =>
    clear h0
    obtain ⟨k, A, c, rs, av, ub, hk, rfl, rfl, hat⟩ := hrel
    obtain ⟨hml, hqs, hrl0, hia, hal, hats, hba, hul, hus, hbel⟩ := hat
    obtain ⟨hred⟩ : Nonempty (RefRed W k (n + 1) (refReduce W k)) := ⟨refReduce_ok hWr.out k (by omega)⟩
    have hft := Lib.hid (refReduce_fits hWf.out hWr.out k (by omega))
    have hstep := Lib.hid (refReduce_succ W k)
    obtain ⟨S, hS⟩ : ∃ S, Hid (refReduce W k = S) := ⟨_, rfl⟩
    rw [hS.out] at hqs hats hus hft hstep hred
    obtain ⟨t, ps⟩ := S
    simp only at hqs hats hus
    have hred' := Lib.hid hred
    have hqs' := Lib.hid hqs
    have hats' := Lib.hid hats
    have hus' := Lib.hid hus
    have hal' := Lib.hid hal
    have hul' := Lib.hid hul
    have hrl' := Lib.hid hrl0
    have hlm := hml.len
    have hml2 : m ≤ rs.length := by omega
    have hrlm : rs.length ≤ m := by omega
    have hcolr := Lib.hid (show ∀ r ∈ rs, r.ds.length = n + 1 from fun r hr' => by
      have := hred.rct r.qs (by rw [← hqs]; exact List.mem_map.2 ⟨r, hr', rfl⟩)
      rw [RwD.qs_len] at this; exact this)
    clear hred hqs hats hus hal hul hrl0
    by_cases hkl : k < n
    · have hki : (k : Int) < (n : Int) := by omega
      have hka : k < av.length := by rw [hal'.out]; exact hkl
      have ha0 := hia.cell (List.getElem?_eq_getElem hka)
      have fr0 := hia.free k
      obtain ⟨w9, e9, hia9, o9⟩ := hia.set k (-1)
      have hml9 := hml.onlyI hia o9
      have hba9 := hba.only o9 hgg.out.symm
      have b9 : Below w.heap.size w w9 := o9.to_below hbel hg4'.out hbel.size
      clear hia hml hba o9
      go_wp2
      go_loopw [11] (fun iv wr => FdInv t ps m k ga gu w A c rs av ub iv wr) (fun iv _ => m - (intOf iv).toNat)
      case atStart => exact ⟨0, none, by omega, rfl, rfl, hia9, hba9, hml9, b9⟩
      case round =>
        clear hia9 hba9 hml9
        obtain ⟨i, o, hi, rfl, ho, hia, hba, hml, hb⟩ := hrel
        have hsl : k < (av.set k (colV o)).length := by rw [List.length_set]; exact hka
        have hc1 := hia.cell (j := k) (z := colV o) (by rw [List.getElem?_set, if_pos rfl, if_pos hka])
        have hfs := Lib.hid (find_step ho.out)
        by_cases hil : i < m
        · have hii : (i : Int) < (rs.length : Int) := by omega
          have hii2 : (i : Int) < (m : Int) := by omega
          have hii4 : (i : Int) < (rows.length : Int) := by have := hm.out; omega
          cases o with
          | some x =>
            have hc2 : wr.cell? ⟨ga, k, none⟩ = some (.int .i64 (x : Int)) := hc1
            have hlt2 : decide ((x : Int) < 0) = false := decide_eq_false (by omega)
            clear hc1
            go_wp2
            go_roundw
            case rel => exact ⟨i + 1, some x, by omega, by go_num, hfs.out.symm, hia, hba, hml, hb⟩
            case measure => simp [intOf]; omega
          | none =>
            have hc2 : wr.cell? ⟨ga, k, none⟩ = some (.int .i64 (-1)) := hc1
            clear hc1
            have hu1 := hba.cell (hus'.out i hil)
            obtain ⟨u, hu⟩ : ∃ u, Hid (usedB ps i = u) := ⟨_, rfl⟩
            rw [hu.out] at hu1
            cases u with
            | true =>
              have hfs2 := Lib.hid (show none = (List.range (i + 1)).find? (FdP t ps k) by rw [hfs.out]; unfold FdP; rw [hu.out]; rfl)
              go_wp2
              go_roundw
              case rel => exact ⟨i + 1, none, by omega, by go_num, hfs2, hia, hba, hml, hb⟩
              case measure => simp [intOf]; omega
            | false =>
              obtain ⟨a, r, rfl, hab, hc0, hfr, hrk⟩ := hml.at (k := i) (by omega)
              have hrl := hcolr.out r (List.mem_of_getElem? hrk.out)
              have hki2 : (k : Int) < (r.ds.length : Int) := by omega
              have hlr := hfr.len
              have hkr : k < r.ds.length := by omega
              obtain ⟨b, d, eb, hbb, hd0, hd1, hd2, hfd, hdk⟩ := hfr.at hkr
              have hfn := Lib.hid (show fn t i k = d.q by rw [← hqs'.out]; exact fn_row hrk.out hdk.out)
              rw [eb] at hc0
              clear eb hfr hrl
              obtain ⟨s, hs⟩ : ∃ s, Hid (cmpR d.q 0 = s) := ⟨_, rfl⟩
              have hcs := refSign_any hfd
              rw [hs.out] at hcs
              go_wp2_with fail
              refine hcs.mono ?_
              rintro e w6 ⟨rfl, b6⟩
              clear hcs
              replace hia := hia.below b6
              replace hba := hba.below b6
              replace hml := hml.below b6
              replace hb := hb.trans (b6.mono hb.size)
              by_cases hz : d.q = 0
              · have hs0 : (s != 0) = false := by rw [bne_eq_false_iff_eq, ← hs.out]; exact cmpR_zero.2 hz
                have hfs2 := Lib.hid (show none = (List.range (i + 1)).find? (FdP t ps k) by rw [hfs.out]; unfold FdP; rw [hu.out, hfn.out, hz]; rfl)
                clear hz
                go_wp2
                go_roundw
                case rel => exact ⟨i + 1, none, by omega, by go_num, hfs2, hia, hba, hml, hb⟩
                case measure => simp [intOf]; omega
              · have hs0 : (s != 0) = true := by rw [bne_iff_ne]; intro e; exact hz (cmpR_zero.1 (by rw [hs.out]; exact e))
                have hfs2 := Lib.hid (show some i = (List.range (i + 1)).find? (FdP t ps k) by rw [hfs.out]; unfold FdP; rw [hu.out, hfn.out, decide_eq_true hz]; rfl)
                clear hz
                have hc3 := hia.cell (j := k) (z := -1) (by rw [List.getElem?_set, if_pos rfl, if_pos hka]; rfl)
                have fr1 := hia.free k
                obtain ⟨w9, e9, hia9, o9⟩ := hia.set k (i : Int)
                have hml9 := hml.onlyI hia o9
                have hba9 := hba.only o9 hgg.out.symm
                have b9 : Below w.heap.size w w9 := o9.to_below hb hg4'.out hb.size
                rw [List.set_set] at hia9
                clear hia hml hba o9
                go_wp2
                go_roundw
                case rel => exact ⟨i + 1, some i, by omega, by go_num, hfs2, hia9, hba9, hml9, b9⟩
                case measure => simp [intOf]; omega
        · obtain rfl : i = m := by omega
          have hlt' : decide ((i : Int) < (rs.length : Int)) = false := decide_eq_false (by omega)
          have hff := Lib.hid (show findFree t ps k = o by
            have e : t.length = i := by rw [← hqs'.out, qsM_len]; exact hrl'.out
            unfold findFree; rw [e, ho.out]; rfl)
          have hpk := Lib.hid (show ∀ p ∈ ps, p.1 ≠ k from fun p hp => by have := (hred'.out.red.lt p hp).1; omega)
          have hlp := Lib.hid (show ∀ p ∈ ps, p.1 < k ∧ p.2 < i from fun p hp => by have := hred'.out.red.lt p hp; rw [hWl.out, hm.out] at this; exact this)
          cases o with
          | none =>
            have hc2 : wr.cell? ⟨ga, k, none⟩ = some (.int .i64 (-1)) := hc1
            clear hc1
            have hst := Lib.hid (show refReduce W (k + 1) = (t, ps) by rw [hstep.out]; unfold refStep; simp only [hff.out])
            have hat2 : SvAt W i n ga gu w (k + 1) A c rs (av.set k (colV none)) ub wr := by
              refine ⟨hml, by rw [hst.out]; exact hqs'.out, hrl'.out, hia, by rw [List.length_set]; exact hal'.out, fun j hj => ?_, hba, hul'.out, fun j hj => by rw [hst.out]; exact hus'.out j hj, hb⟩
              rw [hst.out, List.getElem?_set]
              by_cases e : k = j
              · subst e; rw [if_pos rfl, if_pos hka, atO_none hpk.out]
              · rw [if_neg e]; exact hats'.out j (by omega)
            clear hia hba hml
            go_wp2
            go_roundw
            case rel => exact ⟨k + 1, A, c, rs, _, ub, by omega, rfl, by go_num, hat2⟩
            case measure => simp [intOf]; omega
          | some x =>
            have hc2 : wr.cell? ⟨ga, k, none⟩ = some (.int .i64 (x : Int)) := hc1
            clear hc1
            have hge : decide ((0 : Int) ≤ (x : Int)) = true := decide_eq_true (by omega)
            have hfp := Lib.hid (List.find?_some (show (List.range t.length).find? (FdP t ps k) = some x from hff.out))
            have hxi : x < i := by
              have h9 := List.mem_of_find?_eq_some ho.out.symm
              exact List.mem_range.1 h9
            have hxi2 : (x : Int) < (i : Int) := by omega
            have hxi4 : (x : Int) < (rows.length : Int) := by have := hm.out; omega
            have hxu : x < ub.length := by rw [hul'.out]; exact hxi
            have hu1 := hba.cell (List.getElem?_eq_getElem hxu)
            have fr1 := hba.free x
            obtain ⟨w9, e9, hba9, o9⟩ := hba.set x true
            have hia9 := hia.only o9 hgg.out
            have hml9 := hml.onlyB hba o9
            have b9 : Below w.heap.size w w9 := o9.to_below hb hg5'.out hb.size
            have hc3 := hia9.cell (j := k) (z := (x : Int)) (by rw [List.getElem?_set, if_pos rfl, if_pos hka]; rfl)
            have hst := Lib.hid (show refReduce W (k + 1) = (pivL t x k, ps ++ [(k, x)]) by rw [hstep.out]; unfold refStep; simp only [hff.out])
            have hfo2 := Lib.hid (rect_formed (show rect t (n + 1) from hred'.out.rct) (by rw [← hqs'.out, qsM_len]; omega))
            have hne2 := Lib.hid (show fn t x k ≠ 0 by
              have := hfp.out
              unfold FdP at this
              rw [Bool.and_eq_true] at this
              exact of_decide_eq_true this.2)
            have hpv := Lib.hid (show pivS (qsM rs) (x : Int) (k : Int) = (pivL t x k, 0) by
              rw [hqs'.out]
              exact pivS_ok hfo2.out.1 (by rw [← hqs'.out, qsM_len]; omega) (by rw [hfo2.out.2]; omega) hne2.out)
            have hcp := rpivot_any (K := gK K k) (x := (x : Int)) (y := (k : Int)) hml9 (by rw [hqs'.out]; exact hft.out) (by
              have h1 := gK_mono K (show k ≤ n by omega)
              omega) (by omega) (by rw [hqs'.out, hfo2.out.2]; omega) (by omega) (by omega)
            rw [hpv.out] at hcp
            clear hia hba hml o9 hml9
            go_wp2_with fail
            refine hcp.mono ?_
            rintro e w8 ⟨A8, c8, r8, rfl, h8, q8, b8⟩
            clear hcp
            have hat2 : SvAt W i n ga gu w (k + 1) A8 c8 r8 (av.set k (colV (some x))) (ub.set x true) w8 := by
              refine ⟨h8, by rw [hst.out]; exact q8.out, ?_, hia9.below b8, by rw [List.length_set]; exact hal'.out, fun j hj => ?_, hba9.below b8, by rw [List.length_set]; exact hul'.out, fun j hj => ?_, b9.trans (b8.mono b9.size)⟩
              · rw [← qsM_len, q8.out, pivL_length, ← hqs'.out, qsM_len]; exact hrl'.out
              · rw [hst.out, List.getElem?_set]
                by_cases e : k = j
                · subst e; rw [if_pos rfl, if_pos hka]; exact congrArg (fun o => some (colV o)) (atO_new hpk.out).symm
                · rw [if_neg e]; show _ = some (colV (atO (ps ++ [(k, x)]) j)); rw [atO_snoc ps k x j (fun e2 => e e2.symm)]; exact hats'.out j (by omega)
              · rw [hst.out, List.getElem?_set]
                show _ = some (usedB (ps ++ [(k, x)]) j)
                rw [usedB_snoc]
                by_cases e : x = j
                · subst e; rw [if_pos rfl, if_pos hxu, decide_eq_true rfl, Bool.or_true]
                · rw [if_neg e, decide_eq_false e, Bool.or_false]; exact hus'.out j hj
            clear hia9 hba9 h8
            go_wp2
            go_roundw
            case rel => exact ⟨k + 1, A8, c8, r8, _, _, by omega, rfl, by go_num, hat2⟩
            case measure => simp [intOf]; omega
    · obtain rfl : k = n := by omega
      have hlt' : decide ((k : Int) < (k : Int)) = false := decide_eq_false (by omega)
      have hRR2 := Lib.hid (show R = if refZero t ps k = true then (outL k ps fun i => fn t i k, 0) else ([], 6) by rw [hRR.out, hS.out])
      have htl := Lib.hid (show t.length = m by rw [← hqs'.out, qsM_len]; exact hrl'.out)
      have hlp := Lib.hid (show ∀ p ∈ ps, p.1 < k ∧ p.2 < m from fun p hp => by have := hred'.out.red.lt p hp; rw [hWl.out, hm.out] at this; exact this)
      obtain ⟨wq, hwq⟩ : ∃ wq : World, wq = wr := ⟨_, rfl⟩
      subst hwq
      go_wp2
      go_loopw [12] (fun iv wr => RsInv t ps m k wq iv wr) (fun iv _ => m - (intOf iv).toNat)
      case atStart => exact ⟨0, by omega, rfl, fun j hj => by omega, Below.refl _ _⟩
      case round =>
        obtain ⟨i, hi, rfl, hz, b2⟩ := hrel
        by_cases hil : i < m
        · have hii : (i : Int) < (rs.length : Int) := by omega
          have hii2 : (i : Int) < (m : Int) := by omega
          have hii4 : (i : Int) < (rows.length : Int) := by have := hm.out; omega
          have hu1 := (hba.below b2).cell (hus'.out i hil)
          obtain ⟨u, hu⟩ : ∃ u, Hid (usedB ps i = u) := ⟨_, rfl⟩
          rw [hu.out] at hu1
          cases u with
          | true =>
            have hz2 := Lib.hid (show ∀ j, j < i + 1 → (usedB ps j || decide (fn t j k = 0)) = true from fun j hj => by
              by_cases e : j = i
              · rw [e, hu.out]; rfl
              · exact hz.out j (by omega))
            go_wp2
            go_roundw
            case rel => exact ⟨i + 1, by omega, by go_num, hz2, b2⟩
            case measure => simp [intOf]; omega
          | false =>
            obtain ⟨a, r, rfl, hab, hc0, hfr, hrk⟩ := (hml.below b2).at (k := i) (by omega)
            have hrl := hcolr.out r (List.mem_of_getElem? hrk.out)
            have hki2 : (k : Int) < (r.ds.length : Int) := by omega
            have hlr := hfr.len
            have hkr : k < r.ds.length := by omega
            obtain ⟨b, d, eb, hbb, hd0, hd1, hd2, hfd, hdk⟩ := hfr.at hkr
            have hfn := Lib.hid (show fn t i k = d.q by rw [← hqs'.out]; exact fn_row hrk.out hdk.out)
            rw [eb] at hc0
            clear eb hfr hrl
            obtain ⟨s, hs⟩ : ∃ s, Hid (cmpR d.q 0 = s) := ⟨_, rfl⟩
            have hcs := refSign_any hfd
            rw [hs.out] at hcs
            go_wp2_with fail
            refine hcs.mono ?_
            rintro e w6 ⟨rfl, b6⟩
            clear hcs
            have b26 := b2.trans (b6.mono b2.size)
            by_cases hzz : d.q = 0
            · have hs0 : (s != 0) = false := by rw [bne_eq_false_iff_eq, ← hs.out]; exact cmpR_zero.2 hzz
              have hz2 := Lib.hid (show ∀ j, j < i + 1 → (usedB ps j || decide (fn t j k = 0)) = true from fun j hj => by
                by_cases e : j = i
                · rw [e, hu.out, hfn.out, decide_eq_true hzz]; rfl
                · exact hz.out j (by omega))
              clear hzz
              go_wp2
              go_roundw
              case rel => exact ⟨i + 1, by omega, by go_num, hz2, b26⟩
              case measure => simp [intOf]; omega
            · have hs0 : (s != 0) = true := by rw [bne_iff_ne]; intro e; exact hzz (cmpR_zero.1 (by rw [hs.out]; exact e))
              have hf := Lib.hid (show R = ([], 6) by
                rw [hRR2.out, if_neg]
                intro h9
                unfold refZero at h9
                have := List.all_eq_true.1 h9 i (List.mem_range.2 (by rw [htl.out]; exact hil))
                rw [hu.out, hfn.out, decide_eq_false hzz] at this
                cases this)
              clear hzz
              go_wp2
              go_ret2
              exact RetLE.err hf.out rfl (hbel.trans (b26.mono hbel.size))
        · obtain rfl : i = m := by omega
          have hlt2 : decide ((i : Int) < (rs.length : Int)) = false := decide_eq_false (by omega)
          have hlt2n : decide (i < rs.length) = false := decide_eq_false (by omega)
          obtain ⟨qs, hqo⟩ : ∃ qs, Hid (outL k ps (fun i => fn t i k) = qs) := ⟨_, rfl⟩
          have hf := Lib.hid (show R = (qs, 0) by
            rw [hRR2.out, if_pos, hqo.out]
            unfold refZero
            rw [List.all_eq_true]
            intro j hj
            exact hz.out j (by rw [List.mem_range, htl.out] at hj; exact hj))
          have hql := Lib.hid (show qs.length = k by rw [← hqo.out, outL_length])
          have hbq := hbel.trans (b2.mono hbel.size)
          replace hml := hml.below b2
          replace hia := hia.below b2
          clear hba b2
          obtain ⟨wp, hwp⟩ : ∃ wp : World, wp = wr := ⟨_, rfl⟩
          subst hwp
          go_wp2
          go_loopw [13, 14] (fun v iv wr => LsInv qs wp v iv wr) (fun _ iv _ => k - (intOf iv).toNat)
          case atStart => exact ⟨0, by omega, rfl, LsAt.start _ (Below.refl _ _)⟩
          case round =>
            obtain ⟨j, hj, rfl, hat⟩ := hrel
            rw [hql.out] at hj
            have hbj := hat.bel
            by_cases hjl : j < k
            · have hji : (j : Int) < (k : Int) := by omega
              have hjb : j < 1000000000000 := by omega
              have hc1 := (hia.below hbj).cell (hats'.out j hjl)
              obtain ⟨o, ho⟩ : ∃ o, Hid (atO ps j = o) := ⟨_, rfl⟩
              have hqj : qs[j]? = some (match atO ps j with | some i => fn t i k | none => 0) := by
                rw [← hqo.out, ← xval_atO]
                unfold outL
                rw [List.getElem?_map, List.getElem?_range hjl]; rfl
              rw [ho.out] at hc1 hqj
              cases o with
              | none =>
                have hc2 : wr.cell? ⟨ga, j, none⟩ = some (.int .i64 (-1)) := hc1
                have hq := Lib.hid (show qs[j]? = some ((0 : Int) : Rat) by rw [hqj]; rfl)
                clear hc1 hqj
                go_wp2_with fail
                refine (refFromInt_any 0 _ (by decide) (by decide)).mono ?_
                rintro e w4 ⟨v1, rfl, ⟨n1, A1, a1, l1, B1, c1, m1, rfl, na, nb, iq⟩, b1⟩
                replace hat := hat.below b1
                obtain ⟨os, ho, h63, hbs, hnext⟩ := hat.app hjb hq.out na nb iq
                clear na nb iq
                go_wp2_with (at_builtin; refine wpList_appQ rfl rfl _ _ rfl _ _ os rfl ho ⟨w4.heap.size, 0, none⟩ 1 ⟨n1, A1, a1, l1, B1, c1, m1⟩ rfl (World.news_of_block (heap_alloc_new w4 _)) h63 hbs ?_; intro v6 w6 ho6 hg6)
                have hat6 := hnext.out v6 w6 ho6 hg6
                clear hnext ho hg6 ho6 hat
                go_wp2
                go_roundw
                case rel => exact ⟨j + 1, by rw [hql.out]; omega, by go_num, hat6⟩
                case measure => simp [intOf]; omega
              | some x =>
                have hc2 : wr.cell? ⟨ga, j, none⟩ = some (.int .i64 (x : Int)) := hc1
                have hlt3 : decide ((x : Int) < 0) = false := decide_eq_false (by omega)
                have hxi : x < i := atO_lt ho.out hlp.out
                have hxi2 : (x : Int) < (rs.length : Int) := by omega
                obtain ⟨a, r, rfl, hab, hc0, hfr, hrk⟩ := (hml.below hbj).at (k := x) (by omega)
                have hrl := hcolr.out r (List.mem_of_getElem? hrk.out)
                have hki2 : (k : Int) < (r.ds.length : Int) := by omega
                have hlr := hfr.len
                have hkr : k < r.ds.length := by omega
                obtain ⟨b, d, eb, hbb, hd0, hd1, hd2, hfd, hdk⟩ := hfr.at hkr
                have hfn := Lib.hid (show fn t x k = d.q by rw [← hqs'.out]; exact fn_row hrk.out hdk.out)
                rw [eb] at hc0
                have hq := Lib.hid (show qs[j]? = some d.q by rw [hqj]; exact congrArg some hfn.out)
                clear eb hfr hrl hc1 hqj
                obtain ⟨n1, A1, a1, l1, B1, c1, m1, ev, na, nb, iq⟩ := hfd
                unfold FrD.v fracV at ev
                injection ev with ev
                have e1 : d.neg = n1 := by injection ev with ev; injection ev with ev _; injection ev
                have ev2 : (.slice d.a d.la.length d.ca : Value) = .slice A1 l1.length a1 := by injection ev with ev; injection ev with _ ev; injection ev
                have ev3 : (.slice d.b d.lb.length d.cb : Value) = .slice B1 m1.length c1 := by injection ev with ev; injection ev with _ ev; injection ev with _ ev; injection ev
                rw [e1] at hd0
                rw [ev2] at hd1
                rw [ev3] at hd2
                clear ev e1 ev2 ev3
                obtain ⟨os, ho, h63, hbs, hnext⟩ := hat.app hjb hq.out na nb iq
                clear na nb iq
                go_wp2_with (at_builtin; refine wpList_appQ rfl rfl _ _ rfl _ _ os rfl ho ⟨wr.heap.size, 0, none⟩ 1 ⟨n1, A1, a1, l1, B1, c1, m1⟩ rfl (World.news_of_block (heap_alloc_new wr _)) h63 hbs ?_; intro v6 w6 ho6 hg6)
                have hat6 := hnext.out v6 w6 ho6 hg6
                clear hnext ho hg6 ho6 hat
                go_wp2
                go_roundw
                case rel => exact ⟨j + 1, by rw [hql.out]; omega, by go_num, hat6⟩
                case measure => simp [intOf]; omega
            · obtain rfl : j = k := by omega
              have hlt3 : decide ((j : Int) < (j : Int)) = false := decide_eq_false (by omega)
              obtain ⟨B, cb, es, rfl, hfl, hqe⟩ := hat.done hql.out.symm
              go_wp2
              go_ret2
              exact ⟨B, cb, es, by rw [hf.out]; rfl, hfl, by rw [hf.out]; exact hqe, hbq.trans (hbj.mono hbq.size)⟩
end Go.Proofs.Ytkjmliebkbbogaa
