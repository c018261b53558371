/- matrix.cols, R17 Cols, Formed: what the calls do. -/
import Derived.Test.YtkjmliebkbbogaaMSame
import Derived.Test.YtkjmliebkbbogaaGValid
import Derived.Deep.RegionHeld3
import Derived.Test.YtkjmliebkbbogaaOwnL
namespace Go.Proofs.Ytkjmliebkbbogaa
set_option linter.unusedVariables false
set_option linter.unusedSimpArgs false
open Go.RowKit Plain
attribute [local go_sem ↓] Go.wp_at_zero Go.wp_at_succ

/-- The first row's length. -/
theorem colsL_of {rows : List RwD} {r : RwD} (h : rows[0]? = some r) : colsL (qsM rows) = r.ds.length := by
  cases rows with
  | nil => simp at h
  | cons a l => simp at h; subst h; simp [colsL, qsM, RwD.qs]
theorem colsL_nil {rows : List RwD} (h : rows.length = 0) : colsL (qsM rows) = 0 ∧ formedL (qsM rows) = true := by
  have := List.eq_nil_of_length_eq_zero h
  subst this
  exact ⟨rfl, rfl⟩
def lenB (n : Nat) (r : RwD) : Bool := decide (r.ds.length = n)
theorem formedL_len (rows : List RwD) : formedL (qsM rows) = rows.all (lenB (colsL (qsM rows))) := by
  unfold formedL
  rw [show (qsM rows).all (fun r => decide (r.length = colsL (qsM rows))) = rows.all fun r => decide (r.qs.length = colsL (qsM rows)) from by rw [show qsM rows = rows.map RwD.qs from rfl, List.all_map]; rfl]
  congr 1
  funext r
  unfold lenB
  rw [RwD.qs_len]

set_option maxRecDepth 100000 in
set_option maxHeartbeats 4000000 in
theorem cols_any {A : Option Addr} {c : Nat} {rows : List RwD} {w : World} (h : ML w A c rows) :
    Calls Try.prog 38 #[.slice A rows.length c] w (RetIB (if formedL (qsM rows) = true then colsL (qsM rows) else 0) (formedL (qsM rows)) w) := by
  have hl := h.len
  by_cases h0 : rows.length = 0
  · obtain ⟨e1, e2⟩ := colsL_nil h0
    rw [e1, e2]
    have hz : ((rows.length : Int) == 0) = true := by rw [beq_iff_eq]; omega
    have hA := Lib.hid h0
    clear h0
    go_enter Try.func38, Try.ntmps38
    go_wp2
    go_ret2
    exact ⟨rfl, Below.refl _ _⟩
  · have hz : ((rows.length : Int) == 0) = false := by rw [beq_eq_false_iff_ne]; omega
    have hpos : 0 < rows.length := by omega
    clear h0
    obtain ⟨n, hn⟩ : ∃ n, Hid (colsL (qsM rows) = n) := ⟨_, rfl⟩
    obtain ⟨v, hv⟩ : ∃ v, Hid (formedL (qsM rows) = v) := ⟨_, rfl⟩
    have hvr : Hid (rows.all (lenB n) = v) := by show _ = v; rw [← hv.out, formedL_len, hn.out]
    rw [hn.out, hv.out]
    obtain ⟨m, hm⟩ : ∃ m, Hid ((if v = true then n else 0) = m) := ⟨_, rfl⟩
    rw [hm.out]
    obtain ⟨a0, r0, rfl, hab0, hc00, hf0, hk0⟩ := h.at hpos
    have hn0 := Lib.hid (show n = r0.ds.length by rw [← hn.out]; exact colsL_of hk0.out)
    have hl0 := hf0.len
    have hcc : w.cell? a0 = some (.slice r0.a r0.ds.length r0.c) := cell0 hc00
    clear hf0 hc00
    go_enter Try.func38, Try.ntmps38
    go_wp2
    go_loopw [5, 11] (fun x i wr => EveryInv (lenB n) rows w i wr) (fun _ i _ => rows.length - (intOf i).toNat)
    case atStart => exact ⟨0, by omega, rfl, rfl, Below.refl _ _⟩
    case round =>
      obtain ⟨k, hk, rfl, hall, hbel⟩ := hrel
      have hcw : wr.cell? a0 = some (.slice r0.a r0.ds.length r0.c) := (hbel.cell hab0).trans hcc
      by_cases hkl : k < rows.length
      · obtain ⟨a, r, e, hab, hc0, fa, hdk⟩ := (h.below hbel).at hkl
        injection e with e
        subst e
        have hll := fa.len
        have hki : (k : Int) < (rows.length : Int) := by omega
        by_cases hq : r.ds.length = n
        · have hne : (((r.ds.length : Nat) : Int) != ((r0.ds.length : Nat) : Int)) = false := by rw [bne_eq_false_iff_eq]; have := hn0.out; omega
          have hf := Lib.hid (every_take hall.out hdk.out (show lenB n r = true from decide_eq_true hq))
          clear hq
          go_wp2
          go_roundw
          case rel => exact ⟨k + 1, by omega, by go_num, hf, hbel⟩
          case measure => simp [intOf]; omega
        · have hne : (((r.ds.length : Nat) : Int) != ((r0.ds.length : Nat) : Int)) = true := by rw [bne_iff_ne]; have := hn0.out; omega
          have hf : Hid (v = false) := by show v = false; rw [← hvr.out]; exact every_no hdk.out (decide_eq_false hq)
          clear hq
          go_wp2
          go_ret2
          exact ⟨by rw [← hm.out, hf.out]; rfl, hbel⟩
      · obtain rfl : k = rows.length := by omega
        have hlt' : decide ((rows.length : Int) < (rows.length : Int)) = false := decide_eq_false (by omega)
        have hf : Hid (v = true) := by show v = true; rw [← hvr.out]; have := hall.out; rw [List.take_length] at this; exact this
        go_wp2
        go_ret2
        exact ⟨by rw [← hm.out, hf.out, if_pos rfl, hn0.out]; rfl, hbel⟩

set_option maxRecDepth 100000 in
set_option maxHeartbeats 4000000 in
theorem cols17_any {A : Option Addr} {c : Nat} {rows : List RwD} {w : World} (h : ML w A c rows) :
    Calls Try.prog 26 #[.slice A rows.length c] w fun e w' => e = .returned (.int .i64 (colsL (qsM rows) : Int)) ∧ w' = w := by
  have hl := h.len
  by_cases h0 : rows.length = 0
  · obtain ⟨e1, e2⟩ := colsL_nil h0
    rw [e1]
    have hz : ((rows.length : Int) == 0) = true := by rw [beq_iff_eq]; omega
    clear h0
    go_enter Try.func26, Try.ntmps26
    go_wp2
    go_ret
    exact ⟨rfl, rfl⟩
  · have hz : ((rows.length : Int) == 0) = false := by rw [beq_eq_false_iff_ne]; omega
    have hpos : 0 < rows.length := by omega
    clear h0
    obtain ⟨a0, r0, rfl, hab0, hc00, hf0, hk0⟩ := h.at hpos
    rw [colsL_of hk0.out]
    have hcc : w.cell? a0 = some (.slice r0.a r0.ds.length r0.c) := cell0 hc00
    have hl0 := hf0.len
    clear hf0 hc00
    go_enter Try.func26, Try.ntmps26
    go_wp2
    go_ret
    exact ⟨rfl, rfl⟩

set_option maxRecDepth 100000 in
set_option maxHeartbeats 4000000 in
theorem formed17_any {A : Option Addr} {c : Nat} {rows : List RwD} {w : World} (h : ML w A c rows) :
    Calls Try.prog 24 #[.slice A rows.length c] w (RetB (formedL (qsM rows)) w) := by
  have hl := h.len
  obtain ⟨n, hn⟩ : ∃ n, Hid (colsL (qsM rows) = n) := ⟨_, rfl⟩
  obtain ⟨v, hv⟩ : ∃ v, Hid (formedL (qsM rows) = v) := ⟨_, rfl⟩
  have hvr : Hid (rows.all (lenB n) = v) := by show _ = v; rw [← hv.out, formedL_len, hn.out]
  rw [hv.out]
  go_enter Try.func24, Try.ntmps24
  go_wp2
  go_loopw [3] (fun i wr => EveryInv (lenB n) rows w i wr) (fun i _ => rows.length - (intOf i).toNat)
  case atStart => exact ⟨0, by omega, rfl, rfl, Below.refl _ _⟩
  case round =>
    obtain ⟨k, hk, rfl, hall, hbel⟩ := hrel
    have fm := h.below hbel
    by_cases hkl : k < rows.length
    · obtain ⟨a, r, rfl, hab, hc0, fa, hdk⟩ := fm.at hkl
      have hll := fa.len
      have hki : (k : Int) < (rows.length : Int) := by omega
      by_cases hq : r.ds.length = n
      · have hne : (((r.ds.length : Nat) : Int) != ((n : Nat) : Int)) = false := by rw [bne_eq_false_iff_eq]; omega
        have hf := Lib.hid (every_take hall.out hdk.out (show lenB n r = true from decide_eq_true hq))
        clear hq
        have bT := Below.refl wr.heap.size wr
        have hS : ∀ w', Below wr.heap.size wr w' → w'.cell? (a.add k) = some (.slice r.a r.ds.length r.c) ∧ Below wr.heap.size wr w' := by
          intro w' o
          exact ⟨(o.cell (by show (a.add k).block < _; rw [block_add]; exact hab)).trans hc0, o⟩
        have bo : Below wr.heap.size wr wr := Below.refl _ _
        have dS : Below wr.heap.size wr wr.drew := bo.drew
        go_wp2_with fail
        refine wp_region_noPanic ?_
        refine wp_region_held_drew (S := fun w' => w'.cell? (a.add k) = some (.slice r.a r.ds.length r.c) ∧ Below wr.heap.size wr w') (by kernel_rfl) (hS _ dS) (fun hHeld => ?_)
        refine wpAnyH_take (i := 0) (v := ?_) rfl (by kernel_rfl) (by kernel_rfl) (by kernel_rfl) (fun _ _ _ h => h) (Or.inl ⟨by rfl, ?_⟩) hHeld ?_
        rotate_left
        · (intro w hSw; (try dsimp only at hSw); go_simp)
          all_goals with_reducible rfl
        try simp only [Act.put, List.getElem_toArray, List.getElem_cons_succ, List.getElem_cons_zero, List.setIfInBounds_toArray, List.set_cons_zero, List.set_cons_succ]
        refine wpAnyH_take (i := 1) (v := ?_) rfl (by kernel_rfl) (by kernel_rfl) (by kernel_rfl) (fun _ _ _ h => h) (Or.inl ⟨by rfl, ?_⟩) hHeld ?_
        rotate_left
        · (intro w hSw; (try dsimp only at hSw); go_simp)
          all_goals with_reducible rfl
        try simp only [Act.put, List.getElem_toArray, List.getElem_cons_succ, List.getElem_cons_zero, List.setIfInBounds_toArray, List.set_cons_zero, List.set_cons_succ]
        refine wpAnyH_take (i := 2) (v := ?_) rfl (by kernel_rfl) (by kernel_rfl) (by kernel_rfl) (fun _ _ _ h => h) (Or.inl ⟨by rfl, ?_⟩) hHeld ?_
        rotate_left
        · (intro w hSw; (try dsimp only at hSw); go_simp)
          all_goals with_reducible rfl
        try simp only [Act.put, List.getElem_toArray, List.getElem_cons_succ, List.getElem_cons_zero, List.setIfInBounds_toArray, List.set_cons_zero, List.set_cons_succ]
        refine wpAnyH_take (i := 3) (v := ?_) rfl (by kernel_rfl) (by kernel_rfl) (by kernel_rfl) (fun _ _ _ h => h) (Or.inl ⟨by rfl, ?_⟩) hHeld ?_
        rotate_left
        · (intro w hSw; (try dsimp only at hSw); go_simp)
          all_goals with_reducible rfl
        try simp only [Act.put, List.getElem_toArray, List.getElem_cons_succ, List.getElem_cons_zero, List.setIfInBounds_toArray, List.set_cons_zero, List.set_cons_succ]
        refine wpAnyH_take (i := 4) (v := ?_) rfl (by kernel_rfl) (by kernel_rfl) (by kernel_rfl) (fun _ _ _ h => h) (Or.inl ⟨by rfl, ?_⟩) hHeld ?_
        rotate_left
        · (intro w hSw; (try dsimp only at hSw); go_simp)
          all_goals with_reducible rfl
        try simp only [Act.put, List.getElem_toArray, List.getElem_cons_succ, List.getElem_cons_zero, List.setIfInBounds_toArray, List.set_cons_zero, List.set_cons_succ]
        refine wpAnyH_take (i := 5) (v := ?_) rfl (by kernel_rfl) (by kernel_rfl) (by kernel_rfl) (fun _ _ _ h => h) (Or.inl ⟨by rfl, ?_⟩) hHeld ?_
        rotate_left
        · (intro w hSw; (try dsimp only at hSw); go_simp)
          all_goals with_reducible rfl
        try simp only [Act.put, List.getElem_toArray, List.getElem_cons_succ, List.getElem_cons_zero, List.setIfInBounds_toArray, List.set_cons_zero, List.set_cons_succ]
        refine wpAnyH_ready (rs := [6]) (by kernel_rfl) (by simp) ?_
        refine AllReadyH.cons rfl (fun K hK => ?_) AllReadyH.nil
        go_simp
        have dwc : Below wr.heap.size wr wr.drew := (Below.refl _ _).drew
        replace fm := fm.below dwc
        replace bT := bT.trans (dwc.mono bT.size)
        replace bo := bo.trans (dwc.mono bo.size)
        go_at_call 26
        refine (cols17_any fm).mono ?_
        rintro e x1 ⟨rfl, rfl⟩
        rw [hn.out]
        go_wp2_with fail
        refine hK.out _ _ (hS _ bo) (fun hHeld => ?_)
        clear hK K
        try simp only [Act.put, List.getElem_toArray, List.getElem_cons_succ, List.getElem_cons_zero, List.setIfInBounds_toArray, List.set_cons_zero, List.set_cons_succ]
        refine wpAnyH_take (i := 7) (v := ?_) rfl (by kernel_rfl) (by kernel_rfl) (by kernel_rfl) (fun _ _ _ h => h) (Or.inl ⟨by rfl, ?_⟩) hHeld ?_
        rotate_left
        · (intro w hSw; (try dsimp only at hSw); go_simp)
          all_goals with_reducible rfl
        try simp only [Act.put, List.getElem_toArray, List.getElem_cons_succ, List.getElem_cons_zero, List.setIfInBounds_toArray, List.set_cons_zero, List.set_cons_succ]
        refine wpAnyH_done (by kernel_rfl) ?_ _
        refine NoPanic.normal ?_
        try go_simp
        clear hHeld
        clear hS dS bo
        go_wp2
        go_roundw
        case rel => exact ⟨k + 1, by omega, by go_num, hf, hbel.trans (bT.mono hbel.size)⟩
        case measure => simp [intOf]; omega
      · have hne : (((r.ds.length : Nat) : Int) != ((n : Nat) : Int)) = true := by rw [bne_iff_ne]; omega
        have hf : Hid (v = false) := by show v = false; rw [← hvr.out]; exact every_no hdk.out (decide_eq_false hq)
        clear hq
        have bT := Below.refl wr.heap.size wr
        have hS : ∀ w', Below wr.heap.size wr w' → w'.cell? (a.add k) = some (.slice r.a r.ds.length r.c) ∧ Below wr.heap.size wr w' := by
          intro w' o
          exact ⟨(o.cell (by show (a.add k).block < _; rw [block_add]; exact hab)).trans hc0, o⟩
        have bo : Below wr.heap.size wr wr := Below.refl _ _
        have dS : Below wr.heap.size wr wr.drew := bo.drew
        go_wp2_with fail
        refine wp_region_noPanic ?_
        refine wp_region_held_drew (S := fun w' => w'.cell? (a.add k) = some (.slice r.a r.ds.length r.c) ∧ Below wr.heap.size wr w') (by kernel_rfl) (hS _ dS) (fun hHeld => ?_)
        refine wpAnyH_take (i := 0) (v := ?_) rfl (by kernel_rfl) (by kernel_rfl) (by kernel_rfl) (fun _ _ _ h => h) (Or.inl ⟨by rfl, ?_⟩) hHeld ?_
        rotate_left
        · (intro w hSw; (try dsimp only at hSw); go_simp)
          all_goals with_reducible rfl
        try simp only [Act.put, List.getElem_toArray, List.getElem_cons_succ, List.getElem_cons_zero, List.setIfInBounds_toArray, List.set_cons_zero, List.set_cons_succ]
        refine wpAnyH_take (i := 1) (v := ?_) rfl (by kernel_rfl) (by kernel_rfl) (by kernel_rfl) (fun _ _ _ h => h) (Or.inl ⟨by rfl, ?_⟩) hHeld ?_
        rotate_left
        · (intro w hSw; (try dsimp only at hSw); go_simp)
          all_goals with_reducible rfl
        try simp only [Act.put, List.getElem_toArray, List.getElem_cons_succ, List.getElem_cons_zero, List.setIfInBounds_toArray, List.set_cons_zero, List.set_cons_succ]
        refine wpAnyH_take (i := 2) (v := ?_) rfl (by kernel_rfl) (by kernel_rfl) (by kernel_rfl) (fun _ _ _ h => h) (Or.inl ⟨by rfl, ?_⟩) hHeld ?_
        rotate_left
        · (intro w hSw; (try dsimp only at hSw); go_simp)
          all_goals with_reducible rfl
        try simp only [Act.put, List.getElem_toArray, List.getElem_cons_succ, List.getElem_cons_zero, List.setIfInBounds_toArray, List.set_cons_zero, List.set_cons_succ]
        refine wpAnyH_take (i := 3) (v := ?_) rfl (by kernel_rfl) (by kernel_rfl) (by kernel_rfl) (fun _ _ _ h => h) (Or.inl ⟨by rfl, ?_⟩) hHeld ?_
        rotate_left
        · (intro w hSw; (try dsimp only at hSw); go_simp)
          all_goals with_reducible rfl
        try simp only [Act.put, List.getElem_toArray, List.getElem_cons_succ, List.getElem_cons_zero, List.setIfInBounds_toArray, List.set_cons_zero, List.set_cons_succ]
        refine wpAnyH_take (i := 4) (v := ?_) rfl (by kernel_rfl) (by kernel_rfl) (by kernel_rfl) (fun _ _ _ h => h) (Or.inl ⟨by rfl, ?_⟩) hHeld ?_
        rotate_left
        · (intro w hSw; (try dsimp only at hSw); go_simp)
          all_goals with_reducible rfl
        try simp only [Act.put, List.getElem_toArray, List.getElem_cons_succ, List.getElem_cons_zero, List.setIfInBounds_toArray, List.set_cons_zero, List.set_cons_succ]
        refine wpAnyH_take (i := 5) (v := ?_) rfl (by kernel_rfl) (by kernel_rfl) (by kernel_rfl) (fun _ _ _ h => h) (Or.inl ⟨by rfl, ?_⟩) hHeld ?_
        rotate_left
        · (intro w hSw; (try dsimp only at hSw); go_simp)
          all_goals with_reducible rfl
        try simp only [Act.put, List.getElem_toArray, List.getElem_cons_succ, List.getElem_cons_zero, List.setIfInBounds_toArray, List.set_cons_zero, List.set_cons_succ]
        refine wpAnyH_ready (rs := [6]) (by kernel_rfl) (by simp) ?_
        refine AllReadyH.cons rfl (fun K hK => ?_) AllReadyH.nil
        go_simp
        have dwc : Below wr.heap.size wr wr.drew := (Below.refl _ _).drew
        replace fm := fm.below dwc
        replace bT := bT.trans (dwc.mono bT.size)
        replace bo := bo.trans (dwc.mono bo.size)
        go_at_call 26
        refine (cols17_any fm).mono ?_
        rintro e x1 ⟨rfl, rfl⟩
        rw [hn.out]
        go_wp2_with fail
        refine hK.out _ _ (hS _ bo) (fun hHeld => ?_)
        clear hK K
        try simp only [Act.put, List.getElem_toArray, List.getElem_cons_succ, List.getElem_cons_zero, List.setIfInBounds_toArray, List.set_cons_zero, List.set_cons_succ]
        refine wpAnyH_take (i := 7) (v := ?_) rfl (by kernel_rfl) (by kernel_rfl) (by kernel_rfl) (fun _ _ _ h => h) (Or.inl ⟨by rfl, ?_⟩) hHeld ?_
        rotate_left
        · (intro w hSw; (try dsimp only at hSw); go_simp)
          all_goals with_reducible rfl
        try simp only [Act.put, List.getElem_toArray, List.getElem_cons_succ, List.getElem_cons_zero, List.setIfInBounds_toArray, List.set_cons_zero, List.set_cons_succ]
        refine wpAnyH_done (by kernel_rfl) ?_ _
        refine NoPanic.normal ?_
        try go_simp
        clear hHeld
        clear hS dS bo
        go_wp2
        go_ret
        exact ⟨by rw [hf.out]; rfl, hbel.trans (bT.mono hbel.size)⟩
    · obtain rfl : k = rows.length := by omega
      have hlt' : decide ((rows.length : Int) < (rows.length : Int)) = false := decide_eq_false (by omega)
      have hf : Hid (v = true) := by show v = true; rw [← hvr.out]; have := hall.out; rw [List.take_length] at this; exact this
      go_wp2
      go_ret
      exact ⟨by rw [hf.out]; rfl, hbel⟩
end Go.Proofs.Ytkjmliebkbbogaa
/- matrix.Times: what the call does. -/
namespace Go.Proofs.Ytkjmliebkbbogaa
set_option linter.unusedVariables false
set_option linter.unusedSimpArgs false
open Go.RowKit Plain
attribute [local go_sem ↓] Go.wp_at_zero Go.wp_at_succ

/-- Times; nil where the sizes do not fit. -/
def timesS (M : Mat) (x : List Rat) : List Rat := if (formedL M && decide (x.length = colsL M)) = true then timesL M x else []
theorem dot_L (ds es : List FrD) : sumR (prods ds es) = dotL (ds.map FrD.q) (es.map FrD.q) := by
  unfold dotL prods; rw [List.zipWith_map]; rfl
theorem Blk.v0 {w : World} {g : Nat} {t : TypeId} {a : Value} (h : Blk w g t #[a]) : w.cell? ⟨g, 0, none⟩ = some a := h.cell 0
theorem noDig1 (A : Option Addr) (n c : Nat) : NoDig #[.slice A n c] := fun i x => by
  match i with
  | 0 => simp
  | i + 1 => simp
set_option maxRecDepth 100000 in
set_option maxHeartbeats 4000000 in
theorem timesC_any {K g : Nat} {t : TypeId} {A X : Option Addr} {c cx : Nat} {ds xs : List FrD} {w : World} (hd : FL w A c ds) (hB : Blk w g t #[.slice X xs.length cx]) (hx : FL w X cx xs) (hfd : QFits K (ds.map FrD.q)) (hfx : QFits K (xs.map FrD.q)) (hK : 1 + (ds.length + 1) * (K + K + 1) < 400000000) :
    Calls Try.prog 40 #[.slice A ds.length c, .pointer (some ⟨g, 0, none⟩)] w (RetQ (dotL (ds.map FrD.q) (xs.map FrD.q)) w) := by
  obtain ⟨w1, hw1, bw1, hlt1, hR1⟩ := boxed w #[.bool false, .slice none 0 0, .slice none 0 0] 50
  have hB1 := hB.keep bw1
  have z0 := hB1.v0
  have hld := hd.len
  have hlx := hx.len
  have hfd' := Lib.hid hfd.fr
  have hfx' := Lib.hid hfx.fr
  rw [← dot_L]
  obtain ⟨q, hq⟩ : ∃ q, Hid (sumR (prods ds xs) = q) := ⟨_, rfl⟩
  rw [hq.out]
  clear hfd hfx
  go_enter Try.func40, Try.ntmps40
  go_wp2_with fail
  refine (dotF_any (hd.below bw1) (hx.below bw1) hfd'.out hfx'.out hK).mono ?_
  rintro e w5 ⟨v5, rfl, f5, b5⟩
  rw [hq.out] at f5
  obtain ⟨n5, A5, c5, l5, B5, d5, m5, rfl, na5, nb5, iq5⟩ := f5
  have iq5' := Lib.hid iq5
  clear iq5
  have hR5 := hR1.keep b5
  have b05 := bw1.trans (b5.mono (Nat.le_of_lt hlt1))
  have p0 := hR5.f0
  have p1 := hR5.f1
  have p2 := hR5.f2
  have q0 := hR5.free 0
  have q1 := hR5.free 1
  have q2 := hR5.free 2
  go_wp2
  obtain ⟨w9, hw9, hB9, o9⟩ := hR5.set3 (.bool n5) (.slice A5 l5.length c5) (.slice B5 m5.length d5)
  rw [hw9]
  have e0 := hB9.f0
  have e1 := hB9.f1
  have e2 := hB9.f2
  refine bodyPost_ret (v := fracV n5 A5 l5.length c5 B5 m5.length d5) (by simp [results, Try.results40, go_sem, e0, e1, e2]) rfl ?_
  exact ⟨_, rfl, ⟨n5, A5, c5, l5, B5, d5, m5, rfl, na5.only_blk hR5 (noDig3 _ _ _ _ _ _ _) o9, nb5.only_blk hR5 (noDig3 _ _ _ _ _ _ _) o9, iq5'.out⟩, o9.to_below b05 (Nat.le_refl _) b05.size⟩

set_option maxRecDepth 100000 in
set_option maxHeartbeats 4000000 in
theorem mapped_times {K g : Nat} {t : TypeId} {A X : Option Addr} {c cx : Nat} {rows : List RwD} {xs : List FrD} {w : World} (h : ML w A c rows) (hB : Blk w g t #[.slice X xs.length cx]) (hx : FL w X cx xs) (hfm : MFits K (qsM rows)) (hfx : QFits K (xs.map FrD.q)) (hK : ∀ r ∈ rows, 1 + (r.ds.length + 1) * (K + K + 1) < 400000000) (hrn : rows.length < 1000000000000) :
    Calls Try.prog 39 #[.slice A rows.length c, .func (.func 40) #[] #[.pointer (some ⟨g, 0, none⟩)]] w (RetLs (timesL (qsM rows) (xs.map FrD.q)) w) := by
  have hl := h.len
  obtain ⟨qs, hqs⟩ : ∃ qs, Hid (timesL (qsM rows) (xs.map FrD.q) = qs) := ⟨_, rfl⟩
  have hql := Lib.hid (show qs.length = rows.length by rw [← hqs.out]; simp [timesL, qsM])
  rw [hqs.out]
  have hfm' := Lib.hid hfm
  have hfx' := Lib.hid hfx
  have hK' := Lib.hid hK
  clear hfm hfx hK
  go_enter Try.func39, Try.ntmps39
  go_wp2
  go_loopw [5, 7, 10] (fun v x i wr => LsInv qs w v i wr) (fun _ _ i _ => rows.length - (intOf i).toNat)
  case atStart => exact ⟨0, by omega, rfl, LsAt.nil _ _⟩
  case round =>
    obtain ⟨k, hk, rfl, hat⟩ := hrel
    rw [hql.out] at hk
    have hbel := hat.bel
    by_cases hkl : k < rows.length
    · have hki : (k : Int) < (rows.length : Int) := by omega
      obtain ⟨a, r, rfl, hab, hc0, fa, hdk⟩ := (h.below hbel).at hkl
      have hll := fa.len
      have hfr := Lib.hid (hfm'.out.row hdk.out)
      have hKr := Lib.hid (hK'.out r (List.mem_of_getElem? hdk.out))
      have hq : Hid (qs[k]? = some (dotL (r.ds.map FrD.q) (xs.map FrD.q))) := by
        show _ = _
        rw [← hqs.out]; unfold timesL qsM; rw [List.map_map, List.getElem?_map, hdk.out]; rfl
      have hkb : k < 1000000000000 := by omega
      obtain ⟨qk, hqk⟩ : ∃ q, Hid (dotL (r.ds.map FrD.q) (xs.map FrD.q) = q) := ⟨_, rfl⟩
      rw [hqk.out] at hq
      go_wp2_with fail
      refine (timesC_any fa (hB.keep hbel) (hx.below hbel) hfr.out hfx'.out hKr.out).mono ?_
      rintro e w4 ⟨v1, rfl, ⟨n1, A1, a1, l1, B1, c1, m1, rfl, na, nb, iq⟩, b4⟩
      rw [hqk.out] at iq
      replace hat := hat.below b4
      obtain ⟨os, ho, h63, hbs, hnext⟩ := hat.app hkb hq.out na nb iq
      clear na nb iq
      go_wp2_with (at_builtin; refine wpList_appQ rfl rfl _ _ rfl _ _ os rfl ho ⟨w4.heap.size, 0, none⟩ 1 ⟨n1, A1, a1, l1, B1, c1, m1⟩ rfl (World.news_of_block (heap_alloc_new w4 _)) h63 hbs ?_; intro v6 w6 ho6 hg6)
      have hat6 := hnext.out v6 w6 ho6 hg6
      clear hnext ho hg6 ho6 hat
      go_wp2
      go_roundw
      case rel => exact ⟨k + 1, by rw [hql.out]; omega, by go_num, hat6⟩
      case measure => simp [intOf]; omega
    · obtain rfl : k = rows.length := by omega
      have hlt' : decide ((rows.length : Int) < (rows.length : Int)) = false := decide_eq_false (by omega)
      obtain ⟨B, cb, es, rfl, hfl, hqe⟩ := hat.done hql.out.symm
      go_wp2
      go_ret
      exact ⟨B, cb, es, rfl, hfl, hqe, hbel⟩

set_option maxRecDepth 100000 in
set_option maxHeartbeats 4000000 in
theorem times_any {K : Nat} {A X : Option Addr} {c cx : Nat} {rows : List RwD} {xs : List FrD} {w : World} (h : ML w A c rows) (hx : FL w X cx xs) (hfm : MFits K (qsM rows)) (hfx : QFits K (xs.map FrD.q)) (hK : 1 + (xs.length + 1) * (K + K + 1) < 400000000) (hrn : rows.length < 1000000000000) :
    Calls Try.prog 15 #[.slice A rows.length c, .slice X xs.length cx] w (RetLs (timesS (qsM rows) (xs.map FrD.q)) w) := by
  obtain ⟨w0, hw0, bw0, hlt0, hX0⟩ := boxed w #[.slice X xs.length cx] 23
  have hl := h.len
  have hlx := hx.len
  have z0 := hX0.v0
  obtain ⟨qs, hqs⟩ : ∃ qs, Hid (timesS (qsM rows) (xs.map FrD.q) = qs) := ⟨_, rfl⟩
  obtain ⟨n, hn⟩ : ∃ n, Hid (colsL (qsM rows) = n) := ⟨_, rfl⟩
  have hfm' := Lib.hid hfm
  have hfx' := Lib.hid hfx
  clear hfm hfx
  rw [hqs.out]
  go_enter Try.func15, Try.ntmps15
  go_wp2_with fail
  refine (cols_any (h.below bw0)).mono ?_
  rintro e w1 ⟨rfl, b1⟩
  have hX1 := hX0.keep b1
  have b01 := bw0.trans (b1.mono (Nat.le_of_lt hlt0))
  have z1 := hX1.v0
  clear z0
  rw [hn.out]
  rcases hfo : formedL (qsM rows) with _ | _
  · have hf : Hid (qs = []) := by show qs = []; rw [← hqs.out]; unfold timesS; rw [hfo]; rfl
    rw [if_neg (by decide)]
    go_wp2
    go_ret
    exact ⟨none, 0, [], rfl, FL.nil _, hf.out.symm, b01⟩
  rw [if_pos rfl]
  by_cases hxl : xs.length = n
  · have hne : (((xs.length : Nat) : Int) != ((n : Nat) : Int)) = false := by rw [bne_eq_false_iff_eq]; omega
    have hf : Hid (timesL (qsM rows) (xs.map FrD.q) = qs) := by show _ = qs; rw [← hqs.out]; unfold timesS; rw [hfo, hn.out, List.length_map, decide_eq_true hxl]; rfl
    have hrl := Lib.hid (show ∀ r ∈ rows, r.ds.length = n from fun r hr => by
      have := formedL_rect hfo
      rw [hn.out] at this
      have := this r.qs (List.mem_map.2 ⟨r, hr, rfl⟩)
      rw [RwD.qs_len] at this; exact this)
    have hKr := Lib.hid (show ∀ r ∈ rows, 1 + (r.ds.length + 1) * (K + K + 1) < 400000000 from fun r hr => by rw [hrl.out r hr, ← hxl]; exact hK)
    clear hxl hfo hrl
    go_wp2_with (go_at_call 39; go_loud (refine (mapped_times (h.below b01) hX1 (hx.below b01) hfm'.out hfx'.out hKr.out hrn).mono ?_; rintro e w2 ⟨B, cb, es, rfl, hfl, hqe, b2⟩))
    rw [hf.out] at hqe
    go_wp2
    go_ret
    exact ⟨B, cb, es, rfl, hfl, hqe, b01.trans (b2.mono b01.size)⟩
  · have hne : (((xs.length : Nat) : Int) != ((n : Nat) : Int)) = true := by rw [bne_iff_ne]; omega
    have hf : Hid (qs = []) := by show qs = []; rw [← hqs.out]; unfold timesS; rw [hfo, hn.out, List.length_map, decide_eq_false hxl]; rfl
    clear hxl
    go_wp2
    go_ret
    exact ⟨none, 0, [], rfl, FL.nil _, hf.out.symm, b01⟩
end Go.Proofs.Ytkjmliebkbbogaa
/- matrix.Transposed: what the call does. -/
namespace Go.Proofs.Ytkjmliebkbbogaa
set_option linter.unusedVariables false
set_option linter.unusedSimpArgs false
open Go.RowKit Plain
attribute [local go_sem ↓] Go.wp_at_zero Go.wp_at_succ

set_option maxRecDepth 100000 in
set_option maxHeartbeats 4000000 in
theorem transC_any {g k : Nat} {t : TypeId} {A : Option Addr} {c : Nat} {ds : List FrD} {w : World} (hd : FL w A c ds) (hB : Blk w g t #[.int .i64 (k : Int)]) (hk : k < ds.length) :
    Calls Try.prog 43 #[.slice A ds.length c, .pointer (some ⟨g, 0, none⟩)] w (RetQ ((ds.map FrD.q).getD k 0) w) := by
  obtain ⟨w1, hw1, bw1, hlt1, hR1⟩ := boxed w #[.bool false, .slice none 0 0, .slice none 0 0] 50
  have z0 := (hB.keep bw1).v0
  have hld := hd.len
  obtain ⟨a, d, rfl, hab, hc0, hc1, hc2, hfv, hdk⟩ := (hd.below bw1).at hk
  have hq : Hid ((ds.map FrD.q).getD k 0 = d.q) := by show _ = _; rw [List.getD_eq_getElem?_getD, List.getElem?_map, hdk.out]; rfl
  rw [hq.out]
  have hki : (k : Int) < (ds.length : Int) := by omega
  obtain ⟨n5, A5, c5, l5, B5, d5, m5, ev, na5, nb5, iq5⟩ := hfv
  have iq5' := Lib.hid iq5
  have hR5 := hR1
  have b05 := bw1
  unfold FrD.v fracV at ev
  injection ev with ev
  have e1 : d.neg = n5 := by injection ev with ev; injection ev with ev _; injection ev
  have ev2 : (.slice d.a d.la.length d.ca : Value) = .slice A5 l5.length c5 := by injection ev with ev; injection ev with _ ev; injection ev
  have ev3 : (.slice d.b d.lb.length d.cb : Value) = .slice B5 m5.length d5 := by injection ev with ev; injection ev with _ ev; injection ev with _ ev; injection ev
  rw [e1] at hc0
  rw [ev2] at hc1
  rw [ev3] at hc2
  clear ev e1 ev2 ev3 iq5
  go_enter Try.func43, Try.ntmps43
  have p0 := hR5.f0
  have p1 := hR5.f1
  have p2 := hR5.f2
  have q0 := hR5.free 0
  have q1 := hR5.free 1
  have q2 := hR5.free 2
  go_wp2
  obtain ⟨w9, hw9, hB9, o9⟩ := hR5.set3 (.bool n5) (.slice A5 l5.length c5) (.slice B5 m5.length d5)
  rw [hw9]
  have e0 := hB9.f0
  have e1 := hB9.f1
  have e2 := hB9.f2
  refine bodyPost_ret (v := fracV n5 A5 l5.length c5 B5 m5.length d5) (by simp [results, Try.results43, go_sem, e0, e1, e2]) rfl ?_
  exact ⟨_, rfl, ⟨n5, A5, c5, l5, B5, d5, m5, rfl, na5.only_blk hR5 (noDig3 _ _ _ _ _ _ _) o9, nb5.only_blk hR5 (noDig3 _ _ _ _ _ _ _) o9, iq5'.out⟩, o9.to_below b05 (Nat.le_refl _) b05.size⟩

set_option maxRecDepth 100000 in
set_option maxHeartbeats 4000000 in
theorem mapped_trans {g j : Nat} {t : TypeId} {A : Option Addr} {c : Nat} {rows : List RwD} {w : World} (h : ML w A c rows) (hB : Blk w g t #[.int .i64 (j : Int)]) (hj : ∀ r ∈ rows, j < r.ds.length) (hrn : rows.length < 1000000000000) :
    Calls Try.prog 39 #[.slice A rows.length c, .func (.func 43) #[] #[.pointer (some ⟨g, 0, none⟩)]] w (RetLs ((qsM rows).map fun r => r.getD j 0) w) := by
  have hl := h.len
  obtain ⟨qs, hqs⟩ : ∃ qs, Hid (((qsM rows).map fun r => r.getD j 0) = qs) := ⟨_, rfl⟩
  have hql := Lib.hid (show qs.length = rows.length by rw [← hqs.out]; simp [qsM])
  rw [hqs.out]
  have hj' := Lib.hid hj
  clear hj
  go_enter Try.func39, Try.ntmps39
  go_wp2
  go_loopw [5, 7, 10] (fun v x i wr => LsInv qs w v i wr) (fun _ _ i _ => rows.length - (intOf i).toNat)
  case atStart => exact ⟨0, by omega, rfl, LsAt.nil _ _⟩
  case round =>
    obtain ⟨k, hk, rfl, hat⟩ := hrel
    rw [hql.out] at hk
    have hbel := hat.bel
    by_cases hkl : k < rows.length
    · have hki : (k : Int) < (rows.length : Int) := by omega
      obtain ⟨a, r, rfl, hab, hc0, fa, hdk⟩ := (h.below hbel).at hkl
      have hll := fa.len
      have hjr := hj'.out r (List.mem_of_getElem? hdk.out)
      have hq : Hid (qs[k]? = some ((r.ds.map FrD.q).getD j 0)) := by
        show _ = _
        rw [← hqs.out]; unfold qsM; rw [List.map_map, List.getElem?_map, hdk.out]; rfl
      have hkb : k < 1000000000000 := by omega
      obtain ⟨qk, hqk⟩ : ∃ q, Hid ((r.ds.map FrD.q).getD j 0 = q) := ⟨_, rfl⟩
      rw [hqk.out] at hq
      go_wp2_with fail
      refine (transC_any fa (hB.keep hbel) hjr).mono ?_
      rintro e w4 ⟨v1, rfl, ⟨n1, A1, a1, l1, B1, c1, m1, rfl, na, nb, iq⟩, b4⟩
      rw [hqk.out] at iq
      replace hat := hat.below b4
      obtain ⟨os, ho, h63, hbs, hnext⟩ := hat.app hkb hq.out na nb iq
      clear na nb iq
      go_wp2_with (at_builtin; refine wpList_appQ rfl rfl _ _ rfl _ _ os rfl ho ⟨w4.heap.size, 0, none⟩ 1 ⟨n1, A1, a1, l1, B1, c1, m1⟩ rfl (World.news_of_block (heap_alloc_new w4 _)) h63 hbs ?_; intro v6 w6 ho6 hg6)
      have hat6 := hnext.out v6 w6 ho6 hg6
      clear hnext ho hg6 ho6 hat
      go_wp2
      go_roundw
      case rel => exact ⟨k + 1, by rw [hql.out]; omega, by go_num, hat6⟩
      case measure => simp [intOf]; omega
    · obtain rfl : k = rows.length := by omega
      have hlt' : decide ((rows.length : Int) < (rows.length : Int)) = false := decide_eq_false (by omega)
      obtain ⟨B, cb, es, rfl, hfl, hqe⟩ := hat.done hql.out.symm
      go_wp2
      go_ret
      exact ⟨B, cb, es, rfl, hfl, hqe, hbel⟩

/-- Transposed; nil where it is not regular. -/
def transS (M : Mat) : Mat := if formedL M = true then transL M else []
set_option maxRecDepth 100000 in
set_option maxHeartbeats 4000000 in
theorem trans_any {A : Option Addr} {c : Nat} {rows : List RwD} {w : World} (h : ML w A c rows) (hrn : rows.length < 1000000000000) (hcn : colsL (qsM rows) < 1000000000000) :
    Calls Try.prog 18 #[.slice A rows.length c] w (RetM (transS (qsM rows)) w) := by
  have hl := h.len
  obtain ⟨T, hT⟩ : ∃ T, Hid (transS (qsM rows) = T) := ⟨_, rfl⟩
  obtain ⟨n, hn⟩ : ∃ n, Hid (colsL (qsM rows) = n) := ⟨_, rfl⟩
  have hcn' : n < 1000000000000 := by rw [← hn.out]; exact hcn
  clear hcn
  rw [hT.out]
  go_enter Try.func18, Try.ntmps18
  go_wp2_with fail
  refine (cols_any h).mono ?_
  rintro e w1 ⟨rfl, b1⟩
  rw [hn.out]
  rcases hfo : formedL (qsM rows) with _ | _
  · have hf : Hid (T = []) := by show T = []; rw [← hT.out]; unfold transS; rw [hfo]; rfl
    rw [if_neg (by decide)]
    go_wp2
    go_ret
    exact ⟨none, 0, [], rfl, ML.nil _, hf.out.symm, b1⟩
  rw [if_pos rfl]
  have hf : Hid (transL (qsM rows) = T) := by show _ = T; rw [← hT.out]; unfold transS; rw [hfo]; rfl
  have hTl := Lib.hid (show T.length = n by rw [← hf.out, transL_length, hn.out])
  have hrl := Lib.hid (show ∀ r ∈ rows, r.ds.length = n from fun r hr => by
    have := formedL_rect hfo
    rw [hn.out] at this
    have := this r.qs (List.mem_map.2 ⟨r, hr, rfl⟩)
    rw [RwD.qs_len] at this; exact this)
  clear hfo
  go_wp2
  go_loopw [5, 6, 15] (fun v x i wr => MtInv T w v i wr) (fun _ _ i _ => n - (intOf i).toNat)
  case atStart => exact ⟨0, by omega, rfl, MtAt.start _ b1⟩
  case round =>
    obtain ⟨k, hk, rfl, hat⟩ := hrel
    rw [hTl.out] at hk
    have hbel := hat.bel
    by_cases hkl : k < n
    · have hki : (k : Int) < (n : Int) := by omega
      obtain ⟨w3, hw3, bw3, hlt3, hK3⟩ := boxed wr #[.int .i64 (k : Int)] 3
      have b03 := hbel.trans (bw3.mono hbel.size)
      have hkr := Lib.hid (show ∀ r ∈ rows, k < r.ds.length from fun r hr => by rw [hrl.out r hr]; exact hkl)
      have hkb : k < 1000000000000 := by omega
      go_wp2_with fail
      refine (mapped_trans (h.below b03) hK3 hkr.out hrn).mono ?_
      rintro e w4 ⟨B, cb, es, rfl, hfl, hqe, b4⟩
      replace hat := (hat.below bw3).below b4
      have hq : Hid (T[k]? = some (RwD.qs ⟨B, cb, es⟩)) := by
        show _ = some (es.map FrD.q)
        rw [← hf.out, hqe.out]
        unfold transL
        rw [List.getElem?_map, List.getElem?_range (by rw [hn.out]; exact hkl)]
        rfl
      obtain ⟨os, ho, h63, hbs, hnext⟩ := hat.app (r := ⟨B, cb, es⟩) hkb hq.out hfl
      go_wp2_with (at_builtin; go_loud (refine wpList_appM rfl Try.underlying31 rfl _ _ rfl _ _ os rfl ho ⟨w4.heap.size, 0, none⟩ 1 ⟨B, cb, es⟩ rfl (row_cell w4 ⟨B, cb, es⟩) h63 hbs ?_; intro v6 w6 ho6 hg6))
      have hat6 := hnext.out v6 w6 ho6 hg6
      clear hnext ho hg6 ho6 hat
      go_wp2
      go_roundw
      case rel => exact ⟨k + 1, by rw [hTl.out]; omega, by go_num, hat6⟩
      case measure => simp [intOf]; omega
    · obtain rfl : k = n := by omega
      have hlt' : decide ((k : Int) < (k : Int)) = false := decide_eq_false (by omega)
      obtain ⟨B, cb, es, rfl, hfl, hqe⟩ := hat.done hTl.out.symm
      go_wp2
      go_ret
      exact ⟨B, cb, es, rfl, hfl, hqe, hbel⟩
end Go.Proofs.Ytkjmliebkbbogaa
/- L17 ints: what the call does. -/
namespace Go.Proofs.Ytkjmliebkbbogaa
set_option linter.unusedVariables false
set_option linter.unusedSimpArgs false
open Go.RowKit Plain
attribute [local go_sem ↓] Go.wp_at_zero Go.wp_at_succ

set_option maxRecDepth 100000 in
set_option maxHeartbeats 4000000 in
theorem ints17_any {A : Option Addr} {c : Nat} {zs : List Int} {w : World} (h : IL w A zs) (hb : ∀ z ∈ zs, -9223372036854775808 ≤ z ∧ z ≤ 9223372036854775807) (hl : zs.length ≤ 1000000) (hc : c ≤ 9223372036854775807) (hlc : zs.length ≤ c) :
    Calls Try.prog 37 #[.slice A zs.length c] w (RetLs (zs.map (fun z : Int => (z : Rat))) w) := by
  obtain ⟨qs, hqs⟩ : ∃ qs, Hid (zs.map (fun z : Int => (z : Rat)) = qs) := ⟨_, rfl⟩
  have hql := Lib.hid (show qs.length = zs.length by rw [← hqs.out, List.length_map])
  have hb' := Lib.hid hb
  clear hb
  rw [hqs.out]
  go_enter Try.func37, Try.ntmps37
  go_wp2
  go_loopw [3, 8] (fun v i wr => LsInv qs w v i wr) (fun _ i _ => zs.length - (intOf i).toNat)
  case atStart => exact ⟨0, by omega, rfl, LsAt.nil _ _⟩
  case round =>
    obtain ⟨k, hk, rfl, hat⟩ := hrel
    rw [hql.out] at hk
    have hbel := hat.bel
    by_cases hkl : k < zs.length
    · obtain ⟨a, rfl, hab, hc0⟩ := (h.below hbel).at hkl
      obtain ⟨z, hz⟩ : ∃ z, Hid (zs.getD k 0 = z) := ⟨_, rfl⟩
      have hzb : -9223372036854775808 ≤ z ∧ z ≤ 9223372036854775807 := by
        rw [← hz.out]; exact hb'.out _ (by rw [List.getD_eq_getElem?_getD, List.getElem?_eq_getElem hkl]; exact List.getElem_mem hkl)
      rw [hz.out] at hc0
      have hq := Lib.hid (show qs[k]? = some ((fun z : Int => (z : Rat)) z) by rw [← hqs.out, ← hz.out]; exact ints_get hkl)
      have hki : (k : Int) < (zs.length : Int) := by omega
      have hkb : k < 1000000000000 := by omega
      go_wp2_with fail
      refine (refFromInt_any z _ hzb.1 hzb.2).mono ?_
      rintro e w4 ⟨v1, rfl, ⟨n1, A1, a1, l1, B1, c1, m1, rfl, na, nb, iq⟩, b1⟩
      replace hat := hat.below b1
      obtain ⟨os, ho, h63, hbs, hnext⟩ := hat.app hkb hq.out na nb iq
      clear na nb iq
      go_wp2_with (at_builtin; refine wpList_appQ rfl rfl _ _ rfl _ _ os rfl ho ⟨w4.heap.size, 0, none⟩ 1 ⟨n1, A1, a1, l1, B1, c1, m1⟩ rfl (World.news_of_block (heap_alloc_new w4 _)) h63 hbs ?_; intro v6 w6 ho6 hg6)
      have hat6 := hnext.out v6 w6 ho6 hg6
      clear hnext ho hg6 ho6 hat
      go_wp2
      go_roundw
      case rel => exact ⟨k + 1, by rw [hql.out]; omega, by go_num, hat6⟩
      case measure => simp [intOf]; omega
    · obtain rfl : k = zs.length := by omega
      have hlt' : decide ((zs.length : Int) < (zs.length : Int)) = false := decide_eq_false (by omega)
      obtain ⟨B, cb, es, rfl, hfl, hqe⟩ := hat.done hql.out.symm
      go_wp2
      go_ret
      exact ⟨B, cb, es, rfl, hfl, hqe, hbel⟩
end Go.Proofs.Ytkjmliebkbbogaa
