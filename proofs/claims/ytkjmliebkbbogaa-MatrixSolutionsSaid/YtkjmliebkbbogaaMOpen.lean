/- R17 Small, the law's few and list: what the calls do. -/
import Derived.Test.YtkjmliebkbbogaaMSame
import Derived.Test.YtkjmliebkbbogaaGValid
import Derived.Test.YtkjmliebkbbogaaLD
import Derived.Deep.RegionHeld3
namespace Go.Proofs.Ytkjmliebkbbogaa
set_option linter.unusedVariables false
set_option linter.unusedSimpArgs false
open Go.RowKit Plain
attribute [local go_sem ↓] Go.wp_at_zero Go.wp_at_succ

def FOkM (w : World) (A : Option Addr) (c : Nat) (ds : List FrD) : Prop := Srow w 3 FrD.cells A c ds ∧ ∀ f ∈ ds, f.ok w
theorem FOkM.below {w w' : World} {A : Option Addr} {c : Nat} {ds : List FrD} (h : FOkM w A c ds) (hb : Below w.heap.size w w') : FOkM w' A c ds := ⟨h.1.below hb, fun f hf => (h.2 f hf).below hb⟩
def smF (d : FrD) : Bool := decide (d.la.length ≤ 3) && (decide (d.lb.length ≤ 3) && d.vld)
def smL (ds : List FrD) : Bool := ds.all smF
theorem FOkM.at {w : World} {A : Option Addr} {c : Nat} {ds : List FrD} (h : FOkM w A c ds) {k : Nat} (hk : k < ds.length) :
    ∃ a d, A = some a ∧ a.block < w.heap.size ∧ w.cell? (a.add (k * 3)) = some (.bool d.neg) ∧ w.cell? ⟨(a.add (k * 3)).block, (a.add (k * 3)).off + 1, none⟩ = some (.slice d.a d.la.length d.ca) ∧
      w.cell? ⟨(a.add (k * 3)).block, (a.add (k * 3)).off + 2, none⟩ = some (.slice d.b d.lb.length d.cb) ∧ d.ok w ∧ Hid (ds[k]? = some d) := by
  obtain ⟨a, e, h1, h2⟩ := h.1.2.2 k hk
  have hc : ∀ i u, (ds[k]).cells[i]? = some u → w.cell? ((a.add (k * 3)).add i) = some u := fun i u hu => by
    rw [add_add]; exact h2 i u hu
  exact ⟨a, ds[k], e, h1, cell0 (hc 0 _ rfl), cellK (hc 1 _ rfl) (by decide), cellK (hc 2 _ rfl) (by decide), h.2 _ (List.getElem_mem hk), List.getElem?_eq_getElem hk⟩
theorem smL_fl {w : World} {A : Option Addr} {c : Nat} {ds : List FrD} (h : FOkM w A c ds) (hs : smL ds = true) : FL w A c ds ∧ QFits 3 (ds.map FrD.q) := by
  unfold smL at hs
  rw [List.all_eq_true] at hs
  have key : ∀ d ∈ ds, FV w d.v d.q ∧ Fits 3 d.q := fun d hd => by
    have h1 := hs d hd
    unfold smF at h1
    simp only [Bool.and_eq_true, decide_eq_true_eq] at h1
    exact FrD.few.fv (K := 3) ⟨(h.2 d hd).1.nv (by omega), (h.2 d hd).2.nv (by omega), h1.1, h1.2.1⟩ h1.2.2
  exact ⟨⟨h.1, fun d hd => (key d hd).1⟩, QFits.of fun d hd => (key d hd).2⟩

set_option maxRecDepth 100000 in
set_option maxHeartbeats 4000000 in
theorem small17_any {A : Option Addr} {c : Nat} {ds : List FrD} {w : World} (h : FOkM w A c ds) :
    Calls Try.prog 36 #[.slice A ds.length c] w (RetB (smL ds) w) := by
  have hl := h.1.1
  have hl2 := h.1.2.1
  obtain ⟨v, hv⟩ : ∃ v, Hid (smL ds = v) := ⟨_, rfl⟩
  rw [hv.out]
  go_enter Try.func36, Try.ntmps36
  go_wp2
  go_loopw [3] (fun i wr => EveryInv smF ds w i wr) (fun i _ => ds.length - (intOf i).toNat)
  case atStart => exact ⟨0, by omega, rfl, rfl, Below.refl _ _⟩
  case round =>
    obtain ⟨k, hk, rfl, hall, hbel⟩ := hrel
    by_cases hkl : k < ds.length
    · obtain ⟨a, d, rfl, hab, hc0, hc1, hc2, hok, hdk⟩ := (h.below hbel).at hkl
      have hki : (k : Int) < (ds.length : Int) := by omega
      have gA := hok.1.big
      have gB := hok.2.big
      by_cases h1 : d.la.length ≤ 3
      · have f1 : decide ((3 : Int) < (d.la.length : Int)) = false := decide_eq_false (by omega)
        by_cases h2 : d.lb.length ≤ 3
        · have f2 : decide ((3 : Int) < (d.lb.length : Int)) = false := decide_eq_false (by omega)
          obtain ⟨u, hu⟩ : ∃ u, Hid (vldF d.neg d.la d.lb = u) := ⟨_, rfl⟩
          have hsm := Lib.hid (show smF d = u by unfold smF FrD.vld; rw [decide_eq_true h1, decide_eq_true h2, hu.out]; rfl)
          go_wp2_with fail
          refine (refValidF_any (neg := d.neg) (hok.1.nv (by omega)) (hok.2.nv (by omega)) (by omega) (by omega)).mono ?_
          rintro en wv ⟨rfl, bv⟩
          rw [hu.out]
          have bT := hbel.trans (bv.mono hbel.size)
          rcases u with _ | _
          · have hf : Hid (v = false) := by show v = false; rw [← hv.out]; exact every_no hdk.out hsm.out
            go_wp2
            go_ret
            exact ⟨by rw [hf.out]; rfl, bT⟩
          · have hf := Lib.hid (every_take hall.out hdk.out hsm.out)
            go_wp2
            go_roundw
            case rel => exact ⟨k + 1, by omega, by go_num, hf, bT⟩
            case measure => simp [intOf]; omega
        · have f2 : decide ((3 : Int) < (d.lb.length : Int)) = true := decide_eq_true (by omega)
          have hf : Hid (v = false) := by show v = false; rw [← hv.out]; exact every_no hdk.out (by unfold smF; rw [decide_eq_false h2]; simp)
          clear h2
          go_wp2
          go_ret
          exact ⟨by rw [hf.out]; rfl, hbel⟩
      · have f1 : decide ((3 : Int) < (d.la.length : Int)) = true := decide_eq_true (by omega)
        have hf : Hid (v = false) := by show v = false; rw [← hv.out]; exact every_no hdk.out (by unfold smF; rw [decide_eq_false h1]; rfl)
        clear h1
        go_wp2
        go_ret
        exact ⟨by rw [hf.out]; rfl, hbel⟩
    · obtain rfl : k = ds.length := by omega
      have hlt' : decide ((ds.length : Int) < (ds.length : Int)) = false := decide_eq_false (by omega)
      have hf : Hid (v = true) := by show v = true; rw [← hv.out]; have := hall.out; rw [List.take_length] at this; exact this
      go_wp2
      go_ret
      exact ⟨by rw [hf.out]; rfl, hbel⟩

def listB (ds : List FrD) : Bool := decide (ds.length ≤ 6) && smL ds
set_option maxRecDepth 100000 in
set_option maxHeartbeats 4000000 in
theorem list17_any {A : Option Addr} {c : Nat} {ds : List FrD} {w : World} (h : FOkM w A c ds) :
    Calls Try.prog 12 #[.slice A ds.length c] w (RetB (listB ds) w) := by
  have hl := h.1.1
  have hl2 := h.1.2.1
  by_cases h6 : ds.length ≤ 6
  · have f1 : decide ((ds.length : Int) ≤ 6) = true := decide_eq_true (by omega)
    obtain ⟨v, hv⟩ : ∃ v, Hid (smL ds = v) := ⟨_, rfl⟩
    have hr : Hid (listB ds = v) := by show _ = v; unfold listB; rw [decide_eq_true h6, hv.out]; rfl
    rw [hr.out]
    go_enter Try.func12, Try.ntmps12
    go_wp2_with fail
    refine (small17_any h).mono ?_
    rintro en wv ⟨rfl, bv⟩
    rw [hv.out]
    go_wp2
    go_ret
    exact ⟨rfl, bv⟩
  · have f1 : decide ((ds.length : Int) ≤ 6) = false := decide_eq_false (by omega)
    have hr : Hid (listB ds = false) := by show _ = false; unfold listB; rw [decide_eq_false h6]; rfl
    rw [hr.out]
    go_enter Try.func12, Try.ntmps12
    go_wp2
    go_ret
    exact ⟨rfl, Below.refl _ _⟩

/-- A matrix that is handed in. -/
structure MOk (w : World) (A : Option Addr) (c : Nat) (rows : List RwD) : Prop where
  row : Srow w 1 RwD.cells A c rows
  ok : ∀ r ∈ rows, FOkM w r.a r.c r.ds
theorem MOk.below {w w' : World} {A : Option Addr} {c : Nat} {rows : List RwD} (h : MOk w A c rows) (hb : Below w.heap.size w w') : MOk w' A c rows := ⟨h.row.below hb, fun r hr => (h.ok r hr).below hb⟩
theorem MOk.at {w : World} {A : Option Addr} {c : Nat} {rows : List RwD} (h : MOk w A c rows) {k : Nat} (hk : k < rows.length) :
    ∃ a r, A = some a ∧ a.block < w.heap.size ∧ w.cell? (a.add k) = some (.slice r.a r.ds.length r.c) ∧ FOkM w r.a r.c r.ds ∧ Hid (rows[k]? = some r) := by
  obtain ⟨a, e, h1, h2⟩ := h.row.2.2 k hk
  have h3 := h2 0 _ rfl
  rw [Nat.mul_one, Nat.add_zero] at h3
  exact ⟨a, rows[k], e, h1, h3, h.ok _ (List.getElem_mem hk), List.getElem?_eq_getElem hk⟩
def rwB (r : RwD) : Bool := listB r.ds
def fewM (rows : List RwD) : Bool := decide (rows.length ≤ 6) && rows.all rwB
theorem fewM_ml {w : World} {A : Option Addr} {c : Nat} {rows : List RwD} (h : MOk w A c rows) (hs : fewM rows = true) : ML w A c rows ∧ MFits 3 (qsM rows) ∧ rows.length ≤ 6 ∧ ∀ r ∈ rows, r.ds.length ≤ 6 := by
  unfold fewM at hs
  simp only [Bool.and_eq_true, decide_eq_true_eq, List.all_eq_true] at hs
  have key : ∀ r ∈ rows, r.ds.length ≤ 6 ∧ FL w r.a r.c r.ds ∧ QFits 3 r.qs := fun r hr => by
    have h1 := hs.2 r hr
    unfold rwB listB at h1
    simp only [Bool.and_eq_true, decide_eq_true_eq] at h1
    exact ⟨h1.1, smL_fl (h.ok r hr) h1.2⟩
  refine ⟨⟨h.row, fun r hr => (key r hr).2.1⟩, fun x hx => ?_, hs.1, fun r hr => (key r hr).1⟩
  obtain ⟨r, hr, rfl⟩ := List.mem_map.1 hx
  exact (key r hr).2.2

set_option maxRecDepth 100000 in
set_option maxHeartbeats 4000000 in
theorem few17_any {A : Option Addr} {c : Nat} {rows : List RwD} {w : World} (h : MOk w A c rows) :
    Calls Try.prog 11 #[.slice A rows.length c] w (RetB (fewM rows) w) := by
  have hl := h.row.1
  have hl2 := h.row.2.1
  obtain ⟨v, hv⟩ : ∃ v, Hid (fewM rows = v) := ⟨_, rfl⟩
  rw [hv.out]
  by_cases h6 : rows.length ≤ 6
  · have f6 : decide ((6 : Int) < (rows.length : Int)) = false := decide_eq_false (by omega)
    have hvr : Hid (rows.all rwB = v) := by show _ = v; rw [← hv.out]; unfold fewM; rw [decide_eq_true h6]; rfl
    go_enter Try.func11, Try.ntmps11
    go_wp2
    go_loopw [4, 10] (fun x i wr => EveryInv rwB rows w i wr) (fun _ i _ => rows.length - (intOf i).toNat)
    case atStart => exact ⟨0, by omega, rfl, rfl, Below.refl _ _⟩
    case round =>
      obtain ⟨k, hk, rfl, hall, hbel⟩ := hrel
      by_cases hkl : k < rows.length
      · obtain ⟨a, r, rfl, hab, hc0, hok, hdk⟩ := (h.below hbel).at hkl
        have hki : (k : Int) < (rows.length : Int) := by omega
        have hrl := hok.1.1
        have hrl2 := hok.1.2.1
        by_cases h1 : r.ds.length ≤ 6
        · have f1 : decide ((6 : Int) < (r.ds.length : Int)) = false := decide_eq_false (by omega)
          obtain ⟨u, hu⟩ : ∃ u, Hid (smL r.ds = u) := ⟨_, rfl⟩
          have hsm := Lib.hid (show rwB r = u by unfold rwB listB; rw [decide_eq_true h1, hu.out]; rfl)
          go_wp2_with fail
          refine (small17_any hok).mono ?_
          rintro en wv ⟨rfl, bv⟩
          rw [hu.out]
          have bT := hbel.trans (bv.mono hbel.size)
          rcases u with _ | _
          · have hf : Hid (v = false) := by show v = false; rw [← hvr.out]; exact every_no hdk.out hsm.out
            go_wp2
            go_ret
            exact ⟨by rw [hf.out]; rfl, bT⟩
          · have hf := Lib.hid (every_take hall.out hdk.out hsm.out)
            go_wp2
            go_roundw
            case rel => exact ⟨k + 1, by omega, by go_num, hf, bT⟩
            case measure => simp [intOf]; omega
        · have f1 : decide ((6 : Int) < (r.ds.length : Int)) = true := decide_eq_true (by omega)
          have hf : Hid (v = false) := by show v = false; rw [← hvr.out]; exact every_no hdk.out (by unfold rwB listB; rw [decide_eq_false h1]; rfl)
          clear h1
          go_wp2
          go_ret
          exact ⟨by rw [hf.out]; rfl, hbel⟩
      · obtain rfl : k = rows.length := by omega
        have hlt' : decide ((rows.length : Int) < (rows.length : Int)) = false := decide_eq_false (by omega)
        have hf : Hid (v = true) := by show v = true; rw [← hvr.out]; have := hall.out; rw [List.take_length] at this; exact this
        go_wp2
        go_ret
        exact ⟨by rw [hf.out]; rfl, hbel⟩
  · have f6 : decide ((6 : Int) < (rows.length : Int)) = true := decide_eq_true (by omega)
    have hf : Hid (v = false) := by show v = false; rw [← hv.out]; unfold fewM; rw [decide_eq_false h6]; rfl
    clear h6
    go_enter Try.func11, Try.ntmps11
    go_wp2
    go_ret
    exact ⟨by rw [hf.out]; rfl, Below.refl _ _⟩
end Go.Proofs.Ytkjmliebkbbogaa
/- A matrix that is handed in. -/
namespace Go.Proofs.Ytkjmliebkbbogaa
set_option linter.unusedVariables false
set_option linter.unusedSimpArgs false
open Go.RowKit Plain Go.WideShapes
theorem cellsRow : Try.prog.cellsOf 23 = 1 := by kernel_rfl
section
variable {H : Type} {enc : TypeId × Value → H} {w : World}
set_option maxRecDepth 100000 in
theorem open_matrix {b0 : Nat} {v : Value} {d : DataW H} {p : List MemPlace} (hv : Value.okWide Try.prog w .any b0 22 v) (h : DataW.Trod enc Try.prog w 0 (fun _ => true) true 22 v d p) :
    ∃ A c rows, v = .slice A rows.length c ∧ MOk w A c rows := by
  obtain ⟨a, len, cap, rfl⟩ := okWide_slice Try.underlying22 hv
  obtain ⟨fuel, hf⟩ := h
  obtain ⟨A, c, rows, hc, h1, h2⟩ := trod_rows (cells := RwD.cells) (P := fun r => FOkM w r.a r.c r.ds) Try.underlying22 cellsRow (fun _ => by simp [RwD.cells]) (fun n cs x h => by
    obtain ⟨A, c, ds, hc, h1, h2⟩ := trod_rows (cells := FrD.cells) (P := FrD.ok w) Try.underlying23 cellsFrac (fun _ => by simp [FrD.cells]) (fun _ _ _ h => trod_frac h) h
    exact ⟨⟨A, c, ds⟩, hc, h1, h2⟩) hf
  simp [Value.cells] at hc
  obtain ⟨rfl, rfl, rfl⟩ := hc
  exact ⟨_, _, rows, rfl, ⟨h1, h2⟩⟩
end
end Go.Proofs.Ytkjmliebkbbogaa
