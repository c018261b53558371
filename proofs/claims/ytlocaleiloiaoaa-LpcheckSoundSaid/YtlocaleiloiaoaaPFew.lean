/- R19 Short: what the call does. -/
import Derived.Test.YtlocaleiloiaoaaPNonneg
namespace Go.Proofs.Ytlocaleiloiaoaa
set_option linter.unusedVariables false
set_option linter.unusedSimpArgs false
open Go.RowKit Plain
attribute [local go_sem ↓] Go.wp_at_zero Go.wp_at_succ

def frS (d : FrD) : Bool := decide (d.la.length ≤ 4) && decide (d.lb.length ≤ 4)
def shortB (ds : List FrD) : Bool := decide (ds.length ≤ 12) && ds.all frS
theorem Srow.at3 {w : World} {A : Option Addr} {c : Nat} {ds : List FrD} (h : Srow w 3 FrD.cells A c ds) {k : Nat} (hk : k < ds.length) :
    ∃ a d, A = some a ∧ a.block < w.heap.size ∧ w.cell? (a.add (k * 3)) = some (.bool d.neg) ∧ w.cell? ⟨(a.add (k * 3)).block, (a.add (k * 3)).off + 1, none⟩ = some (.slice d.a d.la.length d.ca) ∧
      w.cell? ⟨(a.add (k * 3)).block, (a.add (k * 3)).off + 2, none⟩ = some (.slice d.b d.lb.length d.cb) ∧ Hid (ds[k]? = some d) := by
  obtain ⟨a, e, h1, h2⟩ := h.2.2 k hk
  have hc : ∀ i u, (ds[k]).cells[i]? = some u → w.cell? ((a.add (k * 3)).add i) = some u := fun i u hu => by
    rw [add_add]; exact h2 i u hu
  exact ⟨a, ds[k], e, h1, cell0 (hc 0 _ rfl), cellK (hc 1 _ rfl) (by decide), cellK (hc 2 _ rfl) (by decide), List.getElem?_eq_getElem hk⟩
/-- A short list of what is handed in. -/
theorem shortB_ld {w : World} {A : Option Addr} {c : Nat} {ds : List FrD} (h : Srow w 3 FrD.cells A c ds) (ho : ∀ f ∈ ds, f.ok w) (hs : shortB ds = true) : LD w 4 A c ds ∧ ds.length ≤ 12 := by
  unfold shortB at hs
  simp only [Bool.and_eq_true, decide_eq_true_eq, List.all_eq_true, frS] at hs
  refine ⟨⟨h, fun d hd => ?_⟩, hs.1⟩
  have h1 := hs.2 d hd
  exact ⟨(ho d hd).1.nv (by omega), (ho d hd).2.nv (by omega), h1.1, h1.2⟩

set_option maxRecDepth 100000 in
set_option maxHeartbeats 2000000 in
theorem short19_any {A : Option Addr} {c : Nat} {ds : List FrD} {w : World} (h : Srow w 3 FrD.cells A c ds) :
    Calls Try.prog 9 #[.slice A ds.length c] w (RetB (shortB ds) w) := by
  have hl := h.1
  have hc := h.2.1
  obtain ⟨v, hv⟩ : ∃ v, Hid (shortB ds = v) := ⟨_, rfl⟩
  rw [hv.out]
  by_cases h12 : ds.length ≤ 12
  · have hvr : Hid (ds.all frS = v) := by show _ = v; rw [← hv.out]; unfold shortB; rw [decide_eq_true h12]; rfl
    have hgt : decide ((12 : Int) < (ds.length : Int)) = false := decide_eq_false (by omega)
    go_enter Try.func9, Try.ntmps9
    go_wp2
    go_loopw [3] (fun i wr => AllInv frS ds w i wr) (fun i _ => ds.length - (intOf i).toNat)
    case atStart => exact ⟨0, by omega, rfl, rfl, Below.refl _ _⟩
    case round =>
      obtain ⟨k, hk, rfl, hall, hbel⟩ := hrel
      by_cases hkl : k < ds.length
      · obtain ⟨a, d, rfl, hab, hc0, hc1, hc2, hdk⟩ := (h.below hbel).at3 hkl
        have hki : (k : Int) < (ds.length : Int) := by omega
        by_cases h1 : d.la.length ≤ 4
        · have hg1 : decide ((4 : Int) < (d.la.length : Int)) = false := decide_eq_false (by omega)
          by_cases h2 : d.lb.length ≤ 4
          · have hg2 : decide ((4 : Int) < (d.lb.length : Int)) = false := decide_eq_false (by omega)
            have hf := Lib.hid (show (ds.take (k + 1)).all frS = true by rw [all_take hall.out hdk.out]; unfold frS; rw [decide_eq_true h1, decide_eq_true h2]; rfl)
            go_wp2
            go_roundw
            case rel => exact ⟨k + 1, by omega, by go_num, hf, hbel⟩
            case measure => simp [intOf]; omega
          · have hg2 : decide ((4 : Int) < (d.lb.length : Int)) = true := decide_eq_true (by omega)
            have hf : Hid (v = false) := by show v = false; rw [← hvr.out]; exact all_no hdk.out (by unfold frS; rw [decide_eq_false h2]; simp)
            go_wp2
            go_ret
            exact ⟨by rw [hf.out]; rfl, hbel⟩
        · have hg1 : decide ((4 : Int) < (d.la.length : Int)) = true := decide_eq_true (by omega)
          have hf : Hid (v = false) := by show v = false; rw [← hvr.out]; exact all_no hdk.out (by unfold frS; rw [decide_eq_false h1]; rfl)
          go_wp2
          go_ret
          exact ⟨by rw [hf.out]; rfl, hbel⟩
      · obtain rfl : k = ds.length := by omega
        have hlt' : decide ((ds.length : Int) < (ds.length : Int)) = false := decide_eq_false (by omega)
        have hf : Hid (v = true) := by show v = true; rw [← hvr.out]; have := hall.out; rw [List.take_length] at this; exact this
        go_wp2
        go_ret
        exact ⟨by rw [hf.out]; rfl, hbel⟩
  · have hgt : decide ((12 : Int) < (ds.length : Int)) = true := decide_eq_true (by omega)
    have hf : Hid (v = false) := by show v = false; rw [← hv.out]; unfold shortB; rw [decide_eq_false h12]; rfl
    go_enter Try.func9, Try.ntmps9
    go_wp2
    go_ret
    exact ⟨by rw [hf.out]; rfl, Below.refl _ _⟩
end Go.Proofs.Ytlocaleiloiaoaa
/- R19 Few: what the call does. -/
namespace Go.Proofs.Ytlocaleiloiaoaa
set_option linter.unusedVariables false
set_option linter.unusedSimpArgs false
open Go.RowKit Plain
attribute [local go_sem ↓] Go.wp_at_zero Go.wp_at_succ

def rowS (r : RowD) : Bool := shortB r.ds && frS r.b
def fewB (gs : List FrD) (rs : List RowD) : Bool := decide (gs.length ≤ 8) && (decide (rs.length ≤ 8) && (shortB gs && rs.all rowS))
theorem Srow.at4 {w : World} {A : Option Addr} {c : Nat} {rs : List RowD} (h : Srow w 4 RowD.cells A c rs) {k : Nat} (hk : k < rs.length) :
    ∃ a r, A = some a ∧ a.block < w.heap.size ∧ w.cell? (a.add (k * 4)) = some (.slice r.a r.ds.length r.c) ∧ w.cell? ⟨(a.add (k * 4)).block, (a.add (k * 4)).off + 1, none⟩ = some (.bool r.b.neg) ∧
      w.cell? ⟨(a.add (k * 4)).block, (a.add (k * 4)).off + 2, none⟩ = some (.slice r.b.a r.b.la.length r.b.ca) ∧ w.cell? ⟨(a.add (k * 4)).block, (a.add (k * 4)).off + 3, none⟩ = some (.slice r.b.b r.b.lb.length r.b.cb) ∧ Hid (rs[k]? = some r) := by
  obtain ⟨a, e, h1, h2⟩ := h.2.2 k hk
  have hc : ∀ i u, (rs[k]).cells[i]? = some u → w.cell? ((a.add (k * 4)).add i) = some u := fun i u hu => by
    rw [add_add]; exact h2 i u hu
  exact ⟨a, rs[k], e, h1, cell0 (hc 0 _ rfl), cellK (hc 1 _ rfl) (by decide), cellK (hc 2 _ rfl) (by decide), cellK (hc 3 _ rfl) (by decide), List.getElem?_eq_getElem hk⟩
/-- A block of one fraction is a slice of one fraction. -/
theorem Blk.one {w : World} {g : Nat} {t : TypeId} {d : FrD} (h : Blk w g t #[.bool d.neg, .slice d.a d.la.length d.ca, .slice d.b d.lb.length d.cb]) : Srow w 3 FrD.cells (some ⟨g, 0, none⟩) 1 [d] :=
  ⟨by simp, by omega, fun j hj => by
    simp at hj
    subst hj
    refine ⟨_, rfl, h.lt, fun i u hu => ?_⟩
    have hi : i < 3 := by
      have := (List.getElem?_eq_some_iff.1 hu).1
      simpa [FrD.cells] using this
    have e : (Addr.add ⟨g, 0, none⟩ (0 * 3 + i)) = ⟨g, i, none⟩ := by simp [Addr.add]; intro h0; exact h0.symm
    rw [e, h.cell i, ← hu]
    match i, hi with
    | 0, _ => rfl
    | 1, _ => rfl
    | 2, _ => rfl⟩

set_option maxRecDepth 100000 in
set_option maxHeartbeats 2000000 in
theorem few19_any {ga ra : Option Addr} {gc rc : Nat} {gs : List FrD} {rs : List RowD} {w : World} (hg : Srow w 3 FrD.cells ga gc gs) (hr : Srow w 4 RowD.cells ra rc rs) (hrr : ∀ r ∈ rs, Srow w 3 FrD.cells r.a r.c r.ds) :
    Calls Try.prog 8 #[.agg #[.slice ga gs.length gc, .slice ra rs.length rc]] w (RetB (fewB gs rs) w) := by
  obtain ⟨w0, hw0, bw0, hlt0, hB0⟩ := boxed w #[.slice ga gs.length gc, .slice ra rs.length rc] 25
  have hlg := hg.1
  have hlg2 := hg.2.1
  have hlr := hr.1
  have hlr2 := hr.2.1
  obtain ⟨v, hv⟩ : ∃ v, Hid (fewB gs rs = v) := ⟨_, rfl⟩
  have z0 := hB0.g0
  have z1 := hB0.g1
  rw [hv.out]
  by_cases h8 : gs.length ≤ 8
  · have hg8 : decide ((8 : Int) < (gs.length : Int)) = false := decide_eq_false (by omega)
    by_cases r8 : rs.length ≤ 8
    · have hr8 : decide ((8 : Int) < (rs.length : Int)) = false := decide_eq_false (by omega)
      go_enter Try.func8, Try.ntmps8
      go_wp2_with fail
      refine (short19_any (hg.below bw0)).mono ?_
      rintro e w1 ⟨rfl, b1⟩
      have hB1 := hB0.keep b1
      have b01 := bw0.trans (b1.mono (Nat.le_of_lt hlt0))
      have t0 := hB1.g0
      have t1 := hB1.g1
      clear z0 z1
      rcases hsg : shortB gs with _ | _
      · have hf : Hid (v = false) := by show v = false; rw [← hv.out]; unfold fewB; rw [hsg]; simp
        go_wp2
        go_ret
        exact ⟨by rw [hf.out]; rfl, b01⟩
      have hvr : Hid (rs.all rowS = v) := by show _ = v; rw [← hv.out]; unfold fewB; rw [hsg, decide_eq_true h8, decide_eq_true r8]; rfl
      go_wp2
      go_loopw [3] (fun i wr => AllInv rowS rs w1 i wr) (fun i _ => rs.length - (intOf i).toNat)
      case atStart => exact ⟨0, by omega, rfl, rfl, Below.refl _ _⟩
      case round =>
        obtain ⟨k, hk, rfl, hall, hbel1⟩ := hrel
        have hXk := hB1.keep hbel1
        have hbel := b01.trans (hbel1.mono b01.size)
        have x0 := hXk.g0
        have x1 := hXk.g1
        clear t0 t1
        by_cases hkl : k < rs.length
        · obtain ⟨a, r, rfl, hab, hc0, hc1, hc2, hc3, hrk⟩ := (hr.below hbel).at4 hkl
          have hki : (k : Int) < (rs.length : Int) := by omega
          have hrow := (hrr r (List.mem_of_getElem? hrk.out)).below hbel
          go_wp2_with fail
          refine (short19_any hrow).mono ?_
          rintro e w5 ⟨rfl, b5⟩
          have hX5 := hXk.keep b5
          have u0 := hX5.g0
          have u1 := hX5.g1
          have i1 := (b5.cell (p := ⟨(a.add (k * 4)).block, (a.add (k * 4)).off + 1, none⟩) (by show (a.add (k * 4)).block < _; rw [block_add]; exact hab)).trans hc1
          have i2 := (b5.cell (p := ⟨(a.add (k * 4)).block, (a.add (k * 4)).off + 2, none⟩) (by show (a.add (k * 4)).block < _; rw [block_add]; exact hab)).trans hc2
          have i3 := (b5.cell (p := ⟨(a.add (k * 4)).block, (a.add (k * 4)).off + 3, none⟩) (by show (a.add (k * 4)).block < _; rw [block_add]; exact hab)).trans hc3
          have b05 := hbel.trans (b5.mono hbel.size)
          have b051 := hbel1.trans (b5.mono hbel1.size)
          clear x0 x1 hc0 hc1 hc2 hc3
          rcases hs : shortB r.ds with _ | _
          · have hf : Hid (v = false) := by show v = false; rw [← hvr.out]; exact all_no hrk.out (by unfold rowS; rw [hs]; rfl)
            go_wp2
            go_ret
            exact ⟨by rw [hf.out]; rfl, b05⟩
          · obtain ⟨w6, hw6, bw6, hlt6, hY⟩ := boxed w5 #[.bool r.b.neg, .slice r.b.a r.b.la.length r.b.ca, .slice r.b.b r.b.lb.length r.b.cb] 29
            have b06 := b05.trans (bw6.mono b05.size)
            have b061 := b051.trans (bw6.mono b051.size)
            go_wp2_with fail
            refine (short19_any (ds := [r.b]) hY.one).mono ?_
            rintro e w7 ⟨rfl, b7⟩
            have b07 := b06.trans (b7.mono b06.size)
            have b071 := b061.trans (b7.mono b061.size)
            have e1 : shortB [r.b] = frS r.b := by unfold shortB; simp
            rw [e1]
            rcases hs1 : frS r.b with _ | _
            · have hf : Hid (v = false) := by show v = false; rw [← hvr.out]; exact all_no hrk.out (by unfold rowS; rw [hs, hs1]; rfl)
              go_wp2
              go_ret
              exact ⟨by rw [hf.out]; rfl, b07⟩
            · have hf := Lib.hid (show (rs.take (k + 1)).all rowS = true by rw [all_take hall.out hrk.out]; unfold rowS; rw [hs, hs1]; rfl)
              go_wp2
              go_roundw
              case rel => exact ⟨k + 1, by omega, by go_num, hf, b071⟩
              case measure => simp [intOf]; omega
        · obtain rfl : k = rs.length := by omega
          have hlt' : decide ((rs.length : Int) < (rs.length : Int)) = false := decide_eq_false (by omega)
          have hf : Hid (v = true) := by show v = true; rw [← hvr.out]; have := hall.out; rw [List.take_length] at this; exact this
          go_wp2
          go_ret
          exact ⟨by rw [hf.out]; rfl, hbel⟩
    · have hr8 : decide ((8 : Int) < (rs.length : Int)) = true := decide_eq_true (by omega)
      have hf : Hid (v = false) := by show v = false; rw [← hv.out]; unfold fewB; rw [decide_eq_false r8]; simp
      go_enter Try.func8, Try.ntmps8
      go_wp2
      go_ret
      exact ⟨by rw [hf.out]; rfl, bw0⟩
  · have hg8 : decide ((8 : Int) < (gs.length : Int)) = true := decide_eq_true (by omega)
    have hf : Hid (v = false) := by show v = false; rw [← hv.out]; unfold fewB; rw [decide_eq_false h8]; rfl
    go_enter Try.func8, Try.ntmps8
    go_wp2
    go_ret
    exact ⟨by rw [hf.out]; rfl, bw0⟩
end Go.Proofs.Ytlocaleiloiaoaa
