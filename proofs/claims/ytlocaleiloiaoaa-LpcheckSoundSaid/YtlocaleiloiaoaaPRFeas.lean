/- R19 Feasible: what the call does. -/
import Derived.Test.YtlocaleiloiaoaaPValue
import Derived.Test.YtlocaleiloiaoaaPRFormed
import Derived.Test.YtlocaleiloiaoaaGDot
namespace Go.Proofs.Ytlocaleiloiaoaa
set_option linter.unusedVariables false
set_option linter.unusedSimpArgs false
open Go.RowKit Plain
attribute [local go_sem ↓] Go.wp_at_zero Go.wp_at_succ

set_option maxRecDepth 100000 in
set_option maxHeartbeats 4000000 in
theorem refFeasible_any {K : Nat} {ga ra E : Option Addr} {gc rc ce : Nat} {gs xs : List FrD} {rs : List RowD} {w : World} (hg : LD w K ga gc gs) (hr : RL w K ra rc rs) (hx : LD w K E ce xs) (hK : 1 + (gs.length + 1) * (K + K + 1) + K < 400000000) :
    Calls Try.prog 12 #[.agg #[.slice ga gs.length gc, .slice ra rs.length rc], .slice E xs.length ce] w (RetB (feaB gs rs xs) w) := by
  obtain ⟨w0, hw0, bw0, hlt0, hB0⟩ := boxed w #[.slice ga gs.length gc, .slice ra rs.length rc] 25
  have hlg := hg.len
  have hlr := hr.len
  have hlx := hx.len
  have hKs : K ≤ 400000000 := by rw [Nat.add_mul] at hK; omega
  obtain ⟨v, hv⟩ : ∃ v, Hid (feaB gs rs xs = v) := ⟨_, rfl⟩
  have z0 := hB0.g0
  have z1 := hB0.g1
  rw [hv.out]
  go_enter Try.func12, Try.ntmps12
  go_wp2_with fail
  refine (refFormed_any (hg.below bw0) (hr.below bw0) hKs).mono ?_
  rintro e w1 ⟨rfl, b1⟩
  have hB1 := hB0.keep b1
  have b01 := bw0.trans (b1.mono (Nat.le_of_lt hlt0))
  have t0 := hB1.g0
  have t1 := hB1.g1
  clear z0 z1
  rcases hfm : (rowsB gs.length rs && whB gs) with _ | _
  · have hf : Hid (v = false) := by show v = false; rw [← hv.out]; unfold feaB; rw [hfm]; rfl
    go_wp2
    go_ret
    exact ⟨by rw [hf.out]; rfl, b01⟩
  go_wp2_with fail
  refine (positive_any (n := gs.length) (hx.below b01) hKs (by omega)).mono ?_
  rintro e w2 ⟨rfl, b2⟩
  have hB2 := hB1.keep b2
  have b02 := b01.trans (b2.mono b01.size)
  have u0 := hB2.g0
  have u1 := hB2.g1
  clear t0 t1
  rcases hps : posB xs gs.length with _ | _
  · have hf : Hid (v = false) := by show v = false; rw [← hv.out]; unfold feaB; rw [hfm, hps]; rfl
    go_wp2
    go_ret
    exact ⟨by rw [hf.out]; rfl, b02⟩
  have hvr : Hid (rs.all (rowOk xs) = v) := by show _ = v; rw [← hv.out]; unfold feaB; rw [hfm, hps]; rfl
  have hrw := Lib.hid (show rowsB gs.length rs = true by rw [Bool.and_eq_true] at hfm; exact hfm.1)
  have hwx : whB xs = true := by unfold posB at hps; simp only [Bool.and_eq_true] at hps; exact hps.2.1
  obtain ⟨hfx, hfitx⟩ := hx.fl hwx
  have hfx1 := Lib.hid hfitx
  clear hfm hps hwx hfitx
  go_wp2
  go_loopw [5] (fun i wr => AllInv (rowOk xs) rs w2 i wr) (fun i _ => rs.length - (intOf i).toNat)
  case atStart => exact ⟨0, by omega, rfl, rfl, Below.refl _ _⟩
  case round =>
    obtain ⟨k, hk, rfl, hall, hbel2⟩ := hrel
    have hXk := hB2.keep hbel2
    have hbel := b02.trans (hbel2.mono b02.size)
    have x0 := hXk.g0
    have x1 := hXk.g1
    clear u0 u1
    by_cases hkl : k < rs.length
    · obtain ⟨a, r, rfl, hab, hc0, hc1, hc2, hc3, hfr, hrk⟩ := (hr.below hbel).at hkl
      obtain ⟨hlen, hfl, hfit, hfv, hfb⟩ := rowsB_at hrw.out (List.mem_of_getElem? hrk.out) hfr
      have hlen' := Lib.hid hlen
      have hfit' := Lib.hid hfit
      have hfb' := Lib.hid hfb
      have hll := hfl.len
      have hki : (k : Int) < (rs.length : Int) := by omega
      have bD : Below w.heap.size w wr.drew := hbel.drew
      have bD2 : Below w2.heap.size w2 wr.drew := hbel2.drew
      have hflD : FL wr.drew r.a r.c r.ds := hfl.below (Below.refl _ _).drew
      have hfxD : FL wr.drew E ce xs := hfx.below bD
      have hfvD : FV wr.drew r.b.v r.b.q := hfv.below (Below.refl _ _).drew
      have hXD : Blk wr.drew w.heap.size 25 #[.slice ga gs.length gc, .slice (some a) rs.length rc] := hXk
      have hS : ∀ w', Below wr.drew.heap.size wr.drew w' → w'.cell? ⟨(a.add (k * 4)).block, (a.add (k * 4)).off + 1, none⟩ = some (.bool r.b.neg) ∧ w'.cell? ⟨(a.add (k * 4)).block, (a.add (k * 4)).off + 2, none⟩ = some (.slice r.b.a r.b.la.length r.b.ca) ∧ w'.cell? ⟨(a.add (k * 4)).block, (a.add (k * 4)).off + 3, none⟩ = some (.slice r.b.b r.b.lb.length r.b.cb) ∧ w'.cell? ⟨w.heap.size, 0, none⟩ = some (.slice ga gs.length gc) ∧ w'.cell? ⟨w.heap.size, 1, none⟩ = some (.slice (some a) rs.length rc) := by
        intro w' o
        have hXw := hXD.keep o
        exact ⟨(o.cell (by show (a.add (k * 4)).block < _; rw [block_add]; exact hab)).trans hc1, (o.cell (by show (a.add (k * 4)).block < _; rw [block_add]; exact hab)).trans hc2, (o.cell (by show (a.add (k * 4)).block < _; rw [block_add]; exact hab)).trans hc3, hXw.g0, hXw.g1⟩
      have hKd := Lib.hid (show 1 + (r.ds.length + 1) * (K + K + 1) < 400000000 by rw [hlen]; omega)
      have hsf := Lib.hid (prods_sum_fits (m := gs.length) hfit hfx1.out (by omega))
      clear hlen hfit hfb hfv hfl
      go_wp2_with fail
      go_region_with (first
        | (go_at_call 34; refine (refDotF_any hflD hfxD hfit'.out hfx1.out hKd.out).mono ?_; rintro e w5 ⟨v5, rfl, hf5, b5⟩; obtain ⟨i1, i2, i3, i4, i5⟩ := hS _ b5; have b05 := bD.trans (b5.mono bD.size); have b051 := bD2.trans (b5.mono bD2.size); have fv5 := hfvD.below b5)
        | (go_at_call 13; refine (refCmpF_any hf5 fv5 hsf.out hfb'.out (by omega)).mono ?_; rintro e w6 ⟨rfl, b6⟩; have b06 := b05.trans (b6.mono b05.size); have b061 := b051.trans (b6.mono b051.size)))
      all_goals
        rcases hs : decide (0 < cmpR (sumR (prods r.ds xs)) r.b.q) with _ | _
        · have hf := Lib.hid (show (rs.take (k + 1)).all (rowOk xs) = true by rw [all_take hall.out hrk.out]; unfold rowOk; rw [hs]; rfl)
          go_wp2
          go_roundw
          case rel => exact ⟨k + 1, by omega, by go_num, hf, b061⟩
          case measure => simp [intOf]; omega
        · have hf : Hid (v = false) := by
            show v = false
            rw [← hvr.out]; exact all_no hrk.out (by unfold rowOk; rw [hs]; rfl)
          go_wp2
          go_ret
          exact ⟨by rw [hf.out]; rfl, b06⟩
    · obtain rfl : k = rs.length := by omega
      have hlt' : decide ((rs.length : Int) < (rs.length : Int)) = false := decide_eq_false (by omega)
      have hf : Hid (v = true) := by show v = true; rw [← hvr.out]; have := hall.out; rw [List.take_length] at this; exact this
      go_wp2
      go_ret
      exact ⟨by rw [hf.out]; rfl, hbel⟩
end Go.Proofs.Ytlocaleiloiaoaa
