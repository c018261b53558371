/- What proves a program infeasible or unbounded. -/
import Derived.Test.YtlocaleiloiaoaaPBound
import Derived.Test.YtlocaleiloiaoaaPValue
import Derived.Deep.RegionWith
namespace Go.Proofs.Ytlocaleiloiaoaa
set_option linter.unusedVariables false
set_option linter.unusedSimpArgs false
open Go.RowKit Plain
attribute [local go_sem ↓] Go.wp_at_zero Go.wp_at_succ

def colNN (rs : List RowD) (ys : List FrD) (k : Nat) : Bool := !decide (cmpR (sumR (cols rs ys k)) 0 < 0)
def emptyB (gs : List FrD) (rs : List RowD) (ys : List FrD) : Bool := posB ys rs.length && (allN gs.length (colNN rs ys) && decide (cmpR (sumR (bnds rs ys)) 0 < 0))
def rayOk (ds : List FrD) (r : RowD) : Bool := !decide (0 < cmpR (sumR (prods r.ds ds)) 0)
def endB (gs : List FrD) (rs : List RowD) (ds : List FrD) : Bool := posB ds gs.length && (rs.all (rayOk ds) && decide (0 < cmpR (sumR (prods gs ds)) 0))
theorem le_not {x : Int} (h : decide (0 < x) = false) : decide (x ≤ 0) = true := by have := of_decide_eq_false h; exact decide_eq_true (by omega)
theorem le_not' {x : Int} (h : decide (0 < x) = true) : decide (x ≤ 0) = false := by have := of_decide_eq_true h; exact decide_eq_false (by omega)
theorem ge_not {x : Int} (h : decide (x < 0) = false) : decide (0 ≤ x) = true := by have := of_decide_eq_false h; exact decide_eq_true (by omega)
theorem ge_not' {x : Int} (h : decide (x < 0) = true) : decide (0 ≤ x) = false := by have := of_decide_eq_true h; exact decide_eq_false (by omega)
theorem Blk.u0 {w : World} {g : Nat} {t : TypeId} {a : Value} (h : Blk w g t #[a]) : w.cell? ⟨g, 0, none⟩ = some a := h.cell 0
end Go.Proofs.Ytlocaleiloiaoaa
/- lpcheck: infeasible proven: what the call does. -/
namespace Go.Proofs.Ytlocaleiloiaoaa
set_option linter.unusedVariables false
set_option linter.unusedSimpArgs false
open Go.RowKit Plain
attribute [local go_sem ↓] Go.wp_at_zero Go.wp_at_succ

set_option maxRecDepth 100000 in
set_option maxHeartbeats 4000000 in
theorem infeasible_any {K : Nat} {ga ra E : Option Addr} {gc rc ce : Nat} {gs ys : List FrD} {rs : List RowD} {w : World} (hg : LD w K ga gc gs) (hr : RL w K ra rc rs) (hw : rowsB gs.length rs = true) (hy : LD w K E ce ys) (hK : 1 + (rs.length + 1) * (K + K + 1) + K < 400000000) :
    Calls Try.prog 109 #[.agg #[.slice E ys.length ce], .agg #[.slice ga gs.length gc, .slice ra rs.length rc]] w (RetB (emptyB gs rs ys) w) := by
  obtain ⟨w0, hw0, bw0, hlt0, hC0⟩ := boxed w #[.slice E ys.length ce] 57
  obtain ⟨w1, hw1, bw1, hlt1, hA1⟩ := boxed w0 #[.slice ga gs.length gc, .slice ra rs.length rc] 25
  have hC1 := hC0.keep bw1
  have b01 := bw0.trans (bw1.mono (Nat.le_of_lt hlt0))
  have c0 := hC1.u0
  have hlg := hg.len
  have hlr := hr.len
  have hly := hy.len
  have hww := Lib.hid hw
  clear hw
  have hKs : K ≤ 400000000 := by rw [Nat.add_mul] at hK; omega
  obtain ⟨v, hv⟩ : ∃ v, Hid (emptyB gs rs ys = v) := ⟨_, rfl⟩
  have z0 := hA1.g0
  have z1 := hA1.g1
  rw [hv.out]
  go_enter Try.func109, Try.ntmps109
  go_wp2_with fail
  refine (nonneg_any (n := rs.length) (hy.below b01) hKs (by omega)).mono ?_
  rintro e w2 ⟨rfl, b2⟩
  have hA2 := hA1.keep b2
  have b02 := b01.trans (b2.mono b01.size)
  clear z0 z1
  have t0 := hA2.g0
  have t1 := hA2.g1
  clear c0
  have hC2 := hC1.keep b2
  have c0 := hC2.u0
  rcases hps : posB ys rs.length with _ | _
  · have hf : Hid (v = false) := by show v = false; rw [← hv.out]; unfold emptyB; rw [hps]; rfl
    go_wp2
    go_ret
    exact ⟨by rw [hf.out]; rfl, b02⟩
  have hvr : Hid ((allN gs.length (colNN rs ys) && decide (cmpR (sumR (bnds rs ys)) 0 < 0)) = v) := by show _ = v; rw [← hv.out]; unfold emptyB; rw [hps]; rfl
  have hwy : whB ys = true := by unfold posB at hps; simp only [Bool.and_eq_true] at hps; exact hps.2.1
  have hleny : Hid (ys.length = rs.length) := by unfold posB at hps; simp only [Bool.and_eq_true, decide_eq_true_eq] at hps; exact hps.1
  obtain ⟨hfy, hfity⟩ := hy.fl hwy
  have hfy1 := Lib.hid hfity
  clear hps hwy hfity
  have hK2 := Lib.hid (show 1 + (ys.length + 1) * (K + K + 1) < 400000000 by rw [hleny.out]; omega)
  go_wp2
  go_loopw [5, 16] (fun b i wr => RngInv (colNN rs ys) gs.length w2 i wr) (fun _ i _ => gs.length - (intOf i).toNat)
  case atStart => exact ⟨0, by omega, rfl, fun j hj => by omega, Below.refl _ _⟩
  case round =>
    obtain ⟨k, hk, rfl, hall, hbel3⟩ := hrel
    have hXk := hA2.keep hbel3
    have hbel := b02.trans (hbel3.mono b02.size)
    clear t0 t1
    have x0 := hXk.g0
    have x1 := hXk.g1
    clear c0
    have hCk := hC2.keep hbel3
    have c0 := hCk.u0
    by_cases hkl : k < gs.length
    · have hki : (k : Int) < (gs.length : Int) := by omega
      go_wp2_with fail
      refine (column_any (hg.below hbel) (hr.below hbel) hww.out (hfy.below hbel) hfy1.out hK2.out hkl (by omega) (by rw [hleny.out]; omega)).mono ?_
      rintro e w5 ⟨v5, rfl, hf5, b5⟩
      have b05 := hbel.trans (b5.mono hbel.size)
      have b051 := hbel3.trans (b5.mono hbel3.size)
      go_wp2_with fail
      refine (sign_any hf5).mono ?_
      rintro e w6 ⟨rfl, b6⟩
      have b06 := b05.trans (b6.mono b05.size)
      have b061 := b051.trans (b6.mono b051.size)
      rcases hs : decide (cmpR (sumR (cols rs ys k)) 0 < 0) with _ | _
      · have hf := Lib.hid (show ∀ j, j < k + 1 → colNN rs ys j = true from rng_snoc hall.out (by unfold colNN; rw [hs]; rfl))
        go_wp2
        go_roundw
        case rel => exact ⟨k + 1, by omega, by go_num, hf, b061⟩
        case measure => simp [intOf]; omega
      · have hf : Hid (v = false) := by
          show v = false
          rw [← hvr.out, allN_no hkl (by unfold colNN; rw [hs]; rfl)]; rfl
        go_wp2
        go_ret
        exact ⟨by rw [hf.out]; rfl, b06⟩
    · obtain rfl : k = gs.length := by omega
      have hlt' : decide ((gs.length : Int) < (gs.length : Int)) = false := decide_eq_false (by omega)
      have hf : Hid (v = decide (cmpR (sumR (bnds rs ys)) 0 < 0)) := by show v = _; rw [← hvr.out, allN_of hall.out]; rfl
      go_wp2_with fail
      refine (bounds_any (hg.below hbel) (hr.below hbel) hww.out (hfy.below hbel) hfy1.out hK2.out).mono ?_
      rintro e w5 ⟨v5, rfl, f5, b5⟩
      have b05 := hbel.trans (b5.mono hbel.size)
      go_wp2_with fail
      refine (sign_any f5).mono ?_
      rintro e w6 ⟨rfl, b6⟩
      have b06 := b05.trans (b6.mono b05.size)
      go_wp2
      go_ret
      exact ⟨by rw [hf.out]; rfl, b06⟩
end Go.Proofs.Ytlocaleiloiaoaa
/- lpcheck: unbounded proven: what the call does. -/
namespace Go.Proofs.Ytlocaleiloiaoaa
set_option linter.unusedVariables false
set_option linter.unusedSimpArgs false
open Go.RowKit Plain
attribute [local go_sem ↓] Go.wp_at_zero Go.wp_at_succ

set_option maxRecDepth 100000 in
set_option maxHeartbeats 4000000 in
theorem unbounded_any {K : Nat} {ga ra E X : Option Addr} {gc rc ce cx : Nat} {gs ds xs : List FrD} {rs : List RowD} {w : World} (hg : LD w K ga gc gs) (hr : RL w K ra rc rs) (hwg : whB gs = true) (hw : rowsB gs.length rs = true) (hx : LD w K X cx xs) (hd : LD w K E ce ds) (hK : 1 + (gs.length + 1) * (K + K + 1) < 400000000) :
    Calls Try.prog 110 #[.agg #[.slice X xs.length cx, .slice E ds.length ce], .agg #[.slice ga gs.length gc, .slice ra rs.length rc]] w (RetB ((feaB gs rs xs && endB gs rs ds)) w) := by
  obtain ⟨w0, hw0, bw0, hlt0, hC0⟩ := boxed w #[.slice X xs.length cx, .slice E ds.length ce] 59
  obtain ⟨w1, hw1, bw1, hlt1, hA1⟩ := boxed w0 #[.slice ga gs.length gc, .slice ra rs.length rc] 25
  have hC1 := hC0.keep bw1
  have b01 := bw0.trans (bw1.mono (Nat.le_of_lt hlt0))
  have c0 := hC1.g0
  have c1 := hC1.g1
  have hlx := hx.len
  have hlg := hg.len
  have hlr := hr.len
  have hld := hd.len
  have hww := Lib.hid hw
  obtain ⟨hfg, hfitg⟩ := hg.fl hwg
  have hfg1 := Lib.hid hfitg
  clear hw hwg hfitg
  have hKs : K ≤ 400000000 := by rw [Nat.add_mul] at hK; omega
  obtain ⟨v, hv⟩ : ∃ v, Hid ((feaB gs rs xs && endB gs rs ds) = v) := ⟨_, rfl⟩
  have z0 := hA1.g0
  have z1 := hA1.g1
  rw [hv.out]
  go_enter Try.func110, Try.ntmps110
  go_wp2_with fail
  refine (feasible_any (hg.below b01) (hr.below b01) (hx.below b01) hK).mono ?_
  rintro e w2 ⟨rfl, b2⟩
  have hA2 := hA1.keep b2
  have hC2 := hC1.keep b2
  have b02 := b01.trans (b2.mono b01.size)
  clear z0 z1 c0 c1
  have t0 := hA2.g0
  have t1 := hA2.g1
  have c0 := hC2.g0
  have c1 := hC2.g1
  rcases hfe : feaB gs rs xs with _ | _
  · have hf : Hid (v = false) := by show v = false; rw [← hv.out, hfe]; rfl
    go_wp2
    go_ret
    exact ⟨by rw [hf.out]; rfl, b02⟩
  have hv2 : Hid (endB gs rs ds = v) := by show _ = v; rw [← hv.out, hfe]; rfl
  clear hv hfe
  go_wp2_with fail
  refine (nonneg_any (n := gs.length) (hd.below b02) hKs (by omega)).mono ?_
  rintro e w3 ⟨rfl, b3⟩
  have hA3 := hA2.keep b3
  have b03 := b02.trans (b3.mono b02.size)
  clear t0 t1
  have t0 := hA3.g0
  have t1 := hA3.g1
  clear c0 c1
  have hC3 := hC2.keep b3
  have c0 := hC3.g0
  have c1 := hC3.g1
  rcases hps : posB ds gs.length with _ | _
  · have hf : Hid (v = false) := by show v = false; rw [← hv2.out]; unfold endB; rw [hps]; rfl
    go_wp2
    go_ret
    exact ⟨by rw [hf.out]; rfl, b03⟩
  have hvr : Hid ((rs.all (rayOk ds) && decide (0 < cmpR (sumR (prods gs ds)) 0)) = v) := by show _ = v; rw [← hv2.out]; unfold endB; rw [hps]; rfl
  have hwd : whB ds = true := by unfold posB at hps; simp only [Bool.and_eq_true] at hps; exact hps.2.1
  obtain ⟨hfd, hfitd⟩ := hd.fl hwd
  have hfd1 := Lib.hid hfitd
  clear hps hwd hfitd
  go_wp2
  go_loopw [6, 24] (fun b i wr => AllInv (rayOk ds) rs w3 i wr) (fun _ i _ => rs.length - (intOf i).toNat)
  case atStart => exact ⟨0, by omega, rfl, rfl, Below.refl _ _⟩
  case round =>
    obtain ⟨k, hk, rfl, hall, hbel2⟩ := hrel
    have hXk := hA3.keep hbel2
    have hbel := b03.trans (hbel2.mono b03.size)
    have x0 := hXk.g0
    have x1 := hXk.g1
    clear t0 t1
    clear c0 c1
    have hCk := hC3.keep hbel2
    have c0 := hCk.g0
    have c1 := hCk.g1
    by_cases hkl : k < rs.length
    · obtain ⟨a, r, rfl, hab, hc0, hc1, hc2, hc3, hfr, hrk⟩ := (hr.below hbel).at hkl
      obtain ⟨hlen, hfl, hfit, hfv, hfb⟩ := rowsB_at hww.out (List.mem_of_getElem? hrk.out) hfr
      have hfit' := Lib.hid hfit
      have hll := hfl.len
      have hki : (k : Int) < (rs.length : Int) := by omega
      have hKd := Lib.hid (show 1 + (r.ds.length + 1) * (K + K + 1) < 400000000 by rw [hlen]; omega)
      clear hlen hfit hfb hfv
      obtain ⟨w4, hw4, bw4, hlt4, hY⟩ := boxed wr #[.slice r.a r.ds.length r.c, .bool r.b.neg, .slice r.b.a r.b.la.length r.b.ca, .slice r.b.b r.b.lb.length r.b.cb] 51
      have v0 := hY.h0
      have b4 := hbel.trans (bw4.mono hbel.size)
      have b41 := hbel2.trans (bw4.mono hbel2.size)
      have hfl4 := hfl.below bw4
      have hC4 := hCk.keep bw4
      clear c0 c1
      have c0 := hC4.g0
      have c1 := hC4.g1
      clear hfl
      go_wp2_with fail
      refine (dotF_any hfl4 (hfd.below b4) hfit'.out hfd1.out hKd.out).mono ?_
      rintro e w5 ⟨v5, rfl, hf5, b5⟩
      have b55 := b4.trans (b5.mono b4.size)
      have b551 := b41.trans (b5.mono b41.size)
      go_wp2_with fail
      refine (sign_any hf5).mono ?_
      rintro e w6 ⟨rfl, b6⟩
      have b06 := b55.trans (b6.mono b55.size)
      have b061 := b551.trans (b6.mono b551.size)
      rcases hs : decide (0 < cmpR (sumR (prods r.ds ds)) 0) with _ | _
      · have hf := Lib.hid (show (rs.take (k + 1)).all (rayOk ds) = true by rw [all_take hall.out hrk.out]; unfold rayOk; rw [hs]; rfl)
        go_wp2
        go_roundw
        case rel => exact ⟨k + 1, by omega, by go_num, hf, b061⟩
        case measure => simp [intOf]; omega
      · have hf : Hid (v = false) := by
          show v = false
          rw [← hvr.out, all_no hrk.out (by unfold rayOk; rw [hs]; rfl)]; rfl
        go_wp2
        go_ret
        exact ⟨by rw [hf.out]; rfl, b06⟩
    · obtain rfl : k = rs.length := by omega
      have hlt' : decide ((rs.length : Int) < (rs.length : Int)) = false := decide_eq_false (by omega)
      have hf : Hid (v = decide (0 < cmpR (sumR (prods gs ds)) 0)) := by show v = _; rw [← hvr.out]; have := hall.out; rw [List.take_length] at this; rw [this]; rfl
      go_wp2_with fail
      refine (dotF_any (hfg.below hbel) (hfd.below hbel) hfg1.out hfd1.out hK).mono ?_
      rintro e w5 ⟨v5, rfl, f5, b5⟩
      have b55 := hbel.trans (b5.mono hbel.size)
      go_wp2_with fail
      refine (sign_any f5).mono ?_
      rintro e w6 ⟨rfl, b6⟩
      have b06 := b55.trans (b6.mono b55.size)
      go_wp2
      go_ret
      exact ⟨by rw [hf.out]; rfl, b06⟩
end Go.Proofs.Ytlocaleiloiaoaa
