/- R19 Empty: what the call does. -/
import Derived.Test.YtlocaleiloiaoaaPUnb
import Derived.Test.YtlocaleiloiaoaaPRColumn
import Derived.Test.YtlocaleiloiaoaaPRWhole
import Derived.Test.YtlocaleiloiaoaaGSub
import Derived.Deep.RegionWith
import Derived.Test.YtlocaleiloiaoaaPValue
namespace Go.Proofs.Ytlocaleiloiaoaa
set_option linter.unusedVariables false
set_option linter.unusedSimpArgs false
open Go.RowKit Plain
attribute [local go_sem ↓] Go.wp_at_zero Go.wp_at_succ

set_option maxRecDepth 100000 in
set_option maxHeartbeats 4000000 in
theorem refEmpty_any {K : Nat} {ga ra E : Option Addr} {gc rc ce : Nat} {gs ys : List FrD} {rs : List RowD} {w : World} (hg : LD w K ga gc gs) (hr : RL w K ra rc rs) (hw : rowsB gs.length rs = true) (hy : LD w K E ce ys) (hK : 1 + (rs.length + 1) * (K + K + 1) + K < 400000000) :
    Calls Try.prog 42 #[.agg #[.slice ga gs.length gc, .slice ra rs.length rc], .slice E ys.length ce] w (RetB (emptyB gs rs ys) w) := by
  obtain ⟨w1, hw1, b01, hlt1, hA1⟩ := boxed w #[.slice ga gs.length gc, .slice ra rs.length rc] 25
  have hlg := hg.len
  have hlr := hr.len
  have hly := hy.len
  have hww := Lib.hid hw
  clear hw
  have hKs : K ≤ 400000000 := by rw [Nat.add_mul] at hK; omega
  obtain ⟨v, hv⟩ : ∃ v, Hid (emptyB gs rs ys = v) := ⟨_, rfl⟩
  have z0 := hA1.g0
  have z1 := hA1.g1
  rw [hv.out]
  go_enter Try.func42, Try.ntmps42
  go_wp2_with fail
  refine (positive_any (n := rs.length) (hy.below b01) hKs (by omega)).mono ?_
  rintro e w2 ⟨rfl, b2⟩
  have hA2 := hA1.keep b2
  have b02 := b01.trans (b2.mono b01.size)
  clear z0 z1
  have t0 := hA2.g0
  have t1 := hA2.g1
  rcases hps : posB ys rs.length with _ | _
  · have hf : Hid (v = false) := by show v = false; rw [← hv.out]; unfold emptyB; rw [hps]; rfl
    go_wp2
    go_ret
    exact ⟨by rw [hf.out]; rfl, b02⟩
  have hvr : Hid ((allN gs.length (colNN rs ys) && decide (cmpR (sumR (bnds rs ys)) 0 < 0)) = v) := by show _ = v; rw [← hv.out]; unfold emptyB; rw [hps]; rfl
  have hwy : whB ys = true := by unfold posB at hps; simp only [Bool.and_eq_true] at hps; exact hps.2.1
  have hleny : Hid (ys.length = rs.length) := by unfold posB at hps; simp only [Bool.and_eq_true, decide_eq_true_eq] at hps; exact hps.1
  obtain ⟨hfy, hfity⟩ := hy.fl hwy
  have hfy1 := Lib.hid hfity
  clear hps hwy hfity
  have hK2 := Lib.hid (show 1 + (ys.length + 1) * (K + K + 1) < 400000000 by rw [hleny.out]; omega)
  go_wp2_with fail
  refine (refBounds_any (hg.below b02) (hr.below b02) hww.out (hfy.below b02) hfy1.out hK2.out).mono ?_
  rintro e w3 ⟨v3, rfl, f3, b3⟩
  have b03 := b02.trans (b3.mono b02.size)
  go_wp2_with fail
  refine (refSign_any f3).mono ?_
  rintro e w4 ⟨rfl, b4⟩
  have b04 := b03.trans (b4.mono b03.size)
  have hA4 := (hA2.keep b3).keep b4
  clear t0 t1
  have t0 := hA4.g0
  have t1 := hA4.g1
  rcases hs : decide (cmpR (sumR (bnds rs ys)) 0 < 0) with _ | _
  · have hs' := ge_not hs
    have hf : Hid (v = false) := by show v = false; rw [← hvr.out, hs]; simp
    go_wp2
    go_ret
    exact ⟨by rw [hf.out]; rfl, b04⟩
  have hs' := ge_not' hs
  have hvq : Hid (allN gs.length (colNN rs ys) = v) := by show _ = v; rw [← hvr.out, hs]; simp
  clear hs
  go_wp2
  clear hs'

  go_loopw [5] (fun i wr => RngInv (colNN rs ys) gs.length w4 i wr) (fun i _ => gs.length - (intOf i).toNat)
  case atStart => exact ⟨0, by omega, rfl, fun j hj => by omega, Below.refl _ _⟩
  case round =>
    obtain ⟨k, hk, rfl, hall, hbel3⟩ := hrel
    have hXk := hA4.keep hbel3
    have hbel := b04.trans (hbel3.mono b04.size)
    clear t0 t1
    have x0 := hXk.g0
    have x1 := hXk.g1
    by_cases hkl : k < gs.length
    · have hki : (k : Int) < (gs.length : Int) := by omega
      go_wp2_with fail
      refine (refColumn_any (hg.below hbel) (hr.below hbel) hww.out (hfy.below hbel) hfy1.out hK2.out hkl (by omega)).mono ?_
      rintro e w5 ⟨v5, rfl, hf5, b5⟩
      have b05 := hbel.trans (b5.mono hbel.size)
      have b051 := hbel3.trans (b5.mono hbel3.size)
      go_wp2_with fail
      refine (refSign_any hf5).mono ?_
      rintro e w6 ⟨rfl, b6⟩
      have b06 := b05.trans (b6.mono b05.size)
      have b061 := b051.trans (b6.mono b051.size)
      rcases hs : decide (cmpR (sumR (cols rs ys k)) 0 < 0) with _ | _
      · have hf := Lib.hid (show ∀ j, j < k + 1 → colNN rs ys j = true from rng_snoc hall.out (by unfold colNN; rw [hs]; rfl))
        go_wp2
        go_roundw
        case rel => exact ⟨k + 1, by omega, by go_num, hf, b061⟩
        case measure => simp [intOf]; omega
      · have hf : Hid (v = false) := by
          show v = false
          rw [← hvq.out, allN_no hkl (by unfold colNN; rw [hs]; rfl)]
        go_wp2
        go_ret
        exact ⟨by rw [hf.out]; rfl, b06⟩
    · obtain rfl : k = gs.length := by omega
      have hlt' : decide ((gs.length : Int) < (gs.length : Int)) = false := decide_eq_false (by omega)
      have hf : Hid (v = true) := by show v = true; rw [← hvq.out]; exact allN_of hall.out
      go_wp2
      go_ret
      exact ⟨by rw [hf.out]; rfl, hbel⟩
end Go.Proofs.Ytlocaleiloiaoaa
/- R19 Endless: what the call does. -/
namespace Go.Proofs.Ytlocaleiloiaoaa
set_option linter.unusedVariables false
set_option linter.unusedSimpArgs false
open Go.RowKit Plain
attribute [local go_sem ↓] Go.wp_at_zero Go.wp_at_succ

set_option maxRecDepth 100000 in
set_option maxHeartbeats 4000000 in
theorem refEndless_any {K : Nat} {ga ra E : Option Addr} {gc rc ce : Nat} {gs ds : List FrD} {rs : List RowD} {w : World} (hg : LD w K ga gc gs) (hr : RL w K ra rc rs) (hwg : whB gs = true) (hw : rowsB gs.length rs = true) (hd : LD w K E ce ds) (hK : 1 + (gs.length + 1) * (K + K + 1) < 400000000) :
    Calls Try.prog 43 #[.agg #[.slice ga gs.length gc, .slice ra rs.length rc], .slice E ds.length ce] w (RetB (endB gs rs ds) w) := by
  obtain ⟨w1, hw1, b01, hlt1, hA1⟩ := boxed w #[.slice ga gs.length gc, .slice ra rs.length rc] 25
  have hlg := hg.len
  have hlr := hr.len
  have hld := hd.len
  have hww := Lib.hid hw
  obtain ⟨hfg, hfitg⟩ := hg.fl hwg
  have hfg1 := Lib.hid hfitg
  clear hw hwg hfitg
  have hKs : K ≤ 400000000 := by rw [Nat.add_mul] at hK; omega
  obtain ⟨v, hv⟩ : ∃ v, Hid (endB gs rs ds = v) := ⟨_, rfl⟩
  have z0 := hA1.g0
  have z1 := hA1.g1
  rw [hv.out]
  go_enter Try.func43, Try.ntmps43
  have hv2 := hv
  clear hv
  have t0 := z0
  have t1 := z1
  clear z0 z1
  go_wp2_with fail
  refine (positive_any (n := gs.length) (hd.below b01) hKs (by omega)).mono ?_
  rintro e w3 ⟨rfl, b3⟩
  have hA3 := hA1.keep b3
  have b03 := b01.trans (b3.mono b01.size)
  clear t0 t1
  have t0 := hA3.g0
  have t1 := hA3.g1
  rcases hps : posB ds gs.length with _ | _
  · have hf : Hid (v = false) := by show v = false; rw [← hv2.out]; unfold endB; rw [hps]; rfl
    go_wp2
    go_ret
    exact ⟨by rw [hf.out]; rfl, b03⟩
  have hvr : Hid ((rs.all (rayOk ds) && decide (0 < cmpR (sumR (prods gs ds)) 0)) = v) := by show _ = v; rw [← hv2.out]; unfold endB; rw [hps]; rfl
  have hwd : whB ds = true := by unfold posB at hps; simp only [Bool.and_eq_true] at hps; exact hps.2.1
  obtain ⟨hfd, hfitd⟩ := hd.fl hwd
  have hfd1 := Lib.hid hfitd
  clear hps hwd hfitd
  go_wp2_with fail
  refine (refValue_any (hfg.below b03) (hfd.below b03) hfg1.out hfd1.out hK).mono ?_
  rintro e w4 ⟨v4, rfl, f4, b4⟩
  have b04 := b03.trans (b4.mono b03.size)
  go_wp2_with fail
  refine (refSign_any f4).mono ?_
  rintro e w5 ⟨rfl, b5⟩
  have b05 := b04.trans (b5.mono b04.size)
  have hA5 := (hA3.keep b4).keep b5
  clear t0 t1
  have t0 := hA5.g0
  have t1 := hA5.g1
  rcases hs : decide (0 < cmpR (sumR (prods gs ds)) 0) with _ | _
  · have hs' := le_not hs
    have hf : Hid (v = false) := by show v = false; rw [← hvr.out, hs]; simp
    go_wp2
    go_ret
    exact ⟨by rw [hf.out]; rfl, b05⟩
  have hs' := le_not' hs
  have hvq : Hid (rs.all (rayOk ds) = v) := by show _ = v; rw [← hvr.out, hs]; simp
  clear hs
  go_wp2
  clear hs'
  go_loopw [5] (fun i wr => AllInv (rayOk ds) rs w5 i wr) (fun i _ => rs.length - (intOf i).toNat)
  case atStart => exact ⟨0, by omega, rfl, rfl, Below.refl _ _⟩
  case round =>
    obtain ⟨k, hk, rfl, hall, hbel2⟩ := hrel
    have hXk := hA5.keep hbel2
    have hbel := b05.trans (hbel2.mono b05.size)
    have x0 := hXk.g0
    have x1 := hXk.g1
    clear t0 t1
    by_cases hkl : k < rs.length
    · obtain ⟨a, r, rfl, hab, hc0, hc1, hc2, hc3, hfr, hrk⟩ := (hr.below hbel).at hkl
      obtain ⟨hlen, hfl, hfit, hfv, hfb⟩ := rowsB_at hww.out (List.mem_of_getElem? hrk.out) hfr
      have hfit' := Lib.hid hfit
      have hll := hfl.len
      have hki : (k : Int) < (rs.length : Int) := by omega
      have hKd := Lib.hid (show 1 + (r.ds.length + 1) * (K + K + 1) < 400000000 by rw [hlen]; omega)
      clear hlen hfit hfb hfv
      have b4 := hbel
      have b41 := hbel2
      have hfl4 := hfl
      clear hfl
      go_wp2_with fail
      refine (refDotF_any hfl4 (hfd.below b4) hfit'.out hfd1.out hKd.out).mono ?_
      rintro e w5 ⟨v5, rfl, hf5, b5⟩
      have b55 := b4.trans (b5.mono b4.size)
      have b551 := b41.trans (b5.mono b41.size)
      go_wp2_with fail
      refine (refSign_any hf5).mono ?_
      rintro e w6 ⟨rfl, b6⟩
      have b06 := b55.trans (b6.mono b55.size)
      have b061 := b551.trans (b6.mono b551.size)
      rcases hs : decide (0 < cmpR (sumR (prods r.ds ds)) 0) with _ | _
      · have hf := Lib.hid (show (rs.take (k + 1)).all (rayOk ds) = true by rw [all_take hall.out hrk.out]; unfold rayOk; rw [hs]; rfl)
        go_wp2
        go_roundw
        case rel => exact ⟨k + 1, by omega, by go_num, hf, b061⟩
        case measure => simp [intOf]; omega
      · have hf : Hid (v = false) := by
          show v = false
          rw [← hvq.out, all_no hrk.out (by unfold rayOk; rw [hs]; rfl)]
        go_wp2
        go_ret
        exact ⟨by rw [hf.out]; rfl, b06⟩
    · obtain rfl : k = rs.length := by omega
      have hlt' : decide ((rs.length : Int) < (rs.length : Int)) = false := decide_eq_false (by omega)
      have hf : Hid (v = true) := by show v = true; rw [← hvq.out]; have := hall.out; rw [List.take_length] at this; exact this
      go_wp2
      go_ret
      exact ⟨by rw [hf.out]; rfl, hbel⟩
end Go.Proofs.Ytlocaleiloiaoaa
