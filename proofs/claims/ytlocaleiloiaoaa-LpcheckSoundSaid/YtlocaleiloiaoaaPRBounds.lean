/- R19.Bounds: what the call does. -/
import Derived.Test.YtlocaleiloiaoaaPNonneg
import Derived.Test.YtlocaleiloiaoaaFSum
import Derived.Test.YtlocaleiloiaoaaGMul
import Derived.Test.YtlocaleiloiaoaaGSub
import Derived.Deep.RegionWith
namespace Go.Proofs.Ytlocaleiloiaoaa
set_option linter.unusedVariables false
set_option linter.unusedSimpArgs false
open Go.RowKit Plain
attribute [local go_sem ↓] Go.wp_at_zero Go.wp_at_succ

set_option maxRecDepth 100000 in
set_option maxHeartbeats 4000000 in
theorem refBounds_any {ga ra E : Option Addr} {gc rc ce K n : Nat} {gs ys : List FrD} {rs : List RowD} {w : World} (hg : LD w K ga gc gs) (hr : RL w K ra rc rs) (hw : rowsB n rs = true) (he : FL w E ce ys) (hfe : ∀ d ∈ ys, Fits K d.q) (hK : 1 + (ys.length + 1) * (K + K + 1) < 400000000) :
    Calls Try.prog 50 #[.agg #[.slice ga gs.length gc, .slice ra rs.length rc], .slice E ys.length ce] w (RetQ (sumR (bnds rs ys)) w) := by
  obtain ⟨w0, hw0, bw0, hlt0, hB0⟩ := boxed w #[.slice ga gs.length gc, .slice ra rs.length rc] 25
  obtain ⟨w1, hw1, bw1, hlt1, hB1⟩ := boxed w0 #[.bool false, .slice none 0 0, .slice none 0 0] 29
  have hlg := hg.len
  have hlr := hr.len
  have hle' := he.len
  have hqs := Lib.hid (bnds_fits hw hr.few hfe)
  have hfeh := Lib.hid hfe
  have hww := Lib.hid hw
  obtain ⟨ps, hps⟩ : ∃ ps, Hid (bnds rs ys = ps) := ⟨_, rfl⟩
  have hpl := Lib.hid (bnds_len rs ys)
  rw [hps.out] at hpl hqs
  clear hfe hw
  obtain ⟨r, hres⟩ : ∃ r, Hid (sumR ps = r) := ⟨_, rfl⟩
  rw [hps.out, hres.out]
  have z0 := hB0.g0
  have z1 := hB0.g1
  have z2 := (hB0.keep bw1).g0
  have z3 := (hB0.keep bw1).g1
  go_enter Try.func50, Try.ntmps50
  go_wp2_with fail
  refine (refFromInt_any 0 _ (by omega) (by omega)).mono ?_
  rintro e w2 ⟨v1, rfl, ⟨n1, A1, c1, l1, B1, d1, m1, rfl, na, nb, iq⟩, b1⟩
  have iq' := Lib.hid iq
  clear iq
  obtain ⟨w3, hw3, bw3, hlt3, hX⟩ := boxed w2 #[.bool n1, .slice A1 l1.length c1, .slice B1 m1.length d1] 29
  have hR := (hB1.keep b1).keep bw3
  have b01 := bw1.trans (b1.mono (Nat.le_of_lt hlt1))
  have b02 := b01.trans (bw3.mono b01.size)
  have na2 := na.below bw3
  have nb2 := nb.below bw3
  have z4 := (hB0.keep b02).g0
  have z5 := (hB0.keep b02).g1
  have hg1 : w0.heap.size < w2.heap.size := Nat.lt_of_lt_of_le hlt1 b1.size
  clear na nb b1 bw3 z0 z1 z2 z3
  obtain ⟨g, hgg⟩ : ∃ g, w2.heap.size = g := ⟨_, rfl⟩
  rw [hgg] at hX hg1
  go_wp2
  go_loopw [6] (fun i wr => SumInv ps g w0.heap.size w0.heap.size w0 i wr) (fun i _ => ys.length - (intOf i).toNat)
  case atStart => exact ⟨0, n1, A1, c1, l1, B1, d1, m1, by omega, rfl, hX, na2, nb2, iq', hR, b02⟩
  case round =>
    obtain ⟨k, n0, A2, ca, la, B2, cb, lb, hk, rfl, hXk, na, nb, iq, hRk, hbel0⟩ := hrel
    clear z4 z5 hX hR b02 na2 nb2
    have hPk := hB0.keep hbel0
    have hbel := bw0.trans (hbel0.mono (Nat.le_of_lt hlt0))
    have hrk := hr.below hbel
    have hek := he.below hbel
    have g0 := hPk.g0
    have g1 := hPk.g1
    have x0 := hXk.f0
    have x1 := hXk.f1
    have x2 := hXk.f2
    have b0k := hbel0
    rw [hpl.out] at hk
    by_cases hkl : k < rs.length ∧ k < ys.length
    · have hkd : k < rs.length := by omega
      have hke : k < ys.length := by omega
      clear hkl
      obtain ⟨a, rw_, rfl, hab, hc0, hc1, hc2, hc3, hfr, hrk'⟩ := hrk.at hkd
      obtain ⟨a', d', rfl, hab', hc0', hc1', hc2', hfe, hek'⟩ := hek.at hke
      obtain ⟨-, -, -, hfd, hfd0⟩ := rowsB_at hww.out (List.mem_of_getElem? hrk'.out) hfr
      have hfd1 := Lib.hid hfd0
      clear hfd0
      have hfit := Lib.hid (fits_sum (k := K + K) (l := ps.take k) (fun q hq => hqs.out q (List.mem_of_mem_take hq)))
      have hlt := Lib.hid (show (ps.take k).length ≤ ys.length by rw [List.length_take, hpl.out]; omega)
      have hbnd := Lib.hid (show (1 + (ps.take k).length * (K + K + 1)) + (K + K) < 400000000 by
        have h1 := Nat.mul_le_mul_right (K + K + 1) hlt.out
        rw [Nat.add_mul] at hK
        omega)
      have hfe1 := Lib.hid (hfeh.out d' (List.mem_of_getElem? hek'.out))
      have hpk := Lib.hid (show ps[k]? = some (d'.q * rw_.b.q) by rw [← hps.out]; exact bnds_get hrk'.out hek'.out)
      have hfq := Lib.hid (hqs.out _ (List.mem_of_getElem? hpk.out))
      have hsum := Lib.hid (sumR_takeL hpk.out)
      have fvS : FV wr (fracV n0 A2 la.length ca B2 lb.length cb) (sumR (ps.take k)) := ⟨n0, A2, ca, la, B2, cb, lb, rfl, na, nb, iq.out⟩
      have fvS' : FV wr.drew (fracV n0 A2 la.length ca B2 lb.length cb) (sumR (ps.take k)) := fvS.below (Below.refl _ _).drew
      have hfd' : FV wr.drew rw_.b.v rw_.b.q := hfd.below (Below.refl _ _).drew
      have hfe' : FV wr.drew d'.v d'.q := hfe.below (Below.refl _ _).drew
      have bD : Below w0.heap.size w0 wr.drew := hbel0.drew
      have hXD : Blk wr.drew g 29 #[.bool n0, .slice A2 la.length ca, .slice B2 lb.length cb] := hXk
      have hRD : Blk wr.drew w0.heap.size 29 #[.bool false, .slice none 0 0, .slice none 0 0] := hRk
      have hki : (k : Int) < (rs.length : Int) := by omega
      have hkie : (k : Int) < (ys.length : Int) := by omega
      have hkt : decide ((k : Int) < (rs.length : Int)) = true := decide_eq_true hki
      have hket : decide ((k : Int) < (ys.length : Int)) = true := decide_eq_true hkie
      have hKK : K + K ≤ 400000000 := by rw [Nat.add_mul] at hK; omega
      clear fvS hfd hfe
      go_wp2_with fail
      go_region_with (first
        | (go_at_call 16; refine (refMulF_any hfe' hfd' hfe1.out hfd1.out hKK).mono ?_; rintro e w4 ⟨v4, rfl, hfp, b4⟩; have fvS4 := fvS'.below b4; have hX4 := hXD.keep b4; have hR4 := hRD.keep b4; have bD4 := bD.trans (b4.mono bD.size); have s0 := hX4.f0; have s1 := hX4.f1; have s2 := hX4.f2)
        | (go_at_call 15; refine (refAddF_any fvS4 hfp hfit.out hfq.out hbnd.out).mono ?_; rintro e w5 ⟨v5, rfl, ⟨n5, A5, c5, l5, B5, d5, m5, rfl, na5, nb5, iq5⟩, b5⟩; rw [← hsum.out] at iq5; have iq5' := Lib.hid iq5; clear iq5; have hX5 := hX4.keep b5; have hR5 := hR4.keep b5; have hbel5 := bD4.trans (b5.mono bD4.size); have p0 := hX5.f0; have p1 := hX5.f1; have p2 := hX5.f2; have q0 := hX5.free 0; have q1 := hX5.free 1; have q2 := hX5.free 2))
      all_goals go_wp2
      all_goals
        obtain ⟨w9, hw9, hB9, o9⟩ := hX5.set3 (.bool n5) (.slice A5 l5.length c5) (.slice B5 m5.length d5)
        rw [hw9]
        go_roundw
        case rel =>
          exact ⟨k + 1, n5, A5, c5, l5, B5, d5, m5, by rw [hpl.out]; omega, by go_num, hB9, na5.only_blk hX5 (noDig3 _ _ _ _ _ _ _) o9, nb5.only_blk hX5 (noDig3 _ _ _ _ _ _ _) o9, iq5', hR5.only o9 (Nat.ne_of_lt hg1), o9.to_below hbel5 (Nat.le_of_lt hg1) hbel5.size⟩
        case measure => simp [intOf]; omega
    · have hkm : k = min rs.length ys.length := by omega
      have hSr := Lib.hid (show sumR (ps.take k) = r by rw [List.take_of_length_le (by rw [hpl.out]; omega)]; exact hres.out)
      have z0 := hRk.free 0
      have z1 := hRk.free 1
      have z2 := hRk.free 2
      have y0 := hRk.f0
      have y1 := hRk.f1
      have y2 := hRk.f2
      by_cases hkd : k < rs.length
      · have hkt : decide ((k : Int) < (rs.length : Int)) = true := decide_eq_true (by omega)
        have hket : decide ((k : Int) < (ys.length : Int)) = false := decide_eq_false (by omega)
        have hken : decide (k < ys.length) = false := decide_eq_false (by omega)
        clear hkm hkl
        go_wp2
        obtain ⟨w9, hw9, hB9, o9⟩ := hRk.set3 (.bool n0) (.slice A2 la.length ca) (.slice B2 lb.length cb)
        rw [hw9]
        have e0 := hB9.f0
        have e1 := hB9.f1
        have e2 := hB9.f2
        refine bodyPost_ret (v := fracV n0 A2 la.length ca B2 lb.length cb) (by simp [results, Try.results50, go_sem, e0, e1, e2]) rfl ?_
        have m1' := na.only_blk hRk (noDig3 _ _ _ _ _ _ _) o9
        have m2' := nb.only_blk hRk (noDig3 _ _ _ _ _ _ _) o9
        exact ⟨_, rfl, ⟨n0, A2, ca, la, B2, cb, lb, rfl, m1', m2', by rw [← hSr.out]; exact iq.out⟩, bw0.trans ((o9.to_below b0k (Nat.le_refl _) b0k.size).mono (Nat.le_of_lt hlt0))⟩
      · have hkt : decide ((k : Int) < (rs.length : Int)) = false := decide_eq_false (by omega)
        have hktn : decide (k < rs.length) = false := decide_eq_false (by omega)
        clear hkm hkl
        go_wp2
        obtain ⟨w9, hw9, hB9, o9⟩ := hRk.set3 (.bool n0) (.slice A2 la.length ca) (.slice B2 lb.length cb)
        rw [hw9]
        have e0 := hB9.f0
        have e1 := hB9.f1
        have e2 := hB9.f2
        refine bodyPost_ret (v := fracV n0 A2 la.length ca B2 lb.length cb) (by simp [results, Try.results50, go_sem, e0, e1, e2]) rfl ?_
        have m1' := na.only_blk hRk (noDig3 _ _ _ _ _ _ _) o9
        have m2' := nb.only_blk hRk (noDig3 _ _ _ _ _ _ _) o9
        exact ⟨_, rfl, ⟨n0, A2, ca, la, B2, cb, lb, rfl, m1', m2', by rw [← hSr.out]; exact iq.out⟩, bw0.trans ((o9.to_below b0k (Nat.le_refl _) b0k.size).mono (Nat.le_of_lt hlt0))⟩
end Go.Proofs.Ytlocaleiloiaoaa
