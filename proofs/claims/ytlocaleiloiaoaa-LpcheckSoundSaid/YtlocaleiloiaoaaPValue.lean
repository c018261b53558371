/- lpcheck.Feasible: what the call does. -/
import Derived.Test.YtlocaleiloiaoaaPNonneg
import Derived.Test.YtlocaleiloiaoaaFDot
import Derived.Test.YtlocaleiloiaoaaFCmp
import Derived.Deep.RegionWith
import Derived.Test.YtlocaleiloiaoaaGDot
import Derived.Test.YtlocaleiloiaoaaGValid
namespace Go.Proofs.Ytlocaleiloiaoaa
set_option linter.unusedVariables false
set_option linter.unusedSimpArgs false
open Go.RowKit Plain
attribute [local go_sem ↓] Go.wp_at_zero Go.wp_at_succ

def rowOk (xs : List FrD) (r : RowD) : Bool := !decide (0 < cmpR (sumR (prods r.ds xs)) r.b.q)
def feaB (gs : List FrD) (rs : List RowD) (xs : List FrD) : Bool := (rowsB gs.length rs && whB gs) && (posB xs gs.length && rs.all (rowOk xs))
theorem prods_sum_fits {ds es : List FrD} {K m : Nat} (h1 : ∀ d ∈ ds, Fits K d.q) (h2 : ∀ d ∈ es, Fits K d.q) (hm : ds.length ≤ m) : Fits (1 + (m + 1) * (K + K + 1)) (sumR (prods ds es)) :=
  (fits_sum (prods_fits h1 h2)).mono (by
    have h3 : (prods ds es).length ≤ m + 1 := by rw [prods_len]; omega
    have := Nat.mul_le_mul_right (K + K + 1) h3
    omega)

set_option maxRecDepth 100000 in
set_option maxHeartbeats 4000000 in
theorem feasible_any {K : Nat} {ga ra E : Option Addr} {gc rc ce : Nat} {gs xs : List FrD} {rs : List RowD} {w : World} (hg : LD w K ga gc gs) (hr : RL w K ra rc rs) (hx : LD w K E ce xs) (hK : 1 + (gs.length + 1) * (K + K + 1) < 400000000) :
    Calls Try.prog 19 #[.agg #[.slice ga gs.length gc, .slice ra rs.length rc], .slice E xs.length ce] w (RetB (feaB gs rs xs) w) := by
  obtain ⟨w0, hw0, bw0, hlt0, hB0⟩ := boxed w #[.slice ga gs.length gc, .slice ra rs.length rc] 25
  have hlg := hg.len
  have hlr := hr.len
  have hlx := hx.len
  have hKs : K ≤ 400000000 := by rw [Nat.add_mul] at hK; omega
  obtain ⟨v, hv⟩ : ∃ v, Hid (feaB gs rs xs = v) := ⟨_, rfl⟩
  have z0 := hB0.g0
  have z1 := hB0.g1
  rw [hv.out]
  go_enter Try.func19, Try.ntmps19
  go_wp2_with fail
  refine (formed_any (hg.below bw0) (hr.below bw0) hKs).mono ?_
  rintro e w1 ⟨rfl, b1⟩
  have hB1 := hB0.keep b1
  have b01 := bw0.trans (b1.mono (Nat.le_of_lt hlt0))
  have t0 := hB1.g0
  have t1 := hB1.g1
  clear z0 z1
  rcases hfm : (rowsB gs.length rs && whB gs) with _ | _
  · have hf : Hid (v = false) := by show v = false; rw [← hv.out]; unfold feaB; rw [hfm]; rfl
    go_wp2
    go_ret
    exact ⟨by rw [hf.out]; rfl, b01⟩
  go_wp2_with fail
  refine (nonneg_any (n := gs.length) (hx.below b01) hKs (by omega)).mono ?_
  rintro e w2 ⟨rfl, b2⟩
  have hB2 := hB1.keep b2
  have b02 := b01.trans (b2.mono b01.size)
  have u0 := hB2.g0
  have u1 := hB2.g1
  clear t0 t1
  rcases hps : posB xs gs.length with _ | _
  · have hf : Hid (v = false) := by show v = false; rw [← hv.out]; unfold feaB; rw [hfm, hps]; rfl
    go_wp2
    go_ret
    exact ⟨by rw [hf.out]; rfl, b02⟩
  have hvr : Hid (rs.all (rowOk xs) = v) := by show _ = v; rw [← hv.out]; unfold feaB; rw [hfm, hps]; rfl
  have hrw := Lib.hid (show rowsB gs.length rs = true by rw [Bool.and_eq_true] at hfm; exact hfm.1)
  have hwx : whB xs = true := by unfold posB at hps; simp only [Bool.and_eq_true] at hps; exact hps.2.1
  obtain ⟨hfx, hfitx⟩ := hx.fl hwx
  have hfx1 := Lib.hid hfitx
  clear hfm hps hwx hfitx
  go_wp2
  go_loopw [6, 21] (fun b i wr => AllInv (rowOk xs) rs w2 i wr) (fun _ i _ => rs.length - (intOf i).toNat)
  case atStart => exact ⟨0, by omega, rfl, rfl, Below.refl _ _⟩
  case round =>
    obtain ⟨k, hk, rfl, hall, hbel2⟩ := hrel
    have hbel := b02.trans (hbel2.mono b02.size)
    clear u0 u1
    by_cases hkl : k < rs.length
    · obtain ⟨a, r, rfl, hab, hc0, hc1, hc2, hc3, hfr, hrk⟩ := (hr.below hbel).at hkl
      obtain ⟨hlen, hfl, hfit, hfv, hfb⟩ := rowsB_at hrw.out (List.mem_of_getElem? hrk.out) hfr
      have hlen' := Lib.hid hlen
      have hfit' := Lib.hid hfit
      have hfb' := Lib.hid hfb
      have hll := hfl.len
      obtain ⟨w4, hw4, bw4, hlt4, hY⟩ := boxed wr #[.slice r.a r.ds.length r.c, .bool r.b.neg, .slice r.b.a r.b.la.length r.b.ca, .slice r.b.b r.b.lb.length r.b.cb] 51
      have v0 := hY.h0
      have v1 := hY.h1
      have v2 := hY.h2
      have v3 := hY.h3
      have bD : Below w.heap.size w w4.drew := (hbel.trans (bw4.mono hbel.size)).drew
      have bD2 : Below w2.heap.size w2 w4.drew := (hbel2.trans (bw4.mono hbel2.size)).drew
      have hflD : FL w4.drew r.a r.c r.ds := (hfl.below bw4).below (Below.refl _ _).drew
      have hfxD : FL w4.drew E ce xs := hfx.below bD
      have hfvD : FV w4.drew r.b.v r.b.q := (hfv.below bw4).below (Below.refl _ _).drew
      have hYD : Blk w4.drew wr.heap.size 51 #[.slice r.a r.ds.length r.c, .bool r.b.neg, .slice r.b.a r.b.la.length r.b.ca, .slice r.b.b r.b.lb.length r.b.cb] := hY
      have hKd := Lib.hid (show 1 + (r.ds.length + 1) * (K + K + 1) < 400000000 by rw [hlen]; exact hK)
      have hsf := Lib.hid (prods_sum_fits (m := gs.length) hfit hfx1.out (by omega))
      clear hlen hfit hfb hfv hfl
      go_wp2_with fail
      go_region_with (first
        | (go_at_call 46; refine (dotF_any hflD hfxD hfit'.out hfx1.out hKd.out).mono ?_; rintro e w5 ⟨v5, rfl, hf5, b5⟩; have hY5 := hYD.keep b5; have b05 := bD.trans (b5.mono bD.size); have b051 := bD2.trans (b5.mono bD2.size); have s0 := hY5.h0; have s1 := hY5.h1; have s2 := hY5.h2; have s3 := hY5.h3; have fv5 := hfvD.below b5)
        | (go_at_call 45; refine (cmpF_any hf5 fv5 hsf.out hfb'.out (by omega) hKs).mono ?_; rintro e w6 ⟨rfl, b6⟩; have b06 := b05.trans (b6.mono b05.size); have b061 := b051.trans (b6.mono b051.size)))
      all_goals
        rcases hs : decide (0 < cmpR (sumR (prods r.ds xs)) r.b.q) with _ | _
        · have hf := Lib.hid (show (rs.take (k + 1)).all (rowOk xs) = true by rw [all_take hall.out hrk.out]; unfold rowOk; rw [hs]; rfl)
          go_wp2
          go_roundw
          case rel => exact ⟨k + 1, by omega, by go_num, hf, b061⟩
          case measure => simp [intOf]; omega
        · have hf : Hid (v = false) := by
            show v = false
            rw [← hvr.out]; exact all_no hrk.out (by unfold rowOk; rw [hs]; rfl)
          go_wp2
          go_ret
          exact ⟨by rw [hf.out]; rfl, b06⟩
    · obtain rfl : k = rs.length := by omega
      have hlt' : decide ((rs.length : Int) < (rs.length : Int)) = false := decide_eq_false (by omega)
      have hf : Hid (v = true) := by show v = true; rw [← hvr.out]; have := hall.out; rw [List.take_length] at this; exact this
      go_wp2
      go_ret
      exact ⟨by rw [hf.out]; rfl, hbel⟩
end Go.Proofs.Ytlocaleiloiaoaa
/- lpcheck.Value, R19 Value, SameFrac: what the calls do. -/
namespace Go.Proofs.Ytlocaleiloiaoaa
set_option linter.unusedVariables false
set_option linter.unusedSimpArgs false
open Go.RowKit Plain
attribute [local go_sem ↓] Go.wp_at_zero Go.wp_at_succ

set_option maxRecDepth 100000 in
set_option maxHeartbeats 2000000 in
theorem value_any {K : Nat} {ga ra E : Option Addr} {gc rn rc ce : Nat} {gs xs : List FrD} {w : World} (hg : FL w ga gc gs) (hx : FL w E ce xs) (hfg : ∀ d ∈ gs, Fits K d.q) (hfx : ∀ d ∈ xs, Fits K d.q) (hK : 1 + (gs.length + 1) * (K + K + 1) < 400000000) :
    Calls Try.prog 27 #[.agg #[.slice ga gs.length gc, .slice ra rn rc], .slice E xs.length ce] w (RetQ (sumR (prods gs xs)) w) := by
  obtain ⟨w0, hw0, bw0, hlt0, hB0⟩ := boxed w #[.slice ga gs.length gc, .slice ra rn rc] 25
  obtain ⟨w1, hw1, bw1, hlt1, hB1⟩ := boxed w0 #[.bool false, .slice none 0 0, .slice none 0 0] 29
  have z0 := (hB0.keep bw1).g0
  have z1 := (hB0.keep bw1).g1
  have b01 := bw0.trans (bw1.mono (Nat.le_of_lt hlt0))
  have hlg := hg.len
  have hlx := hx.len
  have hfg' := Lib.hid hfg
  have hfx' := Lib.hid hfx
  clear hfg hfx
  go_enter Try.func27, Try.ntmps27
  go_wp2_with fail
  refine (dotF_any (hg.below b01) (hx.below b01) hfg'.out hfx'.out hK).mono ?_
  rintro e w5 ⟨v5, rfl, ⟨n5, A5, c5, l5, B5, d5, m5, rfl, na5, nb5, iq5⟩, b5⟩
  have iq5' := Lib.hid iq5
  clear iq5
  have hR5 := hB1.keep b5
  have b05 := bw1.trans (b5.mono (Nat.le_of_lt hlt1))
  have p0 := hR5.f0
  have p1 := hR5.f1
  have p2 := hR5.f2
  have q0 := hR5.free 0
  have q1 := hR5.free 1
  have q2 := hR5.free 2
  go_wp2
  obtain ⟨w9, hw9, hB9, o9⟩ := hR5.set3 (.bool n5) (.slice A5 l5.length c5) (.slice B5 m5.length d5)
  rw [hw9]
  have e0 := hB9.f0
  have e1 := hB9.f1
  have e2 := hB9.f2
  refine bodyPost_ret (v := fracV n5 A5 l5.length c5 B5 m5.length d5) (by simp [results, Try.results27, go_sem, e0, e1, e2]) rfl ?_
  exact ⟨_, rfl, ⟨n5, A5, c5, l5, B5, d5, m5, rfl, na5.only_blk hR5 (noDig3 _ _ _ _ _ _ _) o9, nb5.only_blk hR5 (noDig3 _ _ _ _ _ _ _) o9, iq5'.out⟩, bw0.trans ((o9.to_below b05 (Nat.le_refl _) b05.size).mono (Nat.le_of_lt hlt0))⟩

set_option maxRecDepth 100000 in
set_option maxHeartbeats 2000000 in
theorem refValue_any {K : Nat} {ga ra E : Option Addr} {gc rn rc ce : Nat} {gs xs : List FrD} {w : World} (hg : FL w ga gc gs) (hx : FL w E ce xs) (hfg : ∀ d ∈ gs, Fits K d.q) (hfx : ∀ d ∈ xs, Fits K d.q) (hK : 1 + (gs.length + 1) * (K + K + 1) < 400000000) :
    Calls Try.prog 14 #[.agg #[.slice ga gs.length gc, .slice ra rn rc], .slice E xs.length ce] w (RetQ (sumR (prods gs xs)) w) := by
  obtain ⟨w0, hw0, bw0, hlt0, hB0⟩ := boxed w #[.slice ga gs.length gc, .slice ra rn rc] 25
  obtain ⟨w1, hw1, bw1, hlt1, hB1⟩ := boxed w0 #[.bool false, .slice none 0 0, .slice none 0 0] 29
  have z0 := (hB0.keep bw1).g0
  have z1 := (hB0.keep bw1).g1
  have b01 := bw0.trans (bw1.mono (Nat.le_of_lt hlt0))
  have hlg := hg.len
  have hlx := hx.len
  have hfg' := Lib.hid hfg
  have hfx' := Lib.hid hfx
  clear hfg hfx
  go_enter Try.func14, Try.ntmps14
  go_wp2_with fail
  refine (refDotF_any (hg.below b01) (hx.below b01) hfg'.out hfx'.out hK).mono ?_
  rintro e w5 ⟨v5, rfl, ⟨n5, A5, c5, l5, B5, d5, m5, rfl, na5, nb5, iq5⟩, b5⟩
  have iq5' := Lib.hid iq5
  clear iq5
  have hR5 := hB1.keep b5
  have b05 := bw1.trans (b5.mono (Nat.le_of_lt hlt1))
  have p0 := hR5.f0
  have p1 := hR5.f1
  have p2 := hR5.f2
  have q0 := hR5.free 0
  have q1 := hR5.free 1
  have q2 := hR5.free 2
  go_wp2
  obtain ⟨w9, hw9, hB9, o9⟩ := hR5.set3 (.bool n5) (.slice A5 l5.length c5) (.slice B5 m5.length d5)
  rw [hw9]
  have e0 := hB9.f0
  have e1 := hB9.f1
  have e2 := hB9.f2
  refine bodyPost_ret (v := fracV n5 A5 l5.length c5 B5 m5.length d5) (by simp [results, Try.results14, go_sem, e0, e1, e2]) rfl ?_
  exact ⟨_, rfl, ⟨n5, A5, c5, l5, B5, d5, m5, rfl, na5.only_blk hR5 (noDig3 _ _ _ _ _ _ _) o9, nb5.only_blk hR5 (noDig3 _ _ _ _ _ _ _) o9, iq5'.out⟩, bw0.trans ((o9.to_below b05 (Nat.le_refl _) b05.size).mono (Nat.le_of_lt hlt0))⟩

set_option maxRecDepth 100000 in
set_option maxHeartbeats 2000000 in
theorem sameFrac_any {n1 n2 : Bool} {A B C D : Option Addr} {ca cb cc cd : Nat} {a1 b1 a2 b2 : List Nat} {w : World} (ha : Nv w A ca a1) (hb : Nv w B cb b1) (hc : Nv w C cc a2) (hd : Nv w D cd b2) :
    Calls Try.prog 22 #[fracV n1 A a1.length ca B b1.length cb, fracV n2 C a2.length cc D b2.length cd] w (RetB (sameF n1 a1 b1 n2 a2 b2) w) := by
  obtain ⟨w0, hw0, bw0, hlt0, hB0⟩ := boxed w #[.bool n1, .slice A a1.length ca, .slice B b1.length cb] 29
  obtain ⟨w1, hw1, bw1, hlt1, hB1⟩ := boxed w0 #[.bool n2, .slice C a2.length cc, .slice D b2.length cd] 29
  have hA := hB0.keep bw1
  have b01 := bw0.trans (bw1.mono (Nat.le_of_lt hlt0))
  have x0 := hA.f0
  have x1 := hA.f1
  have x2 := hA.f2
  have y0 := hB1.f0
  have y1 := hB1.f1
  have y2 := hB1.f2
  go_enter Try.func22, Try.ntmps22
  go_wp2_with fail
  refine (sameF_any (ha.below b01) (hb.below b01) (hc.below b01) (hd.below b01)).mono ?_
  rintro e w2 ⟨rfl, b2⟩
  go_wp2
  go_ret
  exact ⟨rfl, b01.trans (b2.mono b01.size)⟩
theorem sameFracQ_any {v u : Value} {p q : Rat} {w : World} (hv : FV w v p) (hu : FV w u q) : Calls Try.prog 22 #[v, u] w (RetB (decide (p = q)) w) := by
  obtain ⟨n1, A, ca, la, B, cb, lb, rfl, na, nb, iq⟩ := hv
  obtain ⟨n2, C, cc, lc, D, cd, ld, rfl, nc, nd, ir⟩ := hu
  rw [← same_q iq ir]
  exact sameFrac_any na nb nc nd
end Go.Proofs.Ytlocaleiloiaoaa
