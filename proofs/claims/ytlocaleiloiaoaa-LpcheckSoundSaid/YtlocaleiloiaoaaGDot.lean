/- R02 Dot: what the call does. -/
import Derived.Test.YtlocaleiloiaoaaLD
import Derived.Test.YtlocaleiloiaoaaFSum
import Derived.Test.YtlocaleiloiaoaaGSub
import Derived.Test.YtlocaleiloiaoaaGMul
import Derived.Deep.RegionWith
namespace Go.Proofs.Ytlocaleiloiaoaa
set_option linter.unusedVariables false
set_option linter.unusedSimpArgs false
open Go.RowKit Plain
attribute [local go_sem ↓] Go.wp_at_zero Go.wp_at_succ

/-- The products of the elements with the same index. -/
def prods (ds es : List FrD) : List Rat := List.zipWith (fun d e => d.q * e.q) ds es
theorem prods_len (ds es : List FrD) : (prods ds es).length = min ds.length es.length := by simp [prods]
theorem prods_get {ds es : List FrD} {k : Nat} {d e : FrD} (h1 : ds[k]? = some d) (h2 : es[k]? = some e) : (prods ds es)[k]? = some (d.q * e.q) := by
  unfold prods; rw [List.getElem?_zipWith, h1, h2]
theorem sumR_takeL {l : List Rat} {k : Nat} {q : Rat} (h : l[k]? = some q) : sumR (l.take (k + 1)) = sumR (l.take k) + q := by
  have e : l.take (k + 1) = l.take k ++ [q] := by rw [List.take_add_one, h]; rfl
  rw [e, sumR_snoc]
theorem prods_fits {ds es : List FrD} {K : Nat} (h1 : ∀ d ∈ ds, Fits K d.q) (h2 : ∀ d ∈ es, Fits K d.q) : ∀ q ∈ prods ds es, Fits (K + K) q := fun q hq => by
  unfold prods at hq
  rw [List.mem_iff_getElem] at hq
  obtain ⟨i, hi, rfl⟩ := hq
  rw [List.getElem_zipWith]
  exact (h1 _ (List.getElem_mem _)).mul (h2 _ (List.getElem_mem _))

set_option maxRecDepth 100000 in
set_option maxHeartbeats 2000000 in
theorem refDotF_any {A E : Option Addr} {c ce K : Nat} {ds es : List FrD} {w : World} (h : FL w A c ds) (he : FL w E ce es) (hf : ∀ d ∈ ds, Fits K d.q) (hfe : ∀ d ∈ es, Fits K d.q) (hK : 1 + (ds.length + 1) * (K + K + 1) < 400000000) :
    Calls Try.prog 34 #[.slice A ds.length c, .slice E es.length ce] w (RetQ (sumR (prods ds es)) w) := by
  obtain ⟨w0, hw0, bw0, hlt0, hB0⟩ := boxed w #[.bool false, .slice none 0 0, .slice none 0 0] 29
  have hl := h.len
  have hle := he.len
  have hqs := Lib.hid (prods_fits hf hfe)
  have hfh := Lib.hid hf
  have hfeh := Lib.hid hfe
  obtain ⟨ps, hps⟩ : ∃ ps, Hid (prods ds es = ps) := ⟨_, rfl⟩
  have hpl := Lib.hid (prods_len ds es)
  rw [hps.out] at hpl hqs
  clear hf hfe
  obtain ⟨r, hr⟩ : ∃ r, Hid (sumR ps = r) := ⟨_, rfl⟩
  rw [hps.out, hr.out]
  go_enter Try.func34, Try.ntmps34
  go_wp2_with fail
  refine (refFromInt_any 0 _ (by omega) (by omega)).mono ?_
  rintro e w1 ⟨v1, rfl, ⟨n1, A1, c1, l1, B1, d1, m1, rfl, na, nb, iq⟩, b1⟩
  have iq' := Lib.hid iq
  clear iq
  obtain ⟨w2, hw2, bw2, hlt2, hX⟩ := boxed w1 #[.bool n1, .slice A1 l1.length c1, .slice B1 m1.length d1] 29
  have hR := (hB0.keep b1).keep bw2
  have b01 := bw0.trans (b1.mono (Nat.le_of_lt hlt0))
  have b02 := b01.trans (bw2.mono b01.size)
  have na2 := na.below bw2
  have nb2 := nb.below bw2
  have hg1 : w.heap.size < w1.heap.size := Nat.lt_of_lt_of_le hlt0 b1.size
  clear na nb b1 bw2
  obtain ⟨g, hg⟩ : ∃ g, w1.heap.size = g := ⟨_, rfl⟩
  rw [hg] at hX hg1
  go_wp2
  go_loopw [6] (fun i wr => SumInv ps g w.heap.size w.heap.size w i wr) (fun i _ => ds.length - (intOf i).toNat)
  case atStart => exact ⟨0, n1, A1, c1, l1, B1, d1, m1, by omega, rfl, hX, na2, nb2, iq', hR, b02⟩
  case round =>
    obtain ⟨k, n, A2, ca, la, B2, cb, lb, hk, rfl, hXk, na, nb, iq, hRk, hbel⟩ := hrel
    have hlk := h.below hbel
    have hek := he.below hbel
    have x0 := hXk.f0
    have x1 := hXk.f1
    have x2 := hXk.f2
    have b0k := hbel
    rw [hpl.out] at hk
    by_cases hkl : k < ds.length ∧ k < es.length
    · obtain ⟨hkd, hke⟩ := hkl
      obtain ⟨a, d, rfl, hab, hc0, hc1, hc2, hfd, hdk⟩ := hlk.at hkd
      obtain ⟨a', d', rfl, hab', hc0', hc1', hc2', hfe, hek'⟩ := hek.at hke
      have hfit := Lib.hid (fits_sum (k := K + K) (l := ps.take k) (fun q hq => hqs.out q (List.mem_of_mem_take hq)))
      have hlt := Lib.hid (show (ps.take k).length ≤ ds.length by rw [List.length_take, hpl.out]; omega)
      have hbnd := Lib.hid (show (1 + (ps.take k).length * (K + K + 1)) + (K + K) < 400000000 by
        have h1 := Nat.mul_le_mul_right (K + K + 1) hlt.out
        rw [Nat.add_mul] at hK
        omega)
      have hfd1 := Lib.hid (hfh.out d (List.mem_of_getElem? hdk.out))
      have hfe1 := Lib.hid (hfeh.out d' (List.mem_of_getElem? hek'.out))
      have hpk := Lib.hid (show ps[k]? = some (d.q * d'.q) by rw [← hps.out]; exact prods_get hdk.out hek'.out)
      have hfq := Lib.hid (hqs.out _ (List.mem_of_getElem? hpk.out))
      have hsum := Lib.hid (sumR_takeL hpk.out)
      have fvS : FV wr (fracV n A2 la.length ca B2 lb.length cb) (sumR (ps.take k)) := ⟨n, A2, ca, la, B2, cb, lb, rfl, na, nb, iq.out⟩
      have fvS' : FV wr.drew (fracV n A2 la.length ca B2 lb.length cb) (sumR (ps.take k)) := fvS.below (Below.refl _ _).drew
      have hfd' : FV wr.drew d.v d.q := hfd.below (Below.refl _ _).drew
      have hfe' : FV wr.drew d'.v d'.q := hfe.below (Below.refl _ _).drew
      have bD : Below w.heap.size w wr.drew := hbel.drew
      have hXD : Blk wr.drew g 29 #[.bool n, .slice A2 la.length ca, .slice B2 lb.length cb] := hXk
      have hRD : Blk wr.drew w.heap.size 29 #[.bool false, .slice none 0 0, .slice none 0 0] := hRk
      have hki : (k : Int) < (ds.length : Int) := by omega
      have hkie : (k : Int) < (es.length : Int) := by omega
      have hkt : decide ((k : Int) < (ds.length : Int)) = true := decide_eq_true hki
      have hket : decide ((k : Int) < (es.length : Int)) = true := decide_eq_true hkie
      have hKK : K + K ≤ 400000000 := by rw [Nat.add_mul] at hK; omega
      clear fvS hfd hfe
      go_wp2_with fail
      go_region_with (first
        | (go_at_call 16; refine (refMulF_any hfd' hfe' hfd1.out hfe1.out hKK).mono ?_; rintro e w4 ⟨v4, rfl, hfp, b4⟩; have fvS4 := fvS'.below b4; have hX4 := hXD.keep b4; have hR4 := hRD.keep b4; have bD4 := bD.trans (b4.mono bD.size); have s0 := hX4.f0; have s1 := hX4.f1; have s2 := hX4.f2)
        | (go_at_call 15; refine (refAddF_any fvS4 hfp hfit.out hfq.out hbnd.out).mono ?_; rintro e w5 ⟨v5, rfl, ⟨n5, A5, c5, l5, B5, d5, m5, rfl, na5, nb5, iq5⟩, b5⟩; rw [← hsum.out] at iq5; have iq5' := Lib.hid iq5; clear iq5; have hX5 := hX4.keep b5; have hR5 := hR4.keep b5; have hbel5 := bD4.trans (b5.mono bD4.size); have p0 := hX5.f0; have p1 := hX5.f1; have p2 := hX5.f2; have q0 := hX5.free 0; have q1 := hX5.free 1; have q2 := hX5.free 2))
      all_goals go_wp2
      all_goals
        obtain ⟨w9, hw9, hB9, o9⟩ := hX5.set3 (.bool n5) (.slice A5 l5.length c5) (.slice B5 m5.length d5)
        rw [hw9]
        go_roundw
        case rel =>
          exact ⟨k + 1, n5, A5, c5, l5, B5, d5, m5, by rw [hpl.out]; omega, by go_num, hB9, na5.only_blk hX5 (noDig3 _ _ _ _ _ _ _) o9, nb5.only_blk hX5 (noDig3 _ _ _ _ _ _ _) o9, iq5', hR5.only o9 (Nat.ne_of_lt hg1), o9.to_below hbel5 (Nat.le_of_lt hg1) hbel5.size⟩
        case measure => simp [intOf]; omega
    · have hkm : k = min ds.length es.length := by omega
      have hSr := Lib.hid (show sumR (ps.take k) = r by rw [List.take_of_length_le (by rw [hpl.out]; omega)]; exact hr.out)
      have z0 := hRk.free 0
      have z1 := hRk.free 1
      have z2 := hRk.free 2
      have y0 := hRk.f0
      have y1 := hRk.f1
      have y2 := hRk.f2
      by_cases hkd : k < ds.length
      · have hkt : decide ((k : Int) < (ds.length : Int)) = true := decide_eq_true (by omega)
        have hket : decide ((k : Int) < (es.length : Int)) = false := decide_eq_false (by omega)
        have hken : decide (k < es.length) = false := decide_eq_false (by omega)
        clear hkm hkl
        go_wp2
        obtain ⟨w9, hw9, hB9, o9⟩ := hRk.set3 (.bool n) (.slice A2 la.length ca) (.slice B2 lb.length cb)
        rw [hw9]
        have e0 := hB9.f0
        have e1 := hB9.f1
        have e2 := hB9.f2
        refine bodyPost_ret (v := fracV n A2 la.length ca B2 lb.length cb) (by simp [results, Try.results34, go_sem, e0, e1, e2]) rfl ?_
        have m1' := na.only_blk hRk (noDig3 _ _ _ _ _ _ _) o9
        have m2' := nb.only_blk hRk (noDig3 _ _ _ _ _ _ _) o9
        exact ⟨_, rfl, ⟨n, A2, ca, la, B2, cb, lb, rfl, m1', m2', by rw [← hSr.out]; exact iq.out⟩, o9.to_below b0k (Nat.le_refl _) b0k.size⟩
      · have hkt : decide ((k : Int) < (ds.length : Int)) = false := decide_eq_false (by omega)
        have hktn : decide (k < ds.length) = false := decide_eq_false (by omega)
        clear hkm hkl
        go_wp2
        obtain ⟨w9, hw9, hB9, o9⟩ := hRk.set3 (.bool n) (.slice A2 la.length ca) (.slice B2 lb.length cb)
        rw [hw9]
        have e0 := hB9.f0
        have e1 := hB9.f1
        have e2 := hB9.f2
        refine bodyPost_ret (v := fracV n A2 la.length ca B2 lb.length cb) (by simp [results, Try.results34, go_sem, e0, e1, e2]) rfl ?_
        have m1' := na.only_blk hRk (noDig3 _ _ _ _ _ _ _) o9
        have m2' := nb.only_blk hRk (noDig3 _ _ _ _ _ _ _) o9
        exact ⟨_, rfl, ⟨n, A2, ca, la, B2, cb, lb, rfl, m1', m2', by rw [← hSr.out]; exact iq.out⟩, o9.to_below b0k (Nat.le_refl _) b0k.size⟩
end Go.Proofs.Ytlocaleiloiaoaa
