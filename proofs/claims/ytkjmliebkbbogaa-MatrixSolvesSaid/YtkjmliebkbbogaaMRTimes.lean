/- R17 Times: what the call does. -/
import Derived.Test.YtkjmliebkbbogaaMInts
import Derived.Test.YtkjmliebkbbogaaMAps
import Derived.Test.YtkjmliebkbbogaaGDot
import Derived.Test.YtkjmliebkbbogaaGSub
import Derived.Test.YtkjmliebkbbogaaGNew
import Derived.Deep.RegionHeld3
namespace Go.Proofs.Ytkjmliebkbbogaa
set_option linter.unusedVariables false
set_option linter.unusedSimpArgs false
open Go.RowKit Plain
attribute [local go_sem ↓] Go.wp_at_zero Go.wp_at_succ

def SAt (ps : List Rat) (g : Nat) (root : World) (i : Value) (wr : World) : Prop :=
  ∃ (k : Nat) (n : Bool) (A : Option Addr) (ca : Nat) (la : List Nat) (B : Option Addr) (cb : Nat) (lb : List Nat), k ≤ ps.length ∧ i = .int .i64 (k : Int) ∧ Blk wr g 50 #[.bool n, .slice A la.length ca, .slice B lb.length cb] ∧ Nv wr A ca la ∧ Nv wr B cb lb ∧ Hid (QIs n la lb (sumR (ps.take k))) ∧ Below root.heap.size root wr
set_option maxRecDepth 100000 in
set_option maxHeartbeats 4000000 in
theorem rtimes_any {K : Nat} {A X : Option Addr} {c cx : Nat} {rows : List RwD} {xs : List FrD} {w : World} (h : ML w A c rows) (hx : FL w X cx xs) (hfm : MFits K (qsM rows)) (hfx : QFits K (xs.map FrD.q)) (hK : 1 + (xs.length + 1) * (K + K + 1) < 400000000) (hrn : rows.length < 1000000000) :
    Calls Try.prog 16 #[.slice A rows.length c, .slice X xs.length cx] w (RetLs (timesS (qsM rows) (xs.map FrD.q)) w) := by
  obtain ⟨n, hn⟩ : ∃ n, Hid (colsL (qsM rows) = n) := ⟨_, rfl⟩
  obtain ⟨T, hT⟩ : ∃ m, Hid (timesS (qsM rows) (xs.map FrD.q) = m) := ⟨_, rfl⟩
  rw [hT.out]
  have hfm' := Lib.hid hfm
  have hfx' := Lib.hid hfx.fr
  clear hfm hfx
  have hl := h.len
  have hlx := hx.len
  have hw0 := Below.refl w.heap.size w
  go_enter Try.func16, Try.ntmps16
  go_wp2_with fail
  refine (formed17_any h).mono ?_
  rintro e w1 ⟨rfl, b1⟩
  rcases hfo : formedL (qsM rows) with _ | _
  · have hf := Lib.hid (show [] = T by rw [← hT.out]; unfold timesS; rw [hfo]; rfl)
    go_wp2
    go_ret
    exact ⟨none, 0, [], rfl, FL.nil _, hf.out, b1⟩
  have hfo' := Lib.hid hfo
  have hr := Lib.hid (show rect (qsM rows) n by rw [← hn.out]; exact formedL_rect hfo)
  clear hfo
  go_wp2_with fail
  refine (cols17_any (h.below b1)).mono ?_
  rintro e w2 ⟨rfl, rfl⟩
  rw [hn.out]
  by_cases hxn0 : ¬ xs.length = n
  · have hxn := hxn0
    have hne : ((xs.length : Int) != (n : Int)) = true := by simp; omega
    have hf := Lib.hid (show [] = T by rw [← hT.out]; unfold timesS; rw [hfo'.out, List.length_map, hn.out, decide_eq_false hxn]; rfl)
    go_wp2
    go_ret
    exact ⟨none, 0, [], rfl, FL.nil _, hf.out, b1⟩
  have hxn : xs.length = n := Decidable.not_not.1 hxn0
  clear hxn0
  have hne : ((xs.length : Int) != (n : Int)) = false := by rw [bne_eq_false_iff_eq]; omega
  have hxn' := Lib.hid hxn
  have hf := Lib.hid (show timesL (qsM rows) (xs.map FrD.q) = T by rw [← hT.out]; unfold timesS; rw [hfo'.out, List.length_map, hn.out, decide_eq_true hxn]; rfl)
  clear hxn
  have hTl := Lib.hid (show T.length = rows.length by rw [← hf.out]; unfold timesL; rw [List.length_map, qsM_len])
  have hnr := Lib.hid (show ∀ r ∈ rows, r.ds.length = xs.length from fun r hr' => by
    have := hr.out r.qs (List.mem_map.2 ⟨r, hr', rfl⟩)
    rw [RwD.qs_len] at this; rw [this, hxn'.out])
  go_wp2
  go_loopw [5, 6] (fun v i wr => LsInv T w v i wr) (fun _ i _ => rows.length - (intOf i).toNat)
  case atStart => exact ⟨0, by omega, rfl, [], OwnQ.nil _ _, fun d hd => by simp at hd, rfl, rfl, b1⟩
  case round =>
    obtain ⟨k, hk, rfl, hat⟩ := hrel
    rw [hTl.out] at hk
    have hbel := hat.bel
    by_cases hkl : k < rows.length
    · have hki : (k : Int) < (rows.length : Int) := by omega
      have hkb : k < 1000000000000 := by omega
      obtain ⟨a, r, rfl, hab, hc0, hfr, hrk⟩ := (h.below hbel).at hkl
      have hlr := hfr.len
      have hrl : r.ds.length = xs.length := hnr.out r (List.mem_of_getElem? hrk.out)
      have hfrq := Lib.hid (QFits.fr (hfm'.out.row hrk.out))
      have hxb := hx.below hbel
      obtain ⟨ps, hps⟩ : ∃ ps, Hid (prods r.ds xs = ps) := ⟨_, rfl⟩
      have hpl := Lib.hid (show ps.length = xs.length by rw [← hps.out, prods_len, hrl, Nat.min_self])
      have hqs := Lib.hid (show ∀ q ∈ ps, Fits (K + K) q by rw [← hps.out]; exact prods_fits hfrq.out hfx'.out)
      have hq : Hid (T[k]? = some (sumR ps)) := by
        show _ = _
        rw [← hf.out, ← hps.out, dot_L]
        unfold timesL qsM
        rw [List.map_map, List.getElem?_map, hrk.out]; rfl
      have hrl' := Lib.hid hrl
      have hrle : r.ds.length ≤ xs.length := by omega
      have hrle2 : xs.length ≤ r.ds.length := by omega
      clear hrl
      obtain ⟨wo, hwo⟩ : ∃ wo : World, wo = wr := ⟨_, rfl⟩
      subst hwo
      go_wp2_with fail
      refine (refFromInt_any 0 _ (by decide) (by decide)).mono ?_
      rintro e y2 ⟨v1, rfl, ⟨n1, A1, a1, l1, B1, c1, m1, rfl, na, nb, iq⟩, b2⟩
      obtain ⟨y3, hy3, by3, ly3, By3⟩ := boxed y2 #[.bool false, .slice none 0 0, .slice none 0 0] 50
      have p0 := By3.f0
      have p1 := By3.f1
      have p2 := By3.f2
      have r0 := By3.free 0
      have r1 := By3.free 1
      have r2 := By3.free 2
      obtain ⟨y4, hy4, By4, o4⟩ := By3.set3 (.bool n1) (.slice A1 l1.length a1) (.slice B1 m1.length c1)
      have b4 := o4.to_below by3 (Nat.le_refl _) by3.size
      have b24 := b2.trans (b4.mono b2.size)
      have na4 := na.below b4
      have nb4 := nb.below b4
      have iq4 : Hid (QIs n1 l1 m1 (sumR (ps.take 0))) := by
        show QIs n1 l1 m1 _
        have e0 : sumR (ps.take 0) = ((0 : Int) : Rat) := by simp [sumR_nil]
        rw [e0]; exact iq
      have hgs := Lib.hid (show wo.heap.size ≤ y2.heap.size from b2.size)
      clear na nb iq by3 ly3 o4
      go_wp2
      clear p0 p1 p2 r0 r1 r2 hy3 hy4 By3
      obtain ⟨g, hg⟩ : ∃ g, y2.heap.size = g := ⟨_, rfl⟩
      rw [hg] at hgs By4 ⊢
      clear hg
      go_loopw [8] (fun i w' => SAt ps g wo i w') (fun i _ => xs.length - (intOf i).toNat)
      case atStart => exact ⟨0, n1, A1, a1, l1, B1, c1, m1, by omega, rfl, By4, na4, nb4, iq4, b24⟩
      case round =>
        obtain ⟨j, s, A2, ca, la, B2, cb, lb, hj, rfl, hXk, na, nb, iq, bj⟩ := hrel
        rw [hpl.out] at hj
        by_cases hjl : j < xs.length
        · have hji : (j : Int) < (xs.length : Int) := by omega
          have hjir : (j : Int) < (r.ds.length : Int) := by omega
          obtain ⟨a2, d, eb, hab2, hd0, hd1, hd2, hfd, hdk⟩ := (hfr.below bj).at (k := j) (by omega)
          obtain ⟨a3, d', ec, hab3, he0, he1, he2, hfe, hek'⟩ := (hxb.below bj).at hjl
          have hcj : wr.cell? (a.add k) = some (.slice r.a r.ds.length r.c) := ((h.below (hbel.trans (bj.mono hbel.size))).cellAt hrk.out)
          rw [eb] at hcj
          cases ec
          have hfit := Lib.hid (fits_sum (k := K + K) (l := ps.take j) (fun q hq => hqs.out q (List.mem_of_mem_take hq)))
          have hlt := Lib.hid (show (ps.take j).length ≤ xs.length by rw [List.length_take, hpl.out]; omega)
          have hbnd := Lib.hid (show (1 + (ps.take j).length * (K + K + 1)) + (K + K) < 400000000 by
            have h1 := Nat.mul_le_mul_right (K + K + 1) hlt.out
            rw [Nat.add_mul] at hK
            omega)
          have hfd1 := Lib.hid (hfrq.out d (List.mem_of_getElem? hdk.out))
          have hfe1 := Lib.hid (hfx'.out d' (List.mem_of_getElem? hek'.out))
          have hpk := Lib.hid (show ps[j]? = some (d.q * d'.q) by rw [← hps.out]; exact prods_get hdk.out hek'.out)
          have hfq := Lib.hid (hqs.out _ (List.mem_of_getElem? hpk.out))
          have hsum := Lib.hid (sumR_takeL hpk.out)
          have fvS : FV wr (fracV s A2 la.length ca B2 lb.length cb) (sumR (ps.take j)) := ⟨s, A2, ca, la, B2, cb, lb, rfl, na, nb, iq.out⟩
          have fvS' : FV wr.drew (fracV s A2 la.length ca B2 lb.length cb) (sumR (ps.take j)) := fvS.below (Below.refl _ _).drew
          have hfd' : FV wr.drew d.v d.q := hfd.below (Below.refl _ _).drew
          have hfe' : FV wr.drew d'.v d'.q := hfe.below (Below.refl _ _).drew
          have bD : Below wo.heap.size wo wr.drew := bj.drew
          have hXD : Blk wr.drew g 50 #[.bool s, .slice A2 la.length ca, .slice B2 lb.length cb] := hXk
          have x0 := hXk.f0
          have x1 := hXk.f1
          have x2 := hXk.f2
          have hKK : K + K ≤ 400000000 := by rw [Nat.add_mul] at hK; omega
          clear fvS hfd hfe eb
          go_wp2_with fail
          go_region_with (first
            | (go_at_call 42; refine (refMulF_any hfd' hfe' hfd1.out hfe1.out hKK).mono ?_; rintro e w4 ⟨v4, rfl, hfp, b4⟩; have fvS4 := fvS'.below b4; have hX4 := hXD.keep b4; have bD4 := bD.trans (b4.mono bD.size); have s0 := hX4.f0; have s1 := hX4.f1; have s2 := hX4.f2)
            | (go_at_call 35; refine (refAddF_any fvS4 hfp hfit.out hfq.out hbnd.out).mono ?_; rintro e w5 ⟨v5, rfl, ⟨n5, A5, c5, l5, B5, d5, m5, rfl, na5, nb5, iq5⟩, b5⟩; rw [← hsum.out] at iq5; have iq5' := Lib.hid iq5; clear iq5; have hX5 := hX4.keep b5; have hbel5 := bD4.trans (b5.mono bD4.size); have p0 := hX5.f0; have p1 := hX5.f1; have p2 := hX5.f2; have q0 := hX5.free 0; have q1 := hX5.free 1; have q2 := hX5.free 2))
          all_goals go_wp2
          all_goals
            obtain ⟨w9, hw9, hB9, o9⟩ := hX5.set3 (.bool n5) (.slice A5 l5.length c5) (.slice B5 m5.length d5)
            rw [hw9]
            go_roundw
            case rel =>
              exact ⟨j + 1, n5, A5, c5, l5, B5, d5, m5, by rw [hpl.out]; omega, by go_num, hB9, na5.only_blk hX5 (noDig3 _ _ _ _ _ _ _) o9, nb5.only_blk hX5 (noDig3 _ _ _ _ _ _ _) o9, iq5', o9.to_below hbel5 hgs.out hbel5.size⟩
            case measure => simp [intOf]; omega
        · obtain rfl : j = xs.length := by omega
          have hlt' : decide ((xs.length : Int) < (xs.length : Int)) = false := decide_eq_false (by omega)
          have x0 := hXk.f0
          have x1 := hXk.f1
          have x2 := hXk.f2
          have iq' := iq.out
          rw [List.take_of_length_le (by rw [hpl.out]; exact Nat.le_refl _)] at iq'
          replace hat := hat.below bj
          obtain ⟨n1, hn1⟩ : ∃ x, x = s := ⟨_, rfl⟩
          subst hn1
          obtain ⟨os, ho, h63, hbs, hnext⟩ := hat.app hkb hq.out na nb iq'
          clear na nb iq'
          go_wp2_with (at_builtin; go_loud (refine wpList_appQ rfl rfl _ _ rfl _ _ os rfl ho ⟨wr.heap.size, 0, none⟩ 1 ⟨n1, A2, ca, la, B2, cb, lb⟩ rfl (World.news_of_block (heap_alloc_new wr _)) h63 hbs ?_; intro v6 w6 ho6 hg6))
          have hat6 := hnext.out v6 w6 ho6 hg6
          clear hnext ho hg6 ho6 hat
          go_wp2
          go_roundw
          case rel => exact ⟨k + 1, by rw [hTl.out]; omega, by go_num, hat6⟩
          case measure => simp [intOf]; omega
    · obtain rfl : k = rows.length := by omega
      have hlt' : decide ((rows.length : Int) < (rows.length : Int)) = false := decide_eq_false (by omega)
      obtain ⟨B, cb, es, rfl, hfl, hqe⟩ := hat.done hTl.out.symm
      go_wp2
      go_ret
      exact ⟨B, cb, es, rfl, hfl, hqe, hbel⟩
end Go.Proofs.Ytkjmliebkbbogaa
