/- fraction.Sum: what the call does. -/
import Derived.Test.YtkjmliebkbbogaaLD
import Derived.Test.YtkjmliebkbbogaaFAdd
namespace Go.Proofs.Ytkjmliebkbbogaa
set_option linter.unusedVariables false
set_option linter.unusedSimpArgs false
open Go.RowKit Plain
attribute [local go_sem ↓] Go.wp_at_zero Go.wp_at_succ

/-- The round of a sum: the block g holds the sum of the first elements. -/
def SumInv (qs : List Rat) (g rb base : Nat) (w : World) (i : Value) (wr : World) : Prop :=
  ∃ (k : Nat) (n : Bool) (A : Option Addr) (ca : Nat) (la : List Nat) (B : Option Addr) (cb : Nat) (lb : List Nat), k ≤ qs.length ∧ i = .int .i64 (k : Int) ∧ Blk wr g 50 #[.bool n, .slice A la.length ca, .slice B lb.length cb] ∧ Nv wr A ca la ∧ Nv wr B cb lb ∧
    Hid (QIs n la lb (sumR (qs.take k))) ∧ Blk wr rb 50 #[.bool false, .slice none 0 0, .slice none 0 0] ∧ Below base w wr

set_option maxRecDepth 100000 in
set_option maxHeartbeats 2000000 in
theorem sumF_any {A : Option Addr} {c K : Nat} {ds : List FrD} {w : World} (h : FL w A c ds) (hf : ∀ d ∈ ds, Fits K d.q) (hK : 1 + (ds.length + 1) * (K + 1) < 400000000) :
    Calls Try.prog 63 #[.slice A ds.length c] w (RetQ (sumR (ds.map FrD.q)) w) := by
  obtain ⟨w0, hw0, bw0, hlt0, hB0⟩ := boxed w #[.bool false, .slice none 0 0, .slice none 0 0] 50
  have hl := h.len
  have hqs := Lib.hid (FrD.mem_q hf)
  obtain ⟨r, hr⟩ : ∃ r, Hid (sumR (ds.map FrD.q) = r) := ⟨_, rfl⟩
  rw [hr.out]
  go_enter Try.func63, Try.ntmps63
  go_wp2_with fail
  refine (fromInt_any 0 _ (by omega) (by omega)).mono ?_
  rintro e w1 ⟨v1, rfl, ⟨n1, A1, c1, l1, B1, d1, m1, rfl, na, nb, iq⟩, b1⟩
  have iq' := Lib.hid iq
  clear iq
  obtain ⟨w2, hw2, bw2, hlt2, hX⟩ := boxed w1 #[.bool n1, .slice A1 l1.length c1, .slice B1 m1.length d1] 50
  have hR := (hB0.keep b1).keep bw2
  have b01 := bw0.trans (b1.mono (Nat.le_of_lt hlt0))
  have b02 := b01.trans (bw2.mono b01.size)
  have na2 := na.below bw2
  have nb2 := nb.below bw2
  have hg1 : w.heap.size < w1.heap.size := Nat.lt_of_lt_of_le hlt0 b1.size
  clear na nb b1 bw2
  obtain ⟨g, hg⟩ : ∃ g, w1.heap.size = g := ⟨_, rfl⟩
  rw [hg] at hX hg1
  go_wp2
  go_loopw [5, 9] (fun b i wr => SumInv (ds.map FrD.q) g w.heap.size w.heap.size w i wr) (fun _ i _ => ds.length - (intOf i).toNat)
  case atStart => exact ⟨0, n1, A1, c1, l1, B1, d1, m1, by omega, rfl, hX, na2, nb2, iq', hR, b02⟩
  case round =>
    obtain ⟨k, n, A2, ca, la, B2, cb, lb, hk, rfl, hXk, na, nb, iq, hRk, hbel⟩ := hrel
    rw [List.length_map] at hk
    have hlk := h.below hbel
    have x0 := hXk.f0
    have x1 := hXk.f1
    have x2 := hXk.f2
    have b0k := hbel
    by_cases hkl : k < ds.length
    · obtain ⟨a, d, rfl, hab, hc0, hc1, hc2, hfd, hdk⟩ := hlk.at hkl
      have hfit := Lib.hid (fits_sum (k := K) (l := (ds.map FrD.q).take k) (fun q hq => hqs.out q (List.mem_of_mem_take hq)))
      have hlt := Lib.hid (show ((ds.map FrD.q).take k).length ≤ ds.length by rw [List.length_take, List.length_map]; omega)
      have hbnd := Lib.hid (show (1 + ((ds.map FrD.q).take k).length * (K + 1)) + K < 400000000 by
        have h1 := Nat.mul_le_mul_right (K + 1) hlt.out
        rw [Nat.add_mul] at hK
        omega)
      have hfq := Lib.hid (show Fits K d.q from hqs.out _ (List.mem_map.2 ⟨d, List.mem_of_getElem? hdk.out, rfl⟩))
      have hsum := Lib.hid (show sumR ((ds.map FrD.q).take (k + 1)) = sumR ((ds.map FrD.q).take k) + d.q by rw [← List.map_take, ← List.map_take]; exact sumR_take hdk.out)
      have fvS : FV wr (fracV n A2 la.length ca B2 lb.length cb) (sumR ((ds.map FrD.q).take k)) := ⟨n, A2, ca, la, B2, cb, lb, rfl, na, nb, iq.out⟩
      obtain ⟨w4, hw4, bw4, hlt4, hY⟩ := boxed wr #[.bool d.neg, .slice d.a d.la.length d.ca, .slice d.b d.lb.length d.cb] 50
      have hX4 := hXk.keep bw4
      have u0 := hX4.f0
      have u1 := hX4.f1
      have u2 := hX4.f2
      have v0 := hY.f0
      have v1 := hY.f1
      have v2 := hY.f2
      go_wp2_with fail
      refine (addF_any (fvS.below bw4) (hfd.below bw4) hfit.out hfq.out hbnd.out).mono ?_
      rintro e w5 ⟨v5, rfl, ⟨n5, A5, c5, l5, B5, d5, m5, rfl, na5, nb5, iq5⟩, b5⟩
      rw [← hsum.out] at iq5
      have iq5' := Lib.hid iq5
      clear iq5
      have hX5 := hX4.keep b5
      have hR5 := (hRk.keep bw4).keep b5
      have hbel5 := (hbel.trans (bw4.mono hbel.size)).trans (b5.mono (Nat.le_trans hbel.size bw4.size))
      have p0 := hX5.f0
      have p1 := hX5.f1
      have p2 := hX5.f2
      have q0 := hX5.free 0
      have q1 := hX5.free 1
      have q2 := hX5.free 2
      clear x0 x1 x2 u0 u1 u2 v0 v1 v2
      go_wp2
      obtain ⟨w9, hw9, hB9, o9⟩ := hX5.set3 (.bool n5) (.slice A5 l5.length c5) (.slice B5 m5.length d5)
      rw [hw9]
      go_roundw
      case rel =>
        exact ⟨k + 1, n5, A5, c5, l5, B5, d5, m5, by rw [List.length_map]; omega, by go_num, hB9, na5.only_blk hX5 (noDig3 _ _ _ _ _ _ _) o9, nb5.only_blk hX5 (noDig3 _ _ _ _ _ _ _) o9, iq5', hR5.only o9 (Nat.ne_of_lt hg1), o9.to_below hbel5 (Nat.le_of_lt hg1) hbel5.size⟩
      case measure => simp [intOf]; omega
    · obtain rfl : k = ds.length := by omega
      have hSr := Lib.hid (show sumR ((ds.map FrD.q).take ds.length) = r by rw [List.take_of_length_le (by simp)]; exact hr.out)
      have hlt' : decide ((ds.length : Int) < (ds.length : Int)) = false := decide_eq_false (by omega)
      have z0 := hRk.free 0
      have z1 := hRk.free 1
      have z2 := hRk.free 2
      have y0 := hRk.f0
      have y1 := hRk.f1
      have y2 := hRk.f2
      go_wp2
      obtain ⟨w9, hw9, hB9, o9⟩ := hRk.set3 (.bool n) (.slice A2 la.length ca) (.slice B2 lb.length cb)
      rw [hw9]
      have e0 := hB9.f0
      have e1 := hB9.f1
      have e2 := hB9.f2
      refine bodyPost_ret (v := fracV n A2 la.length ca B2 lb.length cb) (by simp [results, Try.results63, go_sem, e0, e1, e2]) rfl ?_
      have m1' := na.only_blk hRk (noDig3 _ _ _ _ _ _ _) o9
      have m2' := nb.only_blk hRk (noDig3 _ _ _ _ _ _ _) o9
      exact ⟨_, rfl, ⟨n, A2, ca, la, B2, cb, lb, rfl, m1', m2', by rw [← hSr.out]; exact iq.out⟩, o9.to_below b0k (Nat.le_refl _) b0k.size⟩
end Go.Proofs.Ytkjmliebkbbogaa
