/- fraction.Add: what the call does. -/
import Derived.Test.YtkjmliebkbbogaaFSign
import Derived.Test.YtkjmliebkbbogaaFCross
import Derived.Test.YtkjmliebkbbogaaWSub
namespace Go.Proofs.Ytkjmliebkbbogaa
set_option linter.unusedVariables false
set_option linter.unusedSimpArgs false
open Go.RowKit Plain
attribute [local go_sem ↓] Go.wp_at_zero Go.wp_at_succ

set_option maxRecDepth 100000 in
set_option maxHeartbeats 4000000 in
theorem addF_any {v u : Value} {p q : Rat} {j k : Nat} {w : World} (hv : FV w v p) (hu : FV w u q) (hj : Fits j p) (hk : Fits k q) (hJ : j + k < 400000000) :
    Calls Try.prog 82 #[v, u] w (RetQ (p + q) w) := by
  obtain ⟨n1, A, ca, la, B, cb, lb, rfl, na, nb, iq⟩ := hv
  obtain ⟨n2, C, cc, lc, D, cd, ld, rfl, nc, nd, ir⟩ := hu
  have hf := QIs.fits iq hj
  have hg := QIs.fits ir hk
  have h0 : val lb * val ld ≠ 0 := Nat.mul_ne_zero (QIs.den_ne iq) (QIs.den_ne ir)
  obtain ⟨r, hr⟩ : ∃ r, p + q = r := ⟨_, rfl⟩
  have q1 := Lib.hid (show n1 = n2 → mkRat (sg n1 (val la * val ld + val lc * val lb)) (val lb * val ld) = r from fun e => by rw [← hr]; subst e; exact q_add iq ir)
  have q2 := Lib.hid (show n1 ≠ n2 → val lc * val lb ≤ val la * val ld → mkRat (sg n1 (val la * val ld - val lc * val lb)) (val lb * val ld) = r from fun e h => by rw [← hr]; exact q_sub1 iq ir e h)
  have q3 := Lib.hid (show n1 ≠ n2 → val la * val ld ≤ val lc * val lb → mkRat (sg n2 (val lc * val lb - val la * val ld)) (val lb * val ld) = r from fun e h => by rw [← hr]; exact q_sub2 iq ir e h)
  rw [hr]
  clear iq ir hr
  obtain ⟨w0, hw0, bw0, hlt0, hB0⟩ := boxed w #[.bool n1, .slice A la.length ca, .slice B lb.length cb] 50
  obtain ⟨w1, hw1, bw1, hlt1, hB1⟩ := boxed w0 #[.bool n2, .slice C lc.length cc, .slice D ld.length cd] 50
  obtain ⟨w2, hw2, bw2, hlt2, hB2⟩ := boxed w1 #[.bool false, .slice none 0 0, .slice none 0 0] 50
  have hA2 := (hB0.keep bw1).keep bw2
  have hC2 := hB1.keep bw2
  have b01 := bw0.trans (bw1.mono (Nat.le_of_lt hlt0))
  have b02 := b01.trans (bw2.mono b01.size)
  have ha1 := na.below b02
  have hb1 := nb.below b02
  have hc1 := nc.below b02
  have hd1 := nd.below b02
  have x0 := hA2.f0
  have x1 := hA2.f1
  have x2 := hA2.f2
  have y0 := hC2.f0
  have y1 := hC2.f1
  have y2 := hC2.f2
  clear na nb nc nd
  go_enter Try.func82, Try.ntmps82
  go_wp2_with fail
  refine (cross_any (n1 := n1) (n2 := n2) ha1 hb1 hc1 hd1 (by omega) (by omega) (by omega) (by omega)).mono ?_
  rintro e w3 ⟨X, cx, x, Y, cy, y, rfl, nx, ny, ix, iy, mx, my, b3⟩
  have ix' := Lib.hid ix
  have iy' := Lib.hid iy
  clear ix iy x0 x1 x2 y0 y1 y2
  have hA3 := hA2.keep b3
  have hC3 := hC2.keep b3
  have x0 := hA3.f0
  have x1 := hA3.f1
  have x2 := hA3.f2
  have y0 := hC3.f0
  have y1 := hC3.f1
  have y2 := hC3.f2
  go_wp2_with fail
  refine (mul_any B D cb cd lb ld _ (hb1.below b3) (hd1.below b3) (by omega) (by omega)).mono ?_
  rintro e w4 ⟨Z, cz, z, rfl, nz, iz, mz, b4⟩
  have iz' := Lib.hid iz
  clear iz x0 x1 x2 y0 y1 y2
  have hA4 := hA3.keep b4
  have hC4 := hC3.keep b4
  have hB4 := (hB2.keep b3).keep b4
  have x0 := hA4.f0
  have y0 := hC4.f0
  have nx4 := nx.below b4
  have ny4 := ny.below b4
  have b04 := (b02.trans (b3.mono b02.size)).trans (b4.mono (Nat.le_trans b02.size b3.size))
  have hrb : w.heap.size ≤ w1.heap.size := b01.size
  have hl1 : w.heap.size < w1.heap.size := by omega
  clear hA2 hC2 hA3 hC3 nx ny b3 b4 ha1 hb1 hc1 hd1 bw0 bw1 bw2 hw0 hw1 hw2
  by_cases hn : n1 = n2
  · subst hn
    have q1' := Lib.hid (q1.out rfl)
    clear q1 q2 q3
    have hrf : Only w4 w4 w1.heap.size := Only.refl _ _
    have h3f : Blk3 w4 w1.heap.size 50 := hB4.b3
    have hS : ∀ w', Only w4 w' w1.heap.size → w'.cell? ⟨w.heap.size, 0, none⟩ = some (.bool n1) := fun w' o => (hA4.only o (Nat.ne_of_lt hl1)).f0
    have d0 := hS _ hrf.drew
    have d6 := hrf.drew
    have d7 := h3f.drew
    go_wp2_with fail
    go_region_held3 (fun w' => w'.cell? ⟨w.heap.size, 0, none⟩ = some (.bool n1) ∧ Only w4 w' w1.heap.size ∧ Blk3 w' w1.heap.size 50) (((try go_split_ands); (try dsimp only); (repeat' with_reducible apply And.intro) <;> with_reducible assumption)) (first
      | (go_at_call 91; go_split_ands; (with_reducible refine (add_any X Y cx cy x y _ (nx4.only_blk hB4 (noDig3 _ _ _ _ _ _ _) (by assumption)) (ny4.only_blk hB4 (noDig3 _ _ _ _ _ _ _) (by assumption)) (by omega) (by omega)).mono ?_); rintro e w5 ⟨S, cs, s, rfl, ns, is, ms, b5⟩; have is' := Lib.hid is; clear is; have q4 := Blk3.keep (by assumption) b5; have b6 := (show Only w4 _ w1.heap.size by assumption).trans (Only.of_below b5 _); have f0 := hS _ b6)
      | (go_at_call 69; go_split_ands; (with_reducible refine (made_any ns (nz.only_blk hB4 (noDig3 _ _ _ _ _ _ _) (by assumption)) (by rw [iz'.out.val]; exact h0) (by omega) (by omega)).mono ?_); rintro e w7 ⟨v, rfl, ⟨m0, A1, c1, l1, B1, d1, m1, rfl, ma, mb, hQ⟩, b7⟩; rw [is'.out.val, ix'.out.val, iy'.out.val, iz'.out.val] at hQ; have b8 := (show Only w4 _ w1.heap.size by assumption).trans (Only.of_below b7 _); have k0 := hS _ b8; have q8 := Blk3.keep (t := 50) (by assumption) b7; have q9 := q8.set m0 A1 l1.length c1 B1 m1.length d1; obtain ⟨qa, qb, qc, qd, qe, qf, qg, hB3⟩ := id q8; have b9 := ((b8.set 0 (.bool m0)).set 1 (.slice A1 l1.length c1)).set 2 (.slice B1 m1.length d1); have j0 := hS _ b9; have u0 := hB3.f0; have u1 := hB3.f1; have u2 := hB3.f2; have t0 := hB3.free 0; have t1 := hB3.free 1; have t2 := hB3.free 2))
    clear j0 q9
    go_wp2
    obtain ⟨w9, hw9, hB9, o9⟩ := hB3.set3 (.bool m0) (.slice A1 l1.length c1) (.slice B1 m1.length d1)
    rw [hw9]
    have e0 := hB9.f0
    have e1 := hB9.f1
    have e2 := hB9.f2
    refine bodyPost_ret (v := fracV m0 A1 l1.length c1 B1 m1.length d1) (by simp [results, Try.results82, go_sem, e0, e1, e2]) rfl ?_
    have m1' := ma.only_blk hB3 (noDig3 _ _ _ _ _ _ _) o9
    have m2' := mb.only_blk hB3 (noDig3 _ _ _ _ _ _ _) o9
    have bT := (b8.trans o9).to_below b04 b01.size b04.size
    exact ⟨_, rfl, ⟨m0, A1, c1, l1, B1, d1, m1, rfl, m1', m2', by rw [← q1'.out]; exact hQ⟩, bT⟩
  · have hne : (n1 == n2) = false := by simpa using hn
    have q2' := Lib.hid (q2.out hn)
    have q3' := Lib.hid (q3.out hn)
    clear q1 q2 q3 hn
    by_cases hle : val lc * val lb ≤ val la * val ld
    · have hd : Hid (decide (val y ≤ val x) = true) := Lib.hid (by rw [ix'.out.val, iy'.out.val]; exact decide_eq_true hle)
      have qq := Lib.hid (q2'.out hle)
      clear hle q2' q3'
      go_wp2_with fail
      refine (sub_any X Y cx cy x y _ nx4 ny4).mono ?_
      rintro e w5 ⟨S, cs, s, rfl, ns, is, ms, b5⟩
      rw [hd.out]
      rw [ix'.out.val, iy'.out.val] at is
      have is' := Lib.hid is
      clear is
      have hA5 := hA4.keep b5
      have x0' := hA5.f0
      have hB5 := hB4.keep b5
      go_wp2_with fail
      refine (made_any ns (nz.below b5) (by rw [iz'.out.val]; exact h0) (by omega) (by omega)).mono ?_
      rintro e w7 ⟨v, rfl, ⟨m0, A1, c1, l1, B1, d1, m1, rfl, ma, mb, hQ⟩, b7⟩
      rw [is'.out.val, iz'.out.val, qq.out] at hQ
      have hQ' := Lib.hid hQ
      clear hQ
      have hB3 := hB5.keep b7
      have u0 := hB3.f0
      have u1 := hB3.f1
      have u2 := hB3.f2
      have t0 := hB3.free 0
      have t1 := hB3.free 1
      have t2 := hB3.free 2
      have b07 := (b04.trans (b5.mono b04.size)).trans (b7.mono (Nat.le_trans b04.size b5.size))
      go_wp2
      obtain ⟨w9, hw9, hB9, o9⟩ := hB3.set3 (.bool m0) (.slice A1 l1.length c1) (.slice B1 m1.length d1)
      rw [hw9]
      have e0 := hB9.f0
      have e1 := hB9.f1
      have e2 := hB9.f2
      refine bodyPost_ret (v := fracV m0 A1 l1.length c1 B1 m1.length d1) (by simp [results, Try.results82, go_sem, e0, e1, e2]) rfl ?_
      have m1' := ma.only_blk hB3 (noDig3 _ _ _ _ _ _ _) o9
      have m2' := mb.only_blk hB3 (noDig3 _ _ _ _ _ _ _) o9
      exact ⟨_, rfl, ⟨m0, A1, c1, l1, B1, d1, m1, rfl, m1', m2', hQ'.out⟩, o9.to_below b07 b01.size b07.size⟩
    · have hd : Hid (decide (val y ≤ val x) = false) := Lib.hid (by rw [ix'.out.val, iy'.out.val]; exact decide_eq_false hle)
      have qq := Lib.hid (q3'.out (by omega))
      have hle' : val la * val ld ≤ val lc * val lb := by omega
      have hd2 : Hid (decide (val x ≤ val y) = true) := Lib.hid (by rw [ix'.out.val, iy'.out.val]; exact decide_eq_true hle')
      clear hle q2' q3' hle'
      go_wp2_with fail
      refine (sub_any X Y cx cy x y _ nx4 ny4).mono ?_
      rintro e w5 ⟨S, cs, s, rfl, ns, is, ms, b5⟩
      rw [hd.out]
      have is'' := Lib.hid is
      clear is is'' ns ms
      go_wp2_with fail
      refine (sub_any Y X cy cx y x _ (ny4.below b5) (nx4.below b5)).mono ?_
      rintro e w6 ⟨S2, cs2, s2, rfl, ns, is, ms, b6⟩
      rw [hd2.out]
      rw [ix'.out.val, iy'.out.val] at is
      have is' := Lib.hid is
      clear is
      have hC6 := (hC4.keep b5).keep b6
      have y0' := hC6.f0
      have hB6 := (hB4.keep b5).keep b6
      go_wp2_with fail
      refine (made_any ns ((nz.below b5).below b6) (by rw [iz'.out.val]; exact h0) (by omega) (by omega)).mono ?_
      rintro e w7 ⟨v, rfl, ⟨m0, A1, c1, l1, B1, d1, m1, rfl, ma, mb, hQ⟩, b7⟩
      rw [is'.out.val, iz'.out.val, qq.out] at hQ
      have hQ' := Lib.hid hQ
      clear hQ
      have hB3 := hB6.keep b7
      have u0 := hB3.f0
      have u1 := hB3.f1
      have u2 := hB3.f2
      have t0 := hB3.free 0
      have t1 := hB3.free 1
      have t2 := hB3.free 2
      have b06 := (b04.trans (b5.mono b04.size)).trans (b6.mono (Nat.le_trans b04.size b5.size))
      have b07 := b06.trans (b7.mono b06.size)
      go_wp2
      obtain ⟨w9, hw9, hB9, o9⟩ := hB3.set3 (.bool m0) (.slice A1 l1.length c1) (.slice B1 m1.length d1)
      rw [hw9]
      have e0 := hB9.f0
      have e1 := hB9.f1
      have e2 := hB9.f2
      refine bodyPost_ret (v := fracV m0 A1 l1.length c1 B1 m1.length d1) (by simp [results, Try.results82, go_sem, e0, e1, e2]) rfl ?_
      have m1' := ma.only_blk hB3 (noDig3 _ _ _ _ _ _ _) o9
      have m2' := mb.only_blk hB3 (noDig3 _ _ _ _ _ _ _) o9
      exact ⟨_, rfl, ⟨m0, A1, c1, l1, B1, d1, m1, rfl, m1', m2', hQ'.out⟩, o9.to_below b07 b01.size b07.size⟩
end Go.Proofs.Ytkjmliebkbbogaa
