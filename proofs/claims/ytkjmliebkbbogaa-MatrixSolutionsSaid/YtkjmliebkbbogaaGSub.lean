/- R02 Add: what the call does. -/
import Derived.Test.YtkjmliebkbbogaaGNew
import Derived.Test.YtkjmliebkbbogaaWRef4
import Derived.Test.YtkjmliebkbbogaaFSign
namespace Go.Proofs.Ytkjmliebkbbogaa
set_option linter.unusedVariables false
set_option linter.unusedSimpArgs false
open Go.RowKit Plain
attribute [local go_sem ↓] Go.wp_at_zero Go.wp_at_succ

set_option maxRecDepth 100000 in
set_option maxHeartbeats 4000000 in
theorem refAddF_any {v u : Value} {p q : Rat} {j k : Nat} {w : World} (hv : FV w v p) (hu : FV w u q) (hj : Fits j p) (hk : Fits k q) (hJ : j + k < 400000000) :
    Calls Try.prog 35 #[v, u] w (RetQ (p + q) w) := by
  obtain ⟨n1, A, ca, la, B, cb, lb, rfl, na, nb, iq⟩ := hv
  obtain ⟨n2, C, cc, lc, D, cd, ld, rfl, nc, nd, ir⟩ := hu
  have hf := QIs.fits iq hj
  have hg := QIs.fits ir hk
  have h0 : val lb * val ld ≠ 0 := Nat.mul_ne_zero (QIs.den_ne iq) (QIs.den_ne ir)
  obtain ⟨r, hr⟩ : ∃ r, p + q = r := ⟨_, rfl⟩
  have q1 := Lib.hid (show n1 = n2 → mkRat (sg n1 (val la * val ld + val lc * val lb)) (val lb * val ld) = r from fun e => by rw [← hr]; subst e; exact q_add iq ir)
  have q2 := Lib.hid (show n1 ≠ n2 → val lc * val lb ≤ val la * val ld → mkRat (sg n1 (val la * val ld - val lc * val lb)) (val lb * val ld) = r from fun e h => by rw [← hr]; exact q_sub1 iq ir e h)
  have q3 := Lib.hid (show n1 ≠ n2 → val la * val ld ≤ val lc * val lb → mkRat (sg n2 (val lc * val lb - val la * val ld)) (val lb * val ld) = r from fun e h => by rw [← hr]; exact q_sub2 iq ir e h)
  rw [hr]
  clear iq ir hr
  obtain ⟨w0, hw0, bw0, hlt0, hB0⟩ := boxed w #[.bool n1, .slice A la.length ca, .slice B lb.length cb] 50
  obtain ⟨w1, hw1, bw1, hlt1, hB1⟩ := boxed w0 #[.bool n2, .slice C lc.length cc, .slice D ld.length cd] 50
  obtain ⟨w2, hw2, bw2, hlt2, hB2⟩ := boxed w1 #[.bool false, .slice none 0 0, .slice none 0 0] 50
  have hA2 := (hB0.keep bw1).keep bw2
  have hC2 := hB1.keep bw2
  have b01 := bw0.trans (bw1.mono (Nat.le_of_lt hlt0))
  have b02 := b01.trans (bw2.mono b01.size)
  have ha1 := na.below b02
  have hb1 := nb.below b02
  have hc1 := nc.below b02
  have hd1 := nd.below b02
  have x0 := hA2.f0
  have x1 := hA2.f1
  have x2 := hA2.f2
  have y0 := hC2.f0
  have y1 := hC2.f1
  have y2 := hC2.f2
  have hS1 : ∀ w', Below w2.heap.size w2 w' → w'.cell? ⟨w.heap.size, 1, none⟩ = some (.slice A la.length ca) ∧ w'.cell? ⟨w.heap.size, 2, none⟩ = some (.slice B lb.length cb) ∧ w'.cell? ⟨w0.heap.size, 1, none⟩ = some (.slice C lc.length cc) ∧ w'.cell? ⟨w0.heap.size, 2, none⟩ = some (.slice D ld.length cd) ∧ Below w2.heap.size w2 w' := fun w' o =>
    have p := hA2.keep o; have q := hC2.keep o; ⟨p.f1, p.f2, q.f1, q.f2, o⟩
  have d6 : Below w2.heap.size w2 w2.drew := (Below.refl _ _).drew
  clear na nb nc nd
  go_enter Try.func35, Try.ntmps35
  go_wp2_with fail
  go_region_held3 (fun w' => w'.cell? ⟨w.heap.size, 1, none⟩ = some (.slice A la.length ca) ∧ w'.cell? ⟨w.heap.size, 2, none⟩ = some (.slice B lb.length cb) ∧ w'.cell? ⟨w0.heap.size, 1, none⟩ = some (.slice C lc.length cc) ∧ w'.cell? ⟨w0.heap.size, 2, none⟩ = some (.slice D ld.length cd) ∧ Below w2.heap.size w2 w') (((try go_split_ands); (try dsimp only); exact hS1 _ (by assumption))) (first
    | (go_at_call 57; go_split_ands; (with_reducible refine (refMul_any A D ca cd la ld _ (ha1.below (by assumption)) (hd1.below (by assumption)) (by omega) (by omega)).mono ?_); rintro e wx ⟨X, cx, x, rfl, nx, ix, mx, bx⟩; have ix' := Lib.hid ix; clear ix; have b4 := (show Below w2.heap.size w2 _ by assumption).trans (bx.mono (show Below w2.heap.size w2 _ by assumption).size))
    | (go_at_call 57; go_split_ands; (with_reducible refine (refMul_any C B cc cb lc lb _ (hc1.below (by assumption)) (hb1.below (by assumption)) (by omega) (by omega)).mono ?_); rintro e w3 ⟨Y, cy, y, rfl, ny, iy, my, by3⟩; have iy' := Lib.hid iy; clear iy; have nx := nx.below by3; have b3 := (show Below w2.heap.size w2 _ by assumption).trans (by3.mono (show Below w2.heap.size w2 _ by assumption).size)))
  clear x0 x1 x2 y0 y1 y2
  have hA3 := hA2.keep b3
  have hC3 := hC2.keep b3
  have x0 := hA3.f0
  have x1 := hA3.f1
  have x2 := hA3.f2
  have y0 := hC3.f0
  have y1 := hC3.f1
  have y2 := hC3.f2
  go_wp2_with fail
  refine (refMul_any B D cb cd lb ld _ (hb1.below b3) (hd1.below b3) (by omega) (by omega)).mono ?_
  rintro e w4 ⟨Z, cz, z, rfl, nz, iz, mz, b4⟩
  have iz' := Lib.hid iz
  clear iz x0 x1 x2 y0 y1 y2
  have hA4 := hA3.keep b4
  have hC4 := hC3.keep b4
  have hB4 := (hB2.keep b3).keep b4
  have x0 := hA4.f0
  have y0 := hC4.f0
  have nx4 := nx.below b4
  have ny4 := ny.below b4
  have b04 := (b02.trans (b3.mono b02.size)).trans (b4.mono (Nat.le_trans b02.size b3.size))
  have hrb : w.heap.size ≤ w1.heap.size := b01.size
  have hl1 : w.heap.size < w1.heap.size := by omega
  clear hA2 hC2 hA3 hC3 nx ny b3 b4 ha1 hb1 hc1 hd1 bw0 bw1 bw2 hw0 hw1 hw2
  by_cases hn : n1 = n2
  · subst hn
    have q1' := Lib.hid (q1.out rfl)
    clear q1 q2 q3
    have hS : ∀ w', Below w4.heap.size w4 w' → w'.cell? ⟨w.heap.size, 0, none⟩ = some (.bool n1) ∧ Below w4.heap.size w4 w' := fun w' o => ⟨(hA4.keep o).f0, o⟩
    have d6' : Below w4.heap.size w4 w4.drew := (Below.refl _ _).drew
    have nz4 := nz
    go_wp2_with fail
    go_region_held3 (fun w' => w'.cell? ⟨w.heap.size, 0, none⟩ = some (.bool n1) ∧ Below w4.heap.size w4 w') (((try go_split_ands); (try dsimp only); exact hS _ (by first | assumption | exact Below.alloc (by assumption) (show Below w4.heap.size w4 _ by assumption).size _ | exact below_set3 (by assumption) (by first | exact Nat.le_refl _ | exact Below.size (B := w4.heap.size) (w := w4) (by assumption)) _ _ _))) (first
      | (go_at_call 59; go_split_ands; (with_reducible refine (refAdd_any X Y cx cy x y _ (nx4.below (by assumption)) (ny4.below (by assumption)) (by omega) (by omega)).mono ?_); rintro e w5 ⟨S, cs, s, rfl, ns, is, ms, b5⟩; have is' := Lib.hid is; clear is; (first | (have hX : Blk _ w4.heap.size _ _ := (Blk.new w4.drew _ _).keep b5) | (have hX := (Blk.new _ _ _).keep b5) | (have hX := hX.keep b5) | skip); have b6 := (show Below w4.heap.size w4 _ by assumption).trans (b5.mono (show Below w4.heap.size w4 _ by assumption).size))
      | (go_at_call 58; go_split_ands; (with_reducible refine (refMake_any (by first | exact ns | exact Nv.alloc ns _) (nz4.below (by assumption)) (by rw [iz'.out.val]; exact h0) is'.out.canon iz'.out.canon (by omega) (by omega)).mono ?_); rintro e w7 ⟨v, rfl, ⟨m0, A1, c1, l1, B1, d1, m1, rfl, ma, mb, hQ⟩, b7⟩; rw [is'.out.val, ix'.out.val, iy'.out.val, iz'.out.val] at hQ; (first | (have hX := (Blk.new _ _ _).keep b7) | (have hX := hX.keep b7) | skip); have b8 := (show Below w4.heap.size w4 _ by assumption).trans (b7.mono (show Below w4.heap.size w4 _ by assumption).size); (first | (have u0 := hX.f0; have u1 := hX.f1; have u2 := hX.f2; have t0 := hX.free 0; have t1 := hX.free 1; have t2 := hX.free 2) | skip)))
    all_goals
      first
        | (obtain ⟨w8, hw8, hX8, o8⟩ := hX.set3 (.bool m0) (.slice A1 l1.length c1) (.slice B1 m1.length d1); rw [hw8]; have b28 := o8.to_below b8 (by first | exact Nat.le_refl _ | exact Below.size (B := w4.heap.size) (w := w4) (by assumption)) b8.size; have ma8 := ma.only_blk hX (noDig3 _ _ _ _ _ _ _) o8; have mb8 := mb.only_blk hX (noDig3 _ _ _ _ _ _ _) o8)
        | (obtain ⟨w8, hw8, bw8, hlt8, hX8⟩ := boxed w7 #[.bool m0, .slice A1 l1.length c1, .slice B1 m1.length d1] 50; rw [hw8]; have b28 := b8.trans (bw8.mono b8.size); have ma8 := ma.below bw8; have mb8 := mb.below bw8)
      have hBr := hB4.keep b28
      have b08 := b04.trans (b28.mono b04.size)
      have v0 := hX8.f0
      have v1 := hX8.f1
      have v2 := hX8.f2
      have r0 := hBr.f0
      have r1 := hBr.f1
      have r2 := hBr.f2
      have s0 := hBr.free 0
      have s1 := hBr.free 1
      have s2 := hBr.free 2
      go_wp2
      obtain ⟨w9, hw9, hB9, o9⟩ := hBr.set3 (.bool m0) (.slice A1 l1.length c1) (.slice B1 m1.length d1)
      rw [hw9]
      have e0 := hB9.f0
      have e1 := hB9.f1
      have e2 := hB9.f2
      refine bodyPost_ret (v := fracV m0 A1 l1.length c1 B1 m1.length d1) (by simp [results, Try.results35, go_sem, e0, e1, e2]) rfl ?_
      exact ⟨_, rfl, ⟨m0, A1, c1, l1, B1, d1, m1, rfl, ma8.only_blk hBr (noDig3 _ _ _ _ _ _ _) o9, mb8.only_blk hBr (noDig3 _ _ _ _ _ _ _) o9, by rw [← q1'.out]; exact hQ⟩, o9.to_below b08 b01.size b08.size⟩
  · have hne : (n1 == n2) = false := by simpa using hn
    have q2' := Lib.hid (q2.out hn)
    have q3' := Lib.hid (q3.out hn)
    clear q1 q2 q3 hn
    by_cases hle : val lc * val lb ≤ val la * val ld
    · have hd : Hid (decide (val y ≤ val x) = true) := Lib.hid (by rw [ix'.out.val, iy'.out.val]; exact decide_eq_true hle)
      have qq := Lib.hid (q2'.out hle)
      clear hle q2' q3'
      go_wp2_with fail
      refine (refSub_any X Y cx cy x y _ nx4 ny4 (by omega) (by omega)).mono ?_
      rintro e w5 ⟨S, cs, s, rfl, ns, is, ms, b5⟩
      rw [hd.out]
      rw [ix'.out.val, iy'.out.val] at is
      have is' := Lib.hid is
      clear is
      have hA5 := hA4.keep b5
      have x0' := hA5.f0
      have hB5 := hB4.keep b5
      go_wp2_with fail
      refine (refMake_any ns (nz.below b5) (by rw [iz'.out.val]; exact h0) is'.out.canon iz'.out.canon (by omega) (by omega)).mono ?_
      rintro e w7 ⟨v, rfl, ⟨m0, A1, c1, l1, B1, d1, m1, rfl, ma, mb, hQ⟩, b7⟩
      rw [is'.out.val, iz'.out.val, qq.out] at hQ
      have hQ' := Lib.hid hQ
      clear hQ
      have hB3 := hB5.keep b7
      have b07 := (b04.trans (b5.mono b04.size)).trans (b7.mono (Nat.le_trans b04.size b5.size))
      obtain ⟨w8, hw8, bw8, hlt8, hX8⟩ := boxed w7 #[.bool m0, .slice A1 l1.length c1, .slice B1 m1.length d1] 50
      have hBr := hB3.keep bw8
      have b08 := b07.trans (bw8.mono b07.size)
      have v0 := hX8.f0
      have v1 := hX8.f1
      have v2 := hX8.f2
      have r0 := hBr.f0
      have r1 := hBr.f1
      have r2 := hBr.f2
      have s0 := hBr.free 0
      have s1 := hBr.free 1
      have s2 := hBr.free 2
      go_wp2
      obtain ⟨w9, hw9, hB9, o9⟩ := hBr.set3 (.bool m0) (.slice A1 l1.length c1) (.slice B1 m1.length d1)
      rw [hw9]
      have e0 := hB9.f0
      have e1 := hB9.f1
      have e2 := hB9.f2
      refine bodyPost_ret (v := fracV m0 A1 l1.length c1 B1 m1.length d1) (by simp [results, Try.results35, go_sem, e0, e1, e2]) rfl ?_
      have m1' := (ma.below bw8).only_blk hBr (noDig3 _ _ _ _ _ _ _) o9
      have m2' := (mb.below bw8).only_blk hBr (noDig3 _ _ _ _ _ _ _) o9
      exact ⟨_, rfl, ⟨m0, A1, c1, l1, B1, d1, m1, rfl, m1', m2', hQ'.out⟩, o9.to_below b08 b01.size b08.size⟩
    · have hd : Hid (decide (val y ≤ val x) = false) := Lib.hid (by rw [ix'.out.val, iy'.out.val]; exact decide_eq_false hle)
      have qq := Lib.hid (q3'.out (by omega))
      have hle' : val la * val ld ≤ val lc * val lb := by omega
      have hd2 : Hid (decide (val x ≤ val y) = true) := Lib.hid (by rw [ix'.out.val, iy'.out.val]; exact decide_eq_true hle')
      clear hle q2' q3' hle'
      go_wp2_with fail
      refine (refSub_any X Y cx cy x y _ nx4 ny4 (by omega) (by omega)).mono ?_
      rintro e w5 ⟨S, cs, s, rfl, ns, is, ms, b5⟩
      rw [hd.out]
      have is'' := Lib.hid is
      clear is is'' ns ms
      go_wp2_with fail
      refine (refSub_any Y X cy cx y x _ (ny4.below b5) (nx4.below b5) (by omega) (by omega)).mono ?_
      rintro e w6 ⟨S2, cs2, s2, rfl, ns, is, ms, b6⟩
      rw [hd2.out]
      rw [ix'.out.val, iy'.out.val] at is
      have is' := Lib.hid is
      clear is
      have hC6 := (hC4.keep b5).keep b6
      have y0' := hC6.f0
      have hB6 := (hB4.keep b5).keep b6
      go_wp2_with fail
      refine (refMake_any ns ((nz.below b5).below b6) (by rw [iz'.out.val]; exact h0) is'.out.canon iz'.out.canon (by omega) (by omega)).mono ?_
      rintro e w7 ⟨v, rfl, ⟨m0, A1, c1, l1, B1, d1, m1, rfl, ma, mb, hQ⟩, b7⟩
      rw [is'.out.val, iz'.out.val, qq.out] at hQ
      have hQ' := Lib.hid hQ
      clear hQ
      have hB3 := hB6.keep b7
      have b06 := (b04.trans (b5.mono b04.size)).trans (b6.mono (Nat.le_trans b04.size b5.size))
      have b07 := b06.trans (b7.mono b06.size)
      obtain ⟨w8, hw8, bw8, hlt8, hX8⟩ := boxed w7 #[.bool m0, .slice A1 l1.length c1, .slice B1 m1.length d1] 50
      have hBr := hB3.keep bw8
      have b08 := b07.trans (bw8.mono b07.size)
      have v0 := hX8.f0
      have v1 := hX8.f1
      have v2 := hX8.f2
      have r0 := hBr.f0
      have r1 := hBr.f1
      have r2 := hBr.f2
      have s0 := hBr.free 0
      have s1 := hBr.free 1
      have s2 := hBr.free 2
      go_wp2
      obtain ⟨w9, hw9, hB9, o9⟩ := hBr.set3 (.bool m0) (.slice A1 l1.length c1) (.slice B1 m1.length d1)
      rw [hw9]
      have e0 := hB9.f0
      have e1 := hB9.f1
      have e2 := hB9.f2
      refine bodyPost_ret (v := fracV m0 A1 l1.length c1 B1 m1.length d1) (by simp [results, Try.results35, go_sem, e0, e1, e2]) rfl ?_
      have m1' := (ma.below bw8).only_blk hBr (noDig3 _ _ _ _ _ _ _) o9
      have m2' := (mb.below bw8).only_blk hBr (noDig3 _ _ _ _ _ _ _) o9
      exact ⟨_, rfl, ⟨m0, A1, c1, l1, B1, d1, m1, rfl, m1', m2', hQ'.out⟩, o9.to_below b08 b01.size b08.size⟩
end Go.Proofs.Ytkjmliebkbbogaa
/- R02 Sub, Sign and Cmp: what the calls do. -/
namespace Go.Proofs.Ytkjmliebkbbogaa
set_option linter.unusedVariables false
set_option linter.unusedSimpArgs false
open Go.RowKit Plain
attribute [local go_sem ↓] Go.wp_at_zero Go.wp_at_succ

set_option maxRecDepth 100000 in
set_option maxHeartbeats 4000000 in
theorem refSubF_any {v u : Value} {p q : Rat} {j k : Nat} {w : World} (hv : FV w v p) (hu : FV w u q) (hj : Fits j p) (hk : Fits k q) (hJ : j + k < 400000000) :
    Calls Try.prog 68 #[v, u] w (RetQ (p - q) w) := by
  have hv0 := hv
  have hu0 := hu
  obtain ⟨n1, A, ca, la, B, cb, lb, rfl, na, nb, iq⟩ := hv
  obtain ⟨n2, C, cc, lc, D, cd, ld, rfl, nc, nd, ir⟩ := hu
  clear na nb iq nc nd ir
  rw [Rat.sub_eq_add_neg]
  obtain ⟨w0, hw0, bw0, hlt0, hB0⟩ := boxed w #[.bool n1, .slice A la.length ca, .slice B lb.length cb] 50
  obtain ⟨w1, hw1, bw1, hlt1, hB1⟩ := boxed w0 #[.bool n2, .slice C lc.length cc, .slice D ld.length cd] 50
  obtain ⟨w2, hw2, bw2, hlt2, hB2⟩ := boxed w1 #[.bool false, .slice none 0 0, .slice none 0 0] 50
  have hA2 := (hB0.keep bw1).keep bw2
  have hC2 := hB1.keep bw2
  have b01 := bw0.trans (bw1.mono (Nat.le_of_lt hlt0))
  have b02 := b01.trans (bw2.mono b01.size)
  have hv1 := hv0.below b02
  have hu1 := hu0.below b02
  have x0 := hA2.f0
  have x1 := hA2.f1
  have x2 := hA2.f2
  have y0 := hC2.f0
  have y1 := hC2.f1
  have y2 := hC2.f2
  have h3f : Blk3 w2 w1.heap.size 50 := hB2.b3
  have hrf : Only w2 w2 w1.heap.size := Only.refl _ _
  have hl1 : w.heap.size < w1.heap.size := by omega
  have hS : ∀ w', Only w2 w' w1.heap.size → w'.cell? ⟨w.heap.size, 0, none⟩ = some (.bool n1) ∧ w'.cell? ⟨w.heap.size, 1, none⟩ = some (.slice A la.length ca) ∧ w'.cell? ⟨w.heap.size, 2, none⟩ = some (.slice B lb.length cb) ∧ w'.cell? ⟨w0.heap.size, 0, none⟩ = some (.bool n2) ∧ w'.cell? ⟨w0.heap.size, 1, none⟩ = some (.slice C lc.length cc) ∧ w'.cell? ⟨w0.heap.size, 2, none⟩ = some (.slice D ld.length cd) := fun w' o =>
    have p := hA2.only o (Nat.ne_of_lt hl1); have q := hC2.only o (Nat.ne_of_lt hlt1); ⟨p.f0, p.f1, p.f2, q.f0, q.f1, q.f2⟩
  obtain ⟨d0, d1, d2, d3, d4, d5⟩ := hS _ hrf.drew
  have d6 := hrf.drew
  have d7 := h3f.drew
  clear hv0 hu0
  go_enter Try.func68, Try.ntmps68
  go_wp2_with fail
  go_region_held3 (fun w' => w'.cell? ⟨w.heap.size, 0, none⟩ = some (.bool n1) ∧ w'.cell? ⟨w.heap.size, 1, none⟩ = some (.slice A la.length ca) ∧ w'.cell? ⟨w.heap.size, 2, none⟩ = some (.slice B lb.length cb) ∧ w'.cell? ⟨w0.heap.size, 0, none⟩ = some (.bool n2) ∧ w'.cell? ⟨w0.heap.size, 1, none⟩ = some (.slice C lc.length cc) ∧ w'.cell? ⟨w0.heap.size, 2, none⟩ = some (.slice D ld.length cd) ∧ Only w2 w' w1.heap.size ∧ Blk3 w' w1.heap.size 50) (((try go_split_ands); (try dsimp only); (repeat' with_reducible apply And.intro) <;> with_reducible assumption)) (first
    | (go_at_call 84; go_split_ands; (with_reducible refine (refNeg_any (hu1.only_blk hB2 (noDig3 _ _ _ _ _ _ _) (by assumption))).mono ?_); rintro e w3 ⟨v3, rfl, hv3, b3⟩; have q4 := Blk3.keep (by assumption) b3; have b4 := (show Only w2 _ w1.heap.size by assumption).trans (Only.of_below b3 _); obtain ⟨f0, f1, f2, f3, f4, f5⟩ := hS _ b4)
    | (go_at_call 35; go_split_ands; (with_reducible refine (refAddF_any (hv1.only_blk hB2 (noDig3 _ _ _ _ _ _ _) (by assumption)) hv3 hj hk.neg hJ).mono ?_); rintro e w7 ⟨v, rfl, ⟨m0, A1, c1, l1, B1, d1, m1, rfl, ma, mb, hQ⟩, b7⟩; have b8 := (show Only w2 _ w1.heap.size by assumption).trans (Only.of_below b7 _); obtain ⟨k0, k1, k2, k3, k4, k5⟩ := hS _ b8; have q8 := Blk3.keep (t := 50) (by assumption) b7; have q9 := q8.set m0 A1 l1.length c1 B1 m1.length d1; obtain ⟨qa, qb, qc, qd, qe, qf, qg, hB3⟩ := id q8; have b9 := ((b8.set 0 (.bool m0)).set 1 (.slice A1 l1.length c1)).set 2 (.slice B1 m1.length d1); obtain ⟨j0, j1, j2, j3, j4, j5⟩ := hS _ b9; have u0 := hB3.f0; have u1 := hB3.f1; have u2 := hB3.f2; have t0 := hB3.free 0; have t1 := hB3.free 1; have t2 := hB3.free 2))
  clear j0 j1 j2 j3 j4 j5 q9
  go_wp2
  obtain ⟨w9, hw9, hB9, o9⟩ := hB3.set3 (.bool m0) (.slice A1 l1.length c1) (.slice B1 m1.length d1)
  rw [hw9]
  have e0 := hB9.f0
  have e1 := hB9.f1
  have e2 := hB9.f2
  refine bodyPost_ret (v := fracV m0 A1 l1.length c1 B1 m1.length d1) (by simp [results, Try.results68, go_sem, e0, e1, e2]) rfl ?_
  have m1' := ma.only_blk hB3 (noDig3 _ _ _ _ _ _ _) o9
  have m2' := mb.only_blk hB3 (noDig3 _ _ _ _ _ _ _) o9
  have bT := (b8.trans o9).to_below b02 b01.size b02.size
  exact ⟨_, rfl, ⟨m0, A1, c1, l1, B1, d1, m1, rfl, m1', m2', hQ⟩, bT⟩
set_option maxRecDepth 100000 in
set_option maxHeartbeats 1000000 in
theorem refSign_any {v : Value} {q : Rat} {w : World} (hv : FV w v q) :
    Calls Try.prog 28 #[v] w (RetI (cmpR q 0) w) := by
  obtain ⟨neg, A, ca, la, B, cb, lb, rfl, na, nb, iq⟩ := hv
  have hbg := na.big
  have hc := q_sign iq
  have hsg := Lib.hid (QIs.sign iq)
  clear iq
  obtain ⟨w0, hw0, bw0, hlt0, hB0⟩ := boxed w #[.bool neg, .slice A la.length ca, .slice B lb.length cb] 50
  have x0 := hB0.f0
  have x1 := hB0.f1
  have x2 := hB0.f2
  rw [hc]
  rcases la with _ | ⟨a, la⟩
  · rw [if_pos rfl]
    obtain rfl : neg = false := by cases neg with | false => rfl | true => exact absurd ⟨rfl, rfl⟩ hsg.out
    go_enter Try.func28, Try.ntmps28
    go_wp2
    go_ret
    exact ⟨rfl, by first | exact bw0 | (subst hw0; exact bw0)⟩
  · have hlen : ((((a :: la).length : Nat) : Int) == 0) = false := by rw [beq_eq_false_iff_ne, List.length_cons]; omega
    rw [if_neg (by simp)]
    generalize (a :: la).length = n at *
    rcases neg with _ | _
    · go_enter Try.func28, Try.ntmps28
      go_wp2
      go_ret
      exact ⟨rfl, bw0⟩
    · go_enter Try.func28, Try.ntmps28
      go_wp2
      go_ret
      exact ⟨rfl, bw0⟩
end Go.Proofs.Ytkjmliebkbbogaa
