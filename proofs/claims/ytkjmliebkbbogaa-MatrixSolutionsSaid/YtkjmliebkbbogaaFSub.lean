/- fraction.Div: what the call does. -/
import Derived.Test.YtkjmliebkbbogaaFSign
import Derived.Test.YtkjmliebkbbogaaFCross
import Derived.Test.YtkjmliebkbbogaaFAdd
namespace Go.Proofs.Ytkjmliebkbbogaa
set_option linter.unusedVariables false
set_option linter.unusedSimpArgs false
open Go.RowKit Plain
attribute [local go_sem ↓] Go.wp_at_zero Go.wp_at_succ

set_option maxRecDepth 100000 in
set_option maxHeartbeats 4000000 in
theorem divF_any {v u : Value} {p q : Rat} {j k : Nat} {w : World} (hv : FV w v p) (hu : FV w u q) (hj : Fits j p) (hk : Fits k q) (hJ : j + k ≤ 400000000) (hz : q ≠ 0) :
    Calls Try.prog 66 #[v, u] w (RetQE (p / q) w) := by
  obtain ⟨n1, A, ca, la, B, cb, lb, rfl, na, nb, iq⟩ := hv
  obtain ⟨n2, C, cc, lc, D, cd, ld, rfl, nc, nd, ir⟩ := hu
  have hf := QIs.fits iq hj
  have hg := QIs.fits ir hk
  have h0 : val lb * val lc ≠ 0 := Nat.mul_ne_zero (QIs.den_ne iq) (fun e => hz ((q_zero ir).1 ((QIs.natA ir).zero_iff.2 e)))
  have hq := q_div iq ir hz
  obtain ⟨r, hr⟩ : ∃ r, p / q = r := ⟨_, rfl⟩
  rw [hr] at hq ⊢
  have hq' := Lib.hid hq
  clear iq ir hq hr
  obtain ⟨w0, hw0, bw0, hlt0, hB0⟩ := boxed w #[.bool n1, .slice A la.length ca, .slice B lb.length cb] 50
  obtain ⟨w1, hw1, bw1, hlt1, hB1⟩ := boxed w0 #[.bool n2, .slice C lc.length cc, .slice D ld.length cd] 50
  obtain ⟨w2, hw2, bw2, hlt2, hB2⟩ := boxed w1 #[.bool false, .slice none 0 0, .slice none 0 0] 50
  have hA2 := (hB0.keep bw1).keep bw2
  have hC2 := hB1.keep bw2
  have b01 := bw0.trans (bw1.mono (Nat.le_of_lt hlt0))
  have b02 := b01.trans (bw2.mono b01.size)
  have ha1 := na.below b02
  have hb1 := nb.below b02
  have hc1 := nc.below b02
  have hd1 := nd.below b02
  have x0 := hA2.f0
  have x1 := hA2.f1
  have x2 := hA2.f2
  have y0 := hC2.f0
  have y1 := hC2.f1
  have y2 := hC2.f2
  have z0 := hB2.f0
  have z1 := hB2.f1
  have z2 := hB2.f2
  have h3f : Blk3 w2 w1.heap.size 50 := hB2.b3
  have hrf : Only w2 w2 w1.heap.size := Only.refl _ _
  have nd0 := noDig3 false none 0 0 none 0 0
  have hl1 : w.heap.size < w1.heap.size := by omega
  have hS : ∀ w', Only w2 w' w1.heap.size → w'.cell? ⟨w.heap.size, 0, none⟩ = some (.bool n1) ∧ w'.cell? ⟨w.heap.size, 1, none⟩ = some (.slice A la.length ca) ∧ w'.cell? ⟨w.heap.size, 2, none⟩ = some (.slice B lb.length cb) ∧ w'.cell? ⟨w0.heap.size, 0, none⟩ = some (.bool n2) ∧ w'.cell? ⟨w0.heap.size, 1, none⟩ = some (.slice C lc.length cc) ∧ w'.cell? ⟨w0.heap.size, 2, none⟩ = some (.slice D ld.length cd) := fun w' o =>
    have p := hA2.only o (Nat.ne_of_lt hl1); have q := hC2.only o (Nat.ne_of_lt hlt1); ⟨p.f0, p.f1, p.f2, q.f0, q.f1, q.f2⟩
  obtain ⟨d0, d1, d2, d3, d4, d5⟩ := hS _ hrf.drew
  have d6 := hrf.drew
  have d7 := h3f.drew
  clear na nb nc nd
  go_enter Try.func66, Try.ntmps66
  go_wp2_with fail
  go_region_held3 (fun w' => w'.cell? ⟨w.heap.size, 0, none⟩ = some (.bool n1) ∧ w'.cell? ⟨w.heap.size, 1, none⟩ = some (.slice A la.length ca) ∧ w'.cell? ⟨w.heap.size, 2, none⟩ = some (.slice B lb.length cb) ∧ w'.cell? ⟨w0.heap.size, 0, none⟩ = some (.bool n2) ∧ w'.cell? ⟨w0.heap.size, 1, none⟩ = some (.slice C lc.length cc) ∧ w'.cell? ⟨w0.heap.size, 2, none⟩ = some (.slice D ld.length cd) ∧ Only w2 w' w1.heap.size ∧ Blk3 w' w1.heap.size 50) (((try go_split_ands); (try dsimp only); (repeat' with_reducible apply And.intro) <;> with_reducible assumption)) (first
    | (go_at_call 81; go_split_ands; (with_reducible refine (mul_any A D ca cd la ld _ (ha1.only_blk hB2 nd0 (by assumption)) (hd1.only_blk hB2 nd0 (by assumption)) (by omega) (by omega)).mono ?_); rintro e w3 ⟨X, cx, x, rfl, nx, ix, mx, b3⟩; have ix' := Lib.hid ix; clear ix; have q4 := Blk3.keep (by assumption) b3; have b4 := (show Only w2 _ w1.heap.size by assumption).trans (Only.of_below b3 _); obtain ⟨f0, f1, f2, f3, f4, f5⟩ := hS _ b4)
    | (go_at_call 81; go_split_ands; (with_reducible refine (mul_any B C cb cc lb lc _ (hb1.only_blk hB2 nd0 (by assumption)) (hc1.only_blk hB2 nd0 (by assumption)) (by omega) (by omega)).mono ?_); rintro e w5 ⟨Y, cy, y, rfl, ny, iy, my, b5⟩; have iy' := Lib.hid iy; clear iy; have q6 := Blk3.keep (by assumption) b5; have b6 := (show Only w2 _ w1.heap.size by assumption).trans (Only.of_below b5 _); obtain ⟨g0, g1, g2, g3, g4, g5⟩ := hS _ b6)
    | (go_at_call 83; go_split_ands; (with_reducible refine (make_any (by first | exact nx.below b5 | exact nx) (by first | exact ny | exact ny.below b3) (by rw [iy'.out.val]; exact h0) (by omega) (by omega)).mono ?_); rintro e w7 ⟨v, rfl, ⟨m0, A1, c1, l1, B1, d1, m1, rfl, ma, mb, hQ⟩, b7⟩; rw [ix'.out.val, iy'.out.val] at hQ; have b8 := (show Only w2 _ w1.heap.size by assumption).trans (Only.of_below b7 _); obtain ⟨k0, k1, k2, k3, k4, k5⟩ := hS _ b8; have q8 := Blk3.keep (t := 50) (by assumption) b7; have q9 := q8.set m0 A1 l1.length c1 B1 m1.length d1; obtain ⟨qa, qb, qc, qd, qe, qf, qg, hB3⟩ := id q8; have b9 := ((b8.set 0 (.bool m0)).set 1 (.slice A1 l1.length c1)).set 2 (.slice B1 m1.length d1); obtain ⟨j0, j1, j2, j3, j4, j5⟩ := hS _ b9; have u0 := hB3.f0; have u1 := hB3.f1; have u2 := hB3.f2; have t0 := hB3.free 0; have t1 := hB3.free 1; have t2 := hB3.free 2))
  all_goals
    clear j0 j1 j2 j3 j4 j5 q9
    go_wp2
    obtain ⟨w9, hw9, hB9, o9⟩ := hB3.set3 (.bool m0) (.slice A1 l1.length c1) (.slice B1 m1.length d1)
    rw [hw9]
    have e0 := hB9.f0
    have e1 := hB9.f1
    have e2 := hB9.f2
    refine bodyPost_ret (v := .tuple #[fracV m0 A1 l1.length c1 B1 m1.length d1, .int .i64 0]) (by simp [results, Try.results66, go_sem, e0, e1, e2]) rfl ?_
    have m1' := ma.only_blk hB3 (noDig3 _ _ _ _ _ _ _) o9
    have m2' := mb.only_blk hB3 (noDig3 _ _ _ _ _ _ _) o9
    have bT := (b8.trans o9).to_below b02 b01.size b02.size
    exact ⟨_, rfl, ⟨m0, A1, c1, l1, B1, d1, m1, rfl, m1', m2', by rw [← hq'.out]; exact hQ⟩, bT⟩
set_option maxRecDepth 100000 in
set_option maxHeartbeats 4000000 in
theorem divF_zero {v u : Value} {p q : Rat} {j k : Nat} {w : World} (hv : FV w v p) (hu : FV w u q) (hj : Fits j p) (hk : Fits k q) (hJ : j + k ≤ 400000000) (hz : q = 0) :
    Calls Try.prog 66 #[v, u] w (RetZE 8 w) := by
  obtain ⟨n1, A, ca, la, B, cb, lb, rfl, na, nb, iq⟩ := hv
  obtain ⟨n2, C, cc, lc, D, cd, ld, rfl, nc, nd, ir⟩ := hu
  have hf := QIs.fits iq hj
  have hg := QIs.fits ir hk
  have h0 := Lib.hid (show lc = [] from (q_zero ir).2 hz)
  clear iq ir hz
  obtain ⟨w0, hw0, bw0, hlt0, hB0⟩ := boxed w #[.bool n1, .slice A la.length ca, .slice B lb.length cb] 50
  obtain ⟨w1, hw1, bw1, hlt1, hB1⟩ := boxed w0 #[.bool n2, .slice C lc.length cc, .slice D ld.length cd] 50
  obtain ⟨w2, hw2, bw2, hlt2, hB2⟩ := boxed w1 #[.bool false, .slice none 0 0, .slice none 0 0] 50
  have hA2 := (hB0.keep bw1).keep bw2
  have hC2 := hB1.keep bw2
  have b01 := bw0.trans (bw1.mono (Nat.le_of_lt hlt0))
  have b02 := b01.trans (bw2.mono b01.size)
  have ha1 := na.below b02
  have hb1 := nb.below b02
  have hc1 := nc.below b02
  have hd1 := nd.below b02
  have x0 := hA2.f0
  have x1 := hA2.f1
  have x2 := hA2.f2
  have y0 := hC2.f0
  have y1 := hC2.f1
  have y2 := hC2.f2
  have z0 := hB2.f0
  have z1 := hB2.f1
  have z2 := hB2.f2
  have h3f : Blk3 w2 w1.heap.size 50 := hB2.b3
  have hrf : Only w2 w2 w1.heap.size := Only.refl _ _
  have nd0 := noDig3 false none 0 0 none 0 0
  have hl1 : w.heap.size < w1.heap.size := by omega
  have hS : ∀ w', Only w2 w' w1.heap.size → w'.cell? ⟨w.heap.size, 0, none⟩ = some (.bool n1) ∧ w'.cell? ⟨w.heap.size, 1, none⟩ = some (.slice A la.length ca) ∧ w'.cell? ⟨w.heap.size, 2, none⟩ = some (.slice B lb.length cb) ∧ w'.cell? ⟨w0.heap.size, 0, none⟩ = some (.bool n2) ∧ w'.cell? ⟨w0.heap.size, 1, none⟩ = some (.slice C lc.length cc) ∧ w'.cell? ⟨w0.heap.size, 2, none⟩ = some (.slice D ld.length cd) := fun w' o =>
    have p := hA2.only o (Nat.ne_of_lt hl1); have q := hC2.only o (Nat.ne_of_lt hlt1); ⟨p.f0, p.f1, p.f2, q.f0, q.f1, q.f2⟩
  obtain ⟨d0, d1, d2, d3, d4, d5⟩ := hS _ hrf.drew
  have d6 := hrf.drew
  have d7 := h3f.drew
  clear na nb nc nd
  go_enter Try.func66, Try.ntmps66
  go_wp2_with fail
  go_region_held3 (fun w' => w'.cell? ⟨w.heap.size, 0, none⟩ = some (.bool n1) ∧ w'.cell? ⟨w.heap.size, 1, none⟩ = some (.slice A la.length ca) ∧ w'.cell? ⟨w.heap.size, 2, none⟩ = some (.slice B lb.length cb) ∧ w'.cell? ⟨w0.heap.size, 0, none⟩ = some (.bool n2) ∧ w'.cell? ⟨w0.heap.size, 1, none⟩ = some (.slice C lc.length cc) ∧ w'.cell? ⟨w0.heap.size, 2, none⟩ = some (.slice D ld.length cd) ∧ Only w2 w' w1.heap.size ∧ Blk3 w' w1.heap.size 50) (((try go_split_ands); (try dsimp only); (repeat' with_reducible apply And.intro) <;> with_reducible assumption)) (first
    | (go_at_call 81; go_split_ands; (with_reducible refine (mul_any A D ca cd la ld _ (ha1.only_blk hB2 nd0 (by assumption)) (hd1.only_blk hB2 nd0 (by assumption)) (by omega) (by omega)).mono ?_); rintro e w3 ⟨X, cx, x, rfl, nx, ix, mx, b3⟩; have ix' := Lib.hid ix; clear ix; have q4 := Blk3.keep (by assumption) b3; have b4 := (show Only w2 _ w1.heap.size by assumption).trans (Only.of_below b3 _); obtain ⟨f0, f1, f2, f3, f4, f5⟩ := hS _ b4)
    | (go_at_call 81; go_split_ands; (with_reducible refine (mul_any B C cb cc lb lc _ (hb1.only_blk hB2 nd0 (by assumption)) (hc1.only_blk hB2 nd0 (by assumption)) (by omega) (by omega)).mono ?_); rintro e w5 ⟨Y, cy, y, rfl, ny, iy, my, b5⟩; have iy' := Lib.hid iy; clear iy; have q6 := Blk3.keep (by assumption) b5; have b6 := (show Only w2 _ w1.heap.size by assumption).trans (Only.of_below b5 _); obtain ⟨g0, g1, g2, g3, g4, g5⟩ := hS _ b6)
    | (go_at_call 83; go_split_ands; have hy := (iy'.out.zero_iff).2 (by rw [h0.out]; exact Nat.mul_zero _); subst hy; simp only [List.length_nil]; (with_reducible refine make_zero.mono ?_); rintro e w7 ⟨rfl, b7⟩; have b8 := (show Only w2 _ w1.heap.size by assumption).trans (Only.of_below b7 _); obtain ⟨k0, k1, k2, k3, k4, k5⟩ := hS _ b8; have q8 := Blk3.keep (t := 50) (by assumption) b7; have q9 := q8.set false none 0 0 none 0 0; obtain ⟨qa, qb, qc, qd, qe, qf, qg, hB3⟩ := id q8; have b9 := ((b8.set 0 (.bool false)).set 1 (.slice none 0 0)).set 2 (.slice none 0 0); obtain ⟨j0, j1, j2, j3, j4, j5⟩ := hS _ b9; have u0 := hB3.f0; have u1 := hB3.f1; have u2 := hB3.f2; have t0 := hB3.free 0; have t1 := hB3.free 1; have t2 := hB3.free 2))
  all_goals
    clear j0 j1 j2 j3 j4 j5 q9
    go_wp2
    obtain ⟨w9, hw9, hB9, o9⟩ := hB3.set3 (.bool false) (.slice none 0 0) (.slice none 0 0)
    rw [hw9]
    have e0 := hB9.f0
    have e1 := hB9.f1
    have e2 := hB9.f2
    refine bodyPost_ret (v := .tuple #[fracV false none 0 0 none 0 0, .int .i64 8]) (by simp [results, Try.results66, go_sem, e0, e1, e2]) rfl ?_
    have bT := (b8.trans o9).to_below b02 b01.size b02.size
    exact ⟨rfl, bT⟩
end Go.Proofs.Ytkjmliebkbbogaa
/- fraction.Sub: what the call does. -/
namespace Go.Proofs.Ytkjmliebkbbogaa
set_option linter.unusedVariables false
set_option linter.unusedSimpArgs false
open Go.RowKit Plain
attribute [local go_sem ↓] Go.wp_at_zero Go.wp_at_succ

set_option maxRecDepth 100000 in
set_option maxHeartbeats 4000000 in
theorem subF_any {v u : Value} {p q : Rat} {j k : Nat} {w : World} (hv : FV w v p) (hu : FV w u q) (hj : Fits j p) (hk : Fits k q) (hJ : j + k < 400000000) :
    Calls Try.prog 67 #[v, u] w (RetQ (p - q) w) := by
  have hv0 := hv
  have hu0 := hu
  obtain ⟨n1, A, ca, la, B, cb, lb, rfl, na, nb, iq⟩ := hv
  obtain ⟨n2, C, cc, lc, D, cd, ld, rfl, nc, nd, ir⟩ := hu
  clear na nb iq nc nd ir
  rw [Rat.sub_eq_add_neg]
  obtain ⟨w0, hw0, bw0, hlt0, hB0⟩ := boxed w #[.bool n1, .slice A la.length ca, .slice B lb.length cb] 50
  obtain ⟨w1, hw1, bw1, hlt1, hB1⟩ := boxed w0 #[.bool n2, .slice C lc.length cc, .slice D ld.length cd] 50
  obtain ⟨w2, hw2, bw2, hlt2, hB2⟩ := boxed w1 #[.bool false, .slice none 0 0, .slice none 0 0] 50
  have hA2 := (hB0.keep bw1).keep bw2
  have hC2 := hB1.keep bw2
  have b01 := bw0.trans (bw1.mono (Nat.le_of_lt hlt0))
  have b02 := b01.trans (bw2.mono b01.size)
  have hv1 := hv0.below b02
  have hu1 := hu0.below b02
  have x0 := hA2.f0
  have x1 := hA2.f1
  have x2 := hA2.f2
  have y0 := hC2.f0
  have y1 := hC2.f1
  have y2 := hC2.f2
  have h3f : Blk3 w2 w1.heap.size 50 := hB2.b3
  have hrf : Only w2 w2 w1.heap.size := Only.refl _ _
  have hl1 : w.heap.size < w1.heap.size := by omega
  have hS : ∀ w', Only w2 w' w1.heap.size → w'.cell? ⟨w.heap.size, 0, none⟩ = some (.bool n1) ∧ w'.cell? ⟨w.heap.size, 1, none⟩ = some (.slice A la.length ca) ∧ w'.cell? ⟨w.heap.size, 2, none⟩ = some (.slice B lb.length cb) ∧ w'.cell? ⟨w0.heap.size, 0, none⟩ = some (.bool n2) ∧ w'.cell? ⟨w0.heap.size, 1, none⟩ = some (.slice C lc.length cc) ∧ w'.cell? ⟨w0.heap.size, 2, none⟩ = some (.slice D ld.length cd) := fun w' o =>
    have p := hA2.only o (Nat.ne_of_lt hl1); have q := hC2.only o (Nat.ne_of_lt hlt1); ⟨p.f0, p.f1, p.f2, q.f0, q.f1, q.f2⟩
  obtain ⟨d0, d1, d2, d3, d4, d5⟩ := hS _ hrf.drew
  have d6 := hrf.drew
  have d7 := h3f.drew
  clear hv0 hu0
  go_enter Try.func67, Try.ntmps67
  go_wp2_with fail
  go_region_held3 (fun w' => w'.cell? ⟨w.heap.size, 0, none⟩ = some (.bool n1) ∧ w'.cell? ⟨w.heap.size, 1, none⟩ = some (.slice A la.length ca) ∧ w'.cell? ⟨w.heap.size, 2, none⟩ = some (.slice B lb.length cb) ∧ w'.cell? ⟨w0.heap.size, 0, none⟩ = some (.bool n2) ∧ w'.cell? ⟨w0.heap.size, 1, none⟩ = some (.slice C lc.length cc) ∧ w'.cell? ⟨w0.heap.size, 2, none⟩ = some (.slice D ld.length cd) ∧ Only w2 w' w1.heap.size ∧ Blk3 w' w1.heap.size 50) (((try go_split_ands); (try dsimp only); (repeat' with_reducible apply And.intro) <;> with_reducible assumption)) (first
    | (go_at_call 54; go_split_ands; (with_reducible refine (neg_any (hu1.only_blk hB2 (noDig3 _ _ _ _ _ _ _) (by assumption)) hk (by omega)).mono ?_); rintro e w3 ⟨v3, rfl, hv3, b3⟩; have q4 := Blk3.keep (by assumption) b3; have b4 := (show Only w2 _ w1.heap.size by assumption).trans (Only.of_below b3 _); obtain ⟨f0, f1, f2, f3, f4, f5⟩ := hS _ b4)
    | (go_at_call 82; go_split_ands; (with_reducible refine (addF_any (hv1.only_blk hB2 (noDig3 _ _ _ _ _ _ _) (by assumption)) hv3 hj hk.neg hJ).mono ?_); rintro e w7 ⟨v, rfl, ⟨m0, A1, c1, l1, B1, d1, m1, rfl, ma, mb, hQ⟩, b7⟩; have b8 := (show Only w2 _ w1.heap.size by assumption).trans (Only.of_below b7 _); obtain ⟨k0, k1, k2, k3, k4, k5⟩ := hS _ b8; have q8 := Blk3.keep (t := 50) (by assumption) b7; have q9 := q8.set m0 A1 l1.length c1 B1 m1.length d1; obtain ⟨qa, qb, qc, qd, qe, qf, qg, hB3⟩ := id q8; have b9 := ((b8.set 0 (.bool m0)).set 1 (.slice A1 l1.length c1)).set 2 (.slice B1 m1.length d1); obtain ⟨j0, j1, j2, j3, j4, j5⟩ := hS _ b9; have u0 := hB3.f0; have u1 := hB3.f1; have u2 := hB3.f2; have t0 := hB3.free 0; have t1 := hB3.free 1; have t2 := hB3.free 2))
  clear j0 j1 j2 j3 j4 j5 q9
  go_wp2
  obtain ⟨w9, hw9, hB9, o9⟩ := hB3.set3 (.bool m0) (.slice A1 l1.length c1) (.slice B1 m1.length d1)
  rw [hw9]
  have e0 := hB9.f0
  have e1 := hB9.f1
  have e2 := hB9.f2
  refine bodyPost_ret (v := fracV m0 A1 l1.length c1 B1 m1.length d1) (by simp [results, Try.results67, go_sem, e0, e1, e2]) rfl ?_
  have m1' := ma.only_blk hB3 (noDig3 _ _ _ _ _ _ _) o9
  have m2' := mb.only_blk hB3 (noDig3 _ _ _ _ _ _ _) o9
  have bT := (b8.trans o9).to_below b02 b01.size b02.size
  exact ⟨_, rfl, ⟨m0, A1, c1, l1, B1, d1, m1, rfl, m1', m2', hQ⟩, bT⟩
end Go.Proofs.Ytkjmliebkbbogaa
