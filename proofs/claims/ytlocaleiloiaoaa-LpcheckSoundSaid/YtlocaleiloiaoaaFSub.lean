/- fraction.Sub: what the call does. -/
import Derived.Test.YtlocaleiloiaoaaFAdd
namespace Go.Proofs.Ytlocaleiloiaoaa
set_option linter.unusedVariables false
set_option linter.unusedSimpArgs false
open Go.RowKit Plain
attribute [local go_sem ↓] Go.wp_at_zero Go.wp_at_succ

set_option maxRecDepth 100000 in
set_option maxHeartbeats 4000000 in
theorem subF_any {v u : Value} {p q : Rat} {j k : Nat} {w : World} (hv : FV w v p) (hu : FV w u q) (hj : Fits j p) (hk : Fits k q) (hJ : j + k < 400000000) :
    Calls Try.prog 52 #[v, u] w (RetQ (p - q) w) := by
  have hv0 := hv
  have hu0 := hu
  obtain ⟨n1, A, ca, la, B, cb, lb, rfl, na, nb, iq⟩ := hv
  obtain ⟨n2, C, cc, lc, D, cd, ld, rfl, nc, nd, ir⟩ := hu
  clear na nb iq nc nd ir
  rw [Rat.sub_eq_add_neg]
  obtain ⟨w0, hw0, bw0, hlt0, hB0⟩ := boxed w #[.bool n1, .slice A la.length ca, .slice B lb.length cb] 29
  obtain ⟨w1, hw1, bw1, hlt1, hB1⟩ := boxed w0 #[.bool n2, .slice C lc.length cc, .slice D ld.length cd] 29
  obtain ⟨w2, hw2, bw2, hlt2, hB2⟩ := boxed w1 #[.bool false, .slice none 0 0, .slice none 0 0] 29
  have hA2 := (hB0.keep bw1).keep bw2
  have hC2 := hB1.keep bw2
  have b01 := bw0.trans (bw1.mono (Nat.le_of_lt hlt0))
  have b02 := b01.trans (bw2.mono b01.size)
  have hv1 := hv0.below b02
  have hu1 := hu0.below b02
  have x0 := hA2.f0
  have x1 := hA2.f1
  have x2 := hA2.f2
  have y0 := hC2.f0
  have y1 := hC2.f1
  have y2 := hC2.f2
  have h3f : Blk3 w2 w1.heap.size 29 := hB2.b3
  have hrf : Only w2 w2 w1.heap.size := Only.refl _ _
  have hl1 : w.heap.size < w1.heap.size := by omega
  have hS : ∀ w', Only w2 w' w1.heap.size → w'.cell? ⟨w.heap.size, 0, none⟩ = some (.bool n1) ∧ w'.cell? ⟨w.heap.size, 1, none⟩ = some (.slice A la.length ca) ∧ w'.cell? ⟨w.heap.size, 2, none⟩ = some (.slice B lb.length cb) ∧ w'.cell? ⟨w0.heap.size, 0, none⟩ = some (.bool n2) ∧ w'.cell? ⟨w0.heap.size, 1, none⟩ = some (.slice C lc.length cc) ∧ w'.cell? ⟨w0.heap.size, 2, none⟩ = some (.slice D ld.length cd) := fun w' o =>
    have p := hA2.only o (Nat.ne_of_lt hl1); have q := hC2.only o (Nat.ne_of_lt hlt1); ⟨p.f0, p.f1, p.f2, q.f0, q.f1, q.f2⟩
  obtain ⟨d0, d1, d2, d3, d4, d5⟩ := hS _ hrf.drew
  have d6 := hrf.drew
  have d7 := h3f.drew
  clear hv0 hu0
  go_enter Try.func52, Try.ntmps52
  go_wp2_with fail
  go_region_held3 (fun w' => w'.cell? ⟨w.heap.size, 0, none⟩ = some (.bool n1) ∧ w'.cell? ⟨w.heap.size, 1, none⟩ = some (.slice A la.length ca) ∧ w'.cell? ⟨w.heap.size, 2, none⟩ = some (.slice B lb.length cb) ∧ w'.cell? ⟨w0.heap.size, 0, none⟩ = some (.bool n2) ∧ w'.cell? ⟨w0.heap.size, 1, none⟩ = some (.slice C lc.length cc) ∧ w'.cell? ⟨w0.heap.size, 2, none⟩ = some (.slice D ld.length cd) ∧ Only w2 w' w1.heap.size ∧ Blk3 w' w1.heap.size 29) (((try go_split_ands); (try dsimp only); (repeat' with_reducible apply And.intro) <;> with_reducible assumption)) (first
    | (go_at_call 72; go_split_ands; (with_reducible refine (neg_any (hu1.only_blk hB2 (noDig3 _ _ _ _ _ _ _) (by assumption)) hk (by omega)).mono ?_); rintro e w3 ⟨v3, rfl, hv3, b3⟩; have q4 := Blk3.keep (by assumption) b3; have b4 := (show Only w2 _ w1.heap.size by assumption).trans (Only.of_below b3 _); obtain ⟨f0, f1, f2, f3, f4, f5⟩ := hS _ b4)
    | (go_at_call 70; go_split_ands; (with_reducible refine (addF_any (hv1.only_blk hB2 (noDig3 _ _ _ _ _ _ _) (by assumption)) hv3 hj hk.neg hJ).mono ?_); rintro e w7 ⟨v, rfl, ⟨m0, A1, c1, l1, B1, d1, m1, rfl, ma, mb, hQ⟩, b7⟩; have b8 := (show Only w2 _ w1.heap.size by assumption).trans (Only.of_below b7 _); obtain ⟨k0, k1, k2, k3, k4, k5⟩ := hS _ b8; have q8 := Blk3.keep (t := 29) (by assumption) b7; have q9 := q8.set m0 A1 l1.length c1 B1 m1.length d1; obtain ⟨qa, qb, qc, qd, qe, qf, qg, hB3⟩ := id q8; have b9 := ((b8.set 0 (.bool m0)).set 1 (.slice A1 l1.length c1)).set 2 (.slice B1 m1.length d1); obtain ⟨j0, j1, j2, j3, j4, j5⟩ := hS _ b9; have u0 := hB3.f0; have u1 := hB3.f1; have u2 := hB3.f2; have t0 := hB3.free 0; have t1 := hB3.free 1; have t2 := hB3.free 2))
  clear j0 j1 j2 j3 j4 j5 q9
  go_wp2
  obtain ⟨w9, hw9, hB9, o9⟩ := hB3.set3 (.bool m0) (.slice A1 l1.length c1) (.slice B1 m1.length d1)
  rw [hw9]
  have e0 := hB9.f0
  have e1 := hB9.f1
  have e2 := hB9.f2
  refine bodyPost_ret (v := fracV m0 A1 l1.length c1 B1 m1.length d1) (by simp [results, Try.results52, go_sem, e0, e1, e2]) rfl ?_
  have m1' := ma.only_blk hB3 (noDig3 _ _ _ _ _ _ _) o9
  have m2' := mb.only_blk hB3 (noDig3 _ _ _ _ _ _ _) o9
  have bT := (b8.trans o9).to_below b02 b01.size b02.size
  exact ⟨_, rfl, ⟨m0, A1, c1, l1, B1, d1, m1, rfl, m1', m2', hQ⟩, bT⟩
end Go.Proofs.Ytlocaleiloiaoaa
