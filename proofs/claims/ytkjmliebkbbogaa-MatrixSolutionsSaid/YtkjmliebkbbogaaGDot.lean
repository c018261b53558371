/- R02 Mul: what the call does. -/
import Derived.Test.YtkjmliebkbbogaaGNew
import Derived.Test.YtkjmliebkbbogaaWRef4
import Derived.Test.YtkjmliebkbbogaaLD
import Derived.Test.YtkjmliebkbbogaaFSum
import Derived.Test.YtkjmliebkbbogaaGSub
import Derived.Deep.RegionWith
namespace Go.Proofs.Ytkjmliebkbbogaa
set_option linter.unusedVariables false
set_option linter.unusedSimpArgs false
open Go.RowKit Plain
attribute [local go_sem ↓] Go.wp_at_zero Go.wp_at_succ

set_option maxRecDepth 100000 in
set_option maxHeartbeats 4000000 in
theorem refMulF_any {v u : Value} {p q : Rat} {j k : Nat} {w : World} (hv : FV w v p) (hu : FV w u q) (hj : Fits j p) (hk : Fits k q) (hJ : j + k ≤ 400000000) :
    Calls Try.prog 42 #[v, u] w (RetQ (p * q) w) := by
  obtain ⟨n1, A, ca, la, B, cb, lb, rfl, na, nb, iq⟩ := hv
  obtain ⟨n2, C, cc, lc, D, cd, ld, rfl, nc, nd, ir⟩ := hu
  have hf := QIs.fits iq hj
  have hg := QIs.fits ir hk
  have h0 : val lb * val ld ≠ 0 := Nat.mul_ne_zero (QIs.den_ne iq) (QIs.den_ne ir)
  have hq := q_mul iq ir
  obtain ⟨r, hr⟩ : ∃ r, p * q = r := ⟨_, rfl⟩
  rw [hr] at hq ⊢
  have hq' := Lib.hid hq
  clear iq ir hq hr
  obtain ⟨w0, hw0, bw0, hlt0, hB0⟩ := boxed w #[.bool n1, .slice A la.length ca, .slice B lb.length cb] 50
  obtain ⟨w1, hw1, bw1, hlt1, hB1⟩ := boxed w0 #[.bool n2, .slice C lc.length cc, .slice D ld.length cd] 50
  obtain ⟨w2, hw2, bw2, hlt2, hB2⟩ := boxed w1 #[.bool false, .slice none 0 0, .slice none 0 0] 50
  have hA2 := (hB0.keep bw1).keep bw2
  have hC2 := hB1.keep bw2
  have b01 := bw0.trans (bw1.mono (Nat.le_of_lt hlt0))
  have b02 := b01.trans (bw2.mono b01.size)
  have ha1 := na.below b02
  have hb1 := nb.below b02
  have hc1 := nc.below b02
  have hd1 := nd.below b02
  have x0 := hA2.f0
  have x1 := hA2.f1
  have x2 := hA2.f2
  have y0 := hC2.f0
  have y1 := hC2.f1
  have y2 := hC2.f2
  have hS : ∀ w', Below w2.heap.size w2 w' → w'.cell? ⟨w.heap.size, 0, none⟩ = some (.bool n1) ∧ w'.cell? ⟨w.heap.size, 1, none⟩ = some (.slice A la.length ca) ∧ w'.cell? ⟨w.heap.size, 2, none⟩ = some (.slice B lb.length cb) ∧ w'.cell? ⟨w0.heap.size, 0, none⟩ = some (.bool n2) ∧ w'.cell? ⟨w0.heap.size, 1, none⟩ = some (.slice C lc.length cc) ∧ w'.cell? ⟨w0.heap.size, 2, none⟩ = some (.slice D ld.length cd) ∧ Below w2.heap.size w2 w' := fun w' o =>
    have p := hA2.keep o; have q := hC2.keep o; ⟨p.f0, p.f1, p.f2, q.f0, q.f1, q.f2, o⟩
  have d6 : Below w2.heap.size w2 w2.drew := (Below.refl _ _).drew
  clear na nb nc nd
  go_enter Try.func42, Try.ntmps42
  go_wp2_with fail
  go_region_held3 (fun w' => w'.cell? ⟨w.heap.size, 0, none⟩ = some (.bool n1) ∧ w'.cell? ⟨w.heap.size, 1, none⟩ = some (.slice A la.length ca) ∧ w'.cell? ⟨w.heap.size, 2, none⟩ = some (.slice B lb.length cb) ∧ w'.cell? ⟨w0.heap.size, 0, none⟩ = some (.bool n2) ∧ w'.cell? ⟨w0.heap.size, 1, none⟩ = some (.slice C lc.length cc) ∧ w'.cell? ⟨w0.heap.size, 2, none⟩ = some (.slice D ld.length cd) ∧ Below w2.heap.size w2 w') (((try go_split_ands); (try dsimp only); exact hS _ (by first | assumption | exact Below.alloc (by assumption) (show Below w2.heap.size w2 _ by assumption).size _ | exact below_set3 (by assumption) (by first | exact Nat.le_refl _ | exact Below.size (B := w2.heap.size) (w := w2) (by assumption)) _ _ _))) (first
    | (go_at_call 57; go_split_ands; (with_reducible refine (refMul_any A C ca cc la lc _ (ha1.below (by assumption)) (hc1.below (by assumption)) (by omega) (by omega)).mono ?_); rintro e w3 ⟨X, cx, x, rfl, nx, ix, mx, b3⟩; have ix' := Lib.hid ix; clear ix; (first | (have hX : Blk _ w2.heap.size _ _ := (Blk.new w2.drew _ _).keep b3) | (have hX := (Blk.new _ _ _).keep b3) | (have hX := hX.keep b3) | skip); have b4 := (show Below w2.heap.size w2 _ by assumption).trans (b3.mono (show Below w2.heap.size w2 _ by assumption).size))
    | (go_at_call 57; go_split_ands; (with_reducible refine (refMul_any B D cb cd lb ld _ (hb1.below (by assumption)) (hd1.below (by assumption)) (by omega) (by omega)).mono ?_); rintro e w5 ⟨Y, cy, y, rfl, ny, iy, my, b5⟩; have iy' := Lib.hid iy; clear iy; (first | (have nx := nx.below b5) | (have nx := (Nv.alloc nx _).below b5)); (first | (have hX := (Blk.new _ _ _).keep b5) | (have hX := hX.keep b5) | skip); have b6 := (show Below w2.heap.size w2 _ by assumption).trans (b5.mono (show Below w2.heap.size w2 _ by assumption).size))
    | (go_at_call 58; go_split_ands; (with_reducible refine (refMake_any (by first | exact nx | exact Nv.alloc nx _) (by first | exact ny | exact Nv.alloc ny _) (by rw [iy'.out.val]; exact h0) ix'.out.canon iy'.out.canon (by omega) (by omega)).mono ?_); rintro e w7 ⟨v, rfl, ⟨m0, A1, c1, l1, B1, d1, m1, rfl, ma, mb, hQ⟩, b7⟩; rw [ix'.out.val, iy'.out.val] at hQ; (first | (have hX := (Blk.new _ _ _).keep b7) | (have hX := hX.keep b7) | skip); have b8 := (show Below w2.heap.size w2 _ by assumption).trans (b7.mono (show Below w2.heap.size w2 _ by assumption).size); (first | (have u0 := hX.f0; have u1 := hX.f1; have u2 := hX.f2; have t0 := hX.free 0; have t1 := hX.free 1; have t2 := hX.free 2) | skip)))
  all_goals
    first
      | (obtain ⟨w8, hw8, hX8, o8⟩ := hX.set3 (.bool m0) (.slice A1 l1.length c1) (.slice B1 m1.length d1); rw [hw8]; have b28 := o8.to_below b8 (by first | exact Nat.le_refl _ | exact Below.size (B := w2.heap.size) (w := w2) (by assumption)) b8.size; have ma8 := ma.only_blk hX (noDig3 _ _ _ _ _ _ _) o8; have mb8 := mb.only_blk hX (noDig3 _ _ _ _ _ _ _) o8)
      | (obtain ⟨w8, hw8, bw8, hlt8, hX8⟩ := boxed w7 #[.bool m0, .slice A1 l1.length c1, .slice B1 m1.length d1] 50; rw [hw8]; have b28 := b8.trans (bw8.mono b8.size); have ma8 := ma.below bw8; have mb8 := mb.below bw8)
    have hBr := hB2.keep b28
    have b08 := b02.trans (b28.mono b02.size)
    have v0 := hX8.f0
    have v1 := hX8.f1
    have v2 := hX8.f2
    have r0 := hBr.f0
    have r1 := hBr.f1
    have r2 := hBr.f2
    have s0 := hBr.free 0
    have s1 := hBr.free 1
    have s2 := hBr.free 2
    go_wp2
    obtain ⟨w9, hw9, hB9, o9⟩ := hBr.set3 (.bool m0) (.slice A1 l1.length c1) (.slice B1 m1.length d1)
    rw [hw9]
    have e0 := hB9.f0
    have e1 := hB9.f1
    have e2 := hB9.f2
    refine bodyPost_ret (v := fracV m0 A1 l1.length c1 B1 m1.length d1) (by simp [results, Try.results42, go_sem, e0, e1, e2]) rfl ?_
    exact ⟨_, rfl, ⟨m0, A1, c1, l1, B1, d1, m1, rfl, ma8.only_blk hBr (noDig3 _ _ _ _ _ _ _) o9, mb8.only_blk hBr (noDig3 _ _ _ _ _ _ _) o9, by rw [← hq'.out]; exact hQ⟩, o9.to_below b08 b01.size b08.size⟩
end Go.Proofs.Ytkjmliebkbbogaa
/- R02 Dot: what the call does. -/
namespace Go.Proofs.Ytkjmliebkbbogaa
set_option linter.unusedVariables false
set_option linter.unusedSimpArgs false
open Go.RowKit Plain
attribute [local go_sem ↓] Go.wp_at_zero Go.wp_at_succ

/-- The products of the elements with the same index. -/
def prods (ds es : List FrD) : List Rat := List.zipWith (fun d e => d.q * e.q) ds es
theorem prods_len (ds es : List FrD) : (prods ds es).length = min ds.length es.length := by simp [prods]
theorem prods_get {ds es : List FrD} {k : Nat} {d e : FrD} (h1 : ds[k]? = some d) (h2 : es[k]? = some e) : (prods ds es)[k]? = some (d.q * e.q) := by
  unfold prods; rw [List.getElem?_zipWith, h1, h2]
theorem sumR_takeL {l : List Rat} {k : Nat} {q : Rat} (h : l[k]? = some q) : sumR (l.take (k + 1)) = sumR (l.take k) + q := by
  have e : l.take (k + 1) = l.take k ++ [q] := by rw [List.take_add_one, h]; rfl
  rw [e, sumR_snoc]
theorem prods_fits {ds es : List FrD} {K : Nat} (h1 : ∀ d ∈ ds, Fits K d.q) (h2 : ∀ d ∈ es, Fits K d.q) : ∀ q ∈ prods ds es, Fits (K + K) q := fun q hq => by
  unfold prods at hq
  rw [List.mem_iff_getElem] at hq
  obtain ⟨i, hi, rfl⟩ := hq
  rw [List.getElem_zipWith]
  exact (h1 _ (List.getElem_mem _)).mul (h2 _ (List.getElem_mem _))

end Go.Proofs.Ytkjmliebkbbogaa
