/- lpcheck.Gap, R19 Gap: what the calls do. -/
import Derived.Test.YtlocaleiloiaoaaPValue
import Derived.Test.YtlocaleiloiaoaaPBounds
import Derived.Test.YtlocaleiloiaoaaPRBounds
import Derived.Test.YtlocaleiloiaoaaPBound
import Derived.Test.YtlocaleiloiaoaaFSub
import Derived.Test.YtlocaleiloiaoaaGSub
import Derived.Deep.RegionWith
namespace Go.Proofs.Ytlocaleiloiaoaa
set_option linter.unusedVariables false
set_option linter.unusedSimpArgs false
open Go.RowKit Plain
attribute [local go_sem ↓] Go.wp_at_zero Go.wp_at_succ

theorem bnds_sum_fits {w : World} {K n m : Nat} {rs : List RowD} {ys : List FrD} (h : rowsB n rs = true) (hf : ∀ r ∈ rs, r.few w K) (h2 : ∀ d ∈ ys, Fits K d.q) (hm : ys.length ≤ m) : Fits (1 + (m + 1) * (K + K + 1)) (sumR (bnds rs ys)) :=
  (fits_sum (bnds_fits h hf h2)).mono (by
    have h3 : (bnds rs ys).length ≤ m + 1 := by rw [bnds_len]; omega
    have := Nat.mul_le_mul_right (K + K + 1) h3
    omega)

set_option maxRecDepth 100000 in
set_option maxHeartbeats 4000000 in
theorem gap_any {K : Nat} {ga ra E X : Option Addr} {gc rc ce cx : Nat} {gs xs ys : List FrD} {rs : List RowD} {w : World} (hg : LD w K ga gc gs) (hr : RL w K ra rc rs) (hwg : whB gs = true) (hw : rowsB gs.length rs = true) (hx : FL w X cx xs) (hy : FL w E ce ys) (hfx : ∀ d ∈ xs, Fits K d.q) (hfy : ∀ d ∈ ys, Fits K d.q)
    (hK : (1 + (ys.length + 1) * (K + K + 1)) + (1 + (gs.length + 1) * (K + K + 1)) < 400000000) :
    Calls Try.prog 25 #[.agg #[.slice ga gs.length gc, .slice ra rs.length rc], .slice X xs.length cx, .slice E ys.length ce] w (RetQ (sumR (bnds rs ys) - sumR (prods gs xs)) w) := by
  obtain ⟨w0, hw0, bw0, hlt0, hB0⟩ := boxed w #[.slice ga gs.length gc, .slice ra rs.length rc] 25
  obtain ⟨w1, hw1, bw1, hlt1, hB1⟩ := boxed w0 #[.bool false, .slice none 0 0, .slice none 0 0] 29
  have hA1 := hB0.keep bw1
  have z0 := hA1.g0
  have z1 := hA1.g1
  have b01 := bw0.trans (bw1.mono (Nat.le_of_lt hlt0))
  have hlg := hg.len
  have hlr := hr.len
  have hlx := hx.len
  have hly := hy.len
  obtain ⟨hfg, hfitg⟩ := hg.fl hwg
  have hfx' := Lib.hid hfx
  have hfy' := Lib.hid hfy
  have hfg' := Lib.hid hfitg
  have hww := Lib.hid hw
  have hs1 := Lib.hid (bnds_sum_fits (m := ys.length) hw hr.few hfy (Nat.le_refl _))
  have hs2 := Lib.hid (prods_sum_fits (m := gs.length) hfitg hfx (Nat.le_refl _))
  clear hfx hfy hfitg hw hwg
  have hKb : 1 + (ys.length + 1) * (K + K + 1) < 400000000 := by omega
  have hKv : 1 + (gs.length + 1) * (K + K + 1) < 400000000 := by omega
  obtain ⟨pb, hpb⟩ : ∃ q, Hid (sumR (bnds rs ys) = q) := ⟨_, rfl⟩
  obtain ⟨pv, hpv⟩ : ∃ q, Hid (sumR (prods gs xs) = q) := ⟨_, rfl⟩
  rw [hpb.out] at hs1
  rw [hpv.out] at hs2
  rw [hpb.out, hpv.out]
  have h3f : Blk3 w1 w0.heap.size 29 := hB1.b3
  have hrf : Only w1 w1 w0.heap.size := Only.refl _ _
  have nd0 := noDig3 false none 0 0 none 0 0
  have hT : ∀ W, Only w1 W w0.heap.size → Below w.heap.size w W := fun W o => o.to_below b01 (Nat.le_of_lt hlt0) b01.size
  have hS : ∀ w', Only w1 w' w0.heap.size → w'.cell? ⟨w.heap.size, 0, none⟩ = some (.slice ga gs.length gc) ∧ w'.cell? ⟨w.heap.size, 1, none⟩ = some (.slice ra rs.length rc) := fun w' o =>
    have p := hA1.only o (Nat.ne_of_lt hlt0); ⟨p.g0, p.g1⟩
  obtain ⟨d0, d1⟩ := hS _ hrf.drew
  have d6 := hrf.drew
  have d7 := h3f.drew
  go_enter Try.func25, Try.ntmps25
  go_wp2_with fail
  go_region_held3 (fun w' => w'.cell? ⟨w.heap.size, 0, none⟩ = some (.slice ga gs.length gc) ∧ w'.cell? ⟨w.heap.size, 1, none⟩ = some (.slice ra rs.length rc) ∧ Only w1 w' w0.heap.size ∧ Blk3 w' w0.heap.size 29) (((try go_split_ands); (try dsimp only); (repeat' with_reducible apply And.intro) <;> with_reducible assumption)) (first
    | (go_at_call 48; go_split_ands; (with_reducible refine (bounds_any (hg.below (hT _ (by assumption))) (hr.below (hT _ (by assumption))) hww.out (hy.below (hT _ (by assumption))) hfy'.out hKb).mono ?_); rintro e w3 ⟨v1, rfl, f1, b3⟩; rw [hpb.out] at f1; have q4 := Blk3.keep (by assumption) b3; have b4 := (show Only w1 _ w0.heap.size by assumption).trans (Only.of_below b3 _); obtain ⟨i0, i1⟩ := hS _ b4)
    | (go_at_call 27; go_split_ands; (with_reducible refine (value_any (hfg.below (hT _ (by assumption))) (hx.below (hT _ (by assumption))) hfg'.out hfx'.out hKv).mono ?_); rintro e w5 ⟨v2, rfl, f2, b5⟩; rw [hpv.out] at f2; have q6 := Blk3.keep (by assumption) b5; have b6 := (show Only w1 _ w0.heap.size by assumption).trans (Only.of_below b5 _); obtain ⟨k0, k1⟩ := hS _ b6)
    | (go_at_call 52; go_split_ands; (with_reducible refine (subF_any (by first | exact f1.below b5 | exact f1) (by first | exact f2 | exact f2.below b3) hs1.out hs2.out hK).mono ?_); rintro e w7 ⟨v3, rfl, ⟨m0, A1, c1, l1, B1, d1, m1, rfl, ma, mb, hQ⟩, b7⟩; have hQ' := Lib.hid hQ; clear hQ; have b8 := (show Only w1 _ w0.heap.size by assumption).trans (Only.of_below b7 _); obtain ⟨k0, k1⟩ := hS _ b8; have q8 := Blk3.keep (t := 29) (by assumption) b7; have q9 := q8.set m0 A1 l1.length c1 B1 m1.length d1; obtain ⟨qa, qb, qc, qd, qe, qf, qg, hB3⟩ := id q8; have b9 := ((b8.set 0 (.bool m0)).set 1 (.slice A1 l1.length c1)).set 2 (.slice B1 m1.length d1); obtain ⟨j0, j1⟩ := hS _ b9; have u0 := hB3.f0; have u1 := hB3.f1; have u2 := hB3.f2; have t0 := hB3.free 0; have t1 := hB3.free 1; have t2 := hB3.free 2))
  all_goals
    clear j0 j1 q9
    go_wp2
    obtain ⟨w9, hw9, hB9, o9⟩ := hB3.set3 (.bool m0) (.slice A1 l1.length c1) (.slice B1 m1.length d1)
    rw [hw9]
    have e0 := hB9.f0
    have e1 := hB9.f1
    have e2 := hB9.f2
    refine bodyPost_ret (v := fracV m0 A1 l1.length c1 B1 m1.length d1) (by simp [results, Try.results25, go_sem, e0, e1, e2]) rfl ?_
    have m1' := ma.only_blk hB3 (noDig3 _ _ _ _ _ _ _) o9
    have m2' := mb.only_blk hB3 (noDig3 _ _ _ _ _ _ _) o9
    exact ⟨_, rfl, ⟨m0, A1, c1, l1, B1, d1, m1, rfl, m1', m2', hQ'.out⟩, hT _ (b8.trans o9)⟩

set_option maxRecDepth 100000 in
set_option maxHeartbeats 4000000 in
theorem refGap_any {K : Nat} {ga ra E X : Option Addr} {gc rc ce cx : Nat} {gs xs ys : List FrD} {rs : List RowD} {w : World} (hg : LD w K ga gc gs) (hr : RL w K ra rc rs) (hwg : whB gs = true) (hw : rowsB gs.length rs = true) (hx : FL w X cx xs) (hy : FL w E ce ys) (hfx : ∀ d ∈ xs, Fits K d.q) (hfy : ∀ d ∈ ys, Fits K d.q)
    (hK : (1 + (ys.length + 1) * (K + K + 1)) + (1 + (gs.length + 1) * (K + K + 1)) < 400000000) :
    Calls Try.prog 26 #[.agg #[.slice ga gs.length gc, .slice ra rs.length rc], .slice X xs.length cx, .slice E ys.length ce] w (RetQ (sumR (bnds rs ys) - sumR (prods gs xs)) w) := by
  obtain ⟨w0, hw0, bw0, hlt0, hB0⟩ := boxed w #[.slice ga gs.length gc, .slice ra rs.length rc] 25
  obtain ⟨w1, hw1, bw1, hlt1, hB1⟩ := boxed w0 #[.bool false, .slice none 0 0, .slice none 0 0] 29
  have hA1 := hB0.keep bw1
  have z0 := hA1.g0
  have z1 := hA1.g1
  have b01 := bw0.trans (bw1.mono (Nat.le_of_lt hlt0))
  have hlg := hg.len
  have hlr := hr.len
  have hlx := hx.len
  have hly := hy.len
  obtain ⟨hfg, hfitg⟩ := hg.fl hwg
  have hfx' := Lib.hid hfx
  have hfy' := Lib.hid hfy
  have hfg' := Lib.hid hfitg
  have hww := Lib.hid hw
  have hs1 := Lib.hid (bnds_sum_fits (m := ys.length) hw hr.few hfy (Nat.le_refl _))
  have hs2 := Lib.hid (prods_sum_fits (m := gs.length) hfitg hfx (Nat.le_refl _))
  clear hfx hfy hfitg hw hwg
  have hKb : 1 + (ys.length + 1) * (K + K + 1) < 400000000 := by omega
  have hKv : 1 + (gs.length + 1) * (K + K + 1) < 400000000 := by omega
  obtain ⟨pb, hpb⟩ : ∃ q, Hid (sumR (bnds rs ys) = q) := ⟨_, rfl⟩
  obtain ⟨pv, hpv⟩ : ∃ q, Hid (sumR (prods gs xs) = q) := ⟨_, rfl⟩
  rw [hpb.out] at hs1
  rw [hpv.out] at hs2
  rw [hpb.out, hpv.out]
  have h3f : Blk3 w1 w0.heap.size 29 := hB1.b3
  have hrf : Only w1 w1 w0.heap.size := Only.refl _ _
  have nd0 := noDig3 false none 0 0 none 0 0
  have hT : ∀ W, Only w1 W w0.heap.size → Below w.heap.size w W := fun W o => o.to_below b01 (Nat.le_of_lt hlt0) b01.size
  have hS : ∀ w', Only w1 w' w0.heap.size → w'.cell? ⟨w.heap.size, 0, none⟩ = some (.slice ga gs.length gc) ∧ w'.cell? ⟨w.heap.size, 1, none⟩ = some (.slice ra rs.length rc) := fun w' o =>
    have p := hA1.only o (Nat.ne_of_lt hlt0); ⟨p.g0, p.g1⟩
  obtain ⟨d0, d1⟩ := hS _ hrf.drew
  have d6 := hrf.drew
  have d7 := h3f.drew
  go_enter Try.func26, Try.ntmps26
  go_wp2_with fail
  go_region_held3 (fun w' => w'.cell? ⟨w.heap.size, 0, none⟩ = some (.slice ga gs.length gc) ∧ w'.cell? ⟨w.heap.size, 1, none⟩ = some (.slice ra rs.length rc) ∧ Only w1 w' w0.heap.size ∧ Blk3 w' w0.heap.size 29) (((try go_split_ands); (try dsimp only); (repeat' with_reducible apply And.intro) <;> with_reducible assumption)) (first
    | (go_at_call 50; go_split_ands; (with_reducible refine (refBounds_any (hg.below (hT _ (by assumption))) (hr.below (hT _ (by assumption))) hww.out (hy.below (hT _ (by assumption))) hfy'.out hKb).mono ?_); rintro e w3 ⟨v1, rfl, f1, b3⟩; rw [hpb.out] at f1; have q4 := Blk3.keep (by assumption) b3; have b4 := (show Only w1 _ w0.heap.size by assumption).trans (Only.of_below b3 _); obtain ⟨i0, i1⟩ := hS _ b4)
    | (go_at_call 14; go_split_ands; (with_reducible refine (refValue_any (hfg.below (hT _ (by assumption))) (hx.below (hT _ (by assumption))) hfg'.out hfx'.out hKv).mono ?_); rintro e w5 ⟨v2, rfl, f2, b5⟩; rw [hpv.out] at f2; have q6 := Blk3.keep (by assumption) b5; have b6 := (show Only w1 _ w0.heap.size by assumption).trans (Only.of_below b5 _); obtain ⟨k0, k1⟩ := hS _ b6)
    | (go_at_call 35; go_split_ands; (with_reducible refine (refSubF_any (by first | exact f1.below b5 | exact f1) (by first | exact f2 | exact f2.below b3) hs1.out hs2.out hK).mono ?_); rintro e w7 ⟨v3, rfl, ⟨m0, A1, c1, l1, B1, d1, m1, rfl, ma, mb, hQ⟩, b7⟩; have hQ' := Lib.hid hQ; clear hQ; have b8 := (show Only w1 _ w0.heap.size by assumption).trans (Only.of_below b7 _); obtain ⟨k0, k1⟩ := hS _ b8; have q8 := Blk3.keep (t := 29) (by assumption) b7; have q9 := q8.set m0 A1 l1.length c1 B1 m1.length d1; obtain ⟨qa, qb, qc, qd, qe, qf, qg, hB3⟩ := id q8; have b9 := ((b8.set 0 (.bool m0)).set 1 (.slice A1 l1.length c1)).set 2 (.slice B1 m1.length d1); obtain ⟨j0, j1⟩ := hS _ b9; have u0 := hB3.f0; have u1 := hB3.f1; have u2 := hB3.f2; have t0 := hB3.free 0; have t1 := hB3.free 1; have t2 := hB3.free 2))
  all_goals
    clear j0 j1 q9
    go_wp2
    obtain ⟨w9, hw9, hB9, o9⟩ := hB3.set3 (.bool m0) (.slice A1 l1.length c1) (.slice B1 m1.length d1)
    rw [hw9]
    have e0 := hB9.f0
    have e1 := hB9.f1
    have e2 := hB9.f2
    refine bodyPost_ret (v := fracV m0 A1 l1.length c1 B1 m1.length d1) (by simp [results, Try.results26, go_sem, e0, e1, e2]) rfl ?_
    have m1' := ma.only_blk hB3 (noDig3 _ _ _ _ _ _ _) o9
    have m2' := mb.only_blk hB3 (noDig3 _ _ _ _ _ _ _) o9
    exact ⟨_, rfl, ⟨m0, A1, c1, l1, B1, d1, m1, rfl, m1', m2', hQ'.out⟩, hT _ (b8.trans o9)⟩
end Go.Proofs.Ytlocaleiloiaoaa
