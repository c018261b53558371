/- lpcheck.Bound: what the call does. -/
import Derived.Test.YtlocaleiloiaoaaPNonneg
import Derived.Test.YtlocaleiloiaoaaPBounds
import Derived.Test.YtlocaleiloiaoaaFCmp
import Derived.Deep.RegionWith
namespace Go.Proofs.Ytlocaleiloiaoaa
set_option linter.unusedVariables false
set_option linter.unusedSimpArgs false
open Go.RowKit Plain
attribute [local go_sem ↓] Go.wp_at_zero Go.wp_at_succ

/-- A round over the numbers 0, .., n - 1. -/
def RngInv (f : Nat → Bool) (n : Nat) (w : World) (i : Value) (wr : World) : Prop := ∃ k : Nat, k ≤ n ∧ i = .int .i64 (k : Int) ∧ Hid (∀ j, j < k → f j = true) ∧ Below w.heap.size w wr
def allN (n : Nat) (f : Nat → Bool) : Bool := (List.range n).all f
theorem allN_of {n : Nat} {f : Nat → Bool} (h : ∀ j, j < n → f j = true) : allN n f = true := by
  unfold allN; rw [List.all_eq_true]; exact fun j hj => h j (List.mem_range.1 hj)
theorem allN_no {n k : Nat} {f : Nat → Bool} (hk : k < n) (h : f k = false) : allN n f = false := by
  unfold allN; rw [List.all_eq_false]; exact ⟨k, List.mem_range.2 hk, by rw [h]; decide⟩
theorem rng_snoc {f : Nat → Bool} {k : Nat} (h : ∀ j, j < k → f j = true) (hk : f k = true) : ∀ j, j < k + 1 → f j = true := fun j hj => by
  by_cases e : j = k
  · subst e; exact hk
  · exact h j (by omega)
def gq (gs : List FrD) (k : Nat) : Rat := match gs[k]? with | some d => d.q | none => 0
def colOk (gs : List FrD) (rs : List RowD) (ys : List FrD) (k : Nat) : Bool := !decide (cmpR (sumR (cols rs ys k)) (gq gs k) < 0)
def dualB (gs : List FrD) (rs : List RowD) (ys : List FrD) : Bool := (rowsB gs.length rs && whB gs) && (posB ys rs.length && allN gs.length (colOk gs rs ys))
/-- A fraction and true; or zero and false. -/
def RetQB (b : Bool) (q : Rat) (W : World) (e : Ending) (w' : World) : Prop :=
  ∃ v, e = .returned (.tuple #[v, .bool b]) ∧ (b = true → FV w' v q) ∧ (b = false → v = fracV false none 0 0 none 0 0) ∧ Below W.heap.size W w'
theorem cols_sum_fits {w : World} {K n k m : Nat} {rs : List RowD} {ys : List FrD} (h : rowsB n rs = true) (hk : k < n) (hf : ∀ r ∈ rs, r.few w K) (h2 : ∀ d ∈ ys, Fits K d.q) (hm : ys.length ≤ m) : Fits (1 + (m + 1) * (K + K + 1)) (sumR (cols rs ys k)) :=
  (fits_sum (cols_fits h hk hf h2)).mono (by
    have h3 : (cols rs ys k).length ≤ m + 1 := by rw [cols_len]; omega
    have := Nat.mul_le_mul_right (K + K + 1) h3
    omega)

set_option maxRecDepth 100000 in
set_option maxHeartbeats 4000000 in
theorem bound_any {K : Nat} {ga ra E : Option Addr} {gc rc ce : Nat} {gs ys : List FrD} {rs : List RowD} {w : World} (hg : LD w K ga gc gs) (hr : RL w K ra rc rs) (hy : LD w K E ce ys) (hK : 1 + (rs.length + 1) * (K + K + 1) + K < 400000000) :
    Calls Try.prog 20 #[.agg #[.slice ga gs.length gc, .slice ra rs.length rc], .slice E ys.length ce] w (RetQB (dualB gs rs ys) (sumR (bnds rs ys)) w) := by
  obtain ⟨w0, hw0, bw0, hlt0, hB0⟩ := boxed w #[.slice ga gs.length gc, .slice ra rs.length rc] 25
  obtain ⟨w1, hw1, bw1, hlt1, hR1⟩ := boxed w0 #[.bool false, .slice none 0 0, .slice none 0 0] 29
  have hB1 := hB0.keep bw1
  have b01 := bw0.trans (bw1.mono (Nat.le_of_lt hlt0))
  have hgr : w.heap.size < w0.heap.size := hlt0
  have hlg := hg.len
  have hlr := hr.len
  have hly := hy.len
  have hKs : K ≤ 400000000 := by rw [Nat.add_mul] at hK; omega
  obtain ⟨v, hv⟩ : ∃ v, Hid (dualB gs rs ys = v) := ⟨_, rfl⟩
  obtain ⟨qb, hqb⟩ : ∃ qb, Hid (sumR (bnds rs ys) = qb) := ⟨_, rfl⟩
  have z0 := hB1.g0
  have z1 := hB1.g1
  rw [hv.out, hqb.out]
  go_enter Try.func20, Try.ntmps20
  go_wp2_with fail
  refine (formed_any (hg.below b01) (hr.below b01) hKs).mono ?_
  rintro e w2 ⟨rfl, b2⟩
  have hB2 := hB1.keep b2
  have hR2 := hR1.keep b2
  have b02 := b01.trans (b2.mono b01.size)
  have b020 := bw1.trans (b2.mono (Nat.le_of_lt hlt1))
  have t0 := hB2.g0
  have t1 := hB2.g1
  have r0 := hR2.free 0
  have r1 := hR2.free 1
  have r2 := hR2.free 2
  have r3 := hR2.f0
  have r4 := hR2.f1
  have r5 := hR2.f2
  clear z0 z1
  rcases hfm : (rowsB gs.length rs && whB gs) with _ | _
  · have hf : Hid (v = false) := by show v = false; rw [← hv.out]; unfold dualB; rw [hfm]; rfl
    go_wp2
    obtain ⟨w9, hw9, hB9, o9⟩ := hR2.set3 (.bool false) (.slice none 0 0) (.slice none 0 0)
    rw [hw9]
    have e0 := hB9.f0
    have e1 := hB9.f1
    have e2 := hB9.f2
    refine bodyPost_ret (v := .tuple #[fracV false none 0 0 none 0 0, .bool false]) (by simp [results, Try.results20, go_sem, e0, e1, e2]) rfl ?_
    exact ⟨_, by rw [hf.out], fun h => (by rw [hf.out] at h; cases h), fun _ => rfl, bw0.trans ((o9.to_below b020 (Nat.le_refl _) b020.size).mono (Nat.le_of_lt hlt0))⟩
  go_wp2_with fail
  refine (nonneg_any (n := rs.length) (hy.below b02) hKs (by omega)).mono ?_
  rintro e w3 ⟨rfl, b3⟩
  have hB3 := hB2.keep b3
  have hR3 := hR2.keep b3
  have b03 := b02.trans (b3.mono b02.size)
  have b030 := b020.trans (b3.mono b020.size)
  clear t0 t1 r0 r1 r2 r3 r4 r5
  have u0 := hB3.g0
  have u1 := hB3.g1
  have r0 := hR3.free 0
  have r1 := hR3.free 1
  have r2 := hR3.free 2
  have r3 := hR3.f0
  have r4 := hR3.f1
  have r5 := hR3.f2
  rcases hps : posB ys rs.length with _ | _
  · have hf : Hid (v = false) := by show v = false; rw [← hv.out]; unfold dualB; rw [hfm, hps]; rfl
    go_wp2
    obtain ⟨w9, hw9, hB9, o9⟩ := hR3.set3 (.bool false) (.slice none 0 0) (.slice none 0 0)
    rw [hw9]
    have e0 := hB9.f0
    have e1 := hB9.f1
    have e2 := hB9.f2
    refine bodyPost_ret (v := .tuple #[fracV false none 0 0 none 0 0, .bool false]) (by simp [results, Try.results20, go_sem, e0, e1, e2]) rfl ?_
    exact ⟨_, by rw [hf.out], fun h => (by rw [hf.out] at h; cases h), fun _ => rfl, bw0.trans ((o9.to_below b030 (Nat.le_refl _) b030.size).mono (Nat.le_of_lt hlt0))⟩
  have hvr : Hid (allN gs.length (colOk gs rs ys) = v) := by show _ = v; rw [← hv.out]; unfold dualB; rw [hfm, hps]; rfl
  have hrw := Lib.hid (show rowsB gs.length rs = true by rw [Bool.and_eq_true] at hfm; exact hfm.1)
  have hwg : whB gs = true := by rw [Bool.and_eq_true] at hfm; exact hfm.2
  have hwy : whB ys = true := by unfold posB at hps; simp only [Bool.and_eq_true] at hps; exact hps.2.1
  have hleny : Hid (ys.length = rs.length) := by unfold posB at hps; simp only [Bool.and_eq_true, decide_eq_true_eq] at hps; exact hps.1
  obtain ⟨hfy, hfity⟩ := hy.fl hwy
  obtain ⟨hfg, hfitg⟩ := hg.fl hwg
  have hfy1 := Lib.hid hfity
  have hfg1 := Lib.hid hfitg
  clear hfm hps hwy hfity hwg hfitg
  have hK2 := Lib.hid (show 1 + (ys.length + 1) * (K + K + 1) < 400000000 by rw [hleny.out]; omega)
  go_wp2
  go_loopw [6, 22] (fun b i wr => RngInv (colOk gs rs ys) gs.length w3 i wr) (fun _ i _ => gs.length - (intOf i).toNat)
  case atStart => exact ⟨0, by omega, rfl, fun j hj => by omega, Below.refl _ _⟩
  case round =>
    obtain ⟨k, hk, rfl, hall, hbel3⟩ := hrel
    have hXk := hB3.keep hbel3
    have hRk := hR3.keep hbel3
    have hbel := b03.trans (hbel3.mono b03.size)
    have hbel0 := b030.trans (hbel3.mono b030.size)
    clear u0 u1 r0 r1 r2 r3 r4 r5
    have x0 := hXk.g0
    have x1 := hXk.g1
    by_cases hkl : k < gs.length
    · obtain ⟨a, d, rfl, hab, hc0, hc1, hc2, hfd, hdk⟩ := (hfg.below hbel).at hkl
      have hki : (k : Int) < (gs.length : Int) := by omega
      have hfd1 := Lib.hid (hfg1.out d (List.mem_of_getElem? hdk.out))
      have hgq := Lib.hid (show gq gs k = d.q by unfold gq; rw [hdk.out])
      have bD : Below w.heap.size w wr.drew := hbel.drew
      have bD3 : Below w3.heap.size w3 wr.drew := hbel3.drew
      have bD0 : Below w0.heap.size w0 wr.drew := hbel0.drew
      have hgD := hg.below bD
      have hrD := hr.below bD
      have hfyD := hfy.below bD
      have hfdD : FV wr.drew d.v d.q := hfd.below (Below.refl _ _).drew
      have hXD : Blk wr.drew w.heap.size 25 #[.slice (some a) gs.length gc, .slice ra rs.length rc] := hXk
      have hRD : Blk wr.drew w0.heap.size 29 #[.bool false, .slice none 0 0, .slice none 0 0] := hRk
      have hS : ∀ w', Below wr.drew.heap.size wr.drew w' → w'.cell? (a.add (k * 3)) = some (.bool d.neg) ∧ w'.cell? ⟨(a.add (k * 3)).block, (a.add (k * 3)).off + 1, none⟩ = some (.slice d.a d.la.length d.ca) ∧ w'.cell? ⟨(a.add (k * 3)).block, (a.add (k * 3)).off + 2, none⟩ = some (.slice d.b d.lb.length d.cb) ∧ w'.cell? ⟨w.heap.size, 0, none⟩ = some (.slice (some a) gs.length gc) ∧ w'.cell? ⟨w.heap.size, 1, none⟩ = some (.slice ra rs.length rc) := by
        intro w' o
        have hXw := hXD.keep o
        exact ⟨(o.cell (by rw [block_add]; exact hab)).trans hc0, (o.cell (by show (a.add (k * 3)).block < _; rw [block_add]; exact hab)).trans hc1, (o.cell (by show (a.add (k * 3)).block < _; rw [block_add]; exact hab)).trans hc2, hXw.g0, hXw.g1⟩
      have hsf := Lib.hid (cols_sum_fits (m := rs.length) hrw.out hkl hr.few hfy1.out (by rw [hleny.out]; omega))
      go_wp2_with fail
      go_region_with (first
        | (go_at_call 47; refine (column_any hgD hrD hrw.out hfyD hfy1.out hK2.out hkl (by omega) (by rw [hleny.out]; omega)).mono ?_; rintro e w5 ⟨v5, rfl, hf5, b5⟩; obtain ⟨i1, i2, i3, i4, i5⟩ := hS _ b5; have b05 := bD.trans (b5.mono bD.size); have b051 := bD3.trans (b5.mono bD3.size); have b052 := bD0.trans (b5.mono bD0.size); have hR5 := hRD.keep b5; have fd5 := hfdD.below b5)
        | (go_at_call 45; refine (cmpF_any hf5 fd5 hsf.out hfd1.out (by omega) hKs).mono ?_; rintro e w6 ⟨rfl, b6⟩; have b06 := b05.trans (b6.mono b05.size); have b061 := b051.trans (b6.mono b051.size); have b062 := b052.trans (b6.mono b052.size); have hR6 := hR5.keep b6))
      all_goals
        have r0 := hR6.free 0
        have r1 := hR6.free 1
        have r2 := hR6.free 2
        have r3 := hR6.f0
        have r4 := hR6.f1
        have r5 := hR6.f2
        rcases hs : decide (cmpR (sumR (cols rs ys k)) d.q < 0) with _ | _
        · have hf := Lib.hid (show ∀ j, j < k + 1 → colOk gs rs ys j = true from rng_snoc hall.out (by unfold colOk; rw [hgq.out, hs]; rfl))
          go_wp2
          go_roundw
          case rel => exact ⟨k + 1, by omega, by go_num, hf, b061⟩
          case measure => simp [intOf]; omega
        · have hf : Hid (v = false) := by
            show v = false
            rw [← hvr.out]; exact allN_no hkl (by unfold colOk; rw [hgq.out, hs]; rfl)
          go_wp2
          obtain ⟨w9, hw9, hB9, o9⟩ := hR6.set3 (.bool false) (.slice none 0 0) (.slice none 0 0)
          rw [hw9]
          have e0 := hB9.f0
          have e1 := hB9.f1
          have e2 := hB9.f2
          refine bodyPost_ret (v := .tuple #[fracV false none 0 0 none 0 0, .bool false]) (by simp [results, Try.results20, go_sem, e0, e1, e2]) rfl ?_
          exact ⟨_, by rw [hf.out], fun h => (by rw [hf.out] at h; cases h), fun _ => rfl, bw0.trans ((o9.to_below b062 (Nat.le_refl _) b062.size).mono (Nat.le_of_lt hlt0))⟩
    · obtain rfl : k = gs.length := by omega
      have hlt' : decide ((gs.length : Int) < (gs.length : Int)) = false := decide_eq_false (by omega)
      have hf : Hid (v = true) := by show v = true; rw [← hvr.out]; exact allN_of hall.out
      go_wp2_with fail
      refine (bounds_any (hg.below hbel) (hr.below hbel) hrw.out (hfy.below hbel) hfy1.out hK2.out).mono ?_
      rintro e w5 ⟨v5, rfl, ⟨n5, A5, c5, l5, B5, d5, m5, rfl, na5, nb5, iq5⟩, b5⟩
      rw [hqb.out] at iq5
      have iq5' := Lib.hid iq5
      clear iq5
      have hR5 := hRk.keep b5
      have b05 := hbel0.trans (b5.mono hbel0.size)
      have p0 := hR5.f0
      have p1 := hR5.f1
      have p2 := hR5.f2
      have q0 := hR5.free 0
      have q1 := hR5.free 1
      have q2 := hR5.free 2
      go_wp2
      obtain ⟨w9, hw9, hB9, o9⟩ := hR5.set3 (.bool n5) (.slice A5 l5.length c5) (.slice B5 m5.length d5)
      rw [hw9]
      have e0 := hB9.f0
      have e1 := hB9.f1
      have e2 := hB9.f2
      refine bodyPost_ret (v := .tuple #[fracV n5 A5 l5.length c5 B5 m5.length d5, .bool true]) (by simp [results, Try.results20, go_sem, e0, e1, e2]) rfl ?_
      exact ⟨_, by rw [hf.out], fun _ => ⟨n5, A5, c5, l5, B5, d5, m5, rfl, na5.only_blk hR5 (noDig3 _ _ _ _ _ _ _) o9, nb5.only_blk hR5 (noDig3 _ _ _ _ _ _ _) o9, iq5'.out⟩, fun h => (by rw [hf.out] at h; cases h), bw0.trans ((o9.to_below b05 (Nat.le_refl _) b05.size).mono (Nat.le_of_lt hlt0))⟩
end Go.Proofs.Ytlocaleiloiaoaa
