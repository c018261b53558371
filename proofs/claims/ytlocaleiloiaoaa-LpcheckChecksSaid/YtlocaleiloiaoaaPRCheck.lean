/- R19 Check: what the call does. -/
import Derived.Test.YtlocaleiloiaoaaPOpenS
import Derived.Test.YtlocaleiloiaoaaPREnd
import Derived.Test.YtlocaleiloiaoaaPRFeas
import Derived.Test.YtlocaleiloiaoaaPRBound
import Derived.Deep.RegionHeld3
namespace Go.Proofs.Ytlocaleiloiaoaa
set_option linter.unusedVariables false
set_option linter.unusedSimpArgs false
open Go.RowKit Plain
attribute [local go_sem ↓] Go.wp_at_zero Go.wp_at_succ

theorem optB_ref {gs xs ys : List FrD} {rs : List RowD} {d : FrD} (h1 : feaB gs rs xs = true) (h2 : dualB gs rs ys = true) :
    optB gs rs d xs ys = ((d.vld && decide (sumR (bnds rs ys) = d.q)) && (d.vld && decide (sumR (prods gs xs) = d.q))) := by
  unfold optB
  rw [h1, h2]
  rcases hd : d.vld with _ | _
  · rfl
  · rw [Bool.eq_iff_iff]
    simp only [Bool.true_and, Bool.and_eq_true, decide_eq_true_eq]
    constructor
    · rintro ⟨e1, e2⟩
      exact ⟨e2.symm, by rw [e1, e2]⟩
    · rintro ⟨e1, e2⟩
      exact ⟨by rw [e1, e2], e1.symm⟩

set_option maxRecDepth 100000 in
set_option maxHeartbeats 4000000 in
theorem refCheck_any {K : Nat} {ga ra : Option Addr} {gc rc : Nat} {gs : List FrD} {rs : List RowD} {s : SolD} {w : World} (hg : LD w K ga gc gs) (hr : RL w K ra rc rs) (hs : s.few w K)
    (hK1 : 1 + (rs.length + 1) * (K + K + 1) + K < 400000000) (hK2 : 1 + (gs.length + 1) * (K + K + 1) + K < 400000000) :
    Calls Try.prog 18 #[.agg #[.slice ga gs.length gc, .slice ra rs.length rc], s.v] w (RetI (checkN gs rs s) w) := by
  obtain ⟨w0, hw0, bw0, hlt0, hA0⟩ := boxed w #[.slice ga gs.length gc, .slice ra rs.length rc] 25
  obtain ⟨w1, hw1, bw1, hlt1, hC1⟩ := boxed w0 s.cs 31
  have hA1 := hA0.keep bw1
  have b01 := bw0.trans (bw1.mono (Nat.le_of_lt hlt0))
  have z0 := hA1.g0
  have z1 := hA1.g1
  have hlg := hg.len
  have hlr := hr.len
  have hKs : K ≤ 400000000 := by rw [Nat.add_mul] at hK1; omega
  obtain ⟨v, hv⟩ : ∃ v, Hid (checkN gs rs s = v) := ⟨_, rfl⟩
  rw [hv.out]
  go_enter Try.func18, Try.ntmps18
  go_wp2_with fail
  refine (refFormed_any (hg.below b01) (hr.below b01) hKs).mono ?_
  rintro e w2 ⟨rfl, b2⟩
  have hA2 := hA1.keep b2
  have hC2 := hC1.keep b2
  have b02 := b01.trans (b2.mono b01.size)
  clear z0 z1
  rcases hfm : (rowsB gs.length rs && whB gs) with _ | _
  · have hf : Hid (v = 2) := by show v = 2; rw [← hv.out]; unfold checkN; rw [if_pos hfm]
    go_wp2
    go_ret
    exact ⟨by rw [hf.out]; rfl, b02⟩
  have hv2 : Hid ((if provenB gs rs s = true then (0 : Int) else 13) = v) := by show _ = v; rw [← hv.out]; exact (checkN_ok hfm).symm
  have hrw : rowsB gs.length rs = true := by rw [Bool.and_eq_true] at hfm; exact hfm.1
  have hwg : whB gs = true := by rw [Bool.and_eq_true] at hfm; exact hfm.2
  have hrw' := Lib.hid hrw
  have hwg' := Lib.hid hwg
  have hx2 := hs.below b02
  clear hrw hwg hfm hv
  obtain ⟨st, hst⟩ : ∃ st, Hid (s.st = st) := ⟨_, rfl⟩
  have z0 := hA2.g0
  have z1 := hA2.g1
  have c0 : w2.cell? ⟨w0.heap.size, 0, none⟩ = some (.int .i64 st) := by have := hC2.cell 0; rw [← hst.out]; exact this
  have c1 : w2.cell? ⟨w0.heap.size, 1, none⟩ = some (.bool s.d.neg) := hC2.cell 1
  have c2 : w2.cell? ⟨w0.heap.size, 2, none⟩ = some (.slice s.d.a s.d.la.length s.d.ca) := hC2.cell 2
  have c3 : w2.cell? ⟨w0.heap.size, 3, none⟩ = some (.slice s.d.b s.d.lb.length s.d.cb) := hC2.cell 3
  have c4 : w2.cell? ⟨w0.heap.size, 4, none⟩ = some (.slice s.xa s.xs.length s.xc) := hC2.cell 4
  have c5 : w2.cell? ⟨w0.heap.size, 5, none⟩ = some (.slice s.ya s.ys.length s.yc) := hC2.cell 5
  have c6 : w2.cell? ⟨w0.heap.size, 6, none⟩ = some (.slice s.za s.zs.length s.zc) := hC2.cell 6
  by_cases h1 : st = 1
  · have n1 : (st == 1) = true := by simpa using h1
    have n2 : (st == 2) = false := by rw [h1]; rfl
    have n3 : (st == 3) = false := by rw [h1]; rfl
    have hv3 : Hid (provenB gs rs s = optB gs rs s.d s.xs s.ys) := by show _ = _; unfold provenB; rw [hst.out, if_pos h1]
    rw [hv3.out] at hv2
    clear h1 hv3
    go_wp2_with fail
    refine (refFeasible_any (hg.below b02) (hr.below b02) hx2.x hK2).mono ?_
    rintro e w3 ⟨rfl, b3⟩
    have hA3 := hA2.keep b3
    have hC3 := hC2.keep b3
    have b03 := b02.trans (b3.mono b02.size)
    have hx3 := hx2.below b3
    clear z0 z1 c0 c1 c2 c3 c4 c5 c6
    have z0 := hA3.g0
    have z1 := hA3.g1
    have c0 : w3.cell? ⟨w0.heap.size, 0, none⟩ = some (.int .i64 st) := by have := hC3.cell 0; rw [← hst.out]; exact this
    have c1 : w3.cell? ⟨w0.heap.size, 1, none⟩ = some (.bool s.d.neg) := hC3.cell 1
    have c2 : w3.cell? ⟨w0.heap.size, 2, none⟩ = some (.slice s.d.a s.d.la.length s.d.ca) := hC3.cell 2
    have c3 : w3.cell? ⟨w0.heap.size, 3, none⟩ = some (.slice s.d.b s.d.lb.length s.d.cb) := hC3.cell 3
    have c4 : w3.cell? ⟨w0.heap.size, 4, none⟩ = some (.slice s.xa s.xs.length s.xc) := hC3.cell 4
    have c5 : w3.cell? ⟨w0.heap.size, 5, none⟩ = some (.slice s.ya s.ys.length s.yc) := hC3.cell 5
    have c6 : w3.cell? ⟨w0.heap.size, 6, none⟩ = some (.slice s.za s.zs.length s.zc) := hC3.cell 6
    rcases hfe : feaB gs rs s.xs with _ | _
    · have hf : Hid (v = 13) := by
        show v = 13
        have hpf : optB gs rs s.d s.xs s.ys = false := by unfold optB; rw [hfe]; rfl
        rw [← hv2.out, hpf]; rfl
      go_wp2
      go_ret
      exact ⟨by rw [hf.out]; rfl, b03⟩
    go_wp2_with fail
    refine (refBound_any (hg.below b03) (hr.below b03) hx3.y hK1).mono ?_
    rintro e w4 ⟨v4, rfl, hT4, hF4, b4⟩
    have hA4 := hA3.keep b4
    have hC4 := hC3.keep b4
    have b04 := b03.trans (b4.mono b03.size)
    have hx4 := hx3.below b4
    clear z0 z1 c0 c1 c2 c3 c4 c5 c6
    have z0 := hA4.g0
    have z1 := hA4.g1
    have c0 : w4.cell? ⟨w0.heap.size, 0, none⟩ = some (.int .i64 st) := by have := hC4.cell 0; rw [← hst.out]; exact this
    have c1 : w4.cell? ⟨w0.heap.size, 1, none⟩ = some (.bool s.d.neg) := hC4.cell 1
    have c2 : w4.cell? ⟨w0.heap.size, 2, none⟩ = some (.slice s.d.a s.d.la.length s.d.ca) := hC4.cell 2
    have c3 : w4.cell? ⟨w0.heap.size, 3, none⟩ = some (.slice s.d.b s.d.lb.length s.d.cb) := hC4.cell 3
    have c4 : w4.cell? ⟨w0.heap.size, 4, none⟩ = some (.slice s.xa s.xs.length s.xc) := hC4.cell 4
    have c5 : w4.cell? ⟨w0.heap.size, 5, none⟩ = some (.slice s.ya s.ys.length s.yc) := hC4.cell 5
    have c6 : w4.cell? ⟨w0.heap.size, 6, none⟩ = some (.slice s.za s.zs.length s.zc) := hC4.cell 6
    rcases hdu : dualB gs rs s.ys with _ | _
    · have hf : Hid (v = 13) := by
        show v = 13
        have hpf : optB gs rs s.d s.xs s.ys = false := by unfold optB; rw [hfe, hdu]; simp
        rw [← hv2.out, hpf]; rfl
      obtain rfl := hF4 hdu
      clear hF4 hT4 hdu hfe
      obtain ⟨w5, hw5, bw5, hlt5, hP5⟩ := boxed w4 #[.bool false, .slice none 0 0, .slice none 0 0] 29
      have p0 := hP5.f0
      have p1 := hP5.f1
      have p2 := hP5.f2
      have q0 := hP5.free 0
      have q1 := hP5.free 1
      have q2 := hP5.free 2
      have s0 := hP5.same (i := 0) (u := .bool false) rfl
      have s1 := hP5.same (i := 1) (u := .slice none 0 0) rfl
      have s2 := hP5.same (i := 2) (u := .slice none 0 0) rfl
      have b05 := b04.trans (bw5.mono b04.size)
      have hA5 := hA4.keep bw5
      have hC5 := hC4.keep bw5
      have z0' :=  hA5.g0
      have z1' :=  hA5.g1
      have c0' : w5.cell? ⟨w0.heap.size, 0, none⟩ = some (.int .i64 st) :=  by have :=  hC5.cell 0; rw [← hst.out]; exact this
      have c1' : w5.cell? ⟨w0.heap.size, 1, none⟩ = some (.bool s.d.neg) :=  hC5.cell 1
      have c2' : w5.cell? ⟨w0.heap.size, 2, none⟩ = some (.slice s.d.a s.d.la.length s.d.ca) :=  hC5.cell 2
      have c3' : w5.cell? ⟨w0.heap.size, 3, none⟩ = some (.slice s.d.b s.d.lb.length s.d.cb) :=  hC5.cell 3
      have c4' : w5.cell? ⟨w0.heap.size, 4, none⟩ = some (.slice s.xa s.xs.length s.xc) :=  hC5.cell 4
      have c5' : w5.cell? ⟨w0.heap.size, 5, none⟩ = some (.slice s.ya s.ys.length s.yc) :=  hC5.cell 5
      have c6' : w5.cell? ⟨w0.heap.size, 6, none⟩ = some (.slice s.za s.zs.length s.zc) :=  hC5.cell 6
      have hS : ∀ w', Below w5.heap.size w5 w' → w'.cell? ⟨w.heap.size, 0, none⟩ = some (.slice ga gs.length gc) ∧ w'.cell? ⟨w.heap.size, 1, none⟩ = some (.slice ra rs.length rc) ∧ w'.cell? ⟨w0.heap.size, 0, none⟩ = some (.int .i64 st) ∧ w'.cell? ⟨w0.heap.size, 1, none⟩ = some (.bool s.d.neg) ∧ w'.cell? ⟨w0.heap.size, 2, none⟩ = some (.slice s.d.a s.d.la.length s.d.ca) ∧ w'.cell? ⟨w0.heap.size, 3, none⟩ = some (.slice s.d.b s.d.lb.length s.d.cb) ∧ w'.cell? ⟨w0.heap.size, 4, none⟩ = some (.slice s.xa s.xs.length s.xc) ∧ w'.cell? ⟨w0.heap.size, 5, none⟩ = some (.slice s.ya s.ys.length s.yc) ∧ w'.cell? ⟨w0.heap.size, 6, none⟩ = some (.slice s.za s.zs.length s.zc) ∧ Below w5.heap.size w5 w' := by
        intro w' o
        have hXw := hA5.keep o
        have hCw := hC5.keep o
        exact ⟨hXw.g0, hXw.g1, by have := hCw.cell 0; rw [← hst.out]; exact this, hCw.cell 1, hCw.cell 2, hCw.cell 3, hCw.cell 4, hCw.cell 5, hCw.cell 6, o⟩
      have dS : Below w5.heap.size w5 w5.drew := (Below.refl _ _).drew
      go_wp2_with fail
      refine wp_region_noPanic ?_
      refine wp_region_held_drew (S := fun w' => w'.cell? ⟨w.heap.size, 0, none⟩ = some (.slice ga gs.length gc) ∧ w'.cell? ⟨w.heap.size, 1, none⟩ = some (.slice ra rs.length rc) ∧ w'.cell? ⟨w0.heap.size, 0, none⟩ = some (.int .i64 st) ∧ w'.cell? ⟨w0.heap.size, 1, none⟩ = some (.bool s.d.neg) ∧ w'.cell? ⟨w0.heap.size, 2, none⟩ = some (.slice s.d.a s.d.la.length s.d.ca) ∧ w'.cell? ⟨w0.heap.size, 3, none⟩ = some (.slice s.d.b s.d.lb.length s.d.cb) ∧ w'.cell? ⟨w0.heap.size, 4, none⟩ = some (.slice s.xa s.xs.length s.xc) ∧ w'.cell? ⟨w0.heap.size, 5, none⟩ = some (.slice s.ya s.ys.length s.yc) ∧ w'.cell? ⟨w0.heap.size, 6, none⟩ = some (.slice s.za s.zs.length s.zc) ∧ Below w5.heap.size w5 w') (by kernel_rfl) (hS _ dS) (fun hHeld => ?_)
      refine wpAnyH_take (i := 0) (v := ?_) rfl (by kernel_rfl) (by kernel_rfl) (by kernel_rfl) (fun _ _ _ h => h) (Or.inl ⟨by rfl, ?_⟩) hHeld ?_
      rotate_left
      · (intro w hSw; (try dsimp only at hSw); go_simp)
        all_goals with_reducible rfl
      try simp only [Act.put, List.getElem_toArray, List.getElem_cons_succ, List.getElem_cons_zero, List.setIfInBounds_toArray, List.set_cons_zero, List.set_cons_succ]
      refine wpAnyH_take (i := 1) (v := ?_) rfl (by kernel_rfl) (by kernel_rfl) (by kernel_rfl) (fun _ _ _ h => h) (Or.inl ⟨by rfl, ?_⟩) hHeld ?_
      rotate_left
      · (intro w hSw; (try dsimp only at hSw); go_simp)
        all_goals with_reducible rfl
      try simp only [Act.put, List.getElem_toArray, List.getElem_cons_succ, List.getElem_cons_zero, List.setIfInBounds_toArray, List.set_cons_zero, List.set_cons_succ]
      refine wpAnyH_take (i := 2) (v := undef) rfl (by kernel_rfl) (by kernel_rfl) (by kernel_rfl) (fun _ _ _ h => h) (Or.inr ⟨by kernel_rfl, rfl⟩) hHeld ?_
      try simp only [Act.put, List.getElem_toArray, List.getElem_cons_succ, List.getElem_cons_zero, List.setIfInBounds_toArray, List.set_cons_zero, List.set_cons_succ]
      refine wpAnyH_take (i := 3) (v := undef) rfl (by kernel_rfl) (by kernel_rfl) (by kernel_rfl) (fun _ _ _ h => h) (Or.inr ⟨by kernel_rfl, rfl⟩) hHeld ?_
      try simp only [Act.put, List.getElem_toArray, List.getElem_cons_succ, List.getElem_cons_zero, List.setIfInBounds_toArray, List.set_cons_zero, List.set_cons_succ]
      refine wpAnyH_take (i := 4) (v := undef) rfl (by kernel_rfl) (by kernel_rfl) (by kernel_rfl) (fun _ _ _ h => h) (Or.inr ⟨by kernel_rfl, rfl⟩) hHeld ?_
      try simp only [Act.put, List.getElem_toArray, List.getElem_cons_succ, List.getElem_cons_zero, List.setIfInBounds_toArray, List.set_cons_zero, List.set_cons_succ]
      refine wpAnyH_ready (rs := [5]) (by kernel_rfl) (by simp) ?_
      refine AllReadyH.cons rfl (fun K hK => ?_) AllReadyH.nil
      go_simp
      refine hK.out _ _ (hS _ (by assumption)) (fun hHeld => ?_)
      clear hK K
      try simp only [Act.put, List.getElem_toArray, List.getElem_cons_succ, List.getElem_cons_zero, List.setIfInBounds_toArray, List.set_cons_zero, List.set_cons_succ]
      refine wpAnyH_take (i := 6) (v := ?_) rfl (by kernel_rfl) (by kernel_rfl) (by kernel_rfl) (fun _ _ _ h => h) (Or.inl ⟨by rfl, ?_⟩) hHeld ?_
      rotate_left
      · (intro w hSw; (try dsimp only at hSw); go_simp)
        all_goals with_reducible rfl
      try simp only [Act.put, List.getElem_toArray, List.getElem_cons_succ, List.getElem_cons_zero, List.setIfInBounds_toArray, List.set_cons_zero, List.set_cons_succ]
      refine wpAnyH_take (i := 7) (v := ?_) rfl (by kernel_rfl) (by kernel_rfl) (by kernel_rfl) (fun _ _ _ h => h) (Or.inl ⟨by rfl, ?_⟩) hHeld ?_
      rotate_left
      · (intro w hSw; (try dsimp only at hSw); go_simp)
        all_goals with_reducible rfl
      try simp only [Act.put, List.getElem_toArray, List.getElem_cons_succ, List.getElem_cons_zero, List.setIfInBounds_toArray, List.set_cons_zero, List.set_cons_succ]
      refine wpAnyH_take (i := 8) (v := undef) rfl (by kernel_rfl) (by kernel_rfl) (by kernel_rfl) (fun _ _ _ h => h) (Or.inr ⟨by kernel_rfl, rfl⟩) hHeld ?_
      try simp only [Act.put, List.getElem_toArray, List.getElem_cons_succ, List.getElem_cons_zero, List.setIfInBounds_toArray, List.set_cons_zero, List.set_cons_succ]
      refine wpAnyH_take (i := 9) (v := undef) rfl (by kernel_rfl) (by kernel_rfl) (by kernel_rfl) (fun _ _ _ h => h) (Or.inr ⟨by kernel_rfl, rfl⟩) hHeld ?_
      try simp only [Act.put, List.getElem_toArray, List.getElem_cons_succ, List.getElem_cons_zero, List.setIfInBounds_toArray, List.set_cons_zero, List.set_cons_succ]
      refine wpAnyH_take (i := 10) (v := undef) rfl (by kernel_rfl) (by kernel_rfl) (by kernel_rfl) (fun _ _ _ h => h) (Or.inr ⟨by kernel_rfl, rfl⟩) hHeld ?_
      try simp only [Act.put, List.getElem_toArray, List.getElem_cons_succ, List.getElem_cons_zero, List.setIfInBounds_toArray, List.set_cons_zero, List.set_cons_succ]
      refine wpAnyH_take (i := 12) (v := undef) rfl (by kernel_rfl) (by kernel_rfl) (by kernel_rfl) (fun _ _ _ h => h) (Or.inr ⟨by kernel_rfl, rfl⟩) hHeld ?_
      try simp only [Act.put, List.getElem_toArray, List.getElem_cons_succ, List.getElem_cons_zero, List.setIfInBounds_toArray, List.set_cons_zero, List.set_cons_succ]
      refine wpAnyH_take (i := 13) (v := undef) rfl (by kernel_rfl) (by kernel_rfl) (by kernel_rfl) (fun _ _ _ h => h) (Or.inr ⟨by kernel_rfl, rfl⟩) hHeld ?_
      try simp only [Act.put, List.getElem_toArray, List.getElem_cons_succ, List.getElem_cons_zero, List.setIfInBounds_toArray, List.set_cons_zero, List.set_cons_succ]
      refine wpAnyH_ready (rs := [11]) (by kernel_rfl) (by simp) ?_
      refine AllReadyH.cons rfl (fun K hK => ?_) AllReadyH.nil
      go_simp
      refine hK.out _ _ (hS _ (by assumption)) (fun hHeld => ?_)
      clear hK K
      try simp only [Act.put, List.getElem_toArray, List.getElem_cons_succ, List.getElem_cons_zero, List.setIfInBounds_toArray, List.set_cons_zero, List.set_cons_succ]
      refine wpAnyH_ready (rs := [14]) (by kernel_rfl) (by simp) ?_
      refine AllReadyH.cons rfl (fun K hK => ?_) AllReadyH.nil
      go_simp
      refine hK.out _ _ (hS _ (by assumption)) (fun hHeld => ?_)
      clear hK K
      try simp only [Act.put, List.getElem_toArray, List.getElem_cons_succ, List.getElem_cons_zero, List.setIfInBounds_toArray, List.set_cons_zero, List.set_cons_succ]
      refine wpAnyH_take (i := 15) (v := ?_) rfl (by kernel_rfl) (by kernel_rfl) (by kernel_rfl) (fun _ _ _ h => h) (Or.inl ⟨by rfl, ?_⟩) hHeld ?_
      rotate_left
      · (intro w hSw; (try dsimp only at hSw); go_simp)
        all_goals with_reducible rfl
      try simp only [Act.put, List.getElem_toArray, List.getElem_cons_succ, List.getElem_cons_zero, List.setIfInBounds_toArray, List.set_cons_zero, List.set_cons_succ]
      refine wpAnyH_done (by kernel_rfl) ?_ _
      refine NoPanic.normal ?_
      try go_simp
      clear hHeld hS dS
      go_wp2
      go_ret
      exact ⟨by rw [hf.out]; rfl, below_drewN b05 _⟩
    have fv4 := hT4 hdu
    clear hF4 hT4
    obtain ⟨n4, A4, a4, l4, B4, e4, m4, rfl, na4, nb4, iq4⟩ := fv4
    rw [optB_ref hfe hdu] at hv2
    obtain ⟨hrwx, hwgx, hwx, hlenx⟩ := feaB_at hfe
    obtain ⟨hfx, hfitx⟩ := hs.x.fl hwx
    obtain ⟨hfg, hfitg⟩ := hg.fl hwgx
    have hfx1 := Lib.hid hfitx
    have hfg1 := Lib.hid hfitg
    obtain ⟨r1, hr1⟩ : ∃ r, Hid (sameF n4 l4 m4 s.d.neg s.d.la s.d.lb = r) := ⟨_, rfl⟩
    obtain ⟨r2, hr2⟩ : ∃ r, Hid ((s.d.vld && decide (sumR (prods gs s.xs) = s.d.q)) = r) := ⟨_, rfl⟩
    have hsv : Hid ((if (r1 && r2) = true then (0 : Int) else 13) = v) := by
      show _ = v
      rw [← hv2.out, ← hr2.out, ← hr1.out, sameF_vld iq4 hs.d]
    clear hv2 iq4 hrwx hwgx hwx hlenx hfitx hfitg hfe hdu
    obtain ⟨w5, hw5, bw5, hlt5, hP5⟩ := boxed w4 #[.bool n4, .slice A4 l4.length a4, .slice B4 m4.length e4] 29
    have q0 := hP5.free 0
    have q1 := hP5.free 1
    have q2 := hP5.free 2
    have b05 := b04.trans (bw5.mono b04.size)
    have hA5 := hA4.keep bw5
    have hC5 := hC4.keep bw5
    have hx5 := hx4.below bw5
    have na5 := na4.below bw5
    have nb5 := nb4.below bw5
    have nc5 := hx5.d.1
    have nd5 := hx5.d.2.1
    have hfx5 := hfx.below b05
    have hfg5 := hfg.below b05
    have hsd := hs.d
    clear hx4 hx3 hx2 na4 nb4 hfx hfg
    have z0' :=  hA5.g0
    have z1' :=  hA5.g1
    have c0' : w5.cell? ⟨w0.heap.size, 0, none⟩ = some (.int .i64 st) :=  by have :=  hC5.cell 0; rw [← hst.out]; exact this
    have c1' : w5.cell? ⟨w0.heap.size, 1, none⟩ = some (.bool s.d.neg) :=  hC5.cell 1
    have c2' : w5.cell? ⟨w0.heap.size, 2, none⟩ = some (.slice s.d.a s.d.la.length s.d.ca) :=  hC5.cell 2
    have c3' : w5.cell? ⟨w0.heap.size, 3, none⟩ = some (.slice s.d.b s.d.lb.length s.d.cb) :=  hC5.cell 3
    have c4' : w5.cell? ⟨w0.heap.size, 4, none⟩ = some (.slice s.xa s.xs.length s.xc) :=  hC5.cell 4
    have c5' : w5.cell? ⟨w0.heap.size, 5, none⟩ = some (.slice s.ya s.ys.length s.yc) :=  hC5.cell 5
    have c6' : w5.cell? ⟨w0.heap.size, 6, none⟩ = some (.slice s.za s.zs.length s.zc) :=  hC5.cell 6
    rcases r1 with _ | _
    · have hf : Hid (v = 13) := by show v = 13; rw [← hsv.out]; simp
      have hS : ∀ w', Below w5.heap.size w5 w' → w'.cell? ⟨w.heap.size, 0, none⟩ = some (.slice ga gs.length gc) ∧ w'.cell? ⟨w.heap.size, 1, none⟩ = some (.slice ra rs.length rc) ∧ w'.cell? ⟨w0.heap.size, 0, none⟩ = some (.int .i64 st) ∧ w'.cell? ⟨w0.heap.size, 1, none⟩ = some (.bool s.d.neg) ∧ w'.cell? ⟨w0.heap.size, 2, none⟩ = some (.slice s.d.a s.d.la.length s.d.ca) ∧ w'.cell? ⟨w0.heap.size, 3, none⟩ = some (.slice s.d.b s.d.lb.length s.d.cb) ∧ w'.cell? ⟨w0.heap.size, 4, none⟩ = some (.slice s.xa s.xs.length s.xc) ∧ w'.cell? ⟨w0.heap.size, 5, none⟩ = some (.slice s.ya s.ys.length s.yc) ∧ w'.cell? ⟨w0.heap.size, 6, none⟩ = some (.slice s.za s.zs.length s.zc) ∧ w'.cell? ⟨w4.heap.size, 0, none⟩ = some (.bool n4) ∧ w'.cell? ⟨w4.heap.size, 1, none⟩ = some (.slice A4 l4.length a4) ∧ w'.cell? ⟨w4.heap.size, 2, none⟩ = some (.slice B4 m4.length e4) ∧ Below w5.heap.size w5 w' := by
        intro w' o
        have hXw := hA5.keep o
        have hCw := hC5.keep o
        have hPw := hP5.keep o
        exact ⟨hXw.g0, hXw.g1, by have := hCw.cell 0; rw [← hst.out]; exact this, hCw.cell 1, hCw.cell 2, hCw.cell 3, hCw.cell 4, hCw.cell 5, hCw.cell 6, hPw.f0, hPw.f1, hPw.f2, o⟩
      have dS : Below w5.heap.size w5 w5.drew := (Below.refl _ _).drew
      go_wp2_with fail
      refine wp_region_noPanic ?_
      refine wp_region_held_drew (S := fun w' => w'.cell? ⟨w.heap.size, 0, none⟩ = some (.slice ga gs.length gc) ∧ w'.cell? ⟨w.heap.size, 1, none⟩ = some (.slice ra rs.length rc) ∧ w'.cell? ⟨w0.heap.size, 0, none⟩ = some (.int .i64 st) ∧ w'.cell? ⟨w0.heap.size, 1, none⟩ = some (.bool s.d.neg) ∧ w'.cell? ⟨w0.heap.size, 2, none⟩ = some (.slice s.d.a s.d.la.length s.d.ca) ∧ w'.cell? ⟨w0.heap.size, 3, none⟩ = some (.slice s.d.b s.d.lb.length s.d.cb) ∧ w'.cell? ⟨w0.heap.size, 4, none⟩ = some (.slice s.xa s.xs.length s.xc) ∧ w'.cell? ⟨w0.heap.size, 5, none⟩ = some (.slice s.ya s.ys.length s.yc) ∧ w'.cell? ⟨w0.heap.size, 6, none⟩ = some (.slice s.za s.zs.length s.zc) ∧ w'.cell? ⟨w4.heap.size, 0, none⟩ = some (.bool n4) ∧ w'.cell? ⟨w4.heap.size, 1, none⟩ = some (.slice A4 l4.length a4) ∧ w'.cell? ⟨w4.heap.size, 2, none⟩ = some (.slice B4 m4.length e4) ∧ Below w5.heap.size w5 w') (by kernel_rfl) (hS _ dS) (fun hHeld => ?_)
      refine wpAnyH_take (i := 0) (v := ?_) rfl (by kernel_rfl) (by kernel_rfl) (by kernel_rfl) (fun _ _ _ h => h) (Or.inl ⟨by rfl, ?_⟩) hHeld ?_
      rotate_left
      · (intro w hSw; (try dsimp only at hSw); go_simp)
        all_goals with_reducible rfl
      try simp only [Act.put, List.getElem_toArray, List.getElem_cons_succ, List.getElem_cons_zero, List.setIfInBounds_toArray, List.set_cons_zero, List.set_cons_succ]
      refine wpAnyH_take (i := 1) (v := ?_) rfl (by kernel_rfl) (by kernel_rfl) (by kernel_rfl) (fun _ _ _ h => h) (Or.inl ⟨by rfl, ?_⟩) hHeld ?_
      rotate_left
      · (intro w hSw; (try dsimp only at hSw); go_simp)
        all_goals with_reducible rfl
      try simp only [Act.put, List.getElem_toArray, List.getElem_cons_succ, List.getElem_cons_zero, List.setIfInBounds_toArray, List.set_cons_zero, List.set_cons_succ]
      refine wpAnyH_take (i := 2) (v := ?_) rfl (by kernel_rfl) (by kernel_rfl) (by kernel_rfl) (fun _ _ _ h => h) (Or.inl ⟨by rfl, ?_⟩) hHeld ?_
      rotate_left
      · (intro w hSw; (try dsimp only at hSw); go_simp)
        all_goals with_reducible rfl
      try simp only [Act.put, List.getElem_toArray, List.getElem_cons_succ, List.getElem_cons_zero, List.setIfInBounds_toArray, List.set_cons_zero, List.set_cons_succ]
      refine wpAnyH_take (i := 3) (v := ?_) rfl (by kernel_rfl) (by kernel_rfl) (by kernel_rfl) (fun _ _ _ h => h) (Or.inl ⟨by rfl, ?_⟩) hHeld ?_
      rotate_left
      · (intro w hSw; (try dsimp only at hSw); go_simp)
        all_goals with_reducible rfl
      try simp only [Act.put, List.getElem_toArray, List.getElem_cons_succ, List.getElem_cons_zero, List.setIfInBounds_toArray, List.set_cons_zero, List.set_cons_succ]
      refine wpAnyH_take (i := 4) (v := ?_) rfl (by kernel_rfl) (by kernel_rfl) (by kernel_rfl) (fun _ _ _ h => h) (Or.inl ⟨by rfl, ?_⟩) hHeld ?_
      rotate_left
      · (intro w hSw; (try dsimp only at hSw); go_simp)
        all_goals with_reducible rfl
      try simp only [Act.put, List.getElem_toArray, List.getElem_cons_succ, List.getElem_cons_zero, List.setIfInBounds_toArray, List.set_cons_zero, List.set_cons_succ]
      refine wpAnyH_ready (rs := [5]) (by kernel_rfl) (by simp) ?_
      refine AllReadyH.cons rfl (fun K hK => ?_) AllReadyH.nil
      go_simp
      (go_at_call 41; go_split_ands; (with_reducible refine (sameF_any (n1 := n4) (n2 := s.d.neg) (na5.below (by assumption)) (nb5.below (by assumption)) (nc5.below (by assumption)) (nd5.below (by assumption))).mono ?_); rintro e x6 ⟨rfl, g6⟩; rw [hr1.out]; have o6 := below_step (show Below w5.heap.size w5 _ by assumption) g6)
      go_wp2_with fail
      refine hK.out _ _ (hS _ (by assumption)) (fun hHeld => ?_)
      clear hK K
      try simp only [Act.put, List.getElem_toArray, List.getElem_cons_succ, List.getElem_cons_zero, List.setIfInBounds_toArray, List.set_cons_zero, List.set_cons_succ]
      refine wpAnyH_take (i := 6) (v := ?_) rfl (by kernel_rfl) (by kernel_rfl) (by kernel_rfl) (fun _ _ _ h => h) (Or.inl ⟨by rfl, ?_⟩) hHeld ?_
      rotate_left
      · (intro w hSw; (try dsimp only at hSw); go_simp)
        all_goals with_reducible rfl
      try simp only [Act.put, List.getElem_toArray, List.getElem_cons_succ, List.getElem_cons_zero, List.setIfInBounds_toArray, List.set_cons_zero, List.set_cons_succ]
      refine wpAnyH_take (i := 7) (v := ?_) rfl (by kernel_rfl) (by kernel_rfl) (by kernel_rfl) (fun _ _ _ h => h) (Or.inl ⟨by rfl, ?_⟩) hHeld ?_
      rotate_left
      · (intro w hSw; (try dsimp only at hSw); go_simp)
        all_goals with_reducible rfl
      try simp only [Act.put, List.getElem_toArray, List.getElem_cons_succ, List.getElem_cons_zero, List.setIfInBounds_toArray, List.set_cons_zero, List.set_cons_succ]
      refine wpAnyH_take (i := 8) (v := undef) rfl (by kernel_rfl) (by kernel_rfl) (by kernel_rfl) (fun _ _ _ h => h) (Or.inr ⟨by kernel_rfl, rfl⟩) hHeld ?_
      try simp only [Act.put, List.getElem_toArray, List.getElem_cons_succ, List.getElem_cons_zero, List.setIfInBounds_toArray, List.set_cons_zero, List.set_cons_succ]
      refine wpAnyH_take (i := 9) (v := undef) rfl (by kernel_rfl) (by kernel_rfl) (by kernel_rfl) (fun _ _ _ h => h) (Or.inr ⟨by kernel_rfl, rfl⟩) hHeld ?_
      try simp only [Act.put, List.getElem_toArray, List.getElem_cons_succ, List.getElem_cons_zero, List.setIfInBounds_toArray, List.set_cons_zero, List.set_cons_succ]
      refine wpAnyH_take (i := 10) (v := undef) rfl (by kernel_rfl) (by kernel_rfl) (by kernel_rfl) (fun _ _ _ h => h) (Or.inr ⟨by kernel_rfl, rfl⟩) hHeld ?_
      try simp only [Act.put, List.getElem_toArray, List.getElem_cons_succ, List.getElem_cons_zero, List.setIfInBounds_toArray, List.set_cons_zero, List.set_cons_succ]
      refine wpAnyH_take (i := 12) (v := undef) rfl (by kernel_rfl) (by kernel_rfl) (by kernel_rfl) (fun _ _ _ h => h) (Or.inr ⟨by kernel_rfl, rfl⟩) hHeld ?_
      try simp only [Act.put, List.getElem_toArray, List.getElem_cons_succ, List.getElem_cons_zero, List.setIfInBounds_toArray, List.set_cons_zero, List.set_cons_succ]
      refine wpAnyH_take (i := 13) (v := undef) rfl (by kernel_rfl) (by kernel_rfl) (by kernel_rfl) (fun _ _ _ h => h) (Or.inr ⟨by kernel_rfl, rfl⟩) hHeld ?_
      try simp only [Act.put, List.getElem_toArray, List.getElem_cons_succ, List.getElem_cons_zero, List.setIfInBounds_toArray, List.set_cons_zero, List.set_cons_succ]
      refine wpAnyH_ready (rs := [11]) (by kernel_rfl) (by simp) ?_
      refine AllReadyH.cons rfl (fun K hK => ?_) AllReadyH.nil
      go_simp
      refine hK.out _ _ (hS _ (by assumption)) (fun hHeld => ?_)
      clear hK K
      try simp only [Act.put, List.getElem_toArray, List.getElem_cons_succ, List.getElem_cons_zero, List.setIfInBounds_toArray, List.set_cons_zero, List.set_cons_succ]
      refine wpAnyH_ready (rs := [14]) (by kernel_rfl) (by simp) ?_
      refine AllReadyH.cons rfl (fun K hK => ?_) AllReadyH.nil
      go_simp
      refine hK.out _ _ (hS _ (by assumption)) (fun hHeld => ?_)
      clear hK K
      try simp only [Act.put, List.getElem_toArray, List.getElem_cons_succ, List.getElem_cons_zero, List.setIfInBounds_toArray, List.set_cons_zero, List.set_cons_succ]
      refine wpAnyH_take (i := 15) (v := ?_) rfl (by kernel_rfl) (by kernel_rfl) (by kernel_rfl) (fun _ _ _ h => h) (Or.inl ⟨by rfl, ?_⟩) hHeld ?_
      rotate_left
      · (intro w hSw; (try dsimp only at hSw); go_simp)
        all_goals with_reducible rfl
      try simp only [Act.put, List.getElem_toArray, List.getElem_cons_succ, List.getElem_cons_zero, List.setIfInBounds_toArray, List.set_cons_zero, List.set_cons_succ]
      refine wpAnyH_done (by kernel_rfl) ?_ _
      refine NoPanic.normal ?_
      try go_simp
      clear hHeld hS dS
      have hA6 := hA5.keep o6
      have hC6 := hC5.keep o6
      have b06 := b05.trans (o6.mono b05.size)
      clear z0' z1' c0' c1' c2' c3' c4' c5' c6'
      have z0 := hA6.g0
      have z1 := hA6.g1
      have c0 : x6.cell? ⟨w0.heap.size, 0, none⟩ = some (.int .i64 st) := by have := hC6.cell 0; rw [← hst.out]; exact this
      have c1 : x6.cell? ⟨w0.heap.size, 1, none⟩ = some (.bool s.d.neg) := hC6.cell 1
      have c2 : x6.cell? ⟨w0.heap.size, 2, none⟩ = some (.slice s.d.a s.d.la.length s.d.ca) := hC6.cell 2
      have c3 : x6.cell? ⟨w0.heap.size, 3, none⟩ = some (.slice s.d.b s.d.lb.length s.d.cb) := hC6.cell 3
      have c4 : x6.cell? ⟨w0.heap.size, 4, none⟩ = some (.slice s.xa s.xs.length s.xc) := hC6.cell 4
      have c5 : x6.cell? ⟨w0.heap.size, 5, none⟩ = some (.slice s.ya s.ys.length s.yc) := hC6.cell 5
      have c6 : x6.cell? ⟨w0.heap.size, 6, none⟩ = some (.slice s.za s.zs.length s.zc) := hC6.cell 6
      go_wp2
      go_ret
      exact ⟨by rw [hf.out]; rfl, b06⟩
    have hS : ∀ w', Below w5.heap.size w5 w' → w'.cell? ⟨w.heap.size, 0, none⟩ = some (.slice ga gs.length gc) ∧ w'.cell? ⟨w.heap.size, 1, none⟩ = some (.slice ra rs.length rc) ∧ w'.cell? ⟨w0.heap.size, 0, none⟩ = some (.int .i64 st) ∧ w'.cell? ⟨w0.heap.size, 1, none⟩ = some (.bool s.d.neg) ∧ w'.cell? ⟨w0.heap.size, 2, none⟩ = some (.slice s.d.a s.d.la.length s.d.ca) ∧ w'.cell? ⟨w0.heap.size, 3, none⟩ = some (.slice s.d.b s.d.lb.length s.d.cb) ∧ w'.cell? ⟨w0.heap.size, 4, none⟩ = some (.slice s.xa s.xs.length s.xc) ∧ w'.cell? ⟨w0.heap.size, 5, none⟩ = some (.slice s.ya s.ys.length s.yc) ∧ w'.cell? ⟨w0.heap.size, 6, none⟩ = some (.slice s.za s.zs.length s.zc) ∧ w'.cell? ⟨w4.heap.size, 0, none⟩ = some (.bool n4) ∧ w'.cell? ⟨w4.heap.size, 1, none⟩ = some (.slice A4 l4.length a4) ∧ w'.cell? ⟨w4.heap.size, 2, none⟩ = some (.slice B4 m4.length e4) ∧ Below w5.heap.size w5 w' := by
      intro w' o
      have hXw := hA5.keep o
      have hCw := hC5.keep o
      have hPw := hP5.keep o
      exact ⟨hXw.g0, hXw.g1, by have := hCw.cell 0; rw [← hst.out]; exact this, hCw.cell 1, hCw.cell 2, hCw.cell 3, hCw.cell 4, hCw.cell 5, hCw.cell 6, hPw.f0, hPw.f1, hPw.f2, o⟩
    have dS : Below w5.heap.size w5 w5.drew := (Below.refl _ _).drew
    go_wp2_with fail
    refine wp_region_noPanic ?_
    refine wp_region_held_drew (S := fun w' => w'.cell? ⟨w.heap.size, 0, none⟩ = some (.slice ga gs.length gc) ∧ w'.cell? ⟨w.heap.size, 1, none⟩ = some (.slice ra rs.length rc) ∧ w'.cell? ⟨w0.heap.size, 0, none⟩ = some (.int .i64 st) ∧ w'.cell? ⟨w0.heap.size, 1, none⟩ = some (.bool s.d.neg) ∧ w'.cell? ⟨w0.heap.size, 2, none⟩ = some (.slice s.d.a s.d.la.length s.d.ca) ∧ w'.cell? ⟨w0.heap.size, 3, none⟩ = some (.slice s.d.b s.d.lb.length s.d.cb) ∧ w'.cell? ⟨w0.heap.size, 4, none⟩ = some (.slice s.xa s.xs.length s.xc) ∧ w'.cell? ⟨w0.heap.size, 5, none⟩ = some (.slice s.ya s.ys.length s.yc) ∧ w'.cell? ⟨w0.heap.size, 6, none⟩ = some (.slice s.za s.zs.length s.zc) ∧ w'.cell? ⟨w4.heap.size, 0, none⟩ = some (.bool n4) ∧ w'.cell? ⟨w4.heap.size, 1, none⟩ = some (.slice A4 l4.length a4) ∧ w'.cell? ⟨w4.heap.size, 2, none⟩ = some (.slice B4 m4.length e4) ∧ Below w5.heap.size w5 w') (by kernel_rfl) (hS _ dS) (fun hHeld => ?_)
    refine wpAnyH_take (i := 0) (v := ?_) rfl (by kernel_rfl) (by kernel_rfl) (by kernel_rfl) (fun _ _ _ h => h) (Or.inl ⟨by rfl, ?_⟩) hHeld ?_
    rotate_left
    · (intro w hSw; (try dsimp only at hSw); go_simp)
      all_goals with_reducible rfl
    try simp only [Act.put, List.getElem_toArray, List.getElem_cons_succ, List.getElem_cons_zero, List.setIfInBounds_toArray, List.set_cons_zero, List.set_cons_succ]
    refine wpAnyH_take (i := 1) (v := ?_) rfl (by kernel_rfl) (by kernel_rfl) (by kernel_rfl) (fun _ _ _ h => h) (Or.inl ⟨by rfl, ?_⟩) hHeld ?_
    rotate_left
    · (intro w hSw; (try dsimp only at hSw); go_simp)
      all_goals with_reducible rfl
    try simp only [Act.put, List.getElem_toArray, List.getElem_cons_succ, List.getElem_cons_zero, List.setIfInBounds_toArray, List.set_cons_zero, List.set_cons_succ]
    refine wpAnyH_take (i := 2) (v := ?_) rfl (by kernel_rfl) (by kernel_rfl) (by kernel_rfl) (fun _ _ _ h => h) (Or.inl ⟨by rfl, ?_⟩) hHeld ?_
    rotate_left
    · (intro w hSw; (try dsimp only at hSw); go_simp)
      all_goals with_reducible rfl
    try simp only [Act.put, List.getElem_toArray, List.getElem_cons_succ, List.getElem_cons_zero, List.setIfInBounds_toArray, List.set_cons_zero, List.set_cons_succ]
    refine wpAnyH_take (i := 3) (v := ?_) rfl (by kernel_rfl) (by kernel_rfl) (by kernel_rfl) (fun _ _ _ h => h) (Or.inl ⟨by rfl, ?_⟩) hHeld ?_
    rotate_left
    · (intro w hSw; (try dsimp only at hSw); go_simp)
      all_goals with_reducible rfl
    try simp only [Act.put, List.getElem_toArray, List.getElem_cons_succ, List.getElem_cons_zero, List.setIfInBounds_toArray, List.set_cons_zero, List.set_cons_succ]
    refine wpAnyH_take (i := 4) (v := ?_) rfl (by kernel_rfl) (by kernel_rfl) (by kernel_rfl) (fun _ _ _ h => h) (Or.inl ⟨by rfl, ?_⟩) hHeld ?_
    rotate_left
    · (intro w hSw; (try dsimp only at hSw); go_simp)
      all_goals with_reducible rfl
    try simp only [Act.put, List.getElem_toArray, List.getElem_cons_succ, List.getElem_cons_zero, List.setIfInBounds_toArray, List.set_cons_zero, List.set_cons_succ]
    refine wpAnyH_ready (rs := [5]) (by kernel_rfl) (by simp) ?_
    refine AllReadyH.cons rfl (fun K hK => ?_) AllReadyH.nil
    go_simp
    (go_at_call 41; go_split_ands; (with_reducible refine (sameF_any (n1 := n4) (n2 := s.d.neg) (na5.below (by assumption)) (nb5.below (by assumption)) (nc5.below (by assumption)) (nd5.below (by assumption))).mono ?_); rintro e x6 ⟨rfl, g6⟩; rw [hr1.out]; have o6 := below_step (show Below w5.heap.size w5 _ by assumption) g6)
    go_wp2_with fail
    refine hK.out _ _ (hS _ (by assumption)) (fun hHeld => ?_)
    clear hK K
    try simp only [Act.put, List.getElem_toArray, List.getElem_cons_succ, List.getElem_cons_zero, List.setIfInBounds_toArray, List.set_cons_zero, List.set_cons_succ]
    refine wpAnyH_take (i := 6) (v := ?_) rfl (by kernel_rfl) (by kernel_rfl) (by kernel_rfl) (fun _ _ _ h => h) (Or.inl ⟨by rfl, ?_⟩) hHeld ?_
    rotate_left
    · (intro w hSw; (try dsimp only at hSw); go_simp)
      all_goals with_reducible rfl
    try simp only [Act.put, List.getElem_toArray, List.getElem_cons_succ, List.getElem_cons_zero, List.setIfInBounds_toArray, List.set_cons_zero, List.set_cons_succ]
    refine wpAnyH_take (i := 7) (v := ?_) rfl (by kernel_rfl) (by kernel_rfl) (by kernel_rfl) (fun _ _ _ h => h) (Or.inl ⟨by rfl, ?_⟩) hHeld ?_
    rotate_left
    · (intro w hSw; (try dsimp only at hSw); go_simp)
      all_goals with_reducible rfl
    try simp only [Act.put, List.getElem_toArray, List.getElem_cons_succ, List.getElem_cons_zero, List.setIfInBounds_toArray, List.set_cons_zero, List.set_cons_succ]
    refine wpAnyH_take (i := 8) (v := ?_) rfl (by kernel_rfl) (by kernel_rfl) (by kernel_rfl) (fun _ _ _ h => h) (Or.inl ⟨by rfl, ?_⟩) hHeld ?_
    rotate_left
    · (intro w hSw; (try dsimp only at hSw); go_simp)
      all_goals with_reducible rfl
    try simp only [Act.put, List.getElem_toArray, List.getElem_cons_succ, List.getElem_cons_zero, List.setIfInBounds_toArray, List.set_cons_zero, List.set_cons_succ]
    refine wpAnyH_take (i := 9) (v := ?_) rfl (by kernel_rfl) (by kernel_rfl) (by kernel_rfl) (fun _ _ _ h => h) (Or.inl ⟨by rfl, ?_⟩) hHeld ?_
    rotate_left
    · (intro w hSw; (try dsimp only at hSw); go_simp)
      all_goals with_reducible rfl
    try simp only [Act.put, List.getElem_toArray, List.getElem_cons_succ, List.getElem_cons_zero, List.setIfInBounds_toArray, List.set_cons_zero, List.set_cons_succ]
    refine wpAnyH_take (i := 10) (v := ?_) rfl (by kernel_rfl) (by kernel_rfl) (by kernel_rfl) (fun _ _ _ h => h) (Or.inl ⟨by rfl, ?_⟩) hHeld ?_
    rotate_left
    · (intro w hSw; (try dsimp only at hSw); go_simp)
      all_goals with_reducible rfl
    try simp only [Act.put, List.getElem_toArray, List.getElem_cons_succ, List.getElem_cons_zero, List.setIfInBounds_toArray, List.set_cons_zero, List.set_cons_succ]
    refine wpAnyH_take (i := 12) (v := ?_) rfl (by kernel_rfl) (by kernel_rfl) (by kernel_rfl) (fun _ _ _ h => h) (Or.inl ⟨by rfl, ?_⟩) hHeld ?_
    rotate_left
    · (intro w hSw; (try dsimp only at hSw); go_simp)
      all_goals with_reducible rfl
    try simp only [Act.put, List.getElem_toArray, List.getElem_cons_succ, List.getElem_cons_zero, List.setIfInBounds_toArray, List.set_cons_zero, List.set_cons_succ]
    refine wpAnyH_take (i := 13) (v := ?_) rfl (by kernel_rfl) (by kernel_rfl) (by kernel_rfl) (fun _ _ _ h => h) (Or.inl ⟨by rfl, ?_⟩) hHeld ?_
    rotate_left
    · (intro w hSw; (try dsimp only at hSw); go_simp)
      all_goals with_reducible rfl
    try simp only [Act.put, List.getElem_toArray, List.getElem_cons_succ, List.getElem_cons_zero, List.setIfInBounds_toArray, List.set_cons_zero, List.set_cons_succ]
    refine wpAnyH_ready (rs := [11]) (by kernel_rfl) (by simp) ?_
    refine AllReadyH.cons rfl (fun K hK => ?_) AllReadyH.nil
    go_simp
    (go_at_call 14; go_split_ands; (with_reducible refine (refValue_any (hfg5.below (by assumption)) (hfx5.below (by assumption)) hfg1.out hfx1.out (by omega)).mono ?_); rintro e x7 ⟨v7, rfl, ⟨n7, A7, a7, l7, B7, e7, m7, rfl, na7, nb7, iq7⟩, g7⟩; have iq7h := Lib.hid iq7; clear iq7; have o7 := below_step (show Below w5.heap.size w5 _ by assumption) g7)
    go_wp2_with fail
    refine hK.out _ _ (hS _ (by assumption)) (fun hHeld => ?_)
    clear hK K
    try simp only [Act.put, List.getElem_toArray, List.getElem_cons_succ, List.getElem_cons_zero, List.setIfInBounds_toArray, List.set_cons_zero, List.set_cons_succ]
    refine wpAnyH_ready (rs := [14]) (by kernel_rfl) (by simp) ?_
    refine AllReadyH.cons rfl (fun K hK => ?_) AllReadyH.nil
    go_simp
    (go_at_call 41; go_split_ands; (with_reducible refine (sameF_any (n1 := n7) (n2 := s.d.neg) na7 nb7 (nc5.below (by assumption)) (nd5.below (by assumption))).mono ?_); rintro e x8 ⟨rfl, g8⟩; rw [sameF_vld iq7h.out hsd, hr2.out]; have o8 := below_step (show Below w5.heap.size w5 _ by assumption) g8)
    go_wp2_with fail
    refine hK.out _ _ (hS _ (by assumption)) (fun hHeld => ?_)
    clear hK K
    try simp only [Act.put, List.getElem_toArray, List.getElem_cons_succ, List.getElem_cons_zero, List.setIfInBounds_toArray, List.set_cons_zero, List.set_cons_succ]
    refine wpAnyH_take (i := 15) (v := ?_) rfl (by kernel_rfl) (by kernel_rfl) (by kernel_rfl) (fun _ _ _ h => h) (Or.inl ⟨by rfl, ?_⟩) hHeld ?_
    rotate_left
    · (intro w hSw; (try dsimp only at hSw); go_simp)
      all_goals with_reducible rfl
    try simp only [Act.put, List.getElem_toArray, List.getElem_cons_succ, List.getElem_cons_zero, List.setIfInBounds_toArray, List.set_cons_zero, List.set_cons_succ]
    refine wpAnyH_done (by kernel_rfl) ?_ _
    refine NoPanic.normal ?_
    try go_simp
    clear hHeld hS dS
    have hA6 := hA5.keep o8
    have hC6 := hC5.keep o8
    have b06 := b05.trans (o8.mono b05.size)
    clear z0' z1' c0' c1' c2' c3' c4' c5' c6'
    have z0 := hA6.g0
    have z1 := hA6.g1
    have c0 : x8.cell? ⟨w0.heap.size, 0, none⟩ = some (.int .i64 st) := by have := hC6.cell 0; rw [← hst.out]; exact this
    have c1 : x8.cell? ⟨w0.heap.size, 1, none⟩ = some (.bool s.d.neg) := hC6.cell 1
    have c2 : x8.cell? ⟨w0.heap.size, 2, none⟩ = some (.slice s.d.a s.d.la.length s.d.ca) := hC6.cell 2
    have c3 : x8.cell? ⟨w0.heap.size, 3, none⟩ = some (.slice s.d.b s.d.lb.length s.d.cb) := hC6.cell 3
    have c4 : x8.cell? ⟨w0.heap.size, 4, none⟩ = some (.slice s.xa s.xs.length s.xc) := hC6.cell 4
    have c5 : x8.cell? ⟨w0.heap.size, 5, none⟩ = some (.slice s.ya s.ys.length s.yc) := hC6.cell 5
    have c6 : x8.cell? ⟨w0.heap.size, 6, none⟩ = some (.slice s.za s.zs.length s.zc) := hC6.cell 6
    rcases r2 with _ | _
    · have hf : Hid (v = 13) := by show v = 13; rw [← hsv.out]; rfl
      go_wp2
      go_ret
      exact ⟨by rw [hf.out]; rfl, b06⟩
    · have hf : Hid (v = 0) := by show v = 0; rw [← hsv.out]; rfl
      go_wp2
      go_ret
      exact ⟨by rw [hf.out]; rfl, b06⟩
  have n1 : (st == 1) = false := by simpa using h1
  by_cases h2 : st = 2
  · have n2 : (st == 2) = true := by simpa using h2
    have n3 : (st == 3) = false := by rw [h2]; rfl
    have hv3 : Hid (provenB gs rs s = emptyB gs rs s.ys) := by show _ = _; unfold provenB; rw [hst.out, if_neg h1, if_pos h2]
    rw [hv3.out] at hv2
    clear h1 h2 hv3
    go_wp2_with fail
    refine (refEmpty_any (hg.below b02) (hr.below b02) hrw'.out hx2.y hK1).mono ?_
    rintro e w3 ⟨rfl, b3⟩
    have hA3 := hA2.keep b3
    have hC3 := hC2.keep b3
    have b03 := b02.trans (b3.mono b02.size)
    clear z0 z1 c0 c1 c2 c3 c4 c5 c6
    have z0 := hA3.g0
    have z1 := hA3.g1
    have c0 : w3.cell? ⟨w0.heap.size, 0, none⟩ = some (.int .i64 st) := by have := hC3.cell 0; rw [← hst.out]; exact this
    have c1 : w3.cell? ⟨w0.heap.size, 1, none⟩ = some (.bool s.d.neg) := hC3.cell 1
    have c2 : w3.cell? ⟨w0.heap.size, 2, none⟩ = some (.slice s.d.a s.d.la.length s.d.ca) := hC3.cell 2
    have c3 : w3.cell? ⟨w0.heap.size, 3, none⟩ = some (.slice s.d.b s.d.lb.length s.d.cb) := hC3.cell 3
    have c4 : w3.cell? ⟨w0.heap.size, 4, none⟩ = some (.slice s.xa s.xs.length s.xc) := hC3.cell 4
    have c5 : w3.cell? ⟨w0.heap.size, 5, none⟩ = some (.slice s.ya s.ys.length s.yc) := hC3.cell 5
    have c6 : w3.cell? ⟨w0.heap.size, 6, none⟩ = some (.slice s.za s.zs.length s.zc) := hC3.cell 6
    rcases hp : emptyB gs rs s.ys with _ | _
    · have hf : Hid (v = 13) := by show v = 13; rw [← hv2.out, hp]; rfl
      go_wp2
      go_ret
      exact ⟨by rw [hf.out]; rfl, b03⟩
    · have hf : Hid (v = 0) := by show v = 0; rw [← hv2.out, hp]; rfl
      go_wp2
      go_ret
      exact ⟨by rw [hf.out]; rfl, b03⟩
  have n2 : (st == 2) = false := by simpa using h2
  by_cases h3 : st = 3
  · have n3 : (st == 3) = true := by simpa using h3
    have hv3 : Hid (provenB gs rs s = (feaB gs rs s.xs && endB gs rs s.zs)) := by show _ = _; unfold provenB; rw [hst.out, if_neg h1, if_neg h2, if_pos h3]
    rw [hv3.out] at hv2
    clear h1 h2 h3 hv3
    go_wp2_with fail
    refine (refFeasible_any (hg.below b02) (hr.below b02) hx2.x hK2).mono ?_
    rintro e w3 ⟨rfl, b3⟩
    have hA3 := hA2.keep b3
    have hC3 := hC2.keep b3
    have b03 := b02.trans (b3.mono b02.size)
    have hx3 := hx2.below b3
    clear z0 z1 c0 c1 c2 c3 c4 c5 c6
    have z0 := hA3.g0
    have z1 := hA3.g1
    have c0 : w3.cell? ⟨w0.heap.size, 0, none⟩ = some (.int .i64 st) := by have := hC3.cell 0; rw [← hst.out]; exact this
    have c1 : w3.cell? ⟨w0.heap.size, 1, none⟩ = some (.bool s.d.neg) := hC3.cell 1
    have c2 : w3.cell? ⟨w0.heap.size, 2, none⟩ = some (.slice s.d.a s.d.la.length s.d.ca) := hC3.cell 2
    have c3 : w3.cell? ⟨w0.heap.size, 3, none⟩ = some (.slice s.d.b s.d.lb.length s.d.cb) := hC3.cell 3
    have c4 : w3.cell? ⟨w0.heap.size, 4, none⟩ = some (.slice s.xa s.xs.length s.xc) := hC3.cell 4
    have c5 : w3.cell? ⟨w0.heap.size, 5, none⟩ = some (.slice s.ya s.ys.length s.yc) := hC3.cell 5
    have c6 : w3.cell? ⟨w0.heap.size, 6, none⟩ = some (.slice s.za s.zs.length s.zc) := hC3.cell 6
    rcases hfe : feaB gs rs s.xs with _ | _
    · have hf : Hid (v = 13) := by show v = 13; rw [← hv2.out, hfe]; rfl
      go_wp2
      go_ret
      exact ⟨by rw [hf.out]; rfl, b03⟩
    rw [hfe] at hv2
    go_wp2_with fail
    refine (refEndless_any (hg.below b03) (hr.below b03) hwg'.out hrw'.out hx3.z (by omega)).mono ?_
    rintro e w4 ⟨rfl, b4⟩
    have b04 := b03.trans (b4.mono b03.size)
    rcases hp : endB gs rs s.zs with _ | _
    · have hf : Hid (v = 13) := by show v = 13; rw [← hv2.out, hp]; rfl
      go_wp2
      go_ret
      exact ⟨by rw [hf.out]; rfl, b04⟩
    · have hf : Hid (v = 0) := by show v = 0; rw [← hv2.out, hp]; rfl
      go_wp2
      go_ret
      exact ⟨by rw [hf.out]; rfl, b04⟩
  have n3 : (st == 3) = false := by simpa using h3
  have hf : Hid (v = 13) := by
    show v = 13
    have hpf : provenB gs rs s = false := by unfold provenB; rw [hst.out, if_neg h1, if_neg h2, if_neg h3]
    rw [← hv2.out, hpf]; rfl
  go_wp2
  go_ret
  exact ⟨by rw [hf.out]; rfl, b02⟩
end Go.Proofs.Ytlocaleiloiaoaa
