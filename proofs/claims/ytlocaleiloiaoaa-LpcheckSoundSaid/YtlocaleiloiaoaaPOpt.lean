/- lpcheck: optimal proven: what the call does. -/
import Derived.Test.YtlocaleiloiaoaaPUnb
import Derived.Test.YtlocaleiloiaoaaPGap
import Derived.Test.YtlocaleiloiaoaaPFew
import Derived.Deep.RegionHeld3
namespace Go.Proofs.Ytlocaleiloiaoaa
set_option linter.unusedVariables false
set_option linter.unusedSimpArgs false
open Go.RowKit Plain
attribute [local go_sem ↓] Go.wp_at_zero Go.wp_at_succ

def optB (gs : List FrD) (rs : List RowD) (d : FrD) (xs ys : List FrD) : Bool :=
  feaB gs rs xs && (d.vld && (dualB gs rs ys && (decide (sumR (prods gs xs) = sumR (bnds rs ys)) && decide (d.q = sumR (bnds rs ys)))))
theorem Blk.t0 {w : World} {g : Nat} {t : TypeId} {a b c : Value} (h : Blk w g t #[a, b, c]) : w.cell? ⟨g, 0, none⟩ = some a := h.cell 0
theorem whB_one (d : FrD) : whB [d] = d.vld := by simp [whB]
theorem Blk.ld {w : World} {g : Nat} {t : TypeId} {d : FrD} {K : Nat} (h : Blk w g t #[.bool d.neg, .slice d.a d.la.length d.ca, .slice d.b d.lb.length d.cb]) (hd : d.few w K) : LD w K (some ⟨g, 0, none⟩) 1 [d] :=
  ⟨h.one, fun x hx => by simp at hx; subst hx; exact hd⟩
theorem cmp0 {p q : Rat} : (cmpR p q == 0) = decide (p = q) := by
  rw [Bool.eq_iff_iff, beq_iff_eq, decide_eq_true_eq]; exact cmpR_zero
theorem dualB_at {gs ys : List FrD} {rs : List RowD} (h : dualB gs rs ys = true) : whB ys = true ∧ ys.length = rs.length := by
  unfold dualB posB at h
  simp only [Bool.and_eq_true, decide_eq_true_eq] at h
  exact ⟨h.2.1.2.1, h.2.1.1⟩
theorem feaB_at {gs xs : List FrD} {rs : List RowD} (h : feaB gs rs xs = true) : rowsB gs.length rs = true ∧ whB gs = true ∧ whB xs = true ∧ xs.length = gs.length := by
  unfold feaB posB at h
  simp only [Bool.and_eq_true, decide_eq_true_eq] at h
  exact ⟨h.1.1, h.1.2, h.2.1.2.1, h.2.1.1⟩

set_option maxRecDepth 100000 in
set_option maxHeartbeats 4000000 in
theorem optimal_any {K g : Nat} {t : TypeId} {ga ra E X : Option Addr} {gc rc ce cx : Nat} {gs xs ys : List FrD} {d : FrD} {rs : List RowD} {w : World} (hg : LD w K ga gc gs) (hr : RL w K ra rc rs) (hv : Blk w g t #[.bool d.neg, .slice d.a d.la.length d.ca, .slice d.b d.lb.length d.cb]) (hd : d.few w K) (hx : LD w K X cx xs) (hy : LD w K E ce ys)
    (hK1 : 1 + (rs.length + 1) * (K + K + 1) + K < 400000000) (hK2 : 1 + (gs.length + 1) * (K + K + 1) + K < 400000000) :
    Calls Try.prog 108 #[.agg #[.slice (some ⟨g, 0, none⟩) 1 1, .slice X xs.length cx, .slice E ys.length ce], .agg #[.slice ga gs.length gc, .slice ra rs.length rc]] w (RetB (optB gs rs d xs ys) w) := by
  obtain ⟨w0, hw0, bw0, hlt0, hC0⟩ := boxed w #[.slice (some ⟨g, 0, none⟩) 1 1, .slice X xs.length cx, .slice E ys.length ce] 55
  obtain ⟨w1, hw1, bw1, hlt1, hA1⟩ := boxed w0 #[.slice ga gs.length gc, .slice ra rs.length rc] 25
  have hC1 := hC0.keep bw1
  have b01 := bw0.trans (bw1.mono (Nat.le_of_lt hlt0))
  have c0 := hC1.f0
  have c1 := hC1.f1
  have c2 := hC1.f2
  have z0 := hA1.g0
  have z1 := hA1.g1
  have hlg := hg.len
  have hlr := hr.len
  have hly := hy.len
  have hlx := hx.len
  have hKs : K ≤ 400000000 := by rw [Nat.add_mul] at hK1; omega
  have hgw : g < w.heap.size := hv.lt
  obtain ⟨u, hu⟩ : ∃ u, Hid (optB gs rs d xs ys = u) := ⟨_, rfl⟩
  rw [hu.out]
  go_enter Try.func108, Try.ntmps108
  go_wp2_with fail
  refine (feasible_any (hg.below b01) (hr.below b01) (hx.below b01) (by omega)).mono ?_
  rintro e w2 ⟨rfl, b2⟩
  have hA2 := hA1.keep b2
  have hC2 := hC1.keep b2
  have b02 := b01.trans (b2.mono b01.size)
  clear z0 z1 c0 c1 c2
  have z0 := hA2.g0
  have z1 := hA2.g1
  have c0 := hC2.f0
  have c1 := hC2.f1
  have c2 := hC2.f2
  rcases hfe : feaB gs rs xs with _ | _
  · have hf : Hid (u = false) := by show u = false; rw [← hu.out]; unfold optB; rw [hfe]; rfl
    go_wp2
    go_ret
    exact ⟨by rw [hf.out]; rfl, b02⟩
  go_wp2_with fail
  refine (validL_any (ds := [d]) ((hv.keep b02).ld (hd.below b02)) hKs).mono ?_
  rintro e w3 ⟨rfl, b3⟩
  rw [whB_one]
  have hA3 := hA2.keep b3
  have hC3 := hC2.keep b3
  have b03 := b02.trans (b3.mono b02.size)
  clear z0 z1 c0 c1 c2
  have z0 := hA3.g0
  have z1 := hA3.g1
  have c0 := hC3.f0
  have c1 := hC3.f1
  have c2 := hC3.f2
  rcases hvd : d.vld with _ | _
  · have hf : Hid (u = false) := by show u = false; rw [← hu.out]; unfold optB; rw [hfe, hvd]; rfl
    go_wp2
    go_ret
    exact ⟨by rw [hf.out]; rfl, b03⟩
  go_wp2_with fail
  refine (bound_any (hg.below b03) (hr.below b03) (hy.below b03) hK1).mono ?_
  rintro e w4 ⟨v4, rfl, hT4, hF4, b4⟩
  have hA4 := hA3.keep b4
  have hC4 := hC3.keep b4
  have b04 := b03.trans (b4.mono b03.size)
  have hv4 := hv.keep b04
  clear z0 z1 c0 c1 c2
  have z0 := hA4.g0
  have z1 := hA4.g1
  have c0 := hC4.f0
  have c1 := hC4.f1
  have c2 := hC4.f2
  have d0 := hv4.f0
  have d1 := hv4.f1
  have d2 := hv4.f2
  rcases hdu : dualB gs rs ys with _ | _
  · have hf : Hid (u = false) := by show u = false; rw [← hu.out]; unfold optB; rw [hfe, hvd, hdu]; rfl
    obtain rfl := hF4 hdu
    clear hF4 hT4 hdu hfe hvd
    obtain ⟨w5, hw5, bw5, hlt5, hP5⟩ := boxed w4 #[.bool false, .slice none 0 0, .slice none 0 0] 29
    obtain ⟨w6, hw6, bw6, hlt6, hQ6⟩ := boxed w5 #[.bool d.neg, .slice d.a d.la.length d.ca, .slice d.b d.lb.length d.cb] 29
    have p0 := hP5.f0
    have p1 := hP5.f1
    have p2 := hP5.f2
    have q0 := hP5.free 0
    have q1 := hP5.free 1
    have q2 := hP5.free 2
    have s0 := hP5.same (i := 0) (u := .bool false) rfl
    have s1 := hP5.same (i := 1) (u := .slice none 0 0) rfl
    have s2 := hP5.same (i := 2) (u := .slice none 0 0) rfl
    have b06 := (b04.trans (bw5.mono b04.size)).trans (bw6.mono (b04.trans (bw5.mono b04.size)).size)
    have hv5 := hv4.keep bw5
    have k0 := hv5.f0
    have k1 := hv5.f1
    have k2 := hv5.f2
    have hC5 := hC4.keep bw5
    have c0' := hC5.f0
    have hS : ∀ w', Below w6.heap.size w6 w' → True ∧ Below w6.heap.size w6 w' := by
      intro w' o
      exact ⟨trivial, o⟩
    have dS : Below w6.heap.size w6 w6.drew := (Below.refl _ _).drew
    go_wp2_with fail
    refine wp_region_noPanic ?_
    refine wp_region_held_drew (S := fun w' => True ∧ Below w6.heap.size w6 w') (by kernel_rfl) (hS _ dS) (fun hHeld => ?_)
    refine wpAnyH_take (i := 0) (v := ?_) rfl (by kernel_rfl) (by kernel_rfl) (by kernel_rfl) (fun _ _ _ h => h) (Or.inl ⟨by rfl, ?_⟩) hHeld ?_
    rotate_left
    · (intro w hSw; (try dsimp only at hSw); go_simp)
      all_goals with_reducible rfl
    try simp only [Act.put, List.getElem_toArray, List.getElem_cons_succ, List.getElem_cons_zero, List.setIfInBounds_toArray, List.set_cons_zero, List.set_cons_succ]
    refine wpAnyH_take (i := 1) (v := ?_) rfl (by kernel_rfl) (by kernel_rfl) (by kernel_rfl) (fun _ _ _ h => h) (Or.inl ⟨by rfl, ?_⟩) hHeld ?_
    rotate_left
    · (intro w hSw; (try dsimp only at hSw); go_simp)
      all_goals with_reducible rfl
    try simp only [Act.put, List.getElem_toArray, List.getElem_cons_succ, List.getElem_cons_zero, List.setIfInBounds_toArray, List.set_cons_zero, List.set_cons_succ]
    refine wpAnyH_take (i := 2) (v := undef) rfl (by kernel_rfl) (by kernel_rfl) (by kernel_rfl) (fun _ _ _ h => h) (Or.inr ⟨by kernel_rfl, rfl⟩) hHeld ?_
    try simp only [Act.put, List.getElem_toArray, List.getElem_cons_succ, List.getElem_cons_zero, List.setIfInBounds_toArray, List.set_cons_zero, List.set_cons_succ]
    refine wpAnyH_take (i := 3) (v := undef) rfl (by kernel_rfl) (by kernel_rfl) (by kernel_rfl) (fun _ _ _ h => h) (Or.inr ⟨by kernel_rfl, rfl⟩) hHeld ?_
    try simp only [Act.put, List.getElem_toArray, List.getElem_cons_succ, List.getElem_cons_zero, List.setIfInBounds_toArray, List.set_cons_zero, List.set_cons_succ]
    refine wpAnyH_take (i := 4) (v := undef) rfl (by kernel_rfl) (by kernel_rfl) (by kernel_rfl) (fun _ _ _ h => h) (Or.inr ⟨by kernel_rfl, rfl⟩) hHeld ?_
    try simp only [Act.put, List.getElem_toArray, List.getElem_cons_succ, List.getElem_cons_zero, List.setIfInBounds_toArray, List.set_cons_zero, List.set_cons_succ]
    refine wpAnyH_take (i := 6) (v := undef) rfl (by kernel_rfl) (by kernel_rfl) (by kernel_rfl) (fun _ _ _ h => h) (Or.inr ⟨by kernel_rfl, rfl⟩) hHeld ?_
    try simp only [Act.put, List.getElem_toArray, List.getElem_cons_succ, List.getElem_cons_zero, List.setIfInBounds_toArray, List.set_cons_zero, List.set_cons_succ]
    refine wpAnyH_take (i := 8) (v := undef) rfl (by kernel_rfl) (by kernel_rfl) (by kernel_rfl) (fun _ _ _ h => h) (Or.inr ⟨by kernel_rfl, rfl⟩) hHeld ?_
    try simp only [Act.put, List.getElem_toArray, List.getElem_cons_succ, List.getElem_cons_zero, List.setIfInBounds_toArray, List.set_cons_zero, List.set_cons_succ]
    refine wpAnyH_take (i := 9) (v := undef) rfl (by kernel_rfl) (by kernel_rfl) (by kernel_rfl) (fun _ _ _ h => h) (Or.inr ⟨by kernel_rfl, rfl⟩) hHeld ?_
    try simp only [Act.put, List.getElem_toArray, List.getElem_cons_succ, List.getElem_cons_zero, List.setIfInBounds_toArray, List.set_cons_zero, List.set_cons_succ]
    refine wpAnyH_take (i := 12) (v := undef) rfl (by kernel_rfl) (by kernel_rfl) (by kernel_rfl) (fun _ _ _ h => h) (Or.inr ⟨by kernel_rfl, rfl⟩) hHeld ?_
    try simp only [Act.put, List.getElem_toArray, List.getElem_cons_succ, List.getElem_cons_zero, List.setIfInBounds_toArray, List.set_cons_zero, List.set_cons_succ]
    refine wpAnyH_ready (rs := [5]) (by kernel_rfl) (by simp) ?_
    refine AllReadyH.cons rfl (fun K hK => ?_) AllReadyH.nil
    go_simp
    refine hK.out _ _ (hS _ (by assumption)) (fun hHeld => ?_)
    clear hK K
    try simp only [Act.put, List.getElem_toArray, List.getElem_cons_succ, List.getElem_cons_zero, List.setIfInBounds_toArray, List.set_cons_zero, List.set_cons_succ]
    refine wpAnyH_ready (rs := [7]) (by kernel_rfl) (by simp) ?_
    refine AllReadyH.cons rfl (fun K hK => ?_) AllReadyH.nil
    go_simp
    refine hK.out _ _ (hS _ (by assumption)) (fun hHeld => ?_)
    clear hK K
    try simp only [Act.put, List.getElem_toArray, List.getElem_cons_succ, List.getElem_cons_zero, List.setIfInBounds_toArray, List.set_cons_zero, List.set_cons_succ]
    refine wpAnyH_ready (rs := [10]) (by kernel_rfl) (by simp) ?_
    refine AllReadyH.cons rfl (fun K hK => ?_) AllReadyH.nil
    go_simp
    refine hK.out _ _ (hS _ (by assumption)) (fun hHeld => ?_)
    clear hK K
    try simp only [Act.put, List.getElem_toArray, List.getElem_cons_succ, List.getElem_cons_zero, List.setIfInBounds_toArray, List.set_cons_zero, List.set_cons_succ]
    refine wpAnyH_take (i := 11) (v := undef) rfl (by kernel_rfl) (by kernel_rfl) (by kernel_rfl) (fun _ _ _ h => h) (Or.inr ⟨by kernel_rfl, rfl⟩) hHeld ?_
    try simp only [Act.put, List.getElem_toArray, List.getElem_cons_succ, List.getElem_cons_zero, List.setIfInBounds_toArray, List.set_cons_zero, List.set_cons_succ]
    refine wpAnyH_take (i := 13) (v := undef) rfl (by kernel_rfl) (by kernel_rfl) (by kernel_rfl) (fun _ _ _ h => h) (Or.inr ⟨by kernel_rfl, rfl⟩) hHeld ?_
    try simp only [Act.put, List.getElem_toArray, List.getElem_cons_succ, List.getElem_cons_zero, List.setIfInBounds_toArray, List.set_cons_zero, List.set_cons_succ]
    refine wpAnyH_take (i := 14) (v := ?_) rfl (by kernel_rfl) (by kernel_rfl) (by kernel_rfl) (fun _ _ _ h => h) (Or.inl ⟨by rfl, ?_⟩) hHeld ?_
    rotate_left
    · (intro w hSw; (try dsimp only at hSw); go_simp)
      all_goals with_reducible rfl
    try simp only [Act.put, List.getElem_toArray, List.getElem_cons_succ, List.getElem_cons_zero, List.setIfInBounds_toArray, List.set_cons_zero, List.set_cons_succ]
    refine wpAnyH_take (i := 15) (v := ?_) rfl (by kernel_rfl) (by kernel_rfl) (by kernel_rfl) (fun _ _ _ h => h) (Or.inl ⟨by rfl, ?_⟩) hHeld ?_
    rotate_left
    · (intro w hSw; (try dsimp only at hSw); go_simp)
      all_goals with_reducible rfl
    try simp only [Act.put, List.getElem_toArray, List.getElem_cons_succ, List.getElem_cons_zero, List.setIfInBounds_toArray, List.set_cons_zero, List.set_cons_succ]
    refine wpAnyH_done (by kernel_rfl) ?_ _
    refine NoPanic.normal ?_
    try go_simp
    clear hHeld hS dS
    go_wp2
    go_ret
    exact ⟨by rw [hf.out]; rfl, below_drewN b06 _⟩
  have fv4 := hT4 hdu
  clear hF4 hT4
  obtain ⟨n4, A4, a4, l4, B4, e4, m4, rfl, na4, nb4, iq4⟩ := id fv4
  clear na4 nb4 iq4
  have hvr : Hid ((decide (sumR (prods gs xs) = sumR (bnds rs ys)) && decide (d.q = sumR (bnds rs ys))) = u) := by show _ = u; rw [← hu.out]; unfold optB; rw [hfe, hvd, hdu]; rfl
  obtain ⟨hrw, hwg, hwx, hlenx⟩ := feaB_at hfe
  obtain ⟨hwy, hleny⟩ := dualB_at hdu
  obtain ⟨hfx, hfitx⟩ := hx.fl hwx
  obtain ⟨hfy, hfity⟩ := hy.fl hwy
  obtain ⟨hfg, hfitg⟩ := hg.fl hwg
  obtain ⟨hfd, hfitd⟩ := hd.fv hvd
  have hfx1 := Lib.hid hfitx
  have hfg1 := Lib.hid hfitg
  have hfd1 := Lib.hid hfitd
  have hsb := Lib.hid (bnds_sum_fits (m := rs.length) hrw hr.few hfity (by omega))
  have hsv := Lib.hid (prods_sum_fits (m := gs.length) hfitg hfitx (Nat.le_refl _))
  clear hfitx hfity hfitg hfitd hwx hwy hwg hrw hlenx hleny hfe hdu hvd
  obtain ⟨w5, hw5, bw5, hlt5, hP5⟩ := boxed w4 #[.bool n4, .slice A4 l4.length a4, .slice B4 m4.length e4] 29
  obtain ⟨w6, hw6, bw6, hlt6, hQ6⟩ := boxed w5 #[.bool d.neg, .slice d.a d.la.length d.ca, .slice d.b d.lb.length d.cb] 29
  have b06 := (b04.trans (bw5.mono b04.size)).trans (bw6.mono (b04.trans (bw5.mono b04.size)).size)
  have hv5 := hv4.keep bw5
  have k0 := hv5.f0
  have k1 := hv5.f1
  have k2 := hv5.f2
  have hC5 := hC4.keep bw5
  have c0' := hC5.f0
  have hC6 := hC5.keep bw6
  have hA6 := (hA4.keep bw5).keep bw6
  have hP6 := hP5.keep bw6
  have fv6 := (fv4.below bw5).below bw6
  have fd6 := hfd.below b06
  obtain ⟨sb, hsbq⟩ : ∃ q, Hid (sumR (bnds rs ys) = q) := ⟨_, rfl⟩
  obtain ⟨sv, hsvq⟩ : ∃ q, Hid (sumR (prods gs xs) = q) := ⟨_, rfl⟩
  rw [hsbq.out] at fv6 hsb
  rw [hsvq.out] at hsv
  rw [hsbq.out, hsvq.out] at hvr
  obtain ⟨cA, hcA⟩ : ∃ z, Hid (cmpR sv sb = z) := ⟨_, rfl⟩
  obtain ⟨cB, hcB⟩ : ∃ z, Hid (cmpR d.q sb = z) := ⟨_, rfl⟩
  have hS : ∀ w', Below w6.heap.size w6 w' → w'.cell? ⟨w0.heap.size, 0, none⟩ = some (.slice ga gs.length gc) ∧ w'.cell? ⟨w0.heap.size, 1, none⟩ = some (.slice ra rs.length rc) ∧ w'.cell? ⟨w.heap.size, 1, none⟩ = some (.slice X xs.length cx) ∧ w'.cell? ⟨w4.heap.size, 0, none⟩ = some (.bool n4) ∧ w'.cell? ⟨w4.heap.size, 1, none⟩ = some (.slice A4 l4.length a4) ∧ w'.cell? ⟨w4.heap.size, 2, none⟩ = some (.slice B4 m4.length e4) ∧ w'.cell? ⟨w5.heap.size, 0, none⟩ = some (.bool d.neg) ∧ w'.cell? ⟨w5.heap.size, 1, none⟩ = some (.slice d.a d.la.length d.ca) ∧ w'.cell? ⟨w5.heap.size, 2, none⟩ = some (.slice d.b d.lb.length d.cb) ∧ Below w6.heap.size w6 w' := by
    intro w' o
    have hXw := hA6.keep o
    have hOw := hC6.keep o
    have hPw := hP6.keep o
    have hQw := hQ6.keep o
    exact ⟨hXw.g0, hXw.g1, hOw.f1, hPw.f0, hPw.f1, hPw.f2, hQw.f0, hQw.f1, hQw.f2, o⟩
  have dS : Below w6.heap.size w6 w6.drew := (Below.refl _ _).drew
  go_wp2_with fail
  refine wp_region_noPanic ?_
  refine wp_region_held_drew (S := fun w' => w'.cell? ⟨w0.heap.size, 0, none⟩ = some (.slice ga gs.length gc) ∧ w'.cell? ⟨w0.heap.size, 1, none⟩ = some (.slice ra rs.length rc) ∧ w'.cell? ⟨w.heap.size, 1, none⟩ = some (.slice X xs.length cx) ∧ w'.cell? ⟨w4.heap.size, 0, none⟩ = some (.bool n4) ∧ w'.cell? ⟨w4.heap.size, 1, none⟩ = some (.slice A4 l4.length a4) ∧ w'.cell? ⟨w4.heap.size, 2, none⟩ = some (.slice B4 m4.length e4) ∧ w'.cell? ⟨w5.heap.size, 0, none⟩ = some (.bool d.neg) ∧ w'.cell? ⟨w5.heap.size, 1, none⟩ = some (.slice d.a d.la.length d.ca) ∧ w'.cell? ⟨w5.heap.size, 2, none⟩ = some (.slice d.b d.lb.length d.cb) ∧ Below w6.heap.size w6 w') (by kernel_rfl) (hS _ dS) (fun hHeld => ?_)
  refine wpAnyH_take (i := 0) (v := ?_) rfl (by kernel_rfl) (by kernel_rfl) (by kernel_rfl) (fun _ _ _ h => h) (Or.inl ⟨by rfl, ?_⟩) hHeld ?_
  rotate_left
  · (intro w hSw; (try dsimp only at hSw); go_simp)
    all_goals with_reducible rfl
  try simp only [Act.put, List.getElem_toArray, List.getElem_cons_succ, List.getElem_cons_zero, List.setIfInBounds_toArray, List.set_cons_zero, List.set_cons_succ]
  refine wpAnyH_take (i := 1) (v := ?_) rfl (by kernel_rfl) (by kernel_rfl) (by kernel_rfl) (fun _ _ _ h => h) (Or.inl ⟨by rfl, ?_⟩) hHeld ?_
  rotate_left
  · (intro w hSw; (try dsimp only at hSw); go_simp)
    all_goals with_reducible rfl
  try simp only [Act.put, List.getElem_toArray, List.getElem_cons_succ, List.getElem_cons_zero, List.setIfInBounds_toArray, List.set_cons_zero, List.set_cons_succ]
  refine wpAnyH_take (i := 2) (v := ?_) rfl (by kernel_rfl) (by kernel_rfl) (by kernel_rfl) (fun _ _ _ h => h) (Or.inl ⟨by rfl, ?_⟩) hHeld ?_
  rotate_left
  · (intro w hSw; (try dsimp only at hSw); go_simp)
    all_goals with_reducible rfl
  try simp only [Act.put, List.getElem_toArray, List.getElem_cons_succ, List.getElem_cons_zero, List.setIfInBounds_toArray, List.set_cons_zero, List.set_cons_succ]
  refine wpAnyH_take (i := 3) (v := ?_) rfl (by kernel_rfl) (by kernel_rfl) (by kernel_rfl) (fun _ _ _ h => h) (Or.inl ⟨by rfl, ?_⟩) hHeld ?_
  rotate_left
  · (intro w hSw; (try dsimp only at hSw); go_simp)
    all_goals with_reducible rfl
  try simp only [Act.put, List.getElem_toArray, List.getElem_cons_succ, List.getElem_cons_zero, List.setIfInBounds_toArray, List.set_cons_zero, List.set_cons_succ]
  refine wpAnyH_take (i := 4) (v := ?_) rfl (by kernel_rfl) (by kernel_rfl) (by kernel_rfl) (fun _ _ _ h => h) (Or.inl ⟨by rfl, ?_⟩) hHeld ?_
  rotate_left
  · (intro w hSw; (try dsimp only at hSw); go_simp)
    all_goals with_reducible rfl
  try simp only [Act.put, List.getElem_toArray, List.getElem_cons_succ, List.getElem_cons_zero, List.setIfInBounds_toArray, List.set_cons_zero, List.set_cons_succ]
  refine wpAnyH_take (i := 6) (v := ?_) rfl (by kernel_rfl) (by kernel_rfl) (by kernel_rfl) (fun _ _ _ h => h) (Or.inl ⟨by rfl, ?_⟩) hHeld ?_
  rotate_left
  · (intro w hSw; (try dsimp only at hSw); go_simp)
    all_goals with_reducible rfl
  try simp only [Act.put, List.getElem_toArray, List.getElem_cons_succ, List.getElem_cons_zero, List.setIfInBounds_toArray, List.set_cons_zero, List.set_cons_succ]
  refine wpAnyH_take (i := 8) (v := ?_) rfl (by kernel_rfl) (by kernel_rfl) (by kernel_rfl) (fun _ _ _ h => h) (Or.inl ⟨by rfl, ?_⟩) hHeld ?_
  rotate_left
  · (intro w hSw; (try dsimp only at hSw); go_simp)
    all_goals with_reducible rfl
  try simp only [Act.put, List.getElem_toArray, List.getElem_cons_succ, List.getElem_cons_zero, List.setIfInBounds_toArray, List.set_cons_zero, List.set_cons_succ]
  refine wpAnyH_take (i := 9) (v := ?_) rfl (by kernel_rfl) (by kernel_rfl) (by kernel_rfl) (fun _ _ _ h => h) (Or.inl ⟨by rfl, ?_⟩) hHeld ?_
  rotate_left
  · (intro w hSw; (try dsimp only at hSw); go_simp)
    all_goals with_reducible rfl
  try simp only [Act.put, List.getElem_toArray, List.getElem_cons_succ, List.getElem_cons_zero, List.setIfInBounds_toArray, List.set_cons_zero, List.set_cons_succ]
  refine wpAnyH_take (i := 12) (v := ?_) rfl (by kernel_rfl) (by kernel_rfl) (by kernel_rfl) (fun _ _ _ h => h) (Or.inl ⟨by rfl, ?_⟩) hHeld ?_
  rotate_left
  · (intro w hSw; (try dsimp only at hSw); go_simp)
    all_goals with_reducible rfl
  try simp only [Act.put, List.getElem_toArray, List.getElem_cons_succ, List.getElem_cons_zero, List.setIfInBounds_toArray, List.set_cons_zero, List.set_cons_succ]
  refine wpAnyH_ready (rs := [5]) (by kernel_rfl) (by simp) ?_
  refine AllReadyH.cons rfl (fun K hK => ?_) AllReadyH.nil
  go_simp
  (go_at_call 27; go_split_ands; (with_reducible refine (value_any ((hfg.below b06).below (by assumption)) ((hfx.below b06).below (by assumption)) hfg1.out hfx1.out (by omega)).mono ?_); rintro e v7 ⟨x7, rfl, f7, g7⟩; rw [hsvq.out] at f7; have o7 := below_step (show Below w6.heap.size w6 _ by assumption) g7)
  go_wp2_with fail
  refine hK.out _ _ (hS _ (by assumption)) (fun hHeld => ?_)
  clear hK K
  try simp only [Act.put, List.getElem_toArray, List.getElem_cons_succ, List.getElem_cons_zero, List.setIfInBounds_toArray, List.set_cons_zero, List.set_cons_succ]
  refine wpAnyH_ready (rs := [7]) (by kernel_rfl) (by simp) ?_
  refine AllReadyH.cons rfl (fun K hK => ?_) AllReadyH.nil
  go_simp
  (go_at_call 45; go_split_ands; (with_reducible refine (cmpF_any f7 (fv6.below (by assumption)) hsv.out hsb.out (by omega) (by omega)).mono ?_); rintro e v8 ⟨rfl, g8⟩; rw [hcA.out]; have o8 := below_step (show Below w6.heap.size w6 _ by assumption) g8)
  go_wp2_with fail
  refine hK.out _ _ (hS _ (by assumption)) (fun hHeld => ?_)
  clear hK K
  try simp only [Act.put, List.getElem_toArray, List.getElem_cons_succ, List.getElem_cons_zero, List.setIfInBounds_toArray, List.set_cons_zero, List.set_cons_succ]
  refine wpAnyH_ready (rs := [10]) (by kernel_rfl) (by simp) ?_
  refine AllReadyH.cons rfl (fun K hK => ?_) AllReadyH.nil
  go_simp
  (go_at_call 45; go_split_ands; (with_reducible refine (cmpF_any (fd6.below (by assumption)) (fv6.below (by assumption)) hfd1.out hsb.out hKs (by omega)).mono ?_); rintro e v9 ⟨rfl, g9⟩; rw [hcB.out]; have o9 := below_step (show Below w6.heap.size w6 _ by assumption) g9)
  go_wp2_with fail
  refine hK.out _ _ (hS _ (by assumption)) (fun hHeld => ?_)
  clear hK K
  try simp only [Act.put, List.getElem_toArray, List.getElem_cons_succ, List.getElem_cons_zero, List.setIfInBounds_toArray, List.set_cons_zero, List.set_cons_succ]
  refine wpAnyH_take (i := 11) (v := ?_) rfl (by kernel_rfl) (by kernel_rfl) (by kernel_rfl) (fun _ _ _ h => h) (Or.inl ⟨by rfl, ?_⟩) hHeld ?_
  rotate_left
  · (intro w hSw; (try dsimp only at hSw); go_simp)
    all_goals with_reducible rfl
  try simp only [Act.put, List.getElem_toArray, List.getElem_cons_succ, List.getElem_cons_zero, List.setIfInBounds_toArray, List.set_cons_zero, List.set_cons_succ]
  refine wpAnyH_take (i := 13) (v := .bool (decide (cA = 0) && decide (cB = 0))) rfl (by kernel_rfl) (by kernel_rfl) (by kernel_rfl) (fun _ _ _ h => h) (Or.inl ⟨by rfl, ?_⟩) hHeld ?_
  · (intro w hSw; (try dsimp only at hSw); go_simp)
    by_cases q1 : cA = 0 <;> by_cases q2 : cB = 0 <;> simp [q1, q2]
  try simp only [Act.put, List.getElem_toArray, List.getElem_cons_succ, List.getElem_cons_zero, List.setIfInBounds_toArray, List.set_cons_zero, List.set_cons_succ]
  refine wpAnyH_take (i := 14) (v := ?_) rfl (by kernel_rfl) (by kernel_rfl) (by kernel_rfl) (fun _ _ _ h => h) (Or.inl ⟨by rfl, ?_⟩) hHeld ?_
  rotate_left
  · (intro w hSw; (try dsimp only at hSw); go_simp)
    all_goals with_reducible rfl
  try simp only [Act.put, List.getElem_toArray, List.getElem_cons_succ, List.getElem_cons_zero, List.setIfInBounds_toArray, List.set_cons_zero, List.set_cons_succ]
  refine wpAnyH_take (i := 15) (v := ?_) rfl (by kernel_rfl) (by kernel_rfl) (by kernel_rfl) (fun _ _ _ h => h) (Or.inl ⟨by rfl, ?_⟩) hHeld ?_
  rotate_left
  · (intro w hSw; (try dsimp only at hSw); go_simp)
    all_goals with_reducible rfl
  try simp only [Act.put, List.getElem_toArray, List.getElem_cons_succ, List.getElem_cons_zero, List.setIfInBounds_toArray, List.set_cons_zero, List.set_cons_succ]
  refine wpAnyH_done (by kernel_rfl) ?_ _
  refine NoPanic.normal ?_
  try go_simp
  clear hHeld hS dS
  have hfin : Hid ((decide (cA = 0) && decide (cB = 0)) = u) := by
    show _ = u
    rw [← hvr.out, ← hcA.out, ← hcB.out]
    simp only [cmpR_zero]
  have b10 := b06.trans (o9.mono b06.size)
  go_wp2
  go_ret
  exact ⟨by rw [hfin.out]; rfl, b10⟩
end Go.Proofs.Ytlocaleiloiaoaa
