/- the closure of matrix.pivot: what the call does. -/
import Derived.Test.YtkjmliebkbbogaaMInts
import Derived.Test.YtkjmliebkbbogaaFSub
import Derived.Deep.RegionHeld3
import Derived.Test.YtkjmliebkbbogaaMAps
import Derived.Test.YtkjmliebkbbogaaFDot
import Derived.Test.YtkjmliebkbbogaaFSign
namespace Go.Proofs.Ytkjmliebkbbogaa
set_option linter.unusedVariables false
set_option linter.unusedSimpArgs false
open Go.RowKit Plain
attribute [local go_sem ↓] Go.wp_at_zero Go.wp_at_succ

set_option maxRecDepth 100000 in
set_option maxHeartbeats 4000000 in
theorem pivC_any {K gm gp gc p j : Nat} {t1 t2 t3 : TypeId} {v : Value} {q : Rat} {A : Option Addr} {c : Nat} {rows : List RwD} {w : World} (hx : FV w v q) (hM : Blk w gm t1 #[.slice A rows.length c]) (hP : Blk w gp t2 #[.int .i64 (p : Int)]) (hJ : Blk w gc t3 #[.int .i64 (j : Int)])
    (h : ML w A c rows) (hp : p < rows.length) (hj : ∀ r ∈ rows, j < r.ds.length) (hfx : Fits K q) (hfm : MFits K (qsM rows)) (hnz : fn (qsM rows) p j ≠ 0) (hK : K + K ≤ 400000000) :
    Calls Try.prog 65 #[v, .pointer (some ⟨gm, 0, none⟩), .pointer (some ⟨gp, 0, none⟩), .pointer (some ⟨gc, 0, none⟩)] w (RetQ (q / fn (qsM rows) p j) w) := by
  obtain ⟨n0, X0, x0, l0, Y0, y0, m0, rfl, nx, ny, iqx⟩ := id hx
  clear nx ny iqx
  obtain ⟨w0, hw0, bw0, hlt0, hX0⟩ := boxed w #[.bool n0, .slice X0 l0.length x0, .slice Y0 m0.length y0] 50
  obtain ⟨w1, hw1, bw1, hlt1, hR⟩ := boxed w0 #[.bool false, .slice none 0 0, .slice none 0 0] 50
  have b01 := bw0.trans (bw1.mono (Nat.le_of_lt hlt0))
  have hX1 := hX0.keep bw1
  have hM1 := hM.below b01 hM.lt
  have hP1 := hP.below b01 hP.lt
  have hJ1 := hJ.below b01 hJ.lt
  have hl := h.len
  obtain ⟨a, r, rfl, hab, hrow, hfr, hrk⟩ := (h.below b01).at hp
  have hjr := hj r (List.mem_of_getElem? hrk.out)
  have hlr := hfr.len
  obtain ⟨b, d, eb, hbb, hc0, hc1, hc2, he, hdk⟩ := hfr.at hjr
  have hfe := Lib.hid (show fn (qsM rows) p j = d.q by
    unfold fn qsM
    rw [List.getD_eq_getElem?_getD (l := rows.map _), List.getElem?_map, hrk.out]
    show (r.ds.map FrD.q).getD j 0 = _
    rw [List.getD_eq_getElem?_getD, List.getElem?_map, hdk.out]; rfl)
  have he2 := Lib.hid (QFits.fr (hfm.row hrk.out) d (List.mem_of_getElem? hdk.out))
  have hne := Lib.hid (show d.q ≠ 0 by rw [← hfe.out]; exact hnz)
  rw [hfe.out]
  rw [eb] at hrow
  have hpi : (p : Int) < (rows.length : Int) := by omega
  have hji : (j : Int) < (r.ds.length : Int) := by omega
  replace hx := hx.below b01
  clear hfm hnz h hfr hj eb
  go_enter Try.func65, Try.ntmps65
  have bT := b01
  have hS : ∀ w', Below w1.heap.size w1 w' → w'.cell? ⟨w.heap.size, 0, none⟩ = some (.bool n0) ∧ w'.cell? ⟨w.heap.size, 1, none⟩ = some (.slice X0 l0.length x0) ∧ w'.cell? ⟨w.heap.size, 2, none⟩ = some (.slice Y0 m0.length y0) ∧ w'.cell? ⟨gm, 0, none⟩ = some (.slice (some a) rows.length c) ∧ w'.cell? ⟨gp, 0, none⟩ = some (.int .i64 (p : Int)) ∧ w'.cell? ⟨gc, 0, none⟩ = some (.int .i64 (j : Int)) ∧ w'.cell? (a.add p) = some (.slice (some b) r.ds.length r.c) ∧ w'.cell? (b.add (j * 3)) = some (.bool d.neg) ∧ w'.cell? ⟨(b.add (j * 3)).block, (b.add (j * 3)).off + 1, none⟩ = some (.slice d.a d.la.length d.ca) ∧ w'.cell? ⟨(b.add (j * 3)).block, (b.add (j * 3)).off + 2, none⟩ = some (.slice d.b d.lb.length d.cb) ∧ Below w1.heap.size w1 w' := by
    intro w' o
    have h1 := hX1.keep o
    have h2 := hM1.keep o
    have h3 := hP1.keep o
    have h4 := hJ1.keep o
    exact ⟨h1.f0, h1.f1, h1.f2, h2.v0, h3.v0, h4.v0, (o.cell (by show (a.add p).block < _; rw [block_add]; exact hab)).trans hrow, (o.cell (by show (b.add (j * 3)).block < _; rw [block_add]; exact hbb)).trans hc0, (o.cell (by show (b.add (j * 3)).block < _; rw [block_add]; exact hbb)).trans hc1, (o.cell (by show (b.add (j * 3)).block < _; rw [block_add]; exact hbb)).trans hc2, o⟩
  have bo : Below w1.heap.size w1 w1 := Below.refl _ _
  have dS : Below w1.heap.size w1 w1.drew := bo.drew
  go_wp2_with fail
  refine wp_region_noPanic ?_
  refine wp_region_held_drew (S := fun w' => w'.cell? ⟨w.heap.size, 0, none⟩ = some (.bool n0) ∧ w'.cell? ⟨w.heap.size, 1, none⟩ = some (.slice X0 l0.length x0) ∧ w'.cell? ⟨w.heap.size, 2, none⟩ = some (.slice Y0 m0.length y0) ∧ w'.cell? ⟨gm, 0, none⟩ = some (.slice (some a) rows.length c) ∧ w'.cell? ⟨gp, 0, none⟩ = some (.int .i64 (p : Int)) ∧ w'.cell? ⟨gc, 0, none⟩ = some (.int .i64 (j : Int)) ∧ w'.cell? (a.add p) = some (.slice (some b) r.ds.length r.c) ∧ w'.cell? (b.add (j * 3)) = some (.bool d.neg) ∧ w'.cell? ⟨(b.add (j * 3)).block, (b.add (j * 3)).off + 1, none⟩ = some (.slice d.a d.la.length d.ca) ∧ w'.cell? ⟨(b.add (j * 3)).block, (b.add (j * 3)).off + 2, none⟩ = some (.slice d.b d.lb.length d.cb) ∧ Below w1.heap.size w1 w') (by kernel_rfl) (hS _ dS) (fun hHeld => ?_)
  refine wpAnyH_take (i := 0) (v := ?_) rfl (by kernel_rfl) (by kernel_rfl) (by kernel_rfl) (fun _ _ _ h => h) (Or.inl ⟨by rfl, ?_⟩) hHeld ?_
  rotate_left
  · (intro w hSw; (try dsimp only at hSw); go_simp)
    all_goals with_reducible rfl
  try simp only [Act.put, List.getElem_toArray, List.getElem_cons_succ, List.getElem_cons_zero, List.setIfInBounds_toArray, List.set_cons_zero, List.set_cons_succ]
  refine wpAnyH_take (i := 1) (v := ?_) rfl (by kernel_rfl) (by kernel_rfl) (by kernel_rfl) (fun _ _ _ h => h) (Or.inl ⟨by rfl, ?_⟩) hHeld ?_
  rotate_left
  · (intro w hSw; (try dsimp only at hSw); go_simp)
    all_goals with_reducible rfl
  try simp only [Act.put, List.getElem_toArray, List.getElem_cons_succ, List.getElem_cons_zero, List.setIfInBounds_toArray, List.set_cons_zero, List.set_cons_succ]
  refine wpAnyH_take (i := 2) (v := ?_) rfl (by kernel_rfl) (by kernel_rfl) (by kernel_rfl) (fun _ _ _ h => h) (Or.inl ⟨by rfl, ?_⟩) hHeld ?_
  rotate_left
  · (intro w hSw; (try dsimp only at hSw); go_simp)
    all_goals with_reducible rfl
  try simp only [Act.put, List.getElem_toArray, List.getElem_cons_succ, List.getElem_cons_zero, List.setIfInBounds_toArray, List.set_cons_zero, List.set_cons_succ]
  refine wpAnyH_take (i := 3) (v := ?_) rfl (by kernel_rfl) (by kernel_rfl) (by kernel_rfl) (fun _ _ _ h => h) (Or.inl ⟨by rfl, ?_⟩) hHeld ?_
  rotate_left
  · (intro w hSw; (try dsimp only at hSw); go_simp)
    all_goals with_reducible rfl
  try simp only [Act.put, List.getElem_toArray, List.getElem_cons_succ, List.getElem_cons_zero, List.setIfInBounds_toArray, List.set_cons_zero, List.set_cons_succ]
  refine wpAnyH_take (i := 4) (v := ?_) rfl (by kernel_rfl) (by kernel_rfl) (by kernel_rfl) (fun _ _ _ h => h) (Or.inl ⟨by rfl, ?_⟩) hHeld ?_
  rotate_left
  · (intro w hSw; (try dsimp only at hSw); go_simp)
    all_goals with_reducible rfl
  try simp only [Act.put, List.getElem_toArray, List.getElem_cons_succ, List.getElem_cons_zero, List.setIfInBounds_toArray, List.set_cons_zero, List.set_cons_succ]
  refine wpAnyH_take (i := 5) (v := ?_) rfl (by kernel_rfl) (by kernel_rfl) (by kernel_rfl) (fun _ _ _ h => h) (Or.inl ⟨by rfl, ?_⟩) hHeld ?_
  rotate_left
  · (intro w hSw; (try dsimp only at hSw); go_simp)
    all_goals with_reducible rfl
  try simp only [Act.put, List.getElem_toArray, List.getElem_cons_succ, List.getElem_cons_zero, List.setIfInBounds_toArray, List.set_cons_zero, List.set_cons_succ]
  refine wpAnyH_take (i := 6) (v := ?_) rfl (by kernel_rfl) (by kernel_rfl) (by kernel_rfl) (fun _ _ _ h => h) (Or.inl ⟨by rfl, ?_⟩) hHeld ?_
  rotate_left
  · (intro w hSw; (try dsimp only at hSw); go_simp)
    all_goals with_reducible rfl
  try simp only [Act.put, List.getElem_toArray, List.getElem_cons_succ, List.getElem_cons_zero, List.setIfInBounds_toArray, List.set_cons_zero, List.set_cons_succ]
  refine wpAnyH_take (i := 7) (v := ?_) rfl (by kernel_rfl) (by kernel_rfl) (by kernel_rfl) (fun _ _ _ h => h) (Or.inl ⟨by rfl, ?_⟩) hHeld ?_
  rotate_left
  · (intro w hSw; (try dsimp only at hSw); go_simp)
    all_goals with_reducible rfl
  try simp only [Act.put, List.getElem_toArray, List.getElem_cons_succ, List.getElem_cons_zero, List.setIfInBounds_toArray, List.set_cons_zero, List.set_cons_succ]
  refine wpAnyH_ready (rs := [8, 12]) (by kernel_rfl) (by simp) ?_
  refine AllReadyH.cons rfl (fun K hK => ?_) ?_
  · go_simp
    have dw0 : Below w1.heap.size w1 w1.drew := (Below.refl _ _).drew
    replace hx := hx.below dw0
    replace he := he.below dw0
    replace hR := hR.keep dw0
    replace bT := bT.trans (dw0.mono bT.size)
    replace bo := bo.trans (dw0.mono bo.size)
    go_at_call 66
    refine (divF_any hx he hfx he2.out (by omega) hne.out).mono ?_
    rintro e u1 ⟨v1, rfl, ⟨n1, A1, a1, l1, B1, c1, m1, rfl, na, nb, iq⟩, bu1⟩
    replace hx := hx.below bu1
    replace he := he.below bu1
    replace hR := hR.keep bu1
    replace bT := bT.trans (bu1.mono bT.size)
    replace bo := bo.trans (bu1.mono bo.size)
    have iq' := Lib.hid iq
    clear iq
    go_wp2_with fail
    refine hK.out _ _ (hS _ bo) (fun hHeld => ?_)
    clear hK K
    try simp only [Act.put, List.getElem_toArray, List.getElem_cons_succ, List.getElem_cons_zero, List.setIfInBounds_toArray, List.set_cons_zero, List.set_cons_succ]
    refine wpAnyH_take (i := 9) (v := ?_) rfl (by kernel_rfl) (by kernel_rfl) (by kernel_rfl) (fun _ _ _ h => h) (Or.inl ⟨by rfl, ?_⟩) hHeld ?_
    rotate_left
    · (intro w hSw; (try dsimp only at hSw); go_simp)
      all_goals with_reducible rfl
    try simp only [Act.put, List.getElem_toArray, List.getElem_cons_succ, List.getElem_cons_zero, List.setIfInBounds_toArray, List.set_cons_zero, List.set_cons_succ]
    refine wpAnyH_take (i := 10) (v := ?_) rfl (by kernel_rfl) (by kernel_rfl) (by kernel_rfl) (fun _ _ _ h => h) (Or.inl ⟨by rfl, ?_⟩) hHeld ?_
    rotate_left
    · (intro w hSw; (try dsimp only at hSw); go_simp)
      all_goals with_reducible rfl
    try simp only [Act.put, List.getElem_toArray, List.getElem_cons_succ, List.getElem_cons_zero, List.setIfInBounds_toArray, List.set_cons_zero, List.set_cons_succ]
    refine wpAnyH_take (i := 11) (v := ?_) rfl (by kernel_rfl) (by kernel_rfl) (by kernel_rfl) (fun _ _ _ h => h) (Or.inl ⟨by rfl, ?_⟩) hHeld ?_
    rotate_left
    · (intro w hSw; (try dsimp only at hSw); go_simp)
      all_goals with_reducible rfl
    try simp only [Act.put, List.getElem_toArray, List.getElem_cons_succ, List.getElem_cons_zero, List.setIfInBounds_toArray, List.set_cons_zero, List.set_cons_succ]
    refine wpAnyH_ready (rs := [12]) (by kernel_rfl) (by simp) ?_
    refine AllReadyH.cons rfl (fun K hK => ?_) AllReadyH.nil
    have bzu1 := bo.size
    obtain ⟨u2, hu2, bu2, lu2, Bu2⟩ := boxed u1 #[.bool false, .slice none 0 0, .slice none 0 0] 50
    replace hx := hx.below bu2
    replace he := he.below bu2
    replace hR := hR.keep bu2
    replace na := na.below bu2
    replace nb := nb.below bu2
    replace bT := bT.trans (bu2.mono bT.size)
    replace bo := bo.trans (bu2.mono bo.size)
    obtain ⟨gz, hgz⟩ : ∃ g, g = u1.heap.size := ⟨_, rfl⟩
    have hge : w1.heap.size ≤ gz := by rw [hgz]; exact bzu1
    have Bz : Blk u2 gz 50 #[.bool false, .slice none 0 0, .slice none 0 0] := by rw [hgz]; exact Bu2
    clear Bu2
    go_simp
    refine hK.out _ _ (hS _ bo) (fun hHeld => ?_)
    clear hK K
    try simp only [Act.put, List.getElem_toArray, List.getElem_cons_succ, List.getElem_cons_zero, List.setIfInBounds_toArray, List.set_cons_zero, List.set_cons_succ]
    refine wpAnyH_ready (rs := [13]) (by kernel_rfl) (by simp) ?_
    refine AllReadyH.cons rfl (fun K hK => ?_) AllReadyH.nil
    subst hgz
    have q0 := Bz.free 0
    have q1 := Bz.free 1
    have q2 := Bz.free 2
    have p0 := Bz.f0
    have p1 := Bz.f1
    have p2 := Bz.f2
    go_simp
    obtain ⟨w9, hw9, hB9, o9⟩ := Bz.set3 (.bool n1) (.slice A1 l1.length a1) (.slice B1 m1.length c1)
    rw [hw9]
    replace bo := o9.to_below bo hge bo.size
    clear q0 q1 q2 p0 p1 p2
    have na9 := na.only_blk Bz (noDig3 _ _ _ _ _ _ _) o9
    have nb9 := nb.only_blk Bz (noDig3 _ _ _ _ _ _ _) o9
    refine hK.out _ _ (hS _ bo) (fun hHeld => ?_)
    clear hK K
    try simp only [Act.put, List.getElem_toArray, List.getElem_cons_succ, List.getElem_cons_zero, List.setIfInBounds_toArray, List.set_cons_zero, List.set_cons_succ]
    refine wpAnyH_take (i := 14) (v := ?_) rfl (by kernel_rfl) (by kernel_rfl) (by kernel_rfl) (fun _ _ _ h => h) (Or.inl ⟨by rfl, ?_⟩) hHeld ?_
    rotate_left
    · (intro w hSw; (try dsimp only at hSw); go_simp)
      all_goals with_reducible rfl
    try simp only [Act.put, List.getElem_toArray, List.getElem_cons_succ, List.getElem_cons_zero, List.setIfInBounds_toArray, List.set_cons_zero, List.set_cons_succ]
    refine wpAnyH_done (by kernel_rfl) ?_ _
    refine NoPanic.normal ?_
    try go_simp
    clear hHeld
    clear hS dS
    have hlz : w0.heap.size ≠ _ := Nat.ne_of_lt (Nat.lt_of_lt_of_le hlt1 hge)
    have hR9 := hR.only o9 hlz
    have bT9 := b01.trans (bo.mono b01.size)
    have z0 := hB9.f0
    have z1 := hB9.f1
    have z2 := hB9.f2
    have hR5 := hR9
    have na5 := na9
    have nb5 := nb9
    have iq5' := iq'
    have b05 := bT9
    have p0 := hR5.f0
    have p1 := hR5.f1
    have p2 := hR5.f2
    have q0 := hR5.free 0
    have q1 := hR5.free 1
    have q2 := hR5.free 2
    go_wp2
    obtain ⟨w8, hw8, hB8, o8⟩ := hR5.set3 (.bool n1) (.slice A1 l1.length a1) (.slice B1 m1.length c1)
    rw [hw8]
    have e0 := hB8.f0
    have e1 := hB8.f1
    have e2 := hB8.f2
    refine bodyPost_ret (v := fracV n1 A1 l1.length a1 B1 m1.length c1) (by simp [results, Try.results65, go_sem, e0, e1, e2]) rfl ?_
    exact ⟨_, rfl, ⟨n1, A1, a1, l1, B1, c1, m1, rfl, na9.only_blk hR5 (noDig3 _ _ _ _ _ _ _) o8, nb9.only_blk hR5 (noDig3 _ _ _ _ _ _ _) o8, iq'.out⟩, o8.to_below b05 (Nat.le_of_lt hlt0) b05.size⟩
  refine AllReadyH.cons rfl (fun K hK => ?_) ?_
  · have bzw1 := bo.size
    obtain ⟨u3, hu3, bu3, lu3, Bu3⟩ := boxed w1 #[.bool false, .slice none 0 0, .slice none 0 0] 50
    replace hx := hx.below bu3
    replace he := he.below bu3
    replace hR := hR.keep bu3
    replace bT := bT.trans (bu3.mono bT.size)
    replace bo := bo.trans (bu3.mono bo.size)
    obtain ⟨gz, hgz⟩ : ∃ g, g = w1.heap.size := ⟨_, rfl⟩
    have hge : w1.heap.size ≤ gz := by rw [hgz]; exact bzw1
    have Bz : Blk u3 gz 50 #[.bool false, .slice none 0 0, .slice none 0 0] := by rw [hgz]; exact Bu3
    clear Bu3
    go_simp
    refine hK.out _ _ (hS _ bo.drew) (fun hHeld => ?_)
    clear hK K
    try simp only [Act.put, List.getElem_toArray, List.getElem_cons_succ, List.getElem_cons_zero, List.setIfInBounds_toArray, List.set_cons_zero, List.set_cons_succ]
    refine wpAnyH_ready (rs := [8]) (by kernel_rfl) (by simp) ?_
    refine AllReadyH.cons rfl (fun K hK => ?_) AllReadyH.nil
    go_simp
    have dw3 : Below u3.heap.size u3 u3.drew := (Below.refl _ _).drew
    replace hx := hx.below dw3
    replace he := he.below dw3
    replace hR := hR.keep dw3
    replace Bz := Bz.keep dw3
    replace bT := bT.trans (dw3.mono bT.size)
    replace bo := bo.trans (dw3.mono bo.size)
    go_at_call 66
    refine (divF_any hx he hfx he2.out (by omega) hne.out).mono ?_
    rintro e u4 ⟨v1, rfl, ⟨n1, A1, a1, l1, B1, c1, m1, rfl, na, nb, iq⟩, bu4⟩
    replace hx := hx.below bu4
    replace he := he.below bu4
    replace hR := hR.keep bu4
    replace Bz := Bz.keep bu4
    replace bT := bT.trans (bu4.mono bT.size)
    replace bo := bo.trans (bu4.mono bo.size)
    have iq' := Lib.hid iq
    clear iq
    go_wp2_with fail
    refine hK.out _ _ (hS _ bo) (fun hHeld => ?_)
    clear hK K
    try simp only [Act.put, List.getElem_toArray, List.getElem_cons_succ, List.getElem_cons_zero, List.setIfInBounds_toArray, List.set_cons_zero, List.set_cons_succ]
    refine wpAnyH_take (i := 9) (v := ?_) rfl (by kernel_rfl) (by kernel_rfl) (by kernel_rfl) (fun _ _ _ h => h) (Or.inl ⟨by rfl, ?_⟩) hHeld ?_
    rotate_left
    · (intro w hSw; (try dsimp only at hSw); go_simp)
      all_goals with_reducible rfl
    try simp only [Act.put, List.getElem_toArray, List.getElem_cons_succ, List.getElem_cons_zero, List.setIfInBounds_toArray, List.set_cons_zero, List.set_cons_succ]
    refine wpAnyH_take (i := 10) (v := ?_) rfl (by kernel_rfl) (by kernel_rfl) (by kernel_rfl) (fun _ _ _ h => h) (Or.inl ⟨by rfl, ?_⟩) hHeld ?_
    rotate_left
    · (intro w hSw; (try dsimp only at hSw); go_simp)
      all_goals with_reducible rfl
    try simp only [Act.put, List.getElem_toArray, List.getElem_cons_succ, List.getElem_cons_zero, List.setIfInBounds_toArray, List.set_cons_zero, List.set_cons_succ]
    refine wpAnyH_take (i := 11) (v := ?_) rfl (by kernel_rfl) (by kernel_rfl) (by kernel_rfl) (fun _ _ _ h => h) (Or.inl ⟨by rfl, ?_⟩) hHeld ?_
    rotate_left
    · (intro w hSw; (try dsimp only at hSw); go_simp)
      all_goals with_reducible rfl
    try simp only [Act.put, List.getElem_toArray, List.getElem_cons_succ, List.getElem_cons_zero, List.setIfInBounds_toArray, List.set_cons_zero, List.set_cons_succ]
    refine wpAnyH_ready (rs := [13]) (by kernel_rfl) (by simp) ?_
    refine AllReadyH.cons rfl (fun K hK => ?_) AllReadyH.nil
    subst hgz
    have q0 := Bz.free 0
    have q1 := Bz.free 1
    have q2 := Bz.free 2
    have p0 := Bz.f0
    have p1 := Bz.f1
    have p2 := Bz.f2
    go_simp
    obtain ⟨w9, hw9, hB9, o9⟩ := Bz.set3 (.bool n1) (.slice A1 l1.length a1) (.slice B1 m1.length c1)
    rw [hw9]
    replace bo := o9.to_below bo hge bo.size
    clear q0 q1 q2 p0 p1 p2
    have na9 := na.only_blk Bz (noDig3 _ _ _ _ _ _ _) o9
    have nb9 := nb.only_blk Bz (noDig3 _ _ _ _ _ _ _) o9
    refine hK.out _ _ (hS _ bo) (fun hHeld => ?_)
    clear hK K
    try simp only [Act.put, List.getElem_toArray, List.getElem_cons_succ, List.getElem_cons_zero, List.setIfInBounds_toArray, List.set_cons_zero, List.set_cons_succ]
    refine wpAnyH_take (i := 14) (v := ?_) rfl (by kernel_rfl) (by kernel_rfl) (by kernel_rfl) (fun _ _ _ h => h) (Or.inl ⟨by rfl, ?_⟩) hHeld ?_
    rotate_left
    · (intro w hSw; (try dsimp only at hSw); go_simp)
      all_goals with_reducible rfl
    try simp only [Act.put, List.getElem_toArray, List.getElem_cons_succ, List.getElem_cons_zero, List.setIfInBounds_toArray, List.set_cons_zero, List.set_cons_succ]
    refine wpAnyH_done (by kernel_rfl) ?_ _
    refine NoPanic.normal ?_
    try go_simp
    clear hHeld
    clear hS dS
    have hlz : w0.heap.size ≠ _ := Nat.ne_of_lt (Nat.lt_of_lt_of_le hlt1 hge)
    have hR9 := hR.only o9 hlz
    have bT9 := b01.trans (bo.mono b01.size)
    have z0 := hB9.f0
    have z1 := hB9.f1
    have z2 := hB9.f2
    have hR5 := hR9
    have na5 := na9
    have nb5 := nb9
    have iq5' := iq'
    have b05 := bT9
    have p0 := hR5.f0
    have p1 := hR5.f1
    have p2 := hR5.f2
    have q0 := hR5.free 0
    have q1 := hR5.free 1
    have q2 := hR5.free 2
    go_wp2
    obtain ⟨w8, hw8, hB8, o8⟩ := hR5.set3 (.bool n1) (.slice A1 l1.length a1) (.slice B1 m1.length c1)
    rw [hw8]
    have e0 := hB8.f0
    have e1 := hB8.f1
    have e2 := hB8.f2
    refine bodyPost_ret (v := fracV n1 A1 l1.length a1 B1 m1.length c1) (by simp [results, Try.results65, go_sem, e0, e1, e2]) rfl ?_
    exact ⟨_, rfl, ⟨n1, A1, a1, l1, B1, c1, m1, rfl, na9.only_blk hR5 (noDig3 _ _ _ _ _ _ _) o8, nb9.only_blk hR5 (noDig3 _ _ _ _ _ _ _) o8, iq'.out⟩, o8.to_below b05 (Nat.le_of_lt hlt0) b05.size⟩
  exact AllReadyH.nil
end Go.Proofs.Ytkjmliebkbbogaa
/- mapped at the closure of matrix.pivot: what the call does. -/
namespace Go.Proofs.Ytkjmliebkbbogaa
set_option linter.unusedVariables false
set_option linter.unusedSimpArgs false
open Go.RowKit Plain
attribute [local go_sem ↓] Go.wp_at_zero Go.wp_at_succ

set_option maxRecDepth 100000 in
set_option maxHeartbeats 4000000 in
theorem mapped_piv {K gm gp gc p j : Nat} {t1 t2 t3 : TypeId} {A M : Option Addr} {c cm : Nat} {ds : List FrD} {rows : List RwD} {w : World} (h : FL w A c ds) (hM : Blk w gm t1 #[.slice M rows.length cm]) (hP : Blk w gp t2 #[.int .i64 (p : Int)]) (hJ : Blk w gc t3 #[.int .i64 (j : Int)])
    (hm : ML w M cm rows) (hp : p < rows.length) (hj : ∀ r ∈ rows, j < r.ds.length) (hfx : QFits K (ds.map FrD.q)) (hfm : MFits K (qsM rows)) (hnz : fn (qsM rows) p j ≠ 0) (hK : K + K ≤ 400000000) (hrn : ds.length < 1000000000000) :
    Calls Try.prog 64 #[.slice A ds.length c, .func (.func 65) #[] #[.pointer (some ⟨gm, 0, none⟩), .pointer (some ⟨gp, 0, none⟩), .pointer (some ⟨gc, 0, none⟩)]] w (RetLs ((ds.map FrD.q).map fun x => x / fn (qsM rows) p j) w) := by
  have hl := h.len
  obtain ⟨qs, hqs⟩ : ∃ qs, Hid (((ds.map FrD.q).map fun x => x / fn (qsM rows) p j) = qs) := ⟨_, rfl⟩
  have hql := Lib.hid (show qs.length = ds.length by rw [← hqs.out]; simp)
  rw [hqs.out]
  have hfm' := Lib.hid hfm
  have hfx' := Lib.hid hfx
  have hj' := Lib.hid hj
  have hnz' := Lib.hid hnz
  clear hfm hfx hj hnz
  go_enter Try.func64, Try.ntmps64
  go_wp2
  go_loopw [5, 7, 10] (fun v x i wr => LsInv qs w v i wr) (fun _ _ i _ => ds.length - (intOf i).toNat)
  case atStart => exact ⟨0, by omega, rfl, LsAt.nil _ _⟩
  case round =>
    obtain ⟨k, hk, rfl, hat⟩ := hrel
    rw [hql.out] at hk
    have hbel := hat.bel
    by_cases hkl : k < ds.length
    · have hki : (k : Int) < (ds.length : Int) := by omega
      obtain ⟨a, d, rfl, hab, hc0, hc1, hc2, fa, hdk⟩ := (h.below hbel).at hkl
      have hfr := Lib.hid (hfx'.out.fr d (List.mem_of_getElem? hdk.out))
      have hq : Hid (qs[k]? = some (d.q / fn (qsM rows) p j)) := by
        show _ = _
        rw [← hqs.out, List.map_map, List.getElem?_map, hdk.out]; rfl
      have hkb : k < 1000000000000 := by omega
      obtain ⟨qk, hqk⟩ : ∃ q, Hid (d.q / fn (qsM rows) p j = q) := ⟨_, rfl⟩
      rw [hqk.out] at hq
      obtain ⟨w3, hw3, bw3, hlt3, hX3⟩ := boxed wr #[.bool d.neg, .slice d.a d.la.length d.ca, .slice d.b d.lb.length d.cb] 50
      have b03 := hbel.trans (bw3.mono hbel.size)
      have x0 := hX3.f0
      have x1 := hX3.f1
      have x2 := hX3.f2
      go_wp2_with fail
      refine (pivC_any (fa.below bw3) (hM.keep b03) (hP.keep b03) (hJ.keep b03) (hm.below b03) hp hj'.out hfr.out hfm'.out hnz'.out hK).mono ?_
      rintro e w4 ⟨v1, rfl, ⟨n1, A1, a1, l1, B1, c1, m1, rfl, na, nb, iq⟩, b4⟩
      rw [hqk.out] at iq
      replace hat := (hat.below bw3).below b4
      obtain ⟨os, ho, h63, hbs, hnext⟩ := hat.app hkb hq.out na nb iq
      clear na nb iq
      go_wp2_with (at_builtin; refine wpList_appQ rfl rfl _ _ rfl _ _ os rfl ho ⟨w4.heap.size, 0, none⟩ 1 ⟨n1, A1, a1, l1, B1, c1, m1⟩ rfl (World.news_of_block (heap_alloc_new w4 _)) h63 hbs ?_; intro v6 w6 ho6 hg6)
      have hat6 := hnext.out v6 w6 ho6 hg6
      clear hnext ho hg6 ho6 hat
      go_wp2
      go_roundw
      case rel => exact ⟨k + 1, by rw [hql.out]; omega, by go_num, hat6⟩
      case measure => simp [intOf]; omega
    · obtain rfl : k = ds.length := by omega
      have hlt' : decide ((ds.length : Int) < (ds.length : Int)) = false := decide_eq_false (by omega)
      obtain ⟨B, cb, es, rfl, hfl, hqe⟩ := hat.done hql.out.symm
      go_wp2
      go_ret
      exact ⟨B, cb, es, rfl, hfl, hqe, hbel⟩
end Go.Proofs.Ytkjmliebkbbogaa
/- How many digits the steps of the elimination need. Plain but for QFits. -/
namespace Go.Proofs.Ytkjmliebkbbogaa
set_option linter.unusedVariables false
set_option linter.unusedSimpArgs false
open Go.RowKit Plain

theorem Plain.Fits.inv {k : Nat} {q : Rat} (h : Fits k q) : Fits k q⁻¹ := by
  have hp := h.pos
  rw [Rat.inv_def]
  by_cases hn : q.num < 0
  · rw [← Rat.neg_divInt_neg, show -q.num = (q.num.natAbs : Int) by omega, Rat.divInt_ofNat]
    exact fits_mk (by have := h.2; omega) h.1
  · rw [show q.num = ((q.num.natAbs : Nat) : Int) by omega, Rat.divInt_ofNat]
    exact fits_mk (by have := h.2; omega) h.1
theorem Plain.Fits.div {j k : Nat} {p q : Rat} (hp : Fits j p) (hq : Fits k q) : Fits (j + k) (p / q) := by
  rw [Rat.div_def]; exact hp.mul hq.inv
theorem MFits.get {K : Nat} {M : Mat} (h : MFits K M) {i : Nat} (hi : i < M.length) : QFits K (M.getD i []) := by
  rw [List.getD_eq_getElem?_getD, List.getElem?_eq_getElem hi]
  exact h _ (List.getElem_mem hi)
theorem QFits.get {K : Nat} {l : List Rat} (h : QFits K l) {k : Nat} (hk : k < l.length) : Fits K (l.getD k 0) := by
  rw [List.getD_eq_getElem?_getD, List.getElem?_eq_getElem hk]
  exact h _ (List.getElem_mem hk)
theorem MFits.fn {K n i k : Nat} {M : Mat} (h : MFits K M) (hr : rect M n) (hi : i < M.length) (hk : k < n) : Fits K (fn M i k) := (h.get hi).get (by rw [rect_row hr hi]; exact hk)
theorem headL_fits {K n p c : Nat} {M : Mat} (h : MFits K M) (hr : rect M n) (hp : p < M.length) (hc : c < n) : QFits (K + K) (headL M p c) := fun q hq => by
  obtain ⟨x, hx, rfl⟩ := List.mem_map.1 hq
  exact (h.get hp x hx).div (h.fn hr hp hc)
theorem lessL_fits {J K L : Nat} {a b : List Rat} {f : Rat} (ha : QFits J a) (hf : Fits K f) (hb : QFits L b) : QFits (J + (K + L) + 1) (lessL a f b) := fun q hq => by
  unfold lessL at hq
  obtain ⟨i, hi, rfl⟩ := List.getElem_of_mem hq
  rw [List.getElem_zipWith]
  exact (ha _ (List.getElem_mem _)).sub (hf.mul (hb _ (List.getElem_mem _)))
theorem pivL_fits {K n p c : Nat} {M : Mat} (h : MFits K M) (hr : rect M n) (hp : p < M.length) (hc : c < n) : MFits (4 * K + 1) (pivL M p c) := fun r hr' => by
  have hh := headL_fits h hr hp hc
  unfold pivL at hr'
  obtain ⟨i, hi, rfl⟩ := List.mem_map.1 hr'
  rw [List.mem_range] at hi
  split
  · exact hh.mono (by omega)
  · exact (lessL_fits (h.get hi) (h.fn hr hi hc) hh).mono (by omega)
theorem moveUp_fits {K row t : Nat} {M : Mat} (h : MFits K M) (ht : t < M.length) : MFits K (moveUp M row t) := fun r hr => by
  unfold moveUp at hr
  simp only [List.mem_append, List.mem_cons] at hr
  rcases hr with h3 | rfl | h3 | h3
  · exact h r (List.mem_of_mem_take h3)
  · exact h.get ht
  · exact h r (List.mem_of_mem_drop (List.mem_of_mem_take h3))
  · exact h r (List.mem_of_mem_drop h3)
/-- Digits after n columns. -/
def gK (K : Nat) : Nat → Nat
  | 0 => K
  | n + 1 => 4 * gK K n + 1
theorem gK_succ (K n : Nat) : gK K (n + 1) = 4 * gK K n + 1 := rfl
theorem gK_le (K : Nat) : ∀ n, K ≤ gK K n := by
  intro n
  induction n with
  | zero => exact Nat.le_refl _
  | succ n ih => rw [gK_succ]; omega
theorem gK_mono (K : Nat) {m n : Nat} (h : m ≤ n) : gK K m ≤ gK K n := by
  induction h with
  | refl => exact Nat.le_refl _
  | step _ ih => rw [gK_succ]; omega
theorem reduceL_fits {K w : Nat} {M : Mat} (h : MFits K M) (hr : rect M w) : ∀ n, n ≤ w → MFits (gK K n) (reduceL M n).1 := by
  intro n
  induction n with
  | zero => exact fun _ => h
  | succ n ih =>
    intro hn
    have h1 := ih (by omega)
    have h2 := reduceL_ok hr n (by omega)
    rw [reduceL_succ]
    generalize reduceL M n = S at *
    unfold redStep
    split
    · rename_i hlt
      split
      · rename_i hat
        exact pivL_fits (moveUp_fits h1 hat) (moveUp_rect h2.rct hat) (by rw [moveUp_length (findRow_ge _ _ _) hat]; exact hlt) (by omega)
      · exact h1.mono (by rw [gK_succ]; omega)
    · exact h1.mono (by rw [gK_succ]; omega)
theorem refReduce_fits {K w : Nat} {M : Mat} (h : MFits K M) (hr : rect M w) : ∀ n, n ≤ w → MFits (gK K n) (refReduce M n).1 := by
  intro n
  induction n with
  | zero => exact fun _ => h
  | succ n ih =>
    intro hn
    have h1 := ih (by omega)
    have h2 := refReduce_ok hr n (by omega)
    rw [refReduce_succ]
    generalize refReduce M n = S at *
    unfold refStep
    cases hf : findFree S.1 S.2 n with
    | none => exact h1.mono (by rw [gK_succ]; omega)
    | some i =>
      have h6 := List.mem_of_find?_eq_some hf
      rw [List.mem_range] at h6
      exact pivL_fits h1 h2.rct h6 (by omega)
end Go.Proofs.Ytkjmliebkbbogaa
/- matrix.pivot: what the call does. -/
namespace Go.Proofs.Ytkjmliebkbbogaa
set_option linter.unusedVariables false
set_option linter.unusedSimpArgs false
open Go.RowKit Plain
attribute [local go_sem ↓] Go.wp_at_zero Go.wp_at_succ

set_option maxRecDepth 100000 in
set_option maxHeartbeats 4000000 in
theorem pivot_any {K p j n : Nat} {A : Option Addr} {c : Nat} {rows : List RwD} {w : World} (h : ML w A c rows) (hr : rect (qsM rows) n) (hp : p < rows.length) (hj : j < n) (hfm : MFits K (qsM rows)) (hnz : fn (qsM rows) p j ≠ 0) (hK : 4 * K + 1 < 400000000) (hrn : rows.length < 1000000000) (hnn : n < 1000000000) :
    Calls Try.prog 45 #[.slice A rows.length c, .int .i64 (p : Int), .int .i64 (j : Int)] w (RetM (pivL (qsM rows) p j) w) := by
  obtain ⟨w0, hw0, bw0, hlt0, hM0⟩ := boxed w #[.slice A rows.length c] 31
  obtain ⟨w1, hw1, bw1, hlt1, hP1⟩ := boxed w0 #[.int .i64 (p : Int)] 3
  obtain ⟨w2, hw2, bw2, hlt2, hJ2⟩ := boxed w1 #[.int .i64 (j : Int)] 3
  have hM2 := (hM0.keep bw1).keep bw2
  have hP2 := hP1.keep bw2
  have b01 := bw0.trans (bw1.mono (Nat.le_of_lt hlt0))
  have b02 := b01.trans (bw2.mono b01.size)
  have hl := h.len
  have hrl := Lib.hid (show ∀ r ∈ rows, r.ds.length = n from fun r hr' => by
    have := hr r.qs (List.mem_map.2 ⟨r, hr', rfl⟩)
    rw [RwD.qs_len] at this; exact this)
  obtain ⟨T, hT⟩ : ∃ T, Hid (pivL (qsM rows) p j = T) := ⟨_, rfl⟩
  have hTl := Lib.hid (show T.length = rows.length by rw [← hT.out, pivL_length, qsM_len])
  rw [hT.out]
  have hfm' := Lib.hid hfm
  have hnz' := Lib.hid hnz
  have hr' := Lib.hid hr
  clear hfm hnz hr
  have hpi : (p : Int) < (rows.length : Int) := by omega
  obtain ⟨a0, r0, rfl, hab0, hc00, hf0, hk0⟩ := (h.below b02).at hp
  have hl0 := hf0.len
  have hn0 := hrl.out r0 (List.mem_of_getElem? hk0.out)
  have z0 : w2.cell? ⟨w.heap.size, 0, none⟩ = some (.slice (some a0) rows.length c) := hM2.v0
  have z1 := hP2.v0
  have hjr := Lib.hid (show ∀ r ∈ rows, j < r.ds.length from fun r hr => by rw [hrl.out r hr]; exact hj)
  have hf0q := Lib.hid (hfm'.out.row hk0.out)
  have hn0' := Lib.hid hn0
  clear hn0
  go_enter Try.func45, Try.ntmps45
  go_wp2_with fail
  refine (mapped_piv hf0 hM2 hP2 hJ2 (h.below b02) hp hjr.out hf0q.out hfm'.out hnz'.out (by omega) (by rw [hn0'.out]; omega)).mono ?_
  rintro e w3 ⟨H, ch, hs, rfl, hfh, hqh, b3⟩
  have b03 := b02.trans (b3.mono b02.size)
  have hhead := Lib.hid (show hs.map FrD.q = headL (qsM rows) p j by
    rw [hqh.out]
    unfold headL
    rw [List.getD_eq_getElem?_getD (l := qsM rows)]
    unfold qsM
    rw [List.getElem?_map, hk0.out]; rfl)
  have hhl := Lib.hid (show hs.length = n by rw [← List.length_map (f := FrD.q), hqh.out, List.length_map, List.length_map, hn0'.out])
  have hlh := hfh.len
  obtain ⟨eH, zH, rfl, -⟩ := hfh.at (k := 0) (by rw [hhl.out]; omega)
  have hfhq := Lib.hid (show QFits (K + K) (hs.map FrD.q) by rw [hhead.out]; exact headL_fits hfm'.out hr'.out (by rw [qsM_len]; exact hp) hj)
  have hM3 := hM2.keep b3
  have hP3 := hP2.keep b3
  have hJ3 := hJ2.keep b3
  clear z0 z1 hqh hc00 hf0
  have z0 := hM3.v0
  go_wp2
  go_loopw [8, 21] (fun v i wr => MtInv T w3 v i wr) (fun _ i _ => rows.length - (intOf i).toNat)
  case atStart => exact ⟨0, by omega, rfl, MtAt.start _ (Below.refl _ _)⟩
  case round =>
    obtain ⟨k, hk, rfl, hat⟩ := hrel
    rw [hTl.out] at hk
    have hbel := hat.bel
    have hbw := b03.trans (hbel.mono b03.size)
    have hPr := hP3.keep hbel
    have hJo := hJ3.keep hbel
    have z1 := hPr.v0
    clear z0
    by_cases hkl : k < rows.length
    · obtain ⟨a1, r, ea1, hab, hc0, hfr, hrk⟩ := (h.below hbw).at hkl
      have ea : a1 = a0 := by injection ea1 with e; exact e.symm
      have hki : (k : Int) < (rows.length : Int) := by omega
      have hkb : k < 1000000000000 := by omega
      have hlr := hfr.len
      rw [ea] at hc0
      clear ea ea1
      by_cases hkp : k = p
      · have heq : ((k : Int) == (p : Int)) = true := by rw [beq_iff_eq]; omega
        have hq : Hid (T[k]? = some (RwD.qs ⟨some eH, ch, hs⟩)) := by
          show _ = some (hs.map FrD.q)
          rw [← hT.out, hhead.out]
          unfold pivL
          rw [List.getElem?_map, List.getElem?_range (by rw [qsM_len]; exact hkl)]
          simp [hkp]
        have hfl := hfh.below hbel
        clear hkp
        obtain ⟨os, ho, h63, hbs, hnext⟩ := hat.app (r := ⟨some eH, ch, hs⟩) hkb hq.out hfl
        go_wp2_with (at_builtin; go_loud (refine wpList_appM rfl Try.underlying31 rfl _ _ rfl _ _ os rfl ho ⟨wr.heap.size, 0, none⟩ 1 ⟨some eH, ch, hs⟩ rfl (row_cell wr ⟨some eH, ch, hs⟩) h63 hbs ?_; intro v6 w6 ho6 hg6))
        have hat6 := hnext.out v6 w6 ho6 hg6
        clear hnext ho hg6 ho6 hat
        go_wp2
        go_roundw
        case rel => exact ⟨k + 1, by rw [hTl.out]; omega, by go_num, hat6⟩
        case measure => simp [intOf]; omega
      · have heq : ((k : Int) == (p : Int)) = false := by rw [beq_eq_false_iff_ne]; omega
        have hnr := Lib.hid (hrl.out r (List.mem_of_getElem? hrk.out))
        have hln : r.ds.length < 1000000000 := by rw [hnr.out]; exact hnn
        have hmk := make_fr0 wr r.ds.length (by rw [hnr.out]; omega)
        obtain ⟨qs, hqs⟩ : ∃ qs, Hid (lessL (r.ds.map FrD.q) (fn (qsM rows) k j) (headL (qsM rows) p j) = qs) := ⟨_, rfl⟩
        have hq : Hid (T[k]? = some qs) := by
          show _ = _
          rw [← hT.out, ← hqs.out]
          unfold pivL
          rw [List.getElem?_map, List.getElem?_range (by rw [qsM_len]; exact hkl)]
          show some (if k = p then _ else _) = _
          rw [if_neg hkp, List.getD_eq_getElem?_getD (l := qsM rows)]
          unfold qsM
          rw [List.getElem?_map, hrk.out]; rfl
        have hql := Lib.hid (show qs.length = r.ds.length by rw [← hqs.out]; unfold lessL; rw [List.length_zipWith, ← hhead.out, List.length_map, List.length_map, hhl.out, hnr.out, Nat.min_self])
        have hmt := Lib.hid hat
        have hqT := hq
        obtain ⟨vM, hvM⟩ : ∃ x : Value, x = x := ⟨.bool true, rfl⟩
        clear hkp hat hq hvM vM
        obtain ⟨wo, hwo⟩ : ∃ wo : World, wo = wr := ⟨_, rfl⟩
        have hst := LsAt.make (qs := qs) (n := r.ds.length) (Below.refl wr.heap.size wr) (by rw [hnr.out]; omega)
        rw [← hwo] at hst
        subst hwo
        have hrq := Lib.hid (hfm'.out.row hrk.out)
        have hjr2 := hjr.out r (List.mem_of_getElem? hrk.out)
        obtain ⟨b, y, eb, hyb, hy0, hy1, hy2, hy, hyk⟩ := hfr.at hjr2
        have hfy := Lib.hid (show fn (qsM rows) k j = y.q by
          unfold fn qsM
          rw [List.getD_eq_getElem?_getD (l := rows.map _), List.getElem?_map, hrk.out]
          show (r.ds.map FrD.q).getD j 0 = _
          rw [List.getD_eq_getElem?_getD, List.getElem?_map, hyk.out]; rfl)
        have hyf := Lib.hid (hrq.out.fr y (List.mem_of_getElem? hyk.out))
        rw [eb] at hc0
        have hyo := hy
        have hji : (j : Int) < (r.ds.length : Int) := by omega
        clear hy
        go_wp2
        go_loopw [11, 12, 38] (fun v x i wr => LsInv qs wo v i wr) (fun _ _ i _ => r.ds.length - (intOf i).toNat)
        case atStart => exact ⟨0, by omega, rfl, hst⟩
        case round =>
          obtain ⟨kk, hkk, rfl, hat⟩ := hrel
          rw [hql.out] at hkk
          have hbi := hat.bel
          by_cases hkkl : kk < r.ds.length
          · obtain ⟨a, x, ea, hxb, hx0, hx1, hx2, hx, hxk⟩ := hfr.at hkkl
            have eab : a = b := by rw [eb] at ea; injection ea with e; exact e.symm
            subst eab
            obtain ⟨e, z, ee, hzb, hz0, hz1, hz2, hz, hzk⟩ := (hfh.below hbel).at (k := kk) (by rw [hhl.out, ← hnr.out]; exact hkkl)
            have eeq : e = eH := by injection ee with e'; exact e'.symm
            subst eeq
            clear ee
            have hkki : (kk : Int) < (r.ds.length : Int) := by omega
            have hkkh : (kk : Int) < (hs.length : Int) := by rw [hhl.out, ← hnr.out]; omega
            have hxf := Lib.hid (hrq.out.fr x (List.mem_of_getElem? hxk.out))
            have hzf := Lib.hid (hfhq.out.fr z (List.mem_of_getElem? hzk.out))
            have hq : Hid (qs[kk]? = some (x.q - y.q * z.q)) := by
              show _ = _
              rw [← hqs.out, hfy.out, ← hhead.out]
              unfold lessL
              rw [List.getElem?_zipWith, List.getElem?_map, List.getElem?_map, hxk.out, hzk.out]; rfl
            obtain ⟨qk, hqk⟩ : ∃ q, Hid (x.q - y.q * z.q = q) := ⟨_, rfl⟩
            rw [hqk.out] at hq
            have hkb : kk < 1000000000000 := by omega
            have hJr := hJo
            have hy := hyo.below hbi
            replace hx := hx.below hbi
            replace hz := hz.below hbi
            have bT := hat.bel
            have hS : ∀ w', Below wo.heap.size wo w' → w'.cell? (a.add (kk * 3)) = some (.bool x.neg) ∧ w'.cell? ⟨(a.add (kk * 3)).block, (a.add (kk * 3)).off + 1, none⟩ = some (.slice x.a x.la.length x.ca) ∧ w'.cell? ⟨(a.add (kk * 3)).block, (a.add (kk * 3)).off + 2, none⟩ = some (.slice x.b x.lb.length x.cb) ∧ w'.cell? (a.add (j * 3)) = some (.bool y.neg) ∧ w'.cell? ⟨(a.add (j * 3)).block, (a.add (j * 3)).off + 1, none⟩ = some (.slice y.a y.la.length y.ca) ∧ w'.cell? ⟨(a.add (j * 3)).block, (a.add (j * 3)).off + 2, none⟩ = some (.slice y.b y.lb.length y.cb) ∧ w'.cell? (e.add (kk * 3)) = some (.bool z.neg) ∧ w'.cell? ⟨(e.add (kk * 3)).block, (e.add (kk * 3)).off + 1, none⟩ = some (.slice z.a z.la.length z.ca) ∧ w'.cell? ⟨(e.add (kk * 3)).block, (e.add (kk * 3)).off + 2, none⟩ = some (.slice z.b z.lb.length z.cb) ∧ w'.cell? ⟨w1.heap.size, 0, none⟩ = some (.int .i64 (j : Int)) ∧ Below wo.heap.size wo w' := by
              intro w' o
              have h4 := hJr.keep o
              exact ⟨(o.cell (by show (a.add (kk * 3)).block < _; rw [block_add]; exact hxb)).trans hx0, (o.cell (by show (a.add (kk * 3)).block < _; rw [block_add]; exact hxb)).trans hx1, (o.cell (by show (a.add (kk * 3)).block < _; rw [block_add]; exact hxb)).trans hx2, (o.cell (by show (a.add (j * 3)).block < _; rw [block_add]; exact hyb)).trans hy0, (o.cell (by show (a.add (j * 3)).block < _; rw [block_add]; exact hyb)).trans hy1, (o.cell (by show (a.add (j * 3)).block < _; rw [block_add]; exact hyb)).trans hy2, (o.cell (by show (e.add (kk * 3)).block < _; rw [block_add]; exact hzb)).trans hz0, (o.cell (by show (e.add (kk * 3)).block < _; rw [block_add]; exact hzb)).trans hz1, (o.cell (by show (e.add (kk * 3)).block < _; rw [block_add]; exact hzb)).trans hz2, h4.v0, o⟩
            have bo : Below wo.heap.size wo wr := hat.bel
            have dS : Below wo.heap.size wo wr.drew := bo.drew
            go_wp2_with fail
            refine wp_region_noPanic ?_
            refine wp_region_held_drew (S := fun w' => w'.cell? (a.add (kk * 3)) = some (.bool x.neg) ∧ w'.cell? ⟨(a.add (kk * 3)).block, (a.add (kk * 3)).off + 1, none⟩ = some (.slice x.a x.la.length x.ca) ∧ w'.cell? ⟨(a.add (kk * 3)).block, (a.add (kk * 3)).off + 2, none⟩ = some (.slice x.b x.lb.length x.cb) ∧ w'.cell? (a.add (j * 3)) = some (.bool y.neg) ∧ w'.cell? ⟨(a.add (j * 3)).block, (a.add (j * 3)).off + 1, none⟩ = some (.slice y.a y.la.length y.ca) ∧ w'.cell? ⟨(a.add (j * 3)).block, (a.add (j * 3)).off + 2, none⟩ = some (.slice y.b y.lb.length y.cb) ∧ w'.cell? (e.add (kk * 3)) = some (.bool z.neg) ∧ w'.cell? ⟨(e.add (kk * 3)).block, (e.add (kk * 3)).off + 1, none⟩ = some (.slice z.a z.la.length z.ca) ∧ w'.cell? ⟨(e.add (kk * 3)).block, (e.add (kk * 3)).off + 2, none⟩ = some (.slice z.b z.lb.length z.cb) ∧ w'.cell? ⟨w1.heap.size, 0, none⟩ = some (.int .i64 (j : Int)) ∧ Below wo.heap.size wo w') (by kernel_rfl) (hS _ dS) (fun hHeld => ?_)
            refine wpAnyH_take (i := 0) (v := ?_) rfl (by kernel_rfl) (by kernel_rfl) (by kernel_rfl) (fun _ _ _ h => h) (Or.inl ⟨by rfl, ?_⟩) hHeld ?_
            rotate_left
            · (intro w hSw; (try dsimp only at hSw); go_simp)
              all_goals with_reducible rfl
            try simp only [Act.put, List.getElem_toArray, List.getElem_cons_succ, List.getElem_cons_zero, List.setIfInBounds_toArray, List.set_cons_zero, List.set_cons_succ]
            refine wpAnyH_take (i := 1) (v := ?_) rfl (by kernel_rfl) (by kernel_rfl) (by kernel_rfl) (fun _ _ _ h => h) (Or.inl ⟨by rfl, ?_⟩) hHeld ?_
            rotate_left
            · (intro w hSw; (try dsimp only at hSw); go_simp)
              all_goals with_reducible rfl
            try simp only [Act.put, List.getElem_toArray, List.getElem_cons_succ, List.getElem_cons_zero, List.setIfInBounds_toArray, List.set_cons_zero, List.set_cons_succ]
            refine wpAnyH_take (i := 2) (v := ?_) rfl (by kernel_rfl) (by kernel_rfl) (by kernel_rfl) (fun _ _ _ h => h) (Or.inl ⟨by rfl, ?_⟩) hHeld ?_
            rotate_left
            · (intro w hSw; (try dsimp only at hSw); go_simp)
              all_goals with_reducible rfl
            try simp only [Act.put, List.getElem_toArray, List.getElem_cons_succ, List.getElem_cons_zero, List.setIfInBounds_toArray, List.set_cons_zero, List.set_cons_succ]
            refine wpAnyH_take (i := 3) (v := ?_) rfl (by kernel_rfl) (by kernel_rfl) (by kernel_rfl) (fun _ _ _ h => h) (Or.inl ⟨by rfl, ?_⟩) hHeld ?_
            rotate_left
            · (intro w hSw; (try dsimp only at hSw); go_simp)
              all_goals with_reducible rfl
            try simp only [Act.put, List.getElem_toArray, List.getElem_cons_succ, List.getElem_cons_zero, List.setIfInBounds_toArray, List.set_cons_zero, List.set_cons_succ]
            refine wpAnyH_take (i := 4) (v := ?_) rfl (by kernel_rfl) (by kernel_rfl) (by kernel_rfl) (fun _ _ _ h => h) (Or.inl ⟨by rfl, ?_⟩) hHeld ?_
            rotate_left
            · (intro w hSw; (try dsimp only at hSw); go_simp)
              all_goals with_reducible rfl
            try simp only [Act.put, List.getElem_toArray, List.getElem_cons_succ, List.getElem_cons_zero, List.setIfInBounds_toArray, List.set_cons_zero, List.set_cons_succ]
            refine wpAnyH_take (i := 5) (v := ?_) rfl (by kernel_rfl) (by kernel_rfl) (by kernel_rfl) (fun _ _ _ h => h) (Or.inl ⟨by rfl, ?_⟩) hHeld ?_
            rotate_left
            · (intro w hSw; (try dsimp only at hSw); go_simp)
              all_goals with_reducible rfl
            try simp only [Act.put, List.getElem_toArray, List.getElem_cons_succ, List.getElem_cons_zero, List.setIfInBounds_toArray, List.set_cons_zero, List.set_cons_succ]
            refine wpAnyH_take (i := 6) (v := ?_) rfl (by kernel_rfl) (by kernel_rfl) (by kernel_rfl) (fun _ _ _ h => h) (Or.inl ⟨by rfl, ?_⟩) hHeld ?_
            rotate_left
            · (intro w hSw; (try dsimp only at hSw); go_simp)
              all_goals with_reducible rfl
            try simp only [Act.put, List.getElem_toArray, List.getElem_cons_succ, List.getElem_cons_zero, List.setIfInBounds_toArray, List.set_cons_zero, List.set_cons_succ]
            refine wpAnyH_take (i := 7) (v := ?_) rfl (by kernel_rfl) (by kernel_rfl) (by kernel_rfl) (fun _ _ _ h => h) (Or.inl ⟨by rfl, ?_⟩) hHeld ?_
            rotate_left
            · (intro w hSw; (try dsimp only at hSw); go_simp)
              all_goals with_reducible rfl
            try simp only [Act.put, List.getElem_toArray, List.getElem_cons_succ, List.getElem_cons_zero, List.setIfInBounds_toArray, List.set_cons_zero, List.set_cons_succ]
            refine wpAnyH_take (i := 8) (v := ?_) rfl (by kernel_rfl) (by kernel_rfl) (by kernel_rfl) (fun _ _ _ h => h) (Or.inl ⟨by rfl, ?_⟩) hHeld ?_
            rotate_left
            · (intro w hSw; (try dsimp only at hSw); go_simp)
              all_goals with_reducible rfl
            try simp only [Act.put, List.getElem_toArray, List.getElem_cons_succ, List.getElem_cons_zero, List.setIfInBounds_toArray, List.set_cons_zero, List.set_cons_succ]
            refine wpAnyH_take (i := 9) (v := ?_) rfl (by kernel_rfl) (by kernel_rfl) (by kernel_rfl) (fun _ _ _ h => h) (Or.inl ⟨by rfl, ?_⟩) hHeld ?_
            rotate_left
            · (intro w hSw; (try dsimp only at hSw); go_simp)
              all_goals with_reducible rfl
            try simp only [Act.put, List.getElem_toArray, List.getElem_cons_succ, List.getElem_cons_zero, List.setIfInBounds_toArray, List.set_cons_zero, List.set_cons_succ]
            refine wpAnyH_take (i := 10) (v := ?_) rfl (by kernel_rfl) (by kernel_rfl) (by kernel_rfl) (fun _ _ _ h => h) (Or.inl ⟨by rfl, ?_⟩) hHeld ?_
            rotate_left
            · (intro w hSw; (try dsimp only at hSw); go_simp)
              all_goals with_reducible rfl
            try simp only [Act.put, List.getElem_toArray, List.getElem_cons_succ, List.getElem_cons_zero, List.setIfInBounds_toArray, List.set_cons_zero, List.set_cons_succ]
            refine wpAnyH_take (i := 11) (v := ?_) rfl (by kernel_rfl) (by kernel_rfl) (by kernel_rfl) (fun _ _ _ h => h) (Or.inl ⟨by rfl, ?_⟩) hHeld ?_
            rotate_left
            · (intro w hSw; (try dsimp only at hSw); go_simp)
              all_goals with_reducible rfl
            try simp only [Act.put, List.getElem_toArray, List.getElem_cons_succ, List.getElem_cons_zero, List.setIfInBounds_toArray, List.set_cons_zero, List.set_cons_succ]
            refine wpAnyH_take (i := 12) (v := ?_) rfl (by kernel_rfl) (by kernel_rfl) (by kernel_rfl) (fun _ _ _ h => h) (Or.inl ⟨by rfl, ?_⟩) hHeld ?_
            rotate_left
            · (intro w hSw; (try dsimp only at hSw); go_simp)
              all_goals with_reducible rfl
            try simp only [Act.put, List.getElem_toArray, List.getElem_cons_succ, List.getElem_cons_zero, List.setIfInBounds_toArray, List.set_cons_zero, List.set_cons_succ]
            refine wpAnyH_ready (rs := [13]) (by kernel_rfl) (by simp) ?_
            refine AllReadyH.cons rfl (fun K hK => ?_) AllReadyH.nil
            go_simp
            have dw0 : Below wr.heap.size wr wr.drew := (Below.refl _ _).drew
            replace hx := hx.below dw0
            replace hy := hy.below dw0
            replace hz := hz.below dw0
            replace hat := hat.below dw0
            replace bT := bT.trans (dw0.mono bT.size)
            replace bo := bo.trans (dw0.mono bo.size)
            go_at_call 62
            refine (mulF_any hy hz hyf.out hzf.out (by omega)).mono ?_
            rintro e u1 ⟨v1, rfl, fm, bu1⟩
            replace hx := hx.below bu1
            replace hy := hy.below bu1
            replace hz := hz.below bu1
            replace hat := hat.below bu1
            replace bT := bT.trans (bu1.mono bT.size)
            replace bo := bo.trans (bu1.mono bo.size)
            go_wp2_with fail
            refine hK.out _ _ (hS _ bo) (fun hHeld => ?_)
            clear hK K
            try simp only [Act.put, List.getElem_toArray, List.getElem_cons_succ, List.getElem_cons_zero, List.setIfInBounds_toArray, List.set_cons_zero, List.set_cons_succ]
            refine wpAnyH_ready (rs := [14]) (by kernel_rfl) (by simp) ?_
            refine AllReadyH.cons rfl (fun K hK => ?_) AllReadyH.nil
            go_simp
            go_at_call 67
            refine (subF_any hx fm hxf.out (hyf.out.mul hzf.out) (by omega)).mono ?_
            rintro e u2 ⟨v2, rfl, ⟨n1, A1, a1, l1, B1, c1, m1, rfl, na, nb, iq⟩, bu2⟩
            replace hx := hx.below bu2
            replace hy := hy.below bu2
            replace hz := hz.below bu2
            replace hat := hat.below bu2
            replace fm := fm.below bu2
            replace bT := bT.trans (bu2.mono bT.size)
            replace bo := bo.trans (bu2.mono bo.size)
            rw [hqk.out] at iq
            clear fm
            go_wp2_with fail
            refine hK.out _ _ (hS _ bo) (fun hHeld => ?_)
            clear hK K
            try simp only [Act.put, List.getElem_toArray, List.getElem_cons_succ, List.getElem_cons_zero, List.setIfInBounds_toArray, List.set_cons_zero, List.set_cons_succ]
            refine wpAnyH_ready (rs := [15]) (by kernel_rfl) (by simp) ?_
            refine AllReadyH.cons rfl (fun K hK => ?_) AllReadyH.nil
            obtain ⟨os, ho, h63, hbs, hnext⟩ := hat.app hkb hq.out na nb iq
            clear na nb iq
            have bT4 := bT
            obtain ⟨u3, hu3, bu3, lu3, Bu3⟩ := boxed u2 #[.bool n1, .slice A1 l1.length a1, .slice B1 m1.length c1] 50
            replace hx := hx.below bu3
            replace hy := hy.below bu3
            replace hz := hz.below bu3
            replace bT := bT.trans (bu3.mono bT.size)
            replace bo := bo.trans (bu3.mono bo.size)
            go_simp
            refine hK.out _ _ (hS _ bo) (fun hHeld => ?_)
            clear hK K
            try simp only [Act.put, List.getElem_toArray, List.getElem_cons_succ, List.getElem_cons_zero, List.setIfInBounds_toArray, List.set_cons_zero, List.set_cons_succ]
            refine wpAnyH_ready (rs := [16]) (by kernel_rfl) (by simp) ?_
            refine AllReadyH.cons rfl (fun K hK => ?_) AllReadyH.nil
            refine step_appQ rfl _ _ rfl rfl wo.heap.size _ os rfl (by rw [← hu3]; exact ho) ⟨u2.heap.size, 0, none⟩ 1 ⟨n1, A1, a1, l1, B1, c1, m1⟩ rfl (World.news_of_block Bu3) h63 (by rw [← hu3]; exact hbs) ?_
            intro v6 w6 ho6 hg6
            rw [← hu3] at hg6
            have hat6 := hnext.out v6 w6 ho6 hg6
            replace bo := hat6.bel
            clear hnext ho hg6 ho6
            refine hK.out _ _ (hS _ bo) (fun hHeld => ?_)
            clear hK K
            try simp only [Act.put, List.getElem_toArray, List.getElem_cons_succ, List.getElem_cons_zero, List.setIfInBounds_toArray, List.set_cons_zero, List.set_cons_succ]
            refine wpAnyH_take (i := 17) (v := ?_) rfl (by kernel_rfl) (by kernel_rfl) (by kernel_rfl) (fun _ _ _ h => h) (Or.inl ⟨by rfl, ?_⟩) hHeld ?_
            rotate_left
            · (intro w hSw; (try dsimp only at hSw); go_simp)
              all_goals with_reducible rfl
            try simp only [Act.put, List.getElem_toArray, List.getElem_cons_succ, List.getElem_cons_zero, List.setIfInBounds_toArray, List.set_cons_zero, List.set_cons_succ]
            refine wpAnyH_done (by kernel_rfl) ?_ _
            refine NoPanic.normal ?_
            try go_simp
            clear hHeld
            clear hS dS bo
            go_wp2
            go_roundw
            case rel => exact ⟨kk + 1, by rw [hql.out]; omega, by go_num, hat6⟩
            case measure => simp [intOf]; omega
          · obtain rfl : kk = r.ds.length := by omega
            have hlt' : decide ((r.ds.length : Int) < (r.ds.length : Int)) = false := decide_eq_false (by omega)
            obtain ⟨B, cb, es, rfl, hfl, hqe⟩ := hat.done hql.out.symm
            have hq : Hid (T[k]? = some (RwD.qs ⟨B, cb, es⟩)) := by
              show _ = some (es.map FrD.q)
              rw [hqT.out, hqe.out]
            clear hat hqT
            have hat := hmt.out.below hbi
            clear hmt
            obtain ⟨os, ho, h63, hbs, hnext⟩ := hat.app (r := ⟨B, cb, es⟩) hkb hq.out hfl
            go_wp2_with (at_builtin; go_loud (refine wpList_appM rfl Try.underlying31 rfl _ _ rfl _ _ os rfl ho ⟨wr.heap.size, 0, none⟩ 1 ⟨B, cb, es⟩ rfl (row_cell wr ⟨B, cb, es⟩) h63 hbs ?_; intro v6 w6 ho6 hg6))
            have hat6 := hnext.out v6 w6 ho6 hg6
            clear hnext ho hg6 ho6 hat
            go_wp2
            go_roundw
            case rel => exact ⟨k + 1, by rw [hTl.out]; omega, by go_num, hat6⟩
            case measure => simp [intOf]; omega
    · obtain rfl : k = rows.length := by omega
      have hlt' : decide ((rows.length : Int) < (rows.length : Int)) = false := decide_eq_false (by omega)
      obtain ⟨B, cb, es, rfl, hfl, hqe⟩ := hat.done hTl.out.symm
      go_wp2
      go_ret
      exact ⟨B, cb, es, rfl, hfl, hqe, hbw⟩
end Go.Proofs.Ytkjmliebkbbogaa
/- matrix.Pivot: what the call does. -/
namespace Go.Proofs.Ytkjmliebkbbogaa
set_option linter.unusedVariables false
set_option linter.unusedSimpArgs false
open Go.RowKit Plain
attribute [local go_sem ↓] Go.wp_at_zero Go.wp_at_succ

/-- Pivot with its error. -/
def pivS (M : Mat) (r c : Int) : Mat × Int :=
  if formedL M = false then ([], 2) else if r < 0 ∨ (M.length : Int) ≤ r ∨ c < 0 ∨ (colsL M : Int) ≤ c then ([], 4) else if fn M r.toNat c.toNat = 0 then ([], 8) else (pivL M r.toNat c.toNat, 0)
/-- A call that returns a matrix and an error. -/
def RetME (R : Mat × Int) (W : World) (e : Ending) (w' : World) : Prop := ∃ A c rows, e = .returned (.tuple #[.slice A rows.length c, .int .i64 R.2]) ∧ ML w' A c rows ∧ Hid (qsM rows = R.1) ∧ Below W.heap.size W w'
theorem RetME.err {n : Int} {W : World} {e : Ending} {w' : World} {R : Mat × Int} (hR : R = ([], n)) (he : e = .returned (.tuple #[.slice none 0 0, .int .i64 n])) (hb : Below W.heap.size W w') : RetME R W e w' := by
  subst hR
  exact ⟨none, 0, [], he, ML.nil _, rfl, hb⟩
theorem pivS_form {M : Mat} {r c : Int} (h : formedL M = false) : pivS M r c = ([], 2) := by unfold pivS; rw [if_pos h]
theorem pivS_range {M : Mat} {r c : Int} (h : formedL M = true) (h2 : r < 0 ∨ (M.length : Int) ≤ r ∨ c < 0 ∨ (colsL M : Int) ≤ c) : pivS M r c = ([], 4) := by unfold pivS; rw [if_neg (by rw [h]; decide), if_pos h2]
theorem pivS_zero {M : Mat} {p j : Nat} (h : formedL M = true) (hp : p < M.length) (hj : j < colsL M) (h2 : fn M p j = 0) : pivS M p j = ([], 8) := by
  unfold pivS; rw [if_neg (by rw [h]; decide), if_neg (by omega), if_pos (by simpa using h2)]
theorem pivS_ok {M : Mat} {p j : Nat} (h : formedL M = true) (hp : p < M.length) (hj : j < colsL M) (h2 : fn M p j ≠ 0) : pivS M p j = (pivL M p j, 0) := by
  unfold pivS; rw [if_neg (by rw [h]; decide), if_neg (by omega), if_neg (by simpa using h2)]; simp

set_option maxRecDepth 100000 in
set_option maxHeartbeats 4000000 in
theorem pivotS_any {K : Nat} {A : Option Addr} {c : Nat} {rows : List RwD} {x y : Int} {w : World} (h : ML w A c rows) (hfm : MFits K (qsM rows)) (hK : 4 * K + 1 < 400000000) (hrn : rows.length < 1000000000) (hnn : colsL (qsM rows) < 1000000000)
    (hx : -9223372036854775808 ≤ x ∧ x ≤ 9223372036854775807) (hy : -9223372036854775808 ≤ y ∧ y ≤ 9223372036854775807) :
    Calls Try.prog 20 #[.slice A rows.length c, .int .i64 x, .int .i64 y] w (RetME (pivS (qsM rows) x y) w) := by
  have hl := h.len
  obtain ⟨R, hR⟩ : ∃ R, Hid (pivS (qsM rows) x y = R) := ⟨_, rfl⟩
  obtain ⟨n, hn⟩ : ∃ n, Hid (colsL (qsM rows) = n) := ⟨_, rfl⟩
  have hnn' : n < 1000000000 := by rw [← hn.out]; exact hnn
  have hfm' := Lib.hid hfm
  rw [hR.out]
  clear hnn hfm
  go_enter Try.func20, Try.ntmps20
  go_wp2_with fail
  refine (cols_any h).mono ?_
  rintro e w1 ⟨rfl, b1⟩
  rw [hn.out]
  rcases hfo : formedL (qsM rows) with _ | _
  · rw [if_neg (by decide)]
    have hf := Lib.hid (show R = ([], 2) by rw [← hR.out]; exact pivS_form hfo)
    go_wp2
    go_ret2
    exact RetME.err hf.out rfl b1
  rw [if_pos rfl]
  have hfo' := Lib.hid hfo
  clear hfo
  by_cases h1 : x < 0
  · have t1 : decide (x < 0) = true := decide_eq_true h1
    have hf := Lib.hid (show R = ([], 4) by rw [← hR.out]; exact pivS_range hfo'.out (.inl h1))
    go_wp2
    go_ret2
    exact RetME.err hf.out rfl b1
  have t1 : decide (x < 0) = false := decide_eq_false h1
  by_cases h2 : (rows.length : Int) ≤ x
  · have t2 : decide ((rows.length : Int) ≤ x) = true := decide_eq_true h2
    have hf := Lib.hid (show R = ([], 4) by rw [← hR.out]; exact pivS_range hfo'.out (.inr (.inl (by rw [qsM_len]; exact h2))))
    go_wp2
    go_ret2
    exact RetME.err hf.out rfl b1
  have t2 : decide ((rows.length : Int) ≤ x) = false := decide_eq_false h2
  by_cases h3 : y < 0
  · have t3 : decide (y < 0) = true := decide_eq_true h3
    have hf := Lib.hid (show R = ([], 4) by rw [← hR.out]; exact pivS_range hfo'.out (.inr (.inr (.inl h3))))
    go_wp2
    go_ret2
    exact RetME.err hf.out rfl b1
  have t3 : decide (y < 0) = false := decide_eq_false h3
  by_cases h4 : (n : Int) ≤ y
  · have t4 : decide ((n : Int) ≤ y) = true := decide_eq_true h4
    have hf := Lib.hid (show R = ([], 4) by rw [← hR.out]; exact pivS_range hfo'.out (.inr (.inr (.inr (by rw [hn.out]; exact h4)))))
    go_wp2
    go_ret2
    exact RetME.err hf.out rfl b1
  have t4 : decide ((n : Int) ≤ y) = false := decide_eq_false h4
  obtain ⟨p, rfl⟩ : ∃ p : Nat, x = (p : Int) := ⟨x.toNat, by omega⟩
  obtain ⟨j, rfl⟩ : ∃ j : Nat, y = (j : Int) := ⟨y.toNat, by omega⟩
  have hp : p < rows.length := by omega
  have hj : j < n := by omega
  have hr := formedL_rect hfo'.out
  rw [hn.out] at hr
  have hr' := Lib.hid hr
  clear hr
  obtain ⟨a, r, rfl, hab, hc0, hfr, hrk⟩ := (h.below b1).at hp
  have hlr := hfr.len
  have hrl := Lib.hid (show r.ds.length = n by
    have := hr'.out r.qs (List.mem_map.2 ⟨r, List.mem_of_getElem? hrk.out, rfl⟩)
    rw [RwD.qs_len] at this; exact this)
  have hjr : j < r.ds.length := by rw [hrl.out]; exact hj
  obtain ⟨b, d, eb, hbb, hd0, hd1, hd2, hfd, hdk⟩ := hfr.at hjr
  have hfe := Lib.hid (show fn (qsM rows) p j = d.q by
    unfold fn qsM
    rw [List.getD_eq_getElem?_getD (l := rows.map _), List.getElem?_map, hrk.out]
    show (r.ds.map FrD.q).getD j 0 = _
    rw [List.getD_eq_getElem?_getD, List.getElem?_map, hdk.out]; rfl)
  rw [eb] at hc0
  clear hfr eb
  have hji : (j : Int) < (r.ds.length : Int) := by omega
  have hpi : (p : Int) < (rows.length : Int) := by omega
  have hp0 : (0 : Int) ≤ (p : Int) := by omega
  have hj0 : (0 : Int) ≤ (j : Int) := by omega
  go_wp2_with fail
  refine (sign_any hfd).mono ?_
  rintro e w2 ⟨rfl, b2⟩
  have b02 := b1.trans (b2.mono b1.size)
  by_cases hz : d.q = 0
  · have hs : Hid (cmpR d.q 0 = 0) := cmpR_zero.2 hz
    rw [hs.out]
    have hf := Lib.hid (show R = ([], 8) by rw [← hR.out]; exact pivS_zero hfo'.out (by rw [qsM_len]; exact hp) (by rw [hn.out]; exact hj) (by rw [hfe.out]; exact hz))
    go_wp2
    go_ret2
    exact RetME.err hf.out rfl b02
  · obtain ⟨s, hs⟩ : ∃ s, Hid (cmpR d.q 0 = s) := ⟨_, rfl⟩
    have hs0 : (s == 0) = false := by rw [beq_eq_false_iff_ne]; intro e; exact hz (cmpR_zero.1 (by rw [hs.out]; exact e))
    rw [hs.out]
    have hf := Lib.hid (show (pivL (qsM rows) p j, (0 : Int)) = R by rw [← hR.out]; exact (pivS_ok hfo'.out (by rw [qsM_len]; exact hp) (by rw [hn.out]; exact hj) (by rw [hfe.out]; exact hz)).symm)
    have hnz := Lib.hid (show fn (qsM rows) p j ≠ 0 by rw [hfe.out]; exact hz)
    clear hz
    go_wp2_with fail
    refine (pivot_any (h.below b02) hr'.out hp hj hfm'.out hnz.out hK hrn hnn').mono ?_
    rintro e w3 ⟨B, cb, es, rfl, hfl, hqe, b3⟩
    have e1 := Lib.hid (show qsM es = R.1 by rw [← hf.out]; exact hqe.out)
    have e2 := Lib.hid (show (0 : Int) = R.2 by rw [← hf.out])
    go_wp2
    go_ret2
    exact ⟨B, cb, es, by rw [← e2.out]; rfl, hfl, e1, b02.trans (b3.mono b02.size)⟩
end Go.Proofs.Ytkjmliebkbbogaa
/- matrix.reduce: what the call does. -/
namespace Go.Proofs.Ytkjmliebkbbogaa
set_option linter.unusedVariables false
set_option linter.unusedSimpArgs false
open Go.RowKit Plain
attribute [local go_sem ↓] Go.wp_at_zero Go.wp_at_succ

theorem reduceL_stop {M : Mat} {k : Nat} (h : ¬ (reduceL M k).2.length < (reduceL M k).1.length) : ∀ n, reduceL M (k + n) = reduceL M k := by
  intro n
  induction n with
  | zero => rfl
  | succ n ih =>
    rw [← Nat.add_assoc, reduceL_succ, ih]
    unfold redStep
    rw [if_neg h]
theorem reduceL_skip {M : Mat} {k : Nat} (h : ¬ findRow (reduceL M k).1 k (reduceL M k).2.length < (reduceL M k).1.length) : reduceL M (k + 1) = reduceL M k := by
  rw [reduceL_succ]
  unfold redStep
  rw [if_neg h, ite_self]
theorem reduceL_step {M : Mat} {k t : Nat} (h1 : (reduceL M k).2.length < (reduceL M k).1.length) (ht : findRow (reduceL M k).1 k (reduceL M k).2.length = t) (h2 : t < (reduceL M k).1.length) :
    reduceL M (k + 1) = (pivL (moveUp (reduceL M k).1 (reduceL M k).2.length t) (reduceL M k).2.length k, (reduceL M k).2 ++ [k]) := by
  rw [reduceL_succ]
  unfold redStep
  rw [if_pos h1, ht, if_pos h2]
theorem findRow_eq {M : Mat} {col row t : Nat} (h1 : row ≤ t) (h2 : t < M.length) (h3 : ∀ i, row ≤ i → i < t → fn M i col = 0) (h4 : fn M t col ≠ 0) : findRow M col row = t := by
  rcases Nat.lt_trichotomy (findRow M col row) t with h | h | h
  · exact absurd (h3 _ (findRow_ge _ _ _) h) (findRow_ne (by omega))
  · exact h
  · exact absurd (findRow_zero h1 h h2) h4
theorem findRow_no {M : Mat} {col row : Nat} (h3 : ∀ i, row ≤ i → i < M.length → fn M i col = 0) : ¬ findRow M col row < M.length := fun h => findRow_ne h (h3 _ (findRow_ge _ _ _) h)
def RedInv (M : Mat) (n : Nat) (root : World) (m l i : Value) (wr : World) : Prop :=
  ∃ (k : Nat) (A : Option Addr) (c : Nat) (rows : List RwD) (is : List Nat), k ≤ n ∧ i = .int .i64 (k : Int) ∧ m = .slice A rows.length c ∧ ML wr A c rows ∧ Hid (qsM rows = (reduceL M k).1) ∧ Hid (is = (reduceL M k).2) ∧ OwnI wr root.heap.size l is ∧ Below root.heap.size root wr
def FindInv (Q : Mat) (col row : Nat) (root : World) (i : Value) (wr : World) : Prop :=
  ∃ t : Nat, row ≤ t ∧ t ≤ Q.length ∧ i = .int .i64 (t : Int) ∧ Hid (∀ i, row ≤ i → i < t → fn Q i col = 0) ∧ Below root.heap.size root wr
/-- A call that returns a reduced matrix and its pivot columns. -/
def RetRed (S : Mat × List Nat) (W : World) (e : Ending) (w' : World) : Prop :=
  ∃ A c rows L cl, e = .returned (.tuple #[.slice A rows.length c, .slice L S.2.length cl]) ∧ ML w' A c rows ∧ Hid (qsM rows = S.1) ∧ ILs w' L cl S.2 ∧ Below W.heap.size W w'

set_option maxRecDepth 100000 in
set_option maxHeartbeats 4000000 in
theorem reduce_any {K N n : Nat} {A : Option Addr} {c : Nat} {rows : List RwD} {w : World} (h : ML w A c rows) (hr : rect (qsM rows) N) (hn : n ≤ N) (hfm : MFits K (qsM rows)) (hK : 4 * gK K n + 1 < 400000000) (hrn : rows.length < 1000000000) (hN : N < 1000000000) :
    Calls Try.prog 48 #[.slice A rows.length c, .int .i64 (n : Int)] w (RetRed (reduceL (qsM rows) n) w) := by
  obtain ⟨M, hM⟩ : ∃ M, Hid (qsM rows = M) := ⟨_, rfl⟩
  rw [hM.out] at hr hfm ⊢
  have hr' := Lib.hid hr
  have hfm' := Lib.hid hfm
  have hrM := Lib.hid (show M.length = rows.length by rw [← hM.out, qsM_len])
  obtain ⟨R, hR⟩ : ∃ R, Hid (reduceL M n = R) := ⟨_, rfl⟩
  rw [hR.out]
  clear hr hfm
  go_enter Try.func48, Try.ntmps48
  go_wp2
  go_loopw [0, 6, 7] (fun m l i wr => RedInv M n w m l i wr) (fun _ _ i _ => n - (intOf i).toNat)
  case atStart => exact ⟨0, A, c, rows, [], by omega, rfl, rfl, h, hM, rfl, OwnI.nil _ _, Below.refl _ _⟩
  case round =>
    obtain ⟨k, A, c, rs, is, hk, rfl, rfl, h1, hq, his, hI, hb⟩ := hrel
    obtain ⟨L, cl, rfl, hil1, hil2⟩ := hI.form
    have hred := Lib.hid (reduceL_ok hr'.out k (by omega))
    have hfk := Lib.hid (reduceL_fits hfm'.out hr'.out k (by omega))
    have hlen := Lib.hid (show rs.length = rows.length by rw [← qsM_len, hq.out, hred.out.len, hrM.out])
    have hl1 := h1.len
    by_cases hkl : k < n
    · have hki : (k : Int) < (n : Int) := by omega
      by_cases hil : is.length < rs.length
      · have hili : (is.length : Int) < (rs.length : Int) := by omega
        have hrs : rs.length < 1000000000 := by rw [hlen.out]; exact hrn
        have hnr := Lib.hid (show ∀ r ∈ rs, r.ds.length = N from fun r hr => by
          have := hred.out.rct r.qs (by rw [← hq.out]; exact List.mem_map.2 ⟨r, hr, rfl⟩)
          rw [RwD.qs_len] at this; exact this)
        obtain ⟨a0, r0, rfl, -⟩ := h1.at (k := 0) (by omega)
        have hQl := Lib.hid (show (qsM rs).length = rs.length from qsM_len rs)
        go_wp2
        go_loopw [9] (fun i w' => FindInv (qsM rs) k is.length wr i w') (fun i _ => rs.length - (intOf i).toNat)
        case atStart => exact ⟨is.length, Nat.le_refl _, by rw [hQl.out]; omega, rfl, fun i h1 h2 => by omega, Below.refl _ _⟩
        case round =>
          obtain ⟨t, ht1, ht2, rfl, hz, b2⟩ := hrel
          rw [hQl.out] at ht2
          have hbw := hb.trans (b2.mono hb.size)
          by_cases htl : t < rs.length
          · have hti : (t : Int) < (rs.length : Int) := by omega
            obtain ⟨a', r, ea, hab, hc0, hfr, hrk⟩ := (h1.below b2).at htl
            have ea' : a' = a0 := by injection ea with e; exact e.symm
            subst ea'
            clear ea
            have hlr := hfr.len
            have hkr : k < r.ds.length := by rw [hnr.out r (List.mem_of_getElem? hrk.out)]; omega
            obtain ⟨b, d, eb, hbb, hd0, hd1, hd2, hfd, hdk⟩ := hfr.at hkr
            have hfe := Lib.hid (show fn (qsM rs) t k = d.q by
              unfold fn qsM
              rw [List.getD_eq_getElem?_getD (l := rs.map _), List.getElem?_map, hrk.out]
              show (r.ds.map FrD.q).getD k 0 = _
              rw [List.getD_eq_getElem?_getD, List.getElem?_map, hdk.out]; rfl)
            rw [eb] at hc0
            clear hfr eb
            have hkri : (k : Int) < (r.ds.length : Int) := by omega
            go_wp2_with fail
            refine (sign_any hfd).mono ?_
            rintro e w3 ⟨rfl, b3⟩
            have b23 := b2.trans (b3.mono b2.size)
            have b03 := hb.trans (b23.mono hb.size)
            by_cases hzd : d.q = 0
            · have hs : Hid (cmpR d.q 0 = 0) := cmpR_zero.2 hzd
              rw [hs.out]
              have hz' := Lib.hid (show ∀ i, is.length ≤ i → i < t + 1 → fn (qsM rs) i k = 0 from fun i h1 h2 => by
                rcases Nat.lt_or_ge i t with h | h
                · exact hz.out i h1 h
                · rw [show i = t by omega, hfe.out]; exact hzd)
              clear hzd
              go_wp2
              go_roundw
              case rel => exact ⟨t + 1, by omega, by rw [hQl.out]; omega, by go_num, hz', b23⟩
              case measure => simp [intOf]; omega
            · obtain ⟨s, hs⟩ : ∃ s, Hid (cmpR d.q 0 = s) := ⟨_, rfl⟩
              have hs0 : (s == 0) = false := by rw [beq_eq_false_iff_ne]; intro e; exact hzd (cmpR_zero.1 (by rw [hs.out]; exact e))
              rw [hs.out]
              have hfind := Lib.hid (show findRow (reduceL M k).1 k (reduceL M k).2.length = t by
                rw [← hq.out, ← his.out]
                exact findRow_eq ht1 (by rw [hQl.out]; exact htl) hz.out (by rw [hfe.out]; exact hzd))
              clear hzd
              have hne : ((t : Int) == (rs.length : Int)) = false := by rw [beq_eq_false_iff_ne]; omega
              have h3 := h1.below b23
              have hI3 := hI.below b23
              by_cases htr : t = is.length
              · subst htr
                have hne2 : ((is.length : Int) != (is.length : Int)) = false := by simp
                have hmv := Lib.hid (show qsM rs = moveUp (reduceL M k).1 is.length is.length by
                  rw [moveUp_self (by rw [← hq.out, hQl.out]; exact hil)]; exact hq.out)
                go_wp2_with fail
                have hstep := Lib.hid (reduceL_step (M := M) (k := k) (t := is.length) (by rw [← hq.out, ← his.out, hQl.out]; exact hil) hfind.out (by rw [← hq.out, hQl.out]; exact htl))
                have hml := Lib.hid (show rs.length = rs.length by rw [← qsM_len, hmv.out, moveUp_length ht1 (by rw [← hq.out, hQl.out]; exact htl), ← hq.out, hQl.out])
                have hgK := gK_mono K hk
                have hrm := Lib.hid (show rect (qsM rs) N by rw [hmv.out]; exact moveUp_rect hred.out.rct (by rw [← hq.out, hQl.out]; exact htl))
                have hfm2 := Lib.hid (show MFits (gK K k) (qsM rs) by rw [hmv.out]; exact moveUp_fits hfk.out (by rw [← hq.out, hQl.out]; exact htl))
                have hnz := Lib.hid (show fn (qsM rs) is.length k ≠ 0 by
                  rw [hmv.out]
                  unfold fn
                  rw [moveUp_get ht1 (by rw [← hq.out, hQl.out]; exact htl) (by rw [← hq.out, hQl.out]; exact hil)]
                  have h5 := findRow_ne (M := (reduceL M k).1) (col := k) (row := (reduceL M k).2.length) (by rw [hfind.out, ← hq.out, hQl.out]; exact htl)
                  rw [hfind.out] at h5
                  unfold fn at h5
                  have e5 : upS is.length is.length is.length = is.length := by unfold upS; simp
                  rw [e5]; exact h5)
                refine (pivot_any (K := gK K k) (p := is.length) (j := k) (n := N) h3 hrm.out (by rw [hml.out]; exact hil) (by omega) hfm2.out hnz.out (by omega) (by rw [hml.out]; exact hrs) hN).mono ?_
                rintro e w4 ⟨B, cb, es, rfl, hfl, hqe, b4⟩
                have b04 := b03.trans (b4.mono b03.size)
                have ba := (Below.refl w4.heap.size w4).alloc (Nat.le_refl _) (.cells #[.int .i64 (k : Int)] 3)
                have hIa := (hI3.below b4).below ba
                go_wp2_with (at_builtin; go_loud (refine wpList_appI rfl Try.underlying69 rfl _ _ rfl w.heap.size (.slice L is.length cl) is rfl hIa ⟨w4.heap.size, 0, none⟩ 1 k rfl ((Blk.new w4 3 #[.int .i64 (k : Int)]).cell 0) (by omega) (Nat.le_trans b04.size ba.size) ?_; intro v6 w6 ho6 hg6))
                have hfl6 := (hfl.below ba).ownI hIa hg6
                have b06 := (b04.alloc b04.size (.cells #[.int .i64 (k : Int)] 3)).grown hg6 (Nat.le_trans b04.size ba.size) fun g hg => OwnG.block hIa hg
                have hq6 := Lib.hid (show qsM es = (reduceL M (k + 1)).1 by rw [hstep.out, hqe.out, hmv.out, ← his.out])
                have hi6 := Lib.hid (show is ++ [k] = (reduceL M (k + 1)).2 by rw [hstep.out, ← his.out])
                clear hg6
                go_wp2
                go_roundw
                case rel => exact ⟨k + 1, B, cb, es, is ++ [k], by omega, by go_num, rfl, hfl6, hq6, hi6, ho6, b06⟩
                case measure => simp [intOf]; omega
              · have hne2 : ((t : Int) != (is.length : Int)) = true := by simp; omega
                have htlt : is.length < t := by omega
                have hpt : (is.length : Int) ≤ (t : Int) := by omega
                have hpc : (is.length : Int) ≤ (c : Int) := by omega
                have ba := (Below.refl w3.heap.size w3).alloc (Nat.le_refl _) (.cells #[] 23)
                have hE := OwnM.empty w3 (Nat.le_refl _)
                by_cases hct : c = t + 1
                · obtain rfl := hct
                  go_wp2_with (at_builtin; first
                    | (refine wpList_appMs rfl Try.underlying31 rfl _ _ rfl w3.heap.size (.slice (some ⟨w3.heap.size, 0, none⟩) 0 0) [] rfl hE a' is.length _ (rs.take is.length) (by simp; omega) rfl (fun j r hj => (h3.below ba).cellAt (by rw [List.getElem?_take] at hj; split at hj; exact hj; cases hj)) (by simp; omega) (by simp) ?_; intro vA wA hoA hgA; have ch1 : ChAt w3 (rs.take is.length) vA wA := ChAt.app (ws := w3) (rows := []) ⟨hE, ba⟩ hoA hgA; have cA : wA.cell? (a'.add t) = some (.slice r.a r.ds.length r.c) := (h3.below ch1.2).cellAt hrk.out; have baA := (Below.refl wA.heap.size wA).alloc (Nat.le_refl _) (.cells #[.slice r.a r.ds.length r.c] 23); have ch1a := ch1.below baA; clear hoA hgA ch1 baA)
                    | (refine wpList_appM rfl Try.underlying31 rfl _ _ rfl w3.heap.size vA (rs.take is.length) rfl ch1a.1 ⟨wA.heap.size, 0, none⟩ 1 r rfl (row_cell wA r) (by simp; omega) ch1a.2.size ?_; intro vB wB hoB hgB; have ch2 := ch1a.app hoB hgB; clear hoB hgB ch1a cA)
                    | (refine wpList_appMs rfl Try.underlying31 rfl _ _ rfl w3.heap.size vB _ rfl ch2.1 (a'.add is.length) (t - is.length) _ ((rs.drop is.length).take (t - is.length)) (by simp; omega) rfl (fun j r hj => by rw [Addr.add_add]; exact (h3.below ch2.2).cellAt (by rw [List.getElem?_take] at hj; split at hj; rwa [List.getElem?_drop] at hj; cases hj)) (by simp; omega) ch2.2.size ?_; intro vC wC hoC hgC; have ch3 := ch2.app hoC hgC; clear hoC hgC ch2)
                    | (refine wpList_appMs rfl Try.underlying31 rfl _ _ rfl w3.heap.size vC _ rfl ch3.1 a' _ _ (rs.drop (t + 1)) (by first | (rw [List.length_drop]; omega) | simp) rfl (fun j r hj => by rw [List.getElem?_drop, List.getElem?_eq_none (by omega)] at hj; cases hj) (by simp; omega) ch3.2.size ?_; intro vD wD hoD hgD; have ch4 := ch3.app hoD hgD; clear hoD hgD ch3))
                  obtain ⟨rs4, hr4⟩ : ∃ x, Hid (((rs.take is.length ++ [r]) ++ (rs.drop is.length).take (t - is.length)) ++ rs.drop (t + 1) = x) := ⟨_, rfl⟩
                  rw [hr4.out] at ch4
                  obtain ⟨A4, c4, rfl, hM4⟩ := ch4.1.ml (fun x hx => (h3.fl x (by
                    rw [← hr4.out] at hx
                    simp only [List.mem_append, List.mem_singleton] at hx
                    rcases hx with ((hx | rfl) | hx) | hx
                    · exact List.mem_of_mem_take hx
                    · exact List.mem_of_getElem? hrk.out
                    · exact List.mem_of_mem_drop (List.mem_of_mem_take hx)
                    · exact List.mem_of_mem_drop hx)).below ch4.2)
                  have hmv := Lib.hid (show qsM rs4 = moveUp (reduceL M k).1 is.length t by
                    rw [← hr4.out, ← hq.out]
                    unfold moveUp
                    have e : (qsM rs).getD t [] = r.qs := by
                      unfold qsM
                      rw [List.getD_eq_getElem?_getD, List.getElem?_map, hrk.out]; rfl
                    rw [e]
                    simp [qsM, List.map_take, List.map_drop])
                  have hI4 := hI3.below ch4.2
                  have b24 := b03.trans (ch4.2.mono b03.size)
                  have hml4 := hM4.len
                  have hstep := Lib.hid (reduceL_step (M := M) (k := k) (t := t) (by rw [← hq.out, ← his.out, hQl.out]; exact hil) hfind.out (by rw [← hq.out, hQl.out]; exact htl))
                  have hml := Lib.hid (show rs4.length = rs.length by rw [← qsM_len, hmv.out, moveUp_length ht1 (by rw [← hq.out, hQl.out]; exact htl), ← hq.out, hQl.out])
                  have hgK := gK_mono K hk
                  have hrm := Lib.hid (show rect (qsM rs4) N by rw [hmv.out]; exact moveUp_rect hred.out.rct (by rw [← hq.out, hQl.out]; exact htl))
                  have hfm2 := Lib.hid (show MFits (gK K k) (qsM rs4) by rw [hmv.out]; exact moveUp_fits hfk.out (by rw [← hq.out, hQl.out]; exact htl))
                  have hnz := Lib.hid (show fn (qsM rs4) is.length k ≠ 0 by
                    rw [hmv.out]
                    unfold fn
                    rw [moveUp_get ht1 (by rw [← hq.out, hQl.out]; exact htl) (by rw [← hq.out, hQl.out]; exact hil)]
                    have h5 := findRow_ne (M := (reduceL M k).1) (col := k) (row := (reduceL M k).2.length) (by rw [hfind.out, ← hq.out, hQl.out]; exact htl)
                    rw [hfind.out] at h5
                    unfold fn at h5
                    have e5 : upS is.length t is.length = t := by unfold upS; simp
                    rw [e5]; exact h5)
                  refine (pivot_any (K := gK K k) (p := is.length) (j := k) (n := N) hM4 hrm.out (by rw [hml.out]; exact hil) (by omega) hfm2.out hnz.out (by omega) (by rw [hml.out]; exact hrs) hN).mono ?_
                  rintro e w4 ⟨B, cb, es, rfl, hfl, hqe, b4⟩
                  have b04 := b24.trans (b4.mono b24.size)
                  have ba := (Below.refl w4.heap.size w4).alloc (Nat.le_refl _) (.cells #[.int .i64 (k : Int)] 3)
                  have hIa := (hI4.below b4).below ba
                  go_wp2_with (at_builtin; go_loud (refine wpList_appI rfl Try.underlying69 rfl _ _ rfl w.heap.size (.slice L is.length cl) is rfl hIa ⟨w4.heap.size, 0, none⟩ 1 k rfl ((Blk.new w4 3 #[.int .i64 (k : Int)]).cell 0) (by omega) (Nat.le_trans b04.size ba.size) ?_; intro v6 w6 ho6 hg6))
                  have hfl6 := (hfl.below ba).ownI hIa hg6
                  have b06 := (b04.alloc b04.size (.cells #[.int .i64 (k : Int)] 3)).grown hg6 (Nat.le_trans b04.size ba.size) fun g hg => OwnG.block hIa hg
                  have hq6 := Lib.hid (show qsM es = (reduceL M (k + 1)).1 by rw [hstep.out, hqe.out, hmv.out, ← his.out])
                  have hi6 := Lib.hid (show is ++ [k] = (reduceL M (k + 1)).2 by rw [hstep.out, ← his.out])
                  clear hg6
                  go_wp2
                  go_roundw
                  case rel => exact ⟨k + 1, B, cb, es, is ++ [k], by omega, by go_num, rfl, hfl6, hq6, hi6, ho6, b06⟩
                  case measure => simp [intOf]; omega
                · have hct' : ¬ (c = t + 1) := hct
                  go_wp2_with (at_builtin; first
                    | (refine wpList_appMs rfl Try.underlying31 rfl _ _ rfl w3.heap.size (.slice (some ⟨w3.heap.size, 0, none⟩) 0 0) [] rfl hE a' is.length _ (rs.take is.length) (by simp; omega) rfl (fun j r hj => (h3.below ba).cellAt (by rw [List.getElem?_take] at hj; split at hj; exact hj; cases hj)) (by simp; omega) (by simp) ?_; intro vA wA hoA hgA; have ch1 : ChAt w3 (rs.take is.length) vA wA := ChAt.app (ws := w3) (rows := []) ⟨hE, ba⟩ hoA hgA; have cA : wA.cell? (a'.add t) = some (.slice r.a r.ds.length r.c) := (h3.below ch1.2).cellAt hrk.out; have baA := (Below.refl wA.heap.size wA).alloc (Nat.le_refl _) (.cells #[.slice r.a r.ds.length r.c] 23); have ch1a := ch1.below baA; clear hoA hgA ch1 baA)
                    | (refine wpList_appM rfl Try.underlying31 rfl _ _ rfl w3.heap.size vA (rs.take is.length) rfl ch1a.1 ⟨wA.heap.size, 0, none⟩ 1 r rfl (row_cell wA r) (by simp; omega) ch1a.2.size ?_; intro vB wB hoB hgB; have ch2 := ch1a.app hoB hgB; clear hoB hgB ch1a cA)
                    | (refine wpList_appMs rfl Try.underlying31 rfl _ _ rfl w3.heap.size vB _ rfl ch2.1 (a'.add is.length) (t - is.length) _ ((rs.drop is.length).take (t - is.length)) (by simp; omega) rfl (fun j r hj => by rw [Addr.add_add]; exact (h3.below ch2.2).cellAt (by rw [List.getElem?_take] at hj; split at hj; rwa [List.getElem?_drop] at hj; cases hj)) (by simp; omega) ch2.2.size ?_; intro vC wC hoC hgC; have ch3 := ch2.app hoC hgC; clear hoC hgC ch2)
                    | (refine wpList_appMs rfl Try.underlying31 rfl _ _ rfl w3.heap.size vC _ rfl ch3.1 (a'.add (t + 1)) (rs.length - (t + 1)) _ (rs.drop (t + 1)) (by simp) rfl (fun j r hj => by rw [Addr.add_add]; exact (h3.below ch3.2).cellAt (by rwa [List.getElem?_drop] at hj)) (by simp; omega) ch3.2.size ?_; intro vD wD hoD hgD; have ch4 := ch3.app hoD hgD; clear hoD hgD ch3))
                  obtain ⟨rs4, hr4⟩ : ∃ x, Hid (((rs.take is.length ++ [r]) ++ (rs.drop is.length).take (t - is.length)) ++ rs.drop (t + 1) = x) := ⟨_, rfl⟩
                  rw [hr4.out] at ch4
                  obtain ⟨A4, c4, rfl, hM4⟩ := ch4.1.ml (fun x hx => (h3.fl x (by
                    rw [← hr4.out] at hx
                    simp only [List.mem_append, List.mem_singleton] at hx
                    rcases hx with ((hx | rfl) | hx) | hx
                    · exact List.mem_of_mem_take hx
                    · exact List.mem_of_getElem? hrk.out
                    · exact List.mem_of_mem_drop (List.mem_of_mem_take hx)
                    · exact List.mem_of_mem_drop hx)).below ch4.2)
                  have hmv := Lib.hid (show qsM rs4 = moveUp (reduceL M k).1 is.length t by
                    rw [← hr4.out, ← hq.out]
                    unfold moveUp
                    have e : (qsM rs).getD t [] = r.qs := by
                      unfold qsM
                      rw [List.getD_eq_getElem?_getD, List.getElem?_map, hrk.out]; rfl
                    rw [e]
                    simp [qsM, List.map_take, List.map_drop])
                  have hI4 := hI3.below ch4.2
                  have b24 := b03.trans (ch4.2.mono b03.size)
                  have hml4 := hM4.len
                  have hstep := Lib.hid (reduceL_step (M := M) (k := k) (t := t) (by rw [← hq.out, ← his.out, hQl.out]; exact hil) hfind.out (by rw [← hq.out, hQl.out]; exact htl))
                  have hml := Lib.hid (show rs4.length = rs.length by rw [← qsM_len, hmv.out, moveUp_length ht1 (by rw [← hq.out, hQl.out]; exact htl), ← hq.out, hQl.out])
                  have hgK := gK_mono K hk
                  have hrm := Lib.hid (show rect (qsM rs4) N by rw [hmv.out]; exact moveUp_rect hred.out.rct (by rw [← hq.out, hQl.out]; exact htl))
                  have hfm2 := Lib.hid (show MFits (gK K k) (qsM rs4) by rw [hmv.out]; exact moveUp_fits hfk.out (by rw [← hq.out, hQl.out]; exact htl))
                  have hnz := Lib.hid (show fn (qsM rs4) is.length k ≠ 0 by
                    rw [hmv.out]
                    unfold fn
                    rw [moveUp_get ht1 (by rw [← hq.out, hQl.out]; exact htl) (by rw [← hq.out, hQl.out]; exact hil)]
                    have h5 := findRow_ne (M := (reduceL M k).1) (col := k) (row := (reduceL M k).2.length) (by rw [hfind.out, ← hq.out, hQl.out]; exact htl)
                    rw [hfind.out] at h5
                    unfold fn at h5
                    have e5 : upS is.length t is.length = t := by unfold upS; simp
                    rw [e5]; exact h5)
                  refine (pivot_any (K := gK K k) (p := is.length) (j := k) (n := N) hM4 hrm.out (by rw [hml.out]; exact hil) (by omega) hfm2.out hnz.out (by omega) (by rw [hml.out]; exact hrs) hN).mono ?_
                  rintro e w4 ⟨B, cb, es, rfl, hfl, hqe, b4⟩
                  have b04 := b24.trans (b4.mono b24.size)
                  have ba := (Below.refl w4.heap.size w4).alloc (Nat.le_refl _) (.cells #[.int .i64 (k : Int)] 3)
                  have hIa := (hI4.below b4).below ba
                  go_wp2_with (at_builtin; go_loud (refine wpList_appI rfl Try.underlying69 rfl _ _ rfl w.heap.size (.slice L is.length cl) is rfl hIa ⟨w4.heap.size, 0, none⟩ 1 k rfl ((Blk.new w4 3 #[.int .i64 (k : Int)]).cell 0) (by omega) (Nat.le_trans b04.size ba.size) ?_; intro v6 w6 ho6 hg6))
                  have hfl6 := (hfl.below ba).ownI hIa hg6
                  have b06 := (b04.alloc b04.size (.cells #[.int .i64 (k : Int)] 3)).grown hg6 (Nat.le_trans b04.size ba.size) fun g hg => OwnG.block hIa hg
                  have hq6 := Lib.hid (show qsM es = (reduceL M (k + 1)).1 by rw [hstep.out, hqe.out, hmv.out, ← his.out])
                  have hi6 := Lib.hid (show is ++ [k] = (reduceL M (k + 1)).2 by rw [hstep.out, ← his.out])
                  clear hg6
                  go_wp2
                  go_roundw
                  case rel => exact ⟨k + 1, B, cb, es, is ++ [k], by omega, by go_num, rfl, hfl6, hq6, hi6, ho6, b06⟩
                  case measure => simp [intOf]; omega
          · obtain rfl : t = rs.length := by omega
            have hlt' : decide ((rs.length : Int) < (rs.length : Int)) = false := decide_eq_false (by omega)
            have heq : ((rs.length : Int) == (rs.length : Int)) = true := by simp
            have hno := Lib.hid (reduceL_skip (M := M) (k := k) (by rw [← hq.out, ← his.out]; exact findRow_no (by rw [hQl.out]; exact hz.out)))
            go_wp2
            trace_state
            go_roundw
            case rel => exact ⟨k + 1, _, c, rs, is, by omega, by go_num, rfl, h1.below b2, by rw [hno.out]; exact hq, by rw [hno.out]; exact his, hI.below b2, hbw⟩
            case measure => simp [intOf]; omega
      · have hili : decide ((is.length : Int) < (rs.length : Int)) = false := decide_eq_false (by omega)
        have hki' : decide ((k : Int) < (n : Int)) = true := decide_eq_true hki
        have hst := Lib.hid (show reduceL M k = R by
          rw [← hR.out]
          have := reduceL_stop (M := M) (k := k) (by rw [← hq.out, ← his.out, qsM_len]; exact hil) (n - k)
          rw [← this]; congr 1; omega)
        obtain ⟨L', cl', eL, hL⟩ := hI.il
        injection eL with e1 e2 e3
        subst e1 e3
        go_wp2
        go_ret2
        exact ⟨A, c, rs, L, cl, by rw [← hst.out, ← his.out]; rfl, h1, by rw [← hst.out]; exact hq, by rw [← hst.out, ← his.out]; exact hL, hb⟩
    · obtain rfl : k = n := by omega
      have hlt' : decide ((k : Int) < (k : Int)) = false := decide_eq_false (by omega)
      obtain ⟨L', cl', eL, hL⟩ := hI.il
      injection eL with e1 e2 e3
      subst e1 e3
      go_wp2
      go_ret2
      exact ⟨A, c, rs, L, cl, by rw [← hR.out, ← his.out]; rfl, h1, by rw [← hR.out]; exact hq, by rw [← hR.out, ← his.out]; exact hL, hb⟩
end Go.Proofs.Ytkjmliebkbbogaa
