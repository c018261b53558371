/- R17 Pivot: what the call does. -/
import Derived.Test.YtkjmliebkbbogaaMReduce
import Derived.Test.YtkjmliebkbbogaaMRk
import Derived.Test.YtkjmliebkbbogaaMRWo
import Derived.Test.YtkjmliebkbbogaaMInts
import Derived.Test.YtkjmliebkbbogaaGDiv
import Derived.Test.YtkjmliebkbbogaaGSub
import Derived.Deep.RegionHeld3
namespace Go.Proofs.Ytkjmliebkbbogaa
set_option linter.unusedVariables false
set_option linter.unusedSimpArgs false
open Go.RowKit Plain
attribute [local go_sem ↓] Go.wp_at_zero Go.wp_at_succ

set_option maxRecDepth 100000 in
set_option maxHeartbeats 4000000 in
theorem rpivot_any {K : Nat} {A : Option Addr} {c : Nat} {rows : List RwD} {x y : Int} {w : World} (h : ML w A c rows) (hfm : MFits K (qsM rows)) (hK : 4 * K + 1 < 400000000) (hrn : rows.length < 1000000000) (hnn : colsL (qsM rows) < 1000000000)
    (hx : -9223372036854775808 ≤ x ∧ x ≤ 9223372036854775807) (hy : -9223372036854775808 ≤ y ∧ y ≤ 9223372036854775807) :
    Calls Try.prog 21 #[.slice A rows.length c, .int .i64 x, .int .i64 y] w (RetME (pivS (qsM rows) x y) w) := by
  have hl := h.len
  obtain ⟨R, hR⟩ : ∃ R, Hid (pivS (qsM rows) x y = R) := ⟨_, rfl⟩
  obtain ⟨n, hn⟩ : ∃ n, Hid (colsL (qsM rows) = n) := ⟨_, rfl⟩
  have hnn' : n < 1000000000 := by rw [← hn.out]; exact hnn
  have hfm' := Lib.hid hfm
  rw [hR.out]
  clear hnn hfm
  go_enter Try.func21, Try.ntmps21
  go_wp2_with fail
  refine (formed17_any h).mono ?_
  rintro e w1 ⟨rfl, b1⟩
  rcases hfo : formedL (qsM rows) with _ | _
  · skip
    have hf := Lib.hid (show R = ([], 2) by rw [← hR.out]; exact pivS_form hfo)
    go_wp2
    go_ret2
    exact RetME.err hf.out rfl b1
  have hfo' := Lib.hid hfo
  clear hfo
  by_cases h1 : x < 0
  · have t1 : decide (x < 0) = true := decide_eq_true h1
    have hf := Lib.hid (show R = ([], 4) by rw [← hR.out]; exact pivS_range hfo'.out (.inl h1))
    go_wp2
    go_ret2
    exact RetME.err hf.out rfl b1
  have t1 : decide (x < 0) = false := decide_eq_false h1
  by_cases h2 : (rows.length : Int) ≤ x
  · have t2 : decide ((rows.length : Int) ≤ x) = true := decide_eq_true h2
    have hf := Lib.hid (show R = ([], 4) by rw [← hR.out]; exact pivS_range hfo'.out (.inr (.inl (by rw [qsM_len]; exact h2))))
    go_wp2
    go_ret2
    exact RetME.err hf.out rfl b1
  have t2 : decide ((rows.length : Int) ≤ x) = false := decide_eq_false h2
  by_cases h3 : y < 0
  · have t3 : decide (y < 0) = true := decide_eq_true h3
    have hf := Lib.hid (show R = ([], 4) by rw [← hR.out]; exact pivS_range hfo'.out (.inr (.inr (.inl h3))))
    go_wp2
    go_ret2
    exact RetME.err hf.out rfl b1
  have t3 : decide (y < 0) = false := decide_eq_false h3
  go_wp2_with fail
  refine (cols17_any (h.below b1)).mono ?_
  rintro e w2 ⟨rfl, rfl⟩
  rw [hn.out]
  by_cases h4 : (n : Int) ≤ y
  · have t4 : decide ((n : Int) ≤ y) = true := decide_eq_true h4
    have hf := Lib.hid (show R = ([], 4) by rw [← hR.out]; exact pivS_range hfo'.out (.inr (.inr (.inr (by rw [hn.out]; exact h4)))))
    go_wp2
    go_ret2
    exact RetME.err hf.out rfl b1
  have t4 : decide ((n : Int) ≤ y) = false := decide_eq_false h4
  obtain ⟨p, rfl⟩ : ∃ p : Nat, x = (p : Int) := ⟨x.toNat, by omega⟩
  obtain ⟨j, rfl⟩ : ∃ j : Nat, y = (j : Int) := ⟨y.toNat, by omega⟩
  have hp : p < rows.length := by omega
  have hj : j < n := by omega
  have hr := Lib.hid (show rect (qsM rows) n by rw [← hn.out]; exact formedL_rect hfo'.out)
  have hrl := Lib.hid (show ∀ r ∈ rows, r.ds.length = n from fun r hr' => by
    have := hr.out r.qs (List.mem_map.2 ⟨r, hr', rfl⟩)
    rw [RwD.qs_len] at this; exact this)
  obtain ⟨a0, r0, rfl, hab, hrow0, hfr0, hrk0⟩ := h.at hp
  have hlr := hfr0.len
  have hr0l := Lib.hid (hrl.out r0 (List.mem_of_getElem? hrk0.out))
  have hjr : j < r0.ds.length := by rw [hr0l.out]; exact hj
  obtain ⟨b, e, eb, hcb0, hc00, hc10, hc20, hc0, hck⟩ := hfr0.at hjr
  have hfe := Lib.hid (show fn (qsM rows) p j = e.q by
    unfold fn qsM
    rw [List.getD_eq_getElem?_getD (l := rows.map _), List.getElem?_map, hrk0.out]
    show (r0.ds.map FrD.q).getD j 0 = _
    rw [List.getD_eq_getElem?_getD, List.getElem?_map, hck.out]; rfl)
  rw [eb] at hrow0 hfr0
  clear eb
  have hji : (j : Int) < (r0.ds.length : Int) := by omega
  have hpi : (p : Int) < (rows.length : Int) := by omega
  have hp0 : (0 : Int) ≤ (p : Int) := by omega
  have hj0 : (0 : Int) ≤ (j : Int) := by omega
  have e1 := (b1.cell (p := a0.add p) (by rw [block_add]; exact hab)).trans hrow0
  have f0 := (b1.cell (p := b.add (j * 3)) (by rw [block_add]; exact hcb0)).trans hc00
  have f1 := (b1.cell (p := ⟨(b.add (j * 3)).block, (b.add (j * 3)).off + 1, none⟩) (by show (b.add (j * 3)).block < _; rw [block_add]; exact hcb0)).trans hc10
  have f2 := (b1.cell (p := ⟨(b.add (j * 3)).block, (b.add (j * 3)).off + 2, none⟩) (by show (b.add (j * 3)).block < _; rw [block_add]; exact hcb0)).trans hc20
  go_wp2_with fail
  refine (refSign_any (hc0.below b1)).mono ?_
  rintro e' w3 ⟨rfl, b3⟩
  have b03 := b1.trans (b3.mono b1.size)
  clear e1 f0 f1 f2
  by_cases hz : e.q = 0
  · have hs : Hid (cmpR e.q 0 = 0) := cmpR_zero.2 hz
    rw [hs.out]
    have hf := Lib.hid (show R = ([], 8) by rw [← hR.out]; exact pivS_zero hfo'.out (by rw [qsM_len]; exact hp) (by rw [hn.out]; exact hj) (by rw [hfe.out]; exact hz))
    go_wp2
    go_ret2
    exact RetME.err hf.out rfl b03
  obtain ⟨s, hs⟩ : ∃ s, Hid (cmpR e.q 0 = s) := ⟨_, rfl⟩
  have hs0 : (s == 0) = false := by rw [beq_eq_false_iff_ne]; intro e'; exact hz (cmpR_zero.1 (by rw [hs.out]; exact e'))
  rw [hs.out]
  have hRe := Lib.hid (show (pivL (qsM rows) p j, (0 : Int)) = R by rw [← hR.out]; exact (pivS_ok hfo'.out (by rw [qsM_len]; exact hp) (by rw [hn.out]; exact hj) (by rw [hfe.out]; exact hz)).symm)
  have hne := Lib.hid (show e.q ≠ 0 from hz)
  clear hz
  have hrq0 := Lib.hid (hfm'.out.row hrk0.out)
  have hcf := Lib.hid (hrq0.out.fr e (List.mem_of_getElem? hck.out))
  obtain ⟨qs, hqs⟩ : ∃ qs, Hid (headL (qsM rows) p j = qs) := ⟨_, rfl⟩
  have hqe0 := Lib.hid (show qs = (r0.ds.map FrD.q).map (fun q => q / e.q) by
    rw [← hqs.out]; unfold headL; rw [hfe.out, List.getD_eq_getElem?_getD (l := qsM rows)]; unfold qsM; rw [List.getElem?_map, hrk0.out]; rfl)
  have hql := Lib.hid (show qs.length = r0.ds.length by rw [hqe0.out, List.length_map, List.length_map])
  have b03' := Lib.hid b03
  go_wp2
  go_loopw [8, 9] (fun v i wr => LsInv qs w v i wr) (fun _ i _ => r0.ds.length - (intOf i).toNat)
  case atStart => exact ⟨0, by omega, rfl, [], OwnQ.nil _ _, fun d hd => by simp at hd, rfl, rfl, b03⟩
  case round =>
    obtain ⟨k, hk, rfl, hat⟩ := hrel
    rw [hql.out] at hk
    have hbel := hat.bel
    have hab1 : a0.block < wr.heap.size := Nat.lt_of_lt_of_le hab hbel.size
    have hrow := (hbel.cell (p := a0.add p) (by rw [block_add]; exact hab)).trans hrow0
    by_cases hkl : k < r0.ds.length
    · have hki : (k : Int) < (r0.ds.length : Int) := by omega
      have hkb : k < 1000000000000 := by have := hr0l.out; omega
      obtain ⟨b', x, eb, hxb, hx0, hx1, hx2, hx, hxk⟩ := (hfr0.below hbel).at hkl
      cases eb
      have hcb : b.block < wr.heap.size := Nat.lt_of_lt_of_le hcb0 hbel.size
      have hc0' := (hbel.cell (p := b.add (j * 3)) (by rw [block_add]; exact hcb0)).trans hc00
      have hc1 := (hbel.cell (p := ⟨(b.add (j * 3)).block, (b.add (j * 3)).off + 1, none⟩) (by show (b.add (j * 3)).block < _; rw [block_add]; exact hcb0)).trans hc10
      have hc2 := (hbel.cell (p := ⟨(b.add (j * 3)).block, (b.add (j * 3)).off + 2, none⟩) (by show (b.add (j * 3)).block < _; rw [block_add]; exact hcb0)).trans hc20
      have hc := hc0.below hbel
      have hxf := Lib.hid (hrq0.out.fr x (List.mem_of_getElem? hxk.out))
      have hq : Hid (qs[k]? = some (x.q / e.q)) := by
        show _ = _
        rw [hqe0.out, List.getElem?_map, List.getElem?_map, hxk.out]; rfl
      obtain ⟨qk, hqk⟩ : ∃ q', Hid (x.q / e.q = q') := ⟨_, rfl⟩
      rw [hqk.out] at hq
      have bT := Below.refl wr.heap.size wr
      have hS : ∀ w', Below wr.heap.size wr w' → w'.cell? (a0.add p) = some (.slice (some b) r0.ds.length r0.c) ∧ w'.cell? (b.add (k * 3)) = some (.bool x.neg) ∧ w'.cell? ⟨(b.add (k * 3)).block, (b.add (k * 3)).off + 1, none⟩ = some (.slice x.a x.la.length x.ca) ∧ w'.cell? ⟨(b.add (k * 3)).block, (b.add (k * 3)).off + 2, none⟩ = some (.slice x.b x.lb.length x.cb) ∧ w'.cell? (b.add (j * 3)) = some (.bool e.neg) ∧ w'.cell? ⟨(b.add (j * 3)).block, (b.add (j * 3)).off + 1, none⟩ = some (.slice e.a e.la.length e.ca) ∧ w'.cell? ⟨(b.add (j * 3)).block, (b.add (j * 3)).off + 2, none⟩ = some (.slice e.b e.lb.length e.cb) ∧ Below wr.heap.size wr w' := by
        intro w' o
        exact ⟨(o.cell (by show (a0.add p).block < _; rw [block_add]; exact hab1)).trans hrow, (o.cell (by show (b.add (k * 3)).block < _; rw [block_add]; exact hxb)).trans hx0, (o.cell (by show (b.add (k * 3)).block < _; rw [block_add]; exact hxb)).trans hx1, (o.cell (by show (b.add (k * 3)).block < _; rw [block_add]; exact hxb)).trans hx2, (o.cell (by show (b.add (j * 3)).block < _; rw [block_add]; exact hcb)).trans hc0', (o.cell (by show (b.add (j * 3)).block < _; rw [block_add]; exact hcb)).trans hc1, (o.cell (by show (b.add (j * 3)).block < _; rw [block_add]; exact hcb)).trans hc2, o⟩
      have bo : Below wr.heap.size wr wr := Below.refl _ _
      have dS : Below wr.heap.size wr wr.drew := bo.drew
      go_wp2_with fail
      refine wp_region_noPanic ?_
      refine wp_region_held_drew (S := fun w' => w'.cell? (a0.add p) = some (.slice (some b) r0.ds.length r0.c) ∧ w'.cell? (b.add (k * 3)) = some (.bool x.neg) ∧ w'.cell? ⟨(b.add (k * 3)).block, (b.add (k * 3)).off + 1, none⟩ = some (.slice x.a x.la.length x.ca) ∧ w'.cell? ⟨(b.add (k * 3)).block, (b.add (k * 3)).off + 2, none⟩ = some (.slice x.b x.lb.length x.cb) ∧ w'.cell? (b.add (j * 3)) = some (.bool e.neg) ∧ w'.cell? ⟨(b.add (j * 3)).block, (b.add (j * 3)).off + 1, none⟩ = some (.slice e.a e.la.length e.ca) ∧ w'.cell? ⟨(b.add (j * 3)).block, (b.add (j * 3)).off + 2, none⟩ = some (.slice e.b e.lb.length e.cb) ∧ Below wr.heap.size wr w') (by kernel_rfl) (hS _ dS) (fun hHeld => ?_)
      refine wpAnyH_take (i := 0) (v := ?_) rfl (by kernel_rfl) (by kernel_rfl) (by kernel_rfl) (fun _ _ _ h => h) (Or.inl ⟨by rfl, ?_⟩) hHeld ?_
      rotate_left
      · (intro w hSw; (try dsimp only at hSw); go_simp)
        all_goals with_reducible rfl
      try simp only [Act.put, List.getElem_toArray, List.getElem_cons_succ, List.getElem_cons_zero, List.setIfInBounds_toArray, List.set_cons_zero, List.set_cons_succ]
      refine wpAnyH_take (i := 1) (v := ?_) rfl (by kernel_rfl) (by kernel_rfl) (by kernel_rfl) (fun _ _ _ h => h) (Or.inl ⟨by rfl, ?_⟩) hHeld ?_
      rotate_left
      · (intro w hSw; (try dsimp only at hSw); go_simp)
        all_goals with_reducible rfl
      try simp only [Act.put, List.getElem_toArray, List.getElem_cons_succ, List.getElem_cons_zero, List.setIfInBounds_toArray, List.set_cons_zero, List.set_cons_succ]
      refine wpAnyH_take (i := 2) (v := ?_) rfl (by kernel_rfl) (by kernel_rfl) (by kernel_rfl) (fun _ _ _ h => h) (Or.inl ⟨by rfl, ?_⟩) hHeld ?_
      rotate_left
      · (intro w hSw; (try dsimp only at hSw); go_simp)
        all_goals with_reducible rfl
      try simp only [Act.put, List.getElem_toArray, List.getElem_cons_succ, List.getElem_cons_zero, List.setIfInBounds_toArray, List.set_cons_zero, List.set_cons_succ]
      refine wpAnyH_take (i := 3) (v := ?_) rfl (by kernel_rfl) (by kernel_rfl) (by kernel_rfl) (fun _ _ _ h => h) (Or.inl ⟨by rfl, ?_⟩) hHeld ?_
      rotate_left
      · (intro w hSw; (try dsimp only at hSw); go_simp)
        all_goals with_reducible rfl
      try simp only [Act.put, List.getElem_toArray, List.getElem_cons_succ, List.getElem_cons_zero, List.setIfInBounds_toArray, List.set_cons_zero, List.set_cons_succ]
      refine wpAnyH_take (i := 4) (v := ?_) rfl (by kernel_rfl) (by kernel_rfl) (by kernel_rfl) (fun _ _ _ h => h) (Or.inl ⟨by rfl, ?_⟩) hHeld ?_
      rotate_left
      · (intro w hSw; (try dsimp only at hSw); go_simp)
        all_goals with_reducible rfl
      try simp only [Act.put, List.getElem_toArray, List.getElem_cons_succ, List.getElem_cons_zero, List.setIfInBounds_toArray, List.set_cons_zero, List.set_cons_succ]
      refine wpAnyH_take (i := 5) (v := ?_) rfl (by kernel_rfl) (by kernel_rfl) (by kernel_rfl) (fun _ _ _ h => h) (Or.inl ⟨by rfl, ?_⟩) hHeld ?_
      rotate_left
      · (intro w hSw; (try dsimp only at hSw); go_simp)
        all_goals with_reducible rfl
      try simp only [Act.put, List.getElem_toArray, List.getElem_cons_succ, List.getElem_cons_zero, List.setIfInBounds_toArray, List.set_cons_zero, List.set_cons_succ]
      refine wpAnyH_take (i := 6) (v := ?_) rfl (by kernel_rfl) (by kernel_rfl) (by kernel_rfl) (fun _ _ _ h => h) (Or.inl ⟨by rfl, ?_⟩) hHeld ?_
      rotate_left
      · (intro w hSw; (try dsimp only at hSw); go_simp)
        all_goals with_reducible rfl
      try simp only [Act.put, List.getElem_toArray, List.getElem_cons_succ, List.getElem_cons_zero, List.setIfInBounds_toArray, List.set_cons_zero, List.set_cons_succ]
      refine wpAnyH_take (i := 7) (v := ?_) rfl (by kernel_rfl) (by kernel_rfl) (by kernel_rfl) (fun _ _ _ h => h) (Or.inl ⟨by rfl, ?_⟩) hHeld ?_
      rotate_left
      · (intro w hSw; (try dsimp only at hSw); go_simp)
        all_goals with_reducible rfl
      try simp only [Act.put, List.getElem_toArray, List.getElem_cons_succ, List.getElem_cons_zero, List.setIfInBounds_toArray, List.set_cons_zero, List.set_cons_succ]
      refine wpAnyH_take (i := 8) (v := ?_) rfl (by kernel_rfl) (by kernel_rfl) (by kernel_rfl) (fun _ _ _ h => h) (Or.inl ⟨by rfl, ?_⟩) hHeld ?_
      rotate_left
      · (intro w hSw; (try dsimp only at hSw); go_simp)
        all_goals with_reducible rfl
      try simp only [Act.put, List.getElem_toArray, List.getElem_cons_succ, List.getElem_cons_zero, List.setIfInBounds_toArray, List.set_cons_zero, List.set_cons_succ]
      refine wpAnyH_take (i := 9) (v := ?_) rfl (by kernel_rfl) (by kernel_rfl) (by kernel_rfl) (fun _ _ _ h => h) (Or.inl ⟨by rfl, ?_⟩) hHeld ?_
      rotate_left
      · (intro w hSw; (try dsimp only at hSw); go_simp)
        all_goals with_reducible rfl
      try simp only [Act.put, List.getElem_toArray, List.getElem_cons_succ, List.getElem_cons_zero, List.setIfInBounds_toArray, List.set_cons_zero, List.set_cons_succ]
      refine wpAnyH_take (i := 10) (v := ?_) rfl (by kernel_rfl) (by kernel_rfl) (by kernel_rfl) (fun _ _ _ h => h) (Or.inl ⟨by rfl, ?_⟩) hHeld ?_
      rotate_left
      · (intro w hSw; (try dsimp only at hSw); go_simp)
        all_goals with_reducible rfl
      try simp only [Act.put, List.getElem_toArray, List.getElem_cons_succ, List.getElem_cons_zero, List.setIfInBounds_toArray, List.set_cons_zero, List.set_cons_succ]
      refine wpAnyH_take (i := 11) (v := ?_) rfl (by kernel_rfl) (by kernel_rfl) (by kernel_rfl) (fun _ _ _ h => h) (Or.inl ⟨by rfl, ?_⟩) hHeld ?_
      rotate_left
      · (intro w hSw; (try dsimp only at hSw); go_simp)
        all_goals with_reducible rfl
      try simp only [Act.put, List.getElem_toArray, List.getElem_cons_succ, List.getElem_cons_zero, List.setIfInBounds_toArray, List.set_cons_zero, List.set_cons_succ]
      refine wpAnyH_take (i := 12) (v := ?_) rfl (by kernel_rfl) (by kernel_rfl) (by kernel_rfl) (fun _ _ _ h => h) (Or.inl ⟨by rfl, ?_⟩) hHeld ?_
      rotate_left
      · (intro w hSw; (try dsimp only at hSw); go_simp)
        all_goals with_reducible rfl
      try simp only [Act.put, List.getElem_toArray, List.getElem_cons_succ, List.getElem_cons_zero, List.setIfInBounds_toArray, List.set_cons_zero, List.set_cons_succ]
      refine wpAnyH_take (i := 13) (v := ?_) rfl (by kernel_rfl) (by kernel_rfl) (by kernel_rfl) (fun _ _ _ h => h) (Or.inl ⟨by rfl, ?_⟩) hHeld ?_
      rotate_left
      · (intro w hSw; (try dsimp only at hSw); go_simp)
        all_goals with_reducible rfl
      try simp only [Act.put, List.getElem_toArray, List.getElem_cons_succ, List.getElem_cons_zero, List.setIfInBounds_toArray, List.set_cons_zero, List.set_cons_succ]
      refine wpAnyH_ready (rs := [14, 18]) (by kernel_rfl) (by simp) ?_
      refine AllReadyH.cons rfl (fun K hK => ?_) ?_
      · go_simp
        have dw0 : Below wr.heap.size wr wr.drew := (Below.refl _ _).drew
        replace hx := hx.below dw0
        replace hc := hc.below dw0
        replace bT := bT.trans (dw0.mono bT.size)
        replace bo := bo.trans (dw0.mono bo.size)
        go_at_call 46
        refine (refDivF_any hx hc hxf.out hcf.out (by omega) hne.out).mono ?_
        rintro e u1 ⟨v1, rfl, ⟨n1, A1, a1, l1, B1, c1, m1, rfl, na, nb, iq⟩, bu1⟩
        replace hx := hx.below bu1
        replace hc := hc.below bu1
        replace bT := bT.trans (bu1.mono bT.size)
        replace bo := bo.trans (bu1.mono bo.size)
        rw [hqk.out] at iq
        have iq' := Lib.hid iq
        clear iq
        go_wp2_with fail
        refine hK.out _ _ (hS _ bo) (fun hHeld => ?_)
        clear hK K
        try simp only [Act.put, List.getElem_toArray, List.getElem_cons_succ, List.getElem_cons_zero, List.setIfInBounds_toArray, List.set_cons_zero, List.set_cons_succ]
        refine wpAnyH_take (i := 15) (v := ?_) rfl (by kernel_rfl) (by kernel_rfl) (by kernel_rfl) (fun _ _ _ h => h) (Or.inl ⟨by rfl, ?_⟩) hHeld ?_
        rotate_left
        · (intro w hSw; (try dsimp only at hSw); go_simp)
          all_goals with_reducible rfl
        try simp only [Act.put, List.getElem_toArray, List.getElem_cons_succ, List.getElem_cons_zero, List.setIfInBounds_toArray, List.set_cons_zero, List.set_cons_succ]
        refine wpAnyH_take (i := 16) (v := ?_) rfl (by kernel_rfl) (by kernel_rfl) (by kernel_rfl) (fun _ _ _ h => h) (Or.inl ⟨by rfl, ?_⟩) hHeld ?_
        rotate_left
        · (intro w hSw; (try dsimp only at hSw); go_simp)
          all_goals with_reducible rfl
        try simp only [Act.put, List.getElem_toArray, List.getElem_cons_succ, List.getElem_cons_zero, List.setIfInBounds_toArray, List.set_cons_zero, List.set_cons_succ]
        refine wpAnyH_take (i := 17) (v := ?_) rfl (by kernel_rfl) (by kernel_rfl) (by kernel_rfl) (fun _ _ _ h => h) (Or.inl ⟨by rfl, ?_⟩) hHeld ?_
        rotate_left
        · (intro w hSw; (try dsimp only at hSw); go_simp)
          all_goals with_reducible rfl
        try simp only [Act.put, List.getElem_toArray, List.getElem_cons_succ, List.getElem_cons_zero, List.setIfInBounds_toArray, List.set_cons_zero, List.set_cons_succ]
        refine wpAnyH_ready (rs := [18]) (by kernel_rfl) (by simp) ?_
        refine AllReadyH.cons rfl (fun K hK => ?_) AllReadyH.nil
        have bz0 : wr.heap.size ≤ (u1).heap.size := bo.size
        obtain ⟨u2, hu2, bu2, lu2, Bu2⟩ := boxed u1 #[.bool false, .slice none 0 0, .slice none 0 0] 50
        replace hx := hx.below bu2
        replace hc := hc.below bu2
        replace na := na.below bu2
        replace nb := nb.below bu2
        replace bT := bT.trans (bu2.mono bT.size)
        replace bo := bo.trans (bu2.mono bo.size)
        obtain ⟨gz, hgz⟩ : ∃ g, g = (u1).heap.size := ⟨_, rfl⟩
        have hge : wr.heap.size ≤ gz := by rw [hgz]; exact bz0
        have Bz : Blk u2 gz 50 #[.bool false, .slice none 0 0, .slice none 0 0] := by rw [hgz]; exact Bu2
        clear Bu2
        go_simp
        refine hK.out _ _ (hS _ bo) (fun hHeld => ?_)
        clear hK K
        try simp only [Act.put, List.getElem_toArray, List.getElem_cons_succ, List.getElem_cons_zero, List.setIfInBounds_toArray, List.set_cons_zero, List.set_cons_succ]
        refine wpAnyH_ready (rs := [19]) (by kernel_rfl) (by simp) ?_
        refine AllReadyH.cons rfl (fun K hK => ?_) AllReadyH.nil
        subst hgz
        have q0 := Bz.free 0
        have q1 := Bz.free 1
        have q2 := Bz.free 2
        have p0 := Bz.f0
        have p1 := Bz.f1
        have p2 := Bz.f2
        go_simp
        obtain ⟨w9, hw9, hB9, o9⟩ := Bz.set3 (.bool n1) (.slice A1 l1.length a1) (.slice B1 m1.length c1)
        rw [hw9]
        replace bo := o9.to_below bo hge bo.size
        clear q0 q1 q2 p0 p1 p2
        replace na := na.only_blk Bz (noDig3 _ _ _ _ _ _ _) o9
        replace nb := nb.only_blk Bz (noDig3 _ _ _ _ _ _ _) o9
        refine hK.out _ _ (hS _ bo) (fun hHeld => ?_)
        clear hK K
        try simp only [Act.put, List.getElem_toArray, List.getElem_cons_succ, List.getElem_cons_zero, List.setIfInBounds_toArray, List.set_cons_zero, List.set_cons_succ]
        refine wpAnyH_take (i := 20) (v := ?_) rfl (by kernel_rfl) (by kernel_rfl) (by kernel_rfl) (fun _ _ _ h => h) (Or.inl ⟨by rfl, ?_⟩) hHeld ?_
        rotate_left
        · (intro w hSw; (try dsimp only at hSw); go_simp)
          all_goals with_reducible rfl
        try simp only [Act.put, List.getElem_toArray, List.getElem_cons_succ, List.getElem_cons_zero, List.setIfInBounds_toArray, List.set_cons_zero, List.set_cons_succ]
        refine wpAnyH_done (by kernel_rfl) ?_ _
        refine NoPanic.normal ?_
        try go_simp
        clear hHeld
        clear hS dS
        have z0 := hB9.f0
        have z1 := hB9.f1
        have z2 := hB9.f2
        replace hat := hat.below bo
        have iq := iq'.out
        obtain ⟨os, ho, h63, hbs, hnext⟩ := hat.app hkb hq.out na nb iq
        clear na nb iq
        go_wp2_with (at_builtin; refine wpList_appQ rfl rfl _ _ rfl _ _ os rfl ho ⟨w9.heap.size, 0, none⟩ 1 ⟨n1, A1, a1, l1, B1, c1, m1⟩ rfl (World.news_of_block (heap_alloc_new w9 _)) h63 hbs ?_; intro v6 w6 ho6 hg6)
        have hat6 := hnext.out v6 w6 ho6 hg6
        clear hnext ho hg6 ho6 hat
        go_wp2
        go_roundw
        case rel => exact ⟨k + 1, by rw [hql.out]; omega, by go_num, hat6⟩
        case measure => simp [intOf]; omega
      refine AllReadyH.cons rfl (fun K hK => ?_) ?_
      · have dw0 : Below wr.heap.size wr wr.drew := (Below.refl _ _).drew
        replace hx := hx.below dw0
        replace hc := hc.below dw0
        replace bT := bT.trans (dw0.mono bT.size)
        replace bo := bo.trans (dw0.mono bo.size)
        have bz0 : wr.heap.size ≤ (wr.drew).heap.size := bo.size
        obtain ⟨u3, hu3, bu3, lu3, Bu3⟩ := boxed wr.drew #[.bool false, .slice none 0 0, .slice none 0 0] 50
        replace hx := hx.below bu3
        replace hc := hc.below bu3
        replace bT := bT.trans (bu3.mono bT.size)
        replace bo := bo.trans (bu3.mono bo.size)
        obtain ⟨gz, hgz⟩ : ∃ g, g = (wr).heap.size := ⟨_, rfl⟩
        have hge : wr.heap.size ≤ gz := by rw [hgz]; exact bz0
        have Bz : Blk u3 gz 50 #[.bool false, .slice none 0 0, .slice none 0 0] := by rw [hgz]; exact Bu3
        clear Bu3
        go_simp
        refine hK.out _ _ (hS _ bo) (fun hHeld => ?_)
        clear hK K
        try simp only [Act.put, List.getElem_toArray, List.getElem_cons_succ, List.getElem_cons_zero, List.setIfInBounds_toArray, List.set_cons_zero, List.set_cons_succ]
        refine wpAnyH_ready (rs := [14]) (by kernel_rfl) (by simp) ?_
        refine AllReadyH.cons rfl (fun K hK => ?_) AllReadyH.nil
        go_simp
        go_at_call 46
        refine (refDivF_any hx hc hxf.out hcf.out (by omega) hne.out).mono ?_
        rintro e u4 ⟨v1, rfl, ⟨n1, A1, a1, l1, B1, c1, m1, rfl, na, nb, iq⟩, bu4⟩
        replace hx := hx.below bu4
        replace hc := hc.below bu4
        replace Bz := Bz.keep bu4
        replace bT := bT.trans (bu4.mono bT.size)
        replace bo := bo.trans (bu4.mono bo.size)
        rw [hqk.out] at iq
        have iq' := Lib.hid iq
        clear iq
        go_wp2_with fail
        refine hK.out _ _ (hS _ bo) (fun hHeld => ?_)
        clear hK K
        try simp only [Act.put, List.getElem_toArray, List.getElem_cons_succ, List.getElem_cons_zero, List.setIfInBounds_toArray, List.set_cons_zero, List.set_cons_succ]
        refine wpAnyH_take (i := 15) (v := ?_) rfl (by kernel_rfl) (by kernel_rfl) (by kernel_rfl) (fun _ _ _ h => h) (Or.inl ⟨by rfl, ?_⟩) hHeld ?_
        rotate_left
        · (intro w hSw; (try dsimp only at hSw); go_simp)
          all_goals with_reducible rfl
        try simp only [Act.put, List.getElem_toArray, List.getElem_cons_succ, List.getElem_cons_zero, List.setIfInBounds_toArray, List.set_cons_zero, List.set_cons_succ]
        refine wpAnyH_take (i := 16) (v := ?_) rfl (by kernel_rfl) (by kernel_rfl) (by kernel_rfl) (fun _ _ _ h => h) (Or.inl ⟨by rfl, ?_⟩) hHeld ?_
        rotate_left
        · (intro w hSw; (try dsimp only at hSw); go_simp)
          all_goals with_reducible rfl
        try simp only [Act.put, List.getElem_toArray, List.getElem_cons_succ, List.getElem_cons_zero, List.setIfInBounds_toArray, List.set_cons_zero, List.set_cons_succ]
        refine wpAnyH_take (i := 17) (v := ?_) rfl (by kernel_rfl) (by kernel_rfl) (by kernel_rfl) (fun _ _ _ h => h) (Or.inl ⟨by rfl, ?_⟩) hHeld ?_
        rotate_left
        · (intro w hSw; (try dsimp only at hSw); go_simp)
          all_goals with_reducible rfl
        try simp only [Act.put, List.getElem_toArray, List.getElem_cons_succ, List.getElem_cons_zero, List.setIfInBounds_toArray, List.set_cons_zero, List.set_cons_succ]
        refine wpAnyH_ready (rs := [19]) (by kernel_rfl) (by simp) ?_
        refine AllReadyH.cons rfl (fun K hK => ?_) AllReadyH.nil
        subst hgz
        have q0 := Bz.free 0
        have q1 := Bz.free 1
        have q2 := Bz.free 2
        have p0 := Bz.f0
        have p1 := Bz.f1
        have p2 := Bz.f2
        go_simp
        obtain ⟨w9, hw9, hB9, o9⟩ := Bz.set3 (.bool n1) (.slice A1 l1.length a1) (.slice B1 m1.length c1)
        rw [hw9]
        replace bo := o9.to_below bo hge bo.size
        clear q0 q1 q2 p0 p1 p2
        replace na := na.only_blk Bz (noDig3 _ _ _ _ _ _ _) o9
        replace nb := nb.only_blk Bz (noDig3 _ _ _ _ _ _ _) o9
        refine hK.out _ _ (hS _ bo) (fun hHeld => ?_)
        clear hK K
        try simp only [Act.put, List.getElem_toArray, List.getElem_cons_succ, List.getElem_cons_zero, List.setIfInBounds_toArray, List.set_cons_zero, List.set_cons_succ]
        refine wpAnyH_take (i := 20) (v := ?_) rfl (by kernel_rfl) (by kernel_rfl) (by kernel_rfl) (fun _ _ _ h => h) (Or.inl ⟨by rfl, ?_⟩) hHeld ?_
        rotate_left
        · (intro w hSw; (try dsimp only at hSw); go_simp)
          all_goals with_reducible rfl
        try simp only [Act.put, List.getElem_toArray, List.getElem_cons_succ, List.getElem_cons_zero, List.setIfInBounds_toArray, List.set_cons_zero, List.set_cons_succ]
        refine wpAnyH_done (by kernel_rfl) ?_ _
        refine NoPanic.normal ?_
        try go_simp
        clear hHeld
        clear hS dS
        have z0 := hB9.f0
        have z1 := hB9.f1
        have z2 := hB9.f2
        replace hat := hat.below bo
        have iq := iq'.out
        obtain ⟨os, ho, h63, hbs, hnext⟩ := hat.app hkb hq.out na nb iq
        clear na nb iq
        go_wp2_with (at_builtin; refine wpList_appQ rfl rfl _ _ rfl _ _ os rfl ho ⟨w9.heap.size, 0, none⟩ 1 ⟨n1, A1, a1, l1, B1, c1, m1⟩ rfl (World.news_of_block (heap_alloc_new w9 _)) h63 hbs ?_; intro v6 w6 ho6 hg6)
        have hat6 := hnext.out v6 w6 ho6 hg6
        clear hnext ho hg6 ho6 hat
        go_wp2
        go_roundw
        case rel => exact ⟨k + 1, by rw [hql.out]; omega, by go_num, hat6⟩
        case measure => simp [intOf]; omega
      exact AllReadyH.nil
    · obtain rfl : k = r0.ds.length := by omega
      have hlt' : decide ((r0.ds.length : Int) < (r0.ds.length : Int)) = false := decide_eq_false (by omega)
      obtain ⟨B1, cb1, hs1, rfl, ho1', hqh⟩ := hat.done hql.out.symm
      have hhl := Lib.hid (show hs1.length = n by rw [← List.length_map (f := FrD.q), hqh.out, hql.out, hr0l.out])
      obtain ⟨T, hT⟩ : ∃ T, Hid (pivL (qsM rows) p j = T) := ⟨_, rfl⟩
      have hTl := Lib.hid (show T.length = rows.length by rw [← hT.out, pivL_length, qsM_len])
      have hhq := Lib.hid (show hs1.map FrD.q = headL (qsM rows) p j by rw [hqh.out, hqs.out])
      have hfoq := Lib.hid (show QFits (K + K) (hs1.map FrD.q) by rw [hhq.out]; exact headL_fits hfm'.out hr.out (by rw [qsM_len]; exact hp) hj)
      have hlh := ho1'.len
      obtain ⟨wl, hwl⟩ : ∃ wl : World, wl = wr := ⟨_, rfl⟩
      subst hwl
      have hbl := Lib.hid hbel
      have hrow0' := Lib.hid hrow0
      clear hat
      go_wp2
      clear hbel hrow hab1 hrow0
      go_loopw [12, 13] (fun v i wr => MtInv T wl v i wr) (fun _ i _ => rows.length - (intOf i).toNat)
      case atStart => exact ⟨0, by omega, rfl, MtAt.start _ (Below.refl _ _)⟩
      case round =>
        obtain ⟨k, hk, rfl, hat⟩ := hrel
        rw [hTl.out] at hk
        have hb2 := hat.bel
        by_cases hkl : k < rows.length
        · have hki : (k : Int) < (rows.length : Int) := by omega
          have hkb : k < 1000000000000 := by omega
          by_cases hkp : k = p
          · have heq : ((k : Int) == (p : Int)) = true := by rw [beq_iff_eq]; omega
            have hq : Hid (T[k]? = some (RwD.qs ⟨B1, cb1, hs1⟩)) := by
              show _ = some (hs1.map FrD.q)
              rw [← hT.out, hhq.out]
              unfold pivL
              rw [List.getElem?_map, List.getElem?_range (by rw [qsM_len]; exact hkl)]
              simp [hkp]
            have hfl := ho1'.below hb2
            clear hkp
            obtain ⟨os, ho, h63, hbs, hnext⟩ := hat.app (r := ⟨B1, cb1, hs1⟩) hkb hq.out hfl
            go_wp2_with (at_builtin; go_loud (refine wpList_appM rfl Try.underlying22 rfl _ _ rfl _ _ os rfl ho ⟨wr.heap.size, 0, none⟩ 1 ⟨B1, cb1, hs1⟩ rfl (row_cell wr ⟨B1, cb1, hs1⟩) h63 hbs ?_; intro v6 w6 ho6 hg6))
            have hat6 := hnext.out v6 w6 ho6 hg6
            clear hnext ho hg6 ho6 hat
            go_wp2
            go_roundw
            case rel => exact ⟨k + 1, by rw [hTl.out]; omega, by go_num, hat6⟩
            case measure => simp [intOf]; omega
          · have heq : ((k : Int) == (p : Int)) = false := by rw [beq_eq_false_iff_ne]; omega
            obtain ⟨a', r, ea, hab2, hrow2, hfr, hrk⟩ := (h.below hbl.out).at hkl
            cases ea
            have hlr2 := hfr.len
            have hnr := Lib.hid (hrl.out r (List.mem_of_getElem? hrk.out))
            obtain ⟨b2, y, eb, hyb, hy0, hy1, hy2, hy, hyk⟩ := hfr.at (k := j) (by rw [hnr.out]; exact hj)
            have hfy := Lib.hid (show fn (qsM rows) k j = y.q by
              unfold fn qsM
              rw [List.getD_eq_getElem?_getD (l := rows.map _), List.getElem?_map, hrk.out]
              show (r.ds.map FrD.q).getD j 0 = _
              rw [List.getD_eq_getElem?_getD, List.getElem?_map, hyk.out]; rfl)
            have hrq := Lib.hid (hfm'.out.row hrk.out)
            have hyf := Lib.hid (hrq.out.fr y (List.mem_of_getElem? hyk.out))
            have hq : Hid (T[k]? = some (lessL (r.ds.map FrD.q) y.q (hs1.map FrD.q))) := by
              show _ = _
              rw [← hT.out]
              unfold pivL
              rw [List.getElem?_map, List.getElem?_range (by rw [qsM_len]; exact hkl)]
              show some (if k = p then _ else _) = _
              rw [if_neg hkp, hfy.out, hhq.out, List.getD_eq_getElem?_getD (l := qsM rows)]
              unfold qsM
              rw [List.getElem?_map, hrk.out]; rfl
            have hlenr := Lib.hid (show r.ds.length = hs1.length by rw [hnr.out, hhl.out])
            rw [eb] at hrow2 hfr
            have hjr2 : (j : Int) < (r.ds.length : Int) := by have := hnr.out; omega
            clear eb hkp
            replace hfr := hfr.below hb2
            replace hy := hy.below hb2
            have ho1 := ho1'.below hb2
            have bT := hat.bel
            have hS : ∀ w', Below wl.heap.size wl w' → w'.cell? (a0.add k) = some (.slice (some b2) r.ds.length r.c) ∧ w'.cell? (b2.add (j * 3)) = some (.bool y.neg) ∧ w'.cell? ⟨(b2.add (j * 3)).block, (b2.add (j * 3)).off + 1, none⟩ = some (.slice y.a y.la.length y.ca) ∧ w'.cell? ⟨(b2.add (j * 3)).block, (b2.add (j * 3)).off + 2, none⟩ = some (.slice y.b y.lb.length y.cb) ∧ Below wl.heap.size wl w' := by
              intro w' o
              exact ⟨(o.cell (by show (a0.add k).block < _; rw [block_add]; exact hab2)).trans hrow2, (o.cell (by show (b2.add (j * 3)).block < _; rw [block_add]; exact hyb)).trans hy0, (o.cell (by show (b2.add (j * 3)).block < _; rw [block_add]; exact hyb)).trans hy1, (o.cell (by show (b2.add (j * 3)).block < _; rw [block_add]; exact hyb)).trans hy2, o⟩
            have bo : Below wl.heap.size wl wr := hat.bel
            have dS : Below wl.heap.size wl wr.drew := bo.drew
            go_wp2_with fail
            refine wp_region_noPanic ?_
            refine wp_region_held_drew (S := fun w' => w'.cell? (a0.add k) = some (.slice (some b2) r.ds.length r.c) ∧ w'.cell? (b2.add (j * 3)) = some (.bool y.neg) ∧ w'.cell? ⟨(b2.add (j * 3)).block, (b2.add (j * 3)).off + 1, none⟩ = some (.slice y.a y.la.length y.ca) ∧ w'.cell? ⟨(b2.add (j * 3)).block, (b2.add (j * 3)).off + 2, none⟩ = some (.slice y.b y.lb.length y.cb) ∧ Below wl.heap.size wl w') (by kernel_rfl) (hS _ dS) (fun hHeld => ?_)
            refine wpAnyH_take (i := 0) (v := ?_) rfl (by kernel_rfl) (by kernel_rfl) (by kernel_rfl) (fun _ _ _ h => h) (Or.inl ⟨by rfl, ?_⟩) hHeld ?_
            rotate_left
            · (intro w hSw; (try dsimp only at hSw); go_simp)
              all_goals with_reducible rfl
            try simp only [Act.put, List.getElem_toArray, List.getElem_cons_succ, List.getElem_cons_zero, List.setIfInBounds_toArray, List.set_cons_zero, List.set_cons_succ]
            refine wpAnyH_take (i := 1) (v := ?_) rfl (by kernel_rfl) (by kernel_rfl) (by kernel_rfl) (fun _ _ _ h => h) (Or.inl ⟨by rfl, ?_⟩) hHeld ?_
            rotate_left
            · (intro w hSw; (try dsimp only at hSw); go_simp)
              all_goals with_reducible rfl
            try simp only [Act.put, List.getElem_toArray, List.getElem_cons_succ, List.getElem_cons_zero, List.setIfInBounds_toArray, List.set_cons_zero, List.set_cons_succ]
            refine wpAnyH_take (i := 2) (v := ?_) rfl (by kernel_rfl) (by kernel_rfl) (by kernel_rfl) (fun _ _ _ h => h) (Or.inl ⟨by rfl, ?_⟩) hHeld ?_
            rotate_left
            · (intro w hSw; (try dsimp only at hSw); go_simp)
              all_goals with_reducible rfl
            try simp only [Act.put, List.getElem_toArray, List.getElem_cons_succ, List.getElem_cons_zero, List.setIfInBounds_toArray, List.set_cons_zero, List.set_cons_succ]
            refine wpAnyH_take (i := 3) (v := ?_) rfl (by kernel_rfl) (by kernel_rfl) (by kernel_rfl) (fun _ _ _ h => h) (Or.inl ⟨by rfl, ?_⟩) hHeld ?_
            rotate_left
            · (intro w hSw; (try dsimp only at hSw); go_simp)
              all_goals with_reducible rfl
            try simp only [Act.put, List.getElem_toArray, List.getElem_cons_succ, List.getElem_cons_zero, List.setIfInBounds_toArray, List.set_cons_zero, List.set_cons_succ]
            refine wpAnyH_take (i := 4) (v := ?_) rfl (by kernel_rfl) (by kernel_rfl) (by kernel_rfl) (fun _ _ _ h => h) (Or.inl ⟨by rfl, ?_⟩) hHeld ?_
            rotate_left
            · (intro w hSw; (try dsimp only at hSw); go_simp)
              all_goals with_reducible rfl
            try simp only [Act.put, List.getElem_toArray, List.getElem_cons_succ, List.getElem_cons_zero, List.setIfInBounds_toArray, List.set_cons_zero, List.set_cons_succ]
            refine wpAnyH_take (i := 5) (v := ?_) rfl (by kernel_rfl) (by kernel_rfl) (by kernel_rfl) (fun _ _ _ h => h) (Or.inl ⟨by rfl, ?_⟩) hHeld ?_
            rotate_left
            · (intro w hSw; (try dsimp only at hSw); go_simp)
              all_goals with_reducible rfl
            try simp only [Act.put, List.getElem_toArray, List.getElem_cons_succ, List.getElem_cons_zero, List.setIfInBounds_toArray, List.set_cons_zero, List.set_cons_succ]
            refine wpAnyH_take (i := 6) (v := ?_) rfl (by kernel_rfl) (by kernel_rfl) (by kernel_rfl) (fun _ _ _ h => h) (Or.inl ⟨by rfl, ?_⟩) hHeld ?_
            rotate_left
            · (intro w hSw; (try dsimp only at hSw); go_simp)
              all_goals with_reducible rfl
            try simp only [Act.put, List.getElem_toArray, List.getElem_cons_succ, List.getElem_cons_zero, List.setIfInBounds_toArray, List.set_cons_zero, List.set_cons_succ]
            refine wpAnyH_take (i := 7) (v := ?_) rfl (by kernel_rfl) (by kernel_rfl) (by kernel_rfl) (fun _ _ _ h => h) (Or.inl ⟨by rfl, ?_⟩) hHeld ?_
            rotate_left
            · (intro w hSw; (try dsimp only at hSw); go_simp)
              all_goals with_reducible rfl
            try simp only [Act.put, List.getElem_toArray, List.getElem_cons_succ, List.getElem_cons_zero, List.setIfInBounds_toArray, List.set_cons_zero, List.set_cons_succ]
            refine wpAnyH_take (i := 8) (v := ?_) rfl (by kernel_rfl) (by kernel_rfl) (by kernel_rfl) (fun _ _ _ h => h) (Or.inl ⟨by rfl, ?_⟩) hHeld ?_
            rotate_left
            · (intro w hSw; (try dsimp only at hSw); go_simp)
              all_goals with_reducible rfl
            try simp only [Act.put, List.getElem_toArray, List.getElem_cons_succ, List.getElem_cons_zero, List.setIfInBounds_toArray, List.set_cons_zero, List.set_cons_succ]
            refine wpAnyH_take (i := 9) (v := ?_) rfl (by kernel_rfl) (by kernel_rfl) (by kernel_rfl) (fun _ _ _ h => h) (Or.inl ⟨by rfl, ?_⟩) hHeld ?_
            rotate_left
            · (intro w hSw; (try dsimp only at hSw); go_simp)
              all_goals with_reducible rfl
            try simp only [Act.put, List.getElem_toArray, List.getElem_cons_succ, List.getElem_cons_zero, List.setIfInBounds_toArray, List.set_cons_zero, List.set_cons_succ]
            refine wpAnyH_take (i := 10) (v := ?_) rfl (by kernel_rfl) (by kernel_rfl) (by kernel_rfl) (fun _ _ _ h => h) (Or.inl ⟨by rfl, ?_⟩) hHeld ?_
            rotate_left
            · (intro w hSw; (try dsimp only at hSw); go_simp)
              all_goals with_reducible rfl
            try simp only [Act.put, List.getElem_toArray, List.getElem_cons_succ, List.getElem_cons_zero, List.setIfInBounds_toArray, List.set_cons_zero, List.set_cons_succ]
            refine wpAnyH_take (i := 11) (v := ?_) rfl (by kernel_rfl) (by kernel_rfl) (by kernel_rfl) (fun _ _ _ h => h) (Or.inl ⟨by rfl, ?_⟩) hHeld ?_
            rotate_left
            · (intro w hSw; (try dsimp only at hSw); go_simp)
              all_goals with_reducible rfl
            try simp only [Act.put, List.getElem_toArray, List.getElem_cons_succ, List.getElem_cons_zero, List.setIfInBounds_toArray, List.set_cons_zero, List.set_cons_succ]
            refine wpAnyH_take (i := 12) (v := ?_) rfl (by kernel_rfl) (by kernel_rfl) (by kernel_rfl) (fun _ _ _ h => h) (Or.inl ⟨by rfl, ?_⟩) hHeld ?_
            rotate_left
            · (intro w hSw; (try dsimp only at hSw); go_simp)
              all_goals with_reducible rfl
            try simp only [Act.put, List.getElem_toArray, List.getElem_cons_succ, List.getElem_cons_zero, List.setIfInBounds_toArray, List.set_cons_zero, List.set_cons_succ]
            refine wpAnyH_ready (rs := [13]) (by kernel_rfl) (by simp) ?_
            refine AllReadyH.cons rfl (fun K hK => ?_) AllReadyH.nil
            go_simp
            have dw0 : Below wr.heap.size wr wr.drew := (Below.refl _ _).drew
            replace hat := hat.below dw0
            replace hfr := hfr.below dw0
            replace hy := hy.below dw0
            replace ho1 := ho1.below dw0
            replace bT := bT.trans (dw0.mono bT.size)
            replace bo := bo.trans (dw0.mono bo.size)
            go_at_call 47
            refine (rless_any hfr hy ho1 hlenr.out hrq.out hyf.out hfoq.out (by omega) (by have := hnr.out; omega)).mono ?_
            rintro e u1 ⟨A6, c6, ds6, rfl, hf6, hq6, bu1⟩
            replace hat := hat.below bu1
            replace hfr := hfr.below bu1
            replace hy := hy.below bu1
            replace ho1 := ho1.below bu1
            replace bT := bT.trans (bu1.mono bT.size)
            replace bo := bo.trans (bu1.mono bo.size)
            go_wp2_with fail
            refine hK.out _ _ (hS _ bo) (fun hHeld => ?_)
            clear hK K
            try simp only [Act.put, List.getElem_toArray, List.getElem_cons_succ, List.getElem_cons_zero, List.setIfInBounds_toArray, List.set_cons_zero, List.set_cons_succ]
            refine wpAnyH_ready (rs := [14]) (by kernel_rfl) (by simp) ?_
            refine AllReadyH.cons rfl (fun K hK => ?_) AllReadyH.nil
            obtain ⟨os, ho, h63, hbs, hnext⟩ := hat.app (r := ⟨A6, c6, ds6⟩) hkb (hq.out.trans (by show some _ = some (ds6.map FrD.q); rw [hq6.out])) hf6
            obtain ⟨u2, hu2, bu2, lu2, Bu2⟩ := boxed u1 #[.slice A6 ds6.length c6] 23
            replace hfr := hfr.below bu2
            replace hy := hy.below bu2
            replace ho1 := ho1.below bu2
            replace hf6 := hf6.below bu2
            replace bT := bT.trans (bu2.mono bT.size)
            replace bo := bo.trans (bu2.mono bo.size)
            go_simp
            refine hK.out _ _ (hS _ bo) (fun hHeld => ?_)
            clear hK K
            try simp only [Act.put, List.getElem_toArray, List.getElem_cons_succ, List.getElem_cons_zero, List.setIfInBounds_toArray, List.set_cons_zero, List.set_cons_succ]
            refine wpAnyH_ready (rs := [15]) (by kernel_rfl) (by simp) ?_
            refine AllReadyH.cons rfl (fun K hK => ?_) AllReadyH.nil
            refine step_appM rfl Try.underlying22 _ _ rfl rfl wl.heap.size _ os rfl (by rw [← hu2]; exact ho) ⟨u1.heap.size, 0, none⟩ 1 ⟨A6, c6, ds6⟩ rfl (Bu2.cell 0) h63 (by rw [← hu2]; exact hbs) ?_
            intro v8 w8 ho8 hg8
            rw [← hu2] at hg8
            have hat8 := hnext.out v8 w8 ho8 hg8
            replace bo := hat8.bel
            clear hnext ho hg8 ho8
            refine hK.out _ _ (hS _ bo) (fun hHeld => ?_)
            clear hK K
            try simp only [Act.put, List.getElem_toArray, List.getElem_cons_succ, List.getElem_cons_zero, List.setIfInBounds_toArray, List.set_cons_zero, List.set_cons_succ]
            refine wpAnyH_take (i := 16) (v := ?_) rfl (by kernel_rfl) (by kernel_rfl) (by kernel_rfl) (fun _ _ _ h => h) (Or.inl ⟨by rfl, ?_⟩) hHeld ?_
            rotate_left
            · (intro w hSw; (try dsimp only at hSw); go_simp)
              all_goals with_reducible rfl
            try simp only [Act.put, List.getElem_toArray, List.getElem_cons_succ, List.getElem_cons_zero, List.setIfInBounds_toArray, List.set_cons_zero, List.set_cons_succ]
            refine wpAnyH_done (by kernel_rfl) ?_ _
            refine NoPanic.normal ?_
            try go_simp
            clear hHeld
            clear hS dS bo
            go_wp2
            go_roundw
            case rel => exact ⟨k + 1, by rw [hTl.out]; omega, by go_num, hat8⟩
            case measure => simp [intOf]; omega
        · obtain rfl : k = rows.length := by omega
          have hlt' : decide ((rows.length : Int) < (rows.length : Int)) = false := decide_eq_false (by omega)
          obtain ⟨B, cb, es, rfl, hfl, hqe⟩ := hat.done hTl.out.symm
          have e1 := Lib.hid (show qsM es = R.1 by rw [← hRe.out, hqe.out, ← hT.out])
          have e2 := Lib.hid (show (0 : Int) = R.2 by rw [← hRe.out])
          go_wp2
          go_ret2
          exact ⟨B, cb, es, by rw [← e2.out]; rfl, hfl, e1, hbl.out.trans (hb2.mono hbl.out.size)⟩
end Go.Proofs.Ytkjmliebkbbogaa
