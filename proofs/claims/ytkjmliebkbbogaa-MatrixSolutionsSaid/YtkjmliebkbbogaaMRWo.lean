/- R17 less: what the call does. -/
import Derived.Test.YtkjmliebkbbogaaMReduce
import Derived.Test.YtkjmliebkbbogaaGSub
import Derived.Test.YtkjmliebkbbogaaGDot
import Derived.Test.YtkjmliebkbbogaaMSame
import Derived.Deep.RegionHeld3
namespace Go.Proofs.Ytkjmliebkbbogaa
set_option linter.unusedVariables false
set_option linter.unusedSimpArgs false
open Go.RowKit Plain
attribute [local go_sem ↓] Go.wp_at_zero Go.wp_at_succ

set_option maxRecDepth 100000 in
set_option maxHeartbeats 4000000 in
theorem rless_any {J K L : Nat} {A B : Option Addr} {ca cb : Nat} {us vs : List FrD} {v : Value} {q : Rat} {w : World} (ha : FL w A ca us) (hf : FV w v q) (hb : FL w B cb vs) (hlen : us.length = vs.length) (hfa : QFits J (us.map FrD.q)) (hfq : Fits K q) (hfb : QFits L (vs.map FrD.q)) (hK : J + (K + L) + 1 < 400000000) (hn : us.length < 1000000000) :
    Calls Try.prog 47 #[.slice A us.length ca, v, .slice B vs.length cb] w (RetLs (lessL (us.map FrD.q) q (vs.map FrD.q)) w) := by
  obtain ⟨nf, Af, af, lf, Bf, bf, mf, rfl, naf, nbf, iqf⟩ := id hf
  clear naf nbf iqf
  obtain ⟨w1, hw1, bw1, hlt1, hF1⟩ := boxed w #[.bool nf, .slice Af lf.length af, .slice Bf mf.length bf] 50
  obtain ⟨qs, hqs⟩ : ∃ qs, Hid (lessL (us.map FrD.q) q (vs.map FrD.q) = qs) := ⟨_, rfl⟩
  have hql := Lib.hid (show qs.length = us.length by rw [← hqs.out]; unfold lessL; rw [List.length_zipWith, List.length_map, List.length_map, hlen, Nat.min_self])
  rw [hqs.out]
  have hle : us.length ≤ vs.length := by omega
  have hle2 : vs.length ≤ us.length := by omega
  clear hlen
  have hfa' := Lib.hid hfa
  have hfb' := Lib.hid hfb
  have hqf := Lib.hid hfq
  clear hfa hfb hfq
  have hla := ha.len
  have hlb := hb.len
  have haw := ha.below bw1
  have hbw := hb.below bw1
  have hfw := hf.below bw1
  clear hf
  go_enter Try.func47, Try.ntmps47
  go_wp2
  go_loopw [7, 8] (fun v i wr => LsInv qs w1 v i wr) (fun _ i _ => us.length - (intOf i).toNat)
  case atStart => exact ⟨0, by omega, rfl, LsAt.nil _ _⟩
  case round =>
    obtain ⟨k, hk, rfl, hat⟩ := hrel
    rw [hql.out] at hk
    have hbel := hat.bel
    by_cases hkl : k < us.length
    · have hki : (k : Int) < (us.length : Int) := by omega
      have hki2 : (k : Int) < (vs.length : Int) := by omega
      have hkb : k < 1000000000000 := by omega
      obtain ⟨a, x, rfl, hxb, hx0, hx1, hx2, hx, hxk⟩ := haw.at hkl
      obtain ⟨e, z, rfl, hzb, hz0, hz1, hz2, hz, hzk⟩ := hbw.at (k := k) (by omega)
      have hxf := Lib.hid (hfa'.out.fr x (List.mem_of_getElem? hxk.out))
      have hzf := Lib.hid (hfb'.out.fr z (List.mem_of_getElem? hzk.out))
      have hq : Hid (qs[k]? = some (x.q - q * z.q)) := by
        show _ = _
        rw [← hqs.out]
        unfold lessL
        rw [List.getElem?_zipWith, List.getElem?_map, List.getElem?_map, hxk.out, hzk.out]; rfl
      obtain ⟨qk, hqk⟩ : ∃ q', Hid (x.q - q * z.q = q') := ⟨_, rfl⟩
      rw [hqk.out] at hq
      have hf1 := hfw.below hbel
      replace hx := hx.below hbel
      replace hz := hz.below hbel
      have bT := hat.bel
      have hS : ∀ w', Below w1.heap.size w1 w' → w'.cell? (a.add (k * 3)) = some (.bool x.neg) ∧ w'.cell? ⟨(a.add (k * 3)).block, (a.add (k * 3)).off + 1, none⟩ = some (.slice x.a x.la.length x.ca) ∧ w'.cell? ⟨(a.add (k * 3)).block, (a.add (k * 3)).off + 2, none⟩ = some (.slice x.b x.lb.length x.cb) ∧ w'.cell? (e.add (k * 3)) = some (.bool z.neg) ∧ w'.cell? ⟨(e.add (k * 3)).block, (e.add (k * 3)).off + 1, none⟩ = some (.slice z.a z.la.length z.ca) ∧ w'.cell? ⟨(e.add (k * 3)).block, (e.add (k * 3)).off + 2, none⟩ = some (.slice z.b z.lb.length z.cb) ∧ w'.cell? ⟨w.heap.size, 0, none⟩ = some (.bool nf) ∧ w'.cell? ⟨w.heap.size, 1, none⟩ = some (.slice Af lf.length af) ∧ w'.cell? ⟨w.heap.size, 2, none⟩ = some (.slice Bf mf.length bf) ∧ Below w1.heap.size w1 w' := by
        intro w' o
        have h4 := hF1.keep o
        exact ⟨(o.cell (by show (a.add (k * 3)).block < _; rw [block_add]; exact hxb)).trans hx0, (o.cell (by show (a.add (k * 3)).block < _; rw [block_add]; exact hxb)).trans hx1, (o.cell (by show (a.add (k * 3)).block < _; rw [block_add]; exact hxb)).trans hx2, (o.cell (by show (e.add (k * 3)).block < _; rw [block_add]; exact hzb)).trans hz0, (o.cell (by show (e.add (k * 3)).block < _; rw [block_add]; exact hzb)).trans hz1, (o.cell (by show (e.add (k * 3)).block < _; rw [block_add]; exact hzb)).trans hz2, h4.f0, h4.f1, h4.f2, o⟩
      have bo : Below w1.heap.size w1 wr := hat.bel
      have dS : Below w1.heap.size w1 wr.drew := bo.drew
      go_wp2_with fail
      refine wp_region_noPanic ?_
      refine wp_region_held_drew (S := fun w' => w'.cell? (a.add (k * 3)) = some (.bool x.neg) ∧ w'.cell? ⟨(a.add (k * 3)).block, (a.add (k * 3)).off + 1, none⟩ = some (.slice x.a x.la.length x.ca) ∧ w'.cell? ⟨(a.add (k * 3)).block, (a.add (k * 3)).off + 2, none⟩ = some (.slice x.b x.lb.length x.cb) ∧ w'.cell? (e.add (k * 3)) = some (.bool z.neg) ∧ w'.cell? ⟨(e.add (k * 3)).block, (e.add (k * 3)).off + 1, none⟩ = some (.slice z.a z.la.length z.ca) ∧ w'.cell? ⟨(e.add (k * 3)).block, (e.add (k * 3)).off + 2, none⟩ = some (.slice z.b z.lb.length z.cb) ∧ w'.cell? ⟨w.heap.size, 0, none⟩ = some (.bool nf) ∧ w'.cell? ⟨w.heap.size, 1, none⟩ = some (.slice Af lf.length af) ∧ w'.cell? ⟨w.heap.size, 2, none⟩ = some (.slice Bf mf.length bf) ∧ Below w1.heap.size w1 w') (by kernel_rfl) (hS _ dS) (fun hHeld => ?_)
      refine wpAnyH_take (i := 0) (v := ?_) rfl (by kernel_rfl) (by kernel_rfl) (by kernel_rfl) (fun _ _ _ h => h) (Or.inl ⟨by rfl, ?_⟩) hHeld ?_
      rotate_left
      · (intro w hSw; (try dsimp only at hSw); go_simp)
        all_goals with_reducible rfl
      try simp only [Act.put, List.getElem_toArray, List.getElem_cons_succ, List.getElem_cons_zero, List.setIfInBounds_toArray, List.set_cons_zero, List.set_cons_succ]
      refine wpAnyH_take (i := 1) (v := ?_) rfl (by kernel_rfl) (by kernel_rfl) (by kernel_rfl) (fun _ _ _ h => h) (Or.inl ⟨by rfl, ?_⟩) hHeld ?_
      rotate_left
      · (intro w hSw; (try dsimp only at hSw); go_simp)
        all_goals with_reducible rfl
      try simp only [Act.put, List.getElem_toArray, List.getElem_cons_succ, List.getElem_cons_zero, List.setIfInBounds_toArray, List.set_cons_zero, List.set_cons_succ]
      refine wpAnyH_take (i := 2) (v := ?_) rfl (by kernel_rfl) (by kernel_rfl) (by kernel_rfl) (fun _ _ _ h => h) (Or.inl ⟨by rfl, ?_⟩) hHeld ?_
      rotate_left
      · (intro w hSw; (try dsimp only at hSw); go_simp)
        all_goals with_reducible rfl
      try simp only [Act.put, List.getElem_toArray, List.getElem_cons_succ, List.getElem_cons_zero, List.setIfInBounds_toArray, List.set_cons_zero, List.set_cons_succ]
      refine wpAnyH_take (i := 3) (v := ?_) rfl (by kernel_rfl) (by kernel_rfl) (by kernel_rfl) (fun _ _ _ h => h) (Or.inl ⟨by rfl, ?_⟩) hHeld ?_
      rotate_left
      · (intro w hSw; (try dsimp only at hSw); go_simp)
        all_goals with_reducible rfl
      try simp only [Act.put, List.getElem_toArray, List.getElem_cons_succ, List.getElem_cons_zero, List.setIfInBounds_toArray, List.set_cons_zero, List.set_cons_succ]
      refine wpAnyH_take (i := 4) (v := ?_) rfl (by kernel_rfl) (by kernel_rfl) (by kernel_rfl) (fun _ _ _ h => h) (Or.inl ⟨by rfl, ?_⟩) hHeld ?_
      rotate_left
      · (intro w hSw; (try dsimp only at hSw); go_simp)
        all_goals with_reducible rfl
      try simp only [Act.put, List.getElem_toArray, List.getElem_cons_succ, List.getElem_cons_zero, List.setIfInBounds_toArray, List.set_cons_zero, List.set_cons_succ]
      refine wpAnyH_take (i := 5) (v := ?_) rfl (by kernel_rfl) (by kernel_rfl) (by kernel_rfl) (fun _ _ _ h => h) (Or.inl ⟨by rfl, ?_⟩) hHeld ?_
      rotate_left
      · (intro w hSw; (try dsimp only at hSw); go_simp)
        all_goals with_reducible rfl
      try simp only [Act.put, List.getElem_toArray, List.getElem_cons_succ, List.getElem_cons_zero, List.setIfInBounds_toArray, List.set_cons_zero, List.set_cons_succ]
      refine wpAnyH_take (i := 6) (v := ?_) rfl (by kernel_rfl) (by kernel_rfl) (by kernel_rfl) (fun _ _ _ h => h) (Or.inl ⟨by rfl, ?_⟩) hHeld ?_
      rotate_left
      · (intro w hSw; (try dsimp only at hSw); go_simp)
        all_goals with_reducible rfl
      try simp only [Act.put, List.getElem_toArray, List.getElem_cons_succ, List.getElem_cons_zero, List.setIfInBounds_toArray, List.set_cons_zero, List.set_cons_succ]
      refine wpAnyH_take (i := 7) (v := ?_) rfl (by kernel_rfl) (by kernel_rfl) (by kernel_rfl) (fun _ _ _ h => h) (Or.inl ⟨by rfl, ?_⟩) hHeld ?_
      rotate_left
      · (intro w hSw; (try dsimp only at hSw); go_simp)
        all_goals with_reducible rfl
      try simp only [Act.put, List.getElem_toArray, List.getElem_cons_succ, List.getElem_cons_zero, List.setIfInBounds_toArray, List.set_cons_zero, List.set_cons_succ]
      refine wpAnyH_take (i := 8) (v := ?_) rfl (by kernel_rfl) (by kernel_rfl) (by kernel_rfl) (fun _ _ _ h => h) (Or.inl ⟨by rfl, ?_⟩) hHeld ?_
      rotate_left
      · (intro w hSw; (try dsimp only at hSw); go_simp)
        all_goals with_reducible rfl
      try simp only [Act.put, List.getElem_toArray, List.getElem_cons_succ, List.getElem_cons_zero, List.setIfInBounds_toArray, List.set_cons_zero, List.set_cons_succ]
      refine wpAnyH_take (i := 9) (v := ?_) rfl (by kernel_rfl) (by kernel_rfl) (by kernel_rfl) (fun _ _ _ h => h) (Or.inl ⟨by rfl, ?_⟩) hHeld ?_
      rotate_left
      · (intro w hSw; (try dsimp only at hSw); go_simp)
        all_goals with_reducible rfl
      try simp only [Act.put, List.getElem_toArray, List.getElem_cons_succ, List.getElem_cons_zero, List.setIfInBounds_toArray, List.set_cons_zero, List.set_cons_succ]
      refine wpAnyH_ready (rs := [10]) (by kernel_rfl) (by simp) ?_
      refine AllReadyH.cons rfl (fun K hK => ?_) AllReadyH.nil
      go_simp
      have dw0 : Below wr.heap.size wr wr.drew := (Below.refl _ _).drew
      replace hx := hx.below dw0
      replace hz := hz.below dw0
      replace hf1 := hf1.below dw0
      replace hat := hat.below dw0
      replace bT := bT.trans (dw0.mono bT.size)
      replace bo := bo.trans (dw0.mono bo.size)
      go_at_call 42
      refine (refMulF_any hf1 hz hqf.out hzf.out (by omega)).mono ?_
      rintro e u1 ⟨v1, rfl, fm, bu1⟩
      replace hx := hx.below bu1
      replace hz := hz.below bu1
      replace hf1 := hf1.below bu1
      replace hat := hat.below bu1
      replace bT := bT.trans (bu1.mono bT.size)
      replace bo := bo.trans (bu1.mono bo.size)
      go_wp2_with fail
      refine hK.out _ _ (hS _ bo) (fun hHeld => ?_)
      clear hK K
      try simp only [Act.put, List.getElem_toArray, List.getElem_cons_succ, List.getElem_cons_zero, List.setIfInBounds_toArray, List.set_cons_zero, List.set_cons_succ]
      refine wpAnyH_ready (rs := [11]) (by kernel_rfl) (by simp) ?_
      refine AllReadyH.cons rfl (fun K hK => ?_) AllReadyH.nil
      go_simp
      go_at_call 68
      refine (refSubF_any hx fm hxf.out (hqf.out.mul hzf.out) (by omega)).mono ?_
      rintro e u2 ⟨v2, rfl, ⟨n1, A1, a1, l1, B1, c1, m1, rfl, na, nb, iq⟩, bu2⟩
      replace hx := hx.below bu2
      replace hz := hz.below bu2
      replace hf1 := hf1.below bu2
      replace hat := hat.below bu2
      replace fm := fm.below bu2
      replace bT := bT.trans (bu2.mono bT.size)
      replace bo := bo.trans (bu2.mono bo.size)
      rw [hqk.out] at iq
      clear fm
      go_wp2_with fail
      refine hK.out _ _ (hS _ bo) (fun hHeld => ?_)
      clear hK K
      try simp only [Act.put, List.getElem_toArray, List.getElem_cons_succ, List.getElem_cons_zero, List.setIfInBounds_toArray, List.set_cons_zero, List.set_cons_succ]
      refine wpAnyH_ready (rs := [12]) (by kernel_rfl) (by simp) ?_
      refine AllReadyH.cons rfl (fun K hK => ?_) AllReadyH.nil
      obtain ⟨os, ho, h63, hbs, hnext⟩ := hat.app hkb hq.out na nb iq
      clear na nb iq
      have bT4 := bT
      obtain ⟨u3, hu3, bu3, lu3, Bu3⟩ := boxed u2 #[.bool n1, .slice A1 l1.length a1, .slice B1 m1.length c1] 50
      replace hx := hx.below bu3
      replace hz := hz.below bu3
      replace hf1 := hf1.below bu3
      replace bT := bT.trans (bu3.mono bT.size)
      replace bo := bo.trans (bu3.mono bo.size)
      go_simp
      refine hK.out _ _ (hS _ bo) (fun hHeld => ?_)
      clear hK K
      try simp only [Act.put, List.getElem_toArray, List.getElem_cons_succ, List.getElem_cons_zero, List.setIfInBounds_toArray, List.set_cons_zero, List.set_cons_succ]
      refine wpAnyH_ready (rs := [13]) (by kernel_rfl) (by simp) ?_
      refine AllReadyH.cons rfl (fun K hK => ?_) AllReadyH.nil
      refine step_appQ rfl _ _ rfl rfl w1.heap.size _ os rfl (by rw [← hu3]; exact ho) ⟨u2.heap.size, 0, none⟩ 1 ⟨n1, A1, a1, l1, B1, c1, m1⟩ rfl (World.news_of_block Bu3) h63 (by rw [← hu3]; exact hbs) ?_
      intro v6 w6 ho6 hg6
      rw [← hu3] at hg6
      have hat6 := hnext.out v6 w6 ho6 hg6
      replace bo := hat6.bel
      clear hnext ho hg6 ho6
      refine hK.out _ _ (hS _ bo) (fun hHeld => ?_)
      clear hK K
      try simp only [Act.put, List.getElem_toArray, List.getElem_cons_succ, List.getElem_cons_zero, List.setIfInBounds_toArray, List.set_cons_zero, List.set_cons_succ]
      refine wpAnyH_take (i := 14) (v := ?_) rfl (by kernel_rfl) (by kernel_rfl) (by kernel_rfl) (fun _ _ _ h => h) (Or.inl ⟨by rfl, ?_⟩) hHeld ?_
      rotate_left
      · (intro w hSw; (try dsimp only at hSw); go_simp)
        all_goals with_reducible rfl
      try simp only [Act.put, List.getElem_toArray, List.getElem_cons_succ, List.getElem_cons_zero, List.setIfInBounds_toArray, List.set_cons_zero, List.set_cons_succ]
      refine wpAnyH_done (by kernel_rfl) ?_ _
      refine NoPanic.normal ?_
      try go_simp
      clear hHeld
      clear hS dS bo
      go_wp2
      go_roundw
      case rel => exact ⟨k + 1, by rw [hql.out]; omega, by go_num, hat6⟩
      case measure => simp [intOf]; omega
    · obtain rfl : k = us.length := by omega
      have hlt' : decide ((us.length : Int) < (us.length : Int)) = false := decide_eq_false (by omega)
      obtain ⟨B', cb', es, rfl, hfl, hqe⟩ := hat.done hql.out.symm
      go_wp2
      go_ret
      exact ⟨B', cb', es, rfl, hfl, hqe, bw1.trans (hbel.mono bw1.size)⟩
end Go.Proofs.Ytkjmliebkbbogaa
/- R17 without: what the call does. -/
namespace Go.Proofs.Ytkjmliebkbbogaa
set_option linter.unusedVariables false
set_option linter.unusedSimpArgs false
open Go.RowKit Plain
attribute [local go_sem ↓] Go.wp_at_zero Go.wp_at_succ

set_option maxRecDepth 100000 in
set_option maxHeartbeats 4000000 in
theorem without_any {A : Option Addr} {c : Nat} {rows : List RwD} {w : World} (h : ML w A c rows) (hrn : rows.length < 1000000000) :
    Calls Try.prog 52 #[.slice A rows.length c, .int .i64 0] w (RetM (qsM rows).tail w) := by
  have hl := h.len
  obtain ⟨T, hT⟩ : ∃ T, Hid ((qsM rows).tail = T) := ⟨_, rfl⟩
  have hTl := Lib.hid (show T.length = rows.length - 1 by rw [← hT.out, List.length_tail, qsM_len])
  rw [hT.out]
  go_enter Try.func52, Try.ntmps52
  go_wp2
  go_loopw [5, 6] (fun v i wr => ∃ k : Nat, k ≤ rows.length ∧ i = .int .i64 (k : Int) ∧ MtAt T w (k - 1) v wr) (fun _ i _ => rows.length - (intOf i).toNat)
  case atStart => exact ⟨0, by omega, rfl, MtAt.start _ (Below.refl _ _)⟩
  case round =>
    obtain ⟨k, hk, rfl, hat⟩ := hrel
    have hbel := hat.bel
    by_cases hkl : k < rows.length
    · have hki : (k : Int) < (rows.length : Int) := by omega
      rcases Nat.eq_zero_or_pos k with rfl | hk0
      · go_wp2
        go_roundw
        case rel => exact ⟨1, by omega, by go_num, hat⟩
        case measure => simp [intOf]; omega
      · have hne : ((k : Int) != 0) = true := by simp; omega
        obtain ⟨j, hj⟩ : ∃ j, Hid (k - 1 = j) := ⟨_, rfl⟩
        rw [hj.out] at hat
        have hjk := Lib.hid (show j + 1 = k by have := hj.out; omega)
        obtain ⟨a, r, rfl, hab, hc0, hfl, hrk⟩ := (h.below hbel).at hkl
        have hkb : j < 1000000000000 := by have := hjk.out; omega
        have hq : Hid (T[j]? = some r.qs) := by
          show _ = _
          rw [← hT.out, List.getElem?_tail, hjk.out]; unfold qsM; rw [List.getElem?_map, hrk.out]; rfl
        obtain ⟨os, ho, h63, hbs, hnext⟩ := hat.app (r := r) hkb hq.out hfl
        go_wp2_with (at_builtin; go_loud (refine wpList_appM rfl Try.underlying22 rfl _ _ rfl _ _ os rfl ho ⟨wr.heap.size, 0, none⟩ 1 r rfl (row_cell wr r) h63 hbs ?_; intro v6 w6 ho6 hg6))
        have hat6 := hnext.out v6 w6 ho6 hg6
        clear hnext ho hg6 ho6 hat
        rw [hjk.out] at hat6
        go_wp2
        go_roundw
        case rel => exact ⟨k + 1, by omega, by go_num, hat6⟩
        case measure => simp [intOf]; omega
    · obtain rfl : k = rows.length := by omega
      have hlt' : decide ((rows.length : Int) < (rows.length : Int)) = false := decide_eq_false (by omega)
      obtain ⟨B, cb, es, rfl, hfl, hqe⟩ := hat.done hTl.out.symm
      go_wp2
      go_ret
      exact ⟨B, cb, es, rfl, hfl, hqe, hbel⟩
end Go.Proofs.Ytkjmliebkbbogaa
