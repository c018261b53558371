/- R17 first: what the call does. -/
import Derived.Test.YtkjmliebkbbogaaMAppQ
import Derived.Test.YtkjmliebkbbogaaMSys
import Derived.Deep.RegionHeld3
import Derived.Test.YtkjmliebkbbogaaMRRank
namespace Go.Proofs.Ytkjmliebkbbogaa
set_option linter.unusedVariables false
set_option linter.unusedSimpArgs false
open Go.RowKit Plain
attribute [local go_sem ↓] Go.wp_at_zero Go.wp_at_succ

set_option maxRecDepth 100000 in
set_option maxHeartbeats 4000000 in
theorem first_any {N n : Nat} {A : Option Addr} {c : Nat} {rows : List RwD} {w : World} (h : ML w A c rows) (hr : rect (qsM rows) N) (hn : n ≤ N) (hrn : rows.length < 1000000000) (hN : N < 1000000000) :
    Calls Try.prog 51 #[.slice A rows.length c, .int .i64 (n : Int)] w (RetM (firstL (qsM rows) n) w) := by
  have hl := h.len
  obtain ⟨T, hT⟩ : ∃ T, Hid (firstL (qsM rows) n = T) := ⟨_, rfl⟩
  have hTl := Lib.hid (show T.length = rows.length by rw [← hT.out]; unfold firstL; rw [List.length_map, qsM_len])
  rw [hT.out]
  have hnr := Lib.hid (show ∀ r ∈ rows, r.ds.length = N from fun r hr' => by
    have := hr r.qs (List.mem_map.2 ⟨r, hr', rfl⟩)
    rw [RwD.qs_len] at this; exact this)
  clear hr
  go_enter Try.func51, Try.ntmps51
  go_wp2
  go_loopw [5, 6] (fun v i wr => MtInv T w v i wr) (fun _ i _ => rows.length - (intOf i).toNat)
  case atStart => exact ⟨0, by omega, rfl, MtAt.start _ (Below.refl _ _)⟩
  case round =>
    obtain ⟨k, hk, rfl, hat⟩ := hrel
    rw [hTl.out] at hk
    have hbel := hat.bel
    by_cases hkl : k < rows.length
    · have hki : (k : Int) < (rows.length : Int) := by omega
      have hkb : k < 1000000000000 := by omega
      obtain ⟨yE, hyE, byE, lyE, ByE⟩ := boxed wr #[] 50
      obtain ⟨a, r, rfl, hab, hc0, hfr, hrk⟩ := (h.below (hbel.trans (byE.mono hbel.size))).at hkl
      have hrl := hnr.out r (List.mem_of_getElem? hrk.out)
      have hlr := hfr.len
      have hnr1 : n ≤ r.ds.length := by omega
      have hnrc : n ≤ r.c := by omega
      have hni : (n : Int) ≤ (r.c : Int) := by omega
      have hE : OwnQ yE wr.heap.size (.slice (some ⟨wr.heap.size, 0, none⟩) 0 0) [] := by rw [← hyE]; exact OwnQ.empty wr (Nat.le_refl _)
      have hq0 : T[k]? = some ((r.ds.take n).map FrD.q) := by
        rw [← hT.out]
        unfold firstL qsM
        rw [List.map_map, List.getElem?_map, hrk.out]
        show some (r.qs.take n) = _
        unfold RwD.qs
        rw [List.map_take]
      have hqk := Lib.hid hq0
      clear hq0
      obtain ⟨rA, hrA⟩ : ∃ x, r.a = x := ⟨_, rfl⟩
      rw [hrA] at hfr hc0
      clear hrA
      cases rA with
      | none =>
        have hr0 : r.ds.length = 0 := by
          rcases Nat.eq_zero_or_pos r.ds.length with h0 | h0
          · exact h0
          · obtain ⟨a, e, _⟩ := hfr.row.2.2 0 h0
            cases e
        obtain rfl : n = 0 := by omega
        have hq : Hid (T[k]? = some (RwD.qs ⟨some ⟨wr.heap.size, 0, none⟩, 0, []⟩)) := by
          show _ = _
          rw [hqk.out]; rfl
        have hfl : FL yE (some ⟨wr.heap.size, 0, none⟩) 0 [] := ⟨⟨by simp, by omega, fun j hj => by simp at hj⟩, fun d hd => by simp at hd⟩
        clear hr0
        obtain ⟨os, ho, h63, hbs, hnext⟩ := (hat.below byE).app (r := ⟨some ⟨wr.heap.size, 0, none⟩, 0, []⟩) hkb hq.out hfl
        go_wp2_with (at_builtin; first
          | (refine wpList_appQ0 rfl rfl _ _ rfl wr.heap.size _ rfl rfl ?_)
          | (refine wpList_appM rfl Try.underlying22 rfl _ _ rfl _ _ os rfl ho ⟨yE.heap.size, 0, none⟩ 1 ⟨some ⟨wr.heap.size, 0, none⟩, 0, []⟩ rfl (row_cell yE ⟨some ⟨wr.heap.size, 0, none⟩, 0, []⟩) h63 hbs ?_; intro v6 w6 ho6 hg6; have hat6 := hnext.out v6 w6 ho6 hg6; clear hnext ho hg6 ho6 hat))
        go_roundw
        case rel => exact ⟨k + 1, by rw [hTl.out]; omega, by go_num, hat6⟩
        case measure => simp [intOf]; omega
      | some ra =>
        obtain ⟨ds6, hds6⟩ : ∃ x, Hid (r.ds.take n = x) := ⟨_, rfl⟩
        have hft := hfr.take n
        rw [hds6.out] at hft hqk
        have hl6 := Lib.hid (show ds6.length = n by rw [← hds6.out, List.length_take]; omega)
        go_wp2_with (at_builtin; first
          | (refine wpList_appQs rfl rfl _ _ rfl wr.heap.size (.slice (some ⟨wr.heap.size, 0, none⟩) 0 0) [] rfl hE ra n _ ds6 hl6.out rfl (fun j u hj => hfr.flat j u (flat_take (by rw [hds6.out]; exact hj))) (by simp; omega) byE.size ?_; intro v5 w5 ho5 hg5; have b5 : Below wr.heap.size yE w5 := ⟨hg5.os, hg5.tape, hg5.output, hg5.size, fun g hg => hg5.block g (Nat.lt_of_lt_of_le hg byE.size) (fun e => by simp [Value.ownBlock] at e; omega)⟩; obtain ⟨A5, c5, e5, hf5⟩ := OwnQ.fl (ds := ds6) ho5 (fun d hd => (hft.fv d hd).row hE hg5); subst e5; have hq := Lib.hid hqk.out; obtain ⟨os, ho, h63, hbs, hnext⟩ := (hat.below (byE.trans b5)).app (r := ⟨A5, c5, ds6⟩) hkb hq.out hf5; clear hg5 ho5)
          | (refine wpList_appM rfl Try.underlying22 rfl _ _ rfl _ _ os rfl ho ⟨w5.heap.size, 0, none⟩ 1 ⟨A5, c5, ds6⟩ rfl (row_cell w5 ⟨A5, c5, ds6⟩) h63 hbs ?_; intro v6 w6 ho6 hg6; have hat6 := hnext.out v6 w6 ho6 hg6; clear hnext ho hg6 ho6 hat))
        go_roundw
        case rel => exact ⟨k + 1, by rw [hTl.out]; omega, by go_num, hat6⟩
        case measure => simp [intOf]; omega
    · obtain rfl : k = rows.length := by omega
      have hlt' : decide ((rows.length : Int) < (rows.length : Int)) = false := decide_eq_false (by omega)
      obtain ⟨B, cb, es, rfl, hfl, hqe⟩ := hat.done hTl.out.symm
      go_wp2
      go_ret
      exact ⟨B, cb, es, rfl, hfl, hqe, hbel⟩
end Go.Proofs.Ytkjmliebkbbogaa
/- R17 IsPivot: what the call does. -/
namespace Go.Proofs.Ytkjmliebkbbogaa
set_option linter.unusedVariables false
set_option linter.unusedSimpArgs false
open Go.RowKit Plain
attribute [local go_sem ↓] Go.wp_at_zero Go.wp_at_succ

theorem firstL_fits {K n : Nat} {M : Mat} (h : MFits K M) : MFits K (firstL M n) := fun r hr q hq => by
  obtain ⟨x, hx, rfl⟩ := List.mem_map.1 hr
  exact h x hx q (List.mem_of_mem_take hq)
theorem rect_rankRS {M : Mat} {n : Nat} (h : rect M n) : rankRS M = rankR M := by
  unfold rankRS
  rcases Nat.eq_zero_or_pos M.length with h0 | h0
  · have : M = [] := List.eq_nil_of_length_eq_zero h0
    subst this; rfl
  · rw [(rect_formed h h0).1]; rfl
theorem rect_cols {M : Mat} {n : Nat} (h : rect M n) : colsL M ≤ n := by
  cases M with
  | nil => exact Nat.zero_le _
  | cons r T => exact Nat.le_of_eq (h r List.mem_cons_self)
set_option maxRecDepth 100000 in
set_option maxHeartbeats 4000000 in
theorem isPivot_any {K N k : Nat} {A : Option Addr} {c : Nat} {rows : List RwD} {w : World} (h : ML w A c rows) (hr : rect (qsM rows) N) (hk : k < N) (hfm : MFits K (qsM rows)) (hK : 4 * gK K rows.length + 1 < 400000000) (hrn : rows.length < 1000000000) (hN : N < 1000000000) :
    Calls Try.prog 27 #[.slice A rows.length c, .int .i64 (k : Int)] w (RetB (isPivL (qsM rows) k) w) := by
  have hl := h.len
  obtain ⟨v, hv⟩ : ∃ v, Hid (isPivL (qsM rows) k = v) := ⟨_, rfl⟩
  rw [hv.out]
  have hr' := Lib.hid hr
  have hfm' := Lib.hid hfm
  clear hr hfm
  have hf1 := first_any (n := k + 1) h hr'.out (by omega) hrn hN
  have e1 : (((k + 1 : Nat) : Int)) = (k : Int) + 1 := by omega
  rw [e1] at hf1
  clear e1
  go_enter Try.func27, Try.ntmps27
  go_wp2_with fail
  refine hf1.mono ?_
  rintro e w1 ⟨A1, c1, r1, rfl, h1, q1, b1⟩
  clear hf1
  have l1 := Lib.hid (show r1.length = rows.length by rw [← qsM_len, q1.out]; unfold firstL; rw [List.length_map, qsM_len])
  have t1 := Lib.hid (show rect (qsM r1) (k + 1) by rw [q1.out]; exact firstL_rect hr'.out (by omega))
  have hlr1 := h1.len
  have hc1 := rrank_any h1 (by rw [q1.out]; exact firstL_fits hfm'.out) (by rw [l1.out]; exact hK) (by rw [l1.out]; exact hrn) (by have := rect_cols t1.out; omega)
  obtain ⟨x, hx⟩ : ∃ x, Hid (rankRS (qsM r1) = x) := ⟨_, rfl⟩
  rw [hx.out] at hc1
  go_wp2_with fail
  refine hc1.mono ?_
  rintro e w2 ⟨rfl, b2⟩
  clear hc1
  have b02 := b1.trans (b2.mono b1.size)
  go_wp2_with fail
  refine (first_any (n := k) (h.below b02) hr'.out (by omega) hrn hN).mono ?_
  rintro e w3 ⟨A3, c3, r3, rfl, h3, q3, b3⟩
  have b03 := b02.trans (b3.mono b02.size)
  have l3 := Lib.hid (show r3.length = rows.length by rw [← qsM_len, q3.out]; unfold firstL; rw [List.length_map, qsM_len])
  have t3 := Lib.hid (show rect (qsM r3) k by rw [q3.out]; exact firstL_rect hr'.out (by omega))
  have hlr3 := h3.len
  have hc3 := rrank_any h3 (by rw [q3.out]; exact firstL_fits hfm'.out) (by rw [l3.out]; exact hK) (by rw [l3.out]; exact hrn) (by have := rect_cols t3.out; omega)
  obtain ⟨y, hy⟩ : ∃ y, Hid (rankRS (qsM r3) = y) := ⟨_, rfl⟩
  rw [hy.out] at hc3
  have hvv := Lib.hid (show decide ((y : Int) < (x : Int)) = v by
    rw [← hv.out, ← hx.out, ← hy.out, rect_rankRS t1.out, rect_rankRS t3.out, q1.out, q3.out]
    unfold isPivL
    exact decide_eq_decide.2 (by omega))
  go_wp2_with fail
  refine hc3.mono ?_
  rintro e w4 ⟨rfl, b4⟩
  clear hc3
  have hvw := hvv.out
  have hvw2 : decide (y < x) = v := by rw [← hvw]; exact decide_eq_decide.2 (by omega)
  go_wp2
  go_ret
  exact ⟨by first | rw [hvw] | rw [hvw2] | rfl, b03.trans (b4.mono b03.size)⟩
end Go.Proofs.Ytkjmliebkbbogaa
