/- R17 Transposed: what the call does. -/
import Derived.Test.YtkjmliebkbbogaaMInts
import Derived.Deep.RegionHeld3
namespace Go.Proofs.Ytkjmliebkbbogaa
set_option linter.unusedVariables false
set_option linter.unusedSimpArgs false
open Go.RowKit Plain
attribute [local go_sem ↓] Go.wp_at_zero Go.wp_at_succ

set_option maxRecDepth 100000 in
set_option maxHeartbeats 4000000 in
theorem rtrans_any {A : Option Addr} {c : Nat} {rows : List RwD} {w : World} (h : ML w A c rows) (hrn : rows.length < 1000000000) (hcn : colsL (qsM rows) < 1000000000) :
    Calls Try.prog 19 #[.slice A rows.length c] w (RetM (transS (qsM rows)) w) := by
  have hl := h.len
  obtain ⟨T, hT⟩ : ∃ T, Hid (transS (qsM rows) = T) := ⟨_, rfl⟩
  obtain ⟨n, hn⟩ : ∃ n, Hid (colsL (qsM rows) = n) := ⟨_, rfl⟩
  have hcn' : n < 1000000000 := by rw [← hn.out]; exact hcn
  clear hcn
  rw [hT.out]
  go_enter Try.func19, Try.ntmps19
  go_wp2_with fail
  refine (formed17_any h).mono ?_
  rintro e w1 ⟨rfl, b1⟩
  rcases hfo : formedL (qsM rows) with _ | _
  · have hf : Hid (T = []) := by show T = []; rw [← hT.out]; unfold transS; rw [hfo]; rfl
    go_wp2
    go_ret
    exact ⟨none, 0, [], rfl, ML.nil _, hf.out.symm, b1⟩
  have hf : Hid (transL (qsM rows) = T) := by show _ = T; rw [← hT.out]; unfold transS; rw [hfo]; rfl
  have hTl := Lib.hid (show T.length = n by rw [← hf.out, transL_length, hn.out])
  have hrl := Lib.hid (show ∀ r ∈ rows, r.ds.length = n from fun r hr => by
    have := formedL_rect hfo
    rw [hn.out] at this
    have := this r.qs (List.mem_map.2 ⟨r, hr, rfl⟩)
    rw [RwD.qs_len] at this; exact this)
  clear hfo
  go_wp2
  go_loopw [3, 4] (fun v i wr => MtInv T w v i wr) (fun _ i _ => n - (intOf i).toNat)
  case atStart => exact ⟨0, by omega, rfl, MtAt.start _ b1⟩
  case round =>
    obtain ⟨k, hk, rfl, hat⟩ := hrel
    rw [hTl.out] at hk
    have hbel := hat.bel
    go_wp2_with fail
    refine (cols17_any (h.below hbel)).mono ?_
    rintro e w2 ⟨rfl, rfl⟩
    rw [hn.out]
    by_cases hkl : k < n
    · have hki : (k : Int) < (n : Int) := by omega
      have hkb : k < 1000000000000 := by omega
      obtain ⟨qs, hqs⟩ : ∃ qs, Hid (((qsM rows).map fun r => r.getD k 0) = qs) := ⟨_, rfl⟩
      have hql := Lib.hid (show qs.length = rows.length by rw [← hqs.out]; simp [qsM])
      have hqT : Hid (T[k]? = some qs) := by
        show _ = _
        rw [← hf.out, ← hqs.out]
        unfold transL
        rw [List.getElem?_map, List.getElem?_range (by rw [hn.out]; exact hkl)]
        rfl
      obtain ⟨wo, hwo⟩ : ∃ wo : World, wo = w2 := ⟨_, rfl⟩
      subst hwo
      have hmt := Lib.hid hat
      clear hat
      go_wp2
      go_loopw [5, 6] (fun v i wr => LsInv qs wo v i wr) (fun _ i _ => rows.length - (intOf i).toNat)
      case atStart => exact ⟨0, by omega, rfl, LsAt.nil _ _⟩
      case round =>
        obtain ⟨j, hj, rfl, hat⟩ := hrel
        rw [hql.out] at hj
        have bj := hat.bel
        by_cases hjl : j < rows.length
        · have hji : (j : Int) < (rows.length : Int) := by omega
          have hjb : j < 1000000000000 := by omega
          obtain ⟨a, r, rfl, hab, hc0, hfr, hrk⟩ := (h.below (hbel.trans (bj.mono hbel.size))).at hjl
          have hlr := hfr.len
          have hkr : k < r.ds.length := by rw [hrl.out r (List.mem_of_getElem? hrk.out)]; exact hkl
          obtain ⟨b, d, eb, hbb, hd0, hd1, hd2, hfd, hdk⟩ := hfr.at hkr
          have hq : Hid (qs[j]? = some d.q) := by
            show _ = _
            rw [← hqs.out]; unfold qsM; rw [List.map_map, List.getElem?_map, hrk.out]
            show some ((r.ds.map FrD.q).getD k 0) = _
            rw [List.getD_eq_getElem?_getD, List.getElem?_map, hdk.out]; rfl
          rw [eb] at hc0
          clear hfr eb
          have hkri : (k : Int) < (r.ds.length : Int) := by omega
          obtain ⟨n1, A1, a1, l1, B1, c1, m1, ev, na, nb, iq⟩ := hfd
          unfold FrD.v fracV at ev
          injection ev with ev
          have e1 : d.neg = n1 := by injection ev with ev; injection ev with ev _; injection ev
          have ev2 : (.slice d.a d.la.length d.ca : Value) = .slice A1 l1.length a1 := by injection ev with ev; injection ev with _ ev; injection ev
          have ev3 : (.slice d.b d.lb.length d.cb : Value) = .slice B1 m1.length c1 := by injection ev with ev; injection ev with _ ev; injection ev with _ ev; injection ev
          rw [e1] at hd0
          rw [ev2] at hd1
          rw [ev3] at hd2
          clear ev e1 ev2 ev3
          obtain ⟨os, ho, h63, hbs, hnext⟩ := hat.app hjb hq.out na nb iq
          clear na nb iq
          go_wp2_with (at_builtin; refine wpList_appQ rfl rfl _ _ rfl _ _ os rfl ho ⟨wr.heap.size, 0, none⟩ 1 ⟨n1, A1, a1, l1, B1, c1, m1⟩ rfl (World.news_of_block (heap_alloc_new wr _)) h63 hbs ?_; intro v6 w6 ho6 hg6)
          have hat6 := hnext.out v6 w6 ho6 hg6
          clear hnext ho hg6 ho6 hat
          go_wp2
          go_roundw
          case rel => exact ⟨j + 1, by rw [hql.out]; omega, by go_num, hat6⟩
          case measure => simp [intOf]; omega
        · obtain rfl : j = rows.length := by omega
          have hlt' : decide ((rows.length : Int) < (rows.length : Int)) = false := decide_eq_false (by omega)
          obtain ⟨B, cb, es, rfl, hfl, hqe⟩ := hat.done hql.out.symm
          have hq : Hid (T[k]? = some (RwD.qs ⟨B, cb, es⟩)) := by
            show _ = some (es.map FrD.q)
            rw [hqT.out, hqe.out]
          clear hat hqT
          have hat := hmt.out.below bj
          clear hmt
          obtain ⟨os, ho, h63, hbs, hnext⟩ := hat.app (r := ⟨B, cb, es⟩) hkb hq.out hfl
          go_wp2_with (at_builtin; go_loud (refine wpList_appM rfl Try.underlying22 rfl _ _ rfl _ _ os rfl ho ⟨wr.heap.size, 0, none⟩ 1 ⟨B, cb, es⟩ rfl (row_cell wr ⟨B, cb, es⟩) h63 hbs ?_; intro v6 w6 ho6 hg6))
          have hat6 := hnext.out v6 w6 ho6 hg6
          clear hnext ho hg6 ho6 hat
          go_wp2
          go_roundw
          case rel => exact ⟨k + 1, by rw [hTl.out]; omega, by go_num, hat6⟩
          case measure => simp [intOf]; omega
    · obtain rfl : k = n := by omega
      have hlt' : decide ((k : Int) < (k : Int)) = false := decide_eq_false (by omega)
      obtain ⟨B, cb, es, rfl, hfl, hqe⟩ := hat.done hTl.out.symm
      go_wp2
      go_ret
      exact ⟨B, cb, es, rfl, hfl, hqe, hbel⟩
end Go.Proofs.Ytkjmliebkbbogaa
