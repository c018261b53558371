/- R17 with: what the call does. -/
import Derived.Test.YtkjmliebkbbogaaMAppQ
import Derived.Test.YtkjmliebkbbogaaMSolv
import Derived.Deep.RegionHeld3
import Derived.Test.YtkjmliebkbbogaaMRIsP
namespace Go.Proofs.Ytkjmliebkbbogaa
set_option linter.unusedVariables false
set_option linter.unusedSimpArgs false
open Go.RowKit Plain
attribute [local go_sem ↓] Go.wp_at_zero Go.wp_at_succ

theorem OwnQ.alloc {w : World} {base : Nat} {v : Value} {ds : List FrD} (h : OwnQ w base v ds) (o : Obj) : OwnQ (w.alloc o) base v ds := h.below ((Below.refl w.heap.size w).alloc (Nat.le_refl _) o)
set_option maxRecDepth 100000 in
set_option maxHeartbeats 4000000 in
theorem with_any {N : Nat} {A X : Option Addr} {c cx : Nat} {rows : List RwD} {bs : List FrD} {w : World} (h : ML w A c rows) (hx : FL w X cx bs) (hr : rect (qsM rows) N) (hle : rows.length = bs.length) (hrn : rows.length < 1000000000) (hN : N < 1000000000) :
    Calls Try.prog 50 #[.slice A rows.length c, .slice X bs.length cx] w (RetM (withL (qsM rows) (bs.map FrD.q)) w) := by
  have hl := h.len
  have hlx := hx.len
  obtain ⟨T, hT⟩ : ∃ T, Hid (withL (qsM rows) (bs.map FrD.q) = T) := ⟨_, rfl⟩
  have hTl := Lib.hid (show T.length = rows.length by rw [← hT.out, withL_length (by rw [List.length_map, qsM_len, hle]), qsM_len])
  rw [hT.out]
  have hnr := Lib.hid (show ∀ r ∈ rows, r.ds.length = N from fun r hr' => by
    have := hr r.qs (List.mem_map.2 ⟨r, hr', rfl⟩)
    rw [RwD.qs_len] at this; exact this)
  have hbl : bs.length ≤ rows.length := by omega
  have hbl2 : rows.length ≤ bs.length := by omega
  clear hr hle
  go_enter Try.func50, Try.ntmps50
  go_wp2
  go_loopw [5, 6] (fun v i wr => MtInv T w v i wr) (fun _ i _ => rows.length - (intOf i).toNat)
  case atStart => exact ⟨0, by omega, rfl, MtAt.start _ (Below.refl _ _)⟩
  case round =>
    obtain ⟨k, hk, rfl, hat⟩ := hrel
    rw [hTl.out] at hk
    have hbel := hat.bel
    by_cases hkl : k < rows.length
    · have hki : (k : Int) < (rows.length : Int) := by omega
      have hkbs : k < bs.length := by omega
      have hkbi : (k : Int) < (bs.length : Int) := by omega
      have hkb : k < 1000000000000 := by omega
      obtain ⟨yE, hyE, byE, lyE, ByE⟩ := boxed wr #[] 50
      have bwE := hbel.trans (byE.mono hbel.size)
      obtain ⟨a, r, rfl, hab, hc0, hfr, hrk⟩ := (h.below bwE).at hkl
      obtain ⟨e, d, rfl, heb, he0, he1, he2, hd, hdk⟩ := hx.at hkbs
      have hrl := hnr.out r (List.mem_of_getElem? hrk.out)
      have hlr := hfr.len
      have hE : OwnQ yE wr.heap.size (.slice (some ⟨wr.heap.size, 0, none⟩) 0 0) [] := by rw [← hyE]; exact OwnQ.empty wr (Nat.le_refl _)
      have hq0 : T[k]? = some (r.ds.map FrD.q ++ [d.q]) := by
        rw [← hT.out]
        unfold withL qsM
        rw [List.getElem?_zipWith, List.getElem?_map, List.getElem?_map, hrk.out, hdk.out]; rfl
      have hqk := Lib.hid hq0
      clear hq0
      obtain ⟨rA, hrA⟩ : ∃ x, r.a = x := ⟨_, rfl⟩
      rw [hrA] at hfr hc0
      clear hrA
      obtain ⟨ds6, hds6⟩ : ∃ x, Hid (r.ds = x) := ⟨_, rfl⟩
      cases rA with
      | none =>
        have h0 : r.ds.length = 0 := by
          rcases Nat.eq_zero_or_pos r.ds.length with h0 | h0
          · exact h0
          · obtain ⟨a, e, _⟩ := hfr.row.2.2 0 h0
            cases e
        have hr0 := Lib.hid (show r.ds = [] from List.eq_nil_of_length_eq_zero h0)
        rw [h0] at hc0
        clear h0 hrl hlr
        go_wp2_with (at_builtin; first
          | (refine wpList_appQ0 rfl rfl _ _ rfl wr.heap.size _ rfl rfl ?_; have bw5 := bwE.trans ((Below.refl wr.heap.size yE).mono hbel.size); have q0 := (bw5.cell (by show (e.add (k * 3)).block < _; rw [block_add]; exact heb)).trans he0; have q1 := (bw5.cell (by show (e.add (k * 3)).block < _; rw [block_add]; exact heb)).trans he1; have q2 := (bw5.cell (by show (e.add (k * 3)).block < _; rw [block_add]; exact heb)).trans he2; have hd5 := hd.below bw5; have hfv5 : AllFV yE ([] : List FrD) := fun x hx => (by simp at hx); have ho5a : OwnQ (yE.alloc (.cells #[.bool d.neg, .slice d.a d.la.length d.ca, .slice d.b d.lb.length d.cb] 50)) wr.heap.size (.slice (some ⟨wr.heap.size, 0, none⟩) 0 0) ([] : List FrD) := OwnQ.alloc hE _; have hs4 : wr.heap.size ≤ yE.heap.size := Nat.le_trans byE.size (Below.refl wr.heap.size yE).size; have hs5 : wr.heap.size ≤ (yE.alloc (.cells #[.bool d.neg, .slice d.a d.la.length d.ca, .slice d.b d.lb.length d.cb] 50)).heap.size := Nat.le_trans hs4 (by simp))
          | (refine wpList_appQ rfl rfl _ _ rfl wr.heap.size (.slice (some ⟨wr.heap.size, 0, none⟩) 0 0) ([] : List FrD) rfl ho5a ⟨yE.heap.size, 0, none⟩ 1 d rfl (World.news_of_block (heap_alloc_new yE _)) (by (try simp only [List.length_nil]); omega) hs5 ?_; intro v7 w7 ho7 hg7; have b7 : Below wr.heap.size yE w7 := ((Below.refl wr.heap.size yE).alloc hs4 _).grown hg7 hs5 (fun g hg => OwnQ.block hE hg); obtain ⟨A7, c7, e7, hf7⟩ := OwnQ.fl ho7 (allFV_snoc hfv5 hd5 ho5a hg7); obtain ⟨ds7, hds7⟩ : ∃ x, Hid (([] : List FrD) ++ [d] = x) := ⟨_, rfl⟩; rw [hds7.out] at e7 hf7; subst e7; have hq := Lib.hid (hqk.out.trans (show some _ = some (RwD.qs ⟨A7, c7, ds7⟩) from congrArg some (show _ = ds7.map FrD.q by rw [← hds7.out, List.map_append]; rw [hr0.out]; rfl))); obtain ⟨os, ho, h63, hbs, hnext⟩ := (hat.below (byE.trans b7)).app (r := ⟨A7, c7, ds7⟩) hkb hq.out hf7; clear hg7 ho7 hd5 hfv5 ho5a)
          | (refine wpList_appM rfl Try.underlying22 rfl _ _ rfl _ _ os rfl ho ⟨w7.heap.size, 0, none⟩ 1 ⟨A7, c7, ds7⟩ rfl (row_cell w7 ⟨A7, c7, ds7⟩) h63 hbs ?_; intro v6 w6 ho6 hg6; have hat6 := hnext.out v6 w6 ho6 hg6; clear hnext ho hg6 ho6 hat))
        go_roundw
        case rel => exact ⟨k + 1, by rw [hTl.out]; omega, by go_num, hat6⟩
        case measure => simp [intOf]; omega
      | some ra =>
        have hl6 : ds6.length < 1000000000 := by rw [← hds6.out, hrl]; exact hN
        rw [hds6.out] at hc0 hlr
        clear hrl
        go_wp2_with (at_builtin; first
          | (refine wpList_appQs rfl rfl _ _ rfl wr.heap.size (.slice (some ⟨wr.heap.size, 0, none⟩) 0 0) [] rfl hE ra ds6.length r.c ds6 rfl rfl (fun j u hj => hfr.flat j u (by rw [hds6.out]; exact hj)) (by simp only [List.length_nil]; omega) byE.size ?_; intro v5 w5 ho5 hg5; rw [List.nil_append] at ho5; have b5 : Below wr.heap.size yE w5 := ⟨hg5.os, hg5.tape, hg5.output, hg5.size, fun g hg => hg5.block g (Nat.lt_of_lt_of_le hg byE.size) (fun e => by simp [Value.ownBlock] at e; omega)⟩; have bw5 := bwE.trans (b5.mono hbel.size); have q0 := (bw5.cell (by show (e.add (k * 3)).block < _; rw [block_add]; exact heb)).trans he0; have q1 := (bw5.cell (by show (e.add (k * 3)).block < _; rw [block_add]; exact heb)).trans he1; have q2 := (bw5.cell (by show (e.add (k * 3)).block < _; rw [block_add]; exact heb)).trans he2; have hd5 := hd.below bw5; have hfv5 : AllFV w5 ds6 := fun x hx => (hfr.fv x (by rw [hds6.out]; exact hx)).row hE hg5; have ho5a : OwnQ (w5.alloc (.cells #[.bool d.neg, .slice d.a d.la.length d.ca, .slice d.b d.lb.length d.cb] 50)) wr.heap.size v5 ds6 := OwnQ.alloc ho5 _; have hs4 : wr.heap.size ≤ w5.heap.size := Nat.le_trans byE.size b5.size; have hs5 : wr.heap.size ≤ (w5.alloc (.cells #[.bool d.neg, .slice d.a d.la.length d.ca, .slice d.b d.lb.length d.cb] 50)).heap.size := Nat.le_trans hs4 (by simp))
          | (refine wpList_appQ rfl rfl _ _ rfl wr.heap.size v5 ds6 rfl ho5a ⟨w5.heap.size, 0, none⟩ 1 d rfl (World.news_of_block (heap_alloc_new w5 _)) (by (try simp only [List.length_nil]); omega) hs5 ?_; intro v7 w7 ho7 hg7; have b7 : Below wr.heap.size yE w7 := (b5.alloc hs4 _).grown hg7 hs5 (fun g hg => OwnQ.block ho5 hg); obtain ⟨A7, c7, e7, hf7⟩ := OwnQ.fl ho7 (allFV_snoc hfv5 hd5 ho5a hg7); obtain ⟨ds7, hds7⟩ : ∃ x, Hid (ds6 ++ [d] = x) := ⟨_, rfl⟩; rw [hds7.out] at e7 hf7; subst e7; have hq := Lib.hid (hqk.out.trans (show some _ = some (RwD.qs ⟨A7, c7, ds7⟩) from congrArg some (show _ = ds7.map FrD.q by rw [← hds7.out, List.map_append]; rw [← hds6.out]; rfl))); obtain ⟨os, ho, h63, hbs, hnext⟩ := (hat.below (byE.trans b7)).app (r := ⟨A7, c7, ds7⟩) hkb hq.out hf7; clear hg7 ho7 hd5 hfv5 ho5a)
          | (refine wpList_appM rfl Try.underlying22 rfl _ _ rfl _ _ os rfl ho ⟨w7.heap.size, 0, none⟩ 1 ⟨A7, c7, ds7⟩ rfl (row_cell w7 ⟨A7, c7, ds7⟩) h63 hbs ?_; intro v6 w6 ho6 hg6; have hat6 := hnext.out v6 w6 ho6 hg6; clear hnext ho hg6 ho6 hat))
        go_roundw
        case rel => exact ⟨k + 1, by rw [hTl.out]; omega, by go_num, hat6⟩
        case measure => simp [intOf]; omega
    · obtain rfl : k = rows.length := by omega
      have hlt' : decide ((rows.length : Int) < (rows.length : Int)) = false := decide_eq_false (by omega)
      obtain ⟨B, cb, es, rfl, hfl, hqe⟩ := hat.done hTl.out.symm
      go_wp2
      go_ret
      exact ⟨B, cb, es, rfl, hfl, hqe, hbel⟩
end Go.Proofs.Ytkjmliebkbbogaa
/- R17 Solvable: what the call does. -/
namespace Go.Proofs.Ytkjmliebkbbogaa
set_option linter.unusedVariables false
set_option linter.unusedSimpArgs false
open Go.RowKit Plain
attribute [local go_sem ↓] Go.wp_at_zero Go.wp_at_succ

set_option maxRecDepth 100000 in
set_option maxHeartbeats 4000000 in
theorem solvable_any {K N : Nat} {A X : Option Addr} {c cx : Nat} {rows : List RwD} {bs : List FrD} {w : World} (h : ML w A c rows) (hx : FL w X cx bs) (hr : rect (qsM rows) N) (hle : rows.length = bs.length) (hfm : MFits K (qsM rows)) (hfx : QFits K (bs.map FrD.q)) (hK : 4 * gK K rows.length + 1 < 400000000) (hrn : rows.length < 1000000000) (hN : N < 100000000) :
    Calls Try.prog 25 #[.slice A rows.length c, .slice X bs.length cx] w (RetB (decide (rankR (withL (qsM rows) (bs.map FrD.q)) = rankR (qsM rows))) w) := by
  have hl := h.len
  have hlx := hx.len
  obtain ⟨v, hv⟩ : ∃ v, Hid (decide (rankR (withL (qsM rows) (bs.map FrD.q)) = rankR (qsM rows)) = v) := ⟨_, rfl⟩
  rw [hv.out]
  have hr' := Lib.hid hr
  have hfm' := Lib.hid hfm
  have hfx' := Lib.hid hfx
  have hle' := Lib.hid hle
  clear hr hfm hfx hle
  go_enter Try.func25, Try.ntmps25
  go_wp2_with fail
  refine (with_any h hx hr'.out hle'.out hrn (by omega)).mono ?_
  rintro e w1 ⟨A1, c1, r1, rfl, h1, q1, b1⟩
  have l1 := Lib.hid (show r1.length = rows.length by rw [← qsM_len, q1.out, withL_length (by rw [List.length_map, qsM_len, hle'.out]), qsM_len])
  have t1 := Lib.hid (show rect (qsM r1) (N + 1) by rw [q1.out]; exact withL_rect hr'.out)
  have hlr1 := h1.len
  have hc1 := rrank_any h1 (by rw [q1.out]; exact withL_fits hfm'.out hfx'.out) (by rw [l1.out]; exact hK) (by rw [l1.out]; exact hrn) (by have := rect_cols t1.out; omega)
  obtain ⟨x, hx⟩ : ∃ x, Hid (rankRS (qsM r1) = x) := ⟨_, rfl⟩
  rw [hx.out] at hc1
  go_wp2_with fail
  refine hc1.mono ?_
  rintro e w2 ⟨rfl, b2⟩
  clear hc1
  have b02 := b1.trans (b2.mono b1.size)
  have hc3 := rrank_any (h.below b02) hfm'.out hK hrn (by have := rect_cols hr'.out; omega)
  obtain ⟨y, hy⟩ : ∃ y, Hid (rankRS (qsM rows) = y) := ⟨_, rfl⟩
  rw [hy.out] at hc3
  have hvv := Lib.hid (show ((x : Int) == (y : Int)) = v by
    rw [← hv.out, ← hx.out, ← hy.out, rect_rankRS t1.out, rect_rankRS hr'.out, q1.out]
    by_cases e : rankR (withL (qsM rows) (bs.map FrD.q)) = rankR (qsM rows)
    · rw [e]; simp
    · rw [decide_eq_false e, beq_eq_false_iff_ne]; omega)
  go_wp2_with fail
  refine hc3.mono ?_
  rintro e w4 ⟨rfl, b4⟩
  clear hc3
  have hvw := hvv.out
  go_wp2
  go_ret
  exact ⟨by first | rw [hvw] | rfl, b02.trans (b4.mono b02.size)⟩
end Go.Proofs.Ytkjmliebkbbogaa
