/- R17 Rank: what the call does. -/
import Derived.Test.YtkjmliebkbbogaaMRPiv
import Derived.Test.YtkjmliebkbbogaaMRWo
import Derived.Test.YtkjmliebkbbogaaMSys
import Derived.Deep.RegionHeld3
namespace Go.Proofs.Ytkjmliebkbbogaa
set_option linter.unusedVariables false
set_option linter.unusedSimpArgs false
open Go.RowKit Plain
attribute [local go_sem ↓] Go.wp_at_zero Go.wp_at_succ

def rankRS (M : Mat) : Nat := if formedL M = true then rankR M else 0
def slLen : Value → Nat
  | .slice _ n _ => n
  | _ => 0
def colV : Option Nat → Int
  | none => -1
  | some c => (c : Int)
theorem rect_formed {M : Mat} {n : Nat} (h : rect M n) (hl : 0 < M.length) : formedL M = true ∧ colsL M = n := by
  cases M with
  | nil => simp at hl
  | cons r T =>
    have h1 : colsL (r :: T) = n := h r List.mem_cons_self
    refine ⟨?_, h1⟩
    unfold formedL
    rw [List.all_eq_true]
    intro x hx
    rw [h1, h x hx]; simp
theorem rankF_none {M : Mat} (hM : 0 < M.length) (h : lastNz (M.getD 0 []) = none) : rankF M.length M = rankF M.tail.length M.tail := by
  cases M with
  | nil => simp at hM
  | cons r T =>
    have h' : lastNz r = none := h
    show rankF (T.length + 1) (r :: T) = rankF T.length T
    simp only [rankF, h']
theorem rankF_some {M : Mat} {c : Nat} (hM : 0 < M.length) (h : lastNz (M.getD 0 []) = some c) : rankF M.length M = rankF (pivL M 0 c).tail.length (pivL M 0 c).tail + 1 := by
  cases M with
  | nil => simp at hM
  | cons r T =>
    have h' : lastNz r = some c := h
    have e : (pivL (r :: T) 0 c).tail.length = T.length := by rw [List.length_tail, pivL_length]; rfl
    rw [e]
    show rankF (T.length + 1) (r :: T) = _
    simp only [rankF, h']
def RkInv (M : Mat) (K N : Nat) (root : World) (m n : Value) (wr : World) : Prop :=
  ∃ (A : Option Addr) (c : Nat) (rows : List RwD) (cnt : Nat), m = .slice A rows.length c ∧ n = .int .i64 (cnt : Int) ∧ ML wr A c rows ∧ rows.length + cnt ≤ M.length ∧ Hid (rect (qsM rows) N) ∧ Hid (MFits (gK K (M.length - rows.length)) (qsM rows)) ∧ Hid (rankF rows.length (qsM rows) + cnt = rankR M) ∧ Below root.heap.size root wr
def NzInv (q : List Rat) (N : Nat) (root : World) (cv i : Value) (wr : World) : Prop :=
  ∃ (k : Nat) (o : Option Nat), k ≤ N ∧ i = .int .i64 (k : Int) ∧ cv = .int .i64 (colV o) ∧ Hid (o = (List.range k).foldl (fun c k => if q.getD k 0 ≠ 0 then some k else c) none) ∧ Below root.heap.size root wr
set_option maxRecDepth 100000 in
set_option maxHeartbeats 4000000 in
theorem rrank_any {K : Nat} {A : Option Addr} {c : Nat} {rows : List RwD} {w : World} (h : ML w A c rows) (hfm : MFits K (qsM rows)) (hK : 4 * gK K rows.length + 1 < 400000000) (hrn : rows.length < 1000000000) (hN : colsL (qsM rows) < 1000000000) :
    Calls Try.prog 30 #[.slice A rows.length c] w (RetI (rankRS (qsM rows) : Int) w) := by
  obtain ⟨N, hn⟩ : ∃ N, Hid (colsL (qsM rows) = N) := ⟨_, rfl⟩
  obtain ⟨m, hm⟩ : ∃ m, Hid (rankRS (qsM rows) = m) := ⟨_, rfl⟩
  rw [hn.out] at hN
  rw [hm.out]
  have hfm' := Lib.hid hfm
  clear hfm
  have hl := h.len
  go_enter Try.func30, Try.ntmps30
  go_wp2_with fail
  refine (formed17_any h).mono ?_
  rintro e w1 ⟨rfl, b1⟩
  rcases hfo : formedL (qsM rows) with _ | _
  · have hf := Lib.hid (show 0 = m by rw [← hm.out]; unfold rankRS; rw [hfo]; rfl)
    go_wp2
    go_ret
    exact ⟨by rw [← hf.out]; rfl, b1⟩
  have hf := Lib.hid (show rankR (qsM rows) = m by rw [← hm.out]; unfold rankRS; rw [hfo]; rfl)
  have hr := Lib.hid (show rect (qsM rows) N by rw [← hn.out]; exact formedL_rect hfo)
  clear hfo
  obtain ⟨M, hM⟩ : ∃ M, Hid (qsM rows = M) := ⟨_, rfl⟩
  have hMl := Lib.hid (show M.length = rows.length by rw [← hM.out, qsM_len])
  have hMl2 : M.length < 1000000000 := by rw [hMl.out]; exact hrn
  have hKM : 4 * gK K M.length + 1 < 400000000 := by rw [hMl.out]; exact hK
  rw [hM.out] at hf hr hfm'
  go_wp2
  go_loopw [0, 3] (fun mv nv wr => RkInv M K N w mv nv wr) (fun mv _ _ => slLen mv)
  case atStart => exact ⟨A, c, rows, 0, rfl, rfl, h.below b1, by rw [hMl.out]; omega, by rw [hM.out]; exact hr, by rw [hM.out, hMl.out, Nat.sub_self]; exact hfm', by rw [hM.out]; show _ = _; unfold rankR; rw [hMl.out]; rfl, b1⟩
  case round =>
    obtain ⟨A, c, rs, cnt, rfl, rfl, hml, hle, hrr, hff, hrk, hbel⟩ := hrel
    have hlm := hml.len
    by_cases hpos : 0 < rs.length
    · have hgt : (0 : Int) < (rs.length : Int) := by omega
      obtain ⟨a, r, rfl, hab, hc0, hfr, hrk0⟩ := hml.at hpos
      have hca : ∀ w', Below wr.heap.size wr w' → w'.cell? a = some (.slice r.a r.ds.length r.c) := fun w' o => by
        rw [o.cell (p := a) hab]
        have := hc0
        rwa [show a.add 0 = a by cases a; simp [Addr.add]] at this
      have hca' := Lib.hid hca
      clear hca
      have hlr := hfr.len
      have hrl : r.ds.length = N := by
        have := hrr.out r.qs (List.mem_map.2 ⟨r, List.mem_of_getElem? hrk0.out, rfl⟩)
        rw [RwD.qs_len] at this; exact this
      have hrl' := Lib.hid hrl
      have hNle : N ≤ r.ds.length := by omega
      have hq0 := Lib.hid (show (qsM rs).getD 0 [] = r.qs by
        unfold qsM
        rw [List.getD_eq_getElem?_getD, List.getElem?_map, hrk0.out]; rfl)
      have hcol := Lib.hid (show colsL (qsM rs) = N from (rect_formed hrr.out (by rw [qsM_len]; exact hpos)).2)
      have hform := Lib.hid (show formedL (qsM rs) = true from (rect_formed hrr.out (by rw [qsM_len]; exact hpos)).1)
      clear hrl hc0
      obtain ⟨wo, hwo⟩ : ∃ wo : World, wo = wr := ⟨_, rfl⟩
      subst hwo
      have hcnt : cnt + 1 < 9223372036854775807 := by omega
      go_wp2
      go_loopw [4, 5] (fun cv i wr => NzInv r.qs N wo cv i wr) (fun _ i _ => N - (intOf i).toNat)
      case atStart => exact ⟨0, none, by omega, rfl, rfl, rfl, Below.refl _ _⟩
      case round =>
        obtain ⟨k, o, hk, rfl, rfl, ho, b2⟩ := hrel
        go_wp2_with fail
        refine (cols17_any (hml.below b2)).mono ?_
        rintro e w3 ⟨rfl, rfl⟩
        rw [hcol.out]
        by_cases hkl : k < N
        · have hki : (k : Int) < (N : Int) := by omega
          have hki2 : (k : Int) < (r.ds.length : Int) := by omega
          obtain ⟨b, d, eb, hbb, hd0, hd1, hd2, hfd, hdk⟩ := (hfr.below b2).at (k := k) (by omega)
          have hcr := hca'.out _ b2
          have hcr2 : w3.cell? (a.add 0) = some (.slice r.a r.ds.length r.c) := (hml.below b2).cellAt hrk0.out
          rw [eb] at hcr hcr2
          have hdq := Lib.hid (show r.qs.getD k 0 = d.q by
            show (r.ds.map FrD.q).getD k 0 = _
            rw [List.getD_eq_getElem?_getD, List.getElem?_map, hdk.out]; rfl)
          clear eb
          go_wp2_with fail
          refine (refSign_any hfd).mono ?_
          rintro e w4 ⟨rfl, b4⟩
          have b24 := b2.trans (b4.mono b2.size)
          by_cases hz : d.q = 0
          · have hs : Hid (cmpR d.q 0 = 0) := cmpR_zero.2 hz
            have ho' := Lib.hid (show o = (List.range (k + 1)).foldl (fun c k => if r.qs.getD k 0 ≠ 0 then some k else c) none by
              rw [List.range_succ, List.foldl_append, ← ho.out]
              show o = if r.qs.getD k 0 ≠ 0 then some k else o
              rw [if_neg (by rw [hdq.out]; exact fun h => h hz)])
            rw [hs.out]
            clear hz
            go_wp2
            go_roundw
            case rel => exact ⟨k + 1, o, by omega, by go_num, rfl, ho', b24⟩
            case measure => simp [intOf]; omega
          · obtain ⟨s, hs⟩ : ∃ s, Hid (cmpR d.q 0 = s) := ⟨_, rfl⟩
            have hs0 : (s != 0) = true := by rw [bne_iff_ne]; intro e; exact hz (cmpR_zero.1 (by rw [hs.out]; exact e))
            have ho' := Lib.hid (show some k = (List.range (k + 1)).foldl (fun c k => if r.qs.getD k 0 ≠ 0 then some k else c) none by
              rw [List.range_succ, List.foldl_append, ← ho.out]
              show some k = if r.qs.getD k 0 ≠ 0 then some k else o
              rw [if_pos (by rw [hdq.out]; exact hz)])
            rw [hs.out]
            clear hz
            go_wp2
            go_roundw
            case rel => exact ⟨k + 1, some k, by omega, by go_num, rfl, ho', b24⟩
            case measure => simp [intOf]; omega
        · obtain rfl : k = N := by omega
          have hlt' : decide ((k : Int) < (k : Int)) = false := decide_eq_false (by omega)
          have hlast := Lib.hid (show lastNz ((qsM rs).getD 0 []) = o by
            rw [hq0.out, ho.out]
            unfold lastNz
            rw [RwD.qs_len, hrl'.out])
          have b03 := hbel.trans (b2.mono hbel.size)
          have hqp : 0 < (qsM rs).length := by rw [qsM_len]; exact hpos
          cases o with
          | none =>
            have hneg : decide ((0 : Int) ≤ -1) = false := rfl
            have hrk' := Lib.hid (rankF_none hqp hlast.out)
            go_wp2_with fail
            refine (without_any (hml.below b2) (by omega)).mono ?_
            rintro e w4 ⟨B, cb, es, rfl, hes, hqe, b4⟩
            have hel := Lib.hid (show es.length = rs.length - 1 by rw [← qsM_len, hqe.out, List.length_tail, qsM_len])
            go_wp2
            go_roundw
            case rel => exact ⟨B, cb, es, cnt, rfl, rfl, hes, by have := hel.out; omega, by rw [hqe.out]; exact fun r hr => hrr.out r (List.mem_of_mem_tail hr), by rw [hqe.out]; exact fun r hr => (hff.out r (List.mem_of_mem_tail hr)).mono (gK_mono K (by have := hel.out; omega)), by
              show _ = _
              rw [← hrk.out, ← qsM_len rs, hrk'.out, ← qsM_len es, hqe.out], b03.trans (b4.mono b03.size)⟩
            case measure => simp only [slLen]; have := hel.out; omega
          | some cc =>
            have hnn : decide ((0 : Int) ≤ (cc : Int)) = true := decide_eq_true (by omega)
            have hlz := lastNz_some hlast.out
            rw [hq0.out] at hlz
            have hcn : cc < k := by have := hlz.1; rw [RwD.qs_len, hrl'.out] at this; exact this
            have hfn := Lib.hid (show fn (qsM rs) 0 cc ≠ 0 by unfold fn; rw [hq0.out]; exact hlz.2)
            clear hlz
            have hrk' := Lib.hid (rankF_some hqp hlast.out)
            have hps := Lib.hid (pivS_ok (p := 0) (j := cc) hform.out hqp (by rw [hcol.out]; exact hcn) hfn.out)
            have hgk := gK_mono K (show M.length - rs.length ≤ M.length by omega)
            have hpf := Lib.hid (pivL_fits (p := 0) (c := cc) hff.out hrr.out hqp hcn)
            have hpr := Lib.hid (pivL_rect (p := 0) (c := cc) hrr.out hqp)
            have hpv := rpivot_any (x := ((0 : Nat) : Int)) (y := (cc : Int)) (hml.below b2) hff.out (by omega) (by omega) (by rw [hcol.out]; exact hN) (by decide) (by omega)
            rw [hps.out] at hpv
            go_wp2_with fail
            refine hpv.mono ?_
            rintro e w4 ⟨B, cb, es, rfl, hes, hqe, b4⟩
            have hqe' : Hid (qsM es = pivL (qsM rs) 0 cc) := hqe
            clear hpv hqe
            have hel := Lib.hid (show es.length = rs.length by rw [← qsM_len, hqe'.out, pivL_length, qsM_len])
            have b04 := b03.trans (b4.mono b03.size)
            have hlme := hes.len
            go_wp2_with fail
            refine (without_any hes (by rw [hel.out]; omega)).mono ?_
            rintro e w5 ⟨B2, cb2, fs, rfl, hfs, hqf, b5⟩
            have hfl := Lib.hid (show fs.length = rs.length - 1 by rw [← qsM_len, hqf.out, List.length_tail, qsM_len, hel.out])
            have hgs := Lib.hid (show gK K (M.length - fs.length) = 4 * gK K (M.length - rs.length) + 1 by
              rw [← gK_succ]; congr 1; have := hfl.out; omega)
            go_wp2
            go_roundw
            case rel => exact ⟨B2, cb2, fs, cnt + 1, rfl, by go_num, hfs, by have := hfl.out; omega, by rw [hqf.out, hqe'.out]; exact fun r hr => hpr.out r (List.mem_of_mem_tail hr), by rw [hqf.out, hqe'.out, hgs.out]; exact fun r hr => hpf.out r (List.mem_of_mem_tail hr), by
              show _ = _
              rw [← hrk.out, ← qsM_len rs, hrk'.out, ← qsM_len fs, hqf.out, hqe'.out]; omega, b04.trans (b5.mono b04.size)⟩
            case measure => simp only [slLen]; have := hfl.out; omega
    · have hz0 : rs.length = 0 := by omega
      have hz := Lib.hid (show cnt = m by
        rw [← hf.out, ← hrk.out, hz0]; simp [rankF])
      have hgt : decide ((0 : Int) < (rs.length : Int)) = false := decide_eq_false (by omega)
      have hgt2 : decide (0 < rs.length) = false := decide_eq_false (by omega)
      clear hz0
      go_wp2
      go_ret
      exact ⟨by rw [← hz.out]; rfl, hbel⟩
end Go.Proofs.Ytkjmliebkbbogaa
