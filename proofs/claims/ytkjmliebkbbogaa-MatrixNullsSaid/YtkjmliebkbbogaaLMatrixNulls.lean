/- The statement MatrixNulls of the given program: the law returns true for every input, and writes nothing that was there. The walk is proved over the contracts of the functions it calls. -/
import Derived.Test.YtkjmliebkbbogaaRows
import Derived.Test.YtkjmliebkbbogaaMOpen
import Derived.Test.YtkjmliebkbbogaaMRIsP
import Derived.Test.YtkjmliebkbbogaaMRTimes
import Derived.Test.YtkjmliebkbbogaaMSolv
import Derived.Test.YtkjmliebkbbogaaMAwake
import Derived.WalkKit
import Derived.ProofKit
import Derived.OpenShut
import Derived.ShutString
import Derived.ChangeOld
import Derived.Below
namespace Go.Proofs.Ytkjmliebkbbogaa.matrixNulls
open Go.ChangeShapes Go.WideShapes Go.ChangeAt Go.RowKit
open Plain
open Go.ChangeMaps (open_string shut_string)
set_option linter.unusedVariables false
set_option linter.unusedSimpArgs false

theorem own : ownKnob Try.prog.godebug = none := by kernel_rfl
theorem laidOut : laidOutB Try.prog = true := by kernel_rfl

def wantI (f k : Nat) : Int := if f < k then 0 else 1
theorem wantI_bounds (f k : Nat) : -9223372036854775808 ≤ wantI f k ∧ wantI f k ≤ 9223372036854775807 := by unfold wantI; split <;> decide
theorem wantI_succ (f k : Nat) : wantI f (k + 1) = if k = f then 0 else wantI f k := by
  unfold wantI
  by_cases h : k = f
  · rw [if_pos h, if_pos (by omega)]
  · rw [if_neg h]
    by_cases h2 : f < k
    · rw [if_pos h2, if_pos (by omega)]
    · rw [if_neg h2, if_neg (by omega)]
theorem wantI_pos {f k : Nat} : 0 = wantI f k ↔ f < k := by
  unfold wantI
  by_cases h : f < k
  · rw [if_pos h]; exact ⟨fun _ => h, fun _ => rfl⟩
  · rw [if_neg h]; exact ⟨fun e => (by cases e), fun e => absurd e h⟩
theorem null_fits {K : Nat} {M : Mat} {z : List Rat} (hK0 : 1 < K) (h : formedL M = true) (hf : MFits K M) (hz : nullL M = some z) : QFits (gK K (colsL M)) z := by
  unfold nullL at hz
  simp only at hz
  split at hz
  · cases hz
  · rename_i hne
    injection hz with hz
    subst hz
    have hr := formedL_rect h
    have h1 := reduceL_ok hr (colsL M) (Nat.le_refl _)
    have h2 := reduceL_fits hf hr (colsL M) (Nat.le_refl _)
    have hle := freeL_le (reduceL M (colsL M)).2
    have hlen : (reduceL M (colsL M)).2.length ≤ colsL M := (rankL_le h).2
    intro q hq
    obtain ⟨k, hk, rfl⟩ := List.mem_map.1 hq
    rw [List.mem_range] at hk
    have hlo := gK_le K (colsL M)
    unfold freeCol
    by_cases e : ∃ p ∈ (reduceL M (colsL M)).2.zipIdx, p.1 = k
    · obtain ⟨p, hp, rfl⟩ := e
      rw [xval_mem h1.red.col hp]
      by_cases e2 : p.1 = freeL (reduceL M (colsL M)).2
      · exfalso
        have hs : (reduceL M (colsL M)).2.Pairwise (· < ·) := by
          have := h1.red.col
          have e : (reduceL M (colsL M)).2 = (reduceL M (colsL M)).2.zipIdx.map Prod.fst := by simp
          rw [e, List.pairwise_map]
          exact this
        obtain ⟨a, i⟩ := p
        have := List.mem_zipIdx hp
        simp at this e2
        exact freeL_not hs (by rw [← e2, this.2]; exact List.getElem_mem _)
      · rw [dl_ne e2, Rat.sub_eq_add_neg, Rat.zero_add]
        exact (h2.fn h1.rct (by rw [h1.len]; exact (h1.red.lt p hp).2) (by omega)).neg
    · rw [xval_none fun p hp e2 => e ⟨p, hp, e2⟩, Rat.sub_eq_add_neg, Rat.neg_zero, Rat.add_zero]
      unfold dl
      split
      · exact (fits_int (n := 1) (by decide) (by decide)).mono (by omega)
      · exact Fits.zero (by omega)
theorem colsL_le {rows : List RwD} {n : Nat} (h : ∀ r ∈ rows, r.ds.length ≤ n) : colsL (qsM rows) ≤ n := by
  cases rows with
  | nil => exact Nat.zero_le _
  | cons r rs => show r.qs.length ≤ n; rw [RwD.qs_len]; exact h r List.mem_cons_self
theorem gK_small {n : Nat} (h : n ≤ 7) : 4 * gK 3 n + 1 < 400000000 := by
  have h1 := gK_mono 3 h
  have h2 : gK 3 7 < 90000000 := by decide
  omega
theorem listB_len {ds : List FrD} (h : listB ds = true) : ds.length ≤ 6 ∧ smL ds = true := by
  unfold listB at h
  simpa using h
set_option maxRecDepth 100000 in
set_option maxHeartbeats 2000000 in
theorem walk (A0 : Option Addr) (c0 : Nat) (rs0 : List RwD) (w : World) (w0 : MOk w A0 c0 rs0) :
    Calls Try.prog 8 #[.slice A0 rs0.length c0] w fun e w' => e = .returned (.bool true) ∧ Below w.heap.size w w' := by
  have bT := Below.refl w.heap.size w
  have hm := w0
  clear w0
  have hlm := hm.row.1
  have hlm2 := hm.row.2.1
  go_enter Try.func8, Try.ntmps8
  go_wp2_with fail
  refine (few17_any hm).mono ?_
  rintro e y1 ⟨rfl, by1⟩
  replace hm := hm.below by1
  replace bT := bT.trans (by1.mono bT.size)
  rcases hfew : fewM rs0 with _ | _
  · clear hfew
    go_wp2_with fail
    refine (awake17_any _).mono ?_
    rintro e wz ⟨rfl, bz⟩
    go_wp2
    go_ret
    exact ⟨rfl, bT.trans (bz.mono bT.size)⟩
  obtain ⟨hM, hfm, hr6, hr7⟩ := fewM_ml hm hfew
  obtain ⟨n, hn⟩ : ∃ n, Hid (colsL (qsM rs0) = n) := ⟨_, rfl⟩
  have hcl := Lib.hid (show n ≤ 6 by rw [← hn.out]; exact colsL_le hr7)
  have hn6 := hcl.out
  have hfm' := Lib.hid hfm
  clear hfew hm hr7 hfm
  obtain ⟨T, hT⟩ : ∃ T, Hid (nullS (qsM rs0) = T) := ⟨_, rfl⟩
  have hc1 := null_any hM hfm'.out (by rw [hn.out]; exact gK_small (by omega)) (by omega) (by rw [hn.out]; omega)
  rw [hT.out] at hc1
  go_wp2_with fail
  refine (hc1).mono ?_
  rintro e y2 ⟨A3, c3, d3, rfl, h3, q3, by2⟩
  replace hM := hM.below by2
  replace bT := bT.trans (by2.mono bT.size)
  clear hc1
  have hl3 := h3.len
  go_wp2_with fail
  refine (formed17_any hM).mono ?_
  rintro e y3 ⟨rfl, by3⟩
  replace hM := hM.below by3
  replace h3 := h3.below by3
  replace bT := bT.trans (by3.mono bT.size)
  rcases hfo : formedL (qsM rs0) with _ | _
  · obtain rfl : d3 = [] := List.eq_nil_of_length_eq_zero (by rw [← List.length_map (f := FrD.q), q3.out, ← hT.out]; unfold nullS; rw [hfo]; rfl)
    clear hfo
    go_wp2_with fail
    refine (awake17_any _).mono ?_
    rintro e wz ⟨rfl, bz⟩
    go_wp2
    go_ret
    exact ⟨rfl, bT.trans (bz.mono bT.size)⟩
  have hfo' := Lib.hid hfo
  clear hfo
  obtain ⟨v, hv⟩ : ∃ v, Hid (rankRS (qsM rs0) = v) := ⟨_, rfl⟩
  have hvR := Lib.hid (show rankR (qsM rs0) = v by rw [← hv.out]; unfold rankRS; rw [hfo'.out]; rfl)
  have hc2 := rrank_any hM hfm'.out (gK_small (by omega)) (by omega) (by rw [hn.out]; omega)
  rw [hv.out] at hc2
  have hno := Lib.hid (null_ok hfo'.out)
  go_wp2_with fail
  refine (hc2).mono ?_
  rintro e y4 ⟨rfl, by4⟩
  replace hM := hM.below by4
  replace h3 := h3.below by4
  replace bT := bT.trans (by4.mono bT.size)
  clear hc2
  go_wp2_with fail
  refine (cols17_any hM).mono ?_
  rintro e yc ⟨rfl, rfl⟩
  rw [hn.out]
  by_cases hvn : v = n
  · have hvb : ((v : Int) == (n : Int)) = true := by rw [beq_iff_eq]; omega
    obtain rfl : d3 = [] := List.eq_nil_of_length_eq_zero (by
      rw [← List.length_map (f := FrD.q), q3.out, ← hT.out]; unfold nullS
      rw [hfo'.out, if_pos rfl, hno.out.1.2 (by rw [hvR.out, hn.out, hvn])]; rfl)
    clear hvn
    go_wp2_with fail
    refine (awake17_any _).mono ?_
    rintro e wz ⟨rfl, bz⟩
    go_wp2
    go_ret
    exact ⟨rfl, bT.trans (bz.mono bT.size)⟩
  have hvb : ((v : Int) == (n : Int)) = false := by rw [beq_eq_false_iff_ne]; omega
  obtain ⟨x, hx0⟩ : ∃ x, nullL (qsM rs0) = some x := by
    cases hx : nullL (qsM rs0) with
    | none => exact absurd (hno.out.1.1 hx) (by rw [hvR.out, hn.out]; exact hvn)
    | some x => exact ⟨x, rfl⟩
  obtain ⟨x1, x2, f, x3, x4, x5, x6, x7⟩ := hno.out.2 x hx0
  have hx := Lib.hid hx0
  have hTx := Lib.hid (show T = x by rw [← hT.out]; unfold nullS; rw [hfo'.out, if_pos rfl, hx0]; rfl)
  have q3' := Lib.hid (show d3.map FrD.q = x by rw [q3.out, hTx.out])
  have g3 := Lib.hid (show d3.length = n by rw [← List.length_map (f := FrD.q), q3'.out, x1, hn.out])
  rw [hn.out] at x3 x7
  have hx2 := Lib.hid (show timesS (qsM rs0) (d3.map FrD.q) = (qsM rs0).map fun _ => 0 by unfold timesS; rw [hfo'.out, List.length_map, g3.out, hn.out, q3'.out, x2]; simp)
  have hx4 := Lib.hid x4
  have hx5 := Lib.hid x5
  have hx6 := Lib.hid x6
  have hx7 := Lib.hid x7
  have hfn := x3
  clear hvn hx0 x1 x2 x4 x5 x6 x7 x3 hno
  have gz : ((d3.length : Int) == 0) = false := by rw [beq_eq_false_iff_ne]; have := g3.out; omega
  have gn : ((d3.length : Int) != (n : Int)) = false := by rw [bne_eq_false_iff_eq]; have := g3.out; omega
  go_wp2_with fail
  refine (cols17_any hM).mono ?_
  rintro e yc ⟨rfl, rfl⟩
  rw [hn.out]
  have hgb : gK 3 n ≤ 20000 := Nat.le_trans (gK_mono 3 hcl.out) (by decide)
  have hxf := Lib.hid (show QFits (gK 3 n) (d3.map FrD.q) by rw [q3'.out, ← hn.out]; exact null_fits (by decide) hfo'.out hfm'.out hx.out)
  have hc3 := rtimes_any (K := gK 3 n) hM h3 (hfm'.out.mono (gK_le 3 n)) hxf.out (by
    have h1 : (d3.length + 1) * (gK 3 n + gK 3 n + 1) ≤ 7 * 40001 := Nat.mul_le_mul (by have := g3.out; omega) (by omega)
    omega) (by omega)
  rw [hx2.out] at hc3
  have hrect := Lib.hid (show rect (qsM rs0) n by rw [← hn.out]; exact formedL_rect hfo'.out)
  go_wp2_with fail
  refine (hc3).mono ?_
  rintro e y5 ⟨A4, c4, d4, rfl, h4, q4, by5⟩
  replace hM := hM.below by5
  replace h3 := h3.below by5
  replace bT := bT.trans (by5.mono bT.size)
  clear hc3
  have hl4 := h4.len
  go_wp2
  go_loopw [39] (fun i wr => ∃ k : Nat, k ≤ d4.length ∧ i = .int .i64 (k : Int) ∧ Below y5.heap.size y5 wr) (fun i _ => d4.length - (intOf i).toNat)
  case atStart => exact ⟨0, by omega, rfl, Below.refl _ _⟩
  case round =>
    obtain ⟨k, hk, rfl, bk⟩ := hrel
    by_cases hkl : k < d4.length
    · have hki : (k : Int) < (d4.length : Int) := by omega
      obtain ⟨e, d, eb, heb, he0, he1, he2, hd, hdk⟩ := (h4.below bk).at hkl
      have hdq := Lib.hid (show d.q = 0 by
        have e1 : (d4.map FrD.q)[k]? = some d.q := by rw [List.getElem?_map, hdk.out]; rfl
        rw [q4.out, List.getElem?_map] at e1
        cases h9 : (qsM rs0)[k]? with
        | none => rw [h9] at e1; simp at e1
        | some r => rw [h9] at e1; injection e1 with e1; exact e1.symm)
      rw [eb]
      obtain ⟨x3, hx3, bx3, lx3, Bx3⟩ := boxed wr #[.bool false, .slice none 0 0, .slice none 0 0] 50
      have p0 := Bx3.f0
      have p1 := Bx3.f1
      have p2 := Bx3.f2
      have r0 := Bx3.free 0
      have r1 := Bx3.free 1
      have r2 := Bx3.free 2
      obtain ⟨x4, hx4, Bx4, ox4⟩ := Bx3.set3 (.bool d.neg) (.slice d.a d.la.length d.ca) (.slice d.b d.lb.length d.cb)
      have bx4 := ox4.to_below bx3 (Nat.le_refl _) bx3.size
      have bk4 := bk.trans (bx4.mono bk.size)
      have hd4 := hd.below bx4
      have g0 := Bx4.f0
      have g1 := Bx4.f1
      have g2 := Bx4.f2
      have hs : Hid (cmpR d.q 0 = 0) := cmpR_zero.2 hdq.out
      have hcs := refSign_any hd4
      rw [hs.out] at hcs
      go_wp2_with fail
      refine hcs.mono ?_
      rintro e x5 ⟨rfl, b5⟩
      clear hcs
      go_wp2
      go_roundw
      case rel => exact ⟨k + 1, by omega, by go_num, bk4.trans (b5.mono bk4.size)⟩
      case measure => simp [intOf]; omega
    · obtain rfl : k = d4.length := by omega
      have hlt' : decide ((d4.length : Int) < (d4.length : Int)) = false := decide_eq_false (by omega)
      replace bT := bT.trans (bk.mono bT.size)
      replace hM := hM.below bk
      replace h3 := h3.below bk
      clear h4
      obtain ⟨wo, hwo⟩ : ∃ wo : World, wo = wr := ⟨_, rfl⟩
      subst hwo
      have w00 : Hid (wantI f 0 = 1) := by show _ = _; unfold wantI; rw [if_neg (by omega)]
      go_wp2
      go_loopw [6, 49] (fun x i wr => ∃ k : Nat, k ≤ d3.length ∧ i = .int .i64 (k : Int) ∧ x = .int .i64 (wantI f k) ∧ Below wo.heap.size wo wr) (fun _ i _ => d3.length - (intOf i).toNat)
      case atStart => exact ⟨0, by omega, rfl, by rw [w00.out], Below.refl _ _⟩
      case round =>
        obtain ⟨k, hk, rfl, rfl, bk2⟩ := hrel
        by_cases hkl : k < d3.length
        · have hki : (k : Int) < (d3.length : Int) := by omega
          have hkn : k < n := by have := g3.out; omega
          have hkb : (k : Int) < 1000000000 := by omega
          obtain ⟨p, hp⟩ : ∃ p, Hid (isPivL (qsM rs0) k = p) := ⟨_, rfl⟩
          have hcp := isPivot_any (K := 3) (hM.below bk2) hrect.out hkn hfm'.out (gK_small (by omega)) (by omega) (by omega)
          rw [hp.out] at hcp
          obtain ⟨z, hz⟩ : ∃ z, Hid (wantI f k = z) := ⟨_, rfl⟩
          have hzb := wantI_bounds f k
          have hzs := Lib.hid (wantI_succ f k)
          rw [hz.out] at hzb
          rw [hz.out]
          go_wp2_with fail
          refine hcp.mono ?_
          rintro e x5 ⟨rfl, b5⟩
          clear hcp
          have b25 := bk2.trans (b5.mono bk2.size)
          cases p with
          | true =>
            have hz2 := Lib.hid (show z = wantI f (k + 1) by
              rw [hzs.out, if_neg (fun e => by subst e; have := hx4.out; rw [hp.out] at this; cases this), hz.out])
            go_wp2
            go_roundw
            case rel => exact ⟨k + 1, by omega, by go_num, by rw [hz2.out], b25⟩
            case measure => simp [intOf]; omega
          | false =>
            have hz2 := Lib.hid (show 0 = wantI f (k + 1) by
              rw [wantI_pos]
              rcases Nat.lt_or_ge k f with h9 | h9
              · have := hx6.out k h9; rw [hp.out] at this; cases this
              · omega)
            obtain ⟨e, d, rfl, heb, he0, he1, he2, hd, hdk⟩ := (h3.below b25).at hkl
            have hdq := Lib.hid (show decide (d.q = (z : Rat)) = true by
              refine decide_eq_true ?_
              have e1 : x.getD k 0 = d.q := by rw [← q3'.out, List.getD_eq_getElem?_getD, List.getElem?_map, hdk.out]; rfl
              rw [← e1, ← hz.out]
              unfold wantI
              rcases Nat.lt_trichotomy k f with h9 | h9 | h9
              · have := hx6.out k h9; rw [hp.out] at this; cases this
              · subst h9; rw [if_neg (by omega), hx5.out]; rfl
              · rw [if_pos h9, hx7.out k hkn (by omega) hp.out]; rfl)

            have bT0 := b25
            have bT := Below.refl x5.heap.size x5
            have hS : ∀ w', Below x5.heap.size x5 w' → w'.cell? (e.add (k * 3)) = some (.bool d.neg) ∧ w'.cell? ⟨(e.add (k * 3)).block, (e.add (k * 3)).off + 1, none⟩ = some (.slice d.a d.la.length d.ca) ∧ w'.cell? ⟨(e.add (k * 3)).block, (e.add (k * 3)).off + 2, none⟩ = some (.slice d.b d.lb.length d.cb) ∧ Below x5.heap.size x5 w' := by
              intro w' o
              exact ⟨(o.cell (by show (e.add (k * 3)).block < _; rw [block_add]; exact heb)).trans he0, (o.cell (by show (e.add (k * 3)).block < _; rw [block_add]; exact heb)).trans he1, (o.cell (by show (e.add (k * 3)).block < _; rw [block_add]; exact heb)).trans he2, o⟩
            have bo : Below x5.heap.size x5 x5 := Below.refl _ _
            have dS : Below x5.heap.size x5 x5.drew := bo.drew
            go_wp2_with fail
            refine wp_region_noPanic ?_
            refine wp_region_held_drew (S := fun w' => w'.cell? (e.add (k * 3)) = some (.bool d.neg) ∧ w'.cell? ⟨(e.add (k * 3)).block, (e.add (k * 3)).off + 1, none⟩ = some (.slice d.a d.la.length d.ca) ∧ w'.cell? ⟨(e.add (k * 3)).block, (e.add (k * 3)).off + 2, none⟩ = some (.slice d.b d.lb.length d.cb) ∧ Below x5.heap.size x5 w') (by kernel_rfl) (hS _ dS) (fun hHeld => ?_)
            refine wpAnyH_take (i := 0) (v := ?_) rfl (by kernel_rfl) (by kernel_rfl) (by kernel_rfl) (fun _ _ _ h => h) (Or.inl ⟨by rfl, ?_⟩) hHeld ?_
            rotate_left
            · (intro w hSw; (try dsimp only at hSw); go_simp)
              all_goals with_reducible rfl
            try simp only [Act.put, List.getElem_toArray, List.getElem_cons_succ, List.getElem_cons_zero, List.setIfInBounds_toArray, List.set_cons_zero, List.set_cons_succ]
            refine wpAnyH_take (i := 1) (v := ?_) rfl (by kernel_rfl) (by kernel_rfl) (by kernel_rfl) (fun _ _ _ h => h) (Or.inl ⟨by rfl, ?_⟩) hHeld ?_
            rotate_left
            · (intro w hSw; (try dsimp only at hSw); go_simp)
              all_goals with_reducible rfl
            try simp only [Act.put, List.getElem_toArray, List.getElem_cons_succ, List.getElem_cons_zero, List.setIfInBounds_toArray, List.set_cons_zero, List.set_cons_succ]
            refine wpAnyH_take (i := 2) (v := ?_) rfl (by kernel_rfl) (by kernel_rfl) (by kernel_rfl) (fun _ _ _ h => h) (Or.inl ⟨by rfl, ?_⟩) hHeld ?_
            rotate_left
            · (intro w hSw; (try dsimp only at hSw); go_simp)
              all_goals with_reducible rfl
            try simp only [Act.put, List.getElem_toArray, List.getElem_cons_succ, List.getElem_cons_zero, List.setIfInBounds_toArray, List.set_cons_zero, List.set_cons_succ]
            refine wpAnyH_take (i := 3) (v := ?_) rfl (by kernel_rfl) (by kernel_rfl) (by kernel_rfl) (fun _ _ _ h => h) (Or.inl ⟨by rfl, ?_⟩) hHeld ?_
            rotate_left
            · (intro w hSw; (try dsimp only at hSw); go_simp)
              all_goals with_reducible rfl
            try simp only [Act.put, List.getElem_toArray, List.getElem_cons_succ, List.getElem_cons_zero, List.setIfInBounds_toArray, List.set_cons_zero, List.set_cons_succ]
            refine wpAnyH_take (i := 4) (v := ?_) rfl (by kernel_rfl) (by kernel_rfl) (by kernel_rfl) (fun _ _ _ h => h) (Or.inl ⟨by rfl, ?_⟩) hHeld ?_
            rotate_left
            · (intro w hSw; (try dsimp only at hSw); go_simp)
              all_goals with_reducible rfl
            try simp only [Act.put, List.getElem_toArray, List.getElem_cons_succ, List.getElem_cons_zero, List.setIfInBounds_toArray, List.set_cons_zero, List.set_cons_succ]
            refine wpAnyH_ready (rs := [5]) (by kernel_rfl) (by simp) ?_
            refine AllReadyH.cons rfl (fun K hK => ?_) AllReadyH.nil
            go_simp
            have dw0 : Below x5.heap.size x5 x5.drew := (Below.refl _ _).drew
            replace hd := hd.below dw0
            replace bT := bT.trans (dw0.mono bT.size)
            replace bo := bo.trans (dw0.mono bo.size)
            go_at_call 33
            refine (refFromInt_any z _ hzb.1 hzb.2).mono ?_
            rintro e u1 ⟨v1, rfl, hv1, bu1⟩
            replace hd := hd.below bu1
            replace bT := bT.trans (bu1.mono bT.size)
            replace bo := bo.trans (bu1.mono bo.size)
            go_wp2_with fail
            refine hK.out _ _ (hS _ bo) (fun hHeld => ?_)
            clear hK K
            try simp only [Act.put, List.getElem_toArray, List.getElem_cons_succ, List.getElem_cons_zero, List.setIfInBounds_toArray, List.set_cons_zero, List.set_cons_succ]
            refine wpAnyH_ready (rs := [6]) (by kernel_rfl) (by simp) ?_
            refine AllReadyH.cons rfl (fun K hK => ?_) AllReadyH.nil
            go_simp
            have heq := equal17_any hd hv1
            rw [hdq.out] at heq
            go_at_call 32
            refine (heq).mono ?_
            rintro e u2 ⟨rfl, bu2⟩
            replace hd := hd.below bu2
            replace hv1 := hv1.below bu2
            replace bT := bT.trans (bu2.mono bT.size)
            replace bo := bo.trans (bu2.mono bo.size)
            go_wp2_with fail
            refine hK.out _ _ (hS _ bo) (fun hHeld => ?_)
            clear hK K
            try simp only [Act.put, List.getElem_toArray, List.getElem_cons_succ, List.getElem_cons_zero, List.setIfInBounds_toArray, List.set_cons_zero, List.set_cons_succ]
            refine wpAnyH_take (i := 7) (v := ?_) rfl (by kernel_rfl) (by kernel_rfl) (by kernel_rfl) (fun _ _ _ h => h) (Or.inl ⟨by rfl, ?_⟩) hHeld ?_
            rotate_left
            · (intro w hSw; (try dsimp only at hSw); go_simp)
              all_goals with_reducible rfl
            try simp only [Act.put, List.getElem_toArray, List.getElem_cons_succ, List.getElem_cons_zero, List.setIfInBounds_toArray, List.set_cons_zero, List.set_cons_succ]
            refine wpAnyH_done (by kernel_rfl) ?_ _
            refine NoPanic.normal ?_
            try go_simp
            clear hHeld
            clear hS dS bo
            go_wp2
            go_roundw
            case rel => exact ⟨k + 1, by omega, by go_num, by rw [hz2.out], bT0.trans (bT.mono bT0.size)⟩
            case measure => simp [intOf]; omega
        · obtain rfl : k = d3.length := by omega
          have hlt' : decide ((d3.length : Int) < (d3.length : Int)) = false := decide_eq_false (by omega)
          replace bT := bT.trans (bk2.mono bT.size)
          go_wp2_with fail
          refine (awake17_any _).mono ?_
          rintro e wz ⟨rfl, bz⟩
          go_wp2
          go_ret
          exact ⟨rfl, bT.trans (bz.mono bT.size)⟩

/-! ### THE ROW's STEP: WRITTEN OUT: LEAVE IT -/
set_option maxRecDepth 100000 in
theorem lifted (os : Os) (started : os.Started) (H : Type) (enc : TypeId × Value → H) :
    ReturnsInHanded {} Try.checked os 8 .any (Rows.matrixNullsSpec.pre6 enc Try.prog Try.f8 Rows.matrixNullsRow.domain false) (Rows.matrixNullsSpec.post enc Try.prog Try.f8 false true false false) := by
  refine returnsInHanded_of_change (C := Try.checked) own started (by kernel_rfl) Try.func8
    (ChangeSpec.witness6 (enc := enc) (C := Try.checked) false ⟨#[], #[.slice none 0 0], []⟩ 8 (by kernel_rfl) (by kernel_rfl) (by kernel_rfl) (by kernel_rfl)) ?_
  intro W base args ds gs before hval0 hW hcnd _
  have hval : ∀ (j : Nat) t v, Try.f8.params[j]? = some t → args[j]? = some v → Value.okWide Try.prog W .any base t v := hval0
  have hW' := hW
  obtain ⟨p, q, hA0, hV, rfl, hfz, hnd⟩ := hW
  have hA : DataW.TrodAll enc Try.prog W 0 (fun _ => true) true Try.f8.params.toList args.toList ds p := hA0
  rw [Try.params8] at hA hval
  obtain ⟨v0, vs0, d0, ds0, p0, q0, hargs, rfl, rfl, h0, r0⟩ := trodAll_cons hA
  obtain ⟨rfl, rfl, rfl⟩ := trodAll_nil r0
  obtain rfl : args = #[v0] := by cases args; simp_all
  obtain ⟨rfl, rfl⟩ := trodVars_none hV
  have k0 := h0
  have lt0 : ∀ x ∈ p0, x.block < W.heap.size := by obtain ⟨m, hm⟩ := k0; exact DataW.trod_lt m _ _ _ hm
  obtain ⟨A0, c0, rs0, rfl, w0⟩ := open_matrix (hval 0 22 v0 rfl rfl) h0
  clear hA0 hval0
  refine (walk A0 c0 rs0 W w0).mono fun e W' ⟨he, bel⟩ => ?_
  subst he
  exact ⟨_, rfl, _, _, _, [], _, [], hW', trodAll_mk1 (shut_bool Try.underlying4 _), (trodAll_cons_mk (Below.trod laidOut (by kernel_rfl) (of_decide_eq_true (by kernel_rfl)) k0 bel lt0) trodAll_mk0), rfl, bel.frame _, fun h => by cases h⟩

theorem over : Rows.matrixNullsRow.holds Try.pinned (OpenSpec.ofChange Rows.matrixNullsSpec) :=
  OpenClaim.holds_of_wide 8 Try.f8 rfl rfl rfl rfl rfl rfl rfl ⟨rfl, rfl, rfl, rfl, rfl⟩ rfl rfl rfl rfl rfl (by kernel_rfl) Try.func8 (by kernel_rfl)
    (of_decide_eq_true (by kernel_rfl)) (by unfold Func.isWrapper; first | (rw [if_pos (by decide +kernel)]; kernel_rfl) | (rw [if_neg (by decide +kernel)]; exact ⟨rfl, rfl⟩))
    (fun os started H enc _ => lifted os started H enc)

/-- ████ THE STATEMENT ████ -/
theorem proved : Rows.MatrixNullsSaid := over
#print axioms proved
end Go.Proofs.Ytkjmliebkbbogaa.matrixNulls
