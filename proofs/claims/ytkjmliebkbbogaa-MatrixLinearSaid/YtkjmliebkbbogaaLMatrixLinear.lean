/- The statement MatrixLinear of the given program: the law returns true for every input, and writes nothing that was there. The walk is proved over the contracts of the functions it calls. -/
import Derived.Test.YtkjmliebkbbogaaRows
import Derived.Test.YtkjmliebkbbogaaMOpen
import Derived.Test.YtkjmliebkbbogaaMLin
import Derived.Test.YtkjmliebkbbogaaMAwake
import Derived.WalkKit
import Derived.ProofKit
import Derived.OpenShut
import Derived.ShutString
import Derived.ChangeOld
import Derived.Below
namespace Go.Proofs.Ytkjmliebkbbogaa.matrixLinear
open Go.ChangeShapes Go.WideShapes Go.ChangeAt Go.RowKit
open Plain
open Go.ChangeMaps (open_string shut_string)
set_option linter.unusedVariables false
set_option linter.unusedSimpArgs false

theorem own : ownKnob Try.prog.godebug = none := by kernel_rfl
theorem laidOut : laidOutB Try.prog = true := by kernel_rfl

theorem colsL_le {rows : List RwD} {n : Nat} (h : ∀ r ∈ rows, r.ds.length ≤ n) : colsL (qsM rows) ≤ n := by
  cases rows with
  | nil => exact Nat.zero_le _
  | cons r rs => show r.qs.length ≤ n; rw [RwD.qs_len]; exact h r List.mem_cons_self
theorem gK_small {n : Nat} (h : n ≤ 7) : 4 * gK 3 n + 1 < 400000000 := by
  have h1 := gK_mono 3 h
  have h2 : gK 3 7 < 90000000 := by decide
  omega
theorem listB_len {ds : List FrD} (h : listB ds = true) : ds.length ≤ 6 ∧ smL ds = true := by
  unfold listB at h
  simpa using h
set_option maxRecDepth 100000 in
set_option maxHeartbeats 2000000 in
theorem walk (A0 : Option Addr) (c0 : Nat) (rs0 : List RwD) (A1 : Option Addr) (c1 : Nat) (ds1 : List FrD) (A2 : Option Addr) (c2 : Nat) (ds2 : List FrD) (w : World) (w0 : MOk w A0 c0 rs0) (w1 : Srow w 3 FrD.cells A1 c1 ds1) (x1 : ∀ f ∈ ds1, f.ok w) (w2 : Srow w 3 FrD.cells A2 c2 ds2) (x2 : ∀ f ∈ ds2, f.ok w) :
    Calls Try.prog 10 #[.slice A0 rs0.length c0, .slice A1 ds1.length c1, .slice A2 ds2.length c2] w fun e w' => e = .returned (.bool true) ∧ Below w.heap.size w w' := by
  have bT := Below.refl w.heap.size w
  have hm := w0
  clear w0
  have hlm := hm.row.1
  have hlm2 := hm.row.2.1
  have hx1 : FOkM w A1 c1 ds1 := ⟨w1, x1⟩
  have hlx1 := hx1.1.1
  have hly1 := hx1.1.2.1
  clear w1 x1
  have hx2 : FOkM w A2 c2 ds2 := ⟨w2, x2⟩
  have hlx2 := hx2.1.1
  have hly2 := hx2.1.2.1
  clear w2 x2
  go_enter Try.func10, Try.ntmps10
  go_wp2_with fail
  refine (few17_any (hm.below bT)).mono ?_
  rintro e y1 ⟨rfl, by1⟩
  replace bT := bT.trans (by1.mono bT.size)
  rcases hfew : fewM rs0 with _ | _
  · clear hfew
    go_wp2_with fail
    refine (awake17_any _).mono ?_
    rintro e wz ⟨rfl, bz⟩
    go_wp2
    go_ret
    exact ⟨rfl, bT.trans (bz.mono bT.size)⟩
  have hfew' := Lib.hid hfew
  clear hfew
  go_wp2_with fail
  refine (list17_any (hx1.below bT)).mono ?_
  rintro e y2 ⟨rfl, by2⟩
  replace bT := bT.trans (by2.mono bT.size)
  rcases hl1 : listB ds1 with _ | _
  · clear hl1
    go_wp2_with fail
    refine (awake17_any _).mono ?_
    rintro e wz ⟨rfl, bz⟩
    go_wp2
    go_ret
    exact ⟨rfl, bT.trans (bz.mono bT.size)⟩
  have hl1' := Lib.hid hl1
  clear hl1
  go_wp2_with fail
  refine (list17_any (hx2.below bT)).mono ?_
  rintro e y3 ⟨rfl, by3⟩
  replace bT := bT.trans (by3.mono bT.size)
  rcases hl2 : listB ds2 with _ | _
  · clear hl2
    go_wp2_with fail
    refine (awake17_any _).mono ?_
    rintro e wz ⟨rfl, bz⟩
    go_wp2
    go_ret
    exact ⟨rfl, bT.trans (bz.mono bT.size)⟩
  have hl2' := Lib.hid hl2
  clear hl2
  obtain ⟨hM, hfm, hr6, hr7⟩ := fewM_ml hm hfew'.out
  obtain ⟨hxl6, hsm1⟩ := listB_len hl1'.out
  obtain ⟨hX, hfx⟩ := smL_fl hx1 hsm1
  obtain ⟨hyl6, hsm2⟩ := listB_len hl2'.out
  obtain ⟨hY, hfy⟩ := smL_fl hx2 hsm2
  obtain ⟨n, hn⟩ : ∃ n, Hid (colsL (qsM rs0) = n) := ⟨_, rfl⟩
  have hcl := Lib.hid (show n ≤ 6 by rw [← hn.out]; exact colsL_le hr7)
  have hfm' := Lib.hid hfm
  have hfx' := Lib.hid hfx
  have hfy' := Lib.hid hfy
  clear hfew' hl1' hl2' hm hx1 hx2 hr7 hsm1 hsm2 hfm hfx hfy
  go_wp2_with fail
  refine (formed17_any (hM.below bT)).mono ?_
  rintro e y4 ⟨rfl, by4⟩
  replace bT := bT.trans (by4.mono bT.size)
  rcases hfo : formedL (qsM rs0) with _ | _
  · clear hfo
    go_wp2_with fail
    refine (awake17_any _).mono ?_
    rintro e wz ⟨rfl, bz⟩
    go_wp2
    go_ret
    exact ⟨rfl, bT.trans (bz.mono bT.size)⟩
  have hfo' := Lib.hid hfo
  clear hfo
  have hr := Lib.hid (show rect (qsM rs0) n by rw [← hn.out]; exact formedL_rect hfo'.out)
  go_wp2_with fail
  refine (cols17_any (hM.below bT)).mono ?_
  rintro e yc ⟨rfl, rfl⟩
  rw [hn.out]
  by_cases hxn0 : ¬ ds1.length = n
  · have hne : ((ds1.length : Int) != (n : Int)) = true := by simp; omega
    go_wp2_with fail
    refine (awake17_any _).mono ?_
    rintro e wz ⟨rfl, bz⟩
    go_wp2
    go_ret
    exact ⟨rfl, bT.trans (bz.mono bT.size)⟩
  have hxn : ds1.length = n := Decidable.not_not.1 hxn0
  clear hxn0
  have hne : ((ds1.length : Int) != (n : Int)) = false := by rw [bne_eq_false_iff_eq]; omega
  have hxn' := Lib.hid hxn
  clear hxn
  by_cases hyn0 : ¬ ds2.length = ds1.length
  · have hne2 : ((ds2.length : Int) != (ds1.length : Int)) = true := by simp; omega
    go_wp2_with fail
    refine (awake17_any _).mono ?_
    rintro e wz ⟨rfl, bz⟩
    go_wp2
    go_ret
    exact ⟨rfl, bT.trans (bz.mono bT.size)⟩
  have hyn : ds2.length = ds1.length := Decidable.not_not.1 hyn0
  clear hyn0
  have hne2 : ((ds2.length : Int) != (ds1.length : Int)) = false := by rw [bne_eq_false_iff_eq]; omega
  have hyn' := Lib.hid hyn
  have hyle : ds1.length ≤ ds2.length := by omega
  have hyle2 : ds2.length ≤ ds1.length := by omega
  clear hyn
  obtain ⟨sq, hsq⟩ : ∃ sq, Hid (sumL (ds1.map FrD.q) (ds2.map FrD.q) = sq) := ⟨_, rfl⟩
  have hsl := Lib.hid (show sq.length = ds1.length by rw [← hsq.out, sumL_length (by rw [List.length_map, List.length_map]; exact hyn'.out), List.length_map])
  have hlX := hX.len
  have hlY := hY.len
  have bT' := bT
  go_wp2
  go_loopw [7, 50] (fun v i wr => LsInv sq w v i wr) (fun _ i _ => ds1.length - (intOf i).toNat)
  case atStart => exact ⟨0, by omega, rfl, [], OwnQ.nil _ _, fun d hd => by simp at hd, rfl, rfl, bT'⟩
  case round =>
    obtain ⟨k, hk, rfl, hat⟩ := hrel
    rw [hsl.out] at hk
    have hbel := hat.bel
    by_cases hkl : k < ds1.length
    · have hki : (k : Int) < (ds1.length : Int) := by omega
      have hki2 : (k : Int) < (ds2.length : Int) := by omega
      have hkb : k < 1000000000000 := by omega
      obtain ⟨a, d, rfl, hab, ha0, ha1, ha2, hd, hdk⟩ := hX.at hkl
      obtain ⟨b, e, rfl, hbb, hb0, hb1, hb2, he, hek⟩ := hY.at (k := k) (by omega)
      have hdf := Lib.hid (hfx'.out.fr d (List.mem_of_getElem? hdk.out))
      have hef := Lib.hid (hfy'.out.fr e (List.mem_of_getElem? hek.out))
      have hq : Hid (sq[k]? = some (d.q + e.q)) := by
        show _ = _
        rw [← hsq.out]
        unfold sumL
        rw [List.getElem?_zipWith, List.getElem?_map, List.getElem?_map, hdk.out, hek.out]; rfl
      obtain ⟨qk, hqk⟩ : ∃ q, Hid (d.q + e.q = q) := ⟨_, rfl⟩
      rw [hqk.out] at hq
      replace hd := hd.below hbel
      replace he := he.below hbel
      have bT := hat.bel
      have hS : ∀ w', Below w.heap.size w w' → w'.cell? (a.add (k * 3)) = some (.bool d.neg) ∧ w'.cell? ⟨(a.add (k * 3)).block, (a.add (k * 3)).off + 1, none⟩ = some (.slice d.a d.la.length d.ca) ∧ w'.cell? ⟨(a.add (k * 3)).block, (a.add (k * 3)).off + 2, none⟩ = some (.slice d.b d.lb.length d.cb) ∧ w'.cell? (b.add (k * 3)) = some (.bool e.neg) ∧ w'.cell? ⟨(b.add (k * 3)).block, (b.add (k * 3)).off + 1, none⟩ = some (.slice e.a e.la.length e.ca) ∧ w'.cell? ⟨(b.add (k * 3)).block, (b.add (k * 3)).off + 2, none⟩ = some (.slice e.b e.lb.length e.cb) ∧ Below w.heap.size w w' := by
        intro w' o
        exact ⟨(o.cell (by show (a.add (k * 3)).block < _; rw [block_add]; exact hab)).trans ha0, (o.cell (by show (a.add (k * 3)).block < _; rw [block_add]; exact hab)).trans ha1, (o.cell (by show (a.add (k * 3)).block < _; rw [block_add]; exact hab)).trans ha2, (o.cell (by show (b.add (k * 3)).block < _; rw [block_add]; exact hbb)).trans hb0, (o.cell (by show (b.add (k * 3)).block < _; rw [block_add]; exact hbb)).trans hb1, (o.cell (by show (b.add (k * 3)).block < _; rw [block_add]; exact hbb)).trans hb2, o⟩
      have bo : Below w.heap.size w wr := hat.bel
      have dS : Below w.heap.size w wr.drew := bo.drew
      go_wp2_with fail
      refine wp_region_noPanic ?_
      refine wp_region_held_drew (S := fun w' => w'.cell? (a.add (k * 3)) = some (.bool d.neg) ∧ w'.cell? ⟨(a.add (k * 3)).block, (a.add (k * 3)).off + 1, none⟩ = some (.slice d.a d.la.length d.ca) ∧ w'.cell? ⟨(a.add (k * 3)).block, (a.add (k * 3)).off + 2, none⟩ = some (.slice d.b d.lb.length d.cb) ∧ w'.cell? (b.add (k * 3)) = some (.bool e.neg) ∧ w'.cell? ⟨(b.add (k * 3)).block, (b.add (k * 3)).off + 1, none⟩ = some (.slice e.a e.la.length e.ca) ∧ w'.cell? ⟨(b.add (k * 3)).block, (b.add (k * 3)).off + 2, none⟩ = some (.slice e.b e.lb.length e.cb) ∧ Below w.heap.size w w') (by kernel_rfl) (hS _ dS) (fun hHeld => ?_)
      refine wpAnyH_take (i := 0) (v := ?_) rfl (by kernel_rfl) (by kernel_rfl) (by kernel_rfl) (fun _ _ _ h => h) (Or.inl ⟨by rfl, ?_⟩) hHeld ?_
      rotate_left
      · (intro w hSw; (try dsimp only at hSw); go_simp)
        all_goals with_reducible rfl
      try simp only [Act.put, List.getElem_toArray, List.getElem_cons_succ, List.getElem_cons_zero, List.setIfInBounds_toArray, List.set_cons_zero, List.set_cons_succ]
      refine wpAnyH_take (i := 1) (v := ?_) rfl (by kernel_rfl) (by kernel_rfl) (by kernel_rfl) (fun _ _ _ h => h) (Or.inl ⟨by rfl, ?_⟩) hHeld ?_
      rotate_left
      · (intro w hSw; (try dsimp only at hSw); go_simp)
        all_goals with_reducible rfl
      try simp only [Act.put, List.getElem_toArray, List.getElem_cons_succ, List.getElem_cons_zero, List.setIfInBounds_toArray, List.set_cons_zero, List.set_cons_succ]
      refine wpAnyH_take (i := 2) (v := ?_) rfl (by kernel_rfl) (by kernel_rfl) (by kernel_rfl) (fun _ _ _ h => h) (Or.inl ⟨by rfl, ?_⟩) hHeld ?_
      rotate_left
      · (intro w hSw; (try dsimp only at hSw); go_simp)
        all_goals with_reducible rfl
      try simp only [Act.put, List.getElem_toArray, List.getElem_cons_succ, List.getElem_cons_zero, List.setIfInBounds_toArray, List.set_cons_zero, List.set_cons_succ]
      refine wpAnyH_take (i := 3) (v := ?_) rfl (by kernel_rfl) (by kernel_rfl) (by kernel_rfl) (fun _ _ _ h => h) (Or.inl ⟨by rfl, ?_⟩) hHeld ?_
      rotate_left
      · (intro w hSw; (try dsimp only at hSw); go_simp)
        all_goals with_reducible rfl
      try simp only [Act.put, List.getElem_toArray, List.getElem_cons_succ, List.getElem_cons_zero, List.setIfInBounds_toArray, List.set_cons_zero, List.set_cons_succ]
      refine wpAnyH_take (i := 4) (v := ?_) rfl (by kernel_rfl) (by kernel_rfl) (by kernel_rfl) (fun _ _ _ h => h) (Or.inl ⟨by rfl, ?_⟩) hHeld ?_
      rotate_left
      · (intro w hSw; (try dsimp only at hSw); go_simp)
        all_goals with_reducible rfl
      try simp only [Act.put, List.getElem_toArray, List.getElem_cons_succ, List.getElem_cons_zero, List.setIfInBounds_toArray, List.set_cons_zero, List.set_cons_succ]
      refine wpAnyH_take (i := 5) (v := ?_) rfl (by kernel_rfl) (by kernel_rfl) (by kernel_rfl) (fun _ _ _ h => h) (Or.inl ⟨by rfl, ?_⟩) hHeld ?_
      rotate_left
      · (intro w hSw; (try dsimp only at hSw); go_simp)
        all_goals with_reducible rfl
      try simp only [Act.put, List.getElem_toArray, List.getElem_cons_succ, List.getElem_cons_zero, List.setIfInBounds_toArray, List.set_cons_zero, List.set_cons_succ]
      refine wpAnyH_take (i := 6) (v := ?_) rfl (by kernel_rfl) (by kernel_rfl) (by kernel_rfl) (fun _ _ _ h => h) (Or.inl ⟨by rfl, ?_⟩) hHeld ?_
      rotate_left
      · (intro w hSw; (try dsimp only at hSw); go_simp)
        all_goals with_reducible rfl
      try simp only [Act.put, List.getElem_toArray, List.getElem_cons_succ, List.getElem_cons_zero, List.setIfInBounds_toArray, List.set_cons_zero, List.set_cons_succ]
      refine wpAnyH_take (i := 7) (v := ?_) rfl (by kernel_rfl) (by kernel_rfl) (by kernel_rfl) (fun _ _ _ h => h) (Or.inl ⟨by rfl, ?_⟩) hHeld ?_
      rotate_left
      · (intro w hSw; (try dsimp only at hSw); go_simp)
        all_goals with_reducible rfl
      try simp only [Act.put, List.getElem_toArray, List.getElem_cons_succ, List.getElem_cons_zero, List.setIfInBounds_toArray, List.set_cons_zero, List.set_cons_succ]
      refine wpAnyH_take (i := 8) (v := ?_) rfl (by kernel_rfl) (by kernel_rfl) (by kernel_rfl) (fun _ _ _ h => h) (Or.inl ⟨by rfl, ?_⟩) hHeld ?_
      rotate_left
      · (intro w hSw; (try dsimp only at hSw); go_simp)
        all_goals with_reducible rfl
      try simp only [Act.put, List.getElem_toArray, List.getElem_cons_succ, List.getElem_cons_zero, List.setIfInBounds_toArray, List.set_cons_zero, List.set_cons_succ]
      refine wpAnyH_ready (rs := [9]) (by kernel_rfl) (by simp) ?_
      refine AllReadyH.cons rfl (fun K hK => ?_) AllReadyH.nil
      go_simp
      have dw0 : Below wr.heap.size wr wr.drew := (Below.refl _ _).drew
      replace hd := hd.below dw0
      replace he := he.below dw0
      replace hat := hat.below dw0
      replace bT := bT.trans (dw0.mono bT.size)
      replace bo := bo.trans (dw0.mono bo.size)
      go_at_call 35
      refine (refAddF_any hd he hdf.out hef.out (by decide)).mono ?_
      rintro e u1 ⟨v1, rfl, ⟨n1, A1, a1, l1, B1, c1, m1, rfl, na, nb, iq⟩, bu1⟩
      replace hd := hd.below bu1
      replace he := he.below bu1
      replace hat := hat.below bu1
      replace bT := bT.trans (bu1.mono bT.size)
      replace bo := bo.trans (bu1.mono bo.size)
      rw [hqk.out] at iq
      go_wp2_with fail
      refine hK.out _ _ (hS _ bo) (fun hHeld => ?_)
      clear hK K
      try simp only [Act.put, List.getElem_toArray, List.getElem_cons_succ, List.getElem_cons_zero, List.setIfInBounds_toArray, List.set_cons_zero, List.set_cons_succ]
      refine wpAnyH_ready (rs := [10]) (by kernel_rfl) (by simp) ?_
      refine AllReadyH.cons rfl (fun K hK => ?_) AllReadyH.nil
      obtain ⟨os, ho, h63, hbs, hnext⟩ := hat.app hkb hq.out na nb iq
      clear na nb iq
      have bT4 := bT
      obtain ⟨u2, hu2, bu2, lu2, Bu2⟩ := boxed u1 #[.bool n1, .slice A1 l1.length a1, .slice B1 m1.length c1] 50
      replace hd := hd.below bu2
      replace he := he.below bu2
      replace bT := bT.trans (bu2.mono bT.size)
      replace bo := bo.trans (bu2.mono bo.size)
      go_simp
      refine hK.out _ _ (hS _ bo) (fun hHeld => ?_)
      clear hK K
      try simp only [Act.put, List.getElem_toArray, List.getElem_cons_succ, List.getElem_cons_zero, List.setIfInBounds_toArray, List.set_cons_zero, List.set_cons_succ]
      refine wpAnyH_ready (rs := [11]) (by kernel_rfl) (by simp) ?_
      refine AllReadyH.cons rfl (fun K hK => ?_) AllReadyH.nil
      refine step_appQ rfl _ _ rfl rfl w.heap.size _ os rfl (by rw [← hu2]; exact ho) ⟨u1.heap.size, 0, none⟩ 1 ⟨n1, A1, a1, l1, B1, c1, m1⟩ rfl (World.news_of_block Bu2) h63 (by rw [← hu2]; exact hbs) ?_
      intro v6 w6 ho6 hg6
      rw [← hu2] at hg6
      have hat6 := hnext.out v6 w6 ho6 hg6
      replace bo := hat6.bel
      clear hnext ho hg6 ho6
      refine hK.out _ _ (hS _ bo) (fun hHeld => ?_)
      clear hK K
      try simp only [Act.put, List.getElem_toArray, List.getElem_cons_succ, List.getElem_cons_zero, List.setIfInBounds_toArray, List.set_cons_zero, List.set_cons_succ]
      refine wpAnyH_take (i := 12) (v := ?_) rfl (by kernel_rfl) (by kernel_rfl) (by kernel_rfl) (fun _ _ _ h => h) (Or.inl ⟨by rfl, ?_⟩) hHeld ?_
      rotate_left
      · (intro w hSw; (try dsimp only at hSw); go_simp)
        all_goals with_reducible rfl
      try simp only [Act.put, List.getElem_toArray, List.getElem_cons_succ, List.getElem_cons_zero, List.setIfInBounds_toArray, List.set_cons_zero, List.set_cons_succ]
      refine wpAnyH_done (by kernel_rfl) ?_ _
      refine NoPanic.normal ?_
      try go_simp
      clear hHeld
      clear hS dS bo
      go_wp2
      go_roundw
      case rel => exact ⟨k + 1, by rw [hsl.out]; omega, by go_num, hat6⟩
      case measure => simp [intOf]; omega
    · obtain rfl : k = ds1.length := by omega
      have hlt' : decide ((ds1.length : Int) < (ds1.length : Int)) = false := decide_eq_false (by omega)
      obtain ⟨B, cb, es, rfl, hE, hqe⟩ := hat.done hsl.out.symm
      clear hat bT'
      have bT := hbel
      have hel := Lib.hid (show es.length = ds1.length by rw [← List.length_map (f := FrD.q), hqe.out, hsl.out])
      have hfs7 := Lib.hid (show QFits 7 (es.map FrD.q) by rw [hqe.out, ← hsq.out]; exact sumL_fits hfx'.out hfy'.out)
      have tX := Lib.hid (show timesS (qsM rs0) (ds1.map FrD.q) = timesL (qsM rs0) (ds1.map FrD.q) by unfold timesS; rw [hfo'.out, List.length_map, hn.out, hxn'.out]; simp)
      have tY := Lib.hid (show timesS (qsM rs0) (ds2.map FrD.q) = timesL (qsM rs0) (ds2.map FrD.q) by unfold timesS; rw [hfo'.out, List.length_map, hn.out, hyn'.out, hxn'.out]; simp)
      have tE := Lib.hid (show timesS (qsM rs0) (es.map FrD.q) = timesL (qsM rs0) (es.map FrD.q) by unfold timesS; rw [hfo'.out, List.length_map, hn.out, hel.out, hxn'.out]; simp)
      go_wp2_with fail
      refine (times_any (hM.below bT) (hX.below bT) hfm'.out hfx'.out (by omega) (by omega)).mono ?_
      rintro e y5 ⟨A3, c3, d3, rfl, h3, q3, by5⟩
      replace hE := hE.below by5
      replace bT := bT.trans (by5.mono bT.size)
      go_wp2_with fail
      refine (times_any (hM.below bT) (hY.below bT) hfm'.out hfy'.out (by omega) (by omega)).mono ?_
      rintro e y6 ⟨A4, c4, d4, rfl, h4, q4, by6⟩
      replace hE := hE.below by6
      replace h3 := h3.below by6
      replace bT := bT.trans (by6.mono bT.size)
      go_wp2_with fail
      refine (times_any (K := 7) (hM.below bT) hE (hfm'.out.mono (by decide)) hfs7.out (by have := hel.out; omega) (by omega)).mono ?_
      rintro e y7 ⟨A5, c5, d5, rfl, h5, q5, by7⟩
      replace hE := hE.below by7
      replace h3 := h3.below by7
      replace h4 := h4.below by7
      replace bT := bT.trans (by7.mono bT.size)
      have g3 := Lib.hid (show d3.length = rs0.length by rw [← List.length_map (f := FrD.q), q3.out, tX.out, timesL_length, qsM_len])
      have g4 := Lib.hid (show d4.length = rs0.length by rw [← List.length_map (f := FrD.q), q4.out, tY.out, timesL_length, qsM_len])
      have g5 := Lib.hid (show d5.length = rs0.length by rw [← List.length_map (f := FrD.q), q5.out, tE.out, timesL_length, qsM_len])
      have n3 : ((d3.length : Int) != (rs0.length : Int)) = false := by rw [bne_eq_false_iff_eq]; have := g3.out; omega
      have n4 : ((d4.length : Int) != (rs0.length : Int)) = false := by rw [bne_eq_false_iff_eq]; have := g4.out; omega
      have n5 : ((d5.length : Int) != (rs0.length : Int)) = false := by rw [bne_eq_false_iff_eq]; have := g5.out; omega
      have k3 := h3.len
      have k4 := h4.len
      have k5 := h5.len
      have hf3 := Lib.hid (show QFits 91 (d3.map FrD.q) by rw [q3.out, tX.out]; exact (timesL_fits (n := 6) hfm'.out hfx'.out (by rw [List.length_map]; exact hxl6)).mono (by decide))
      have hf4 := Lib.hid (show QFits 91 (d4.map FrD.q) by rw [q4.out, tY.out]; exact (timesL_fits (n := 6) hfm'.out hfy'.out (by rw [List.length_map]; exact hyl6)).mono (by decide))
      have hf5 := Lib.hid (show QFits 91 (d5.map FrD.q) by rw [q5.out, tE.out]; exact timesL_fits (n := 6) (hfm'.out.mono (by decide)) hfs7.out (by rw [List.length_map, hel.out]; exact hxl6))
      have hrs6 := hr6
      go_wp2
      obtain ⟨wb, hwb⟩ : ∃ wb : World, Hid (wb = w) := ⟨_, rfl⟩
      go_loopw [96] (fun i wr => ∃ k : Nat, k ≤ d5.length ∧ i = .int .i64 (k : Int) ∧ Below w.heap.size w wr ∧ FL wr A3 c3 d3 ∧ FL wr A4 c4 d4 ∧ FL wr A5 c5 d5) (fun i _ => d5.length - (intOf i).toNat)
      case atStart => exact ⟨0, by omega, rfl, bT, h3, h4, h5⟩
      case round =>
        clear h3 h4 h5 hE
        obtain ⟨k, hk, rfl, bk, h3, h4, h5⟩ := hrel
        by_cases hkl : k < d5.length
        · have hki : (k : Int) < (d5.length : Int) := by omega
          have hki3 : (k : Int) < (d3.length : Int) := by have := g3.out; have := g5.out; omega
          have hki4 : (k : Int) < (d4.length : Int) := by have := g4.out; have := g5.out; omega
          obtain ⟨a, x, rfl, hab, ha0, ha1, ha2, hx, hxk⟩ := h3.at (k := k) (by omega)
          obtain ⟨b, y, rfl, hbb, hb0, hb1, hb2, hy, hyk⟩ := h4.at (k := k) (by omega)
          obtain ⟨e, z, rfl, heb, he0, he1, he2, hz, hzk⟩ := h5.at hkl
          have hxf := Lib.hid (hf3.out.fr x (List.mem_of_getElem? hxk.out))
          have hyf := Lib.hid (hf4.out.fr y (List.mem_of_getElem? hyk.out))
          have hzq := Lib.hid (show decide (z.q = x.q + y.q) = true by
            refine decide_eq_true ?_
            have e1 : (timesL (qsM rs0) (ds1.map FrD.q))[k]? = some x.q := by rw [← tX.out, ← q3.out, List.getElem?_map, hxk.out]; rfl
            have e2 : (timesL (qsM rs0) (ds2.map FrD.q))[k]? = some y.q := by rw [← tY.out, ← q4.out, List.getElem?_map, hyk.out]; rfl
            have e3 := timesL_add hr.out (by rw [List.length_map]; exact hxn'.out) (by rw [List.length_map, List.length_map]; exact hyn'.out) e1 e2
            rw [hsq.out, ← hqe.out, ← tE.out, ← q5.out, List.getElem?_map, hzk.out] at e3
            injection e3)
          have bk0 := bk
          have bT := Below.refl wr.heap.size wr
          have hS : ∀ w', Below wr.heap.size wr w' → w'.cell? (e.add (k * 3)) = some (.bool z.neg) ∧ w'.cell? ⟨(e.add (k * 3)).block, (e.add (k * 3)).off + 1, none⟩ = some (.slice z.a z.la.length z.ca) ∧ w'.cell? ⟨(e.add (k * 3)).block, (e.add (k * 3)).off + 2, none⟩ = some (.slice z.b z.lb.length z.cb) ∧ w'.cell? (a.add (k * 3)) = some (.bool x.neg) ∧ w'.cell? ⟨(a.add (k * 3)).block, (a.add (k * 3)).off + 1, none⟩ = some (.slice x.a x.la.length x.ca) ∧ w'.cell? ⟨(a.add (k * 3)).block, (a.add (k * 3)).off + 2, none⟩ = some (.slice x.b x.lb.length x.cb) ∧ w'.cell? (b.add (k * 3)) = some (.bool y.neg) ∧ w'.cell? ⟨(b.add (k * 3)).block, (b.add (k * 3)).off + 1, none⟩ = some (.slice y.a y.la.length y.ca) ∧ w'.cell? ⟨(b.add (k * 3)).block, (b.add (k * 3)).off + 2, none⟩ = some (.slice y.b y.lb.length y.cb) ∧ Below wr.heap.size wr w' := by
            intro w' o
            exact ⟨(o.cell (by show (e.add (k * 3)).block < _; rw [block_add]; exact heb)).trans he0, (o.cell (by show (e.add (k * 3)).block < _; rw [block_add]; exact heb)).trans he1, (o.cell (by show (e.add (k * 3)).block < _; rw [block_add]; exact heb)).trans he2, (o.cell (by show (a.add (k * 3)).block < _; rw [block_add]; exact hab)).trans ha0, (o.cell (by show (a.add (k * 3)).block < _; rw [block_add]; exact hab)).trans ha1, (o.cell (by show (a.add (k * 3)).block < _; rw [block_add]; exact hab)).trans ha2, (o.cell (by show (b.add (k * 3)).block < _; rw [block_add]; exact hbb)).trans hb0, (o.cell (by show (b.add (k * 3)).block < _; rw [block_add]; exact hbb)).trans hb1, (o.cell (by show (b.add (k * 3)).block < _; rw [block_add]; exact hbb)).trans hb2, o⟩
          have bo : Below wr.heap.size wr wr := Below.refl _ _
          have dS : Below wr.heap.size wr wr.drew := bo.drew
          go_wp2_with fail
          refine wp_region_noPanic ?_
          refine wp_region_held_drew (S := fun w' => w'.cell? (e.add (k * 3)) = some (.bool z.neg) ∧ w'.cell? ⟨(e.add (k * 3)).block, (e.add (k * 3)).off + 1, none⟩ = some (.slice z.a z.la.length z.ca) ∧ w'.cell? ⟨(e.add (k * 3)).block, (e.add (k * 3)).off + 2, none⟩ = some (.slice z.b z.lb.length z.cb) ∧ w'.cell? (a.add (k * 3)) = some (.bool x.neg) ∧ w'.cell? ⟨(a.add (k * 3)).block, (a.add (k * 3)).off + 1, none⟩ = some (.slice x.a x.la.length x.ca) ∧ w'.cell? ⟨(a.add (k * 3)).block, (a.add (k * 3)).off + 2, none⟩ = some (.slice x.b x.lb.length x.cb) ∧ w'.cell? (b.add (k * 3)) = some (.bool y.neg) ∧ w'.cell? ⟨(b.add (k * 3)).block, (b.add (k * 3)).off + 1, none⟩ = some (.slice y.a y.la.length y.ca) ∧ w'.cell? ⟨(b.add (k * 3)).block, (b.add (k * 3)).off + 2, none⟩ = some (.slice y.b y.lb.length y.cb) ∧ Below wr.heap.size wr w') (by kernel_rfl) (hS _ dS) (fun hHeld => ?_)
          refine wpAnyH_take (i := 0) (v := ?_) rfl (by kernel_rfl) (by kernel_rfl) (by kernel_rfl) (fun _ _ _ h => h) (Or.inl ⟨by rfl, ?_⟩) hHeld ?_
          rotate_left
          · (intro w hSw; (try dsimp only at hSw); go_simp)
            all_goals with_reducible rfl
          try simp only [Act.put, List.getElem_toArray, List.getElem_cons_succ, List.getElem_cons_zero, List.setIfInBounds_toArray, List.set_cons_zero, List.set_cons_succ]
          refine wpAnyH_take (i := 1) (v := ?_) rfl (by kernel_rfl) (by kernel_rfl) (by kernel_rfl) (fun _ _ _ h => h) (Or.inl ⟨by rfl, ?_⟩) hHeld ?_
          rotate_left
          · (intro w hSw; (try dsimp only at hSw); go_simp)
            all_goals with_reducible rfl
          try simp only [Act.put, List.getElem_toArray, List.getElem_cons_succ, List.getElem_cons_zero, List.setIfInBounds_toArray, List.set_cons_zero, List.set_cons_succ]
          refine wpAnyH_take (i := 2) (v := ?_) rfl (by kernel_rfl) (by kernel_rfl) (by kernel_rfl) (fun _ _ _ h => h) (Or.inl ⟨by rfl, ?_⟩) hHeld ?_
          rotate_left
          · (intro w hSw; (try dsimp only at hSw); go_simp)
            all_goals with_reducible rfl
          try simp only [Act.put, List.getElem_toArray, List.getElem_cons_succ, List.getElem_cons_zero, List.setIfInBounds_toArray, List.set_cons_zero, List.set_cons_succ]
          refine wpAnyH_take (i := 3) (v := ?_) rfl (by kernel_rfl) (by kernel_rfl) (by kernel_rfl) (fun _ _ _ h => h) (Or.inl ⟨by rfl, ?_⟩) hHeld ?_
          rotate_left
          · (intro w hSw; (try dsimp only at hSw); go_simp)
            all_goals with_reducible rfl
          try simp only [Act.put, List.getElem_toArray, List.getElem_cons_succ, List.getElem_cons_zero, List.setIfInBounds_toArray, List.set_cons_zero, List.set_cons_succ]
          refine wpAnyH_take (i := 4) (v := ?_) rfl (by kernel_rfl) (by kernel_rfl) (by kernel_rfl) (fun _ _ _ h => h) (Or.inl ⟨by rfl, ?_⟩) hHeld ?_
          rotate_left
          · (intro w hSw; (try dsimp only at hSw); go_simp)
            all_goals with_reducible rfl
          try simp only [Act.put, List.getElem_toArray, List.getElem_cons_succ, List.getElem_cons_zero, List.setIfInBounds_toArray, List.set_cons_zero, List.set_cons_succ]
          refine wpAnyH_take (i := 5) (v := ?_) rfl (by kernel_rfl) (by kernel_rfl) (by kernel_rfl) (fun _ _ _ h => h) (Or.inl ⟨by rfl, ?_⟩) hHeld ?_
          rotate_left
          · (intro w hSw; (try dsimp only at hSw); go_simp)
            all_goals with_reducible rfl
          try simp only [Act.put, List.getElem_toArray, List.getElem_cons_succ, List.getElem_cons_zero, List.setIfInBounds_toArray, List.set_cons_zero, List.set_cons_succ]
          refine wpAnyH_take (i := 6) (v := ?_) rfl (by kernel_rfl) (by kernel_rfl) (by kernel_rfl) (fun _ _ _ h => h) (Or.inl ⟨by rfl, ?_⟩) hHeld ?_
          rotate_left
          · (intro w hSw; (try dsimp only at hSw); go_simp)
            all_goals with_reducible rfl
          try simp only [Act.put, List.getElem_toArray, List.getElem_cons_succ, List.getElem_cons_zero, List.setIfInBounds_toArray, List.set_cons_zero, List.set_cons_succ]
          refine wpAnyH_take (i := 7) (v := ?_) rfl (by kernel_rfl) (by kernel_rfl) (by kernel_rfl) (fun _ _ _ h => h) (Or.inl ⟨by rfl, ?_⟩) hHeld ?_
          rotate_left
          · (intro w hSw; (try dsimp only at hSw); go_simp)
            all_goals with_reducible rfl
          try simp only [Act.put, List.getElem_toArray, List.getElem_cons_succ, List.getElem_cons_zero, List.setIfInBounds_toArray, List.set_cons_zero, List.set_cons_succ]
          refine wpAnyH_take (i := 8) (v := ?_) rfl (by kernel_rfl) (by kernel_rfl) (by kernel_rfl) (fun _ _ _ h => h) (Or.inl ⟨by rfl, ?_⟩) hHeld ?_
          rotate_left
          · (intro w hSw; (try dsimp only at hSw); go_simp)
            all_goals with_reducible rfl
          try simp only [Act.put, List.getElem_toArray, List.getElem_cons_succ, List.getElem_cons_zero, List.setIfInBounds_toArray, List.set_cons_zero, List.set_cons_succ]
          refine wpAnyH_take (i := 9) (v := ?_) rfl (by kernel_rfl) (by kernel_rfl) (by kernel_rfl) (fun _ _ _ h => h) (Or.inl ⟨by rfl, ?_⟩) hHeld ?_
          rotate_left
          · (intro w hSw; (try dsimp only at hSw); go_simp)
            all_goals with_reducible rfl
          try simp only [Act.put, List.getElem_toArray, List.getElem_cons_succ, List.getElem_cons_zero, List.setIfInBounds_toArray, List.set_cons_zero, List.set_cons_succ]
          refine wpAnyH_take (i := 10) (v := ?_) rfl (by kernel_rfl) (by kernel_rfl) (by kernel_rfl) (fun _ _ _ h => h) (Or.inl ⟨by rfl, ?_⟩) hHeld ?_
          rotate_left
          · (intro w hSw; (try dsimp only at hSw); go_simp)
            all_goals with_reducible rfl
          try simp only [Act.put, List.getElem_toArray, List.getElem_cons_succ, List.getElem_cons_zero, List.setIfInBounds_toArray, List.set_cons_zero, List.set_cons_succ]
          refine wpAnyH_take (i := 11) (v := ?_) rfl (by kernel_rfl) (by kernel_rfl) (by kernel_rfl) (fun _ _ _ h => h) (Or.inl ⟨by rfl, ?_⟩) hHeld ?_
          rotate_left
          · (intro w hSw; (try dsimp only at hSw); go_simp)
            all_goals with_reducible rfl
          try simp only [Act.put, List.getElem_toArray, List.getElem_cons_succ, List.getElem_cons_zero, List.setIfInBounds_toArray, List.set_cons_zero, List.set_cons_succ]
          refine wpAnyH_ready (rs := [12]) (by kernel_rfl) (by simp) ?_
          refine AllReadyH.cons rfl (fun K hK => ?_) AllReadyH.nil
          go_simp
          have dw0 : Below wr.heap.size wr wr.drew := (Below.refl _ _).drew
          replace hx := hx.below dw0
          replace hy := hy.below dw0
          replace hz := hz.below dw0
          replace bT := bT.trans (dw0.mono bT.size)
          replace bo := bo.trans (dw0.mono bo.size)
          go_at_call 35
          refine (refAddF_any hx hy hxf.out hyf.out (by decide)).mono ?_
          rintro e u1 ⟨v1, rfl, hv1, bu1⟩
          replace hx := hx.below bu1
          replace hy := hy.below bu1
          replace hz := hz.below bu1
          replace bT := bT.trans (bu1.mono bT.size)
          replace bo := bo.trans (bu1.mono bo.size)
          go_wp2_with fail
          refine hK.out _ _ (hS _ bo) (fun hHeld => ?_)
          clear hK K
          try simp only [Act.put, List.getElem_toArray, List.getElem_cons_succ, List.getElem_cons_zero, List.setIfInBounds_toArray, List.set_cons_zero, List.set_cons_succ]
          refine wpAnyH_ready (rs := [13]) (by kernel_rfl) (by simp) ?_
          refine AllReadyH.cons rfl (fun K hK => ?_) AllReadyH.nil
          go_simp
          have heq := equal17_any hz hv1
          rw [hzq.out] at heq
          go_at_call 32
          refine (heq).mono ?_
          rintro e u2 ⟨rfl, bu2⟩
          replace hx := hx.below bu2
          replace hy := hy.below bu2
          replace hz := hz.below bu2
          replace hv1 := hv1.below bu2
          replace bT := bT.trans (bu2.mono bT.size)
          replace bo := bo.trans (bu2.mono bo.size)
          go_wp2_with fail
          refine hK.out _ _ (hS _ bo) (fun hHeld => ?_)
          clear hK K
          try simp only [Act.put, List.getElem_toArray, List.getElem_cons_succ, List.getElem_cons_zero, List.setIfInBounds_toArray, List.set_cons_zero, List.set_cons_succ]
          refine wpAnyH_take (i := 14) (v := ?_) rfl (by kernel_rfl) (by kernel_rfl) (by kernel_rfl) (fun _ _ _ h => h) (Or.inl ⟨by rfl, ?_⟩) hHeld ?_
          rotate_left
          · (intro w hSw; (try dsimp only at hSw); go_simp)
            all_goals with_reducible rfl
          try simp only [Act.put, List.getElem_toArray, List.getElem_cons_succ, List.getElem_cons_zero, List.setIfInBounds_toArray, List.set_cons_zero, List.set_cons_succ]
          refine wpAnyH_done (by kernel_rfl) ?_ _
          refine NoPanic.normal ?_
          try go_simp
          clear hHeld
          clear hS dS bo
          go_wp2
          go_roundw
          case rel => exact ⟨k + 1, by omega, by go_num, bk0.trans (bT.mono bk0.size), h3.below bT, h4.below bT, h5.below bT⟩
          case measure => simp [intOf]; omega
        · obtain rfl : k = d5.length := by omega
          have hlt' : decide ((d5.length : Int) < (d5.length : Int)) = false := decide_eq_false (by omega)
          have bT := bk
          have g55 := Lib.hid (show (d5.map FrD.q).length = (qsM rs0).length by rw [List.length_map, qsM_len]; exact g5.out)
          have hsome := Lib.hid (solve_some_of hfo'.out (x := es.map FrD.q) (b := d5.map FrD.q) (by rw [List.length_map, hel.out, hxn'.out, hn.out]) (by rw [q5.out, tE.out]))
          obtain ⟨z, hz0⟩ : ∃ z, solveL (qsM rs0) (d5.map FrD.q) = some z := by
            cases h : solveL (qsM rs0) (d5.map FrD.q) with
            | none => exact absurd h hsome.out
            | some z => exact ⟨z, rfl⟩
          have hz := Lib.hid hz0
          clear hz0
          obtain ⟨z1, z2, -⟩ := solve_sol hfo'.out g55.out hz.out
          have hz1 := Lib.hid z1
          have hz2 := Lib.hid z2
          clear z1 z2
          have hss := Lib.hid (show solveS (qsM rs0) (d5.map FrD.q) = (z, 0) by unfold solveS; rw [if_pos ⟨hfo'.out, g55.out⟩, hz.out])
          have hgb : gK 91 n ≤ 380000 := Nat.le_trans (gK_mono 91 hcl.out) (by decide)
          have hzf := Lib.hid (show QFits (gK 91 n) z by rw [← hn.out]; exact solve_fits (by decide) hfo'.out (hfm'.out.mono (by decide)) hf5.out g55.out hz.out)
          have hsv := solve_any (K := 91) (hM.below bT) h5 (hfm'.out.mono (by decide)) hf5.out (by rw [hn.out]; omega) (by omega) (by rw [hn.out]; have := hcl.out; omega)
          rw [hss.out] at hsv
          go_wp2_with fail
          refine (hsv).mono ?_
          rintro e y8 ⟨A6, c6, d6, rfl, h6, q6, by8⟩
          replace h5 := h5.below by8
          replace bT := bT.trans (by8.mono bT.size)
          clear hsv
          have tZ := Lib.hid (show timesS (qsM rs0) (d6.map FrD.q) = d5.map FrD.q by
            have e : (d6.map FrD.q) = z := q6.out
            rw [e]
            unfold timesS; rw [hfo'.out, hz1.out]; simp [hz2.out])
          have g6 : d6.length ≤ 6 := by
            have e : (d6.map FrD.q) = z := q6.out
            rw [← List.length_map (f := FrD.q), e, hz1.out, hn.out]; exact hcl.out
          have hK6 : 1 + (d6.length + 1) * (gK 91 n + gK 91 n + 1) < 400000000 := by
            have h1 : (d6.length + 1) * (gK 91 n + gK 91 n + 1) ≤ 7 * 760001 := Nat.mul_le_mul (by omega) (by omega)
            omega
          have htz := times_any (K := gK 91 n) (hM.below bT) h6 (hfm'.out.mono (Nat.le_trans (by decide) (gK_le 91 n))) (by have e : (d6.map FrD.q) = z := q6.out; rw [e]; exact hzf.out) hK6 (by omega)
          rw [tZ.out] at htz
          go_wp2_with fail
          refine (htz).mono ?_
          rintro e y9 ⟨A7, c7, d7, rfl, h7, q7, by9⟩
          replace h5 := h5.below by9
          replace h6 := h6.below by9
          replace bT := bT.trans (by9.mono bT.size)
          clear htz
          have hsm := same17_any h7 h5
          have e7 := Lib.hid (show decide (d7.map FrD.q = d5.map FrD.q) = true from decide_eq_true q7.out)
          rw [e7.out] at hsm
          go_wp2_with fail
          refine (hsm).mono ?_
          rintro e y10 ⟨rfl, by10⟩
          replace h5 := h5.below by10
          replace h6 := h6.below by10
          replace h7 := h7.below by10
          replace bT := bT.trans (by10.mono bT.size)
          clear hsm
          go_wp2_with fail
          refine (awake17_any _).mono ?_
          rintro e wz ⟨rfl, bz⟩
          go_wp2
          go_ret
          exact ⟨rfl, bT.trans (bz.mono bT.size)⟩

/-! ### THE ROW's STEP: WRITTEN OUT: LEAVE IT -/
set_option maxRecDepth 100000 in
theorem lifted (os : Os) (started : os.Started) (H : Type) (enc : TypeId × Value → H) :
    ReturnsInHanded {} Try.checked os 10 .any (Rows.matrixLinearSpec.pre6 enc Try.prog Try.f10 Rows.matrixLinearRow.domain false) (Rows.matrixLinearSpec.post enc Try.prog Try.f10 false true false false) := by
  refine returnsInHanded_of_change (C := Try.checked) own started (by kernel_rfl) Try.func10
    (ChangeSpec.witness6 (enc := enc) (C := Try.checked) false ⟨#[], #[.slice none 0 0, .slice none 0 0, .slice none 0 0], []⟩ 8 (by kernel_rfl) (by kernel_rfl) (by kernel_rfl) (by kernel_rfl)) ?_
  intro W base args ds gs before hval0 hW hcnd _
  have hval : ∀ (j : Nat) t v, Try.f10.params[j]? = some t → args[j]? = some v → Value.okWide Try.prog W .any base t v := hval0
  have hW' := hW
  obtain ⟨p, q, hA0, hV, rfl, hfz, hnd⟩ := hW
  have hA : DataW.TrodAll enc Try.prog W 0 (fun _ => true) true Try.f10.params.toList args.toList ds p := hA0
  rw [Try.params10] at hA hval
  obtain ⟨v0, vs0, d0, ds0, p0, q0, hargs, rfl, rfl, h0, r0⟩ := trodAll_cons hA
  obtain ⟨v1, vs1, d1, ds1, p1, q1, rfl, rfl, rfl, h1, r1⟩ := trodAll_cons r0
  obtain ⟨v2, vs2, d2, ds2, p2, q2, rfl, rfl, rfl, h2, r2⟩ := trodAll_cons r1
  obtain ⟨rfl, rfl, rfl⟩ := trodAll_nil r2
  obtain rfl : args = #[v0, v1, v2] := by cases args; simp_all
  obtain ⟨rfl, rfl⟩ := trodVars_none hV
  have k0 := h0
  have lt0 : ∀ x ∈ p0, x.block < W.heap.size := by obtain ⟨m, hm⟩ := k0; exact DataW.trod_lt m _ _ _ hm
  obtain ⟨A0, c0, rs0, rfl, w0⟩ := open_matrix (hval 0 22 v0 rfl rfl) h0
  have k1 := h1
  have lt1 : ∀ x ∈ p1, x.block < W.heap.size := by obtain ⟨m, hm⟩ := k1; exact DataW.trod_lt m _ _ _ hm
  obtain ⟨A1, c1, ds1, rfl, w1, x1⟩ := open_fracs (hval 1 23 v1 rfl rfl) h1
  have k2 := h2
  have lt2 : ∀ x ∈ p2, x.block < W.heap.size := by obtain ⟨m, hm⟩ := k2; exact DataW.trod_lt m _ _ _ hm
  obtain ⟨A2, c2, ds2, rfl, w2, x2⟩ := open_fracs (hval 2 23 v2 rfl rfl) h2
  clear hA0 hval0
  refine (walk A0 c0 rs0 A1 c1 ds1 A2 c2 ds2 W w0 w1 x1 w2 x2).mono fun e W' ⟨he, bel⟩ => ?_
  subst he
  exact ⟨_, rfl, _, _, _, [], _, [], hW', trodAll_mk1 (shut_bool Try.underlying4 _), (trodAll_cons_mk (Below.trod laidOut (by kernel_rfl) (of_decide_eq_true (by kernel_rfl)) k0 bel lt0) (trodAll_cons_mk (Below.trod laidOut (by kernel_rfl) (of_decide_eq_true (by kernel_rfl)) k1 bel lt1) (trodAll_cons_mk (Below.trod laidOut (by kernel_rfl) (of_decide_eq_true (by kernel_rfl)) k2 bel lt2) trodAll_mk0))), rfl, bel.frame _, fun h => by cases h⟩

theorem over : Rows.matrixLinearRow.holds Try.pinned (OpenSpec.ofChange Rows.matrixLinearSpec) :=
  OpenClaim.holds_of_wide 10 Try.f10 rfl rfl rfl rfl rfl rfl rfl ⟨rfl, rfl, rfl, rfl, rfl⟩ rfl rfl rfl rfl rfl (by kernel_rfl) Try.func10 (by kernel_rfl)
    (of_decide_eq_true (by kernel_rfl)) (by unfold Func.isWrapper; first | (rw [if_pos (by decide +kernel)]; kernel_rfl) | (rw [if_neg (by decide +kernel)]; exact ⟨rfl, rfl⟩))
    (fun os started H enc _ => lifted os started H enc)

/-- ████ THE STATEMENT ████ -/
theorem proved : Rows.MatrixLinearSaid := over
#print axioms proved
end Go.Proofs.Ytkjmliebkbbogaa.matrixLinear
