/- R02 Parse: what the call does. -/
import Derived.Test.YtghpcimeobmonaaGFmt
import Derived.Test.YtghpcimeobmonaaFParse
namespace Go.Proofs.Ytghpcimeobmonaa
set_option linter.unusedVariables false
set_option linter.unusedSimpArgs false
open Go.RowKit Plain
attribute [local go_sem ↓] Go.wp_at_zero Go.wp_at_succ

theorem numL_get {l : List Nat} {j : Nat} (h : j < (numL l).length) : l.getD j 0 ≠ 47 := by
  have h1 : (numL l).getD j 0 = l.getD j 0 := by
    rw [← take_numL l, List.getD_eq_getElem?_getD, List.getElem?_take, if_pos h, ← List.getD_eq_getElem?_getD]
  rw [← h1, List.getD_eq_getElem?_getD, List.getElem?_eq_getElem h]
  have hm : (numL l)[j] ∈ numL l := List.getElem_mem h
  have : ((numL l)[j] != 47) = true := by
    have := List.all_takeWhile (p := (· != 47)) (l := l)
    rw [List.all_eq_true] at this
    exact this _ hm
  simpa using this
theorem numL_end {l : List Nat} (h : (numL l).length < l.length) : l.getD (numL l).length 0 = 47 ∧ twoL l = true := by
  induction l with
  | nil => simp at h
  | cons b l ih =>
    unfold numL twoL at *
    rw [List.takeWhile_cons] at h ⊢
    by_cases hb : b = 47
    · subst hb; simp
    · have hb2 : (b != 47) = true := by simpa using hb
      rw [if_pos hb2] at h ⊢
      simp only [List.length_cons, Nat.add_lt_add_iff_right] at h
      obtain ⟨h1, h2⟩ := ih h
      refine ⟨by simpa using h1, ?_⟩
      simp [h2]
theorem numL_full {l : List Nat} (h : (numL l).length = l.length) : twoL l = false := by
  cases h2 : twoL l with
  | false => rfl
  | true => have := numL_lt h2; omega
theorem bytes_slice {s : ByteArray} {f k : Nat} (h : k ≤ s.size) : bytes (s.extract f k) = ((bytes s).drop f).take (k - f) := bytes_extract s f k h
theorem getD_drop (l : List Nat) (f j : Nat) : (l.drop f).getD j 0 = l.getD (f + j) 0 := by
  rw [List.getD_eq_getElem?_getD, List.getElem?_drop, ← List.getD_eq_getElem?_getD]
theorem num_at {l r : List Nat} {f k : Nat} (hr : l.drop f = r) (hk : k = f + (numL r).length) : (l.drop f).take (k - f) = numL r := by
  subst hk
  rw [Nat.add_sub_cancel_left, hr, take_numL]
theorem den_at {l r : List Nat} {f k : Nat} (hr : l.drop f = r) (hk : k = f + (numL r).length) : denL r = l.drop (k + 1) := by
  subst hk
  rw [← drop_numL, ← hr, List.drop_drop, Nat.add_assoc]
theorem refMake_anyN {neg : Bool} {A B : Option Addr} {ca cb m n : Nat} {la lb : List Nat} {w : World} (ha : Nv w A ca la) (hb : Nv w B cb lb) (ia : NatIs la m) (ib : NatIs lb n) (h0 : n ≠ 0) (hla : la.length ≤ 400000000) (hlb : lb.length ≤ 400000000) :
    Calls Try.prog 23 #[.bool neg, .slice A la.length ca, .slice B lb.length cb] w (RetQE (mkRat (sg neg m) n) w) := by
  have := refMake_any (neg := neg) ha hb (by rw [ib.val]; exact h0) ia.canon ib.canon hla hlb
  rw [ia.val, ib.val] at this
  exact this

set_option maxRecDepth 100000 in
set_option maxHeartbeats 4000000 in
theorem refParseF_long (s : ByteArray) (w : World) (hs : 1202 < s.size) (hs2 : s.size ≤ 9223372036854775807) :
    Calls Try.prog 14 #[.string s] w (RetPF (bytes s) w) := by
  obtain ⟨w1, hw1, bw1, hlt1, hBr⟩ := boxed w #[.bool false, .slice none 0 0, .slice none 0 0] 25
  have hd : decide ((1202 : Int) < (s.size : Int)) = true := decide_eq_true (by omega)
  have hl := Lib.hid (bytes_length s)
  have r0 := hBr.f0
  have r1 := hBr.f1
  have r2 := hBr.f2
  have t0 := hBr.free 0
  have t1 := hBr.free 1
  have t2 := hBr.free 2

  go_enter Try.func14, Try.ntmps14
  go_wp2
  obtain ⟨w9, hw9, hB9, o9⟩ := hBr.set3 (.bool false) (.slice none 0 0) (.slice none 0 0)
  rw [hw9]
  have e0 := hB9.f0
  have e1 := hB9.f1
  have e2 := hB9.f2
  refine bodyPost_ret (v := .tuple #[fracV false none 0 0 none 0 0, .int .i64 3]) (by simp [results, Try.results14, go_sem, e0, e1, e2]) rfl ?_
  exact retPF_long (by rw [hl.out]; exact hs) ⟨rfl, o9.to_below bw1 (Nat.le_refl _) bw1.size⟩
set_option maxRecDepth 100000 in
set_option maxHeartbeats 8000000 in
theorem refParseF_empty (s : ByteArray) (w : World) (hs : s.size ≤ 1202) (h0 : s.size = 0) :
    Calls Try.prog 14 #[.string s] w (RetPF (bytes s) w) := by
  obtain ⟨w1, hw1, bw1, hlt1, hB1⟩ := boxed w #[.bool false, .slice none 0 0, .slice none 0 0] 25
  have hd : decide ((1202 : Int) < (s.size : Int)) = false := decide_eq_false (by omega)
  have hl := Lib.hid (show ¬ 1202 < (bytes s).length by rw [bytes_length]; omega)
  have hbl := Lib.hid (bytes_length s)
  have hneg := Lib.hid (show negL (bytes s) = false by rw [(bytes_nil s).2 h0]; rfl)
  have hd0 : decide ((0 : Int) < (s.size : Int)) = false := decide_eq_false (by omega)
  have hd0n : decide (0 < s.size) = false := decide_eq_false (by omega)
  have h0' := Lib.hid h0
  have hrest := Lib.hid (show (bytes s).drop 0 = restL (bytes s) by unfold restL; rw [hneg.out]; rfl)
  have hrl := Lib.hid (show (restL (bytes s)).length = s.size - 0 by rw [← hrest.out, List.length_drop, bytes_length])
  have hn1 := Lib.hid (Nat.le_trans (numL_len (restL (bytes s))) (Nat.le_trans (restL_len (bytes s)) (Nat.le_of_eq (bytes_length s))))
  have hn2 := Lib.hid (Nat.le_trans (dL_len (bytes s)) (Nat.succ_le_succ (Nat.le_of_eq (bytes_length s))))
  clear h0
  go_enter Try.func14, Try.ntmps14
  go_wp2
  go_loop [5] (fun i => ∃ k : Nat, 0 ≤ k ∧ k ≤ s.size ∧ i = .int .i64 k ∧ Hid (k - 0 ≤ (numL (restL (bytes s))).length)) (fun i => s.size - (intOf i).toNat)
  case atStart => exact ⟨0, by omega, by omega, rfl, Nat.le_trans (Nat.le_of_eq (Nat.sub_self _)) (Nat.zero_le _)⟩
  case round =>
    obtain ⟨k, hfk, hk, rfl, hin⟩ := hrel
    by_cases hlt : k < s.size
    · exact absurd hlt (by have := h0'.out; omega)
    · obtain rfl : k = s.size := by omega
      have hlt' : decide ((s.size : Int) < (s.size : Int)) = false := decide_eq_false (by omega)
      obtain ⟨k, hkk⟩ : ∃ k, s.size = k := ⟨_, rfl⟩
      have hkN := Lib.hid (show s.size - 0 = (numL (restL (bytes s))).length by
        have h1 := numL_len (restL (bytes s)); have h2 := hrl.out; have h3 := hin.out; omega)
      have hNE := Lib.hid (show s.size = 0 + (numL (restL (bytes s))).length by have := hkN.out; omega)
      have h2' := Lib.hid (numL_full (l := restL (bytes s)) (by rw [← hkN.out, hrl.out]))
      clear hkN hin hkk
      have hN' := Lib.hid (show bytes (s) = numL (restL (bytes s)) by have h := num_at hrest.out hNE.out; rw [← bytes_slice (Nat.le_refl _)] at h; simpa using h)
      have hNs : (s).size ≤ 9223372036854775807 := by rw [← bytes_length, hN'.out]; have := hn1.out; omega
      have hDL' := Lib.hid (show bytes (⟨#[49]⟩ : ByteArray) = dL (bytes s) by
        unfold dL; rw [h2'.out]
        rfl)
      have hDs : (⟨#[49]⟩ : ByteArray).size ≤ 9223372036854775807 := by rw [← bytes_length, hDL'.out]; have := hn2.out; omega
      have hB2 := hB1
      go_wp2_with fail
      refine (refParse_any (s) _ hNs).mono ?_
      rintro e w3 ⟨X, cx, x, rfl, nx, ix, mx, b3⟩
      rw [hN'.out] at ix
      rw [hN'.out]
      have ix' := Lib.hid ix
      clear ix
      go_wp2_with fail
      refine (refParse_any (⟨#[49]⟩) _ hDs).mono ?_
      rintro e w4 ⟨Y, cy, y, rfl, ny, iy, my, b4⟩
      rw [hDL'.out] at iy
      rw [hDL'.out]
      have iy' := Lib.hid iy
      clear iy
      have b03 := bw1.trans (b3.mono bw1.size)
      have b04 := b03.trans (b4.mono b03.size)
      have hB4 := (hB2.keep b3).keep b4
      have nx4 := nx.below b4
      clear b3 b4 nx b03 hB2 hB1
      obtain ⟨p, hp⟩ : ∃ p, Hid (parErr (numL (restL (bytes s))) = p) := ⟨_, rfl⟩
      obtain ⟨q, hq⟩ : ∃ p, Hid (parErr (dL (bytes s)) = p) := ⟨_, rfl⟩
      rw [hp.out, hq.out]
      by_cases hp0 : p = 0
      · by_cases hq0 : q = 0
        · subst hp0 hq0
          by_cases hz : parVal (dL (bytes s)) = 0
          · have hy := (iy'.out.zero_iff).2 hz
            have hbad := Lib.hid (pfOK_z hz)
            clear hz
            subst hy
            go_wp2_with fail
            refine (refMake_zero (B := Y) (cb := cy)).mono ?_
            rintro e w5 ⟨rfl, b5⟩
            have b05 := b04.trans (b5.mono b04.size)
            obtain ⟨w6, hw6, bw6, hlt6, hB6⟩ := boxed w5 #[.bool false, .slice none 0 0, .slice none 0 0] 25
            have hBr := (hB4.keep b5).keep bw6
            have b06 := b05.trans (bw6.mono b05.size)
            have x0 := hB6.f0
            have x1 := hB6.f1
            have x2 := hB6.f2
            have v0 := hB6.free 0
            have v1 := hB6.free 1
            have v2 := hB6.free 2
            have s0 := hB6.same (i := 0) (u := .bool false) rfl
            have s1 := hB6.same (i := 1) (u := .slice none 0 0) rfl
            have s2 := hB6.same (i := 2) (u := .slice none 0 0) rfl
            have r0 := hBr.f0
            have r1 := hBr.f1
            have r2 := hBr.f2
            have t0 := hBr.free 0
            have t1 := hBr.free 1
            have t2 := hBr.free 2
            go_wp2
            obtain ⟨w9, hw9, hB9, o9⟩ := hBr.set3 (.bool false) (.slice none 0 0) (.slice none 0 0)
            rw [hw9]
            have e0 := hB9.f0
            have e1 := hB9.f1
            have e2 := hB9.f2
            refine bodyPost_ret (v := .tuple #[fracV false none 0 0 none 0 0, .int .i64 2]) (by simp [results, Try.results14, go_sem, e0, e1, e2]) rfl ?_
            exact retPF_bad hl.out hbad.out ⟨rfl, o9.to_below b06 (Nat.le_refl _) b06.size⟩
          · go_wp2_with fail
            refine (refMake_anyN (neg := false) nx4 ny ix'.out iy'.out hz (by omega) (by omega)).mono ?_
            rintro e w5 ⟨v, rfl, ⟨m0, A1, c1, l1, B1, d1, m1, rfl, ma, mb, hQ⟩, b5⟩
            have hQ1 : QIs m0 l1 m1 (pfQ (bytes s)) := by unfold pfQ; rw [hneg.out]; exact hQ
            clear hQ
            have hfit : Fits 601 (pfQ (bytes s)) := fits_mk (by rw [sg_natAbs, ← ix'.out.val]; exact Nat.lt_of_lt_of_le (val_lt nx4.dig) (pw_mono (by omega))) (by rw [← iy'.out.val]; exact Nat.lt_of_lt_of_le (val_lt ny.dig) (pw_mono (by omega)))
            have hlen := QIs.fits hQ1 hfit
            have hFm : fmtB m0 (val l1) (val m1) = fmtQ (pfQ (bytes s)) := by unfold fmtQ; rw [hQ1.na.val, hQ1.nb.val, hQ1.2.2]
            have hFm' := Lib.hid hFm
            have hcl := Lib.hid hQ1.na.canon
            have hcm := Lib.hid hQ1.nb.canon
            have hQ' := Lib.hid hQ1
            clear hQ1 hFm hfit
            have b05 := b04.trans (b5.mono b04.size)
            obtain ⟨w6, hw6, bw6, hlt6, hB6⟩ := boxed w5 #[.bool m0, .slice A1 l1.length c1, .slice B1 m1.length d1] 25
            have x0 := hB6.f0
            have x1 := hB6.f1
            have x2 := hB6.f2
            have hB6' := (hB4.keep b5).keep bw6
            have b06 := b05.trans (bw6.mono b05.size)
            go_wp2_with fail
            refine (refFormatF_nat (neg := m0) (ma.below bw6) (mb.below bw6) hcl.out hcm.out (by omega) (by omega)).mono ?_
            rintro e w7 ⟨rfl, b7⟩
            rw [hFm'.out]
            obtain ⟨F, hF⟩ : ∃ F, Hid (fmtQ (pfQ (bytes s)) = F) := ⟨_, rfl⟩
            rw [hF.out]
            have hX := hB6.keep b7
            clear x0 x1 x2
            have x0 := hX.f0
            have x1 := hX.f1
            have x2 := hX.f2
            have hBr := hB6'.keep b7
            have b07 := b06.trans (b7.mono b06.size)
            have heq := beq_bytes F s
            by_cases hs : bytes F = bytes s
            · have hcmp : (F.toList == s.toList) = true := by rw [heq]; exact decide_eq_true hs
              have hgood := Lib.hid (show pfOK (bytes s) = true from decide_eq_true ⟨hp.out, hq.out, hz, by rw [hF.out]; exact hs⟩)
              clear heq hs hz
              have r0 := hBr.f0
              have r1 := hBr.f1
              have r2 := hBr.f2
              have t0 := hBr.free 0
              have t1 := hBr.free 1
              have t2 := hBr.free 2
              go_wp2
              obtain ⟨w9, hw9, hB9, o9⟩ := hBr.set3 (.bool m0) (.slice A1 l1.length c1) (.slice B1 m1.length d1)
              rw [hw9]
              have e0 := hB9.f0
              have e1 := hB9.f1
              have e2 := hB9.f2
              refine bodyPost_ret (v := .tuple #[fracV m0 A1 l1.length c1 B1 m1.length d1, .int .i64 0]) (by simp [results, Try.results14, go_sem, e0, e1, e2]) rfl ?_
              have m1' := ((ma.below bw6).below b7).only_blk hBr (noDig3 _ _ _ _ _ _ _) o9
              have m2' := ((mb.below bw6).below b7).only_blk hBr (noDig3 _ _ _ _ _ _ _) o9
              exact retPF_ok hl.out hgood.out ⟨_, rfl, ⟨m0, A1, c1, l1, B1, d1, m1, rfl, m1', m2', hQ'.out⟩, o9.to_below b07 (Nat.le_refl _) b07.size⟩
            · have hcmp : (F.toList == s.toList) = false := by rw [heq]; exact decide_eq_false hs
              have hbad := Lib.hid (show pfOK (bytes s) = false from pfOK_f (by rw [hF.out]; exact hs))
              clear heq hs hz
              have r0 := hBr.f0
              have r1 := hBr.f1
              have r2 := hBr.f2
              have t0 := hBr.free 0
              have t1 := hBr.free 1
              have t2 := hBr.free 2
              go_wp2
              obtain ⟨w9, hw9, hB9, o9⟩ := hBr.set3 (.bool false) (.slice none 0 0) (.slice none 0 0)
              rw [hw9]
              have e0 := hB9.f0
              have e1 := hB9.f1
              have e2 := hB9.f2
              refine bodyPost_ret (v := .tuple #[fracV false none 0 0 none 0 0, .int .i64 2]) (by simp [results, Try.results14, go_sem, e0, e1, e2]) rfl ?_
              exact retPF_bad hl.out hbad.out ⟨rfl, o9.to_below b07 (Nat.le_refl _) b07.size⟩
        · have hbad := Lib.hid (show pfOK (bytes s) = false from pfOK_d (by rw [hq.out]; exact hq0))
          have hq1 : ((q : Int) == 0) = false := by rw [beq_eq_false_iff_ne]; omega
          subst hp0
          have hBr := hB4
          have r0 := hBr.f0
          have r1 := hBr.f1
          have r2 := hBr.f2
          have t0 := hBr.free 0
          have t1 := hBr.free 1
          have t2 := hBr.free 2
          go_wp2
          obtain ⟨w9, hw9, hB9, o9⟩ := hBr.set3 (.bool false) (.slice none 0 0) (.slice none 0 0)
          rw [hw9]
          have e0 := hB9.f0
          have e1 := hB9.f1
          have e2 := hB9.f2
          refine bodyPost_ret (v := .tuple #[fracV false none 0 0 none 0 0, .int .i64 2]) (by simp [results, Try.results14, go_sem, e0, e1, e2]) rfl ?_
          exact retPF_bad hl.out hbad.out ⟨rfl, o9.to_below b04 (Nat.le_refl _) b04.size⟩
      · have hbad := Lib.hid (show pfOK (bytes s) = false from pfOK_n (by rw [hp.out]; exact hp0))
        have hp1 : ((p : Int) == 0) = false := by rw [beq_eq_false_iff_ne]; omega
        have hBr := hB4
        have r0 := hBr.f0
        have r1 := hBr.f1
        have r2 := hBr.f2
        have t0 := hBr.free 0
        have t1 := hBr.free 1
        have t2 := hBr.free 2
        go_wp2
        obtain ⟨w9, hw9, hB9, o9⟩ := hBr.set3 (.bool false) (.slice none 0 0) (.slice none 0 0)
        rw [hw9]
        have e0 := hB9.f0
        have e1 := hB9.f1
        have e2 := hB9.f2
        refine bodyPost_ret (v := .tuple #[fracV false none 0 0 none 0 0, .int .i64 2]) (by simp [results, Try.results14, go_sem, e0, e1, e2]) rfl ?_
        exact retPF_bad hl.out hbad.out ⟨rfl, o9.to_below b04 (Nat.le_refl _) b04.size⟩
set_option maxRecDepth 100000 in
set_option maxHeartbeats 8000000 in
theorem refParseF_neg (s : ByteArray) (w : World) (hs : s.size ≤ 1202) (h0 : 0 < s.size) (hb : (bytes s).getD 0 0 = 45) :
    Calls Try.prog 14 #[.string s] w (RetPF (bytes s) w) := by
  obtain ⟨w1, hw1, bw1, hlt1, hB1⟩ := boxed w #[.bool false, .slice none 0 0, .slice none 0 0] 25
  have hd : decide ((1202 : Int) < (s.size : Int)) = false := decide_eq_false (by omega)
  have hl := Lib.hid (show ¬ 1202 < (bytes s).length by rw [bytes_length]; omega)
  have hbl := Lib.hid (bytes_length s)
  have hneg := Lib.hid (show negL (bytes s) = true by
    unfold negL
    rw [List.head?_eq_getElem?, List.getElem?_eq_getElem (by rw [bytes_length]; exact h0)]
    rw [List.getD_eq_getElem?_getD, List.getElem?_eq_getElem (by rw [bytes_length]; exact h0)] at hb
    simpa using hb)
  have hd0 : decide ((0 : Int) < (s.size : Int)) = true := decide_eq_true (by omega)
  have hb0 : (((s[0]).toNat : Int) == 45) = true := by rw [← bytes_get s 0 h0, beq_iff_eq, hb]; rfl
  have hrest := Lib.hid (show (bytes s).drop 1 = restL (bytes s) by unfold restL; rw [hneg.out]; rw [if_pos rfl, List.drop_one])
  have hrl := Lib.hid (show (restL (bytes s)).length = s.size - 1 by rw [← hrest.out, List.length_drop, bytes_length])
  have hn1 := Lib.hid (Nat.le_trans (numL_len (restL (bytes s))) (Nat.le_trans (restL_len (bytes s)) (Nat.le_of_eq (bytes_length s))))
  have hn2 := Lib.hid (Nat.le_trans (dL_len (bytes s)) (Nat.succ_le_succ (Nat.le_of_eq (bytes_length s))))
  clear hb
  go_enter Try.func14, Try.ntmps14
  go_wp2
  go_loop [5] (fun i => ∃ k : Nat, 1 ≤ k ∧ k ≤ s.size ∧ i = .int .i64 k ∧ Hid (k - 1 ≤ (numL (restL (bytes s))).length)) (fun i => s.size - (intOf i).toNat)
  case atStart => exact ⟨1, by omega, by omega, rfl, Nat.le_trans (Nat.le_of_eq (Nat.sub_self _)) (Nat.zero_le _)⟩
  case round =>
    obtain ⟨k, hfk, hk, rfl, hin⟩ := hrel
    by_cases hlt : k < s.size
    · have hbk := Lib.hid (bytes_get s k hlt)
      have hrk := Lib.hid (show (restL (bytes s)).getD (k - 1) 0 = (s[k]).toNat by rw [← hrest.out, getD_drop, show 1 + (k - 1) = k by omega, hbk.out])
      by_cases hc : (s[k]).toNat = 47
      · have hc1 : (((s[k]).toNat : Int) == 47) = true := by rw [beq_iff_eq, hc]; rfl
        have hkN := Lib.hid (show k - 1 = (numL (restL (bytes s))).length by
          rcases Nat.lt_or_ge (k - 1) (numL (restL (bytes s))).length with h | h
          · exact absurd (hrk.out.trans hc) (numL_get h)
          · exact Nat.le_antisymm hin.out h)
        have hNE := Lib.hid (show k = 1 + (numL (restL (bytes s))).length by have := hkN.out; omega)
        have h2' := Lib.hid (numL_end (l := restL (bytes s)) (by rw [← hkN.out, hrl.out]; omega)).2
        clear hc hkN hrk hbk hin
        have hN' := Lib.hid (show bytes (s.extract 1 k) = numL (restL (bytes s)) by rw [bytes_slice hk]; exact num_at hrest.out hNE.out)
        have hNs : (s.extract 1 k).size ≤ 9223372036854775807 := by rw [← bytes_length, hN'.out]; have := hn1.out; omega
        have hDL' := Lib.hid (show bytes (s.extract (k + 1) s.size : ByteArray) = dL (bytes s) by
          unfold dL; rw [h2'.out]
          rw [if_pos rfl, bytes_extract _ _ _ (Nat.le_refl _), den_at hrest.out hNE.out]
          exact List.take_of_length_le (by rw [List.length_drop, bytes_length]; omega))
        have hDs : (s.extract (k + 1) s.size : ByteArray).size ≤ 9223372036854775807 := by rw [← bytes_length, hDL'.out]; have := hn2.out; omega
        have c1 : (0 : Int) ≤ (k : Int) + 1 := by omega
        have c2 : (k : Int) + 1 ≤ (s.size : Int) := by omega
        have hB2 := hB1
        go_wp2_with fail
        refine (refParse_any (s.extract 1 k) _ hNs).mono ?_
        rintro e w3 ⟨X, cx, x, rfl, nx, ix, mx, b3⟩
        rw [hN'.out] at ix
        rw [hN'.out]
        have ix' := Lib.hid ix
        clear ix
        go_wp2_with fail
        refine (refParse_any (s.extract (k + 1) s.size) _ hDs).mono ?_
        rintro e w4 ⟨Y, cy, y, rfl, ny, iy, my, b4⟩
        rw [hDL'.out] at iy
        rw [hDL'.out]
        have iy' := Lib.hid iy
        clear iy
        have b03 := bw1.trans (b3.mono bw1.size)
        have b04 := b03.trans (b4.mono b03.size)
        have hB4 := (hB2.keep b3).keep b4
        have nx4 := nx.below b4
        clear b3 b4 nx b03 hB2 hB1
        obtain ⟨p, hp⟩ : ∃ p, Hid (parErr (numL (restL (bytes s))) = p) := ⟨_, rfl⟩
        obtain ⟨q, hq⟩ : ∃ p, Hid (parErr (dL (bytes s)) = p) := ⟨_, rfl⟩
        rw [hp.out, hq.out]
        by_cases hp0 : p = 0
        · by_cases hq0 : q = 0
          · subst hp0 hq0
            by_cases hz : parVal (dL (bytes s)) = 0
            · have hy := (iy'.out.zero_iff).2 hz
              have hbad := Lib.hid (pfOK_z hz)
              clear hz
              subst hy
              go_wp2_with fail
              refine (refMake_zero (B := Y) (cb := cy)).mono ?_
              rintro e w5 ⟨rfl, b5⟩
              have b05 := b04.trans (b5.mono b04.size)
              obtain ⟨w6, hw6, bw6, hlt6, hB6⟩ := boxed w5 #[.bool false, .slice none 0 0, .slice none 0 0] 25
              have hBr := (hB4.keep b5).keep bw6
              have b06 := b05.trans (bw6.mono b05.size)
              have x0 := hB6.f0
              have x1 := hB6.f1
              have x2 := hB6.f2
              have v0 := hB6.free 0
              have v1 := hB6.free 1
              have v2 := hB6.free 2
              have s0 := hB6.same (i := 0) (u := .bool false) rfl
              have s1 := hB6.same (i := 1) (u := .slice none 0 0) rfl
              have s2 := hB6.same (i := 2) (u := .slice none 0 0) rfl
              have r0 := hBr.f0
              have r1 := hBr.f1
              have r2 := hBr.f2
              have t0 := hBr.free 0
              have t1 := hBr.free 1
              have t2 := hBr.free 2
              go_wp2
              obtain ⟨w9, hw9, hB9, o9⟩ := hBr.set3 (.bool false) (.slice none 0 0) (.slice none 0 0)
              rw [hw9]
              have e0 := hB9.f0
              have e1 := hB9.f1
              have e2 := hB9.f2
              refine bodyPost_ret (v := .tuple #[fracV false none 0 0 none 0 0, .int .i64 2]) (by simp [results, Try.results14, go_sem, e0, e1, e2]) rfl ?_
              exact retPF_bad hl.out hbad.out ⟨rfl, o9.to_below b06 (Nat.le_refl _) b06.size⟩
            · go_wp2_with fail
              refine (refMake_anyN (neg := true) nx4 ny ix'.out iy'.out hz (by omega) (by omega)).mono ?_
              rintro e w5 ⟨v, rfl, ⟨m0, A1, c1, l1, B1, d1, m1, rfl, ma, mb, hQ⟩, b5⟩
              have hQ1 : QIs m0 l1 m1 (pfQ (bytes s)) := by unfold pfQ; rw [hneg.out]; exact hQ
              clear hQ
              have hfit : Fits 601 (pfQ (bytes s)) := fits_mk (by rw [sg_natAbs, ← ix'.out.val]; exact Nat.lt_of_lt_of_le (val_lt nx4.dig) (pw_mono (by omega))) (by rw [← iy'.out.val]; exact Nat.lt_of_lt_of_le (val_lt ny.dig) (pw_mono (by omega)))
              have hlen := QIs.fits hQ1 hfit
              have hFm : fmtB m0 (val l1) (val m1) = fmtQ (pfQ (bytes s)) := by unfold fmtQ; rw [hQ1.na.val, hQ1.nb.val, hQ1.2.2]
              have hFm' := Lib.hid hFm
              have hcl := Lib.hid hQ1.na.canon
              have hcm := Lib.hid hQ1.nb.canon
              have hQ' := Lib.hid hQ1
              clear hQ1 hFm hfit
              have b05 := b04.trans (b5.mono b04.size)
              obtain ⟨w6, hw6, bw6, hlt6, hB6⟩ := boxed w5 #[.bool m0, .slice A1 l1.length c1, .slice B1 m1.length d1] 25
              have x0 := hB6.f0
              have x1 := hB6.f1
              have x2 := hB6.f2
              have hB6' := (hB4.keep b5).keep bw6
              have b06 := b05.trans (bw6.mono b05.size)
              go_wp2_with fail
              refine (refFormatF_nat (neg := m0) (ma.below bw6) (mb.below bw6) hcl.out hcm.out (by omega) (by omega)).mono ?_
              rintro e w7 ⟨rfl, b7⟩
              rw [hFm'.out]
              obtain ⟨F, hF⟩ : ∃ F, Hid (fmtQ (pfQ (bytes s)) = F) := ⟨_, rfl⟩
              rw [hF.out]
              have hX := hB6.keep b7
              clear x0 x1 x2
              have x0 := hX.f0
              have x1 := hX.f1
              have x2 := hX.f2
              have hBr := hB6'.keep b7
              have b07 := b06.trans (b7.mono b06.size)
              have heq := beq_bytes F s
              by_cases hs : bytes F = bytes s
              · have hcmp : (F.toList == s.toList) = true := by rw [heq]; exact decide_eq_true hs
                have hgood := Lib.hid (show pfOK (bytes s) = true from decide_eq_true ⟨hp.out, hq.out, hz, by rw [hF.out]; exact hs⟩)
                clear heq hs hz
                have r0 := hBr.f0
                have r1 := hBr.f1
                have r2 := hBr.f2
                have t0 := hBr.free 0
                have t1 := hBr.free 1
                have t2 := hBr.free 2
                go_wp2
                obtain ⟨w9, hw9, hB9, o9⟩ := hBr.set3 (.bool m0) (.slice A1 l1.length c1) (.slice B1 m1.length d1)
                rw [hw9]
                have e0 := hB9.f0
                have e1 := hB9.f1
                have e2 := hB9.f2
                refine bodyPost_ret (v := .tuple #[fracV m0 A1 l1.length c1 B1 m1.length d1, .int .i64 0]) (by simp [results, Try.results14, go_sem, e0, e1, e2]) rfl ?_
                have m1' := ((ma.below bw6).below b7).only_blk hBr (noDig3 _ _ _ _ _ _ _) o9
                have m2' := ((mb.below bw6).below b7).only_blk hBr (noDig3 _ _ _ _ _ _ _) o9
                exact retPF_ok hl.out hgood.out ⟨_, rfl, ⟨m0, A1, c1, l1, B1, d1, m1, rfl, m1', m2', hQ'.out⟩, o9.to_below b07 (Nat.le_refl _) b07.size⟩
              · have hcmp : (F.toList == s.toList) = false := by rw [heq]; exact decide_eq_false hs
                have hbad := Lib.hid (show pfOK (bytes s) = false from pfOK_f (by rw [hF.out]; exact hs))
                clear heq hs hz
                have r0 := hBr.f0
                have r1 := hBr.f1
                have r2 := hBr.f2
                have t0 := hBr.free 0
                have t1 := hBr.free 1
                have t2 := hBr.free 2
                go_wp2
                obtain ⟨w9, hw9, hB9, o9⟩ := hBr.set3 (.bool false) (.slice none 0 0) (.slice none 0 0)
                rw [hw9]
                have e0 := hB9.f0
                have e1 := hB9.f1
                have e2 := hB9.f2
                refine bodyPost_ret (v := .tuple #[fracV false none 0 0 none 0 0, .int .i64 2]) (by simp [results, Try.results14, go_sem, e0, e1, e2]) rfl ?_
                exact retPF_bad hl.out hbad.out ⟨rfl, o9.to_below b07 (Nat.le_refl _) b07.size⟩
          · have hbad := Lib.hid (show pfOK (bytes s) = false from pfOK_d (by rw [hq.out]; exact hq0))
            have hq1 : ((q : Int) == 0) = false := by rw [beq_eq_false_iff_ne]; omega
            subst hp0
            have hBr := hB4
            have r0 := hBr.f0
            have r1 := hBr.f1
            have r2 := hBr.f2
            have t0 := hBr.free 0
            have t1 := hBr.free 1
            have t2 := hBr.free 2
            go_wp2
            obtain ⟨w9, hw9, hB9, o9⟩ := hBr.set3 (.bool false) (.slice none 0 0) (.slice none 0 0)
            rw [hw9]
            have e0 := hB9.f0
            have e1 := hB9.f1
            have e2 := hB9.f2
            refine bodyPost_ret (v := .tuple #[fracV false none 0 0 none 0 0, .int .i64 2]) (by simp [results, Try.results14, go_sem, e0, e1, e2]) rfl ?_
            exact retPF_bad hl.out hbad.out ⟨rfl, o9.to_below b04 (Nat.le_refl _) b04.size⟩
        · have hbad := Lib.hid (show pfOK (bytes s) = false from pfOK_n (by rw [hp.out]; exact hp0))
          have hp1 : ((p : Int) == 0) = false := by rw [beq_eq_false_iff_ne]; omega
          have hBr := hB4
          have r0 := hBr.f0
          have r1 := hBr.f1
          have r2 := hBr.f2
          have t0 := hBr.free 0
          have t1 := hBr.free 1
          have t2 := hBr.free 2
          go_wp2
          obtain ⟨w9, hw9, hB9, o9⟩ := hBr.set3 (.bool false) (.slice none 0 0) (.slice none 0 0)
          rw [hw9]
          have e0 := hB9.f0
          have e1 := hB9.f1
          have e2 := hB9.f2
          refine bodyPost_ret (v := .tuple #[fracV false none 0 0 none 0 0, .int .i64 2]) (by simp [results, Try.results14, go_sem, e0, e1, e2]) rfl ?_
          exact retPF_bad hl.out hbad.out ⟨rfl, o9.to_below b04 (Nat.le_refl _) b04.size⟩
      · have hc1 : (((s[k]).toNat : Int) == 47) = false := by rw [beq_eq_false_iff_ne]; omega
        have hin2 := Lib.hid (show k + 1 - 1 ≤ (numL (restL (bytes s))).length by
          rcases Nat.lt_or_ge (k - 1) (numL (restL (bytes s))).length with h | h
          · omega
          · have he : k - 1 = (numL (restL (bytes s))).length := Nat.le_antisymm hin.out h
            have h3 := (numL_end (l := restL (bytes s)) (by rw [← he, hrl.out]; omega)).1
            rw [← he, hrk.out] at h3
            exact absurd h3 hc)
        clear hc hrk hbk
        go_wp2
        go_round
        case rel => exact ⟨k + 1, by omega, by omega, by go_num, hin2⟩
        case measure => simp [intOf]; omega
    · obtain rfl : k = s.size := by omega
      have hlt' : decide ((s.size : Int) < (s.size : Int)) = false := decide_eq_false (by omega)
      obtain ⟨k, hkk⟩ : ∃ k, s.size = k := ⟨_, rfl⟩
      have hkN := Lib.hid (show s.size - 1 = (numL (restL (bytes s))).length by
        have h1 := numL_len (restL (bytes s)); have h2 := hrl.out; have h3 := hin.out; omega)
      have hNE := Lib.hid (show s.size = 1 + (numL (restL (bytes s))).length by have := hkN.out; omega)
      have h2' := Lib.hid (numL_full (l := restL (bytes s)) (by rw [← hkN.out, hrl.out]))
      clear hkN hin hkk
      have hN' := Lib.hid (show bytes (s.extract 1 s.size) = numL (restL (bytes s)) by have h := num_at hrest.out hNE.out; rw [← bytes_slice (Nat.le_refl _)] at h; simpa using h)
      have hNs : (s.extract 1 s.size).size ≤ 9223372036854775807 := by rw [← bytes_length, hN'.out]; have := hn1.out; omega
      have hDL' := Lib.hid (show bytes (⟨#[49]⟩ : ByteArray) = dL (bytes s) by
        unfold dL; rw [h2'.out]
        rfl)
      have hDs : (⟨#[49]⟩ : ByteArray).size ≤ 9223372036854775807 := by rw [← bytes_length, hDL'.out]; have := hn2.out; omega
      have hB2 := hB1
      go_wp2_with fail
      refine (refParse_any (s.extract 1 s.size) _ hNs).mono ?_
      rintro e w3 ⟨X, cx, x, rfl, nx, ix, mx, b3⟩
      rw [hN'.out] at ix
      rw [hN'.out]
      have ix' := Lib.hid ix
      clear ix
      go_wp2_with fail
      refine (refParse_any (⟨#[49]⟩) _ hDs).mono ?_
      rintro e w4 ⟨Y, cy, y, rfl, ny, iy, my, b4⟩
      rw [hDL'.out] at iy
      rw [hDL'.out]
      have iy' := Lib.hid iy
      clear iy
      have b03 := bw1.trans (b3.mono bw1.size)
      have b04 := b03.trans (b4.mono b03.size)
      have hB4 := (hB2.keep b3).keep b4
      have nx4 := nx.below b4
      clear b3 b4 nx b03 hB2 hB1
      obtain ⟨p, hp⟩ : ∃ p, Hid (parErr (numL (restL (bytes s))) = p) := ⟨_, rfl⟩
      obtain ⟨q, hq⟩ : ∃ p, Hid (parErr (dL (bytes s)) = p) := ⟨_, rfl⟩
      rw [hp.out, hq.out]
      by_cases hp0 : p = 0
      · by_cases hq0 : q = 0
        · subst hp0 hq0
          by_cases hz : parVal (dL (bytes s)) = 0
          · have hy := (iy'.out.zero_iff).2 hz
            have hbad := Lib.hid (pfOK_z hz)
            clear hz
            subst hy
            go_wp2_with fail
            refine (refMake_zero (B := Y) (cb := cy)).mono ?_
            rintro e w5 ⟨rfl, b5⟩
            have b05 := b04.trans (b5.mono b04.size)
            obtain ⟨w6, hw6, bw6, hlt6, hB6⟩ := boxed w5 #[.bool false, .slice none 0 0, .slice none 0 0] 25
            have hBr := (hB4.keep b5).keep bw6
            have b06 := b05.trans (bw6.mono b05.size)
            have x0 := hB6.f0
            have x1 := hB6.f1
            have x2 := hB6.f2
            have v0 := hB6.free 0
            have v1 := hB6.free 1
            have v2 := hB6.free 2
            have s0 := hB6.same (i := 0) (u := .bool false) rfl
            have s1 := hB6.same (i := 1) (u := .slice none 0 0) rfl
            have s2 := hB6.same (i := 2) (u := .slice none 0 0) rfl
            have r0 := hBr.f0
            have r1 := hBr.f1
            have r2 := hBr.f2
            have t0 := hBr.free 0
            have t1 := hBr.free 1
            have t2 := hBr.free 2
            go_wp2
            obtain ⟨w9, hw9, hB9, o9⟩ := hBr.set3 (.bool false) (.slice none 0 0) (.slice none 0 0)
            rw [hw9]
            have e0 := hB9.f0
            have e1 := hB9.f1
            have e2 := hB9.f2
            refine bodyPost_ret (v := .tuple #[fracV false none 0 0 none 0 0, .int .i64 2]) (by simp [results, Try.results14, go_sem, e0, e1, e2]) rfl ?_
            exact retPF_bad hl.out hbad.out ⟨rfl, o9.to_below b06 (Nat.le_refl _) b06.size⟩
          · go_wp2_with fail
            refine (refMake_anyN (neg := true) nx4 ny ix'.out iy'.out hz (by omega) (by omega)).mono ?_
            rintro e w5 ⟨v, rfl, ⟨m0, A1, c1, l1, B1, d1, m1, rfl, ma, mb, hQ⟩, b5⟩
            have hQ1 : QIs m0 l1 m1 (pfQ (bytes s)) := by unfold pfQ; rw [hneg.out]; exact hQ
            clear hQ
            have hfit : Fits 601 (pfQ (bytes s)) := fits_mk (by rw [sg_natAbs, ← ix'.out.val]; exact Nat.lt_of_lt_of_le (val_lt nx4.dig) (pw_mono (by omega))) (by rw [← iy'.out.val]; exact Nat.lt_of_lt_of_le (val_lt ny.dig) (pw_mono (by omega)))
            have hlen := QIs.fits hQ1 hfit
            have hFm : fmtB m0 (val l1) (val m1) = fmtQ (pfQ (bytes s)) := by unfold fmtQ; rw [hQ1.na.val, hQ1.nb.val, hQ1.2.2]
            have hFm' := Lib.hid hFm
            have hcl := Lib.hid hQ1.na.canon
            have hcm := Lib.hid hQ1.nb.canon
            have hQ' := Lib.hid hQ1
            clear hQ1 hFm hfit
            have b05 := b04.trans (b5.mono b04.size)
            obtain ⟨w6, hw6, bw6, hlt6, hB6⟩ := boxed w5 #[.bool m0, .slice A1 l1.length c1, .slice B1 m1.length d1] 25
            have x0 := hB6.f0
            have x1 := hB6.f1
            have x2 := hB6.f2
            have hB6' := (hB4.keep b5).keep bw6
            have b06 := b05.trans (bw6.mono b05.size)
            go_wp2_with fail
            refine (refFormatF_nat (neg := m0) (ma.below bw6) (mb.below bw6) hcl.out hcm.out (by omega) (by omega)).mono ?_
            rintro e w7 ⟨rfl, b7⟩
            rw [hFm'.out]
            obtain ⟨F, hF⟩ : ∃ F, Hid (fmtQ (pfQ (bytes s)) = F) := ⟨_, rfl⟩
            rw [hF.out]
            have hX := hB6.keep b7
            clear x0 x1 x2
            have x0 := hX.f0
            have x1 := hX.f1
            have x2 := hX.f2
            have hBr := hB6'.keep b7
            have b07 := b06.trans (b7.mono b06.size)
            have heq := beq_bytes F s
            by_cases hs : bytes F = bytes s
            · have hcmp : (F.toList == s.toList) = true := by rw [heq]; exact decide_eq_true hs
              have hgood := Lib.hid (show pfOK (bytes s) = true from decide_eq_true ⟨hp.out, hq.out, hz, by rw [hF.out]; exact hs⟩)
              clear heq hs hz
              have r0 := hBr.f0
              have r1 := hBr.f1
              have r2 := hBr.f2
              have t0 := hBr.free 0
              have t1 := hBr.free 1
              have t2 := hBr.free 2
              go_wp2
              obtain ⟨w9, hw9, hB9, o9⟩ := hBr.set3 (.bool m0) (.slice A1 l1.length c1) (.slice B1 m1.length d1)
              rw [hw9]
              have e0 := hB9.f0
              have e1 := hB9.f1
              have e2 := hB9.f2
              refine bodyPost_ret (v := .tuple #[fracV m0 A1 l1.length c1 B1 m1.length d1, .int .i64 0]) (by simp [results, Try.results14, go_sem, e0, e1, e2]) rfl ?_
              have m1' := ((ma.below bw6).below b7).only_blk hBr (noDig3 _ _ _ _ _ _ _) o9
              have m2' := ((mb.below bw6).below b7).only_blk hBr (noDig3 _ _ _ _ _ _ _) o9
              exact retPF_ok hl.out hgood.out ⟨_, rfl, ⟨m0, A1, c1, l1, B1, d1, m1, rfl, m1', m2', hQ'.out⟩, o9.to_below b07 (Nat.le_refl _) b07.size⟩
            · have hcmp : (F.toList == s.toList) = false := by rw [heq]; exact decide_eq_false hs
              have hbad := Lib.hid (show pfOK (bytes s) = false from pfOK_f (by rw [hF.out]; exact hs))
              clear heq hs hz
              have r0 := hBr.f0
              have r1 := hBr.f1
              have r2 := hBr.f2
              have t0 := hBr.free 0
              have t1 := hBr.free 1
              have t2 := hBr.free 2
              go_wp2
              obtain ⟨w9, hw9, hB9, o9⟩ := hBr.set3 (.bool false) (.slice none 0 0) (.slice none 0 0)
              rw [hw9]
              have e0 := hB9.f0
              have e1 := hB9.f1
              have e2 := hB9.f2
              refine bodyPost_ret (v := .tuple #[fracV false none 0 0 none 0 0, .int .i64 2]) (by simp [results, Try.results14, go_sem, e0, e1, e2]) rfl ?_
              exact retPF_bad hl.out hbad.out ⟨rfl, o9.to_below b07 (Nat.le_refl _) b07.size⟩
        · have hbad := Lib.hid (show pfOK (bytes s) = false from pfOK_d (by rw [hq.out]; exact hq0))
          have hq1 : ((q : Int) == 0) = false := by rw [beq_eq_false_iff_ne]; omega
          subst hp0
          have hBr := hB4
          have r0 := hBr.f0
          have r1 := hBr.f1
          have r2 := hBr.f2
          have t0 := hBr.free 0
          have t1 := hBr.free 1
          have t2 := hBr.free 2
          go_wp2
          obtain ⟨w9, hw9, hB9, o9⟩ := hBr.set3 (.bool false) (.slice none 0 0) (.slice none 0 0)
          rw [hw9]
          have e0 := hB9.f0
          have e1 := hB9.f1
          have e2 := hB9.f2
          refine bodyPost_ret (v := .tuple #[fracV false none 0 0 none 0 0, .int .i64 2]) (by simp [results, Try.results14, go_sem, e0, e1, e2]) rfl ?_
          exact retPF_bad hl.out hbad.out ⟨rfl, o9.to_below b04 (Nat.le_refl _) b04.size⟩
      · have hbad := Lib.hid (show pfOK (bytes s) = false from pfOK_n (by rw [hp.out]; exact hp0))
        have hp1 : ((p : Int) == 0) = false := by rw [beq_eq_false_iff_ne]; omega
        have hBr := hB4
        have r0 := hBr.f0
        have r1 := hBr.f1
        have r2 := hBr.f2
        have t0 := hBr.free 0
        have t1 := hBr.free 1
        have t2 := hBr.free 2
        go_wp2
        obtain ⟨w9, hw9, hB9, o9⟩ := hBr.set3 (.bool false) (.slice none 0 0) (.slice none 0 0)
        rw [hw9]
        have e0 := hB9.f0
        have e1 := hB9.f1
        have e2 := hB9.f2
        refine bodyPost_ret (v := .tuple #[fracV false none 0 0 none 0 0, .int .i64 2]) (by simp [results, Try.results14, go_sem, e0, e1, e2]) rfl ?_
        exact retPF_bad hl.out hbad.out ⟨rfl, o9.to_below b04 (Nat.le_refl _) b04.size⟩
set_option maxRecDepth 100000 in
set_option maxHeartbeats 8000000 in
theorem refParseF_pos (s : ByteArray) (w : World) (hs : s.size ≤ 1202) (h0 : 0 < s.size) (hb : (bytes s).getD 0 0 ≠ 45) :
    Calls Try.prog 14 #[.string s] w (RetPF (bytes s) w) := by
  obtain ⟨w1, hw1, bw1, hlt1, hB1⟩ := boxed w #[.bool false, .slice none 0 0, .slice none 0 0] 25
  have hd : decide ((1202 : Int) < (s.size : Int)) = false := decide_eq_false (by omega)
  have hl := Lib.hid (show ¬ 1202 < (bytes s).length by rw [bytes_length]; omega)
  have hbl := Lib.hid (bytes_length s)
  have hneg := Lib.hid (show negL (bytes s) = false by
    unfold negL
    rw [List.head?_eq_getElem?, List.getElem?_eq_getElem (by rw [bytes_length]; exact h0)]
    rw [List.getD_eq_getElem?_getD, List.getElem?_eq_getElem (by rw [bytes_length]; exact h0)] at hb
    simpa using hb)
  have hd0 : decide ((0 : Int) < (s.size : Int)) = true := decide_eq_true (by omega)
  have hb0 : (((s[0]).toNat : Int) == 45) = false := by rw [← bytes_get s 0 h0, beq_eq_false_iff_ne]; omega
  have hrest := Lib.hid (show (bytes s).drop 0 = restL (bytes s) by unfold restL; rw [hneg.out]; rfl)
  have hrl := Lib.hid (show (restL (bytes s)).length = s.size - 0 by rw [← hrest.out, List.length_drop, bytes_length])
  have hn1 := Lib.hid (Nat.le_trans (numL_len (restL (bytes s))) (Nat.le_trans (restL_len (bytes s)) (Nat.le_of_eq (bytes_length s))))
  have hn2 := Lib.hid (Nat.le_trans (dL_len (bytes s)) (Nat.succ_le_succ (Nat.le_of_eq (bytes_length s))))
  clear hb
  go_enter Try.func14, Try.ntmps14
  go_wp2
  go_loop [5] (fun i => ∃ k : Nat, 0 ≤ k ∧ k ≤ s.size ∧ i = .int .i64 k ∧ Hid (k - 0 ≤ (numL (restL (bytes s))).length)) (fun i => s.size - (intOf i).toNat)
  case atStart => exact ⟨0, by omega, by omega, rfl, Nat.le_trans (Nat.le_of_eq (Nat.sub_self _)) (Nat.zero_le _)⟩
  case round =>
    obtain ⟨k, hfk, hk, rfl, hin⟩ := hrel
    by_cases hlt : k < s.size
    · have hbk := Lib.hid (bytes_get s k hlt)
      have hrk := Lib.hid (show (restL (bytes s)).getD (k - 0) 0 = (s[k]).toNat by rw [← hrest.out, getD_drop, show 0 + (k - 0) = k by omega, hbk.out])
      by_cases hc : (s[k]).toNat = 47
      · have hc1 : (((s[k]).toNat : Int) == 47) = true := by rw [beq_iff_eq, hc]; rfl
        have hkN := Lib.hid (show k - 0 = (numL (restL (bytes s))).length by
          rcases Nat.lt_or_ge (k - 0) (numL (restL (bytes s))).length with h | h
          · exact absurd (hrk.out.trans hc) (numL_get h)
          · exact Nat.le_antisymm hin.out h)
        have hNE := Lib.hid (show k = 0 + (numL (restL (bytes s))).length by have := hkN.out; omega)
        have h2' := Lib.hid (numL_end (l := restL (bytes s)) (by rw [← hkN.out, hrl.out]; omega)).2
        clear hc hkN hrk hbk hin
        have hN' := Lib.hid (show bytes (s.extract 0 k) = numL (restL (bytes s)) by rw [bytes_slice hk]; exact num_at hrest.out hNE.out)
        have hNs : (s.extract 0 k).size ≤ 9223372036854775807 := by rw [← bytes_length, hN'.out]; have := hn1.out; omega
        have hDL' := Lib.hid (show bytes (s.extract (k + 1) s.size : ByteArray) = dL (bytes s) by
          unfold dL; rw [h2'.out]
          rw [if_pos rfl, bytes_extract _ _ _ (Nat.le_refl _), den_at hrest.out hNE.out]
          exact List.take_of_length_le (by rw [List.length_drop, bytes_length]; omega))
        have hDs : (s.extract (k + 1) s.size : ByteArray).size ≤ 9223372036854775807 := by rw [← bytes_length, hDL'.out]; have := hn2.out; omega
        have c1 : (0 : Int) ≤ (k : Int) + 1 := by omega
        have c2 : (k : Int) + 1 ≤ (s.size : Int) := by omega
        have hB2 := hB1
        go_wp2_with fail
        refine (refParse_any (s.extract 0 k) _ hNs).mono ?_
        rintro e w3 ⟨X, cx, x, rfl, nx, ix, mx, b3⟩
        rw [hN'.out] at ix
        rw [hN'.out]
        have ix' := Lib.hid ix
        clear ix
        go_wp2_with fail
        refine (refParse_any (s.extract (k + 1) s.size) _ hDs).mono ?_
        rintro e w4 ⟨Y, cy, y, rfl, ny, iy, my, b4⟩
        rw [hDL'.out] at iy
        rw [hDL'.out]
        have iy' := Lib.hid iy
        clear iy
        have b03 := bw1.trans (b3.mono bw1.size)
        have b04 := b03.trans (b4.mono b03.size)
        have hB4 := (hB2.keep b3).keep b4
        have nx4 := nx.below b4
        clear b3 b4 nx b03 hB2 hB1
        obtain ⟨p, hp⟩ : ∃ p, Hid (parErr (numL (restL (bytes s))) = p) := ⟨_, rfl⟩
        obtain ⟨q, hq⟩ : ∃ p, Hid (parErr (dL (bytes s)) = p) := ⟨_, rfl⟩
        rw [hp.out, hq.out]
        by_cases hp0 : p = 0
        · by_cases hq0 : q = 0
          · subst hp0 hq0
            by_cases hz : parVal (dL (bytes s)) = 0
            · have hy := (iy'.out.zero_iff).2 hz
              have hbad := Lib.hid (pfOK_z hz)
              clear hz
              subst hy
              go_wp2_with fail
              refine (refMake_zero (B := Y) (cb := cy)).mono ?_
              rintro e w5 ⟨rfl, b5⟩
              have b05 := b04.trans (b5.mono b04.size)
              obtain ⟨w6, hw6, bw6, hlt6, hB6⟩ := boxed w5 #[.bool false, .slice none 0 0, .slice none 0 0] 25
              have hBr := (hB4.keep b5).keep bw6
              have b06 := b05.trans (bw6.mono b05.size)
              have x0 := hB6.f0
              have x1 := hB6.f1
              have x2 := hB6.f2
              have v0 := hB6.free 0
              have v1 := hB6.free 1
              have v2 := hB6.free 2
              have s0 := hB6.same (i := 0) (u := .bool false) rfl
              have s1 := hB6.same (i := 1) (u := .slice none 0 0) rfl
              have s2 := hB6.same (i := 2) (u := .slice none 0 0) rfl
              have r0 := hBr.f0
              have r1 := hBr.f1
              have r2 := hBr.f2
              have t0 := hBr.free 0
              have t1 := hBr.free 1
              have t2 := hBr.free 2
              go_wp2
              obtain ⟨w9, hw9, hB9, o9⟩ := hBr.set3 (.bool false) (.slice none 0 0) (.slice none 0 0)
              rw [hw9]
              have e0 := hB9.f0
              have e1 := hB9.f1
              have e2 := hB9.f2
              refine bodyPost_ret (v := .tuple #[fracV false none 0 0 none 0 0, .int .i64 2]) (by simp [results, Try.results14, go_sem, e0, e1, e2]) rfl ?_
              exact retPF_bad hl.out hbad.out ⟨rfl, o9.to_below b06 (Nat.le_refl _) b06.size⟩
            · go_wp2_with fail
              refine (refMake_anyN (neg := false) nx4 ny ix'.out iy'.out hz (by omega) (by omega)).mono ?_
              rintro e w5 ⟨v, rfl, ⟨m0, A1, c1, l1, B1, d1, m1, rfl, ma, mb, hQ⟩, b5⟩
              have hQ1 : QIs m0 l1 m1 (pfQ (bytes s)) := by unfold pfQ; rw [hneg.out]; exact hQ
              clear hQ
              have hfit : Fits 601 (pfQ (bytes s)) := fits_mk (by rw [sg_natAbs, ← ix'.out.val]; exact Nat.lt_of_lt_of_le (val_lt nx4.dig) (pw_mono (by omega))) (by rw [← iy'.out.val]; exact Nat.lt_of_lt_of_le (val_lt ny.dig) (pw_mono (by omega)))
              have hlen := QIs.fits hQ1 hfit
              have hFm : fmtB m0 (val l1) (val m1) = fmtQ (pfQ (bytes s)) := by unfold fmtQ; rw [hQ1.na.val, hQ1.nb.val, hQ1.2.2]
              have hFm' := Lib.hid hFm
              have hcl := Lib.hid hQ1.na.canon
              have hcm := Lib.hid hQ1.nb.canon
              have hQ' := Lib.hid hQ1
              clear hQ1 hFm hfit
              have b05 := b04.trans (b5.mono b04.size)
              obtain ⟨w6, hw6, bw6, hlt6, hB6⟩ := boxed w5 #[.bool m0, .slice A1 l1.length c1, .slice B1 m1.length d1] 25
              have x0 := hB6.f0
              have x1 := hB6.f1
              have x2 := hB6.f2
              have hB6' := (hB4.keep b5).keep bw6
              have b06 := b05.trans (bw6.mono b05.size)
              go_wp2_with fail
              refine (refFormatF_nat (neg := m0) (ma.below bw6) (mb.below bw6) hcl.out hcm.out (by omega) (by omega)).mono ?_
              rintro e w7 ⟨rfl, b7⟩
              rw [hFm'.out]
              obtain ⟨F, hF⟩ : ∃ F, Hid (fmtQ (pfQ (bytes s)) = F) := ⟨_, rfl⟩
              rw [hF.out]
              have hX := hB6.keep b7
              clear x0 x1 x2
              have x0 := hX.f0
              have x1 := hX.f1
              have x2 := hX.f2
              have hBr := hB6'.keep b7
              have b07 := b06.trans (b7.mono b06.size)
              have heq := beq_bytes F s
              by_cases hs : bytes F = bytes s
              · have hcmp : (F.toList == s.toList) = true := by rw [heq]; exact decide_eq_true hs
                have hgood := Lib.hid (show pfOK (bytes s) = true from decide_eq_true ⟨hp.out, hq.out, hz, by rw [hF.out]; exact hs⟩)
                clear heq hs hz
                have r0 := hBr.f0
                have r1 := hBr.f1
                have r2 := hBr.f2
                have t0 := hBr.free 0
                have t1 := hBr.free 1
                have t2 := hBr.free 2
                go_wp2
                obtain ⟨w9, hw9, hB9, o9⟩ := hBr.set3 (.bool m0) (.slice A1 l1.length c1) (.slice B1 m1.length d1)
                rw [hw9]
                have e0 := hB9.f0
                have e1 := hB9.f1
                have e2 := hB9.f2
                refine bodyPost_ret (v := .tuple #[fracV m0 A1 l1.length c1 B1 m1.length d1, .int .i64 0]) (by simp [results, Try.results14, go_sem, e0, e1, e2]) rfl ?_
                have m1' := ((ma.below bw6).below b7).only_blk hBr (noDig3 _ _ _ _ _ _ _) o9
                have m2' := ((mb.below bw6).below b7).only_blk hBr (noDig3 _ _ _ _ _ _ _) o9
                exact retPF_ok hl.out hgood.out ⟨_, rfl, ⟨m0, A1, c1, l1, B1, d1, m1, rfl, m1', m2', hQ'.out⟩, o9.to_below b07 (Nat.le_refl _) b07.size⟩
              · have hcmp : (F.toList == s.toList) = false := by rw [heq]; exact decide_eq_false hs
                have hbad := Lib.hid (show pfOK (bytes s) = false from pfOK_f (by rw [hF.out]; exact hs))
                clear heq hs hz
                have r0 := hBr.f0
                have r1 := hBr.f1
                have r2 := hBr.f2
                have t0 := hBr.free 0
                have t1 := hBr.free 1
                have t2 := hBr.free 2
                go_wp2
                obtain ⟨w9, hw9, hB9, o9⟩ := hBr.set3 (.bool false) (.slice none 0 0) (.slice none 0 0)
                rw [hw9]
                have e0 := hB9.f0
                have e1 := hB9.f1
                have e2 := hB9.f2
                refine bodyPost_ret (v := .tuple #[fracV false none 0 0 none 0 0, .int .i64 2]) (by simp [results, Try.results14, go_sem, e0, e1, e2]) rfl ?_
                exact retPF_bad hl.out hbad.out ⟨rfl, o9.to_below b07 (Nat.le_refl _) b07.size⟩
          · have hbad := Lib.hid (show pfOK (bytes s) = false from pfOK_d (by rw [hq.out]; exact hq0))
            have hq1 : ((q : Int) == 0) = false := by rw [beq_eq_false_iff_ne]; omega
            subst hp0
            have hBr := hB4
            have r0 := hBr.f0
            have r1 := hBr.f1
            have r2 := hBr.f2
            have t0 := hBr.free 0
            have t1 := hBr.free 1
            have t2 := hBr.free 2
            go_wp2
            obtain ⟨w9, hw9, hB9, o9⟩ := hBr.set3 (.bool false) (.slice none 0 0) (.slice none 0 0)
            rw [hw9]
            have e0 := hB9.f0
            have e1 := hB9.f1
            have e2 := hB9.f2
            refine bodyPost_ret (v := .tuple #[fracV false none 0 0 none 0 0, .int .i64 2]) (by simp [results, Try.results14, go_sem, e0, e1, e2]) rfl ?_
            exact retPF_bad hl.out hbad.out ⟨rfl, o9.to_below b04 (Nat.le_refl _) b04.size⟩
        · have hbad := Lib.hid (show pfOK (bytes s) = false from pfOK_n (by rw [hp.out]; exact hp0))
          have hp1 : ((p : Int) == 0) = false := by rw [beq_eq_false_iff_ne]; omega
          have hBr := hB4
          have r0 := hBr.f0
          have r1 := hBr.f1
          have r2 := hBr.f2
          have t0 := hBr.free 0
          have t1 := hBr.free 1
          have t2 := hBr.free 2
          go_wp2
          obtain ⟨w9, hw9, hB9, o9⟩ := hBr.set3 (.bool false) (.slice none 0 0) (.slice none 0 0)
          rw [hw9]
          have e0 := hB9.f0
          have e1 := hB9.f1
          have e2 := hB9.f2
          refine bodyPost_ret (v := .tuple #[fracV false none 0 0 none 0 0, .int .i64 2]) (by simp [results, Try.results14, go_sem, e0, e1, e2]) rfl ?_
          exact retPF_bad hl.out hbad.out ⟨rfl, o9.to_below b04 (Nat.le_refl _) b04.size⟩
      · have hc1 : (((s[k]).toNat : Int) == 47) = false := by rw [beq_eq_false_iff_ne]; omega
        have hin2 := Lib.hid (show k + 1 - 0 ≤ (numL (restL (bytes s))).length by
          rcases Nat.lt_or_ge (k - 0) (numL (restL (bytes s))).length with h | h
          · omega
          · have he : k - 0 = (numL (restL (bytes s))).length := Nat.le_antisymm hin.out h
            have h3 := (numL_end (l := restL (bytes s)) (by rw [← he, hrl.out]; omega)).1
            rw [← he, hrk.out] at h3
            exact absurd h3 hc)
        clear hc hrk hbk
        go_wp2
        go_round
        case rel => exact ⟨k + 1, by omega, by omega, by go_num, hin2⟩
        case measure => simp [intOf]; omega
    · obtain rfl : k = s.size := by omega
      have hlt' : decide ((s.size : Int) < (s.size : Int)) = false := decide_eq_false (by omega)
      obtain ⟨k, hkk⟩ : ∃ k, s.size = k := ⟨_, rfl⟩
      have hkN := Lib.hid (show s.size - 0 = (numL (restL (bytes s))).length by
        have h1 := numL_len (restL (bytes s)); have h2 := hrl.out; have h3 := hin.out; omega)
      have hNE := Lib.hid (show s.size = 0 + (numL (restL (bytes s))).length by have := hkN.out; omega)
      have h2' := Lib.hid (numL_full (l := restL (bytes s)) (by rw [← hkN.out, hrl.out]))
      clear hkN hin hkk
      have hN' := Lib.hid (show bytes (s) = numL (restL (bytes s)) by have h := num_at hrest.out hNE.out; rw [← bytes_slice (Nat.le_refl _)] at h; simpa using h)
      have hNs : (s).size ≤ 9223372036854775807 := by rw [← bytes_length, hN'.out]; have := hn1.out; omega
      have hDL' := Lib.hid (show bytes (⟨#[49]⟩ : ByteArray) = dL (bytes s) by
        unfold dL; rw [h2'.out]
        rfl)
      have hDs : (⟨#[49]⟩ : ByteArray).size ≤ 9223372036854775807 := by rw [← bytes_length, hDL'.out]; have := hn2.out; omega
      have hB2 := hB1
      go_wp2_with fail
      refine (refParse_any (s) _ hNs).mono ?_
      rintro e w3 ⟨X, cx, x, rfl, nx, ix, mx, b3⟩
      rw [hN'.out] at ix
      rw [hN'.out]
      have ix' := Lib.hid ix
      clear ix
      go_wp2_with fail
      refine (refParse_any (⟨#[49]⟩) _ hDs).mono ?_
      rintro e w4 ⟨Y, cy, y, rfl, ny, iy, my, b4⟩
      rw [hDL'.out] at iy
      rw [hDL'.out]
      have iy' := Lib.hid iy
      clear iy
      have b03 := bw1.trans (b3.mono bw1.size)
      have b04 := b03.trans (b4.mono b03.size)
      have hB4 := (hB2.keep b3).keep b4
      have nx4 := nx.below b4
      clear b3 b4 nx b03 hB2 hB1
      obtain ⟨p, hp⟩ : ∃ p, Hid (parErr (numL (restL (bytes s))) = p) := ⟨_, rfl⟩
      obtain ⟨q, hq⟩ : ∃ p, Hid (parErr (dL (bytes s)) = p) := ⟨_, rfl⟩
      rw [hp.out, hq.out]
      by_cases hp0 : p = 0
      · by_cases hq0 : q = 0
        · subst hp0 hq0
          by_cases hz : parVal (dL (bytes s)) = 0
          · have hy := (iy'.out.zero_iff).2 hz
            have hbad := Lib.hid (pfOK_z hz)
            clear hz
            subst hy
            go_wp2_with fail
            refine (refMake_zero (B := Y) (cb := cy)).mono ?_
            rintro e w5 ⟨rfl, b5⟩
            have b05 := b04.trans (b5.mono b04.size)
            obtain ⟨w6, hw6, bw6, hlt6, hB6⟩ := boxed w5 #[.bool false, .slice none 0 0, .slice none 0 0] 25
            have hBr := (hB4.keep b5).keep bw6
            have b06 := b05.trans (bw6.mono b05.size)
            have x0 := hB6.f0
            have x1 := hB6.f1
            have x2 := hB6.f2
            have v0 := hB6.free 0
            have v1 := hB6.free 1
            have v2 := hB6.free 2
            have s0 := hB6.same (i := 0) (u := .bool false) rfl
            have s1 := hB6.same (i := 1) (u := .slice none 0 0) rfl
            have s2 := hB6.same (i := 2) (u := .slice none 0 0) rfl
            have r0 := hBr.f0
            have r1 := hBr.f1
            have r2 := hBr.f2
            have t0 := hBr.free 0
            have t1 := hBr.free 1
            have t2 := hBr.free 2
            go_wp2
            obtain ⟨w9, hw9, hB9, o9⟩ := hBr.set3 (.bool false) (.slice none 0 0) (.slice none 0 0)
            rw [hw9]
            have e0 := hB9.f0
            have e1 := hB9.f1
            have e2 := hB9.f2
            refine bodyPost_ret (v := .tuple #[fracV false none 0 0 none 0 0, .int .i64 2]) (by simp [results, Try.results14, go_sem, e0, e1, e2]) rfl ?_
            exact retPF_bad hl.out hbad.out ⟨rfl, o9.to_below b06 (Nat.le_refl _) b06.size⟩
          · go_wp2_with fail
            refine (refMake_anyN (neg := false) nx4 ny ix'.out iy'.out hz (by omega) (by omega)).mono ?_
            rintro e w5 ⟨v, rfl, ⟨m0, A1, c1, l1, B1, d1, m1, rfl, ma, mb, hQ⟩, b5⟩
            have hQ1 : QIs m0 l1 m1 (pfQ (bytes s)) := by unfold pfQ; rw [hneg.out]; exact hQ
            clear hQ
            have hfit : Fits 601 (pfQ (bytes s)) := fits_mk (by rw [sg_natAbs, ← ix'.out.val]; exact Nat.lt_of_lt_of_le (val_lt nx4.dig) (pw_mono (by omega))) (by rw [← iy'.out.val]; exact Nat.lt_of_lt_of_le (val_lt ny.dig) (pw_mono (by omega)))
            have hlen := QIs.fits hQ1 hfit
            have hFm : fmtB m0 (val l1) (val m1) = fmtQ (pfQ (bytes s)) := by unfold fmtQ; rw [hQ1.na.val, hQ1.nb.val, hQ1.2.2]
            have hFm' := Lib.hid hFm
            have hcl := Lib.hid hQ1.na.canon
            have hcm := Lib.hid hQ1.nb.canon
            have hQ' := Lib.hid hQ1
            clear hQ1 hFm hfit
            have b05 := b04.trans (b5.mono b04.size)
            obtain ⟨w6, hw6, bw6, hlt6, hB6⟩ := boxed w5 #[.bool m0, .slice A1 l1.length c1, .slice B1 m1.length d1] 25
            have x0 := hB6.f0
            have x1 := hB6.f1
            have x2 := hB6.f2
            have hB6' := (hB4.keep b5).keep bw6
            have b06 := b05.trans (bw6.mono b05.size)
            go_wp2_with fail
            refine (refFormatF_nat (neg := m0) (ma.below bw6) (mb.below bw6) hcl.out hcm.out (by omega) (by omega)).mono ?_
            rintro e w7 ⟨rfl, b7⟩
            rw [hFm'.out]
            obtain ⟨F, hF⟩ : ∃ F, Hid (fmtQ (pfQ (bytes s)) = F) := ⟨_, rfl⟩
            rw [hF.out]
            have hX := hB6.keep b7
            clear x0 x1 x2
            have x0 := hX.f0
            have x1 := hX.f1
            have x2 := hX.f2
            have hBr := hB6'.keep b7
            have b07 := b06.trans (b7.mono b06.size)
            have heq := beq_bytes F s
            by_cases hs : bytes F = bytes s
            · have hcmp : (F.toList == s.toList) = true := by rw [heq]; exact decide_eq_true hs
              have hgood := Lib.hid (show pfOK (bytes s) = true from decide_eq_true ⟨hp.out, hq.out, hz, by rw [hF.out]; exact hs⟩)
              clear heq hs hz
              have r0 := hBr.f0
              have r1 := hBr.f1
              have r2 := hBr.f2
              have t0 := hBr.free 0
              have t1 := hBr.free 1
              have t2 := hBr.free 2
              go_wp2
              obtain ⟨w9, hw9, hB9, o9⟩ := hBr.set3 (.bool m0) (.slice A1 l1.length c1) (.slice B1 m1.length d1)
              rw [hw9]
              have e0 := hB9.f0
              have e1 := hB9.f1
              have e2 := hB9.f2
              refine bodyPost_ret (v := .tuple #[fracV m0 A1 l1.length c1 B1 m1.length d1, .int .i64 0]) (by simp [results, Try.results14, go_sem, e0, e1, e2]) rfl ?_
              have m1' := ((ma.below bw6).below b7).only_blk hBr (noDig3 _ _ _ _ _ _ _) o9
              have m2' := ((mb.below bw6).below b7).only_blk hBr (noDig3 _ _ _ _ _ _ _) o9
              exact retPF_ok hl.out hgood.out ⟨_, rfl, ⟨m0, A1, c1, l1, B1, d1, m1, rfl, m1', m2', hQ'.out⟩, o9.to_below b07 (Nat.le_refl _) b07.size⟩
            · have hcmp : (F.toList == s.toList) = false := by rw [heq]; exact decide_eq_false hs
              have hbad := Lib.hid (show pfOK (bytes s) = false from pfOK_f (by rw [hF.out]; exact hs))
              clear heq hs hz
              have r0 := hBr.f0
              have r1 := hBr.f1
              have r2 := hBr.f2
              have t0 := hBr.free 0
              have t1 := hBr.free 1
              have t2 := hBr.free 2
              go_wp2
              obtain ⟨w9, hw9, hB9, o9⟩ := hBr.set3 (.bool false) (.slice none 0 0) (.slice none 0 0)
              rw [hw9]
              have e0 := hB9.f0
              have e1 := hB9.f1
              have e2 := hB9.f2
              refine bodyPost_ret (v := .tuple #[fracV false none 0 0 none 0 0, .int .i64 2]) (by simp [results, Try.results14, go_sem, e0, e1, e2]) rfl ?_
              exact retPF_bad hl.out hbad.out ⟨rfl, o9.to_below b07 (Nat.le_refl _) b07.size⟩
        · have hbad := Lib.hid (show pfOK (bytes s) = false from pfOK_d (by rw [hq.out]; exact hq0))
          have hq1 : ((q : Int) == 0) = false := by rw [beq_eq_false_iff_ne]; omega
          subst hp0
          have hBr := hB4
          have r0 := hBr.f0
          have r1 := hBr.f1
          have r2 := hBr.f2
          have t0 := hBr.free 0
          have t1 := hBr.free 1
          have t2 := hBr.free 2
          go_wp2
          obtain ⟨w9, hw9, hB9, o9⟩ := hBr.set3 (.bool false) (.slice none 0 0) (.slice none 0 0)
          rw [hw9]
          have e0 := hB9.f0
          have e1 := hB9.f1
          have e2 := hB9.f2
          refine bodyPost_ret (v := .tuple #[fracV false none 0 0 none 0 0, .int .i64 2]) (by simp [results, Try.results14, go_sem, e0, e1, e2]) rfl ?_
          exact retPF_bad hl.out hbad.out ⟨rfl, o9.to_below b04 (Nat.le_refl _) b04.size⟩
      · have hbad := Lib.hid (show pfOK (bytes s) = false from pfOK_n (by rw [hp.out]; exact hp0))
        have hp1 : ((p : Int) == 0) = false := by rw [beq_eq_false_iff_ne]; omega
        have hBr := hB4
        have r0 := hBr.f0
        have r1 := hBr.f1
        have r2 := hBr.f2
        have t0 := hBr.free 0
        have t1 := hBr.free 1
        have t2 := hBr.free 2
        go_wp2
        obtain ⟨w9, hw9, hB9, o9⟩ := hBr.set3 (.bool false) (.slice none 0 0) (.slice none 0 0)
        rw [hw9]
        have e0 := hB9.f0
        have e1 := hB9.f1
        have e2 := hB9.f2
        refine bodyPost_ret (v := .tuple #[fracV false none 0 0 none 0 0, .int .i64 2]) (by simp [results, Try.results14, go_sem, e0, e1, e2]) rfl ?_
        exact retPF_bad hl.out hbad.out ⟨rfl, o9.to_below b04 (Nat.le_refl _) b04.size⟩
theorem refParseF_any (s : ByteArray) (w : World) (hs : s.size ≤ 9223372036854775807) :
    Calls Try.prog 14 #[.string s] w (RetPF (bytes s) w) := by
  by_cases h1 : s.size ≤ 1202
  · by_cases h0 : s.size = 0
    · exact refParseF_empty s w h1 h0
    · by_cases hb : (bytes s).getD 0 0 = 45
      · exact refParseF_neg s w h1 (by omega) hb
      · exact refParseF_pos s w h1 (by omega) hb
  · exact refParseF_long s w (by omega) hs
end Go.Proofs.Ytghpcimeobmonaa
