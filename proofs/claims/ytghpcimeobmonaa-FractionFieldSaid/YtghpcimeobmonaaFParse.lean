/- fraction.Parse: what the call does. -/
import Derived.Test.YtghpcimeobmonaaFFmt
import Derived.Test.YtghpcimeobmonaaStr
namespace Go.Proofs.Ytghpcimeobmonaa
set_option linter.unusedVariables false
set_option linter.unusedSimpArgs false
open Go.RowKit Plain
attribute [local go_sem ↓] Go.wp_at_zero Go.wp_at_succ

/-- What stands behind the bar, or 1. -/
def dL (l : List Nat) : List Nat := if twoL (restL l) = true then denL (restL l) else [49]
def pfQ (l : List Nat) : Rat := mkRat (sg (negL l) (parVal (numL (restL l)))) (parVal (dL l))
def pfOK (l : List Nat) : Bool := decide (parErr (numL (restL l)) = 0 ∧ parErr (dL l) = 0 ∧ parVal (dL l) ≠ 0 ∧ bytes (fmtQ (pfQ l)) = l)
/-- A call that returns the fraction with the text l, or its error. -/
def RetPF (l : List Nat) (W : World) (e : Ending) (w' : World) : Prop := if 1202 < l.length then RetZE 3 W e w' else if pfOK l = true then RetQE (pfQ l) W e w' else RetZE 2 W e w'
theorem retPF_long {l : List Nat} {W w' : World} {e : Ending} (h : 1202 < l.length) (r : RetZE 3 W e w') : RetPF l W e w' := by unfold RetPF; rw [if_pos h]; exact r
theorem retPF_bad {l : List Nat} {W w' : World} {e : Ending} (h : ¬ 1202 < l.length) (h2 : pfOK l = false) (r : RetZE 2 W e w') : RetPF l W e w' := by unfold RetPF; rw [if_neg h, if_neg (by rw [h2]; decide)]; exact r
theorem retPF_ok {l : List Nat} {W w' : World} {e : Ending} (h : ¬ 1202 < l.length) (h2 : pfOK l = true) (r : RetQE (pfQ l) W e w') : RetPF l W e w' := by unfold RetPF; rw [if_neg h, if_pos h2]; exact r
theorem pfOK_n {l : List Nat} (h : parErr (numL (restL l)) ≠ 0) : pfOK l = false := decide_eq_false fun k => h k.1
theorem pfOK_d {l : List Nat} (h : parErr (dL l) ≠ 0) : pfOK l = false := decide_eq_false fun k => h k.2.1
theorem pfOK_z {l : List Nat} (h : parVal (dL l) = 0) : pfOK l = false := decide_eq_false fun k => k.2.2.1 h
theorem pfOK_f {l : List Nat} (h : bytes (fmtQ (pfQ l)) ≠ l) : pfOK l = false := decide_eq_false fun k => h k.2.2.2
theorem beq_bytes (a b : ByteArray) : (a.toList == b.toList) = decide (bytes a = bytes b) := by
  rw [Bool.eq_iff_iff, beq_iff_eq, decide_eq_true_eq]
  constructor
  · intro h
    rw [Lib.toList_data, Lib.toList_data] at h
    unfold bytes; rw [h]
  · intro h; rw [byteArray_ext h]
theorem restL_len (l : List Nat) : (restL l).length ≤ l.length := by unfold restL; split <;> simp
theorem numL_len (l : List Nat) : (numL l).length ≤ l.length := by unfold numL; exact (List.takeWhile_sublist _).length_le
theorem denL_len (l : List Nat) : (denL l).length ≤ l.length := by
  rw [← drop_numL, List.length_drop]; omega
theorem dL_len (l : List Nat) : (dL l).length ≤ l.length + 1 := by
  unfold dL
  split
  · have := denL_len (restL l); have := restL_len l; omega
  · simp

set_option maxRecDepth 100000 in
set_option maxHeartbeats 4000000 in
theorem parseF_long (s : ByteArray) (w : World) (hs : 1202 < s.size) (hs2 : s.size ≤ 9223372036854775807) :
    Calls Try.prog 13 #[.string s] w (RetPF (bytes s) w) := by
  obtain ⟨w1, hw1, bw1, hlt1, hBr⟩ := boxed w #[.bool false, .slice none 0 0, .slice none 0 0] 25
  have hd : decide ((1202 : Int) < (s.size : Int)) = true := decide_eq_true (by omega)
  have hl := Lib.hid (bytes_length s)
  have r0 := hBr.f0
  have r1 := hBr.f1
  have r2 := hBr.f2
  have t0 := hBr.free 0
  have t1 := hBr.free 1
  have t2 := hBr.free 2
  go_enter Try.func13, Try.ntmps13
  go_wp2
  obtain ⟨w9, hw9, hB9, o9⟩ := hBr.set3 (.bool false) (.slice none 0 0) (.slice none 0 0)
  rw [hw9]
  have e0 := hB9.f0
  have e1 := hB9.f1
  have e2 := hB9.f2
  refine bodyPost_ret (v := .tuple #[fracV false none 0 0 none 0 0, .int .i64 3]) (by simp [results, Try.results13, go_sem, e0, e1, e2]) rfl ?_
  exact retPF_long (by rw [hl.out]; exact hs) ⟨rfl, o9.to_below bw1 (Nat.le_refl _) bw1.size⟩

set_option maxRecDepth 100000 in
set_option maxHeartbeats 4000000 in
theorem parseF_two (s : ByteArray) (w : World) (hs : s.size ≤ 1202) (h2 : twoL (restL (bytes s)) = true) :
    Calls Try.prog 13 #[.string s] w (RetPF (bytes s) w) := by
  obtain ⟨w1, hw1, bw1, hlt1, hB1⟩ := boxed w #[.bool false, .slice none 0 0, .slice none 0 0] 25
  have hd : decide ((1202 : Int) < (s.size : Int)) = false := decide_eq_false (by omega)
  have hl := Lib.hid (show ¬ 1202 < (bytes s).length by rw [bytes_length]; omega)
  have hn1 := Lib.hid (Nat.le_trans (numL_len (restL (bytes s))) (Nat.le_trans (restL_len (bytes s)) (Nat.le_of_eq (bytes_length s))))
  have hn2 := Lib.hid (Nat.le_trans (dL_len (bytes s)) (Nat.succ_le_succ (Nat.le_of_eq (bytes_length s))))
  have h2' := Lib.hid h2
  clear h2
  go_enter Try.func13, Try.ntmps13
  go_wp2_with fail
  refine (cutPrefix_any s _).mono ?_
  rintro e w1 ⟨S, rfl, hS, rfl⟩
  have hS' := Lib.hid hS
  have hSz : S.size ≤ s.size := by rw [← bytes_length, hS, ← bytes_length s]; exact restL_len _
  clear hS
  obtain ⟨neg, hneg⟩ : ∃ b, Hid (negL (bytes s) = b) := ⟨_, rfl⟩
  rw [hneg.out]
  go_wp2_with fail
  refine (cut_any S _ (by omega)).mono ?_
  rintro e w2 ⟨N, D, rfl, hN, hD, n, rfl⟩
  rw [hS'.out] at hN hD
  rw [hS'.out, h2'.out]
  have hNs : N.size ≤ 9223372036854775807 := by rw [← bytes_length, hN]; have := hn1.out; omega
  have hDL : bytes (D : ByteArray) = dL (bytes s) := by
    unfold dL; rw [h2'.out]; exact hD
  have hDs : (D : ByteArray).size ≤ 9223372036854775807 := by rw [← bytes_length, hDL]; have := hn2.out; omega
  have hN' := Lib.hid hN
  have hDL' := Lib.hid hDL
  clear hN hD hDL
  have b01 : Below w.heap.size w (w1.drewN n) := below_drewN bw1 n
  have hB2 : Blk (w1.drewN n) w.heap.size 25 #[.bool false, .slice none 0 0, .slice none 0 0] := hB1
  go_wp2_with fail
  refine (parse_any N _ hNs).mono ?_
  rintro e w3 ⟨X, cx, x, rfl, nx, ix, mx, b3⟩
  rw [hN'.out] at ix
  rw [hN'.out]
  have ix' := Lib.hid ix
  clear ix
  go_wp2_with fail
  refine (parse_any (D) _ hDs).mono ?_
  rintro e w4 ⟨Y, cy, y, rfl, ny, iy, my, b4⟩
  rw [hDL'.out] at iy
  rw [hDL'.out]
  have iy' := Lib.hid iy
  clear iy
  have b03 := b01.trans (b3.mono b01.size)
  have b04 := b03.trans (b4.mono b03.size)
  have hB4 := (hB2.keep b3).keep b4
  have nx4 := nx.below b4
  clear b3 b4 nx b03 b01 hB2 hB1
  obtain ⟨p, hp⟩ : ∃ p, Hid (parErr (numL (restL (bytes s))) = p) := ⟨_, rfl⟩
  obtain ⟨q, hq⟩ : ∃ p, Hid (parErr (dL (bytes s)) = p) := ⟨_, rfl⟩
  rw [hp.out, hq.out]
  by_cases hp0 : p = 0
  · by_cases hq0 : q = 0
    · subst hp0 hq0
      by_cases hz : parVal (dL (bytes s)) = 0
      · have hy := (iy'.out.zero_iff).2 hz
        have hbad := Lib.hid (pfOK_z hz)
        clear hz
        subst hy
        go_wp2_with fail
        refine (make_zero (B := Y) (cb := cy)).mono ?_
        rintro e w5 ⟨rfl, b5⟩
        have b05 := b04.trans (b5.mono b04.size)
        obtain ⟨w6, hw6, bw6, hlt6, hB6⟩ := boxed w5 #[.bool false, .slice none 0 0, .slice none 0 0] 25
        have hBr := (hB4.keep b5).keep bw6
        have b06 := b05.trans (bw6.mono b05.size)
        have x0 := hB6.f0
        have x1 := hB6.f1
        have x2 := hB6.f2
        have v0 := hB6.free 0
        have v1 := hB6.free 1
        have v2 := hB6.free 2
        have s0 := hB6.same (i := 0) (u := .bool false) rfl
        have s1 := hB6.same (i := 1) (u := .slice none 0 0) rfl
        have s2 := hB6.same (i := 2) (u := .slice none 0 0) rfl
        have r0 := hBr.f0
        have r1 := hBr.f1
        have r2 := hBr.f2
        have t0 := hBr.free 0
        have t1 := hBr.free 1
        have t2 := hBr.free 2
        go_wp2
        obtain ⟨w9, hw9, hB9, o9⟩ := hBr.set3 (.bool false) (.slice none 0 0) (.slice none 0 0)
        rw [hw9]
        have e0 := hB9.f0
        have e1 := hB9.f1
        have e2 := hB9.f2
        refine bodyPost_ret (v := .tuple #[fracV false none 0 0 none 0 0, .int .i64 2]) (by simp [results, Try.results13, go_sem, e0, e1, e2]) rfl ?_
        exact retPF_bad hl.out hbad.out ⟨rfl, o9.to_below b06 (Nat.le_refl _) b06.size⟩
      · have hy : val y ≠ 0 := by rw [iy'.out.val]; exact hz
        go_wp2_with fail
        refine (make_any (neg := neg) nx4 ny hy (by omega) (by omega)).mono ?_
        rintro e w5 ⟨v, rfl, ⟨m0, A1, c1, l1, B1, d1, m1, rfl, ma, mb, hQ⟩, b5⟩
        rw [ix'.out.val, iy'.out.val, ← hneg.out] at hQ
        have hQ1 : QIs m0 l1 m1 (pfQ (bytes s)) := hQ
        clear hQ
        have hfit : Fits 601 (pfQ (bytes s)) := fits_mk (by rw [sg_natAbs, ← ix'.out.val]; exact Nat.lt_of_lt_of_le (val_lt nx4.dig) (pw_mono (by omega))) (by rw [← iy'.out.val]; exact Nat.lt_of_lt_of_le (val_lt ny.dig) (pw_mono (by omega)))
        have hlen := QIs.fits hQ1 hfit
        have hFm : fmtB m0 (val l1) (val m1) = fmtQ (pfQ (bytes s)) := by unfold fmtQ; rw [hQ1.na.val, hQ1.nb.val, hQ1.2.2]
        have hFm' := Lib.hid hFm
        have hQ' := Lib.hid hQ1
        clear hQ1 hFm hfit
        have b05 := b04.trans (b5.mono b04.size)
        obtain ⟨w6, hw6, bw6, hlt6, hB6⟩ := boxed w5 #[.bool m0, .slice A1 l1.length c1, .slice B1 m1.length d1] 25
        have x0 := hB6.f0
        have x1 := hB6.f1
        have x2 := hB6.f2
        have hB6' := (hB4.keep b5).keep bw6
        have b06 := b05.trans (bw6.mono b05.size)
        go_wp2_with fail
        refine (formatF_nat (neg := m0) (ma.below bw6) (mb.below bw6) (by omega) (by omega)).mono ?_
        rintro e w7 ⟨rfl, b7⟩
        rw [hFm'.out]
        obtain ⟨F, hF⟩ : ∃ F, Hid (fmtQ (pfQ (bytes s)) = F) := ⟨_, rfl⟩
        rw [hF.out]
        have hX := hB6.keep b7
        clear x0 x1 x2
        have x0 := hX.f0
        have x1 := hX.f1
        have x2 := hX.f2
        have hBr := hB6'.keep b7
        have b07 := b06.trans (b7.mono b06.size)
        have heq := beq_bytes F s
        by_cases hs : bytes F = bytes s
        · have hcmp : (F.toList == s.toList) = true := by rw [heq]; exact decide_eq_true hs
          have hgood := Lib.hid (show pfOK (bytes s) = true from decide_eq_true ⟨hp.out, hq.out, hz, by rw [hF.out]; exact hs⟩)
          clear heq hs hz
          have r0 := hBr.f0
          have r1 := hBr.f1
          have r2 := hBr.f2
          have t0 := hBr.free 0
          have t1 := hBr.free 1
          have t2 := hBr.free 2
          go_wp2
          obtain ⟨w9, hw9, hB9, o9⟩ := hBr.set3 (.bool m0) (.slice A1 l1.length c1) (.slice B1 m1.length d1)
          rw [hw9]
          have e0 := hB9.f0
          have e1 := hB9.f1
          have e2 := hB9.f2
          refine bodyPost_ret (v := .tuple #[fracV m0 A1 l1.length c1 B1 m1.length d1, .int .i64 0]) (by simp [results, Try.results13, go_sem, e0, e1, e2]) rfl ?_
          have m1' := ((ma.below bw6).below b7).only_blk hBr (noDig3 _ _ _ _ _ _ _) o9
          have m2' := ((mb.below bw6).below b7).only_blk hBr (noDig3 _ _ _ _ _ _ _) o9
          exact retPF_ok hl.out hgood.out ⟨_, rfl, ⟨m0, A1, c1, l1, B1, d1, m1, rfl, m1', m2', hQ'.out⟩, o9.to_below b07 (Nat.le_refl _) b07.size⟩
        · have hcmp : (F.toList == s.toList) = false := by rw [heq]; exact decide_eq_false hs
          have hbad := Lib.hid (show pfOK (bytes s) = false from pfOK_f (by rw [hF.out]; exact hs))
          clear heq hs hz
          have r0 := hBr.f0
          have r1 := hBr.f1
          have r2 := hBr.f2
          have t0 := hBr.free 0
          have t1 := hBr.free 1
          have t2 := hBr.free 2
          go_wp2
          obtain ⟨w9, hw9, hB9, o9⟩ := hBr.set3 (.bool false) (.slice none 0 0) (.slice none 0 0)
          rw [hw9]
          have e0 := hB9.f0
          have e1 := hB9.f1
          have e2 := hB9.f2
          refine bodyPost_ret (v := .tuple #[fracV false none 0 0 none 0 0, .int .i64 2]) (by simp [results, Try.results13, go_sem, e0, e1, e2]) rfl ?_
          exact retPF_bad hl.out hbad.out ⟨rfl, o9.to_below b07 (Nat.le_refl _) b07.size⟩
    · have hbad := Lib.hid (show pfOK (bytes s) = false from pfOK_d (by rw [hq.out]; exact hq0))
      have hq1 : ((q : Int) == 0) = false := by rw [beq_eq_false_iff_ne]; omega
      subst hp0
      have hBr := hB4
      have r0 := hBr.f0
      have r1 := hBr.f1
      have r2 := hBr.f2
      have t0 := hBr.free 0
      have t1 := hBr.free 1
      have t2 := hBr.free 2
      go_wp2
      obtain ⟨w9, hw9, hB9, o9⟩ := hBr.set3 (.bool false) (.slice none 0 0) (.slice none 0 0)
      rw [hw9]
      have e0 := hB9.f0
      have e1 := hB9.f1
      have e2 := hB9.f2
      refine bodyPost_ret (v := .tuple #[fracV false none 0 0 none 0 0, .int .i64 2]) (by simp [results, Try.results13, go_sem, e0, e1, e2]) rfl ?_
      exact retPF_bad hl.out hbad.out ⟨rfl, o9.to_below b04 (Nat.le_refl _) b04.size⟩
  · have hbad := Lib.hid (show pfOK (bytes s) = false from pfOK_n (by rw [hp.out]; exact hp0))
    have hp1 : ((p : Int) == 0) = false := by rw [beq_eq_false_iff_ne]; omega
    have hBr := hB4
    have r0 := hBr.f0
    have r1 := hBr.f1
    have r2 := hBr.f2
    have t0 := hBr.free 0
    have t1 := hBr.free 1
    have t2 := hBr.free 2
    go_wp2
    obtain ⟨w9, hw9, hB9, o9⟩ := hBr.set3 (.bool false) (.slice none 0 0) (.slice none 0 0)
    rw [hw9]
    have e0 := hB9.f0
    have e1 := hB9.f1
    have e2 := hB9.f2
    refine bodyPost_ret (v := .tuple #[fracV false none 0 0 none 0 0, .int .i64 2]) (by simp [results, Try.results13, go_sem, e0, e1, e2]) rfl ?_
    exact retPF_bad hl.out hbad.out ⟨rfl, o9.to_below b04 (Nat.le_refl _) b04.size⟩

set_option maxRecDepth 100000 in
set_option maxHeartbeats 4000000 in
theorem parseF_one (s : ByteArray) (w : World) (hs : s.size ≤ 1202) (h2 : twoL (restL (bytes s)) = false) :
    Calls Try.prog 13 #[.string s] w (RetPF (bytes s) w) := by
  obtain ⟨w1, hw1, bw1, hlt1, hB1⟩ := boxed w #[.bool false, .slice none 0 0, .slice none 0 0] 25
  have hd : decide ((1202 : Int) < (s.size : Int)) = false := decide_eq_false (by omega)
  have hl := Lib.hid (show ¬ 1202 < (bytes s).length by rw [bytes_length]; omega)
  have hn1 := Lib.hid (Nat.le_trans (numL_len (restL (bytes s))) (Nat.le_trans (restL_len (bytes s)) (Nat.le_of_eq (bytes_length s))))
  have hn2 := Lib.hid (Nat.le_trans (dL_len (bytes s)) (Nat.succ_le_succ (Nat.le_of_eq (bytes_length s))))
  have h2' := Lib.hid h2
  clear h2
  go_enter Try.func13, Try.ntmps13
  go_wp2_with fail
  refine (cutPrefix_any s _).mono ?_
  rintro e w1 ⟨S, rfl, hS, rfl⟩
  have hS' := Lib.hid hS
  have hSz : S.size ≤ s.size := by rw [← bytes_length, hS, ← bytes_length s]; exact restL_len _
  clear hS
  obtain ⟨neg, hneg⟩ : ∃ b, Hid (negL (bytes s) = b) := ⟨_, rfl⟩
  rw [hneg.out]
  go_wp2_with fail
  refine (cut_any S _ (by omega)).mono ?_
  rintro e w2 ⟨N, D, rfl, hN, hD, n, rfl⟩
  rw [hS'.out] at hN hD
  rw [hS'.out, h2'.out]
  have hNs : N.size ≤ 9223372036854775807 := by rw [← bytes_length, hN]; have := hn1.out; omega
  have hDL : bytes (⟨#[49]⟩ : ByteArray) = dL (bytes s) := by
    unfold dL; rw [h2'.out]; rfl
  have hDs : (⟨#[49]⟩ : ByteArray).size ≤ 9223372036854775807 := by rw [← bytes_length, hDL]; have := hn2.out; omega
  have hN' := Lib.hid hN
  have hDL' := Lib.hid hDL
  clear hN hD hDL
  have b01 : Below w.heap.size w (w1.drewN n) := below_drewN bw1 n
  have hB2 : Blk (w1.drewN n) w.heap.size 25 #[.bool false, .slice none 0 0, .slice none 0 0] := hB1
  go_wp2_with fail
  refine (parse_any N _ hNs).mono ?_
  rintro e w3 ⟨X, cx, x, rfl, nx, ix, mx, b3⟩
  rw [hN'.out] at ix
  rw [hN'.out]
  have ix' := Lib.hid ix
  clear ix
  go_wp2_with fail
  refine (parse_any (⟨#[49]⟩) _ hDs).mono ?_
  rintro e w4 ⟨Y, cy, y, rfl, ny, iy, my, b4⟩
  rw [hDL'.out] at iy
  rw [hDL'.out]
  have iy' := Lib.hid iy
  clear iy
  have b03 := b01.trans (b3.mono b01.size)
  have b04 := b03.trans (b4.mono b03.size)
  have hB4 := (hB2.keep b3).keep b4
  have nx4 := nx.below b4
  clear b3 b4 nx b03 b01 hB2 hB1
  obtain ⟨p, hp⟩ : ∃ p, Hid (parErr (numL (restL (bytes s))) = p) := ⟨_, rfl⟩
  obtain ⟨q, hq⟩ : ∃ p, Hid (parErr (dL (bytes s)) = p) := ⟨_, rfl⟩
  rw [hp.out, hq.out]
  by_cases hp0 : p = 0
  · by_cases hq0 : q = 0
    · subst hp0 hq0
      by_cases hz : parVal (dL (bytes s)) = 0
      · have hy := (iy'.out.zero_iff).2 hz
        have hbad := Lib.hid (pfOK_z hz)
        clear hz
        subst hy
        go_wp2_with fail
        refine (make_zero (B := Y) (cb := cy)).mono ?_
        rintro e w5 ⟨rfl, b5⟩
        have b05 := b04.trans (b5.mono b04.size)
        obtain ⟨w6, hw6, bw6, hlt6, hB6⟩ := boxed w5 #[.bool false, .slice none 0 0, .slice none 0 0] 25
        have hBr := (hB4.keep b5).keep bw6
        have b06 := b05.trans (bw6.mono b05.size)
        have x0 := hB6.f0
        have x1 := hB6.f1
        have x2 := hB6.f2
        have v0 := hB6.free 0
        have v1 := hB6.free 1
        have v2 := hB6.free 2
        have s0 := hB6.same (i := 0) (u := .bool false) rfl
        have s1 := hB6.same (i := 1) (u := .slice none 0 0) rfl
        have s2 := hB6.same (i := 2) (u := .slice none 0 0) rfl
        have r0 := hBr.f0
        have r1 := hBr.f1
        have r2 := hBr.f2
        have t0 := hBr.free 0
        have t1 := hBr.free 1
        have t2 := hBr.free 2
        go_wp2
        obtain ⟨w9, hw9, hB9, o9⟩ := hBr.set3 (.bool false) (.slice none 0 0) (.slice none 0 0)
        rw [hw9]
        have e0 := hB9.f0
        have e1 := hB9.f1
        have e2 := hB9.f2
        refine bodyPost_ret (v := .tuple #[fracV false none 0 0 none 0 0, .int .i64 2]) (by simp [results, Try.results13, go_sem, e0, e1, e2]) rfl ?_
        exact retPF_bad hl.out hbad.out ⟨rfl, o9.to_below b06 (Nat.le_refl _) b06.size⟩
      · have hy : val y ≠ 0 := by rw [iy'.out.val]; exact hz
        go_wp2_with fail
        refine (make_any (neg := neg) nx4 ny hy (by omega) (by omega)).mono ?_
        rintro e w5 ⟨v, rfl, ⟨m0, A1, c1, l1, B1, d1, m1, rfl, ma, mb, hQ⟩, b5⟩
        rw [ix'.out.val, iy'.out.val, ← hneg.out] at hQ
        have hQ1 : QIs m0 l1 m1 (pfQ (bytes s)) := hQ
        clear hQ
        have hfit : Fits 601 (pfQ (bytes s)) := fits_mk (by rw [sg_natAbs, ← ix'.out.val]; exact Nat.lt_of_lt_of_le (val_lt nx4.dig) (pw_mono (by omega))) (by rw [← iy'.out.val]; exact Nat.lt_of_lt_of_le (val_lt ny.dig) (pw_mono (by omega)))
        have hlen := QIs.fits hQ1 hfit
        have hFm : fmtB m0 (val l1) (val m1) = fmtQ (pfQ (bytes s)) := by unfold fmtQ; rw [hQ1.na.val, hQ1.nb.val, hQ1.2.2]
        have hFm' := Lib.hid hFm
        have hQ' := Lib.hid hQ1
        clear hQ1 hFm hfit
        have b05 := b04.trans (b5.mono b04.size)
        obtain ⟨w6, hw6, bw6, hlt6, hB6⟩ := boxed w5 #[.bool m0, .slice A1 l1.length c1, .slice B1 m1.length d1] 25
        have x0 := hB6.f0
        have x1 := hB6.f1
        have x2 := hB6.f2
        have hB6' := (hB4.keep b5).keep bw6
        have b06 := b05.trans (bw6.mono b05.size)
        go_wp2_with fail
        refine (formatF_nat (neg := m0) (ma.below bw6) (mb.below bw6) (by omega) (by omega)).mono ?_
        rintro e w7 ⟨rfl, b7⟩
        rw [hFm'.out]
        obtain ⟨F, hF⟩ : ∃ F, Hid (fmtQ (pfQ (bytes s)) = F) := ⟨_, rfl⟩
        rw [hF.out]
        have hX := hB6.keep b7
        clear x0 x1 x2
        have x0 := hX.f0
        have x1 := hX.f1
        have x2 := hX.f2
        have hBr := hB6'.keep b7
        have b07 := b06.trans (b7.mono b06.size)
        have heq := beq_bytes F s
        by_cases hs : bytes F = bytes s
        · have hcmp : (F.toList == s.toList) = true := by rw [heq]; exact decide_eq_true hs
          have hgood := Lib.hid (show pfOK (bytes s) = true from decide_eq_true ⟨hp.out, hq.out, hz, by rw [hF.out]; exact hs⟩)
          clear heq hs hz
          have r0 := hBr.f0
          have r1 := hBr.f1
          have r2 := hBr.f2
          have t0 := hBr.free 0
          have t1 := hBr.free 1
          have t2 := hBr.free 2
          go_wp2
          obtain ⟨w9, hw9, hB9, o9⟩ := hBr.set3 (.bool m0) (.slice A1 l1.length c1) (.slice B1 m1.length d1)
          rw [hw9]
          have e0 := hB9.f0
          have e1 := hB9.f1
          have e2 := hB9.f2
          refine bodyPost_ret (v := .tuple #[fracV m0 A1 l1.length c1 B1 m1.length d1, .int .i64 0]) (by simp [results, Try.results13, go_sem, e0, e1, e2]) rfl ?_
          have m1' := ((ma.below bw6).below b7).only_blk hBr (noDig3 _ _ _ _ _ _ _) o9
          have m2' := ((mb.below bw6).below b7).only_blk hBr (noDig3 _ _ _ _ _ _ _) o9
          exact retPF_ok hl.out hgood.out ⟨_, rfl, ⟨m0, A1, c1, l1, B1, d1, m1, rfl, m1', m2', hQ'.out⟩, o9.to_below b07 (Nat.le_refl _) b07.size⟩
        · have hcmp : (F.toList == s.toList) = false := by rw [heq]; exact decide_eq_false hs
          have hbad := Lib.hid (show pfOK (bytes s) = false from pfOK_f (by rw [hF.out]; exact hs))
          clear heq hs hz
          have r0 := hBr.f0
          have r1 := hBr.f1
          have r2 := hBr.f2
          have t0 := hBr.free 0
          have t1 := hBr.free 1
          have t2 := hBr.free 2
          go_wp2
          obtain ⟨w9, hw9, hB9, o9⟩ := hBr.set3 (.bool false) (.slice none 0 0) (.slice none 0 0)
          rw [hw9]
          have e0 := hB9.f0
          have e1 := hB9.f1
          have e2 := hB9.f2
          refine bodyPost_ret (v := .tuple #[fracV false none 0 0 none 0 0, .int .i64 2]) (by simp [results, Try.results13, go_sem, e0, e1, e2]) rfl ?_
          exact retPF_bad hl.out hbad.out ⟨rfl, o9.to_below b07 (Nat.le_refl _) b07.size⟩
    · have hbad := Lib.hid (show pfOK (bytes s) = false from pfOK_d (by rw [hq.out]; exact hq0))
      have hq1 : ((q : Int) == 0) = false := by rw [beq_eq_false_iff_ne]; omega
      subst hp0
      have hBr := hB4
      have r0 := hBr.f0
      have r1 := hBr.f1
      have r2 := hBr.f2
      have t0 := hBr.free 0
      have t1 := hBr.free 1
      have t2 := hBr.free 2
      go_wp2
      obtain ⟨w9, hw9, hB9, o9⟩ := hBr.set3 (.bool false) (.slice none 0 0) (.slice none 0 0)
      rw [hw9]
      have e0 := hB9.f0
      have e1 := hB9.f1
      have e2 := hB9.f2
      refine bodyPost_ret (v := .tuple #[fracV false none 0 0 none 0 0, .int .i64 2]) (by simp [results, Try.results13, go_sem, e0, e1, e2]) rfl ?_
      exact retPF_bad hl.out hbad.out ⟨rfl, o9.to_below b04 (Nat.le_refl _) b04.size⟩
  · have hbad := Lib.hid (show pfOK (bytes s) = false from pfOK_n (by rw [hp.out]; exact hp0))
    have hp1 : ((p : Int) == 0) = false := by rw [beq_eq_false_iff_ne]; omega
    have hBr := hB4
    have r0 := hBr.f0
    have r1 := hBr.f1
    have r2 := hBr.f2
    have t0 := hBr.free 0
    have t1 := hBr.free 1
    have t2 := hBr.free 2
    go_wp2
    obtain ⟨w9, hw9, hB9, o9⟩ := hBr.set3 (.bool false) (.slice none 0 0) (.slice none 0 0)
    rw [hw9]
    have e0 := hB9.f0
    have e1 := hB9.f1
    have e2 := hB9.f2
    refine bodyPost_ret (v := .tuple #[fracV false none 0 0 none 0 0, .int .i64 2]) (by simp [results, Try.results13, go_sem, e0, e1, e2]) rfl ?_
    exact retPF_bad hl.out hbad.out ⟨rfl, o9.to_below b04 (Nat.le_refl _) b04.size⟩

theorem parseF_any (s : ByteArray) (w : World) (hs : s.size ≤ 9223372036854775807) :
    Calls Try.prog 13 #[.string s] w (RetPF (bytes s) w) := by
  by_cases h1 : s.size ≤ 1202
  · by_cases h2 : twoL (restL (bytes s)) = true
    · exact parseF_two s w h1 h2
    · exact parseF_one s w h1 (eq_false_of_ne_true h2)
  · exact parseF_long s w (by omega) hs
end Go.Proofs.Ytghpcimeobmonaa
