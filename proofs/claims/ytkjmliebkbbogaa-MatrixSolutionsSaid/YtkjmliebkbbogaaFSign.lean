/- fraction.FromInt and New: what the calls do. -/
import Derived.Test.YtkjmliebkbbogaaFMake
import Derived.Test.YtkjmliebkbbogaaFV
namespace Go.Proofs.Ytkjmliebkbbogaa
set_option linter.unusedVariables false
set_option linter.unusedSimpArgs false
open Go.RowKit Plain
attribute [local go_sem ↓] Go.wp_at_zero Go.wp_at_succ

theorem mk_int (n : Int) : mkRat (sg (decide (n < 0)) n.natAbs) 1 = (n : Rat) := by
  rw [sg_of]; exact Rat.mkRat_one n
theorem pw2_big : pw 2 = 18446744073709551616 := by simp only [pw]
set_option maxRecDepth 100000 in
set_option maxHeartbeats 1000000 in
theorem fromInt_any (n : Int) (w : World) (h1 : -9223372036854775808 ≤ n) (h2 : n ≤ 9223372036854775807) :
    Calls Try.prog 53 #[.int .i64 n] w (RetQ (n : Rat) w) := by
  obtain ⟨w0, hw0, bw0, hlt0, hB0⟩ := boxed w #[.bool false, .slice none 0 0, .slice none 0 0] 50
  go_enter Try.func53, Try.ntmps53
  go_wp2_with fail
  refine (size_any n _ h1 h2).mono ?_
  rintro e w1 ⟨A, c, l, rfl, na, ia, la, b1⟩
  have ia' := Lib.hid ia
  clear ia
  go_wp2_with fail
  refine (fromUint_val 1 1 _ rfl (by rw [pw2_big]; omega)).mono ?_
  rintro e w2 ⟨A2, c2, l2, rfl, na2, ia2, la2, b2⟩
  have ia2' := Lib.hid ia2
  clear ia2
  go_wp2_with fail
  refine (made_any (na.below b2) na2 (by rw [ia2'.out.val]; omega) (by omega) (by omega)).mono ?_
  rintro e w3 ⟨v, rfl, ⟨n1, A1, c1, l1, B1, d1, m1, rfl, ma, mb, hQ⟩, b3⟩
  rw [ia'.out.val, ia2'.out.val, mk_int] at hQ
  have hQ' := Lib.hid hQ
  clear hQ
  have b12 := (b1.trans (b2.mono b1.size))
  have b12 := b12.trans (b3.mono b12.size)
  have hB3 := hB0.keep b12
  have bw3 := bw0.trans (b12.mono (Nat.le_of_lt hlt0))
  have y0 := hB3.f0
  have y1 := hB3.f1
  have y2 := hB3.f2
  have z0 := hB3.free 0
  have z1 := hB3.free 1
  have z2 := hB3.free 2
  go_wp2
  obtain ⟨w9, hw9, hB9, o9⟩ := hB3.set3 (.bool n1) (.slice A1 l1.length c1) (.slice B1 m1.length d1)
  rw [hw9]
  have e0 := hB9.f0
  have e1 := hB9.f1
  have e2 := hB9.f2
  refine bodyPost_ret (v := fracV n1 A1 l1.length c1 B1 m1.length d1) (by simp [results, Try.results53, go_sem, e0, e1, e2]) rfl ?_
  have m1' := ma.only_blk hB3 (noDig3 _ _ _ _ _ _ _) o9
  have m2' := mb.only_blk hB3 (noDig3 _ _ _ _ _ _ _) o9
  exact ⟨_, rfl, ⟨n1, A1, c1, l1, B1, d1, m1, rfl, m1', m2', hQ'.out⟩, o9.to_below bw3 (Nat.le_refl _) bw3.size⟩
theorem mk_div {n d : Int} (h : d ≠ 0) : mkRat (sg (!(decide (n < 0) == decide (d < 0))) n.natAbs) d.natAbs = (n : Rat) / (d : Rat) := by
  rw [← Rat.divInt_eq_div]
  rcases Int.lt_trichotomy d 0 with h1 | h1 | h1
  · obtain ⟨k, rfl⟩ : ∃ k : Nat, d = -(k : Int) := ⟨d.natAbs, by omega⟩
    rw [Rat.divInt_neg', Int.natAbs_neg, Int.natAbs_natCast, Rat.divInt_ofNat]
    congr 1
    rw [decide_eq_true h1]
    simp only [sg]
    by_cases hn : n < 0 <;> simp [hn] <;> omega
  · exact absurd h1 h
  · obtain ⟨k, rfl⟩ : ∃ k : Nat, d = (k : Int) := ⟨d.natAbs, by omega⟩
    rw [Int.natAbs_natCast, Rat.divInt_ofNat]
    congr 1
    rw [decide_eq_false (by omega : ¬ (k : Int) < 0)]
    simp only [sg]
    by_cases hn : n < 0 <;> simp [hn] <;> omega
end Go.Proofs.Ytkjmliebkbbogaa
/- fraction.Neg and Sign: what the calls do. -/
namespace Go.Proofs.Ytkjmliebkbbogaa
set_option linter.unusedVariables false
set_option linter.unusedSimpArgs false
open Go.RowKit Plain
attribute [local go_sem ↓] Go.wp_at_zero Go.wp_at_succ

set_option maxRecDepth 100000 in
set_option maxHeartbeats 1000000 in
theorem neg_any {v : Value} {q : Rat} {k : Nat} {w : World} (hv : FV w v q) (hk : Fits k q) (hK : k ≤ 400000000) :
    Calls Try.prog 54 #[v] w (RetQ (-q) w) := by
  obtain ⟨neg, A, ca, la, B, cb, lb, rfl, na, nb, iq⟩ := hv
  have hf := QIs.fits iq hk
  have h0 := QIs.den_ne iq
  obtain ⟨r, hr⟩ : ∃ r, Hid (-q = r) := ⟨_, rfl⟩
  have iq' := Lib.hid iq
  clear iq
  obtain ⟨w0, hw0, bw0, hlt0, hB0⟩ := boxed w #[.bool neg, .slice A la.length ca, .slice B lb.length cb] 50
  obtain ⟨w1, hw1, bw1, hlt1, hB1⟩ := boxed w0 #[.bool false, .slice none 0 0, .slice none 0 0] 50
  have hA0 := hB0.keep bw1
  have x0 := hA0.f0
  have x1 := hA0.f1
  have x2 := hA0.f2
  have b01 := bw0.trans (bw1.mono (Nat.le_of_lt hlt0))
  rw [hr.out]
  go_enter Try.func54, Try.ntmps54
  go_wp2_with fail
  refine (made_any (na.below b01) (nb.below b01) h0 (by omega) (by omega)).mono ?_
  rintro e w3 ⟨v, rfl, ⟨n1, A1, c1, l1, B1, d1, m1, rfl, ma, mb, hQ⟩, b3⟩
  rw [q_neg iq'.out, hr.out] at hQ
  have hQ' := Lib.hid hQ
  clear hQ
  have hB3 := hB1.keep b3
  have bw3 := b01.trans (b3.mono (by omega))
  have y0 := hB3.f0
  have y1 := hB3.f1
  have y2 := hB3.f2
  have z0 := hB3.free 0
  have z1 := hB3.free 1
  have z2 := hB3.free 2
  go_wp2
  obtain ⟨w9, hw9, hB9, o9⟩ := hB3.set3 (.bool n1) (.slice A1 l1.length c1) (.slice B1 m1.length d1)
  rw [hw9]
  have e0 := hB9.f0
  have e1 := hB9.f1
  have e2 := hB9.f2
  refine bodyPost_ret (v := fracV n1 A1 l1.length c1 B1 m1.length d1) (by simp [results, Try.results54, go_sem, e0, e1, e2]) rfl ?_
  have m1' := ma.only_blk hB3 (noDig3 _ _ _ _ _ _ _) o9
  have m2' := mb.only_blk hB3 (noDig3 _ _ _ _ _ _ _) o9
  exact ⟨_, rfl, ⟨n1, A1, c1, l1, B1, d1, m1, rfl, m1', m2', hQ'.out⟩, o9.to_below bw3 (Nat.le_of_lt hlt0) bw3.size⟩
end Go.Proofs.Ytkjmliebkbbogaa
/- fraction.Sign: what the call does. -/
namespace Go.Proofs.Ytkjmliebkbbogaa
set_option linter.unusedVariables false
set_option linter.unusedSimpArgs false
open Go.RowKit Plain
attribute [local go_sem ↓] Go.wp_at_zero Go.wp_at_succ

/-- A call that returns the whole number x. -/
def RetI (x : Int) (W : World) (e : Ending) (w' : World) : Prop := e = .returned (.int .i64 x) ∧ Below W.heap.size W w'

set_option maxRecDepth 100000 in
set_option maxHeartbeats 1000000 in
theorem sign_any {v : Value} {q : Rat} {w : World} (hv : FV w v q) :
    Calls Try.prog 44 #[v] w (RetI (cmpR q 0) w) := by
  obtain ⟨neg, A, ca, la, B, cb, lb, rfl, na, nb, iq⟩ := hv
  have hbg := na.big
  have hc := q_sign iq
  clear iq
  obtain ⟨w0, hw0, bw0, hlt0, hB0⟩ := boxed w #[.bool neg, .slice A la.length ca, .slice B lb.length cb] 50
  have x0 := hB0.f0
  have x1 := hB0.f1
  have x2 := hB0.f2
  rw [hc]
  rcases la with _ | ⟨a, la⟩
  · rw [if_pos rfl]
    go_enter Try.func44, Try.ntmps44
    go_wp2
    go_ret
    exact ⟨rfl, by first | exact bw0 | (subst hw0; exact bw0)⟩
  · have hlen : ((((a :: la).length : Nat) : Int) == 0) = false := by rw [beq_eq_false_iff_ne, List.length_cons]; omega
    rw [if_neg (by simp)]
    generalize (a :: la).length = n at *
    rcases neg with _ | _
    · go_enter Try.func44, Try.ntmps44
      go_wp2
      go_ret
      exact ⟨rfl, bw0⟩
    · go_enter Try.func44, Try.ntmps44
      go_wp2
      go_ret
      exact ⟨rfl, bw0⟩
end Go.Proofs.Ytkjmliebkbbogaa
