/- R02 size, Make: what the calls do. -/
import Derived.Test.YtkjmliebkbbogaaFV
import Derived.Test.YtkjmliebkbbogaaFMake
import Derived.Test.YtkjmliebkbbogaaWRef9
import Derived.Test.YtkjmliebkbbogaaFSign
namespace Go.Proofs.Ytkjmliebkbbogaa
set_option linter.unusedVariables false
set_option linter.unusedSimpArgs false
open Go.RowKit Plain
attribute [local go_sem ↓] Go.wp_at_zero Go.wp_at_succ

set_option maxRecDepth 100000 in
set_option maxHeartbeats 400000 in
theorem refSize_any (n : Int) (w : World) (h1 : -9223372036854775808 ≤ n) (h2 : n ≤ 9223372036854775807) :
    Calls Try.prog 72 #[.int .i64 n] w (RetNat n.natAbs 2 w) := by
  have hb : n.natAbs < pw 2 := by simp only [pw]; omega
  by_cases hn : n < 0
  · go_enter Try.func72, Try.ntmps72
    go_wp2_with fail
    refine (refFromUint_val n.natAbs _ _ (by omega) hb).mono ?_
    rintro e w1 ⟨A, c, l, rfl, h1, h2, h3, h4⟩
    go_wp2
    go_ret
    exact ⟨A, c, l, rfl, h1, h2, h3, h4⟩
  · go_enter Try.func72, Try.ntmps72
    go_wp2_with fail
    refine (refFromUint_val n.natAbs _ _ (by omega) hb).mono ?_
    rintro e w1 ⟨A, c, l, rfl, h1, h2, h3, h4⟩
    go_wp2
    go_ret
    exact ⟨A, c, l, rfl, h1, h2, h3, h4⟩

set_option maxRecDepth 100000 in
set_option maxHeartbeats 1000000 in
theorem refMake_zero {neg : Bool} {A B : Option Addr} {n ca cb : Nat} {w : World} :
    Calls Try.prog 58 #[.bool neg, .slice A n ca, .slice B 0 cb] w (RetZE 8 w) := by
  obtain ⟨w0, hw0, bw0, hlt0, hB0⟩ := boxed w #[.bool false, .slice none 0 0, .slice none 0 0] 50
  have y0 := hB0.f0
  have y1 := hB0.f1
  have y2 := hB0.f2
  have z0 := hB0.free 0
  have z1 := hB0.free 1
  have z2 := hB0.free 2
  go_enter Try.func58, Try.ntmps58
  go_wp2
  obtain ⟨w9, hw9, hB9, o9⟩ := hB0.set3 (.bool false) (.slice none 0 0) (.slice none 0 0)
  rw [hw9]
  have e0 := hB9.f0
  have e1 := hB9.f1
  have e2 := hB9.f2
  refine bodyPost_ret (v := .tuple #[fracV false none 0 0 none 0 0, .int .i64 8]) (by simp [results, Try.results58, go_sem, e0, e1, e2]) rfl ⟨rfl, o9.to_below bw0 (Nat.le_refl _) (Nat.le_of_lt hlt0)⟩

set_option maxRecDepth 100000 in
set_option maxHeartbeats 1000000 in
theorem refMake_any {neg : Bool} {A B : Option Addr} {ca cb : Nat} {la lb : List Nat} {w : World} (ha : Nv w A ca la) (hb : Nv w B cb lb) (h0 : val lb ≠ 0) (hca : Canon la) (hcb : Canon lb) (hla : la.length ≤ 400000000) (hlb : lb.length ≤ 400000000) :
    Calls Try.prog 58 #[.bool neg, .slice A la.length ca, .slice B lb.length cb] w (RetQE (mkRat (sg neg (val la)) (val lb)) w) := by
  have hlp : lb ≠ [] := fun e => h0 (by rw [e]; rfl)
  have hlen : (((lb.length : Nat) : Int) == 0) = false := by rw [beq_eq_false_iff_ne]; have := List.length_pos_iff.2 hlp; omega
  have hbg := hb.big
  obtain ⟨w0, hw0, bw0, hlt0, hB0⟩ := boxed w #[.bool false, .slice none 0 0, .slice none 0 0] 50
  have ha0 := ha.below bw0
  have hb0 := hb.below bw0
  have hg0 : Nat.gcd (val la) (val lb) ≠ 0 := fun e => h0 (Nat.eq_zero_of_gcd_eq_zero_right e)
  clear hlp
  go_enter Try.func58, Try.ntmps58
  go_wp2_with fail
  refine (refGcd_any ha0 hb0 hca hcb hla hlb).mono ?_
  rintro e w1 ⟨G, cg, lg, rfl, ng, ig, mg, b1⟩
  have ig' := Lib.hid ig
  clear ig
  go_wp2_with fail
  refine (refDivMod_any (ha0.below b1) ng ig'.out.canon (by omega) (by omega)).mono ?_
  rintro e w2 ⟨A2, c2, q2, R2, s2, r2, rfl, nq, nr, iq, ir, lq, lr, b2⟩
  rw [ig'.out.val, if_neg hg0] at iq
  have iq' := Lib.hid iq
  have hz1 : (if val lg = 0 then (8 : Int) else 0) = 0 := by rw [ig'.out.val, if_neg hg0]
  rw [hz1]
  clear iq ir hz1
  go_wp2_with fail
  refine (refDivMod_any ((hb0.below b1).below b2) (ng.below b2) ig'.out.canon (by omega) (by omega)).mono ?_
  rintro e w3 ⟨A3, c3, q3, R3, s3, r3, rfl, nq3, nr3, iq3, ir3, lq3, lr3, b3⟩
  rw [ig'.out.val, if_neg hg0] at iq3
  have iq3' := Lib.hid iq3
  have hz1 : (if val lg = 0 then (8 : Int) else 0) = 0 := by rw [ig'.out.val, if_neg hg0]
  rw [hz1]
  clear iq3 ir3 hz1
  have b13 := (b1.trans (b2.mono b1.size))
  have b13 := b13.trans (b3.mono b13.size)
  have hB3 := hB0.keep b13
  have bw3 := bw0.trans (b13.mono (Nat.le_of_lt hlt0))
  have y0 := hB3.f0
  have y1 := hB3.f1
  have y2 := hB3.f2
  have z0 := hB3.free 0
  have z1 := hB3.free 1
  have z2 := hB3.free 2
  have hqp : decide (0 < la.length) = decide (0 < val la / Nat.gcd (val la) (val lb)) := by
    rw [decide_eq_decide]
    have ila : NatIs la (val la) := ⟨ha.dig, hca, rfl⟩
    constructor
    · intro h
      rcases Nat.eq_zero_or_pos (val la) with h1 | h1
      · rw [ila.zero_iff.2 h1] at h; simp at h
      · exact Nat.div_pos (Nat.le_of_dvd h1 (Nat.gcd_dvd_left _ _)) (Nat.pos_of_ne_zero hg0)
    · intro h
      refine ila.pos (Nat.pos_of_ne_zero fun e => ?_)
      rw [e] at h; simp at h
  obtain ⟨nz, hnz⟩ : ∃ b, decide (0 < val la / Nat.gcd (val la) (val lb)) = b := ⟨_, rfl⟩
  rw [hnz] at hqp
  have hQ := Lib.hid (fun (neg' : Bool) (h : neg' = (neg && nz)) => qIs_make (neg := neg) (neg' := neg') h0 iq'.out iq3'.out (by rw [hnz]; exact h))
  clear hnz
  have nq1 := nq.below b3
  clear b1 b2 b3
  rcases neg with _ | _
  · go_wp2
    obtain ⟨w9, hw9, hB9, o9⟩ := hB3.set3 (.bool false) (.slice A2 q2.length c2) (.slice A3 q3.length c3)
    rw [hw9]
    have e0 := hB9.f0
    have e1 := hB9.f1
    have e2 := hB9.f2
    have m1 := nq1.only_blk hB3 (noDig3 _ _ _ _ _ _ _) o9
    have m2 := nq3.only_blk hB3 (noDig3 _ _ _ _ _ _ _) o9
    refine bodyPost_ret (v := .tuple #[fracV false A2 q2.length c2 A3 q3.length c3, .int .i64 0]) (by simp [results, Try.results58, go_sem, e0, e1, e2]) rfl ?_
    exact ⟨_, rfl, ⟨_, A2, c2, q2, A3, c3, q3, rfl, m1, m2, hQ.out _ (by simp)⟩, o9.to_below bw3 (Nat.le_refl _) bw3.size⟩
  · go_wp2
    obtain ⟨w9, hw9, hB9, o9⟩ := hB3.set3 (.bool nz) (.slice A2 q2.length c2) (.slice A3 q3.length c3)
    rw [hw9]
    have e0 := hB9.f0
    have e1 := hB9.f1
    have e2 := hB9.f2
    have m1 := nq1.only_blk hB3 (noDig3 _ _ _ _ _ _ _) o9
    have m2 := nq3.only_blk hB3 (noDig3 _ _ _ _ _ _ _) o9
    refine bodyPost_ret (v := .tuple #[fracV nz A2 q2.length c2 A3 q3.length c3, .int .i64 0]) (by simp [results, Try.results58, go_sem, e0, e1, e2]) rfl ?_
    exact ⟨_, rfl, ⟨_, A2, c2, q2, A3, c3, q3, rfl, m1, m2, hQ.out _ (by simp)⟩, o9.to_below bw3 (Nat.le_refl _) bw3.size⟩

end Go.Proofs.Ytkjmliebkbbogaa
/- fraction.New at a denominator 0; R02 New, FromInt and Neg: what the calls do. -/
namespace Go.Proofs.Ytkjmliebkbbogaa
set_option linter.unusedVariables false
set_option linter.unusedSimpArgs false
open Go.RowKit Plain
attribute [local go_sem ↓] Go.wp_at_zero Go.wp_at_succ

set_option maxRecDepth 100000 in
set_option maxHeartbeats 1000000 in
theorem refNew_any (n d : Int) (w : World) (h1 : -9223372036854775808 ≤ n) (h2 : n ≤ 9223372036854775807) (h3 : -9223372036854775808 ≤ d) (h4 : d ≤ 9223372036854775807) (h0 : d ≠ 0) :
    Calls Try.prog 56 #[.int .i64 n, .int .i64 d] w (RetQE ((n : Rat) / (d : Rat)) w) := by
  obtain ⟨w0, hw0, bw0, hlt0, hB0⟩ := boxed w #[.bool false, .slice none 0 0, .slice none 0 0] 50
  go_enter Try.func56, Try.ntmps56
  go_wp2_with fail
  refine (refSize_any n _ h1 h2).mono ?_
  rintro e w1 ⟨A, c, l, rfl, na, ia, la, b1⟩
  have ia' := Lib.hid ia
  clear ia
  go_wp2_with fail
  refine (refSize_any d _ h3 h4).mono ?_
  rintro e w2 ⟨A2, c2, l2, rfl, na2, ia2, la2, b2⟩
  have ia2' := Lib.hid ia2
  clear ia2
  go_wp2_with fail
  refine (refMake_any (na.below b2) na2 (by rw [ia2'.out.val]; omega) ia'.out.canon ia2'.out.canon (by omega) (by omega)).mono ?_
  rintro e w3 ⟨v, rfl, ⟨n1, A1, c1, l1, B1, d1, m1, rfl, ma, mb, hQ⟩, b3⟩
  rw [ia'.out.val, ia2'.out.val, mk_div h0] at hQ
  have hQ' := Lib.hid hQ
  clear hQ
  have b12 := (b1.trans (b2.mono b1.size))
  have b12 := b12.trans (b3.mono b12.size)
  have hB3 := hB0.keep b12
  have bw3 := bw0.trans (b12.mono (Nat.le_of_lt hlt0))
  have y0 := hB3.f0
  have y1 := hB3.f1
  have y2 := hB3.f2
  have z0 := hB3.free 0
  have z1 := hB3.free 1
  have z2 := hB3.free 2
  go_wp2
  obtain ⟨w9, hw9, hB9, o9⟩ := hB3.set3 (.bool n1) (.slice A1 l1.length c1) (.slice B1 m1.length d1)
  rw [hw9]
  have e0 := hB9.f0
  have e1 := hB9.f1
  have e2 := hB9.f2
  refine bodyPost_ret (v := .tuple #[fracV n1 A1 l1.length c1 B1 m1.length d1, .int .i64 0]) (by simp [results, Try.results56, go_sem, e0, e1, e2]) rfl ?_
  have m1' := ma.only_blk hB3 (noDig3 _ _ _ _ _ _ _) o9
  have m2' := mb.only_blk hB3 (noDig3 _ _ _ _ _ _ _) o9
  exact ⟨_, rfl, ⟨n1, A1, c1, l1, B1, d1, m1, rfl, m1', m2', hQ'.out⟩, o9.to_below bw3 (Nat.le_refl _) bw3.size⟩
set_option maxRecDepth 100000 in
set_option maxHeartbeats 1000000 in
theorem refNew_zero (n : Int) (w : World) (h1 : -9223372036854775808 ≤ n) (h2 : n ≤ 9223372036854775807) :
    Calls Try.prog 56 #[.int .i64 n, .int .i64 0] w (RetZE 8 w) := by
  obtain ⟨w0, hw0, bw0, hlt0, hB0⟩ := boxed w #[.bool false, .slice none 0 0, .slice none 0 0] 50
  go_enter Try.func56, Try.ntmps56
  go_wp2_with fail
  refine (refSize_any n _ h1 h2).mono ?_
  rintro e w1 ⟨A, c, l, rfl, na, ia, la, b1⟩
  have ia' := Lib.hid ia
  clear ia
  go_wp2_with fail
  refine (refSize_any 0 _ (by omega) (by omega)).mono ?_
  rintro e w2 ⟨A2, c2, l2, rfl, na2, ia2, la2, b2⟩
  have ia2' := Lib.hid ia2
  clear ia2
  have hl2 := (ia2'.out.zero_iff).2 rfl
  subst hl2
  go_wp2_with fail
  refine (refMake_zero (B := A2) (cb := c2)).mono ?_
  rintro e w3 ⟨rfl, b3⟩
  have b12 := (b1.trans (b2.mono b1.size))
  have b12 := b12.trans (b3.mono b12.size)
  have hB3 := hB0.keep b12
  have bw3 := bw0.trans (b12.mono (Nat.le_of_lt hlt0))
  have y0 := hB3.f0
  have y1 := hB3.f1
  have y2 := hB3.f2
  have z0 := hB3.free 0
  have z1 := hB3.free 1
  have z2 := hB3.free 2
  go_wp2
  obtain ⟨w9, hw9, hB9, o9⟩ := hB3.set3 (.bool false) (.slice none 0 0) (.slice none 0 0)
  rw [hw9]
  have e0 := hB9.f0
  have e1 := hB9.f1
  have e2 := hB9.f2
  refine bodyPost_ret (v := .tuple #[fracV false none 0 0 none 0 0, .int .i64 8]) (by simp [results, Try.results56, go_sem, e0, e1, e2]) rfl ?_
  exact ⟨rfl, o9.to_below bw3 (Nat.le_refl _) bw3.size⟩
set_option maxRecDepth 100000 in
set_option maxHeartbeats 1000000 in
theorem refFromInt_any (n : Int) (w : World) (h1 : -9223372036854775808 ≤ n) (h2 : n ≤ 9223372036854775807) :
    Calls Try.prog 33 #[.int .i64 n] w (RetQ (n : Rat) w) := by
  obtain ⟨w0, hw0, bw0, hlt0, hB0⟩ := boxed w #[.bool false, .slice none 0 0, .slice none 0 0] 50
  have hr := Lib.hid (show (n : Rat) / ((1 : Int) : Rat) = (n : Rat) by rw [show ((1 : Int) : Rat) = 1 from rfl]; grind)
  go_enter Try.func33, Try.ntmps33
  go_wp2_with fail
  refine (refNew_any n 1 _ h1 h2 (by omega) (by omega) (by omega)).mono ?_
  rintro e w1 ⟨v, rfl, ⟨n1, A1, c1, l1, B1, d1, m1, rfl, na, nb, hQ⟩, b1⟩
  rw [hr.out] at hQ
  have hQ' := Lib.hid hQ
  clear hQ
  have hB1 := hB0.keep b1
  have bw1 := bw0.trans (b1.mono (Nat.le_of_lt hlt0))
  obtain ⟨w2, hw2, bw2, hlt2, hB2⟩ := boxed w1 #[.bool n1, .slice A1 l1.length c1, .slice B1 m1.length d1] 50
  have hR2 := hB1.keep bw2
  have y0 := hR2.f0
  have y1 := hR2.f1
  have y2 := hR2.f2
  have z0 := hR2.free 0
  have z1 := hR2.free 1
  have z2 := hR2.free 2
  have x0 := hB2.f0
  have x1 := hB2.f1
  have x2 := hB2.f2
  go_wp2
  obtain ⟨w9, hw9, hB9, o9⟩ := hR2.set3 (.bool n1) (.slice A1 l1.length c1) (.slice B1 m1.length d1)
  rw [hw9]
  have e0 := hB9.f0
  have e1 := hB9.f1
  have e2 := hB9.f2
  refine bodyPost_ret (v := fracV n1 A1 l1.length c1 B1 m1.length d1) (by simp [results, Try.results33, go_sem, e0, e1, e2]) rfl ?_
  have m1' := (na.below bw2).only_blk hR2 (noDig3 _ _ _ _ _ _ _) o9
  have m2' := (nb.below bw2).only_blk hR2 (noDig3 _ _ _ _ _ _ _) o9
  exact ⟨_, rfl, ⟨n1, A1, c1, l1, B1, d1, m1, rfl, m1', m2', hQ'.out⟩, o9.to_below (bw1.trans (bw2.mono bw1.size)) (Nat.le_refl _) (Nat.le_trans bw1.size bw2.size)⟩
theorem Plain.QIs.negIs {neg : Bool} {la lb : List Nat} {q : Rat} (h : QIs neg la lb q) : QIs (!neg && decide (0 < la.length)) la lb (-q) := by
  refine ⟨by rw [Rat.neg_num, Int.natAbs_neg]; exact h.na, h.nb, ?_⟩
  rw [Rat.neg_num, Bool.eq_iff_iff, Bool.and_eq_true, Bool.not_eq_true', decide_eq_true_eq, decide_eq_true_eq, h.2.2, decide_eq_false_iff_not]
  have h0 := h.na.zero_iff
  constructor
  · rintro ⟨h1, h2⟩
    have : q.num.natAbs ≠ 0 := fun e => by rw [h0.2 e] at h2; simp at h2
    omega
  · intro h1
    refine ⟨by omega, h.na.pos (by omega)⟩
set_option maxRecDepth 100000 in
set_option maxHeartbeats 1000000 in
theorem refNeg_any {v : Value} {q : Rat} {w : World} (hv : FV w v q) :
    Calls Try.prog 84 #[v] w (RetQ (-q) w) := by
  obtain ⟨neg, A, ca, la, B, cb, lb, rfl, na, nb, iq⟩ := hv
  have hag := na.big
  have iq' := Lib.hid iq.negIs
  clear iq
  obtain ⟨w0, hw0, bw0, hlt0, hB0⟩ := boxed w #[.bool neg, .slice A la.length ca, .slice B lb.length cb] 50
  obtain ⟨w1, hw1, bw1, hlt1, hB1⟩ := boxed w0 #[.bool false, .slice none 0 0, .slice none 0 0] 50
  have hA0 := hB0.keep bw1
  have x0 := hA0.f0
  have x1 := hA0.f1
  have x2 := hA0.f2
  have y0 := hB1.f0
  have y1 := hB1.f1
  have y2 := hB1.f2
  have z0 := hB1.free 0
  have z1 := hB1.free 1
  have z2 := hB1.free 2
  have b01 := bw0.trans (bw1.mono (Nat.le_of_lt hlt0))
  obtain ⟨nz, hnz⟩ : ∃ b, decide (0 < la.length) = b := ⟨_, rfl⟩
  rw [hnz] at iq'
  rcases neg with _ | _
  · go_enter Try.func84, Try.ntmps84
    go_wp2
    obtain ⟨w9, hw9, hB9, o9⟩ := hB1.set3 (.bool nz) (.slice A la.length ca) (.slice B lb.length cb)
    rw [hw9]
    have e0 := hB9.f0
    have e1 := hB9.f1
    have e2 := hB9.f2
    refine bodyPost_ret (v := fracV nz A la.length ca B lb.length cb) (by simp [results, Try.results84, go_sem, e0, e1, e2]) rfl ?_
    have m1' := (na.below b01).only_blk hB1 (noDig3 _ _ _ _ _ _ _) o9
    have m2' := (nb.below b01).only_blk hB1 (noDig3 _ _ _ _ _ _ _) o9
    exact ⟨_, rfl, ⟨_, A, ca, la, B, cb, lb, rfl, m1', m2', iq'.out⟩, o9.to_below b01 (Nat.le_of_lt hlt0) b01.size⟩
  · go_enter Try.func84, Try.ntmps84
    go_wp2
    obtain ⟨w9, hw9, hB9, o9⟩ := hB1.set3 (.bool false) (.slice A la.length ca) (.slice B lb.length cb)
    rw [hw9]
    have e0 := hB9.f0
    have e1 := hB9.f1
    have e2 := hB9.f2
    refine bodyPost_ret (v := fracV false A la.length ca B lb.length cb) (by simp [results, Try.results84, go_sem, e0, e1, e2]) rfl ?_
    have m1' := (na.below b01).only_blk hB1 (noDig3 _ _ _ _ _ _ _) o9
    have m2' := (nb.below b01).only_blk hB1 (noDig3 _ _ _ _ _ _ _) o9
    exact ⟨_, rfl, ⟨_, A, ca, la, B, cb, lb, rfl, m1', m2', iq'.out⟩, o9.to_below b01 (Nat.le_of_lt hlt0) b01.size⟩
end Go.Proofs.Ytkjmliebkbbogaa
