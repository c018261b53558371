/- fraction.size, Make, made, FromInt, New: what the calls do. -/
import Derived.Test.YtkjmliebkbbogaaFV
import Derived.Test.YtkjmliebkbbogaaWGcd
namespace Go.Proofs.Ytkjmliebkbbogaa
set_option linter.unusedVariables false
set_option linter.unusedSimpArgs false
open Go.RowKit Plain
attribute [local go_sem ↓] Go.wp_at_zero Go.wp_at_succ

theorem fromUint_val (x : Nat) (n : Int) (w : World) (hn : n = (x : Int)) (hx : x < pw 2) : Calls Try.prog 71 #[.int .u64 n] w (RetNat x 2 w) := by
  subst hn; exact fromUint_any x w hx
set_option maxRecDepth 100000 in
set_option maxHeartbeats 400000 in
theorem size_any (n : Int) (w : World) (h1 : -9223372036854775808 ≤ n) (h2 : n ≤ 9223372036854775807) :
    Calls Try.prog 70 #[.int .i64 n] w (RetNat n.natAbs 2 w) := by
  have hb : n.natAbs < pw 2 := by simp only [pw]; omega
  by_cases hn : n < 0
  · go_enter Try.func70, Try.ntmps70
    go_wp2_with fail
    refine (fromUint_val n.natAbs _ _ (by omega) hb).mono ?_
    rintro e w1 ⟨A, c, l, rfl, h1, h2, h3, h4⟩
    go_wp2
    go_ret
    exact ⟨A, c, l, rfl, h1, h2, h3, h4⟩
  · go_enter Try.func70, Try.ntmps70
    go_wp2_with fail
    refine (fromUint_val n.natAbs _ _ (by omega) hb).mono ?_
    rintro e w1 ⟨A, c, l, rfl, h1, h2, h3, h4⟩
    go_wp2
    go_ret
    exact ⟨A, c, l, rfl, h1, h2, h3, h4⟩

/-- The zero value of a fraction, with an error. -/
def RetZE (x : Int) (W : World) (e : Ending) (w' : World) : Prop := e = .returned (.tuple #[fracV false none 0 0 none 0 0, .int .i64 x]) ∧ Below W.heap.size W w'

set_option maxRecDepth 100000 in
set_option maxHeartbeats 1000000 in
theorem make_zero {neg : Bool} {A B : Option Addr} {n ca cb : Nat} {w : World} :
    Calls Try.prog 83 #[.bool neg, .slice A n ca, .slice B 0 cb] w (RetZE 8 w) := by
  obtain ⟨w0, hw0, bw0, hlt0, hB0⟩ := boxed w #[.bool false, .slice none 0 0, .slice none 0 0] 50
  have y0 := hB0.f0
  have y1 := hB0.f1
  have y2 := hB0.f2
  have z0 := hB0.free 0
  have z1 := hB0.free 1
  have z2 := hB0.free 2
  go_enter Try.func83, Try.ntmps83
  go_wp2
  obtain ⟨w9, hw9, hB9, o9⟩ := hB0.set3 (.bool false) (.slice none 0 0) (.slice none 0 0)
  rw [hw9]
  have e0 := hB9.f0
  have e1 := hB9.f1
  have e2 := hB9.f2
  refine bodyPost_ret (v := .tuple #[fracV false none 0 0 none 0 0, .int .i64 8]) (by simp [results, Try.results83, go_sem, e0, e1, e2]) rfl ⟨rfl, o9.to_below bw0 (Nat.le_refl _) (Nat.le_of_lt hlt0)⟩

set_option maxRecDepth 100000 in
set_option maxHeartbeats 1000000 in
theorem make_any {neg : Bool} {A B : Option Addr} {ca cb : Nat} {la lb : List Nat} {w : World} (ha : Nv w A ca la) (hb : Nv w B cb lb) (h0 : val lb ≠ 0) (hla : la.length ≤ 400000000) (hlb : lb.length ≤ 400000000) :
    Calls Try.prog 83 #[.bool neg, .slice A la.length ca, .slice B lb.length cb] w (RetQE (mkRat (sg neg (val la)) (val lb)) w) := by
  have hlp : lb ≠ [] := fun e => h0 (by rw [e]; rfl)
  have hlen : (((lb.length : Nat) : Int) == 0) = false := by rw [beq_eq_false_iff_ne]; have := List.length_pos_iff.2 hlp; omega
  have hbg := hb.big
  obtain ⟨w0, hw0, bw0, hlt0, hB0⟩ := boxed w #[.bool false, .slice none 0 0, .slice none 0 0] 50
  have ha0 := ha.below bw0
  have hb0 := hb.below bw0
  have hg0 : Nat.gcd (val la) (val lb) ≠ 0 := fun e => h0 (Nat.eq_zero_of_gcd_eq_zero_right e)
  clear hlp
  go_enter Try.func83, Try.ntmps83
  go_wp2_with fail
  refine (gcd_any ha0 hb0 hla hlb).mono ?_
  rintro e w1 ⟨G, cg, lg, rfl, ng, ig, mg, b1⟩
  have ig' := Lib.hid ig
  clear ig
  go_wp2_with fail
  refine (divMod_any (ha0.below b1) ng (by omega) (by omega)).mono ?_
  rintro e w2 ⟨A2, c2, q2, R2, s2, r2, rfl, nq, nr, iq, ir, lq, lr, b2⟩
  rw [ig'.out.val, if_neg hg0] at iq
  have iq' := Lib.hid iq
  have hz1 : (if val lg = 0 then (8 : Int) else 0) = 0 := by rw [ig'.out.val, if_neg hg0]
  rw [hz1]
  clear iq ir hz1
  go_wp2_with fail
  refine (divMod_any ((hb0.below b1).below b2) (ng.below b2) (by omega) (by omega)).mono ?_
  rintro e w3 ⟨A3, c3, q3, R3, s3, r3, rfl, nq3, nr3, iq3, ir3, lq3, lr3, b3⟩
  rw [ig'.out.val, if_neg hg0] at iq3
  have iq3' := Lib.hid iq3
  have hz1 : (if val lg = 0 then (8 : Int) else 0) = 0 := by rw [ig'.out.val, if_neg hg0]
  rw [hz1]
  clear iq3 ir3 hz1
  have b13 := (b1.trans (b2.mono b1.size))
  have b13 := b13.trans (b3.mono b13.size)
  have hB3 := hB0.keep b13
  have bw3 := bw0.trans (b13.mono (Nat.le_of_lt hlt0))
  have y0 := hB3.f0
  have y1 := hB3.f1
  have y2 := hB3.f2
  have z0 := hB3.free 0
  have z1 := hB3.free 1
  have z2 := hB3.free 2
  have hqp : decide (0 < q2.length) = decide (0 < val la / Nat.gcd (val la) (val lb)) := by
    rw [decide_eq_decide]
    constructor
    · intro h
      rcases Nat.eq_zero_or_pos (val la / Nat.gcd (val la) (val lb)) with h1 | h1
      · have := iq'.out.zero_iff.2 h1
        rw [this] at h; simp at h
      · exact h1
    · exact fun h => iq'.out.pos h
  obtain ⟨nz, hnz⟩ : ∃ b, decide (0 < val la / Nat.gcd (val la) (val lb)) = b := ⟨_, rfl⟩
  rw [hnz] at hqp
  have hQ := Lib.hid (fun (neg' : Bool) (h : neg' = (neg && nz)) => qIs_make (neg := neg) (neg' := neg') h0 iq'.out iq3'.out (by rw [hnz]; exact h))
  clear hnz
  have nq1 := nq.below b3
  clear b1 b2 b3
  rcases neg with _ | _
  · go_wp2
    obtain ⟨w9, hw9, hB9, o9⟩ := hB3.set3 (.bool false) (.slice A2 q2.length c2) (.slice A3 q3.length c3)
    rw [hw9]
    have e0 := hB9.f0
    have e1 := hB9.f1
    have e2 := hB9.f2
    have m1 := nq1.only_blk hB3 (noDig3 _ _ _ _ _ _ _) o9
    have m2 := nq3.only_blk hB3 (noDig3 _ _ _ _ _ _ _) o9
    refine bodyPost_ret (v := .tuple #[fracV false A2 q2.length c2 A3 q3.length c3, .int .i64 0]) (by simp [results, Try.results83, go_sem, e0, e1, e2]) rfl ?_
    exact ⟨_, rfl, ⟨_, A2, c2, q2, A3, c3, q3, rfl, m1, m2, hQ.out _ (by simp)⟩, o9.to_below bw3 (Nat.le_refl _) bw3.size⟩
  · go_wp2
    obtain ⟨w9, hw9, hB9, o9⟩ := hB3.set3 (.bool nz) (.slice A2 q2.length c2) (.slice A3 q3.length c3)
    rw [hw9]
    have e0 := hB9.f0
    have e1 := hB9.f1
    have e2 := hB9.f2
    have m1 := nq1.only_blk hB3 (noDig3 _ _ _ _ _ _ _) o9
    have m2 := nq3.only_blk hB3 (noDig3 _ _ _ _ _ _ _) o9
    refine bodyPost_ret (v := .tuple #[fracV nz A2 q2.length c2 A3 q3.length c3, .int .i64 0]) (by simp [results, Try.results83, go_sem, e0, e1, e2]) rfl ?_
    exact ⟨_, rfl, ⟨_, A2, c2, q2, A3, c3, q3, rfl, m1, m2, hQ.out _ (by simp)⟩, o9.to_below bw3 (Nat.le_refl _) bw3.size⟩

set_option maxRecDepth 100000 in
set_option maxHeartbeats 1000000 in
theorem made_any {neg : Bool} {A B : Option Addr} {ca cb : Nat} {la lb : List Nat} {w : World} (ha : Nv w A ca la) (hb : Nv w B cb lb) (h0 : val lb ≠ 0) (hla : la.length ≤ 400000000) (hlb : lb.length ≤ 400000000) :
    Calls Try.prog 69 #[.bool neg, .slice A la.length ca, .slice B lb.length cb] w (RetQ (mkRat (sg neg (val la)) (val lb)) w) := by
  obtain ⟨w0, hw0, bw0, hlt0, hB0⟩ := boxed w #[.bool false, .slice none 0 0, .slice none 0 0] 50
  obtain ⟨q, hq⟩ : ∃ q, Hid (mkRat (sg neg (val la)) (val lb) = q) := ⟨_, rfl⟩
  have ha0 := ha.below bw0
  have hb0 := hb.below bw0
  rw [hq.out]
  go_enter Try.func69, Try.ntmps69
  go_wp2_with fail
  refine (make_any ha0 hb0 h0 hla hlb).mono ?_
  rintro e w1 ⟨v, rfl, ⟨n1, A1, c1, l1, B1, d1, m1, rfl, na, nb, hQ⟩, b1⟩
  rw [hq.out] at hQ
  have hQ' := Lib.hid hQ
  clear hQ
  have hB1 := hB0.keep b1
  have bw1 := bw0.trans (b1.mono (Nat.le_of_lt hlt0))
  obtain ⟨w2, hw2, bw2, hlt2, hB2⟩ := boxed w1 #[.bool n1, .slice A1 l1.length c1, .slice B1 m1.length d1] 50
  have hR2 := hB1.keep bw2
  have y0 := hR2.f0
  have y1 := hR2.f1
  have y2 := hR2.f2
  have z0 := hR2.free 0
  have z1 := hR2.free 1
  have z2 := hR2.free 2
  have x0 := hB2.f0
  have x1 := hB2.f1
  have x2 := hB2.f2
  go_wp2
  obtain ⟨w9, hw9, hB9, o9⟩ := hR2.set3 (.bool n1) (.slice A1 l1.length c1) (.slice B1 m1.length d1)
  rw [hw9]
  have e0 := hB9.f0
  have e1 := hB9.f1
  have e2 := hB9.f2
  refine bodyPost_ret (v := fracV n1 A1 l1.length c1 B1 m1.length d1) (by simp [results, Try.results69, go_sem, e0, e1, e2]) rfl ?_
  have m1' := (na.below bw2).only_blk hR2 (noDig3 _ _ _ _ _ _ _) o9
  have m2' := (nb.below bw2).only_blk hR2 (noDig3 _ _ _ _ _ _ _) o9
  exact ⟨_, rfl, ⟨n1, A1, c1, l1, B1, d1, m1, rfl, m1', m2', hQ'.out⟩, o9.to_below (bw1.trans (bw2.mono bw1.size)) (Nat.le_refl _) (Nat.le_trans bw1.size bw2.size)⟩
end Go.Proofs.Ytkjmliebkbbogaa
