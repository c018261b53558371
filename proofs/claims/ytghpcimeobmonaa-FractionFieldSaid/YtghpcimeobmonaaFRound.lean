/- fraction.round, Floor and Ceil: what the calls do. -/
import Derived.Test.YtghpcimeobmonaaFV
import Derived.Test.YtghpcimeobmonaaFMake
namespace Go.Proofs.Ytghpcimeobmonaa
set_option linter.unusedVariables false
set_option linter.unusedSimpArgs false
open Go.RowKit Plain
attribute [local go_sem ↓] Go.wp_at_zero Go.wp_at_succ

def inR (neg : Bool) (m : Nat) : Bool := if neg = true then decide (m ≤ 9223372036854775808) else decide (m < 9223372036854775808)
/-- A quotient rounded up or down. -/
def roundN (neg up : Bool) (n d : Nat) : Nat := n / d + (if 0 < n % d ∧ neg ≠ up then 1 else 0)
def rndN (up : Bool) (q : Rat) : Nat := roundN (decide (q.num < 0)) up q.num.natAbs q.den
/-- A call that returns an integer that fits, or says that it does not. -/
def RetZB (neg : Bool) (m : Nat) (W : World) (e : Ending) (w' : World) : Prop := e = .returned (.tuple #[.int .i64 (if inR neg m = true then sg neg m else 0), .bool (inR neg m)]) ∧ Below W.heap.size W w'
theorem retZB_out {neg : Bool} {m : Nat} {W w' : World} (h : inR neg m = false) (b : Below W.heap.size W w') : RetZB neg m W (.returned (.tuple #[.int .i64 0, .bool false])) w' := ⟨by rw [h]; rfl, b⟩
theorem retZB_in {neg : Bool} {m : Nat} {W w' : World} (h : inR neg m = true) {z : Int} (hz : z = sg neg m) (b : Below W.heap.size W w') : RetZB neg m W (.returned (.tuple #[.int .i64 z, .bool true])) w' := ⟨by rw [h, if_pos rfl, hz], b⟩
theorem pw2_big' : pw 2 = 18446744073709551616 := by simp only [pw]
theorem inR_big {neg : Bool} {m : Nat} (h : isUint m = false) : inR neg m = false := by
  unfold isUint at h
  simp only [pw2_big', decide_eq_false_iff_not] at h
  unfold inR
  split <;> exact decide_eq_false (by omega)
theorem neg_wrap {m : Nat} (h : m ≤ 9223372036854775808) : wrap64 (-wrap64 (m : Int)) = sg true m := by
  unfold sg wrap64
  rw [if_pos rfl]
  omega
theorem pos_id {m : Nat} : (m : Int) = sg false m := by
  unfold sg
  rw [if_neg (by simp)]

set_option maxRecDepth 100000 in
set_option maxHeartbeats 2000000 in
theorem round_any {neg up : Bool} {A B : Option Addr} {ca cb : Nat} {la lb : List Nat} {w : World} (ha : Nv w A ca la) (hb : Nv w B cb lb) (h0 : val lb ≠ 0) (hla : la.length ≤ 400000000) (hlb : lb.length ≤ 400000000) :
    Calls Try.prog 64 #[fracV neg A la.length ca B lb.length cb, .bool up] w (RetZB neg (roundN neg up (val la) (val lb)) w) := by
  obtain ⟨w0, hw0, bw0, hlt0, hB0⟩ := boxed w #[.bool neg, .slice A la.length ca, .slice B lb.length cb] 25
  have ha0 := ha.below bw0
  have hb0 := hb.below bw0
  have x0 := hB0.f0
  have x1 := hB0.f1
  have x2 := hB0.f2
  clear ha hb
  rcases neg with _ | _ <;> rcases up with _ | _
  · obtain ⟨m, hm⟩ : ∃ m, Hid (roundN false false (val la) (val lb) = m) := ⟨_, rfl⟩
    rw [hm.out]
    go_enter Try.func64, Try.ntmps64
    go_wp2_with fail
    refine (divMod_any ha0 hb0 (by omega) (by omega)).mono ?_
    rintro e w1 ⟨Q, cq, q, R, cr, r, rfl, nq, nr, iq, ir, lq, lr, b1⟩
    rw [if_neg h0] at iq ir
    have hz1 : (if val lb = 0 then (8 : Int) else 0) = 0 := if_neg h0
    rw [hz1]
    have iq' := Lib.hid iq
    have ir' := Lib.hid ir
    clear iq ir hz1 x0 x1 x2
    have hB1 := hB0.keep b1
    have b01 := bw0.trans (b1.mono (Nat.le_of_lt hlt0))
    have x0 := hB1.f0
    have hrb := nr.big
    have hQ : val q = m := by rw [iq'.out.val, ← hm.out]; unfold roundN; simp
    have hQ' := Lib.hid hQ
    clear hQ
    rcases Nat.eq_zero_or_pos r.length with hr | hr
    · have hrd : decide ((0 : Int) < (r.length : Int)) = false := decide_eq_false (by omega)
      go_wp2_with fail
      refine (uint_any nq).mono ?_
      rintro e w9 ⟨rfl, b9⟩
      rw [hQ'.out]
      have hB9 := hB1.keep b9
      have z0 := hB9.f0
      have bT := b01.trans (b9.mono b01.size)
      clear b9
      by_cases hu : isUint m = true
      · have hmu : uintOf m = m := by unfold uintOf; unfold isUint at hu; rw [if_pos (by simpa using hu)]
        rw [hu, hmu]
        have hu' := Lib.hid hu
        clear hu hmu
        by_cases hle : m < 9223372036854775808
        · have hd : decide ((m : Int) < 9223372036854775808) = true := decide_eq_true (by omega)
          go_wp2
          go_ret2
          exact retZB_in (by unfold inR; simpa using hle) pos_id bT
        · have hd : decide ((m : Int) < 9223372036854775808) = false := decide_eq_false (by omega)
          go_wp2
          go_ret2
          exact retZB_out (by unfold inR; simpa using hle) bT
      · have hu2 := eq_false_of_ne_true hu
        rw [hu2]
        have hu3 := Lib.hid hu2
        clear hu hu2
        go_wp2
        go_ret2
        exact retZB_out (inR_big hu3.out) bT
    · have hrd : decide ((0 : Int) < (r.length : Int)) = true := decide_eq_true (by omega)
      go_wp2_with fail
      refine (uint_any nq).mono ?_
      rintro e w9 ⟨rfl, b9⟩
      rw [hQ'.out]
      have hB9 := hB1.keep b9
      have z0 := hB9.f0
      have bT := b01.trans (b9.mono b01.size)
      clear b9
      by_cases hu : isUint m = true
      · have hmu : uintOf m = m := by unfold uintOf; unfold isUint at hu; rw [if_pos (by simpa using hu)]
        rw [hu, hmu]
        have hu' := Lib.hid hu
        clear hu hmu
        by_cases hle : m < 9223372036854775808
        · have hd : decide ((m : Int) < 9223372036854775808) = true := decide_eq_true (by omega)
          go_wp2
          go_ret2
          exact retZB_in (by unfold inR; simpa using hle) pos_id bT
        · have hd : decide ((m : Int) < 9223372036854775808) = false := decide_eq_false (by omega)
          go_wp2
          go_ret2
          exact retZB_out (by unfold inR; simpa using hle) bT
      · have hu2 := eq_false_of_ne_true hu
        rw [hu2]
        have hu3 := Lib.hid hu2
        clear hu hu2
        go_wp2
        go_ret2
        exact retZB_out (inR_big hu3.out) bT
  · obtain ⟨m, hm⟩ : ∃ m, Hid (roundN false true (val la) (val lb) = m) := ⟨_, rfl⟩
    rw [hm.out]
    go_enter Try.func64, Try.ntmps64
    go_wp2_with fail
    refine (divMod_any ha0 hb0 (by omega) (by omega)).mono ?_
    rintro e w1 ⟨Q, cq, q, R, cr, r, rfl, nq, nr, iq, ir, lq, lr, b1⟩
    rw [if_neg h0] at iq ir
    have hz1 : (if val lb = 0 then (8 : Int) else 0) = 0 := if_neg h0
    rw [hz1]
    have iq' := Lib.hid iq
    have ir' := Lib.hid ir
    clear iq ir hz1 x0 x1 x2
    have hB1 := hB0.keep b1
    have b01 := bw0.trans (b1.mono (Nat.le_of_lt hlt0))
    have x0 := hB1.f0
    have hrb := nr.big
    rcases Nat.eq_zero_or_pos r.length with hr | hr
    · have hrd : decide ((0 : Int) < (r.length : Int)) = false := decide_eq_false (by omega)
      have hQ' := Lib.hid (show val q = m by rw [iq'.out.val, ← hm.out]; unfold roundN; rw [if_neg (fun h => absurd h.1 (by rw [← ir'.out.val, List.eq_nil_of_length_eq_zero hr]; simp [val]))]; rfl)
      go_wp2_with fail
      refine (uint_any nq).mono ?_
      rintro e w9 ⟨rfl, b9⟩
      rw [hQ'.out]
      have hB9 := hB1.keep b9
      have z0 := hB9.f0
      have bT := b01.trans (b9.mono b01.size)
      clear b9
      by_cases hu : isUint m = true
      · have hmu : uintOf m = m := by unfold uintOf; unfold isUint at hu; rw [if_pos (by simpa using hu)]
        rw [hu, hmu]
        have hu' := Lib.hid hu
        clear hu hmu
        by_cases hle : m < 9223372036854775808
        · have hd : decide ((m : Int) < 9223372036854775808) = true := decide_eq_true (by omega)
          go_wp2
          go_ret2
          exact retZB_in (by unfold inR; simpa using hle) pos_id bT
        · have hd : decide ((m : Int) < 9223372036854775808) = false := decide_eq_false (by omega)
          go_wp2
          go_ret2
          exact retZB_out (by unfold inR; simpa using hle) bT
      · have hu2 := eq_false_of_ne_true hu
        rw [hu2]
        have hu3 := Lib.hid hu2
        clear hu hu2
        go_wp2
        go_ret2
        exact retZB_out (inR_big hu3.out) bT
    · have hrd : decide ((0 : Int) < (r.length : Int)) = true := decide_eq_true (by omega)
      have hQ' := Lib.hid (show val q + 1 = m by rw [iq'.out.val, ← hm.out]; unfold roundN; rw [if_pos ⟨Nat.pos_of_ne_zero (fun e => by rw [ir'.out.zero_iff.2 e] at hr; simp at hr), by simp⟩])
      go_wp2_with fail
      refine (fromUint_val 1 1 _ rfl (by rw [pw2_big']; omega)).mono ?_
      rintro e w2 ⟨O, co, lo, rfl, no, io, mo, b2⟩
      go_wp2_with fail
      refine (add_any Q O cq co q lo _ (nq.below b2) no (by omega) (by omega)).mono ?_
      rintro e w3 ⟨S, cs, s, rfl, ns, is, ms, b3⟩
      rw [io.val] at is
      have is' := Lib.hid is
      clear is io
      have hB3 := (hB1.keep b2).keep b3
      have x00 := hB3.f0
      have b02 := b01.trans (b2.mono b01.size)
      have b03 := b02.trans (b3.mono b02.size)
      clear b02 b2 b3
      go_wp2_with fail
      refine (uint_any ns).mono ?_
      rintro e w9 ⟨rfl, b9⟩
      rw [is'.out.val.trans hQ'.out]
      have hB9 := hB3.keep b9
      have z0 := hB9.f0
      have bT := b03.trans (b9.mono b03.size)
      clear b9
      by_cases hu : isUint m = true
      · have hmu : uintOf m = m := by unfold uintOf; unfold isUint at hu; rw [if_pos (by simpa using hu)]
        rw [hu, hmu]
        have hu' := Lib.hid hu
        clear hu hmu
        by_cases hle : m < 9223372036854775808
        · have hd : decide ((m : Int) < 9223372036854775808) = true := decide_eq_true (by omega)
          go_wp2
          go_ret2
          exact retZB_in (by unfold inR; simpa using hle) pos_id bT
        · have hd : decide ((m : Int) < 9223372036854775808) = false := decide_eq_false (by omega)
          go_wp2
          go_ret2
          exact retZB_out (by unfold inR; simpa using hle) bT
      · have hu2 := eq_false_of_ne_true hu
        rw [hu2]
        have hu3 := Lib.hid hu2
        clear hu hu2
        go_wp2
        go_ret2
        exact retZB_out (inR_big hu3.out) bT
  · obtain ⟨m, hm⟩ : ∃ m, Hid (roundN true false (val la) (val lb) = m) := ⟨_, rfl⟩
    rw [hm.out]
    go_enter Try.func64, Try.ntmps64
    go_wp2_with fail
    refine (divMod_any ha0 hb0 (by omega) (by omega)).mono ?_
    rintro e w1 ⟨Q, cq, q, R, cr, r, rfl, nq, nr, iq, ir, lq, lr, b1⟩
    rw [if_neg h0] at iq ir
    have hz1 : (if val lb = 0 then (8 : Int) else 0) = 0 := if_neg h0
    rw [hz1]
    have iq' := Lib.hid iq
    have ir' := Lib.hid ir
    clear iq ir hz1 x0 x1 x2
    have hB1 := hB0.keep b1
    have b01 := bw0.trans (b1.mono (Nat.le_of_lt hlt0))
    have x0 := hB1.f0
    have hrb := nr.big
    rcases Nat.eq_zero_or_pos r.length with hr | hr
    · have hrd : decide ((0 : Int) < (r.length : Int)) = false := decide_eq_false (by omega)
      have hQ' := Lib.hid (show val q = m by rw [iq'.out.val, ← hm.out]; unfold roundN; rw [if_neg (fun h => absurd h.1 (by rw [← ir'.out.val, List.eq_nil_of_length_eq_zero hr]; simp [val]))]; rfl)
      go_wp2_with fail
      refine (uint_any nq).mono ?_
      rintro e w9 ⟨rfl, b9⟩
      rw [hQ'.out]
      have hB9 := hB1.keep b9
      have z0 := hB9.f0
      have bT := b01.trans (b9.mono b01.size)
      clear b9
      by_cases hu : isUint m = true
      · have hmu : uintOf m = m := by unfold uintOf; unfold isUint at hu; rw [if_pos (by simpa using hu)]
        rw [hu, hmu]
        have hu' := Lib.hid hu
        clear hu hmu
        by_cases hle : m ≤ 9223372036854775808
        · have hd : decide ((m : Int) ≤ 9223372036854775808) = true := decide_eq_true (by omega)
          go_wp2
          go_ret2
          exact retZB_in (by unfold inR; simpa using hle) (neg_wrap hle) bT
        · have hd : decide ((m : Int) ≤ 9223372036854775808) = false := decide_eq_false (by omega)
          go_wp2
          go_ret2
          exact retZB_out (by unfold inR; simpa using hle) bT
      · have hu2 := eq_false_of_ne_true hu
        rw [hu2]
        have hu3 := Lib.hid hu2
        clear hu hu2
        go_wp2
        go_ret2
        exact retZB_out (inR_big hu3.out) bT
    · have hrd : decide ((0 : Int) < (r.length : Int)) = true := decide_eq_true (by omega)
      have hQ' := Lib.hid (show val q + 1 = m by rw [iq'.out.val, ← hm.out]; unfold roundN; rw [if_pos ⟨Nat.pos_of_ne_zero (fun e => by rw [ir'.out.zero_iff.2 e] at hr; simp at hr), by simp⟩])
      go_wp2_with fail
      refine (fromUint_val 1 1 _ rfl (by rw [pw2_big']; omega)).mono ?_
      rintro e w2 ⟨O, co, lo, rfl, no, io, mo, b2⟩
      go_wp2_with fail
      refine (add_any Q O cq co q lo _ (nq.below b2) no (by omega) (by omega)).mono ?_
      rintro e w3 ⟨S, cs, s, rfl, ns, is, ms, b3⟩
      rw [io.val] at is
      have is' := Lib.hid is
      clear is io
      have hB3 := (hB1.keep b2).keep b3
      have x00 := hB3.f0
      have b02 := b01.trans (b2.mono b01.size)
      have b03 := b02.trans (b3.mono b02.size)
      clear b02 b2 b3
      go_wp2_with fail
      refine (uint_any ns).mono ?_
      rintro e w9 ⟨rfl, b9⟩
      rw [is'.out.val.trans hQ'.out]
      have hB9 := hB3.keep b9
      have z0 := hB9.f0
      have bT := b03.trans (b9.mono b03.size)
      clear b9
      by_cases hu : isUint m = true
      · have hmu : uintOf m = m := by unfold uintOf; unfold isUint at hu; rw [if_pos (by simpa using hu)]
        rw [hu, hmu]
        have hu' := Lib.hid hu
        clear hu hmu
        by_cases hle : m ≤ 9223372036854775808
        · have hd : decide ((m : Int) ≤ 9223372036854775808) = true := decide_eq_true (by omega)
          go_wp2
          go_ret2
          exact retZB_in (by unfold inR; simpa using hle) (neg_wrap hle) bT
        · have hd : decide ((m : Int) ≤ 9223372036854775808) = false := decide_eq_false (by omega)
          go_wp2
          go_ret2
          exact retZB_out (by unfold inR; simpa using hle) bT
      · have hu2 := eq_false_of_ne_true hu
        rw [hu2]
        have hu3 := Lib.hid hu2
        clear hu hu2
        go_wp2
        go_ret2
        exact retZB_out (inR_big hu3.out) bT
  · obtain ⟨m, hm⟩ : ∃ m, Hid (roundN true true (val la) (val lb) = m) := ⟨_, rfl⟩
    rw [hm.out]
    go_enter Try.func64, Try.ntmps64
    go_wp2_with fail
    refine (divMod_any ha0 hb0 (by omega) (by omega)).mono ?_
    rintro e w1 ⟨Q, cq, q, R, cr, r, rfl, nq, nr, iq, ir, lq, lr, b1⟩
    rw [if_neg h0] at iq ir
    have hz1 : (if val lb = 0 then (8 : Int) else 0) = 0 := if_neg h0
    rw [hz1]
    have iq' := Lib.hid iq
    have ir' := Lib.hid ir
    clear iq ir hz1 x0 x1 x2
    have hB1 := hB0.keep b1
    have b01 := bw0.trans (b1.mono (Nat.le_of_lt hlt0))
    have x0 := hB1.f0
    have hrb := nr.big
    have hQ : val q = m := by rw [iq'.out.val, ← hm.out]; unfold roundN; simp
    have hQ' := Lib.hid hQ
    clear hQ
    rcases Nat.eq_zero_or_pos r.length with hr | hr
    · have hrd : decide ((0 : Int) < (r.length : Int)) = false := decide_eq_false (by omega)
      go_wp2_with fail
      refine (uint_any nq).mono ?_
      rintro e w9 ⟨rfl, b9⟩
      rw [hQ'.out]
      have hB9 := hB1.keep b9
      have z0 := hB9.f0
      have bT := b01.trans (b9.mono b01.size)
      clear b9
      by_cases hu : isUint m = true
      · have hmu : uintOf m = m := by unfold uintOf; unfold isUint at hu; rw [if_pos (by simpa using hu)]
        rw [hu, hmu]
        have hu' := Lib.hid hu
        clear hu hmu
        by_cases hle : m ≤ 9223372036854775808
        · have hd : decide ((m : Int) ≤ 9223372036854775808) = true := decide_eq_true (by omega)
          go_wp2
          go_ret2
          exact retZB_in (by unfold inR; simpa using hle) (neg_wrap hle) bT
        · have hd : decide ((m : Int) ≤ 9223372036854775808) = false := decide_eq_false (by omega)
          go_wp2
          go_ret2
          exact retZB_out (by unfold inR; simpa using hle) bT
      · have hu2 := eq_false_of_ne_true hu
        rw [hu2]
        have hu3 := Lib.hid hu2
        clear hu hu2
        go_wp2
        go_ret2
        exact retZB_out (inR_big hu3.out) bT
    · have hrd : decide ((0 : Int) < (r.length : Int)) = true := decide_eq_true (by omega)
      go_wp2_with fail
      refine (uint_any nq).mono ?_
      rintro e w9 ⟨rfl, b9⟩
      rw [hQ'.out]
      have hB9 := hB1.keep b9
      have z0 := hB9.f0
      have bT := b01.trans (b9.mono b01.size)
      clear b9
      by_cases hu : isUint m = true
      · have hmu : uintOf m = m := by unfold uintOf; unfold isUint at hu; rw [if_pos (by simpa using hu)]
        rw [hu, hmu]
        have hu' := Lib.hid hu
        clear hu hmu
        by_cases hle : m ≤ 9223372036854775808
        · have hd : decide ((m : Int) ≤ 9223372036854775808) = true := decide_eq_true (by omega)
          go_wp2
          go_ret2
          exact retZB_in (by unfold inR; simpa using hle) (neg_wrap hle) bT
        · have hd : decide ((m : Int) ≤ 9223372036854775808) = false := decide_eq_false (by omega)
          go_wp2
          go_ret2
          exact retZB_out (by unfold inR; simpa using hle) bT
      · have hu2 := eq_false_of_ne_true hu
        rw [hu2]
        have hu3 := Lib.hid hu2
        clear hu hu2
        go_wp2
        go_ret2
        exact retZB_out (inR_big hu3.out) bT

theorem floorF_any {v : Value} {q : Rat} {k : Nat} {w : World} (hv : FV w v q) (hk : Fits k q) (hK : k ≤ 400000000) :
    Calls Try.prog 24 #[v] w (RetZB (decide (q.num < 0)) (rndN false q) w) := by
  obtain ⟨neg, A, ca, la, B, cb, lb, rfl, na, nb, iq⟩ := hv
  have hf := QIs.fits iq hk
  have h0 := QIs.den_ne iq
  have e : RetZB (decide (q.num < 0)) (rndN false q) w = RetZB neg (roundN neg false (val la) (val lb)) w := by unfold rndN; rw [iq.na.val, iq.nb.val, iq.2.2]
  rw [e]
  clear iq e
  obtain ⟨b, hb⟩ : ∃ b, Hid (inR neg (roundN neg false (val la) (val lb)) = b) := ⟨_, rfl⟩
  obtain ⟨z, hz⟩ : ∃ z, Hid ((if b = true then sg neg (roundN neg false (val la) (val lb)) else 0) = z) := ⟨_, rfl⟩
  obtain ⟨w0, hw0, bw0, hlt0, hB0⟩ := boxed w #[.bool neg, .slice A la.length ca, .slice B lb.length cb] 25
  have x0 := hB0.f0
  have x1 := hB0.f1
  have x2 := hB0.f2
  go_enter Try.func24, Try.ntmps24
  go_wp2_with fail
  refine (round_any (na.below bw0) (nb.below bw0) h0 (by omega) (by omega)).mono ?_
  rintro e w1 ⟨rfl, b1⟩
  rw [hb.out, hz.out]
  go_wp2
  go_ret2
  exact ⟨by rw [hb.out, hz.out]; rfl, bw0.trans (b1.mono (Nat.le_of_lt hlt0))⟩
theorem ceilF_any {v : Value} {q : Rat} {k : Nat} {w : World} (hv : FV w v q) (hk : Fits k q) (hK : k ≤ 400000000) :
    Calls Try.prog 26 #[v] w (RetZB (decide (q.num < 0)) (rndN true q) w) := by
  obtain ⟨neg, A, ca, la, B, cb, lb, rfl, na, nb, iq⟩ := hv
  have hf := QIs.fits iq hk
  have h0 := QIs.den_ne iq
  have e : RetZB (decide (q.num < 0)) (rndN true q) w = RetZB neg (roundN neg true (val la) (val lb)) w := by unfold rndN; rw [iq.na.val, iq.nb.val, iq.2.2]
  rw [e]
  clear iq e
  obtain ⟨b, hb⟩ : ∃ b, Hid (inR neg (roundN neg true (val la) (val lb)) = b) := ⟨_, rfl⟩
  obtain ⟨z, hz⟩ : ∃ z, Hid ((if b = true then sg neg (roundN neg true (val la) (val lb)) else 0) = z) := ⟨_, rfl⟩
  obtain ⟨w0, hw0, bw0, hlt0, hB0⟩ := boxed w #[.bool neg, .slice A la.length ca, .slice B lb.length cb] 25
  have x0 := hB0.f0
  have x1 := hB0.f1
  have x2 := hB0.f2
  go_enter Try.func26, Try.ntmps26
  go_wp2_with fail
  refine (round_any (na.below bw0) (nb.below bw0) h0 (by omega) (by omega)).mono ?_
  rintro e w1 ⟨rfl, b1⟩
  rw [hb.out, hz.out]
  go_wp2
  go_ret2
  exact ⟨by rw [hb.out, hz.out]; rfl, bw0.trans (b1.mono (Nat.le_of_lt hlt0))⟩
end Go.Proofs.Ytghpcimeobmonaa
