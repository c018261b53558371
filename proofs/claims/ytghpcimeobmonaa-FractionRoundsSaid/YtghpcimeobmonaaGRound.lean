/- R02 Floor and Ceil: what the calls do. -/
import Derived.Test.YtghpcimeobmonaaFRound
import Derived.Test.YtghpcimeobmonaaGMake
namespace Go.Proofs.Ytghpcimeobmonaa
set_option linter.unusedVariables false
set_option linter.unusedSimpArgs false
open Go.RowKit Plain
attribute [local go_sem ↓] Go.wp_at_zero Go.wp_at_succ

theorem negm_wrap {m : Nat} (h : m ≤ 9223372036854775808) (h0 : m ≠ 0) : -((m : Int) - 1) - 1 = sg true m := by
  unfold sg
  rw [if_pos rfl]
  omega
set_option maxRecDepth 100000 in
set_option maxHeartbeats 2000000 in
theorem refFloor_nat {neg : Bool} {A B : Option Addr} {ca cb : Nat} {la lb : List Nat} {w : World} (ha : Nv w A ca la) (hb : Nv w B cb lb) (hcb : Canon lb) (h0 : val lb ≠ 0) (hla : la.length ≤ 400000000) (hlb : lb.length ≤ 400000000) :
    Calls Try.prog 25 #[fracV neg A la.length ca B lb.length cb] w (RetZB neg (roundN neg false (val la) (val lb)) w) := by
  obtain ⟨w0, hw0, bw0, hlt0, hB0⟩ := boxed w #[.bool neg, .slice A la.length ca, .slice B lb.length cb] 25
  have ha0 := ha.below bw0
  have hb0 := hb.below bw0
  have x0 := hB0.f0
  have x1 := hB0.f1
  have x2 := hB0.f2
  clear ha hb
  rcases neg with _ | _
  · obtain ⟨m, hm⟩ : ∃ m, Hid (roundN false false (val la) (val lb) = m) := ⟨_, rfl⟩
    rw [hm.out]
    go_enter Try.func25, Try.ntmps25
    go_wp2_with fail
    refine (refDivMod_any ha0 hb0 hcb (by omega) (by omega)).mono ?_
    rintro e w1 ⟨Q, cq, q, R, cr, r, rfl, nq, nr, iq, ir, lq, lr, b1⟩
    rw [if_neg h0] at iq ir
    have hz1 : (if val lb = 0 then (8 : Int) else 0) = 0 := if_neg h0
    rw [hz1]
    have iq' := Lib.hid iq
    have ir' := Lib.hid ir
    clear iq ir hz1 x0 x1 x2
    have hB1 := hB0.keep b1
    have b01 := bw0.trans (b1.mono (Nat.le_of_lt hlt0))
    have x0 := hB1.f0
    have hrb := nr.big
    have hqb := nq.big
    have hQ' := Lib.hid (show val q = m by rw [iq'.out.val, ← hm.out]; unfold roundN; simp)
    rcases Nat.eq_zero_or_pos r.length with hr | hr
    · have hrd : decide ((0 : Int) < (r.length : Int)) = false := decide_eq_false (by omega)
      have hrn : decide (0 < r.length) = false := decide_eq_false (by omega)
      go_wp2_with fail
      refine (refUint_any nq iq'.out.canon).mono ?_
      rintro e w9 ⟨rfl, rfl⟩
      rw [hQ'.out]
      have bT := b01
      by_cases hu : isUint m = true
      · have hmu : uintOf m = m := by unfold uintOf; unfold isUint at hu; rw [if_pos (by simpa using hu)]
        have hmz : m < 18446744073709551616 := by unfold isUint at hu; rw [pw2_big'] at hu; simpa using hu
        rw [hu, hmu]
        have hu' := Lib.hid hu
        clear hu hmu
        by_cases hle : m < 9223372036854775808
        · have hd : decide ((9223372036854775807 : Int) < (m : Int)) = false := decide_eq_false (by omega)
          go_wp2
          go_ret2
          exact retZB_in (by unfold inR; simpa using hle) pos_id bT
        · have hd : decide ((9223372036854775807 : Int) < (m : Int)) = true := decide_eq_true (by omega)
          go_wp2
          go_ret2
          exact retZB_out (by unfold inR; simpa using hle) bT
      · have hu2 := eq_false_of_ne_true hu
        rw [hu2]
        have hu3 := Lib.hid hu2
        clear hu hu2
        go_wp2
        go_ret2
        exact retZB_out (inR_big hu3.out) bT
    · have hrd : decide ((0 : Int) < (r.length : Int)) = true := decide_eq_true (by omega)
      have hrn : decide (0 < r.length) = true := decide_eq_true (by omega)
      go_wp2_with fail
      refine (refUint_any nq iq'.out.canon).mono ?_
      rintro e w9 ⟨rfl, rfl⟩
      rw [hQ'.out]
      have bT := b01
      by_cases hu : isUint m = true
      · have hmu : uintOf m = m := by unfold uintOf; unfold isUint at hu; rw [if_pos (by simpa using hu)]
        have hmz : m < 18446744073709551616 := by unfold isUint at hu; rw [pw2_big'] at hu; simpa using hu
        rw [hu, hmu]
        have hu' := Lib.hid hu
        clear hu hmu
        by_cases hle : m < 9223372036854775808
        · have hd : decide ((9223372036854775807 : Int) < (m : Int)) = false := decide_eq_false (by omega)
          go_wp2
          go_ret2
          exact retZB_in (by unfold inR; simpa using hle) pos_id bT
        · have hd : decide ((9223372036854775807 : Int) < (m : Int)) = true := decide_eq_true (by omega)
          go_wp2
          go_ret2
          exact retZB_out (by unfold inR; simpa using hle) bT
      · have hu2 := eq_false_of_ne_true hu
        rw [hu2]
        have hu3 := Lib.hid hu2
        clear hu hu2
        go_wp2
        go_ret2
        exact retZB_out (inR_big hu3.out) bT
  · obtain ⟨m, hm⟩ : ∃ m, Hid (roundN true false (val la) (val lb) = m) := ⟨_, rfl⟩
    rw [hm.out]
    go_enter Try.func25, Try.ntmps25
    go_wp2_with fail
    refine (refDivMod_any ha0 hb0 hcb (by omega) (by omega)).mono ?_
    rintro e w1 ⟨Q, cq, q, R, cr, r, rfl, nq, nr, iq, ir, lq, lr, b1⟩
    rw [if_neg h0] at iq ir
    have hz1 : (if val lb = 0 then (8 : Int) else 0) = 0 := if_neg h0
    rw [hz1]
    have iq' := Lib.hid iq
    have ir' := Lib.hid ir
    clear iq ir hz1 x0 x1 x2
    have hB1 := hB0.keep b1
    have b01 := bw0.trans (b1.mono (Nat.le_of_lt hlt0))
    have x0 := hB1.f0
    have hrb := nr.big
    have hqb := nq.big
    rcases Nat.eq_zero_or_pos r.length with hr | hr
    · have hrd : decide ((0 : Int) < (r.length : Int)) = false := decide_eq_false (by omega)
      have hrn : decide (0 < r.length) = false := decide_eq_false (by omega)
      have hQ' := Lib.hid (show val q = m by rw [iq'.out.val, ← hm.out]; unfold roundN; rw [if_neg (fun h => absurd h.1 (by rw [← ir'.out.val, List.eq_nil_of_length_eq_zero hr]; simp [val]))]; rfl)
      go_wp2_with fail
      refine (refUint_any nq iq'.out.canon).mono ?_
      rintro e w9 ⟨rfl, rfl⟩
      rw [hQ'.out]
      have bT := b01
      by_cases hu : isUint m = true
      · have hmu : uintOf m = m := by unfold uintOf; unfold isUint at hu; rw [if_pos (by simpa using hu)]
        have hmz : m < 18446744073709551616 := by unfold isUint at hu; rw [pw2_big'] at hu; simpa using hu
        rw [hu, hmu]
        have hu' := Lib.hid hu
        clear hu hmu
        by_cases hle : m ≤ 9223372036854775808
        · have hd : decide ((9223372036854775808 : Int) < (m : Int)) = false := decide_eq_false (by omega)
          by_cases hm0 : m = 0
          · have hm1 : ((m : Int) == 0) = true := by rw [hm0]; rfl
            have hin := Lib.hid (show inR true m = true by unfold inR; simpa using hle)
            have hsg := Lib.hid (show (0 : Int) = sg true m by rw [hm0]; rfl)
            clear hm0 hle
            go_wp2
            go_ret2
            exact retZB_in hin.out hsg.out bT
          · have hm1 : ((m : Int) == 0) = false := by rw [beq_eq_false_iff_ne]; omega
            have hwr : IntKind.u64.wrap ((m : Int) - 1) = (m : Int) - 1 := by rw [wrap_u64]; omega
            go_wp2
            go_ret2
            exact retZB_in (by unfold inR; simpa using hle) (negm_wrap hle hm0) bT
        · have hd : decide ((9223372036854775808 : Int) < (m : Int)) = true := decide_eq_true (by omega)
          go_wp2
          go_ret2
          exact retZB_out (by unfold inR; simpa using hle) bT
      · have hu2 := eq_false_of_ne_true hu
        rw [hu2]
        have hu3 := Lib.hid hu2
        clear hu hu2
        go_wp2
        go_ret2
        exact retZB_out (inR_big hu3.out) bT
    · have hrd : decide ((0 : Int) < (r.length : Int)) = true := decide_eq_true (by omega)
      have hrn : decide (0 < r.length) = true := decide_eq_true (by omega)
      have hQ' := Lib.hid (show val q + 1 = m by rw [iq'.out.val, ← hm.out]; unfold roundN; rw [if_pos ⟨Nat.pos_of_ne_zero (fun e => by rw [ir'.out.zero_iff.2 e] at hr; simp at hr), by simp⟩])
      go_wp2_with fail
      refine (refFromUint_val 1 1 _ rfl (by rw [pw2_big']; omega)).mono ?_
      rintro e w2 ⟨O, co, lo, rfl, no, io, mo, b2⟩
      go_wp2_with fail
      refine (refAdd_any Q O cq co q lo _ (nq.below b2) no (by omega) (by omega)).mono ?_
      rintro e w3 ⟨S, cs, s, rfl, ns, is, ms, b3⟩
      rw [io.val] at is
      have is' := Lib.hid is
      clear is io
      have hB3 := (hB1.keep b2).keep b3
      have x00 := hB3.f0
      have hsb := ns.big
      have b02 := b01.trans (b2.mono b01.size)
      have b03 := b02.trans (b3.mono b02.size)
      clear b02 b2 b3
      go_wp2_with fail
      refine (refUint_any ns is'.out.canon).mono ?_
      rintro e w9 ⟨rfl, rfl⟩
      rw [is'.out.val.trans hQ'.out]
      have bT := b03
      by_cases hu : isUint m = true
      · have hmu : uintOf m = m := by unfold uintOf; unfold isUint at hu; rw [if_pos (by simpa using hu)]
        have hmz : m < 18446744073709551616 := by unfold isUint at hu; rw [pw2_big'] at hu; simpa using hu
        rw [hu, hmu]
        have hu' := Lib.hid hu
        clear hu hmu
        by_cases hle : m ≤ 9223372036854775808
        · have hd : decide ((9223372036854775808 : Int) < (m : Int)) = false := decide_eq_false (by omega)
          by_cases hm0 : m = 0
          · have hm1 : ((m : Int) == 0) = true := by rw [hm0]; rfl
            have hin := Lib.hid (show inR true m = true by unfold inR; simpa using hle)
            have hsg := Lib.hid (show (0 : Int) = sg true m by rw [hm0]; rfl)
            clear hm0 hle
            go_wp2
            go_ret2
            exact retZB_in hin.out hsg.out bT
          · have hm1 : ((m : Int) == 0) = false := by rw [beq_eq_false_iff_ne]; omega
            have hwr : IntKind.u64.wrap ((m : Int) - 1) = (m : Int) - 1 := by rw [wrap_u64]; omega
            go_wp2
            go_ret2
            exact retZB_in (by unfold inR; simpa using hle) (negm_wrap hle hm0) bT
        · have hd : decide ((9223372036854775808 : Int) < (m : Int)) = true := decide_eq_true (by omega)
          go_wp2
          go_ret2
          exact retZB_out (by unfold inR; simpa using hle) bT
      · have hu2 := eq_false_of_ne_true hu
        rw [hu2]
        have hu3 := Lib.hid hu2
        clear hu hu2
        go_wp2
        go_ret2
        exact retZB_out (inR_big hu3.out) bT
theorem refFloorF_any {v : Value} {q : Rat} {k : Nat} {w : World} (hv : FV w v q) (hk : Fits k q) (hK : k ≤ 400000000) :
    Calls Try.prog 25 #[v] w (RetZB (decide (q.num < 0)) (rndN false q) w) := by
  obtain ⟨neg, A, ca, la, B, cb, lb, rfl, na, nb, iq⟩ := hv
  have hf := QIs.fits iq hk
  have h0 := QIs.den_ne iq
  have e : RetZB (decide (q.num < 0)) (rndN false q) w = RetZB neg (roundN neg false (val la) (val lb)) w := by unfold rndN; rw [iq.na.val, iq.nb.val, iq.2.2]
  rw [e]
  exact refFloor_nat na nb iq.nb.canon h0 (by omega) (by omega)
theorem retZB_ceil {neg : Bool} {m : Nat} {W W' w' : World} {e : Ending} (h : RetZB (neg && decide (0 < m)) (roundN (neg && decide (0 < m)) false m 1) W e w') (b : Below W'.heap.size W' w') : RetZB neg m W' e w' := by
  obtain ⟨rfl, _⟩ := h
  have e1 : roundN (neg && decide (0 < m)) false m 1 = m := by unfold roundN; rw [Nat.div_one, Nat.mod_one, if_neg (by omega)]; rfl
  rw [e1]
  refine ⟨?_, b⟩
  rcases Nat.eq_zero_or_pos m with rfl | h
  · cases neg <;> rfl
  · rw [decide_eq_true h, Bool.and_true]
set_option maxRecDepth 100000 in
set_option maxHeartbeats 2000000 in
theorem refCeil_nat {neg : Bool} {A B : Option Addr} {ca cb : Nat} {la lb : List Nat} {w : World} (ha : Nv w A ca la) (hb : Nv w B cb lb) (hcb : Canon lb) (h0 : val lb ≠ 0) (hla : la.length ≤ 400000) (hlb : lb.length ≤ 400000) :
    Calls Try.prog 27 #[fracV neg A la.length ca B lb.length cb] w (RetZB neg (roundN neg true (val la) (val lb)) w) := by
  obtain ⟨w0, hw0, bw0, hlt0, hB0⟩ := boxed w #[.bool neg, .slice A la.length ca, .slice B lb.length cb] 25
  have ha0 := ha.below bw0
  have hb0 := hb.below bw0
  have x0 := hB0.f0
  have x1 := hB0.f1
  have x2 := hB0.f2
  clear ha hb
  rcases neg with _ | _
  · obtain ⟨m, hm⟩ : ∃ m, Hid (roundN false true (val la) (val lb) = m) := ⟨_, rfl⟩
    rw [hm.out]
    go_enter Try.func27, Try.ntmps27
    go_wp2_with fail
    refine (refDivMod_any ha0 hb0 hcb (by omega) (by omega)).mono ?_
    rintro e w1 ⟨Q, cq, q, R, cr, r, rfl, nq, nr, iq, ir, lq, lr, b1⟩
    rw [if_neg h0] at iq ir
    have hz1 : (if val lb = 0 then (8 : Int) else 0) = 0 := if_neg h0
    rw [hz1]
    have iq' := Lib.hid iq
    have ir' := Lib.hid ir
    clear iq ir hz1 x0 x1 x2
    have hB1 := hB0.keep b1
    have b01 := bw0.trans (b1.mono (Nat.le_of_lt hlt0))
    have x0 := hB1.f0
    have hrb := nr.big
    have hqb := nq.big
    rcases Nat.eq_zero_or_pos r.length with hr | hr
    · have hrd : decide ((0 : Int) < (r.length : Int)) = false := decide_eq_false (by omega)
      have hrn : decide (0 < r.length) = false := decide_eq_false (by omega)
      have hQ' := Lib.hid (show val q = m by rw [iq'.out.val, ← hm.out]; unfold roundN; rw [if_neg (fun h => absurd h.1 (by rw [← ir'.out.val, List.eq_nil_of_length_eq_zero hr]; simp [val]))]; rfl)
      have hmq := Lib.hid (show NatIs q m by have h := iq'.out; rw [show _ = m from h.val.symm.trans (hQ'.out)] at h; exact h)
      have hnn := Lib.hid (show (false && decide (0 < m)) = false from rfl)
      go_wp2_with fail
      refine (refFromUint_val 1 1 _ rfl (by rw [pw2_big']; omega)).mono ?_
      rintro e w5 ⟨O5, c5, l5, rfl, n5, i5, m5, b5⟩
      have i5' := Lib.hid i5
      clear i5
      have b05 := b01.trans (b5.mono b01.size)
      go_wp2_with fail
      refine (refFloor_nat (neg := false) (nq.below b5) n5 i5'.out.canon (by rw [i5'.out.val]; decide) (by omega) (by omega)).mono ?_
      rintro e w6 hR
      have b6 := hR.2
      rw [hmq.out.val, i5'.out.val] at hR
      have hR1 : RetZB (false && decide (0 < m)) (roundN (false && decide (0 < m)) false m 1) w5 e w6 := by rw [hnn.out]; exact hR
      have hR2 := retZB_ceil hR1 (b05.trans (b6.mono b05.size))
      clear hR1
      obtain ⟨rfl, b06⟩ := hR2
      obtain ⟨z, hz⟩ : ∃ z, Hid ((if inR false m = true then sg false m else 0) = z) := ⟨_, rfl⟩
      obtain ⟨y, hy⟩ : ∃ y, Hid (inR false m = y) := ⟨_, rfl⟩
      rw [hz.out, hy.out]
      clear hR b6
      go_wp2
      go_ret2
      exact ⟨by rw [hz.out, hy.out]; rfl, b06⟩
    · have hrd : decide ((0 : Int) < (r.length : Int)) = true := decide_eq_true (by omega)
      have hrn : decide (0 < r.length) = true := decide_eq_true (by omega)
      have hQ' := Lib.hid (show val q + 1 = m by rw [iq'.out.val, ← hm.out]; unfold roundN; rw [if_pos ⟨Nat.pos_of_ne_zero (fun e => by rw [ir'.out.zero_iff.2 e] at hr; simp at hr), by simp⟩])
      go_wp2_with fail
      refine (refFromUint_val 1 1 _ rfl (by rw [pw2_big']; omega)).mono ?_
      rintro e w2 ⟨O, co, lo, rfl, no, io, mo, b2⟩
      go_wp2_with fail
      refine (refAdd_any Q O cq co q lo _ (nq.below b2) no (by omega) (by omega)).mono ?_
      rintro e w3 ⟨S, cs, s, rfl, ns, is, ms, b3⟩
      rw [io.val] at is
      have is' := Lib.hid is
      clear is io
      have hB3 := (hB1.keep b2).keep b3
      have x00 := hB3.f0
      have hsb := ns.big
      have b02 := b01.trans (b2.mono b01.size)
      have b03 := b02.trans (b3.mono b02.size)
      clear b02 b2 b3
      have hmq := Lib.hid (show NatIs s m by have h := is'.out; rw [show _ = m from h.val.symm.trans (is'.out.val.trans hQ'.out)] at h; exact h)
      have hnn := Lib.hid (show (false && decide (0 < m)) = false from rfl)
      go_wp2_with fail
      refine (refFromUint_val 1 1 _ rfl (by rw [pw2_big']; omega)).mono ?_
      rintro e w5 ⟨O5, c5, l5, rfl, n5, i5, m5, b5⟩
      have i5' := Lib.hid i5
      clear i5
      have b05 := b03.trans (b5.mono b03.size)
      go_wp2_with fail
      refine (refFloor_nat (neg := false) (ns.below b5) n5 i5'.out.canon (by rw [i5'.out.val]; decide) (by omega) (by omega)).mono ?_
      rintro e w6 hR
      have b6 := hR.2
      rw [hmq.out.val, i5'.out.val] at hR
      have hR1 : RetZB (false && decide (0 < m)) (roundN (false && decide (0 < m)) false m 1) w5 e w6 := by rw [hnn.out]; exact hR
      have hR2 := retZB_ceil hR1 (b05.trans (b6.mono b05.size))
      clear hR1
      obtain ⟨rfl, b06⟩ := hR2
      obtain ⟨z, hz⟩ : ∃ z, Hid ((if inR false m = true then sg false m else 0) = z) := ⟨_, rfl⟩
      obtain ⟨y, hy⟩ : ∃ y, Hid (inR false m = y) := ⟨_, rfl⟩
      rw [hz.out, hy.out]
      clear hR b6
      go_wp2
      go_ret2
      exact ⟨by rw [hz.out, hy.out]; rfl, b06⟩
  · obtain ⟨m, hm⟩ : ∃ m, Hid (roundN true true (val la) (val lb) = m) := ⟨_, rfl⟩
    rw [hm.out]
    go_enter Try.func27, Try.ntmps27
    go_wp2_with fail
    refine (refDivMod_any ha0 hb0 hcb (by omega) (by omega)).mono ?_
    rintro e w1 ⟨Q, cq, q, R, cr, r, rfl, nq, nr, iq, ir, lq, lr, b1⟩
    rw [if_neg h0] at iq ir
    have hz1 : (if val lb = 0 then (8 : Int) else 0) = 0 := if_neg h0
    rw [hz1]
    have iq' := Lib.hid iq
    have ir' := Lib.hid ir
    clear iq ir hz1 x0 x1 x2
    have hB1 := hB0.keep b1
    have b01 := bw0.trans (b1.mono (Nat.le_of_lt hlt0))
    have x0 := hB1.f0
    have hrb := nr.big
    have hqb := nq.big
    have hQ' := Lib.hid (show val q = m by rw [iq'.out.val, ← hm.out]; unfold roundN; simp)
    rcases Nat.eq_zero_or_pos r.length with hr | hr
    · have hrd : decide ((0 : Int) < (r.length : Int)) = false := decide_eq_false (by omega)
      have hrn : decide (0 < r.length) = false := decide_eq_false (by omega)
      have hmq := Lib.hid (show NatIs q m by have h := iq'.out; rw [show _ = m from h.val.symm.trans (hQ'.out)] at h; exact h)
      rcases Nat.eq_zero_or_pos q.length with hl | hl
      · have hld : decide ((0 : Int) < (q.length : Int)) = false := decide_eq_false (by omega)
        have hln : decide (0 < q.length) = false := decide_eq_false (by omega)
        have hnn := Lib.hid (show (true && decide (0 < m)) = false by rw [(hmq.out.zero_iff).1 (List.eq_nil_of_length_eq_zero hl)]; rfl)
        clear hl
        go_wp2_with fail
        refine (refFromUint_val 1 1 _ rfl (by rw [pw2_big']; omega)).mono ?_
        rintro e w5 ⟨O5, c5, l5, rfl, n5, i5, m5, b5⟩
        have i5' := Lib.hid i5
        clear i5
        have b05 := b01.trans (b5.mono b01.size)
        go_wp2_with fail
        refine (refFloor_nat (neg := false) (nq.below b5) n5 i5'.out.canon (by rw [i5'.out.val]; decide) (by omega) (by omega)).mono ?_
        rintro e w6 hR
        have b6 := hR.2
        rw [hmq.out.val, i5'.out.val] at hR
        have hR1 : RetZB (true && decide (0 < m)) (roundN (true && decide (0 < m)) false m 1) w5 e w6 := by rw [hnn.out]; exact hR
        have hR2 := retZB_ceil hR1 (b05.trans (b6.mono b05.size))
        clear hR1
        obtain ⟨rfl, b06⟩ := hR2
        obtain ⟨z, hz⟩ : ∃ z, Hid ((if inR true m = true then sg true m else 0) = z) := ⟨_, rfl⟩
        obtain ⟨y, hy⟩ : ∃ y, Hid (inR true m = y) := ⟨_, rfl⟩
        rw [hz.out, hy.out]
        clear hR b6
        go_wp2
        go_ret2
        exact ⟨by rw [hz.out, hy.out]; rfl, b06⟩
      · have hld : decide ((0 : Int) < (q.length : Int)) = true := decide_eq_true (by omega)
        have hln : decide (0 < q.length) = true := decide_eq_true (by omega)
        have hnn := Lib.hid (show (true && decide (0 < m)) = true by rw [Bool.true_and, decide_eq_true (Nat.pos_of_ne_zero fun e => by rw [(hmq.out.zero_iff).2 e] at hl; simp at hl)])
        clear hl
        go_wp2_with fail
        refine (refFromUint_val 1 1 _ rfl (by rw [pw2_big']; omega)).mono ?_
        rintro e w5 ⟨O5, c5, l5, rfl, n5, i5, m5, b5⟩
        have i5' := Lib.hid i5
        clear i5
        have b05 := b01.trans (b5.mono b01.size)
        go_wp2_with fail
        refine (refFloor_nat (neg := true) (nq.below b5) n5 i5'.out.canon (by rw [i5'.out.val]; decide) (by omega) (by omega)).mono ?_
        rintro e w6 hR
        have b6 := hR.2
        rw [hmq.out.val, i5'.out.val] at hR
        have hR1 : RetZB (true && decide (0 < m)) (roundN (true && decide (0 < m)) false m 1) w5 e w6 := by rw [hnn.out]; exact hR
        have hR2 := retZB_ceil hR1 (b05.trans (b6.mono b05.size))
        clear hR1
        obtain ⟨rfl, b06⟩ := hR2
        obtain ⟨z, hz⟩ : ∃ z, Hid ((if inR true m = true then sg true m else 0) = z) := ⟨_, rfl⟩
        obtain ⟨y, hy⟩ : ∃ y, Hid (inR true m = y) := ⟨_, rfl⟩
        rw [hz.out, hy.out]
        clear hR b6
        go_wp2
        go_ret2
        exact ⟨by rw [hz.out, hy.out]; rfl, b06⟩
    · have hrd : decide ((0 : Int) < (r.length : Int)) = true := decide_eq_true (by omega)
      have hrn : decide (0 < r.length) = true := decide_eq_true (by omega)
      have hmq := Lib.hid (show NatIs q m by have h := iq'.out; rw [show _ = m from h.val.symm.trans (hQ'.out)] at h; exact h)
      rcases Nat.eq_zero_or_pos q.length with hl | hl
      · have hld : decide ((0 : Int) < (q.length : Int)) = false := decide_eq_false (by omega)
        have hln : decide (0 < q.length) = false := decide_eq_false (by omega)
        have hnn := Lib.hid (show (true && decide (0 < m)) = false by rw [(hmq.out.zero_iff).1 (List.eq_nil_of_length_eq_zero hl)]; rfl)
        clear hl
        go_wp2_with fail
        refine (refFromUint_val 1 1 _ rfl (by rw [pw2_big']; omega)).mono ?_
        rintro e w5 ⟨O5, c5, l5, rfl, n5, i5, m5, b5⟩
        have i5' := Lib.hid i5
        clear i5
        have b05 := b01.trans (b5.mono b01.size)
        go_wp2_with fail
        refine (refFloor_nat (neg := false) (nq.below b5) n5 i5'.out.canon (by rw [i5'.out.val]; decide) (by omega) (by omega)).mono ?_
        rintro e w6 hR
        have b6 := hR.2
        rw [hmq.out.val, i5'.out.val] at hR
        have hR1 : RetZB (true && decide (0 < m)) (roundN (true && decide (0 < m)) false m 1) w5 e w6 := by rw [hnn.out]; exact hR
        have hR2 := retZB_ceil hR1 (b05.trans (b6.mono b05.size))
        clear hR1
        obtain ⟨rfl, b06⟩ := hR2
        obtain ⟨z, hz⟩ : ∃ z, Hid ((if inR true m = true then sg true m else 0) = z) := ⟨_, rfl⟩
        obtain ⟨y, hy⟩ : ∃ y, Hid (inR true m = y) := ⟨_, rfl⟩
        rw [hz.out, hy.out]
        clear hR b6
        go_wp2
        go_ret2
        exact ⟨by rw [hz.out, hy.out]; rfl, b06⟩
      · have hld : decide ((0 : Int) < (q.length : Int)) = true := decide_eq_true (by omega)
        have hln : decide (0 < q.length) = true := decide_eq_true (by omega)
        have hnn := Lib.hid (show (true && decide (0 < m)) = true by rw [Bool.true_and, decide_eq_true (Nat.pos_of_ne_zero fun e => by rw [(hmq.out.zero_iff).2 e] at hl; simp at hl)])
        clear hl
        go_wp2_with fail
        refine (refFromUint_val 1 1 _ rfl (by rw [pw2_big']; omega)).mono ?_
        rintro e w5 ⟨O5, c5, l5, rfl, n5, i5, m5, b5⟩
        have i5' := Lib.hid i5
        clear i5
        have b05 := b01.trans (b5.mono b01.size)
        go_wp2_with fail
        refine (refFloor_nat (neg := true) (nq.below b5) n5 i5'.out.canon (by rw [i5'.out.val]; decide) (by omega) (by omega)).mono ?_
        rintro e w6 hR
        have b6 := hR.2
        rw [hmq.out.val, i5'.out.val] at hR
        have hR1 : RetZB (true && decide (0 < m)) (roundN (true && decide (0 < m)) false m 1) w5 e w6 := by rw [hnn.out]; exact hR
        have hR2 := retZB_ceil hR1 (b05.trans (b6.mono b05.size))
        clear hR1
        obtain ⟨rfl, b06⟩ := hR2
        obtain ⟨z, hz⟩ : ∃ z, Hid ((if inR true m = true then sg true m else 0) = z) := ⟨_, rfl⟩
        obtain ⟨y, hy⟩ : ∃ y, Hid (inR true m = y) := ⟨_, rfl⟩
        rw [hz.out, hy.out]
        clear hR b6
        go_wp2
        go_ret2
        exact ⟨by rw [hz.out, hy.out]; rfl, b06⟩
theorem refCeilF_any {v : Value} {q : Rat} {k : Nat} {w : World} (hv : FV w v q) (hk : Fits k q) (hK : k ≤ 400000) :
    Calls Try.prog 27 #[v] w (RetZB (decide (q.num < 0)) (rndN true q) w) := by
  obtain ⟨neg, A, ca, la, B, cb, lb, rfl, na, nb, iq⟩ := hv
  have hf := QIs.fits iq hk
  have h0 := QIs.den_ne iq
  have e : RetZB (decide (q.num < 0)) (rndN true q) w = RetZB neg (roundN neg true (val la) (val lb)) w := by unfold rndN; rw [iq.na.val, iq.nb.val, iq.2.2]
  rw [e]
  exact refCeil_nat na nb iq.nb.canon h0 (by omega) (by omega)
end Go.Proofs.Ytghpcimeobmonaa
