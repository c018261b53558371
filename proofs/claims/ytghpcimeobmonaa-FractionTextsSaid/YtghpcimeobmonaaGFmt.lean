/- R02 Format: what the call does. -/
import Derived.Test.YtghpcimeobmonaaFFmt
import Derived.Test.YtghpcimeobmonaaGValid
import Derived.Test.YtghpcimeobmonaaWRef9
namespace Go.Proofs.Ytghpcimeobmonaa
set_option linter.unusedVariables false
set_option linter.unusedSimpArgs false
open Go.RowKit Plain
attribute [local go_sem ↓] Go.wp_at_zero Go.wp_at_succ

set_option maxRecDepth 100000 in
set_option maxHeartbeats 2000000 in
theorem refFormatF_nat {neg : Bool} {A B : Option Addr} {ca cb : Nat} {la lb : List Nat} {w : World} (ha : Nv w A ca la) (hb : Nv w B cb lb) (hca : Canon la) (hcb : Canon lb) (hla : la.length ≤ 10000) (hlb : lb.length ≤ 10000) :
    Calls Try.prog 15 #[fracV neg A la.length ca B lb.length cb] w (RetS (fmtB neg (val la) (val lb)) w) := by
  obtain ⟨w0, hw0, bw0, hlt0, hB0⟩ := boxed w #[.bool neg, .slice A la.length ca, .slice B lb.length cb] 25
  have ha0 := ha.below bw0
  have hb0 := hb.below bw0
  have hbg := hb.big
  have x0 := hB0.f0
  have x1 := hB0.f1
  have x2 := hB0.f2
  have z1 := fmt_sz ha.dig hla
  have z2 := fmt_sz hb.dig hlb
  obtain ⟨S1, hS1⟩ : ∃ S, Hid (strOf (decs (val la)) = S) := ⟨_, rfl⟩
  obtain ⟨S2, hS2⟩ : ∃ S, Hid (strOf (decs (val lb)) = S) := ⟨_, rfl⟩
  rw [hS1.out] at z1
  rw [hS2.out] at z2
  have hF : Hid (fmtB neg (val la) (val lb) = if val lb = 1 then (if neg = true then ⟨#[45]⟩ ++ S1 else S1) else (if neg = true then ⟨#[45]⟩ ++ S1 else S1) ++ ⟨#[47]⟩ ++ S2) := Lib.hid (by unfold fmtB sgB; rw [hS1.out, hS2.out])
  rw [hF.out]
  obtain ⟨T, hT⟩ : ∃ T, Hid ((if neg = true then ⟨#[45]⟩ ++ S1 else S1) = T) := ⟨_, rfl⟩
  have hTs : T.size ≤ 100002 := by
    rw [← hT.out]
    split
    · rw [ByteArray.size_append]; show 1 + S1.size ≤ 100002; omega
    · omega
  rw [hT.out]
  have o1 : ¬ 9223372036854775807 < (⟨#[45]⟩ : ByteArray).size + S1.size := by show ¬ 9223372036854775807 < 1 + S1.size; omega
  have o2 : ¬ 9223372036854775807 < T.size + (⟨#[47]⟩ : ByteArray).size := by show ¬ 9223372036854775807 < T.size + 1; omega
  have o3 : ¬ 9223372036854775807 < (T ++ ⟨#[47]⟩).size + S2.size := by rw [ByteArray.size_append]; show ¬ 9223372036854775807 < T.size + 1 + S2.size; omega
  have hq := one_iff (l := lb) (n := val lb) ⟨hb.dig, hcb, rfl⟩
  by_cases h1 : lb = [1]
  · have hone := Lib.hid h1
    have hl1 : (((lb.length : Nat) : Int) == 1) = true := by rw [h1]; rfl
    have hlp : 0 < lb.length := by rw [h1]; simp
    rw [if_pos (by rw [h1]; rfl)]
    clear h1 hq
    cases neg with
    | false =>
      obtain rfl : S1 = T := hT.out
      go_enter Try.func15, Try.ntmps15
      go_wp2_with fail
      refine (refFormat_any ha0 hca hla).mono ?_
      rintro e w1 ⟨rfl, b1⟩
      rw [hS1.out]
      have hB1 := hB0.keep b1
      have y0 := hB1.f0
      have y2 := hB1.f2
      have hb1 := hb0.below b1
      have b01 := bw0.trans (b1.mono (Nat.le_of_lt hlt0))
      obtain ⟨b, d, rfl, hbb, hbc, hdb, hgb⟩ := hb1.at (k := 0) (by omega)
      have hbc0 := cell0 hbc
      have hd1 : ((d : Int) == 1) = true := by rw [beq_iff_eq, ← hgb.out, hone.out]; rfl
      go_wp2
      go_ret
      exact ⟨rfl, b01⟩
    | true =>
      obtain rfl : (⟨#[45]⟩ ++ S1 : ByteArray) = T := hT.out
      go_enter Try.func15, Try.ntmps15
      go_wp2_with fail
      refine (refFormat_any ha0 hca hla).mono ?_
      rintro e w1 ⟨rfl, b1⟩
      rw [hS1.out]
      have hB1 := hB0.keep b1
      have y0 := hB1.f0
      have y2 := hB1.f2
      have hb1 := hb0.below b1
      have b01 := bw0.trans (b1.mono (Nat.le_of_lt hlt0))
      obtain ⟨b, d, rfl, hbb, hbc, hdb, hgb⟩ := hb1.at (k := 0) (by omega)
      have hbc0 := cell0 hbc
      have hd1 : ((d : Int) == 1) = true := by rw [beq_iff_eq, ← hgb.out, hone.out]; rfl
      go_wp2
      go_ret
      exact ⟨rfl, b01⟩
  · have hv : ¬ val lb = 1 := fun e => h1 (of_decide_eq_true (by rw [hq]; exact decide_eq_true e))
    rw [if_neg hv]
    have hone := Lib.hid h1
    by_cases hl : lb.length = 1
    · have hlen := Lib.hid hl
      have hl1 : (((lb.length : Nat) : Int) == 1) = true := by rw [hl]; rfl
      have hlp : 0 < lb.length := by omega
      clear h1 hq hv hl
      cases neg with
      | false =>
        obtain rfl : S1 = T := hT.out
        go_enter Try.func15, Try.ntmps15
        go_wp2_with fail
        refine (refFormat_any ha0 hca hla).mono ?_
        rintro e w1 ⟨rfl, b1⟩
        rw [hS1.out]
        have hB1 := hB0.keep b1
        have y0 := hB1.f0
        have y2 := hB1.f2
        have hb1 := hb0.below b1
        have b01 := bw0.trans (b1.mono (Nat.le_of_lt hlt0))
        obtain ⟨b, d, rfl, hbb, hbc, hdb, hgb⟩ := hb1.at (k := 0) (by omega)
        have hbc0 := cell0 hbc
        have hd1 : ((d : Int) == 1) = false := by rw [beq_eq_false_iff_ne]; intro e; exact hone.out (by rw [single_len hlen.out, hgb.out]; rw [show d = 1 by omega])
        go_wp2_with fail
        refine (refFormat_any hb1 hcb hlb).mono ?_
        rintro e w7 ⟨rfl, b7⟩
        rw [hS2.out]
        go_wp2
        go_ret
        exact ⟨rfl, b01.trans (b7.mono b01.size)⟩
      | true =>
        obtain rfl : (⟨#[45]⟩ ++ S1 : ByteArray) = T := hT.out
        go_enter Try.func15, Try.ntmps15
        go_wp2_with fail
        refine (refFormat_any ha0 hca hla).mono ?_
        rintro e w1 ⟨rfl, b1⟩
        rw [hS1.out]
        have hB1 := hB0.keep b1
        have y0 := hB1.f0
        have y2 := hB1.f2
        have hb1 := hb0.below b1
        have b01 := bw0.trans (b1.mono (Nat.le_of_lt hlt0))
        obtain ⟨b, d, rfl, hbb, hbc, hdb, hgb⟩ := hb1.at (k := 0) (by omega)
        have hbc0 := cell0 hbc
        have hd1 : ((d : Int) == 1) = false := by rw [beq_eq_false_iff_ne]; intro e; exact hone.out (by rw [single_len hlen.out, hgb.out]; rw [show d = 1 by omega])
        go_wp2_with fail
        refine (refFormat_any hb1 hcb hlb).mono ?_
        rintro e w7 ⟨rfl, b7⟩
        rw [hS2.out]
        go_wp2
        go_ret
        exact ⟨rfl, b01.trans (b7.mono b01.size)⟩
    · have hl1 : (((lb.length : Nat) : Int) == 1) = false := by rw [beq_eq_false_iff_ne]; omega
      clear h1 hq hv hl
      cases neg with
      | false =>
        obtain rfl : S1 = T := hT.out
        go_enter Try.func15, Try.ntmps15
        go_wp2_with fail
        refine (refFormat_any ha0 hca hla).mono ?_
        rintro e w1 ⟨rfl, b1⟩
        rw [hS1.out]
        have hB1 := hB0.keep b1
        have y0 := hB1.f0
        have y2 := hB1.f2
        have hb1 := hb0.below b1
        have b01 := bw0.trans (b1.mono (Nat.le_of_lt hlt0))
        go_wp2_with fail
        refine (refFormat_any hb1 hcb hlb).mono ?_
        rintro e w7 ⟨rfl, b7⟩
        rw [hS2.out]
        go_wp2
        go_ret
        exact ⟨rfl, b01.trans (b7.mono b01.size)⟩
      | true =>
        obtain rfl : (⟨#[45]⟩ ++ S1 : ByteArray) = T := hT.out
        go_enter Try.func15, Try.ntmps15
        go_wp2_with fail
        refine (refFormat_any ha0 hca hla).mono ?_
        rintro e w1 ⟨rfl, b1⟩
        rw [hS1.out]
        have hB1 := hB0.keep b1
        have y0 := hB1.f0
        have y2 := hB1.f2
        have hb1 := hb0.below b1
        have b01 := bw0.trans (b1.mono (Nat.le_of_lt hlt0))
        go_wp2_with fail
        refine (refFormat_any hb1 hcb hlb).mono ?_
        rintro e w7 ⟨rfl, b7⟩
        rw [hS2.out]
        go_wp2
        go_ret
        exact ⟨rfl, b01.trans (b7.mono b01.size)⟩
theorem refFormatF_any {v : Value} {q : Rat} {k : Nat} {w : World} (hv : FV w v q) (hk : Fits k q) (hK : k ≤ 10000) :
    Calls Try.prog 15 #[v] w (RetS (fmtQ q) w) := by
  obtain ⟨neg, A, ca, la, B, cb, lb, rfl, na, nb, iq⟩ := hv
  have hf := QIs.fits iq hk
  have := refFormatF_nat (neg := neg) na nb iq.na.canon iq.nb.canon (by omega) (by omega)
  rw [iq.na.val, iq.nb.val, iq.2.2] at this
  rw [iq.2.2]
  exact this
end Go.Proofs.Ytghpcimeobmonaa
