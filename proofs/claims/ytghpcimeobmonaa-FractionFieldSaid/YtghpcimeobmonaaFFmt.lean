/- fraction.Format: what the call does. -/
import Derived.Test.YtghpcimeobmonaaFV
import Derived.Test.YtghpcimeobmonaaFMake
import Derived.Test.YtghpcimeobmonaaWFormat
namespace Go.Proofs.Ytghpcimeobmonaa
set_option linter.unusedVariables false
set_option linter.unusedSimpArgs false
open Go.RowKit Plain
attribute [local go_sem ↓] Go.wp_at_zero Go.wp_at_succ

/-- The text of a number with a sign. -/
def sgB (neg : Bool) (a : Nat) : ByteArray := if neg = true then ⟨#[45]⟩ ++ strOf (decs a) else strOf (decs a)
/-- The text of a fraction. -/
def fmtB (neg : Bool) (a b : Nat) : ByteArray := if b = 1 then sgB neg a else sgB neg a ++ ⟨#[47]⟩ ++ strOf (decs b)
def fmtQ (q : Rat) : ByteArray := fmtB (decide (q.num < 0)) q.num.natAbs q.den
theorem decs_len' {n k : Nat} (h : n < pw k) : (decs n).length ≤ 10 * k + 1 := by
  unfold decs
  split
  · simp
  · rw [List.length_map, List.length_reverse]; have := decR_len h; omega
theorem fmt_sz {l : List Nat} (hd : Dig l) (hl : l.length ≤ 10000) : (strOf (decs (val l))).size ≤ 100001 := by
  rw [strOf_size]
  have := decs_len' (val_lt hd)
  omega
def RetS (s : ByteArray) (W : World) (e : Ending) (w' : World) : Prop := e = .returned (.string s) ∧ Below W.heap.size W w'

set_option maxRecDepth 100000 in
set_option maxHeartbeats 2000000 in
theorem formatF_nat {neg : Bool} {A B : Option Addr} {ca cb : Nat} {la lb : List Nat} {w : World} (ha : Nv w A ca la) (hb : Nv w B cb lb) (hla : la.length ≤ 10000) (hlb : lb.length ≤ 10000) :
    Calls Try.prog 12 #[fracV neg A la.length ca B lb.length cb] w (RetS (fmtB neg (val la) (val lb)) w) := by
  obtain ⟨w0, hw0, bw0, hlt0, hB0⟩ := boxed w #[.bool neg, .slice A la.length ca, .slice B lb.length cb] 25
  have ha0 := ha.below bw0
  have hb0 := hb.below bw0
  have x0 := hB0.f0
  have x1 := hB0.f1
  have x2 := hB0.f2
  have z1 := fmt_sz ha.dig hla
  have z2 := fmt_sz hb.dig hlb
  obtain ⟨S1, hS1⟩ : ∃ S, Hid (strOf (decs (val la)) = S) := ⟨_, rfl⟩
  obtain ⟨S2, hS2⟩ : ∃ S, Hid (strOf (decs (val lb)) = S) := ⟨_, rfl⟩
  rw [hS1.out] at z1
  rw [hS2.out] at z2
  have hF : Hid (fmtB neg (val la) (val lb) = if val lb = 1 then (if neg = true then ⟨#[45]⟩ ++ S1 else S1) else (if neg = true then ⟨#[45]⟩ ++ S1 else S1) ++ ⟨#[47]⟩ ++ S2) := Lib.hid (by unfold fmtB sgB; rw [hS1.out, hS2.out])
  rw [hF.out]
  obtain ⟨T, hT⟩ : ∃ T, Hid ((if neg = true then ⟨#[45]⟩ ++ S1 else S1) = T) := ⟨_, rfl⟩
  have hTs : T.size ≤ 100002 := by
    rw [← hT.out]
    split
    · rw [ByteArray.size_append]; show 1 + S1.size ≤ 100002; omega
    · omega
  rw [hT.out]
  have o1 : ¬ 9223372036854775807 < (⟨#[45]⟩ : ByteArray).size + S1.size := by show ¬ 9223372036854775807 < 1 + S1.size; omega
  have o2 : ¬ 9223372036854775807 < T.size + (⟨#[47]⟩ : ByteArray).size := by show ¬ 9223372036854775807 < T.size + 1; omega
  have o3 : ¬ 9223372036854775807 < (T ++ ⟨#[47]⟩).size + S2.size := by rw [ByteArray.size_append]; show ¬ 9223372036854775807 < T.size + 1 + S2.size; omega
  have hcm : (cmpI (val lb) 1 == 0) = decide (val lb = 1) := cmp_one _
  by_cases h1 : val lb = 1
  · have hc0 := Lib.hid (show cmpI (val lb) 1 = 0 by rw [h1]; rfl)
    rw [if_pos h1]
    clear h1 hcm
    cases neg with
    | false =>
      obtain rfl : S1 = T := hT.out
      go_enter Try.func12, Try.ntmps12
      go_wp2_with fail
      refine (format_any ha0 hla).mono ?_
      rintro e w1 ⟨rfl, b1⟩
      rw [hS1.out]
      have hB1 := hB0.keep b1
      have y0 := hB1.f0
      have y2 := hB1.f2
      have hb1 := hb0.below b1
      have b01 := bw0.trans (b1.mono (Nat.le_of_lt hlt0))
      have hrf : Below w1.heap.size w1 w1.drew := (Below.refl _ _).drew
      have y2' : w1.drew.cell? ⟨w.heap.size, 2, none⟩ = some (.slice B lb.length cb) := y2
      go_wp2_with fail
      go_region_held3 (fun w' => w'.cell? ⟨w.heap.size, 2, none⟩ = some (.slice B lb.length cb) ∧ Below w1.heap.size w1 w') (((try go_split_ands); (try dsimp only); (repeat' with_reducible apply And.intro) <;> with_reducible assumption)) (first
        | (go_at_call 50; go_split_ands; (with_reducible refine (fromUint_val 1 1 _ rfl (by rw [show pw 2 = 18446744073709551616 by simp only [pw]]; omega)).mono ?_); rintro e w3 ⟨O, co, lo, rfl, no, io, mo, b3⟩; have io' := Lib.hid io; clear io; have b4 := below_step (by assumption) b3; have u2 := (hB1.keep b4).f2)
        | (go_at_call 49; go_split_ands; (with_reducible refine (cmp_any (hb1.below (by assumption)) no).mono ?_); rintro e w5 ⟨rfl, b5⟩; rw [io'.out.val, hc0.out]; have b6 := below_step (by assumption) b5; have v2 := (hB1.keep b6).f2))
      go_wp2
      go_ret
      exact ⟨rfl, b01.trans (b6.mono b01.size)⟩
    | true =>
      obtain rfl : (⟨#[45]⟩ ++ S1 : ByteArray) = T := hT.out
      go_enter Try.func12, Try.ntmps12
      go_wp2_with fail
      refine (format_any ha0 hla).mono ?_
      rintro e w1 ⟨rfl, b1⟩
      rw [hS1.out]
      have hB1 := hB0.keep b1
      have y0 := hB1.f0
      have y2 := hB1.f2
      have hb1 := hb0.below b1
      have b01 := bw0.trans (b1.mono (Nat.le_of_lt hlt0))
      have hrf : Below w1.heap.size w1 w1.drew := (Below.refl _ _).drew
      have y2' : w1.drew.cell? ⟨w.heap.size, 2, none⟩ = some (.slice B lb.length cb) := y2
      go_wp2_with fail
      go_region_held3 (fun w' => w'.cell? ⟨w.heap.size, 2, none⟩ = some (.slice B lb.length cb) ∧ Below w1.heap.size w1 w') (((try go_split_ands); (try dsimp only); (repeat' with_reducible apply And.intro) <;> with_reducible assumption)) (first
        | (go_at_call 50; go_split_ands; (with_reducible refine (fromUint_val 1 1 _ rfl (by rw [show pw 2 = 18446744073709551616 by simp only [pw]]; omega)).mono ?_); rintro e w3 ⟨O, co, lo, rfl, no, io, mo, b3⟩; have io' := Lib.hid io; clear io; have b4 := below_step (by assumption) b3; have u2 := (hB1.keep b4).f2)
        | (go_at_call 49; go_split_ands; (with_reducible refine (cmp_any (hb1.below (by assumption)) no).mono ?_); rintro e w5 ⟨rfl, b5⟩; rw [io'.out.val, hc0.out]; have b6 := below_step (by assumption) b5; have v2 := (hB1.keep b6).f2))
      go_wp2
      go_ret
      exact ⟨rfl, b01.trans (b6.mono b01.size)⟩
  · have hc0 := Lib.hid (show (cmpI (val lb) 1 == 0) = false by rw [hcm]; exact decide_eq_false h1)
    obtain ⟨c, hc⟩ : ∃ c, Hid (cmpI (val lb) 1 = c) := ⟨_, rfl⟩
    rw [hc.out] at hc0
    have hc1 : (c == 0) = false := hc0.out
    rw [if_neg h1]
    clear h1 hcm hc0
    cases neg with
    | false =>
      obtain rfl : S1 = T := hT.out
      go_enter Try.func12, Try.ntmps12
      go_wp2_with fail
      refine (format_any ha0 hla).mono ?_
      rintro e w1 ⟨rfl, b1⟩
      rw [hS1.out]
      have hB1 := hB0.keep b1
      have y0 := hB1.f0
      have y2 := hB1.f2
      have hb1 := hb0.below b1
      have b01 := bw0.trans (b1.mono (Nat.le_of_lt hlt0))
      have hrf : Below w1.heap.size w1 w1.drew := (Below.refl _ _).drew
      have y2' : w1.drew.cell? ⟨w.heap.size, 2, none⟩ = some (.slice B lb.length cb) := y2
      go_wp2_with fail
      go_region_held3 (fun w' => w'.cell? ⟨w.heap.size, 2, none⟩ = some (.slice B lb.length cb) ∧ Below w1.heap.size w1 w') (((try go_split_ands); (try dsimp only); (repeat' with_reducible apply And.intro) <;> with_reducible assumption)) (first
        | (go_at_call 50; go_split_ands; (with_reducible refine (fromUint_val 1 1 _ rfl (by rw [show pw 2 = 18446744073709551616 by simp only [pw]]; omega)).mono ?_); rintro e w3 ⟨O, co, lo, rfl, no, io, mo, b3⟩; have io' := Lib.hid io; clear io; have b4 := below_step (by assumption) b3; have u2 := (hB1.keep b4).f2)
        | (go_at_call 49; go_split_ands; (with_reducible refine (cmp_any (hb1.below (by assumption)) no).mono ?_); rintro e w5 ⟨rfl, b5⟩; rw [io'.out.val, hc.out]; have b6 := below_step (by assumption) b5; have v2 := (hB1.keep b6).f2))
      have hb6 := hb1.below b6
      have b06 := b01.trans (b6.mono b01.size)
      go_wp2_with fail
      refine (format_any hb6 hlb).mono ?_
      rintro e w7 ⟨rfl, b7⟩
      rw [hS2.out]
      go_wp2
      go_ret
      exact ⟨rfl, b06.trans (b7.mono b06.size)⟩
    | true =>
      obtain rfl : (⟨#[45]⟩ ++ S1 : ByteArray) = T := hT.out
      go_enter Try.func12, Try.ntmps12
      go_wp2_with fail
      refine (format_any ha0 hla).mono ?_
      rintro e w1 ⟨rfl, b1⟩
      rw [hS1.out]
      have hB1 := hB0.keep b1
      have y0 := hB1.f0
      have y2 := hB1.f2
      have hb1 := hb0.below b1
      have b01 := bw0.trans (b1.mono (Nat.le_of_lt hlt0))
      have hrf : Below w1.heap.size w1 w1.drew := (Below.refl _ _).drew
      have y2' : w1.drew.cell? ⟨w.heap.size, 2, none⟩ = some (.slice B lb.length cb) := y2
      go_wp2_with fail
      go_region_held3 (fun w' => w'.cell? ⟨w.heap.size, 2, none⟩ = some (.slice B lb.length cb) ∧ Below w1.heap.size w1 w') (((try go_split_ands); (try dsimp only); (repeat' with_reducible apply And.intro) <;> with_reducible assumption)) (first
        | (go_at_call 50; go_split_ands; (with_reducible refine (fromUint_val 1 1 _ rfl (by rw [show pw 2 = 18446744073709551616 by simp only [pw]]; omega)).mono ?_); rintro e w3 ⟨O, co, lo, rfl, no, io, mo, b3⟩; have io' := Lib.hid io; clear io; have b4 := below_step (by assumption) b3; have u2 := (hB1.keep b4).f2)
        | (go_at_call 49; go_split_ands; (with_reducible refine (cmp_any (hb1.below (by assumption)) no).mono ?_); rintro e w5 ⟨rfl, b5⟩; rw [io'.out.val, hc.out]; have b6 := below_step (by assumption) b5; have v2 := (hB1.keep b6).f2))
      have hb6 := hb1.below b6
      have b06 := b01.trans (b6.mono b01.size)
      go_wp2_with fail
      refine (format_any hb6 hlb).mono ?_
      rintro e w7 ⟨rfl, b7⟩
      rw [hS2.out]
      go_wp2
      go_ret
      exact ⟨rfl, b06.trans (b7.mono b06.size)⟩

theorem formatF_any {v : Value} {q : Rat} {k : Nat} {w : World} (hv : FV w v q) (hk : Fits k q) (hK : k ≤ 10000) :
    Calls Try.prog 12 #[v] w (RetS (fmtQ q) w) := by
  obtain ⟨neg, A, ca, la, B, cb, lb, rfl, na, nb, iq⟩ := hv
  have hf := QIs.fits iq hk
  have := formatF_nat (neg := neg) na nb (by omega) (by omega)
  rw [iq.na.val, iq.nb.val, iq.2.2] at this
  rw [iq.2.2]
  exact this
end Go.Proofs.Ytghpcimeobmonaa
