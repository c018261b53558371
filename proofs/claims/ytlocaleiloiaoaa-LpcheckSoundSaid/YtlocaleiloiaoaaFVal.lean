/- fraction.kindOf and Valid: what the calls do. -/
import Derived.Test.YtlocaleiloiaoaaFV
import Derived.Test.YtlocaleiloiaoaaWGcd
namespace Go.Proofs.Ytlocaleiloiaoaa
set_option linter.unusedVariables false
set_option linter.unusedSimpArgs false
open Go.RowKit Plain
attribute [local go_sem ↓] Go.wp_at_zero Go.wp_at_succ

set_option maxRecDepth 100000 in
set_option maxHeartbeats 1000000 in
theorem kindOf_any {neg : Bool} {A B : Option Addr} {ca cb : Nat} {la lb : List Nat} {w : World} (ha : Nv w A ca la) :
    Calls Try.prog 74 #[fracV neg A la.length ca B lb.length cb] w fun e w' => e = .returned (.agg #[.bool neg, .bool (zeroB la)]) ∧ Below w.heap.size w w' := by
  have hz := zeroB_len la
  obtain ⟨z, hzz⟩ : ∃ z, zeroB la = z := ⟨_, rfl⟩
  rw [hzz] at hz ⊢
  clear hzz
  have hbg := ha.big
  go_enter Try.func74, Try.ntmps74
  go_wp2
  refine bodyPost_ret (v := .agg #[.bool neg, .bool z]) (by simp [results, Try.results74, go_sem]) rfl ⟨rfl, ?_⟩
  exact ((Below.refl _ _).alloc (Nat.le_refl _) _).alloc (by simp) _

set_option maxRecDepth 100000 in
set_option maxHeartbeats 1000000 in
theorem fvalid_any {neg : Bool} {A B : Option Addr} {ca cb : Nat} {la lb : List Nat} {w : World} (ha : Nv w A ca la) (hb : Nv w B cb lb) (hla : la.length ≤ 400000000) (hlb : lb.length ≤ 400000000) :
    Calls Try.prog 54 #[fracV neg A la.length ca B lb.length cb] w fun e w' => e = .returned (.bool (vldF neg la lb)) ∧ Below w.heap.size w w' := by
  obtain ⟨w0, hw0, bw0, hlt0, hB0⟩ := boxed w #[.bool neg, .slice A la.length ca, .slice B lb.length cb] 29
  have k0 := hB0.f0
  have k1 := hB0.f1
  have k2 := hB0.f2
  have ha0 := ha.below bw0
  have hb0 := hb.below bw0
  have hbg := hb.big
  have hzb := zeroB_len lb
  obtain ⟨v1, hv1⟩ : ∃ v, validL la = v := ⟨_, rfl⟩
  obtain ⟨v2, hv2⟩ : ∃ v, validL lb = v := ⟨_, rfl⟩
  obtain ⟨z1, hz1⟩ : ∃ v, zeroB la = v := ⟨_, rfl⟩
  obtain ⟨z2, hz2⟩ : ∃ v, zeroB lb = v := ⟨_, rfl⟩
  rw [hz2] at hzb
  have hr := Lib.hid (show vldF neg la lb = (v1 && (v2 && (!z2 && (!(neg && z1) && decide (Nat.gcd (val la) (val lb) = 1))))) by unfold vldF; rw [hv1, hv2, hz1, hz2])
  have hv1' := Lib.hid hv1
  have hv2' := Lib.hid hv2
  have hz1' := Lib.hid hz1
  clear hv1 hv2 hz1 hz2
  rw [hr.out]
  rcases v1 with _ | _
  · go_enter Try.func54, Try.ntmps54
    go_wp2_with fail
    refine (valid_any ha0).mono ?_
    rintro e w1 ⟨rfl, rfl⟩
    rw [hv1'.out]
    go_wp2
    go_ret
    exact ⟨rfl, bw0⟩
  rcases v2 with _ | _
  · go_enter Try.func54, Try.ntmps54
    go_wp2_with fail
    refine (valid_any ha0).mono ?_
    rintro e w1 ⟨rfl, rfl⟩
    rw [hv1'.out]
    go_wp2_with fail
    refine (valid_any hb0).mono ?_
    rintro e w1 ⟨rfl, rfl⟩
    rw [hv2'.out]
    go_wp2
    go_ret
    exact ⟨rfl, bw0⟩
  rcases z2 with _ | _
  · go_enter Try.func54, Try.ntmps54
    go_wp2_with fail
    refine (valid_any ha0).mono ?_
    rintro e w1 ⟨rfl, rfl⟩
    rw [hv1'.out]
    go_wp2_with fail
    refine (valid_any hb0).mono ?_
    rintro e w1 ⟨rfl, rfl⟩
    rw [hv2'.out]
    go_wp2_with fail
    refine (kindOf_any ha0).mono ?_
    rintro e w2 ⟨rfl, b2⟩
    rw [hz1'.out]
    have k1' := (hB0.keep b2).f1
    have k2' := (hB0.keep b2).f2
    have b02 := bw0.trans (b2.mono (Nat.le_of_lt hlt0))
    rcases neg with _ | _ <;> rcases z1 with _ | _
    case true.true =>
      go_wp2
      go_ret
      exact ⟨rfl, b02⟩
    all_goals
      go_wp2_with fail
      refine (gcd_any (ha0.below b2) (hb0.below b2) hla hlb).mono ?_
      rintro e w3 ⟨G, cg, lg, rfl, ng, ig, mg, b3⟩
      go_wp2_with fail
      refine (fromUint_any 1 _ (by decide)).mono ?_
      rintro e w4 ⟨O, co, lo, rfl, no, io, mo, b4⟩
      go_wp2_with fail
      refine (cmp_any (ng.below b4) no).mono ?_
      rintro e w5 ⟨rfl, b5⟩
      rw [ig.val, io.val]
      have hcm := cmp_one (Nat.gcd (val la) (val lb))
      have b03 := b02.trans (b3.mono b02.size)
      have b04 := b03.trans (b4.mono b03.size)
      have b05 := b04.trans (b5.mono b04.size)
      clear ig io b3 b4 b5 b03 b04
      go_wp2
      go_ret
      exact ⟨rfl, b05⟩
  · go_enter Try.func54, Try.ntmps54
    go_wp2_with fail
    refine (valid_any ha0).mono ?_
    rintro e w1 ⟨rfl, rfl⟩
    rw [hv1'.out]
    go_wp2_with fail
    refine (valid_any hb0).mono ?_
    rintro e w1 ⟨rfl, rfl⟩
    rw [hv2'.out]
    go_wp2
    go_ret
    exact ⟨rfl, bw0⟩

end Go.Proofs.Ytlocaleiloiaoaa
