/- R02 Same: what the call does. -/
import Derived.Test.YtkjmliebkbbogaaGNew
import Derived.Test.YtkjmliebkbbogaaFVal
namespace Go.Proofs.Ytkjmliebkbbogaa
set_option linter.unusedVariables false
set_option linter.unusedSimpArgs false
open Go.RowKit Plain

def sameF (n1 : Bool) (a1 b1 : List Nat) (n2 : Bool) (a2 b2 : List Nat) : Bool := (n1 == n2) && (decide (a1 = a2) && decide (b1 = b2))
def PartInv (la lb : List Nat) (w : World) (i : Value) (wr : World) : Prop :=
  ∃ k : Nat, k ≤ la.length ∧ i = .int .i64 k ∧ Hid (la.take k = lb.take k) ∧ Below w.heap.size w wr

theorem same_q {n1 n2 : Bool} {a1 b1 a2 b2 : List Nat} {p q : Rat} (h1 : QIs n1 a1 b1 p) (h2 : QIs n2 a2 b2 q) : sameF n1 a1 b1 n2 a2 b2 = decide (p = q) := by
  unfold sameF
  rw [Bool.eq_iff_iff, Bool.and_eq_true, Bool.and_eq_true, beq_iff_eq, decide_eq_true_eq, decide_eq_true_eq, decide_eq_true_eq]
  constructor
  · rintro ⟨rfl, rfl, rfl⟩; exact h1.inj h2
  · rintro rfl; exact h1.uniq h2
def RetB (b : Bool) (W : World) (e : Ending) (w' : World) : Prop := e = .returned (.bool b) ∧ Below W.heap.size W w'
end Go.Proofs.Ytkjmliebkbbogaa
/- R02 Valid and Natural, the law's short: what the calls do. -/
namespace Go.Proofs.Ytkjmliebkbbogaa
set_option linter.unusedVariables false
set_option linter.unusedSimpArgs false
open Go.RowKit Plain
attribute [local go_sem ↓] Go.wp_at_zero Go.wp_at_succ

theorem single_len {l : List Nat} (h : l.length = 1) : l = [l.getD 0 0] := by
  match l, h with
  | [d], _ => rfl
theorem one_len {l : List Nat} (h : l.length ≠ 1) : decide (l = [1]) = false := decide_eq_false fun e => h (by rw [e]; rfl)
theorem one_head {l : List Nat} {d : Nat} (h : l.length = 1) (hd : l.getD 0 0 = d) : decide (l = [1]) = decide (d = 1) := by
  rw [decide_eq_decide, single_len h, hd]
  simp
theorem gcd_nil {l : List Nat} (h : Canon l) (hd : Dig l) : decide (Nat.gcd (val []) (val l) = 1) = decide (l = [1]) := by
  rw [one_iff (n := val l) ⟨hd, h, rfl⟩, decide_eq_decide, val_nil, Nat.gcd_zero_left]
theorem refValid_eq {A : Option Addr} {c : Nat} {l : List Nat} {w : World} (h : Nv w A c l) (b : Bool) (hb : validL l = b) :
    Calls Try.prog 80 #[.slice A l.length c] w fun e w' => e = .returned (.bool b) ∧ w = w' := by
  subst hb; exact refValid_any h
set_option maxRecDepth 100000 in
set_option maxHeartbeats 2000000 in
theorem refValidF_any {neg : Bool} {A B : Option Addr} {ca cb : Nat} {la lb : List Nat} {w : World} (ha : Nv w A ca la) (hb : Nv w B cb lb) (hla : la.length ≤ 400000000) (hlb : lb.length ≤ 400000000) :
    Calls Try.prog 61 #[fracV neg A la.length ca B lb.length cb] w (RetB (vldF neg la lb) w) := by
  obtain ⟨w0, hw0, bw0, hlt0, hB0⟩ := boxed w #[.bool neg, .slice A la.length ca, .slice B lb.length cb] 50
  have k0 := hB0.f0
  have k1 := hB0.f1
  have k2 := hB0.f2
  have ha0 := ha.below bw0
  have hb0 := hb.below bw0
  have hbg := hb.big
  have hag := ha.big
  by_cases hv1 : validL la = true
  · by_cases hv2 : validL lb = true
    · have hca := canon_of_validL hv1
      have hcb := canon_of_validL hv2
      have hv1' := Lib.hid hv1
      have hv2' := Lib.hid hv2
      by_cases hz2 : lb.length = 0
      · have hr : Hid (vldF neg la lb = false) := by show _ = _; unfold vldF; rw [hv1, hv2, ← zeroB_len, hz2]; rfl
        have hz : (((lb.length : Nat) : Int) == 0) = true := by rw [hz2]; rfl
        rw [hr.out]
        clear hr hz2 hv1 hv2
        go_enter Try.func61, Try.ntmps61
        go_wp2_with fail
        refine (refValid_eq ha0 true hv1'.out).mono ?_
        rintro e w1 ⟨rfl, rfl⟩
        go_wp2_with fail
        refine (refValid_eq hb0 true hv2'.out).mono ?_
        rintro e w1 ⟨rfl, rfl⟩
        go_wp2
        go_ret
        exact ⟨rfl, bw0⟩
      · have hz : (((lb.length : Nat) : Int) == 0) = false := by rw [beq_eq_false_iff_ne]; omega
        have hzb : zeroB lb = false := by rw [← zeroB_len]; exact hz
        by_cases hz1 : la.length = 0
        · obtain rfl : la = [] := List.eq_nil_of_length_eq_zero hz1
          have hr : Hid (vldF neg [] lb = (!neg && decide (lb = [1]))) := by
            show _ = _
            unfold vldF
            rw [hv1, hv2, hzb, show zeroB [] = true from rfl, gcd_nil hcb hb.dig]
            cases neg <;> simp
          rw [hr.out]
          clear hr hz1 hv1 hv2 hzb hca
          simp only [List.length_nil] at *
          rcases neg with _ | _
          · by_cases h1 : lb.length = 1
            · have h1t : (((lb.length : Nat) : Int) == 1) = true := by rw [beq_iff_eq]; omega
              obtain ⟨b, d, rfl, hbb, hbc, hdb, hgb⟩ := hb0.at (k := 0) (by omega)
              have hbc0 := cell0 hbc
              have hlp : 0 < lb.length := by omega
              have ho := Lib.hid (one_head h1 hgb.out)
              rw [ho.out]
              have hde : ((d : Int) == 1) = decide (d = 1) := by rw [Bool.eq_iff_iff, beq_iff_eq, decide_eq_true_eq]; omega
              clear h1
              go_enter Try.func61, Try.ntmps61
              go_wp2_with fail
              refine (refValid_eq (l := []) ha0 true hv1'.out).mono ?_
              rintro e w1 ⟨rfl, rfl⟩
              go_wp2_with fail
              refine (refValid_eq hb0 true hv2'.out).mono ?_
              rintro e w1 ⟨rfl, rfl⟩
              go_wp2
              go_ret
              exact ⟨rfl, bw0⟩
            · have h1t : (((lb.length : Nat) : Int) == 1) = false := by rw [beq_eq_false_iff_ne]; omega
              rw [one_len h1]
              clear h1
              go_enter Try.func61, Try.ntmps61
              go_wp2_with fail
              refine (refValid_eq (l := []) ha0 true hv1'.out).mono ?_
              rintro e w1 ⟨rfl, rfl⟩
              go_wp2_with fail
              refine (refValid_eq hb0 true hv2'.out).mono ?_
              rintro e w1 ⟨rfl, rfl⟩
              go_wp2
              go_ret
              exact ⟨rfl, bw0⟩
          · go_enter Try.func61, Try.ntmps61
            go_wp2_with fail
            refine (refValid_eq (l := []) ha0 true hv1'.out).mono ?_
            rintro e w1 ⟨rfl, rfl⟩
            go_wp2_with fail
            refine (refValid_eq hb0 true hv2'.out).mono ?_
            rintro e w1 ⟨rfl, rfl⟩
            go_wp2
            go_ret
            exact ⟨rfl, bw0⟩
        · have hz1f : (((la.length : Nat) : Int) == 0) = false := by rw [beq_eq_false_iff_ne]; omega
          have hza : zeroB la = false := by rw [← zeroB_len]; exact hz1f
          have hr : Hid (vldF neg la lb = decide (Nat.gcd (val la) (val lb) = 1)) := by
            show _ = _
            unfold vldF
            rw [hv1, hv2, hzb, hza]
            simp
          rw [hr.out]
          clear hr hz1 hv1 hv2 hzb hza
          go_enter Try.func61, Try.ntmps61
          go_wp2_with fail
          refine (refValid_eq ha0 true hv1'.out).mono ?_
          rintro e w1 ⟨rfl, rfl⟩
          go_wp2_with fail
          refine (refValid_eq hb0 true hv2'.out).mono ?_
          rintro e w1 ⟨rfl, rfl⟩
          go_wp2_with fail
          refine (refGcd_any ha0 hb0 hca hcb hla hlb).mono ?_
          rintro e w3 ⟨G, cg, lg, rfl, ng, ig, mg, b3⟩
          have b03 := bw0.trans (b3.mono (Nat.le_of_lt hlt0))
          have hone := Lib.hid (one_iff ig)
          clear ig
          have hgg := ng.big
          by_cases h1 : lg.length = 1
          · have h1t : (((lg.length : Nat) : Int) == 1) = true := by rw [beq_iff_eq]; omega
            obtain ⟨b, d, rfl, hbb, hbc, hdb, hgb⟩ := ng.at (k := 0) (by omega)
            have hbc0 := cell0 hbc
            have hlp : 0 < lg.length := by omega
            have ho := Lib.hid (one_head h1 hgb.out)
            have hde : ((d : Int) == 1) = decide (d = 1) := by rw [Bool.eq_iff_iff, beq_iff_eq, decide_eq_true_eq]; omega
            clear h1
            go_wp2
            go_ret
            exact ⟨by rw [← hone.out, ho.out]; rfl, b03⟩
          · have h1t : (((lg.length : Nat) : Int) == 1) = false := by rw [beq_eq_false_iff_ne]; omega
            have ho := Lib.hid (one_len h1)
            clear h1
            go_wp2
            go_ret
            exact ⟨by rw [← hone.out, ho.out]; rfl, b03⟩
    · have hr : Hid (vldF neg la lb = false) := by show _ = _; unfold vldF; rw [hv1, eq_false_of_ne_true hv2]; rfl
      rw [hr.out]
      have hv1' := Lib.hid hv1
      have hv2' := Lib.hid (eq_false_of_ne_true hv2)
      clear hr hv1 hv2
      go_enter Try.func61, Try.ntmps61
      go_wp2_with fail
      refine (refValid_eq ha0 true hv1'.out).mono ?_
      rintro e w1 ⟨rfl, rfl⟩
      go_wp2_with fail
      refine (refValid_eq hb0 false hv2'.out).mono ?_
      rintro e w1 ⟨rfl, rfl⟩
      go_wp2
      go_ret
      exact ⟨rfl, bw0⟩
  · have hr : Hid (vldF neg la lb = false) := by show _ = _; unfold vldF; rw [eq_false_of_ne_true hv1]; rfl
    rw [hr.out]
    have hv1' := Lib.hid (eq_false_of_ne_true hv1)
    clear hr hv1
    go_enter Try.func61, Try.ntmps61
    go_wp2_with fail
    refine (refValid_eq ha0 false hv1'.out).mono ?_
    rintro e w1 ⟨rfl, rfl⟩
    go_wp2
    go_ret
    exact ⟨rfl, bw0⟩
/-- A valid fraction is a value of a rational number. -/
theorem vldF_qIs {neg : Bool} {la lb : List Nat} (ha : Dig la) (hb : Dig lb) (h : vldF neg la lb = true) : QIs neg la lb (mkRat (sg neg (val la)) (val lb)) := by
  unfold vldF at h
  simp only [Bool.and_eq_true, Bool.not_eq_true', decide_eq_true_eq] at h
  obtain ⟨h1, h2, h3, h4, h5⟩ := h
  refine qIs_valid ⟨ha, canon_of_validL h1, rfl⟩ ⟨hb, canon_of_validL h2, rfl⟩ (by unfold zeroB at h3; simpa using h3) ?_ h5
  rintro ⟨rfl, rfl⟩
  simp [zeroB] at h4
theorem validL_canon {l : List Nat} (h : Canon l) : validL l = true := by unfold validL; simpa using trimN_canon h
theorem qIs_vldF {neg : Bool} {la lb : List Nat} {q : Rat} (h : QIs neg la lb q) : vldF neg la lb = true := by
  unfold vldF
  simp only [Bool.and_eq_true, Bool.not_eq_true', decide_eq_true_eq]
  refine ⟨validL_canon h.na.canon, validL_canon h.nb.canon, ?_, ?_, QIs.gcd h⟩
  · unfold zeroB; simpa using QIs.ne h
  · cases neg with
    | false => rfl
    | true =>
      have := QIs.sign h
      unfold zeroB
      simpa using this
theorem refValidQ_any {v : Value} {q : Rat} {k : Nat} {w : World} (hv : FV w v q) (hk : Fits k q) (hK : k ≤ 400000000) : Calls Try.prog 61 #[v] w (RetB true w) := by
  obtain ⟨neg, A, ca, la, B, cb, lb, rfl, na, nb, iq⟩ := hv
  have hf := QIs.fits iq hk
  have := refValidF_any (neg := neg) na nb (by omega) (by omega)
  rw [qIs_vldF iq] at this
  exact this
end Go.Proofs.Ytkjmliebkbbogaa
