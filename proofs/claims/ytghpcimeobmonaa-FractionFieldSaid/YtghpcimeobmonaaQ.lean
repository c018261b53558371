/- Fractions as rational numbers: plain arithmetic. No program in sight. -/
import Derived.Test.YtghpcimeobmonaaNat
namespace Go.Proofs.Ytghpcimeobmonaa.Plain
set_option linter.unusedVariables false
set_option linter.unusedSimpArgs false

/-- A natural number with a sign. -/
def sg (neg : Bool) (n : Nat) : Int := if neg = true then -(n : Int) else (n : Int)
theorem sg_natAbs (neg : Bool) (n : Nat) : (sg neg n).natAbs = n := by
  unfold sg; split <;> simp
theorem sg_div {neg : Bool} {n g : Nat} (h : g ∣ n) : sg neg n / (g : Int) = sg neg (n / g) := by
  unfold sg
  split
  · rw [Int.neg_ediv_of_dvd (Int.natCast_dvd_natCast.2 h)]
    simp
  · simp
theorem sg_neg {neg : Bool} {n : Nat} : sg neg n < 0 ↔ neg = true ∧ 0 < n := by
  unfold sg
  split <;> rename_i h
  · simp [h]
    try omega
  · simp [h]
    try omega
theorem sg_zero {neg : Bool} {n : Nat} : sg neg n = 0 ↔ n = 0 := by
  unfold sg; split <;> omega
theorem sg_of (z : Int) : sg (decide (z < 0)) z.natAbs = z := by
  unfold sg
  by_cases h : z < 0
  · simp [h]; omega
  · simp [h]; omega
theorem sg_not (neg : Bool) (n : Nat) : sg (!neg) n = -sg neg n := by
  unfold sg; cases neg <;> simp
theorem sg_add (neg : Bool) (a b : Nat) : sg neg (a + b) = sg neg a + sg neg b := by
  unfold sg; cases neg <;> simp <;> omega
theorem sg_mul (p q : Bool) (a b : Nat) : sg p a * sg q b = sg (p != q) (a * b) := by
  unfold sg; cases p <;> cases q <;> simp [Int.mul_neg, Int.neg_mul]

/-- The lists are the parts of the rational number q in lowest terms. -/
def QIs (neg : Bool) (la lb : List Nat) (q : Rat) : Prop := NatIs la q.num.natAbs ∧ NatIs lb q.den ∧ neg = decide (q.num < 0)
theorem QIs.num {neg : Bool} {la lb : List Nat} {q : Rat} (h : QIs neg la lb q) : sg neg (val la) = q.num := by
  rw [h.2.2, h.1.val, sg_of]
theorem QIs.den {neg : Bool} {la lb : List Nat} {q : Rat} (h : QIs neg la lb q) : val lb = q.den := h.2.1.val
theorem QIs.na {neg : Bool} {la lb : List Nat} {q : Rat} (h : QIs neg la lb q) : NatIs la q.num.natAbs := h.1
theorem QIs.nb {neg : Bool} {la lb : List Nat} {q : Rat} (h : QIs neg la lb q) : NatIs lb q.den := h.2.1
theorem QIs.uniq {neg neg' : Bool} {la lb la' lb' : List Nat} {q : Rat} (h : QIs neg la lb q) (h' : QIs neg' la' lb' q) : neg = neg' ∧ la = la' ∧ lb = lb' :=
  ⟨h.2.2.trans h'.2.2.symm, h.1.uniq h'.1, h.2.1.uniq h'.2.1⟩
theorem QIs.inj {neg : Bool} {la lb : List Nat} {q r : Rat} (h : QIs neg la lb q) (h' : QIs neg la lb r) : q = r :=
  Rat.ext (h.num.symm.trans h'.num) (h.den.symm.trans h'.den)
theorem QIs.mk {neg : Bool} {la lb : List Nat} {q : Rat} (h : QIs neg la lb q) : q = mkRat (sg neg (val la)) (val lb) := by
  rw [h.num, h.den, Rat.mkRat_self]
/-- The quotient of two numbers, divided by their greatest common divisor. -/
theorem make_q (neg : Bool) (n : Nat) {d : Nat} (hd : d ≠ 0) : (mkRat (sg neg n) d).num.natAbs = n / Nat.gcd n d ∧ (mkRat (sg neg n) d).den = d / Nat.gcd n d ∧ decide ((mkRat (sg neg n) d).num < 0) = (neg && decide (0 < n / Nat.gcd n d)) := by
  have hn : (mkRat (sg neg n) d).num = sg neg (n / Nat.gcd n d) := by
    rw [Rat.num_mkRat, if_neg hd, sg_natAbs, Nat.gcd_comm d n, sg_div (Nat.gcd_dvd_left n d)]
  refine ⟨by rw [hn, sg_natAbs], ?_, ?_⟩
  · rw [Rat.den_mkRat, if_neg hd, sg_natAbs, Nat.gcd_comm d n]
  · rw [hn, Bool.eq_iff_iff, decide_eq_true_eq, sg_neg, Bool.and_eq_true, decide_eq_true_eq]
theorem qIs_make {neg neg' : Bool} {n d : Nat} {la lb : List Nat} (hd : d ≠ 0) (ha : NatIs la (n / Nat.gcd n d)) (hb : NatIs lb (d / Nat.gcd n d)) (hn : neg' = (neg && decide (0 < n / Nat.gcd n d))) : QIs neg' la lb (mkRat (sg neg n) d) := by
  obtain ⟨h1, h2, h3⟩ := make_q neg n hd
  exact ⟨by rw [h1]; exact ha, by rw [h2]; exact hb, by rw [h3]; exact hn⟩
/-- A valid fraction is a rational number. -/
theorem qIs_valid {neg : Bool} {la lb : List Nat} (ha : NatIs la (val la)) (hb : NatIs lb (val lb)) (h0 : lb ≠ []) (hz : ¬ (neg = true ∧ la = [])) (hg : Nat.gcd (val la) (val lb) = 1) : QIs neg la lb (mkRat (sg neg (val la)) (val lb)) := by
  have hd : val lb ≠ 0 := fun e => h0 (by rw [e] at hb; exact hb.uniq NatIs.nil)
  refine qIs_make hd (by rw [hg, Nat.div_one]; exact ha) (by rw [hg, Nat.div_one]; exact hb) ?_
  rw [hg, Nat.div_one]
  cases neg with
  | false => rfl
  | true =>
    have : val la ≠ 0 := fun e => hz ⟨rfl, by rw [e] at ha; exact ha.uniq NatIs.nil⟩
    simp; omega
theorem QIs.ne {neg : Bool} {la lb : List Nat} {q : Rat} (h : QIs neg la lb q) : lb ≠ [] := fun e => by
  have := h.nb
  rw [e] at this
  exact q.den_nz this.val.symm
theorem QIs.gcd {neg : Bool} {la lb : List Nat} {q : Rat} (h : QIs neg la lb q) : Nat.gcd (val la) (val lb) = 1 := by
  rw [h.na.val, h.nb.val]; exact q.reduced
theorem QIs.sign {neg : Bool} {la lb : List Nat} {q : Rat} (h : QIs neg la lb q) : ¬ (neg = true ∧ la = []) := fun ⟨h1, h2⟩ => by
  have h3 := h.2.2
  rw [h1] at h3
  have h4 := h.na
  rw [h2] at h4
  have h5 : q.num.natAbs = 0 := h4.val.symm
  have : q.num < 0 := of_decide_eq_true h3.symm
  omega

/-- Few digits. -/
def Fits (k : Nat) (q : Rat) : Prop := q.num.natAbs < pw k ∧ q.den < pw k
theorem Fits.mono {j k : Nat} {q : Rat} (h : Fits j q) (hk : j ≤ k) : Fits k q := ⟨Nat.lt_of_lt_of_le h.1 (pw_mono hk), Nat.lt_of_lt_of_le h.2 (pw_mono hk)⟩
theorem fits_mk {k d : Nat} {z : Int} (hz : z.natAbs < pw k) (hd : d < pw k) (hk : 0 < k := by omega) : Fits k (mkRat z d) := by
  by_cases h0 : d = 0
  · subst h0
    simp only [Rat.mkRat_zero, Fits, Rat.zero_num, Rat.zero_den]
    have := pw_mono (a := 1) (b := k) hk
    simp only [pw_one] at this
    exact ⟨by omega, by omega⟩
  · have h1 := make_q (decide (z < 0)) z.natAbs h0
    rw [sg_of] at h1
    exact ⟨by rw [h1.1]; exact Nat.lt_of_le_of_lt (Nat.div_le_self _ _) hz, by rw [h1.2.1]; exact Nat.lt_of_le_of_lt (Nat.div_le_self _ _) hd⟩
theorem mul_lt_pw {j k m n : Nat} (h1 : m < pw j) (h2 : n < pw k) : m * n < pw (j + k) := by
  rw [pw_add]
  exact Nat.mul_lt_mul'' h1 h2
theorem Fits.pos {k : Nat} {q : Rat} (h : Fits k q) : 0 < k := by
  rcases Nat.eq_zero_or_pos k with h0 | h0
  · subst h0
    have h1 := h.2
    have h2 := Nat.pos_of_ne_zero q.den_nz
    simp only [pw] at h1
    omega
  · exact h0
theorem add_lt_pw {k m n : Nat} (h1 : m < pw k) (h2 : n < pw k) : m + n < pw (k + 1) := by
  simp only [pw]
  omega
theorem Fits.add {j k : Nat} {p q : Rat} (hp : Fits j p) (hq : Fits k q) : Fits (j + k + 1) (p + q) := by
  rw [Rat.add_def']
  refine fits_mk ?_ (Nat.lt_of_lt_of_le (mul_lt_pw hp.2 hq.2) (pw_mono (by omega)))
  have h1 : (p.num * (q.den : Int)).natAbs < pw (j + k) := by rw [Int.natAbs_mul]; exact mul_lt_pw hp.1 hq.2
  have h2 : (q.num * (p.den : Int)).natAbs < pw (j + k) := by rw [Int.natAbs_mul, Nat.add_comm]; exact mul_lt_pw hq.1 hp.2
  exact Nat.lt_of_le_of_lt (Int.natAbs_add_le _ _) (add_lt_pw h1 h2)
theorem Fits.neg {k : Nat} {q : Rat} (h : Fits k q) : Fits k (-q) := ⟨by rw [Rat.neg_num, Int.natAbs_neg]; exact h.1, h.2⟩
theorem Fits.sub {j k : Nat} {p q : Rat} (hp : Fits j p) (hq : Fits k q) : Fits (j + k + 1) (p - q) := by
  rw [Rat.sub_eq_add_neg]; exact hp.add hq.neg
theorem Fits.mul {j k : Nat} {p q : Rat} (hp : Fits j p) (hq : Fits k q) : Fits (j + k) (p * q) := by
  rw [Rat.mul_def']
  have := hp.pos
  exact fits_mk (by rw [Int.natAbs_mul]; exact mul_lt_pw hp.1 hq.1) (mul_lt_pw hp.2 hq.2)
theorem Fits.zero {k : Nat} (h : 0 < k) : Fits k 0 := by
  have := pw_mono (a := 1) (b := k) h
  simp only [pw_one] at this
  exact ⟨by simp; omega, by simp; omega⟩

/-! The operations as the program computes them. -/
section
variable {n1 n2 : Bool} {a1 b1 a2 b2 : List Nat} {p q : Rat}
theorem sg_mulNat (neg : Bool) (a b : Nat) : sg neg (a * b) = sg neg a * (b : Int) := by
  unfold sg; split <;> simp [Int.neg_mul]
theorem q_add (h1 : QIs n1 a1 b1 p) (h2 : QIs n1 a2 b2 q) : mkRat (sg n1 (val a1 * val b2 + val a2 * val b1)) (val b1 * val b2) = p + q := by
  rw [sg_add, sg_mulNat, sg_mulNat, h1.num, h2.num, h1.den, h2.den, Rat.add_def']
theorem q_sub1 (h1 : QIs n1 a1 b1 p) (h2 : QIs n2 a2 b2 q) (hn : n1 ≠ n2) (hle : val a2 * val b1 ≤ val a1 * val b2) : mkRat (sg n1 (val a1 * val b2 - val a2 * val b1)) (val b1 * val b2) = p + q := by
  have e : sg n1 (val a1 * val b2 - val a2 * val b1) = sg n1 (val a1 * val b2) + sg n2 (val a2 * val b1) := by
    unfold sg
    cases n1 <;> cases n2 <;> simp at hn ⊢ <;> omega
  rw [e, sg_mulNat, sg_mulNat, h1.num, h2.num, h1.den, h2.den, Rat.add_def']
theorem q_sub2 (h1 : QIs n1 a1 b1 p) (h2 : QIs n2 a2 b2 q) (hn : n1 ≠ n2) (hle : val a1 * val b2 ≤ val a2 * val b1) : mkRat (sg n2 (val a2 * val b1 - val a1 * val b2)) (val b1 * val b2) = p + q := by
  have e : sg n2 (val a2 * val b1 - val a1 * val b2) = sg n1 (val a1 * val b2) + sg n2 (val a2 * val b1) := by
    unfold sg
    cases n1 <;> cases n2 <;> simp at hn ⊢ <;> omega
  rw [e, sg_mulNat, sg_mulNat, h1.num, h2.num, h1.den, h2.den, Rat.add_def']
theorem q_mul (h1 : QIs n1 a1 b1 p) (h2 : QIs n2 a2 b2 q) : mkRat (sg (n1 != n2) (val a1 * val a2)) (val b1 * val b2) = p * q := by
  rw [← sg_mul, h1.num, h2.num, h1.den, h2.den, Rat.mul_def']
theorem q_neg (h1 : QIs n1 a1 b1 p) : mkRat (sg (!n1) (val a1)) (val b1) = -p := by
  rw [sg_not, h1.num, h1.den, ← Rat.neg_mkRat, Rat.mkRat_self]
theorem q_div (h1 : QIs n1 a1 b1 p) (h2 : QIs n2 a2 b2 q) (h0 : q ≠ 0) : mkRat (sg (n1 != n2) (val a1 * val b2)) (val b1 * val a2) = p / q := by
  have hq : q.num ≠ 0 := fun e => h0 (Rat.num_eq_zero.1 e)
  have e1 : q⁻¹ = mkRat (sg n2 (val b2)) (val a2) := by
    rw [Rat.inv_def, h2.den, h2.na.val]
    have e : q.num = sg n2 q.num.natAbs := by rw [h2.2.2, sg_of]
    by_cases hneg : q.num < 0
    · have hn : n2 = true := by rw [h2.2.2]; simpa using hneg
      rw [hn] at e ⊢
      unfold sg at e ⊢
      simp at e ⊢
      rw [← Rat.neg_divInt_neg, show -q.num = (q.num.natAbs : Int) by omega, Rat.divInt_ofNat]
    · have hn : n2 = false := by rw [h2.2.2]; simpa using hneg
      rw [hn]
      unfold sg
      simp
      rw [← Rat.divInt_ofNat, show ((q.num.natAbs : Nat) : Int) = q.num by omega]
  rw [Rat.div_def, e1, h1.mk, Rat.mkRat_mul_mkRat, sg_mul]
theorem q_zero (h : QIs n1 a1 b1 p) : a1 = [] ↔ p = 0 := by
  rw [h.na.zero_iff, Int.natAbs_eq_zero, Rat.num_eq_zero]
end
/-- The comparison of two rational numbers. -/
def cmpR (p q : Rat) : Int := if p < q then -1 else if q < p then 1 else 0
def signR (p : Rat) : Int := if p.num < 0 then -1 else if p.num = 0 then 0 else 1
theorem cmpR_bd (p q : Rat) : -1 ≤ cmpR p q ∧ cmpR p q ≤ 1 := by
  unfold cmpR
  split
  · omega
  · split <;> omega
theorem signR_eq (p : Rat) : signR p = cmpR p 0 := by
  have e1 : p < 0 ↔ p.num < 0 := by rw [Rat.lt_iff]; simp
  have e2 : 0 < p ↔ 0 < p.num := by rw [Rat.lt_iff]; simp
  unfold signR cmpR
  simp only [e1, e2]
  by_cases h1 : p.num < 0
  · rw [if_pos h1, if_pos h1]
  · by_cases h2 : p.num = 0
    · rw [if_neg h1, if_pos h2, if_neg h1, if_neg (by omega)]
    · rw [if_neg h1, if_neg h2, if_neg h1, if_pos (by omega)]
theorem cmpR_sub (p q : Rat) : cmpR (p - q) 0 = cmpR p q := by
  unfold cmpR
  have h1 : p - q < 0 ↔ p < q := by grind
  have h2 : 0 < p - q ↔ q < p := by grind
  simp only [h1, h2]
theorem cmpR_zero {p q : Rat} : cmpR p q = 0 ↔ p = q := by
  unfold cmpR
  constructor
  · intro h
    split at h
    · omega
    · split at h
      · omega
      · grind
  · rintro rfl
    rw [if_neg Rat.lt_irrefl, if_neg Rat.lt_irrefl]
theorem cmpR_neg {p q : Rat} : cmpR p q < 0 ↔ p < q := by
  unfold cmpR
  split
  · simp_all
  · split <;> simp_all
theorem cmpR_pos {p q : Rat} : 0 < cmpR p q ↔ q < p := by
  unfold cmpR
  split
  · rename_i h
    constructor
    · omega
    · intro h2; exact absurd (Rat.not_le.2 h2) (by simpa using Rat.le_of_lt h)
  · split <;> simp_all
section
variable {n1 n2 : Bool} {a1 b1 a2 b2 : List Nat} {p q : Rat}
theorem q_cmp_pos (h1 : QIs n1 a1 b1 p) (h2 : QIs n2 a2 b2 q) (hn : n1 = false) (hm : n2 = false) : cmpI (val a1 * val b2) (val a2 * val b1) = cmpR p q := by
  have e1 := h1.num
  have e2 := h2.num
  rw [hn] at e1
  rw [hm] at e2
  unfold cmpI cmpR
  simp only [Rat.lt_iff, ← e1, ← e2, h1.den.symm, h2.den.symm, sg]
  simp only [Bool.false_eq_true, if_false]
  have c1 : ((val a1 : Int) * (val b2 : Int) < (val a2 : Int) * (val b1 : Int)) ↔ val a1 * val b2 < val a2 * val b1 := by
    rw [← Int.natCast_mul, ← Int.natCast_mul]; omega
  have c2 : ((val a2 : Int) * (val b1 : Int) < (val a1 : Int) * (val b2 : Int)) ↔ val a2 * val b1 < val a1 * val b2 := by
    rw [← Int.natCast_mul, ← Int.natCast_mul]; omega
  simp only [c1, c2]
theorem q_cmp_neg (h1 : QIs n1 a1 b1 p) (h2 : QIs n2 a2 b2 q) (hn : n1 = true) (hm : n2 = true) : cmpI (val a2 * val b1) (val a1 * val b2) = cmpR p q := by
  have e1 := h1.num
  have e2 := h2.num
  rw [hn] at e1
  rw [hm] at e2
  unfold cmpI cmpR
  simp only [Rat.lt_iff, ← e1, ← e2, h1.den.symm, h2.den.symm, sg]
  simp only [if_true, Int.neg_mul]
  have c1 : (-((val a1 : Int) * (val b2 : Int)) < -((val a2 : Int) * (val b1 : Int))) ↔ val a2 * val b1 < val a1 * val b2 := by
    rw [← Int.natCast_mul, ← Int.natCast_mul]; omega
  have c2 : (-((val a2 : Int) * (val b1 : Int)) < -((val a1 : Int) * (val b2 : Int))) ↔ val a1 * val b2 < val a2 * val b1 := by
    rw [← Int.natCast_mul, ← Int.natCast_mul]; omega
  simp only [c1, c2]
theorem q_lt_zero (h1 : QIs n1 a1 b1 p) : n1 = true ↔ p < 0 := by
  rw [h1.2.2, decide_eq_true_eq, Rat.lt_iff]
  simp
theorem q_cmp_np (h1 : QIs n1 a1 b1 p) (h2 : QIs n2 a2 b2 q) (hn : n1 = true) (hm : n2 = false) : cmpR p q = -1 := by
  have e1 := (q_lt_zero h1).1 hn
  have e2 : ¬ q < 0 := fun h => by rw [(q_lt_zero h2).2 h] at hm; cases hm
  unfold cmpR
  rw [if_pos (by grind)]
theorem q_cmp_pn (h1 : QIs n1 a1 b1 p) (h2 : QIs n2 a2 b2 q) (hn : n1 = false) (hm : n2 = true) : cmpR p q = 1 := by
  have e2 := (q_lt_zero h2).1 hm
  have e1 : ¬ p < 0 := fun h => by rw [(q_lt_zero h1).2 h] at hn; cases hn
  unfold cmpR
  rw [if_neg (by grind), if_pos (by grind)]
theorem q_sign (h1 : QIs n1 a1 b1 p) : cmpR p 0 = if a1 = [] then 0 else if n1 = true then -1 else 1 := by
  by_cases h0 : a1 = []
  · rw [if_pos h0, (q_zero h1).1 h0]
    exact cmpR_zero.2 rfl
  · rw [if_neg h0]
    have hp : p ≠ 0 := fun e => h0 ((q_zero h1).2 e)
    by_cases hn : n1 = true
    · rw [if_pos hn]
      unfold cmpR
      rw [if_pos ((q_lt_zero h1).1 hn)]
    · rw [if_neg hn]
      have : ¬ p < 0 := fun h => hn ((q_lt_zero h1).2 h)
      unfold cmpR
      rw [if_neg this, if_pos (by grind)]
end
end Go.Proofs.Ytghpcimeobmonaa.Plain
