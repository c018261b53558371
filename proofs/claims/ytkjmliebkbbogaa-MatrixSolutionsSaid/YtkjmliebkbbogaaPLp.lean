/- Plain arithmetic of digit lists in base 4294967296, least significant digit first. No program in sight. -/
namespace Go.Proofs.Ytkjmliebkbbogaa.Plain
set_option linter.unusedVariables false
set_option linter.unusedSimpArgs false

/-- The number that a list of digits denotes. -/
def val : List Nat → Nat
  | [] => 0
  | d :: ds => d + 4294967296 * val ds

/-- Powers of the base, by recursion. -/
def pw : Nat → Nat
  | 0 => 1
  | k + 1 => 4294967296 * pw k

def Dig (l : List Nat) : Prop := ∀ d ∈ l, d < 4294967296

theorem pw_pos (k : Nat) : 0 < pw k := by induction k with
  | zero => simp [pw]
  | succ k ih => simp only [pw]; omega
theorem pw_add (a b : Nat) : pw (a + b) = pw a * pw b := by
  induction b with
  | zero => simp [pw]
  | succ b ih => rw [Nat.add_succ]; simp only [pw]; rw [ih, Nat.mul_left_comm]
theorem pw_mono {a b : Nat} (h : a ≤ b) : pw a ≤ pw b := by
  obtain ⟨c, rfl⟩ := Nat.exists_eq_add_of_le h
  rw [pw_add]
  exact Nat.le_mul_of_pos_right _ (pw_pos c)
theorem pw_one : pw 1 = 4294967296 := rfl

theorem val_nil : val [] = 0 := rfl
theorem val_cons (d : Nat) (l : List Nat) : val (d :: l) = d + 4294967296 * val l := rfl
theorem val_append (a b : List Nat) : val (a ++ b) = val a + pw a.length * val b := by
  induction a with
  | nil => simp [val, pw]
  | cons d a ih =>
    simp only [List.cons_append, val, List.length_cons, pw, ih, Nat.mul_add, Nat.mul_assoc]
    omega
theorem val_snoc (a : List Nat) (d : Nat) : val (a ++ [d]) = val a + pw a.length * d := by
  rw [val_append]; simp [val]
theorem val_replicate (n : Nat) : val (List.replicate n 0) = 0 := by
  induction n with
  | zero => rfl
  | succ n ih => simp [List.replicate_succ, val, ih]

theorem Dig.nil : Dig [] := fun _ h => by simp at h
theorem Dig.cons {d : Nat} {l : List Nat} (h : d < 4294967296) (hl : Dig l) : Dig (d :: l) := by
  intro x hx
  rcases List.mem_cons.1 hx with rfl | hx
  · exact h
  · exact hl x hx
theorem Dig.head {d : Nat} {l : List Nat} (h : Dig (d :: l)) : d < 4294967296 := h d (by simp)
theorem Dig.tail {d : Nat} {l : List Nat} (h : Dig (d :: l)) : Dig l := fun x hx => h x (by simp [hx])
theorem Dig.append {a b : List Nat} (ha : Dig a) (hb : Dig b) : Dig (a ++ b) := by
  intro x hx
  rcases List.mem_append.1 hx with hx | hx
  · exact ha x hx
  · exact hb x hx
theorem Dig.left {a b : List Nat} (h : Dig (a ++ b)) : Dig a := fun x hx => h x (by simp [hx])
theorem Dig.right {a b : List Nat} (h : Dig (a ++ b)) : Dig b := fun x hx => h x (by simp [hx])
theorem Dig.snoc {a : List Nat} {d : Nat} (ha : Dig a) (hd : d < 4294967296) : Dig (a ++ [d]) := ha.append (Dig.cons hd Dig.nil)
theorem Dig.take {a : List Nat} (ha : Dig a) (k : Nat) : Dig (a.take k) := fun x hx => ha x (List.mem_of_mem_take hx)
theorem Dig.drop {a : List Nat} (ha : Dig a) (k : Nat) : Dig (a.drop k) := fun x hx => ha x (List.mem_of_mem_drop hx)
theorem Dig.getD {a : List Nat} (ha : Dig a) (k : Nat) : a.getD k 0 < 4294967296 := by
  by_cases h : k < a.length
  · rw [List.getD_eq_getElem?_getD, List.getElem?_eq_getElem h]
    exact ha _ (List.getElem_mem h)
  · rw [List.getD_eq_getElem?_getD, List.getElem?_eq_none (by omega)]
    simp
theorem Dig.replicate (n : Nat) : Dig (List.replicate n 0) := fun x hx => by
  have := List.eq_of_mem_replicate hx
  omega

theorem val_lt {l : List Nat} (h : Dig l) : val l < pw l.length := by
  induction l with
  | nil => simp [val, pw]
  | cons d l ih =>
    have h1 := h.head
    have h2 := ih h.tail
    simp only [val, List.length_cons, pw]
    omega

theorem val_inj : ∀ {a b : List Nat}, Dig a → Dig b → a.length = b.length → val a = val b → a = b
  | [], [], _, _, _, _ => rfl
  | [], _ :: _, _, _, h, _ => by simp at h
  | _ :: _, [], _, _, h, _ => by simp at h
  | x :: a, y :: b, ha, hb, hl, hv => by
    have h1 := ha.head
    have h2 := hb.head
    simp only [val] at hv
    have hxy : x = y := by omega
    have hv' : val a = val b := by omega
    rw [hxy, val_inj ha.tail hb.tail (by simpa using hl) hv']

theorem take_snoc' (l : List Nat) (k : Nat) (h : k < l.length) : l.take (k + 1) = l.take k ++ [l.getD k 0] := by
  rw [List.take_succ_eq_append_getElem h, List.getD_eq_getElem?_getD, List.getElem?_eq_getElem h]; rfl
theorem val_take_succ (l : List Nat) (k : Nat) : val (l.take (k + 1)) = val (l.take k) + pw k * l.getD k 0 := by
  by_cases h : k < l.length
  · rw [take_snoc' l k h, val_snoc, List.length_take, Nat.min_eq_left (by omega)]
  · rw [List.take_of_length_le (by omega), List.take_of_length_le (by omega), List.getD_eq_getElem?_getD, List.getElem?_eq_none (by omega)]
    simp
theorem val_drop (l : List Nat) (k : Nat) (h : k < l.length) : val (l.drop k) = l.getD k 0 + 4294967296 * val (l.drop (k + 1)) := by
  rw [List.drop_eq_getElem_cons h, val, List.getD_eq_getElem?_getD, List.getElem?_eq_getElem h]; rfl
theorem val_take_drop (l : List Nat) (k : Nat) (h : k ≤ l.length) : val (l.take k) + pw k * val (l.drop k) = val l := by
  have := val_append (l.take k) (l.drop k)
  rw [List.take_append_drop, List.length_take, Nat.min_eq_left h] at this
  exact this.symm
theorem val_take_ge (l : List Nat) (k : Nat) (h : l.length ≤ k) : val (l.take k) = val l := by rw [List.take_of_length_le h]
theorem val_take_lt {l : List Nat} (h : Dig l) (k : Nat) : val (l.take k) < pw k := by
  have := val_lt (h.take k)
  exact Nat.lt_of_lt_of_le this (pw_mono (by rw [List.length_take]; omega))

theorem val_split (l : List Nat) (j : Nat) (h : j < l.length) : val l = val (l.take j) + pw j * l.getD j 0 + pw (j + 1) * val (l.drop (j + 1)) := by
  rw [← val_take_succ, val_take_drop l (j + 1) (by omega)]
/-- The first digit from above that differs decides. -/
theorem val_lt_at {a b : List Nat} {j : Nat} (ha : Dig a) (h1 : j < a.length) (h2 : j < b.length) (hd : a.drop (j + 1) = b.drop (j + 1)) (h : a.getD j 0 < b.getD j 0) : val a < val b := by
  rw [val_split a j h1, val_split b j h2, hd]
  have h3 := val_take_lt ha j
  have h4 : pw j * (a.getD j 0 + 1) ≤ pw j * b.getD j 0 := Nat.mul_le_mul_left _ h
  rw [Nat.mul_add, Nat.mul_one] at h4
  omega
theorem drop_eq_of {a b : List Nat} {j : Nat} (h1 : j < a.length) (h2 : j < b.length) (hd : a.drop (j + 1) = b.drop (j + 1)) (h : a.getD j 0 = b.getD j 0) : a.drop j = b.drop j := by
  rw [List.drop_eq_getElem_cons h1, List.drop_eq_getElem_cons h2, hd]
  congr 1
  rw [List.getD_eq_getElem?_getD, List.getD_eq_getElem?_getD, List.getElem?_eq_getElem h1, List.getElem?_eq_getElem h2] at h
  exact h

/-- No leading zero (at the end of the list). -/
def Canon (l : List Nat) : Prop := l.getLast? ≠ some 0

/-- The list without leading zeros (at its end). -/
def trimN : List Nat → Nat → Nat
  | _, 0 => 0
  | l, n + 1 => if l.getD n 0 = 0 then trimN l n else n + 1
def trimL (l : List Nat) : List Nat := l.take (trimN l l.length)

theorem trimN_step {l : List Nat} {k : Nat} (hk : 0 < k) (h : l.getD (k - 1) 0 = 0) : trimN l k = trimN l (k - 1) := by
  obtain ⟨n, rfl⟩ : ∃ n, k = n + 1 := ⟨k - 1, by omega⟩
  simp only [trimN, Nat.add_sub_cancel] at *
  rw [if_pos h]
theorem trimN_stop {l : List Nat} {k : Nat} (hk : 0 < k) (h : l.getD (k - 1) 0 ≠ 0) : trimN l k = k := by
  obtain ⟨n, rfl⟩ : ∃ n, k = n + 1 := ⟨k - 1, by omega⟩
  simp only [trimN, Nat.add_sub_cancel] at *
  rw [if_neg h]
theorem trimN_le (l : List Nat) (n : Nat) : trimN l n ≤ n := by
  induction n with
  | zero => simp [trimN]
  | succ n ih => simp only [trimN]; split <;> omega
theorem trimN_nz (l : List Nat) (n : Nat) : trimN l n = 0 ∨ l.getD (trimN l n - 1) 0 ≠ 0 := by
  induction n with
  | zero => simp [trimN]
  | succ n ih => simp only [trimN]; split
                 · exact ih
                 · right; simpa using ‹_›
theorem trimN_val (l : List Nat) (n : Nat) : val (l.take (trimN l n)) = val (l.take n) := by
  induction n with
  | zero => simp [trimN]
  | succ n ih => simp only [trimN]; split
                 · rename_i h; rw [ih, val_take_succ, h]; simp
                 · rfl
theorem trimN_ge {l : List Nat} {n k : Nat} (hk : k ≤ n) (h : k = 0 ∨ l.getD (k - 1) 0 ≠ 0) : k ≤ trimN l n := by
  induction n with
  | zero => omega
  | succ n ih =>
    simp only [trimN]
    split
    · rename_i h0
      rcases Nat.lt_or_ge n k with h' | h'
      · have : k = n + 1 := by omega
        subst this
        rcases h with h | h
        · omega
        · exact absurd (by simpa using h0) h
      · exact ih h'
    · exact hk
theorem val_trimL (l : List Nat) : val (trimL l) = val l := by
  unfold trimL; rw [trimN_val, List.take_length]
theorem trimL_length (l : List Nat) : (trimL l).length = trimN l l.length := by
  unfold trimL; rw [List.length_take]; exact Nat.min_eq_left (trimN_le _ _)
theorem getLast?_take {l : List Nat} {n : Nat} (h : n + 1 ≤ l.length) : (l.take (n + 1)).getLast? = some (l.getD n 0) := by
  rw [take_snoc' l n (by omega)]; simp
theorem canon_take {l : List Nat} {n : Nat} (hn : n ≤ l.length) (h : n = 0 ∨ l.getD (n - 1) 0 ≠ 0) : Canon (l.take n) := by
  unfold Canon
  cases n with
  | zero => simp
  | succ n =>
    rw [getLast?_take hn]
    rcases h with h | h
    · omega
    · simpa using h
theorem canon_trimL (l : List Nat) : Canon (trimL l) := canon_take (trimN_le _ _) (trimN_nz _ _)
theorem Dig.trimL {l : List Nat} (h : Dig l) : Dig (trimL l) := h.take _
theorem Canon.nil : Canon [] := by simp [Canon]
theorem canon_iff (l : List Nat) : Canon l ↔ l.length = 0 ∨ l.getD (l.length - 1) 0 ≠ 0 := by
  unfold Canon
  cases hl : l.length with
  | zero => simp [List.eq_nil_of_length_eq_zero hl]
  | succ n =>
    have := getLast?_take (l := l) (n := n) (by omega)
    rw [← hl, List.take_length] at this
    rw [this]
    simp
theorem trimN_canon {l : List Nat} (h : Canon l) : trimN l l.length = l.length := by
  have h1 := trimN_le l l.length
  have h2 := trimN_ge (l := l) (n := l.length) (k := l.length) (Nat.le_refl _) ((canon_iff l).1 h)
  omega
theorem trimL_canon {l : List Nat} (h : Canon l) : trimL l = l := by
  unfold trimL; rw [trimN_canon h, List.take_length]
theorem canon_of_trimN {l : List Nat} (h : trimN l l.length = l.length) : Canon l := by
  have := canon_trimL l
  unfold trimL at this
  rwa [h, List.take_length] at this

/-- The top digit of a canonical list is not zero, so its value is at least the power below its length. -/
theorem canon_ge {l : List Nat} (h : Canon l) (hl : l ≠ []) : pw (l.length - 1) ≤ val l := by
  have h0 : l.length ≠ 0 := fun e => hl (List.eq_nil_of_length_eq_zero e)
  have hz : l.getD (l.length - 1) 0 ≠ 0 := by
    rcases (canon_iff l).1 h with h1 | h1
    · exact absurd h1 h0
    · exact h1
  have e : val l = val (l.take (l.length - 1 + 1)) := by rw [List.take_of_length_le (by omega)]
  rw [e, val_take_succ]
  have : pw (l.length - 1) * 1 ≤ pw (l.length - 1) * l.getD (l.length - 1) 0 := Nat.mul_le_mul_left _ (by omega)
  omega

theorem val_lt_of_len {a b : List Nat} (ha : Dig a) (hb : Canon b) (h : a.length < b.length) : val a < val b := by
  have h1 := val_lt ha
  have h2 := pw_mono (show a.length ≤ b.length - 1 by omega)
  have h3 := canon_ge hb (by intro e; subst e; simp at h)
  omega

/-- l is the list of the digits of n. -/
def NatIs (l : List Nat) (n : Nat) : Prop := Dig l ∧ Canon l ∧ val l = n

theorem NatIs.dig {l : List Nat} {n : Nat} (h : NatIs l n) : Dig l := h.1
theorem NatIs.canon {l : List Nat} {n : Nat} (h : NatIs l n) : Canon l := h.2.1
theorem NatIs.val {l : List Nat} {n : Nat} (h : NatIs l n) : val l = n := h.2.2
theorem NatIs.nil : NatIs [] 0 := ⟨Dig.nil, Canon.nil, rfl⟩
theorem natIs_trimL {l : List Nat} (h : Dig l) : NatIs (trimL l) (val l) := ⟨h.trimL, canon_trimL l, val_trimL l⟩
theorem length_le_of_lt {l : List Nat} {k : Nat} (hc : Canon l) (h : val l < pw k) : l.length ≤ k := by
  by_cases hn : l = []
  · subst hn; simp
  · have h1 := canon_ge hc hn
    rcases Nat.lt_or_ge k l.length with h2 | h2
    · have := pw_mono (show k ≤ l.length - 1 by omega)
      omega
    · exact h2
theorem NatIs.len_eq {a b : List Nat} {n : Nat} (ha : NatIs a n) (hb : NatIs b n) : a.length = b.length := by
  have h1 := length_le_of_lt (k := b.length) ha.canon (by rw [ha.val, ← hb.val]; exact val_lt hb.dig)
  have h2 := length_le_of_lt (k := a.length) hb.canon (by rw [hb.val, ← ha.val]; exact val_lt ha.dig)
  omega
theorem NatIs.uniq {a b : List Nat} {n : Nat} (ha : NatIs a n) (hb : NatIs b n) : a = b :=
  val_inj ha.dig hb.dig (ha.len_eq hb) (by rw [ha.val, hb.val])
theorem NatIs.zero_iff {l : List Nat} {n : Nat} (h : NatIs l n) : l = [] ↔ n = 0 := by
  constructor
  · rintro rfl; exact h.val.symm
  · rintro rfl; exact h.uniq NatIs.nil
theorem NatIs.pos {l : List Nat} {n : Nat} (h : NatIs l n) (hn : 0 < n) : 0 < l.length := by
  rcases Nat.eq_zero_or_pos l.length with h0 | h0
  · have := (h.zero_iff).1 (List.eq_nil_of_length_eq_zero h0)
    omega
  · exact h0

/-- The digits of a number. -/
def dg : Nat → Nat → List Nat
  | 0, _ => []
  | f + 1, n => if n = 0 then [] else n % 4294967296 :: dg f (n / 4294967296)
def digs (n : Nat) : List Nat := dg n n
theorem canon_cons {d : Nat} {l : List Nat} (h : Canon l) (hd : d ≠ 0 ∨ l ≠ []) : Canon (d :: l) := by
  unfold Canon at *
  cases l with
  | nil => simpa using hd
  | cons x l => simpa [List.getLast?_cons_cons] using h
theorem natIs_dg : ∀ (f n : Nat), n ≤ f → NatIs (dg f n) n
  | 0, n, h => by
    have : n = 0 := by omega
    subst this; exact NatIs.nil
  | f + 1, n, h => by
    simp only [dg]
    split
    · rename_i h0; subst h0; exact NatIs.nil
    · have ih := natIs_dg f (n / 4294967296) (by omega)
      refine ⟨Dig.cons (Nat.mod_lt _ (by omega)) ih.dig, canon_cons ih.canon ?_, ?_⟩
      · by_cases hq : n / 4294967296 = 0
        · left; omega
        · right; intro e; exact hq ((ih.zero_iff).1 e)
      · simp only [Plain.val, ih.val]; omega
theorem natIs_digs (n : Nat) : NatIs (digs n) n := natIs_dg n n (Nat.le_refl _)
theorem NatIs.eq_digs {l : List Nat} {n : Nat} (h : NatIs l n) : l = digs n := h.uniq (natIs_digs n)
theorem digs_len {n k : Nat} (h : n < pw k) : (digs n).length ≤ k := length_le_of_lt (natIs_digs n).canon (by rw [(natIs_digs n).val]; exact h)

/-- The sign of a comparison. -/
def cmpI (m n : Nat) : Int := if m < n then -1 else if n < m then 1 else 0
theorem cmpI_lt {m n : Nat} (h : m < n) : cmpI m n = -1 := if_pos h
theorem cmpI_gt {m n : Nat} (h : n < m) : cmpI m n = 1 := by unfold cmpI; rw [if_neg (by omega), if_pos h]
theorem cmpI_eq {m n : Nat} (h : m = n) : cmpI m n = 0 := by unfold cmpI; rw [if_neg (by omega), if_neg (by omega)]
theorem cmpI_bd (m n : Nat) : -1 ≤ cmpI m n ∧ cmpI m n ≤ 1 := by
  unfold cmpI
  split
  · omega
  · split <;> omega
theorem cmpI_neg_iff (m n : Nat) : cmpI m n < 0 ↔ m < n := by
  unfold cmpI
  split
  · omega
  · split <;> omega

end Go.Proofs.Ytkjmliebkbbogaa.Plain
/- Fractions as rational numbers: plain arithmetic. No program in sight. -/
namespace Go.Proofs.Ytkjmliebkbbogaa.Plain
set_option linter.unusedVariables false
set_option linter.unusedSimpArgs false

/-- A natural number with a sign. -/
def sg (neg : Bool) (n : Nat) : Int := if neg = true then -(n : Int) else (n : Int)
theorem sg_natAbs (neg : Bool) (n : Nat) : (sg neg n).natAbs = n := by
  unfold sg; split <;> simp
theorem sg_div {neg : Bool} {n g : Nat} (h : g ∣ n) : sg neg n / (g : Int) = sg neg (n / g) := by
  unfold sg
  split
  · rw [Int.neg_ediv_of_dvd (Int.natCast_dvd_natCast.2 h)]
    simp
  · simp
theorem sg_neg {neg : Bool} {n : Nat} : sg neg n < 0 ↔ neg = true ∧ 0 < n := by
  unfold sg
  split <;> rename_i h
  · simp [h]
    try omega
  · simp [h]
    try omega
theorem sg_zero {neg : Bool} {n : Nat} : sg neg n = 0 ↔ n = 0 := by
  unfold sg; split <;> omega
theorem sg_of (z : Int) : sg (decide (z < 0)) z.natAbs = z := by
  unfold sg
  by_cases h : z < 0
  · simp [h]; omega
  · simp [h]; omega
theorem sg_not (neg : Bool) (n : Nat) : sg (!neg) n = -sg neg n := by
  unfold sg; cases neg <;> simp
theorem sg_add (neg : Bool) (a b : Nat) : sg neg (a + b) = sg neg a + sg neg b := by
  unfold sg; cases neg <;> simp <;> omega
theorem sg_mul (p q : Bool) (a b : Nat) : sg p a * sg q b = sg (p != q) (a * b) := by
  unfold sg; cases p <;> cases q <;> simp [Int.mul_neg, Int.neg_mul]

/-- The lists are the parts of the rational number q in lowest terms. -/
def QIs (neg : Bool) (la lb : List Nat) (q : Rat) : Prop := NatIs la q.num.natAbs ∧ NatIs lb q.den ∧ neg = decide (q.num < 0)
theorem QIs.num {neg : Bool} {la lb : List Nat} {q : Rat} (h : QIs neg la lb q) : sg neg (val la) = q.num := by
  rw [h.2.2, h.1.val, sg_of]
theorem QIs.den {neg : Bool} {la lb : List Nat} {q : Rat} (h : QIs neg la lb q) : val lb = q.den := h.2.1.val
theorem QIs.na {neg : Bool} {la lb : List Nat} {q : Rat} (h : QIs neg la lb q) : NatIs la q.num.natAbs := h.1
theorem QIs.nb {neg : Bool} {la lb : List Nat} {q : Rat} (h : QIs neg la lb q) : NatIs lb q.den := h.2.1
theorem QIs.uniq {neg neg' : Bool} {la lb la' lb' : List Nat} {q : Rat} (h : QIs neg la lb q) (h' : QIs neg' la' lb' q) : neg = neg' ∧ la = la' ∧ lb = lb' :=
  ⟨h.2.2.trans h'.2.2.symm, h.1.uniq h'.1, h.2.1.uniq h'.2.1⟩
theorem QIs.inj {neg : Bool} {la lb : List Nat} {q r : Rat} (h : QIs neg la lb q) (h' : QIs neg la lb r) : q = r :=
  Rat.ext (h.num.symm.trans h'.num) (h.den.symm.trans h'.den)
theorem QIs.mk {neg : Bool} {la lb : List Nat} {q : Rat} (h : QIs neg la lb q) : q = mkRat (sg neg (val la)) (val lb) := by
  rw [h.num, h.den, Rat.mkRat_self]
/-- The quotient of two numbers, divided by their greatest common divisor. -/
theorem make_q (neg : Bool) (n : Nat) {d : Nat} (hd : d ≠ 0) : (mkRat (sg neg n) d).num.natAbs = n / Nat.gcd n d ∧ (mkRat (sg neg n) d).den = d / Nat.gcd n d ∧ decide ((mkRat (sg neg n) d).num < 0) = (neg && decide (0 < n / Nat.gcd n d)) := by
  have hn : (mkRat (sg neg n) d).num = sg neg (n / Nat.gcd n d) := by
    rw [Rat.num_mkRat, if_neg hd, sg_natAbs, Nat.gcd_comm d n, sg_div (Nat.gcd_dvd_left n d)]
  refine ⟨by rw [hn, sg_natAbs], ?_, ?_⟩
  · rw [Rat.den_mkRat, if_neg hd, sg_natAbs, Nat.gcd_comm d n]
  · rw [hn, Bool.eq_iff_iff, decide_eq_true_eq, sg_neg, Bool.and_eq_true, decide_eq_true_eq]
theorem qIs_make {neg neg' : Bool} {n d : Nat} {la lb : List Nat} (hd : d ≠ 0) (ha : NatIs la (n / Nat.gcd n d)) (hb : NatIs lb (d / Nat.gcd n d)) (hn : neg' = (neg && decide (0 < n / Nat.gcd n d))) : QIs neg' la lb (mkRat (sg neg n) d) := by
  obtain ⟨h1, h2, h3⟩ := make_q neg n hd
  exact ⟨by rw [h1]; exact ha, by rw [h2]; exact hb, by rw [h3]; exact hn⟩
/-- A valid fraction is a rational number. -/
theorem qIs_valid {neg : Bool} {la lb : List Nat} (ha : NatIs la (val la)) (hb : NatIs lb (val lb)) (h0 : lb ≠ []) (hz : ¬ (neg = true ∧ la = [])) (hg : Nat.gcd (val la) (val lb) = 1) : QIs neg la lb (mkRat (sg neg (val la)) (val lb)) := by
  have hd : val lb ≠ 0 := fun e => h0 (by rw [e] at hb; exact hb.uniq NatIs.nil)
  refine qIs_make hd (by rw [hg, Nat.div_one]; exact ha) (by rw [hg, Nat.div_one]; exact hb) ?_
  rw [hg, Nat.div_one]
  cases neg with
  | false => rfl
  | true =>
    have : val la ≠ 0 := fun e => hz ⟨rfl, by rw [e] at ha; exact ha.uniq NatIs.nil⟩
    simp; omega
theorem QIs.ne {neg : Bool} {la lb : List Nat} {q : Rat} (h : QIs neg la lb q) : lb ≠ [] := fun e => by
  have := h.nb
  rw [e] at this
  exact q.den_nz this.val.symm
theorem QIs.gcd {neg : Bool} {la lb : List Nat} {q : Rat} (h : QIs neg la lb q) : Nat.gcd (val la) (val lb) = 1 := by
  rw [h.na.val, h.nb.val]; exact q.reduced
theorem QIs.sign {neg : Bool} {la lb : List Nat} {q : Rat} (h : QIs neg la lb q) : ¬ (neg = true ∧ la = []) := fun ⟨h1, h2⟩ => by
  have h3 := h.2.2
  rw [h1] at h3
  have h4 := h.na
  rw [h2] at h4
  have h5 : q.num.natAbs = 0 := h4.val.symm
  have : q.num < 0 := of_decide_eq_true h3.symm
  omega

/-- Few digits. -/
def Fits (k : Nat) (q : Rat) : Prop := q.num.natAbs < pw k ∧ q.den < pw k
theorem Fits.mono {j k : Nat} {q : Rat} (h : Fits j q) (hk : j ≤ k) : Fits k q := ⟨Nat.lt_of_lt_of_le h.1 (pw_mono hk), Nat.lt_of_lt_of_le h.2 (pw_mono hk)⟩
theorem fits_mk {k d : Nat} {z : Int} (hz : z.natAbs < pw k) (hd : d < pw k) (hk : 0 < k := by omega) : Fits k (mkRat z d) := by
  by_cases h0 : d = 0
  · subst h0
    simp only [Rat.mkRat_zero, Fits, Rat.zero_num, Rat.zero_den]
    have := pw_mono (a := 1) (b := k) hk
    simp only [pw_one] at this
    exact ⟨by omega, by omega⟩
  · have h1 := make_q (decide (z < 0)) z.natAbs h0
    rw [sg_of] at h1
    exact ⟨by rw [h1.1]; exact Nat.lt_of_le_of_lt (Nat.div_le_self _ _) hz, by rw [h1.2.1]; exact Nat.lt_of_le_of_lt (Nat.div_le_self _ _) hd⟩
theorem mul_lt_pw {j k m n : Nat} (h1 : m < pw j) (h2 : n < pw k) : m * n < pw (j + k) := by
  rw [pw_add]
  exact Nat.mul_lt_mul'' h1 h2
theorem Fits.pos {k : Nat} {q : Rat} (h : Fits k q) : 0 < k := by
  rcases Nat.eq_zero_or_pos k with h0 | h0
  · subst h0
    have h1 := h.2
    have h2 := Nat.pos_of_ne_zero q.den_nz
    simp only [pw] at h1
    omega
  · exact h0
theorem add_lt_pw {k m n : Nat} (h1 : m < pw k) (h2 : n < pw k) : m + n < pw (k + 1) := by
  simp only [pw]
  omega
theorem Fits.add {j k : Nat} {p q : Rat} (hp : Fits j p) (hq : Fits k q) : Fits (j + k + 1) (p + q) := by
  rw [Rat.add_def']
  refine fits_mk ?_ (Nat.lt_of_lt_of_le (mul_lt_pw hp.2 hq.2) (pw_mono (by omega)))
  have h1 : (p.num * (q.den : Int)).natAbs < pw (j + k) := by rw [Int.natAbs_mul]; exact mul_lt_pw hp.1 hq.2
  have h2 : (q.num * (p.den : Int)).natAbs < pw (j + k) := by rw [Int.natAbs_mul, Nat.add_comm]; exact mul_lt_pw hq.1 hp.2
  exact Nat.lt_of_le_of_lt (Int.natAbs_add_le _ _) (add_lt_pw h1 h2)
theorem Fits.neg {k : Nat} {q : Rat} (h : Fits k q) : Fits k (-q) := ⟨by rw [Rat.neg_num, Int.natAbs_neg]; exact h.1, h.2⟩
theorem Fits.sub {j k : Nat} {p q : Rat} (hp : Fits j p) (hq : Fits k q) : Fits (j + k + 1) (p - q) := by
  rw [Rat.sub_eq_add_neg]; exact hp.add hq.neg
theorem Fits.mul {j k : Nat} {p q : Rat} (hp : Fits j p) (hq : Fits k q) : Fits (j + k) (p * q) := by
  rw [Rat.mul_def']
  have := hp.pos
  exact fits_mk (by rw [Int.natAbs_mul]; exact mul_lt_pw hp.1 hq.1) (mul_lt_pw hp.2 hq.2)
theorem Fits.zero {k : Nat} (h : 0 < k) : Fits k 0 := by
  have := pw_mono (a := 1) (b := k) h
  simp only [pw_one] at this
  exact ⟨by simp; omega, by simp; omega⟩

/-! The operations as the program computes them. -/
section
variable {n1 n2 : Bool} {a1 b1 a2 b2 : List Nat} {p q : Rat}
theorem sg_mulNat (neg : Bool) (a b : Nat) : sg neg (a * b) = sg neg a * (b : Int) := by
  unfold sg; split <;> simp [Int.neg_mul]
theorem q_add (h1 : QIs n1 a1 b1 p) (h2 : QIs n1 a2 b2 q) : mkRat (sg n1 (val a1 * val b2 + val a2 * val b1)) (val b1 * val b2) = p + q := by
  rw [sg_add, sg_mulNat, sg_mulNat, h1.num, h2.num, h1.den, h2.den, Rat.add_def']
theorem q_sub1 (h1 : QIs n1 a1 b1 p) (h2 : QIs n2 a2 b2 q) (hn : n1 ≠ n2) (hle : val a2 * val b1 ≤ val a1 * val b2) : mkRat (sg n1 (val a1 * val b2 - val a2 * val b1)) (val b1 * val b2) = p + q := by
  have e : sg n1 (val a1 * val b2 - val a2 * val b1) = sg n1 (val a1 * val b2) + sg n2 (val a2 * val b1) := by
    unfold sg
    cases n1 <;> cases n2 <;> simp at hn ⊢ <;> omega
  rw [e, sg_mulNat, sg_mulNat, h1.num, h2.num, h1.den, h2.den, Rat.add_def']
theorem q_sub2 (h1 : QIs n1 a1 b1 p) (h2 : QIs n2 a2 b2 q) (hn : n1 ≠ n2) (hle : val a1 * val b2 ≤ val a2 * val b1) : mkRat (sg n2 (val a2 * val b1 - val a1 * val b2)) (val b1 * val b2) = p + q := by
  have e : sg n2 (val a2 * val b1 - val a1 * val b2) = sg n1 (val a1 * val b2) + sg n2 (val a2 * val b1) := by
    unfold sg
    cases n1 <;> cases n2 <;> simp at hn ⊢ <;> omega
  rw [e, sg_mulNat, sg_mulNat, h1.num, h2.num, h1.den, h2.den, Rat.add_def']
theorem q_mul (h1 : QIs n1 a1 b1 p) (h2 : QIs n2 a2 b2 q) : mkRat (sg (n1 != n2) (val a1 * val a2)) (val b1 * val b2) = p * q := by
  rw [← sg_mul, h1.num, h2.num, h1.den, h2.den, Rat.mul_def']
theorem q_neg (h1 : QIs n1 a1 b1 p) : mkRat (sg (!n1) (val a1)) (val b1) = -p := by
  rw [sg_not, h1.num, h1.den, ← Rat.neg_mkRat, Rat.mkRat_self]
theorem q_div (h1 : QIs n1 a1 b1 p) (h2 : QIs n2 a2 b2 q) (h0 : q ≠ 0) : mkRat (sg (n1 != n2) (val a1 * val b2)) (val b1 * val a2) = p / q := by
  have hq : q.num ≠ 0 := fun e => h0 (Rat.num_eq_zero.1 e)
  have e1 : q⁻¹ = mkRat (sg n2 (val b2)) (val a2) := by
    rw [Rat.inv_def, h2.den, h2.na.val]
    have e : q.num = sg n2 q.num.natAbs := by rw [h2.2.2, sg_of]
    by_cases hneg : q.num < 0
    · have hn : n2 = true := by rw [h2.2.2]; simpa using hneg
      rw [hn] at e ⊢
      unfold sg at e ⊢
      simp at e ⊢
      rw [← Rat.neg_divInt_neg, show -q.num = (q.num.natAbs : Int) by omega, Rat.divInt_ofNat]
    · have hn : n2 = false := by rw [h2.2.2]; simpa using hneg
      rw [hn]
      unfold sg
      simp
      rw [← Rat.divInt_ofNat, show ((q.num.natAbs : Nat) : Int) = q.num by omega]
  rw [Rat.div_def, e1, h1.mk, Rat.mkRat_mul_mkRat, sg_mul]
theorem q_zero (h : QIs n1 a1 b1 p) : a1 = [] ↔ p = 0 := by
  rw [h.na.zero_iff, Int.natAbs_eq_zero, Rat.num_eq_zero]
end
/-- The comparison of two rational numbers. -/
def cmpR (p q : Rat) : Int := if p < q then -1 else if q < p then 1 else 0
def signR (p : Rat) : Int := if p.num < 0 then -1 else if p.num = 0 then 0 else 1
theorem cmpR_bd (p q : Rat) : -1 ≤ cmpR p q ∧ cmpR p q ≤ 1 := by
  unfold cmpR
  split
  · omega
  · split <;> omega
theorem signR_eq (p : Rat) : signR p = cmpR p 0 := by
  have e1 : p < 0 ↔ p.num < 0 := by rw [Rat.lt_iff]; simp
  have e2 : 0 < p ↔ 0 < p.num := by rw [Rat.lt_iff]; simp
  unfold signR cmpR
  simp only [e1, e2]
  by_cases h1 : p.num < 0
  · rw [if_pos h1, if_pos h1]
  · by_cases h2 : p.num = 0
    · rw [if_neg h1, if_pos h2, if_neg h1, if_neg (by omega)]
    · rw [if_neg h1, if_neg h2, if_neg h1, if_pos (by omega)]
theorem cmpR_sub (p q : Rat) : cmpR (p - q) 0 = cmpR p q := by
  unfold cmpR
  have h1 : p - q < 0 ↔ p < q := by grind
  have h2 : 0 < p - q ↔ q < p := by grind
  simp only [h1, h2]
theorem cmpR_zero {p q : Rat} : cmpR p q = 0 ↔ p = q := by
  unfold cmpR
  constructor
  · intro h
    split at h
    · omega
    · split at h
      · omega
      · grind
  · rintro rfl
    rw [if_neg Rat.lt_irrefl, if_neg Rat.lt_irrefl]
theorem cmpR_neg {p q : Rat} : cmpR p q < 0 ↔ p < q := by
  unfold cmpR
  split
  · simp_all
  · split <;> simp_all
theorem cmpR_pos {p q : Rat} : 0 < cmpR p q ↔ q < p := by
  unfold cmpR
  split
  · rename_i h
    constructor
    · omega
    · intro h2; exact absurd (Rat.not_le.2 h2) (by simpa using Rat.le_of_lt h)
  · split <;> simp_all
section
variable {n1 n2 : Bool} {a1 b1 a2 b2 : List Nat} {p q : Rat}
theorem q_cmp_pos (h1 : QIs n1 a1 b1 p) (h2 : QIs n2 a2 b2 q) (hn : n1 = false) (hm : n2 = false) : cmpI (val a1 * val b2) (val a2 * val b1) = cmpR p q := by
  have e1 := h1.num
  have e2 := h2.num
  rw [hn] at e1
  rw [hm] at e2
  unfold cmpI cmpR
  simp only [Rat.lt_iff, ← e1, ← e2, h1.den.symm, h2.den.symm, sg]
  simp only [Bool.false_eq_true, if_false]
  have c1 : ((val a1 : Int) * (val b2 : Int) < (val a2 : Int) * (val b1 : Int)) ↔ val a1 * val b2 < val a2 * val b1 := by
    rw [← Int.natCast_mul, ← Int.natCast_mul]; omega
  have c2 : ((val a2 : Int) * (val b1 : Int) < (val a1 : Int) * (val b2 : Int)) ↔ val a2 * val b1 < val a1 * val b2 := by
    rw [← Int.natCast_mul, ← Int.natCast_mul]; omega
  simp only [c1, c2]
theorem q_cmp_neg (h1 : QIs n1 a1 b1 p) (h2 : QIs n2 a2 b2 q) (hn : n1 = true) (hm : n2 = true) : cmpI (val a2 * val b1) (val a1 * val b2) = cmpR p q := by
  have e1 := h1.num
  have e2 := h2.num
  rw [hn] at e1
  rw [hm] at e2
  unfold cmpI cmpR
  simp only [Rat.lt_iff, ← e1, ← e2, h1.den.symm, h2.den.symm, sg]
  simp only [if_true, Int.neg_mul]
  have c1 : (-((val a1 : Int) * (val b2 : Int)) < -((val a2 : Int) * (val b1 : Int))) ↔ val a2 * val b1 < val a1 * val b2 := by
    rw [← Int.natCast_mul, ← Int.natCast_mul]; omega
  have c2 : (-((val a2 : Int) * (val b1 : Int)) < -((val a1 : Int) * (val b2 : Int))) ↔ val a1 * val b2 < val a2 * val b1 := by
    rw [← Int.natCast_mul, ← Int.natCast_mul]; omega
  simp only [c1, c2]
theorem q_lt_zero (h1 : QIs n1 a1 b1 p) : n1 = true ↔ p < 0 := by
  rw [h1.2.2, decide_eq_true_eq, Rat.lt_iff]
  simp
theorem q_cmp_np (h1 : QIs n1 a1 b1 p) (h2 : QIs n2 a2 b2 q) (hn : n1 = true) (hm : n2 = false) : cmpR p q = -1 := by
  have e1 := (q_lt_zero h1).1 hn
  have e2 : ¬ q < 0 := fun h => by rw [(q_lt_zero h2).2 h] at hm; cases hm
  unfold cmpR
  rw [if_pos (by grind)]
theorem q_cmp_pn (h1 : QIs n1 a1 b1 p) (h2 : QIs n2 a2 b2 q) (hn : n1 = false) (hm : n2 = true) : cmpR p q = 1 := by
  have e2 := (q_lt_zero h2).1 hm
  have e1 : ¬ p < 0 := fun h => by rw [(q_lt_zero h1).2 h] at hn; cases hn
  unfold cmpR
  rw [if_neg (by grind), if_pos (by grind)]
theorem q_sign (h1 : QIs n1 a1 b1 p) : cmpR p 0 = if a1 = [] then 0 else if n1 = true then -1 else 1 := by
  by_cases h0 : a1 = []
  · rw [if_pos h0, (q_zero h1).1 h0]
    exact cmpR_zero.2 rfl
  · rw [if_neg h0]
    have hp : p ≠ 0 := fun e => h0 ((q_zero h1).2 e)
    by_cases hn : n1 = true
    · rw [if_pos hn]
      unfold cmpR
      rw [if_pos ((q_lt_zero h1).1 hn)]
    · rw [if_neg hn]
      have : ¬ p < 0 := fun h => hn ((q_lt_zero h1).2 h)
      unfold cmpR
      rw [if_neg this, if_pos (by grind)]
end
end Go.Proofs.Ytkjmliebkbbogaa.Plain
/- One digit of a long division (Knuth's algorithm D): plain arithmetic. -/
namespace Go.Proofs.Ytkjmliebkbbogaa.Plain
set_option linter.unusedVariables false
set_option linter.unusedSimpArgs false

/-- The guess is never below the quotient digit: where it starts. -/
theorem guess_start (un u1 u2 v1 v2 w u' v' : Nat) (hu2 : u2 < 4294967296) (hu' : u' < w) (hv1 : 0 < v1) :
    (((un * 4294967296 + u1) * 4294967296 + u2) * w + u') / ((v1 * 4294967296 + v2) * w + v') ≤ (un * 4294967296 + u1) / v1 := by
  have hw : 0 < w := by omega
  have hV : 0 < (v1 * 4294967296 + v2) * w + v' := by
    have : 0 < (v1 * 4294967296 + v2) * w := Nat.mul_pos (by omega) hw
    omega
  rw [Nat.le_div_iff_mul_le hv1]
  generalize hq : (((un * 4294967296 + u1) * 4294967296 + u2) * w + u') / ((v1 * 4294967296 + v2) * w + v') = q
  have h1 : q * ((v1 * 4294967296 + v2) * w + v') ≤ ((un * 4294967296 + u1) * 4294967296 + u2) * w + u' := by
    rw [← hq]; exact Nat.div_mul_le_self _ _
  have h2 : q * v1 * (4294967296 * w) ≤ q * ((v1 * 4294967296 + v2) * w + v') := by
    have e : q * v1 * (4294967296 * w) = q * (v1 * 4294967296 * w) := by simp [Nat.mul_assoc]
    rw [e]
    apply Nat.mul_le_mul_left
    have : v1 * 4294967296 * w ≤ (v1 * 4294967296 + v2) * w := Nat.mul_le_mul_right _ (by omega)
    omega
  have h3 : ((un * 4294967296 + u1) * 4294967296 + u2) * w + u' < (un * 4294967296 + u1 + 1) * (4294967296 * w) := by
    have e : (un * 4294967296 + u1 + 1) * (4294967296 * w) = ((un * 4294967296 + u1) * 4294967296 + 4294967296) * w := by
      rw [← Nat.mul_assoc, Nat.add_mul (un * 4294967296 + u1) 1, Nat.one_mul]
    rw [e]
    have h4 : ((un * 4294967296 + u1) * 4294967296 + u2 + 1) * w ≤ ((un * 4294967296 + u1) * 4294967296 + 4294967296) * w := Nat.mul_le_mul_right _ (by omega)
    have h5 : ((un * 4294967296 + u1) * 4294967296 + u2 + 1) * w = ((un * 4294967296 + u1) * 4294967296 + u2) * w + w := by rw [Nat.add_mul]; simp
    omega
  have h6 : q * v1 * (4294967296 * w) < (un * 4294967296 + u1 + 1) * (4294967296 * w) := by omega
  have h7 := Nat.lt_of_mul_lt_mul_right h6
  omega

/-- The two-digit test fails only above the quotient digit. -/
theorem guess_high (un u1 u2 v1 v2 w u' v' g : Nat) (hu' : u' < w)
    (h : (un * 4294967296 + u1) * 4294967296 + u2 < g * (v1 * 4294967296 + v2)) :
    (((un * 4294967296 + u1) * 4294967296 + u2) * w + u') / ((v1 * 4294967296 + v2) * w + v') < g := by
  have hw : 0 < w := by omega
  have hV : 0 < (v1 * 4294967296 + v2) * w + v' := by
    have h0 : v1 * 4294967296 + v2 ≠ 0 := by intro e; rw [e] at h; simp at h
    have : 0 < (v1 * 4294967296 + v2) * w := Nat.mul_pos (by omega) hw
    omega
  rw [Nat.div_lt_iff_lt_mul hV]
  have h1 : ((un * 4294967296 + u1) * 4294967296 + u2 + 1) * w ≤ g * (v1 * 4294967296 + v2) * w := Nat.mul_le_mul_right _ h
  have h2 : ((un * 4294967296 + u1) * 4294967296 + u2 + 1) * w = ((un * 4294967296 + u1) * 4294967296 + u2) * w + w := by rw [Nat.add_mul]; simp
  have h3 : g * ((v1 * 4294967296 + v2) * w + v') = g * (v1 * 4294967296 + v2) * w + g * v' := by rw [Nat.mul_add, Nat.mul_assoc]
  rw [h3]
  refine Nat.lt_of_lt_of_le ?_ (Nat.le_add_right _ _)
  refine Nat.lt_of_lt_of_le ?_ h1
  rw [h2]
  exact Nat.add_lt_add_left hu' _

/-- Where the two-digit test holds the guess is at most one too great. -/
theorem guess_low (un u1 u2 v1 v2 w u' v' g : Nat) (hv' : v' < w) (hg : g < 4294967296) (hv1 : 0 < v1)
    (h : g * (v1 * 4294967296 + v2) ≤ (un * 4294967296 + u1) * 4294967296 + u2) :
    g ≤ (((un * 4294967296 + u1) * 4294967296 + u2) * w + u') / ((v1 * 4294967296 + v2) * w + v') + 1 := by
  have hw : 0 < w := by omega
  have hVw : 4294967296 * w ≤ (v1 * 4294967296 + v2) * w := Nat.mul_le_mul_right _ (by omega)
  have hV : 0 < (v1 * 4294967296 + v2) * w + v' := by omega
  rcases Nat.eq_zero_or_pos g with h0 | h0
  · rw [h0]; exact Nat.zero_le _
  obtain ⟨p, rfl⟩ : ∃ p, g = p + 1 := ⟨g - 1, by omega⟩
  apply Nat.succ_le_succ
  rw [Nat.le_div_iff_mul_le hV]
  have h1 : (p + 1) * (v1 * 4294967296 + v2) * w ≤ ((un * 4294967296 + u1) * 4294967296 + u2) * w := Nat.mul_le_mul_right _ h
  have h2 : p * ((v1 * 4294967296 + v2) * w + v') = p * (v1 * 4294967296 + v2) * w + p * v' := by rw [Nat.mul_add, Nat.mul_assoc]
  have h3 : (p + 1) * (v1 * 4294967296 + v2) * w = p * (v1 * 4294967296 + v2) * w + (v1 * 4294967296 + v2) * w := by rw [Nat.add_mul, Nat.add_mul, Nat.one_mul]
  have h4 : p * v' ≤ 4294967296 * w := Nat.mul_le_mul (by omega) (by omega)
  omega

/-- What the guess of a digit works on. -/
structure GCtx (U V un u1 u2 v1 v2 w u' v' : Nat) : Prop where
  hU : U = ((un * 4294967296 + u1) * 4294967296 + u2) * w + u'
  hV : V = (v1 * 4294967296 + v2) * w + v'
  hu' : u' < w
  hv' : v' < w
  dun : un < 4294967296
  du1 : u1 < 4294967296
  du2 : u2 < 4294967296
  dv1 : v1 < 4294967296
  dv2 : v2 < 4294967296
  norm : 2147483648 ≤ v1
  lt : U < 4294967296 * V

structure GInv (U V un u1 v1 g r : Nat) : Prop where
  eq : g * v1 + r = un * 4294967296 + u1
  le : U / V ≤ g
  r : r < 4294967296
  g : g ≤ 4294967297

section
variable {U V un u1 u2 v1 v2 w u' v' g r : Nat}
theorem GCtx.pos (h : GCtx U V un u1 u2 v1 v2 w u' v') : 0 < V := by
  have h1 := h.lt
  rcases Nat.eq_zero_or_pos V with h0 | h0
  · rw [h0] at h1; omega
  · exact h0
theorem GCtx.q (h : GCtx U V un u1 u2 v1 v2 w u' v') : U / V < 4294967296 := by
  rw [Nat.div_lt_iff_lt_mul h.pos]; exact h.lt
theorem GCtx.un_le (h : GCtx U V un u1 u2 v1 v2 w u' v') : un ≤ v1 := by
  have h1 := h.lt
  have hw : 0 < w := by have := h.hu'; omega
  rcases Nat.lt_or_ge v1 un with hc | hc
  · exfalso
    have h2 : (v1 + 1) * (4294967296 * (4294967296 * w)) ≤ un * (4294967296 * (4294967296 * w)) := Nat.mul_le_mul_right _ hc
    have h3 : un * (4294967296 * (4294967296 * w)) ≤ U := by
      rw [h.hU]
      have e : un * (4294967296 * (4294967296 * w)) = un * 4294967296 * 4294967296 * w := by simp only [Nat.mul_assoc]
      rw [e]
      have : un * 4294967296 * 4294967296 * w ≤ ((un * 4294967296 + u1) * 4294967296 + u2) * w := Nat.mul_le_mul_right _ (by omega)
      exact Nat.le_trans this (Nat.le_add_right _ _)
    have h4 : V < (v1 + 1) * (4294967296 * w) := by
      rw [h.hV]
      have h5 := h.hv'
      have h6 := h.dv2
      have h7 : (v1 * 4294967296 + v2 + 1) * w ≤ (v1 + 1) * 4294967296 * w := Nat.mul_le_mul_right _ (by omega)
      rw [Nat.add_mul (v1 * 4294967296 + v2), Nat.one_mul] at h7
      rw [← Nat.mul_assoc]
      exact Nat.lt_of_lt_of_le (Nat.add_lt_add_left h5 _) h7
    have h5 : 4294967296 * V < 4294967296 * ((v1 + 1) * (4294967296 * w)) := Nat.mul_lt_mul_of_pos_left h4 (by omega)
    have e : 4294967296 * ((v1 + 1) * (4294967296 * w)) = (v1 + 1) * (4294967296 * (4294967296 * w)) := Nat.mul_left_comm _ _ _
    rw [e] at h5
    exact absurd (Nat.lt_of_lt_of_le h1 (Nat.le_of_lt h5)) (Nat.not_lt.2 (Nat.le_trans h2 h3))
  · exact hc
theorem GCtx.start (h : GCtx U V un u1 u2 v1 v2 w u' v') : GInv U V un u1 v1 ((un * 4294967296 + u1) / v1) ((un * 4294967296 + u1) % v1) := by
  have hn := h.norm
  have h1 := h.un_le
  have h2 := h.du1
  refine ⟨?_, ?_, Nat.lt_trans (Nat.mod_lt _ (by omega)) h.dv1, ?_⟩
  · rw [Nat.mul_comm]; exact Nat.div_add_mod _ _
  · rw [h.hU, h.hV]; exact guess_start un u1 u2 v1 v2 w u' v' h.du2 h.hu' (by omega)
  · apply Nat.le_of_lt_succ
    rw [Nat.div_lt_iff_lt_mul (by omega)]
    omega
/-- The test says that the guess is too great: the next one. -/
theorem GCtx.more (h : GCtx U V un u1 u2 v1 v2 w u' v') (i : GInv U V un u1 v1 g r) (t : 4294967296 ≤ g ∨ r * 4294967296 + u2 < g * v2) :
    1 ≤ g ∧ U / V ≤ g - 1 ∧ (g - 1) * v1 + (r + v1) = un * 4294967296 + u1 := by
  have hq := h.q
  have he := i.eq
  have hg : U / V < g := by
    rcases t with t | t
    · omega
    · rw [h.hU, h.hV]
      refine guess_high un u1 u2 v1 v2 w u' v' g h.hu' ?_
      have e : g * (v1 * 4294967296 + v2) = g * v1 * 4294967296 + g * v2 := by rw [Nat.mul_add, Nat.mul_assoc]
      rw [e, ← he]
      clear e he hq i h
      generalize g * v1 = a at *
      generalize g * v2 = b at *
      rw [Nat.mul_comm r] at t
      rw [Nat.mul_comm (a + r), Nat.mul_comm a]
      omega
  have h1 : 1 ≤ g := Nat.lt_of_le_of_lt (Nat.zero_le _) hg
  refine ⟨h1, Nat.le_sub_one_of_lt hg, ?_⟩
  obtain ⟨p, rfl⟩ : ∃ p, g = p + 1 := ⟨g - 1, by omega⟩
  rw [Nat.add_mul, Nat.one_mul] at he
  rw [Nat.add_sub_cancel]
  omega
theorem GCtx.next (i : GInv U V un u1 v1 g r) (m : 1 ≤ g ∧ U / V ≤ g - 1 ∧ (g - 1) * v1 + (r + v1) = un * 4294967296 + u1) (hr : r + v1 < 4294967296) : GInv U V un u1 v1 (g - 1) (r + v1) :=
  ⟨m.2.2, m.2.1, hr, by have := i.g; omega⟩
theorem GCtx.done (h : GCtx U V un u1 u2 v1 v2 w u' v') (i : GInv U V un u1 v1 g r) (hg : g < 4294967296) (t : g * v2 ≤ r * 4294967296 + u2) : U / V ≤ g ∧ g ≤ U / V + 1 ∧ g < 4294967296 := by
  refine ⟨i.le, ?_, hg⟩
  rw [h.hU, h.hV]
  have hn := h.norm
  refine guess_low un u1 u2 v1 v2 w u' v' g h.hv' hg (by omega) ?_
  have e : g * (v1 * 4294967296 + v2) = g * v1 * 4294967296 + g * v2 := by rw [Nat.mul_add, Nat.mul_assoc]
  rw [e, ← i.eq]
  clear e hn
  generalize g * v1 = a at *
  generalize g * v2 = b at *
  rw [Nat.mul_comm r] at t
  rw [Nat.mul_comm (a + r), Nat.mul_comm a]
  omega
theorem GCtx.stop (h : GCtx U V un u1 u2 v1 v2 w u' v') (m : 1 ≤ g ∧ U / V ≤ g - 1 ∧ (g - 1) * v1 + (r + v1) = un * 4294967296 + u1) (hr : 4294967296 ≤ r + v1) :
    U / V ≤ g - 1 ∧ g - 1 ≤ U / V + 1 ∧ g - 1 < 4294967296 := by
  obtain ⟨m1, m2, m3⟩ := m
  have hn := h.norm
  have h1 := h.un_le
  have h2 := h.du1
  have hlt : g - 1 < 4294967296 := by
    have h3 : (g - 1) * v1 < 4294967296 * v1 := by
      have : un * 4294967296 ≤ v1 * 4294967296 := Nat.mul_le_mul_right _ h1
      rw [Nat.mul_comm 4294967296 v1]
      omega
    exact Nat.lt_of_mul_lt_mul_right h3
  refine ⟨m2, ?_, hlt⟩
  rw [h.hU, h.hV]
  refine guess_low un u1 u2 v1 v2 w u' v' (g - 1) h.hv' hlt (by omega) ?_
  have e : (g - 1) * (v1 * 4294967296 + v2) = (g - 1) * v1 * 4294967296 + (g - 1) * v2 := by rw [Nat.mul_add, Nat.mul_assoc]
  rw [e, ← m3]
  have h4 : (g - 1) * v2 ≤ 4294967296 * 4294967296 := Nat.mul_le_mul (by omega) (by have := h.dv2; omega)
  have h5 : 4294967296 * 4294967296 ≤ (r + v1) * 4294967296 := Nat.mul_le_mul_right _ hr
  clear e m3 m2 h1 h2 hn hlt
  generalize (g - 1) * v1 = a at *
  generalize (g - 1) * v2 = b at *
  rw [Nat.mul_comm (r + v1)] at h5
  rw [Nat.mul_comm (a + (r + v1)), Nat.mul_comm a]
  omega
end

theorem pow_up {d s : Nat} (hs : s < 32) (h : d * 2 ^ s < 4294967296) : (d + 1) * 2 ^ s ≤ 4294967296 := by
  have e : 4294967296 = 2 ^ (32 - s) * 2 ^ s := by rw [← Nat.pow_add, show 32 - s + s = 32 by omega]
  rw [e] at h ⊢
  exact Nat.mul_le_mul_right _ (Nat.lt_of_mul_lt_mul_right h)

/-- The divisor, shifted so that its top bit is set. -/
theorem norm_of {l2 lv : List Nat} {n s d x : Nat} (hl : l2.length = n) (hn : 2 ≤ n) (hd : Dig l2) (ht : l2.getD (n - 1) 0 = d) (hs : s < 32) (hx : x = d * 2 ^ s) (hx1 : 2147483648 ≤ x) (hx2 : x < 4294967296) (hv : NatIs lv (val l2 * 2 ^ s)) :
    lv.length = n ∧ 2147483648 ≤ lv.getD (n - 1) 0 := by
  obtain ⟨m, rfl⟩ : ∃ m, n = m + 1 := ⟨n - 1, by omega⟩
  rw [Nat.add_sub_cancel] at *
  have h1 : val l2 = val (l2.take m) + pw m * d := by rw [← val_take_ge l2 (m + 1) (by omega), val_take_succ, ht]
  have h2 := val_take_lt hd m
  have h3 : val l2 < pw m * (d + 1) := by rw [Nat.mul_add, Nat.mul_one]; omega
  have h4 : val l2 * 2 ^ s < pw (m + 1) := by
    have h5 : val l2 * 2 ^ s < pw m * (d + 1) * 2 ^ s := Nat.mul_lt_mul_of_pos_right h3 (Nat.two_pow_pos s)
    have h6 : pw m * ((d + 1) * 2 ^ s) ≤ pw m * 4294967296 := Nat.mul_le_mul_left _ (pow_up hs (by rw [← hx]; exact hx2))
    rw [← Nat.mul_assoc, Nat.mul_comm (pw m) 4294967296] at h6
    exact Nat.lt_of_lt_of_le h5 h6
  have h7 : pw m * x ≤ val l2 * 2 ^ s := by
    rw [h1, hx, ← Nat.mul_assoc]
    exact Nat.mul_le_mul_right _ (Nat.le_add_left _ _)
  have h8 : pw m * 2147483648 ≤ val lv := by
    rw [hv.val]
    exact Nat.le_trans (Nat.mul_le_mul_left _ hx1) h7
  have h9 := length_le_of_lt (k := m + 1) hv.canon (by rw [hv.val]; exact h4)
  have h10 : lv.length = m + 1 := by
    rcases Nat.lt_or_ge m lv.length with h | h
    · omega
    · have h11 := val_lt hv.dig
      have h12 := pw_mono h
      have h13 : pw m * 1 ≤ pw m * 2147483648 := Nat.mul_le_mul_left _ (by omega)
      omega
  refine ⟨h10, ?_⟩
  have h14 : val lv = val (lv.take m) + pw m * lv.getD m 0 := by rw [← val_take_ge lv (m + 1) (by omega), val_take_succ]
  have h15 := val_take_lt hv.dig m
  have h16 : pw m * 2147483648 < pw m * (lv.getD m 0 + 1) := by rw [Nat.mul_add, Nat.mul_one]; omega
  have := Nat.lt_of_mul_lt_mul_left h16
  omega

theorem div_start {l1 l2 lu : List Nat} {n m s V : Nat} (h1 : Dig l1) (h2 : Canon l2) (hn : l2.length = n) (hn2 : 2 ≤ n) (hm : l1.length = m + n) (hlu : val lu = val l1 * 2 ^ s) (hll : lu.length = m + n + 1) (hV : V = val l2 * 2 ^ s) : val (lu.drop (m + 1)) < V := by
  have h3 := val_take_drop lu (m + 1) (by omega)
  have h4 := val_lt h1
  have h5 := canon_ge h2 (by intro e; subst e; simp at hn; omega)
  have h6 : pw (m + 1) * val (lu.drop (m + 1)) < pw (m + 1) * V := by
    have h7 : val l1 * 2 ^ s < pw (m + n) * 2 ^ s := Nat.mul_lt_mul_of_pos_right (by rw [← hm]; exact h4) (Nat.two_pow_pos s)
    have h8 : pw (m + n) * 2 ^ s = pw (m + 1) * (pw (n - 1) * 2 ^ s) := by rw [← Nat.mul_assoc, ← pw_add, show m + 1 + (n - 1) = m + n by omega]
    have h9 : pw (m + 1) * (pw (n - 1) * 2 ^ s) ≤ pw (m + 1) * V := by
      rw [hV, ← hn]
      exact Nat.mul_le_mul_left _ (Nat.mul_le_mul_right _ h5)
    omega
  exact Nat.lt_of_mul_lt_mul_left h6

/-- One round of the long division, before the digit: the part that it works on, and what is above it. -/
theorem div_mid {us : List Nat} {n j V : Nat} (hd : Dig us) (hl : j + n + 1 ≤ us.length) (hV : V < pw n) (h : val (us.drop (j + 1)) < V) :
    val ((us.drop j).take (n + 1)) < 4294967296 * V ∧ val (us.drop (j + n + 1)) = 0 := by
  have h1 := val_drop us j (by omega)
  have h2 := hd.getD j
  have h3 : val (us.drop j) < 4294967296 * V := by omega
  have h4 := val_take_drop (us.drop j) (n + 1) (by rw [List.length_drop]; omega)
  rw [List.drop_drop] at h4
  have h5 : val (us.drop (j + (n + 1))) = 0 := by
    rcases Nat.eq_zero_or_pos (val (us.drop (j + (n + 1)))) with h0 | h0
    · exact h0
    · have h6 : pw (n + 1) * 1 ≤ pw (n + 1) * val (us.drop (j + (n + 1))) := Nat.mul_le_mul_left _ h0
      simp only [pw] at h6 h4
      omega
  rw [show j + n + 1 = j + (n + 1) by omega]
  refine ⟨?_, h5⟩
  rw [h5] at h4
  omega

theorem div_round {us mid' : List Nat} {n j V k : Nat} {qs : List Nat} {U : Nat} (hl : j + n + 1 ≤ us.length) (hpost : val (us.drop (j + n + 1)) = 0) (hm : val mid' = val ((us.drop j).take (n + 1)) % V) (hml : mid'.length = n + 1) (hk : k = j + 1)
    (hU : U = val us + V * (pw k * val qs)) : U = val (us.take j ++ mid' ++ us.drop (j + n + 1)) + V * (pw j * val (val ((us.drop j).take (n + 1)) / V :: qs)) ∧ val ((us.take j ++ mid' ++ us.drop (j + n + 1)).drop j) = val mid' := by
  have h1 := val_take_drop us j (by omega)
  have h2 := val_take_drop (us.drop j) (n + 1) (by rw [List.length_drop]; omega)
  rw [List.drop_drop, show j + (n + 1) = j + n + 1 by omega, hpost, Nat.mul_zero, Nat.add_zero] at h2
  have hj : (us.take j).length = j := by rw [List.length_take]; omega
  constructor
  · rw [val_append, val_append, hpost, Nat.mul_zero, Nat.add_zero, hj, hm, hU, ← h1, ← h2, hk]
    generalize val ((us.drop j).take (n + 1)) = M
    generalize val (us.take j) = P
    have h3 := Nat.div_add_mod M V
    simp only [pw, val]
    have e1 : pw j * M = V * (pw j * (M / V)) + pw j * (M % V) := by
      rw [Nat.mul_left_comm V, ← Nat.mul_add, h3]
    have e2 : pw j * (M / V + 4294967296 * val qs) = pw j * (M / V) + 4294967296 * pw j * val qs := by
      rw [Nat.mul_add, ← Nat.mul_assoc, Nat.mul_comm (pw j) 4294967296]
    rw [e2, Nat.mul_add, e1]
    omega
  · rw [List.append_assoc, List.drop_append_of_le_length (by omega), List.drop_of_length_le (by omega), List.nil_append, val_append, hpost]
    simp

/-- What is left, shifted back. -/
theorem unshift_step {us rs : List Nat} {k s t tk u : Nat} (hs : s < 32) (hu : us.getD k 0 = u) (hlen : rs.length = k) (htk : tk = u % 2 ^ s) (h : 2 ^ s * val rs + t = val (us.take k) + pw k * tk) (t1 : Nat) (r : Nat) (hr : r = u / 2 ^ s + t1 * 2 ^ (32 - s)) :
    2 ^ s * val (rs ++ [r]) + t = val (us.take (k + 1)) + pw (k + 1) * t1 := by
  rw [val_snoc, hlen, val_take_succ, hu, pw, hr, Nat.mul_add]
  have e : (4294967296 : Nat) = 2 ^ s * 2 ^ (32 - s) := by rw [← Nat.pow_add, show s + (32 - s) = 32 by omega]
  have h1 := Nat.div_add_mod u (2 ^ s)
  rw [← htk] at h1
  have e1 : 2 ^ s * (pw k * (u / 2 ^ s + t1 * 2 ^ (32 - s))) = pw k * (2 ^ s * (u / 2 ^ s)) + 4294967296 * pw k * t1 := by
    rw [Nat.mul_left_comm, Nat.mul_add (2 ^ s), Nat.mul_add (pw k), Nat.mul_left_comm (2 ^ s) t1, ← e]
    congr 1
    rw [Nat.mul_comm t1, ← Nat.mul_assoc, Nat.mul_comm (pw k)]
  rw [e1]
  have e2 : pw k * u = pw k * (2 ^ s * (u / 2 ^ s)) + pw k * tk := by rw [← Nat.mul_add, h1]
  rw [e2]
  omega

theorem unshift_end {us rs : List Nat} {n s t R : Nat} (ht : t < 2 ^ s) (h : 2 ^ s * val rs + t = val (us.take n) + pw n * 0) (hu : val (us.take n) = R * 2 ^ s) : val rs = R := by
  rw [hu, Nat.mul_zero, Nat.add_zero, Nat.mul_comm R] at h
  have h1 : (2 ^ s * val rs + t) / 2 ^ s = (2 ^ s * R) / 2 ^ s := by rw [h]
  rw [Nat.mul_add_div (Nat.two_pow_pos s), Nat.div_eq_of_lt ht, Nat.mul_div_cancel_left _ (Nat.two_pow_pos s)] at h1
  omega

end Go.Proofs.Ytkjmliebkbbogaa.Plain
/- Binary digits of a list of digits: plain arithmetic. -/
namespace Go.Proofs.Ytkjmliebkbbogaa
set_option linter.unusedVariables false
set_option linter.unusedSimpArgs false
open Plain

theorem pw_bits (k : Nat) : pw k = 2 ^ (32 * k) := by
  induction k with
  | zero => rfl
  | succ k ih => rw [show 32 * (k + 1) = 32 * k + 32 by omega, Nat.pow_add, ← ih, pw_add k 1, pw_one]
theorem val_div_pw {l : List Nat} (hd : Dig l) (j : Nat) : val l / pw j = val (l.drop j) := by
  rcases Nat.lt_or_ge l.length j with h | h
  · rw [List.drop_eq_nil_of_le (by omega), val_nil]
    exact Nat.div_eq_of_lt (Nat.lt_of_lt_of_le (val_lt hd) (pw_mono (by omega)))
  · have h1 := val_take_drop l j h
    have h2 := val_take_lt hd j
    rw [← h1, Nat.add_mul_div_left _ _ (pw_pos j), Nat.div_eq_of_lt h2, Nat.zero_add]
theorem getD_ge {l : List Nat} {j : Nat} (h : l.length ≤ j) : l.getD j 0 = 0 := by
  rw [List.getD_eq_getElem?_getD, List.getElem?_eq_none h]; rfl
theorem val_drop_any (l : List Nat) (j : Nat) : val (l.drop j) = l.getD j 0 + 4294967296 * val (l.drop (j + 1)) := by
  rcases Nat.lt_or_ge j l.length with h | h
  · exact val_drop l j h
  · rw [getD_ge h, List.drop_eq_nil_of_le h, List.drop_eq_nil_of_le (by omega)]; rfl
theorem div_mod_low (x a b : Nat) (h : a + b ≤ 64) : x % 2 ^ 64 / 2 ^ a % 2 ^ b = x / 2 ^ a % 2 ^ b := by
  rw [show (2 : Nat) ^ 64 = 2 ^ a * 2 ^ (64 - a) by rw [← Nat.pow_add]; congr 1; omega, Nat.mod_mul_right_div_self]
  exact Nat.mod_mod_of_dvd _ (Nat.pow_dvd_pow 2 (by omega))
theorem div_bits (x i : Nat) : x / 2 ^ i = x / pw (i / 32) / 2 ^ (i % 32) := by
  rw [pw_bits, Nat.div_div_eq_div_mul, ← Nat.pow_add]
  congr 2
  omega
/-- One binary digit. -/
theorem bit_math {l : List Nat} (hd : Dig l) (i : Nat) : l.getD (i / 32) 0 / 2 ^ (i % 32) % 2 = val l / 2 ^ i % 2 := by
  have hr : i % 32 < 32 := Nat.mod_lt _ (by omega)
  rw [div_bits (val l), val_div_pw hd, val_drop_any]
  have h1 := div_mod_low (l.getD (i / 32) 0 + 4294967296 * val (l.drop (i / 32 + 1))) (i % 32) 1 (by omega)
  have h3 := hd.getD (i / 32)
  generalize hx : l.getD (i / 32) 0 = x at *
  generalize val (l.drop (i / 32 + 1)) = y at *
  generalize i % 32 = r at *
  rw [show (4294967296 : Nat) = 2 ^ r * 2 ^ (32 - r) by rw [← Nat.pow_add, show r + (32 - r) = 32 by omega], Nat.mul_assoc, Nat.add_mul_div_left _ _ (Nat.two_pow_pos r), show 32 - r = (31 - r) + 1 by omega, Nat.pow_succ, Nat.mul_comm _ 2, Nat.mul_assoc, Nat.add_mul_mod_self_left]
/-- One digit of the number without its lowest k binary digits. -/
theorem high_math {l : List Nat} (hd : Dig l) (k m : Nat) : val l / 2 ^ k / pw m % 4294967296 = (l.getD (k / 32 + m) 0 + 4294967296 * l.getD (k / 32 + m + 1) 0) / 2 ^ (k % 32) % 4294967296 := by
  have hr : k % 32 < 32 := Nat.mod_lt _ (by omega)
  have e1 : val l / 2 ^ k / pw m = val (l.drop (k / 32 + m)) / 2 ^ (k % 32) := by
    rw [div_bits (val l), Nat.div_div_eq_div_mul, Nat.mul_comm (2 ^ (k % 32)), ← Nat.div_div_eq_div_mul, Nat.div_div_eq_div_mul _ (pw (k / 32)), ← pw_add, val_div_pw hd]
  rw [e1, val_drop_any, val_drop_any l (k / 32 + m + 1)]
  have h2 := hd.getD (k / 32 + m)
  have h3 := hd.getD (k / 32 + m + 1)
  generalize l.getD (k / 32 + m) 0 = x at *
  generalize l.getD (k / 32 + m + 1) 0 = y at *
  generalize val (l.drop (k / 32 + m + 1 + 1)) = z at *
  have h := div_mod_low (x + 4294967296 * (y + 4294967296 * z)) (k % 32) 32 (by omega)
  rw [show (2 : Nat) ^ 32 = 4294967296 by rfl, show (2 : Nat) ^ 64 = 18446744073709551616 by rfl] at h
  rw [← h]
  congr 2
  omega
theorem high_step {o : List Nat} {N m d : Nat} (ho : o.length = m) (hv : val o = N % pw m) (hd : N / pw m % 4294967296 = d) : val (o ++ [d]) = N % pw (m + 1) := by
  rw [val_snoc, ho, hv, ← hd, show pw (m + 1) = pw m * 4294967296 by rw [pw_add, pw_one], Nat.mod_mul]
theorem high_fin {l o : List Nat} {k m : Nat} (hd : Dig l) (hm : l.length ≤ k / 32 + m) (hv : val o = val l / 2 ^ k % pw m) : val o = val l / 2 ^ k := by
  rw [hv]
  apply Nat.mod_eq_of_lt
  rw [div_bits (val l), val_div_pw hd]
  refine Nat.lt_of_le_of_lt (Nat.div_le_self _ _) (Nat.lt_of_lt_of_le (val_lt (hd.drop _)) (pw_mono ?_))
  rw [List.length_drop]
  omega
end Go.Proofs.Ytkjmliebkbbogaa
/- Long division, binary digit by binary digit: plain arithmetic. -/
namespace Go.Proofs.Ytkjmliebkbbogaa
set_option linter.unusedVariables false
set_option linter.unusedSimpArgs false
open Plain

theorem half_step (a j : Nat) : a / 2 ^ j = 2 * (a / 2 ^ (j + 1)) + a / 2 ^ j % 2 := by
  rw [Nat.pow_succ, ← Nat.div_div_eq_div_mul]
  omega
theorem ldiv_lt {a b Q R Q2 R2 j : Nat} (h : Q * b + R = a / 2 ^ (j + 1)) (h2 : Q2 = Q + Q) (h3 : R2 = R + R + a / 2 ^ j % 2) : Q2 * b + R2 = a / 2 ^ j := by
  rw [half_step a j, ← h, h2, h3, Nat.add_mul]
  omega
theorem ldiv_ge {a b Q R Q2 R2 j : Nat} (h : Q * b + R = a / 2 ^ (j + 1)) (h2 : Q2 = Q + Q + 1) (h3 : R2 = R + R + a / 2 ^ j % 2 - b) (hb : b ≤ R + R + a / 2 ^ j % 2) : Q2 * b + R2 = a / 2 ^ j := by
  rw [half_step a j, ← h, h2, h3, Nat.add_mul, Nat.add_mul, Nat.one_mul]
  omega
theorem ldiv_end {a b Q R : Nat} (h : Q * b + R = a / 2 ^ 0) (hR : R < b) : Q = a / b ∧ R = a % b := by
  rw [Nat.pow_zero, Nat.div_one] at h
  have hb : 0 < b := by omega
  subst h
  refine ⟨?_, ?_⟩
  · rw [Nat.add_comm, Nat.add_mul_div_right _ _ hb, Nat.div_eq_of_lt hR, Nat.zero_add]
  · rw [Nat.add_comm, Nat.add_mul_mod_self_right, Nat.mod_eq_of_lt hR]
end Go.Proofs.Ytkjmliebkbbogaa
/- Decimal digits: plain arithmetic. -/
namespace Go.Proofs.Ytkjmliebkbbogaa.Plain
set_option linter.unusedVariables false
set_option linter.unusedSimpArgs false

/-- The decimal digits of a number, the lowest first; none of 0. -/
def decF : Nat → Nat → List Nat
  | 0, _ => []
  | f + 1, n => if n = 0 then [] else n % 10 :: decF f (n / 10)
def decR (n : Nat) : List Nat := decF n n
theorem decF_fuel : ∀ (f g n : Nat), n ≤ f → n ≤ g → decF f n = decF g n
  | 0, 0, _, _, _ => rfl
  | 0, g + 1, n, h, _ => by
    have : n = 0 := by omega
    subst this; rfl
  | f + 1, 0, n, _, h => by
    have : n = 0 := by omega
    subst this; rfl
  | f + 1, g + 1, n, h1, h2 => by
    simp only [decF]
    split
    · rfl
    · rw [decF_fuel f g (n / 10) (by omega) (by omega)]
theorem decR_zero : decR 0 = [] := rfl
theorem decR_pos {n : Nat} (h : n ≠ 0) : decR n = n % 10 :: decR (n / 10) := by
  obtain ⟨m, rfl⟩ : ∃ m, n = m + 1 := ⟨n - 1, by omega⟩
  show decF (m + 1) (m + 1) = _
  simp only [decF]
  rw [if_neg (by omega)]
  congr 1
  exact decF_fuel _ _ _ (by omega) (Nat.le_refl _)
theorem decR_small : ∀ (k n : Nat), n < 10 ^ k → (decR n).length ≤ k
  | 0, n, h => by
    have : n = 0 := by simpa using h
    subst this; simp [decR_zero]
  | k + 1, n, h => by
    by_cases h0 : n = 0
    · subst h0; simp [decR_zero]
    · rw [decR_pos h0, List.length_cons]
      have := decR_small k (n / 10) (by rw [Nat.div_lt_iff_lt_mul (by omega), ← Nat.pow_succ]; exact h)
      omega
theorem decR_lt10 : ∀ (f n : Nat), ∀ d ∈ decF f n, d < 10
  | 0, _, d, h => by simp [decF] at h
  | f + 1, n, d, h => by
    simp only [decF] at h
    split at h
    · simp at h
    · rcases List.mem_cons.1 h with rfl | h
      · omega
      · exact decR_lt10 f _ d h
/-- The value of decimal digits, the lowest first. -/
def decU : List Nat → Nat
  | [] => 0
  | d :: l => d + 10 * decU l
theorem decU_decR (n : Nat) : decU (decR n) = n := by
  induction n using Nat.strongRecOn with
  | _ n ih =>
    by_cases h0 : n = 0
    · subst h0; rfl
    · rw [decR_pos h0, decU, ih (n / 10) (by omega)]; omega
theorem decR_last {n : Nat} (h : n ≠ 0) : (decR n).getLast? ≠ some 0 := by
  induction n using Nat.strongRecOn with
  | _ n ih =>
    rw [decR_pos h]
    by_cases h1 : n / 10 = 0
    · rw [h1, decR_zero]; simp; omega
    · have := ih (n / 10) (by omega) h1
      rw [List.getLast?_cons]
      cases hl : (decR (n / 10)).getLast? with
      | none => rw [List.getLast?_eq_none_iff, decR_pos h1] at hl; cases hl
      | some x => rw [hl] at this; simpa using this
theorem decR_ne {n : Nat} (h : n ≠ 0) : decR n ≠ [] := by rw [decR_pos h]; simp
/-- The text of a number, as bytes. -/
def decs (n : Nat) : List Nat := if n = 0 then [48] else (decR n).reverse.map (48 + ·)
theorem decs_byte (n : Nat) : ∀ b ∈ decs n, 48 ≤ b ∧ b ≤ 57 := by
  intro b hb
  unfold decs at hb
  split at hb
  · simp at hb; omega
  · obtain ⟨d, hd, rfl⟩ := List.mem_map.1 hb
    have := decR_lt10 n n d (List.mem_reverse.1 hd)
    omega
theorem pw_le_ten (k : Nat) : pw k ≤ 10 ^ (10 * k) := by
  induction k with
  | zero => simp [pw]
  | succ k ih =>
    rw [pw, Nat.mul_succ, Nat.pow_add, Nat.mul_comm]
    exact Nat.mul_le_mul ih (by decide)
theorem decR_len {n k : Nat} (h : n < pw k) : (decR n).length ≤ 10 * k := decR_small _ _ (Nat.lt_of_lt_of_le h (pw_le_ten k))

/-- One decimal digit of a chunk: y = q * 10^k + r. -/
theorem chunk_step {q r k : Nat} (h : ¬ (q = 0 ∧ r = 0)) : decR (q * 10 ^ (k + 1) + r) = r % 10 :: decR (q * 10 ^ k + r / 10) := by
  have hp : 0 < 10 ^ k := Nat.pow_pos (by omega)
  have h0 : q * 10 ^ (k + 1) + r ≠ 0 := by
    intro e
    have h1 : q * 10 ^ (k + 1) = 0 := by omega
    have h2 : r = 0 := by omega
    rcases Nat.mul_eq_zero.1 h1 with h3 | h3
    · exact h ⟨h3, h2⟩
    · have := Nat.pow_pos (n := k + 1) (show 0 < 10 by omega)
      omega
  have e : q * 10 ^ (k + 1) = 10 * (q * 10 ^ k) := by rw [Nat.pow_succ, Nat.mul_comm _ 10, Nat.mul_left_comm]
  rw [decR_pos h0, e]
  congr 1
  · omega
  · congr 1; omega
end Go.Proofs.Ytkjmliebkbbogaa.Plain
/- Linear programs over rational numbers: weak duality. Plain arithmetic, no program in sight. -/
namespace Go.Proofs.Ytkjmliebkbbogaa.Plain
set_option linter.unusedVariables false
set_option linter.unusedSimpArgs false

/-- The sum of f 0, .., f (n - 1). -/
def sm : Nat → (Nat → Rat) → Rat
  | 0, _ => 0
  | n + 1, f => sm n f + f n
theorem sm_congr {n : Nat} {f g : Nat → Rat} (h : ∀ k, k < n → f k = g k) : sm n f = sm n g := by
  induction n with
  | zero => rfl
  | succ n ih => unfold sm; rw [ih fun k hk => h k (by omega), h n (by omega)]
theorem sm_add (n : Nat) (f g : Nat → Rat) : sm n (fun k => f k + g k) = sm n f + sm n g := by
  induction n with
  | zero => unfold sm; grind
  | succ n ih => unfold sm; rw [ih]; grind
theorem sm_mul (n : Nat) (c : Rat) (f : Nat → Rat) : sm n (fun k => c * f k) = c * sm n f := by
  induction n with
  | zero => unfold sm; grind
  | succ n ih => unfold sm; rw [ih]; grind
theorem sm_mulr (n : Nat) (c : Rat) (f : Nat → Rat) : sm n (fun k => f k * c) = sm n f * c := by
  rw [sm_congr (g := fun k => c * f k) (fun k _ => by grind), sm_mul]; grind
theorem sm_le {n : Nat} {f g : Nat → Rat} (h : ∀ k, k < n → f k ≤ g k) : sm n f ≤ sm n g := by
  induction n with
  | zero => exact Rat.le_refl
  | succ n ih =>
    unfold sm
    have h1 := ih fun k hk => h k (by omega)
    have h2 := h n (by omega)
    grind
theorem sm_zero (n : Nat) : sm n (fun _ => 0) = 0 := by
  induction n with
  | zero => rfl
  | succ n ih => unfold sm; rw [ih]; grind
theorem sm_swap (m n : Nat) (f : Nat → Nat → Rat) : sm n (fun k => sm m (fun i => f i k)) = sm m (fun i => sm n (fun k => f i k)) := by
  induction m with
  | zero => simp only [sm]; exact sm_zero n
  | succ m ih => simp only [sm]; rw [sm_add, ih]
theorem mul_le_l {a b c : Rat} (h : a ≤ b) (hc : 0 ≤ c) : a * c ≤ b * c := Rat.mul_le_mul_of_nonneg_right h hc
theorem mul_le_r {a b c : Rat} (h : a ≤ b) (hc : 0 ≤ c) : c * a ≤ c * b := Rat.mul_le_mul_of_nonneg_left h hc
/-- Weak duality. -/
theorem weak {m n : Nat} {g x y b : Nat → Rat} {a : Nat → Nat → Rat} (hx : ∀ k, k < n → 0 ≤ x k) (hy : ∀ i, i < m → 0 ≤ y i) (hp : ∀ i, i < m → sm n (fun k => a i k * x k) ≤ b i)
    (hd : ∀ k, k < n → g k ≤ sm m (fun i => y i * a i k)) : sm n (fun k => g k * x k) ≤ sm m (fun i => y i * b i) := by
  have h1 : sm n (fun k => g k * x k) ≤ sm n (fun k => sm m (fun i => y i * a i k) * x k) := sm_le fun k hk => mul_le_l (hd k hk) (hx k hk)
  have h2 : sm n (fun k => sm m (fun i => y i * a i k) * x k) = sm m (fun i => y i * sm n (fun k => a i k * x k)) := by
    rw [sm_congr (g := fun k => sm m (fun i => y i * (a i k * x k))) (fun k _ => by rw [← sm_mulr]; exact sm_congr fun i _ => by grind), sm_swap]
    exact sm_congr fun i _ => sm_mul _ _ _
  have h3 : sm m (fun i => y i * sm n (fun k => a i k * x k)) ≤ sm m (fun i => y i * b i) := sm_le fun i hi => mul_le_r (hp i hi) (hy i hi)
  rw [h2] at h1
  exact Rat.le_trans h1 h3
/-- A ray: the rows stay satisfied. -/
theorem ray_row {n : Nat} {a x d : Nat → Rat} {b c : Rat} (hc : 0 ≤ c) (h1 : sm n (fun k => a k * x k) ≤ b) (h2 : sm n (fun k => a k * d k) ≤ 0) : sm n (fun k => a k * (x k + c * d k)) ≤ b := by
  have e : sm n (fun k => a k * (x k + c * d k)) = sm n (fun k => a k * x k) + c * sm n (fun k => a k * d k) := by
    rw [← sm_mul, ← sm_add]
    exact sm_congr fun k _ => by grind
  rw [e]
  have h3 := mul_le_r h2 hc
  grind
theorem ray_goal {n : Nat} {g x d : Nat → Rat} {c : Rat} (hc : 0 < c) (h : 0 < sm n (fun k => g k * d k)) : sm n (fun k => g k * x k) < sm n (fun k => g k * (x k + c * d k)) := by
  have e : sm n (fun k => g k * (x k + c * d k)) = sm n (fun k => g k * x k) + c * sm n (fun k => g k * d k) := by
    rw [← sm_mul, ← sm_add]
    exact sm_congr fun k _ => by grind
  rw [e]
  have h3 := Rat.mul_pos hc h
  grind
end Go.Proofs.Ytkjmliebkbbogaa.Plain
