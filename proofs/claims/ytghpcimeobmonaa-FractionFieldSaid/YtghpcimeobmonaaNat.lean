/- Plain arithmetic of digit lists in base 4294967296, least significant digit first. No program in sight. -/
namespace Go.Proofs.Ytghpcimeobmonaa.Plain
set_option linter.unusedVariables false
set_option linter.unusedSimpArgs false

/-- The number that a list of digits denotes. -/
def val : List Nat → Nat
  | [] => 0
  | d :: ds => d + 4294967296 * val ds

/-- Powers of the base, by recursion. -/
def pw : Nat → Nat
  | 0 => 1
  | k + 1 => 4294967296 * pw k

def Dig (l : List Nat) : Prop := ∀ d ∈ l, d < 4294967296

theorem pw_pos (k : Nat) : 0 < pw k := by induction k with
  | zero => simp [pw]
  | succ k ih => simp only [pw]; omega
theorem pw_add (a b : Nat) : pw (a + b) = pw a * pw b := by
  induction b with
  | zero => simp [pw]
  | succ b ih => rw [Nat.add_succ]; simp only [pw]; rw [ih, Nat.mul_left_comm]
theorem pw_mono {a b : Nat} (h : a ≤ b) : pw a ≤ pw b := by
  obtain ⟨c, rfl⟩ := Nat.exists_eq_add_of_le h
  rw [pw_add]
  exact Nat.le_mul_of_pos_right _ (pw_pos c)
theorem pw_one : pw 1 = 4294967296 := rfl

theorem val_nil : val [] = 0 := rfl
theorem val_cons (d : Nat) (l : List Nat) : val (d :: l) = d + 4294967296 * val l := rfl
theorem val_append (a b : List Nat) : val (a ++ b) = val a + pw a.length * val b := by
  induction a with
  | nil => simp [val, pw]
  | cons d a ih =>
    simp only [List.cons_append, val, List.length_cons, pw, ih, Nat.mul_add, Nat.mul_assoc]
    omega
theorem val_snoc (a : List Nat) (d : Nat) : val (a ++ [d]) = val a + pw a.length * d := by
  rw [val_append]; simp [val]
theorem val_replicate (n : Nat) : val (List.replicate n 0) = 0 := by
  induction n with
  | zero => rfl
  | succ n ih => simp [List.replicate_succ, val, ih]

theorem Dig.nil : Dig [] := fun _ h => by simp at h
theorem Dig.cons {d : Nat} {l : List Nat} (h : d < 4294967296) (hl : Dig l) : Dig (d :: l) := by
  intro x hx
  rcases List.mem_cons.1 hx with rfl | hx
  · exact h
  · exact hl x hx
theorem Dig.head {d : Nat} {l : List Nat} (h : Dig (d :: l)) : d < 4294967296 := h d (by simp)
theorem Dig.tail {d : Nat} {l : List Nat} (h : Dig (d :: l)) : Dig l := fun x hx => h x (by simp [hx])
theorem Dig.append {a b : List Nat} (ha : Dig a) (hb : Dig b) : Dig (a ++ b) := by
  intro x hx
  rcases List.mem_append.1 hx with hx | hx
  · exact ha x hx
  · exact hb x hx
theorem Dig.left {a b : List Nat} (h : Dig (a ++ b)) : Dig a := fun x hx => h x (by simp [hx])
theorem Dig.right {a b : List Nat} (h : Dig (a ++ b)) : Dig b := fun x hx => h x (by simp [hx])
theorem Dig.snoc {a : List Nat} {d : Nat} (ha : Dig a) (hd : d < 4294967296) : Dig (a ++ [d]) := ha.append (Dig.cons hd Dig.nil)
theorem Dig.take {a : List Nat} (ha : Dig a) (k : Nat) : Dig (a.take k) := fun x hx => ha x (List.mem_of_mem_take hx)
theorem Dig.drop {a : List Nat} (ha : Dig a) (k : Nat) : Dig (a.drop k) := fun x hx => ha x (List.mem_of_mem_drop hx)
theorem Dig.getD {a : List Nat} (ha : Dig a) (k : Nat) : a.getD k 0 < 4294967296 := by
  by_cases h : k < a.length
  · rw [List.getD_eq_getElem?_getD, List.getElem?_eq_getElem h]
    exact ha _ (List.getElem_mem h)
  · rw [List.getD_eq_getElem?_getD, List.getElem?_eq_none (by omega)]
    simp
theorem Dig.replicate (n : Nat) : Dig (List.replicate n 0) := fun x hx => by
  have := List.eq_of_mem_replicate hx
  omega

theorem val_lt {l : List Nat} (h : Dig l) : val l < pw l.length := by
  induction l with
  | nil => simp [val, pw]
  | cons d l ih =>
    have h1 := h.head
    have h2 := ih h.tail
    simp only [val, List.length_cons, pw]
    omega

theorem val_inj : ∀ {a b : List Nat}, Dig a → Dig b → a.length = b.length → val a = val b → a = b
  | [], [], _, _, _, _ => rfl
  | [], _ :: _, _, _, h, _ => by simp at h
  | _ :: _, [], _, _, h, _ => by simp at h
  | x :: a, y :: b, ha, hb, hl, hv => by
    have h1 := ha.head
    have h2 := hb.head
    simp only [val] at hv
    have hxy : x = y := by omega
    have hv' : val a = val b := by omega
    rw [hxy, val_inj ha.tail hb.tail (by simpa using hl) hv']

theorem take_snoc' (l : List Nat) (k : Nat) (h : k < l.length) : l.take (k + 1) = l.take k ++ [l.getD k 0] := by
  rw [List.take_succ_eq_append_getElem h, List.getD_eq_getElem?_getD, List.getElem?_eq_getElem h]; rfl
theorem val_take_succ (l : List Nat) (k : Nat) : val (l.take (k + 1)) = val (l.take k) + pw k * l.getD k 0 := by
  by_cases h : k < l.length
  · rw [take_snoc' l k h, val_snoc, List.length_take, Nat.min_eq_left (by omega)]
  · rw [List.take_of_length_le (by omega), List.take_of_length_le (by omega), List.getD_eq_getElem?_getD, List.getElem?_eq_none (by omega)]
    simp
theorem val_drop (l : List Nat) (k : Nat) (h : k < l.length) : val (l.drop k) = l.getD k 0 + 4294967296 * val (l.drop (k + 1)) := by
  rw [List.drop_eq_getElem_cons h, val, List.getD_eq_getElem?_getD, List.getElem?_eq_getElem h]; rfl
theorem val_take_drop (l : List Nat) (k : Nat) (h : k ≤ l.length) : val (l.take k) + pw k * val (l.drop k) = val l := by
  have := val_append (l.take k) (l.drop k)
  rw [List.take_append_drop, List.length_take, Nat.min_eq_left h] at this
  exact this.symm
theorem val_take_ge (l : List Nat) (k : Nat) (h : l.length ≤ k) : val (l.take k) = val l := by rw [List.take_of_length_le h]
theorem val_take_lt {l : List Nat} (h : Dig l) (k : Nat) : val (l.take k) < pw k := by
  have := val_lt (h.take k)
  exact Nat.lt_of_lt_of_le this (pw_mono (by rw [List.length_take]; omega))

theorem val_split (l : List Nat) (j : Nat) (h : j < l.length) : val l = val (l.take j) + pw j * l.getD j 0 + pw (j + 1) * val (l.drop (j + 1)) := by
  rw [← val_take_succ, val_take_drop l (j + 1) (by omega)]
/-- The first digit from above that differs decides. -/
theorem val_lt_at {a b : List Nat} {j : Nat} (ha : Dig a) (h1 : j < a.length) (h2 : j < b.length) (hd : a.drop (j + 1) = b.drop (j + 1)) (h : a.getD j 0 < b.getD j 0) : val a < val b := by
  rw [val_split a j h1, val_split b j h2, hd]
  have h3 := val_take_lt ha j
  have h4 : pw j * (a.getD j 0 + 1) ≤ pw j * b.getD j 0 := Nat.mul_le_mul_left _ h
  rw [Nat.mul_add, Nat.mul_one] at h4
  omega
theorem drop_eq_of {a b : List Nat} {j : Nat} (h1 : j < a.length) (h2 : j < b.length) (hd : a.drop (j + 1) = b.drop (j + 1)) (h : a.getD j 0 = b.getD j 0) : a.drop j = b.drop j := by
  rw [List.drop_eq_getElem_cons h1, List.drop_eq_getElem_cons h2, hd]
  congr 1
  rw [List.getD_eq_getElem?_getD, List.getD_eq_getElem?_getD, List.getElem?_eq_getElem h1, List.getElem?_eq_getElem h2] at h
  exact h

/-- No leading zero (at the end of the list). -/
def Canon (l : List Nat) : Prop := l.getLast? ≠ some 0

/-- The list without leading zeros (at its end). -/
def trimN : List Nat → Nat → Nat
  | _, 0 => 0
  | l, n + 1 => if l.getD n 0 = 0 then trimN l n else n + 1
def trimL (l : List Nat) : List Nat := l.take (trimN l l.length)

theorem trimN_step {l : List Nat} {k : Nat} (hk : 0 < k) (h : l.getD (k - 1) 0 = 0) : trimN l k = trimN l (k - 1) := by
  obtain ⟨n, rfl⟩ : ∃ n, k = n + 1 := ⟨k - 1, by omega⟩
  simp only [trimN, Nat.add_sub_cancel] at *
  rw [if_pos h]
theorem trimN_stop {l : List Nat} {k : Nat} (hk : 0 < k) (h : l.getD (k - 1) 0 ≠ 0) : trimN l k = k := by
  obtain ⟨n, rfl⟩ : ∃ n, k = n + 1 := ⟨k - 1, by omega⟩
  simp only [trimN, Nat.add_sub_cancel] at *
  rw [if_neg h]
theorem trimN_le (l : List Nat) (n : Nat) : trimN l n ≤ n := by
  induction n with
  | zero => simp [trimN]
  | succ n ih => simp only [trimN]; split <;> omega
theorem trimN_nz (l : List Nat) (n : Nat) : trimN l n = 0 ∨ l.getD (trimN l n - 1) 0 ≠ 0 := by
  induction n with
  | zero => simp [trimN]
  | succ n ih => simp only [trimN]; split
                 · exact ih
                 · right; simpa using ‹_›
theorem trimN_val (l : List Nat) (n : Nat) : val (l.take (trimN l n)) = val (l.take n) := by
  induction n with
  | zero => simp [trimN]
  | succ n ih => simp only [trimN]; split
                 · rename_i h; rw [ih, val_take_succ, h]; simp
                 · rfl
theorem trimN_ge {l : List Nat} {n k : Nat} (hk : k ≤ n) (h : k = 0 ∨ l.getD (k - 1) 0 ≠ 0) : k ≤ trimN l n := by
  induction n with
  | zero => omega
  | succ n ih =>
    simp only [trimN]
    split
    · rename_i h0
      rcases Nat.lt_or_ge n k with h' | h'
      · have : k = n + 1 := by omega
        subst this
        rcases h with h | h
        · omega
        · exact absurd (by simpa using h0) h
      · exact ih h'
    · exact hk
theorem val_trimL (l : List Nat) : val (trimL l) = val l := by
  unfold trimL; rw [trimN_val, List.take_length]
theorem trimL_length (l : List Nat) : (trimL l).length = trimN l l.length := by
  unfold trimL; rw [List.length_take]; exact Nat.min_eq_left (trimN_le _ _)
theorem getLast?_take {l : List Nat} {n : Nat} (h : n + 1 ≤ l.length) : (l.take (n + 1)).getLast? = some (l.getD n 0) := by
  rw [take_snoc' l n (by omega)]; simp
theorem canon_take {l : List Nat} {n : Nat} (hn : n ≤ l.length) (h : n = 0 ∨ l.getD (n - 1) 0 ≠ 0) : Canon (l.take n) := by
  unfold Canon
  cases n with
  | zero => simp
  | succ n =>
    rw [getLast?_take hn]
    rcases h with h | h
    · omega
    · simpa using h
theorem canon_trimL (l : List Nat) : Canon (trimL l) := canon_take (trimN_le _ _) (trimN_nz _ _)
theorem Dig.trimL {l : List Nat} (h : Dig l) : Dig (trimL l) := h.take _
theorem Canon.nil : Canon [] := by simp [Canon]
theorem canon_iff (l : List Nat) : Canon l ↔ l.length = 0 ∨ l.getD (l.length - 1) 0 ≠ 0 := by
  unfold Canon
  cases hl : l.length with
  | zero => simp [List.eq_nil_of_length_eq_zero hl]
  | succ n =>
    have := getLast?_take (l := l) (n := n) (by omega)
    rw [← hl, List.take_length] at this
    rw [this]
    simp
theorem trimN_canon {l : List Nat} (h : Canon l) : trimN l l.length = l.length := by
  have h1 := trimN_le l l.length
  have h2 := trimN_ge (l := l) (n := l.length) (k := l.length) (Nat.le_refl _) ((canon_iff l).1 h)
  omega
theorem trimL_canon {l : List Nat} (h : Canon l) : trimL l = l := by
  unfold trimL; rw [trimN_canon h, List.take_length]
theorem canon_of_trimN {l : List Nat} (h : trimN l l.length = l.length) : Canon l := by
  have := canon_trimL l
  unfold trimL at this
  rwa [h, List.take_length] at this

/-- The top digit of a canonical list is not zero, so its value is at least the power below its length. -/
theorem canon_ge {l : List Nat} (h : Canon l) (hl : l ≠ []) : pw (l.length - 1) ≤ val l := by
  have h0 : l.length ≠ 0 := fun e => hl (List.eq_nil_of_length_eq_zero e)
  have hz : l.getD (l.length - 1) 0 ≠ 0 := by
    rcases (canon_iff l).1 h with h1 | h1
    · exact absurd h1 h0
    · exact h1
  have e : val l = val (l.take (l.length - 1 + 1)) := by rw [List.take_of_length_le (by omega)]
  rw [e, val_take_succ]
  have : pw (l.length - 1) * 1 ≤ pw (l.length - 1) * l.getD (l.length - 1) 0 := Nat.mul_le_mul_left _ (by omega)
  omega

theorem val_lt_of_len {a b : List Nat} (ha : Dig a) (hb : Canon b) (h : a.length < b.length) : val a < val b := by
  have h1 := val_lt ha
  have h2 := pw_mono (show a.length ≤ b.length - 1 by omega)
  have h3 := canon_ge hb (by intro e; subst e; simp at h)
  omega

/-- l is the list of the digits of n. -/
def NatIs (l : List Nat) (n : Nat) : Prop := Dig l ∧ Canon l ∧ val l = n

theorem NatIs.dig {l : List Nat} {n : Nat} (h : NatIs l n) : Dig l := h.1
theorem NatIs.canon {l : List Nat} {n : Nat} (h : NatIs l n) : Canon l := h.2.1
theorem NatIs.val {l : List Nat} {n : Nat} (h : NatIs l n) : val l = n := h.2.2
theorem NatIs.nil : NatIs [] 0 := ⟨Dig.nil, Canon.nil, rfl⟩
theorem natIs_trimL {l : List Nat} (h : Dig l) : NatIs (trimL l) (val l) := ⟨h.trimL, canon_trimL l, val_trimL l⟩
theorem length_le_of_lt {l : List Nat} {k : Nat} (hc : Canon l) (h : val l < pw k) : l.length ≤ k := by
  by_cases hn : l = []
  · subst hn; simp
  · have h1 := canon_ge hc hn
    rcases Nat.lt_or_ge k l.length with h2 | h2
    · have := pw_mono (show k ≤ l.length - 1 by omega)
      omega
    · exact h2
theorem NatIs.len_eq {a b : List Nat} {n : Nat} (ha : NatIs a n) (hb : NatIs b n) : a.length = b.length := by
  have h1 := length_le_of_lt (k := b.length) ha.canon (by rw [ha.val, ← hb.val]; exact val_lt hb.dig)
  have h2 := length_le_of_lt (k := a.length) hb.canon (by rw [hb.val, ← ha.val]; exact val_lt ha.dig)
  omega
theorem NatIs.uniq {a b : List Nat} {n : Nat} (ha : NatIs a n) (hb : NatIs b n) : a = b :=
  val_inj ha.dig hb.dig (ha.len_eq hb) (by rw [ha.val, hb.val])
theorem NatIs.zero_iff {l : List Nat} {n : Nat} (h : NatIs l n) : l = [] ↔ n = 0 := by
  constructor
  · rintro rfl; exact h.val.symm
  · rintro rfl; exact h.uniq NatIs.nil
theorem NatIs.pos {l : List Nat} {n : Nat} (h : NatIs l n) (hn : 0 < n) : 0 < l.length := by
  rcases Nat.eq_zero_or_pos l.length with h0 | h0
  · have := (h.zero_iff).1 (List.eq_nil_of_length_eq_zero h0)
    omega
  · exact h0

/-- The digits of a number. -/
def dg : Nat → Nat → List Nat
  | 0, _ => []
  | f + 1, n => if n = 0 then [] else n % 4294967296 :: dg f (n / 4294967296)
def digs (n : Nat) : List Nat := dg n n
theorem canon_cons {d : Nat} {l : List Nat} (h : Canon l) (hd : d ≠ 0 ∨ l ≠ []) : Canon (d :: l) := by
  unfold Canon at *
  cases l with
  | nil => simpa using hd
  | cons x l => simpa [List.getLast?_cons_cons] using h
theorem natIs_dg : ∀ (f n : Nat), n ≤ f → NatIs (dg f n) n
  | 0, n, h => by
    have : n = 0 := by omega
    subst this; exact NatIs.nil
  | f + 1, n, h => by
    simp only [dg]
    split
    · rename_i h0; subst h0; exact NatIs.nil
    · have ih := natIs_dg f (n / 4294967296) (by omega)
      refine ⟨Dig.cons (Nat.mod_lt _ (by omega)) ih.dig, canon_cons ih.canon ?_, ?_⟩
      · by_cases hq : n / 4294967296 = 0
        · left; omega
        · right; intro e; exact hq ((ih.zero_iff).1 e)
      · simp only [Plain.val, ih.val]; omega
theorem natIs_digs (n : Nat) : NatIs (digs n) n := natIs_dg n n (Nat.le_refl _)
theorem NatIs.eq_digs {l : List Nat} {n : Nat} (h : NatIs l n) : l = digs n := h.uniq (natIs_digs n)
theorem digs_len {n k : Nat} (h : n < pw k) : (digs n).length ≤ k := length_le_of_lt (natIs_digs n).canon (by rw [(natIs_digs n).val]; exact h)

/-- The sign of a comparison. -/
def cmpI (m n : Nat) : Int := if m < n then -1 else if n < m then 1 else 0
theorem cmpI_lt {m n : Nat} (h : m < n) : cmpI m n = -1 := if_pos h
theorem cmpI_gt {m n : Nat} (h : n < m) : cmpI m n = 1 := by unfold cmpI; rw [if_neg (by omega), if_pos h]
theorem cmpI_eq {m n : Nat} (h : m = n) : cmpI m n = 0 := by unfold cmpI; rw [if_neg (by omega), if_neg (by omega)]
theorem cmpI_bd (m n : Nat) : -1 ≤ cmpI m n ∧ cmpI m n ≤ 1 := by
  unfold cmpI
  split
  · omega
  · split <;> omega
theorem cmpI_neg_iff (m n : Nat) : cmpI m n < 0 ↔ m < n := by
  unfold cmpI
  split
  · omega
  · split <;> omega

end Go.Proofs.Ytghpcimeobmonaa.Plain
