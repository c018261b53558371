/- Contracts of the functions that the claim reaches, and the plain arithmetic behind them: each part says what its functions do, for all arguments that its statements name. -/
import Derived.Test.YtghpcimeobmonaaProg
import Derived.WalkKit
import Derived.WalkSpells
import Derived.WalkLawsBesides
import Derived.Deep.Draws
import Derived.Deep.QuietTactic
import Derived.BigQuiet
import Derived.Deep.DeepCutAuto
import Derived.Deep.CutBlock
import Derived.Deep.DeepFit
import Derived.Lib.Hide
import Derived.Laws.AppendOwnNone
import Derived.Deep.DeepMust
import Derived.Laws.OwnMore
import Derived.Deep.AppendLies
import Derived.Deep.RegionHeld3
import Derived.Deep.DrawnRows
/- Plain arithmetic of digit lists in base 4294967296, least significant digit first. No program in sight. -/
namespace Go.Proofs.Ytghpcimeobmonaa.Plain
set_option linter.unusedVariables false
set_option linter.unusedSimpArgs false

/-- The number that a list of digits denotes. -/
def val : List Nat → Nat
  | [] => 0
  | d :: ds => d + 4294967296 * val ds

/-- Powers of the base, by recursion. -/
def pw : Nat → Nat
  | 0 => 1
  | k + 1 => 4294967296 * pw k

def Dig (l : List Nat) : Prop := ∀ d ∈ l, d < 4294967296

theorem pw_pos (k : Nat) : 0 < pw k := by induction k with
  | zero => simp [pw]
  | succ k ih => simp only [pw]; omega
theorem pw_add (a b : Nat) : pw (a + b) = pw a * pw b := by
  induction b with
  | zero => simp [pw]
  | succ b ih => rw [Nat.add_succ]; simp only [pw]; rw [ih, Nat.mul_left_comm]
theorem pw_mono {a b : Nat} (h : a ≤ b) : pw a ≤ pw b := by
  obtain ⟨c, rfl⟩ := Nat.exists_eq_add_of_le h
  rw [pw_add]
  exact Nat.le_mul_of_pos_right _ (pw_pos c)
theorem pw_one : pw 1 = 4294967296 := rfl

theorem val_nil : val [] = 0 := rfl
theorem val_cons (d : Nat) (l : List Nat) : val (d :: l) = d + 4294967296 * val l := rfl
theorem val_append (a b : List Nat) : val (a ++ b) = val a + pw a.length * val b := by
  induction a with
  | nil => simp [val, pw]
  | cons d a ih =>
    simp only [List.cons_append, val, List.length_cons, pw, ih, Nat.mul_add, Nat.mul_assoc]
    omega
theorem val_snoc (a : List Nat) (d : Nat) : val (a ++ [d]) = val a + pw a.length * d := by
  rw [val_append]; simp [val]
theorem val_replicate (n : Nat) : val (List.replicate n 0) = 0 := by
  induction n with
  | zero => rfl
  | succ n ih => simp [List.replicate_succ, val, ih]

theorem Dig.nil : Dig [] := fun _ h => by simp at h
theorem Dig.cons {d : Nat} {l : List Nat} (h : d < 4294967296) (hl : Dig l) : Dig (d :: l) := by
  intro x hx
  rcases List.mem_cons.1 hx with rfl | hx
  · exact h
  · exact hl x hx
theorem Dig.head {d : Nat} {l : List Nat} (h : Dig (d :: l)) : d < 4294967296 := h d (by simp)
theorem Dig.tail {d : Nat} {l : List Nat} (h : Dig (d :: l)) : Dig l := fun x hx => h x (by simp [hx])
theorem Dig.append {a b : List Nat} (ha : Dig a) (hb : Dig b) : Dig (a ++ b) := by
  intro x hx
  rcases List.mem_append.1 hx with hx | hx
  · exact ha x hx
  · exact hb x hx
theorem Dig.left {a b : List Nat} (h : Dig (a ++ b)) : Dig a := fun x hx => h x (by simp [hx])
theorem Dig.right {a b : List Nat} (h : Dig (a ++ b)) : Dig b := fun x hx => h x (by simp [hx])
theorem Dig.snoc {a : List Nat} {d : Nat} (ha : Dig a) (hd : d < 4294967296) : Dig (a ++ [d]) := ha.append (Dig.cons hd Dig.nil)
theorem Dig.take {a : List Nat} (ha : Dig a) (k : Nat) : Dig (a.take k) := fun x hx => ha x (List.mem_of_mem_take hx)
theorem Dig.drop {a : List Nat} (ha : Dig a) (k : Nat) : Dig (a.drop k) := fun x hx => ha x (List.mem_of_mem_drop hx)
theorem Dig.getD {a : List Nat} (ha : Dig a) (k : Nat) : a.getD k 0 < 4294967296 := by
  by_cases h : k < a.length
  · rw [List.getD_eq_getElem?_getD, List.getElem?_eq_getElem h]
    exact ha _ (List.getElem_mem h)
  · rw [List.getD_eq_getElem?_getD, List.getElem?_eq_none (by omega)]
    simp
theorem Dig.replicate (n : Nat) : Dig (List.replicate n 0) := fun x hx => by
  have := List.eq_of_mem_replicate hx
  omega

theorem val_lt {l : List Nat} (h : Dig l) : val l < pw l.length := by
  induction l with
  | nil => simp [val, pw]
  | cons d l ih =>
    have h1 := h.head
    have h2 := ih h.tail
    simp only [val, List.length_cons, pw]
    omega

theorem val_inj : ∀ {a b : List Nat}, Dig a → Dig b → a.length = b.length → val a = val b → a = b
  | [], [], _, _, _, _ => rfl
  | [], _ :: _, _, _, h, _ => by simp at h
  | _ :: _, [], _, _, h, _ => by simp at h
  | x :: a, y :: b, ha, hb, hl, hv => by
    have h1 := ha.head
    have h2 := hb.head
    simp only [val] at hv
    have hxy : x = y := by omega
    have hv' : val a = val b := by omega
    rw [hxy, val_inj ha.tail hb.tail (by simpa using hl) hv']

theorem take_snoc' (l : List Nat) (k : Nat) (h : k < l.length) : l.take (k + 1) = l.take k ++ [l.getD k 0] := by
  rw [List.take_succ_eq_append_getElem h, List.getD_eq_getElem?_getD, List.getElem?_eq_getElem h]; rfl
theorem val_take_succ (l : List Nat) (k : Nat) : val (l.take (k + 1)) = val (l.take k) + pw k * l.getD k 0 := by
  by_cases h : k < l.length
  · rw [take_snoc' l k h, val_snoc, List.length_take, Nat.min_eq_left (by omega)]
  · rw [List.take_of_length_le (by omega), List.take_of_length_le (by omega), List.getD_eq_getElem?_getD, List.getElem?_eq_none (by omega)]
    simp
theorem val_drop (l : List Nat) (k : Nat) (h : k < l.length) : val (l.drop k) = l.getD k 0 + 4294967296 * val (l.drop (k + 1)) := by
  rw [List.drop_eq_getElem_cons h, val, List.getD_eq_getElem?_getD, List.getElem?_eq_getElem h]; rfl
theorem val_take_drop (l : List Nat) (k : Nat) (h : k ≤ l.length) : val (l.take k) + pw k * val (l.drop k) = val l := by
  have := val_append (l.take k) (l.drop k)
  rw [List.take_append_drop, List.length_take, Nat.min_eq_left h] at this
  exact this.symm
theorem val_take_ge (l : List Nat) (k : Nat) (h : l.length ≤ k) : val (l.take k) = val l := by rw [List.take_of_length_le h]
theorem val_take_lt {l : List Nat} (h : Dig l) (k : Nat) : val (l.take k) < pw k := by
  have := val_lt (h.take k)
  exact Nat.lt_of_lt_of_le this (pw_mono (by rw [List.length_take]; omega))

theorem val_split (l : List Nat) (j : Nat) (h : j < l.length) : val l = val (l.take j) + pw j * l.getD j 0 + pw (j + 1) * val (l.drop (j + 1)) := by
  rw [← val_take_succ, val_take_drop l (j + 1) (by omega)]
/-- The first digit from above that differs decides. -/
theorem val_lt_at {a b : List Nat} {j : Nat} (ha : Dig a) (h1 : j < a.length) (h2 : j < b.length) (hd : a.drop (j + 1) = b.drop (j + 1)) (h : a.getD j 0 < b.getD j 0) : val a < val b := by
  rw [val_split a j h1, val_split b j h2, hd]
  have h3 := val_take_lt ha j
  have h4 : pw j * (a.getD j 0 + 1) ≤ pw j * b.getD j 0 := Nat.mul_le_mul_left _ h
  rw [Nat.mul_add, Nat.mul_one] at h4
  omega
theorem drop_eq_of {a b : List Nat} {j : Nat} (h1 : j < a.length) (h2 : j < b.length) (hd : a.drop (j + 1) = b.drop (j + 1)) (h : a.getD j 0 = b.getD j 0) : a.drop j = b.drop j := by
  rw [List.drop_eq_getElem_cons h1, List.drop_eq_getElem_cons h2, hd]
  congr 1
  rw [List.getD_eq_getElem?_getD, List.getD_eq_getElem?_getD, List.getElem?_eq_getElem h1, List.getElem?_eq_getElem h2] at h
  exact h

/-- No leading zero (at the end of the list). -/
def Canon (l : List Nat) : Prop := l.getLast? ≠ some 0

/-- The list without leading zeros (at its end). -/
def trimN : List Nat → Nat → Nat
  | _, 0 => 0
  | l, n + 1 => if l.getD n 0 = 0 then trimN l n else n + 1
def trimL (l : List Nat) : List Nat := l.take (trimN l l.length)

theorem trimN_step {l : List Nat} {k : Nat} (hk : 0 < k) (h : l.getD (k - 1) 0 = 0) : trimN l k = trimN l (k - 1) := by
  obtain ⟨n, rfl⟩ : ∃ n, k = n + 1 := ⟨k - 1, by omega⟩
  simp only [trimN, Nat.add_sub_cancel] at *
  rw [if_pos h]
theorem trimN_stop {l : List Nat} {k : Nat} (hk : 0 < k) (h : l.getD (k - 1) 0 ≠ 0) : trimN l k = k := by
  obtain ⟨n, rfl⟩ : ∃ n, k = n + 1 := ⟨k - 1, by omega⟩
  simp only [trimN, Nat.add_sub_cancel] at *
  rw [if_neg h]
theorem trimN_le (l : List Nat) (n : Nat) : trimN l n ≤ n := by
  induction n with
  | zero => simp [trimN]
  | succ n ih => simp only [trimN]; split <;> omega
theorem trimN_nz (l : List Nat) (n : Nat) : trimN l n = 0 ∨ l.getD (trimN l n - 1) 0 ≠ 0 := by
  induction n with
  | zero => simp [trimN]
  | succ n ih => simp only [trimN]; split
                 · exact ih
                 · right; simpa using ‹_›
theorem trimN_val (l : List Nat) (n : Nat) : val (l.take (trimN l n)) = val (l.take n) := by
  induction n with
  | zero => simp [trimN]
  | succ n ih => simp only [trimN]; split
                 · rename_i h; rw [ih, val_take_succ, h]; simp
                 · rfl
theorem trimN_ge {l : List Nat} {n k : Nat} (hk : k ≤ n) (h : k = 0 ∨ l.getD (k - 1) 0 ≠ 0) : k ≤ trimN l n := by
  induction n with
  | zero => omega
  | succ n ih =>
    simp only [trimN]
    split
    · rename_i h0
      rcases Nat.lt_or_ge n k with h' | h'
      · have : k = n + 1 := by omega
        subst this
        rcases h with h | h
        · omega
        · exact absurd (by simpa using h0) h
      · exact ih h'
    · exact hk
theorem val_trimL (l : List Nat) : val (trimL l) = val l := by
  unfold trimL; rw [trimN_val, List.take_length]
theorem trimL_length (l : List Nat) : (trimL l).length = trimN l l.length := by
  unfold trimL; rw [List.length_take]; exact Nat.min_eq_left (trimN_le _ _)
theorem getLast?_take {l : List Nat} {n : Nat} (h : n + 1 ≤ l.length) : (l.take (n + 1)).getLast? = some (l.getD n 0) := by
  rw [take_snoc' l n (by omega)]; simp
theorem canon_take {l : List Nat} {n : Nat} (hn : n ≤ l.length) (h : n = 0 ∨ l.getD (n - 1) 0 ≠ 0) : Canon (l.take n) := by
  unfold Canon
  cases n with
  | zero => simp
  | succ n =>
    rw [getLast?_take hn]
    rcases h with h | h
    · omega
    · simpa using h
theorem canon_trimL (l : List Nat) : Canon (trimL l) := canon_take (trimN_le _ _) (trimN_nz _ _)
theorem Dig.trimL {l : List Nat} (h : Dig l) : Dig (trimL l) := h.take _
theorem Canon.nil : Canon [] := by simp [Canon]
theorem canon_iff (l : List Nat) : Canon l ↔ l.length = 0 ∨ l.getD (l.length - 1) 0 ≠ 0 := by
  unfold Canon
  cases hl : l.length with
  | zero => simp [List.eq_nil_of_length_eq_zero hl]
  | succ n =>
    have := getLast?_take (l := l) (n := n) (by omega)
    rw [← hl, List.take_length] at this
    rw [this]
    simp
theorem trimN_canon {l : List Nat} (h : Canon l) : trimN l l.length = l.length := by
  have h1 := trimN_le l l.length
  have h2 := trimN_ge (l := l) (n := l.length) (k := l.length) (Nat.le_refl _) ((canon_iff l).1 h)
  omega
theorem trimL_canon {l : List Nat} (h : Canon l) : trimL l = l := by
  unfold trimL; rw [trimN_canon h, List.take_length]
theorem canon_of_trimN {l : List Nat} (h : trimN l l.length = l.length) : Canon l := by
  have := canon_trimL l
  unfold trimL at this
  rwa [h, List.take_length] at this

/-- The top digit of a canonical list is not zero, so its value is at least the power below its length. -/
theorem canon_ge {l : List Nat} (h : Canon l) (hl : l ≠ []) : pw (l.length - 1) ≤ val l := by
  have h0 : l.length ≠ 0 := fun e => hl (List.eq_nil_of_length_eq_zero e)
  have hz : l.getD (l.length - 1) 0 ≠ 0 := by
    rcases (canon_iff l).1 h with h1 | h1
    · exact absurd h1 h0
    · exact h1
  have e : val l = val (l.take (l.length - 1 + 1)) := by rw [List.take_of_length_le (by omega)]
  rw [e, val_take_succ]
  have : pw (l.length - 1) * 1 ≤ pw (l.length - 1) * l.getD (l.length - 1) 0 := Nat.mul_le_mul_left _ (by omega)
  omega

theorem val_lt_of_len {a b : List Nat} (ha : Dig a) (hb : Canon b) (h : a.length < b.length) : val a < val b := by
  have h1 := val_lt ha
  have h2 := pw_mono (show a.length ≤ b.length - 1 by omega)
  have h3 := canon_ge hb (by intro e; subst e; simp at h)
  omega

/-- l is the list of the digits of n. -/
def NatIs (l : List Nat) (n : Nat) : Prop := Dig l ∧ Canon l ∧ val l = n

theorem NatIs.dig {l : List Nat} {n : Nat} (h : NatIs l n) : Dig l := h.1
theorem NatIs.canon {l : List Nat} {n : Nat} (h : NatIs l n) : Canon l := h.2.1
theorem NatIs.val {l : List Nat} {n : Nat} (h : NatIs l n) : val l = n := h.2.2
theorem NatIs.nil : NatIs [] 0 := ⟨Dig.nil, Canon.nil, rfl⟩
theorem natIs_trimL {l : List Nat} (h : Dig l) : NatIs (trimL l) (val l) := ⟨h.trimL, canon_trimL l, val_trimL l⟩
theorem length_le_of_lt {l : List Nat} {k : Nat} (hc : Canon l) (h : val l < pw k) : l.length ≤ k := by
  by_cases hn : l = []
  · subst hn; simp
  · have h1 := canon_ge hc hn
    rcases Nat.lt_or_ge k l.length with h2 | h2
    · have := pw_mono (show k ≤ l.length - 1 by omega)
      omega
    · exact h2
theorem NatIs.len_eq {a b : List Nat} {n : Nat} (ha : NatIs a n) (hb : NatIs b n) : a.length = b.length := by
  have h1 := length_le_of_lt (k := b.length) ha.canon (by rw [ha.val, ← hb.val]; exact val_lt hb.dig)
  have h2 := length_le_of_lt (k := a.length) hb.canon (by rw [hb.val, ← ha.val]; exact val_lt ha.dig)
  omega
theorem NatIs.uniq {a b : List Nat} {n : Nat} (ha : NatIs a n) (hb : NatIs b n) : a = b :=
  val_inj ha.dig hb.dig (ha.len_eq hb) (by rw [ha.val, hb.val])
theorem NatIs.zero_iff {l : List Nat} {n : Nat} (h : NatIs l n) : l = [] ↔ n = 0 := by
  constructor
  · rintro rfl; exact h.val.symm
  · rintro rfl; exact h.uniq NatIs.nil
theorem NatIs.pos {l : List Nat} {n : Nat} (h : NatIs l n) (hn : 0 < n) : 0 < l.length := by
  rcases Nat.eq_zero_or_pos l.length with h0 | h0
  · have := (h.zero_iff).1 (List.eq_nil_of_length_eq_zero h0)
    omega
  · exact h0

/-- The digits of a number. -/
def dg : Nat → Nat → List Nat
  | 0, _ => []
  | f + 1, n => if n = 0 then [] else n % 4294967296 :: dg f (n / 4294967296)
def digs (n : Nat) : List Nat := dg n n
theorem canon_cons {d : Nat} {l : List Nat} (h : Canon l) (hd : d ≠ 0 ∨ l ≠ []) : Canon (d :: l) := by
  unfold Canon at *
  cases l with
  | nil => simpa using hd
  | cons x l => simpa [List.getLast?_cons_cons] using h
theorem natIs_dg : ∀ (f n : Nat), n ≤ f → NatIs (dg f n) n
  | 0, n, h => by
    have : n = 0 := by omega
    subst this; exact NatIs.nil
  | f + 1, n, h => by
    simp only [dg]
    split
    · rename_i h0; subst h0; exact NatIs.nil
    · have ih := natIs_dg f (n / 4294967296) (by omega)
      refine ⟨Dig.cons (Nat.mod_lt _ (by omega)) ih.dig, canon_cons ih.canon ?_, ?_⟩
      · by_cases hq : n / 4294967296 = 0
        · left; omega
        · right; intro e; exact hq ((ih.zero_iff).1 e)
      · simp only [Plain.val, ih.val]; omega
theorem natIs_digs (n : Nat) : NatIs (digs n) n := natIs_dg n n (Nat.le_refl _)
theorem NatIs.eq_digs {l : List Nat} {n : Nat} (h : NatIs l n) : l = digs n := h.uniq (natIs_digs n)
theorem digs_len {n k : Nat} (h : n < pw k) : (digs n).length ≤ k := length_le_of_lt (natIs_digs n).canon (by rw [(natIs_digs n).val]; exact h)

/-- The sign of a comparison. -/
def cmpI (m n : Nat) : Int := if m < n then -1 else if n < m then 1 else 0
theorem cmpI_lt {m n : Nat} (h : m < n) : cmpI m n = -1 := if_pos h
theorem cmpI_gt {m n : Nat} (h : n < m) : cmpI m n = 1 := by unfold cmpI; rw [if_neg (by omega), if_pos h]
theorem cmpI_eq {m n : Nat} (h : m = n) : cmpI m n = 0 := by unfold cmpI; rw [if_neg (by omega), if_neg (by omega)]
theorem cmpI_bd (m n : Nat) : -1 ≤ cmpI m n ∧ cmpI m n ≤ 1 := by
  unfold cmpI
  split
  · omega
  · split <;> omega
theorem cmpI_neg_iff (m n : Nat) : cmpI m n < 0 ↔ m < n := by
  unfold cmpI
  split
  · omega
  · split <;> omega

end Go.Proofs.Ytghpcimeobmonaa.Plain
/- Small words for memory: slices that read as lists of digits; blocks of the call's own. -/
namespace Go.Proofs.Ytghpcimeobmonaa
set_option linter.unusedVariables false
set_option linter.unusedSimpArgs false
open Go.RowKit Plain

/-- The cells from address a on hold f applied to the list. -/
def At (w : World) (a : Addr) (xs : List Value) : Prop := a.block < w.heap.size ∧ ∀ (j : Nat) (h : j < xs.length), w.cell? (a.add j) = some xs[j]

theorem block_add (a : Addr) (n : Nat) : (a.add n).block = a.block := by unfold Addr.add; split <;> rfl
theorem add_add (a : Addr) (i j : Nat) : (a.add i).add j = a.add (i + j) := by
  unfold Addr.add
  by_cases hi : i = 0 <;> by_cases hj : j = 0 <;> simp [hi, hj, Nat.add_assoc]

theorem cell0 {w : World} {a : Addr} {u : Value} (h : w.cell? (a.add 0) = some u) : w.cell? a = some u := by simpa [Addr.add] using h
theorem cellK {w : World} {a : Addr} {u : Value} {k : Nat} (h : w.cell? (a.add k) = some u) (hk : k ≠ 0) : w.cell? ⟨a.block, a.off + k, none⟩ = some u := by simpa [Addr.add, hk] using h
theorem At.below {w w' : World} {a : Addr} {xs : List Value} (h : At w a xs) (hb : Below w.heap.size w w') : At w' a xs :=
  ⟨Nat.lt_of_lt_of_le h.1 hb.size, fun j hj => (hb.cell (by rw [block_add]; exact h.1)).trans (h.2 j hj)⟩

/-- A slice value (its address may be nil or anything where it is empty) that reads as the list xs. -/
def Sl (w : World) (A : Option Addr) (xs : List Value) : Prop := 0 < xs.length → ∃ a, A = some a ∧ At w a xs
theorem Sl.below {w w' : World} {A : Option Addr} {xs : List Value} (h : Sl w A xs) (hb : Below w.heap.size w w') : Sl w' A xs := fun hx => by
  obtain ⟨a, e, h1⟩ := h hx
  exact ⟨a, e, h1.below hb⟩

theorem wrap_u64 (n : Int) : IntKind.u64.wrap n = n % 18446744073709551616 := by simp [IntKind.wrap, IntKind.bits, IntKind.signed]
theorem wrap_i64_id (n : Int) (h1 : 0 ≤ n) (h2 : n < 9223372036854775808) : IntKind.i64.wrap n = n := by rw [IntKind.wrap_i64]; omega
theorem mul_le {a b : Nat} (ha : a < 4294967296) (hb : b < 4294967296) : a * b ≤ 18446744065119617025 := Nat.mul_le_mul (show a ≤ 4294967295 by omega) (show b ≤ 4294967295 by omega)
/-- A product of two digits and two digits more: no sum wraps. -/
theorem mul_add_fits {a b h c : Nat} (ha : a < 4294967296) (hb : b < 4294967296) (hh : h < 4294967296) (hc : c < 4294967296) :
    ∃ p : Nat, Hid (a * b = p) ∧ p ≤ 18446744065119617025 ∧ IntKind.u64.wrap ((a : Int) * (b : Int)) = (p : Int) ∧ IntKind.u64.wrap ((p : Int) + (h : Int)) = (p : Int) + (h : Int) ∧ IntKind.u64.wrap ((p : Int) + (h : Int) + (c : Int)) = (p : Int) + (h : Int) + (c : Int) := by
  have hp := mul_le ha hb
  refine ⟨a * b, rfl, hp, ?_, ?_, ?_⟩
  · rw [wrap_u64, ← Int.natCast_mul]
    generalize a * b = p at *
    omega
  · rw [wrap_u64]
    generalize a * b = p at *
    omega
  · rw [wrap_u64]
    generalize a * b = p at *
    omega

/-- Digits as cells. -/
def u32s (l : List Nat) : List Value := l.map fun d : Nat => .int .u32 (d : Int)
theorem u32s_length (l : List Nat) : (u32s l).length = l.length := by simp [u32s]

/-- The slice (A, l.length) reads as the digits l. -/
def Rd (w : World) (A : Option Addr) (l : List Nat) : Prop := Sl w A (u32s l)
theorem u32s_append (a b : List Nat) : u32s (a ++ b) = u32s a ++ u32s b := by simp [u32s]
theorem u32s_get {l : List Nat} {k : Nat} (h : k < l.length) : (u32s l)[k]? = some (.int .u32 ((l.getD k 0 : Nat) : Int)) := by simp [u32s, List.getElem?_eq_getElem h]
theorem Rd.below {w w' : World} {A : Option Addr} {l : List Nat} (h : Rd w A l) (hb : Below w.heap.size w w') : Rd w' A l := Sl.below h hb
theorem Rd.at {w : World} {A : Option Addr} {l : List Nat} (h : Rd w A l) {k : Nat} (hk : k < l.length) :
    ∃ a d, A = some a ∧ a.block < w.heap.size ∧ w.cell? (a.add k) = some (.int .u32 ((d : Nat) : Int)) ∧ Hid (l.getD k 0 = d) := by
  obtain ⟨a, e, h1, h2⟩ := h (by rw [u32s_length]; omega)
  refine ⟨a, _, e, h1, ?_, rfl⟩
  rw [h2 k (by rw [u32s_length]; exact hk)]
  simp [u32s, List.getElem?_eq_getElem hk]
theorem World.drewN_drewN' (w : World) (a b : Nat) : (w.drewN a).drewN b = w.drewN (a + b) := World.drewN_drewN w a b
theorem Rd.take {w : World} {A : Option Addr} {l : List Nat} (h : Rd w A l) (k : Nat) : Rd w A (l.take k) := fun hx => by
  rw [u32s_length, List.length_take] at hx
  obtain ⟨a, e, h1, h2⟩ := h (by rw [u32s_length]; omega)
  refine ⟨a, e, h1, fun j hj => ?_⟩
  rw [u32s_length, List.length_take] at hj
  rw [h2 j (by rw [u32s_length]; omega)]
  simp [u32s]

/-- What a slice of digits is, as an argument or a result. -/
structure Nv (w : World) (A : Option Addr) (c : Nat) (l : List Nat) : Prop where
  len : l.length ≤ c
  big : l.length ≤ 70368744177664
  rd : Rd w A l
  dig : Dig l
theorem Nv.below {w w' : World} {A : Option Addr} {c : Nat} {l : List Nat} (h : Nv w A c l) (hb : Below w.heap.size w w') : Nv w' A c l := ⟨h.len, h.big, h.rd.below hb, h.dig⟩
theorem Nv.at {w : World} {A : Option Addr} {c : Nat} {l : List Nat} (h : Nv w A c l) {k : Nat} (hk : k < l.length) :
    ∃ a d, A = some a ∧ a.block < w.heap.size ∧ w.cell? (a.add k) = some (.int .u32 ((d : Nat) : Int)) ∧ d < 4294967296 ∧ Hid (l.getD k 0 = d) := by
  obtain ⟨a, d, h1, h2, h3, h4⟩ := h.rd.at hk
  refine ⟨a, d, h1, h2, h3, ?_, h4⟩
  rw [← h4.out]; exact h.dig.getD k

theorem nv_nil' (w : World) : Nv w none 0 [] := ⟨by simp, by simp, fun hx => by simp [u32s] at hx, Dig.nil⟩
/-- A block of the call's own that holds the digits l and nothing else. -/
def Row (w : World) (g : Nat) (l : List Nat) : Prop := w.heap[g]? = some (.cells (u32s l).toArray 62 (0, 0))
section
variable {w w' : World} {g : Nat} {l : List Nat}
theorem Row.lt (h : Row w g l) : g < w.heap.size := by
  rcases Nat.lt_or_ge g w.heap.size with hlt | hge
  · exact hlt
  · unfold Row at h; rw [Array.getElem?_eq_none hge] at h; cases h
theorem Row.cell (h : Row w g l) {i : Nat} (hi : i < l.length) : w.cell? ⟨g, i, none⟩ = some (.int .u32 ((l.getD i 0 : Nat) : Int)) := by
  unfold Row at h
  simp only [World.cell?, h]
  have := u32s_get hi
  simpa using this
theorem Row.cell' (h : Row w g l) (hd : Dig l) {i : Nat} (hi : i < l.length) : ∃ d, w.cell? ⟨g, i, none⟩ = some (.int .u32 ((d : Nat) : Int)) ∧ d < 4294967296 ∧ Hid (l.getD i 0 = d) :=
  ⟨_, h.cell hi, hd.getD i, rfl⟩
theorem Row.free (h : Row w g l) (i : Nat) : w.frozen? ⟨g, i, none⟩ = false := by
  unfold Row at h
  simp [World.frozen?, h]
theorem Row.set (h : Row w g l) (i d : Nat) : Row (w.setCell ⟨g, i, none⟩ (.int .u32 (d : Int))) g (l.set i d) := by
  unfold Row at h ⊢
  simp [World.setCell, Array.getElem?_modify, h, u32s, List.map_set]
theorem Row.keep (h : Row w g l) {B : Nat} (hb : Below B w w') (hg : g < B) : Row w' g l := (hb.block g hg).trans h
theorem Row.far (h : Row w g l) {p : Addr} (hp : g ≠ p.block) (u : Value) : Row (w.setCell p u) g l := (Below.heap_setCell w p u g hp).trans h
theorem Row.new (w : World) (l : List Nat) : Row (w.alloc (.cells (u32s l).toArray 62)) w.heap.size l := heap_alloc_new w _
theorem Row.eq (h : Row w g l) {l' : List Nat} (e : l = l') : Row w g l' := e ▸ h
theorem set_mid (o : List Nat) (d x : Nat) (z : List Nat) : (o ++ d :: z).set o.length x = o ++ x :: z := by
  induction o with
  | nil => rfl
  | cons y o ih => simp [ih]
/-- The next digit is written: the head of what is left. -/
theorem Row.push {o z : List Nat} {d x k : Nat} (h : Row w g (o ++ d :: z)) (hk : o.length = k) (v : Int) (hv : v = (x : Int)) : Row (w.setCell ⟨g, k, none⟩ (.int .u32 v)) g ((o ++ [x]) ++ z) := by
  subst hv hk
  exact (h.set o.length x).eq (by rw [set_mid]; simp)
theorem rep_succ {n k : Nat} (h : k < n) : List.replicate (n - k) 0 = (0 : Nat) :: List.replicate (n - (k + 1)) 0 := by
  obtain ⟨m, hm⟩ : ∃ m, n - k = m + 1 := ⟨n - k - 1, by omega⟩
  rw [hm, List.replicate_succ, show n - (k + 1) = m by omega]
theorem add_zero_ (g i : Nat) : (⟨g, 0, none⟩ : Addr).add i = ⟨g, i, none⟩ := by unfold Addr.add; split <;> simp_all
theorem Row.rd (h : Row w g l) : Rd w (some ⟨g, 0, none⟩) l := fun hx => by
  refine ⟨_, rfl, h.lt, fun j hj => ?_⟩
  rw [u32s_length] at hj
  rw [add_zero_, h.cell hj]
  have := u32s_get hj
  rw [List.getElem?_eq_getElem (by rw [u32s_length]; exact hj)] at this
  exact this.symm
end

theorem infoU32 : (Try.prog.info? 62).map (fun i => (i.zero, i.size, i.bytes)) = some (some (.int .u32 0), 1, 4) := by kernel_rfl
theorem made_u32 (n : Nat) : madeCells #[.int .u32 0] n = (u32s (List.replicate n 0)).toArray := by
  apply Array.ext'
  rw [toList_madeCells_one]
  simp [u32s]
/-- 'make(api.Nat, n)'. -/
theorem make_u32 (w : World) (n : Nat) (k : IntKind) (L : Int) (hL : L = (n : Int)) (hn : n ≤ 70368744177664) :
    (Instr.makeSlice 23 (.int k L) (.int k L)).run Try.prog w = .ok (.slice (some ⟨w.heap.size, 0, none⟩) n n) (w.alloc (.cells (u32s (List.replicate n 0)).toArray 62)) := by
  obtain ⟨i, hi, hz0, hz1, hz2⟩ := info_parts infoU32
  subst hL
  have hr := run_make (P := Try.prog) w 23 62 i (.int .u32 0) Try.underlying23 hi hz0 k k n n (by omega) (by omega) (by rw [hz2]; omega) (by omega)
  rw [hr, hz1, Nat.mul_one, Int.toNat_natCast, ← made_u32]
  rfl

/-- The address, if there is one, lies in a block of uint32. -/
def U32Blk (w : World) (A : Option Addr) : Prop := ∀ a, A = some a → ∃ cs, w.heap[a.block]? = some (.cells cs 62 (0, 0))
theorem Row.u32 {w : World} {g i : Nat} {l : List Nat} (h : Row w g l) : U32Blk w (some ⟨g, i, none⟩) := fun a e => by
  cases e; exact ⟨_, h⟩
/-- The result of a call that returns the number n, in at most m digits. -/
def RetNat (n m : Nat) (W : World) (e : Ending) (w' : World) : Prop :=
  ∃ A c l, e = .returned (.slice A l.length c) ∧ Nv w' A c l ∧ NatIs l n ∧ l.length ≤ m ∧ Below W.heap.size W w'
end Go.Proofs.Ytghpcimeobmonaa
namespace Go.Proofs.Ytghpcimeobmonaa
set_option linter.unusedVariables false
set_option linter.unusedSimpArgs false
open Go.RowKit Plain

set_option maxRecDepth 100000 in
set_option maxHeartbeats 400000 in
theorem trim_any (A : Option Addr) (c : Nat) (l : List Nat) (w : World) (h : Rd w A l) (hc : l.length ≤ c) (hm : l.length ≤ 70368744177664) :
    Calls Try.prog 76 #[.slice A l.length c] w fun e w' => e = .returned (.slice A (trimN l l.length) (trimN l l.length)) ∧ w = w' := by
  go_enter Try.func76, Try.ntmps76
  go_wp2
  go_loop [3] (fun n => ∃ k : Nat, k ≤ l.length ∧ n = .int .i64 k ∧ Hid (trimN l l.length = trimN l k)) (fun n => (intOf n).toNat)
  case atStart => exact ⟨_, Nat.le_refl _, rfl, rfl⟩
  case round =>
    obtain ⟨k, hk, rfl, hr⟩ := hrel
    rcases Nat.eq_zero_or_pos k with h0 | h0
    · subst h0
      go_wp2
      go_ret
      refine ⟨?_, rfl⟩
      rw [hr.out]
      rfl
    · obtain ⟨a, d, rfl, hb, hcell, hd⟩ := h.at (k := k - 1) (by omega)
      by_cases hz : d = 0
      · have e1 := Lib.hid (hr.out.trans (trimN_step h0 (hd.out.trans hz)))
        subst hz
        go_wp2
        go_round
        case rel => exact ⟨k - 1, by omega, by go_num, e1⟩
        case measure => simp [intOf]; omega
      · have e1 := Lib.hid (hr.out.trans (trimN_stop h0 (by rw [hd.out]; exact hz)))
        have hz' : ((d : Int) == 0) = false := by rw [beq_eq_false_iff_ne]; omega
        go_wp2
        go_ret
        refine ⟨?_, rfl⟩
        rw [e1.out]
        rfl

/-- 'trim' of a block of the call's own: the digits of its number. -/
theorem trim_row {g n : Nat} {l : List Nat} {w : World} (h : Row w g l) (hn : l.length = n) (hd : Dig l) (hm : n ≤ 70368744177664) :
    Calls Try.prog 76 #[.slice (some ⟨g, 0, none⟩) n n] w fun e w' => ∃ l', e = .returned (.slice (some ⟨g, 0, none⟩) l'.length l'.length) ∧ Nv w (some ⟨g, 0, none⟩) l'.length l' ∧ NatIs l' (val l) ∧ l'.length ≤ n ∧ w = w' := by
  subst hn
  refine (trim_any _ _ _ _ h.rd (Nat.le_refl _) hm).mono ?_
  rintro e w' ⟨rfl, rfl⟩
  refine ⟨trimL l, ?_, ⟨Nat.le_refl _, by rw [trimL_length]; have := trimN_le l l.length; omega, h.rd.take _, hd.trimL⟩, natIs_trimL hd, by rw [trimL_length]; exact trimN_le _ _, rfl⟩
  rw [trimL_length]
end Go.Proofs.Ytghpcimeobmonaa
/- natural.Valid, FromUint, Uint, Cmp: what each call does. -/
namespace Go.Proofs.Ytghpcimeobmonaa
set_option linter.unusedVariables false
set_option linter.unusedSimpArgs false
open Go.RowKit Plain

theorem trim_nv {A : Option Addr} {c : Nat} {l : List Nat} {w : World} (h : Nv w A c l) :
    Calls Try.prog 76 #[.slice A l.length c] w fun e w' => ∃ l', e = .returned (.slice A l'.length l'.length) ∧ Nv w A l'.length l' ∧ NatIs l' (val l) ∧ l'.length ≤ l.length ∧ w = w' := by
  refine (trim_any _ _ _ _ h.rd h.len h.big).mono ?_
  rintro e w' ⟨rfl, rfl⟩
  have hle := trimN_le l l.length
  refine ⟨trimL l, ?_, ⟨Nat.le_refl _, by rw [trimL_length]; have := h.big; omega, h.rd.take _, h.dig.trimL⟩, natIs_trimL h.dig, by rw [trimL_length]; exact hle, rfl⟩
  rw [trimL_length]

def validL (l : List Nat) : Bool := decide (trimN l l.length = l.length)
set_option maxRecDepth 100000 in
set_option maxHeartbeats 400000 in
theorem valid_any {A : Option Addr} {c : Nat} {l : List Nat} {w : World} (h : Nv w A c l) :
    Calls Try.prog 72 #[.slice A l.length c] w fun e w' => e = .returned (.bool (validL l)) ∧ w = w' := by
  have hb := h.big
  have hle := trimN_le l l.length
  go_enter Try.func72, Try.ntmps72
  go_wp2_with fail
  refine (trim_any _ _ _ _ h.rd h.len h.big).mono ?_
  rintro e w' ⟨rfl, rfl⟩
  go_wp2
  go_ret
  refine ⟨?_, rfl⟩
  unfold validL
  show Ending.returned (.bool ((trimN l l.length : Int) == (l.length : Int))) = _
  congr 2
  rw [Bool.eq_iff_iff]
  simp only [beq_iff_eq, decide_eq_true_eq]
  omega

theorem below_drewN {B : Nat} {a w : World} (h : Below B a w) (n : Nat) : Below B a (w.drewN n) := ⟨h.os, h.tape, h.output, h.size, h.block⟩

theorem row_alloc (w : World) {cs : Array Value} {l : List Nat} (e : cs = (u32s l).toArray) : Row (w.alloc (.cells cs 62)) w.heap.size l := by
  subst e; exact Row.new w l
theorem row_of {w : World} {g : Nat} {cs : Array Value} {l : List Nat} (h : w.heap[g]? = some (.cells cs 62 (0, 0))) (e : cs = (u32s l).toArray) : Row w g l := by
  subst e; exact h

theorem val_two (x : Nat) (hx : x < pw 2) : val [x % 4294967296, x / 4294967296 % 4294967296] = x := by
  simp only [val, pw] at *
  omega

set_option maxRecDepth 100000 in
set_option maxHeartbeats 400000 in
theorem fromUint_any (x : Nat) (w : World) (hx : x < pw 2) :
    Calls Try.prog 50 #[.int .u64 (x : Int)] w (RetNat x 2 w) := by
  have hrow := row_alloc w (cs := #[Value.int IntKind.u32 ((x : Int) % 4294967296), Value.int IntKind.u32 ((x : Int) / 4294967296 % 4294967296)]) (l := [x % 4294967296, x / 4294967296 % 4294967296]) (by simp [u32s])
  have hd : Dig [x % 4294967296, x / 4294967296 % 4294967296] := Dig.cons (by omega) (Dig.cons (by omega) Dig.nil)
  have hv := Lib.hid (val_two x hx)
  clear hx
  go_enter Try.func50, Try.ntmps50
  go_wp2_with fail
  refine (trim_row hrow rfl hd (by simp)).mono ?_
  rintro e w' ⟨l', rfl, h1, h2, h3, rfl⟩
  go_wp2
  go_ret
  exact ⟨_, _, _, rfl, h1, hv.out ▸ h2, h3, (Below.refl _ _).alloc (Nat.le_refl _) _⟩

def uintOf (n : Nat) : Nat := if n < pw 2 then n else 0
def isUint (n : Nat) : Bool := decide (n < pw 2)
theorem uint_small {l : List Nat} (hd : Dig l) (h : l.length ≤ 2) : uintOf (val l) = val l ∧ isUint (val l) = true := by
  have : val l < pw 2 := Nat.lt_of_lt_of_le (val_lt hd) (pw_mono h)
  exact ⟨if_pos this, decide_eq_true this⟩
theorem uint_big {l : List Nat} (hc : Canon l) (h : 2 < l.length) : uintOf (val l) = 0 ∧ isUint (val l) = false := by
  have h1 := canon_ge hc (by intro e; subst e; simp at h)
  have h2 := pw_mono (show 2 ≤ l.length - 1 by omega)
  have : ¬ val l < pw 2 := by omega
  exact ⟨if_neg this, decide_eq_false this⟩

theorem or_join (d0 d1 : Nat) (h0 : d0 < 4294967296) (h1 : d1 < 4294967296) : bits .or .u64 ((d1 : Int) * 4294967296) (d0 : Int) = ((d0 + 4294967296 * d1 : Nat) : Int) := by
  have := u64_or_nat (d1 * 4294967296) d0 (by omega) (by omega)
  rw [nat_join 32 _ _ (by simp) (by simpa using h0)] at this
  rw [show ((d1 : Int) * 4294967296) = ((d1 * 4294967296 : Nat) : Int) by omega, this]
  omega

set_option maxRecDepth 100000 in
set_option maxHeartbeats 400000 in
theorem uint_any {A : Option Addr} {c : Nat} {l : List Nat} {w : World} (h : Nv w A c l) :
    Calls Try.prog 89 #[.slice A l.length c] w fun e w' => e = .returned (.tuple #[.int .u64 ((uintOf (val l) : Nat) : Int), .bool (isUint (val l))]) ∧ Below w.heap.size w w' := by
  go_enter Try.func89, Try.ntmps89
  go_wp2_with fail
  refine (trim_nv h).mono ?_
  rintro e w' ⟨l', rfl, h1, h2, h3, rfl⟩
  have hv := Lib.hid h2.val
  have hc := h2.canon
  clear h2 h3
  rcases l' with _ | ⟨d0, _ | ⟨d1, _ | ⟨d2, t⟩⟩⟩
  · have hu := Lib.hid (uint_small h1.dig (by simp))
    go_wp2
    go_ret2
    rw [← hv.out, hu.out.1, hu.out.2]
    exact ⟨rfl, Below.refl _ _⟩
  · have hu := Lib.hid (uint_small h1.dig (by simp))
    obtain ⟨a, d, rfl, hab, hac, hda, hga⟩ := h1.at (k := 0) (by simp)
    have hac' := cell0 hac
    go_wp2
    go_ret2
    rw [← hv.out, hu.out.1, hu.out.2]
    have := hga.out
    simp only [List.getD_cons_zero] at this
    subst this
    exact ⟨by simp [val], Below.refl _ _⟩
  · have hu := Lib.hid (uint_small h1.dig (by simp))
    obtain ⟨a, e0, rfl, hab, hac, hda, hga⟩ := h1.at (k := 0) (by simp)
    obtain ⟨b, e1, hb, hbb, hbc, hdb, hgb⟩ := h1.at (k := 1) (by simp)
    cases hb
    have hac' := cell0 hac
    have hbc' := cellK hbc (by omega)
    have hor := or_join e0 e1 hda hdb
    go_wp2
    go_quiet (fail)
    go_wp2
    go_ret2
    rw [← hv.out, hu.out.1, hu.out.2]
    have e0' := hga.out
    have e1' := hgb.out
    simp only [List.getD_cons_zero, List.getD_cons_succ] at e0' e1'
    subst e0' e1'
    exact ⟨by simp [val], below_drewN (Below.refl _ _) _⟩
  · have hu := Lib.hid (uint_big hc (by simp))
    go_wp2
    go_ret2
    rw [← hv.out, hu.out.1, hu.out.2]
    exact ⟨rfl, Below.refl _ _⟩

theorem cmp_at_lt {l1 l2 : List Nat} {m n j j1 : Nat} (n1 : NatIs l1 m) (n2 : NatIs l2 n) (h1 : j < l1.length) (h2 : j < l2.length) (hj : j1 = j + 1) (hd : Hid (l1.drop j1 = l2.drop j1)) (h : l1.getD j 0 < l2.getD j 0) : cmpI m n = -1 := by
  subst hj
  exact cmpI_lt (by rw [← n1.val, ← n2.val]; exact val_lt_at n1.dig h1 h2 hd.out h)
theorem cmp_at_gt {l1 l2 : List Nat} {m n j j1 : Nat} (n1 : NatIs l1 m) (n2 : NatIs l2 n) (h1 : j < l1.length) (h2 : j < l2.length) (hj : j1 = j + 1) (hd : Hid (l1.drop j1 = l2.drop j1)) (h : l2.getD j 0 < l1.getD j 0) : cmpI m n = 1 := by
  subst hj
  exact cmpI_gt (by rw [← n1.val, ← n2.val]; exact val_lt_at n2.dig h2 h1 hd.out.symm h)
theorem cmp_at_eq {l1 l2 : List Nat} {j j1 : Nat} (h1 : j < l1.length) (h2 : j < l2.length) (hj : j1 = j + 1) (hd : Hid (l1.drop j1 = l2.drop j1)) (h : l1.getD j 0 = l2.getD j 0) : l1.drop j = l2.drop j := by
  subst hj
  exact drop_eq_of h1 h2 hd.out h

def CmpInv (l1 l2 : List Nat) (w : World) (i : Value) (wr : World) : Prop :=
  ∃ k : Nat, k ≤ l1.length ∧ i = .int .i64 k ∧ Hid (l1.drop (l1.length - k) = l2.drop (l1.length - k)) ∧ Below w.heap.size w wr

set_option maxRecDepth 100000 in
set_option maxHeartbeats 400000 in
theorem cmp_any {A B : Option Addr} {ca cb : Nat} {la lb : List Nat} {w : World} (ha : Nv w A ca la) (hb : Nv w B cb lb) :
    Calls Try.prog 49 #[.slice A la.length ca, .slice B lb.length cb] w fun e w' => e = .returned (.int .i64 (cmpI (val la) (val lb))) ∧ Below w.heap.size w w' := by
  go_enter Try.func49, Try.ntmps49
  go_wp2_with fail
  refine (trim_nv ha).mono ?_
  rintro e w' ⟨l1, rfl, h1, n1, b1, rfl⟩
  go_wp2_with fail
  refine (trim_nv hb).mono ?_
  rintro e w' ⟨l2, rfl, h2, n2, b2, rfl⟩
  clear b1 b2 ha hb
  have hg1 := h1.big
  have hg2 := h2.big
  rcases Nat.lt_trichotomy l1.length l2.length with hl | hl | hl
  · have hf := Lib.hid (cmpI_lt (n1.val ▸ n2.val ▸ val_lt_of_len h1.dig n2.canon hl))
    have hne : (((l1.length : Nat) : Int) != ((l2.length : Nat) : Int)) = true := by rw [bne_iff_ne]; omega
    go_wp2
    go_ret
    refine ⟨?_, Below.refl _ _⟩
    rw [hf.out]; rfl
  · have hne : (((l1.length : Nat) : Int) != ((l2.length : Nat) : Int)) = false := by rw [bne_eq_false_iff_eq]; omega
    have hl' := Lib.hid hl
    have hle : l1.length ≤ l2.length := by omega
    clear hl
    go_wp2
    go_loopw [23] (fun i wr => CmpInv l1 l2 w i wr) (fun i _ => l1.length - (intOf i).toNat)
    case atStart => exact ⟨0, by omega, rfl, by show l1.drop _ = l2.drop _; rw [List.drop_of_length_le (by omega), List.drop_of_length_le (by rw [← hl'.out]; omega)], Below.refl _ _⟩
    case round =>
      obtain ⟨k, hk, rfl, hd, hbel⟩ := hrel
      by_cases hkl : k < l1.length
      · obtain ⟨a, d, rfl, hab, hac, hda, hga⟩ := (h1.below hbel).at (k := l1.length - 1 - k) (by omega)
        obtain ⟨b, f, rfl, hbb, hbc, hdb, hgb⟩ := (h2.below hbel).at (k := l1.length - 1 - k) (by omega)
        rcases Nat.lt_trichotomy d f with hdf | hdf | hdf
        · have hf := Lib.hid (cmp_at_lt (j := l1.length - 1 - k) n1 n2 (by omega) (by omega) (by omega) hd (by rw [hga.out, hgb.out]; exact hdf))
          go_wp2
          go_quiet (fail)
          go_wp2
          go_ret
          refine ⟨?_, below_drewN hbel _⟩
          rw [hf.out]; rfl
        · subst hdf
          have hf := Lib.hid (cmp_at_eq (j := l1.length - 1 - k) (by omega) (by omega) (by omega) hd (by rw [hga.out, hgb.out]))
          go_wp2
          go_quiet (fail)
          go_wp2
          go_quiet (fail)
          go_wp2
          go_roundw
          case rel => exact ⟨k + 1, by omega, by go_num, by show l1.drop _ = l2.drop _; rw [show l1.length - (k + 1) = l1.length - 1 - k by omega]; exact hf.out, below_drewN hbel _⟩
          case measure => simp [intOf]; omega
        · have hf := Lib.hid (cmp_at_gt (j := l1.length - 1 - k) n1 n2 (by omega) (by omega) (by omega) hd (by rw [hga.out, hgb.out]; exact hdf))
          go_wp2
          go_quiet (fail)
          go_wp2
          go_quiet (fail)
          go_wp2
          go_ret
          refine ⟨?_, below_drewN (below_drewN hbel _) _⟩
          rw [hf.out]; rfl
      · have hk0 := Lib.hid (show l1.length - k = 0 by omega)
        have hf := Lib.hid (cmpI_eq (m := val la) (n := val lb) (by
          have := hd.out
          rw [hk0.out, List.drop_zero, List.drop_zero] at this
          rw [← n1.val, ← n2.val, this]))
        go_wp2
        go_ret
        refine ⟨?_, hbel⟩
        rw [hf.out]; rfl
  · have hf := Lib.hid (cmpI_gt (n1.val ▸ n2.val ▸ val_lt_of_len h2.dig n1.canon hl))
    have hne : (((l1.length : Nat) : Int) != ((l2.length : Nat) : Int)) = true := by rw [bne_iff_ne]; omega
    go_wp2
    go_ret
    refine ⟨?_, Below.refl _ _⟩
    rw [hf.out]; rfl
end Go.Proofs.Ytghpcimeobmonaa
/- append on a list of digits that the call itself holds. -/
namespace Go.Proofs.Ytghpcimeobmonaa
set_option linter.unusedVariables false
set_option linter.unusedSimpArgs false
open Go.RowKit Plain

/-- The value v is a list of digits of the call's own (nil, or a row from block base on). -/
def OwnD (w : World) (base : Nat) (v : Value) (l : List Nat) : Prop := w.ownsRow base 62 1 v l.length (u32s l)

theorem OwnD.nil (w : World) (base : Nat) : OwnD w base (.slice none 0 0) [] := World.ownsRow_nil w base _ _
theorem OwnD.eq {w : World} {base : Nat} {v : Value} {l l' : List Nat} (h : OwnD w base v l) (e : l = l') : OwnD w base v l' := e ▸ h
theorem OwnD.form {w : World} {base : Nat} {v : Value} {l : List Nat} (h : OwnD w base v l) : ∃ A c, v = .slice A l.length c ∧ l.length ≤ c ∧ Rd w A l := by
  rcases h.2 with ⟨rfl, h0⟩ | ⟨g, cap, cur, rfl, hb, hg, hn, hm, hs, ht⟩
  · have : l = [] := List.eq_nil_of_length_eq_zero h0
    subst this
    exact ⟨none, 0, rfl, by simp, fun hx => by simp [u32s] at hx⟩
  · refine ⟨_, cap, rfl, hn, fun hx => ⟨_, rfl, (Array.getElem?_eq_some_iff.1 hg).1, fun j hj => ?_⟩⟩
    have h2 : w.cell? ⟨g, j, none⟩ = (u32s l)[j]? := World.ownsRow.cellAt (n := l.length) (xs := u32s l) (e := 62) (size := 1) (base := base) (cap := cap) ⟨by simp [u32s], .inr ⟨g, cap, cur, rfl, hb, hg, hn, hm, hs, ht⟩⟩ j (by rw [u32s_length] at hj; omega)
    rw [add_zero_, h2, List.getElem?_eq_getElem hj]
theorem OwnD.nv {w : World} {base : Nat} {v : Value} {l : List Nat} (h : OwnD w base v l) (hd : Dig l) (hm : l.length ≤ 70368744177664) : ∃ A c, v = .slice A l.length c ∧ Nv w A c l := by
  obtain ⟨A, c, e, h1, h2⟩ := h.form
  exact ⟨A, c, e, h1, hm, h2, hd⟩
theorem OwnD.below {w w' : World} {base : Nat} {v : Value} {l : List Nat} (h : OwnD w base v l) (hb : Below w.heap.size w w') : OwnD w' base v l :=
  h.kept (row := none) ⟨hb.os, hb.tape, hb.output, hb.size, fun k hk _ => hb.block k hk⟩ (by cases hv : v.ownBlock <;> simp)
theorem OwnD.drewN {w : World} {base : Nat} {v : Value} {l : List Nat} (h : OwnD w base v l) (n : Nat) : OwnD (w.drewN n) base v l := h
theorem OwnD.alloc {w : World} {base : Nat} {v : Value} {l : List Nat} (h : OwnD w base v l) (o : Obj) : OwnD (w.alloc o) base v l := World.ownsRow.alloc h o
theorem OwnD.row {w : World} {base : Nat} {A : Option Addr} {n c : Nat} {l : List Nat} (h : OwnD w base (.slice A n c) l) (hl : 0 < l.length) : ∃ g, A = some ⟨g, 0, none⟩ ∧ n = l.length ∧ base ≤ g ∧ g < w.heap.size ∧
    (∀ j, j < l.length → w.cell? ⟨g, j, none⟩ = some (.int .u32 ((l.getD j 0 : Nat) : Int))) ∧ (∀ j, w.frozen? ⟨g, j, none⟩ = false) ∧
    ∀ (j x : Nat) (v : Int), v = (x : Int) → OwnD (w.setCell ⟨g, j, none⟩ (.int .u32 v)) base (.slice A n c) (l.set j x) := by
  rcases h.2 with ⟨e, h0⟩ | ⟨g, cap, cur, e, hb, hg, hn, hm, hs, ht⟩
  · omega
  · injection e with e1 e2 e3
    subst e1 e2 e3
    have hown : w.ownsRow base 62 1 (.slice (some ⟨g, 0, none⟩) l.length c) l.length (u32s l) := h
    refine ⟨g, rfl, rfl, hb, (Array.getElem?_eq_some_iff.1 hg).1, fun j hj => ?_, fun j => hown.frozenAt j, fun j x v hv => ?_⟩
    · rw [hown.cellAt j (by omega), u32s_get hj]
    · subst hv
      have h1 := (hown.stored j (.int .u32 (x : Int))).1
      unfold OwnD
      rw [List.length_set]
      have e : u32s (l.set j x) = (u32s l).set j (.int .u32 (x : Int)) := by simp [u32s, List.map_set]
      rw [e]
      exact h1
/-- 'api.Nat{}'. -/
theorem OwnD.empty (w : World) (base : Nat) (hb : base ≤ w.heap.size) : OwnD (w.alloc (.cells #[] 62)) base (.slice (some ⟨w.heap.size, 0, none⟩) 0 0) [] :=
  World.ownsRow_lit w #[] 0 hb (Nat.zero_le _) rfl
theorem Rd.alloc {w : World} {A : Option Addr} {l : List Nat} (h : Rd w A l) (o : Obj) : Rd (w.alloc o) A l := h.below ((Below.refl _ _).alloc (Nat.le_refl _) o)
theorem OwnD.ret {w W : World} {v : Value} {l : List Nat} {n m : Nat} (h : OwnD w W.heap.size v l) (hn : NatIs l n) (hm : l.length ≤ m) (hb : Below W.heap.size W w) (h46 : l.length ≤ 70368744177664) : RetNat n m W (.returned v) w := by
  obtain ⟨A, c, rfl, hv⟩ := h.nv hn.dig h46
  exact ⟨A, c, l, rfl, hv, hn, hm, hb⟩
/-- What 'Below' keeps where the one row that may have been written lies from base on. -/
theorem OwnD.grown_below {a w w' : World} {B base : Nat} {v : Value} {l : List Nat} (h : OwnD w base v l) (hb : Below B a w) (hg : w.grownBy w' v.ownBlock) (hB : B ≤ base) (hB2 : B ≤ w.heap.size) : Below B a w' :=
  hb.grown hg hB2 (fun k hk => by have := (World.ownsRow.lt h k hk).1; omega)

theorem own_snoc {w wr w2 : World} {v v' : Value} {o : List Nat} {x : Nat} {ob : Obj} (hown : OwnD wr w.heap.size v o) (hbel : Below w.heap.size w wr) (h2 : OwnD w2 w.heap.size v' (o ++ [x])) (hg : (wr.alloc ob).grownBy w2 v.ownBlock) : Below w.heap.size w w2 :=
  (hown.alloc ob).grown_below (hbel.alloc hbel.size ob) hg (Nat.le_refl _) (by have := hbel.size; simp; omega)

section
variable (w : World)
theorem run_app (base : Nat) (v : Value) (l : List Nat) (hown : OwnD w base v l) (A : Option Addr) (m c : Nat) (l2 : List Nat) (hr : Rd w A l2) (hm : l2.length = m) (h63 : l.length + m ≤ 1000000000000) (hbase : base ≤ w.heap.size) :
    ∃ v' w', (Builtin.append_ #[23, 23] 23 #[v, .slice A m c]).run Try.prog w = .ok v' w' ∧ OwnD w' base v' (l ++ l2) ∧ w.grownBy w' v.ownBlock := by
  subst hm
  obtain ⟨i, hi, hz0, hz1, hz2⟩ := info_parts infoU32
  by_cases h0 : l2 = []
  · subst h0
    rcases A with _ | ad
    · have hrun : (Builtin.append_ #[23, 23] 23 #[v, .slice none 0 c]).run Try.prog w = .ok v w := by
        rcases hown.2 with ⟨rfl, h0⟩ | ⟨g, cap, cur, rfl, _, _, hnc, _⟩
        · simp [Builtin.append_, run_underlying Try.underlying23, sizeOf, typeInfo, hi, Builtin.lenOf, Builtin.firstCells]
        · simp [Builtin.append_, run_underlying Try.underlying23, sizeOf, typeInfo, hi, Builtin.lenOf, Builtin.firstCells, hnc, storeCells]
      exact ⟨v, w, hrun, hown.eq (by simp), World.grownBy.refl w _⟩
    · obtain ⟨v', w', hrun, h2, h3, _⟩ := run_append_own (P := Try.prog) w base 23 23 62 i (.int .u32 0) 1 4 Try.underlying23 hi hz0 hz1 hz2 rfl (by decide) v l.length (u32s l) hown ad 0 c [] rfl (by simp) (by simp) (by unfold maxLen; omega) (by omega) hbase
      exact ⟨v', w', hrun, by simpa [OwnD] using h2, h3⟩
  · obtain ⟨ad, rfl, h1, h2⟩ := hr (by rw [u32s_length]; exact List.length_pos_iff.2 h0)
    obtain ⟨v', w', hrun, h4, h5, _⟩ := run_append_own (P := Try.prog) w base 23 23 62 i (.int .u32 0) 1 4 Try.underlying23 hi hz0 hz1 hz2 rfl (by decide) v l.length (u32s l) hown ad l2.length c (u32s l2) (by simp [u32s])
      (fun j u hu => by
        obtain ⟨hj, rfl⟩ := List.getElem?_eq_some_iff.1 hu
        exact h2 j hj) (by intro u hu; simp [u32s] at hu; obtain ⟨d, _, rfl⟩ := hu; rfl) (by unfold maxLen; omega) (by omega) hbase
    refine ⟨v', w', hrun, ?_, h5⟩
    unfold OwnD
    rw [u32s_append, List.length_append]
    exact h4

theorem wpList_app {ops : Array Oper} {rest : List Oper} {o : Oper} {a : Act} {Q : Exit → Act → World → Prop} (hgd : o.guard = none) (hty : o.type = 23) (s x : Operand)
    (ho : o.op = .call { callee := .builtin .append, args := #[s, x], argTypes := #[23, 23] })
    (base : Nat) (v : Value) (l : List Nat) (hs : a.eval s = v) (hown : OwnD w base v l) (A : Option Addr) (m c : Nat) (l2 : List Nat) (hx : a.eval x = .slice A m c) (hr : Rd w A l2) (hm : l2.length = m)
    (h63 : l.length + m ≤ 1000000000000) (hbase : base ≤ w.heap.size)
    (h : ∀ v' w', OwnD w' base v' (l ++ l2) → w.grownBy w' v.ownBlock → wpList Try.prog ops Q rest (a.put o.dst v') w') : wpList Try.prog ops Q (o :: rest) a w := by
  refine wpList_plain hgd fun K hK => ?_
  obtain ⟨v', w', hrun, h2, h3⟩ := run_app w base v l hown A m c l2 hr hm h63 hbase
  unfold Oper.wp execOp
  simp only [ho, hty, resolve, invoke, builtin, Sem.run_bind, Sem.run_pure, Result.andThen_ok, List.map_toArray, List.map_cons, List.map_nil, hs, hx, hrun]
  exact hK _ _ (h v' w' h2 h3)
end
end Go.Proofs.Ytghpcimeobmonaa
/- Blocks that are known whole; worlds in which one block alone has turned; fractions as values. -/
namespace Go.Proofs.Ytghpcimeobmonaa
set_option linter.unusedVariables false
set_option linter.unusedSimpArgs false
open Go.RowKit Plain

/-- Only block g has turned; blocks are new. -/
abbrev Only (w w' : World) (g : Nat) : Prop := w.grownBy w' (some g)
section
variable {w w' w'' : World} {g : Nat}
theorem Only.refl (w : World) (g : Nat) : Only w w g := World.grownBy.refl w _
theorem Only.trans (h : Only w w' g) (k : Only w' w'' g) : Only w w'' g :=
  ⟨k.os.trans h.os, k.tape.trans h.tape, k.output.trans h.output, Nat.le_trans h.size k.size, fun i hi hn => (k.block i (Nat.lt_of_lt_of_le hi h.size) hn).trans (h.block i hi hn)⟩
theorem Only.set (h : Only w w' g) (o : Nat) (u : Value) : Only w (w'.setCell ⟨g, o, none⟩ u) g :=
  ⟨h.os, h.tape, h.output, by simpa [World.setCell] using h.size, fun i hi hn => (Below.heap_setCell w' ⟨g, o, none⟩ u i (by rintro rfl; exact hn rfl)).trans (h.block i hi hn)⟩
theorem Only.drewN (h : Only w w' g) (n : Nat) : Only w (w'.drewN n) g := ⟨h.os, h.tape, h.output, h.size, h.block⟩
theorem Only.drew (h : Only w w' g) : Only w w'.drew g := ⟨h.os, h.tape, h.output, h.size, h.block⟩
theorem Only.alloc (h : Only w w' g) (o : Obj) : Only w (w'.alloc o) g :=
  ⟨h.os, h.tape, h.output, Nat.le_trans h.size (by simp), fun i hi hn => (Below.heap_alloc w' o i (Nat.lt_of_lt_of_le hi h.size)).trans (h.block i hi hn)⟩
theorem Only.of_below (h : Below w.heap.size w w') (g : Nat) : Only w w' g := ⟨h.os, h.tape, h.output, h.size, fun i hi _ => h.block i hi⟩
theorem Only.to_below {B : Nat} {a : World} (hb : Below B a w) (h : Only w w' g) (hg : B ≤ g) (hB : B ≤ w.heap.size) : Below B a w' :=
  hb.grown h hB (fun k hk => by simp at hk; omega)
/-- Written: the block g, or what is new. -/
theorem Only.set_new (h : Only w w' g) (p : Addr) (hp : p.block = g ∨ w.heap.size ≤ p.block) (u : Value) : Only w (w'.setCell p u) g :=
  ⟨h.os, h.tape, h.output, by simpa [World.setCell] using h.size, fun i hi hn => (Below.heap_setCell w' p u i (by
    rintro rfl
    rcases hp with hp | hp
    · exact hn (by rw [hp])
    · omega)).trans (h.block i hi hn)⟩
end
theorem OwnD.only {w w' : World} {base g : Nat} {v : Value} {l : List Nat} (h : OwnD w base v l) (hb : Only w w' g) (hg : g < base) : OwnD w' base v l :=
  h.kept (row := some g) hb (by
    rcases h.2 with ⟨rfl, _⟩ | ⟨g', cap, cur, rfl, hb', _⟩
    · simp [Value.ownBlock]
    · simp [Value.ownBlock]; omega)
theorem own_ge {w : World} {base i : Nat} {v : Value} {l : List Nat} (h : OwnD w base v l) (hi : i < base) : v.ownBlock ≠ some i := by
  rcases h.2 with ⟨rfl, _⟩ | ⟨g', cap, cur, rfl, hb', _⟩
  · simp [Value.ownBlock]
  · simp [Value.ownBlock]; omega
theorem app_only {w w2 w3 : World} {g : Nat} {v : Value} {o : List Nat} {ob : Obj} (h : Only w w2 g) (hown : OwnD w2 w.heap.size v o) (hg : (w2.alloc ob).grownBy w3 v.ownBlock) : Only w w3 g :=
  ⟨hg.os.trans h.os, hg.tape.trans h.tape, hg.output.trans h.output, Nat.le_trans h.size (Nat.le_trans (by simp) hg.size), fun i hi hn =>
    ((hg.block i (by have := h.size; simp; omega) (own_ge hown hi).symm).trans (Below.heap_alloc w2 ob i (Nat.lt_of_lt_of_le hi h.size))).trans (h.block i hi hn)⟩
abbrev fracV (neg : Bool) (A : Option Addr) (n c : Nat) (B : Option Addr) (m d : Nat) : Value := .agg #[.bool neg, .slice A n c, .slice B m d]
abbrev fracB (neg : Bool) (A : Option Addr) (n c : Nat) (B : Option Addr) (m d : Nat) : Obj := .cells #[.bool neg, .slice A n c, .slice B m d] 25
theorem cellsAt {w w' : World} {b : Nat} {B : Nat} (hb : Below B w w') (h : b < B) (o : Nat) : w'.cell? ⟨b, o, none⟩ = w.cell? ⟨b, o, none⟩ := hb.cell (p := ⟨b, o, none⟩) h

/-- A block that is known whole. -/
def Blk (w : World) (g : Nat) (t : TypeId) (cs : Array Value) : Prop := w.heap[g]? = some (.cells cs t (0, 0))
section
variable {w w' : World} {g : Nat} {t : TypeId} {cs : Array Value}
theorem Blk.lt (h : Blk w g t cs) : g < w.heap.size := by
  rcases Nat.lt_or_ge g w.heap.size with hlt | hge
  · exact hlt
  · unfold Blk at h; rw [Array.getElem?_eq_none hge] at h; cases h
theorem Blk.cell (h : Blk w g t cs) (i : Nat) : w.cell? ⟨g, i, none⟩ = cs[i]? := by
  unfold Blk at h
  simp [World.cell?, h]
theorem Blk.free (h : Blk w g t cs) (i : Nat) : w.frozen? ⟨g, i, none⟩ = false := by
  unfold Blk at h
  simp [World.frozen?, h]
theorem Blk.new (w : World) (t : TypeId) (cs : Array Value) : Blk (w.alloc (.cells cs t)) w.heap.size t cs := heap_alloc_new w _
theorem Blk.drew (h : Blk w g t cs) : Blk w.drew g t cs := h
theorem Blk.drewN (h : Blk w g t cs) (n : Nat) : Blk (w.drewN n) g t cs := h
theorem Blk.set (h : Blk w g t cs) (i : Nat) (u : Value) : Blk (w.setCell ⟨g, i, none⟩ u) g t (cs.setIfInBounds i u) := by
  unfold Blk at h ⊢
  simp [World.setCell, Array.getElem?_modify, h]
theorem Blk.far (h : Blk w g t cs) {p : Addr} (hp : g ≠ p.block) (u : Value) : Blk (w.setCell p u) g t cs := (Below.heap_setCell w p u g hp).trans h
theorem Blk.below {B : Nat} (h : Blk w g t cs) (hb : Below B w w') (hg : g < B) : Blk w' g t cs := (hb.block g hg).trans h
theorem Blk.keep (h : Blk w g t cs) (hb : Below w.heap.size w w') : Blk w' g t cs := h.below hb h.lt
theorem Blk.only {g' : Nat} (h : Blk w g t cs) (hb : Only w w' g') (hg : g ≠ g') : Blk w' g t cs := (hb.block g h.lt (by simpa using hg)).trans h
end
/-- A struct is boxed: the world behind it gets a letter. -/
theorem boxed (w : World) (cs : Array Value) (t : TypeId) : ∃ w0, w.alloc (.cells cs t) = w0 ∧ Below w.heap.size w w0 ∧ w.heap.size < w0.heap.size ∧ Blk w0 w.heap.size t cs :=
  ⟨_, rfl, (Below.refl _ _).alloc (Nat.le_refl _) _, by simp, Blk.new w t cs⟩
theorem Blk.f0 {w : World} {g : Nat} {t : TypeId} {a b c : Value} (h : Blk w g t #[a, b, c]) : w.cell? ⟨g, 0, none⟩ = some a := h.cell 0
theorem Blk.f1 {w : World} {g : Nat} {t : TypeId} {a b c : Value} (h : Blk w g t #[a, b, c]) : w.cell? ⟨g, 1, none⟩ = some b := h.cell 1
theorem Blk.f2 {w : World} {g : Nat} {t : TypeId} {a b c : Value} (h : Blk w g t #[a, b, c]) : w.cell? ⟨g, 2, none⟩ = some c := h.cell 2

theorem nvK {w w0 W : World} {A : Option Addr} {c : Nat} {l : List Nat} (h : Nv w A c l) (b : Below w.heap.size w w0) (hlt : w.heap.size < w0.heap.size) (k : Below w0.heap.size w0 W) : Nv W A c l := (h.below b).below k
theorem below_step {w0 W w3 : World} (h : Below w0.heap.size w0 W) (b3 : Below W.heap.size W w3) : Below w0.heap.size w0 w3 := h.trans (b3.mono h.size)
/-- The digits, if there are any, lie in a block of uint32. -/
def U32 (w : World) (A : Option Addr) (l : List Nat) : Prop := 0 < l.length → ∀ a, A = some a → ∃ cs, w.heap[a.block]? = some (.cells cs 62 (0, 0))
theorem U32.nil (w : World) (A : Option Addr) : U32 w A [] := fun h => by simp at h
theorem OwnD.u32 {w : World} {base n : Nat} {A : Option Addr} {c : Nat} {l : List Nat} (h : OwnD w base (.slice A n c) l) : U32 w A l := fun hl a e => by
  subst e
  rcases h.2 with ⟨_, h0⟩ | ⟨g, cap, cur, e, hb, hg, _⟩
  · omega
  · injection e with e1 _ _
    injection e1 with e1
    subst e1
    exact ⟨_, hg⟩
theorem OwnD.nv' {w : World} {base n : Nat} {A : Option Addr} {c : Nat} {l : List Nat} (h : OwnD w base (.slice A n c) l) (hd : Dig l) (hm : l.length ≤ 2000) : Nv w A c l := by
  obtain ⟨A', c', e, h1, h2⟩ := h.form
  injection e with e1 e2 e3
  subst e1 e3
  exact ⟨h1, by omega, h2, hd⟩
theorem Blk.set3 {w : World} {g : Nat} {t : TypeId} {a b c : Value} (h : Blk w g t #[a, b, c]) (x y z : Value) : ∃ w', ((w.setCell ⟨g, 0, none⟩ x).setCell ⟨g, 1, none⟩ y).setCell ⟨g, 2, none⟩ z = w' ∧ Blk w' g t #[x, y, z] ∧ Only w w' g :=
  ⟨_, rfl, ((h.set 0 x).set 1 y).set 2 z, (((Only.refl w g).set 0 x).set 1 y).set 2 z⟩
theorem Only.set3 {w0 w w' : World} {g rb : Nat} (h : Only w0 w g) (hr : w0.heap.size ≤ rb) (ho : Only w w' rb) : Only w0 w' g :=
  ⟨ho.os.trans h.os, ho.tape.trans h.tape, ho.output.trans h.output, Nat.le_trans h.size ho.size, fun i hi hn => (ho.block i (Nat.lt_of_lt_of_le hi h.size) (by simp; omega)).trans (h.block i hi hn)⟩
theorem OwnD.only_blk {w w' : World} {base f : Nat} {v : Value} {l : List Nat} {t : TypeId} {cs : Array Value} (h : OwnD w base v l) (hb : Blk w f t cs) (ht : 62 ≠ t) (ho : Only w w' f) : OwnD w' base v l :=
  h.kept (row := some f) ho (by
    rcases h.2 with ⟨rfl, _⟩ | ⟨g', cap, cur, rfl, _, hg, _⟩
    · exact .inl rfl
    · refine .inr fun e => ?_
      simp [Value.ownBlock] at e
      subst e
      unfold Blk at hb
      rw [hb] at hg
      simp at hg
      exact ht hg.2.symm)
def zeroB (l : List Nat) : Bool := decide (l = [])
theorem zeroB_len (l : List Nat) : (((l.length : Nat) : Int) == 0) = zeroB l := by
  unfold zeroB
  rw [Bool.eq_iff_iff, beq_iff_eq, decide_eq_true_eq]
  constructor
  · intro h; exact List.eq_nil_of_length_eq_zero (by omega)
  · rintro rfl; rfl
/-- Is it a fraction in lowest terms? -/
def vldF (neg : Bool) (la lb : List Nat) : Bool := validL la && (validL lb && (!zeroB lb && (!(neg && zeroB la) && decide (Nat.gcd (val la) (val lb) = 1))))

theorem cmp_one (n : Nat) : (cmpI n 1 == 0) = decide (n = 1) := by
  rw [Bool.eq_iff_iff, beq_iff_eq, decide_eq_true_eq]
  unfold cmpI
  split
  · omega
  · split <;> omega
theorem one_iff {l : List Nat} {n : Nat} (h : NatIs l n) : decide (l = [1]) = decide (n = 1) := by
  have h1 : NatIs [1] 1 := ⟨Dig.cons (by omega) Dig.nil, by simp [Canon], rfl⟩
  rw [decide_eq_decide]
  constructor
  · rintro rfl; rw [← h.val]; rfl
  · rintro rfl; exact h.uniq h1
theorem nv_one (W : World) : Nv (W.alloc (.cells #[Value.int IntKind.u32 1] 62)) (some ⟨W.heap.size, 0, none⟩) 1 [1] :=
  ⟨by simp, by simp, (row_alloc W (cs := #[Value.int IntKind.u32 1]) (l := [1]) rfl).rd, Dig.cons (by omega) Dig.nil⟩
theorem canon_of_validL {l : List Nat} (h : validL l = true) : Canon l := canon_of_trimN (by unfold validL at h; simpa using h)
end Go.Proofs.Ytghpcimeobmonaa
/- Fractions as rational numbers: plain arithmetic. No program in sight. -/
namespace Go.Proofs.Ytghpcimeobmonaa.Plain
set_option linter.unusedVariables false
set_option linter.unusedSimpArgs false

/-- A natural number with a sign. -/
def sg (neg : Bool) (n : Nat) : Int := if neg = true then -(n : Int) else (n : Int)
theorem sg_natAbs (neg : Bool) (n : Nat) : (sg neg n).natAbs = n := by
  unfold sg; split <;> simp
theorem sg_div {neg : Bool} {n g : Nat} (h : g ∣ n) : sg neg n / (g : Int) = sg neg (n / g) := by
  unfold sg
  split
  · rw [Int.neg_ediv_of_dvd (Int.natCast_dvd_natCast.2 h)]
    simp
  · simp
theorem sg_neg {neg : Bool} {n : Nat} : sg neg n < 0 ↔ neg = true ∧ 0 < n := by
  unfold sg
  split <;> rename_i h
  · simp [h]
    try omega
  · simp [h]
    try omega
theorem sg_zero {neg : Bool} {n : Nat} : sg neg n = 0 ↔ n = 0 := by
  unfold sg; split <;> omega
theorem sg_of (z : Int) : sg (decide (z < 0)) z.natAbs = z := by
  unfold sg
  by_cases h : z < 0
  · simp [h]; omega
  · simp [h]; omega
theorem sg_not (neg : Bool) (n : Nat) : sg (!neg) n = -sg neg n := by
  unfold sg; cases neg <;> simp
theorem sg_add (neg : Bool) (a b : Nat) : sg neg (a + b) = sg neg a + sg neg b := by
  unfold sg; cases neg <;> simp <;> omega
theorem sg_mul (p q : Bool) (a b : Nat) : sg p a * sg q b = sg (p != q) (a * b) := by
  unfold sg; cases p <;> cases q <;> simp [Int.mul_neg, Int.neg_mul]

/-- The lists are the parts of the rational number q in lowest terms. -/
def QIs (neg : Bool) (la lb : List Nat) (q : Rat) : Prop := NatIs la q.num.natAbs ∧ NatIs lb q.den ∧ neg = decide (q.num < 0)
theorem QIs.num {neg : Bool} {la lb : List Nat} {q : Rat} (h : QIs neg la lb q) : sg neg (val la) = q.num := by
  rw [h.2.2, h.1.val, sg_of]
theorem QIs.den {neg : Bool} {la lb : List Nat} {q : Rat} (h : QIs neg la lb q) : val lb = q.den := h.2.1.val
theorem QIs.na {neg : Bool} {la lb : List Nat} {q : Rat} (h : QIs neg la lb q) : NatIs la q.num.natAbs := h.1
theorem QIs.nb {neg : Bool} {la lb : List Nat} {q : Rat} (h : QIs neg la lb q) : NatIs lb q.den := h.2.1
theorem QIs.uniq {neg neg' : Bool} {la lb la' lb' : List Nat} {q : Rat} (h : QIs neg la lb q) (h' : QIs neg' la' lb' q) : neg = neg' ∧ la = la' ∧ lb = lb' :=
  ⟨h.2.2.trans h'.2.2.symm, h.1.uniq h'.1, h.2.1.uniq h'.2.1⟩
theorem QIs.inj {neg : Bool} {la lb : List Nat} {q r : Rat} (h : QIs neg la lb q) (h' : QIs neg la lb r) : q = r :=
  Rat.ext (h.num.symm.trans h'.num) (h.den.symm.trans h'.den)
theorem QIs.mk {neg : Bool} {la lb : List Nat} {q : Rat} (h : QIs neg la lb q) : q = mkRat (sg neg (val la)) (val lb) := by
  rw [h.num, h.den, Rat.mkRat_self]
/-- The quotient of two numbers, divided by their greatest common divisor. -/
theorem make_q (neg : Bool) (n : Nat) {d : Nat} (hd : d ≠ 0) : (mkRat (sg neg n) d).num.natAbs = n / Nat.gcd n d ∧ (mkRat (sg neg n) d).den = d / Nat.gcd n d ∧ decide ((mkRat (sg neg n) d).num < 0) = (neg && decide (0 < n / Nat.gcd n d)) := by
  have hn : (mkRat (sg neg n) d).num = sg neg (n / Nat.gcd n d) := by
    rw [Rat.num_mkRat, if_neg hd, sg_natAbs, Nat.gcd_comm d n, sg_div (Nat.gcd_dvd_left n d)]
  refine ⟨by rw [hn, sg_natAbs], ?_, ?_⟩
  · rw [Rat.den_mkRat, if_neg hd, sg_natAbs, Nat.gcd_comm d n]
  · rw [hn, Bool.eq_iff_iff, decide_eq_true_eq, sg_neg, Bool.and_eq_true, decide_eq_true_eq]
theorem qIs_make {neg neg' : Bool} {n d : Nat} {la lb : List Nat} (hd : d ≠ 0) (ha : NatIs la (n / Nat.gcd n d)) (hb : NatIs lb (d / Nat.gcd n d)) (hn : neg' = (neg && decide (0 < n / Nat.gcd n d))) : QIs neg' la lb (mkRat (sg neg n) d) := by
  obtain ⟨h1, h2, h3⟩ := make_q neg n hd
  exact ⟨by rw [h1]; exact ha, by rw [h2]; exact hb, by rw [h3]; exact hn⟩
/-- A valid fraction is a rational number. -/
theorem qIs_valid {neg : Bool} {la lb : List Nat} (ha : NatIs la (val la)) (hb : NatIs lb (val lb)) (h0 : lb ≠ []) (hz : ¬ (neg = true ∧ la = [])) (hg : Nat.gcd (val la) (val lb) = 1) : QIs neg la lb (mkRat (sg neg (val la)) (val lb)) := by
  have hd : val lb ≠ 0 := fun e => h0 (by rw [e] at hb; exact hb.uniq NatIs.nil)
  refine qIs_make hd (by rw [hg, Nat.div_one]; exact ha) (by rw [hg, Nat.div_one]; exact hb) ?_
  rw [hg, Nat.div_one]
  cases neg with
  | false => rfl
  | true =>
    have : val la ≠ 0 := fun e => hz ⟨rfl, by rw [e] at ha; exact ha.uniq NatIs.nil⟩
    simp; omega
theorem QIs.ne {neg : Bool} {la lb : List Nat} {q : Rat} (h : QIs neg la lb q) : lb ≠ [] := fun e => by
  have := h.nb
  rw [e] at this
  exact q.den_nz this.val.symm
theorem QIs.gcd {neg : Bool} {la lb : List Nat} {q : Rat} (h : QIs neg la lb q) : Nat.gcd (val la) (val lb) = 1 := by
  rw [h.na.val, h.nb.val]; exact q.reduced
theorem QIs.sign {neg : Bool} {la lb : List Nat} {q : Rat} (h : QIs neg la lb q) : ¬ (neg = true ∧ la = []) := fun ⟨h1, h2⟩ => by
  have h3 := h.2.2
  rw [h1] at h3
  have h4 := h.na
  rw [h2] at h4
  have h5 : q.num.natAbs = 0 := h4.val.symm
  have : q.num < 0 := of_decide_eq_true h3.symm
  omega

/-- Few digits. -/
def Fits (k : Nat) (q : Rat) : Prop := q.num.natAbs < pw k ∧ q.den < pw k
theorem Fits.mono {j k : Nat} {q : Rat} (h : Fits j q) (hk : j ≤ k) : Fits k q := ⟨Nat.lt_of_lt_of_le h.1 (pw_mono hk), Nat.lt_of_lt_of_le h.2 (pw_mono hk)⟩
theorem fits_mk {k d : Nat} {z : Int} (hz : z.natAbs < pw k) (hd : d < pw k) (hk : 0 < k := by omega) : Fits k (mkRat z d) := by
  by_cases h0 : d = 0
  · subst h0
    simp only [Rat.mkRat_zero, Fits, Rat.zero_num, Rat.zero_den]
    have := pw_mono (a := 1) (b := k) hk
    simp only [pw_one] at this
    exact ⟨by omega, by omega⟩
  · have h1 := make_q (decide (z < 0)) z.natAbs h0
    rw [sg_of] at h1
    exact ⟨by rw [h1.1]; exact Nat.lt_of_le_of_lt (Nat.div_le_self _ _) hz, by rw [h1.2.1]; exact Nat.lt_of_le_of_lt (Nat.div_le_self _ _) hd⟩
theorem mul_lt_pw {j k m n : Nat} (h1 : m < pw j) (h2 : n < pw k) : m * n < pw (j + k) := by
  rw [pw_add]
  exact Nat.mul_lt_mul'' h1 h2
theorem Fits.pos {k : Nat} {q : Rat} (h : Fits k q) : 0 < k := by
  rcases Nat.eq_zero_or_pos k with h0 | h0
  · subst h0
    have h1 := h.2
    have h2 := Nat.pos_of_ne_zero q.den_nz
    simp only [pw] at h1
    omega
  · exact h0
theorem add_lt_pw {k m n : Nat} (h1 : m < pw k) (h2 : n < pw k) : m + n < pw (k + 1) := by
  simp only [pw]
  omega
theorem Fits.add {j k : Nat} {p q : Rat} (hp : Fits j p) (hq : Fits k q) : Fits (j + k + 1) (p + q) := by
  rw [Rat.add_def']
  refine fits_mk ?_ (Nat.lt_of_lt_of_le (mul_lt_pw hp.2 hq.2) (pw_mono (by omega)))
  have h1 : (p.num * (q.den : Int)).natAbs < pw (j + k) := by rw [Int.natAbs_mul]; exact mul_lt_pw hp.1 hq.2
  have h2 : (q.num * (p.den : Int)).natAbs < pw (j + k) := by rw [Int.natAbs_mul, Nat.add_comm]; exact mul_lt_pw hq.1 hp.2
  exact Nat.lt_of_le_of_lt (Int.natAbs_add_le _ _) (add_lt_pw h1 h2)
theorem Fits.neg {k : Nat} {q : Rat} (h : Fits k q) : Fits k (-q) := ⟨by rw [Rat.neg_num, Int.natAbs_neg]; exact h.1, h.2⟩
theorem Fits.sub {j k : Nat} {p q : Rat} (hp : Fits j p) (hq : Fits k q) : Fits (j + k + 1) (p - q) := by
  rw [Rat.sub_eq_add_neg]; exact hp.add hq.neg
theorem Fits.mul {j k : Nat} {p q : Rat} (hp : Fits j p) (hq : Fits k q) : Fits (j + k) (p * q) := by
  rw [Rat.mul_def']
  have := hp.pos
  exact fits_mk (by rw [Int.natAbs_mul]; exact mul_lt_pw hp.1 hq.1) (mul_lt_pw hp.2 hq.2)
theorem Fits.zero {k : Nat} (h : 0 < k) : Fits k 0 := by
  have := pw_mono (a := 1) (b := k) h
  simp only [pw_one] at this
  exact ⟨by simp; omega, by simp; omega⟩

/-! The operations as the program computes them. -/
section
variable {n1 n2 : Bool} {a1 b1 a2 b2 : List Nat} {p q : Rat}
theorem sg_mulNat (neg : Bool) (a b : Nat) : sg neg (a * b) = sg neg a * (b : Int) := by
  unfold sg; split <;> simp [Int.neg_mul]
theorem q_add (h1 : QIs n1 a1 b1 p) (h2 : QIs n1 a2 b2 q) : mkRat (sg n1 (val a1 * val b2 + val a2 * val b1)) (val b1 * val b2) = p + q := by
  rw [sg_add, sg_mulNat, sg_mulNat, h1.num, h2.num, h1.den, h2.den, Rat.add_def']
theorem q_sub1 (h1 : QIs n1 a1 b1 p) (h2 : QIs n2 a2 b2 q) (hn : n1 ≠ n2) (hle : val a2 * val b1 ≤ val a1 * val b2) : mkRat (sg n1 (val a1 * val b2 - val a2 * val b1)) (val b1 * val b2) = p + q := by
  have e : sg n1 (val a1 * val b2 - val a2 * val b1) = sg n1 (val a1 * val b2) + sg n2 (val a2 * val b1) := by
    unfold sg
    cases n1 <;> cases n2 <;> simp at hn ⊢ <;> omega
  rw [e, sg_mulNat, sg_mulNat, h1.num, h2.num, h1.den, h2.den, Rat.add_def']
theorem q_sub2 (h1 : QIs n1 a1 b1 p) (h2 : QIs n2 a2 b2 q) (hn : n1 ≠ n2) (hle : val a1 * val b2 ≤ val a2 * val b1) : mkRat (sg n2 (val a2 * val b1 - val a1 * val b2)) (val b1 * val b2) = p + q := by
  have e : sg n2 (val a2 * val b1 - val a1 * val b2) = sg n1 (val a1 * val b2) + sg n2 (val a2 * val b1) := by
    unfold sg
    cases n1 <;> cases n2 <;> simp at hn ⊢ <;> omega
  rw [e, sg_mulNat, sg_mulNat, h1.num, h2.num, h1.den, h2.den, Rat.add_def']
theorem q_mul (h1 : QIs n1 a1 b1 p) (h2 : QIs n2 a2 b2 q) : mkRat (sg (n1 != n2) (val a1 * val a2)) (val b1 * val b2) = p * q := by
  rw [← sg_mul, h1.num, h2.num, h1.den, h2.den, Rat.mul_def']
theorem q_neg (h1 : QIs n1 a1 b1 p) : mkRat (sg (!n1) (val a1)) (val b1) = -p := by
  rw [sg_not, h1.num, h1.den, ← Rat.neg_mkRat, Rat.mkRat_self]
theorem q_div (h1 : QIs n1 a1 b1 p) (h2 : QIs n2 a2 b2 q) (h0 : q ≠ 0) : mkRat (sg (n1 != n2) (val a1 * val b2)) (val b1 * val a2) = p / q := by
  have hq : q.num ≠ 0 := fun e => h0 (Rat.num_eq_zero.1 e)
  have e1 : q⁻¹ = mkRat (sg n2 (val b2)) (val a2) := by
    rw [Rat.inv_def, h2.den, h2.na.val]
    have e : q.num = sg n2 q.num.natAbs := by rw [h2.2.2, sg_of]
    by_cases hneg : q.num < 0
    · have hn : n2 = true := by rw [h2.2.2]; simpa using hneg
      rw [hn] at e ⊢
      unfold sg at e ⊢
      simp at e ⊢
      rw [← Rat.neg_divInt_neg, show -q.num = (q.num.natAbs : Int) by omega, Rat.divInt_ofNat]
    · have hn : n2 = false := by rw [h2.2.2]; simpa using hneg
      rw [hn]
      unfold sg
      simp
      rw [← Rat.divInt_ofNat, show ((q.num.natAbs : Nat) : Int) = q.num by omega]
  rw [Rat.div_def, e1, h1.mk, Rat.mkRat_mul_mkRat, sg_mul]
theorem q_zero (h : QIs n1 a1 b1 p) : a1 = [] ↔ p = 0 := by
  rw [h.na.zero_iff, Int.natAbs_eq_zero, Rat.num_eq_zero]
end
/-- The comparison of two rational numbers. -/
def cmpR (p q : Rat) : Int := if p < q then -1 else if q < p then 1 else 0
def signR (p : Rat) : Int := if p.num < 0 then -1 else if p.num = 0 then 0 else 1
theorem cmpR_bd (p q : Rat) : -1 ≤ cmpR p q ∧ cmpR p q ≤ 1 := by
  unfold cmpR
  split
  · omega
  · split <;> omega
theorem signR_eq (p : Rat) : signR p = cmpR p 0 := by
  have e1 : p < 0 ↔ p.num < 0 := by rw [Rat.lt_iff]; simp
  have e2 : 0 < p ↔ 0 < p.num := by rw [Rat.lt_iff]; simp
  unfold signR cmpR
  simp only [e1, e2]
  by_cases h1 : p.num < 0
  · rw [if_pos h1, if_pos h1]
  · by_cases h2 : p.num = 0
    · rw [if_neg h1, if_pos h2, if_neg h1, if_neg (by omega)]
    · rw [if_neg h1, if_neg h2, if_neg h1, if_pos (by omega)]
theorem cmpR_sub (p q : Rat) : cmpR (p - q) 0 = cmpR p q := by
  unfold cmpR
  have h1 : p - q < 0 ↔ p < q := by grind
  have h2 : 0 < p - q ↔ q < p := by grind
  simp only [h1, h2]
theorem cmpR_zero {p q : Rat} : cmpR p q = 0 ↔ p = q := by
  unfold cmpR
  constructor
  · intro h
    split at h
    · omega
    · split at h
      · omega
      · grind
  · rintro rfl
    rw [if_neg Rat.lt_irrefl, if_neg Rat.lt_irrefl]
theorem cmpR_neg {p q : Rat} : cmpR p q < 0 ↔ p < q := by
  unfold cmpR
  split
  · simp_all
  · split <;> simp_all
theorem cmpR_pos {p q : Rat} : 0 < cmpR p q ↔ q < p := by
  unfold cmpR
  split
  · rename_i h
    constructor
    · omega
    · intro h2; exact absurd (Rat.not_le.2 h2) (by simpa using Rat.le_of_lt h)
  · split <;> simp_all
section
variable {n1 n2 : Bool} {a1 b1 a2 b2 : List Nat} {p q : Rat}
theorem q_cmp_pos (h1 : QIs n1 a1 b1 p) (h2 : QIs n2 a2 b2 q) (hn : n1 = false) (hm : n2 = false) : cmpI (val a1 * val b2) (val a2 * val b1) = cmpR p q := by
  have e1 := h1.num
  have e2 := h2.num
  rw [hn] at e1
  rw [hm] at e2
  unfold cmpI cmpR
  simp only [Rat.lt_iff, ← e1, ← e2, h1.den.symm, h2.den.symm, sg]
  simp only [Bool.false_eq_true, if_false]
  have c1 : ((val a1 : Int) * (val b2 : Int) < (val a2 : Int) * (val b1 : Int)) ↔ val a1 * val b2 < val a2 * val b1 := by
    rw [← Int.natCast_mul, ← Int.natCast_mul]; omega
  have c2 : ((val a2 : Int) * (val b1 : Int) < (val a1 : Int) * (val b2 : Int)) ↔ val a2 * val b1 < val a1 * val b2 := by
    rw [← Int.natCast_mul, ← Int.natCast_mul]; omega
  simp only [c1, c2]
theorem q_cmp_neg (h1 : QIs n1 a1 b1 p) (h2 : QIs n2 a2 b2 q) (hn : n1 = true) (hm : n2 = true) : cmpI (val a2 * val b1) (val a1 * val b2) = cmpR p q := by
  have e1 := h1.num
  have e2 := h2.num
  rw [hn] at e1
  rw [hm] at e2
  unfold cmpI cmpR
  simp only [Rat.lt_iff, ← e1, ← e2, h1.den.symm, h2.den.symm, sg]
  simp only [if_true, Int.neg_mul]
  have c1 : (-((val a1 : Int) * (val b2 : Int)) < -((val a2 : Int) * (val b1 : Int))) ↔ val a2 * val b1 < val a1 * val b2 := by
    rw [← Int.natCast_mul, ← Int.natCast_mul]; omega
  have c2 : (-((val a2 : Int) * (val b1 : Int)) < -((val a1 : Int) * (val b2 : Int))) ↔ val a1 * val b2 < val a2 * val b1 := by
    rw [← Int.natCast_mul, ← Int.natCast_mul]; omega
  simp only [c1, c2]
theorem q_lt_zero (h1 : QIs n1 a1 b1 p) : n1 = true ↔ p < 0 := by
  rw [h1.2.2, decide_eq_true_eq, Rat.lt_iff]
  simp
theorem q_cmp_np (h1 : QIs n1 a1 b1 p) (h2 : QIs n2 a2 b2 q) (hn : n1 = true) (hm : n2 = false) : cmpR p q = -1 := by
  have e1 := (q_lt_zero h1).1 hn
  have e2 : ¬ q < 0 := fun h => by rw [(q_lt_zero h2).2 h] at hm; cases hm
  unfold cmpR
  rw [if_pos (by grind)]
theorem q_cmp_pn (h1 : QIs n1 a1 b1 p) (h2 : QIs n2 a2 b2 q) (hn : n1 = false) (hm : n2 = true) : cmpR p q = 1 := by
  have e2 := (q_lt_zero h2).1 hm
  have e1 : ¬ p < 0 := fun h => by rw [(q_lt_zero h1).2 h] at hn; cases hn
  unfold cmpR
  rw [if_neg (by grind), if_pos (by grind)]
theorem q_sign (h1 : QIs n1 a1 b1 p) : cmpR p 0 = if a1 = [] then 0 else if n1 = true then -1 else 1 := by
  by_cases h0 : a1 = []
  · rw [if_pos h0, (q_zero h1).1 h0]
    exact cmpR_zero.2 rfl
  · rw [if_neg h0]
    have hp : p ≠ 0 := fun e => h0 ((q_zero h1).2 e)
    by_cases hn : n1 = true
    · rw [if_pos hn]
      unfold cmpR
      rw [if_pos ((q_lt_zero h1).1 hn)]
    · rw [if_neg hn]
      have : ¬ p < 0 := fun h => hn ((q_lt_zero h1).2 h)
      unfold cmpR
      rw [if_neg this, if_pos (by grind)]
end
end Go.Proofs.Ytghpcimeobmonaa.Plain
/- Fractions as values: the rational number that a value denotes. -/
namespace Go.Proofs.Ytghpcimeobmonaa
set_option linter.unusedVariables false
set_option linter.unusedSimpArgs false
open Go.RowKit Plain

/-- No digit lies among the cells. -/
def NoDig (cs : Array Value) : Prop := ∀ (i : Nat) (d : Int), cs[i]? ≠ some (.int .u32 d)
theorem noDig3 (b : Bool) (A : Option Addr) (n c : Nat) (B : Option Addr) (m d : Nat) : NoDig #[.bool b, .slice A n c, .slice B m d] := fun i x => by
  match i with
  | 0 => simp
  | 1 => simp
  | 2 => simp
  | i + 3 => simp
/-- A list of digits is kept while a block that holds no digit turns. -/
theorem Nv.only_blk {w w' : World} {g : Nat} {t : TypeId} {cs : Array Value} {A : Option Addr} {c : Nat} {l : List Nat} (h : Nv w A c l) (hB : Blk w g t cs) (hd : NoDig cs) (ho : Only w w' g) : Nv w' A c l := by
  refine ⟨h.len, h.big, fun hx => ?_, h.dig⟩
  obtain ⟨a, e, h1, h2⟩ := h.rd hx
  have hne : a.block ≠ g := fun hg => by
    have h3 := h2 0 hx
    have hl : 0 < l.length := by rw [u32s_length] at hx; exact hx
    unfold Blk at hB
    unfold World.cell? at h3
    rw [block_add, hg, hB] at h3
    simp only at h3
    split at h3
    · cases h3
    · rw [List.getElem_of_eq (show u32s l = u32s l from rfl)] at h3
      simp only [u32s, List.getElem_map] at h3
      exact hd _ _ h3
  have hk := ho.block a.block h1 (by simpa using hne)
  exact ⟨a, e, Nat.lt_of_lt_of_le h1 ho.size, fun j hj => by
    rw [World.cell?_of_block (w := w) (by rw [block_add]; exact hk)]
    exact h2 j hj⟩
/-- A cell is written as it was. -/
theorem Blk.same {w : World} {g i : Nat} {t : TypeId} {cs : Array Value} {u : Value} (h : Blk w g t cs) (hi : cs[i]? = some u) : w.setCell ⟨g, i, none⟩ u = w := by
  unfold Blk at h
  have e : cs.setIfInBounds i u = cs := by
    apply Array.ext_getElem?
    intro j
    rw [Array.getElem?_setIfInBounds]
    split
    · rename_i h1
      subst h1
      split
      · exact hi.symm
      · rename_i h2
        rw [Array.getElem?_eq_none (by omega)] at hi
        cases hi
    · rfl
  have hh : (w.setCell ⟨g, i, none⟩ u).heap = w.heap := by
    unfold World.setCell
    apply Array.ext_getElem?
    intro j
    rw [Array.getElem?_modify]
    split
    · rename_i h1
      subst h1
      rw [h]
      simp [e]
    · rfl
  unfold World.setCell at hh ⊢
  simp only at hh
  rw [hh]
/-- A block of a fraction. -/
def Blk3 (w : World) (g : Nat) (t : TypeId) : Prop := ∃ b A n c B m d, Blk w g t #[.bool b, .slice A n c, .slice B m d]
theorem Blk.b3 {w : World} {g : Nat} {t : TypeId} {b : Bool} {A : Option Addr} {n c : Nat} {B : Option Addr} {m d : Nat} (h : Blk w g t #[.bool b, .slice A n c, .slice B m d]) : Blk3 w g t := ⟨b, A, n, c, B, m, d, h⟩
theorem Blk3.drew {w : World} {g : Nat} {t : TypeId} (h : Blk3 w g t) : Blk3 w.drew g t := h
theorem Blk3.keep {w w' : World} {g : Nat} {t : TypeId} (h : Blk3 w g t) (b : Below w.heap.size w w') : Blk3 w' g t := by
  obtain ⟨b', A, n, c, B, m, d, h⟩ := h; exact (h.keep b).b3
theorem Blk3.set {w : World} {g : Nat} {t : TypeId} (h : Blk3 w g t) (b : Bool) (A : Option Addr) (n c : Nat) (B : Option Addr) (m d : Nat) : Blk3 (((w.setCell ⟨g, 0, none⟩ (.bool b)).setCell ⟨g, 1, none⟩ (.slice A n c)).setCell ⟨g, 2, none⟩ (.slice B m d)) g t := by
  obtain ⟨b', A', n', c', B', m', d', h⟩ := h
  obtain ⟨w', e, h', -⟩ := h.set3 (.bool b) (.slice A n c) (.slice B m d)
  rw [e]; exact h'.b3
theorem Nv.alloc {w : World} {A : Option Addr} {c : Nat} {l : List Nat} (h : Nv w A c l) (o : Obj) : Nv (w.alloc o) A c l := h.below ((Below.refl _ _).alloc (Nat.le_refl _) o)
theorem below_set3 {B : Nat} {a w : World} {g : Nat} (h : Below B a w) (hg : B ≤ g) (x y z : Value) : Below B a (((w.setCell ⟨g, 0, none⟩ x).setCell ⟨g, 1, none⟩ y).setCell ⟨g, 2, none⟩ z) := ((h.setCell hg x).setCell hg y).setCell hg z
/-- The value v is the fraction q. -/
def FV (w : World) (v : Value) (q : Rat) : Prop :=
  ∃ (neg : Bool) (A : Option Addr) (ca : Nat) (la : List Nat) (B : Option Addr) (cb : Nat) (lb : List Nat), v = fracV neg A la.length ca B lb.length cb ∧ Nv w A ca la ∧ Nv w B cb lb ∧ QIs neg la lb q
theorem FV.below {w w' : World} {v : Value} {q : Rat} (h : FV w v q) (hb : Below w.heap.size w w') : FV w' v q := by
  obtain ⟨neg, A, ca, la, B, cb, lb, e, ha, hb', hq⟩ := h
  exact ⟨neg, A, ca, la, B, cb, lb, e, ha.below hb, hb'.below hb, hq⟩
theorem FV.only_blk {w w' : World} {g : Nat} {t : TypeId} {cs : Array Value} {v : Value} {q : Rat} (h : FV w v q) (hB : Blk w g t cs) (hd : NoDig cs) (ho : Only w w' g) : FV w' v q := by
  obtain ⟨neg, A, ca, la, B, cb, lb, e, ha, hb', hq⟩ := h
  exact ⟨neg, A, ca, la, B, cb, lb, e, ha.only_blk hB hd ho, hb'.only_blk hB hd ho, hq⟩
/-- A call that returns the fraction q. -/
def RetQ (q : Rat) (W : World) (e : Ending) (w' : World) : Prop := ∃ v, e = .returned v ∧ FV w' v q ∧ Below W.heap.size W w'
/-- A call that returns the fraction q and no error. -/
def RetQE (q : Rat) (W : World) (e : Ending) (w' : World) : Prop := ∃ v, e = .returned (.tuple #[v, .int .i64 0]) ∧ FV w' v q ∧ Below W.heap.size W w'
theorem nat_fits {l : List Nat} {n k : Nat} (h : NatIs l n) (hk : n < pw k) : l.length ≤ k := length_le_of_lt h.canon (by rw [h.val]; exact hk)
theorem QIs.fits {neg : Bool} {la lb : List Nat} {q : Rat} {k : Nat} (h : QIs neg la lb q) (hk : Fits k q) : la.length ≤ k ∧ lb.length ≤ k := ⟨nat_fits h.na hk.1, nat_fits h.nb hk.2⟩
theorem QIs.natA {neg : Bool} {la lb : List Nat} {q : Rat} (h : QIs neg la lb q) : NatIs la (val la) := by have := h.na; rw [← this.val] at this; exact this
theorem QIs.natB {neg : Bool} {la lb : List Nat} {q : Rat} (h : QIs neg la lb q) : NatIs lb (val lb) := by have := h.nb; rw [← this.val] at this; exact this
theorem QIs.pos {neg : Bool} {la lb : List Nat} {q : Rat} (h : QIs neg la lb q) : 0 < lb.length := List.length_pos_iff.2 h.ne
theorem QIs.den_ne {neg : Bool} {la lb : List Nat} {q : Rat} (h : QIs neg la lb q) : val lb ≠ 0 := by rw [h.den]; exact q.den_nz
end Go.Proofs.Ytghpcimeobmonaa
/- natural.small, shifted: what the calls do. -/
namespace Go.Proofs.Ytghpcimeobmonaa
set_option linter.unusedVariables false
set_option linter.unusedSimpArgs false
open Go.RowKit Plain

def SmallInv (la : List Nat) (d : Nat) (w : World) (g : Nat) (c i : Value) (wr : World) : Prop :=
  ∃ (k r : Nat) (hi : List Nat), k ≤ la.length ∧ i = .int .i64 k ∧ c = .int .u64 r ∧ r < d ∧ Hid (hi.length = k) ∧ Dig hi ∧
    Row wr g (List.replicate (la.length - k) 0 ++ hi) ∧ Hid (val (la.drop (la.length - k)) = val hi * d + r) ∧ Below w.heap.size w wr

/-- The result of a division by a digit. -/
def RetSmall (n d k : Nat) (W : World) (e : Ending) (w' : World) : Prop :=
  ∃ A c l, e = .returned (.tuple #[.slice A l.length c, .int .u32 ((n % d : Nat) : Int)]) ∧ Nv w' A c l ∧ NatIs l (n / d) ∧ l.length ≤ k ∧ Below W.heap.size W w' ∧ U32Blk w' A

theorem set_zero_last (n x : Nat) (t : List Nat) : (List.replicate (n + 1) 0 ++ t).set n x = List.replicate n 0 ++ x :: t := by
  rw [List.replicate_succ', List.append_assoc]
  have h := set_mid (List.replicate n 0) 0 x t
  rw [List.length_replicate] at h
  exact h

theorem small_step {la : List Nat} {d k r da : Nat} {hi : List Nat} {w wr : World} {g : Nat} (hkl : k < la.length) (hr : r < d) (hd2 : d < 4294967296) (hhi : Hid (hi.length = k)) (hhd : Dig hi) (hda : da < 4294967296)
    (hga : Hid (la.getD (la.length - 1 - k) 0 = da)) (hrow : Row wr g (List.replicate (la.length - k) 0 ++ hi)) (hval : Hid (val (la.drop (la.length - k)) = val hi * d + r)) (hbel : Below w.heap.size w wr)
    (x r' i' : Int) (hx : x = ((da : Int) + 4294967296 * (r : Int)) / (d : Int) % 4294967296) (hr' : r' = ((da : Int) + 4294967296 * (r : Int)) % (d : Int)) (hi' : i' = (k : Int) + 1) (hg : w.heap.size ≤ g := by exact Nat.le_refl _) (nq : Nat := 1) :
    SmallInv la d w g (.int .u64 r') (.int .i64 i') ((wr.drewN nq).setCell ⟨g, la.length - 1 - k, none⟩ (.int .u32 x)) := by
  obtain ⟨t, ht⟩ : ∃ t, t = da + 4294967296 * r := ⟨_, rfl⟩
  have hti : (da : Int) + 4294967296 * (r : Int) = (t : Int) := by rw [ht]; omega
  have htd : t / d < 4294967296 := by
    rw [Nat.div_lt_iff_lt_mul (by omega)]
    have : 4294967296 * (r + 1) ≤ 4294967296 * d := Nat.mul_le_mul_left _ hr
    omega
  rw [hti] at hx hr'
  have hx2 : x = ((t / d : Nat) : Int) := by
    rw [hx, ← Int.natCast_ediv]
    generalize t / d = q at *
    omega
  have hr2 : r' = ((t % d : Nat) : Int) := by rw [hr', Int.natCast_emod]
  refine ⟨k + 1, t % d, (t / d) :: hi, by omega, by rw [hi']; rfl, by rw [hr2], Nat.mod_lt _ (by omega), ?_, Dig.cons htd hhd, ?_, ?_, (below_drewN hbel nq).setCell hg _⟩
  · show (_ :: hi).length = k + 1
    rw [List.length_cons, hhi.out]
  · obtain ⟨m, hm⟩ : ∃ m, la.length - k = m + 1 := ⟨la.length - k - 1, by omega⟩
    have e1 : la.length - 1 - k = m := by omega
    have e2 : la.length - (k + 1) = m := by omega
    have h1 : Row (wr.drewN nq) g (List.replicate (m + 1) 0 ++ hi) := hrow.eq (by rw [hm])
    rw [e1, e2, hx2]
    exact (h1.set m (t / d)).eq (set_zero_last _ _ _)
  · show val (la.drop (la.length - (k + 1))) = _
    have e1 : la.length - (k + 1) = la.length - 1 - k := by omega
    rw [e1, val_drop _ _ (by omega), show la.length - 1 - k + 1 = la.length - k by omega, hval.out, hga.out]
    simp only [val]
    have h3 := Nat.div_add_mod t d
    rw [Nat.mul_comm] at h3
    rw [Nat.add_mul, Nat.mul_add, ← Nat.mul_assoc]
    omega

theorem small_last {la : List Nat} {d r : Nat} {hi : List Nat} (hr : r < d) (hval : Hid (val (la.drop (la.length - la.length)) = val hi * d + r)) : val hi = val la / d ∧ r = val la % d := by
  have h := hval.out
  rw [Nat.sub_self, List.drop_zero] at h
  have h1 : val la / d = val hi := by
    rw [h, Nat.mul_comm, Nat.mul_add_div (by omega), Nat.div_eq_of_lt hr]; omega
  have h2 : val la % d = r := by
    rw [h, Nat.mul_comm, Nat.mul_add_mod, Nat.mod_eq_of_lt hr]
  exact ⟨h1.symm, h2.symm⟩

set_option maxRecDepth 100000 in
set_option maxHeartbeats 400000 in
theorem small_any (A : Option Addr) (ca d : Nat) (la : List Nat) (w : World) (ha : Nv w A ca la) (hna : la.length ≤ 5000000000) (hd : 0 < d) (hd2 : d < 4294967296) :
    Calls Try.prog 77 #[.slice A la.length ca, .int .u32 (d : Int)] w (RetSmall (val la) d la.length w) := by
  have hmk := make_u32 w la.length .i64 (la.length : Int) (by omega) (by omega)
  go_enter Try.func77, Try.ntmps77
  go_wp2
  go_loopw [7, 16] (fun c i wr => SmallInv la d w w.heap.size c i wr) (fun _ i _ => la.length - (intOf i).toNat)
  case atStart => exact ⟨0, 0, [], by omega, rfl, rfl, hd, rfl, Dig.nil, (Row.new _ _).eq (by simp), by show val _ = _; simp [val], (Below.refl _ _).alloc (Nat.le_refl _) _⟩
  case round =>
    obtain ⟨k, r, hi, hk, rfl, rfl, hr, hhi, hhd, hrow, hval, hbel⟩ := hrel
    by_cases hkl : k < la.length
    · obtain ⟨a, da, rfl, hab, hac, hda, hga⟩ := (ha.below hbel).at (k := la.length - 1 - k) (by omega)
      have hor := or_join da r hda (by omega)
      have hf := hrow.free (la.length - 1 - k)
      obtain ⟨d0, hc0, _, _⟩ := hrow.cell' (i := la.length - 1 - k) ((Dig.replicate _).append hhd) (by rw [List.length_append, List.length_replicate, hhi.out]; omega)
      have hne : ((d : Int) == 0) = false := by rw [beq_eq_false_iff_ne]; omega
      go_wp2
      go_region
      go_wp2
      go_roundw
      case rel => exact small_step hkl hr hd2 hhi hhd hda hga hrow hval hbel _ _ _ rfl rfl rfl
      case measure => simp [intOf]; omega
    · obtain rfl : k = la.length := by omega
      have hrow2 : Row wr w.heap.size hi := hrow.eq (by simp)
      have hfin := Lib.hid (small_last hr hval)
      go_wp2_with fail
      refine (trim_row hrow2 hhi.out hhd (by omega)).mono ?_
      rintro e w2 ⟨l', rfl, h3, h4, h5, rfl⟩
      go_wp2
      go_ret2
      refine ⟨_, _, l', ?_, h3, hfin.out.1 ▸ h4, h5, hbel, hrow2.u32⟩
      rw [hfin.out.2]; rfl

def ShInv (la : List Nat) (s : Nat) (w : World) (g : Nat) (i : Value) (wr : World) : Prop :=
  ∃ (k t : Nat) (o : List Nat), k ≤ la.length ∧ i = .int .i64 k ∧ t < 2 ^ s ∧ Hid (o.length = k) ∧ Dig o ∧
    Row wr g (o ++ t :: List.replicate (la.length - k) 0) ∧ Hid (val o + pw k * t = val (la.take k) * 2 ^ s) ∧ Below w.heap.size w wr

/-- The digits of a number times a power of two, one more than it has. -/
def RetSh (la : List Nat) (s : Nat) (W : World) (e : Ending) (w' : World) : Prop :=
  ∃ l, e = .returned (.slice (some ⟨W.heap.size, 0, none⟩) (la.length + 1) (la.length + 1)) ∧ Row w' W.heap.size l ∧ Hid (l.length = la.length + 1) ∧ Dig l ∧ Hid (val l = val la * 2 ^ s) ∧ Below W.heap.size W w'

theorem sh_top {t s : Nat} (ht : t < 2 ^ s) (hs : s < 32) : t < 4294967296 := by
  have : 2 ^ s ≤ 2 ^ 32 := Nat.pow_le_pow_right (by omega) (by omega)
  simp only [Nat.reducePow] at this
  omega
theorem sh_cell0 {w : World} {g k t n : Nat} {o : List Nat} (hrow : Row w g (o ++ t :: List.replicate n 0)) (ho : Hid (o.length = k)) : w.cell? ⟨g, k, none⟩ = some (.int .u32 (t : Int)) := by
  have := hrow.cell (i := k) (by simp [ho.out])
  rw [this, List.getD_eq_getElem?_getD, ← ho.out, List.getElem?_append_right (Nat.le_refl _)]
  simp
theorem sh_cell1 {w : World} {g k t n : Nat} {o : List Nat} (hrow : Row w g (o ++ t :: List.replicate (n - k) 0)) (ho : Hid (o.length = k)) (hk : k < n) : w.cell? ⟨g, k + 1, none⟩ = some (.int .u32 (0 : Int)) := by
  have := hrow.cell (i := k + 1) (by simp [ho.out]; omega)
  rw [this, List.getD_eq_getElem?_getD, List.getElem?_append_right (by rw [ho.out]; omega), ho.out, rep_succ hk]
  simp

theorem sh_digit (da t s : Nat) (hda : da < 4294967296) (ht : t < 2 ^ s) (hs : s < 32) :
    ∃ x : Nat, Hid (x = da * 2 ^ s) ∧ IntKind.u64.wrap ((da : Int) * 2 ^ s) = (x : Int) ∧ x < 9223372036854775808 ∧ bits .or .u32 (t : Int) ((x : Int) % 4294967296) = ((t + x % 4294967296 : Nat) : Int) := by
  have hp : 2 ^ s ≤ 2 ^ 31 := Nat.pow_le_pow_right (by omega) (by omega)
  have hx : da * 2 ^ s < 9223372036854775808 := by
    have h1 : da * 2 ^ s ≤ 4294967295 * 2 ^ 31 := Nat.mul_le_mul (by omega) hp
    simp only [Nat.reducePow, Nat.reduceMul] at h1
    omega
  refine ⟨da * 2 ^ s, rfl, ?_, hx, ?_⟩
  · have e : ((da : Int) * 2 ^ s) = ((da * 2 ^ s : Nat) : Int) := by rw [Int.natCast_mul]; rfl
    rw [e, wrap_u64]
    generalize da * 2 ^ s = x at *
    omega
  · have h2 := u32_or_nat t (da * 2 ^ s % 4294967296) (sh_top ht hs) (Nat.mod_lt _ (by omega))
    have h3 : da * 2 ^ s % 4294967296 % 2 ^ s = 0 := by
      have : 4294967296 = 2 ^ s * 2 ^ (32 - s) := by rw [← Nat.pow_add, show s + (32 - s) = 32 by omega]
      rw [this, Nat.mod_mul_right_mod, Nat.mul_mod_left]
    rw [show ((da * 2 ^ s : Nat) : Int) % 4294967296 = ((da * 2 ^ s % 4294967296 : Nat) : Int) from rfl, h2, Nat.or_comm, nat_join s _ _ h3 ht, Nat.add_comm]

theorem sh_step {la : List Nat} {s da k t x : Nat} {o : List Nat} {w wr : World} {g : Nat} (hkl : k < la.length) (hx : Hid (x = da * 2 ^ s)) (ht : t < 2 ^ s) (hs : s < 32) (ho : Hid (o.length = k)) (hod : Dig o) (hga : Hid (la.getD k 0 = da))
    (hxb : x < 9223372036854775808) (hrow : Row wr g (o ++ t :: List.replicate (la.length - k) 0)) (hval : Hid (val o + pw k * t = val (la.take k) * 2 ^ s)) (hbel : Below w.heap.size w wr)
    (y z i' : Int) (hy : y = ((t + x % 4294967296 : Nat) : Int)) (hz : z = (x : Int) / 4294967296) (hi' : i' = (k : Int) + 1) (hda : da < 4294967296 := by assumption) (hg : w.heap.size ≤ g := by exact Nat.le_refl _) :
    ShInv la s w g (.int .i64 i') ((wr.setCell ⟨g, k, none⟩ (.int .u32 y)).setCell ⟨g, k + 1, none⟩ (.int .u32 z)) := by
  have hxe := hx.out
  have hsum : t + x % 4294967296 < 4294967296 := by
    have h4 : 4294967296 = 2 ^ s * 2 ^ (32 - s) := by rw [← Nat.pow_add, show s + (32 - s) = 32 by omega]
    have h3 : x % 4294967296 % 2 ^ s = 0 := by rw [hxe, h4, Nat.mod_mul_right_mod, Nat.mul_mod_left]
    have h5 : x % 4294967296 < 2 ^ s * 2 ^ (32 - s) := by rw [← h4]; exact Nat.mod_lt _ (by omega)
    obtain ⟨q, hq⟩ : ∃ q, x % 4294967296 = 2 ^ s * q := Nat.dvd_of_mod_eq_zero h3
    rw [hq] at h5 ⊢
    have h6 := Nat.lt_of_mul_lt_mul_left h5
    have h7 : 2 ^ s * (q + 1) ≤ 2 ^ s * 2 ^ (32 - s) := Nat.mul_le_mul_left _ h6
    rw [Nat.mul_add, Nat.mul_one, ← h4] at h7
    omega
  have hz2 : x / 4294967296 < 2 ^ s := by
    rw [hxe, Nat.div_lt_iff_lt_mul (by omega), Nat.mul_comm]
    exact Nat.mul_lt_mul_of_pos_left hda (Nat.two_pow_pos s)
  have hz3 : z = ((x / 4294967296 : Nat) : Int) := by rw [hz]; omega
  refine ⟨k + 1, x / 4294967296, o ++ [t + x % 4294967296], by omega, by rw [hi']; rfl, hz2, ?_, hod.snoc hsum, ?_, ?_, (hbel.setCell hg _).setCell hg _⟩
  · show (o ++ [_]).length = _
    rw [List.length_append, ho.out]; rfl
  · rw [rep_succ hkl] at hrow
    have h1 := hrow.push ho.out y hy
    have h2 : Row (wr.setCell ⟨g, k, none⟩ (.int .u32 y)) g ((o ++ [t + x % 4294967296]) ++ 0 :: List.replicate (la.length - (k + 1)) 0) := h1
    exact (h2.push (by rw [List.length_append, ho.out]; rfl) z hz3).eq (by simp)
  · show val (o ++ [_]) + pw (k + 1) * _ = _
    have h1 : pw k * x = pw k * (x % 4294967296) + 4294967296 * pw k * (x / 4294967296) := by
      rw [Nat.mul_comm 4294967296 (pw k), Nat.mul_assoc, ← Nat.mul_add, Nat.mod_add_div]
    have h2 : pw k * da * 2 ^ s = pw k * x := by rw [hxe, Nat.mul_assoc]
    rw [val_snoc, ho.out, val_take_succ, hga.out, pw, Nat.add_mul, ← hval.out, h2, h1, Nat.mul_add]
    omega

set_option maxRecDepth 100000 in
set_option maxHeartbeats 400000 in
theorem shifted_any (A : Option Addr) (ca s : Nat) (la : List Nat) (w : World) (ha : Nv w A ca la) (hna : la.length ≤ 5000000000) (hs : s < 32) :
    Calls Try.prog 82 #[.slice A la.length ca, .int .u64 (s : Int)] w (RetSh la s w) := by
  have hmk := make_u32 w (la.length + 1) .i64 ((la.length : Int) + 1) (by omega) (by omega)
  go_enter Try.func82, Try.ntmps82
  go_wp2
  go_loopw [14] (fun i wr => ShInv la s w w.heap.size i wr) (fun i _ => la.length - (intOf i).toNat)
  case atStart => exact ⟨0, 0, [], by omega, rfl, Nat.two_pow_pos s, rfl, Dig.nil, (Row.new _ _).eq (by simp [List.replicate_succ]), by show val _ + _ = _; simp [val], (Below.refl _ _).alloc (Nat.le_refl _) _⟩
  case round =>
    obtain ⟨k, t, o, hk, rfl, ht, ho, hod, hrow, hval, hbel⟩ := hrel
    by_cases hkl : k < la.length
    · obtain ⟨a, da, rfl, hab, hac, hda, hga⟩ := (ha.below hbel).at hkl
      have hf := hrow.free k
      have hf1 := hrow.free (k + 1)
      have hc0 := sh_cell0 hrow ho
      have hc1 := sh_cell1 hrow ho hkl
      obtain ⟨x, hx, hw, hxb, hor⟩ := sh_digit da t s hda ht hs
      go_wp2
      go_roundw
      case rel => exact sh_step hkl hx ht hs ho hod hga hxb hrow hval hbel _ _ _ rfl rfl rfl
      case measure => simp [intOf]; omega
    · obtain rfl : k = la.length := by omega
      have hrow2 : Row wr w.heap.size (o ++ [t]) := hrow.eq (by simp)
      have ht2 : t < 4294967296 := sh_top ht hs
      have hfin := Lib.hid (show val (o ++ [t]) = val la * 2 ^ s by rw [val_snoc, ho.out, hval.out, val_take_ge _ _ (Nat.le_refl _)])
      have hl2 := Lib.hid (show (o ++ [t]).length = la.length + 1 by rw [List.length_append, ho.out]; rfl)
      go_wp2
      go_ret
      exact ⟨o ++ [t], rfl, hrow2, hl2, hod.snoc ht2, hfin, hbel⟩
end Go.Proofs.Ytghpcimeobmonaa
/- One digit of a long division (Knuth's algorithm D): plain arithmetic. -/
namespace Go.Proofs.Ytghpcimeobmonaa.Plain
set_option linter.unusedVariables false
set_option linter.unusedSimpArgs false

/-- The guess is never below the quotient digit: where it starts. -/
theorem guess_start (un u1 u2 v1 v2 w u' v' : Nat) (hu2 : u2 < 4294967296) (hu' : u' < w) (hv1 : 0 < v1) :
    (((un * 4294967296 + u1) * 4294967296 + u2) * w + u') / ((v1 * 4294967296 + v2) * w + v') ≤ (un * 4294967296 + u1) / v1 := by
  have hw : 0 < w := by omega
  have hV : 0 < (v1 * 4294967296 + v2) * w + v' := by
    have : 0 < (v1 * 4294967296 + v2) * w := Nat.mul_pos (by omega) hw
    omega
  rw [Nat.le_div_iff_mul_le hv1]
  generalize hq : (((un * 4294967296 + u1) * 4294967296 + u2) * w + u') / ((v1 * 4294967296 + v2) * w + v') = q
  have h1 : q * ((v1 * 4294967296 + v2) * w + v') ≤ ((un * 4294967296 + u1) * 4294967296 + u2) * w + u' := by
    rw [← hq]; exact Nat.div_mul_le_self _ _
  have h2 : q * v1 * (4294967296 * w) ≤ q * ((v1 * 4294967296 + v2) * w + v') := by
    have e : q * v1 * (4294967296 * w) = q * (v1 * 4294967296 * w) := by simp [Nat.mul_assoc]
    rw [e]
    apply Nat.mul_le_mul_left
    have : v1 * 4294967296 * w ≤ (v1 * 4294967296 + v2) * w := Nat.mul_le_mul_right _ (by omega)
    omega
  have h3 : ((un * 4294967296 + u1) * 4294967296 + u2) * w + u' < (un * 4294967296 + u1 + 1) * (4294967296 * w) := by
    have e : (un * 4294967296 + u1 + 1) * (4294967296 * w) = ((un * 4294967296 + u1) * 4294967296 + 4294967296) * w := by
      rw [← Nat.mul_assoc, Nat.add_mul (un * 4294967296 + u1) 1, Nat.one_mul]
    rw [e]
    have h4 : ((un * 4294967296 + u1) * 4294967296 + u2 + 1) * w ≤ ((un * 4294967296 + u1) * 4294967296 + 4294967296) * w := Nat.mul_le_mul_right _ (by omega)
    have h5 : ((un * 4294967296 + u1) * 4294967296 + u2 + 1) * w = ((un * 4294967296 + u1) * 4294967296 + u2) * w + w := by rw [Nat.add_mul]; simp
    omega
  have h6 : q * v1 * (4294967296 * w) < (un * 4294967296 + u1 + 1) * (4294967296 * w) := by omega
  have h7 := Nat.lt_of_mul_lt_mul_right h6
  omega

/-- The two-digit test fails only above the quotient digit. -/
theorem guess_high (un u1 u2 v1 v2 w u' v' g : Nat) (hu' : u' < w)
    (h : (un * 4294967296 + u1) * 4294967296 + u2 < g * (v1 * 4294967296 + v2)) :
    (((un * 4294967296 + u1) * 4294967296 + u2) * w + u') / ((v1 * 4294967296 + v2) * w + v') < g := by
  have hw : 0 < w := by omega
  have hV : 0 < (v1 * 4294967296 + v2) * w + v' := by
    have h0 : v1 * 4294967296 + v2 ≠ 0 := by intro e; rw [e] at h; simp at h
    have : 0 < (v1 * 4294967296 + v2) * w := Nat.mul_pos (by omega) hw
    omega
  rw [Nat.div_lt_iff_lt_mul hV]
  have h1 : ((un * 4294967296 + u1) * 4294967296 + u2 + 1) * w ≤ g * (v1 * 4294967296 + v2) * w := Nat.mul_le_mul_right _ h
  have h2 : ((un * 4294967296 + u1) * 4294967296 + u2 + 1) * w = ((un * 4294967296 + u1) * 4294967296 + u2) * w + w := by rw [Nat.add_mul]; simp
  have h3 : g * ((v1 * 4294967296 + v2) * w + v') = g * (v1 * 4294967296 + v2) * w + g * v' := by rw [Nat.mul_add, Nat.mul_assoc]
  rw [h3]
  refine Nat.lt_of_lt_of_le ?_ (Nat.le_add_right _ _)
  refine Nat.lt_of_lt_of_le ?_ h1
  rw [h2]
  exact Nat.add_lt_add_left hu' _

/-- Where the two-digit test holds the guess is at most one too great. -/
theorem guess_low (un u1 u2 v1 v2 w u' v' g : Nat) (hv' : v' < w) (hg : g < 4294967296) (hv1 : 0 < v1)
    (h : g * (v1 * 4294967296 + v2) ≤ (un * 4294967296 + u1) * 4294967296 + u2) :
    g ≤ (((un * 4294967296 + u1) * 4294967296 + u2) * w + u') / ((v1 * 4294967296 + v2) * w + v') + 1 := by
  have hw : 0 < w := by omega
  have hVw : 4294967296 * w ≤ (v1 * 4294967296 + v2) * w := Nat.mul_le_mul_right _ (by omega)
  have hV : 0 < (v1 * 4294967296 + v2) * w + v' := by omega
  rcases Nat.eq_zero_or_pos g with h0 | h0
  · rw [h0]; exact Nat.zero_le _
  obtain ⟨p, rfl⟩ : ∃ p, g = p + 1 := ⟨g - 1, by omega⟩
  apply Nat.succ_le_succ
  rw [Nat.le_div_iff_mul_le hV]
  have h1 : (p + 1) * (v1 * 4294967296 + v2) * w ≤ ((un * 4294967296 + u1) * 4294967296 + u2) * w := Nat.mul_le_mul_right _ h
  have h2 : p * ((v1 * 4294967296 + v2) * w + v') = p * (v1 * 4294967296 + v2) * w + p * v' := by rw [Nat.mul_add, Nat.mul_assoc]
  have h3 : (p + 1) * (v1 * 4294967296 + v2) * w = p * (v1 * 4294967296 + v2) * w + (v1 * 4294967296 + v2) * w := by rw [Nat.add_mul, Nat.add_mul, Nat.one_mul]
  have h4 : p * v' ≤ 4294967296 * w := Nat.mul_le_mul (by omega) (by omega)
  omega

/-- What the guess of a digit works on. -/
structure GCtx (U V un u1 u2 v1 v2 w u' v' : Nat) : Prop where
  hU : U = ((un * 4294967296 + u1) * 4294967296 + u2) * w + u'
  hV : V = (v1 * 4294967296 + v2) * w + v'
  hu' : u' < w
  hv' : v' < w
  dun : un < 4294967296
  du1 : u1 < 4294967296
  du2 : u2 < 4294967296
  dv1 : v1 < 4294967296
  dv2 : v2 < 4294967296
  norm : 2147483648 ≤ v1
  lt : U < 4294967296 * V

structure GInv (U V un u1 v1 g r : Nat) : Prop where
  eq : g * v1 + r = un * 4294967296 + u1
  le : U / V ≤ g
  r : r < 4294967296
  g : g ≤ 4294967297

section
variable {U V un u1 u2 v1 v2 w u' v' g r : Nat}
theorem GCtx.pos (h : GCtx U V un u1 u2 v1 v2 w u' v') : 0 < V := by
  have h1 := h.lt
  rcases Nat.eq_zero_or_pos V with h0 | h0
  · rw [h0] at h1; omega
  · exact h0
theorem GCtx.q (h : GCtx U V un u1 u2 v1 v2 w u' v') : U / V < 4294967296 := by
  rw [Nat.div_lt_iff_lt_mul h.pos]; exact h.lt
theorem GCtx.un_le (h : GCtx U V un u1 u2 v1 v2 w u' v') : un ≤ v1 := by
  have h1 := h.lt
  have hw : 0 < w := by have := h.hu'; omega
  rcases Nat.lt_or_ge v1 un with hc | hc
  · exfalso
    have h2 : (v1 + 1) * (4294967296 * (4294967296 * w)) ≤ un * (4294967296 * (4294967296 * w)) := Nat.mul_le_mul_right _ hc
    have h3 : un * (4294967296 * (4294967296 * w)) ≤ U := by
      rw [h.hU]
      have e : un * (4294967296 * (4294967296 * w)) = un * 4294967296 * 4294967296 * w := by simp only [Nat.mul_assoc]
      rw [e]
      have : un * 4294967296 * 4294967296 * w ≤ ((un * 4294967296 + u1) * 4294967296 + u2) * w := Nat.mul_le_mul_right _ (by omega)
      exact Nat.le_trans this (Nat.le_add_right _ _)
    have h4 : V < (v1 + 1) * (4294967296 * w) := by
      rw [h.hV]
      have h5 := h.hv'
      have h6 := h.dv2
      have h7 : (v1 * 4294967296 + v2 + 1) * w ≤ (v1 + 1) * 4294967296 * w := Nat.mul_le_mul_right _ (by omega)
      rw [Nat.add_mul (v1 * 4294967296 + v2), Nat.one_mul] at h7
      rw [← Nat.mul_assoc]
      exact Nat.lt_of_lt_of_le (Nat.add_lt_add_left h5 _) h7
    have h5 : 4294967296 * V < 4294967296 * ((v1 + 1) * (4294967296 * w)) := Nat.mul_lt_mul_of_pos_left h4 (by omega)
    have e : 4294967296 * ((v1 + 1) * (4294967296 * w)) = (v1 + 1) * (4294967296 * (4294967296 * w)) := Nat.mul_left_comm _ _ _
    rw [e] at h5
    exact absurd (Nat.lt_of_lt_of_le h1 (Nat.le_of_lt h5)) (Nat.not_lt.2 (Nat.le_trans h2 h3))
  · exact hc
theorem GCtx.start (h : GCtx U V un u1 u2 v1 v2 w u' v') : GInv U V un u1 v1 ((un * 4294967296 + u1) / v1) ((un * 4294967296 + u1) % v1) := by
  have hn := h.norm
  have h1 := h.un_le
  have h2 := h.du1
  refine ⟨?_, ?_, Nat.lt_trans (Nat.mod_lt _ (by omega)) h.dv1, ?_⟩
  · rw [Nat.mul_comm]; exact Nat.div_add_mod _ _
  · rw [h.hU, h.hV]; exact guess_start un u1 u2 v1 v2 w u' v' h.du2 h.hu' (by omega)
  · apply Nat.le_of_lt_succ
    rw [Nat.div_lt_iff_lt_mul (by omega)]
    omega
/-- The test says that the guess is too great: the next one. -/
theorem GCtx.more (h : GCtx U V un u1 u2 v1 v2 w u' v') (i : GInv U V un u1 v1 g r) (t : 4294967296 ≤ g ∨ r * 4294967296 + u2 < g * v2) :
    1 ≤ g ∧ U / V ≤ g - 1 ∧ (g - 1) * v1 + (r + v1) = un * 4294967296 + u1 := by
  have hq := h.q
  have he := i.eq
  have hg : U / V < g := by
    rcases t with t | t
    · omega
    · rw [h.hU, h.hV]
      refine guess_high un u1 u2 v1 v2 w u' v' g h.hu' ?_
      have e : g * (v1 * 4294967296 + v2) = g * v1 * 4294967296 + g * v2 := by rw [Nat.mul_add, Nat.mul_assoc]
      rw [e, ← he]
      clear e he hq i h
      generalize g * v1 = a at *
      generalize g * v2 = b at *
      rw [Nat.mul_comm r] at t
      rw [Nat.mul_comm (a + r), Nat.mul_comm a]
      omega
  have h1 : 1 ≤ g := Nat.lt_of_le_of_lt (Nat.zero_le _) hg
  refine ⟨h1, Nat.le_sub_one_of_lt hg, ?_⟩
  obtain ⟨p, rfl⟩ : ∃ p, g = p + 1 := ⟨g - 1, by omega⟩
  rw [Nat.add_mul, Nat.one_mul] at he
  rw [Nat.add_sub_cancel]
  omega
theorem GCtx.next (i : GInv U V un u1 v1 g r) (m : 1 ≤ g ∧ U / V ≤ g - 1 ∧ (g - 1) * v1 + (r + v1) = un * 4294967296 + u1) (hr : r + v1 < 4294967296) : GInv U V un u1 v1 (g - 1) (r + v1) :=
  ⟨m.2.2, m.2.1, hr, by have := i.g; omega⟩
theorem GCtx.done (h : GCtx U V un u1 u2 v1 v2 w u' v') (i : GInv U V un u1 v1 g r) (hg : g < 4294967296) (t : g * v2 ≤ r * 4294967296 + u2) : U / V ≤ g ∧ g ≤ U / V + 1 ∧ g < 4294967296 := by
  refine ⟨i.le, ?_, hg⟩
  rw [h.hU, h.hV]
  have hn := h.norm
  refine guess_low un u1 u2 v1 v2 w u' v' g h.hv' hg (by omega) ?_
  have e : g * (v1 * 4294967296 + v2) = g * v1 * 4294967296 + g * v2 := by rw [Nat.mul_add, Nat.mul_assoc]
  rw [e, ← i.eq]
  clear e hn
  generalize g * v1 = a at *
  generalize g * v2 = b at *
  rw [Nat.mul_comm r] at t
  rw [Nat.mul_comm (a + r), Nat.mul_comm a]
  omega
theorem GCtx.stop (h : GCtx U V un u1 u2 v1 v2 w u' v') (m : 1 ≤ g ∧ U / V ≤ g - 1 ∧ (g - 1) * v1 + (r + v1) = un * 4294967296 + u1) (hr : 4294967296 ≤ r + v1) :
    U / V ≤ g - 1 ∧ g - 1 ≤ U / V + 1 ∧ g - 1 < 4294967296 := by
  obtain ⟨m1, m2, m3⟩ := m
  have hn := h.norm
  have h1 := h.un_le
  have h2 := h.du1
  have hlt : g - 1 < 4294967296 := by
    have h3 : (g - 1) * v1 < 4294967296 * v1 := by
      have : un * 4294967296 ≤ v1 * 4294967296 := Nat.mul_le_mul_right _ h1
      rw [Nat.mul_comm 4294967296 v1]
      omega
    exact Nat.lt_of_mul_lt_mul_right h3
  refine ⟨m2, ?_, hlt⟩
  rw [h.hU, h.hV]
  refine guess_low un u1 u2 v1 v2 w u' v' (g - 1) h.hv' hlt (by omega) ?_
  have e : (g - 1) * (v1 * 4294967296 + v2) = (g - 1) * v1 * 4294967296 + (g - 1) * v2 := by rw [Nat.mul_add, Nat.mul_assoc]
  rw [e, ← m3]
  have h4 : (g - 1) * v2 ≤ 4294967296 * 4294967296 := Nat.mul_le_mul (by omega) (by have := h.dv2; omega)
  have h5 : 4294967296 * 4294967296 ≤ (r + v1) * 4294967296 := Nat.mul_le_mul_right _ hr
  clear e m3 m2 h1 h2 hn hlt
  generalize (g - 1) * v1 = a at *
  generalize (g - 1) * v2 = b at *
  rw [Nat.mul_comm (r + v1)] at h5
  rw [Nat.mul_comm (a + (r + v1)), Nat.mul_comm a]
  omega
end

theorem pow_up {d s : Nat} (hs : s < 32) (h : d * 2 ^ s < 4294967296) : (d + 1) * 2 ^ s ≤ 4294967296 := by
  have e : 4294967296 = 2 ^ (32 - s) * 2 ^ s := by rw [← Nat.pow_add, show 32 - s + s = 32 by omega]
  rw [e] at h ⊢
  exact Nat.mul_le_mul_right _ (Nat.lt_of_mul_lt_mul_right h)

/-- The divisor, shifted so that its top bit is set. -/
theorem norm_of {l2 lv : List Nat} {n s d x : Nat} (hl : l2.length = n) (hn : 2 ≤ n) (hd : Dig l2) (ht : l2.getD (n - 1) 0 = d) (hs : s < 32) (hx : x = d * 2 ^ s) (hx1 : 2147483648 ≤ x) (hx2 : x < 4294967296) (hv : NatIs lv (val l2 * 2 ^ s)) :
    lv.length = n ∧ 2147483648 ≤ lv.getD (n - 1) 0 := by
  obtain ⟨m, rfl⟩ : ∃ m, n = m + 1 := ⟨n - 1, by omega⟩
  rw [Nat.add_sub_cancel] at *
  have h1 : val l2 = val (l2.take m) + pw m * d := by rw [← val_take_ge l2 (m + 1) (by omega), val_take_succ, ht]
  have h2 := val_take_lt hd m
  have h3 : val l2 < pw m * (d + 1) := by rw [Nat.mul_add, Nat.mul_one]; omega
  have h4 : val l2 * 2 ^ s < pw (m + 1) := by
    have h5 : val l2 * 2 ^ s < pw m * (d + 1) * 2 ^ s := Nat.mul_lt_mul_of_pos_right h3 (Nat.two_pow_pos s)
    have h6 : pw m * ((d + 1) * 2 ^ s) ≤ pw m * 4294967296 := Nat.mul_le_mul_left _ (pow_up hs (by rw [← hx]; exact hx2))
    rw [← Nat.mul_assoc, Nat.mul_comm (pw m) 4294967296] at h6
    exact Nat.lt_of_lt_of_le h5 h6
  have h7 : pw m * x ≤ val l2 * 2 ^ s := by
    rw [h1, hx, ← Nat.mul_assoc]
    exact Nat.mul_le_mul_right _ (Nat.le_add_left _ _)
  have h8 : pw m * 2147483648 ≤ val lv := by
    rw [hv.val]
    exact Nat.le_trans (Nat.mul_le_mul_left _ hx1) h7
  have h9 := length_le_of_lt (k := m + 1) hv.canon (by rw [hv.val]; exact h4)
  have h10 : lv.length = m + 1 := by
    rcases Nat.lt_or_ge m lv.length with h | h
    · omega
    · have h11 := val_lt hv.dig
      have h12 := pw_mono h
      have h13 : pw m * 1 ≤ pw m * 2147483648 := Nat.mul_le_mul_left _ (by omega)
      omega
  refine ⟨h10, ?_⟩
  have h14 : val lv = val (lv.take m) + pw m * lv.getD m 0 := by rw [← val_take_ge lv (m + 1) (by omega), val_take_succ]
  have h15 := val_take_lt hv.dig m
  have h16 : pw m * 2147483648 < pw m * (lv.getD m 0 + 1) := by rw [Nat.mul_add, Nat.mul_one]; omega
  have := Nat.lt_of_mul_lt_mul_left h16
  omega

theorem div_start {l1 l2 lu : List Nat} {n m s V : Nat} (h1 : Dig l1) (h2 : Canon l2) (hn : l2.length = n) (hn2 : 2 ≤ n) (hm : l1.length = m + n) (hlu : val lu = val l1 * 2 ^ s) (hll : lu.length = m + n + 1) (hV : V = val l2 * 2 ^ s) : val (lu.drop (m + 1)) < V := by
  have h3 := val_take_drop lu (m + 1) (by omega)
  have h4 := val_lt h1
  have h5 := canon_ge h2 (by intro e; subst e; simp at hn; omega)
  have h6 : pw (m + 1) * val (lu.drop (m + 1)) < pw (m + 1) * V := by
    have h7 : val l1 * 2 ^ s < pw (m + n) * 2 ^ s := Nat.mul_lt_mul_of_pos_right (by rw [← hm]; exact h4) (Nat.two_pow_pos s)
    have h8 : pw (m + n) * 2 ^ s = pw (m + 1) * (pw (n - 1) * 2 ^ s) := by rw [← Nat.mul_assoc, ← pw_add, show m + 1 + (n - 1) = m + n by omega]
    have h9 : pw (m + 1) * (pw (n - 1) * 2 ^ s) ≤ pw (m + 1) * V := by
      rw [hV, ← hn]
      exact Nat.mul_le_mul_left _ (Nat.mul_le_mul_right _ h5)
    omega
  exact Nat.lt_of_mul_lt_mul_left h6

/-- One round of the long division, before the digit: the part that it works on, and what is above it. -/
theorem div_mid {us : List Nat} {n j V : Nat} (hd : Dig us) (hl : j + n + 1 ≤ us.length) (hV : V < pw n) (h : val (us.drop (j + 1)) < V) :
    val ((us.drop j).take (n + 1)) < 4294967296 * V ∧ val (us.drop (j + n + 1)) = 0 := by
  have h1 := val_drop us j (by omega)
  have h2 := hd.getD j
  have h3 : val (us.drop j) < 4294967296 * V := by omega
  have h4 := val_take_drop (us.drop j) (n + 1) (by rw [List.length_drop]; omega)
  rw [List.drop_drop] at h4
  have h5 : val (us.drop (j + (n + 1))) = 0 := by
    rcases Nat.eq_zero_or_pos (val (us.drop (j + (n + 1)))) with h0 | h0
    · exact h0
    · have h6 : pw (n + 1) * 1 ≤ pw (n + 1) * val (us.drop (j + (n + 1))) := Nat.mul_le_mul_left _ h0
      simp only [pw] at h6 h4
      omega
  rw [show j + n + 1 = j + (n + 1) by omega]
  refine ⟨?_, h5⟩
  rw [h5] at h4
  omega

theorem div_round {us mid' : List Nat} {n j V k : Nat} {qs : List Nat} {U : Nat} (hl : j + n + 1 ≤ us.length) (hpost : val (us.drop (j + n + 1)) = 0) (hm : val mid' = val ((us.drop j).take (n + 1)) % V) (hml : mid'.length = n + 1) (hk : k = j + 1)
    (hU : U = val us + V * (pw k * val qs)) : U = val (us.take j ++ mid' ++ us.drop (j + n + 1)) + V * (pw j * val (val ((us.drop j).take (n + 1)) / V :: qs)) ∧ val ((us.take j ++ mid' ++ us.drop (j + n + 1)).drop j) = val mid' := by
  have h1 := val_take_drop us j (by omega)
  have h2 := val_take_drop (us.drop j) (n + 1) (by rw [List.length_drop]; omega)
  rw [List.drop_drop, show j + (n + 1) = j + n + 1 by omega, hpost, Nat.mul_zero, Nat.add_zero] at h2
  have hj : (us.take j).length = j := by rw [List.length_take]; omega
  constructor
  · rw [val_append, val_append, hpost, Nat.mul_zero, Nat.add_zero, hj, hm, hU, ← h1, ← h2, hk]
    generalize val ((us.drop j).take (n + 1)) = M
    generalize val (us.take j) = P
    have h3 := Nat.div_add_mod M V
    simp only [pw, val]
    have e1 : pw j * M = V * (pw j * (M / V)) + pw j * (M % V) := by
      rw [Nat.mul_left_comm V, ← Nat.mul_add, h3]
    have e2 : pw j * (M / V + 4294967296 * val qs) = pw j * (M / V) + 4294967296 * pw j * val qs := by
      rw [Nat.mul_add, ← Nat.mul_assoc, Nat.mul_comm (pw j) 4294967296]
    rw [e2, Nat.mul_add, e1]
    omega
  · rw [List.append_assoc, List.drop_append_of_le_length (by omega), List.drop_of_length_le (by omega), List.nil_append, val_append, hpost]
    simp

/-- What is left, shifted back. -/
theorem unshift_step {us rs : List Nat} {k s t tk u : Nat} (hs : s < 32) (hu : us.getD k 0 = u) (hlen : rs.length = k) (htk : tk = u % 2 ^ s) (h : 2 ^ s * val rs + t = val (us.take k) + pw k * tk) (t1 : Nat) (r : Nat) (hr : r = u / 2 ^ s + t1 * 2 ^ (32 - s)) :
    2 ^ s * val (rs ++ [r]) + t = val (us.take (k + 1)) + pw (k + 1) * t1 := by
  rw [val_snoc, hlen, val_take_succ, hu, pw, hr, Nat.mul_add]
  have e : (4294967296 : Nat) = 2 ^ s * 2 ^ (32 - s) := by rw [← Nat.pow_add, show s + (32 - s) = 32 by omega]
  have h1 := Nat.div_add_mod u (2 ^ s)
  rw [← htk] at h1
  have e1 : 2 ^ s * (pw k * (u / 2 ^ s + t1 * 2 ^ (32 - s))) = pw k * (2 ^ s * (u / 2 ^ s)) + 4294967296 * pw k * t1 := by
    rw [Nat.mul_left_comm, Nat.mul_add (2 ^ s), Nat.mul_add (pw k), Nat.mul_left_comm (2 ^ s) t1, ← e]
    congr 1
    rw [Nat.mul_comm t1, ← Nat.mul_assoc, Nat.mul_comm (pw k)]
  rw [e1]
  have e2 : pw k * u = pw k * (2 ^ s * (u / 2 ^ s)) + pw k * tk := by rw [← Nat.mul_add, h1]
  rw [e2]
  omega

theorem unshift_end {us rs : List Nat} {n s t R : Nat} (ht : t < 2 ^ s) (h : 2 ^ s * val rs + t = val (us.take n) + pw n * 0) (hu : val (us.take n) = R * 2 ^ s) : val rs = R := by
  rw [hu, Nat.mul_zero, Nat.add_zero, Nat.mul_comm R] at h
  have h1 : (2 ^ s * val rs + t) / 2 ^ s = (2 ^ s * R) / 2 ^ s := by rw [h]
  rw [Nat.mul_add_div (Nat.two_pow_pos s), Nat.div_eq_of_lt ht, Nat.mul_div_cancel_left _ (Nat.two_pow_pos s)] at h1
  omega

end Go.Proofs.Ytghpcimeobmonaa.Plain
/- natural.digit: what the call does. -/
namespace Go.Proofs.Ytghpcimeobmonaa
set_option linter.unusedVariables false
set_option linter.unusedSimpArgs false
open Go.RowKit Plain

theorem Row.mid {w : World} {g j i : Nat} {pre us post : List Nat} (h : Row w g (pre ++ us ++ post)) (hp : pre.length = j) (hi : i < us.length) (hd : Dig us) :
    ∃ d : Nat, w.cell? ⟨g, j + i, none⟩ = some (.int .u32 (d : Int)) ∧ d < 4294967296 ∧ Hid (us.getD i 0 = d) := by
  refine ⟨us.getD i 0, ?_, hd.getD i, rfl⟩
  have := h.cell (i := j + i) (by simp; omega)
  rw [this]
  congr 3
  rw [List.append_assoc, List.getD_eq_getElem?_getD, List.getElem?_append_right (by omega), hp, Nat.add_sub_cancel_left, List.getElem?_append_left hi, List.getD_eq_getElem?_getD]

/-- What 'digit' leaves. -/
def RetDigit (gu n : Nat) (pre us post lv : List Nat) (W : World) (e : Ending) (w' : World) : Prop :=
  ∃ us', e = .returned (.int .u32 ((val us / val lv : Nat) : Int)) ∧ Row w' gu (pre ++ us' ++ post) ∧ Hid (us'.length = n + 1) ∧ Dig us' ∧ Hid (val us' = val us % val lv) ∧ W.grownBy w' (some gu)

def gmeas (v : Value) : Nat := (intOf v).toNat
def DigCut (q : Nat) (w : World) (g : Value) (wx : World) : Prop := ∃ gv nd : Nat, g = .int .u64 (gv : Int) ∧ q ≤ gv ∧ gv ≤ q + 1 ∧ gv < 4294967296 ∧ wx = w.drewN nd
def GuessInv (U V un u1 v1 : Nat) (w : World) (g r : Value) (wr : World) : Prop := ∃ gv rv : Nat, g = .int .u64 (gv : Int) ∧ r = .int .u64 (rv : Int) ∧ Hid (GInv U V un u1 v1 gv rv) ∧ ∃ nd, wr = w.drewN nd

theorem split2 {l : List Nat} {n : Nat} (h1 : n + 1 < l.length) (h2 : l.length ≤ n + 2) : val l = (l.getD (n + 1) 0 * 4294967296 + l.getD n 0) * pw n + val (l.take n) := by
  have e : l.length = n + 2 := by omega
  rw [← val_take_ge l (n + 2) h2, val_take_succ, val_take_succ, pw]
  generalize l.getD (n + 1) 0 = a
  generalize l.getD n 0 = b
  generalize pw n = p
  have e1 : (a * 4294967296 + b) * p = 4294967296 * (p * a) + p * b := by
    rw [Nat.add_mul, Nat.mul_comm a, Nat.mul_assoc, Nat.mul_comm b, Nat.mul_comm a p]
  rw [e1, Nat.mul_assoc]
  omega
theorem split3_sum (a b c p z : Nat) : (b * 4294967296 + c) * p + z + 4294967296 * (4294967296 * p) * a = ((a * 4294967296 + b) * 4294967296 + c) * p + z := by
  have e1 : ((a * 4294967296 + b) * 4294967296 + c) * p = 4294967296 * (4294967296 * p) * a + (b * 4294967296 + c) * p := by
    rw [Nat.add_mul, Nat.add_mul, Nat.add_mul, Nat.add_mul, Nat.add_assoc, Nat.mul_comm _ a, ← Nat.mul_assoc, ← Nat.mul_assoc]
  rw [e1, Nat.add_comm (4294967296 * (4294967296 * p) * a), Nat.add_assoc, Nat.add_assoc, Nat.add_comm z]
theorem split3 {l : List Nat} {n : Nat} (h1 : l.length = n + 3) : val l = ((l.getD (n + 2) 0 * 4294967296 + l.getD (n + 1) 0) * 4294967296 + l.getD n 0) * pw n + val (l.take n) := by
  rw [← val_take_ge l (n + 3) (by omega), val_take_succ]
  have h2 := split2 (l := l.take (n + 2)) (n := n) (by rw [List.length_take]; omega) (by rw [List.length_take]; omega)
  rw [h2]
  have g1 : (l.take (n + 2)).getD (n + 1) 0 = l.getD (n + 1) 0 := by simp [List.getD_eq_getElem?_getD, List.getElem?_take]
  have g2 : (l.take (n + 2)).getD n 0 = l.getD n 0 := by simp [List.getD_eq_getElem?_getD, List.getElem?_take]
  have g3 : (l.take (n + 2)).take n = l.take n := by rw [List.take_take]; congr 1; omega
  rw [g1, g2, g3, pw, pw]
  exact split3_sum _ _ _ _ _

theorem digit_ctx {us lv : List Nat} {n un u1 u2 v1 v2 : Nat} (hus : Hid (us.length = n + 1)) (hlv : Hid (lv.length = n)) (hn : 2 ≤ n) (hud : Dig us) (hvd : Dig lv) (hgn : Hid (us.getD n 0 = un)) (hg1 : Hid (us.getD (n - 1) 0 = u1)) (hg2 : Hid (us.getD (n - 2) 0 = u2))
    (hv1 : Hid (lv.getD (n - 1) 0 = v1)) (hv2 : Hid (lv.getD (n - 2) 0 = v2)) (hnorm : 2147483648 ≤ v1) (hlt : Hid (val us < 4294967296 * val lv)) :
    GCtx (val us) (val lv) un u1 u2 v1 v2 (pw (n - 2)) (val (us.take (n - 2))) (val (lv.take (n - 2))) := by
  obtain ⟨m, rfl⟩ : ∃ m, n = m + 2 := ⟨n - 2, by omega⟩
  have e1 : m + 2 - 1 = m + 1 := by omega
  have e2 : m + 2 - 2 = m := by omega
  rw [e1] at hg1 hv1
  rw [e2] at hg2 hv2 ⊢
  have h3 := split3 (l := us) (n := m) hus.out
  have h2 := split2 (l := lv) (n := m) (by rw [hlv.out]; omega) (by rw [hlv.out]; omega)
  rw [hgn.out, hg1.out, hg2.out] at h3
  rw [hv1.out, hv2.out] at h2
  exact ⟨h3, h2, val_take_lt hud _, val_take_lt hvd _, hgn.out ▸ hud.getD _, hg1.out ▸ hud.getD _, hg2.out ▸ hud.getD _, hv1.out ▸ hvd.getD _, hv2.out ▸ hvd.getD _, hnorm, hlt.out⟩

theorem nv_drewN {w : World} {A : Option Addr} {c : Nat} {l : List Nat} (h : Nv w A c l) (n : Nat) : Nv (w.drewN n) A c l := ⟨h.len, h.big, h.rd, h.dig⟩
theorem grown_drewN (w : World) (r : Option Nat) (n : Nat) : w.grownBy (w.drewN n) r := ⟨rfl, rfl, rfl, Nat.le_refl _, fun _ _ _ => rfl⟩
theorem grown_set (w : World) {a w' : World} {g : Nat} (h : a.grownBy w' (some g)) (i : Nat) (v : Value) : a.grownBy (w'.setCell ⟨g, i, none⟩ v) (some g) :=
  ⟨h.os, h.tape, h.output, by simpa [World.setCell] using h.size, fun k hk hne => (Below.heap_setCell w' _ v k (fun e => hne (by rw [e]))).trans (h.block k hk hne)⟩
theorem grown_trans {a b c : World} {r : Option Nat} (h : a.grownBy b r) (k : b.grownBy c r) : a.grownBy c r :=
  ⟨k.os.trans h.os, k.tape.trans h.tape, k.output.trans h.output, Nat.le_trans h.size k.size, fun i hi hn => (k.block i (Nat.lt_of_lt_of_le hi h.size) hn).trans (h.block i hi hn)⟩
theorem nv_grown {w w' : World} {b : Addr} {c g : Nat} {l : List Nat} (h : Nv w (some b) c l) (hg : w.grownBy w' (some g)) (hne : b.block ≠ g) : Nv w' (some b) c l := by
  refine ⟨h.len, h.big, fun hx => ?_, h.dig⟩
  obtain ⟨a, e, h1, h2⟩ := h.rd hx
  cases e
  refine ⟨_, rfl, Nat.lt_of_lt_of_le h1 hg.size, fun j hj => ?_⟩
  rw [World.cell?_of_block (hg.block _ (by rw [block_add]; exact h1) (by rw [block_add]; intro e; exact hne (by injection e)))]
  exact h2 j hj

def MsInv (us lv : List Nat) (gv n gu : Nat) (pre post : List Nat) (w : World) (c b i : Value) (wr : World) : Prop :=
  ∃ (k cv bv : Nat) (lo : List Nat), k ≤ n ∧ c = .int .u64 (cv : Int) ∧ b = .int .u64 (bv : Int) ∧ i = .int .i64 (k : Int) ∧ cv < 4294967296 ∧ bv ≤ 1 ∧ Hid (lo.length = k) ∧ Dig lo ∧
    Row wr gu (pre ++ (lo ++ us.drop k) ++ post) ∧ Hid (val lo + gv * val (lv.take k) = val (us.take k) + pw k * (cv + bv)) ∧ w.grownBy wr (some gu)

theorem sub_wrapG (da x y : Nat) (h1 : da < 4294967296) (h : x + y ≤ 4294967296) :
    ∃ z c : Nat, IntKind.u64.wrap (IntKind.u64.wrap ((da : Int) - x) - y) % 4294967296 = (z : Int) ∧ IntKind.u64.wrap (IntKind.u64.wrap ((da : Int) - x) - y) / 9223372036854775808 = (c : Int) ∧
      z < 4294967296 ∧ c ≤ 1 ∧ z + x + y = da + 4294967296 * c := by
  rw [wrap_u64, wrap_u64]
  by_cases h2 : x + y ≤ da
  · refine ⟨da - x - y, 0, ?_, ?_, by omega, by omega, by omega⟩ <;> omega
  · refine ⟨da + 4294967296 - x - y, 1, ?_, ?_, by omega, by omega, by omega⟩ <;> omega

theorem nv_set {w : World} {b : Addr} {c g : Nat} {l : List Nat} (h : Nv w (some b) c l) (hne : b.block ≠ g) (i : Nat) (v : Value) : Nv (w.setCell ⟨g, i, none⟩ v) (some b) c l :=
  nv_grown h (grown_set w (World.grownBy.refl w (some g)) i v) hne

theorem and_mask (p c : Nat) (h : p + c < 18446744073709551616) : ∃ m : Nat, Hid (m = (p + c) % 4294967296) ∧ m < 4294967296 ∧ bits .and .u64 ((p : Int) + (c : Int)) 4294967295 = (m : Int) := by
  refine ⟨(p + c) % 4294967296, rfl, Nat.mod_lt _ (by omega), ?_⟩
  have h1 := u64_and_nat (p + c) 4294967295 h (by omega)
  rw [show (4294967295 : Nat) = 2 ^ 32 - 1 from rfl, Nat.and_two_pow_sub_one_eq_mod] at h1
  rw [← Int.natCast_add]
  exact h1

theorem drop_cons {us : List Nat} {k : Nat} (h : k < us.length) : us.drop k = us.getD k 0 :: us.drop (k + 1) := by
  rw [List.drop_eq_getElem_cons h, List.getD_eq_getElem?_getD, List.getElem?_eq_getElem h]; rfl
theorem getD_mid {lo us : List Nat} {k : Nat} (h : lo.length = k) : (lo ++ us.drop k).getD k 0 = us.getD k 0 := by
  subst h
  rw [List.getD_eq_getElem?_getD, List.getElem?_append_right (Nat.le_refl _), Nat.sub_self, List.getElem?_drop, List.getD_eq_getElem?_getD]
  rfl

theorem ms_row {us lo pre post : List Nat} {wr : World} {gu j k n z : Nat} (hrow : Row wr gu (pre ++ (lo ++ us.drop k) ++ post)) (hlo : Hid (lo.length = k)) (hpre : Hid (pre.length = j)) (hus : Hid (us.length = n + 1)) (x : Int) (hx : x = (z : Int)) (hk : k ≤ n := by omega) :
    Row (wr.setCell ⟨gu, j + k, none⟩ (.int .u32 x)) gu (pre ++ (lo ++ [z] ++ us.drop (k + 1)) ++ post) := by
  have h1 : Row wr gu ((pre ++ lo) ++ us.getD k 0 :: (us.drop (k + 1) ++ post)) := hrow.eq (by rw [drop_cons (by rw [hus.out]; omega)]; simp)
  exact (h1.push (by rw [List.length_append, hpre.out, hlo.out]) x hx).eq (by simp)

theorem ms_step {us lv lo pre post : List Nat} {gv n gu j k c bw d vk p m z c2 : Nat} {w wr : World} (hkn : k < n) (hus : Hid (us.length = n + 1)) (hlo : Hid (lo.length = k)) (hlod : Dig lo) (hpre : Hid (pre.length = j)) (hud : Dig us)
    (hgd : Hid ((lo ++ us.drop k).getD k 0 = d)) (hgvk : Hid (lv.getD k 0 = vk)) (hp : Hid (gv * vk = p)) (hm : Hid (m = (p + c) % 4294967296)) (hz : z < 4294967296) (hc2 : c2 ≤ 1) (hs : z + m + bw = d + 4294967296 * c2)
    (hrow : Row wr gu (pre ++ (lo ++ us.drop k) ++ post)) (hval : Hid (val lo + gv * val (lv.take k) = val (us.take k) + pw k * (c + bw))) (hgr : w.grownBy wr (some gu))
    (xc xb xi xz : Int) (h1 : xc = (((p + c) / 4294967296 : Nat) : Int)) (h2 : xb = (c2 : Int)) (h3 : xi = (k : Int) + 1) (h4 : xz = (z : Int)) (hcb : (p + c) / 4294967296 < 4294967296) :
    MsInv us lv gv n gu pre post w (.int .u64 xc) (.int .u64 xb) (.int .i64 xi) (wr.setCell ⟨gu, j + k, none⟩ (.int .u32 xz)) := by
  refine ⟨k + 1, (p + c) / 4294967296, c2, lo ++ [z], by omega, by rw [h1], by rw [h2], by rw [h3]; rfl, hcb, hc2, ?_, hlod.snoc hz, ms_row hrow hlo hpre hus xz h4, ?_, grown_set w hgr _ _⟩
  · show (lo ++ [z]).length = k + 1
    rw [List.length_append, hlo.out]; rfl
  · show val (lo ++ [z]) + gv * val (lv.take (k + 1)) = val (us.take (k + 1)) + pw (k + 1) * _
    have hd : us.getD k 0 = d := by rw [← getD_mid hlo.out]; exact hgd.out
    rw [val_snoc, hlo.out, val_take_succ, val_take_succ, hgvk.out, hd, pw, Nat.mul_add gv, Nat.mul_left_comm gv, hp.out]
    have h5 := hval.out
    have h6 : p + c = m + 4294967296 * ((p + c) / 4294967296) := by rw [hm.out]; omega
    generalize (p + c) / 4294967296 = q at *
    have h7 : pw k * (z + m + bw) = pw k * (d + 4294967296 * c2) := by rw [hs]
    have h8 : pw k * (p + c) = pw k * (m + 4294967296 * q) := by rw [← h6]
    have e1 : pw k * (4294967296 * c2) = 4294967296 * pw k * c2 := by rw [← Nat.mul_assoc, Nat.mul_comm (pw k)]
    have e2 : pw k * (4294967296 * q) = 4294967296 * pw k * q := by rw [← Nat.mul_assoc, Nat.mul_comm (pw k)]
    rw [Nat.mul_add, Nat.mul_add, Nat.mul_add, e1] at h7
    rw [Nat.mul_add, Nat.mul_add, e2] at h8
    rw [Nat.mul_add] at h5
    rw [Nat.mul_add (4294967296 * pw k)]
    generalize pw k * z = z1 at *
    generalize pw k * m = m1 at *
    generalize pw k * bw = b1 at *
    generalize pw k * d = d1 at *
    generalize pw k * p = p1 at *
    generalize pw k * c = c1 at *
    generalize 4294967296 * pw k * c2 = a1 at *
    generalize 4294967296 * pw k * q = a2 at *
    generalize gv * val (lv.take k) = g1 at *
    clear hs h6 hm hp hval
    omega

theorem ms_last {us lv lo : List Nat} {gv n c bw d z c2 : Nat} (hus : Hid (us.length = n + 1)) (hlv : Hid (lv.length = n)) (hlo : Hid (lo.length = n)) (hgd : Hid ((lo ++ us.drop n).getD n 0 = d))
    (hval : Hid (val lo + gv * val (lv.take n) = val (us.take n) + pw n * (c + bw))) (hs : z + c + bw = d + 4294967296 * c2) :
    val (lo ++ [z]) + gv * val lv = val us + pw (n + 1) * c2 := by
  have hd : us.getD n 0 = d := by rw [← getD_mid hlo.out]; exact hgd.out
  have h0 := hval.out
  rw [val_take_ge lv n (by rw [hlv.out]; omega)] at h0
  have h1 : val us = val (us.take n) + pw n * d := by rw [← val_take_ge us (n + 1) (by rw [hus.out]; omega), val_take_succ, hd]
  rw [val_snoc, hlo.out, h1, pw]
  have h7 : pw n * (z + c + bw) = pw n * (d + 4294967296 * c2) := by rw [hs]
  have e1 : pw n * (4294967296 * c2) = 4294967296 * pw n * c2 := by rw [← Nat.mul_assoc, Nat.mul_comm (pw n)]
  rw [Nat.mul_add, Nat.mul_add, Nat.mul_add, e1] at h7
  rw [Nat.mul_add] at h0
  generalize gv * val lv = g1 at *
  clear hs h1
  omega

theorem digit_exact {U V g x P : Nat} (hV : 0 < V) (hq : U / V ≤ g ∧ g ≤ U / V + 1) (h : x + g * V = U + P * 0) : U / V = g ∧ x = U % V := by
  have h1 : g ≤ U / V := by rw [Nat.le_div_iff_mul_le hV]; omega
  have h2 : U / V = g := by omega
  refine ⟨h2, ?_⟩
  have h3 := Nat.div_add_mod U V
  rw [h2, Nat.mul_comm] at h3
  omega

theorem digit_over {U V g x P : Nat} (hV : 0 < V) (hq : U / V ≤ g ∧ g ≤ U / V + 1) (hx : x < P) {P' : Nat} (hP : P ≤ P') (h : x + g * V = U + P' * 1) : g = U / V + 1 ∧ x + V = U % V + P' := by
  have h1 : ¬ g ≤ U / V := by rw [Nat.le_div_iff_mul_le hV]; omega
  have h2 : g = U / V + 1 := by omega
  refine ⟨h2, ?_⟩
  have h3 := Nat.div_add_mod U V
  rw [h2, Nat.add_mul, Nat.one_mul, Nat.mul_comm (U / V)] at h
  omega

def AbInv (us lv : List Nat) (n gu : Nat) (pre post : List Nat) (w : World) (c i : Value) (wr : World) : Prop :=
  ∃ (k cv : Nat) (lo : List Nat), k ≤ n ∧ c = .int .u64 (cv : Int) ∧ i = .int .i64 (k : Int) ∧ cv ≤ 1 ∧ Hid (lo.length = k) ∧ Dig lo ∧
    Row wr gu (pre ++ (lo ++ us.drop k) ++ post) ∧ Hid (val lo + pw k * cv = val (us.take k) + val (lv.take k)) ∧ w.grownBy wr (some gu)

theorem ab_step {us lv lo pre post : List Nat} {n gu j k cy d vk : Nat} {w wr : World} (hkn : k < n) (hus : Hid (us.length = n + 1)) (hlo : Hid (lo.length = k)) (hlod : Dig lo) (hpre : Hid (pre.length = j))
    (hgd : Hid ((lo ++ us.drop k).getD k 0 = d)) (hgvk : Hid (lv.getD k 0 = vk)) (s : Nat) (hs : s = d + vk + cy) (hs2 : s / 4294967296 ≤ 1)
    (hrow : Row wr gu (pre ++ (lo ++ us.drop k) ++ post)) (hval : Hid (val lo + pw k * cy = val (us.take k) + val (lv.take k))) (hgr : w.grownBy wr (some gu)) (nq : Nat)
    (xc xi xz : Int) (h1 : xc = ((s / 4294967296 : Nat) : Int)) (h3 : xi = (k : Int) + 1) (h4 : xz = ((s % 4294967296 : Nat) : Int)) :
    AbInv us lv n gu pre post w (.int .u64 xc) (.int .i64 xi) ((wr.drewN nq).setCell ⟨gu, j + k, none⟩ (.int .u32 xz)) := by
  refine ⟨k + 1, s / 4294967296, lo ++ [s % 4294967296], by omega, by rw [h1], by rw [h3]; rfl, hs2, ?_, hlod.snoc (Nat.mod_lt _ (by omega)), ms_row (wr := wr.drewN nq) hrow hlo hpre hus xz h4, ?_, grown_set w (grown_trans hgr (grown_drewN wr _ nq)) _ _⟩
  · show (lo ++ [_]).length = k + 1
    rw [List.length_append, hlo.out]; rfl
  · show val (lo ++ [_]) + pw (k + 1) * _ = val (us.take (k + 1)) + val (lv.take (k + 1))
    have hd : us.getD k 0 = d := by rw [← getD_mid hlo.out]; exact hgd.out
    rw [val_snoc, hlo.out, val_take_succ, val_take_succ, hgvk.out, hd, pw]
    have h5 := hval.out
    have h7 : pw k * s = pw k * (d + vk + cy) := by rw [hs]
    have h8 : pw k * s = pw k * (s % 4294967296 + 4294967296 * (s / 4294967296)) := by rw [Nat.mod_add_div]
    have e1 : pw k * (4294967296 * (s / 4294967296)) = 4294967296 * pw k * (s / 4294967296) := by rw [← Nat.mul_assoc, Nat.mul_comm (pw k)]
    rw [Nat.mul_add, e1] at h8
    rw [Nat.mul_add, Nat.mul_add] at h7
    clear hs hs2
    omega

theorem Row.trans_ {w : World} {g : Nat} {l l' : List Nat} (h : Row w g l) (e : l = l') : Row w g l' := e ▸ h

theorem ab_last {us lv lo : List Nat} {n cy d R : Nat} (hus : Hid (us.length = n + 1)) (hlv : Hid (lv.length = n)) (hlo : Hid (lo.length = n)) (hgd : Hid ((lo ++ us.drop n).getD n 0 = d))
    (hval : Hid (val lo + pw n * cy = val (us.take n) + val (lv.take n))) (hd : Dig (lo ++ [(d + cy) % 4294967296])) (h : val us + val lv = R + pw (n + 1)) (hR : R < pw (n + 1)) :
    val (lo ++ [(d + cy) % 4294967296]) = R := by
  have hdd : us.getD n 0 = d := by rw [← getD_mid hlo.out]; exact hgd.out
  have h0 := hval.out
  rw [val_take_ge lv n (by rw [hlv.out]; omega)] at h0
  have h1 : val us = val (us.take n) + pw n * d := by rw [← val_take_ge us (n + 1) (by rw [hus.out]; omega), val_take_succ, hdd]
  have h2 := val_lt hd
  rw [List.length_append, hlo.out, List.length_singleton] at h2
  rw [val_snoc, hlo.out] at h2 ⊢
  have h7 : pw n * (d + cy) = pw n * ((d + cy) % 4294967296 + 4294967296 * ((d + cy) / 4294967296)) := by rw [Nat.mod_add_div]
  have e1 : pw n * (4294967296 * ((d + cy) / 4294967296)) = 4294967296 * pw n * ((d + cy) / 4294967296) := by rw [← Nat.mul_assoc, Nat.mul_comm (pw n)]
  rw [Nat.mul_add, Nat.mul_add, e1] at h7
  simp only [pw] at h h2 hR
  generalize (d + cy) / 4294967296 = q at *
  generalize (d + cy) % 4294967296 = x at *
  generalize 4294967296 * pw n = P at *
  have h8 : val lo + pw n * x + P * q = R + P := by omega
  have h9 : q = 1 := by
    rcases Nat.lt_or_ge q 1 with hq | hq
    · have : q = 0 := by omega
      subst this
      omega
    · rcases Nat.lt_or_ge 1 q with hq2 | hq2
      · have : P * 2 ≤ P * q := Nat.mul_le_mul_left _ hq2
        omega
      · omega
  subst h9
  omega

set_option maxRecDepth 100000 in
set_option maxHeartbeats 1000000 in
theorem digit_any {gu j n cU cv : Nat} {b : Addr} {pre us post lv : List Nat} {w : World} (hrow : Row w gu (pre ++ us ++ post)) (hpre : Hid (pre.length = j)) (hus : Hid (us.length = n + 1)) (hlv : Hid (lv.length = n))
    (hn : 2 ≤ n) (hn2 : n ≤ 5000000000) (hj : j ≤ 5000000000) (hv : Nv w (some b) cv lv) (hbg : b.block ≠ gu) (hud : Dig us) (hnorm : 2147483648 ≤ lv.getD (n - 1) 0) (hlt : Hid (val us < 4294967296 * val lv)) :
    Calls Try.prog 83 #[.slice (some ⟨gu, j, none⟩) (n + 1) cU, .slice (some b) n cv] w (RetDigit gu n pre us post lv w) := by
  obtain ⟨un, hcn, hdn, hgn⟩ := hrow.mid (i := n) hpre.out (by rw [hus.out]; omega) hud
  obtain ⟨u1, hc1, hd1, hg1⟩ := hrow.mid (i := n - 1) hpre.out (by rw [hus.out]; omega) hud
  obtain ⟨u2, hc2, hd2, hg2⟩ := hrow.mid (i := n - 2) hpre.out (by rw [hus.out]; omega) hud
  obtain ⟨a1, v1, e1, _, hv1, hdv1, hgv1⟩ := hv.at (k := n - 1) (by rw [hlv.out]; omega)
  obtain ⟨a2, v2, e2, _, hv2, hdv2, hgv2⟩ := hv.at (k := n - 2) (by rw [hlv.out]; omega)
  cases e1
  cases e2
  rw [hgv1.out] at hnorm
  have hG := digit_ctx hus hlv hn hud hv.dig hgn hg1 hg2 hgv1 hgv2 hnorm hlt
  obtain ⟨t, ht⟩ : ∃ t : Nat, Hid (t = u1 + 4294967296 * un) := ⟨_, rfl⟩
  have hor := or_join u1 un hd1 hdn
  rw [← ht.out] at hor
  have htb : t < 18446744073709551616 := by rw [ht.out]; omega
  have hS := Lib.hid hG.start
  rw [show un * 4294967296 + u1 = t by rw [ht.out]; omega] at hS
  have hG' := Lib.hid hG
  clear hG
  obtain ⟨q0, hq0⟩ : ∃ q0, Hid (q0 = t / v1) := ⟨_, rfl⟩
  have hwq : IntKind.u64.wrap ((t : Int) / (v1 : Int)) = (q0 : Int) := by
    rw [hq0.out, wrap_u64, ← Int.natCast_ediv]
    have := Nat.div_le_self t v1
    generalize t / v1 = x at *
    omega
  rw [← hq0.out] at hS
  clear htb
  have hrow0 := hrow
  go_enter Try.func83, Try.ntmps83
  go_wp2
  go_quiet (fail)
  go_wp2
  go_quiet (fail)
  go_upto_block 0 with (fail)
  go_cut [7] (fun g wx => DigCut (val us / val lv) w g wx)
  case first =>
    go_wp2
    go_loopw [7, 8] (fun g r wr => GuessInv (val us) (val lv) un u1 v1 w g r wr) (fun g _ _ => gmeas g)
    case atStart => exact ⟨_, _, rfl, by rw [Int.natCast_emod], hS, _, World.drewN_drewN' _ _ _⟩
    case round =>
      obtain ⟨g, r, rfl, rfl, hI, nd, rfl⟩ := hrel
      have hrb := hI.out.r
      have hgb : g ≤ 8589934592 := by have := hI.out.g; omega
      by_cases hA : 4294967296 ≤ g
      · have hm := Lib.hid (hG'.out.more hI.out (.inl hA))
        have hA' : decide ((4294967296 : Int) ≤ (g : Int)) = true := by simp; omega
        have hg1 : 1 ≤ g := by omega
        clear hA
        go_wp2
        go_quiet (fail)
        clear hS hor hwq hA'
        by_cases hB : r + v1 < 4294967296
        · have hB' : decide ((4294967296 : Int) ≤ (r : Int) + (v1 : Int)) = false := by simp; omega
          have hB2 := Lib.hid hB
          clear hB
          go_wp2
          go_roundw
          case rel => exact ⟨g - 1, r + v1, by rw [Int.ofNat_sub hg1]; rfl, by rw [Int.natCast_add], GCtx.next hI.out hm.out hB2.out, _, rfl⟩
          case measure => unfold gmeas; simp [intOf]; omega
        · have hB' : decide ((4294967296 : Int) ≤ (r : Int) + (v1 : Int)) = true := by simp; omega
          have hB2 := Lib.hid (hG'.out.stop hm.out (by omega))
          go_wp2
          go_meet
          case rel => exact ⟨g - 1, _, by rw [Int.ofNat_sub hg1]; rfl, hB2.out.1, hB2.out.2.1, hB2.out.2.2, rfl⟩
      · have hA' : decide ((4294967296 : Int) ≤ (g : Int)) = false := by simp; omega
        have hAg : g < 4294967296 := by omega
        obtain ⟨p, hp, hwp⟩ : ∃ p : Nat, Hid (g * v2 = p) ∧ IntKind.u64.wrap ((g : Int) * (v2 : Int)) = (p : Int) := by
          have hm := mul_le hAg hdv2
          refine ⟨_, rfl, ?_⟩
          rw [wrap_u64, ← Int.natCast_mul]
          generalize g * v2 = p at *
          omega
        obtain ⟨s, hs⟩ : ∃ s : Nat, Hid (s = u2 + 4294967296 * r) := ⟨_, rfl⟩
        have hor2 := or_join u2 r hd2 hrb
        rw [← hs.out] at hor2
        by_cases hC : s < p
        · have hm := Lib.hid (hG'.out.more hI.out (.inr (by rw [hp.out]; have := hs.out; omega)))
          have hC' : decide (s < p) = true := by simp; omega
          have hg1 : 1 ≤ g := hm.out.1
          clear hC
          go_wp2
          go_quiet (fail)
          clear hS hor hwq hA' hwp hor2 hC'
          by_cases hB : r + v1 < 4294967296
          · have hB' : decide ((4294967296 : Int) ≤ (r : Int) + (v1 : Int)) = false := by simp; omega
            have hB2 := Lib.hid hB
            clear hB
            go_wp2
            go_roundw
            case rel => exact ⟨g - 1, r + v1, by rw [Int.ofNat_sub hg1]; rfl, by rw [Int.natCast_add], GCtx.next hI.out hm.out hB2.out, _, rfl⟩
            case measure => unfold gmeas; simp [intOf]; omega
          · have hB' : decide ((4294967296 : Int) ≤ (r : Int) + (v1 : Int)) = true := by simp; omega
            have hB2 := Lib.hid (hG'.out.stop hm.out (by omega))
            go_wp2
            go_meet
            case rel => exact ⟨g - 1, _, by rw [Int.ofNat_sub hg1]; rfl, hB2.out.1, hB2.out.2.1, hB2.out.2.2, rfl⟩
        · have hm := Lib.hid (hG'.out.done hI.out hAg (by rw [hp.out]; have := hs.out; omega))
          have hC' : decide (s < p) = false := by simp; omega
          clear hC
          go_wp2
          go_quiet (fail)
          clear hS hor hwq hA' hwp hor2 hC'
          go_wp2
          go_meet
          case rel => exact ⟨g, _, rfl, hm.out.1, hm.out.2.1, hm.out.2.2, World.drewN_drewN' _ _ _⟩
  case rest =>
    obtain ⟨gv, nd, rfl, hq1, hq2, hgb, rfl⟩ := hcut
    have hq := Lib.hid (And.intro hq1 hq2)
    clear hq1 hq2 hcn hc1 hc2 hv1 hv2 hor hwq hS hrow0
    have hrow1 : Row (w.drewN nd) gu (pre ++ us ++ post) := hrow
    have hvN : Nv (w.drewN nd) (some b) cv lv := nv_drewN hv nd
    have hgr0 : w.grownBy (w.drewN nd) (some gu) := grown_drewN w (some gu) nd
    obtain ⟨w0, hw0⟩ : ∃ w0, w0 = w.drewN nd := ⟨_, rfl⟩
    rw [← hw0] at hrow1 hvN hgr0 ⊢
    clear hw0 hrow hv
    go_wp2
    go_loopw [9, 10, 83] (fun c b i wr => MsInv us lv gv n gu pre post w0 c b i wr) (fun _ _ i _ => n - (intOf i).toNat)
    case atStart => exact ⟨0, 0, 0, [], by omega, rfl, rfl, rfl, by omega, by omega, rfl, Dig.nil, hrow1.eq (by simp), by show _ = _; simp [val], World.grownBy.refl _ _⟩
    case round =>
      obtain ⟨k, c, bw, lo, hk, rfl, rfl, rfl, hc, hbw, hlo, hlod, hrowk, hval, hgr⟩ := hrel
      obtain ⟨d, hcd, hdd, hgd⟩ := hrowk.mid (i := k) hpre.out (by rw [List.length_append, List.length_drop, hlo.out, hus.out]; omega) (hlod.append (hud.drop _))
      have hf := hrowk.free (j + k)
      by_cases hkn : k < n
      · obtain ⟨b', vk, hb', _, hcv, hdvk, hgvk⟩ := (nv_grown hvN hgr hbg).at (k := k) (by rw [hlv.out]; exact hkn)
        cases hb'
        obtain ⟨p, hp, hpb, hw1, hw2, _⟩ := mul_add_fits (c := 0) hgb hdvk hc (by omega)
        obtain ⟨m, hm, hmb, hand⟩ := and_mask p c (by omega)
        go_wp2
        obtain ⟨z, c2, e1, e2, hz, hc2, hs⟩ := sub_wrapG d m bw hdd (by omega)
        go_roundw
        case rel => exact ms_step hkn hus hlo hlod hpre hud hgd hgvk hp hm hz hc2 hs hrowk hval hgr _ _ _ _ (by omega) e2 rfl e1 (by omega)
        case measure => simp [intOf]; omega
      · obtain rfl : k = n := by omega
        obtain ⟨z, c2, e1, e2, hz, hc2, hs⟩ := sub_wrapG d c bw hdd (by omega)
        obtain ⟨D, hD⟩ : ∃ D : Int, IntKind.u64.wrap (IntKind.u64.wrap ((d : Int) - (c : Int)) - (bw : Int)) = D := ⟨_, rfl⟩
        rw [hD] at e1 e2
        have hrow2 := (ms_row hrowk hlo hpre hus (z : Int) rfl).eq (l' := pre ++ (lo ++ [z]) ++ post) (by rw [List.drop_of_length_le (by rw [hus.out]; omega)]; simp)
        have hgr2 := grown_trans hgr0 (grown_set w0 hgr (j + k) (.int .u32 (z : Int)))
        have hl2 := Lib.hid (show (lo ++ [z]).length = k + 1 by rw [List.length_append, hlo.out]; rfl)
        have hd2 : Dig (lo ++ [z]) := hlod.snoc hz
        have hsum := Lib.hid (ms_last hus hlv hlo hgd hval hs)
        have hvF := nv_set (nv_grown hvN hgr hbg) hbg (j + k) (.int .u32 (z : Int))
        clear hrowk hval hs
        by_cases hc0 : c2 = 0
        · subst hc0
          have he2 : (D / 9223372036854775808 == 0) = true := by rw [e2]; rfl
          have hfin := Lib.hid (digit_exact hG'.out.pos hq.out hsum.out)
          have hq3 := Lib.hid hfin.out.1
          go_wp2
          go_ret
          refine ⟨lo ++ [z], ?_, hrow2, hl2, hd2, hfin.out.2, hgr2⟩
          rw [hq3.out]; rfl
        · have he2 : (D / 9223372036854775808 == 0) = false := by rw [e2, beq_eq_false_iff_ne]; omega
          obtain rfl : c2 = 1 := by omega
          have hfin := Lib.hid (digit_over hG'.out.pos hq.out (val_lt hd2) (by rw [hl2.out]; exact Nat.le_refl _) hsum.out)
          have hg1 : 1 ≤ gv := by rw [hfin.out.1]; exact Nat.le_add_left _ _
          obtain ⟨us2, hus2⟩ : ∃ us2, Hid (us2 = lo ++ [z]) := ⟨_, rfl⟩
          rw [← hus2.out] at hrow2 hl2 hd2 hfin
          obtain ⟨w2, hw2⟩ : ∃ w2, w2 = wr.setCell ⟨gu, j + k, none⟩ (.int .u32 (z : Int)) := ⟨_, rfl⟩
          go_wp2
          rw [← hw2] at hrow2 hvF hgr2 ⊢
          clear hw2
          go_loopw [9, 135] (fun c i wr => AbInv us2 lv k gu pre post w2 c i wr) (fun _ i _ => k - (intOf i).toNat)
          case atStart => exact ⟨0, 0, [], by omega, rfl, rfl, by omega, rfl, Dig.nil, hrow2.eq (by simp), by show _ = _; simp [val], World.grownBy.refl _ _⟩
          case round =>
            obtain ⟨i, cy, lo2, hi, rfl, rfl, hcy, hlo2, hlod2, hrowi, hvali, hgri⟩ := hrel
            obtain ⟨d3, hcd3, hdd3, hgd3⟩ := hrowi.mid (i := i) hpre.out (by rw [List.length_append, List.length_drop, hlo2.out, hl2.out]; omega) (hlod2.append (hd2.drop _))
            have hf3 := hrowi.free (j + i)
            by_cases hin : i < k
            · obtain ⟨b', vk, hb', _, hcv, hdvk, hgvk⟩ := (nv_grown hvF hgri hbg).at (k := i) (by rw [hlv.out]; exact hin)
              cases hb'
              go_wp2
              go_quiet (fail)
              go_wp2
              go_roundw
              case rel => exact ab_step hin hl2 hlo2 hlod2 hpre hgd3 hgvk (d3 + vk + cy) rfl (by omega) hrowi hvali hgri nq _ _ _ (by omega) rfl (by omega)
              case measure => simp [intOf]; omega
            · obtain rfl : i = k := by omega
              have hrow4 := fun (x : Int) (hx : x = (((d3 + cy) % 4294967296 : Nat) : Int)) => Row.trans_ (l' := pre ++ (lo2 ++ [(d3 + cy) % 4294967296]) ++ post) (ms_row (z := (d3 + cy) % 4294967296) hrowi hlo2 hpre hl2 x hx) (by rw [List.drop_of_length_le (by rw [hl2.out]; omega)]; simp)
              have hgr4 := fun x => grown_trans hgr2 (grown_set w2 hgri (j + i) (.int .u32 x))
              have hl4 := Lib.hid (show (lo2 ++ [(d3 + cy) % 4294967296]).length = i + 1 by rw [List.length_append, hlo2.out]; rfl)
              have hd4 : Dig (lo2 ++ [(d3 + cy) % 4294967296]) := hlod2.snoc (Nat.mod_lt _ (by omega))
              have hfin4 := Lib.hid (ab_last hl2 hlv hlo2 hgd3 hvali hd4 hfin.out.2 (Nat.lt_of_lt_of_le (Nat.mod_lt _ hG'.out.pos) (Nat.le_trans (Nat.le_of_lt (val_lt hvF.dig)) (pw_mono (by rw [hlv.out]; omega)))))
              have hq4 := Lib.hid hfin.out.1
              clear hrowi hvali
              go_wp2
              go_ret
              refine ⟨lo2 ++ [(d3 + cy) % 4294967296], ?_, hrow4 _ (by omega), hl4, hd4, hfin4, hgr4 _⟩
              show Ending.returned (.int .u32 ((gv : Int) - 1)) = _
              rw [hq4.out]
              congr 2
              rw [Int.natCast_add]
              exact Int.add_sub_cancel _ _
end Go.Proofs.Ytghpcimeobmonaa
namespace Go.Proofs.Ytghpcimeobmonaa
set_option linter.unusedVariables false
set_option linter.unusedSimpArgs false
open Go.RowKit Plain

def AddInv (la lb : List Nat) (w : World) (c i : Value) (wr : World) : Prop :=
  ∃ (k cv : Nat) (o : List Nat), k ≤ la.length ∧ i = .int .i64 k ∧ c = .int .u64 cv ∧ cv ≤ 1 ∧ Hid (o.length = k) ∧ Dig o ∧
    Row wr w.heap.size (o ++ List.replicate (la.length + 1 - k) 0) ∧ Hid (val o + pw k * cv = val (la.take k) + val (lb.take k)) ∧ Below w.heap.size w wr

theorem add_digit (P x s a b cv : Nat) (h : x + P * cv = a + b) (da db : Nat) (hs : s = da + cv + db) :
    x + P * (s % 4294967296) + 4294967296 * P * (s / 4294967296) = a + P * da + (b + P * db) := by
  have h1 : P * s = P * (s % 4294967296) + 4294967296 * P * (s / 4294967296) := by
    rw [Nat.mul_comm 4294967296 P, Nat.mul_assoc, ← Nat.mul_add, Nat.mod_add_div]
  have h2 : P * s = P * da + P * cv + P * db := by rw [hs, Nat.mul_add, Nat.mul_add]
  omega

theorem add_step {la lb : List Nat} {w wr : World} {k cv : Nat} {o : List Nat} (hkl : k < la.length) (hcv : cv ≤ 1) (ho : Hid (o.length = k)) (hod : Dig o)
    (hrow : Row wr w.heap.size (o ++ List.replicate (la.length + 1 - k) 0)) (hval : Hid (val o + pw k * cv = val (la.take k) + val (lb.take k))) (hbel : Below w.heap.size w wr)
    (s : Nat) (hs : s = la.getD k 0 + cv + lb.getD k 0) (hs2 : s / 4294967296 ≤ 1) (x c' i' : Int) (hx : x = ((s % 4294967296 : Nat) : Int)) (hc : c' = ((s / 4294967296 : Nat) : Int)) (hi : i' = ((k + 1 : Nat) : Int)) :
    AddInv la lb w (.int .u64 c') (.int .i64 i') (wr.setCell ⟨w.heap.size, k, none⟩ (.int .u32 x)) := by
  refine ⟨k + 1, s / 4294967296, o ++ [s % 4294967296], by omega, by rw [hi], by rw [hc], hs2, ?_, hod.snoc (Nat.mod_lt _ (by omega)), ?_, ?_, hbel.setCell (Nat.le_refl _) _⟩
  · show (o ++ [_]).length = k + 1
    rw [List.length_append, ho.out]; rfl
  · rw [rep_succ (by omega)] at hrow
    exact hrow.push ho.out x hx
  · show val (o ++ [_]) + pw (k + 1) * _ = _
    rw [val_snoc, ho.out, val_take_succ, val_take_succ, pw]
    exact add_digit _ _ _ _ _ _ hval.out _ _ hs

theorem add_last {la lb o : List Nat} {cv : Nat} (hval : Hid (val o + pw la.length * cv = val (la.take la.length) + val (lb.take la.length))) (ho : Hid (o.length = la.length)) (hl : lb.length ≤ la.length) :
    val (o ++ [cv]) = val la + val lb := by
  rw [val_snoc, ho.out, hval.out, val_take_ge _ _ (Nat.le_refl _), val_take_ge _ _ hl]
theorem add_full {la o : List Nat} {wr : World} {g cv : Nat} (hrow : Row wr g (o ++ List.replicate (la.length + 1 - la.length) 0)) (ho : Hid (o.length = la.length)) (x : Int) (hx : x = (cv : Int)) (h : la.length < la.length + 1) :
    Row (wr.setCell ⟨g, la.length, none⟩ (.int .u32 x)) g (o ++ [cv]) := by
  rw [rep_succ h] at hrow
  have := hrow.push ho.out x hx
  simpa using this

def AddCut (la lb : List Nat) (w : World) (a b : Value) (wx : World) : Prop :=
  ∃ A ca l1 B cb l2, a = .slice A l1.length ca ∧ b = .slice B l2.length cb ∧ Nv w A ca l1 ∧ Nv w B cb l2 ∧ l2.length ≤ l1.length ∧ l1.length ≤ 5000000000 ∧
    Hid (val l1 + val l2 = val la + val lb) ∧ Hid (l1.length = max la.length lb.length) ∧ w = wx

set_option maxRecDepth 100000 in
set_option maxHeartbeats 400000 in
theorem add_any (A B : Option Addr) (ca cb : Nat) (la lb : List Nat) (w : World) (ha : Nv w A ca la) (hb : Nv w B cb lb) (hna : la.length ≤ 5000000000) (hnb : lb.length ≤ 5000000000) :
    Calls Try.prog 70 #[.slice A la.length ca, .slice B lb.length cb] w (RetNat (val la + val lb) (max la.length lb.length + 1) w) := by
  go_enter Try.func70, Try.ntmps70
  go_upto_if 13 with (fail)
  go_cut [0, 1] (fun a b wx => AddCut la lb w a b wx)
  case first =>
    by_cases hlt : la.length < lb.length
    · go_wp2
      go_meet
      case rel => exact ⟨_, _, _, _, _, _, rfl, rfl, hb, ha, by omega, hnb, Nat.add_comm _ _, (Nat.max_eq_right (by omega)).symm, rfl⟩
    · go_wp2
      go_meet
      case rel => exact ⟨_, _, _, _, _, _, rfl, rfl, ha, hb, by omega, hna, rfl, (Nat.max_eq_left (by omega)).symm, rfl⟩
  case rest =>
    obtain ⟨A, ca, l1, B, cb, l2, rfl, rfl, ha, hb, hl, hn, hsum, hmax, rfl⟩ := hcut
    have hmk := make_u32 w (l1.length + 1) .i64 ((l1.length : Int) + 1) (by omega) (by omega)
    go_wp2
    go_loopw [6, 22] (fun c i wr => AddInv l1 l2 w c i wr) (fun _ i _ => l1.length - (intOf i).toNat)
    case atStart => exact ⟨0, 0, [], by omega, rfl, rfl, by omega, rfl, Dig.nil, Row.new _ _, rfl, (Below.refl _ _).alloc (Nat.le_refl _) _⟩
    case round =>
      obtain ⟨k, cv, o, hk, rfl, rfl, hcv, ho, hod, hrow, hval, hbel⟩ := hrel
      have hf := hrow.free k
      obtain ⟨d0, hc0, _, _⟩ := hrow.cell' (i := k) (hod.append (Dig.replicate _)) (by rw [List.length_append, List.length_replicate, ho.out]; omega)
      by_cases hkl : k < l1.length
      · obtain ⟨a, da, rfl, hab, hac, hda, hga⟩ := (ha.below hbel).at hkl
        by_cases hkb : k < l2.length
        · obtain ⟨b, db, rfl, hbb, hbc, hdb, hgb⟩ := (hb.below hbel).at hkb
          go_wp2
          go_roundw
          case rel => exact add_step hkl hcv ho hod hrow hval hbel (da + cv + db) (by rw [hga.out, hgb.out]) (by omega) _ _ _ (by omega) (by omega) (by omega)
          case measure => simp [intOf]; omega
        · have hgb := Lib.hid (show l2.getD k 0 = 0 by rw [List.getD_eq_getElem?_getD, List.getElem?_eq_none (by omega)]; rfl)
          go_wp2
          go_roundw
          case rel => exact add_step hkl hcv ho hod hrow hval hbel (da + cv + 0) (by rw [hga.out, hgb.out]) (by omega) _ _ _ (by omega) (by omega) (by omega)
          case measure => simp [intOf]; omega
      · obtain rfl : k = l1.length := by omega
        have hfin := Lib.hid ((add_last hval ho hl).trans hsum.out)
        have hrow2 := add_full hrow ho (cv : Int) rfl (by omega)
        have hd2 : Dig (o ++ [cv]) := hod.snoc (by omega)
        have hl2 := Lib.hid (show (o ++ [cv]).length = l1.length + 1 by rw [List.length_append, ho.out]; rfl)
        have hb2 := hbel.setCell (p := ⟨w.heap.size, l1.length, none⟩) (Nat.le_refl _) (.int .u32 (cv : Int))
        go_wp2_with fail
        refine (trim_row hrow2 hl2.out hd2 (by omega)).mono ?_
        rintro e w1 ⟨l', rfl, h1, h2, h3, rfl⟩
        go_wp2
        go_ret
        exact ⟨_, _, _, rfl, h1, hfin.out ▸ h2, hmax.out ▸ h3, hb2⟩
end Go.Proofs.Ytghpcimeobmonaa
/- natural.DivMod: what the call does. -/
namespace Go.Proofs.Ytghpcimeobmonaa
set_option linter.unusedVariables false
set_option linter.unusedSimpArgs false
open Go.RowKit Plain

/-- The result of a division. -/
def RetDiv (m n k : Nat) (W : World) (e : Ending) (w' : World) : Prop :=
  ∃ A c q B d r, e = .returned (.tuple #[.slice A q.length c, .slice B r.length d, .int .i64 (if n = 0 then 8 else 0)]) ∧ Nv w' A c q ∧ Nv w' B d r ∧
    NatIs q (if n = 0 then 0 else m / n) ∧ NatIs r (if n = 0 then 0 else m % n) ∧ q.length ≤ k ∧ r.length ≤ k ∧ Below W.heap.size W w'

theorem nv_nil (w : World) : Nv w none 0 [] := nv_nil' w

def BitsInv (d : Nat) (b : Value) : Prop := ∃ s : Nat, b = .int .u64 (s : Int) ∧ s < 32 ∧ Hid (d * 2 ^ s < 4294967296)

theorem bits_next {d s : Nat} (hd : 0 < d) (h : d * 2 ^ s < 2147483648) : s + 1 < 32 ∧ d * 2 ^ (s + 1) < 4294967296 := by
  have h1 : d * 2 ^ (s + 1) < 4294967296 := by rw [Nat.pow_succ, ← Nat.mul_assoc]; omega
  refine ⟨?_, h1⟩
  rcases Nat.lt_or_ge (s + 1) 32 with h2 | h2
  · exact h2
  · have h3 : 2 ^ 32 ≤ 2 ^ (s + 1) := Nat.pow_le_pow_right (by omega) h2
    have h4 : 1 * 2 ^ (s + 1) ≤ d * 2 ^ (s + 1) := Nat.mul_le_mul_right _ hd
    simp only [Nat.reducePow] at h3
    omega
theorem shl_u32 (d s : Nat) (h : d * 2 ^ s < 4294967296) : ∃ x : Nat, Hid (x = d * 2 ^ s) ∧ x < 4294967296 ∧ IntKind.u32.wrap ((d : Int) * 2 ^ s) = (x : Int) := by
  refine ⟨_, rfl, h, ?_⟩
  have e : ((d : Int) * 2 ^ s) = ((d * 2 ^ s : Nat) : Int) := by rw [Int.natCast_mul]; rfl
  rw [e, IntKind.wrap_u32]
  generalize d * 2 ^ s = x at *
  omega

def DivInv (U V m n : Nat) (w : World) (gu gq gv : Nat) (lv : List Nat) (i : Value) (wr : World) : Prop :=
  ∃ (k : Nat) (us qs : List Nat), k ≤ m + 1 ∧ i = .int .i64 (k : Int) ∧ Hid (us.length = m + n + 1) ∧ Dig us ∧ Hid (qs.length = k) ∧ Dig qs ∧ Row wr gu us ∧ Row wr gq (List.replicate (m + 1 - k) 0 ++ qs) ∧
    Hid (U = val us + V * (pw (m + 1 - k) * val qs)) ∧ Hid (val (us.drop (m + 1 - k)) < V) ∧ Nv wr (some ⟨gv, 0, none⟩) n lv ∧ Below w.heap.size w wr

theorem div_vlt {lv : List Nat} {V n : Nat} (h : NatIs lv V) (hl : lv.length = n) : V < pw n := by
  rw [← h.val, ← hl]; exact val_lt h.dig
theorem div_split (us : List Nat) (j n : Nat) : us = us.take j ++ (us.drop j).take (n + 1) ++ us.drop (j + n + 1) := by
  rw [List.append_assoc, show j + n + 1 = j + (n + 1) by omega, ← List.drop_drop, List.take_append_drop, List.take_append_drop]

theorem div_step {us qs mid' lv : List Nat} {U V m n k q : Nat} {w wr w5 : World} {gu gq gv : Nat} (hkm : k ≤ m) (husl : Hid (us.length = m + n + 1)) (husd : Dig us) (hqsl : Hid (qs.length = k)) (hqsd : Dig qs) (hml : Hid (mid'.length = n + 1)) (hmd : Dig mid')
    (hmv : Hid (val mid' = val ((us.drop (m - k)).take (n + 1)) % val lv)) (hmid : Hid (val ((us.drop (m - k)).take (n + 1)) < 4294967296 * V ∧ val (us.drop (m - k + n + 1)) = 0)) (hVp : Hid (V < pw n)) (nv4 : NatIs lv V) (hq : Hid (q = val ((us.drop (m - k)).take (n + 1)) / val lv))
    (hrq5 : Row w5 gq (List.replicate (m + 1 - k) 0 ++ qs)) (hru5 : Row w5 gu (us.take (m - k) ++ mid' ++ us.drop (m - k + n + 1))) (hU : Hid (U = val us + V * (pw (m + 1 - k) * val qs))) (hnv : Nv wr (some ⟨gv, 0, none⟩) n lv) (hgr : wr.grownBy w5 (some gu)) (hbel : Below w.heap.size w wr)
    (hqne : gq ≠ gu) (hgne : gv ≠ gu) (xq xi : Int) (h1 : xq = (q : Int)) (h2 : xi = ((k + 1 : Nat) : Int)) (hpos : gq ≠ gv ∧ w.heap.size ≤ gu ∧ w.heap.size ≤ gq ∧ 0 < V) :
    DivInv U V m n w gu gq gv lv (.int .i64 xi) (w5.setCell ⟨gq, m - k, none⟩ (.int .u32 xq)) := by
  obtain ⟨hp1, hp2, hp3, hp4⟩ := hpos
  have hqb : q < 4294967296 := by
    rw [hq.out, nv4.val, Nat.div_lt_iff_lt_mul hp4]; exact hmid.out.1
  have hr := div_round (us := us) (mid' := mid') (n := n) (j := m - k) (V := V) (k := m + 1 - k) (qs := qs) (U := U) (by rw [husl.out]; omega) hmid.out.2 (by rw [hmv.out, nv4.val]) hml.out (by omega) hU.out
  have hmlt : val mid' < V := by rw [hmv.out, nv4.val]; exact Nat.mod_lt _ hp4
  refine ⟨k + 1, us.take (m - k) ++ mid' ++ us.drop (m - k + n + 1), q :: qs, by omega, by rw [h2], ?_, ((husd.take _).append hmd).append (husd.drop _), ?_, Dig.cons hqb hqsd, hru5.far (fun e => hqne e.symm) _, ?_, ?_, ?_, nv_set (nv_grown hnv hgr hgne) hp1.symm _ _, ?_⟩
  · show _ = _
    rw [List.length_append, List.length_append, List.length_take, List.length_drop, husl.out, hml.out]; omega
  · show (q :: qs).length = k + 1
    rw [List.length_cons, hqsl.out]
  · have e1 : m + 1 - k = m - k + 1 := by omega
    have e2 : m + 1 - (k + 1) = m - k := by omega
    rw [e2, h1]
    rw [e1] at hrq5
    exact (hrq5.set (m - k) q).eq (set_zero_last _ _ _)
  · show U = _
    rw [show m + 1 - (k + 1) = m - k by omega, hq.out, nv4.val]; exact hr.1
  · show _ < V
    rw [show m + 1 - (k + 1) = m - k by omega, hr.2]; exact hmlt
  · exact (hbel.trans ⟨hgr.os, hgr.tape, hgr.output, hgr.size, fun i hi => hgr.block i (Nat.lt_of_lt_of_le hi hbel.size) (by intro e; injection e with e; omega)⟩).setCell hp3 _

theorem div_fin {us qs lu : List Nat} {V A B s n m : Nat} (hU : val lu = val us + V * (pw (m + 1 - (m + 1)) * val qs)) (hd : val (us.drop (m + 1 - (m + 1))) < V) (hA : val lu = A * 2 ^ s) (hB : V = B * 2 ^ s) (hV : 0 < V) (hVn : V < pw n) (hud : Dig us) :
    val qs = A / B ∧ val us = A % B * 2 ^ s ∧ val (us.take n) = A % B * 2 ^ s ∧ us.getD n 0 = 0 := by
  rw [Nat.sub_self] at hU hd
  simp only [pw, List.drop_zero, Nat.one_mul] at hU hd
  have h1 : val lu / V = val qs := by rw [hU, Nat.add_mul_div_left _ _ hV, Nat.div_eq_of_lt hd, Nat.zero_add]
  have h2 : val lu % V = val us := by rw [hU, Nat.add_mul_mod_self_left, Nat.mod_eq_of_lt hd]
  have h3 : val qs = A / B := by rw [← h1, hA, hB, Nat.mul_div_mul_right _ _ (Nat.two_pow_pos s)]
  have h4 : val us = A % B * 2 ^ s := by rw [← h2, hA, hB, Nat.mul_mod_mul_right]
  have h5 : val us < pw n := by omega
  refine ⟨h3, h4, ?_, ?_⟩
  · rcases Nat.lt_or_ge n us.length with hl | hl
    · have h6 := val_take_drop us n (by omega)
      rcases Nat.eq_zero_or_pos (val (us.drop n)) with h7 | h7
      · rw [h7] at h6; omega
      · have : pw n * 1 ≤ pw n * val (us.drop n) := Nat.mul_le_mul_left _ h7
        omega
    · rw [val_take_ge _ _ hl]; exact h4
  · rcases Nat.lt_or_ge n us.length with hl | hl
    · rcases Nat.eq_zero_or_pos (us.getD n 0) with h7 | h7
      · exact h7
      · have h6 := val_split us n hl
        have : pw n * 1 ≤ pw n * us.getD n 0 := Nat.mul_le_mul_left _ h7
        omega
    · rw [List.getD_eq_getElem?_getD, List.getElem?_eq_none hl]; rfl

theorem un_fin {us rs : List Nat} {n s R : Nat} (h : 2 ^ s * val rs + us.getD 0 0 % 2 ^ s = val (us.take n) + pw n * (us.getD n 0 % 2 ^ s)) (h1 : val (us.take n) = R * 2 ^ s) (h2 : us.getD n 0 = 0) : val rs = R := by
  rw [h2, Nat.zero_mod] at h
  exact unshift_end (Nat.mod_lt _ (Nat.two_pow_pos s)) h h1

theorem un_cell {w : World} {g k n : Nat} {rs : List Nat} (h : Row w g (rs ++ List.replicate (n - k) 0)) (hl : Hid (rs.length = k)) (hk : k < n) : w.cell? ⟨g, k, none⟩ = some (.int .u32 (0 : Int)) := by
  have := h.cell (i := k) (by simp [hl.out]; omega)
  rw [this, List.getD_eq_getElem?_getD, List.getElem?_append_right (by rw [hl.out]; omega), hl.out, rep_succ hk]
  simp

def UnInv (us qs : List Nat) (n s : Nat) (w : World) (gu gq gr : Nat) (i : Value) (wr : World) : Prop :=
  ∃ (k : Nat) (rs : List Nat), k ≤ n ∧ i = .int .i64 (k : Int) ∧ Hid (rs.length = k) ∧ Dig rs ∧ Row wr gr (rs ++ List.replicate (n - k) 0) ∧ Row wr gu us ∧ Row wr gq qs ∧
    Hid (2 ^ s * val rs + us.getD 0 0 % 2 ^ s = val (us.take k) + pw k * (us.getD k 0 % 2 ^ s)) ∧ Below w.heap.size w wr

theorem un_shr (u s : Nat) (hu : u < 4294967296) (hs : s < 32) : ∃ r0 : Nat, Hid (r0 = u / 2 ^ s) ∧ r0 < 2 ^ (32 - s) ∧ ((u : Int) / 2 ^ s) = (r0 : Int) := by
  refine ⟨_, rfl, ?_, ?_⟩
  · rw [Nat.div_lt_iff_lt_mul (Nat.two_pow_pos s), ← Nat.pow_add, show 32 - s + s = 32 by omega]; exact hu
  · rw [Int.natCast_ediv]; rfl
theorem un_shl (u r0 s : Nat) (hs : s < 32) (hs0 : 0 < s) (hr : r0 < 2 ^ (32 - s)) : ∃ y : Nat, Hid (y = u % 2 ^ s * 2 ^ (32 - s)) ∧ r0 + y < 4294967296 ∧ IntKind.u32.wrap ((u : Int) * 2 ^ (32 - s)) = (y : Int) ∧ bits .or .u32 (r0 : Int) (y : Int) = ((r0 + y : Nat) : Int) := by
  have e : (4294967296 : Nat) = 2 ^ s * 2 ^ (32 - s) := by rw [← Nat.pow_add, show s + (32 - s) = 32 by omega]
  have hm := Nat.mod_lt u (Nat.two_pow_pos s)
  have hy : r0 + u % 2 ^ s * 2 ^ (32 - s) < 4294967296 := by
    rw [e]
    have h1 : (u % 2 ^ s + 1) * 2 ^ (32 - s) ≤ 2 ^ s * 2 ^ (32 - s) := Nat.mul_le_mul_right _ hm
    rw [Nat.add_mul, Nat.one_mul] at h1
    omega
  refine ⟨_, rfl, hy, ?_, ?_⟩
  · have e2 : ((u : Int) * 2 ^ (32 - s)) = ((u * 2 ^ (32 - s) : Nat) : Int) := by rw [Int.natCast_mul]; rfl
    have e3 : u * 2 ^ (32 - s) % 4294967296 = u % 2 ^ s * 2 ^ (32 - s) := by rw [e, Nat.mul_mod_mul_right]
    rw [e2, IntKind.wrap_u32, ← e3]
    rfl
  · have h1 : r0 < 4294967296 := by omega
    have h2 := u32_or_nat r0 (u % 2 ^ s * 2 ^ (32 - s)) h1 (by omega)
    rw [h2, Nat.or_comm, nat_join (32 - s) _ _ (Nat.mul_mod_left _ _) hr, Nat.add_comm]

theorem un_drew {us qs : List Nat} {n s gu gq gr : Nat} {w wr : World} {i : Value} (h : UnInv us qs n s w gu gq gr i wr) : UnInv us qs n s w gu gq gr i wr.drew := by
  obtain ⟨k, rs, h1, h2, h3, h4, h5, h6, h7, h8, h9⟩ := h
  exact ⟨k, rs, h1, h2, h3, h4, h5, h6, h7, h8, h9.drew⟩
theorem un_step {us qs rs : List Nat} {n s k u u1 r0 : Nat} {w wf : World} {gu gq gr : Nat} (hkn : k < n) (hrsl : Hid (rs.length = k)) (hrsd : Dig rs) (hru : Row wf gu us) (hrq : Row wf gq qs) (y : Nat) (hrr : Row wf gr (rs ++ [r0 + y] ++ List.replicate (n - (k + 1)) 0))
    (hval : Hid (2 ^ s * val rs + us.getD 0 0 % 2 ^ s = val (us.take k) + pw k * (us.getD k 0 % 2 ^ s))) (hbel : Below w.heap.size w wf) (hs : s < 32) (hgu : Hid (us.getD k 0 = u)) (hgu1 : Hid (us.getD (k + 1) 0 = u1))
    (hr0 : Hid (r0 = u / 2 ^ s)) (hr0b : r0 < 2 ^ (32 - s)) (hy : y = u1 % 2 ^ s * 2 ^ (32 - s)) (i' : Int) (hi' : i' = ((k + 1 : Nat) : Int)) :
    UnInv us qs n s w gu gq gr (.int .i64 i') wf := by
  have hb : r0 + y < 4294967296 := by
    have e : (4294967296 : Nat) = 2 ^ s * 2 ^ (32 - s) := by rw [← Nat.pow_add, show s + (32 - s) = 32 by omega]
    have hm := Nat.mod_lt u1 (Nat.two_pow_pos s)
    rw [e, hy]
    have h1 : (u1 % 2 ^ s + 1) * 2 ^ (32 - s) ≤ 2 ^ s * 2 ^ (32 - s) := Nat.mul_le_mul_right _ hm
    rw [Nat.add_mul, Nat.one_mul] at h1
    omega
  refine ⟨k + 1, rs ++ [r0 + y], by omega, by rw [hi'], ?_, hrsd.snoc hb, hrr, hru, hrq, ?_, hbel⟩
  · show (rs ++ [_]).length = k + 1
    rw [List.length_append, hrsl.out]; rfl
  · show _ = _
    refine unshift_step hs hgu.out hrsl.out rfl ?_ (us.getD (k + 1) 0 % 2 ^ s) (r0 + y) (by rw [hr0.out, hy, hgu1.out])
    rw [← hgu.out]; exact hval.out
theorem un_put {rs : List Nat} {n k x : Nat} {wr : World} {gr : Nat} (hkn : k < n) (hrsl : Hid (rs.length = k)) (hrr : Row wr gr (rs ++ List.replicate (n - k) 0)) (v : Int) (hv : v = (x : Int)) : Row (wr.setCell ⟨gr, k, none⟩ (.int .u32 v)) gr (rs ++ [x] ++ List.replicate (n - (k + 1)) 0) := by
  rw [rep_succ hkn] at hrr
  exact hrr.push hrsl.out v hv
theorem un_put2 {rs z : List Nat} {k x y : Nat} {wr : World} {gr : Nat} (hrsl : Hid (rs.length = k)) (hrr : Row wr gr (rs ++ [y] ++ z)) (v : Int) (hv : v = (x : Int)) : Row (wr.setCell ⟨gr, k, none⟩ (.int .u32 v)) gr (rs ++ [x] ++ z) := by
  have h : Row wr gr (rs ++ y :: z) := hrr.eq (by simp)
  exact h.push hrsl.out v hv

set_option maxRecDepth 100000 in
set_option maxHeartbeats 1000000 in
theorem divMod_any {A B : Option Addr} {ca cb : Nat} {la lb : List Nat} {w : World} (ha : Nv w A ca la) (hb : Nv w B cb lb) (hna : la.length ≤ 500000000) (hnb : lb.length ≤ 500000000) :
    Calls Try.prog 61 #[.slice A la.length ca, .slice B lb.length cb] w (RetDiv (val la) (val lb) (la.length + 1) w) := by
  go_enter Try.func61, Try.ntmps61
  go_wp2_with fail
  refine (trim_nv ha).mono ?_
  rintro e w' ⟨l1, rfl, h1, n1, b1, rfl⟩
  go_wp2_with fail
  refine (trim_nv hb).mono ?_
  rintro e w' ⟨l2, rfl, h2, n2, b2, rfl⟩
  clear ha hb
  have hg1 := h1.big
  have hg2 := h2.big
  by_cases hz : l2 = []
  · have hv : Hid (val lb = 0) := by subst hz; exact n2.val.symm
    subst hz
    go_wp2
    refine bodyPost_ret (results_tmp3 rfl _ _ _) rfl ?_
    refine ⟨none, 0, [], none, 0, [], ?_, nv_nil _, nv_nil _, ?_, ?_, by simp, by simp, Below.refl _ _⟩
    · rw [if_pos hv.out]; rfl
    · rw [if_pos hv.out]; exact NatIs.nil
    · rw [if_pos hv.out]; exact NatIs.nil
  have hv : Hid (val lb ≠ 0) := fun e => hz (n2.zero_iff.2 e)
  have hlen : 0 < l2.length := List.length_pos_iff.2 hz
  have hne0 : (((l2.length : Nat) : Int) == 0) = false := by rw [beq_eq_false_iff_ne]; omega
  clear hz
  go_wp2_with fail
  refine (cmp_any h1 h2).mono ?_
  rintro e w1 ⟨rfl, hb1⟩
  have h1' := h1.below hb1
  have h2' := h2.below hb1
  by_cases hlt : val la < val lb
  · have hc := Lib.hid (show cmpI (val l1) (val l2) = -1 from cmpI_lt (by rw [n1.val, n2.val]; exact hlt))
    rw [hc.out]
    clear hc
    go_wp2_with fail
    refine (add_any _ none _ 0 l1 [] _ h1' (nv_nil _) (by omega) (by simp)).mono ?_
    rintro e w2 ⟨A2, c2, r, rfl, hr, nr, hrl, hb2⟩
    go_wp2
    refine bodyPost_ret (results_tmp3 rfl _ _ _) rfl ?_
    refine ⟨none, 0, [], A2, c2, r, ?_, nv_nil _, hr, ?_, ?_, by simp, by simp at hrl; omega, hb1.trans (hb2.mono hb1.size)⟩
    · rw [if_neg hv.out]; rfl
    · rw [if_neg hv.out, Nat.div_eq_of_lt hlt]; exact NatIs.nil
    · rw [if_neg hv.out, Nat.mod_eq_of_lt hlt, ← n1.val]; exact nr
  have hc : 0 ≤ cmpI (val l1) (val l2) := by
    have h := cmpI_neg_iff (val l1) (val l2)
    rw [n1.val, n2.val] at *
    omega
  have hc2 := cmpI_bd (val l1) (val l2)
  obtain ⟨c, hcc⟩ : ∃ c, c = cmpI (val l1) (val l2) := ⟨_, rfl⟩
  rw [← hcc] at hc hc2 ⊢
  clear hcc
  have hlt' := Lib.hid hlt
  clear hlt
  by_cases h1l : l2.length = 1
  · obtain ⟨d, rfl⟩ : ∃ d, l2 = [d] := by
      match l2, h1l with
      | [d], _ => exact ⟨d, rfl⟩
    obtain ⟨a, d', rfl, hab, hac, hdd, hgd⟩ := h2'.at (k := 0) (by simp)
    have hac' := cell0 hac
    have hd : Hid (val lb = d') := by
      have e1 := hgd.out
      have e2 := n2.val
      simp only [List.getD_cons_zero, val] at e1 e2
      show val lb = d'
      omega
    have hd0 : 0 < d' := by have := hv.out; rw [hd.out] at this; omega
    go_wp2_with fail
    refine (small_any _ _ d' l1 _ h1' (by omega) hd0 hdd).mono ?_
    rintro e w2 ⟨A2, c2, q, rfl, hq, nq, hql, hb2, -⟩
    have hrb : val l1 % d' < d' := Nat.mod_lt _ hd0
    obtain ⟨r, hr⟩ : ∃ r, Hid (r = val l1 % d') := ⟨_, rfl⟩
    rw [← hr.out] at hrb ⊢
    have hrp : r < pw 2 := by simp only [pw]; omega
    have hrp' := Lib.hid hrp
    clear hrp
    go_wp2_with fail
    refine (fromUint_any r _ hrp'.out).mono ?_
    rintro e w3 ⟨A3, c3, l3, rfl, hr3, nr3, hrl3, hb3⟩
    go_wp2
    refine bodyPost_ret (results_tmp3 rfl _ _ _) rfl ?_
    refine ⟨A2, c2, q, A3, c3, l3, ?_, hq.below hb3, hr3, ?_, ?_, by omega, ?_, hb1.trans ((hb2.mono hb1.size).trans (hb3.mono (by have := hb2.size; have := hb1.size; omega)))⟩
    · rw [if_neg hv.out]; rfl
    · rw [if_neg hv.out, hd.out, ← n1.val]; exact nq
    · rw [if_neg hv.out, hd.out, ← n1.val, ← hr.out]; exact nr3
    · have := length_le_of_lt (k := 1) nr3.canon (by rw [nr3.val, pw_one]; omega)
      omega
  have hn2 : 2 ≤ l2.length := by omega
  have hne1 : (((l2.length : Nat) : Int) == 1) = false := by rw [beq_eq_false_iff_ne]; omega
  clear h1l
  obtain ⟨a, d, rfl, hab, hac, hdd, hgd⟩ := h2'.at (k := l2.length - 1) (by omega)
  have hd0 : 0 < d := by
    rcases (canon_iff l2).1 n2.canon with h | h
    · omega
    · rw [hgd.out] at h; omega
  go_wp2
  go_loop [9] (fun b => BitsInv d b) (fun b => 32 - (intOf b).toNat)
  case atStart => exact ⟨0, rfl, by omega, by show d * 2 ^ 0 < _; omega⟩
  case round =>
    obtain ⟨s, rfl, hs, hds⟩ := hrel
    obtain ⟨x, hx, hxb, hw⟩ := shl_u32 d s hds.out
    by_cases hlo : x < 2147483648
    · have hnx := Lib.hid (bits_next hd0 (by rw [← hx.out]; exact hlo))
      have hlo' : decide ((x : Int) < 2147483648) = true := decide_eq_true (by omega)
      clear hlo
      go_wp2
      go_round
      case rel => exact ⟨s + 1, rfl, hnx.out.1, hnx.out.2⟩
      case measure => simp [intOf]; omega
    · have hlo' : decide ((x : Int) < 2147483648) = false := decide_eq_false (by omega)
      have hlo2 := Lib.hid (show 2147483648 ≤ x by omega)
      clear hlo
      go_wp2_with fail
      refine (shifted_any _ _ s l1 _ h1' (by omega) hs).mono ?_
      rintro e w2 ⟨lu, rfl, hru, hlu, hud, hvu, hb2⟩
      have h2'' := h2'.below hb2
      go_wp2_with fail
      refine (shifted_any _ _ s l2 _ h2'' (by omega) hs).mono ?_
      rintro e w3 ⟨lv0, rfl, hrv, hlv0, hvd, hvv, hb3⟩
      go_wp2_with fail
      refine (trim_row hrv hlv0.out hvd (by omega)).mono ?_
      rintro e w4 ⟨lv, rfl, hv4, nv4, hlv4, rfl⟩
      rw [hvv.out] at nv4
      have hnorm := Lib.hid (norm_of rfl hn2 h2.dig hgd.out hs hx.out hlo2.out hxb nv4)
      have hll : l2.length ≤ l1.length := by
        rcases Nat.lt_or_ge l1.length l2.length with h | h
        · have := val_lt_of_len h1.dig n2.canon h
          rw [n1.val, n2.val] at this
          exact absurd this hlt'.out
        · exact h
      obtain ⟨m, hm⟩ : ∃ m, Hid (l1.length = m + l2.length) := ⟨l1.length - l2.length, by show _ = _; omega⟩
      have hst := Lib.hid (div_start h1.dig n2.canon rfl hn2 hm.out hvu.out (by rw [hlu.out, hm.out]) rfl)
      have hru4 := hru.keep hb3 hru.lt
      have hgne : w2.heap.size ≠ w1.heap.size := by have := hb2.size; have := hru.lt; omega
      have hmk := make_u32 w3 (m + 1) .i64 ((l1.length : Int) - (l2.length : Int) + 1) (by rw [hm.out]; omega) (by have := hm.out; omega)
      go_wp2
      obtain ⟨n, hn⟩ : ∃ n, Hid (l2.length = n) := ⟨_, rfl⟩
      rw [hnorm.out.1, hm.out, hn.out]
      rw [hnorm.out.1, hn.out] at hv4
      rw [hn.out] at hn2
      have hqne : w3.heap.size ≠ w1.heap.size := by have := hb3.size; have := hb2.size; have := hru.lt; have := hrv.lt; omega
      have hpos : w3.heap.size ≠ w2.heap.size ∧ w1.heap.size ≤ w1.heap.size ∧ w1.heap.size ≤ w3.heap.size ∧ 0 < val l2 * 2 ^ s := by
        have := hb3.size; have := hb2.size; have := hrv.lt
        refine ⟨by omega, by omega, by omega, Nat.mul_pos ?_ (Nat.two_pow_pos s)⟩
        rw [n2.val]; have := hv.out; omega
      have hpos' := Lib.hid hpos
      clear hpos
      have hmn : m + n ≤ 500000000 := by have := hm.out; rw [hn.out] at this; omega
      simp only [Int.natCast_add, Int.add_sub_cancel]
      clear hw hlo'
      go_loopw [75] (fun i wr => DivInv (val lu) (val l2 * 2 ^ s) m n w1 w1.heap.size w3.heap.size w2.heap.size lv i wr) (fun i _ => m + 1 - (intOf i).toNat)
      case atStart =>
        have hb34 : Below w1.heap.size w1 w3 := hb2.trans (hb3.mono hb2.size)
        have hkeep : Below w3.heap.size w3 (w3.alloc (.cells (u32s (List.replicate (m + 1) 0)).toArray 62)) := (Below.refl _ _).alloc (Nat.le_refl _) _
        exact ⟨0, lu, [], by omega, rfl, by show _ = _; rw [hlu.out, hm.out, hn.out], hud, rfl, Dig.nil, hru4.keep hkeep hru4.lt, (Row.new _ _).eq (by simp), by show _ = _; simp [val], hst.out, hv4.below hkeep, hb34.trans (hkeep.mono hb34.size)⟩
      case round =>
        obtain ⟨k, us, qs, hk, rfl, husl, husd, hqsl, hqsd, hru, hrq, hU, hdr, hnv, hbel⟩ := hrel
        by_cases hkm : k ≤ m
        · have hkd : decide ((k : Int) < (m : Int) + 1) = true := decide_eq_true (by omega)
          have hVp := Lib.hid (div_vlt nv4 (hnorm.out.1.trans hn.out))
          have hmid := Lib.hid (div_mid (j := m - k) (n := n) husd (by rw [husl.out]; omega) hVp.out (by rw [show m - k + 1 = m + 1 - k by omega]; exact hdr.out))
          have hsp := hru.eq (div_split us (m - k) n)
          go_wp2_with fail
          rw [show m - k + n + 1 - (m - k) = n + 1 by omega]
          refine (digit_any (lv := lv) hsp (by show _ = _; rw [List.length_take, husl.out]; omega) (by show _ = _; rw [List.length_take, List.length_drop, husl.out]; omega) (hnorm.out.1.trans hn.out) hn2 (by omega) (by omega) hnv hgne ((husd.drop _).take _)
            (by rw [← hn.out]; exact hnorm.out.2) (by rw [nv4.val]; exact hmid.out.1)).mono ?_
          rintro e w5 ⟨mid', rfl, hru5, hml, hmd, hmv, hgr⟩
          obtain ⟨q, hq⟩ : ∃ q, Hid (q = val ((us.drop (m - k)).take (n + 1)) / val lv) := ⟨_, rfl⟩
          rw [← hq.out]
          have hrq5 : Row w5 w3.heap.size (List.replicate (m + 1 - k) 0 ++ qs) := (hgr.block _ hrq.lt (by intro e; injection e with e; exact hqne e)).trans hrq
          have hf := hrq5.free (m - k)
          obtain ⟨d0, hc0, _, _⟩ := hrq5.cell' (i := m - k) ((Dig.replicate _).append hqsd) (by rw [List.length_append, List.length_replicate, hqsl.out]; omega)
          go_wp2
          go_roundw
          case rel => exact div_step hkm husl husd hqsl hqsd hml hmd hmv hmid hVp nv4 hq hrq5 hru5 hU hnv hgr hbel hqne hgne _ _ rfl (by omega) hpos'.out
          case measure => simp [intOf]; omega
        · obtain rfl : k = m + 1 := by omega
          have hkd : decide ((m : Int) + 1 < (m : Int) + 1) = false := decide_eq_false (by omega)
          have hfin := Lib.hid (div_fin hU.out hdr.out (V := val l2 * 2 ^ s) (A := val l1) (B := val l2) (s := s) hvu.out rfl hpos'.out.2.2.2 (div_vlt nv4 (hnorm.out.1.trans hn.out)) husd)
          have hrq2 : Row wr w3.heap.size qs := hrq.eq (by simp)
          have hmk2 := make_u32 wr n .i64 (n : Int) rfl (by omega)
          have hgu : w1.heap.size < wr.heap.size := hru.lt
          have hgq : w3.heap.size < wr.heap.size := hrq2.lt
          go_wp2
          obtain ⟨wq, rfl⟩ : ∃ wq : World, wq = wr := ⟨_, rfl⟩
          have hgru : wq.heap.size ≠ w1.heap.size := by omega
          have hgrq : wq.heap.size ≠ w3.heap.size := by omega
          have hgrb : w1.heap.size ≤ wq.heap.size := hbel.size
          go_loopw [101] (fun i wx => UnInv us qs n s w1 w1.heap.size w3.heap.size wq.heap.size i wx) (fun i _ => n - (intOf i).toNat)
          case atStart => exact ⟨0, [], by omega, rfl, rfl, Dig.nil, (Row.new _ _).eq (by simp), hru.keep ((Below.refl wq.heap.size wq).alloc (Nat.le_refl _) _) hru.lt, hrq2.keep ((Below.refl wq.heap.size wq).alloc (Nat.le_refl _) _) hrq2.lt, by show _ = _; simp [val, pw], hbel.alloc hbel.size _⟩
          case round =>
            obtain ⟨k, rs, hk, rfl, hrsl, hrsd, hrr, hru, hrq, hval, hbel⟩ := hrel
            by_cases hkn : k < n
            · obtain ⟨u, hcu, hud, hgu⟩ := hru.cell' (i := k) husd (by rw [husl.out]; omega)
              obtain ⟨u1, hcu1, hud1, hgu1⟩ := hru.cell' (i := k + 1) husd (by rw [husl.out]; omega)
              have hf := hrr.free k
              have hc0 : _ := un_cell hrr hrsl hkn
              obtain ⟨r0, hr0, hr0b, he0⟩ := un_shr u s hud hs
              by_cases hs0 : s = 0
              · have hs0' : decide (0 < s) = false := decide_eq_false (by omega)
                go_wp2
                go_roundw
                case rel => exact un_step hkn hrsl hrsd (hru.far hgru.symm _) (hrq.far hgrq.symm _) 0 (un_put hkn hrsl hrr _ (by have := hr0.out; rw [hs0, Nat.pow_zero, Nat.div_one] at this; omega)) hval (hbel.setCell hgrb _) hs hgu hgu1 hr0 hr0b (by rw [hs0]; omega) _ (by omega)
                case measure => simp [intOf]; omega
              · have hs0' : decide (0 < s) = true := decide_eq_true (by omega)
                obtain ⟨y, hy, hyb, hws, hor⟩ := un_shl u1 r0 s hs (by omega) hr0b
                have hcr : (wr.setCell ⟨wq.heap.size, k, none⟩ (.int .u32 (r0 : Int))).cell? ⟨wq.heap.size, k, none⟩ = some (.int .u32 (r0 : Int)) := World.cell?_setCell_same _ _ _ hc0
                have hcu2 : (wr.setCell ⟨wq.heap.size, k, none⟩ (.int .u32 (r0 : Int))).cell? ⟨w1.heap.size, k + 1, none⟩ = some (.int .u32 (u1 : Int)) := (World.cell?_setCell_other _ _ _ _ (by intro e; injection e with e; exact hgru e)).trans hcu1
                have hfr : (wr.setCell ⟨wq.heap.size, k, none⟩ (.int .u32 (r0 : Int))).frozen? ⟨wq.heap.size, k, none⟩ = false := (World.frozen?_setCell _ _ _ _).trans hf
                go_wp2
                go_region
                go_wp2
                go_roundw
                case rel => exact un_drew (un_step hkn hrsl hrsd ((hru.far hgru.symm _).far hgru.symm _) ((hrq.far hgrq.symm _).far hgrq.symm _) y (un_put2 hrsl (un_put hkn hrsl hrr _ rfl) _ (by omega)) hval ((hbel.setCell hgrb _).setCell hgrb _) hs hgu hgu1 hr0 hr0b hy.out _ (by omega))
                case measure => simp [intOf]; omega
            · obtain rfl : k = n := by omega
              have hrr2 : Row wr wq.heap.size rs := hrr.eq (by simp)
              have hfin2 := Lib.hid (un_fin hval.out hfin.out.2.2.1 hfin.out.2.2.2)
              have hq3 := Lib.hid hfin.out.1
              have hlq := Lib.hid (show qs.length = m + 1 from hqsl.out)
              go_wp2_with fail
              refine (trim_row hrq hlq.out hqsd (by omega)).mono ?_
              rintro e w8 ⟨q', rfl, hq1, hq2, hq4, rfl⟩
              go_wp2_with fail
              refine (trim_row hrr2 hrsl.out hrsd (by omega)).mono ?_
              rintro e w8 ⟨r', rfl, hr1, hr2, hr4, rfl⟩
              go_wp2
              refine bodyPost_ret (results_tmp3 rfl _ _ _) rfl ?_
              refine ⟨_, _, q', _, _, r', ?_, hq1, hr1, ?_, ?_, ?_, ?_, hb1.trans (hbel.mono hb1.size)⟩
              · rw [if_neg hv.out]; rfl
              · rw [if_neg hv.out, ← n1.val, ← n2.val, ← hq3.out]; exact hq2
              · rw [if_neg hv.out, ← n1.val, ← n2.val, ← hfin2.out]; exact hr2
              · have := hm.out; omega
              · have := hm.out; rw [hn.out] at this; omega
end Go.Proofs.Ytghpcimeobmonaa
/- natural.GCD, natural.Bits: what the calls do. -/
namespace Go.Proofs.Ytghpcimeobmonaa
set_option linter.unusedVariables false
set_option linter.unusedSimpArgs false
open Go.RowKit Plain

def GcdInv (G N : Nat) (w : World) (g : Nat) (a b : Value) (wr : World) : Prop :=
  ∃ A ca la B cb lb x y, a = .slice A la.length ca ∧ b = .slice B lb.length cb ∧ Nv wr A ca la ∧ Nv wr B cb lb ∧ NatIs la x ∧ NatIs lb y ∧ g = y ∧ Hid (Nat.gcd x y = G) ∧ la.length ≤ N ∧ lb.length ≤ N ∧ Below w.heap.size w wr

theorem gcd_step (x y : Nat) : Nat.gcd y (x % y) = Nat.gcd x y := by
  rw [Nat.gcd_comm x y, Nat.gcd_rec y x, Nat.gcd_comm]

set_option maxRecDepth 100000 in
set_option maxHeartbeats 1000000 in
theorem gcd_any {A B : Option Addr} {ca cb : Nat} {la lb : List Nat} {w : World} (ha : Nv w A ca la) (hb : Nv w B cb lb) (hna : la.length ≤ 400000000) (hnb : lb.length ≤ 400000000) :
    Calls Try.prog 60 #[.slice A la.length ca, .slice B lb.length cb] w (RetNat (Nat.gcd (val la) (val lb)) 400000001 w) := by
  go_enter Try.func60, Try.ntmps60
  go_wp2_with fail
  refine (add_any _ none _ 0 la [] _ ha (nv_nil _) (by omega) (by simp)).mono ?_
  rintro e w1 ⟨A1, c1, l1, rfl, h1, n1, m1, b1⟩
  go_wp2_with fail
  refine (add_any _ none _ 0 lb [] _ (hb.below b1) (nv_nil _) (by omega) (by simp)).mono ?_
  rintro e w2 ⟨A2, c2, l2, rfl, h2, n2, m2, b2⟩
  go_wp2
  go_loopg [0, 1] (val lb) (fun g a b wr => GcdInv (Nat.gcd (val la) (val lb)) 400000001 w g a b wr)
  case atStart => exact ⟨A1, c1, l1, A2, c2, l2, val la, val lb, rfl, rfl, h1.below b2, h2, n1, n2, rfl, rfl, by simp at m1; omega, by simp at m2; omega, b1.trans (b2.mono b1.size)⟩
  case round =>
    obtain ⟨A, ca, la', B, cb, lb', x, y, rfl, rfl, h1, h2, n1, n2, rfl, hG, m1, m2, hbel⟩ := hrel
    have hg2 := h2.big
    by_cases hz : lb'.length = 0
    · have hy : Hid (gk = 0) := by
        have : lb' = [] := List.eq_nil_of_length_eq_zero hz
        show gk = 0
        exact (n2.zero_iff).1 this
      have hd : decide (0 < lb'.length) = false := decide_eq_false (by omega)
      have hG2 := Lib.hid (show x = Nat.gcd (val la) (val lb) by rw [← hG.out, hy.out, Nat.gcd_zero_right])
      go_wp2
      go_ret
      exact ⟨A, ca, la', rfl, h1, hG2.out ▸ n1, m1, hbel⟩
    · have hy : Hid (gk ≠ 0) := fun e => hz (by rw [(n2.zero_iff).2 e]; rfl)
      have hd : decide (0 < lb'.length) = true := decide_eq_true (by omega)
      clear hz
      go_wp2_with fail
      refine (divMod_any h1 h2 (by omega) (by omega)).mono ?_
      rintro e w3 ⟨A3, c3, q, B3, d3, r, rfl, hq, hr, nq, nr, lq, lr, b3⟩
      rw [n2.val, if_neg hy.out] at nr
      rw [n2.val, if_neg hy.out]
      rw [n1.val] at nr
      have hlt := Lib.hid (Nat.mod_lt x (Nat.pos_of_ne_zero hy.out))
      have hrl := Lib.hid (show r.length ≤ 400000001 from Nat.le_trans (length_le_of_lt nr.canon (by
        have h := val_lt n2.dig
        rw [n2.val] at h
        rw [nr.val]
        exact Nat.lt_trans hlt.out h)) m2)
      go_wp2
      go_roundg (x % gk)
      case measure => exact hlt.out
      case rel => exact ⟨B, cb, lb', B3, d3, r, gk, x % gk, rfl, rfl, h2.below b3, hr, n2, nr, rfl, by show Nat.gcd _ _ = _; rw [gcd_step]; exact hG.out, m2, hrl.out, hbel.trans (b3.mono hbel.size)⟩

/-- The number of binary digits. -/
def bitLen (n : Nat) : Nat := if n = 0 then 0 else n.log2 + 1
theorem bitLen_eq {n b : Nat} (h1 : 2 ^ b ≤ n) (h2 : n < 2 ^ (b + 1)) : bitLen n = b + 1 := by
  have hn : n ≠ 0 := by have := Nat.two_pow_pos b; omega
  unfold bitLen
  rw [if_neg hn]
  have h3 := (Nat.le_log2 hn).2 h1
  have h4 := (Nat.log2_lt hn).2 h2
  omega
theorem pw_eq_two (k : Nat) : pw k = 2 ^ (32 * k) := by
  induction k with
  | zero => rfl
  | succ k ih => rw [pw, ih, Nat.mul_succ, Nat.pow_add, Nat.mul_comm]
theorem bitLen_top {l : List Nat} {m d k : Nat} (hl : l.length = m + 1) (hd : Dig l) (ht : l.getD m 0 = d) (h1 : 2 ^ k ≤ d) (h2 : d < 2 ^ (k + 1)) : bitLen (val l) = 32 * m + (k + 1) := by
  have h3 : val l = val (l.take m) + pw m * d := by rw [← val_take_ge l (m + 1) (by omega), val_take_succ, ht]
  have h4 := val_take_lt hd m
  rw [← Nat.add_assoc]
  apply bitLen_eq
  · rw [Nat.pow_add, ← pw_eq_two, h3]
    have : pw m * 2 ^ k ≤ pw m * d := Nat.mul_le_mul_left _ h1
    omega
  · rw [Nat.add_assoc, Nat.pow_add, ← pw_eq_two, h3]
    have : pw m * (d + 1) ≤ pw m * 2 ^ (k + 1) := Nat.mul_le_mul_left _ h2
    rw [Nat.mul_add, Nat.mul_one] at this
    omega

theorem bits_next' {d xv k : Nat} (hd : d < 4294967296) (hx : xv = d / 2 ^ k) (h0 : xv ≠ 0) : k + 1 ≤ 32 ∧ xv / 2 = d / 2 ^ (k + 1) ∧ 2 ^ (k + 1 - 1) ≤ d := by
  have h1 : 2 ^ k ≤ d := by
    rcases Nat.lt_or_ge d (2 ^ k) with h | h
    · exact absurd (by rw [hx, Nat.div_eq_of_lt h]) h0
    · exact h
  refine ⟨?_, ?_, h1⟩
  · rcases Nat.lt_or_ge k 32 with h | h
    · exact h
    · have : 2 ^ 32 ≤ 2 ^ k := Nat.pow_le_pow_right (by omega) h
      simp only [Nat.reducePow] at this
      omega
  · rw [hx, Nat.div_div_eq_div_mul, Nat.pow_succ]
theorem bits_end {l : List Nat} {m d k : Nat} (hl : l.length = m + 1) (hd : Dig l) (ht : l.getD m 0 = d) (hd0 : 0 < d) (hx : 0 = d / 2 ^ k) (hk : k = 0 ∨ 2 ^ (k - 1) ≤ d) : bitLen (val l) = 32 * m + k := by
  have h1 : d < 2 ^ k := by
    rcases Nat.lt_or_ge d (2 ^ k) with h | h
    · exact h
    · have := Nat.div_pos h (Nat.two_pow_pos k)
      omega
  cases k with
  | zero => simp at h1; omega
  | succ k =>
    rcases hk with h | h
    · omega
    · exact bitLen_top hl hd ht (by simpa using h) h1

def BitInv (d m : Nat) (n x : Value) : Prop := ∃ k xv : Nat, k ≤ 32 ∧ n = .int .i64 ((32 * m + k : Nat) : Int) ∧ x = .int .u32 (xv : Int) ∧ Hid (xv = d / 2 ^ k) ∧ Hid (k = 0 ∨ 2 ^ (k - 1) ≤ d)
end Go.Proofs.Ytghpcimeobmonaa
/- fraction.size, Make, made, FromInt, New: what the calls do. -/
namespace Go.Proofs.Ytghpcimeobmonaa
set_option linter.unusedVariables false
set_option linter.unusedSimpArgs false
open Go.RowKit Plain
attribute [local go_sem ↓] Go.wp_at_zero Go.wp_at_succ

theorem fromUint_val (x : Nat) (n : Int) (w : World) (hn : n = (x : Int)) (hx : x < pw 2) : Calls Try.prog 50 #[.int .u64 n] w (RetNat x 2 w) := by
  subst hn; exact fromUint_any x w hx
set_option maxRecDepth 100000 in
set_option maxHeartbeats 400000 in
theorem size_any (n : Int) (w : World) (h1 : -9223372036854775808 ≤ n) (h2 : n ≤ 9223372036854775807) :
    Calls Try.prog 56 #[.int .i64 n] w (RetNat n.natAbs 2 w) := by
  have hb : n.natAbs < pw 2 := by simp only [pw]; omega
  by_cases hn : n < 0
  · go_enter Try.func56, Try.ntmps56
    go_wp2_with fail
    refine (fromUint_val n.natAbs _ _ (by omega) hb).mono ?_
    rintro e w1 ⟨A, c, l, rfl, h1, h2, h3, h4⟩
    go_wp2
    go_ret
    exact ⟨A, c, l, rfl, h1, h2, h3, h4⟩
  · go_enter Try.func56, Try.ntmps56
    go_wp2_with fail
    refine (fromUint_val n.natAbs _ _ (by omega) hb).mono ?_
    rintro e w1 ⟨A, c, l, rfl, h1, h2, h3, h4⟩
    go_wp2
    go_ret
    exact ⟨A, c, l, rfl, h1, h2, h3, h4⟩

/-- The zero value of a fraction, with an error. -/
def RetZE (x : Int) (W : World) (e : Ending) (w' : World) : Prop := e = .returned (.tuple #[fracV false none 0 0 none 0 0, .int .i64 x]) ∧ Below W.heap.size W w'

set_option maxRecDepth 100000 in
set_option maxHeartbeats 1000000 in
theorem make_zero {neg : Bool} {A B : Option Addr} {n ca cb : Nat} {w : World} :
    Calls Try.prog 22 #[.bool neg, .slice A n ca, .slice B 0 cb] w (RetZE 8 w) := by
  obtain ⟨w0, hw0, bw0, hlt0, hB0⟩ := boxed w #[.bool false, .slice none 0 0, .slice none 0 0] 25
  have y0 := hB0.f0
  have y1 := hB0.f1
  have y2 := hB0.f2
  have z0 := hB0.free 0
  have z1 := hB0.free 1
  have z2 := hB0.free 2
  go_enter Try.func22, Try.ntmps22
  go_wp2
  obtain ⟨w9, hw9, hB9, o9⟩ := hB0.set3 (.bool false) (.slice none 0 0) (.slice none 0 0)
  rw [hw9]
  have e0 := hB9.f0
  have e1 := hB9.f1
  have e2 := hB9.f2
  refine bodyPost_ret (v := .tuple #[fracV false none 0 0 none 0 0, .int .i64 8]) (by simp [results, Try.results22, go_sem, e0, e1, e2]) rfl ⟨rfl, o9.to_below bw0 (Nat.le_refl _) (Nat.le_of_lt hlt0)⟩

set_option maxRecDepth 100000 in
set_option maxHeartbeats 1000000 in
theorem make_any {neg : Bool} {A B : Option Addr} {ca cb : Nat} {la lb : List Nat} {w : World} (ha : Nv w A ca la) (hb : Nv w B cb lb) (h0 : val lb ≠ 0) (hla : la.length ≤ 400000000) (hlb : lb.length ≤ 400000000) :
    Calls Try.prog 22 #[.bool neg, .slice A la.length ca, .slice B lb.length cb] w (RetQE (mkRat (sg neg (val la)) (val lb)) w) := by
  have hlp : lb ≠ [] := fun e => h0 (by rw [e]; rfl)
  have hlen : (((lb.length : Nat) : Int) == 0) = false := by rw [beq_eq_false_iff_ne]; have := List.length_pos_iff.2 hlp; omega
  have hbg := hb.big
  obtain ⟨w0, hw0, bw0, hlt0, hB0⟩ := boxed w #[.bool false, .slice none 0 0, .slice none 0 0] 25
  have ha0 := ha.below bw0
  have hb0 := hb.below bw0
  have hg0 : Nat.gcd (val la) (val lb) ≠ 0 := fun e => h0 (Nat.eq_zero_of_gcd_eq_zero_right e)
  clear hlp
  go_enter Try.func22, Try.ntmps22
  go_wp2_with fail
  refine (gcd_any ha0 hb0 hla hlb).mono ?_
  rintro e w1 ⟨G, cg, lg, rfl, ng, ig, mg, b1⟩
  have ig' := Lib.hid ig
  clear ig
  go_wp2_with fail
  refine (divMod_any (ha0.below b1) ng (by omega) (by omega)).mono ?_
  rintro e w2 ⟨A2, c2, q2, R2, s2, r2, rfl, nq, nr, iq, ir, lq, lr, b2⟩
  rw [ig'.out.val, if_neg hg0] at iq
  have iq' := Lib.hid iq
  have hz1 : (if val lg = 0 then (8 : Int) else 0) = 0 := by rw [ig'.out.val, if_neg hg0]
  rw [hz1]
  clear iq ir hz1
  go_wp2_with fail
  refine (divMod_any ((hb0.below b1).below b2) (ng.below b2) (by omega) (by omega)).mono ?_
  rintro e w3 ⟨A3, c3, q3, R3, s3, r3, rfl, nq3, nr3, iq3, ir3, lq3, lr3, b3⟩
  rw [ig'.out.val, if_neg hg0] at iq3
  have iq3' := Lib.hid iq3
  have hz1 : (if val lg = 0 then (8 : Int) else 0) = 0 := by rw [ig'.out.val, if_neg hg0]
  rw [hz1]
  clear iq3 ir3 hz1
  have b13 := (b1.trans (b2.mono b1.size))
  have b13 := b13.trans (b3.mono b13.size)
  have hB3 := hB0.keep b13
  have bw3 := bw0.trans (b13.mono (Nat.le_of_lt hlt0))
  have y0 := hB3.f0
  have y1 := hB3.f1
  have y2 := hB3.f2
  have z0 := hB3.free 0
  have z1 := hB3.free 1
  have z2 := hB3.free 2
  have hqp : decide (0 < q2.length) = decide (0 < val la / Nat.gcd (val la) (val lb)) := by
    rw [decide_eq_decide]
    constructor
    · intro h
      rcases Nat.eq_zero_or_pos (val la / Nat.gcd (val la) (val lb)) with h1 | h1
      · have := iq'.out.zero_iff.2 h1
        rw [this] at h; simp at h
      · exact h1
    · exact fun h => iq'.out.pos h
  obtain ⟨nz, hnz⟩ : ∃ b, decide (0 < val la / Nat.gcd (val la) (val lb)) = b := ⟨_, rfl⟩
  rw [hnz] at hqp
  have hQ := Lib.hid (fun (neg' : Bool) (h : neg' = (neg && nz)) => qIs_make (neg := neg) (neg' := neg') h0 iq'.out iq3'.out (by rw [hnz]; exact h))
  clear hnz
  have nq1 := nq.below b3
  clear b1 b2 b3
  rcases neg with _ | _
  · go_wp2
    obtain ⟨w9, hw9, hB9, o9⟩ := hB3.set3 (.bool false) (.slice A2 q2.length c2) (.slice A3 q3.length c3)
    rw [hw9]
    have e0 := hB9.f0
    have e1 := hB9.f1
    have e2 := hB9.f2
    have m1 := nq1.only_blk hB3 (noDig3 _ _ _ _ _ _ _) o9
    have m2 := nq3.only_blk hB3 (noDig3 _ _ _ _ _ _ _) o9
    refine bodyPost_ret (v := .tuple #[fracV false A2 q2.length c2 A3 q3.length c3, .int .i64 0]) (by simp [results, Try.results22, go_sem, e0, e1, e2]) rfl ?_
    exact ⟨_, rfl, ⟨_, A2, c2, q2, A3, c3, q3, rfl, m1, m2, hQ.out _ (by simp)⟩, o9.to_below bw3 (Nat.le_refl _) bw3.size⟩
  · go_wp2
    obtain ⟨w9, hw9, hB9, o9⟩ := hB3.set3 (.bool nz) (.slice A2 q2.length c2) (.slice A3 q3.length c3)
    rw [hw9]
    have e0 := hB9.f0
    have e1 := hB9.f1
    have e2 := hB9.f2
    have m1 := nq1.only_blk hB3 (noDig3 _ _ _ _ _ _ _) o9
    have m2 := nq3.only_blk hB3 (noDig3 _ _ _ _ _ _ _) o9
    refine bodyPost_ret (v := .tuple #[fracV nz A2 q2.length c2 A3 q3.length c3, .int .i64 0]) (by simp [results, Try.results22, go_sem, e0, e1, e2]) rfl ?_
    exact ⟨_, rfl, ⟨_, A2, c2, q2, A3, c3, q3, rfl, m1, m2, hQ.out _ (by simp)⟩, o9.to_below bw3 (Nat.le_refl _) bw3.size⟩

set_option maxRecDepth 100000 in
set_option maxHeartbeats 1000000 in
theorem made_any {neg : Bool} {A B : Option Addr} {ca cb : Nat} {la lb : List Nat} {w : World} (ha : Nv w A ca la) (hb : Nv w B cb lb) (h0 : val lb ≠ 0) (hla : la.length ≤ 400000000) (hlb : lb.length ≤ 400000000) :
    Calls Try.prog 58 #[.bool neg, .slice A la.length ca, .slice B lb.length cb] w (RetQ (mkRat (sg neg (val la)) (val lb)) w) := by
  obtain ⟨w0, hw0, bw0, hlt0, hB0⟩ := boxed w #[.bool false, .slice none 0 0, .slice none 0 0] 25
  obtain ⟨q, hq⟩ : ∃ q, Hid (mkRat (sg neg (val la)) (val lb) = q) := ⟨_, rfl⟩
  have ha0 := ha.below bw0
  have hb0 := hb.below bw0
  rw [hq.out]
  go_enter Try.func58, Try.ntmps58
  go_wp2_with fail
  refine (make_any ha0 hb0 h0 hla hlb).mono ?_
  rintro e w1 ⟨v, rfl, ⟨n1, A1, c1, l1, B1, d1, m1, rfl, na, nb, hQ⟩, b1⟩
  rw [hq.out] at hQ
  have hQ' := Lib.hid hQ
  clear hQ
  have hB1 := hB0.keep b1
  have bw1 := bw0.trans (b1.mono (Nat.le_of_lt hlt0))
  obtain ⟨w2, hw2, bw2, hlt2, hB2⟩ := boxed w1 #[.bool n1, .slice A1 l1.length c1, .slice B1 m1.length d1] 25
  have hR2 := hB1.keep bw2
  have y0 := hR2.f0
  have y1 := hR2.f1
  have y2 := hR2.f2
  have z0 := hR2.free 0
  have z1 := hR2.free 1
  have z2 := hR2.free 2
  have x0 := hB2.f0
  have x1 := hB2.f1
  have x2 := hB2.f2
  go_wp2
  obtain ⟨w9, hw9, hB9, o9⟩ := hR2.set3 (.bool n1) (.slice A1 l1.length c1) (.slice B1 m1.length d1)
  rw [hw9]
  have e0 := hB9.f0
  have e1 := hB9.f1
  have e2 := hB9.f2
  refine bodyPost_ret (v := fracV n1 A1 l1.length c1 B1 m1.length d1) (by simp [results, Try.results58, go_sem, e0, e1, e2]) rfl ?_
  have m1' := (na.below bw2).only_blk hR2 (noDig3 _ _ _ _ _ _ _) o9
  have m2' := (nb.below bw2).only_blk hR2 (noDig3 _ _ _ _ _ _ _) o9
  exact ⟨_, rfl, ⟨n1, A1, c1, l1, B1, d1, m1, rfl, m1', m2', hQ'.out⟩, o9.to_below (bw1.trans (bw2.mono bw1.size)) (Nat.le_refl _) (Nat.le_trans bw1.size bw2.size)⟩
end Go.Proofs.Ytghpcimeobmonaa
/- The reference's Valid, digit, trim, FromUint, Same, Cmp, Uint: what the calls do. -/
namespace Go.Proofs.Ytghpcimeobmonaa
set_option linter.unusedVariables false
set_option linter.unusedSimpArgs false
open Go.RowKit Plain

def refValidL (l : List Nat) : Bool := decide (l.length = 0 ∨ l.getD (l.length - 1) 0 ≠ 0)
theorem refValidL_eq (l : List Nat) : refValidL l = validL l := by
  unfold refValidL validL
  rw [Bool.eq_iff_iff, decide_eq_true_eq, decide_eq_true_eq, ← canon_iff]
  exact ⟨trimN_canon, canon_of_trimN⟩

set_option maxRecDepth 100000 in
set_option maxHeartbeats 400000 in
theorem refValid_any {A : Option Addr} {c : Nat} {l : List Nat} {w : World} (h : Nv w A c l) :
    Calls Try.prog 59 #[.slice A l.length c] w fun e w' => e = .returned (.bool (validL l)) ∧ w = w' := by
  have hb := h.big
  rw [← refValidL_eq]
  rcases Nat.eq_zero_or_pos l.length with h0 | h0
  · obtain rfl : l = [] := List.eq_nil_of_length_eq_zero h0
    clear h0
    go_enter Try.func59, Try.ntmps59
    go_wp2
    go_ret
    exact ⟨rfl, rfl⟩
  · obtain ⟨a, d, rfl, hab, hac, hda, hga⟩ := h.at (k := l.length - 1) (by omega)
    have hne : (((l.length : Nat) : Int) == 0) = false := by rw [beq_eq_false_iff_ne]; omega
    have hv : Hid (refValidL l = ((d : Int) != 0)) := by
      show _ = _
      rw [Bool.eq_iff_iff]
      unfold refValidL
      rw [hga.out, decide_eq_true_eq, bne_iff_ne]
      omega
    go_enter Try.func59, Try.ntmps59
    go_wp2
    go_ret
    refine ⟨?_, rfl⟩
    rw [hv.out]; rfl

set_option maxRecDepth 100000 in
set_option maxHeartbeats 400000 in
theorem refDigit_any {A : Option Addr} {c i : Nat} {l : List Nat} {w : World} (h : Nv w A c l) (hi : i ≤ 1000000000000) :
    Calls Try.prog 90 #[.slice A l.length c, .int .i64 (i : Int)] w fun e w' => e = .returned (.int .u64 ((l.getD i 0 : Nat) : Int)) ∧ w = w' := by
  have hb := h.big
  by_cases hlt : i < l.length
  · obtain ⟨a, d, rfl, hab, hac, hda, hga⟩ := h.at (k := i) hlt
    go_enter Try.func90, Try.ntmps90
    go_wp2
    go_ret
    refine ⟨?_, rfl⟩
    rw [hga.out]; rfl
  · have hd : decide (i < l.length) = false := decide_eq_false hlt
    have hv := Lib.hid (show l.getD i 0 = 0 by rw [List.getD_eq_getElem?_getD, List.getElem?_eq_none (by omega)]; rfl)
    go_enter Try.func90, Try.ntmps90
    go_wp2
    go_ret
    refine ⟨?_, rfl⟩
    rw [hv.out]; rfl

/-- The same, the index as an Int, the digit by a name. -/
theorem refDigit_at {A : Option Addr} {c i d : Nat} {l : List Nat} {w : World} (h : Nv w A c l) (x : Int) (hx : x = (i : Int)) (hi : i ≤ 1000000000000) (hd : Hid (l.getD i 0 = d)) :
    Calls Try.prog 90 #[.slice A l.length c, .int .i64 x] w fun e w' => e = .returned (.int .u64 (d : Int)) ∧ w = w' := by
  subst hx
  have := refDigit_any h hi
  rw [hd.out] at this
  exact this

set_option maxRecDepth 100000 in
set_option maxHeartbeats 400000 in
theorem refTrim_any {A : Option Addr} {c : Nat} {l : List Nat} {w : World} (h : Nv w A c l) (hl : l.length ≤ 50000000000) :
    Calls Try.prog 84 #[.slice A l.length c] w (RetNat (val l) l.length w) := by
  have hb := h.big
  have hlc := h.len
  go_enter Try.func84, Try.ntmps84
  go_wp2
  go_loop [0] (fun v => ∃ k : Nat, k ≤ l.length ∧ v = .slice A k c ∧ Hid (trimN l l.length = trimN l k)) (fun v => match v with | .slice _ n _ => n | _ => 0)
  case atStart => exact ⟨_, Nat.le_refl _, rfl, rfl⟩
  case round =>
    obtain ⟨k, hk, rfl, hr⟩ := hrel
    by_cases hz : k = 0 ∨ l.getD (k - 1) 0 ≠ 0
    · have ek := Lib.hid (show trimL l = l.take k by
        unfold trimL
        rw [hr.out]
        congr 1
        have h1 := trimN_le l k
        have h2 := trimN_ge (Nat.le_refl k) hz
        omega)
      have hNat : Hid (NatIs (l.take k) (val l)) := by rw [← ek.out]; exact natIs_trimL h.dig
      have hrd : Rd (w.alloc (.cells #[] 62)) A (l.take k) := (h.rd.take k).alloc _
      have hlk := Lib.hid (show (l.take k).length = k by rw [List.length_take]; omega)
      have hown0 := OwnD.empty w w.heap.size (Nat.le_refl _)
      have hbel0 := (Below.refl w.heap.size w).alloc (Nat.le_refl _) (.cells #[] 62)
      have fin : ∀ (v' : Value) (w1 : World), OwnD w1 w.heap.size v' ([] ++ l.take k) → (w.alloc (.cells #[] 62)).grownBy w1 (Value.ownBlock (.slice (some ⟨w.heap.size, 0, none⟩) 0 0)) → RetNat (val l) l.length w (.returned v') w1 := fun v' w1 h1 h2 =>
        OwnD.ret (l := l.take k) h1 hNat.out (by rw [hlk.out]; exact hk) (hown0.grown_below hbel0 h2 (Nat.le_refl _) (by simp)) (by rw [hlk.out]; omega)
      rcases Nat.eq_zero_or_pos k with h0 | h0
      · subst h0
        clear hz
        go_wp2_with (at_builtin; (refine wpList_app _ rfl rfl _ _ rfl w.heap.size _ [] rfl hown0 A 0 c (l.take 0) rfl ?_ ?_ ?_ ?_ ?_); (exact hrd); (exact hlk.out); (exact Nat.zero_le _); (exact Nat.le_of_lt (by simp)); intro v' w1 hown1 hgrow1)
        go_ret
        exact fin _ _ hown1 hgrow1
      · have hz' : l.getD (k - 1) 0 ≠ 0 := by omega
        obtain ⟨a, d, rfl, hab, hac, hda, hga⟩ := h.at (k := k - 1) (by omega)
        rw [hga.out] at hz'
        have hz2 : ((d : Int) == 0) = false := by rw [beq_eq_false_iff_ne]; omega
        clear hz hz'
        go_wp2_with (at_builtin; refine wpList_app _ rfl rfl _ _ rfl w.heap.size _ [] rfl hown0 (some a) k c (l.take k) rfl hrd hlk.out (by simp; omega) (by simp) ?_; intro v' w1 hown1 hgrow1)
        go_ret
        exact fin _ _ hown1 hgrow1
    · have h0 : 0 < k := by omega
      obtain ⟨a, d, rfl, hab, hac, hda, hga⟩ := h.at (k := k - 1) (by omega)
      have hd0 : d = 0 := by have := hga.out; omega
      have e1 := Lib.hid (hr.out.trans (trimN_step h0 (hga.out.trans hd0)))
      subst hd0
      clear hz
      go_wp2
      go_round
      case rel => exact ⟨k - 1, by omega, rfl, e1⟩
      case measure => simp; omega

set_option maxRecDepth 100000 in
set_option maxHeartbeats 400000 in
theorem refFromUint_any (x : Nat) (w : World) (hx : x < pw 2) :
    Calls Try.prog 66 #[.int .u64 (x : Int)] w (RetNat x 2 w) := by
  have hrow := row_alloc w (cs := #[Value.int IntKind.u32 ((x : Int) % 4294967296), Value.int IntKind.u32 ((x : Int) / 4294967296 % 4294967296)]) (l := [x % 4294967296, x / 4294967296 % 4294967296]) (by simp [u32s])
  have hd : Dig [x % 4294967296, x / 4294967296 % 4294967296] := Dig.cons (by omega) (Dig.cons (by omega) Dig.nil)
  have hv := Lib.hid (val_two x hx)
  have hnv : Nv (w.alloc (.cells #[Value.int IntKind.u32 ((x : Int) % 4294967296), Value.int IntKind.u32 ((x : Int) / 4294967296 % 4294967296)] 62)) (some ⟨w.heap.size, 0, none⟩) 2 [x % 4294967296, x / 4294967296 % 4294967296] := ⟨by simp, by simp, hrow.rd, hd⟩
  have hw : IntKind.u64.wrap ((x : Int) / 4294967296) = (x : Int) / 4294967296 := by simp only [pw] at hx; rw [wrap_u64]; omega
  clear hx
  go_enter Try.func66, Try.ntmps66
  go_wp2_with fail
  refine (refTrim_any hnv (by simp)).mono ?_
  rintro e w' ⟨A, c, l', rfl, h1, h2, h3, h4⟩
  go_wp2
  go_ret
  exact ⟨_, _, _, rfl, h1, hv.out ▸ h2, h3, ((Below.refl _ _).alloc (Nat.le_refl _) _).trans (h4.mono (by simp))⟩

def CmpRInv (la lb : List Nat) (w : World) (n : Nat) (i : Value) (wr : World) : Prop :=
  ∃ k : Nat, k ≤ n ∧ i = .int .i64 ((k : Int) - 1) ∧ Hid (∀ j, k ≤ j → la.getD j 0 = lb.getD j 0) ∧ w = wr

theorem getD_ext_val : ∀ (a b : List Nat), Dig a → Dig b → (∀ j, a.getD j 0 = b.getD j 0) → val a = val b
  | [], [], _, _, _ => rfl
  | [], y :: b, ha, hb, h => by
    have h0 := h 0
    have ih := getD_ext_val [] b ha hb.tail (fun j => h (j + 1))
    simp only [val] at *
    simp at h0
    omega
  | x :: a, [], ha, hb, h => by
    have h0 := h 0
    have ih := getD_ext_val a [] ha.tail hb (fun j => h (j + 1))
    simp only [val] at *
    simp at h0
    omega
  | x :: a, y :: b, ha, hb, h => by
    have h0 := h 0
    have ih := getD_ext_val a b ha.tail hb.tail (fun j => h (j + 1))
    simp only [val] at *
    simp at h0
    omega
theorem getD_lt_val {a b : List Nat} (ha : Dig a) (hb : Dig b) (k : Nat) (h : ∀ j, k + 1 ≤ j → a.getD j 0 = b.getD j 0) (hk : a.getD k 0 < b.getD k 0) : val a < val b := by
  induction k generalizing a b with
  | zero =>
    cases b with
    | nil => simp at hk
    | cons y b =>
      cases a with
      | nil =>
        have := getD_ext_val [] b Dig.nil hb.tail (fun j => h (j + 1) (by omega))
        simp only [val, List.getD_cons_zero, List.getD_nil] at *
        omega
      | cons x a =>
        have := getD_ext_val a b ha.tail hb.tail (fun j => h (j + 1) (by omega))
        simp only [val, List.getD_cons_zero] at *
        omega
  | succ k ih =>
    cases b with
    | nil => simp at hk
    | cons y b =>
      cases a with
      | nil =>
        have := ih (a := []) (b := b) Dig.nil hb.tail (fun j hj => h (j + 1) (by omega)) (by simpa using hk)
        simp only [val] at *
        omega
      | cons x a =>
        have h1 := ih (a := a) (b := b) ha.tail hb.tail (fun j hj => h (j + 1) (by omega)) (by simpa using hk)
        have h2 := ha.head
        have h3 := hb.head
        simp only [val] at *
        omega

set_option maxRecDepth 100000 in
set_option maxHeartbeats 400000 in
theorem refCmp_any {A B : Option Addr} {ca cb : Nat} {la lb : List Nat} {w : World} (ha : Nv w A ca la) (hb : Nv w B cb lb) (hna : la.length ≤ 5000000000) (hnb : lb.length ≤ 5000000000) :
    Calls Try.prog 88 #[.slice A la.length ca, .slice B lb.length cb] w fun e w' => e = .returned (.int .i64 (cmpI (val la) (val lb))) ∧ w = w' := by
  by_cases hlt : la.length < lb.length
  all_goals
    obtain ⟨n, hn, hn1, hn2, hn3⟩ : ∃ n, Hid (n = if la.length < lb.length then lb.length else la.length) ∧ la.length ≤ n ∧ lb.length ≤ n ∧ n ≤ 5000000000 := by
      first
        | exact ⟨lb.length, (if_pos hlt).symm, by omega, by omega, by omega⟩
        | exact ⟨la.length, (if_neg hlt).symm, by omega, by omega, by omega⟩
    go_enter Try.func88, Try.ntmps88
    go_wp2
    go_loopw [5] (fun i wr => CmpRInv la lb w n i wr) (fun i _ => (intOf i + 1).toNat)
    case atStart => exact ⟨n, by omega, by rw [hn.out]; first | rw [if_pos hlt] | rw [if_neg hlt], fun j hj => by rw [List.getD_eq_getElem?_getD, List.getD_eq_getElem?_getD, List.getElem?_eq_none (by omega), List.getElem?_eq_none (by omega)], rfl⟩
    case round =>
      obtain ⟨k, hk, rfl, hd, rfl⟩ := hrel
      rcases Nat.eq_zero_or_pos k with h0 | h0
      · have hf := Lib.hid (cmpI_eq (getD_ext_val la lb ha.dig hb.dig (fun j => hd.out j (by omega))))
        subst h0
        go_wp2
        go_ret
        refine ⟨?_, rfl⟩
        rw [hf.out]; rfl
      · obtain ⟨d, hda⟩ : ∃ d, Hid (la.getD (k - 1) 0 = d) := ⟨_, rfl⟩
        obtain ⟨f, hfa⟩ : ∃ f, Hid (lb.getD (k - 1) 0 = f) := ⟨_, rfl⟩
        have hdb : d < 4294967296 := hda.out ▸ ha.dig.getD _
        have hfb : f < 4294967296 := hfa.out ▸ hb.dig.getD _
        rcases Nat.lt_trichotomy d f with hdf | hdf | hdf
        · have hf := Lib.hid (cmpI_lt (getD_lt_val ha.dig hb.dig (k - 1) (fun j hj => hd.out j (by omega)) (by rw [hda.out, hfa.out]; exact hdf)))
          go_wp2_with fail
          refine (refDigit_at (i := k - 1) ha _ (by omega) (by omega) hda).mono ?_
          rintro e w1 ⟨rfl, rfl⟩
          go_wp2_with fail
          refine (refDigit_at (i := k - 1) hb _ (by omega) (by omega) hfa).mono ?_
          rintro e w1 ⟨rfl, rfl⟩
          go_wp2
          go_ret
          refine ⟨?_, rfl⟩
          rw [hf.out]; rfl
        · subst hdf
          go_wp2_with fail
          refine (refDigit_at (i := k - 1) ha _ (by omega) (by omega) hda).mono ?_
          rintro e w1 ⟨rfl, rfl⟩
          go_wp2_with fail
          refine (refDigit_at (i := k - 1) hb _ (by omega) (by omega) hfa).mono ?_
          rintro e w1 ⟨rfl, rfl⟩
          go_wp2_with fail
          refine (refDigit_at (i := k - 1) ha _ (by omega) (by omega) hda).mono ?_
          rintro e w1 ⟨rfl, rfl⟩
          go_wp2_with fail
          refine (refDigit_at (i := k - 1) hb _ (by omega) (by omega) hfa).mono ?_
          rintro e w1 ⟨rfl, rfl⟩
          go_wp2
          go_roundw
          case rel => exact ⟨k - 1, by omega, by congr 1; omega, fun j hj => by
            by_cases hj2 : j = k - 1
            · rw [hj2, hda.out, hfa.out]
            · exact hd.out j (by omega), rfl⟩
          case measure => simp [intOf]; omega
        · have hf := Lib.hid (cmpI_gt (getD_lt_val hb.dig ha.dig (k - 1) (fun j hj => (hd.out j (by omega)).symm) (by rw [hda.out, hfa.out]; exact hdf)))
          go_wp2_with fail
          refine (refDigit_at (i := k - 1) ha _ (by omega) (by omega) hda).mono ?_
          rintro e w1 ⟨rfl, rfl⟩
          go_wp2_with fail
          refine (refDigit_at (i := k - 1) hb _ (by omega) (by omega) hfa).mono ?_
          rintro e w1 ⟨rfl, rfl⟩
          go_wp2_with fail
          refine (refDigit_at (i := k - 1) ha _ (by omega) (by omega) hda).mono ?_
          rintro e w1 ⟨rfl, rfl⟩
          go_wp2_with fail
          refine (refDigit_at (i := k - 1) hb _ (by omega) (by omega) hfa).mono ?_
          rintro e w1 ⟨rfl, rfl⟩
          go_wp2
          go_ret
          refine ⟨?_, rfl⟩
          rw [hf.out]; rfl
end Go.Proofs.Ytghpcimeobmonaa
/- natural.Sub: what the call does. -/
namespace Go.Proofs.Ytghpcimeobmonaa
set_option linter.unusedVariables false
set_option linter.unusedSimpArgs false
open Go.RowKit Plain

def SubInv (la lb : List Nat) (w : World) (g : Nat) (c i : Value) (wr : World) : Prop :=
  ∃ (k cv : Nat) (o : List Nat), k ≤ la.length ∧ i = .int .i64 k ∧ c = .int .u64 cv ∧ cv ≤ 1 ∧ Hid (o.length = k) ∧ Dig o ∧
    Row wr g (o ++ List.replicate (la.length - k) 0) ∧ Hid (val o + val (lb.take k) = val (la.take k) + pw k * cv) ∧ Below w.heap.size w wr

/-- The result of a subtraction. -/
def RetSub (m n k : Nat) (W : World) (e : Ending) (w' : World) : Prop :=
  ∃ A c l, e = .returned (.tuple #[.slice A l.length c, .bool (decide (n ≤ m))]) ∧ Nv w' A c l ∧ NatIs l (m - n) ∧ l.length ≤ k ∧ Below W.heap.size W w'

theorem sub_wrap (da cv db : Nat) (h1 : da < 4294967296) (h2 : cv ≤ 1) (h3 : db < 4294967296) :
    ∃ x c : Nat, IntKind.u64.wrap (IntKind.u64.wrap ((da : Int) - cv) - db) % 4294967296 = (x : Int) ∧ IntKind.u64.wrap (IntKind.u64.wrap ((da : Int) - cv) - db) / 9223372036854775808 = (c : Int) ∧
      x < 4294967296 ∧ c ≤ 1 ∧ x + db + cv = da + 4294967296 * c := by
  rw [wrap_u64, wrap_u64]
  by_cases h : db + cv ≤ da
  · refine ⟨da - cv - db, 0, ?_, ?_, by omega, by omega, by omega⟩ <;> omega
  · refine ⟨da + 4294967296 - cv - db, 1, ?_, ?_, by omega, by omega, by omega⟩ <;> omega
theorem sub_wrap0 (da cv : Nat) (h1 : da < 4294967296) (h2 : cv ≤ 1) :
    ∃ x c : Nat, IntKind.u64.wrap ((da : Int) - cv) % 4294967296 = (x : Int) ∧ IntKind.u64.wrap ((da : Int) - cv) / 9223372036854775808 = (c : Int) ∧
      x < 4294967296 ∧ c ≤ 1 ∧ x + 0 + cv = da + 4294967296 * c := by
  rw [wrap_u64]
  by_cases h : cv ≤ da
  · refine ⟨da - cv, 0, ?_, ?_, by omega, by omega, by omega⟩ <;> omega
  · refine ⟨da + 4294967296 - cv, 1, ?_, ?_, by omega, by omega, by omega⟩ <;> omega

theorem sub_digit (P x a b cv y c' da db : Nat) (h : x + b = a + P * cv) (hs : y + db + cv = da + 4294967296 * c') :
    x + P * y + (b + P * db) = a + P * da + 4294967296 * P * c' := by
  have h1 : P * (y + db + cv) = P * (da + 4294967296 * c') := by rw [hs]
  rw [Nat.mul_add, Nat.mul_add, Nat.mul_add, ← Nat.mul_assoc, Nat.mul_comm P 4294967296] at h1
  omega

theorem sub_step {la lb : List Nat} {w wr : World} {g k cv : Nat} {o : List Nat} (hkl : k < la.length) (ho : Hid (o.length = k)) (hod : Dig o)
    (hrow : Row wr g (o ++ List.replicate (la.length - k) 0)) (hval : Hid (val o + val (lb.take k) = val (la.take k) + pw k * cv)) (hbel : Below w.heap.size w wr) (hg : w.heap.size ≤ g)
    (y c' : Nat) (hy : y < 4294967296) (hc : c' ≤ 1) (hs : y + lb.getD k 0 + cv = la.getD k 0 + 4294967296 * c') (xi ci i' : Int) (hx : xi = (y : Int)) (hci : ci = (c' : Int)) (hi : i' = ((k + 1 : Nat) : Int)) :
    SubInv la lb w g (.int .u64 ci) (.int .i64 i') (wr.setCell ⟨g, k, none⟩ (.int .u32 xi)) := by
  refine ⟨k + 1, c', o ++ [y], by omega, by rw [hi], by rw [hci], hc, ?_, hod.snoc hy, ?_, ?_, hbel.setCell hg _⟩
  · show (o ++ [_]).length = k + 1
    rw [List.length_append, ho.out]; rfl
  · rw [rep_succ (by omega)] at hrow
    exact hrow.push ho.out xi hx
  · show val (o ++ [_]) + _ = _ + pw (k + 1) * _
    rw [val_snoc, ho.out, val_take_succ, val_take_succ, pw]
    exact sub_digit _ _ _ _ _ _ _ _ _ hval.out hs

theorem sub_last {la lb o : List Nat} {cv : Nat} (hval : Hid (val o + val (lb.take la.length) = val (la.take la.length) + pw la.length * cv)) (ho : Hid (o.length = la.length)) (hod : Dig o) (hl : lb.length ≤ la.length) (h : val lb ≤ val la) :
    val o = val la - val lb := by
  have h1 := hval.out
  rw [val_take_ge _ _ (Nat.le_refl _), val_take_ge _ _ hl] at h1
  have h2 := val_lt hod
  rw [ho.out] at h2
  have h3 : cv = 0 := by
    rcases Nat.eq_zero_or_pos cv with h0 | h0
    · exact h0
    · have : pw la.length * 1 ≤ pw la.length * cv := Nat.mul_le_mul_left _ h0
      omega
  subst h3
  omega

set_option maxRecDepth 100000 in
set_option maxHeartbeats 400000 in
theorem sub_any (A B : Option Addr) (ca cb : Nat) (la lb : List Nat) (w : World) (ha : Nv w A ca la) (hb : Nv w B cb lb) :
    Calls Try.prog 71 #[.slice A la.length ca, .slice B lb.length cb] w (RetSub (val la) (val lb) la.length w) := by
  go_enter Try.func71, Try.ntmps71
  go_wp2_with fail
  refine (trim_nv ha).mono ?_
  rintro e w' ⟨l1, rfl, h1, n1, b1, rfl⟩
  go_wp2_with fail
  refine (trim_nv hb).mono ?_
  rintro e w' ⟨l2, rfl, h2, n2, b2, rfl⟩
  clear b2 ha hb
  have hg1 := h1.big
  have hg2 := h2.big
  go_wp2_with fail
  refine (cmp_any h1 h2).mono ?_
  rintro e w1 ⟨rfl, hb1⟩
  by_cases hlt : val la < val lb
  · have hc := Lib.hid (show cmpI (val l1) (val l2) = -1 from cmpI_lt (by rw [n1.val, n2.val]; exact hlt))
    rw [hc.out]
    clear hc
    go_wp2
    go_ret2
    refine ⟨none, 0, [], ?_, ⟨by simp, by simp, fun hx => by simp [u32s] at hx, Dig.nil⟩, ?_, by simp, hb1⟩
    · rw [decide_eq_false (show ¬ val lb ≤ val la by omega)]; rfl
    · rw [show val la - val lb = 0 by omega]; exact NatIs.nil
  · have hc : 0 ≤ cmpI (val l1) (val l2) := by
      have h := cmpI_neg_iff (val l1) (val l2)
      rw [n1.val, n2.val] at *
      omega
    have hc2 := cmpI_bd (val l1) (val l2)
    obtain ⟨c, hcc⟩ : ∃ c, c = cmpI (val l1) (val l2) := ⟨_, rfl⟩
    rw [← hcc] at hc hc2 ⊢
    clear hcc
    have hmk := make_u32 w1 l1.length .i64 (l1.length : Int) rfl (by omega)
    have hll : l2.length ≤ l1.length := by
      rcases Nat.lt_or_ge l1.length l2.length with h | h
      · have := val_lt_of_len h1.dig n2.canon h
        rw [n1.val, n2.val] at this
        omega
      · exact h
    have h1' := h1.below hb1
    have h2' := h2.below hb1
    go_wp2
    go_loopw [7, 23] (fun c i wr => SubInv l1 l2 w1 w1.heap.size c i wr) (fun _ i _ => l1.length - (intOf i).toNat)
    case atStart => exact ⟨0, 0, [], by omega, rfl, rfl, by omega, rfl, Dig.nil, Row.new _ _, rfl, (Below.refl _ _).alloc (Nat.le_refl _) _⟩
    case round =>
      obtain ⟨k, cv, o, hk, rfl, rfl, hcv, ho, hod, hrow, hval, hbel⟩ := hrel
      by_cases hkl : k < l1.length
      · have hf := hrow.free k
        obtain ⟨d0, hc0, _, _⟩ := hrow.cell' (i := k) (hod.append (Dig.replicate _)) (by rw [List.length_append, List.length_replicate, ho.out]; omega)
        obtain ⟨a, da, rfl, hab, hac, hda, hga⟩ := (h1'.below hbel).at hkl
        by_cases hkb : k < l2.length
        · obtain ⟨b, db, rfl, hbb, hbc, hdb, hgb⟩ := (h2'.below hbel).at hkb
          go_wp2
          obtain ⟨y, c', e1, e2, hy, hc', hs⟩ := sub_wrap da cv db hda hcv hdb
          go_roundw
          case rel => exact sub_step hkl ho hod hrow hval hbel (Nat.le_refl _) y c' hy hc' (by rw [hga.out, hgb.out]; exact hs) _ _ _ e1 e2 (by omega)
          case measure => simp [intOf]; omega
        · have hgb := Lib.hid (show l2.getD k 0 = 0 by rw [List.getD_eq_getElem?_getD, List.getElem?_eq_none (by omega)]; rfl)
          go_wp2
          obtain ⟨y, c', e1, e2, hy, hc', hs⟩ := sub_wrap0 da cv hda hcv
          go_roundw
          case rel => exact sub_step hkl ho hod hrow hval hbel (Nat.le_refl _) y c' hy hc' (by rw [hga.out, hgb.out]; exact hs) _ _ _ e1 e2 (by omega)
          case measure => simp [intOf]; omega
      · obtain rfl : k = l1.length := by omega
        have hfin := Lib.hid (sub_last hval ho hod hll (by rw [n1.val, n2.val]; omega))
        have hrow2 : Row wr w1.heap.size o := hrow.eq (by simp)
        go_wp2_with fail
        refine (trim_row hrow2 ho.out hod (by omega)).mono ?_
        rintro e w2 ⟨l', rfl, h3, h4, h5, rfl⟩
        go_wp2
        go_ret2
        refine ⟨_, _, l', ?_, h3, ?_, by omega, hb1.trans (hbel.mono hb1.size)⟩
        · rw [decide_eq_true (show val lb ≤ val la by omega)]; rfl
        · rw [hfin.out, n1.val, n2.val] at h4; exact h4
end Go.Proofs.Ytghpcimeobmonaa
/- The reference's Add, Sub: what the calls do. -/
namespace Go.Proofs.Ytghpcimeobmonaa
set_option linter.unusedVariables false
set_option linter.unusedSimpArgs false
open Go.RowKit Plain

def RAddInv (la lb : List Nat) (n : Nat) (w : World) (v c i : Value) (wr : World) : Prop :=
  ∃ (k cv : Nat) (o : List Nat), k ≤ n + 1 ∧ i = .int .i64 (k : Int) ∧ c = .int .u64 (cv : Int) ∧ cv ≤ 1 ∧ Hid (o.length = k) ∧ Dig o ∧ OwnD wr w.heap.size v o ∧
    Hid (val o + pw k * cv = val (la.take k) + val (lb.take k)) ∧ Below w.heap.size w wr

theorem raddstep {la lb o : List Nat} {k cv s : Nat} (ho : Hid (o.length = k)) (hval : Hid (val o + pw k * cv = val (la.take k) + val (lb.take k))) (hs : s = la.getD k 0 + cv + lb.getD k 0) :
    val (o ++ [s % 4294967296]) + pw (k + 1) * (s / 4294967296) = val (la.take (k + 1)) + val (lb.take (k + 1)) := by
  rw [val_snoc, ho.out, val_take_succ, val_take_succ, pw]
  exact add_digit _ _ _ _ _ _ hval.out _ _ hs

theorem radd_fin {la lb o : List Nat} {n cv : Nat} (ho : Hid (o.length = n + 1)) (hval : Hid (val o + pw (n + 1) * cv = val (la.take (n + 1)) + val (lb.take (n + 1)))) (ha : Dig la) (hb : Dig lb) (h1 : la.length ≤ n) (h2 : lb.length ≤ n) : val o = val la + val lb := by
  have h := hval.out
  rw [val_take_ge _ _ (by omega), val_take_ge _ _ (by omega)] at h
  have h3 := Nat.lt_of_lt_of_le (val_lt ha) (pw_mono h1)
  have h4 := Nat.lt_of_lt_of_le (val_lt hb) (pw_mono h2)
  rcases Nat.eq_zero_or_pos cv with h0 | h0
  · subst h0; omega
  · have h5 : pw (n + 1) * 1 ≤ pw (n + 1) * cv := Nat.mul_le_mul_left _ h0
    simp only [pw] at h5 h
    omega

set_option maxRecDepth 100000 in
set_option maxHeartbeats 1000000 in
theorem refAdd_any (A B : Option Addr) (ca cb : Nat) (la lb : List Nat) (w : World) (ha : Nv w A ca la) (hb : Nv w B cb lb) (hna : la.length ≤ 5000000000) (hnb : lb.length ≤ 5000000000) :
    Calls Try.prog 65 #[.slice A la.length ca, .slice B lb.length cb] w (RetNat (val la + val lb) (max la.length lb.length + 1) w) := by
  by_cases hlt : la.length < lb.length
  all_goals
    obtain ⟨n, hn, hn1, hn2, hn3, hn4⟩ : ∃ n, Hid (n = if la.length < lb.length then lb.length else la.length) ∧ la.length ≤ n ∧ lb.length ≤ n ∧ n ≤ 5000000000 ∧ Hid (n ≤ max la.length lb.length) := by
      first
        | exact ⟨lb.length, (if_pos hlt).symm, by omega, by omega, by omega, by show _ ≤ _; omega⟩
        | exact ⟨la.length, (if_neg hlt).symm, by omega, by omega, by omega, by show _ ≤ _; omega⟩
    go_enter Try.func65, Try.ntmps65
    go_wp2
    go_loopw [5, 6, 7] (fun v c i wr => RAddInv la lb n w v c i wr) (fun _ _ i _ => n + 1 - (intOf i).toNat)
    case atStart => exact ⟨0, 0, [], by omega, rfl, rfl, by omega, rfl, Dig.nil, OwnD.nil _ _, rfl, Below.refl _ _⟩
    case round =>
      obtain ⟨k, cv, o, hk, rfl, rfl, hcv, ho, hod, hown, hval, hbel⟩ := hrel
      by_cases hkn : k ≤ n
      · obtain ⟨da, hda⟩ : ∃ d, Hid (la.getD k 0 = d) := ⟨_, rfl⟩
        obtain ⟨db, hdb⟩ : ∃ d, Hid (lb.getD k 0 = d) := ⟨_, rfl⟩
        have hdab : da < 4294967296 := hda.out ▸ ha.dig.getD _
        have hdbb : db < 4294967296 := hdb.out ▸ hb.dig.getD _
        have hstep := Lib.hid (raddstep ho hval (show da + cv + db = la.getD k 0 + cv + lb.getD k 0 by rw [hda.out, hdb.out]))
        have hcs : (#[Value.int .u32 (((da : Int) + (db : Int) + (cv : Int)) % 4294967296)] : Array Value) = (u32s [(da + cv + db) % 4294967296]).toArray := by simp [u32s]; omega
        have hrd := (row_alloc wr hcs).rd
        clear hcs
        have hle : decide (k ≤ n) = true := decide_eq_true hkn
        rw [hn.out] at hle
        first | rw [if_pos hlt] at hle | rw [if_neg hlt] at hle
        go_wp2_with fail
        refine (refDigit_at (i := k) (ha.below hbel) _ rfl (by omega) hda).mono ?_
        rintro e w1 ⟨rfl, rfl⟩
        go_wp2_with fail
        refine (refDigit_at (i := k) (hb.below hbel) _ rfl (by omega) hdb).mono ?_
        rintro e w1 ⟨rfl, rfl⟩
        go_wp2_with (at_builtin; refine wpList_app _ rfl rfl _ _ rfl w.heap.size _ o rfl (hown.alloc _) (some ⟨wr.heap.size, 0, none⟩) 1 1 [(da + cv + db) % 4294967296] rfl hrd rfl ?_ ?_ ?_; (rw [ho.out]; omega); (have := hbel.size; simp; omega); intro v' w2 hown2 hgrow2)
        go_roundw
        case rel => exact ⟨k + 1, (da + cv + db) / 4294967296, o ++ [(da + cv + db) % 4294967296], by omega, rfl, by congr 1; omega, by omega, by show (o ++ [_]).length = k + 1; rw [List.length_append, ho.out]; rfl, hod.snoc (Nat.mod_lt _ (by omega)), hown2, hstep.out, own_snoc hown hbel hown2 hgrow2⟩
        case measure => simp [intOf]; omega
      · obtain rfl : k = n + 1 := by omega
        have hle : decide (n + 1 ≤ if la.length < lb.length then lb.length else la.length) = false := by rw [← hn.out]; exact decide_eq_false (by omega)
        first | rw [if_pos hlt] at hle | rw [if_neg hlt] at hle
        obtain ⟨A', c', rfl, hnv⟩ := hown.nv hod (by rw [ho.out]; omega)
        have hv2 := Lib.hid (radd_fin ho hval ha.dig hb.dig hn1 hn2)
        go_wp2_with fail
        refine (refTrim_any hnv (by rw [ho.out]; omega)).mono ?_
        rintro e w1 ⟨A1, c1, l1, rfl, h1, h2, h3, h4⟩
        go_wp2
        go_ret
        exact ⟨A1, c1, l1, rfl, h1, hv2.out ▸ h2, by have := hn4.out; rw [ho.out] at h3; omega, hbel.trans (h4.mono hbel.size)⟩
end Go.Proofs.Ytghpcimeobmonaa
/- The reference's Sub, scale, shift, Mul, Uint: what the calls do. -/
namespace Go.Proofs.Ytghpcimeobmonaa
set_option linter.unusedVariables false
set_option linter.unusedSimpArgs false
open Go.RowKit Plain

def RSubInv (la lb : List Nat) (w : World) (v c i : Value) (wr : World) : Prop :=
  ∃ (k cv : Nat) (o : List Nat), k ≤ la.length ∧ i = .int .i64 (k : Int) ∧ c = .int .u64 (cv : Int) ∧ cv ≤ 1 ∧ Hid (o.length = k) ∧ Dig o ∧ OwnD wr w.heap.size v o ∧
    Hid (val o + val (lb.take k) = val (la.take k) + pw k * cv) ∧ Below w.heap.size w wr

theorem rsub_digit (da db bv : Nat) (h1 : da < 4294967296) (h2 : db < 4294967296) (h3 : bv ≤ 1) : ∃ y c : Nat, y < 4294967296 ∧ c ≤ 1 ∧ Hid (y + db + bv = da + 4294967296 * c) ∧
    Hid ((4294967296 + (da : Int) - db - bv) % 4294967296 = (y : Int)) ∧ Hid (1 - (4294967296 + (da : Int) - db - bv) / 4294967296 = (c : Int)) := by
  by_cases h : db + bv ≤ da
  · exact ⟨da - db - bv, 0, by omega, by omega, by show _ = _; omega, by show _ = _; omega, by show _ = _; omega⟩
  · exact ⟨da + 4294967296 - db - bv, 1, by omega, by omega, by show _ = _; omega, by show _ = _; omega, by show _ = _; omega⟩

theorem rsub_fin {la lb o : List Nat} {cv : Nat} (ho : Hid (o.length = la.length)) (hval : Hid (val o + val (lb.take la.length) = val (la.take la.length) + pw la.length * cv)) (hod : Dig o) (had : Dig la) (h : val lb ≤ val la) : val o = val la - val lb := by
  have h1 := hval.out
  rw [val_take_ge _ _ (Nat.le_refl _)] at h1
  have h2 := val_lt hod
  rw [ho.out] at h2
  have h4 := val_lt had
  have h5 : val (lb.take la.length) = val lb := by
    rcases Nat.lt_or_ge la.length lb.length with hl | hl
    · have h6 := val_take_drop lb la.length (by omega)
      rcases Nat.eq_zero_or_pos (val (lb.drop la.length)) with h7 | h7
      · rw [h7] at h6; omega
      · have : pw la.length * 1 ≤ pw la.length * val (lb.drop la.length) := Nat.mul_le_mul_left _ h7
        omega
    · exact val_take_ge _ _ hl
  rw [h5] at h1
  have h3 : cv = 0 := by
    rcases Nat.eq_zero_or_pos cv with h0 | h0
    · exact h0
    · have : pw la.length * 1 ≤ pw la.length * cv := Nat.mul_le_mul_left _ h0
      omega
  subst h3
  omega

set_option maxRecDepth 100000 in
set_option maxHeartbeats 1000000 in
theorem refSub_any (A B : Option Addr) (ca cb : Nat) (la lb : List Nat) (w : World) (ha : Nv w A ca la) (hb : Nv w B cb lb) (hna : la.length ≤ 5000000000) (hnb : lb.length ≤ 5000000000) :
    Calls Try.prog 75 #[.slice A la.length ca, .slice B lb.length cb] w (RetSub (val la) (val lb) la.length w) := by
  go_enter Try.func75, Try.ntmps75
  go_wp2_with fail
  refine (refCmp_any ha hb hna hnb).mono ?_
  rintro e w1 ⟨rfl, rfl⟩
  by_cases hlt : val la < val lb
  · have hc := Lib.hid (cmpI_lt hlt)
    rw [hc.out]
    clear hc
    go_wp2
    go_ret2
    refine ⟨none, 0, [], ?_, nv_nil' _, ?_, by simp, Below.refl _ _⟩
    · rw [decide_eq_false (show ¬ val lb ≤ val la by omega)]; rfl
    · rw [show val la - val lb = 0 by omega]; exact NatIs.nil
  · have hc : 0 ≤ cmpI (val la) (val lb) := by
      have h := cmpI_neg_iff (val la) (val lb)
      omega
    have hc2 := cmpI_bd (val la) (val lb)
    obtain ⟨c, hcc⟩ : ∃ c, c = cmpI (val la) (val lb) := ⟨_, rfl⟩
    rw [← hcc] at hc hc2 ⊢
    clear hcc
    have hlt' := Lib.hid hlt
    clear hlt
    go_wp2
    go_loopw [6, 7, 8] (fun v c i wr => RSubInv la lb w v c i wr) (fun _ _ i _ => la.length - (intOf i).toNat)
    case atStart => exact ⟨0, 0, [], by omega, rfl, rfl, by omega, rfl, Dig.nil, OwnD.nil _ _, rfl, Below.refl _ _⟩
    case round =>
      obtain ⟨k, cv, o, hk, rfl, rfl, hcv, ho, hod, hown, hval, hbel⟩ := hrel
      by_cases hkn : k < la.length
      · obtain ⟨da, hda⟩ : ∃ d, Hid (la.getD k 0 = d) := ⟨_, rfl⟩
        obtain ⟨db, hdb⟩ : ∃ d, Hid (lb.getD k 0 = d) := ⟨_, rfl⟩
        have hdab : da < 4294967296 := hda.out ▸ ha.dig.getD _
        have hdbb : db < 4294967296 := hdb.out ▸ hb.dig.getD _
        obtain ⟨y, c2, hy, hc2b, hs, e1, e2⟩ := rsub_digit da db cv hdab hdbb hcv
        have hcs : (#[Value.int .u32 ((4294967296 + (da : Int) - db - cv) % 4294967296)] : Array Value) = (u32s [y]).toArray := by rw [e1.out]; rfl
        have hrd := (row_alloc wr hcs).rd
        clear hcs
        go_wp2_with fail
        refine (refDigit_at (i := k) (ha.below hbel) _ rfl (by omega) hda).mono ?_
        rintro e w1 ⟨rfl, rfl⟩
        go_wp2_with fail
        refine (refDigit_at (i := k) (hb.below hbel) _ rfl (by omega) hdb).mono ?_
        rintro e w1 ⟨rfl, rfl⟩
        go_wp2_with (at_builtin; refine wpList_app _ rfl rfl _ _ rfl w.heap.size _ o rfl (hown.alloc _) (some ⟨wr.heap.size, 0, none⟩) 1 1 [y] rfl hrd rfl ?_ ?_ ?_; (rw [ho.out]; omega); (have := hbel.size; simp; omega); intro v' w2 hown2 hgrow2)
        go_roundw
        case rel => exact ⟨k + 1, c2, o ++ [y], by omega, rfl, by rw [← e2.out], by omega, by show (o ++ [_]).length = k + 1; rw [List.length_append, ho.out]; rfl, hod.snoc hy, hown2, by
            show val (o ++ [_]) + _ = _ + pw (k + 1) * _
            rw [val_snoc, ho.out, val_take_succ, val_take_succ, pw]
            exact sub_digit _ _ _ _ _ _ _ _ _ hval.out (by rw [hda.out, hdb.out]; exact hs.out), own_snoc hown hbel hown2 hgrow2⟩
        case measure => simp [intOf]; omega
      · obtain rfl : k = la.length := by omega
        obtain ⟨A', c', rfl, hnv⟩ := hown.nv hod (by rw [ho.out]; omega)
        have hv2 := Lib.hid (rsub_fin ho hval hod ha.dig (by have := hlt'.out; omega))
        have hld : decide (la.length < la.length) = false := decide_eq_false (by omega)
        go_wp2_with fail
        refine (refTrim_any hnv (by rw [ho.out]; omega)).mono ?_
        rintro e w1 ⟨A1, c1, l1, rfl, h1, h2, h3, h4⟩
        go_wp2
        go_ret2
        refine ⟨A1, c1, l1, ?_, h1, hv2.out ▸ h2, by rw [ho.out] at h3; omega, hbel.trans (h4.mono hbel.size)⟩
        rw [decide_eq_true (show val lb ≤ val la by have := hlt'.out; omega)]; rfl

def RScInv (la : List Nat) (d : Nat) (w : World) (v c i : Value) (wr : World) : Prop :=
  ∃ (k cv : Nat) (o : List Nat), k ≤ la.length + 1 ∧ i = .int .i64 (k : Int) ∧ c = .int .u64 (cv : Int) ∧ cv < 4294967296 ∧ Hid (o.length = k) ∧ Dig o ∧ OwnD wr w.heap.size v o ∧
    Hid (val o + pw k * cv = val (la.take k) * d) ∧ Below w.heap.size w wr

theorem rsc_step {la o : List Nat} {k cv d da p : Nat} (ho : Hid (o.length = k)) (hval : Hid (val o + pw k * cv = val (la.take k) * d)) (hda : Hid (la.getD k 0 = da)) (hp : Hid (da * d = p)) :
    val (o ++ [(p + cv) % 4294967296]) + pw (k + 1) * ((p + cv) / 4294967296) = val (la.take (k + 1)) * d := by
  rw [val_snoc, ho.out, val_take_succ, hda.out, pw, Nat.add_mul, ← hval.out, Nat.mul_assoc (pw k), hp.out]
  have h1 : pw k * (p + cv) = pw k * ((p + cv) % 4294967296) + 4294967296 * pw k * ((p + cv) / 4294967296) := by
    rw [Nat.mul_comm 4294967296 (pw k), Nat.mul_assoc, ← Nat.mul_add, Nat.mod_add_div]
  rw [Nat.mul_add] at h1
  omega
theorem rsc_fin {la o : List Nat} {cv d : Nat} (ho : Hid (o.length = la.length + 1)) (hval : Hid (val o + pw (la.length + 1) * cv = val (la.take (la.length + 1)) * d)) (had : Dig la) (hd : d < 4294967296) : val o = val la * d := by
  have h := hval.out
  rw [val_take_ge _ _ (by omega)] at h
  have h3 := val_lt had
  rcases Nat.eq_zero_or_pos cv with h0 | h0
  · subst h0; omega
  · have h5 : pw (la.length + 1) * 1 ≤ pw (la.length + 1) * cv := Nat.mul_le_mul_left _ h0
    have h6 : val la * d ≤ pw la.length * 4294967296 := Nat.mul_le_mul (by omega) (by omega)
    rcases Nat.eq_zero_or_pos d with hd0 | hd0
    · subst hd0
      have := pw_pos (la.length + 1)
      omega
    · have h7 : val la * d < pw la.length * d := Nat.mul_lt_mul_of_pos_right h3 hd0
      have h8 : pw la.length * d ≤ pw la.length * 4294967296 := Nat.mul_le_mul_left _ (by omega)
      simp only [pw] at h5 h
      rw [Nat.mul_comm _ 4294967296] at h8
      omega

set_option maxRecDepth 100000 in
set_option maxHeartbeats 1000000 in
theorem refScale_any (A : Option Addr) (ca d : Nat) (la : List Nat) (w : World) (ha : Nv w A ca la) (hna : la.length ≤ 5000000000) (hd : d < 4294967296) :
    Calls Try.prog 80 #[.slice A la.length ca, .int .u64 (d : Int)] w (RetNat (val la * d) (la.length + 1) w) := by
  go_enter Try.func80, Try.ntmps80
  go_wp2
  go_loopw [5, 6, 7] (fun v c i wr => RScInv la d w v c i wr) (fun _ _ i _ => la.length + 1 - (intOf i).toNat)
  case atStart => exact ⟨0, 0, [], by omega, rfl, rfl, by omega, rfl, Dig.nil, OwnD.nil _ _, by show _ = _; simp [val], Below.refl _ _⟩
  case round =>
    obtain ⟨k, cv, o, hk, rfl, rfl, hcv, ho, hod, hown, hval, hbel⟩ := hrel
    by_cases hkn : k ≤ la.length
    · obtain ⟨da, hda⟩ : ∃ d, Hid (la.getD k 0 = d) := ⟨_, rfl⟩
      have hdab : da < 4294967296 := hda.out ▸ ha.dig.getD _
      obtain ⟨p, hp, hpb, hw1, hw2, _⟩ := mul_add_fits (c := 0) hdab hd hcv (by omega)
      have hstep := Lib.hid (rsc_step ho hval hda hp)
      have hcs : (#[Value.int .u32 (((p : Int) + (cv : Int)) % 4294967296)] : Array Value) = (u32s [(p + cv) % 4294967296]).toArray := by simp [u32s]
      have hrd := (row_alloc wr hcs).rd
      clear hcs
      go_wp2_with fail
      refine (refDigit_at (i := k) (ha.below hbel) _ rfl (by omega) hda).mono ?_
      rintro e w1 ⟨rfl, rfl⟩
      go_wp2_with (at_builtin; refine wpList_app _ rfl rfl _ _ rfl w.heap.size _ o rfl (hown.alloc _) (some ⟨wr.heap.size, 0, none⟩) 1 1 [(p + cv) % 4294967296] rfl hrd rfl ?_ ?_ ?_; (rw [ho.out]; omega); (have := hbel.size; simp; omega); intro v' w2 hown2 hgrow2)
      go_roundw
      case rel => exact ⟨k + 1, (p + cv) / 4294967296, o ++ [(p + cv) % 4294967296], by omega, rfl, rfl, by omega, by show (o ++ [_]).length = k + 1; rw [List.length_append, ho.out]; rfl, hod.snoc (Nat.mod_lt _ (by omega)), hown2, hstep.out, own_snoc hown hbel hown2 hgrow2⟩
      case measure => simp [intOf]; omega
    · obtain rfl : k = la.length + 1 := by omega
      obtain ⟨A', c', rfl, hnv⟩ := hown.nv hod (by rw [ho.out]; omega)
      have hv2 := Lib.hid (rsc_fin ho hval ha.dig hd)
      have hld : decide (la.length + 1 ≤ la.length) = false := decide_eq_false (by omega)
      go_wp2_with fail
      refine (refTrim_any hnv (by rw [ho.out]; omega)).mono ?_
      rintro e w1 ⟨A1, c1, l1, rfl, h1, h2, h3, h4⟩
      go_wp2
      go_ret
      exact ⟨A1, c1, l1, rfl, h1, hv2.out ▸ h2, by rw [ho.out] at h3; omega, hbel.trans (h4.mono hbel.size)⟩
end Go.Proofs.Ytghpcimeobmonaa
