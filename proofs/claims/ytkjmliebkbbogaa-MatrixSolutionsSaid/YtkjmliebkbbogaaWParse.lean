/- natural.Parse: what the call does. -/
import Derived.Test.YtkjmliebkbbogaaB
namespace Go.Proofs.Ytkjmliebkbbogaa
set_option linter.unusedVariables false
set_option linter.unusedSimpArgs false
open Go.RowKit Plain

/-- The bytes of a string as numbers. -/
def bytes (s : ByteArray) : List Nat := s.data.toList.map UInt8.toNat
theorem bytes_length (s : ByteArray) : (bytes s).length = s.size := by simp [bytes]
theorem bytes_get (s : ByteArray) (k : Nat) (h : k < s.size) : (bytes s).getD k 0 = (s[k]).toNat := by
  have hk : k < s.data.toList.length := by simpa using h
  rw [bytes, List.getD_eq_getElem?_getD, List.getElem?_map, List.getElem?_eq_getElem hk]
  rfl

def isDec (b : Nat) : Bool := decide (48 ≤ b ∧ b ≤ 57)
def decVal (l : List Nat) : Nat := l.foldl (fun v b => 10 * v + (b - 48)) 0
theorem decVal_snoc (l : List Nat) (b : Nat) : decVal (l ++ [b]) = 10 * decVal l + (b - 48) := by simp [decVal]
def parErr (l : List Nat) : Nat := if l = [] then 1 else if 600 < l.length then 3 else if l.all isDec = false then 2 else if l.getD 0 0 = 48 ∧ 1 < l.length then 2 else 0
def parVal (l : List Nat) : Nat := if parErr l = 0 then decVal l else 0

def RetPar (l : List Nat) (W : World) (e : Ending) (w' : World) : Prop :=
  ∃ A c r, e = .returned (.tuple #[.slice A r.length c, .int .i64 ((parErr l : Nat) : Int)]) ∧ Nv w' A c r ∧ NatIs r (parVal l) ∧ r.length ≤ 600 ∧ Below W.heap.size W w'

theorem retPar_err {l : List Nat} {w : World} {n : Nat} (h : parErr l = n) (h0 : n ≠ 0) (v : Value) (hv : v = .tuple #[.slice none 0 0, .int .i64 (n : Int)]) : RetPar l w (.returned v) w :=
  ⟨none, 0, [], by rw [hv, h]; rfl, nv_nil' _, by unfold parVal; rw [if_neg (by rw [h]; exact h0)]; exact NatIs.nil, by simp, Below.refl _ _⟩

theorem isEmpty_of (s : ByteArray) : s.toList.isEmpty = decide (s.size = 0) := by
  have h : decide (s = ByteArray.empty) = s.toList.isEmpty := decide_eq_emptyBytes s
  rw [← h, decide_eq_decide]
  constructor
  · rintro rfl; rfl
  · intro h0
    cases s with
    | mk d =>
      have : d = #[] := Array.eq_empty_of_size_eq_zero h0
      subst this; rfl
theorem bytes_nil (s : ByteArray) : bytes s = [] ↔ s.size = 0 := by
  rw [← bytes_length]; exact ⟨fun h => by rw [h]; rfl, List.eq_nil_of_length_eq_zero⟩
theorem all_take_succ (l : List Nat) (k : Nat) (hk : k < l.length) (h : (l.take k).all isDec = true) (hb : isDec (l.getD k 0) = true) : (l.take (k + 1)).all isDec = true := by
  rw [take_snoc' l k hk, List.all_append, h, Bool.true_and, List.all_cons, hb]; rfl
theorem not_all (l : List Nat) (k : Nat) (hk : k < l.length) (hb : isDec (l.getD k 0) = false) : l.all isDec = false := by
  rw [List.all_eq_false]
  refine ⟨l.getD k 0, ?_, by rw [hb]; decide⟩
  rw [List.getD_eq_getElem?_getD, List.getElem?_eq_getElem hk]
  exact List.getElem_mem hk
theorem all_get (l : List Nat) (k : Nat) (hk : k < l.length) (h : l.all isDec = true) : 48 ≤ l.getD k 0 ∧ l.getD k 0 ≤ 57 := by
  have := List.all_eq_true.1 h (l.getD k 0) (by rw [List.getD_eq_getElem?_getD, List.getElem?_eq_getElem hk]; exact List.getElem_mem hk)
  simpa [isDec] using this

/-- The outer loop: the digits of the number so far. -/
def ParInv (l : List Nat) (w : World) (v i : Value) (wr : World) : Prop :=
  ∃ (k : Nat) (o : List Nat), k ≤ l.length ∧ i = .int .i64 (k : Int) ∧ OwnD wr w.heap.size v o ∧ Dig o ∧ o.length ≤ k ∧ Hid (val o = decVal (l.take k)) ∧ Below w.heap.size w wr
/-- The inner loop: ten times the number, and a digit. -/
def ParInv2 (o : List Nat) (d : Nat) (w : World) (v c i : Value) (wr : World) : Prop :=
  ∃ (j cv : Nat) (lo : List Nat), j ≤ o.length ∧ i = .int .i64 (j : Int) ∧ c = .int .u64 (cv : Int) ∧ cv ≤ 9 ∧ Hid (lo.length = j) ∧ Dig lo ∧ OwnD wr w.heap.size v (lo ++ o.drop j) ∧
    Hid (val lo + pw j * cv = 10 * val (o.take j) + d) ∧ Below w.heap.size w wr

theorem drop_cons' {us : List Nat} {k : Nat} (h : k < us.length) : us.drop k = us.getD k 0 :: us.drop (k + 1) := by
  rw [List.drop_eq_getElem_cons h, List.getD_eq_getElem?_getD, List.getElem?_eq_getElem h]; rfl
theorem par_digit (P x a d c xk s : Nat) (h : x + P * c = 10 * a + d) (hs : s = 10 * xk + c) : x + P * (s % 4294967296) + 4294967296 * P * (s / 4294967296) = 10 * (a + P * xk) + d := by
  have h1 : P * s = P * (s % 4294967296) + 4294967296 * P * (s / 4294967296) := by
    rw [Nat.mul_comm 4294967296 P, Nat.mul_assoc, ← Nat.mul_add, Nat.mod_add_div]
  have h2 : P * s = 10 * (P * xk) + P * c := by rw [hs, Nat.mul_add, Nat.mul_left_comm]
  omega

theorem par_cell {w : World} {g j x : Nat} {lo o : List Nat} (h : ∀ i, i < (lo ++ o.drop j).length → w.cell? ⟨g, i, none⟩ = some (.int .u32 (((lo ++ o.drop j).getD i 0 : Nat) : Int))) (hlo : Hid (lo.length = j)) (hj : j < o.length) (hx : Hid (o.getD j 0 = x)) :
    w.cell? ⟨g, j, none⟩ = some (.int .u32 (x : Int)) := by
  rw [h j (by rw [List.length_append, List.length_drop, hlo.out]; omega)]
  congr 3
  rw [← hx.out, List.getD_eq_getElem?_getD, List.getElem?_append_right (by rw [hlo.out]; omega), hlo.out, Nat.sub_self, List.getElem?_drop, List.getD_eq_getElem?_getD]
  rfl
theorem par_set {lo o : List Nat} {j y : Nat} (hlo : Hid (lo.length = j)) (hj : j < o.length) : (lo ++ o.drop j).set j y = lo ++ [y] ++ o.drop (j + 1) := by
  rw [drop_cons' hj, ← hlo.out, set_mid, List.append_assoc]
  rfl

end Go.Proofs.Ytkjmliebkbbogaa
