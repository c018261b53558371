/- Small words for memory: slices that read as lists of digits; blocks of the call's own. -/
import Derived.Test.YtkjmliebkbbogaaProg
import Derived.Test.YtkjmliebkbbogaaPLp
import Derived.WalkKit
import Derived.WalkSpells
import Derived.WalkLawsBesides
import Derived.Deep.Draws
import Derived.Deep.QuietTactic
import Derived.BigQuiet
import Derived.Deep.DeepCutAuto
import Derived.Deep.CutBlock
import Derived.Deep.DeepFit
import Derived.Lib.Hide
namespace Go.Proofs.Ytkjmliebkbbogaa
set_option linter.unusedVariables false
set_option linter.unusedSimpArgs false
open Go.RowKit Plain

/-- The cells from address a on hold f applied to the list. -/
def At (w : World) (a : Addr) (xs : List Value) : Prop := a.block < w.heap.size ∧ ∀ (j : Nat) (h : j < xs.length), w.cell? (a.add j) = some xs[j]

theorem block_add (a : Addr) (n : Nat) : (a.add n).block = a.block := by unfold Addr.add; split <;> rfl
theorem add_add (a : Addr) (i j : Nat) : (a.add i).add j = a.add (i + j) := by
  unfold Addr.add
  by_cases hi : i = 0 <;> by_cases hj : j = 0 <;> simp [hi, hj, Nat.add_assoc]

theorem cell0 {w : World} {a : Addr} {u : Value} (h : w.cell? (a.add 0) = some u) : w.cell? a = some u := by simpa [Addr.add] using h
theorem cellK {w : World} {a : Addr} {u : Value} {k : Nat} (h : w.cell? (a.add k) = some u) (hk : k ≠ 0) : w.cell? ⟨a.block, a.off + k, none⟩ = some u := by simpa [Addr.add, hk] using h
theorem At.below {w w' : World} {a : Addr} {xs : List Value} (h : At w a xs) (hb : Below w.heap.size w w') : At w' a xs :=
  ⟨Nat.lt_of_lt_of_le h.1 hb.size, fun j hj => (hb.cell (by rw [block_add]; exact h.1)).trans (h.2 j hj)⟩

/-- A slice value (its address may be nil or anything where it is empty) that reads as the list xs. -/
def Sl (w : World) (A : Option Addr) (xs : List Value) : Prop := 0 < xs.length → ∃ a, A = some a ∧ At w a xs
theorem Sl.below {w w' : World} {A : Option Addr} {xs : List Value} (h : Sl w A xs) (hb : Below w.heap.size w w') : Sl w' A xs := fun hx => by
  obtain ⟨a, e, h1⟩ := h hx
  exact ⟨a, e, h1.below hb⟩

theorem wrap_u64 (n : Int) : IntKind.u64.wrap n = n % 18446744073709551616 := by simp [IntKind.wrap, IntKind.bits, IntKind.signed]
theorem wrap_i64_id (n : Int) (h1 : 0 ≤ n) (h2 : n < 9223372036854775808) : IntKind.i64.wrap n = n := by rw [IntKind.wrap_i64]; omega
theorem mul_le {a b : Nat} (ha : a < 4294967296) (hb : b < 4294967296) : a * b ≤ 18446744065119617025 := Nat.mul_le_mul (show a ≤ 4294967295 by omega) (show b ≤ 4294967295 by omega)
/-- A product of two digits and two digits more: no sum wraps. -/
theorem mul_add_fits {a b h c : Nat} (ha : a < 4294967296) (hb : b < 4294967296) (hh : h < 4294967296) (hc : c < 4294967296) :
    ∃ p : Nat, Hid (a * b = p) ∧ p ≤ 18446744065119617025 ∧ IntKind.u64.wrap ((a : Int) * (b : Int)) = (p : Int) ∧ IntKind.u64.wrap ((p : Int) + (h : Int)) = (p : Int) + (h : Int) ∧ IntKind.u64.wrap ((p : Int) + (h : Int) + (c : Int)) = (p : Int) + (h : Int) + (c : Int) := by
  have hp := mul_le ha hb
  refine ⟨a * b, rfl, hp, ?_, ?_, ?_⟩
  · rw [wrap_u64, ← Int.natCast_mul]
    generalize a * b = p at *
    omega
  · rw [wrap_u64]
    generalize a * b = p at *
    omega
  · rw [wrap_u64]
    generalize a * b = p at *
    omega

/-- Digits as cells. -/
def u32s (l : List Nat) : List Value := l.map fun d : Nat => .int .u32 (d : Int)
theorem u32s_length (l : List Nat) : (u32s l).length = l.length := by simp [u32s]

/-- The slice (A, l.length) reads as the digits l. -/
def Rd (w : World) (A : Option Addr) (l : List Nat) : Prop := Sl w A (u32s l)
theorem u32s_append (a b : List Nat) : u32s (a ++ b) = u32s a ++ u32s b := by simp [u32s]
theorem u32s_get {l : List Nat} {k : Nat} (h : k < l.length) : (u32s l)[k]? = some (.int .u32 ((l.getD k 0 : Nat) : Int)) := by simp [u32s, List.getElem?_eq_getElem h]
theorem Rd.below {w w' : World} {A : Option Addr} {l : List Nat} (h : Rd w A l) (hb : Below w.heap.size w w') : Rd w' A l := Sl.below h hb
theorem Rd.at {w : World} {A : Option Addr} {l : List Nat} (h : Rd w A l) {k : Nat} (hk : k < l.length) :
    ∃ a d, A = some a ∧ a.block < w.heap.size ∧ w.cell? (a.add k) = some (.int .u32 ((d : Nat) : Int)) ∧ Hid (l.getD k 0 = d) := by
  obtain ⟨a, e, h1, h2⟩ := h (by rw [u32s_length]; omega)
  refine ⟨a, _, e, h1, ?_, rfl⟩
  rw [h2 k (by rw [u32s_length]; exact hk)]
  simp [u32s, List.getElem?_eq_getElem hk]
theorem World.drewN_drewN' (w : World) (a b : Nat) : (w.drewN a).drewN b = w.drewN (a + b) := World.drewN_drewN w a b
theorem Rd.take {w : World} {A : Option Addr} {l : List Nat} (h : Rd w A l) (k : Nat) : Rd w A (l.take k) := fun hx => by
  rw [u32s_length, List.length_take] at hx
  obtain ⟨a, e, h1, h2⟩ := h (by rw [u32s_length]; omega)
  refine ⟨a, e, h1, fun j hj => ?_⟩
  rw [u32s_length, List.length_take] at hj
  rw [h2 j (by rw [u32s_length]; omega)]
  simp [u32s]

/-- What a slice of digits is, as an argument or a result. -/
structure Nv (w : World) (A : Option Addr) (c : Nat) (l : List Nat) : Prop where
  len : l.length ≤ c
  big : l.length ≤ 70368744177664
  rd : Rd w A l
  dig : Dig l
theorem Nv.below {w w' : World} {A : Option Addr} {c : Nat} {l : List Nat} (h : Nv w A c l) (hb : Below w.heap.size w w') : Nv w' A c l := ⟨h.len, h.big, h.rd.below hb, h.dig⟩
theorem Nv.at {w : World} {A : Option Addr} {c : Nat} {l : List Nat} (h : Nv w A c l) {k : Nat} (hk : k < l.length) :
    ∃ a d, A = some a ∧ a.block < w.heap.size ∧ w.cell? (a.add k) = some (.int .u32 ((d : Nat) : Int)) ∧ d < 4294967296 ∧ Hid (l.getD k 0 = d) := by
  obtain ⟨a, d, h1, h2, h3, h4⟩ := h.rd.at hk
  refine ⟨a, d, h1, h2, h3, ?_, h4⟩
  rw [← h4.out]; exact h.dig.getD k

theorem nv_nil' (w : World) : Nv w none 0 [] := ⟨by simp, by simp, fun hx => by simp [u32s] at hx, Dig.nil⟩
/-- A block of the call's own that holds the digits l and nothing else. -/
def Row (w : World) (g : Nat) (l : List Nat) : Prop := w.heap[g]? = some (.cells (u32s l).toArray 91 (0, 0))
section
variable {w w' : World} {g : Nat} {l : List Nat}
theorem Row.lt (h : Row w g l) : g < w.heap.size := by
  rcases Nat.lt_or_ge g w.heap.size with hlt | hge
  · exact hlt
  · unfold Row at h; rw [Array.getElem?_eq_none hge] at h; cases h
theorem Row.cell (h : Row w g l) {i : Nat} (hi : i < l.length) : w.cell? ⟨g, i, none⟩ = some (.int .u32 ((l.getD i 0 : Nat) : Int)) := by
  unfold Row at h
  simp only [World.cell?, h]
  have := u32s_get hi
  simpa using this
theorem Row.cell' (h : Row w g l) (hd : Dig l) {i : Nat} (hi : i < l.length) : ∃ d, w.cell? ⟨g, i, none⟩ = some (.int .u32 ((d : Nat) : Int)) ∧ d < 4294967296 ∧ Hid (l.getD i 0 = d) :=
  ⟨_, h.cell hi, hd.getD i, rfl⟩
theorem Row.free (h : Row w g l) (i : Nat) : w.frozen? ⟨g, i, none⟩ = false := by
  unfold Row at h
  simp [World.frozen?, h]
theorem Row.set (h : Row w g l) (i d : Nat) : Row (w.setCell ⟨g, i, none⟩ (.int .u32 (d : Int))) g (l.set i d) := by
  unfold Row at h ⊢
  simp [World.setCell, Array.getElem?_modify, h, u32s, List.map_set]
theorem Row.keep (h : Row w g l) {B : Nat} (hb : Below B w w') (hg : g < B) : Row w' g l := (hb.block g hg).trans h
theorem Row.far (h : Row w g l) {p : Addr} (hp : g ≠ p.block) (u : Value) : Row (w.setCell p u) g l := (Below.heap_setCell w p u g hp).trans h
theorem Row.new (w : World) (l : List Nat) : Row (w.alloc (.cells (u32s l).toArray 91)) w.heap.size l := heap_alloc_new w _
theorem Row.eq (h : Row w g l) {l' : List Nat} (e : l = l') : Row w g l' := e ▸ h
theorem set_mid (o : List Nat) (d x : Nat) (z : List Nat) : (o ++ d :: z).set o.length x = o ++ x :: z := by
  induction o with
  | nil => rfl
  | cons y o ih => simp [ih]
/-- The next digit is written: the head of what is left. -/
theorem Row.push {o z : List Nat} {d x k : Nat} (h : Row w g (o ++ d :: z)) (hk : o.length = k) (v : Int) (hv : v = (x : Int)) : Row (w.setCell ⟨g, k, none⟩ (.int .u32 v)) g ((o ++ [x]) ++ z) := by
  subst hv hk
  exact (h.set o.length x).eq (by rw [set_mid]; simp)
theorem rep_succ {n k : Nat} (h : k < n) : List.replicate (n - k) 0 = (0 : Nat) :: List.replicate (n - (k + 1)) 0 := by
  obtain ⟨m, hm⟩ : ∃ m, n - k = m + 1 := ⟨n - k - 1, by omega⟩
  rw [hm, List.replicate_succ, show n - (k + 1) = m by omega]
theorem add_zero_ (g i : Nat) : (⟨g, 0, none⟩ : Addr).add i = ⟨g, i, none⟩ := by unfold Addr.add; split <;> simp_all
theorem Row.rd (h : Row w g l) : Rd w (some ⟨g, 0, none⟩) l := fun hx => by
  refine ⟨_, rfl, h.lt, fun j hj => ?_⟩
  rw [u32s_length] at hj
  rw [add_zero_, h.cell hj]
  have := u32s_get hj
  rw [List.getElem?_eq_getElem (by rw [u32s_length]; exact hj)] at this
  exact this.symm
end

theorem infoU32 : (Try.prog.info? 91).map (fun i => (i.zero, i.size, i.bytes)) = some (some (.int .u32 0), 1, 4) := by kernel_rfl
theorem made_u32 (n : Nat) : madeCells #[.int .u32 0] n = (u32s (List.replicate n 0)).toArray := by
  apply Array.ext'
  rw [toList_madeCells_one]
  simp [u32s]
/-- 'make(api.Nat, n)'. -/
theorem make_u32 (w : World) (n : Nat) (k : IntKind) (L : Int) (hL : L = (n : Int)) (hn : n ≤ 70368744177664) :
    (Instr.makeSlice 48 (.int k L) (.int k L)).run Try.prog w = .ok (.slice (some ⟨w.heap.size, 0, none⟩) n n) (w.alloc (.cells (u32s (List.replicate n 0)).toArray 91)) := by
  obtain ⟨i, hi, hz0, hz1, hz2⟩ := info_parts infoU32
  subst hL
  have hr := run_make (P := Try.prog) w 48 91 i (.int .u32 0) Try.underlying48 hi hz0 k k n n (by omega) (by omega) (by rw [hz2]; omega) (by omega)
  rw [hr, hz1, Nat.mul_one, Int.toNat_natCast, ← made_u32]
  rfl

/-- The address, if there is one, lies in a block of uint32. -/
def U32Blk (w : World) (A : Option Addr) : Prop := ∀ a, A = some a → ∃ cs, w.heap[a.block]? = some (.cells cs 91 (0, 0))
theorem Row.u32 {w : World} {g i : Nat} {l : List Nat} (h : Row w g l) : U32Blk w (some ⟨g, i, none⟩) := fun a e => by
  cases e; exact ⟨_, h⟩
/-- The result of a call that returns the number n, in at most m digits. -/
def RetNat (n m : Nat) (W : World) (e : Ending) (w' : World) : Prop :=
  ∃ A c l, e = .returned (.slice A l.length c) ∧ Nv w' A c l ∧ NatIs l n ∧ l.length ≤ m ∧ Below W.heap.size W w'
end Go.Proofs.Ytkjmliebkbbogaa
