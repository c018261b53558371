/- natural.Format: what the call does. -/
import Derived.Test.YtkjmliebkbbogaaAppB
import Derived.Test.YtkjmliebkbbogaaWSmall
import Derived.Test.YtkjmliebkbbogaaPLp
import Derived.Test.YtkjmliebkbbogaaWRef7
import Derived.Deep.RegionHeld3
import Derived.Deep.DrawnRows
namespace Go.Proofs.Ytkjmliebkbbogaa
set_option linter.unusedVariables false
set_option linter.unusedSimpArgs false
open Go.RowKit Plain

def asc (l : List Nat) : List Nat := l.map (48 + ·)
theorem asc_append (a b : List Nat) : asc (a ++ b) = asc a ++ asc b := by simp [asc]
theorem asc_length (a : List Nat) : (asc a).length = a.length := by simp [asc]
def ForInv (n N : Nat) (w : World) (g : Nat) (a v : Value) (wr : World) : Prop :=
  ∃ (A : Option Addr) (c : Nat) (l bk : List Nat) (x : Nat), a = .slice A l.length c ∧ Nv wr A c l ∧ NatIs l x ∧ l.length ≤ 10000 ∧ g = x ∧ OwnB wr w.heap.size v (asc bk) ∧ Hid (decR n = bk ++ decR x) ∧ bk.length ≤ N ∧ Below w.heap.size w wr
def ForInv2 (n q : Nat) (A : Option Addr) (c : Nat) (l : List Nat) (w : World) (v r i : Value) (wr : World) : Prop :=
  ∃ (k rv : Nat) (bk : List Nat), k ≤ 9 ∧ i = .int .i64 (k : Int) ∧ r = .int .u32 (rv : Int) ∧ Hid (rv < 10 ^ (9 - k)) ∧ OwnB wr w.heap.size v (asc bk) ∧ Hid (decR n = bk ++ decR (q * 10 ^ (9 - k) + rv)) ∧ Nv wr A c l ∧ (0 < l.length → U32Blk wr A) ∧ Below w.heap.size w wr

theorem for_len {n N : Nat} {bk t : List Nat} (h : decR n = bk ++ t) (hN : (decR n).length ≤ N) : bk.length ≤ N := by
  rw [h, List.length_append] at hN; omega

theorem for_keep {w w' : World} {A : Option Addr} {c base : Nat} {q l : List Nat} {v : Value} {ob : Obj} (h : Nv w A c q) (hu : 0 < q.length → U32Blk w A) (hb : OwnB w base v l) (hg : (w.alloc ob).grownBy w' v.ownBlock) : Nv w' A c q := by
  rcases Nat.eq_zero_or_pos q.length with h0 | h0
  · exact ⟨h.len, h.big, fun hx => by rw [u32s_length] at hx; omega, h.dig⟩
  · exact (nv_besides h (hu h0) hb hg).1
theorem for_keep' {w w' : World} {A : Option Addr} {c base : Nat} {q l : List Nat} {v : Value} {ob : Obj} (h : Nv w A c q) (hu : 0 < q.length → U32Blk w A) (hb : OwnB w base v l) (hg : (w.alloc ob).grownBy w' v.ownBlock) : 0 < q.length → U32Blk w' A :=
  fun h0 => (nv_besides h (hu h0) hb hg).2 h0
theorem rev_take (l : List Nat) (k m d : Nat) (hl : l.length = m) (hk : k < m) (hd : l.getD (m - 1 - k) 0 = d) : l.reverse.take k ++ [d] = l.reverse.take (k + 1) := by
  rw [take_snoc' l.reverse k (by rw [List.length_reverse]; omega)]
  congr 2
  rw [← hd, List.getD_eq_getElem?_getD, List.getD_eq_getElem?_getD, List.getElem?_reverse (by omega), hl]
def RevInv (l : List Nat) (m : Nat) (w : World) (v i : Value) (wr : World) : Prop :=
  ∃ k : Nat, k ≤ m ∧ i = .int .i64 (k : Int) ∧ OwnB wr w.heap.size v (l.reverse.take k) ∧ Below w.heap.size w wr

end Go.Proofs.Ytkjmliebkbbogaa
/- The reference's small, Format: what the calls do. -/
namespace Go.Proofs.Ytkjmliebkbbogaa
set_option linter.unusedVariables false
set_option linter.unusedSimpArgs false
open Go.RowKit Plain

/-- The result of the reference's division by ten. -/
def RetTen (n k : Nat) (W : World) (e : Ending) (w' : World) : Prop :=
  ∃ A c l, e = .returned (.tuple #[.slice A l.length c, .int .u64 ((n % 10 : Nat) : Int)]) ∧ Nv w' A c l ∧ NatIs l (n / 10) ∧ l.length ≤ k ∧ Below W.heap.size W w'

theorem nv_row' {w : World} {g n : Nat} {l : List Nat} (h : Row w g l) (hn : l.length = n) (hd : Dig l) (hb : n ≤ 5000000000) : Nv w (some ⟨g, 0, none⟩) n l := ⟨by omega, by omega, h.rd, hd⟩
theorem refTrim_any' {A : Option Addr} {c n : Nat} {l : List Nat} {w : World} (h : Nv w A c l) (hn : l.length = n) (hl : n ≤ 50000000000) :
    Calls Try.prog 78 #[.slice A n c] w (RetNat (val l) n w) := by
  subst hn; exact refTrim_any h hl
def RSmInv (la : List Nat) (w : World) (g : Nat) (c i : Value) (wr : World) : Prop :=
  ∃ (j k r : Nat) (hi : List Nat), j + k = la.length ∧ i = .int .i64 ((j : Int) - 1) ∧ c = .int .u64 (r : Int) ∧ r < 10 ∧ Hid (hi.length = k) ∧ Dig hi ∧
    Row wr g (List.replicate (la.length - k) 0 ++ hi) ∧ Hid (val (la.drop (la.length - k)) = val hi * 10 + r) ∧ Below w.heap.size w wr

theorem rsm_step {la : List Nat} {j k r da : Nat} {hi : List Nat} {w wr : World} (hjk : j + 1 + k = la.length) (hr : r < 10) (hhi : Hid (hi.length = k)) (hhd : Dig hi) (hda : da < 4294967296)
    (hga : Hid (la.getD j 0 = da)) (hrow : Row wr w.heap.size (List.replicate (la.length - k) 0 ++ hi)) (hval : Hid (val (la.drop (la.length - k)) = val hi * 10 + r)) (hbel : Below w.heap.size w wr) :
    RSmInv la w w.heap.size (.int .u64 (((r : Int) * 4294967296 + (da : Int)) % 10)) (.int .i64 ((j : Int) - 1)) (wr.setCell ⟨w.heap.size, j, none⟩ (.int .u32 (((r : Int) * 4294967296 + (da : Int)) / 10))) := by
  have hix : la.length - 1 - k = j := by omega
  have hstep := small_step (la := la) (d := 10) (k := k) (r := r) (da := da) (hi := hi) (w := w) (wr := wr) (g := w.heap.size) (by omega) hr (by omega) hhi hhd hda (by rw [hix]; exact hga) hrow hval hbel
    (((r : Int) * 4294967296 + (da : Int)) / 10) (((r : Int) * 4294967296 + (da : Int)) % 10) ((k : Int) + 1) (by rw [Int.mul_comm (r : Int), Int.add_comm]; simp only [Int.cast_ofNat_Int]; omega) (by rw [Int.mul_comm (r : Int), Int.add_comm]; rfl) rfl (Nat.le_refl _) 0
  rw [hix] at hstep
  obtain ⟨k', r', hi', h1, h2, h3, h4, h5, h6, h7, h8, h9⟩ := hstep
  injection h2 with h2a h2
  have hk' : k' = k + 1 := by omega
  subst hk'
  exact ⟨j, k + 1, r', hi', by omega, rfl, h3, h4, h5, h6, h7, h8, h9⟩

theorem strOf_append (a b : List Nat) : strOf (a ++ b) = strOf a ++ strOf b := by
  apply byteArray_ext
  unfold bytes strOf
  simp [strOfNums_data, ByteArray.data_append]
def fmtS (bk : List Nat) : ByteArray := strOf (asc bk).reverse
theorem fmtS_cons (bk : List Nat) (r : Nat) : fmtS (bk ++ [r]) = strOf [48 + r] ++ fmtS bk := by
  unfold fmtS
  rw [asc_append, List.reverse_append, ← strOf_append]; rfl

theorem fo_step {n x r : Nat} {bk : List Nat} (hr : x % 10 = r) (h : decR n = bk ++ decR x ∧ (x = 0 → n = 0 ∧ bk = [])) : decR n = (bk ++ [r]) ++ decR (x / 10) ∨ (x = 0 ∧ n = 0 ∧ bk = [] ∧ r = 0) := by
  by_cases hx : x = 0
  · exact .inr ⟨hx, (h.2 hx).1, (h.2 hx).2, by subst hx; simpa using hr.symm⟩
  · left
    rw [h.1, decR_pos hx, hr]; simp
theorem fo_last {n x r : Nat} {bk : List Nat} (hx : x / 10 = 0) (h : decR n = (bk ++ [r]) ++ decR (x / 10) ∨ (x = 0 ∧ n = 0 ∧ bk = [] ∧ r = 0)) (hr : x % 10 = r) : fmtS (bk ++ [r]) = strOf (decs n) := by
  rcases h with h | ⟨_, rfl, rfl, rfl⟩
  · rw [hx, decR_zero, List.append_nil] at h
    have hn : n ≠ 0 := by
      rintro rfl
      rw [decR_zero] at h
      simp at h
    unfold fmtS decs
    rw [if_neg hn, h]
    unfold asc
    rw [List.map_reverse]
  · rfl
theorem fo_more {n x r : Nat} {bk : List Nat} (hx : x / 10 ≠ 0) (h : decR n = (bk ++ [r]) ++ decR (x / 10) ∨ (x = 0 ∧ n = 0 ∧ bk = [] ∧ r = 0)) : decR n = (bk ++ [r]) ++ decR (x / 10) ∧ (x / 10 = 0 → n = 0 ∧ bk ++ [r] = []) := by
  rcases h with h | ⟨rfl, _⟩
  · exact ⟨h, fun e => absurd e hx⟩
  · exact absurd rfl hx
def RFoInv (n : Nat) (w : World) (g : Nat) (a s b : Value) (wr : World) : Prop :=
  ∃ (A : Option Addr) (c : Nat) (l bk : List Nat) (x : Nat) (bb : Bool), a = .slice A l.length c ∧ Nv wr A c l ∧ Hid (NatIs l x) ∧ l.length ≤ 10000 ∧ b = .bool bb ∧ g = (if bb = true then x + 1 else 0) ∧ s = .string (fmtS bk) ∧
    Hid (bb = true → decR n = bk ++ decR x ∧ (x = 0 → n = 0 ∧ bk = [])) ∧ Hid (bb = false → fmtS bk = strOf (decs n)) ∧ Below w.heap.size w wr

end Go.Proofs.Ytkjmliebkbbogaa
/- The reference's Parse: what the call does. -/
namespace Go.Proofs.Ytkjmliebkbbogaa
set_option linter.unusedVariables false
set_option linter.unusedSimpArgs false
open Go.RowKit Plain
attribute [local go_sem ↓] Go.wp_at_zero Go.wp_at_succ

theorem retPar_errB {l : List Nat} {w W : World} {n : Nat} (h : parErr l = n) (h0 : n ≠ 0) (v : Value) (hv : v = .tuple #[.slice none 0 0, .int .i64 (n : Int)]) (hb : Below W.heap.size W w) : RetPar l W (.returned v) w :=
  ⟨none, 0, [], by rw [hv, h]; rfl, nv_nil' _, by unfold parVal; rw [if_neg (by rw [h]; exact h0)]; exact NatIs.nil, by simp, hb⟩
theorem decVal_take (l : List Nat) (k : Nat) (hk : k < l.length) : decVal (l.take (k + 1)) = 10 * decVal (l.take k) + (l.getD k 0 - 48) := by rw [take_snoc' l k hk, decVal_snoc]
theorem decVal_lt10 : ∀ (k : Nat) (l : List Nat), l.length = k → l.all isDec = true → decVal l < 10 ^ k
  | 0, l, h, _ => by rw [List.eq_nil_of_length_eq_zero h]; decide
  | k + 1, l, h, ha => by
    have h1 := decVal_take l k (by omega)
    rw [List.take_of_length_le (by omega)] at h1
    have h2 := decVal_lt10 k (l.take k) (by rw [List.length_take]; omega) (by
      rw [List.all_eq_true] at ha ⊢
      exact fun x hx => ha x (List.mem_of_mem_take hx))
    have h3 := all_get l k (by omega) ha
    rw [Nat.pow_succ, h1]
    omega
theorem ten_le_pw (k : Nat) : 10 ^ k ≤ pw k := by
  induction k with
  | zero => simp [pw]
  | succ k ih => rw [Nat.pow_succ, pw]; omega
theorem dec_len {l t : List Nat} {k : Nat} (h : NatIs l (decVal t)) (ht : t.length = k) (ha : t.all isDec = true) : l.length ≤ k :=
  length_le_of_lt h.canon (by rw [h.val]; exact Nat.lt_of_lt_of_le (decVal_lt10 k t ht ha) (ten_le_pw k))
theorem refFromUint_val (x : Nat) (n : Int) (w : World) (hn : n = (x : Int)) (hx : x < pw 2) : Calls Try.prog 86 #[.int .u64 n] w (RetNat x 2 w) := by
  subst hn; exact refFromUint_any x w hx
theorem refScale10 (A : Option Addr) (ca : Nat) (la : List Nat) (w : World) (ha : Nv w A ca la) (hna : la.length ≤ 5000000000) :
    Calls Try.prog 74 #[.slice A la.length ca, .int .u64 10] w (RetNat (val la * 10) (la.length + 1) w) := refScale_any A ca 10 la w ha hna (by decide)
def RPaInv (l : List Nat) (w : World) (v i : Value) (wr : World) : Prop :=
  ∃ (k c : Nat) (A : Option Addr) (r : List Nat), k ≤ l.length ∧ i = .int .i64 (k : Int) ∧ v = .slice A r.length c ∧ Nv wr A c r ∧ Hid (NatIs r (decVal (l.take k))) ∧ r.length ≤ k ∧ Hid ((l.take k).all isDec = true) ∧
    Hid (0 < k → ¬ (l.getD 0 0 = 48 ∧ 1 < l.length)) ∧ Below w.heap.size w wr

end Go.Proofs.Ytkjmliebkbbogaa
