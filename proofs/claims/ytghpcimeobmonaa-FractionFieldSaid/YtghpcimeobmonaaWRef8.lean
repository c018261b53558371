/- The reference's small, Format: what the calls do. -/
import Derived.Test.YtghpcimeobmonaaWRef7
import Derived.Test.YtghpcimeobmonaaWFormat
namespace Go.Proofs.Ytghpcimeobmonaa
set_option linter.unusedVariables false
set_option linter.unusedSimpArgs false
open Go.RowKit Plain

/-- The result of the reference's division by ten. -/
def RetTen (n k : Nat) (W : World) (e : Ending) (w' : World) : Prop :=
  ∃ A c l, e = .returned (.tuple #[.slice A l.length c, .int .u64 ((n % 10 : Nat) : Int)]) ∧ Nv w' A c l ∧ NatIs l (n / 10) ∧ l.length ≤ k ∧ Below W.heap.size W w'

theorem nv_row' {w : World} {g n : Nat} {l : List Nat} (h : Row w g l) (hn : l.length = n) (hd : Dig l) (hb : n ≤ 5000000000) : Nv w (some ⟨g, 0, none⟩) n l := ⟨by omega, by omega, h.rd, hd⟩
theorem refTrim_any' {A : Option Addr} {c n : Nat} {l : List Nat} {w : World} (h : Nv w A c l) (hn : l.length = n) (hl : n ≤ 50000000000) :
    Calls Try.prog 84 #[.slice A n c] w (RetNat (val l) n w) := by
  subst hn; exact refTrim_any h hl
def RSmInv (la : List Nat) (w : World) (g : Nat) (c i : Value) (wr : World) : Prop :=
  ∃ (j k r : Nat) (hi : List Nat), j + k = la.length ∧ i = .int .i64 ((j : Int) - 1) ∧ c = .int .u64 (r : Int) ∧ r < 10 ∧ Hid (hi.length = k) ∧ Dig hi ∧
    Row wr g (List.replicate (la.length - k) 0 ++ hi) ∧ Hid (val (la.drop (la.length - k)) = val hi * 10 + r) ∧ Below w.heap.size w wr

theorem rsm_step {la : List Nat} {j k r da : Nat} {hi : List Nat} {w wr : World} (hjk : j + 1 + k = la.length) (hr : r < 10) (hhi : Hid (hi.length = k)) (hhd : Dig hi) (hda : da < 4294967296)
    (hga : Hid (la.getD j 0 = da)) (hrow : Row wr w.heap.size (List.replicate (la.length - k) 0 ++ hi)) (hval : Hid (val (la.drop (la.length - k)) = val hi * 10 + r)) (hbel : Below w.heap.size w wr) :
    RSmInv la w w.heap.size (.int .u64 (((r : Int) * 4294967296 + (da : Int)) % 10)) (.int .i64 ((j : Int) - 1)) (wr.setCell ⟨w.heap.size, j, none⟩ (.int .u32 (((r : Int) * 4294967296 + (da : Int)) / 10))) := by
  have hix : la.length - 1 - k = j := by omega
  have hstep := small_step (la := la) (d := 10) (k := k) (r := r) (da := da) (hi := hi) (w := w) (wr := wr) (g := w.heap.size) (by omega) hr (by omega) hhi hhd hda (by rw [hix]; exact hga) hrow hval hbel
    (((r : Int) * 4294967296 + (da : Int)) / 10) (((r : Int) * 4294967296 + (da : Int)) % 10) ((k : Int) + 1) (by rw [Int.mul_comm (r : Int), Int.add_comm]; simp only [Int.cast_ofNat_Int]; omega) (by rw [Int.mul_comm (r : Int), Int.add_comm]; rfl) rfl (Nat.le_refl _) 0
  rw [hix] at hstep
  obtain ⟨k', r', hi', h1, h2, h3, h4, h5, h6, h7, h8, h9⟩ := hstep
  injection h2 with h2a h2
  have hk' : k' = k + 1 := by omega
  subst hk'
  exact ⟨j, k + 1, r', hi', by omega, rfl, h3, h4, h5, h6, h7, h8, h9⟩

set_option maxRecDepth 100000 in
set_option maxHeartbeats 1000000 in
theorem refSmall_any {A : Option Addr} {ca : Nat} {la : List Nat} {w : World} (ha : Nv w A ca la) (hna : la.length ≤ 5000000000) :
    Calls Try.prog 81 #[.slice A la.length ca, .int .u64 10] w (RetTen (val la) la.length w) := by
  have hmk := make_u32 w la.length .i64 (la.length : Int) (by omega) (by omega)
  go_enter Try.func81, Try.ntmps81
  go_wp2
  go_loopw [7, 8] (fun c i wr => RSmInv la w w.heap.size c i wr) (fun _ i _ => (intOf i + 1).toNat)
  case atStart => exact ⟨la.length, 0, 0, [], by omega, rfl, rfl, by omega, rfl, Dig.nil, (Row.new _ _).eq (by simp), by show val _ = _; simp [val], (Below.refl _ _).alloc (Nat.le_refl _) _⟩
  case round =>
    obtain ⟨j, k, r, hi, hjk, rfl, rfl, hr, hhi, hhd, hrow, hval, hbel⟩ := hrel
    rcases j with _ | j
    · obtain rfl : k = la.length := by omega
      have hrow2 : Row wr w.heap.size hi := hrow.eq (by simp)
      have hfin := Lib.hid (small_last hr hval)
      have hd0 : decide ((0 : Int) ≤ ((0 : Nat) : Int) - 1) = false := by decide
      have hnv := nv_row' hrow2 hhi.out hhd (by omega)
      have hv := Lib.hid (hfin.out.1)
      go_wp2_with fail
      refine (refTrim_any' hnv hhi.out (by omega)).mono ?_
      rintro e w2 ⟨A1, c1, l', rfl, h3, h4, h5, h6⟩
      go_wp2
      go_ret2
      refine ⟨_, _, l', ?_, h3, hv.out ▸ h4, by omega, hbel.trans (h6.mono hbel.size)⟩
      rw [hfin.out.2]; rfl
    · have hj : ((j + 1 : Nat) : Int) - 1 = (j : Int) := by omega
      have hd0 : decide ((0 : Int) ≤ (j : Int)) = true := decide_eq_true (by omega)
      have hix : la.length - 1 - k = j := by omega
      obtain ⟨a, da, rfl, hab, hac, hda, hga⟩ := (ha.below hbel).at (k := j) (by omega)
      have hf := hrow.free j
      obtain ⟨d0, hc0, _, _⟩ := hrow.cell' (i := j) ((Dig.replicate _).append hhd) (by rw [List.length_append, List.length_replicate, hhi.out]; omega)
      have hlt2 : j < la.length := by omega
      have hstep := Lib.hid (rsm_step hjk hr hhi hhd hda hga hrow hval hbel)
      clear hjk
      rw [hj]
      go_wp2
      go_roundw
      case rel => exact hstep.out
      case measure => simp [intOf]

theorem strOf_append (a b : List Nat) : strOf (a ++ b) = strOf a ++ strOf b := by
  apply byteArray_ext
  unfold bytes strOf
  simp [strOfNums_data, ByteArray.data_append]
def fmtS (bk : List Nat) : ByteArray := strOf (asc bk).reverse
theorem fmtS_cons (bk : List Nat) (r : Nat) : fmtS (bk ++ [r]) = strOf [48 + r] ++ fmtS bk := by
  unfold fmtS
  rw [asc_append, List.reverse_append, ← strOf_append]; rfl

theorem fo_step {n x r : Nat} {bk : List Nat} (hr : x % 10 = r) (h : decR n = bk ++ decR x ∧ (x = 0 → n = 0 ∧ bk = [])) : decR n = (bk ++ [r]) ++ decR (x / 10) ∨ (x = 0 ∧ n = 0 ∧ bk = [] ∧ r = 0) := by
  by_cases hx : x = 0
  · exact .inr ⟨hx, (h.2 hx).1, (h.2 hx).2, by subst hx; simpa using hr.symm⟩
  · left
    rw [h.1, decR_pos hx, hr]; simp
theorem fo_last {n x r : Nat} {bk : List Nat} (hx : x / 10 = 0) (h : decR n = (bk ++ [r]) ++ decR (x / 10) ∨ (x = 0 ∧ n = 0 ∧ bk = [] ∧ r = 0)) (hr : x % 10 = r) : fmtS (bk ++ [r]) = strOf (decs n) := by
  rcases h with h | ⟨_, rfl, rfl, rfl⟩
  · rw [hx, decR_zero, List.append_nil] at h
    have hn : n ≠ 0 := by
      rintro rfl
      rw [decR_zero] at h
      simp at h
    unfold fmtS decs
    rw [if_neg hn, h]
    unfold asc
    rw [List.map_reverse]
  · rfl
theorem fo_more {n x r : Nat} {bk : List Nat} (hx : x / 10 ≠ 0) (h : decR n = (bk ++ [r]) ++ decR (x / 10) ∨ (x = 0 ∧ n = 0 ∧ bk = [] ∧ r = 0)) : decR n = (bk ++ [r]) ++ decR (x / 10) ∧ (x / 10 = 0 → n = 0 ∧ bk ++ [r] = []) := by
  rcases h with h | ⟨rfl, _⟩
  · exact ⟨h, fun e => absurd e hx⟩
  · exact absurd rfl hx
def RFoInv (n : Nat) (w : World) (g : Nat) (a s b : Value) (wr : World) : Prop :=
  ∃ (A : Option Addr) (c : Nat) (l bk : List Nat) (x : Nat) (bb : Bool), a = .slice A l.length c ∧ Nv wr A c l ∧ Hid (NatIs l x) ∧ l.length ≤ 10000 ∧ b = .bool bb ∧ g = (if bb = true then x + 1 else 0) ∧ s = .string (fmtS bk) ∧
    Hid (bb = true → decR n = bk ++ decR x ∧ (x = 0 → n = 0 ∧ bk = [])) ∧ Hid (bb = false → fmtS bk = strOf (decs n)) ∧ Below w.heap.size w wr

set_option maxRecDepth 100000 in
set_option maxHeartbeats 1000000 in
theorem refFormat_any {A : Option Addr} {ca : Nat} {la : List Nat} {w : World} (ha : Nv w A ca la) (hc : Canon la) (hna : la.length ≤ 10000) :
    Calls Try.prog 55 #[.slice A la.length ca] w fun e w' => e = .returned (.string (strOf (decs (val la)))) ∧ Below w.heap.size w w' := by
  have ia : NatIs la (val la) := ⟨ha.dig, hc, rfl⟩
  obtain ⟨n, hn⟩ : ∃ n, Hid (val la = n) := ⟨_, rfl⟩
  rw [hn.out] at ia
  rw [hn.out]
  have hlen := Lib.hid (show (decR n).length ≤ 5000000000 by
    have := decR_len (n := n) (k := la.length) (by rw [← ia.val]; exact val_lt ha.dig)
    omega)
  go_enter Try.func55, Try.ntmps55
  go_wp2
  go_loopg [0, 3, 4] (n + 1) (fun g a s b wr => RFoInv n w g a s b wr)
  case atStart => exact ⟨A, ca, la, [], n, true, rfl, ha, ia, hna, rfl, rfl, rfl, fun _ => ⟨rfl, fun h => ⟨h, rfl⟩⟩, (fun h => by cases h), Below.refl _ _⟩
  case round =>
    obtain ⟨A, c, l, bk, x, bb, rfl, hl, nl, hl4, rfl, rfl, rfl, h1, h2, hbel⟩ := hrel
    rcases bb with _ | _
    · have hf := Lib.hid (h2.out rfl)
      go_wp2
      go_ret
      refine ⟨?_, hbel⟩
      rw [← hf.out]; rfl
    · have h1' := Lib.hid (h1.out rfl)
      clear h1 h2
      go_wp2_with fail
      refine (refSmall_any hl (by omega)).mono ?_
      rintro e w2 ⟨A2, c2, q, rfl, hq, nq, hql, hb2⟩
      have nq' := Lib.hid (show NatIs q (x / 10) by have h := nq; rw [nl.out.val] at h; exact h)
      rw [nl.out.val]
      obtain ⟨r, hr⟩ : ∃ r, Hid (x % 10 = r) := ⟨_, rfl⟩
      rw [hr.out]
      have hrb : r < 10 := hr.out ▸ Nat.mod_lt _ (by omega)
      have hbel2 := hbel.trans (hb2.mono hbel.size)
      have hcs : (#[Value.int .u8 (48 + (r : Int))] : Array Value) = (u8s [48 + r]).toArray := by simp [u8s]
      have hrd := (rowB_alloc w2 hcs).rd
      clear hcs nq hb2
      have hcv := conv_bytes (w2.alloc (.cells #[Value.int .u8 (48 + (r : Int))] 5)) (some ⟨w2.heap.size, 0, none⟩) 1 1 [48 + r] hrd rfl
      have hs1 : (strOf [48 + r]).size = 1 := by rw [strOf_size]; rfl
      have hs2 : (fmtS bk).size ≤ 5000000000 := by
        unfold fmtS
        rw [strOf_size, List.length_reverse, asc_length]
        have h := hlen.out
        rw [h1'.out.1, List.length_append] at h
        omega
      have hcons := Lib.hid (fmtS_cons bk r)
      have hstep := Lib.hid (show decR n = (bk ++ [r]) ++ decR (x / 10) ∨ (x = 0 ∧ n = 0 ∧ bk = [] ∧ r = 0) from fo_step hr.out h1'.out)
      by_cases hq0 : q.length = 0
      · have hx10 := Lib.hid (show x / 10 = 0 from nq'.out.zero_iff.1 (List.eq_nil_of_length_eq_zero hq0))
        have hqd : decide (0 < q.length) = false := decide_eq_false (by omega)
        clear hq0
        go_wp2
        go_roundg 0
        case measure => simp
        case rel => exact ⟨A2, c2, q, bk ++ [r], x / 10, false, rfl, hq.below (by exact (Below.refl _ _).alloc (Nat.le_refl _) _), nq', by omega, rfl, rfl, by rw [hcons.out], (fun h => by cases h), fun _ => fo_last hx10.out hstep.out hr.out, hbel2.alloc hbel2.size _⟩
      · have hx10 := Lib.hid (show x / 10 ≠ 0 from fun e => hq0 (by rw [nq'.out.zero_iff.2 e]; rfl))
        have hqd : decide (0 < q.length) = true := decide_eq_true (by omega)
        clear hq0
        go_wp2
        go_roundg (x / 10 + 1)
        case measure => have := hx10.out; simp; omega
        case rel => exact ⟨A2, c2, q, bk ++ [r], x / 10, true, rfl, hq.below (by exact (Below.refl _ _).alloc (Nat.le_refl _) _), nq', by omega, rfl, rfl, by rw [hcons.out], (fun _ => fo_more hx10.out hstep.out), (fun h => by cases h), hbel2.alloc hbel2.size _⟩
end Go.Proofs.Ytghpcimeobmonaa
