/- natural.Valid, FromUint, Uint, Cmp: what each call does. -/
import Derived.Test.YtghpcimeobmonaaWTrim
namespace Go.Proofs.Ytghpcimeobmonaa
set_option linter.unusedVariables false
set_option linter.unusedSimpArgs false
open Go.RowKit Plain

theorem trim_nv {A : Option Addr} {c : Nat} {l : List Nat} {w : World} (h : Nv w A c l) :
    Calls Try.prog 76 #[.slice A l.length c] w fun e w' => ∃ l', e = .returned (.slice A l'.length l'.length) ∧ Nv w A l'.length l' ∧ NatIs l' (val l) ∧ l'.length ≤ l.length ∧ w = w' := by
  refine (trim_any _ _ _ _ h.rd h.len h.big).mono ?_
  rintro e w' ⟨rfl, rfl⟩
  have hle := trimN_le l l.length
  refine ⟨trimL l, ?_, ⟨Nat.le_refl _, by rw [trimL_length]; have := h.big; omega, h.rd.take _, h.dig.trimL⟩, natIs_trimL h.dig, by rw [trimL_length]; exact hle, rfl⟩
  rw [trimL_length]

def validL (l : List Nat) : Bool := decide (trimN l l.length = l.length)
set_option maxRecDepth 100000 in
set_option maxHeartbeats 400000 in
theorem valid_any {A : Option Addr} {c : Nat} {l : List Nat} {w : World} (h : Nv w A c l) :
    Calls Try.prog 72 #[.slice A l.length c] w fun e w' => e = .returned (.bool (validL l)) ∧ w = w' := by
  have hb := h.big
  have hle := trimN_le l l.length
  go_enter Try.func72, Try.ntmps72
  go_wp2_with fail
  refine (trim_any _ _ _ _ h.rd h.len h.big).mono ?_
  rintro e w' ⟨rfl, rfl⟩
  go_wp2
  go_ret
  refine ⟨?_, rfl⟩
  unfold validL
  show Ending.returned (.bool ((trimN l l.length : Int) == (l.length : Int))) = _
  congr 2
  rw [Bool.eq_iff_iff]
  simp only [beq_iff_eq, decide_eq_true_eq]
  omega

theorem below_drewN {B : Nat} {a w : World} (h : Below B a w) (n : Nat) : Below B a (w.drewN n) := ⟨h.os, h.tape, h.output, h.size, h.block⟩

theorem row_alloc (w : World) {cs : Array Value} {l : List Nat} (e : cs = (u32s l).toArray) : Row (w.alloc (.cells cs 62)) w.heap.size l := by
  subst e; exact Row.new w l
theorem row_of {w : World} {g : Nat} {cs : Array Value} {l : List Nat} (h : w.heap[g]? = some (.cells cs 62 (0, 0))) (e : cs = (u32s l).toArray) : Row w g l := by
  subst e; exact h

theorem val_two (x : Nat) (hx : x < pw 2) : val [x % 4294967296, x / 4294967296 % 4294967296] = x := by
  simp only [val, pw] at *
  omega

set_option maxRecDepth 100000 in
set_option maxHeartbeats 400000 in
theorem fromUint_any (x : Nat) (w : World) (hx : x < pw 2) :
    Calls Try.prog 50 #[.int .u64 (x : Int)] w (RetNat x 2 w) := by
  have hrow := row_alloc w (cs := #[Value.int IntKind.u32 ((x : Int) % 4294967296), Value.int IntKind.u32 ((x : Int) / 4294967296 % 4294967296)]) (l := [x % 4294967296, x / 4294967296 % 4294967296]) (by simp [u32s])
  have hd : Dig [x % 4294967296, x / 4294967296 % 4294967296] := Dig.cons (by omega) (Dig.cons (by omega) Dig.nil)
  have hv := Lib.hid (val_two x hx)
  clear hx
  go_enter Try.func50, Try.ntmps50
  go_wp2_with fail
  refine (trim_row hrow rfl hd (by simp)).mono ?_
  rintro e w' ⟨l', rfl, h1, h2, h3, rfl⟩
  go_wp2
  go_ret
  exact ⟨_, _, _, rfl, h1, hv.out ▸ h2, h3, (Below.refl _ _).alloc (Nat.le_refl _) _⟩

def uintOf (n : Nat) : Nat := if n < pw 2 then n else 0
def isUint (n : Nat) : Bool := decide (n < pw 2)
theorem uint_small {l : List Nat} (hd : Dig l) (h : l.length ≤ 2) : uintOf (val l) = val l ∧ isUint (val l) = true := by
  have : val l < pw 2 := Nat.lt_of_lt_of_le (val_lt hd) (pw_mono h)
  exact ⟨if_pos this, decide_eq_true this⟩
theorem uint_big {l : List Nat} (hc : Canon l) (h : 2 < l.length) : uintOf (val l) = 0 ∧ isUint (val l) = false := by
  have h1 := canon_ge hc (by intro e; subst e; simp at h)
  have h2 := pw_mono (show 2 ≤ l.length - 1 by omega)
  have : ¬ val l < pw 2 := by omega
  exact ⟨if_neg this, decide_eq_false this⟩

theorem or_join (d0 d1 : Nat) (h0 : d0 < 4294967296) (h1 : d1 < 4294967296) : bits .or .u64 ((d1 : Int) * 4294967296) (d0 : Int) = ((d0 + 4294967296 * d1 : Nat) : Int) := by
  have := u64_or_nat (d1 * 4294967296) d0 (by omega) (by omega)
  rw [nat_join 32 _ _ (by simp) (by simpa using h0)] at this
  rw [show ((d1 : Int) * 4294967296) = ((d1 * 4294967296 : Nat) : Int) by omega, this]
  omega

set_option maxRecDepth 100000 in
set_option maxHeartbeats 400000 in
theorem uint_any {A : Option Addr} {c : Nat} {l : List Nat} {w : World} (h : Nv w A c l) :
    Calls Try.prog 89 #[.slice A l.length c] w fun e w' => e = .returned (.tuple #[.int .u64 ((uintOf (val l) : Nat) : Int), .bool (isUint (val l))]) ∧ Below w.heap.size w w' := by
  go_enter Try.func89, Try.ntmps89
  go_wp2_with fail
  refine (trim_nv h).mono ?_
  rintro e w' ⟨l', rfl, h1, h2, h3, rfl⟩
  have hv := Lib.hid h2.val
  have hc := h2.canon
  clear h2 h3
  rcases l' with _ | ⟨d0, _ | ⟨d1, _ | ⟨d2, t⟩⟩⟩
  · have hu := Lib.hid (uint_small h1.dig (by simp))
    go_wp2
    go_ret2
    rw [← hv.out, hu.out.1, hu.out.2]
    exact ⟨rfl, Below.refl _ _⟩
  · have hu := Lib.hid (uint_small h1.dig (by simp))
    obtain ⟨a, d, rfl, hab, hac, hda, hga⟩ := h1.at (k := 0) (by simp)
    have hac' := cell0 hac
    go_wp2
    go_ret2
    rw [← hv.out, hu.out.1, hu.out.2]
    have := hga.out
    simp only [List.getD_cons_zero] at this
    subst this
    exact ⟨by simp [val], Below.refl _ _⟩
  · have hu := Lib.hid (uint_small h1.dig (by simp))
    obtain ⟨a, e0, rfl, hab, hac, hda, hga⟩ := h1.at (k := 0) (by simp)
    obtain ⟨b, e1, hb, hbb, hbc, hdb, hgb⟩ := h1.at (k := 1) (by simp)
    cases hb
    have hac' := cell0 hac
    have hbc' := cellK hbc (by omega)
    have hor := or_join e0 e1 hda hdb
    go_wp2
    go_quiet (fail)
    go_wp2
    go_ret2
    rw [← hv.out, hu.out.1, hu.out.2]
    have e0' := hga.out
    have e1' := hgb.out
    simp only [List.getD_cons_zero, List.getD_cons_succ] at e0' e1'
    subst e0' e1'
    exact ⟨by simp [val], below_drewN (Below.refl _ _) _⟩
  · have hu := Lib.hid (uint_big hc (by simp))
    go_wp2
    go_ret2
    rw [← hv.out, hu.out.1, hu.out.2]
    exact ⟨rfl, Below.refl _ _⟩

theorem cmp_at_lt {l1 l2 : List Nat} {m n j j1 : Nat} (n1 : NatIs l1 m) (n2 : NatIs l2 n) (h1 : j < l1.length) (h2 : j < l2.length) (hj : j1 = j + 1) (hd : Hid (l1.drop j1 = l2.drop j1)) (h : l1.getD j 0 < l2.getD j 0) : cmpI m n = -1 := by
  subst hj
  exact cmpI_lt (by rw [← n1.val, ← n2.val]; exact val_lt_at n1.dig h1 h2 hd.out h)
theorem cmp_at_gt {l1 l2 : List Nat} {m n j j1 : Nat} (n1 : NatIs l1 m) (n2 : NatIs l2 n) (h1 : j < l1.length) (h2 : j < l2.length) (hj : j1 = j + 1) (hd : Hid (l1.drop j1 = l2.drop j1)) (h : l2.getD j 0 < l1.getD j 0) : cmpI m n = 1 := by
  subst hj
  exact cmpI_gt (by rw [← n1.val, ← n2.val]; exact val_lt_at n2.dig h2 h1 hd.out.symm h)
theorem cmp_at_eq {l1 l2 : List Nat} {j j1 : Nat} (h1 : j < l1.length) (h2 : j < l2.length) (hj : j1 = j + 1) (hd : Hid (l1.drop j1 = l2.drop j1)) (h : l1.getD j 0 = l2.getD j 0) : l1.drop j = l2.drop j := by
  subst hj
  exact drop_eq_of h1 h2 hd.out h

def CmpInv (l1 l2 : List Nat) (w : World) (i : Value) (wr : World) : Prop :=
  ∃ k : Nat, k ≤ l1.length ∧ i = .int .i64 k ∧ Hid (l1.drop (l1.length - k) = l2.drop (l1.length - k)) ∧ Below w.heap.size w wr

set_option maxRecDepth 100000 in
set_option maxHeartbeats 400000 in
theorem cmp_any {A B : Option Addr} {ca cb : Nat} {la lb : List Nat} {w : World} (ha : Nv w A ca la) (hb : Nv w B cb lb) :
    Calls Try.prog 49 #[.slice A la.length ca, .slice B lb.length cb] w fun e w' => e = .returned (.int .i64 (cmpI (val la) (val lb))) ∧ Below w.heap.size w w' := by
  go_enter Try.func49, Try.ntmps49
  go_wp2_with fail
  refine (trim_nv ha).mono ?_
  rintro e w' ⟨l1, rfl, h1, n1, b1, rfl⟩
  go_wp2_with fail
  refine (trim_nv hb).mono ?_
  rintro e w' ⟨l2, rfl, h2, n2, b2, rfl⟩
  clear b1 b2 ha hb
  have hg1 := h1.big
  have hg2 := h2.big
  rcases Nat.lt_trichotomy l1.length l2.length with hl | hl | hl
  · have hf := Lib.hid (cmpI_lt (n1.val ▸ n2.val ▸ val_lt_of_len h1.dig n2.canon hl))
    have hne : (((l1.length : Nat) : Int) != ((l2.length : Nat) : Int)) = true := by rw [bne_iff_ne]; omega
    go_wp2
    go_ret
    refine ⟨?_, Below.refl _ _⟩
    rw [hf.out]; rfl
  · have hne : (((l1.length : Nat) : Int) != ((l2.length : Nat) : Int)) = false := by rw [bne_eq_false_iff_eq]; omega
    have hl' := Lib.hid hl
    have hle : l1.length ≤ l2.length := by omega
    clear hl
    go_wp2
    go_loopw [23] (fun i wr => CmpInv l1 l2 w i wr) (fun i _ => l1.length - (intOf i).toNat)
    case atStart => exact ⟨0, by omega, rfl, by show l1.drop _ = l2.drop _; rw [List.drop_of_length_le (by omega), List.drop_of_length_le (by rw [← hl'.out]; omega)], Below.refl _ _⟩
    case round =>
      obtain ⟨k, hk, rfl, hd, hbel⟩ := hrel
      by_cases hkl : k < l1.length
      · obtain ⟨a, d, rfl, hab, hac, hda, hga⟩ := (h1.below hbel).at (k := l1.length - 1 - k) (by omega)
        obtain ⟨b, f, rfl, hbb, hbc, hdb, hgb⟩ := (h2.below hbel).at (k := l1.length - 1 - k) (by omega)
        rcases Nat.lt_trichotomy d f with hdf | hdf | hdf
        · have hf := Lib.hid (cmp_at_lt (j := l1.length - 1 - k) n1 n2 (by omega) (by omega) (by omega) hd (by rw [hga.out, hgb.out]; exact hdf))
          go_wp2
          go_quiet (fail)
          go_wp2
          go_ret
          refine ⟨?_, below_drewN hbel _⟩
          rw [hf.out]; rfl
        · subst hdf
          have hf := Lib.hid (cmp_at_eq (j := l1.length - 1 - k) (by omega) (by omega) (by omega) hd (by rw [hga.out, hgb.out]))
          go_wp2
          go_quiet (fail)
          go_wp2
          go_quiet (fail)
          go_wp2
          go_roundw
          case rel => exact ⟨k + 1, by omega, by go_num, by show l1.drop _ = l2.drop _; rw [show l1.length - (k + 1) = l1.length - 1 - k by omega]; exact hf.out, below_drewN hbel _⟩
          case measure => simp [intOf]; omega
        · have hf := Lib.hid (cmp_at_gt (j := l1.length - 1 - k) n1 n2 (by omega) (by omega) (by omega) hd (by rw [hga.out, hgb.out]; exact hdf))
          go_wp2
          go_quiet (fail)
          go_wp2
          go_quiet (fail)
          go_wp2
          go_ret
          refine ⟨?_, below_drewN (below_drewN hbel _) _⟩
          rw [hf.out]; rfl
      · have hk0 := Lib.hid (show l1.length - k = 0 by omega)
        have hf := Lib.hid (cmpI_eq (m := val la) (n := val lb) (by
          have := hd.out
          rw [hk0.out, List.drop_zero, List.drop_zero] at this
          rw [← n1.val, ← n2.val, this]))
        go_wp2
        go_ret
        refine ⟨?_, hbel⟩
        rw [hf.out]; rfl
  · have hf := Lib.hid (cmpI_gt (n1.val ▸ n2.val ▸ val_lt_of_len h2.dig n1.canon hl))
    have hne : (((l1.length : Nat) : Int) != ((l2.length : Nat) : Int)) = true := by rw [bne_iff_ne]; omega
    go_wp2
    go_ret
    refine ⟨?_, Below.refl _ _⟩
    rw [hf.out]; rfl
end Go.Proofs.Ytghpcimeobmonaa
