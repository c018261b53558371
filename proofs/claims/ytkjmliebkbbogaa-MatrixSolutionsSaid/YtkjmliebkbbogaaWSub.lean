/- natural.Valid, FromUint, Uint, Cmp: what each call does. -/
import Derived.Test.YtkjmliebkbbogaaWTrim
namespace Go.Proofs.Ytkjmliebkbbogaa
set_option linter.unusedVariables false
set_option linter.unusedSimpArgs false
open Go.RowKit Plain

theorem trim_nv {A : Option Addr} {c : Nat} {l : List Nat} {w : World} (h : Nv w A c l) :
    Calls Try.prog 85 #[.slice A l.length c] w fun e w' => ∃ l', e = .returned (.slice A l'.length l'.length) ∧ Nv w A l'.length l' ∧ NatIs l' (val l) ∧ l'.length ≤ l.length ∧ w = w' := by
  refine (trim_any _ _ _ _ h.rd h.len h.big).mono ?_
  rintro e w' ⟨rfl, rfl⟩
  have hle := trimN_le l l.length
  refine ⟨trimL l, ?_, ⟨Nat.le_refl _, by rw [trimL_length]; have := h.big; omega, h.rd.take _, h.dig.trimL⟩, natIs_trimL h.dig, by rw [trimL_length]; exact hle, rfl⟩
  rw [trimL_length]

def validL (l : List Nat) : Bool := decide (trimN l l.length = l.length)
theorem below_drewN {B : Nat} {a w : World} (h : Below B a w) (n : Nat) : Below B a (w.drewN n) := ⟨h.os, h.tape, h.output, h.size, h.block⟩

theorem row_alloc (w : World) {cs : Array Value} {l : List Nat} (e : cs = (u32s l).toArray) : Row (w.alloc (.cells cs 91)) w.heap.size l := by
  subst e; exact Row.new w l
theorem row_of {w : World} {g : Nat} {cs : Array Value} {l : List Nat} (h : w.heap[g]? = some (.cells cs 91 (0, 0))) (e : cs = (u32s l).toArray) : Row w g l := by
  subst e; exact h

theorem val_two (x : Nat) (hx : x < pw 2) : val [x % 4294967296, x / 4294967296 % 4294967296] = x := by
  simp only [val, pw] at *
  omega

set_option maxRecDepth 100000 in
set_option maxHeartbeats 400000 in
theorem fromUint_any (x : Nat) (w : World) (hx : x < pw 2) :
    Calls Try.prog 71 #[.int .u64 (x : Int)] w (RetNat x 2 w) := by
  have hrow := row_alloc w (cs := #[Value.int IntKind.u32 ((x : Int) % 4294967296), Value.int IntKind.u32 ((x : Int) / 4294967296 % 4294967296)]) (l := [x % 4294967296, x / 4294967296 % 4294967296]) (by simp [u32s])
  have hd : Dig [x % 4294967296, x / 4294967296 % 4294967296] := Dig.cons (by omega) (Dig.cons (by omega) Dig.nil)
  have hv := Lib.hid (val_two x hx)
  clear hx
  go_enter Try.func71, Try.ntmps71
  go_wp2_with fail
  refine (trim_row hrow rfl hd (by simp)).mono ?_
  rintro e w' ⟨l', rfl, h1, h2, h3, rfl⟩
  go_wp2
  go_ret
  exact ⟨_, _, _, rfl, h1, hv.out ▸ h2, h3, (Below.refl _ _).alloc (Nat.le_refl _) _⟩

def uintOf (n : Nat) : Nat := if n < pw 2 then n else 0
def isUint (n : Nat) : Bool := decide (n < pw 2)
theorem uint_small {l : List Nat} (hd : Dig l) (h : l.length ≤ 2) : uintOf (val l) = val l ∧ isUint (val l) = true := by
  have : val l < pw 2 := Nat.lt_of_lt_of_le (val_lt hd) (pw_mono h)
  exact ⟨if_pos this, decide_eq_true this⟩
theorem uint_big {l : List Nat} (hc : Canon l) (h : 2 < l.length) : uintOf (val l) = 0 ∧ isUint (val l) = false := by
  have h1 := canon_ge hc (by intro e; subst e; simp at h)
  have h2 := pw_mono (show 2 ≤ l.length - 1 by omega)
  have : ¬ val l < pw 2 := by omega
  exact ⟨if_neg this, decide_eq_false this⟩

theorem or_join (d0 d1 : Nat) (h0 : d0 < 4294967296) (h1 : d1 < 4294967296) : bits .or .u64 ((d1 : Int) * 4294967296) (d0 : Int) = ((d0 + 4294967296 * d1 : Nat) : Int) := by
  have := u64_or_nat (d1 * 4294967296) d0 (by omega) (by omega)
  rw [nat_join 32 _ _ (by simp) (by simpa using h0)] at this
  rw [show ((d1 : Int) * 4294967296) = ((d1 * 4294967296 : Nat) : Int) by omega, this]
  omega

theorem cmp_at_lt {l1 l2 : List Nat} {m n j j1 : Nat} (n1 : NatIs l1 m) (n2 : NatIs l2 n) (h1 : j < l1.length) (h2 : j < l2.length) (hj : j1 = j + 1) (hd : Hid (l1.drop j1 = l2.drop j1)) (h : l1.getD j 0 < l2.getD j 0) : cmpI m n = -1 := by
  subst hj
  exact cmpI_lt (by rw [← n1.val, ← n2.val]; exact val_lt_at n1.dig h1 h2 hd.out h)
theorem cmp_at_gt {l1 l2 : List Nat} {m n j j1 : Nat} (n1 : NatIs l1 m) (n2 : NatIs l2 n) (h1 : j < l1.length) (h2 : j < l2.length) (hj : j1 = j + 1) (hd : Hid (l1.drop j1 = l2.drop j1)) (h : l2.getD j 0 < l1.getD j 0) : cmpI m n = 1 := by
  subst hj
  exact cmpI_gt (by rw [← n1.val, ← n2.val]; exact val_lt_at n2.dig h2 h1 hd.out.symm h)
theorem cmp_at_eq {l1 l2 : List Nat} {j j1 : Nat} (h1 : j < l1.length) (h2 : j < l2.length) (hj : j1 = j + 1) (hd : Hid (l1.drop j1 = l2.drop j1)) (h : l1.getD j 0 = l2.getD j 0) : l1.drop j = l2.drop j := by
  subst hj
  exact drop_eq_of h1 h2 hd.out h

def CmpInv (l1 l2 : List Nat) (w : World) (i : Value) (wr : World) : Prop :=
  ∃ k : Nat, k ≤ l1.length ∧ i = .int .i64 k ∧ Hid (l1.drop (l1.length - k) = l2.drop (l1.length - k)) ∧ Below w.heap.size w wr

set_option maxRecDepth 100000 in
set_option maxHeartbeats 400000 in
theorem cmp_any {A B : Option Addr} {ca cb : Nat} {la lb : List Nat} {w : World} (ha : Nv w A ca la) (hb : Nv w B cb lb) :
    Calls Try.prog 95 #[.slice A la.length ca, .slice B lb.length cb] w fun e w' => e = .returned (.int .i64 (cmpI (val la) (val lb))) ∧ Below w.heap.size w w' := by
  go_enter Try.func95, Try.ntmps95
  go_wp2_with fail
  refine (trim_nv ha).mono ?_
  rintro e w' ⟨l1, rfl, h1, n1, b1, rfl⟩
  go_wp2_with fail
  refine (trim_nv hb).mono ?_
  rintro e w' ⟨l2, rfl, h2, n2, b2, rfl⟩
  clear b1 b2 ha hb
  have hg1 := h1.big
  have hg2 := h2.big
  rcases Nat.lt_trichotomy l1.length l2.length with hl | hl | hl
  · have hf := Lib.hid (cmpI_lt (n1.val ▸ n2.val ▸ val_lt_of_len h1.dig n2.canon hl))
    have hne : (((l1.length : Nat) : Int) != ((l2.length : Nat) : Int)) = true := by rw [bne_iff_ne]; omega
    go_wp2
    go_ret
    refine ⟨?_, Below.refl _ _⟩
    rw [hf.out]; rfl
  · have hne : (((l1.length : Nat) : Int) != ((l2.length : Nat) : Int)) = false := by rw [bne_eq_false_iff_eq]; omega
    have hl' := Lib.hid hl
    have hle : l1.length ≤ l2.length := by omega
    clear hl
    go_wp2
    go_loopw [23] (fun i wr => CmpInv l1 l2 w i wr) (fun i _ => l1.length - (intOf i).toNat)
    case atStart => exact ⟨0, by omega, rfl, by show l1.drop _ = l2.drop _; rw [List.drop_of_length_le (by omega), List.drop_of_length_le (by rw [← hl'.out]; omega)], Below.refl _ _⟩
    case round =>
      obtain ⟨k, hk, rfl, hd, hbel⟩ := hrel
      by_cases hkl : k < l1.length
      · obtain ⟨a, d, rfl, hab, hac, hda, hga⟩ := (h1.below hbel).at (k := l1.length - 1 - k) (by omega)
        obtain ⟨b, f, rfl, hbb, hbc, hdb, hgb⟩ := (h2.below hbel).at (k := l1.length - 1 - k) (by omega)
        rcases Nat.lt_trichotomy d f with hdf | hdf | hdf
        · have hf := Lib.hid (cmp_at_lt (j := l1.length - 1 - k) n1 n2 (by omega) (by omega) (by omega) hd (by rw [hga.out, hgb.out]; exact hdf))
          go_wp2
          go_quiet (fail)
          go_wp2
          go_ret
          refine ⟨?_, below_drewN hbel _⟩
          rw [hf.out]; rfl
        · subst hdf
          have hf := Lib.hid (cmp_at_eq (j := l1.length - 1 - k) (by omega) (by omega) (by omega) hd (by rw [hga.out, hgb.out]))
          go_wp2
          go_quiet (fail)
          go_wp2
          go_quiet (fail)
          go_wp2
          go_roundw
          case rel => exact ⟨k + 1, by omega, by go_num, by show l1.drop _ = l2.drop _; rw [show l1.length - (k + 1) = l1.length - 1 - k by omega]; exact hf.out, below_drewN hbel _⟩
          case measure => simp [intOf]; omega
        · have hf := Lib.hid (cmp_at_gt (j := l1.length - 1 - k) n1 n2 (by omega) (by omega) (by omega) hd (by rw [hga.out, hgb.out]; exact hdf))
          go_wp2
          go_quiet (fail)
          go_wp2
          go_quiet (fail)
          go_wp2
          go_ret
          refine ⟨?_, below_drewN (below_drewN hbel _) _⟩
          rw [hf.out]; rfl
      · have hk0 := Lib.hid (show l1.length - k = 0 by omega)
        have hf := Lib.hid (cmpI_eq (m := val la) (n := val lb) (by
          have := hd.out
          rw [hk0.out, List.drop_zero, List.drop_zero] at this
          rw [← n1.val, ← n2.val, this]))
        go_wp2
        go_ret
        refine ⟨?_, hbel⟩
        rw [hf.out]; rfl
  · have hf := Lib.hid (cmpI_gt (n1.val ▸ n2.val ▸ val_lt_of_len h2.dig n1.canon hl))
    have hne : (((l1.length : Nat) : Int) != ((l2.length : Nat) : Int)) = true := by rw [bne_iff_ne]; omega
    go_wp2
    go_ret
    refine ⟨?_, Below.refl _ _⟩
    rw [hf.out]; rfl
end Go.Proofs.Ytkjmliebkbbogaa
namespace Go.Proofs.Ytkjmliebkbbogaa
set_option linter.unusedVariables false
set_option linter.unusedSimpArgs false
open Go.RowKit Plain

def AddInv (la lb : List Nat) (w : World) (c i : Value) (wr : World) : Prop :=
  ∃ (k cv : Nat) (o : List Nat), k ≤ la.length ∧ i = .int .i64 k ∧ c = .int .u64 cv ∧ cv ≤ 1 ∧ Hid (o.length = k) ∧ Dig o ∧
    Row wr w.heap.size (o ++ List.replicate (la.length + 1 - k) 0) ∧ Hid (val o + pw k * cv = val (la.take k) + val (lb.take k)) ∧ Below w.heap.size w wr

theorem add_digit (P x s a b cv : Nat) (h : x + P * cv = a + b) (da db : Nat) (hs : s = da + cv + db) :
    x + P * (s % 4294967296) + 4294967296 * P * (s / 4294967296) = a + P * da + (b + P * db) := by
  have h1 : P * s = P * (s % 4294967296) + 4294967296 * P * (s / 4294967296) := by
    rw [Nat.mul_comm 4294967296 P, Nat.mul_assoc, ← Nat.mul_add, Nat.mod_add_div]
  have h2 : P * s = P * da + P * cv + P * db := by rw [hs, Nat.mul_add, Nat.mul_add]
  omega

theorem add_step {la lb : List Nat} {w wr : World} {k cv : Nat} {o : List Nat} (hkl : k < la.length) (hcv : cv ≤ 1) (ho : Hid (o.length = k)) (hod : Dig o)
    (hrow : Row wr w.heap.size (o ++ List.replicate (la.length + 1 - k) 0)) (hval : Hid (val o + pw k * cv = val (la.take k) + val (lb.take k))) (hbel : Below w.heap.size w wr)
    (s : Nat) (hs : s = la.getD k 0 + cv + lb.getD k 0) (hs2 : s / 4294967296 ≤ 1) (x c' i' : Int) (hx : x = ((s % 4294967296 : Nat) : Int)) (hc : c' = ((s / 4294967296 : Nat) : Int)) (hi : i' = ((k + 1 : Nat) : Int)) :
    AddInv la lb w (.int .u64 c') (.int .i64 i') (wr.setCell ⟨w.heap.size, k, none⟩ (.int .u32 x)) := by
  refine ⟨k + 1, s / 4294967296, o ++ [s % 4294967296], by omega, by rw [hi], by rw [hc], hs2, ?_, hod.snoc (Nat.mod_lt _ (by omega)), ?_, ?_, hbel.setCell (Nat.le_refl _) _⟩
  · show (o ++ [_]).length = k + 1
    rw [List.length_append, ho.out]; rfl
  · rw [rep_succ (by omega)] at hrow
    exact hrow.push ho.out x hx
  · show val (o ++ [_]) + pw (k + 1) * _ = _
    rw [val_snoc, ho.out, val_take_succ, val_take_succ, pw]
    exact add_digit _ _ _ _ _ _ hval.out _ _ hs

theorem add_last {la lb o : List Nat} {cv : Nat} (hval : Hid (val o + pw la.length * cv = val (la.take la.length) + val (lb.take la.length))) (ho : Hid (o.length = la.length)) (hl : lb.length ≤ la.length) :
    val (o ++ [cv]) = val la + val lb := by
  rw [val_snoc, ho.out, hval.out, val_take_ge _ _ (Nat.le_refl _), val_take_ge _ _ hl]
theorem add_full {la o : List Nat} {wr : World} {g cv : Nat} (hrow : Row wr g (o ++ List.replicate (la.length + 1 - la.length) 0)) (ho : Hid (o.length = la.length)) (x : Int) (hx : x = (cv : Int)) (h : la.length < la.length + 1) :
    Row (wr.setCell ⟨g, la.length, none⟩ (.int .u32 x)) g (o ++ [cv]) := by
  rw [rep_succ h] at hrow
  have := hrow.push ho.out x hx
  simpa using this

def AddCut (la lb : List Nat) (w : World) (a b : Value) (wx : World) : Prop :=
  ∃ A ca l1 B cb l2, a = .slice A l1.length ca ∧ b = .slice B l2.length cb ∧ Nv w A ca l1 ∧ Nv w B cb l2 ∧ l2.length ≤ l1.length ∧ l1.length ≤ 5000000000 ∧
    Hid (val l1 + val l2 = val la + val lb) ∧ Hid (l1.length = max la.length lb.length) ∧ w = wx

set_option maxRecDepth 100000 in
set_option maxHeartbeats 400000 in
theorem add_any (A B : Option Addr) (ca cb : Nat) (la lb : List Nat) (w : World) (ha : Nv w A ca la) (hb : Nv w B cb lb) (hna : la.length ≤ 5000000000) (hnb : lb.length ≤ 5000000000) :
    Calls Try.prog 91 #[.slice A la.length ca, .slice B lb.length cb] w (RetNat (val la + val lb) (max la.length lb.length + 1) w) := by
  go_enter Try.func91, Try.ntmps91
  go_upto_if 13 with (fail)
  go_cut [0, 1] (fun a b wx => AddCut la lb w a b wx)
  case first =>
    by_cases hlt : la.length < lb.length
    · go_wp2
      go_meet
      case rel => exact ⟨_, _, _, _, _, _, rfl, rfl, hb, ha, by omega, hnb, Nat.add_comm _ _, (Nat.max_eq_right (by omega)).symm, rfl⟩
    · go_wp2
      go_meet
      case rel => exact ⟨_, _, _, _, _, _, rfl, rfl, ha, hb, by omega, hna, rfl, (Nat.max_eq_left (by omega)).symm, rfl⟩
  case rest =>
    obtain ⟨A, ca, l1, B, cb, l2, rfl, rfl, ha, hb, hl, hn, hsum, hmax, rfl⟩ := hcut
    have hmk := make_u32 w (l1.length + 1) .i64 ((l1.length : Int) + 1) (by omega) (by omega)
    go_wp2
    go_loopw [6, 22] (fun c i wr => AddInv l1 l2 w c i wr) (fun _ i _ => l1.length - (intOf i).toNat)
    case atStart => exact ⟨0, 0, [], by omega, rfl, rfl, by omega, rfl, Dig.nil, Row.new _ _, rfl, (Below.refl _ _).alloc (Nat.le_refl _) _⟩
    case round =>
      obtain ⟨k, cv, o, hk, rfl, rfl, hcv, ho, hod, hrow, hval, hbel⟩ := hrel
      have hf := hrow.free k
      obtain ⟨d0, hc0, _, _⟩ := hrow.cell' (i := k) (hod.append (Dig.replicate _)) (by rw [List.length_append, List.length_replicate, ho.out]; omega)
      by_cases hkl : k < l1.length
      · obtain ⟨a, da, rfl, hab, hac, hda, hga⟩ := (ha.below hbel).at hkl
        by_cases hkb : k < l2.length
        · obtain ⟨b, db, rfl, hbb, hbc, hdb, hgb⟩ := (hb.below hbel).at hkb
          go_wp2
          go_roundw
          case rel => exact add_step hkl hcv ho hod hrow hval hbel (da + cv + db) (by rw [hga.out, hgb.out]) (by omega) _ _ _ (by omega) (by omega) (by omega)
          case measure => simp [intOf]; omega
        · have hgb := Lib.hid (show l2.getD k 0 = 0 by rw [List.getD_eq_getElem?_getD, List.getElem?_eq_none (by omega)]; rfl)
          go_wp2
          go_roundw
          case rel => exact add_step hkl hcv ho hod hrow hval hbel (da + cv + 0) (by rw [hga.out, hgb.out]) (by omega) _ _ _ (by omega) (by omega) (by omega)
          case measure => simp [intOf]; omega
      · obtain rfl : k = l1.length := by omega
        have hfin := Lib.hid ((add_last hval ho hl).trans hsum.out)
        have hrow2 := add_full hrow ho (cv : Int) rfl (by omega)
        have hd2 : Dig (o ++ [cv]) := hod.snoc (by omega)
        have hl2 := Lib.hid (show (o ++ [cv]).length = l1.length + 1 by rw [List.length_append, ho.out]; rfl)
        have hb2 := hbel.setCell (p := ⟨w.heap.size, l1.length, none⟩) (Nat.le_refl _) (.int .u32 (cv : Int))
        go_wp2_with fail
        refine (trim_row hrow2 hl2.out hd2 (by omega)).mono ?_
        rintro e w1 ⟨l', rfl, h1, h2, h3, rfl⟩
        go_wp2
        go_ret
        exact ⟨_, _, _, rfl, h1, hfin.out ▸ h2, hmax.out ▸ h3, hb2⟩
end Go.Proofs.Ytkjmliebkbbogaa
/- natural.Sub: what the call does. -/
namespace Go.Proofs.Ytkjmliebkbbogaa
set_option linter.unusedVariables false
set_option linter.unusedSimpArgs false
open Go.RowKit Plain

def SubInv (la lb : List Nat) (w : World) (g : Nat) (c i : Value) (wr : World) : Prop :=
  ∃ (k cv : Nat) (o : List Nat), k ≤ la.length ∧ i = .int .i64 k ∧ c = .int .u64 cv ∧ cv ≤ 1 ∧ Hid (o.length = k) ∧ Dig o ∧
    Row wr g (o ++ List.replicate (la.length - k) 0) ∧ Hid (val o + val (lb.take k) = val (la.take k) + pw k * cv) ∧ Below w.heap.size w wr

/-- The result of a subtraction. -/
def RetSub (m n k : Nat) (W : World) (e : Ending) (w' : World) : Prop :=
  ∃ A c l, e = .returned (.tuple #[.slice A l.length c, .bool (decide (n ≤ m))]) ∧ Nv w' A c l ∧ NatIs l (m - n) ∧ l.length ≤ k ∧ Below W.heap.size W w'

theorem sub_wrap (da cv db : Nat) (h1 : da < 4294967296) (h2 : cv ≤ 1) (h3 : db < 4294967296) :
    ∃ x c : Nat, IntKind.u64.wrap (IntKind.u64.wrap ((da : Int) - cv) - db) % 4294967296 = (x : Int) ∧ IntKind.u64.wrap (IntKind.u64.wrap ((da : Int) - cv) - db) / 9223372036854775808 = (c : Int) ∧
      x < 4294967296 ∧ c ≤ 1 ∧ x + db + cv = da + 4294967296 * c := by
  rw [wrap_u64, wrap_u64]
  by_cases h : db + cv ≤ da
  · refine ⟨da - cv - db, 0, ?_, ?_, by omega, by omega, by omega⟩ <;> omega
  · refine ⟨da + 4294967296 - cv - db, 1, ?_, ?_, by omega, by omega, by omega⟩ <;> omega
theorem sub_wrap0 (da cv : Nat) (h1 : da < 4294967296) (h2 : cv ≤ 1) :
    ∃ x c : Nat, IntKind.u64.wrap ((da : Int) - cv) % 4294967296 = (x : Int) ∧ IntKind.u64.wrap ((da : Int) - cv) / 9223372036854775808 = (c : Int) ∧
      x < 4294967296 ∧ c ≤ 1 ∧ x + 0 + cv = da + 4294967296 * c := by
  rw [wrap_u64]
  by_cases h : cv ≤ da
  · refine ⟨da - cv, 0, ?_, ?_, by omega, by omega, by omega⟩ <;> omega
  · refine ⟨da + 4294967296 - cv, 1, ?_, ?_, by omega, by omega, by omega⟩ <;> omega

theorem sub_digit (P x a b cv y c' da db : Nat) (h : x + b = a + P * cv) (hs : y + db + cv = da + 4294967296 * c') :
    x + P * y + (b + P * db) = a + P * da + 4294967296 * P * c' := by
  have h1 : P * (y + db + cv) = P * (da + 4294967296 * c') := by rw [hs]
  rw [Nat.mul_add, Nat.mul_add, Nat.mul_add, ← Nat.mul_assoc, Nat.mul_comm P 4294967296] at h1
  omega

theorem sub_step {la lb : List Nat} {w wr : World} {g k cv : Nat} {o : List Nat} (hkl : k < la.length) (ho : Hid (o.length = k)) (hod : Dig o)
    (hrow : Row wr g (o ++ List.replicate (la.length - k) 0)) (hval : Hid (val o + val (lb.take k) = val (la.take k) + pw k * cv)) (hbel : Below w.heap.size w wr) (hg : w.heap.size ≤ g)
    (y c' : Nat) (hy : y < 4294967296) (hc : c' ≤ 1) (hs : y + lb.getD k 0 + cv = la.getD k 0 + 4294967296 * c') (xi ci i' : Int) (hx : xi = (y : Int)) (hci : ci = (c' : Int)) (hi : i' = ((k + 1 : Nat) : Int)) :
    SubInv la lb w g (.int .u64 ci) (.int .i64 i') (wr.setCell ⟨g, k, none⟩ (.int .u32 xi)) := by
  refine ⟨k + 1, c', o ++ [y], by omega, by rw [hi], by rw [hci], hc, ?_, hod.snoc hy, ?_, ?_, hbel.setCell hg _⟩
  · show (o ++ [_]).length = k + 1
    rw [List.length_append, ho.out]; rfl
  · rw [rep_succ (by omega)] at hrow
    exact hrow.push ho.out xi hx
  · show val (o ++ [_]) + _ = _ + pw (k + 1) * _
    rw [val_snoc, ho.out, val_take_succ, val_take_succ, pw]
    exact sub_digit _ _ _ _ _ _ _ _ _ hval.out hs

theorem sub_last {la lb o : List Nat} {cv : Nat} (hval : Hid (val o + val (lb.take la.length) = val (la.take la.length) + pw la.length * cv)) (ho : Hid (o.length = la.length)) (hod : Dig o) (hl : lb.length ≤ la.length) (h : val lb ≤ val la) :
    val o = val la - val lb := by
  have h1 := hval.out
  rw [val_take_ge _ _ (Nat.le_refl _), val_take_ge _ _ hl] at h1
  have h2 := val_lt hod
  rw [ho.out] at h2
  have h3 : cv = 0 := by
    rcases Nat.eq_zero_or_pos cv with h0 | h0
    · exact h0
    · have : pw la.length * 1 ≤ pw la.length * cv := Nat.mul_le_mul_left _ h0
      omega
  subst h3
  omega

set_option maxRecDepth 100000 in
set_option maxHeartbeats 400000 in
theorem sub_any (A B : Option Addr) (ca cb : Nat) (la lb : List Nat) (w : World) (ha : Nv w A ca la) (hb : Nv w B cb lb) :
    Calls Try.prog 92 #[.slice A la.length ca, .slice B lb.length cb] w (RetSub (val la) (val lb) la.length w) := by
  go_enter Try.func92, Try.ntmps92
  go_wp2_with fail
  refine (trim_nv ha).mono ?_
  rintro e w' ⟨l1, rfl, h1, n1, b1, rfl⟩
  go_wp2_with fail
  refine (trim_nv hb).mono ?_
  rintro e w' ⟨l2, rfl, h2, n2, b2, rfl⟩
  clear b2 ha hb
  have hg1 := h1.big
  have hg2 := h2.big
  go_wp2_with fail
  refine (cmp_any h1 h2).mono ?_
  rintro e w1 ⟨rfl, hb1⟩
  by_cases hlt : val la < val lb
  · have hc := Lib.hid (show cmpI (val l1) (val l2) = -1 from cmpI_lt (by rw [n1.val, n2.val]; exact hlt))
    rw [hc.out]
    clear hc
    go_wp2
    go_ret2
    refine ⟨none, 0, [], ?_, ⟨by simp, by simp, fun hx => by simp [u32s] at hx, Dig.nil⟩, ?_, by simp, hb1⟩
    · rw [decide_eq_false (show ¬ val lb ≤ val la by omega)]; rfl
    · rw [show val la - val lb = 0 by omega]; exact NatIs.nil
  · have hc : 0 ≤ cmpI (val l1) (val l2) := by
      have h := cmpI_neg_iff (val l1) (val l2)
      rw [n1.val, n2.val] at *
      omega
    have hc2 := cmpI_bd (val l1) (val l2)
    obtain ⟨c, hcc⟩ : ∃ c, c = cmpI (val l1) (val l2) := ⟨_, rfl⟩
    rw [← hcc] at hc hc2 ⊢
    clear hcc
    have hmk := make_u32 w1 l1.length .i64 (l1.length : Int) rfl (by omega)
    have hll : l2.length ≤ l1.length := by
      rcases Nat.lt_or_ge l1.length l2.length with h | h
      · have := val_lt_of_len h1.dig n2.canon h
        rw [n1.val, n2.val] at this
        omega
      · exact h
    have h1' := h1.below hb1
    have h2' := h2.below hb1
    go_wp2
    go_loopw [7, 23] (fun c i wr => SubInv l1 l2 w1 w1.heap.size c i wr) (fun _ i _ => l1.length - (intOf i).toNat)
    case atStart => exact ⟨0, 0, [], by omega, rfl, rfl, by omega, rfl, Dig.nil, Row.new _ _, rfl, (Below.refl _ _).alloc (Nat.le_refl _) _⟩
    case round =>
      obtain ⟨k, cv, o, hk, rfl, rfl, hcv, ho, hod, hrow, hval, hbel⟩ := hrel
      by_cases hkl : k < l1.length
      · have hf := hrow.free k
        obtain ⟨d0, hc0, _, _⟩ := hrow.cell' (i := k) (hod.append (Dig.replicate _)) (by rw [List.length_append, List.length_replicate, ho.out]; omega)
        obtain ⟨a, da, rfl, hab, hac, hda, hga⟩ := (h1'.below hbel).at hkl
        by_cases hkb : k < l2.length
        · obtain ⟨b, db, rfl, hbb, hbc, hdb, hgb⟩ := (h2'.below hbel).at hkb
          go_wp2
          obtain ⟨y, c', e1, e2, hy, hc', hs⟩ := sub_wrap da cv db hda hcv hdb
          go_roundw
          case rel => exact sub_step hkl ho hod hrow hval hbel (Nat.le_refl _) y c' hy hc' (by rw [hga.out, hgb.out]; exact hs) _ _ _ e1 e2 (by omega)
          case measure => simp [intOf]; omega
        · have hgb := Lib.hid (show l2.getD k 0 = 0 by rw [List.getD_eq_getElem?_getD, List.getElem?_eq_none (by omega)]; rfl)
          go_wp2
          obtain ⟨y, c', e1, e2, hy, hc', hs⟩ := sub_wrap0 da cv hda hcv
          go_roundw
          case rel => exact sub_step hkl ho hod hrow hval hbel (Nat.le_refl _) y c' hy hc' (by rw [hga.out, hgb.out]; exact hs) _ _ _ e1 e2 (by omega)
          case measure => simp [intOf]; omega
      · obtain rfl : k = l1.length := by omega
        have hfin := Lib.hid (sub_last hval ho hod hll (by rw [n1.val, n2.val]; omega))
        have hrow2 : Row wr w1.heap.size o := hrow.eq (by simp)
        go_wp2_with fail
        refine (trim_row hrow2 ho.out hod (by omega)).mono ?_
        rintro e w2 ⟨l', rfl, h3, h4, h5, rfl⟩
        go_wp2
        go_ret2
        refine ⟨_, _, l', ?_, h3, ?_, by omega, hb1.trans (hbel.mono hb1.size)⟩
        · rw [decide_eq_true (show val lb ≤ val la by omega)]; rfl
        · rw [hfin.out, n1.val, n2.val] at h4; exact h4
end Go.Proofs.Ytkjmliebkbbogaa
