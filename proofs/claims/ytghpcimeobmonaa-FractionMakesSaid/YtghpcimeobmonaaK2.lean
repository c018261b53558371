/- Contracts of the functions that the claim reaches, and the plain arithmetic behind them: each part says what its functions do, for all arguments that its statements name. -/
import Derived.Test.YtghpcimeobmonaaK1
import Derived.Laws.BytesArg
import Derived.Deep.RegionHeld3
import Derived.Deep.DrawnRows
import Derived.ChangeSlices
import Derived.Deep.Slices
import Derived.Deep.Strs
import Derived.ProofKit
import Derived.OpenShut
import Derived.Test.YtghpcimeobmonaaProg
import Derived.Lib.Strings
import Derived.Lib.Slices
import Derived.Lib.Walk
import Derived.Lib.Bytealg
import Derived.RegionTactic
/- The reference's shift, Mul, Uint: what the calls do. -/
namespace Go.Proofs.Ytghpcimeobmonaa
set_option linter.unusedVariables false
set_option linter.unusedSimpArgs false
open Go.RowKit Plain

def RShInv (n : Nat) (w : World) (v i : Value) (wr : World) : Prop :=
  ∃ k : Nat, k ≤ n ∧ i = .int .i64 (k : Int) ∧ OwnD wr w.heap.size v (List.replicate k 0) ∧ Below w.heap.size w wr

theorem rep_len (k : Nat) : Hid ((List.replicate k 0 : List Nat).length = k) := List.length_replicate
theorem rep_snoc (k : Nat) : List.replicate k (0 : Nat) ++ [0] = List.replicate (k + 1) 0 := by rw [List.replicate_succ']
set_option maxRecDepth 100000 in
set_option maxHeartbeats 1000000 in
theorem refShift_any (A : Option Addr) (ca n : Nat) (la : List Nat) (w : World) (ha : Nv w A ca la) (hna : la.length ≤ 5000000000) (hn : n ≤ 5000000000) :
    Calls Try.prog 91 #[.slice A la.length ca, .int .i64 (n : Int)] w (RetNat (pw n * val la) (n + la.length) w) := by
  go_enter Try.func91, Try.ntmps91
  go_wp2
  go_loopw [5, 6] (fun v i wr => RShInv n w v i wr) (fun _ i _ => n - (intOf i).toNat)
  case atStart => exact ⟨0, by omega, rfl, OwnD.nil _ _, Below.refl _ _⟩
  case round =>
    obtain ⟨k, hk, rfl, hown, hbel⟩ := hrel
    have hlr := rep_len k
    by_cases hkn : k < n
    · have hcs : (#[Value.int .u32 0] : Array Value) = (u32s [0]).toArray := by simp [u32s]
      have hrd := (row_alloc wr hcs).rd
      clear hcs
      go_wp2_with (at_builtin; refine wpList_app _ rfl rfl _ _ rfl w.heap.size _ (List.replicate k 0) rfl (hown.alloc _) (some ⟨wr.heap.size, 0, none⟩) 1 1 [0] rfl hrd rfl ?_ ?_ ?_; (rw [hlr.out]; omega); (have := hbel.size; simp; omega); intro v' w2 hown2 hgrow2)
      go_roundw
      case rel => exact ⟨k + 1, by omega, rfl, hown2.eq (rep_snoc k), own_snoc hown hbel hown2 hgrow2⟩
      case measure => simp [intOf]; omega
    · obtain rfl : k = n := by omega
      have hA := ha.below hbel
      have hrd := hA.rd
      have hln := hA.len
      have hd := Lib.hid (show val (List.replicate k 0 ++ la) = pw k * val la by rw [val_append, val_replicate, hlr.out, Nat.zero_add])
      have hll := Lib.hid (show (List.replicate k 0 ++ la).length = k + la.length by rw [List.length_append, hlr.out])
      have hdg : Dig (List.replicate k 0 ++ la) := (Dig.replicate k).append ha.dig
      go_wp2_with (at_builtin; refine wpList_app _ rfl rfl _ _ rfl w.heap.size _ (List.replicate k 0) rfl hown A la.length ca la rfl hrd rfl ?_ ?_ ?_; (rw [hlr.out]; omega); (exact hbel.size); intro v' w2 hown2 hgrow2)
      have hbel2 := hown.grown_below hbel hgrow2 (Nat.le_refl _) hbel.size
      obtain ⟨A', c', rfl, hnv⟩ := hown2.nv hdg (by rw [hll.out]; omega)
      go_wp2_with fail
      refine (refTrim_any hnv (by rw [hll.out]; omega)).mono ?_
      rintro e w1 ⟨A1, c1, l1, rfl, h1, h2, h3, h4⟩
      go_wp2
      go_ret
      exact ⟨A1, c1, l1, rfl, h1, hd.out ▸ h2, by rw [hll.out] at h3; omega, hbel2.trans (h4.mono hbel2.size)⟩

def RMulInv (la lb : List Nat) (w : World) (v i : Value) (wr : World) : Prop :=
  ∃ (k c : Nat) (A : Option Addr) (l : List Nat), k ≤ lb.length ∧ i = .int .i64 (k : Int) ∧ v = .slice A l.length c ∧ Nv wr A c l ∧ Hid (NatIs l (val la * val (lb.take k))) ∧ l.length ≤ la.length + k ∧ Below w.heap.size w wr
theorem rmul_len {la lb l : List Nat} {k : Nat} (ha : Dig la) (hb : Dig lb) (h : NatIs l (val la * val (lb.take k))) : l.length ≤ la.length + k := by
  refine length_le_of_lt h.canon ?_
  rw [h.val, pw_add]
  exact Nat.mul_lt_mul_of_lt_of_lt (val_lt ha) (val_take_lt hb k)
set_option maxRecDepth 100000 in
set_option maxHeartbeats 1000000 in
theorem refMul_any (A B : Option Addr) (ca cb : Nat) (la lb : List Nat) (w : World) (ha : Nv w A ca la) (hb : Nv w B cb lb) (hna : la.length ≤ 500000000) (hnb : lb.length ≤ 500000000) :
    Calls Try.prog 74 #[.slice A la.length ca, .slice B lb.length cb] w (RetNat (val la * val lb) (la.length + lb.length) w) := by
  go_enter Try.func74, Try.ntmps74
  go_wp2
  go_loopw [5, 6] (fun v i wr => RMulInv la lb w v i wr) (fun _ i _ => lb.length - (intOf i).toNat)
  case atStart => exact ⟨0, 0, none, [], by omega, rfl, rfl, nv_nil' _, by rw [List.take_zero]; exact NatIs.nil, by simp, Below.refl _ _⟩
  case round =>
    obtain ⟨k, c, Ao, l, hk, rfl, rfl, hl, hnat, hlen, hbel⟩ := hrel
    by_cases hkn : k < lb.length
    · have hA := ha.below hbel
      obtain ⟨a, d, rfl, hab, hac, hda, hga⟩ := (hb.below hbel).at (k := k) hkn
      go_wp2_with fail
      refine (refScale_any _ _ d _ _ hA (by omega) hda).mono ?_
      rintro e w1 ⟨A1, c1, l1, rfl, n1, i1, h1, b1⟩
      have i1' := Lib.hid i1
      clear i1
      go_wp2_with fail
      refine (refShift_any _ _ k _ _ n1 (by omega) (by omega)).mono ?_
      rintro e w2 ⟨A2, c2, l2, rfl, n2, i2, h2, b2⟩
      have i2' := Lib.hid i2
      clear i2
      have b02 := hbel.trans ((b1.trans (b2.mono b1.size)).mono hbel.size)
      go_wp2_with fail
      refine (refAdd_any _ _ _ _ _ _ _ ((hl.below b1).below b2) n2 (by omega) (by omega)).mono ?_
      rintro e w3 ⟨A3, c3, l3, rfl, n3, i3, h3, b3⟩
      have i3' := Lib.hid (show NatIs l3 (val la * val (lb.take (k + 1))) by
        have h := i3
        rw [hnat.out.val, i2'.out.val, i1'.out.val, ← hga.out, Nat.mul_left_comm, ← Nat.mul_add, ← val_take_succ] at h
        exact h)
      clear i3 h3
      go_wp2
      go_roundw
      case rel => exact ⟨k + 1, c3, A3, l3, by omega, rfl, rfl, n3, i3', rmul_len ha.dig hb.dig i3'.out, b02.trans (b3.mono b02.size)⟩
      case measure => simp [intOf]; omega
    · obtain rfl : k = lb.length := by omega
      go_wp2
      go_ret
      exact ⟨Ao, c, l, rfl, hl, by have h := hnat.out; rw [List.take_length] at h; exact h, hlen, hbel⟩

def RUInv (l : List Nat) (v i : Value) : Prop := ∃ k x : Nat, k ≤ l.length ∧ v = .int .u64 (x : Int) ∧ i = .int .i64 ((k : Int) - 1) ∧ Hid (val (l.drop k) = x)
theorem ru_small {l : List Nat} {k x : Nat} (hd : Dig l) (hl : l.length ≤ 2) (hk : 0 < k) (h : Hid (val (l.drop k) = x)) : x < 4294967296 := by
  have h1 := val_lt (hd.drop k)
  rw [h.out] at h1
  have h2 : pw (l.drop k).length ≤ pw 1 := pw_mono (by rw [List.length_drop]; omega)
  rw [pw_one] at h2
  omega
set_option maxRecDepth 100000 in
set_option maxHeartbeats 1000000 in
theorem refUint_any {A : Option Addr} {c : Nat} {l : List Nat} {w : World} (h : Nv w A c l) (hc : Canon l) :
    Calls Try.prog 67 #[.slice A l.length c] w fun e w' => e = .returned (.tuple #[.int .u64 ((uintOf (val l) : Nat) : Int), .bool (isUint (val l))]) ∧ w = w' := by
  have hb := h.big
  by_cases h2 : l.length ≤ 2
  · have hu := uint_small h.dig h2
    have hu1 := Lib.hid hu.1
    have hu2 := Lib.hid hu.2
    clear hu
    have hd2 : decide (2 < l.length) = false := decide_eq_false (by omega)
    go_enter Try.func67, Try.ntmps67
    go_wp2
    go_loop [4, 5] (fun v i => RUInv l v i) (fun _ i => (intOf i + 1).toNat)
    case atStart => exact ⟨l.length, 0, Nat.le_refl _, rfl, rfl, by show _ = _; rw [List.drop_length]; rfl⟩
    case round =>
      obtain ⟨k, x, hk, rfl, rfl, hx⟩ := hrel
      rcases k with _ | j
      · have hz : decide ((0 : Int) ≤ ((0 : Nat) : Int) - 1) = false := by decide
        go_wp2
        go_ret2
        refine ⟨?_, rfl⟩
        rw [hu1.out, hu2.out, ← hx.out]; rfl
      · have hx1 := ru_small h.dig h2 (Nat.succ_pos j) hx
        obtain ⟨a, d, rfl, hab, hac, hda, hga⟩ := h.at (k := j) (by omega)
        have hj : ((j + 1 : Nat) : Int) - 1 = (j : Int) := by omega
        have hz : decide ((0 : Int) ≤ (j : Int)) = true := decide_eq_true (by omega)
        have hw1 : IntKind.u64.wrap ((x : Int) * 4294967296) = ((4294967296 * x : Nat) : Int) := by rw [wrap_u64]; omega
        have hw2 : IntKind.u64.wrap (((4294967296 * x : Nat) : Int) + (d : Int)) = ((4294967296 * x + d : Nat) : Int) := by rw [wrap_u64]; omega
        have hn := Lib.hid (show val (l.drop j) = 4294967296 * x + d by rw [val_drop l j (by omega), hga.out, hx.out]; omega)
        rw [hj]
        go_wp2
        go_round
        case rel => exact ⟨j, _, by omega, rfl, rfl, hn⟩
        case measure => simp [intOf]
  · have hu := uint_big hc (by omega)
    have hu1 := Lib.hid hu.1
    have hu2 := Lib.hid hu.2
    clear hu
    have hd2 : decide (2 < l.length) = true := decide_eq_true (by omega)
    go_enter Try.func67, Try.ntmps67
    go_wp2
    go_ret2
    refine ⟨?_, rfl⟩
    rw [hu1.out, hu2.out]; rfl
end Go.Proofs.Ytghpcimeobmonaa
/- Binary digits of a list of digits: plain arithmetic. -/
namespace Go.Proofs.Ytghpcimeobmonaa
set_option linter.unusedVariables false
set_option linter.unusedSimpArgs false
open Plain

theorem pw_bits (k : Nat) : pw k = 2 ^ (32 * k) := by
  induction k with
  | zero => rfl
  | succ k ih => rw [show 32 * (k + 1) = 32 * k + 32 by omega, Nat.pow_add, ← ih, pw_add k 1, pw_one]
theorem val_div_pw {l : List Nat} (hd : Dig l) (j : Nat) : val l / pw j = val (l.drop j) := by
  rcases Nat.lt_or_ge l.length j with h | h
  · rw [List.drop_eq_nil_of_le (by omega), val_nil]
    exact Nat.div_eq_of_lt (Nat.lt_of_lt_of_le (val_lt hd) (pw_mono (by omega)))
  · have h1 := val_take_drop l j h
    have h2 := val_take_lt hd j
    rw [← h1, Nat.add_mul_div_left _ _ (pw_pos j), Nat.div_eq_of_lt h2, Nat.zero_add]
theorem getD_ge {l : List Nat} {j : Nat} (h : l.length ≤ j) : l.getD j 0 = 0 := by
  rw [List.getD_eq_getElem?_getD, List.getElem?_eq_none h]; rfl
theorem val_drop_any (l : List Nat) (j : Nat) : val (l.drop j) = l.getD j 0 + 4294967296 * val (l.drop (j + 1)) := by
  rcases Nat.lt_or_ge j l.length with h | h
  · exact val_drop l j h
  · rw [getD_ge h, List.drop_eq_nil_of_le h, List.drop_eq_nil_of_le (by omega)]; rfl
theorem div_mod_low (x a b : Nat) (h : a + b ≤ 64) : x % 2 ^ 64 / 2 ^ a % 2 ^ b = x / 2 ^ a % 2 ^ b := by
  rw [show (2 : Nat) ^ 64 = 2 ^ a * 2 ^ (64 - a) by rw [← Nat.pow_add]; congr 1; omega, Nat.mod_mul_right_div_self]
  exact Nat.mod_mod_of_dvd _ (Nat.pow_dvd_pow 2 (by omega))
theorem div_bits (x i : Nat) : x / 2 ^ i = x / pw (i / 32) / 2 ^ (i % 32) := by
  rw [pw_bits, Nat.div_div_eq_div_mul, ← Nat.pow_add]
  congr 2
  omega
/-- One binary digit. -/
theorem bit_math {l : List Nat} (hd : Dig l) (i : Nat) : l.getD (i / 32) 0 / 2 ^ (i % 32) % 2 = val l / 2 ^ i % 2 := by
  have hr : i % 32 < 32 := Nat.mod_lt _ (by omega)
  rw [div_bits (val l), val_div_pw hd, val_drop_any]
  have h1 := div_mod_low (l.getD (i / 32) 0 + 4294967296 * val (l.drop (i / 32 + 1))) (i % 32) 1 (by omega)
  have h3 := hd.getD (i / 32)
  generalize hx : l.getD (i / 32) 0 = x at *
  generalize val (l.drop (i / 32 + 1)) = y at *
  generalize i % 32 = r at *
  rw [show (4294967296 : Nat) = 2 ^ r * 2 ^ (32 - r) by rw [← Nat.pow_add, show r + (32 - r) = 32 by omega], Nat.mul_assoc, Nat.add_mul_div_left _ _ (Nat.two_pow_pos r), show 32 - r = (31 - r) + 1 by omega, Nat.pow_succ, Nat.mul_comm _ 2, Nat.mul_assoc, Nat.add_mul_mod_self_left]
/-- One digit of the number without its lowest k binary digits. -/
theorem high_math {l : List Nat} (hd : Dig l) (k m : Nat) : val l / 2 ^ k / pw m % 4294967296 = (l.getD (k / 32 + m) 0 + 4294967296 * l.getD (k / 32 + m + 1) 0) / 2 ^ (k % 32) % 4294967296 := by
  have hr : k % 32 < 32 := Nat.mod_lt _ (by omega)
  have e1 : val l / 2 ^ k / pw m = val (l.drop (k / 32 + m)) / 2 ^ (k % 32) := by
    rw [div_bits (val l), Nat.div_div_eq_div_mul, Nat.mul_comm (2 ^ (k % 32)), ← Nat.div_div_eq_div_mul, Nat.div_div_eq_div_mul _ (pw (k / 32)), ← pw_add, val_div_pw hd]
  rw [e1, val_drop_any, val_drop_any l (k / 32 + m + 1)]
  have h2 := hd.getD (k / 32 + m)
  have h3 := hd.getD (k / 32 + m + 1)
  generalize l.getD (k / 32 + m) 0 = x at *
  generalize l.getD (k / 32 + m + 1) 0 = y at *
  generalize val (l.drop (k / 32 + m + 1 + 1)) = z at *
  have h := div_mod_low (x + 4294967296 * (y + 4294967296 * z)) (k % 32) 32 (by omega)
  rw [show (2 : Nat) ^ 32 = 4294967296 by rfl, show (2 : Nat) ^ 64 = 18446744073709551616 by rfl] at h
  rw [← h]
  congr 2
  omega
theorem high_step {o : List Nat} {N m d : Nat} (ho : o.length = m) (hv : val o = N % pw m) (hd : N / pw m % 4294967296 = d) : val (o ++ [d]) = N % pw (m + 1) := by
  rw [val_snoc, ho, hv, ← hd, show pw (m + 1) = pw m * 4294967296 by rw [pw_add, pw_one], Nat.mod_mul]
theorem high_fin {l o : List Nat} {k m : Nat} (hd : Dig l) (hm : l.length ≤ k / 32 + m) (hv : val o = val l / 2 ^ k % pw m) : val o = val l / 2 ^ k := by
  rw [hv]
  apply Nat.mod_eq_of_lt
  rw [div_bits (val l), val_div_pw hd]
  refine Nat.lt_of_le_of_lt (Nat.div_le_self _ _) (Nat.lt_of_lt_of_le (val_lt (hd.drop _)) (pw_mono ?_))
  rw [List.length_drop]
  omega
end Go.Proofs.Ytghpcimeobmonaa
/- The reference's Bit, Bits, high: what the calls do. -/
namespace Go.Proofs.Ytghpcimeobmonaa
set_option linter.unusedVariables false
set_option linter.unusedSimpArgs false
open Go.RowKit Plain

theorem below_drewN' (w : World) (n : Nat) : Below w.heap.size w (w.drewN n) := ⟨rfl, rfl, rfl, Nat.le_refl _, fun _ _ => rfl⟩
theorem pow_lt_31 {r : Nat} (h : r < 32) : (2 : Nat) ^ r < 4294967296 := Nat.lt_of_lt_of_le (Nat.pow_lt_pow_right (by omega) h) (by decide)
set_option maxRecDepth 100000 in
set_option maxHeartbeats 400000 in
theorem refBit_any {A : Option Addr} {c i : Nat} {l : List Nat} {w : World} (h : Nv w A c l) (hi : i ≤ 1000000000000) :
    Calls Try.prog 87 #[.slice A l.length c, .int .i64 (i : Int)] w fun e w' => e = .returned (.int .u64 ((val l / 2 ^ i % 2 : Nat) : Int)) ∧ ∃ n, w' = w.drewN n := by
  have hm := Lib.hid (bit_math h.dig i)
  obtain ⟨d, hd⟩ : ∃ d, Hid (l.getD (i / 32) 0 = d) := ⟨_, rfl⟩
  have h3 := Lib.hid (pow_lt_31 (Nat.mod_lt i (show 0 < 32 by omega)))
  have hdd : d < 4294967296 := hd.out ▸ h.dig.getD _
  obtain ⟨p, hp, hp1, hp2⟩ : ∃ p : Nat, Hid (2 ^ (i % 32) = p) ∧ 1 ≤ p ∧ p < 4294967296 := ⟨_, rfl, Nat.one_le_two_pow, h3.out⟩
  have ht : ((i : Int) % 32).toNat = i % 32 := by omega
  have hpi : ((2 : Int) ^ (i % 32)) = (p : Int) := by rw [← hp.out]; simp
  have hw : IntKind.u64.wrap (p : Int) = (p : Int) := by rw [wrap_u64]; omega
  obtain ⟨x, hx, hxx⟩ : ∃ x : Nat, Hid (d / p = x) ∧ IntKind.u64.wrap ((d : Int) / (p : Int)) = (x : Int) := ⟨d / p, rfl, by
    have h1 : d / p ≤ d := Nat.div_le_self _ _
    rw [wrap_u64, ← Int.natCast_ediv]
    generalize d / p = x at *
    omega⟩
  go_enter Try.func87, Try.ntmps87
  go_wp2
  go_quiet ((go_at_call 90; refine Calls.quiet_of_same ((refDigit_at (i := i / 32) (h.below (below_drewN' _ _)) ((i : Int) / 32) (by omega) (by omega) hd).mono fun _ _ hh => ⟨hh.1, hh.2.symm⟩)))
  go_wp2
  go_ret
  refine ⟨?_, _, rfl⟩
  rw [← hm.out, hd.out, hp.out, hx.out]
  rfl

def RBtInv (l : List Nat) (w : World) (v : Value) (wr : World) : Prop := ∃ k n : Nat, k ≤ 32 * l.length ∧ v = .int .i64 (k : Int) ∧ Hid (val l < 2 ^ k) ∧ wr = w.drewN n
theorem rbits_end {x k : Nat} (h : x < 2 ^ k) (hb : k = 0 ∨ x / 2 ^ (k - 1) % 2 = 1) : bitLen x = k := by
  rcases Nat.eq_zero_or_pos k with h0 | h0
  · subst h0
    rw [Nat.pow_zero] at h
    rw [show x = 0 by omega]; rfl
  · obtain ⟨j, rfl⟩ : ∃ j, k = j + 1 := ⟨k - 1, by omega⟩
    rw [Nat.add_sub_cancel] at hb
    refine bitLen_eq ?_ h
    have h1 : x / 2 ^ j ≠ 0 := by omega
    rcases Nat.lt_or_ge x (2 ^ j) with hlt | hge
    · exact absurd (Nat.div_eq_of_lt hlt) h1
    · exact hge
theorem rbits_step {x k : Nat} (h : x < 2 ^ (k + 1)) (hb : x / 2 ^ k % 2 = 0) : x < 2 ^ k := by
  have h1 : x / 2 ^ k < 2 := Nat.div_lt_of_lt_mul (by rw [Nat.pow_succ] at h; omega)
  rcases Nat.lt_or_ge x (2 ^ k) with hlt | hge
  · exact hlt
  · have := Nat.div_pos hge (Nat.two_pow_pos k)
    omega
set_option maxRecDepth 100000 in
set_option maxHeartbeats 1000000 in
theorem refBits_any {A : Option Addr} {c : Nat} {l : List Nat} {w : World} (h : Nv w A c l) (hl : l.length ≤ 5000000000) :
    Calls Try.prog 85 #[.slice A l.length c] w fun e w' => e = .returned (.int .i64 ((bitLen (val l) : Nat) : Int)) ∧ ∃ n, w' = w.drewN n := by
  have hlt := Lib.hid (show val l < 2 ^ (32 * l.length) by rw [← pw_bits]; exact val_lt h.dig)
  go_enter Try.func85, Try.ntmps85
  go_wp2
  go_loopw [3] (fun v wr => RBtInv l w v wr) (fun v _ => (intOf v).toNat)
  case atStart => exact ⟨32 * l.length, 0, Nat.le_refl _, by simp, hlt, rfl⟩
  case round =>
    obtain ⟨k, n, hk, rfl, hx, rfl⟩ := hrel
    rcases k with _ | j
    · have hv := Lib.hid (rbits_end hx.out (.inl rfl))
      have hd0 : decide ((0 : Int) < ((0 : Nat) : Int)) = false := by decide
      go_wp2
      go_ret
      exact ⟨by rw [hv.out]; rfl, _, rfl⟩
    · have hd0 : decide (0 < j + 1) = true := by simp
      have hj : ((j + 1 : Nat) : Int) - 1 = (j : Int) := by omega
      obtain ⟨b, hb⟩ : ∃ b, Hid (val l / 2 ^ j % 2 = b) := ⟨_, rfl⟩
      have hb2 : b < 2 := hb.out ▸ Nat.mod_lt _ (by omega)
      go_wp2_with fail
      refine (refBit_any (i := j) (h.below (below_drewN' w n)) (by omega)).mono ?_
      rintro e w1 ⟨rfl, m, rfl⟩
      rw [hb.out]
      rcases (show b = 0 ∨ b = 1 by omega) with rfl | rfl
      · have hx2 := Lib.hid (rbits_step hx.out hb.out)
        go_wp2
        go_roundw
        case rel => exact ⟨j, n + m, by omega, rfl, hx2, rfl⟩
        case measure => simp [intOf]
      · have hv := Lib.hid (rbits_end hx.out (.inr hb.out))
        go_wp2
        go_ret
        exact ⟨by rw [hv.out]; rfl, n + m, rfl⟩

def RHiInv (l : List Nat) (k q : Nat) (w : World) (v i : Value) (wr : World) : Prop :=
  ∃ (m : Nat) (o : List Nat), i = .int .i64 ((q + m : Nat) : Int) ∧ (m = 0 ∨ q + m ≤ l.length) ∧ Hid (o.length = m) ∧ Dig o ∧ OwnD wr w.heap.size v o ∧ Hid (val o = val l / 2 ^ k % pw m) ∧ Below w.heap.size w wr
set_option maxRecDepth 100000 in
set_option maxHeartbeats 1000000 in
theorem refHigh_any {A : Option Addr} {c k : Nat} {l : List Nat} {w : World} (h : Nv w A c l) (hl : l.length ≤ 5000000000) (hk : k ≤ 1000000000000) :
    Calls Try.prog 86 #[.slice A l.length c, .int .i64 (k : Int)] w (RetNat (val l / 2 ^ k) l.length w) := by
  have h3 := Lib.hid (pow_lt_31 (Nat.mod_lt k (show 0 < 32 by omega)))
  obtain ⟨p, hp, hp1, hp2⟩ : ∃ p : Nat, Hid (2 ^ (k % 32) = p) ∧ 1 ≤ p ∧ p < 4294967296 := ⟨_, rfl, Nat.one_le_two_pow, h3.out⟩
  have ht : ((k : Int) % 32).toNat = k % 32 := by omega
  have hpi : ((2 : Int) ^ (k % 32)) = (p : Int) := by rw [← hp.out]; simp
  have hw : IntKind.u64.wrap (p : Int) = (p : Int) := by rw [wrap_u64]; omega
  obtain ⟨q, hq, hkd⟩ : ∃ q : Nat, Hid (k / 32 = q) ∧ (k : Int) / 32 = (q : Int) := ⟨k / 32, rfl, by omega⟩
  go_enter Try.func86, Try.ntmps86
  go_wp2
  go_loopw [5, 6] (fun v i wr => RHiInv l k q w v i wr) (fun _ i _ => l.length - (intOf i).toNat)
  case atStart => exact ⟨0, [], by simp, .inl rfl, rfl, Dig.nil, OwnD.nil _ _, by show _ = _; simp [val, pw, Nat.mod_one], Below.refl _ _⟩
  case round =>
    obtain ⟨m, o, rfl, hmm, ho, hod, hown, hval, hbel⟩ := hrel
    obtain ⟨i, hi⟩ : ∃ i, Hid (q + m = i) := ⟨_, rfl⟩
    have hm1 : m ≤ l.length := by omega
    rw [hi.out] at hmm ⊢
    by_cases hlt : i < l.length
    · obtain ⟨x, hx⟩ : ∃ d, Hid (l.getD i 0 = d) := ⟨_, rfl⟩
      obtain ⟨y, hy⟩ : ∃ d, Hid (l.getD (i + 1) 0 = d) := ⟨_, rfl⟩
      have hxb : x < 4294967296 := hx.out ▸ h.dig.getD _
      have hyb : y < 4294967296 := hy.out ▸ h.dig.getD _
      have hdig := Lib.hid (high_math h.dig k m)
      obtain ⟨s, hs, hsb, hsi⟩ : ∃ s : Nat, Hid (x + 4294967296 * y = s) ∧ s < 18446744073709551616 ∧ (x : Int) + (y : Int) * 4294967296 = (s : Int) := ⟨_, rfl, by omega, by omega⟩
      obtain ⟨z, hz, hzz, hzb⟩ : ∃ z : Nat, Hid (s / p = z) ∧ (s : Int) / (p : Int) = (z : Int) ∧ z < 18446744073709551616 := ⟨s / p, rfl, by rw [← Int.natCast_ediv], Nat.lt_of_le_of_lt (Nat.div_le_self _ _) hsb⟩
      have hdg2 := Lib.hid (high_step ho.out hval.out (show val l / 2 ^ k / pw m % 4294967296 = z % 4294967296 by
        rw [hdig.out, hq.out, hi.out, hx.out, hy.out, hp.out, hs.out, hz.out]))
      have hcs : (#[Value.int .u32 ((z : Int) % 4294967296)] : Array Value) = (u32s [z % 4294967296]).toArray := by simp [u32s]
      have hrd := (row_alloc wr hcs).rd
      clear hcs
      go_wp2_with fail
      refine (refDigit_at (i := i) (h.below hbel) _ rfl (by omega) hx).mono ?_
      rintro e w1 ⟨rfl, rfl⟩
      go_wp2_with fail
      refine (refDigit_at (i := i + 1) (h.below hbel) _ rfl (by omega) hy).mono ?_
      rintro e w1 ⟨rfl, rfl⟩
      go_wp2_with (at_builtin; refine wpList_app _ rfl rfl _ _ rfl w.heap.size _ o rfl (hown.alloc _) (some ⟨wr.heap.size, 0, none⟩) 1 1 [z % 4294967296] rfl hrd rfl ?_ ?_ ?_; (rw [ho.out]; omega); (have := hbel.size; simp; omega); intro v' w2 hown2 hgrow2)
      go_roundw
      case rel => exact ⟨m + 1, o ++ [z % 4294967296], by rw [← Nat.add_assoc, hi.out]; rfl, .inr (by have := hi.out; omega), by show (o ++ [_]).length = m + 1; rw [List.length_append, ho.out]; rfl, hod.snoc (Nat.mod_lt _ (by omega)), hown2, hdg2, own_snoc hown hbel hown2 hgrow2⟩
      case measure => simp [intOf]; omega
    · obtain ⟨A', c', rfl, hnv⟩ := hown.nv hod (by rw [ho.out]; omega)
      have hfin := Lib.hid (high_fin h.dig (show l.length ≤ k / 32 + m by rw [hq.out, hi.out]; omega) hval.out)
      have hol : m ≤ l.length := by omega
      go_wp2_with fail
      refine (refTrim_any hnv (by rw [ho.out]; omega)).mono ?_
      rintro e w1 ⟨A1, c1, l1, rfl, h1, h2, h3, h4⟩
      go_wp2
      go_ret
      exact ⟨A1, c1, l1, rfl, h1, hfin.out ▸ h2, by rw [ho.out] at h3; omega, hbel.trans (h4.mono hbel.size)⟩
end Go.Proofs.Ytghpcimeobmonaa
/- Long division, binary digit by binary digit: plain arithmetic. -/
namespace Go.Proofs.Ytghpcimeobmonaa
set_option linter.unusedVariables false
set_option linter.unusedSimpArgs false
open Plain

theorem half_step (a j : Nat) : a / 2 ^ j = 2 * (a / 2 ^ (j + 1)) + a / 2 ^ j % 2 := by
  rw [Nat.pow_succ, ← Nat.div_div_eq_div_mul]
  omega
theorem ldiv_lt {a b Q R Q2 R2 j : Nat} (h : Q * b + R = a / 2 ^ (j + 1)) (h2 : Q2 = Q + Q) (h3 : R2 = R + R + a / 2 ^ j % 2) : Q2 * b + R2 = a / 2 ^ j := by
  rw [half_step a j, ← h, h2, h3, Nat.add_mul]
  omega
theorem ldiv_ge {a b Q R Q2 R2 j : Nat} (h : Q * b + R = a / 2 ^ (j + 1)) (h2 : Q2 = Q + Q + 1) (h3 : R2 = R + R + a / 2 ^ j % 2 - b) (hb : b ≤ R + R + a / 2 ^ j % 2) : Q2 * b + R2 = a / 2 ^ j := by
  rw [half_step a j, ← h, h2, h3, Nat.add_mul, Nat.add_mul, Nat.one_mul]
  omega
theorem ldiv_end {a b Q R : Nat} (h : Q * b + R = a / 2 ^ 0) (hR : R < b) : Q = a / b ∧ R = a % b := by
  rw [Nat.pow_zero, Nat.div_one] at h
  have hb : 0 < b := by omega
  subst h
  refine ⟨?_, ?_⟩
  · rw [Nat.add_comm, Nat.add_mul_div_right _ _ hb, Nat.div_eq_of_lt hR, Nat.zero_add]
  · rw [Nat.add_comm, Nat.add_mul_mod_self_right, Nat.mod_eq_of_lt hR]
end Go.Proofs.Ytghpcimeobmonaa
/- The reference's DivMod, GCD: what the calls do. -/
namespace Go.Proofs.Ytghpcimeobmonaa
set_option linter.unusedVariables false
set_option linter.unusedSimpArgs false
open Go.RowKit Plain

def RDivInv (a b la lb : Nat) (w : World) (q r i : Value) (wr : World) : Prop :=
  ∃ (k Q R cq cr : Nat) (A B : Option Addr) (lq lr : List Nat), i = .int .i64 ((k : Int) - 1) ∧ k ≤ 32 * la + 1 ∧ q = .slice A lq.length cq ∧ r = .slice B lr.length cr ∧ Nv wr A cq lq ∧ Nv wr B cr lr ∧ Hid (NatIs lq Q) ∧ Hid (NatIs lr R) ∧
    Hid (Q * b + R = a / 2 ^ k) ∧ Hid (R < b) ∧ lq.length ≤ la ∧ lr.length ≤ lb ∧ Below w.heap.size w wr
theorem rd_len {a b Q R k la : Nat} {l lq : List Nat} (hl : Dig l) (ha : val l = a) (hla : l.length = la) (hb : 0 < b) (hQ : NatIs lq Q) (h : Q * b + R = a / 2 ^ k) : lq.length ≤ la := by
  refine length_le_of_lt hQ.canon ?_
  rw [hQ.val, ← hla]
  have h1 : Q * 1 ≤ Q * b := Nat.mul_le_mul_left _ hb
  have h2 : a / 2 ^ k ≤ a := Nat.div_le_self _ _
  have h3 := val_lt hl
  omega
theorem rd_rlen {b R : Nat} {lb lr : List Nat} (hl : Dig lb) (hb : val lb = b) (hR : NatIs lr R) (h : R < b) : lr.length ≤ lb.length := by
  refine length_le_of_lt hR.canon ?_
  rw [hR.val]
  have := val_lt hl
  omega
/-- Where the long division starts: the highest digits are less than the divisor. -/
theorem rd_start {a b k : Nat} (hb : 0 < b) (hk : bitLen a ≤ k + (bitLen b - 1)) : a / 2 ^ k < b := by
  have hb1 : 2 ^ (bitLen b - 1) ≤ b := by
    unfold bitLen
    rw [if_neg (by omega), Nat.add_sub_cancel]
    exact Nat.log2_self_le (by omega)
  have ha1 : a < 2 ^ bitLen a := by
    unfold bitLen
    split
    · subst_vars; simp
    · exact Nat.lt_log2_self
  refine Nat.lt_of_lt_of_le ((Nat.div_lt_iff_lt_mul (Nat.two_pow_pos k)).2 ?_) hb1
  rw [← Nat.pow_add]
  exact Nat.lt_of_lt_of_le ha1 (Nat.pow_le_pow_right (by omega) (by omega))
theorem bitLen_le {l : List Nat} (hd : Dig l) : bitLen (val l) ≤ 32 * l.length := by
  unfold bitLen
  split
  · omega
  · rename_i h
    have h1 := (Nat.log2_lt h (k := 32 * l.length)).2 (by rw [← pw_bits]; exact val_lt hd)
    omega

set_option maxRecDepth 100000 in
set_option maxHeartbeats 2000000 in
theorem refDivMod_any {A B : Option Addr} {ca cb : Nat} {la lb : List Nat} {w : World} (ha : Nv w A ca la) (hb : Nv w B cb lb) (hcb : Canon lb) (hna : la.length ≤ 400000000) (hnb : lb.length ≤ 400000000) :
    Calls Try.prog 63 #[.slice A la.length ca, .slice B lb.length cb] w (RetDiv (val la) (val lb) (la.length + lb.length) w) := by
  rcases Nat.eq_zero_or_pos lb.length with h0 | h0
  · obtain rfl : lb = [] := List.eq_nil_of_length_eq_zero h0
    clear h0
    go_enter Try.func63, Try.ntmps63
    go_wp2
    refine bodyPost_ret (results_tmp3 rfl _ _ _) rfl ?_
    exact ⟨none, 0, [], none, 0, [], rfl, nv_nil' _, nv_nil' _, NatIs.nil, NatIs.nil, by simp, by simp, Below.refl _ _⟩
  · have hbpos : Hid (0 < val lb) := by
      rcases Nat.eq_zero_or_pos (val lb) with hz | hz
      · have : NatIs lb 0 := ⟨hb.dig, hcb, hz⟩
        rw [this.zero_iff.2 rfl] at h0
        simp at h0
      · exact hz
    obtain ⟨a, hea⟩ : ∃ a, Hid (val la = a) := ⟨_, rfl⟩
    obtain ⟨b, heb⟩ : ∃ b, Hid (val lb = b) := ⟨_, rfl⟩
    rw [heb.out] at hbpos
    rw [hea.out, heb.out]
    have hne : (((lb.length : Nat) : Int) == 0) = false := by rw [beq_eq_false_iff_ne]; omega
    have hba := bitLen_le ha.dig
    have hbb := bitLen_le hb.dig
    rw [hea.out] at hba
    rw [heb.out] at hbb
    have hstart := fun k => rd_start (a := a) (k := k) hbpos.out
    obtain ⟨x, hx⟩ : ∃ x, Hid (bitLen a = x) := ⟨_, rfl⟩
    obtain ⟨y, hy⟩ : ∃ y, Hid (bitLen b = y) := ⟨_, rfl⟩
    rw [hx.out] at hba
    rw [hy.out] at hbb
    simp only [hx.out, hy.out] at hstart
    have hstart' := Lib.hid hstart
    clear hstart
    have hy1 : 1 ≤ y := by
      rw [← hy.out]; unfold bitLen; rw [if_neg (by have := hbpos.out; omega)]; omega
    have hm1 : (if (1 : Int) < (y : Int) then (y : Int) else 1) = (y : Int) := by split <;> omega
    clear h0
    go_enter Try.func63, Try.ntmps63
    go_wp2_with fail
    refine (refBits_any ha (by omega)).mono ?_
    rintro e w1 ⟨rfl, n1, rfl⟩
    rw [hea.out, hx.out]
    go_wp2_with fail
    refine (refBits_any (hb.below (below_drewN' w n1)) (by omega)).mono ?_
    rintro e w1 ⟨rfl, n2, rfl⟩
    rw [heb.out, hy.out]
    rcases (show (∃ k, (x : Int) - (y : Int) + 1 = (k : Nat) ∧ decide ((k : Int) ≤ 0) = false ∧ 1 ≤ k ∧ k ≤ x ∧ x + 1 = y + k) ∨ (∃ k, k = 0 ∧ decide ((x : Int) - (y : Int) + 1 ≤ 0) = true ∧ x + 1 ≤ y) by
      rcases Nat.lt_or_ge x y with h | h
      · exact .inr ⟨0, rfl, decide_eq_true (by omega), by omega⟩
      · exact .inl ⟨x + 1 - y, by omega, decide_eq_false (by omega), by omega, by omega, by omega⟩) with ⟨k, hk1, hk2, hk3, hk4, hk5⟩ | ⟨k, rfl, hk2, hk3⟩
    · go_wp2_with fail
      refine (refHigh_any (k := k) (ha.below (below_drewN' w (n1 + n2))) (by omega) (by omega)).mono ?_
      rintro e w1 ⟨A1, c1, l1, rfl, h1, i1, m1, b1⟩
      have hs := Lib.hid (hstart'.out k (by omega))
      have hk0 : k ≤ 32 * la.length + 1 := by omega
      clear hk1 hk2 hk3 hk4 hk5
      go_wp2
      go_loopw [8, 9, 10] (fun q r i wr => RDivInv a b la.length lb.length w q r i wr) (fun _ _ i _ => (intOf i + 1).toNat)
      case atStart => exact ⟨k, 0, a / 2 ^ k, 0, c1, none, A1, [], l1, rfl, hk0, rfl, rfl, nv_nil' _, h1, NatIs.nil, hea.out ▸ i1, by show _ = _; rw [Nat.zero_mul, Nat.zero_add], hs.out, by simp, rd_rlen hb.dig heb.out (hea.out ▸ i1) hs.out, (below_drewN' w (n1 + n2)).trans b1⟩
      case round =>
        obtain ⟨k', Q, R, cq, cr, Aq, Br, lq, lr, rfl, hk', rfl, rfl, nq, nr, iq, ir, heq, hlt, lenq, lenr, hbel⟩ := hrel
        rcases k' with _ | j
        · have hfin := ldiv_end heq.out hlt.out
          have hf1 := Lib.hid (show NatIs lq (if b = 0 then 0 else a / b) by rw [if_neg (by have := hbpos.out; omega), ← hfin.1]; exact iq.out)
          have hf2 := Lib.hid (show NatIs lr (if b = 0 then 0 else a % b) by rw [if_neg (by have := hbpos.out; omega), ← hfin.2]; exact ir.out)
          have he := Lib.hid (show (if b = 0 then (8 : Int) else 0) = 0 by rw [if_neg (by have := hbpos.out; omega)])
          clear hfin
          have hd0 : decide ((0 : Int) ≤ ((0 : Nat) : Int) - 1) = false := by decide
          go_wp2
          refine bodyPost_ret (results_tmp3 rfl _ _ _) rfl ?_
          exact ⟨Aq, cq, lq, Br, cr, lr, by rw [he.out]; rfl, nq, nr, hf1, hf2, by omega, by omega, hbel⟩
        · have hj : ((j + 1 : Nat) : Int) - 1 = (j : Int) := by omega
          have hd0 : decide ((0 : Int) ≤ (j : Int)) = true := decide_eq_true (by omega)
          obtain ⟨t, ht⟩ : ∃ t, Hid (a / 2 ^ j % 2 = t) := ⟨_, rfl⟩
          have ht2 : t < 2 := ht.out ▸ Nat.mod_lt _ (by omega)
          have htp : t < pw 2 := by simp only [pw]; omega
          rw [hj]
          go_wp2_with fail
          refine (refAdd_any _ _ _ _ _ _ _ nq nq (by omega) (by omega)).mono ?_
          rintro e w2 ⟨A2, c2, l2, rfl, n2', i2, m2, b2⟩
          have i2' := Lib.hid (show NatIs l2 (Q + Q) by have h := i2; rw [iq.out.val] at h; exact h)
          have bb2 := hbel.trans (b2.mono hbel.size)
          clear i2
          go_wp2_with fail
          refine (refAdd_any _ _ _ _ _ _ _ (nr.below b2) (nr.below b2) (by omega) (by omega)).mono ?_
          rintro e w3 ⟨A3, c3, l3, rfl, n3, i3, m3, b3⟩
          have i3' := Lib.hid (show NatIs l3 (R + R) by have h := i3; rw [ir.out.val] at h; exact h)
          have bb3 := bb2.trans (b3.mono bb2.size)
          clear i3
          go_wp2_with fail
          refine (refBit_any (i := j) (ha.below bb3) (by omega)).mono ?_
          rintro e w4 ⟨rfl, n4, rfl⟩
          rw [hea.out, ht.out]
          have bb4 := bb3.trans ((below_drewN' w3 n4).mono bb3.size)
          go_wp2_with fail
          refine (refFromUint_any t _ htp).mono ?_
          rintro e w5 ⟨A5, c5, l5, rfl, n5, i5, m5, b5⟩
          have i5' := Lib.hid i5
          have bb5 := bb4.trans (b5.mono bb4.size)
          clear i5
          go_wp2_with fail
          refine (refAdd_any _ _ _ _ _ _ _ ((n3.below (below_drewN' w3 n4)).below b5) n5 (by omega) (by omega)).mono ?_
          rintro e w6 ⟨A6, c6, l6, rfl, n6, i6, m6, b6⟩
          have i6' := Lib.hid (show NatIs l6 (R + R + t) by have h := i6; rw [i3'.out.val, i5'.out.val] at h; exact h)
          have bb6 := bb5.trans (b6.mono bb5.size)
          clear i6
          go_wp2_with fail
          refine (refCmp_any n6 (hb.below bb6) (by omega) (by omega)).mono ?_
          rintro e w7 ⟨rfl, rfl⟩
          obtain ⟨cc, hcc⟩ : ∃ cc, Hid (cmpI (val l6) (val lb) = cc) := ⟨_, rfl⟩
          rw [hcc.out]
          have n26 := (((n2'.below b3).below (below_drewN' w3 n4)).below b5).below b6
          by_cases hge : b ≤ R + R + t
          · have hdc : decide ((0 : Int) ≤ cc) = true := decide_eq_true (by
              rw [← hcc.out]
              have h := cmpI_neg_iff (val l6) (val lb)
              rw [i6'.out.val, heb.out] at h ⊢
              omega)
            have hge' := Lib.hid hge
            clear hge
            go_wp2_with fail
            refine (refSub_any _ _ _ _ _ _ _ n6 (hb.below bb6) (by omega) (by omega)).mono ?_
            rintro e w8 ⟨A8, c8, l8, rfl, n8, i8, m8, b8⟩
            have i8' := Lib.hid (show NatIs l8 (R + R + t - b) by have h := i8; rw [i6'.out.val, heb.out] at h; exact h)
            have bb8 := bb6.trans (b8.mono bb6.size)
            clear i8
            go_wp2_with fail
            refine (refFromUint_any 1 _ (by simp [pw])).mono ?_
            rintro e w9 ⟨A9, c9, l9, rfl, n9, i9, m9, b9⟩
            have i9' := Lib.hid i9
            have bb9 := bb8.trans (b9.mono bb8.size)
            clear i9
            go_wp2_with fail
            refine (refAdd_any _ _ _ _ _ _ _ ((n26.below b8).below b9) n9 (by omega) (by omega)).mono ?_
            rintro e w10 ⟨A10, c10, l10, rfl, n10, i10, m10, b10⟩
            have i10' := Lib.hid (show NatIs l10 (Q + Q + 1) by have h := i10; rw [i2'.out.val, i9'.out.val] at h; exact h)
            have bb10 := bb9.trans (b10.mono bb9.size)
            clear i10
            have hq := Lib.hid (ldiv_ge (Q2 := Q + Q + 1) (R2 := R + R + t - b) heq.out rfl (by rw [ht.out]) (by rw [ht.out]; exact hge'.out))
            have hl2 := Lib.hid (show R + R + t - b < b by have := hlt.out; omega)
            go_wp2
            go_roundw
            case rel => exact ⟨j, Q + Q + 1, R + R + t - b, c10, c8, A10, A8, l10, l8, rfl, by omega, rfl, rfl, n10, (n8.below b9).below b10, i10', i8', hq, hl2, rd_len ha.dig hea.out rfl hbpos.out i10'.out hq.out, rd_rlen hb.dig heb.out i8'.out hl2.out, bb10⟩
            case measure => simp [intOf]
          · have hdc : decide ((0 : Int) ≤ cc) = false := decide_eq_false (by
              rw [← hcc.out]
              have h := cmpI_neg_iff (val l6) (val lb)
              rw [i6'.out.val, heb.out] at h ⊢
              omega)
            have hq := Lib.hid (ldiv_lt (Q2 := Q + Q) (R2 := R + R + t) heq.out rfl (by rw [ht.out]))
            have hl2 := Lib.hid (show R + R + t < b by omega)
            clear hge
            go_wp2
            go_roundw
            case rel => exact ⟨j, Q + Q, R + R + t, c2, c6, A2, A6, l2, l6, rfl, by omega, rfl, rfl, n26, n6, i2', i6', hq, hl2, rd_len ha.dig hea.out rfl hbpos.out i2'.out hq.out, rd_rlen hb.dig heb.out i6'.out hl2.out, bb6⟩
            case measure => simp [intOf]
    · go_wp2_with fail
      refine (refHigh_any (k := 0) (ha.below (below_drewN' w (n1 + n2))) (by omega) (by omega)).mono ?_
      rintro e w1 ⟨A1, c1, l1, rfl, h1, i1, m1, b1⟩
      have hs := Lib.hid (hstart'.out 0 (by omega))
      have hk0 : 0 ≤ 32 * la.length + 1 := by omega
      clear hk2 hk3
      go_wp2
      go_loopw [8, 9, 10] (fun q r i wr => RDivInv a b la.length lb.length w q r i wr) (fun _ _ i _ => (intOf i + 1).toNat)
      case atStart => exact ⟨0, 0, a / 2 ^ 0, 0, c1, none, A1, [], l1, rfl, hk0, rfl, rfl, nv_nil' _, h1, NatIs.nil, hea.out ▸ i1, by show _ = _; rw [Nat.zero_mul, Nat.zero_add], hs.out, by simp, rd_rlen hb.dig heb.out (hea.out ▸ i1) hs.out, (below_drewN' w (n1 + n2)).trans b1⟩
      case round =>
        obtain ⟨k', Q, R, cq, cr, Aq, Br, lq, lr, rfl, hk', rfl, rfl, nq, nr, iq, ir, heq, hlt, lenq, lenr, hbel⟩ := hrel
        rcases k' with _ | j
        · have hfin := ldiv_end heq.out hlt.out
          have hf1 := Lib.hid (show NatIs lq (if b = 0 then 0 else a / b) by rw [if_neg (by have := hbpos.out; omega), ← hfin.1]; exact iq.out)
          have hf2 := Lib.hid (show NatIs lr (if b = 0 then 0 else a % b) by rw [if_neg (by have := hbpos.out; omega), ← hfin.2]; exact ir.out)
          have he := Lib.hid (show (if b = 0 then (8 : Int) else 0) = 0 by rw [if_neg (by have := hbpos.out; omega)])
          clear hfin
          have hd0 : decide ((0 : Int) ≤ ((0 : Nat) : Int) - 1) = false := by decide
          go_wp2
          refine bodyPost_ret (results_tmp3 rfl _ _ _) rfl ?_
          exact ⟨Aq, cq, lq, Br, cr, lr, by rw [he.out]; rfl, nq, nr, hf1, hf2, by omega, by omega, hbel⟩
        · have hj : ((j + 1 : Nat) : Int) - 1 = (j : Int) := by omega
          have hd0 : decide ((0 : Int) ≤ (j : Int)) = true := decide_eq_true (by omega)
          obtain ⟨t, ht⟩ : ∃ t, Hid (a / 2 ^ j % 2 = t) := ⟨_, rfl⟩
          have ht2 : t < 2 := ht.out ▸ Nat.mod_lt _ (by omega)
          have htp : t < pw 2 := by simp only [pw]; omega
          rw [hj]
          go_wp2_with fail
          refine (refAdd_any _ _ _ _ _ _ _ nq nq (by omega) (by omega)).mono ?_
          rintro e w2 ⟨A2, c2, l2, rfl, n2', i2, m2, b2⟩
          have i2' := Lib.hid (show NatIs l2 (Q + Q) by have h := i2; rw [iq.out.val] at h; exact h)
          have bb2 := hbel.trans (b2.mono hbel.size)
          clear i2
          go_wp2_with fail
          refine (refAdd_any _ _ _ _ _ _ _ (nr.below b2) (nr.below b2) (by omega) (by omega)).mono ?_
          rintro e w3 ⟨A3, c3, l3, rfl, n3, i3, m3, b3⟩
          have i3' := Lib.hid (show NatIs l3 (R + R) by have h := i3; rw [ir.out.val] at h; exact h)
          have bb3 := bb2.trans (b3.mono bb2.size)
          clear i3
          go_wp2_with fail
          refine (refBit_any (i := j) (ha.below bb3) (by omega)).mono ?_
          rintro e w4 ⟨rfl, n4, rfl⟩
          rw [hea.out, ht.out]
          have bb4 := bb3.trans ((below_drewN' w3 n4).mono bb3.size)
          go_wp2_with fail
          refine (refFromUint_any t _ htp).mono ?_
          rintro e w5 ⟨A5, c5, l5, rfl, n5, i5, m5, b5⟩
          have i5' := Lib.hid i5
          have bb5 := bb4.trans (b5.mono bb4.size)
          clear i5
          go_wp2_with fail
          refine (refAdd_any _ _ _ _ _ _ _ ((n3.below (below_drewN' w3 n4)).below b5) n5 (by omega) (by omega)).mono ?_
          rintro e w6 ⟨A6, c6, l6, rfl, n6, i6, m6, b6⟩
          have i6' := Lib.hid (show NatIs l6 (R + R + t) by have h := i6; rw [i3'.out.val, i5'.out.val] at h; exact h)
          have bb6 := bb5.trans (b6.mono bb5.size)
          clear i6
          go_wp2_with fail
          refine (refCmp_any n6 (hb.below bb6) (by omega) (by omega)).mono ?_
          rintro e w7 ⟨rfl, rfl⟩
          obtain ⟨cc, hcc⟩ : ∃ cc, Hid (cmpI (val l6) (val lb) = cc) := ⟨_, rfl⟩
          rw [hcc.out]
          have n26 := (((n2'.below b3).below (below_drewN' w3 n4)).below b5).below b6
          by_cases hge : b ≤ R + R + t
          · have hdc : decide ((0 : Int) ≤ cc) = true := decide_eq_true (by
              rw [← hcc.out]
              have h := cmpI_neg_iff (val l6) (val lb)
              rw [i6'.out.val, heb.out] at h ⊢
              omega)
            have hge' := Lib.hid hge
            clear hge
            go_wp2_with fail
            refine (refSub_any _ _ _ _ _ _ _ n6 (hb.below bb6) (by omega) (by omega)).mono ?_
            rintro e w8 ⟨A8, c8, l8, rfl, n8, i8, m8, b8⟩
            have i8' := Lib.hid (show NatIs l8 (R + R + t - b) by have h := i8; rw [i6'.out.val, heb.out] at h; exact h)
            have bb8 := bb6.trans (b8.mono bb6.size)
            clear i8
            go_wp2_with fail
            refine (refFromUint_any 1 _ (by simp [pw])).mono ?_
            rintro e w9 ⟨A9, c9, l9, rfl, n9, i9, m9, b9⟩
            have i9' := Lib.hid i9
            have bb9 := bb8.trans (b9.mono bb8.size)
            clear i9
            go_wp2_with fail
            refine (refAdd_any _ _ _ _ _ _ _ ((n26.below b8).below b9) n9 (by omega) (by omega)).mono ?_
            rintro e w10 ⟨A10, c10, l10, rfl, n10, i10, m10, b10⟩
            have i10' := Lib.hid (show NatIs l10 (Q + Q + 1) by have h := i10; rw [i2'.out.val, i9'.out.val] at h; exact h)
            have bb10 := bb9.trans (b10.mono bb9.size)
            clear i10
            have hq := Lib.hid (ldiv_ge (Q2 := Q + Q + 1) (R2 := R + R + t - b) heq.out rfl (by rw [ht.out]) (by rw [ht.out]; exact hge'.out))
            have hl2 := Lib.hid (show R + R + t - b < b by have := hlt.out; omega)
            go_wp2
            go_roundw
            case rel => exact ⟨j, Q + Q + 1, R + R + t - b, c10, c8, A10, A8, l10, l8, rfl, by omega, rfl, rfl, n10, (n8.below b9).below b10, i10', i8', hq, hl2, rd_len ha.dig hea.out rfl hbpos.out i10'.out hq.out, rd_rlen hb.dig heb.out i8'.out hl2.out, bb10⟩
            case measure => simp [intOf]
          · have hdc : decide ((0 : Int) ≤ cc) = false := decide_eq_false (by
              rw [← hcc.out]
              have h := cmpI_neg_iff (val l6) (val lb)
              rw [i6'.out.val, heb.out] at h ⊢
              omega)
            have hq := Lib.hid (ldiv_lt (Q2 := Q + Q) (R2 := R + R + t) heq.out rfl (by rw [ht.out]))
            have hl2 := Lib.hid (show R + R + t < b by omega)
            clear hge
            go_wp2
            go_roundw
            case rel => exact ⟨j, Q + Q, R + R + t, c2, c6, A2, A6, l2, l6, rfl, by omega, rfl, rfl, n26, n6, i2', i6', hq, hl2, rd_len ha.dig hea.out rfl hbpos.out i2'.out hq.out, rd_rlen hb.dig heb.out i6'.out hl2.out, bb6⟩
            case measure => simp [intOf]
end Go.Proofs.Ytghpcimeobmonaa
/- The reference's GCD: what the calls do. -/
namespace Go.Proofs.Ytghpcimeobmonaa
set_option linter.unusedVariables false
set_option linter.unusedSimpArgs false
open Go.RowKit Plain

set_option maxRecDepth 100000 in
set_option maxHeartbeats 1000000 in
theorem refGcd_any {A B : Option Addr} {ca cb : Nat} {la lb : List Nat} {w : World} (ha : Nv w A ca la) (hb : Nv w B cb lb) (hca : Canon la) (hcb : Canon lb) (hna : la.length ≤ 400000000) (hnb : lb.length ≤ 400000000) :
    Calls Try.prog 62 #[.slice A la.length ca, .slice B lb.length cb] w (RetNat (Nat.gcd (val la) (val lb)) 400000000 w) := by
  have ia : NatIs la (val la) := ⟨ha.dig, hca, rfl⟩
  have ib : NatIs lb (val lb) := ⟨hb.dig, hcb, rfl⟩
  go_enter Try.func62, Try.ntmps62
  go_wp2
  go_loopg [0, 1] (val lb) (fun g a b wr => GcdInv (Nat.gcd (val la) (val lb)) 400000000 w g a b wr)
  case atStart => exact ⟨A, ca, la, B, cb, lb, val la, val lb, rfl, rfl, ha, hb, ia, ib, rfl, rfl, hna, hnb, Below.refl _ _⟩
  case round =>
    obtain ⟨A, ca, la', B, cb, lb', x, y, rfl, rfl, h1, h2, n1, n2, rfl, hG, m1, m2, hbel⟩ := hrel
    have hg2 := h2.big
    by_cases hz : lb'.length = 0
    · have hy : Hid (gk = 0) := by
        have : lb' = [] := List.eq_nil_of_length_eq_zero hz
        show gk = 0
        exact (n2.zero_iff).1 this
      have hd : decide (0 < lb'.length) = false := decide_eq_false (by omega)
      have hG2 := Lib.hid (show val la' = Nat.gcd (val la) (val lb) by rw [n1.val, ← hG.out, hy.out, Nat.gcd_zero_right])
      go_wp2_with fail
      refine (refTrim_any h1 (by omega)).mono ?_
      rintro e w1 ⟨A1, c1, l1, rfl, k1, k2, k3, k4⟩
      go_wp2
      go_ret
      exact ⟨A1, c1, l1, rfl, k1, hG2.out ▸ k2, by omega, hbel.trans (k4.mono hbel.size)⟩
    · have hy : Hid (gk ≠ 0) := fun e => hz (by rw [(n2.zero_iff).2 e]; rfl)
      have hd : decide (0 < lb'.length) = true := decide_eq_true (by omega)
      clear hz
      go_wp2_with fail
      refine (refDivMod_any h1 h2 n2.canon (by omega) (by omega)).mono ?_
      rintro e w3 ⟨A3, c3, q, B3, d3, r, rfl, hq, hr, nq, nr, lq, lr, b3⟩
      rw [n2.val, if_neg hy.out] at nr
      rw [n2.val, if_neg hy.out]
      rw [n1.val] at nr
      have hlt := Lib.hid (Nat.mod_lt x (Nat.pos_of_ne_zero hy.out))
      have hrl := Lib.hid (show r.length ≤ 400000000 from Nat.le_trans (length_le_of_lt nr.canon (by
        have h := val_lt n2.dig
        rw [n2.val] at h
        rw [nr.val]
        exact Nat.lt_trans hlt.out h)) m2)
      go_wp2
      go_roundg (x % gk)
      case measure => exact hlt.out
      case rel => exact ⟨B, cb, lb', B3, d3, r, gk, x % gk, rfl, rfl, h2.below b3, hr, n2, nr, rfl, by show Nat.gcd _ _ = _; rw [gcd_step]; exact hG.out, m2, hrl.out, hbel.trans (b3.mono hbel.size)⟩
end Go.Proofs.Ytghpcimeobmonaa
/- natural.Parse: what the call does. -/
namespace Go.Proofs.Ytghpcimeobmonaa
set_option linter.unusedVariables false
set_option linter.unusedSimpArgs false
open Go.RowKit Plain

/-- The bytes of a string as numbers. -/
def bytes (s : ByteArray) : List Nat := s.data.toList.map UInt8.toNat
theorem bytes_length (s : ByteArray) : (bytes s).length = s.size := by simp [bytes]
theorem bytes_get (s : ByteArray) (k : Nat) (h : k < s.size) : (bytes s).getD k 0 = (s[k]).toNat := by
  have hk : k < s.data.toList.length := by simpa using h
  rw [bytes, List.getD_eq_getElem?_getD, List.getElem?_map, List.getElem?_eq_getElem hk]
  rfl

def isDec (b : Nat) : Bool := decide (48 ≤ b ∧ b ≤ 57)
def decVal (l : List Nat) : Nat := l.foldl (fun v b => 10 * v + (b - 48)) 0
theorem decVal_snoc (l : List Nat) (b : Nat) : decVal (l ++ [b]) = 10 * decVal l + (b - 48) := by simp [decVal]
def parErr (l : List Nat) : Nat := if l = [] then 1 else if 600 < l.length then 3 else if l.all isDec = false then 2 else if l.getD 0 0 = 48 ∧ 1 < l.length then 2 else 0
def parVal (l : List Nat) : Nat := if parErr l = 0 then decVal l else 0

def RetPar (l : List Nat) (W : World) (e : Ending) (w' : World) : Prop :=
  ∃ A c r, e = .returned (.tuple #[.slice A r.length c, .int .i64 ((parErr l : Nat) : Int)]) ∧ Nv w' A c r ∧ NatIs r (parVal l) ∧ r.length ≤ 600 ∧ Below W.heap.size W w'

theorem retPar_err {l : List Nat} {w : World} {n : Nat} (h : parErr l = n) (h0 : n ≠ 0) (v : Value) (hv : v = .tuple #[.slice none 0 0, .int .i64 (n : Int)]) : RetPar l w (.returned v) w :=
  ⟨none, 0, [], by rw [hv, h]; rfl, nv_nil' _, by unfold parVal; rw [if_neg (by rw [h]; exact h0)]; exact NatIs.nil, by simp, Below.refl _ _⟩

theorem isEmpty_of (s : ByteArray) : s.toList.isEmpty = decide (s.size = 0) := by
  have h : decide (s = ByteArray.empty) = s.toList.isEmpty := decide_eq_emptyBytes s
  rw [← h, decide_eq_decide]
  constructor
  · rintro rfl; rfl
  · intro h0
    cases s with
    | mk d =>
      have : d = #[] := Array.eq_empty_of_size_eq_zero h0
      subst this; rfl
theorem bytes_nil (s : ByteArray) : bytes s = [] ↔ s.size = 0 := by
  rw [← bytes_length]; exact ⟨fun h => by rw [h]; rfl, List.eq_nil_of_length_eq_zero⟩
theorem all_take_succ (l : List Nat) (k : Nat) (hk : k < l.length) (h : (l.take k).all isDec = true) (hb : isDec (l.getD k 0) = true) : (l.take (k + 1)).all isDec = true := by
  rw [take_snoc' l k hk, List.all_append, h, Bool.true_and, List.all_cons, hb]; rfl
theorem not_all (l : List Nat) (k : Nat) (hk : k < l.length) (hb : isDec (l.getD k 0) = false) : l.all isDec = false := by
  rw [List.all_eq_false]
  refine ⟨l.getD k 0, ?_, by rw [hb]; decide⟩
  rw [List.getD_eq_getElem?_getD, List.getElem?_eq_getElem hk]
  exact List.getElem_mem hk
theorem all_get (l : List Nat) (k : Nat) (hk : k < l.length) (h : l.all isDec = true) : 48 ≤ l.getD k 0 ∧ l.getD k 0 ≤ 57 := by
  have := List.all_eq_true.1 h (l.getD k 0) (by rw [List.getD_eq_getElem?_getD, List.getElem?_eq_getElem hk]; exact List.getElem_mem hk)
  simpa [isDec] using this

/-- The outer loop: the digits of the number so far. -/
def ParInv (l : List Nat) (w : World) (v i : Value) (wr : World) : Prop :=
  ∃ (k : Nat) (o : List Nat), k ≤ l.length ∧ i = .int .i64 (k : Int) ∧ OwnD wr w.heap.size v o ∧ Dig o ∧ o.length ≤ k ∧ Hid (val o = decVal (l.take k)) ∧ Below w.heap.size w wr
/-- The inner loop: ten times the number, and a digit. -/
def ParInv2 (o : List Nat) (d : Nat) (w : World) (v c i : Value) (wr : World) : Prop :=
  ∃ (j cv : Nat) (lo : List Nat), j ≤ o.length ∧ i = .int .i64 (j : Int) ∧ c = .int .u64 (cv : Int) ∧ cv ≤ 9 ∧ Hid (lo.length = j) ∧ Dig lo ∧ OwnD wr w.heap.size v (lo ++ o.drop j) ∧
    Hid (val lo + pw j * cv = 10 * val (o.take j) + d) ∧ Below w.heap.size w wr

theorem drop_cons' {us : List Nat} {k : Nat} (h : k < us.length) : us.drop k = us.getD k 0 :: us.drop (k + 1) := by
  rw [List.drop_eq_getElem_cons h, List.getD_eq_getElem?_getD, List.getElem?_eq_getElem h]; rfl
theorem par_digit (P x a d c xk s : Nat) (h : x + P * c = 10 * a + d) (hs : s = 10 * xk + c) : x + P * (s % 4294967296) + 4294967296 * P * (s / 4294967296) = 10 * (a + P * xk) + d := by
  have h1 : P * s = P * (s % 4294967296) + 4294967296 * P * (s / 4294967296) := by
    rw [Nat.mul_comm 4294967296 P, Nat.mul_assoc, ← Nat.mul_add, Nat.mod_add_div]
  have h2 : P * s = 10 * (P * xk) + P * c := by rw [hs, Nat.mul_add, Nat.mul_left_comm]
  omega

theorem par_cell {w : World} {g j x : Nat} {lo o : List Nat} (h : ∀ i, i < (lo ++ o.drop j).length → w.cell? ⟨g, i, none⟩ = some (.int .u32 (((lo ++ o.drop j).getD i 0 : Nat) : Int))) (hlo : Hid (lo.length = j)) (hj : j < o.length) (hx : Hid (o.getD j 0 = x)) :
    w.cell? ⟨g, j, none⟩ = some (.int .u32 (x : Int)) := by
  rw [h j (by rw [List.length_append, List.length_drop, hlo.out]; omega)]
  congr 3
  rw [← hx.out, List.getD_eq_getElem?_getD, List.getElem?_append_right (by rw [hlo.out]; omega), hlo.out, Nat.sub_self, List.getElem?_drop, List.getD_eq_getElem?_getD]
  rfl
theorem par_set {lo o : List Nat} {j y : Nat} (hlo : Hid (lo.length = j)) (hj : j < o.length) : (lo ++ o.drop j).set j y = lo ++ [y] ++ o.drop (j + 1) := by
  rw [drop_cons' hj, ← hlo.out, set_mid, List.append_assoc]
  rfl

set_option maxRecDepth 100000 in
set_option maxHeartbeats 1000000 in
theorem parse_any (s : ByteArray) (w : World) (hs : s.size ≤ 9223372036854775807) :
    Calls Try.prog 53 #[.string s] w (RetPar (bytes s) w) := by
  have hbl := Lib.hid (bytes_length s)
  have he := isEmpty_of s
  by_cases h0 : s.size = 0
  · rw [decide_eq_true h0] at he
    have hr := Lib.hid (show parErr (bytes s) = 1 by unfold parErr; rw [if_pos ((bytes_nil s).2 h0)])
    clear h0
    go_enter Try.func53, Try.ntmps53
    go_wp2
    go_ret2
    exact retPar_err hr.out (by decide) _ rfl
  rw [decide_eq_false h0] at he
  have hnn := Lib.hid (show bytes s ≠ [] from fun e => h0 ((bytes_nil s).1 e))
  by_cases h600 : 600 < s.size
  · have hr := Lib.hid (show parErr (bytes s) = 3 by unfold parErr; rw [if_neg hnn.out, if_pos (by rw [hbl.out]; exact h600)])
    have h600' : decide (600 < s.size) = true := decide_eq_true h600
    go_enter Try.func53, Try.ntmps53
    go_wp2
    go_ret2
    exact retPar_err hr.out (by decide) _ rfl
  have h600' : decide (600 < s.size) = false := decide_eq_false h600
  have h600i : decide ((600 : Int) < (s.size : Int)) = false := decide_eq_false (by omega)
  have hs6 : s.size ≤ 600 := by omega
  have hsp : 0 < s.size := by omega
  have hn6 := Lib.hid (show ¬ 600 < (bytes s).length by rw [hbl.out]; exact h600)
  clear h600 h0
  go_enter Try.func53, Try.ntmps53
  go_wp2
  go_loop [17] (fun i => ∃ k : Nat, k ≤ s.size ∧ i = .int .i64 k ∧ Hid (((bytes s).take k).all isDec = true)) (fun i => s.size - (intOf i).toNat)
  case atStart => exact ⟨0, by omega, rfl, rfl⟩
  case round =>
    obtain ⟨k, hk, rfl, hall⟩ := hrel
    by_cases hlt : k < s.size
    · have hbk := Lib.hid (bytes_get s k hlt)
      have bad : isDec (s[k]).toNat = false → parErr (bytes s) = 2 := fun h => by
        unfold parErr
        rw [if_neg hnn.out, if_neg hn6.out, if_pos (not_all _ k (by rw [hbl.out]; exact hlt) (by rw [hbk.out]; exact h))]
      have hbad := Lib.hid bad
      clear bad
      go_wp2
      · have h1 : (48 : Int) ≤ ((s[k]).toNat : Int) := by assumption
        have h2 : ((s[k]).toNat : Int) < 48 ∨ 57 < ((s[k]).toNat : Int) := by assumption
        go_ret2
        exact retPar_err (hbad.out (by unfold isDec; rw [decide_eq_false]; omega)) (by decide) _ rfl
      · have h1 : (48 : Int) ≤ ((s[k]).toNat : Int) ∧ ((s[k]).toNat : Int) ≤ 57 := by assumption
        go_round
        case rel => exact ⟨k + 1, by omega, by go_num, all_take_succ _ k (by rw [hbl.out]; exact hlt) hall.out (by rw [hbk.out]; unfold isDec; rw [decide_eq_true]; omega)⟩
        case measure => simp [intOf]; omega
      · have h1 : ((s[k]).toNat : Int) < 48 := by assumption
        go_ret2
        exact retPar_err (hbad.out (by unfold isDec; rw [decide_eq_false]; omega)) (by decide) _ rfl
    · obtain rfl : k = s.size := by omega
      have hall2 := Lib.hid (show (bytes s).all isDec = true by
        have := hall.out
        rw [List.take_of_length_le (by rw [hbl.out]; exact Nat.le_refl _)] at this
        exact this)
      have hb0 := Lib.hid (bytes_get s 0 hsp)
      by_cases hz : (bytes s).getD 0 0 = 48 ∧ 1 < s.size
      · have hr := Lib.hid (show parErr (bytes s) = 2 by
          unfold parErr
          rw [if_neg hnn.out, if_neg hn6.out, if_neg (by rw [hall2.out]; decide), if_pos ⟨hz.1, by rw [hbl.out]; exact hz.2⟩])
        have h1 : (((s[0]).toNat : Int) == 48) = true := by rw [← hb0.out, beq_iff_eq, hz.1]; rfl
        have h2 : 1 < s.size := hz.2
        clear hz
        go_wp2
        go_ret2
        exact retPar_err hr.out (by decide) _ rfl
      · have hr := Lib.hid (show parErr (bytes s) = 0 by
          unfold parErr
          rw [if_neg hnn.out, if_neg hn6.out, if_neg (by rw [hall2.out]; decide), if_neg (by rw [hbl.out]; exact hz)])
        by_cases hz1 : (bytes s).getD 0 0 = 48
        all_goals
          have h1 : (((s[0]).toNat : Int) == 48) = decide ((bytes s).getD 0 0 = 48) := by rw [← hb0.out, Bool.eq_iff_iff, beq_iff_eq, decide_eq_true_eq]; omega
          first | rw [decide_eq_true hz1] at h1 | rw [decide_eq_false hz1] at h1
          have h2 : (bytes s).getD 0 0 = 48 → s.size ≤ 1 := fun e => Nat.not_lt.1 fun e2 => hz ⟨e, e2⟩
          first | (have h2 := h2 hz1; have h2i : decide ((1 : Int) < (s.size : Int)) = false := decide_eq_false (by omega)) | (clear h2)
          clear hz hz1
          go_wp2
          go_loopw [5, 41] (fun v i wr => ParInv (bytes s) w v i wr) (fun _ i _ => s.size - (intOf i).toNat)
          case atStart => exact ⟨0, [], by omega, rfl, OwnD.nil _ _, Dig.nil, by simp, rfl, Below.refl _ _⟩
          case round =>
            obtain ⟨k, o, hk, rfl, hown, hod, hol, hval, hbel⟩ := hrel
            rw [hbl.out] at hk
            obtain ⟨wo, rfl⟩ : ∃ wo : World, wo = wr := ⟨_, rfl⟩
            obtain ⟨A, c, rfl, hoc, hord⟩ := hown.form
            by_cases hks : k < s.size
            · obtain ⟨b, hb⟩ : ∃ b : Nat, (s[k]).toNat = b := ⟨_, rfl⟩
              have hbk := Lib.hid ((bytes_get s k hks).trans hb)
              have hbb := all_get _ k (by rw [hbl.out]; exact hks) hall2.out
              rw [hbk.out] at hbb
              obtain ⟨hb1, hb2⟩ := hbb
              obtain ⟨d, hd⟩ : ∃ d : Nat, Hid (b = 48 + d) := ⟨b - 48, by show _ = _; omega⟩
              have hd9 : d ≤ 9 := by have := hd.out; omega
              have hdi := Lib.hid (show (b : Int) - 48 = (d : Int) by have := hd.out; omega)
              go_wp2
              rw [hdi.out]
              go_loopw [7, 51] (fun cv j wx => ParInv2 o d w (.slice A o.length c) cv j wx) (fun _ j _ => o.length - (intOf j).toNat)
              case atStart => exact ⟨0, d, [], by omega, rfl, rfl, hd9, rfl, Dig.nil, hown.eq (by simp), by show _ = _; simp [val, pw], hbel⟩
              case round =>
                obtain ⟨j, cv, lo, hj, rfl, rfl, hcv, hlo, hlod, hown2, hval2, hbel2⟩ := hrel
                by_cases hjn : j < o.length
                · first
                    | (exfalso; omega)
                    | (obtain ⟨g, hA, -, hgB, hgl, hcells, hfree, hset⟩ := hown2.row (by rw [List.length_append, List.length_drop, hlo.out]; omega)
                       subst hA
                       obtain ⟨x, hx⟩ : ∃ x, Hid (o.getD j 0 = x) := ⟨_, rfl⟩
                       have hxb : x < 4294967296 := hx.out ▸ hod.getD _
                       have hc0 := par_cell hcells hlo hjn hx
                       have hf := hfree j
                       have hst := Lib.hid (fun (v : Int) (hv : v = ((10 * x + cv) % 4294967296 : Nat)) => hset j ((10 * x + cv) % 4294967296) v hv)
                       have hjd : decide (j < o.length) = true := decide_eq_true hjn
                       clear hcells hfree hset
                       go_wp2
                       go_roundw
                       case rel => exact ⟨j + 1, (10 * x + cv) / 4294967296, lo ++ [(10 * x + cv) % 4294967296], by omega, rfl, by congr 1, by omega, by show (lo ++ [_]).length = _; rw [List.length_append, hlo.out]; rfl, hlod.snoc (Nat.mod_lt _ (by omega)), (hst.out _ (by omega)).eq (par_set hlo hjn), by
                         show val (lo ++ [_]) + pw (j + 1) * _ = _
                         rw [val_snoc, hlo.out, val_take_succ, hx.out, pw]
                         exact par_digit _ _ _ _ _ _ _ hval2.out rfl, hbel2.setCell hgB _⟩
                       case measure => simp [intOf]; omega)
                · obtain rfl : j = o.length := by omega
                  have hjd : decide (o.length < o.length) = false := decide_eq_false (by omega)
                  have hown3 : OwnD wr w.heap.size (.slice A o.length c) lo := hown2.eq (by simp)
                  have hv3 := Lib.hid (show val lo + pw o.length * cv = decVal ((bytes s).take (k + 1)) by
                    rw [hval2.out, val_take_ge _ _ (Nat.le_refl _), hval.out, take_snoc' _ k (by rw [hbl.out]; exact hks), hbk.out, decVal_snoc, hd.out, Nat.add_sub_cancel_left])
                  by_cases hc0 : cv = 0
                  · subst hc0
                    go_wp2
                    go_roundw
                    case rel => exact ⟨k + 1, lo, by rw [hbl.out]; omega, rfl, hown3, hlod, by rw [hlo.out]; omega, by have := hv3.out; rw [Nat.mul_zero, Nat.add_zero] at this; exact this, hbel2⟩
                    case measure => simp [intOf]; omega
                  · have hcp : decide (0 < cv) = true := decide_eq_true (by omega)
                    have hcs : (#[Value.int .u32 (cv : Int)] : Array Value) = (u32s [cv]).toArray := rfl
                    have hrd := (row_alloc wr hcs).rd
                    have hv4 := Lib.hid (show val (lo ++ [cv]) = decVal ((bytes s).take (k + 1)) by rw [val_snoc, hlo.out]; exact hv3.out)
                    clear hcs hc0
                    go_wp2_with (at_builtin; refine wpList_app _ rfl rfl _ _ rfl w.heap.size _ lo rfl (hown3.alloc _) (some ⟨wr.heap.size, 0, none⟩) 1 1 [cv] rfl hrd rfl ?_ ?_ ?_; (rw [hlo.out]; omega); (have := hbel2.size; simp; omega); intro v' w2 hown4 hgrow4)
                    go_roundw
                    case rel => exact ⟨k + 1, lo ++ [cv], by rw [hbl.out]; omega, rfl, hown4, hlod.snoc (by omega), by rw [List.length_append, hlo.out]; simp; omega, hv4.out, own_snoc hown3 hbel2 hown4 hgrow4⟩
                    case measure => simp [intOf]; omega
            · obtain rfl : k = s.size := by omega
              have hkd : decide (s.size < s.size) = false := decide_eq_false (by omega)
              have hv2 := Lib.hid (show val o = parVal (bytes s) by
                rw [hval.out, List.take_of_length_le (by rw [hbl.out]; exact Nat.le_refl _)]
                unfold parVal
                rw [if_pos hr.out])
              go_wp2_with fail
              refine (trim_nv ⟨hoc, by omega, hord, hod⟩).mono ?_
              rintro e w1 ⟨l', rfl, h3, h4, h5, rfl⟩
              go_wp2
              go_ret2
              refine ⟨A, _, l', ?_, h3, hv2.out ▸ h4, by omega, hbel⟩
              rw [hr.out]; rfl
end Go.Proofs.Ytghpcimeobmonaa
/- append on a list of bytes that the call itself holds; a string made of bytes. -/
namespace Go.Proofs.Ytghpcimeobmonaa
set_option linter.unusedVariables false
set_option linter.unusedSimpArgs false
open Go.RowKit Plain

/-- Digits as cells. -/
def u8s (l : List Nat) : List Value := l.map fun d : Nat => .int .u8 (d : Int)
theorem u8s_length (l : List Nat) : (u8s l).length = l.length := by simp [u8s]

/-- The slice (A, l.length) reads as the digits l. -/
def RdB (w : World) (A : Option Addr) (l : List Nat) : Prop := Sl w A (u8s l)
theorem u8s_append (a b : List Nat) : u8s (a ++ b) = u8s a ++ u8s b := by simp [u8s]
theorem u8s_get {l : List Nat} {k : Nat} (h : k < l.length) : (u8s l)[k]? = some (.int .u8 ((l.getD k 0 : Nat) : Int)) := by simp [u8s, List.getElem?_eq_getElem h]
theorem RdB.below {w w' : World} {A : Option Addr} {l : List Nat} (h : RdB w A l) (hb : Below w.heap.size w w') : RdB w' A l := Sl.below h hb
theorem RdB.at {w : World} {A : Option Addr} {l : List Nat} (h : RdB w A l) {k : Nat} (hk : k < l.length) :
    ∃ a d, A = some a ∧ a.block < w.heap.size ∧ w.cell? (a.add k) = some (.int .u8 ((d : Nat) : Int)) ∧ Hid (l.getD k 0 = d) := by
  obtain ⟨a, e, h1, h2⟩ := h (by rw [u8s_length]; omega)
  refine ⟨a, _, e, h1, ?_, rfl⟩
  rw [h2 k (by rw [u8s_length]; exact hk)]
  simp [u8s, List.getElem?_eq_getElem hk]
/-- A block of the call's own that holds the digits l and nothing else. -/
def RowB (w : World) (g : Nat) (l : List Nat) : Prop := w.heap[g]? = some (.cells (u8s l).toArray 5 (0, 0))
section
variable {w w' : World} {g : Nat} {l : List Nat}
theorem RowB.lt (h : RowB w g l) : g < w.heap.size := by
  rcases Nat.lt_or_ge g w.heap.size with hlt | hge
  · exact hlt
  · unfold RowB at h; rw [Array.getElem?_eq_none hge] at h; cases h
theorem RowB.cell (h : RowB w g l) {i : Nat} (hi : i < l.length) : w.cell? ⟨g, i, none⟩ = some (.int .u8 ((l.getD i 0 : Nat) : Int)) := by
  unfold RowB at h
  simp only [World.cell?, h]
  have := u8s_get hi
  simpa using this
theorem RowB.free (h : RowB w g l) (i : Nat) : w.frozen? ⟨g, i, none⟩ = false := by
  unfold RowB at h
  simp [World.frozen?, h]
theorem RowB.set (h : RowB w g l) (i d : Nat) : RowB (w.setCell ⟨g, i, none⟩ (.int .u8 (d : Int))) g (l.set i d) := by
  unfold RowB at h ⊢
  simp [World.setCell, Array.getElem?_modify, h, u8s, List.map_set]
theorem RowB.keep (h : RowB w g l) {B : Nat} (hb : Below B w w') (hg : g < B) : RowB w' g l := (hb.block g hg).trans h
theorem RowB.far (h : RowB w g l) {p : Addr} (hp : g ≠ p.block) (u : Value) : RowB (w.setCell p u) g l := (Below.heap_setCell w p u g hp).trans h
theorem RowB.new (w : World) (l : List Nat) : RowB (w.alloc (.cells (u8s l).toArray 5)) w.heap.size l := heap_alloc_new w _
theorem RowB.eq (h : RowB w g l) {l' : List Nat} (e : l = l') : RowB w g l' := e ▸ h
theorem RowB.rd (h : RowB w g l) : RdB w (some ⟨g, 0, none⟩) l := fun hx => by
  refine ⟨_, rfl, h.lt, fun j hj => ?_⟩
  rw [u8s_length] at hj
  rw [add_zero_, h.cell hj]
  have := u8s_get hj
  rw [List.getElem?_eq_getElem (by rw [u8s_length]; exact hj)] at this
  exact this.symm
end
theorem infoU8 : (Try.prog.info? 5).map (fun i => (i.zero, i.size, i.bytes)) = some (some (.int .u8 0), 1, 1) := by kernel_rfl
theorem rowB_alloc (w : World) {cs : Array Value} {l : List Nat} (e : cs = (u8s l).toArray) : RowB (w.alloc (.cells cs 5)) w.heap.size l := by
  subst e; exact RowB.new w l
/-- The value v is a list of digits of the call's own (nil, or a row from block base on). -/
def OwnB (w : World) (base : Nat) (v : Value) (l : List Nat) : Prop := w.ownsRow base 5 1 v l.length (u8s l)

theorem OwnB.nil (w : World) (base : Nat) : OwnB w base (.slice none 0 0) [] := World.ownsRow_nil w base _ _
theorem OwnB.eq {w : World} {base : Nat} {v : Value} {l l' : List Nat} (h : OwnB w base v l) (e : l = l') : OwnB w base v l' := e ▸ h
theorem OwnB.form {w : World} {base : Nat} {v : Value} {l : List Nat} (h : OwnB w base v l) : ∃ A c, v = .slice A l.length c ∧ l.length ≤ c ∧ RdB w A l := by
  rcases h.2 with ⟨rfl, h0⟩ | ⟨g, cap, cur, rfl, hb, hg, hn, hm, hs, ht⟩
  · have : l = [] := List.eq_nil_of_length_eq_zero h0
    subst this
    exact ⟨none, 0, rfl, by simp, fun hx => by simp [u8s] at hx⟩
  · refine ⟨_, cap, rfl, hn, fun hx => ⟨_, rfl, (Array.getElem?_eq_some_iff.1 hg).1, fun j hj => ?_⟩⟩
    have h2 : w.cell? ⟨g, j, none⟩ = (u8s l)[j]? := World.ownsRow.cellAt (n := l.length) (xs := u8s l) (e := 5) (size := 1) (base := base) (cap := cap) ⟨by simp [u8s], .inr ⟨g, cap, cur, rfl, hb, hg, hn, hm, hs, ht⟩⟩ j (by rw [u8s_length] at hj; omega)
    rw [add_zero_, h2, List.getElem?_eq_getElem hj]
theorem OwnB.below {w w' : World} {base : Nat} {v : Value} {l : List Nat} (h : OwnB w base v l) (hb : Below w.heap.size w w') : OwnB w' base v l :=
  h.kept (row := none) ⟨hb.os, hb.tape, hb.output, hb.size, fun k hk _ => hb.block k hk⟩ (by cases hv : v.ownBlock <;> simp)
theorem OwnB.drewN {w : World} {base : Nat} {v : Value} {l : List Nat} (h : OwnB w base v l) (n : Nat) : OwnB (w.drewN n) base v l := h
theorem OwnB.alloc {w : World} {base : Nat} {v : Value} {l : List Nat} (h : OwnB w base v l) (o : Obj) : OwnB (w.alloc o) base v l := World.ownsRow.alloc h o
/-- 'api.Nat{}'. -/
theorem OwnB.empty (w : World) (base : Nat) (hb : base ≤ w.heap.size) : OwnB (w.alloc (.cells #[] 5)) base (.slice (some ⟨w.heap.size, 0, none⟩) 0 0) [] :=
  World.ownsRow_lit w #[] 0 hb (Nat.zero_le _) rfl
theorem RdB.alloc {w : World} {A : Option Addr} {l : List Nat} (h : RdB w A l) (o : Obj) : RdB (w.alloc o) A l := h.below ((Below.refl _ _).alloc (Nat.le_refl _) o)
/-- What 'Below' keeps where the one row that may have been written lies from base on. -/
theorem OwnB.grown_below {a w w' : World} {B base : Nat} {v : Value} {l : List Nat} (h : OwnB w base v l) (hb : Below B a w) (hg : w.grownBy w' v.ownBlock) (hB : B ≤ base) (hB2 : B ≤ w.heap.size) : Below B a w' :=
  hb.grown hg hB2 (fun k hk => by have := (World.ownsRow.lt h k hk).1; omega)

theorem own_snocB {w wr w2 : World} {v v' : Value} {o : List Nat} {x : Nat} {ob : Obj} (hown : OwnB wr w.heap.size v o) (hbel : Below w.heap.size w wr) (h2 : OwnB w2 w.heap.size v' (o ++ [x])) (hg : (wr.alloc ob).grownBy w2 v.ownBlock) : Below w.heap.size w w2 :=
  (hown.alloc ob).grown_below (hbel.alloc hbel.size ob) hg (Nat.le_refl _) (by have := hbel.size; simp; omega)

section
variable (w : World)
theorem run_appB (base : Nat) (v : Value) (l : List Nat) (hown : OwnB w base v l) (A : Option Addr) (m c : Nat) (l2 : List Nat) (hr : RdB w A l2) (hm : l2.length = m) (h63 : l.length + m ≤ 1000000000000) (hbase : base ≤ w.heap.size) :
    ∃ v' w', (Builtin.append_ #[79, 79] 79 #[v, .slice A m c]).run Try.prog w = .ok v' w' ∧ OwnB w' base v' (l ++ l2) ∧ w.grownBy w' v.ownBlock := by
  subst hm
  obtain ⟨i, hi, hz0, hz1, hz2⟩ := info_parts infoU8
  by_cases h0 : l2 = []
  · subst h0
    rcases A with _ | ad
    · have hrun : (Builtin.append_ #[79, 79] 79 #[v, .slice none 0 c]).run Try.prog w = .ok v w := by
        rcases hown.2 with ⟨rfl, h0⟩ | ⟨g, cap, cur, rfl, _, _, hnc, _⟩
        · simp [Builtin.append_, run_underlying Try.underlying79, sizeOf, typeInfo, hi, Builtin.lenOf, Builtin.firstCells]
        · simp [Builtin.append_, run_underlying Try.underlying79, sizeOf, typeInfo, hi, Builtin.lenOf, Builtin.firstCells, hnc, storeCells]
      exact ⟨v, w, hrun, hown.eq (by simp), World.grownBy.refl w _⟩
    · obtain ⟨v', w', hrun, h2, h3, _⟩ := run_append_own (P := Try.prog) w base 79 79 5 i (.int .u8 0) 1 1 Try.underlying79 hi hz0 hz1 hz2 rfl (by decide) v l.length (u8s l) hown ad 0 c [] rfl (by simp) (by simp) (by unfold maxLen; omega) (by omega) hbase
      exact ⟨v', w', hrun, by simpa [OwnB] using h2, h3⟩
  · obtain ⟨ad, rfl, h1, h2⟩ := hr (by rw [u8s_length]; exact List.length_pos_iff.2 h0)
    obtain ⟨v', w', hrun, h4, h5, _⟩ := run_append_own (P := Try.prog) w base 79 79 5 i (.int .u8 0) 1 1 Try.underlying79 hi hz0 hz1 hz2 rfl (by decide) v l.length (u8s l) hown ad l2.length c (u8s l2) (by simp [u8s])
      (fun j u hu => by
        obtain ⟨hj, rfl⟩ := List.getElem?_eq_some_iff.1 hu
        exact h2 j hj) (by intro u hu; simp [u8s] at hu; obtain ⟨d, _, rfl⟩ := hu; rfl) (by unfold maxLen; omega) (by omega) hbase
    refine ⟨v', w', hrun, ?_, h5⟩
    unfold OwnB
    rw [u8s_append, List.length_append]
    exact h4

theorem wpList_appB {ops : Array Oper} {rest : List Oper} {o : Oper} {a : Act} {Q : Exit → Act → World → Prop} (hgd : o.guard = none) (hty : o.type = 79) (s x : Operand)
    (ho : o.op = .call { callee := .builtin .append, args := #[s, x], argTypes := #[79, 79] })
    (base : Nat) (v : Value) (l : List Nat) (hs : a.eval s = v) (hown : OwnB w base v l) (A : Option Addr) (m c : Nat) (l2 : List Nat) (hx : a.eval x = .slice A m c) (hr : RdB w A l2) (hm : l2.length = m)
    (h63 : l.length + m ≤ 1000000000000) (hbase : base ≤ w.heap.size)
    (h : ∀ v' w', OwnB w' base v' (l ++ l2) → w.grownBy w' v.ownBlock → wpList Try.prog ops Q rest (a.put o.dst v') w') : wpList Try.prog ops Q (o :: rest) a w := by
  refine wpList_plain hgd fun K hK => ?_
  obtain ⟨v', w', hrun, h2, h3⟩ := run_appB w base v l hown A m c l2 hr hm h63 hbase
  unfold Oper.wp execOp
  simp only [ho, hty, resolve, invoke, builtin, Sem.run_bind, Sem.run_pure, Result.andThen_ok, List.map_toArray, List.map_cons, List.map_nil, hs, hx, hrun]
  exact hK _ _ (h v' w' h2 h3)
end

/-- A list of digits is kept while bytes are appended. -/
theorem nv_besides {w w' : World} {A : Option Addr} {c base : Nat} {q l : List Nat} {v : Value} {ob : Obj} (h : Nv w A c q) (hu : U32Blk w A) (hb : OwnB w base v l) (hg : (w.alloc ob).grownBy w' v.ownBlock) : Nv w' A c q ∧ (0 < q.length → U32Blk w' A) := by
  have key : ∀ a : Addr, A = some a → a.block < w.heap.size → w'.heap[a.block]? = w.heap[a.block]? := fun a e hlt => by
    obtain ⟨cs, hcs⟩ := hu a e
    refine (hg.block a.block (by simp; omega) ?_).trans (Below.heap_alloc w ob _ hlt)
    intro e2
    rcases hb.2 with ⟨rfl, _⟩ | ⟨g, cap, cur, rfl, _, hgg, _⟩
    · simp [Value.ownBlock] at e2
    · simp [Value.ownBlock] at e2
      rw [← e2, hcs] at hgg
      simp at hgg
  refine ⟨⟨h.len, h.big, fun hx => ?_, h.dig⟩, fun hq a e => ?_⟩
  · obtain ⟨a, e, h1, h2⟩ := h.rd hx
    refine ⟨a, e, ?_, fun j hj => ?_⟩
    · have := hg.size
      simp at this
      omega
    · rw [World.cell?_of_block (w := w) (by rw [block_add]; exact key a e h1)]
      exact h2 j hj
  · obtain ⟨a', e', h1, _⟩ := h.rd (by rw [u32s_length]; exact hq)
    rw [e] at e'
    injection e' with e'
    subst e'
    rw [key a e h1]
    exact hu a e
/-- The string of a list of bytes. -/
def strOf (l : List Nat) : ByteArray := strOfNums (l.map fun d : Nat => (d : Int))
theorem strOf_size (l : List Nat) : (strOf l).size = l.length := by rw [strOf, strOfNums_size, List.length_map]
theorem bytes_strOf {l : List Nat} (h : ∀ b ∈ l, b < 256) : bytes (strOf l) = l := by
  unfold bytes strOf
  rw [strOfNums_data, List.map_map, List.map_map]
  apply List.ext_getElem (by simp)
  intro i h1 h2
  simp only [List.getElem_map, Function.comp]
  have := h _ (List.getElem_mem h2)
  simp only [Int.toNat_natCast, UInt8.toNat_ofNat']
  omega
theorem byteArray_ext {a b : ByteArray} (h : bytes a = bytes b) : a = b := by
  have h1 : a.data.toList = b.data.toList := by
    unfold bytes at h
    have hinj : Function.Injective UInt8.toNat := fun x y e => UInt8.toNat_inj.1 e
    exact (List.map_inj_right (fun x y e => hinj e)).1 h
  cases a; cases b
  simp only [ByteArray.mk.injEq]
  exact Array.ext' h1
/-- 'string(b)'. -/
theorem conv_bytes (w : World) (A : Option Addr) (n c : Nat) (l : List Nat) (h : RdB w A l) (hn : l.length = n) : (convert 79 9 (.slice A n c)).run Try.prog w = .ok (.string (strOf l)) w := by
  subst hn
  rcases Nat.eq_zero_or_pos l.length with h0 | h0
  · obtain rfl : l = [] := List.eq_nil_of_length_eq_zero h0
    rcases A with _ | a
    · exact run_convert_bytes_nil w 79 5 Try.underlying79 Try.underlying5 0 c 9 Try.underlying9
    · have := run_convert_bytes_string (P := Try.prog) w 79 9 5 (some a) 0 c Try.underlying79 Try.underlying5 Try.underlying9
      rw [show ([] : List Nat).length = 0 from rfl, this, run_bytesToString w a 0 c [] (by simp [loadCells, loadCellsFrom])]
      rfl
  · obtain ⟨a, rfl, h1, h2⟩ := h (by rw [u8s_length]; exact h0)
    have hl : (loadCells a l.length).run Try.prog w = .ok ((l.map fun d : Nat => (d : Int)).map (Value.int .u8)).toArray w := by
      have e : (l.map fun d : Nat => (d : Int)).map (Value.int .u8) = u8s l := by simp [u8s]
      have := run_loadCells_list (P := Try.prog) w a ((l.map fun d : Nat => (d : Int)).map (Value.int .u8)) (fun j v hj => by
        rw [e] at hj
        obtain ⟨hj2, rfl⟩ := List.getElem?_eq_some_iff.1 hj
        exact h2 j hj2)
      simpa using this
    rw [run_convert_bytes_string (P := Try.prog) w 79 9 5 (some a) l.length c Try.underlying79 Try.underlying5 Try.underlying9,
      run_bytesToString w a l.length c (l.map fun d : Nat => (d : Int)) hl, foldl_push_bytes]
    simp [strOf, strOfNums, ByteArray.empty, ByteArray.emptyWithCapacity]
    rfl
/-- 'make([]byte, 0, n)'. -/
theorem make_bytes (w : World) (n : Nat) (C : Int) (hC : C = (n : Int)) (hn : n ≤ 10000000) :
    (Instr.makeSlice 79 (.int .i64 0) (.int .i64 C)).run Try.prog w = .ok (.slice (some ⟨w.heap.size, 0, none⟩) 0 n) (w.alloc (.cells (madeCells #[.int .u8 0] n) 5)) := by
  obtain ⟨i, hi, hz0, hz1, hz2⟩ := info_parts infoU8
  subst hC
  have hr := run_make (P := Try.prog) w 79 5 i (.int .u8 0) Try.underlying79 hi hz0 .i64 .i64 0 n (by omega) (by omega) (by rw [hz2]; omega) (by omega)
  rw [hr, hz1, Nat.mul_one, Int.toNat_natCast]
  rfl
theorem OwnB.made (w : World) (n : Nat) (hn : n ≤ 10000000) (base : Nat) (hb : base ≤ w.heap.size) : OwnB (w.alloc (.cells (madeCells #[.int .u8 0] n) 5)) base (.slice (some ⟨w.heap.size, 0, none⟩) 0 n) [] :=
  World.ownsRow_made w _ n hb (by unfold maxLen; omega) (by rw [size_madeCells]; omega)
end Go.Proofs.Ytghpcimeobmonaa
/- Decimal digits: plain arithmetic. -/
namespace Go.Proofs.Ytghpcimeobmonaa.Plain
set_option linter.unusedVariables false
set_option linter.unusedSimpArgs false

/-- The decimal digits of a number, the lowest first; none of 0. -/
def decF : Nat → Nat → List Nat
  | 0, _ => []
  | f + 1, n => if n = 0 then [] else n % 10 :: decF f (n / 10)
def decR (n : Nat) : List Nat := decF n n
theorem decF_fuel : ∀ (f g n : Nat), n ≤ f → n ≤ g → decF f n = decF g n
  | 0, 0, _, _, _ => rfl
  | 0, g + 1, n, h, _ => by
    have : n = 0 := by omega
    subst this; rfl
  | f + 1, 0, n, _, h => by
    have : n = 0 := by omega
    subst this; rfl
  | f + 1, g + 1, n, h1, h2 => by
    simp only [decF]
    split
    · rfl
    · rw [decF_fuel f g (n / 10) (by omega) (by omega)]
theorem decR_zero : decR 0 = [] := rfl
theorem decR_pos {n : Nat} (h : n ≠ 0) : decR n = n % 10 :: decR (n / 10) := by
  obtain ⟨m, rfl⟩ : ∃ m, n = m + 1 := ⟨n - 1, by omega⟩
  show decF (m + 1) (m + 1) = _
  simp only [decF]
  rw [if_neg (by omega)]
  congr 1
  exact decF_fuel _ _ _ (by omega) (Nat.le_refl _)
theorem decR_small : ∀ (k n : Nat), n < 10 ^ k → (decR n).length ≤ k
  | 0, n, h => by
    have : n = 0 := by simpa using h
    subst this; simp [decR_zero]
  | k + 1, n, h => by
    by_cases h0 : n = 0
    · subst h0; simp [decR_zero]
    · rw [decR_pos h0, List.length_cons]
      have := decR_small k (n / 10) (by rw [Nat.div_lt_iff_lt_mul (by omega), ← Nat.pow_succ]; exact h)
      omega
theorem decR_lt10 : ∀ (f n : Nat), ∀ d ∈ decF f n, d < 10
  | 0, _, d, h => by simp [decF] at h
  | f + 1, n, d, h => by
    simp only [decF] at h
    split at h
    · simp at h
    · rcases List.mem_cons.1 h with rfl | h
      · omega
      · exact decR_lt10 f _ d h
/-- The value of decimal digits, the lowest first. -/
def decU : List Nat → Nat
  | [] => 0
  | d :: l => d + 10 * decU l
theorem decU_decR (n : Nat) : decU (decR n) = n := by
  induction n using Nat.strongRecOn with
  | _ n ih =>
    by_cases h0 : n = 0
    · subst h0; rfl
    · rw [decR_pos h0, decU, ih (n / 10) (by omega)]; omega
theorem decR_last {n : Nat} (h : n ≠ 0) : (decR n).getLast? ≠ some 0 := by
  induction n using Nat.strongRecOn with
  | _ n ih =>
    rw [decR_pos h]
    by_cases h1 : n / 10 = 0
    · rw [h1, decR_zero]; simp; omega
    · have := ih (n / 10) (by omega) h1
      rw [List.getLast?_cons]
      cases hl : (decR (n / 10)).getLast? with
      | none => rw [List.getLast?_eq_none_iff, decR_pos h1] at hl; cases hl
      | some x => rw [hl] at this; simpa using this
theorem decR_ne {n : Nat} (h : n ≠ 0) : decR n ≠ [] := by rw [decR_pos h]; simp
/-- The text of a number, as bytes. -/
def decs (n : Nat) : List Nat := if n = 0 then [48] else (decR n).reverse.map (48 + ·)
theorem decs_byte (n : Nat) : ∀ b ∈ decs n, 48 ≤ b ∧ b ≤ 57 := by
  intro b hb
  unfold decs at hb
  split at hb
  · simp at hb; omega
  · obtain ⟨d, hd, rfl⟩ := List.mem_map.1 hb
    have := decR_lt10 n n d (List.mem_reverse.1 hd)
    omega
theorem pw_le_ten (k : Nat) : pw k ≤ 10 ^ (10 * k) := by
  induction k with
  | zero => simp [pw]
  | succ k ih =>
    rw [pw, Nat.mul_succ, Nat.pow_add, Nat.mul_comm]
    exact Nat.mul_le_mul ih (by decide)
theorem decR_len {n k : Nat} (h : n < pw k) : (decR n).length ≤ 10 * k := decR_small _ _ (Nat.lt_of_lt_of_le h (pw_le_ten k))

/-- One decimal digit of a chunk: y = q * 10^k + r. -/
theorem chunk_step {q r k : Nat} (h : ¬ (q = 0 ∧ r = 0)) : decR (q * 10 ^ (k + 1) + r) = r % 10 :: decR (q * 10 ^ k + r / 10) := by
  have hp : 0 < 10 ^ k := Nat.pow_pos (by omega)
  have h0 : q * 10 ^ (k + 1) + r ≠ 0 := by
    intro e
    have h1 : q * 10 ^ (k + 1) = 0 := by omega
    have h2 : r = 0 := by omega
    rcases Nat.mul_eq_zero.1 h1 with h3 | h3
    · exact h ⟨h3, h2⟩
    · have := Nat.pow_pos (n := k + 1) (show 0 < 10 by omega)
      omega
  have e : q * 10 ^ (k + 1) = 10 * (q * 10 ^ k) := by rw [Nat.pow_succ, Nat.mul_comm _ 10, Nat.mul_left_comm]
  rw [decR_pos h0, e]
  congr 1
  · omega
  · congr 1; omega
end Go.Proofs.Ytghpcimeobmonaa.Plain
/- natural.Format: what the call does. -/
namespace Go.Proofs.Ytghpcimeobmonaa
set_option linter.unusedVariables false
set_option linter.unusedSimpArgs false
open Go.RowKit Plain

def asc (l : List Nat) : List Nat := l.map (48 + ·)
theorem asc_append (a b : List Nat) : asc (a ++ b) = asc a ++ asc b := by simp [asc]
theorem asc_length (a : List Nat) : (asc a).length = a.length := by simp [asc]
def ForInv (n N : Nat) (w : World) (g : Nat) (a v : Value) (wr : World) : Prop :=
  ∃ (A : Option Addr) (c : Nat) (l bk : List Nat) (x : Nat), a = .slice A l.length c ∧ Nv wr A c l ∧ NatIs l x ∧ l.length ≤ 10000 ∧ g = x ∧ OwnB wr w.heap.size v (asc bk) ∧ Hid (decR n = bk ++ decR x) ∧ bk.length ≤ N ∧ Below w.heap.size w wr
def ForInv2 (n q : Nat) (A : Option Addr) (c : Nat) (l : List Nat) (w : World) (v r i : Value) (wr : World) : Prop :=
  ∃ (k rv : Nat) (bk : List Nat), k ≤ 9 ∧ i = .int .i64 (k : Int) ∧ r = .int .u32 (rv : Int) ∧ Hid (rv < 10 ^ (9 - k)) ∧ OwnB wr w.heap.size v (asc bk) ∧ Hid (decR n = bk ++ decR (q * 10 ^ (9 - k) + rv)) ∧ Nv wr A c l ∧ (0 < l.length → U32Blk wr A) ∧ Below w.heap.size w wr

theorem for_len {n N : Nat} {bk t : List Nat} (h : decR n = bk ++ t) (hN : (decR n).length ≤ N) : bk.length ≤ N := by
  rw [h, List.length_append] at hN; omega

theorem for_keep {w w' : World} {A : Option Addr} {c base : Nat} {q l : List Nat} {v : Value} {ob : Obj} (h : Nv w A c q) (hu : 0 < q.length → U32Blk w A) (hb : OwnB w base v l) (hg : (w.alloc ob).grownBy w' v.ownBlock) : Nv w' A c q := by
  rcases Nat.eq_zero_or_pos q.length with h0 | h0
  · exact ⟨h.len, h.big, fun hx => by rw [u32s_length] at hx; omega, h.dig⟩
  · exact (nv_besides h (hu h0) hb hg).1
theorem for_keep' {w w' : World} {A : Option Addr} {c base : Nat} {q l : List Nat} {v : Value} {ob : Obj} (h : Nv w A c q) (hu : 0 < q.length → U32Blk w A) (hb : OwnB w base v l) (hg : (w.alloc ob).grownBy w' v.ownBlock) : 0 < q.length → U32Blk w' A :=
  fun h0 => (nv_besides h (hu h0) hb hg).2 h0
theorem rev_take (l : List Nat) (k m d : Nat) (hl : l.length = m) (hk : k < m) (hd : l.getD (m - 1 - k) 0 = d) : l.reverse.take k ++ [d] = l.reverse.take (k + 1) := by
  rw [take_snoc' l.reverse k (by rw [List.length_reverse]; omega)]
  congr 2
  rw [← hd, List.getD_eq_getElem?_getD, List.getD_eq_getElem?_getD, List.getElem?_reverse (by omega), hl]
def RevInv (l : List Nat) (m : Nat) (w : World) (v i : Value) (wr : World) : Prop :=
  ∃ k : Nat, k ≤ m ∧ i = .int .i64 (k : Int) ∧ OwnB wr w.heap.size v (l.reverse.take k) ∧ Below w.heap.size w wr

set_option maxRecDepth 100000 in
set_option maxHeartbeats 1000000 in
theorem format_any {A : Option Addr} {ca : Nat} {la : List Nat} {w : World} (ha : Nv w A ca la) (hna : la.length ≤ 10000) :
    Calls Try.prog 48 #[.slice A la.length ca] w fun e w' => e = .returned (.string (strOf (decs (val la)))) ∧ Below w.heap.size w w' := by
  go_enter Try.func48, Try.ntmps48
  go_wp2_with fail
  refine (trim_nv ha).mono ?_
  rintro e w' ⟨l1, rfl, h1, n1, b1, rfl⟩
  have hg1 := h1.big
  rcases Nat.eq_zero_or_pos l1.length with h0 | h0
  · have hv := Lib.hid (show strOf (decs (val la)) = ⟨#[48]⟩ by rw [n1.zero_iff.1 (List.eq_nil_of_length_eq_zero h0)]; rfl)
    have hz : (((l1.length : Nat) : Int) == 0) = true := by rw [beq_iff_eq]; omega
    clear h0
    go_wp2
    go_ret
    refine ⟨?_, Below.refl _ _⟩
    rw [hv.out]; rfl
  have hv0 := Lib.hid (show val la ≠ 0 from fun e => by
    have := n1.zero_iff.2 e
    rw [this] at h0; simp at h0)
  have hz : (((l1.length : Nat) : Int) == 0) = false := by rw [beq_eq_false_iff_ne]; omega
  have hlen := Lib.hid (show (decR (val la)).length ≤ 100000 by
    have := decR_len (n := val la) (k := l1.length) (by rw [← n1.val]; exact val_lt h1.dig)
    omega)
  clear h0
  go_wp2
  go_loopg [0, 3] (val la) (fun g a v wr => ForInv (val la) 100000 w g a v wr)
  case atStart => exact ⟨A, _, l1, [], val la, rfl, h1, n1, by omega, rfl, OwnB.nil _ _, rfl, by simp, Below.refl _ _⟩
  case round =>
    obtain ⟨A, c, l, bk, x, rfl, hl, nl, hl4, rfl, hown, hdec, hbk, hbel⟩ := hrel
    have hg2 := hl.big
    by_cases hz1 : l.length = 0
    · have hx := Lib.hid (show gk = 0 from nl.zero_iff.1 (List.eq_nil_of_length_eq_zero hz1))
      have hd : decide (0 < l.length) = false := decide_eq_false (by omega)
      clear hz1
      obtain ⟨A5, c5, rfl, hoc, hrb⟩ := hown.form
      have hbl := Lib.hid (show bk = decR (val la) by rw [hdec.out, hx.out, decR_zero, List.append_nil])
      have hbl2 : bk.length ≤ 100000 := hbk
      obtain ⟨m, hm⟩ : ∃ m, Hid ((asc bk).length = m) := ⟨_, rfl⟩
      have hmb : m ≤ 100000 := by rw [← hm.out, asc_length]; exact hbl2
      rw [hm.out]
      have hmk := make_bytes wr m (m : Int) rfl (by omega)
      have hbel1 := hbel.alloc hbel.size (.cells (madeCells #[.int .u8 0] m) 5)
      have hown0 := OwnB.made wr m (by omega) wr.heap.size (Nat.le_refl _)
      have hbelr := (Below.refl wr.heap.size wr).alloc (Nat.le_refl _) (.cells (madeCells #[.int .u8 0] m) 5)
      go_wp2
      obtain ⟨wo, rfl⟩ : ∃ wo : World, wo = wr := ⟨_, rfl⟩
      go_loopw [5, 44] (fun v i wq => RevInv (asc bk) m wo v i wq) (fun _ i _ => m - (intOf i).toNat)
      case atStart => exact ⟨0, by omega, rfl, hown0, hbelr⟩
      case round =>
        obtain ⟨k, hk, rfl, hownk, hbelk⟩ := hrel
        have hrdk : RdB wr A5 (asc bk) := hrb.below hbelk
        by_cases hkm : k < m
        · obtain ⟨a, d, rfl, hab, hac, hda⟩ := hrdk.at (k := m - 1 - k) (by rw [hm.out]; omega)
          have hkd : decide ((k : Int) < (m : Int)) = true := decide_eq_true (by omega)
          have hkd2 : decide (k < m) = true := decide_eq_true hkm
          have hrd := (rowB_alloc wr (cs := #[Value.int .u8 (d : Int)]) (l := [d]) rfl).rd
          have hlk := Lib.hid (show ((asc bk).reverse.take k).length = k by rw [List.length_take, List.length_reverse, hm.out]; omega)
          have hnx := Lib.hid (rev_take (asc bk) k m d hm.out hkm hda.out)
          go_wp2_with (at_builtin; refine wpList_appB _ rfl rfl _ _ rfl wo.heap.size _ ((asc bk).reverse.take k) rfl (hownk.alloc _) (some ⟨wr.heap.size, 0, none⟩) 1 1 [d] rfl hrd rfl ?_ ?_ ?_; (rw [hlk.out]; omega); (have := hbelk.size; simp; omega); intro v' w4 hown4 hgrow4)
          go_roundw
          case rel => exact ⟨k + 1, by omega, rfl, hown4.eq hnx.out, own_snocB hownk hbelk hown4 hgrow4⟩
          case measure => simp [intOf]; omega
        · obtain rfl : k = m := by omega
          have hkd : decide ((k : Int) < (k : Int)) = false := decide_eq_false (by omega)
          have hkd2 : decide (k < k) = false := decide_eq_false (by omega)
          have hlk := Lib.hid (show ((asc bk).reverse.take k).length = k by rw [List.length_take, List.length_reverse, hm.out]; omega)
          have hownf : OwnB wr wo.heap.size u5 (asc bk).reverse := hownk.eq (by rw [List.take_of_length_le (by rw [List.length_reverse, hm.out]; exact Nat.le_refl _)])
          obtain ⟨A6, c6, e6, hoc6, hrb6⟩ := hownf.form
          rw [List.length_reverse, hm.out] at e6
          subst e6
          have hcv := conv_bytes wr A6 k c6 _ hrb6 (by rw [List.length_reverse, hm.out])
          have hst := Lib.hid (show strOf (asc bk).reverse = strOf (decs (val la)) by
            unfold decs
            rw [if_neg hv0.out, ← hbl.out]
            unfold asc
            rw [List.map_reverse])
          go_wp2
          go_ret
          refine ⟨?_, hbel.trans (hbelk.mono hbel.size)⟩
          rw [← hst.out]; rfl
    · have hx := Lib.hid (show gk ≠ 0 from fun e => hz1 (by rw [nl.zero_iff.2 e]; rfl))
      have hd : decide (0 < l.length) = true := decide_eq_true (by omega)
      clear hz1
      go_wp2_with fail
      refine (small_any _ _ 1000000000 l _ hl (by omega) (by omega) (by omega)).mono ?_
      rintro e w2 ⟨A2, c2, q, rfl, hq, nq, hql, hb2, hu2⟩
      rw [nl.val] at nq ⊢
      obtain ⟨r, hr⟩ : ∃ r, Hid (r = gk % 1000000000) := ⟨_, rfl⟩
      rw [← hr.out]
      have hrb : r < 1000000000 := by rw [hr.out]; omega
      obtain ⟨y, hy⟩ : ∃ y, Hid (y = gk / 1000000000) := ⟨_, rfl⟩
      rw [← hy.out] at nq
      have hown2 := hown.below (hb2.mono (Nat.le_refl _))
      have hbel2 := hbel.trans (hb2.mono hbel.size)
      have hyx := Lib.hid (show gk = y * 10 ^ 9 + r by rw [hy.out, hr.out]; omega)
      have hylt := Lib.hid (show y < gk by have := hx.out; rw [hy.out]; omega)
      clear hb2 hown hl
      go_wp2
      go_loopw [3, 4, 20] (fun v r i wx => ForInv2 (val la) y A2 c2 q w v r i wx) (fun _ _ i _ => 9 - (intOf i).toNat)
      case atStart => exact ⟨0, r, bk, by omega, rfl, rfl, by show _ < _; simp; omega, hown2, by show _ = _; rw [hdec.out, hyx.out], hq, fun _ => hu2, hbel2⟩
      case round =>
        obtain ⟨k, rv, bk2, hk, rfl, rfl, hrv, hown3, hdec3, hq3, hu3, hbel3⟩ := hrel
        have hq3b := hq3.big
        by_cases hk9 : k = 9
        · subst hk9
          have hrv0 := Lib.hid (show rv = 0 by have := hrv.out; simp at this; exact this)
          have hdec4 := Lib.hid (show decR (val la) = bk2 ++ decR y by rw [hdec3.out, hrv0.out]; simp)
          go_wp2
          go_roundg y
          case measure => exact hylt.out
          case rel => exact ⟨A2, c2, q, bk2, y, rfl, hq3, nq, by omega, rfl, hown3, hdec4.out, for_len hdec4.out hlen.out, hbel3⟩
        · have hk8 : k < 9 := by omega
          have hk8d : decide ((k : Int) < 9) = true := decide_eq_true (by omega)
          clear hk9
          have hrvb : rv < 1000000000 := by
            have h1 : 10 ^ (9 - k) ≤ 10 ^ 9 := Nat.pow_le_pow_right (by omega) (by omega)
            have h2 := hrv.out
            simp only [Nat.reducePow] at h1
            omega
          by_cases hbr : q.length = 0 ∧ rv = 0
          · have hy0 := Lib.hid (show y = 0 from nq.zero_iff.1 (List.eq_nil_of_length_eq_zero hbr.1))
            have hdec4 := Lib.hid (show decR (val la) = bk2 ++ decR y by rw [hdec3.out, hy0.out, hbr.2]; simp)
            have hz1 : (((q.length : Nat) : Int) == 0) = true := by rw [beq_iff_eq]; omega
            obtain ⟨_, hrv0⟩ := hbr
            subst hrv0
            go_wp2
            go_roundg y
            case measure => exact hylt.out
            case rel => exact ⟨A2, c2, q, bk2, y, rfl, hq3, nq, by omega, rfl, hown3, hdec4.out, for_len hdec4.out hlen.out, hbel3⟩
          · have hnz : ¬ (y = 0 ∧ rv = 0) := fun e => hbr ⟨by rw [nq.zero_iff.2 e.1]; rfl, e.2⟩
            have hst := Lib.hid (chunk_step (k := 8 - k) hnz)
            have hdec4 := Lib.hid (show decR (val la) = (bk2 ++ [rv % 10]) ++ decR (y * 10 ^ (9 - (k + 1)) + rv / 10) by
              rw [hdec3.out, show 9 - k = 8 - k + 1 by omega, hst.out, show 9 - (k + 1) = 8 - k by omega]; simp)
            have hl3 := Lib.hid (for_len hdec4.out hlen.out)
            have hrv4 := Lib.hid (show rv / 10 < 10 ^ (9 - (k + 1)) by
              have e : 10 ^ (9 - (k + 1)) * 10 = 10 ^ (9 - k) := by rw [← Nat.pow_succ]; congr 1; omega
              rw [Nat.div_lt_iff_lt_mul (by omega), e]; exact hrv.out)
            have hcs : (#[Value.int .u8 (48 + (rv : Int) % 10)] : Array Value) = (u8s [48 + rv % 10]).toArray := by simp [u8s]
            have hrd := (rowB_alloc wr hcs).rd
            clear hcs hnz
            by_cases hq0 : q.length = 0
            all_goals
              first
                | (have hz1 : (((q.length : Nat) : Int) == 0) = true := by rw [beq_iff_eq]; omega
                   have hz2 : ((rv : Int) == 0) = false := by rw [beq_eq_false_iff_ne]; omega)
                | (have hz1 : (((q.length : Nat) : Int) == 0) = false := by rw [beq_eq_false_iff_ne]; omega)
              clear hbr hq0
              go_wp2_with (at_builtin; refine wpList_appB _ rfl rfl _ _ rfl w.heap.size _ (asc bk2) rfl (hown3.alloc _) (some ⟨wr.heap.size, 0, none⟩) 1 1 [48 + rv % 10] rfl hrd rfl ?_ ?_ ?_; (have := hl3.out; rw [asc_length]; simp at this; omega); (have := hbel3.size; simp; omega); intro v' w4 hown4 hgrow4)
              go_roundw
              case rel => exact ⟨k + 1, rv / 10, bk2 ++ [rv % 10], by omega, rfl, by congr 1, hrv4.out, hown4.eq (by rw [asc_append]; rfl), hdec4.out, for_keep hq3 hu3 hown3 hgrow4, for_keep' hq3 hu3 hown3 hgrow4, own_snocB hown3 hbel3 hown4 hgrow4⟩
              case measure => simp [intOf]; omega
end Go.Proofs.Ytghpcimeobmonaa
/- The reference's small, Format: what the calls do. -/
namespace Go.Proofs.Ytghpcimeobmonaa
set_option linter.unusedVariables false
set_option linter.unusedSimpArgs false
open Go.RowKit Plain

/-- The result of the reference's division by ten. -/
def RetTen (n k : Nat) (W : World) (e : Ending) (w' : World) : Prop :=
  ∃ A c l, e = .returned (.tuple #[.slice A l.length c, .int .u64 ((n % 10 : Nat) : Int)]) ∧ Nv w' A c l ∧ NatIs l (n / 10) ∧ l.length ≤ k ∧ Below W.heap.size W w'

theorem nv_row' {w : World} {g n : Nat} {l : List Nat} (h : Row w g l) (hn : l.length = n) (hd : Dig l) (hb : n ≤ 5000000000) : Nv w (some ⟨g, 0, none⟩) n l := ⟨by omega, by omega, h.rd, hd⟩
theorem refTrim_any' {A : Option Addr} {c n : Nat} {l : List Nat} {w : World} (h : Nv w A c l) (hn : l.length = n) (hl : n ≤ 50000000000) :
    Calls Try.prog 84 #[.slice A n c] w (RetNat (val l) n w) := by
  subst hn; exact refTrim_any h hl
def RSmInv (la : List Nat) (w : World) (g : Nat) (c i : Value) (wr : World) : Prop :=
  ∃ (j k r : Nat) (hi : List Nat), j + k = la.length ∧ i = .int .i64 ((j : Int) - 1) ∧ c = .int .u64 (r : Int) ∧ r < 10 ∧ Hid (hi.length = k) ∧ Dig hi ∧
    Row wr g (List.replicate (la.length - k) 0 ++ hi) ∧ Hid (val (la.drop (la.length - k)) = val hi * 10 + r) ∧ Below w.heap.size w wr

theorem rsm_step {la : List Nat} {j k r da : Nat} {hi : List Nat} {w wr : World} (hjk : j + 1 + k = la.length) (hr : r < 10) (hhi : Hid (hi.length = k)) (hhd : Dig hi) (hda : da < 4294967296)
    (hga : Hid (la.getD j 0 = da)) (hrow : Row wr w.heap.size (List.replicate (la.length - k) 0 ++ hi)) (hval : Hid (val (la.drop (la.length - k)) = val hi * 10 + r)) (hbel : Below w.heap.size w wr) :
    RSmInv la w w.heap.size (.int .u64 (((r : Int) * 4294967296 + (da : Int)) % 10)) (.int .i64 ((j : Int) - 1)) (wr.setCell ⟨w.heap.size, j, none⟩ (.int .u32 (((r : Int) * 4294967296 + (da : Int)) / 10))) := by
  have hix : la.length - 1 - k = j := by omega
  have hstep := small_step (la := la) (d := 10) (k := k) (r := r) (da := da) (hi := hi) (w := w) (wr := wr) (g := w.heap.size) (by omega) hr (by omega) hhi hhd hda (by rw [hix]; exact hga) hrow hval hbel
    (((r : Int) * 4294967296 + (da : Int)) / 10) (((r : Int) * 4294967296 + (da : Int)) % 10) ((k : Int) + 1) (by rw [Int.mul_comm (r : Int), Int.add_comm]; simp only [Int.cast_ofNat_Int]; omega) (by rw [Int.mul_comm (r : Int), Int.add_comm]; rfl) rfl (Nat.le_refl _) 0
  rw [hix] at hstep
  obtain ⟨k', r', hi', h1, h2, h3, h4, h5, h6, h7, h8, h9⟩ := hstep
  injection h2 with h2a h2
  have hk' : k' = k + 1 := by omega
  subst hk'
  exact ⟨j, k + 1, r', hi', by omega, rfl, h3, h4, h5, h6, h7, h8, h9⟩

set_option maxRecDepth 100000 in
set_option maxHeartbeats 1000000 in
theorem refSmall_any {A : Option Addr} {ca : Nat} {la : List Nat} {w : World} (ha : Nv w A ca la) (hna : la.length ≤ 5000000000) :
    Calls Try.prog 81 #[.slice A la.length ca, .int .u64 10] w (RetTen (val la) la.length w) := by
  have hmk := make_u32 w la.length .i64 (la.length : Int) (by omega) (by omega)
  go_enter Try.func81, Try.ntmps81
  go_wp2
  go_loopw [7, 8] (fun c i wr => RSmInv la w w.heap.size c i wr) (fun _ i _ => (intOf i + 1).toNat)
  case atStart => exact ⟨la.length, 0, 0, [], by omega, rfl, rfl, by omega, rfl, Dig.nil, (Row.new _ _).eq (by simp), by show val _ = _; simp [val], (Below.refl _ _).alloc (Nat.le_refl _) _⟩
  case round =>
    obtain ⟨j, k, r, hi, hjk, rfl, rfl, hr, hhi, hhd, hrow, hval, hbel⟩ := hrel
    rcases j with _ | j
    · obtain rfl : k = la.length := by omega
      have hrow2 : Row wr w.heap.size hi := hrow.eq (by simp)
      have hfin := Lib.hid (small_last hr hval)
      have hd0 : decide ((0 : Int) ≤ ((0 : Nat) : Int) - 1) = false := by decide
      have hnv := nv_row' hrow2 hhi.out hhd (by omega)
      have hv := Lib.hid (hfin.out.1)
      go_wp2_with fail
      refine (refTrim_any' hnv hhi.out (by omega)).mono ?_
      rintro e w2 ⟨A1, c1, l', rfl, h3, h4, h5, h6⟩
      go_wp2
      go_ret2
      refine ⟨_, _, l', ?_, h3, hv.out ▸ h4, by omega, hbel.trans (h6.mono hbel.size)⟩
      rw [hfin.out.2]; rfl
    · have hj : ((j + 1 : Nat) : Int) - 1 = (j : Int) := by omega
      have hd0 : decide ((0 : Int) ≤ (j : Int)) = true := decide_eq_true (by omega)
      have hix : la.length - 1 - k = j := by omega
      obtain ⟨a, da, rfl, hab, hac, hda, hga⟩ := (ha.below hbel).at (k := j) (by omega)
      have hf := hrow.free j
      obtain ⟨d0, hc0, _, _⟩ := hrow.cell' (i := j) ((Dig.replicate _).append hhd) (by rw [List.length_append, List.length_replicate, hhi.out]; omega)
      have hlt2 : j < la.length := by omega
      have hstep := Lib.hid (rsm_step hjk hr hhi hhd hda hga hrow hval hbel)
      clear hjk
      rw [hj]
      go_wp2
      go_roundw
      case rel => exact hstep.out
      case measure => simp [intOf]

theorem strOf_append (a b : List Nat) : strOf (a ++ b) = strOf a ++ strOf b := by
  apply byteArray_ext
  unfold bytes strOf
  simp [strOfNums_data, ByteArray.data_append]
def fmtS (bk : List Nat) : ByteArray := strOf (asc bk).reverse
theorem fmtS_cons (bk : List Nat) (r : Nat) : fmtS (bk ++ [r]) = strOf [48 + r] ++ fmtS bk := by
  unfold fmtS
  rw [asc_append, List.reverse_append, ← strOf_append]; rfl

theorem fo_step {n x r : Nat} {bk : List Nat} (hr : x % 10 = r) (h : decR n = bk ++ decR x ∧ (x = 0 → n = 0 ∧ bk = [])) : decR n = (bk ++ [r]) ++ decR (x / 10) ∨ (x = 0 ∧ n = 0 ∧ bk = [] ∧ r = 0) := by
  by_cases hx : x = 0
  · exact .inr ⟨hx, (h.2 hx).1, (h.2 hx).2, by subst hx; simpa using hr.symm⟩
  · left
    rw [h.1, decR_pos hx, hr]; simp
theorem fo_last {n x r : Nat} {bk : List Nat} (hx : x / 10 = 0) (h : decR n = (bk ++ [r]) ++ decR (x / 10) ∨ (x = 0 ∧ n = 0 ∧ bk = [] ∧ r = 0)) (hr : x % 10 = r) : fmtS (bk ++ [r]) = strOf (decs n) := by
  rcases h with h | ⟨_, rfl, rfl, rfl⟩
  · rw [hx, decR_zero, List.append_nil] at h
    have hn : n ≠ 0 := by
      rintro rfl
      rw [decR_zero] at h
      simp at h
    unfold fmtS decs
    rw [if_neg hn, h]
    unfold asc
    rw [List.map_reverse]
  · rfl
theorem fo_more {n x r : Nat} {bk : List Nat} (hx : x / 10 ≠ 0) (h : decR n = (bk ++ [r]) ++ decR (x / 10) ∨ (x = 0 ∧ n = 0 ∧ bk = [] ∧ r = 0)) : decR n = (bk ++ [r]) ++ decR (x / 10) ∧ (x / 10 = 0 → n = 0 ∧ bk ++ [r] = []) := by
  rcases h with h | ⟨rfl, _⟩
  · exact ⟨h, fun e => absurd e hx⟩
  · exact absurd rfl hx
def RFoInv (n : Nat) (w : World) (g : Nat) (a s b : Value) (wr : World) : Prop :=
  ∃ (A : Option Addr) (c : Nat) (l bk : List Nat) (x : Nat) (bb : Bool), a = .slice A l.length c ∧ Nv wr A c l ∧ Hid (NatIs l x) ∧ l.length ≤ 10000 ∧ b = .bool bb ∧ g = (if bb = true then x + 1 else 0) ∧ s = .string (fmtS bk) ∧
    Hid (bb = true → decR n = bk ++ decR x ∧ (x = 0 → n = 0 ∧ bk = [])) ∧ Hid (bb = false → fmtS bk = strOf (decs n)) ∧ Below w.heap.size w wr

set_option maxRecDepth 100000 in
set_option maxHeartbeats 1000000 in
theorem refFormat_any {A : Option Addr} {ca : Nat} {la : List Nat} {w : World} (ha : Nv w A ca la) (hc : Canon la) (hna : la.length ≤ 10000) :
    Calls Try.prog 55 #[.slice A la.length ca] w fun e w' => e = .returned (.string (strOf (decs (val la)))) ∧ Below w.heap.size w w' := by
  have ia : NatIs la (val la) := ⟨ha.dig, hc, rfl⟩
  obtain ⟨n, hn⟩ : ∃ n, Hid (val la = n) := ⟨_, rfl⟩
  rw [hn.out] at ia
  rw [hn.out]
  have hlen := Lib.hid (show (decR n).length ≤ 5000000000 by
    have := decR_len (n := n) (k := la.length) (by rw [← ia.val]; exact val_lt ha.dig)
    omega)
  go_enter Try.func55, Try.ntmps55
  go_wp2
  go_loopg [0, 3, 4] (n + 1) (fun g a s b wr => RFoInv n w g a s b wr)
  case atStart => exact ⟨A, ca, la, [], n, true, rfl, ha, ia, hna, rfl, rfl, rfl, fun _ => ⟨rfl, fun h => ⟨h, rfl⟩⟩, (fun h => by cases h), Below.refl _ _⟩
  case round =>
    obtain ⟨A, c, l, bk, x, bb, rfl, hl, nl, hl4, rfl, rfl, rfl, h1, h2, hbel⟩ := hrel
    rcases bb with _ | _
    · have hf := Lib.hid (h2.out rfl)
      go_wp2
      go_ret
      refine ⟨?_, hbel⟩
      rw [← hf.out]; rfl
    · have h1' := Lib.hid (h1.out rfl)
      clear h1 h2
      go_wp2_with fail
      refine (refSmall_any hl (by omega)).mono ?_
      rintro e w2 ⟨A2, c2, q, rfl, hq, nq, hql, hb2⟩
      have nq' := Lib.hid (show NatIs q (x / 10) by have h := nq; rw [nl.out.val] at h; exact h)
      rw [nl.out.val]
      obtain ⟨r, hr⟩ : ∃ r, Hid (x % 10 = r) := ⟨_, rfl⟩
      rw [hr.out]
      have hrb : r < 10 := hr.out ▸ Nat.mod_lt _ (by omega)
      have hbel2 := hbel.trans (hb2.mono hbel.size)
      have hcs : (#[Value.int .u8 (48 + (r : Int))] : Array Value) = (u8s [48 + r]).toArray := by simp [u8s]
      have hrd := (rowB_alloc w2 hcs).rd
      clear hcs nq hb2
      have hcv := conv_bytes (w2.alloc (.cells #[Value.int .u8 (48 + (r : Int))] 5)) (some ⟨w2.heap.size, 0, none⟩) 1 1 [48 + r] hrd rfl
      have hs1 : (strOf [48 + r]).size = 1 := by rw [strOf_size]; rfl
      have hs2 : (fmtS bk).size ≤ 5000000000 := by
        unfold fmtS
        rw [strOf_size, List.length_reverse, asc_length]
        have h := hlen.out
        rw [h1'.out.1, List.length_append] at h
        omega
      have hcons := Lib.hid (fmtS_cons bk r)
      have hstep := Lib.hid (show decR n = (bk ++ [r]) ++ decR (x / 10) ∨ (x = 0 ∧ n = 0 ∧ bk = [] ∧ r = 0) from fo_step hr.out h1'.out)
      by_cases hq0 : q.length = 0
      · have hx10 := Lib.hid (show x / 10 = 0 from nq'.out.zero_iff.1 (List.eq_nil_of_length_eq_zero hq0))
        have hqd : decide (0 < q.length) = false := decide_eq_false (by omega)
        clear hq0
        go_wp2
        go_roundg 0
        case measure => simp
        case rel => exact ⟨A2, c2, q, bk ++ [r], x / 10, false, rfl, hq.below (by exact (Below.refl _ _).alloc (Nat.le_refl _) _), nq', by omega, rfl, rfl, by rw [hcons.out], (fun h => by cases h), fun _ => fo_last hx10.out hstep.out hr.out, hbel2.alloc hbel2.size _⟩
      · have hx10 := Lib.hid (show x / 10 ≠ 0 from fun e => hq0 (by rw [nq'.out.zero_iff.2 e]; rfl))
        have hqd : decide (0 < q.length) = true := decide_eq_true (by omega)
        clear hq0
        go_wp2
        go_roundg (x / 10 + 1)
        case measure => have := hx10.out; simp; omega
        case rel => exact ⟨A2, c2, q, bk ++ [r], x / 10, true, rfl, hq.below (by exact (Below.refl _ _).alloc (Nat.le_refl _) _), nq', by omega, rfl, rfl, by rw [hcons.out], (fun _ => fo_more hx10.out hstep.out), (fun h => by cases h), hbel2.alloc hbel2.size _⟩
end Go.Proofs.Ytghpcimeobmonaa
/- The reference's Parse: what the call does. -/
namespace Go.Proofs.Ytghpcimeobmonaa
set_option linter.unusedVariables false
set_option linter.unusedSimpArgs false
open Go.RowKit Plain
attribute [local go_sem ↓] Go.wp_at_zero Go.wp_at_succ

theorem retPar_errB {l : List Nat} {w W : World} {n : Nat} (h : parErr l = n) (h0 : n ≠ 0) (v : Value) (hv : v = .tuple #[.slice none 0 0, .int .i64 (n : Int)]) (hb : Below W.heap.size W w) : RetPar l W (.returned v) w :=
  ⟨none, 0, [], by rw [hv, h]; rfl, nv_nil' _, by unfold parVal; rw [if_neg (by rw [h]; exact h0)]; exact NatIs.nil, by simp, hb⟩
theorem decVal_take (l : List Nat) (k : Nat) (hk : k < l.length) : decVal (l.take (k + 1)) = 10 * decVal (l.take k) + (l.getD k 0 - 48) := by rw [take_snoc' l k hk, decVal_snoc]
theorem decVal_lt10 : ∀ (k : Nat) (l : List Nat), l.length = k → l.all isDec = true → decVal l < 10 ^ k
  | 0, l, h, _ => by rw [List.eq_nil_of_length_eq_zero h]; decide
  | k + 1, l, h, ha => by
    have h1 := decVal_take l k (by omega)
    rw [List.take_of_length_le (by omega)] at h1
    have h2 := decVal_lt10 k (l.take k) (by rw [List.length_take]; omega) (by
      rw [List.all_eq_true] at ha ⊢
      exact fun x hx => ha x (List.mem_of_mem_take hx))
    have h3 := all_get l k (by omega) ha
    rw [Nat.pow_succ, h1]
    omega
theorem ten_le_pw (k : Nat) : 10 ^ k ≤ pw k := by
  induction k with
  | zero => simp [pw]
  | succ k ih => rw [Nat.pow_succ, pw]; omega
theorem dec_len {l t : List Nat} {k : Nat} (h : NatIs l (decVal t)) (ht : t.length = k) (ha : t.all isDec = true) : l.length ≤ k :=
  length_le_of_lt h.canon (by rw [h.val]; exact Nat.lt_of_lt_of_le (decVal_lt10 k t ht ha) (ten_le_pw k))
theorem refFromUint_val (x : Nat) (n : Int) (w : World) (hn : n = (x : Int)) (hx : x < pw 2) : Calls Try.prog 66 #[.int .u64 n] w (RetNat x 2 w) := by
  subst hn; exact refFromUint_any x w hx
theorem refScale10 (A : Option Addr) (ca : Nat) (la : List Nat) (w : World) (ha : Nv w A ca la) (hna : la.length ≤ 5000000000) :
    Calls Try.prog 80 #[.slice A la.length ca, .int .u64 10] w (RetNat (val la * 10) (la.length + 1) w) := refScale_any A ca 10 la w ha hna (by decide)
def RPaInv (l : List Nat) (w : World) (v i : Value) (wr : World) : Prop :=
  ∃ (k c : Nat) (A : Option Addr) (r : List Nat), k ≤ l.length ∧ i = .int .i64 (k : Int) ∧ v = .slice A r.length c ∧ Nv wr A c r ∧ Hid (NatIs r (decVal (l.take k))) ∧ r.length ≤ k ∧ Hid ((l.take k).all isDec = true) ∧
    Hid (0 < k → ¬ (l.getD 0 0 = 48 ∧ 1 < l.length)) ∧ Below w.heap.size w wr

set_option maxRecDepth 100000 in
set_option maxHeartbeats 2000000 in
theorem refParse_any (s : ByteArray) (w : World) (hs : s.size ≤ 9223372036854775807) :
    Calls Try.prog 54 #[.string s] w (RetPar (bytes s) w) := by
  have hbl := Lib.hid (bytes_length s)
  have he := isEmpty_of s
  by_cases h0 : s.size = 0
  · rw [decide_eq_true h0] at he
    have hr := Lib.hid (show parErr (bytes s) = 1 by unfold parErr; rw [if_pos ((bytes_nil s).2 h0)])
    clear h0
    go_enter Try.func54, Try.ntmps54
    go_wp2
    go_ret2
    exact retPar_err hr.out (by decide) _ rfl
  rw [decide_eq_false h0] at he
  have hnn := Lib.hid (show bytes s ≠ [] from fun e => h0 ((bytes_nil s).1 e))
  by_cases h600 : 600 < s.size
  · have hr := Lib.hid (show parErr (bytes s) = 3 by unfold parErr; rw [if_neg hnn.out, if_pos (by rw [hbl.out]; exact h600)])
    have h600' : decide (600 < s.size) = true := decide_eq_true h600
    go_enter Try.func54, Try.ntmps54
    go_wp2
    go_ret2
    exact retPar_err hr.out (by decide) _ rfl
  have h600' : decide (600 < s.size) = false := decide_eq_false h600
  have h600i : decide ((600 : Int) < (s.size : Int)) = false := decide_eq_false (by omega)
  have hs6 : s.size ≤ 600 := by omega
  have hsp : 0 < s.size := by omega
  have hn6 := Lib.hid (show ¬ 600 < (bytes s).length by rw [hbl.out]; exact h600)
  clear h600 h0
  go_enter Try.func54, Try.ntmps54
  go_wp2
  go_loopw [4, 5] (fun v i wr => RPaInv (bytes s) w v i wr) (fun _ i _ => s.size - (intOf i).toNat)
  case atStart => exact ⟨0, 0, none, [], by omega, rfl, rfl, nv_nil' _, NatIs.nil, by simp, rfl, fun h => absurd h (by omega), Below.refl _ _⟩
  case round =>
    obtain ⟨k, c, A, r, hk, rfl, rfl, hv, hnat, hrl, hall, hlead, hbel⟩ := hrel
    rw [hbl.out] at hk
    by_cases hlt : k < s.size
    · have hbk := Lib.hid (bytes_get s k hlt)
      obtain ⟨b, hb⟩ : ∃ b : Nat, (s[k]).toNat = b := ⟨_, rfl⟩
      have hb' := Lib.hid hb
      by_cases hdec : isDec b = true
      · have hd2 : 48 ≤ b ∧ b ≤ 57 := by
          unfold isDec at hdec
          simpa using hdec
        have hall2 := Lib.hid (all_take_succ _ k (by rw [hbl.out]; exact hlt) hall.out (by rw [hbk.out, hb]; exact hdec))
        have hd48 : decide ((b : Int) < 48) = false := decide_eq_false (by omega)
        have hd57 : decide ((57 : Int) < (b : Int)) = false := decide_eq_false (by omega)
        clear hdec
        by_cases hbad : k = 0 ∧ b = 48 ∧ 1 < s.size
        · obtain ⟨rfl, rfl, h1s⟩ := hbad
          have hr := Lib.hid (show parErr (bytes s) = 2 by
            unfold parErr
            rw [if_neg hnn.out, if_neg hn6.out]
            split
            · rfl
            · rw [if_pos ⟨by rw [hbk.out, hb'.out], by rw [hbl.out]; exact h1s⟩])
          have h1d : decide ((1 : Int) < (s.size : Int)) = true := decide_eq_true (by omega)
          have h1e : decide (1 < s.size) = true := decide_eq_true h1s
          go_wp2
          go_ret2
          exact retPar_errB hr.out (by decide) _ rfl hbel
        · have hld := Lib.hid (show 0 < k + 1 → ¬ ((bytes s).getD 0 0 = 48 ∧ 1 < (bytes s).length) from fun _ => by
            rcases Nat.eq_zero_or_pos k with h | h
            · subst h
              rw [hbk.out, hb, hbl.out]
              exact fun e => hbad ⟨rfl, e.1, e.2⟩
            · exact hlead.out h)
          have hdv := Lib.hid (show decVal ((bytes s).take (k + 1)) = decVal ((bytes s).take k) * 10 + (b - 48) by
            rw [decVal_take _ _ (by rw [hbl.out]; exact hlt), hbk.out, hb, Nat.mul_comm])
          obtain ⟨d, hd, hdi⟩ : ∃ d : Nat, Hid (b - 48 = d) ∧ (b : Int) - 48 = (d : Int) := ⟨_, rfl, by omega⟩
          have hdp : d < pw 2 := by have := hd.out; simp only [pw]; omega
          have hw1 : IntKind.u64.wrap ((b : Int) - 48) = (d : Int) := by rw [hdi, wrap_u64]; have := hd.out; omega
          have hw0 : IntKind.u64.wrap (b : Int) = (b : Int) := by rw [wrap_u64]; omega
          have hw2 : IntKind.u64.wrap (d : Int) = (d : Int) := by rw [wrap_u64]; have := hd.out; omega
          obtain ⟨nk, hnk⟩ : ∃ nk, Hid (nk = k + 1) := ⟨_, rfl⟩
          have hi0 : (0 : Int) ≤ (k : Int) := by omega
          have hi1 : (k : Int) < (s.size : Int) := by omega
          have hvd : Nv wr.drew A c r := hv.below ((Below.refl _ _).drew)
          have hbd := hbel.drew
          have hlead' : k = 0 → b = 48 → ¬ 1 < s.size := fun h1 h2 h3 => hbad ⟨h1, h2, h3⟩
          clear hbad
          have hk0d : (((k : Nat) : Int) == 0) = decide (k = 0) := by rw [Bool.eq_iff_iff, beq_iff_eq, decide_eq_true_eq]; omega
          have hb48 : ((b : Int) == 48) = decide (b = 48) := by rw [Bool.eq_iff_iff, beq_iff_eq, decide_eq_true_eq]; omega
          have h1s : decide ((1 : Int) < (s.size : Int)) = decide (1 < s.size) := by rw [decide_eq_decide]; omega
          by_cases hk0 : k = 0
          all_goals
            by_cases hb0 : b = 48
            all_goals
              first
                | (rw [decide_eq_true hk0] at hk0d
                   subst hk0
                   first
                     | (rw [decide_eq_true hb0] at hb48; rw [decide_eq_false (hlead' rfl hb0)] at h1s; have h1s' : decide (1 < s.size) = false := decide_eq_false (hlead' rfl hb0))
                     | rw [decide_eq_false hb0] at hb48)
                | (rw [decide_eq_false hk0] at hk0d; clear hb48 h1s)
              clear hb0 hlead'
              go_wp2
              go_region_held3 (fun _ => True) (trivial) (first
                | (go_at_call 80; (with_reducible refine (refScale10 _ _ r _ hvd (by omega)).mono ?_); rintro e w1 ⟨A1, c1, l1, rfl, n1, i1, m1, b1⟩; have i1' := Lib.hid i1; clear i1)
                | (go_at_call 65; (with_reducible refine (refAdd_any _ _ _ _ _ _ _ (n1.below b2) n2 (by omega) (by omega)).mono ?_); rintro e w3 ⟨A3, c3, l3, rfl, n3, i3, m3, b3⟩; have i3' := Lib.hid i3; clear i3)
                | (go_at_call 66; (with_reducible refine (refFromUint_val d _ _ (by first | rfl | assumption | omega) hdp).mono ?_); rintro e w2 ⟨A2, c2, l2, rfl, n2, i2, m2, b2⟩; have i2' := Lib.hid i2; clear i2))
              all_goals
                have hnat3 : NatIs l3 (decVal ((bytes s).take nk)) := by
                  rw [hnk.out, hdv.out, hd.out, ← hnat.out.val, ← i1'.out.val, ← i2'.out.val]; exact i3'.out
                have hall3 : ((bytes s).take nk).all isDec = true := by rw [hnk.out]; exact hall2.out
                have hlen3 : l3.length ≤ nk := dec_len hnat3 (by rw [List.length_take, hbl.out]; have := hnk.out; omega) hall3
                have hnat3' := Lib.hid hnat3
                have hall3' := Lib.hid hall3
                clear hnat3 hall3
                go_wp2
                refine ⟨⟨nk, c3, A3, l3, ?_, ?_, rfl, n3, hnat3'.out, hlen3, hall3'.out, fun _ => hld.out (by omega), ?_⟩, ?_⟩
                · have := hnk.out; rw [hbl.out]; omega
                · have := hnk.out; congr 1; omega
                · exact ((hbd.trans (b1.mono hbd.size)).trans (b2.mono (Nat.le_trans hbd.size b1.size))).trans (b3.mono (Nat.le_trans (Nat.le_trans hbd.size b1.size) b2.size))
                · simp [intOf]; omega
      · have hr := Lib.hid (show parErr (bytes s) = 2 by
          unfold parErr
          rw [if_neg hnn.out, if_neg hn6.out, if_pos (not_all _ k (by rw [hbl.out]; exact hlt) (by rw [hbk.out, hb]; exact eq_false_of_ne_true hdec))])
        have hd2 : b < 48 ∨ 57 < b := by
          unfold isDec at hdec
          simp at hdec
          omega
        clear hdec
        by_cases h48 : b < 48
        · have hd48 : decide ((b : Int) < 48) = true := decide_eq_true (by omega)
          clear hd2
          go_wp2
          go_ret2
          exact retPar_errB hr.out (by decide) _ rfl hbel
        · have hd48 : decide ((b : Int) < 48) = false := decide_eq_false (by omega)
          have hd57 : decide ((57 : Int) < (b : Int)) = true := decide_eq_true (by omega)
          clear hd2 h48
          go_wp2
          go_ret2
          exact retPar_errB hr.out (by decide) _ rfl hbel
    · obtain rfl : k = s.size := by omega
      have hall2 := Lib.hid (show (bytes s).all isDec = true by
        have := hall.out
        rw [List.take_of_length_le (by rw [hbl.out]; exact Nat.le_refl _)] at this
        exact this)
      have hr := Lib.hid (show parErr (bytes s) = 0 by
        unfold parErr
        rw [if_neg hnn.out, if_neg hn6.out, if_neg (by rw [hall2.out]; decide), if_neg (hlead.out hsp)])
      have hn2 := Lib.hid (show NatIs r (parVal (bytes s)) by
        have h := hnat.out
        rw [List.take_of_length_le (by rw [hbl.out]; exact Nat.le_refl _)] at h
        unfold parVal
        rw [if_pos hr.out]; exact h)
      go_wp2
      go_ret2
      exact ⟨A, c, r, by rw [hr.out]; rfl, hv, hn2.out, by omega, hbel⟩
end Go.Proofs.Ytghpcimeobmonaa
/- R02 size, Make: what the calls do. -/
namespace Go.Proofs.Ytghpcimeobmonaa
set_option linter.unusedVariables false
set_option linter.unusedSimpArgs false
open Go.RowKit Plain
attribute [local go_sem ↓] Go.wp_at_zero Go.wp_at_succ

set_option maxRecDepth 100000 in
set_option maxHeartbeats 400000 in
theorem refSize_any (n : Int) (w : World) (h1 : -9223372036854775808 ≤ n) (h2 : n ≤ 9223372036854775807) :
    Calls Try.prog 57 #[.int .i64 n] w (RetNat n.natAbs 2 w) := by
  have hb : n.natAbs < pw 2 := by simp only [pw]; omega
  by_cases hn : n < 0
  · go_enter Try.func57, Try.ntmps57
    go_wp2_with fail
    refine (refFromUint_val n.natAbs _ _ (by omega) hb).mono ?_
    rintro e w1 ⟨A, c, l, rfl, h1, h2, h3, h4⟩
    go_wp2
    go_ret
    exact ⟨A, c, l, rfl, h1, h2, h3, h4⟩
  · go_enter Try.func57, Try.ntmps57
    go_wp2_with fail
    refine (refFromUint_val n.natAbs _ _ (by omega) hb).mono ?_
    rintro e w1 ⟨A, c, l, rfl, h1, h2, h3, h4⟩
    go_wp2
    go_ret
    exact ⟨A, c, l, rfl, h1, h2, h3, h4⟩

set_option maxRecDepth 100000 in
set_option maxHeartbeats 1000000 in
theorem refMake_zero {neg : Bool} {A B : Option Addr} {n ca cb : Nat} {w : World} :
    Calls Try.prog 23 #[.bool neg, .slice A n ca, .slice B 0 cb] w (RetZE 8 w) := by
  obtain ⟨w0, hw0, bw0, hlt0, hB0⟩ := boxed w #[.bool false, .slice none 0 0, .slice none 0 0] 25
  have y0 := hB0.f0
  have y1 := hB0.f1
  have y2 := hB0.f2
  have z0 := hB0.free 0
  have z1 := hB0.free 1
  have z2 := hB0.free 2
  go_enter Try.func23, Try.ntmps23
  go_wp2
  obtain ⟨w9, hw9, hB9, o9⟩ := hB0.set3 (.bool false) (.slice none 0 0) (.slice none 0 0)
  rw [hw9]
  have e0 := hB9.f0
  have e1 := hB9.f1
  have e2 := hB9.f2
  refine bodyPost_ret (v := .tuple #[fracV false none 0 0 none 0 0, .int .i64 8]) (by simp [results, Try.results23, go_sem, e0, e1, e2]) rfl ⟨rfl, o9.to_below bw0 (Nat.le_refl _) (Nat.le_of_lt hlt0)⟩

set_option maxRecDepth 100000 in
set_option maxHeartbeats 1000000 in
theorem refMake_any {neg : Bool} {A B : Option Addr} {ca cb : Nat} {la lb : List Nat} {w : World} (ha : Nv w A ca la) (hb : Nv w B cb lb) (h0 : val lb ≠ 0) (hca : Canon la) (hcb : Canon lb) (hla : la.length ≤ 400000000) (hlb : lb.length ≤ 400000000) :
    Calls Try.prog 23 #[.bool neg, .slice A la.length ca, .slice B lb.length cb] w (RetQE (mkRat (sg neg (val la)) (val lb)) w) := by
  have hlp : lb ≠ [] := fun e => h0 (by rw [e]; rfl)
  have hlen : (((lb.length : Nat) : Int) == 0) = false := by rw [beq_eq_false_iff_ne]; have := List.length_pos_iff.2 hlp; omega
  have hbg := hb.big
  obtain ⟨w0, hw0, bw0, hlt0, hB0⟩ := boxed w #[.bool false, .slice none 0 0, .slice none 0 0] 25
  have ha0 := ha.below bw0
  have hb0 := hb.below bw0
  have hg0 : Nat.gcd (val la) (val lb) ≠ 0 := fun e => h0 (Nat.eq_zero_of_gcd_eq_zero_right e)
  clear hlp
  go_enter Try.func23, Try.ntmps23
  go_wp2_with fail
  refine (refGcd_any ha0 hb0 hca hcb hla hlb).mono ?_
  rintro e w1 ⟨G, cg, lg, rfl, ng, ig, mg, b1⟩
  have ig' := Lib.hid ig
  clear ig
  go_wp2_with fail
  refine (refDivMod_any (ha0.below b1) ng ig'.out.canon (by omega) (by omega)).mono ?_
  rintro e w2 ⟨A2, c2, q2, R2, s2, r2, rfl, nq, nr, iq, ir, lq, lr, b2⟩
  rw [ig'.out.val, if_neg hg0] at iq
  have iq' := Lib.hid iq
  have hz1 : (if val lg = 0 then (8 : Int) else 0) = 0 := by rw [ig'.out.val, if_neg hg0]
  rw [hz1]
  clear iq ir hz1
  go_wp2_with fail
  refine (refDivMod_any ((hb0.below b1).below b2) (ng.below b2) ig'.out.canon (by omega) (by omega)).mono ?_
  rintro e w3 ⟨A3, c3, q3, R3, s3, r3, rfl, nq3, nr3, iq3, ir3, lq3, lr3, b3⟩
  rw [ig'.out.val, if_neg hg0] at iq3
  have iq3' := Lib.hid iq3
  have hz1 : (if val lg = 0 then (8 : Int) else 0) = 0 := by rw [ig'.out.val, if_neg hg0]
  rw [hz1]
  clear iq3 ir3 hz1
  have b13 := (b1.trans (b2.mono b1.size))
  have b13 := b13.trans (b3.mono b13.size)
  have hB3 := hB0.keep b13
  have bw3 := bw0.trans (b13.mono (Nat.le_of_lt hlt0))
  have y0 := hB3.f0
  have y1 := hB3.f1
  have y2 := hB3.f2
  have z0 := hB3.free 0
  have z1 := hB3.free 1
  have z2 := hB3.free 2
  have hqp : decide (0 < la.length) = decide (0 < val la / Nat.gcd (val la) (val lb)) := by
    rw [decide_eq_decide]
    have ila : NatIs la (val la) := ⟨ha.dig, hca, rfl⟩
    constructor
    · intro h
      rcases Nat.eq_zero_or_pos (val la) with h1 | h1
      · rw [ila.zero_iff.2 h1] at h; simp at h
      · exact Nat.div_pos (Nat.le_of_dvd h1 (Nat.gcd_dvd_left _ _)) (Nat.pos_of_ne_zero hg0)
    · intro h
      refine ila.pos (Nat.pos_of_ne_zero fun e => ?_)
      rw [e] at h; simp at h
  obtain ⟨nz, hnz⟩ : ∃ b, decide (0 < val la / Nat.gcd (val la) (val lb)) = b := ⟨_, rfl⟩
  rw [hnz] at hqp
  have hQ := Lib.hid (fun (neg' : Bool) (h : neg' = (neg && nz)) => qIs_make (neg := neg) (neg' := neg') h0 iq'.out iq3'.out (by rw [hnz]; exact h))
  clear hnz
  have nq1 := nq.below b3
  clear b1 b2 b3
  rcases neg with _ | _
  · go_wp2
    obtain ⟨w9, hw9, hB9, o9⟩ := hB3.set3 (.bool false) (.slice A2 q2.length c2) (.slice A3 q3.length c3)
    rw [hw9]
    have e0 := hB9.f0
    have e1 := hB9.f1
    have e2 := hB9.f2
    have m1 := nq1.only_blk hB3 (noDig3 _ _ _ _ _ _ _) o9
    have m2 := nq3.only_blk hB3 (noDig3 _ _ _ _ _ _ _) o9
    refine bodyPost_ret (v := .tuple #[fracV false A2 q2.length c2 A3 q3.length c3, .int .i64 0]) (by simp [results, Try.results23, go_sem, e0, e1, e2]) rfl ?_
    exact ⟨_, rfl, ⟨_, A2, c2, q2, A3, c3, q3, rfl, m1, m2, hQ.out _ (by simp)⟩, o9.to_below bw3 (Nat.le_refl _) bw3.size⟩
  · go_wp2
    obtain ⟨w9, hw9, hB9, o9⟩ := hB3.set3 (.bool nz) (.slice A2 q2.length c2) (.slice A3 q3.length c3)
    rw [hw9]
    have e0 := hB9.f0
    have e1 := hB9.f1
    have e2 := hB9.f2
    have m1 := nq1.only_blk hB3 (noDig3 _ _ _ _ _ _ _) o9
    have m2 := nq3.only_blk hB3 (noDig3 _ _ _ _ _ _ _) o9
    refine bodyPost_ret (v := .tuple #[fracV nz A2 q2.length c2 A3 q3.length c3, .int .i64 0]) (by simp [results, Try.results23, go_sem, e0, e1, e2]) rfl ?_
    exact ⟨_, rfl, ⟨_, A2, c2, q2, A3, c3, q3, rfl, m1, m2, hQ.out _ (by simp)⟩, o9.to_below bw3 (Nat.le_refl _) bw3.size⟩

end Go.Proofs.Ytghpcimeobmonaa
/- R02 Same: what the call does. -/
namespace Go.Proofs.Ytghpcimeobmonaa
set_option linter.unusedVariables false
set_option linter.unusedSimpArgs false
open Go.RowKit Plain

def sameF (n1 : Bool) (a1 b1 : List Nat) (n2 : Bool) (a2 b2 : List Nat) : Bool := (n1 == n2) && (decide (a1 = a2) && decide (b1 = b2))
def PartInv (la lb : List Nat) (w : World) (i : Value) (wr : World) : Prop :=
  ∃ k : Nat, k ≤ la.length ∧ i = .int .i64 k ∧ Hid (la.take k = lb.take k) ∧ Below w.heap.size w wr

set_option maxRecDepth 100000 in
set_option maxHeartbeats 2000000 in
theorem sameF_any {n1 n2 : Bool} {A B C D : Option Addr} {ca cb cc cd : Nat} {a1 b1 a2 b2 : List Nat} {w : World} (ha : Nv w A ca a1) (hb : Nv w B cb b1) (hc : Nv w C cc a2) (hd : Nv w D cd b2) :
    Calls Try.prog 16 #[fracV n1 A a1.length ca B b1.length cb, fracV n2 C a2.length cc D b2.length cd] w fun e w' => e = .returned (.bool (sameF n1 a1 b1 n2 a2 b2)) ∧ Below w.heap.size w w' := by
  by_cases hn : n1 = n2
  · subst hn
    obtain ⟨wa, hwa, bwa, hlta, hBa⟩ := boxed w #[.bool n1, .slice A a1.length ca, .slice B b1.length cb] 25
    obtain ⟨w0, hw0, bw0, hlt0, hB0⟩ := boxed wa #[.bool n1, .slice C a2.length cc, .slice D b2.length cd] 25
    have b0 := bwa.trans (bw0.mono (Nat.le_of_lt hlta))
    have hA := hBa.keep bw0
    have x0 := hA.f0
    have x1 := hA.f1
    have x2 := hA.f2
    have y0 := hB0.f0
    have y1 := hB0.f1
    have y2 := hB0.f2
    have g1 := ha.big
    have g2 := hb.big
    have g3 := hc.big
    have g4 := hd.big
    have ha0 := ha.below b0
    have hb0 := hb.below b0
    have hc0 := hc.below b0
    have hd0 := hd.below b0
    by_cases hl1 : a1.length = a2.length
    · have hne1 : (((a1.length : Nat) : Int) != ((a2.length : Nat) : Int)) = false := by rw [bne_eq_false_iff_eq]; omega
      have hl1' := Lib.hid hl1
      have hle1 : a1.length ≤ a2.length := by omega
      clear hl1
      by_cases hl2 : b1.length = b2.length
      · have hne2 : (((b1.length : Nat) : Int) != ((b2.length : Nat) : Int)) = false := by rw [bne_eq_false_iff_eq]; omega
        have hl2' := Lib.hid hl2
        have hle2 : b1.length ≤ b2.length := by omega
        have hr : Hid (sameF n1 a1 b1 n1 a2 b2 = (decide (a1 = a2) && decide (b1 = b2))) := by show _ = _; unfold sameF; rw [beq_self_eq_true, Bool.true_and]
        rw [hr.out]
        clear hl2 hr
        go_enter Try.func16, Try.ntmps16
        go_wp2
        go_loopw [5] (fun i wr => PartInv a1 a2 w0 i wr) (fun i _ => a1.length - (intOf i).toNat)
        case atStart => exact ⟨0, by omega, rfl, rfl, Below.refl _ _⟩
        case round =>
          obtain ⟨k, hk, rfl, hdd, hbel⟩ := hrel
          have k1 := (hA.keep hbel).f1
          have m1 := (hB0.keep hbel).f1
          have bT := b0.trans (hbel.mono b0.size)
          by_cases hkl : k < a1.length
          · obtain ⟨a, d, rfl, hab, hac, hda, hga⟩ := (ha0.below hbel).at (k := k) hkl
            obtain ⟨b, f, rfl, hbb, hbc, hdb, hgb⟩ := (hc0.below hbel).at (k := k) (by omega)
            by_cases hdf : d = f
            · subst hdf
              have hf := Lib.hid (show a1.take (k + 1) = a2.take (k + 1) by rw [take_snoc' a1 k hkl, take_snoc' a2 k (by omega), hdd.out, hga.out, hgb.out])
              go_wp2
              go_quiet (fail)
              go_wp2
              go_roundw
              case rel => exact ⟨k + 1, by omega, by go_num, hf, below_drewN hbel _⟩
              case measure => simp [intOf]; omega
            · have hf := Lib.hid (show a1 ≠ a2 by intro e; subst e; exact hdf (hga.out.symm.trans hgb.out))
              have hdf' : ((d : Int) != (f : Int)) = true := by rw [bne_iff_ne]; omega
              go_wp2
              go_quiet (fail)
              go_wp2
              go_ret
              refine ⟨?_, below_drewN bT _⟩
              rw [decide_eq_false hf.out]; rfl
          · obtain rfl : k = a1.length := by omega
            have hf := Lib.hid (show a1 = a2 by
              have := hdd.out
              rw [List.take_length, hl1'.out, List.take_length] at this
              exact this)
            clear x0 x1 x2 y0 y1 y2 ha0 hc0 hdd
            go_wp2
            rename_i wr
            go_loopw [6] (fun i wr => PartInv b1 b2 w0 i wr) (fun i _ => b1.length - (intOf i).toNat)
            case atStart => exact ⟨0, by omega, rfl, rfl, hbel⟩
            case round =>
              obtain ⟨k, hk, rfl, hdd, hbel⟩ := hrel
              have k2 := (hA.keep hbel).f2
              have m2 := (hB0.keep hbel).f2
              have bT := b0.trans (hbel.mono b0.size)
              by_cases hkl : k < b1.length
              · obtain ⟨a, d, rfl, hab, hac, hda, hga⟩ := (hb0.below hbel).at (k := k) hkl
                obtain ⟨b, f, rfl, hbb, hbc, hdb, hgb⟩ := (hd0.below hbel).at (k := k) (by omega)
                by_cases hdf : d = f
                · subst hdf
                  have hf := Lib.hid (show b1.take (k + 1) = b2.take (k + 1) by rw [take_snoc' b1 k hkl, take_snoc' b2 k (by omega), hdd.out, hga.out, hgb.out])
                  go_wp2
                  go_quiet (fail)
                  go_wp2
                  go_roundw
                  case rel => exact ⟨k + 1, by omega, by go_num, hf, below_drewN hbel _⟩
                  case measure => simp [intOf]; omega
                · have hf2 := Lib.hid (show b1 ≠ b2 by intro e; subst e; exact hdf (hga.out.symm.trans hgb.out))
                  have hdf' : ((d : Int) != (f : Int)) = true := by rw [bne_iff_ne]; omega
                  go_wp2
                  go_quiet (fail)
                  go_wp2
                  go_ret
                  refine ⟨?_, below_drewN bT _⟩
                  rw [decide_eq_false hf2.out, Bool.and_false]; rfl
              · obtain rfl : k = b1.length := by omega
                have hf2 := Lib.hid (show b1 = b2 by
                  have := hdd.out
                  rw [List.take_length, hl2'.out, List.take_length] at this
                  exact this)
                go_wp2
                go_ret
                refine ⟨?_, bT⟩
                rw [decide_eq_true hf.out, decide_eq_true hf2.out]; rfl
      · have hne2 : (((b1.length : Nat) : Int) != ((b2.length : Nat) : Int)) = true := by rw [bne_iff_ne]; omega
        have hr : Hid (sameF n1 a1 b1 n1 a2 b2 = false) := by
          show _ = _; unfold sameF
          rw [decide_eq_false (show ¬ b1 = b2 from fun e => hl2 (by rw [e])), Bool.and_false, Bool.and_false]
        rw [hr.out]
        clear hl2 hr
        go_enter Try.func16, Try.ntmps16
        go_wp2
        go_ret
        exact ⟨rfl, b0⟩
    · have hne1 : (((a1.length : Nat) : Int) != ((a2.length : Nat) : Int)) = true := by rw [bne_iff_ne]; omega
      have hr : Hid (sameF n1 a1 b1 n1 a2 b2 = false) := by
        show _ = _; unfold sameF
        rw [decide_eq_false (show ¬ a1 = a2 from fun e => hl1 (by rw [e])), Bool.false_and, Bool.and_false]
      rw [hr.out]
      clear hl1 hr
      go_enter Try.func16, Try.ntmps16
      go_wp2
      go_ret
      exact ⟨rfl, b0⟩
  · have hnb : (n1 == n2) = false := by simpa using hn
    obtain ⟨wa, hwa, bwa, hlta, hBa⟩ := boxed w #[.bool n1, .slice A a1.length ca, .slice B b1.length cb] 25
    obtain ⟨w0, hw0, bw0, hlt0, hB0⟩ := boxed wa #[.bool n2, .slice C a2.length cc, .slice D b2.length cd] 25
    have b0 := bwa.trans (bw0.mono (Nat.le_of_lt hlta))
    have hA := hBa.keep bw0
    have x0 := hA.f0
    have x1 := hA.f1
    have x2 := hA.f2
    have y0 := hB0.f0
    have y1 := hB0.f1
    have y2 := hB0.f2
    have g1 := ha.big
    have g2 := hb.big
    have g3 := hc.big
    have g4 := hd.big
    have ha0 := ha.below b0
    have hb0 := hb.below b0
    have hc0 := hc.below b0
    have hd0 := hd.below b0
    have hr : Hid (sameF n1 a1 b1 n2 a2 b2 = false) := by show _ = _; unfold sameF; rw [hnb, Bool.false_and]
    rw [hr.out]
    clear hn hr
    go_enter Try.func16, Try.ntmps16
    go_wp2
    go_ret
    exact ⟨rfl, b0⟩
theorem same_q {n1 n2 : Bool} {a1 b1 a2 b2 : List Nat} {p q : Rat} (h1 : QIs n1 a1 b1 p) (h2 : QIs n2 a2 b2 q) : sameF n1 a1 b1 n2 a2 b2 = decide (p = q) := by
  unfold sameF
  rw [Bool.eq_iff_iff, Bool.and_eq_true, Bool.and_eq_true, beq_iff_eq, decide_eq_true_eq, decide_eq_true_eq, decide_eq_true_eq]
  constructor
  · rintro ⟨rfl, rfl, rfl⟩; exact h1.inj h2
  · rintro rfl; exact h1.uniq h2
def RetB (b : Bool) (W : World) (e : Ending) (w' : World) : Prop := e = .returned (.bool b) ∧ Below W.heap.size W w'
theorem sameQ_any {v u : Value} {p q : Rat} {w : World} (hv : FV w v p) (hu : FV w u q) : Calls Try.prog 16 #[v, u] w (RetB (decide (p = q)) w) := by
  obtain ⟨n1, A, ca, la, B, cb, lb, rfl, na, nb, iq⟩ := hv
  obtain ⟨n2, C, cc, lc, D, cd, ld, rfl, nc, nd, ir⟩ := hu
  rw [← same_q iq ir]
  exact sameF_any na nb nc nd
end Go.Proofs.Ytghpcimeobmonaa
/- fraction.kindOf and Valid: what the calls do. -/
namespace Go.Proofs.Ytghpcimeobmonaa
set_option linter.unusedVariables false
set_option linter.unusedSimpArgs false
open Go.RowKit Plain
attribute [local go_sem ↓] Go.wp_at_zero Go.wp_at_succ

set_option maxRecDepth 100000 in
set_option maxHeartbeats 1000000 in
theorem kindOf_any {neg : Bool} {A B : Option Addr} {ca cb : Nat} {la lb : List Nat} {w : World} (ha : Nv w A ca la) :
    Calls Try.prog 73 #[fracV neg A la.length ca B lb.length cb] w fun e w' => e = .returned (.agg #[.bool neg, .bool (zeroB la)]) ∧ Below w.heap.size w w' := by
  have hz := zeroB_len la
  obtain ⟨z, hzz⟩ : ∃ z, zeroB la = z := ⟨_, rfl⟩
  rw [hzz] at hz ⊢
  clear hzz
  have hbg := ha.big
  go_enter Try.func73, Try.ntmps73
  go_wp2
  refine bodyPost_ret (v := .agg #[.bool neg, .bool z]) (by simp [results, Try.results73, go_sem]) rfl ⟨rfl, ?_⟩
  exact ((Below.refl _ _).alloc (Nat.le_refl _) _).alloc (by simp) _

set_option maxRecDepth 100000 in
set_option maxHeartbeats 1000000 in
theorem fvalid_any {neg : Bool} {A B : Option Addr} {ca cb : Nat} {la lb : List Nat} {w : World} (ha : Nv w A ca la) (hb : Nv w B cb lb) (hla : la.length ≤ 400000000) (hlb : lb.length ≤ 400000000) :
    Calls Try.prog 35 #[fracV neg A la.length ca B lb.length cb] w fun e w' => e = .returned (.bool (vldF neg la lb)) ∧ Below w.heap.size w w' := by
  obtain ⟨w0, hw0, bw0, hlt0, hB0⟩ := boxed w #[.bool neg, .slice A la.length ca, .slice B lb.length cb] 25
  have k0 := hB0.f0
  have k1 := hB0.f1
  have k2 := hB0.f2
  have ha0 := ha.below bw0
  have hb0 := hb.below bw0
  have hbg := hb.big
  have hzb := zeroB_len lb
  obtain ⟨v1, hv1⟩ : ∃ v, validL la = v := ⟨_, rfl⟩
  obtain ⟨v2, hv2⟩ : ∃ v, validL lb = v := ⟨_, rfl⟩
  obtain ⟨z1, hz1⟩ : ∃ v, zeroB la = v := ⟨_, rfl⟩
  obtain ⟨z2, hz2⟩ : ∃ v, zeroB lb = v := ⟨_, rfl⟩
  rw [hz2] at hzb
  have hr := Lib.hid (show vldF neg la lb = (v1 && (v2 && (!z2 && (!(neg && z1) && decide (Nat.gcd (val la) (val lb) = 1))))) by unfold vldF; rw [hv1, hv2, hz1, hz2])
  have hv1' := Lib.hid hv1
  have hv2' := Lib.hid hv2
  have hz1' := Lib.hid hz1
  clear hv1 hv2 hz1 hz2
  rw [hr.out]
  rcases v1 with _ | _
  · go_enter Try.func35, Try.ntmps35
    go_wp2_with fail
    refine (valid_any ha0).mono ?_
    rintro e w1 ⟨rfl, rfl⟩
    rw [hv1'.out]
    go_wp2
    go_ret
    exact ⟨rfl, bw0⟩
  rcases v2 with _ | _
  · go_enter Try.func35, Try.ntmps35
    go_wp2_with fail
    refine (valid_any ha0).mono ?_
    rintro e w1 ⟨rfl, rfl⟩
    rw [hv1'.out]
    go_wp2_with fail
    refine (valid_any hb0).mono ?_
    rintro e w1 ⟨rfl, rfl⟩
    rw [hv2'.out]
    go_wp2
    go_ret
    exact ⟨rfl, bw0⟩
  rcases z2 with _ | _
  · go_enter Try.func35, Try.ntmps35
    go_wp2_with fail
    refine (valid_any ha0).mono ?_
    rintro e w1 ⟨rfl, rfl⟩
    rw [hv1'.out]
    go_wp2_with fail
    refine (valid_any hb0).mono ?_
    rintro e w1 ⟨rfl, rfl⟩
    rw [hv2'.out]
    go_wp2_with fail
    refine (kindOf_any ha0).mono ?_
    rintro e w2 ⟨rfl, b2⟩
    rw [hz1'.out]
    have k1' := (hB0.keep b2).f1
    have k2' := (hB0.keep b2).f2
    have b02 := bw0.trans (b2.mono (Nat.le_of_lt hlt0))
    rcases neg with _ | _ <;> rcases z1 with _ | _
    case true.true =>
      go_wp2
      go_ret
      exact ⟨rfl, b02⟩
    all_goals
      go_wp2_with fail
      refine (gcd_any (ha0.below b2) (hb0.below b2) hla hlb).mono ?_
      rintro e w3 ⟨G, cg, lg, rfl, ng, ig, mg, b3⟩
      go_wp2_with fail
      refine (fromUint_any 1 _ (by decide)).mono ?_
      rintro e w4 ⟨O, co, lo, rfl, no, io, mo, b4⟩
      go_wp2_with fail
      refine (cmp_any (ng.below b4) no).mono ?_
      rintro e w5 ⟨rfl, b5⟩
      rw [ig.val, io.val]
      have hcm := cmp_one (Nat.gcd (val la) (val lb))
      have b03 := b02.trans (b3.mono b02.size)
      have b04 := b03.trans (b4.mono b03.size)
      have b05 := b04.trans (b5.mono b04.size)
      clear ig io b3 b4 b5 b03 b04
      go_wp2
      go_ret
      exact ⟨rfl, b05⟩
  · go_enter Try.func35, Try.ntmps35
    go_wp2_with fail
    refine (valid_any ha0).mono ?_
    rintro e w1 ⟨rfl, rfl⟩
    rw [hv1'.out]
    go_wp2_with fail
    refine (valid_any hb0).mono ?_
    rintro e w1 ⟨rfl, rfl⟩
    rw [hv2'.out]
    go_wp2
    go_ret
    exact ⟨rfl, bw0⟩

end Go.Proofs.Ytghpcimeobmonaa
/- R02 Valid and Natural, the law's short: what the calls do. -/
namespace Go.Proofs.Ytghpcimeobmonaa
set_option linter.unusedVariables false
set_option linter.unusedSimpArgs false
open Go.RowKit Plain
attribute [local go_sem ↓] Go.wp_at_zero Go.wp_at_succ

theorem single_len {l : List Nat} (h : l.length = 1) : l = [l.getD 0 0] := by
  match l, h with
  | [d], _ => rfl
theorem one_len {l : List Nat} (h : l.length ≠ 1) : decide (l = [1]) = false := decide_eq_false fun e => h (by rw [e]; rfl)
theorem one_head {l : List Nat} {d : Nat} (h : l.length = 1) (hd : l.getD 0 0 = d) : decide (l = [1]) = decide (d = 1) := by
  rw [decide_eq_decide, single_len h, hd]
  simp
theorem gcd_nil {l : List Nat} (h : Canon l) (hd : Dig l) : decide (Nat.gcd (val []) (val l) = 1) = decide (l = [1]) := by
  rw [one_iff (n := val l) ⟨hd, h, rfl⟩, decide_eq_decide, val_nil, Nat.gcd_zero_left]
theorem refValid_eq {A : Option Addr} {c : Nat} {l : List Nat} {w : World} (h : Nv w A c l) (b : Bool) (hb : validL l = b) :
    Calls Try.prog 59 #[.slice A l.length c] w fun e w' => e = .returned (.bool b) ∧ w = w' := by
  subst hb; exact refValid_any h
set_option maxRecDepth 100000 in
set_option maxHeartbeats 2000000 in
theorem refValidF_any {neg : Bool} {A B : Option Addr} {ca cb : Nat} {la lb : List Nat} {w : World} (ha : Nv w A ca la) (hb : Nv w B cb lb) (hla : la.length ≤ 400000000) (hlb : lb.length ≤ 400000000) :
    Calls Try.prog 30 #[fracV neg A la.length ca B lb.length cb] w (RetB (vldF neg la lb) w) := by
  obtain ⟨w0, hw0, bw0, hlt0, hB0⟩ := boxed w #[.bool neg, .slice A la.length ca, .slice B lb.length cb] 25
  have k0 := hB0.f0
  have k1 := hB0.f1
  have k2 := hB0.f2
  have ha0 := ha.below bw0
  have hb0 := hb.below bw0
  have hbg := hb.big
  have hag := ha.big
  by_cases hv1 : validL la = true
  · by_cases hv2 : validL lb = true
    · have hca := canon_of_validL hv1
      have hcb := canon_of_validL hv2
      have hv1' := Lib.hid hv1
      have hv2' := Lib.hid hv2
      by_cases hz2 : lb.length = 0
      · have hr : Hid (vldF neg la lb = false) := by show _ = _; unfold vldF; rw [hv1, hv2, ← zeroB_len, hz2]; rfl
        have hz : (((lb.length : Nat) : Int) == 0) = true := by rw [hz2]; rfl
        rw [hr.out]
        clear hr hz2 hv1 hv2
        go_enter Try.func30, Try.ntmps30
        go_wp2_with fail
        refine (refValid_eq ha0 true hv1'.out).mono ?_
        rintro e w1 ⟨rfl, rfl⟩
        go_wp2_with fail
        refine (refValid_eq hb0 true hv2'.out).mono ?_
        rintro e w1 ⟨rfl, rfl⟩
        go_wp2
        go_ret
        exact ⟨rfl, bw0⟩
      · have hz : (((lb.length : Nat) : Int) == 0) = false := by rw [beq_eq_false_iff_ne]; omega
        have hzb : zeroB lb = false := by rw [← zeroB_len]; exact hz
        by_cases hz1 : la.length = 0
        · obtain rfl : la = [] := List.eq_nil_of_length_eq_zero hz1
          have hr : Hid (vldF neg [] lb = (!neg && decide (lb = [1]))) := by
            show _ = _
            unfold vldF
            rw [hv1, hv2, hzb, show zeroB [] = true from rfl, gcd_nil hcb hb.dig]
            cases neg <;> simp
          rw [hr.out]
          clear hr hz1 hv1 hv2 hzb hca
          simp only [List.length_nil] at *
          rcases neg with _ | _
          · by_cases h1 : lb.length = 1
            · have h1t : (((lb.length : Nat) : Int) == 1) = true := by rw [beq_iff_eq]; omega
              obtain ⟨b, d, rfl, hbb, hbc, hdb, hgb⟩ := hb0.at (k := 0) (by omega)
              have hbc0 := cell0 hbc
              have hlp : 0 < lb.length := by omega
              have ho := Lib.hid (one_head h1 hgb.out)
              rw [ho.out]
              have hde : ((d : Int) == 1) = decide (d = 1) := by rw [Bool.eq_iff_iff, beq_iff_eq, decide_eq_true_eq]; omega
              clear h1
              go_enter Try.func30, Try.ntmps30
              go_wp2_with fail
              refine (refValid_eq (l := []) ha0 true hv1'.out).mono ?_
              rintro e w1 ⟨rfl, rfl⟩
              go_wp2_with fail
              refine (refValid_eq hb0 true hv2'.out).mono ?_
              rintro e w1 ⟨rfl, rfl⟩
              go_wp2
              go_ret
              exact ⟨rfl, bw0⟩
            · have h1t : (((lb.length : Nat) : Int) == 1) = false := by rw [beq_eq_false_iff_ne]; omega
              rw [one_len h1]
              clear h1
              go_enter Try.func30, Try.ntmps30
              go_wp2_with fail
              refine (refValid_eq (l := []) ha0 true hv1'.out).mono ?_
              rintro e w1 ⟨rfl, rfl⟩
              go_wp2_with fail
              refine (refValid_eq hb0 true hv2'.out).mono ?_
              rintro e w1 ⟨rfl, rfl⟩
              go_wp2
              go_ret
              exact ⟨rfl, bw0⟩
          · go_enter Try.func30, Try.ntmps30
            go_wp2_with fail
            refine (refValid_eq (l := []) ha0 true hv1'.out).mono ?_
            rintro e w1 ⟨rfl, rfl⟩
            go_wp2_with fail
            refine (refValid_eq hb0 true hv2'.out).mono ?_
            rintro e w1 ⟨rfl, rfl⟩
            go_wp2
            go_ret
            exact ⟨rfl, bw0⟩
        · have hz1f : (((la.length : Nat) : Int) == 0) = false := by rw [beq_eq_false_iff_ne]; omega
          have hza : zeroB la = false := by rw [← zeroB_len]; exact hz1f
          have hr : Hid (vldF neg la lb = decide (Nat.gcd (val la) (val lb) = 1)) := by
            show _ = _
            unfold vldF
            rw [hv1, hv2, hzb, hza]
            simp
          rw [hr.out]
          clear hr hz1 hv1 hv2 hzb hza
          go_enter Try.func30, Try.ntmps30
          go_wp2_with fail
          refine (refValid_eq ha0 true hv1'.out).mono ?_
          rintro e w1 ⟨rfl, rfl⟩
          go_wp2_with fail
          refine (refValid_eq hb0 true hv2'.out).mono ?_
          rintro e w1 ⟨rfl, rfl⟩
          go_wp2_with fail
          refine (refGcd_any ha0 hb0 hca hcb hla hlb).mono ?_
          rintro e w3 ⟨G, cg, lg, rfl, ng, ig, mg, b3⟩
          have b03 := bw0.trans (b3.mono (Nat.le_of_lt hlt0))
          have hone := Lib.hid (one_iff ig)
          clear ig
          have hgg := ng.big
          by_cases h1 : lg.length = 1
          · have h1t : (((lg.length : Nat) : Int) == 1) = true := by rw [beq_iff_eq]; omega
            obtain ⟨b, d, rfl, hbb, hbc, hdb, hgb⟩ := ng.at (k := 0) (by omega)
            have hbc0 := cell0 hbc
            have hlp : 0 < lg.length := by omega
            have ho := Lib.hid (one_head h1 hgb.out)
            have hde : ((d : Int) == 1) = decide (d = 1) := by rw [Bool.eq_iff_iff, beq_iff_eq, decide_eq_true_eq]; omega
            clear h1
            go_wp2
            go_ret
            exact ⟨by rw [← hone.out, ho.out]; rfl, b03⟩
          · have h1t : (((lg.length : Nat) : Int) == 1) = false := by rw [beq_eq_false_iff_ne]; omega
            have ho := Lib.hid (one_len h1)
            clear h1
            go_wp2
            go_ret
            exact ⟨by rw [← hone.out, ho.out]; rfl, b03⟩
    · have hr : Hid (vldF neg la lb = false) := by show _ = _; unfold vldF; rw [hv1, eq_false_of_ne_true hv2]; rfl
      rw [hr.out]
      have hv1' := Lib.hid hv1
      have hv2' := Lib.hid (eq_false_of_ne_true hv2)
      clear hr hv1 hv2
      go_enter Try.func30, Try.ntmps30
      go_wp2_with fail
      refine (refValid_eq ha0 true hv1'.out).mono ?_
      rintro e w1 ⟨rfl, rfl⟩
      go_wp2_with fail
      refine (refValid_eq hb0 false hv2'.out).mono ?_
      rintro e w1 ⟨rfl, rfl⟩
      go_wp2
      go_ret
      exact ⟨rfl, bw0⟩
  · have hr : Hid (vldF neg la lb = false) := by show _ = _; unfold vldF; rw [eq_false_of_ne_true hv1]; rfl
    rw [hr.out]
    have hv1' := Lib.hid (eq_false_of_ne_true hv1)
    clear hr hv1
    go_enter Try.func30, Try.ntmps30
    go_wp2_with fail
    refine (refValid_eq ha0 false hv1'.out).mono ?_
    rintro e w1 ⟨rfl, rfl⟩
    go_wp2
    go_ret
    exact ⟨rfl, bw0⟩
set_option maxRecDepth 100000 in
set_option maxHeartbeats 2000000 in
theorem refNatural_any {A : Option Addr} {c : Nat} {l : List Nat} {w : World} (h : Nv w A c l) :
    Calls Try.prog 21 #[.slice A l.length c] w fun e w' => e = .returned (.bool (validL l)) ∧ w = w' := by
  obtain ⟨b, hb⟩ : ∃ b, Hid (validL l = b) := ⟨_, rfl⟩
  rw [hb.out]
  go_enter Try.func21, Try.ntmps21
  go_wp2_with fail
  refine (refValid_eq h b hb.out).mono ?_
  rintro e w1 ⟨rfl, rfl⟩
  go_wp2
  go_ret
  exact ⟨rfl, rfl⟩
/-- A valid fraction is a value of a rational number. -/
theorem vldF_qIs {neg : Bool} {la lb : List Nat} (ha : Dig la) (hb : Dig lb) (h : vldF neg la lb = true) : QIs neg la lb (mkRat (sg neg (val la)) (val lb)) := by
  unfold vldF at h
  simp only [Bool.and_eq_true, Bool.not_eq_true', decide_eq_true_eq] at h
  obtain ⟨h1, h2, h3, h4, h5⟩ := h
  refine qIs_valid ⟨ha, canon_of_validL h1, rfl⟩ ⟨hb, canon_of_validL h2, rfl⟩ (by unfold zeroB at h3; simpa using h3) ?_ h5
  rintro ⟨rfl, rfl⟩
  simp [zeroB] at h4
theorem validL_canon {l : List Nat} (h : Canon l) : validL l = true := by unfold validL; simpa using trimN_canon h
theorem qIs_vldF {neg : Bool} {la lb : List Nat} {q : Rat} (h : QIs neg la lb q) : vldF neg la lb = true := by
  unfold vldF
  simp only [Bool.and_eq_true, Bool.not_eq_true', decide_eq_true_eq]
  refine ⟨validL_canon h.na.canon, validL_canon h.nb.canon, ?_, ?_, QIs.gcd h⟩
  · unfold zeroB; simpa using QIs.ne h
  · cases neg with
    | false => rfl
    | true =>
      have := QIs.sign h
      unfold zeroB
      simpa using this
theorem refValidQ_any {v : Value} {q : Rat} {k : Nat} {w : World} (hv : FV w v q) (hk : Fits k q) (hK : k ≤ 400000000) : Calls Try.prog 30 #[v] w (RetB true w) := by
  obtain ⟨neg, A, ca, la, B, cb, lb, rfl, na, nb, iq⟩ := hv
  have hf := QIs.fits iq hk
  have := refValidF_any (neg := neg) na nb (by omega) (by omega)
  rw [qIs_vldF iq] at this
  exact this
end Go.Proofs.Ytghpcimeobmonaa
/- Fractions, numbers and slices of fractions that are handed in; the law's short. -/
namespace Go.Proofs.Ytghpcimeobmonaa
set_option linter.unusedVariables false
set_option linter.unusedSimpArgs false
open Go.RowKit Plain Go.ChangeShapes Go.WideShapes

/-- A slice handed in, of any length. -/
structure InRow (w : World) (A : Option Addr) (c : Nat) (l : List Nat) : Prop where
  len : l.length ≤ c
  big : l.length ≤ 9223372036854775807
  rd : Rd w A l
  dig : Dig l

theorem InRow.nv {w : World} {A : Option Addr} {c : Nat} {l : List Nat} (h : InRow w A c l) (hl : l.length ≤ 70368744177664) : Nv w A c l := ⟨h.len, hl, h.rd, h.dig⟩

theorem cell_lt {w : World} {a : Addr} {v : Value} (h : w.cell? a = some v) : a.block < w.heap.size := by
  rcases Nat.lt_or_ge a.block w.heap.size with hlt | hge
  · exact hlt
  · simp [World.cell?, Array.getElem?_eq_none hge] at h

theorem inRow_of {w : World} {a : Option Addr} {len cap : Nat} {zs : List Int}
    (h : (a = none ∧ len = 0 ∧ cap = 0 ∧ zs = []) ∨
      ∃ x, a = some x ∧ len ≤ cap ∧ cap ≤ maxLen ∧ zs.length = cap ∧ (∀ i, i < zs.length → w.cell? (x.add i) = some (.int .u32 (zs.getD i 0))) ∧ ∀ n ∈ zs, (Lit.int .u32 n).wf = true) :
    ∃ l, Hid (l = (zs.take len).map Int.toNat) ∧ l.length = len ∧ InRow w a cap l := by
  rcases h with ⟨rfl, rfl, rfl, rfl⟩ | ⟨x, rfl, h1, h2, h3, h4, h5⟩
  · exact ⟨[], rfl, rfl, by simp, by simp, fun hx => by simp [u32s] at hx, Dig.nil⟩
  · have hlen : ((zs.take len).map Int.toNat).length = len := by rw [List.length_map, List.length_take]; omega
    have hm : maxLen = 9223372036854775807 := rfl
    have hb : ∀ n ∈ zs, 0 ≤ n ∧ n < 4294967296 := fun n hn => by
      have := h5 n hn
      simp [Lit.wf, IntKind.min, IntKind.max, IntKind.bits, IntKind.signed] at this
      omega
    refine ⟨_, rfl, hlen, by rw [hlen]; exact h1, by rw [hlen]; omega, fun hx => ⟨x, rfl, ?_, fun j hj => ?_⟩, ?_⟩
    · rw [u32s_length, hlen] at hx
      have := h4 0 (by omega)
      exact cell_lt (by simpa [Addr.add] using this)
    · rw [u32s_length, hlen] at hj
      rw [h4 j (by omega)]
      have hz := hb (zs.getD j 0) (by rw [List.getD_eq_getElem?_getD, List.getElem?_eq_getElem (by omega)]; exact List.getElem_mem _)
      simp [u32s, List.getElem?_eq_getElem (show j < zs.length by omega)] at hz ⊢
      omega
    · intro d hd
      rw [List.mem_map] at hd
      obtain ⟨n, hn, rfl⟩ := hd
      have := hb n (List.mem_of_mem_take hn)
      omega

section
variable {H : Type} {enc : TypeId × Value → H} {w : World} {fuel : Nat} {cs : List Value} {x : DataW H × List MemPlace}
theorem trod_nat (h : DataW.trod enc Try.prog w 0 (fun _ => true) true fuel 23 cs = some x) : ∃ A c l, cs = [.slice A l.length c] ∧ InRow w A c l := by
  rcases Go.ChangeShapes.open_ints Try.underlying23 Try.underlying62 (by kernel_rfl) h with ⟨rfl, _⟩ | ⟨a, l, c, zs, rfl, _, hl, hm, hz, _, hcell, hwz⟩
  · exact ⟨none, 0, [], rfl, by simp, by simp, fun hx => by simp [u32s] at hx, Dig.nil⟩
  · obtain ⟨la, ha, rfl, ra⟩ := inRow_of (w := w) (a := some a) (len := l) (cap := c) (zs := zs) (.inr ⟨a, rfl, hl, hm, by simpa using hz, hcell, hwz⟩)
    exact ⟨some a, c, la, rfl, ra⟩
theorem cellsFrac : Try.prog.cellsOf 25 = 3 := by kernel_rfl
theorem cellsBool : Try.prog.cellsOf 4 = 1 := by kernel_rfl
theorem cellsNat : Try.prog.cellsOf 23 = 1 := by kernel_rfl
theorem list3 {α : Type} {l : List α} (h : l.length = 3) : ∃ a b c, l = [a, b, c] := by
  match l, h with
  | [a, b, c], _ => exact ⟨a, b, c, rfl⟩
/-- A fraction as it lies in memory. -/
structure FrD where
  neg : Bool
  a : Option Addr
  ca : Nat
  la : List Nat
  b : Option Addr
  cb : Nat
  lb : List Nat
def FrD.cells (f : FrD) : List Value := [.bool f.neg, .slice f.a f.la.length f.ca, .slice f.b f.lb.length f.cb]
def FrD.ok (w : World) (f : FrD) : Prop := InRow w f.a f.ca f.la ∧ InRow w f.b f.cb f.lb
theorem trod_frac (h : DataW.trod enc Try.prog w 0 (fun _ => true) true fuel 25 cs = some x) : ∃ f : FrD, cs = f.cells ∧ f.ok w := by
  obtain ⟨y0, y1, y2, n, rfl, hl, h0, h1, h2⟩ := Go.Deep.trod_struct3 Try.underlying25 h
  rw [cellsFrac] at hl
  obtain ⟨c0, c1, c2, rfl⟩ := list3 hl
  simp only [cellsBool, cellsNat] at h0 h1 h2
  obtain ⟨b, hb, _⟩ := DataW.trod_bool Try.underlying4 h0
  obtain ⟨A, ca, la, hA, iA⟩ := trod_nat h1
  obtain ⟨B, cb, lb, hB, iB⟩ := trod_nat h2
  simp at hb hA hB
  subst hb hA hB
  exact ⟨⟨b, A, ca, la, B, cb, lb⟩, rfl, iA, iB⟩
/-- A parameter that is a fraction. -/
theorem open_frac {b0 : Nat} {v : Value} {d : DataW H} {p : List MemPlace} (hv : Value.okWide Try.prog w .any b0 25 v) (h : DataW.Trod enc Try.prog w 0 (fun _ => true) true 25 v d p) : ∃ f : FrD, v = fracV f.neg f.a f.la.length f.ca f.b f.lb.length f.cb ∧ f.ok w := by
  obtain ⟨vs, rfl, hsz⟩ := okWide_struct Try.underlying25 hv
  obtain ⟨fuel, hf⟩ := h
  obtain ⟨f, hc, ho⟩ := trod_frac hf
  refine ⟨f, ?_, ho⟩
  have e : vs = f.cells.toArray := by
    apply Array.ext'
    simpa [Value.cells] using hc
  rw [e]
  rfl
/-- A slice whose elements are some cells each, as a list. -/
def Srow {δ : Type} (w : World) (C : Nat) (cells : δ → List Value) (A : Option Addr) (c : Nat) (ds : List δ) : Prop :=
  ds.length ≤ c ∧ c ≤ 9223372036854775807 ∧ ∀ (j : Nat) (hj : j < ds.length), ∃ a, A = some a ∧ a.block < w.heap.size ∧ ∀ i u, (cells ds[j])[i]? = some u → w.cell? (a.add (j * C + i)) = some u
theorem Srow.below {δ : Type} {w w' : World} {C : Nat} {cells : δ → List Value} {A : Option Addr} {c : Nat} {ds : List δ} (h : Srow w C cells A c ds) (hb : Below w.heap.size w w') : Srow w' C cells A c ds :=
  ⟨h.1, h.2.1, fun j hj => by
    obtain ⟨a, e, h1, h2⟩ := h.2.2 j hj
    exact ⟨a, e, Nat.lt_of_lt_of_le h1 hb.size, fun i u hu => (hb.cell (by rw [block_add]; exact h1)).trans (h2 i u hu)⟩⟩
theorem Srow.take {δ : Type} {w : World} {C : Nat} {cells : δ → List Value} {A : Option Addr} {c : Nat} {ds : List δ} (h : Srow w C cells A c ds) (n : Nat) : Srow w C cells A c (ds.take n) :=
  ⟨by rw [List.length_take]; have := h.1; omega, h.2.1, fun j hj => by
    rw [List.length_take] at hj
    obtain ⟨a, e, h1, h2⟩ := h.2.2 j (by omega)
    refine ⟨a, e, h1, fun i u hu => h2 i u ?_⟩
    rw [← hu]; simp⟩
theorem trod_rows {δ : Type} {t e : TypeId} {C : Nat} {cells : δ → List Value} {P : δ → Prop} (ht : Try.prog.underlying t = some (.slice e)) (hC : Try.prog.cellsOf e = C) (hpos : ∀ d, 0 < (cells d).length)
    (hel : ∀ n cs x, DataW.trod enc Try.prog w 0 (fun _ => true) true n e cs = some x → ∃ d, cs = cells d ∧ P d) (h : DataW.trod enc Try.prog w 0 (fun _ => true) true fuel t cs = some x) :
    ∃ A c ds, cs = [.slice A ds.length c] ∧ Srow w C cells A c ds ∧ ∀ d ∈ ds, P d := by
  rcases Go.Deep.open_slice ht h with ⟨rfl, _⟩ | ⟨a, len, cap, m, n, D, Pl, rfl, hb, hl, hm, hmm, _, hi⟩
  · exact ⟨none, 0, [], rfl, ⟨by simp, by omega, fun j hj => by simp at hj⟩, by simp⟩
  · rw [hC] at hi
    have hlm : len ≤ m := by rw [hmm]; split <;> omega
    have key : ∀ n, n ≤ m → ∃ ds : List δ, ds.length = n ∧ ∀ j (hj : j < ds.length), w.cells? 0 (a.add (j * C)) C = some (cells ds[j]) ∧ P ds[j] := by
      intro n
      induction n with
      | zero => exact fun _ => ⟨[], rfl, fun j hj => by simp at hj⟩
      | succ n ih =>
        intro hn
        obtain ⟨ds, h1, h2⟩ := ih (by omega)
        obtain ⟨cs', h3, h4⟩ := hi n (by omega)
        obtain ⟨d, rfl, h5⟩ := hel _ _ _ h4
        refine ⟨ds ++ [d], by simp [h1], fun j hj => ?_⟩
        by_cases hjn : j < ds.length
        · rw [List.getElem_append_left hjn]
          exact h2 j hjn
        · have : j = ds.length := by rw [List.length_append] at hj; simp at hj; omega
          subst this
          rw [List.getElem_append_right (Nat.le_refl _)]
          simp only [Nat.sub_self, List.getElem_cons_zero]
          rw [h1]
          exact ⟨h3, h5⟩
    obtain ⟨ds, h1, h2⟩ := key len hlm
    subst h1
    have hm63 : maxLen = 9223372036854775807 := rfl
    refine ⟨some a, cap, ds, rfl, ⟨hl, by omega, fun j hj => ?_⟩, fun d hd => ?_⟩
    · obtain ⟨h3, h4⟩ := h2 j hj
      obtain ⟨_, h5, h6⟩ := World.cells?_some h3
      have hc : ∀ i u, (cells ds[j])[i]? = some u → w.cell? (a.add (j * C + i)) = some u := fun i u hu => by
        have hic : i < C := by
          rw [← h5]
          exact (List.getElem?_eq_some_iff.1 hu).1
        rw [← add_add, h6 i hic, hu]
      refine ⟨a, rfl, ?_, hc⟩
      have h0 := hpos ds[j]
      have := cell_lt (hc 0 _ (List.getElem?_eq_getElem h0))
      rw [block_add] at this
      exact this
    · obtain ⟨j, hj, rfl⟩ := List.getElem_of_mem hd
      exact (h2 j hj).2
theorem open_natArg {b0 : Nat} {v : Value} {d : DataW H} {p : List MemPlace} (hv : Value.okWide Try.prog w .any b0 23 v) (h : DataW.Trod enc Try.prog w 0 (fun _ => true) true 23 v d p) :
    ∃ A c l, v = .slice A l.length c ∧ InRow w A c l := by
  obtain ⟨a, len, cap, rfl⟩ := okWide_slice Try.underlying23 hv
  obtain ⟨fuel, hf⟩ := h
  obtain ⟨A, c, l, hc, ho⟩ := trod_nat hf
  simp [Value.cells] at hc
  obtain ⟨rfl, rfl, rfl⟩ := hc
  exact ⟨_, _, l, rfl, ho⟩
theorem open_fracs {b0 : Nat} {v : Value} {d : DataW H} {p : List MemPlace} (hv : Value.okWide Try.prog w .any b0 47 v) (h : DataW.Trod enc Try.prog w 0 (fun _ => true) true 47 v d p) :
    ∃ A c ds, v = .slice A ds.length c ∧ Srow w 3 FrD.cells A c ds ∧ ∀ f ∈ ds, f.ok w := by
  obtain ⟨a, len, cap, rfl⟩ := okWide_slice Try.underlying47 hv
  obtain ⟨fuel, hf⟩ := h
  obtain ⟨A, c, ds, hc, h1, h2⟩ := trod_rows (cells := FrD.cells) (P := FrD.ok w) Try.underlying47 cellsFrac (fun _ => by simp [FrD.cells]) (fun _ _ _ h => trod_frac h) hf
  simp [Value.cells] at hc
  obtain ⟨rfl, rfl, rfl⟩ := hc
  exact ⟨_, _, ds, rfl, h1, h2⟩
end
/-- The value of a fraction that is handed in. -/
abbrev FrD.v (f : FrD) : Value := fracV f.neg f.a f.la.length f.ca f.b f.lb.length f.cb
def FrD.q (f : FrD) : Rat := mkRat (sg f.neg (val f.la)) (val f.lb)
theorem InRow.below {w w' : World} {A : Option Addr} {c : Nat} {l : List Nat} (h : InRow w A c l) (hb : Below w.heap.size w w') : InRow w' A c l := ⟨h.len, h.big, h.rd.below hb, h.dig⟩
theorem FrD.ok.below {w w' : World} {f : FrD} (h : f.ok w) (hb : Below w.heap.size w w') : f.ok w' := ⟨h.1.below hb, h.2.below hb⟩
end Go.Proofs.Ytghpcimeobmonaa
/- The law's short: what the call does. -/
namespace Go.Proofs.Ytghpcimeobmonaa
set_option linter.unusedVariables false
set_option linter.unusedSimpArgs false
open Go.RowKit Plain
attribute [local go_sem ↓] Go.wp_at_zero Go.wp_at_succ

def shB (f : FrD) : Bool := decide (f.la.length ≤ 20) && (decide (f.lb.length ≤ 20) && vldF f.neg f.la f.lb)
theorem shB_fv {f : FrD} {w : World} (hf : f.ok w) (h : shB f = true) : FV w f.v f.q ∧ Fits 20 f.q := by
  unfold shB at h
  simp only [Bool.and_eq_true, decide_eq_true_eq] at h
  obtain ⟨h1, h2, h3⟩ := h
  have hq : QIs f.neg f.la f.lb f.q := vldF_qIs hf.1.dig hf.2.dig h3
  refine ⟨⟨_, _, _, _, _, _, _, rfl, hf.1.nv (by omega), hf.2.nv (by omega), hq⟩, ?_⟩
  exact ⟨by rw [← hq.na.val]; exact Nat.lt_of_lt_of_le (val_lt hf.1.dig) (pw_mono h1), by rw [← hq.nb.val]; exact Nat.lt_of_lt_of_le (val_lt hf.2.dig) (pw_mono h2)⟩
set_option maxRecDepth 100000 in
set_option maxHeartbeats 1000000 in
theorem short_any (f : FrD) (w : World) (hf : f.ok w) : Calls Try.prog 10 #[f.v] w (RetB (shB f) w) := by
  obtain ⟨neg, A, ca, la, B, cb, lb⟩ := f
  obtain ⟨ia, ib⟩ := hf
  dsimp only at ia ib
  unfold FrD.v
  dsimp only
  have ga := ia.big
  have gb := ib.big
  obtain ⟨w0, hw0, bw0, hlt0, hB0⟩ := boxed w #[.bool neg, .slice A la.length ca, .slice B lb.length cb] 25
  have k0 := hB0.f0
  have k1 := hB0.f1
  have k2 := hB0.f2
  by_cases h1 : la.length ≤ 20
  · by_cases h2 : lb.length ≤ 20
    · have hr : Hid (shB ⟨neg, A, ca, la, B, cb, lb⟩ = vldF neg la lb) := by show _ = _; unfold shB; dsimp only; rw [decide_eq_true h1, decide_eq_true h2]; rfl
      rw [hr.out]
      go_enter Try.func10, Try.ntmps10
      go_wp2_with fail
      refine (refValidF_any (neg := neg) ((ia.nv (by omega)).below bw0) ((ib.nv (by omega)).below bw0) (by omega) (by omega)).mono ?_
      rintro e w1 ⟨rfl, b1⟩
      obtain ⟨v, hv⟩ : ∃ v, Hid (vldF neg la lb = v) := ⟨_, rfl⟩
      rw [hv.out]
      go_wp2
      go_ret
      exact ⟨by rw [hv.out]; rfl, bw0.trans (b1.mono (Nat.le_of_lt hlt0))⟩
    · have hr : Hid (shB ⟨neg, A, ca, la, B, cb, lb⟩ = false) := by show _ = _; unfold shB; dsimp only; rw [decide_eq_false h2, Bool.false_and, Bool.and_false]
      rw [hr.out]
      go_enter Try.func10, Try.ntmps10
      go_wp2
      go_ret
      exact ⟨rfl, bw0⟩
  · have hr : Hid (shB ⟨neg, A, ca, la, B, cb, lb⟩ = false) := by show _ = _; unfold shB; dsimp only; rw [decide_eq_false h1, Bool.false_and]
    rw [hr.out]
    go_enter Try.func10, Try.ntmps10
    go_wp2
    go_ret
    exact ⟨rfl, bw0⟩
end Go.Proofs.Ytghpcimeobmonaa
/- fraction.round, Floor and Ceil: what the calls do. -/
namespace Go.Proofs.Ytghpcimeobmonaa
set_option linter.unusedVariables false
set_option linter.unusedSimpArgs false
open Go.RowKit Plain
attribute [local go_sem ↓] Go.wp_at_zero Go.wp_at_succ

def inR (neg : Bool) (m : Nat) : Bool := if neg = true then decide (m ≤ 9223372036854775808) else decide (m < 9223372036854775808)
/-- A quotient rounded up or down. -/
def roundN (neg up : Bool) (n d : Nat) : Nat := n / d + (if 0 < n % d ∧ neg ≠ up then 1 else 0)
def rndN (up : Bool) (q : Rat) : Nat := roundN (decide (q.num < 0)) up q.num.natAbs q.den
/-- A call that returns an integer that fits, or says that it does not. -/
def RetZB (neg : Bool) (m : Nat) (W : World) (e : Ending) (w' : World) : Prop := e = .returned (.tuple #[.int .i64 (if inR neg m = true then sg neg m else 0), .bool (inR neg m)]) ∧ Below W.heap.size W w'
theorem retZB_out {neg : Bool} {m : Nat} {W w' : World} (h : inR neg m = false) (b : Below W.heap.size W w') : RetZB neg m W (.returned (.tuple #[.int .i64 0, .bool false])) w' := ⟨by rw [h]; rfl, b⟩
theorem retZB_in {neg : Bool} {m : Nat} {W w' : World} (h : inR neg m = true) {z : Int} (hz : z = sg neg m) (b : Below W.heap.size W w') : RetZB neg m W (.returned (.tuple #[.int .i64 z, .bool true])) w' := ⟨by rw [h, if_pos rfl, hz], b⟩
theorem pw2_big' : pw 2 = 18446744073709551616 := by simp only [pw]
theorem inR_big {neg : Bool} {m : Nat} (h : isUint m = false) : inR neg m = false := by
  unfold isUint at h
  simp only [pw2_big', decide_eq_false_iff_not] at h
  unfold inR
  split <;> exact decide_eq_false (by omega)
theorem neg_wrap {m : Nat} (h : m ≤ 9223372036854775808) : wrap64 (-wrap64 (m : Int)) = sg true m := by
  unfold sg wrap64
  rw [if_pos rfl]
  omega
theorem pos_id {m : Nat} : (m : Int) = sg false m := by
  unfold sg
  rw [if_neg (by simp)]

set_option maxRecDepth 100000 in
set_option maxHeartbeats 2000000 in
theorem round_any {neg up : Bool} {A B : Option Addr} {ca cb : Nat} {la lb : List Nat} {w : World} (ha : Nv w A ca la) (hb : Nv w B cb lb) (h0 : val lb ≠ 0) (hla : la.length ≤ 400000000) (hlb : lb.length ≤ 400000000) :
    Calls Try.prog 64 #[fracV neg A la.length ca B lb.length cb, .bool up] w (RetZB neg (roundN neg up (val la) (val lb)) w) := by
  obtain ⟨w0, hw0, bw0, hlt0, hB0⟩ := boxed w #[.bool neg, .slice A la.length ca, .slice B lb.length cb] 25
  have ha0 := ha.below bw0
  have hb0 := hb.below bw0
  have x0 := hB0.f0
  have x1 := hB0.f1
  have x2 := hB0.f2
  clear ha hb
  rcases neg with _ | _ <;> rcases up with _ | _
  · obtain ⟨m, hm⟩ : ∃ m, Hid (roundN false false (val la) (val lb) = m) := ⟨_, rfl⟩
    rw [hm.out]
    go_enter Try.func64, Try.ntmps64
    go_wp2_with fail
    refine (divMod_any ha0 hb0 (by omega) (by omega)).mono ?_
    rintro e w1 ⟨Q, cq, q, R, cr, r, rfl, nq, nr, iq, ir, lq, lr, b1⟩
    rw [if_neg h0] at iq ir
    have hz1 : (if val lb = 0 then (8 : Int) else 0) = 0 := if_neg h0
    rw [hz1]
    have iq' := Lib.hid iq
    have ir' := Lib.hid ir
    clear iq ir hz1 x0 x1 x2
    have hB1 := hB0.keep b1
    have b01 := bw0.trans (b1.mono (Nat.le_of_lt hlt0))
    have x0 := hB1.f0
    have hrb := nr.big
    have hQ : val q = m := by rw [iq'.out.val, ← hm.out]; unfold roundN; simp
    have hQ' := Lib.hid hQ
    clear hQ
    rcases Nat.eq_zero_or_pos r.length with hr | hr
    · have hrd : decide ((0 : Int) < (r.length : Int)) = false := decide_eq_false (by omega)
      go_wp2_with fail
      refine (uint_any nq).mono ?_
      rintro e w9 ⟨rfl, b9⟩
      rw [hQ'.out]
      have hB9 := hB1.keep b9
      have z0 := hB9.f0
      have bT := b01.trans (b9.mono b01.size)
      clear b9
      by_cases hu : isUint m = true
      · have hmu : uintOf m = m := by unfold uintOf; unfold isUint at hu; rw [if_pos (by simpa using hu)]
        rw [hu, hmu]
        have hu' := Lib.hid hu
        clear hu hmu
        by_cases hle : m < 9223372036854775808
        · have hd : decide ((m : Int) < 9223372036854775808) = true := decide_eq_true (by omega)
          go_wp2
          go_ret2
          exact retZB_in (by unfold inR; simpa using hle) pos_id bT
        · have hd : decide ((m : Int) < 9223372036854775808) = false := decide_eq_false (by omega)
          go_wp2
          go_ret2
          exact retZB_out (by unfold inR; simpa using hle) bT
      · have hu2 := eq_false_of_ne_true hu
        rw [hu2]
        have hu3 := Lib.hid hu2
        clear hu hu2
        go_wp2
        go_ret2
        exact retZB_out (inR_big hu3.out) bT
    · have hrd : decide ((0 : Int) < (r.length : Int)) = true := decide_eq_true (by omega)
      go_wp2_with fail
      refine (uint_any nq).mono ?_
      rintro e w9 ⟨rfl, b9⟩
      rw [hQ'.out]
      have hB9 := hB1.keep b9
      have z0 := hB9.f0
      have bT := b01.trans (b9.mono b01.size)
      clear b9
      by_cases hu : isUint m = true
      · have hmu : uintOf m = m := by unfold uintOf; unfold isUint at hu; rw [if_pos (by simpa using hu)]
        rw [hu, hmu]
        have hu' := Lib.hid hu
        clear hu hmu
        by_cases hle : m < 9223372036854775808
        · have hd : decide ((m : Int) < 9223372036854775808) = true := decide_eq_true (by omega)
          go_wp2
          go_ret2
          exact retZB_in (by unfold inR; simpa using hle) pos_id bT
        · have hd : decide ((m : Int) < 9223372036854775808) = false := decide_eq_false (by omega)
          go_wp2
          go_ret2
          exact retZB_out (by unfold inR; simpa using hle) bT
      · have hu2 := eq_false_of_ne_true hu
        rw [hu2]
        have hu3 := Lib.hid hu2
        clear hu hu2
        go_wp2
        go_ret2
        exact retZB_out (inR_big hu3.out) bT
  · obtain ⟨m, hm⟩ : ∃ m, Hid (roundN false true (val la) (val lb) = m) := ⟨_, rfl⟩
    rw [hm.out]
    go_enter Try.func64, Try.ntmps64
    go_wp2_with fail
    refine (divMod_any ha0 hb0 (by omega) (by omega)).mono ?_
    rintro e w1 ⟨Q, cq, q, R, cr, r, rfl, nq, nr, iq, ir, lq, lr, b1⟩
    rw [if_neg h0] at iq ir
    have hz1 : (if val lb = 0 then (8 : Int) else 0) = 0 := if_neg h0
    rw [hz1]
    have iq' := Lib.hid iq
    have ir' := Lib.hid ir
    clear iq ir hz1 x0 x1 x2
    have hB1 := hB0.keep b1
    have b01 := bw0.trans (b1.mono (Nat.le_of_lt hlt0))
    have x0 := hB1.f0
    have hrb := nr.big
    rcases Nat.eq_zero_or_pos r.length with hr | hr
    · have hrd : decide ((0 : Int) < (r.length : Int)) = false := decide_eq_false (by omega)
      have hQ' := Lib.hid (show val q = m by rw [iq'.out.val, ← hm.out]; unfold roundN; rw [if_neg (fun h => absurd h.1 (by rw [← ir'.out.val, List.eq_nil_of_length_eq_zero hr]; simp [val]))]; rfl)
      go_wp2_with fail
      refine (uint_any nq).mono ?_
      rintro e w9 ⟨rfl, b9⟩
      rw [hQ'.out]
      have hB9 := hB1.keep b9
      have z0 := hB9.f0
      have bT := b01.trans (b9.mono b01.size)
      clear b9
      by_cases hu : isUint m = true
      · have hmu : uintOf m = m := by unfold uintOf; unfold isUint at hu; rw [if_pos (by simpa using hu)]
        rw [hu, hmu]
        have hu' := Lib.hid hu
        clear hu hmu
        by_cases hle : m < 9223372036854775808
        · have hd : decide ((m : Int) < 9223372036854775808) = true := decide_eq_true (by omega)
          go_wp2
          go_ret2
          exact retZB_in (by unfold inR; simpa using hle) pos_id bT
        · have hd : decide ((m : Int) < 9223372036854775808) = false := decide_eq_false (by omega)
          go_wp2
          go_ret2
          exact retZB_out (by unfold inR; simpa using hle) bT
      · have hu2 := eq_false_of_ne_true hu
        rw [hu2]
        have hu3 := Lib.hid hu2
        clear hu hu2
        go_wp2
        go_ret2
        exact retZB_out (inR_big hu3.out) bT
    · have hrd : decide ((0 : Int) < (r.length : Int)) = true := decide_eq_true (by omega)
      have hQ' := Lib.hid (show val q + 1 = m by rw [iq'.out.val, ← hm.out]; unfold roundN; rw [if_pos ⟨Nat.pos_of_ne_zero (fun e => by rw [ir'.out.zero_iff.2 e] at hr; simp at hr), by simp⟩])
      go_wp2_with fail
      refine (fromUint_val 1 1 _ rfl (by rw [pw2_big']; omega)).mono ?_
      rintro e w2 ⟨O, co, lo, rfl, no, io, mo, b2⟩
      go_wp2_with fail
      refine (add_any Q O cq co q lo _ (nq.below b2) no (by omega) (by omega)).mono ?_
      rintro e w3 ⟨S, cs, s, rfl, ns, is, ms, b3⟩
      rw [io.val] at is
      have is' := Lib.hid is
      clear is io
      have hB3 := (hB1.keep b2).keep b3
      have x00 := hB3.f0
      have b02 := b01.trans (b2.mono b01.size)
      have b03 := b02.trans (b3.mono b02.size)
      clear b02 b2 b3
      go_wp2_with fail
      refine (uint_any ns).mono ?_
      rintro e w9 ⟨rfl, b9⟩
      rw [is'.out.val.trans hQ'.out]
      have hB9 := hB3.keep b9
      have z0 := hB9.f0
      have bT := b03.trans (b9.mono b03.size)
      clear b9
      by_cases hu : isUint m = true
      · have hmu : uintOf m = m := by unfold uintOf; unfold isUint at hu; rw [if_pos (by simpa using hu)]
        rw [hu, hmu]
        have hu' := Lib.hid hu
        clear hu hmu
        by_cases hle : m < 9223372036854775808
        · have hd : decide ((m : Int) < 9223372036854775808) = true := decide_eq_true (by omega)
          go_wp2
          go_ret2
          exact retZB_in (by unfold inR; simpa using hle) pos_id bT
        · have hd : decide ((m : Int) < 9223372036854775808) = false := decide_eq_false (by omega)
          go_wp2
          go_ret2
          exact retZB_out (by unfold inR; simpa using hle) bT
      · have hu2 := eq_false_of_ne_true hu
        rw [hu2]
        have hu3 := Lib.hid hu2
        clear hu hu2
        go_wp2
        go_ret2
        exact retZB_out (inR_big hu3.out) bT
  · obtain ⟨m, hm⟩ : ∃ m, Hid (roundN true false (val la) (val lb) = m) := ⟨_, rfl⟩
    rw [hm.out]
    go_enter Try.func64, Try.ntmps64
    go_wp2_with fail
    refine (divMod_any ha0 hb0 (by omega) (by omega)).mono ?_
    rintro e w1 ⟨Q, cq, q, R, cr, r, rfl, nq, nr, iq, ir, lq, lr, b1⟩
    rw [if_neg h0] at iq ir
    have hz1 : (if val lb = 0 then (8 : Int) else 0) = 0 := if_neg h0
    rw [hz1]
    have iq' := Lib.hid iq
    have ir' := Lib.hid ir
    clear iq ir hz1 x0 x1 x2
    have hB1 := hB0.keep b1
    have b01 := bw0.trans (b1.mono (Nat.le_of_lt hlt0))
    have x0 := hB1.f0
    have hrb := nr.big
    rcases Nat.eq_zero_or_pos r.length with hr | hr
    · have hrd : decide ((0 : Int) < (r.length : Int)) = false := decide_eq_false (by omega)
      have hQ' := Lib.hid (show val q = m by rw [iq'.out.val, ← hm.out]; unfold roundN; rw [if_neg (fun h => absurd h.1 (by rw [← ir'.out.val, List.eq_nil_of_length_eq_zero hr]; simp [val]))]; rfl)
      go_wp2_with fail
      refine (uint_any nq).mono ?_
      rintro e w9 ⟨rfl, b9⟩
      rw [hQ'.out]
      have hB9 := hB1.keep b9
      have z0 := hB9.f0
      have bT := b01.trans (b9.mono b01.size)
      clear b9
      by_cases hu : isUint m = true
      · have hmu : uintOf m = m := by unfold uintOf; unfold isUint at hu; rw [if_pos (by simpa using hu)]
        rw [hu, hmu]
        have hu' := Lib.hid hu
        clear hu hmu
        by_cases hle : m ≤ 9223372036854775808
        · have hd : decide ((m : Int) ≤ 9223372036854775808) = true := decide_eq_true (by omega)
          go_wp2
          go_ret2
          exact retZB_in (by unfold inR; simpa using hle) (neg_wrap hle) bT
        · have hd : decide ((m : Int) ≤ 9223372036854775808) = false := decide_eq_false (by omega)
          go_wp2
          go_ret2
          exact retZB_out (by unfold inR; simpa using hle) bT
      · have hu2 := eq_false_of_ne_true hu
        rw [hu2]
        have hu3 := Lib.hid hu2
        clear hu hu2
        go_wp2
        go_ret2
        exact retZB_out (inR_big hu3.out) bT
    · have hrd : decide ((0 : Int) < (r.length : Int)) = true := decide_eq_true (by omega)
      have hQ' := Lib.hid (show val q + 1 = m by rw [iq'.out.val, ← hm.out]; unfold roundN; rw [if_pos ⟨Nat.pos_of_ne_zero (fun e => by rw [ir'.out.zero_iff.2 e] at hr; simp at hr), by simp⟩])
      go_wp2_with fail
      refine (fromUint_val 1 1 _ rfl (by rw [pw2_big']; omega)).mono ?_
      rintro e w2 ⟨O, co, lo, rfl, no, io, mo, b2⟩
      go_wp2_with fail
      refine (add_any Q O cq co q lo _ (nq.below b2) no (by omega) (by omega)).mono ?_
      rintro e w3 ⟨S, cs, s, rfl, ns, is, ms, b3⟩
      rw [io.val] at is
      have is' := Lib.hid is
      clear is io
      have hB3 := (hB1.keep b2).keep b3
      have x00 := hB3.f0
      have b02 := b01.trans (b2.mono b01.size)
      have b03 := b02.trans (b3.mono b02.size)
      clear b02 b2 b3
      go_wp2_with fail
      refine (uint_any ns).mono ?_
      rintro e w9 ⟨rfl, b9⟩
      rw [is'.out.val.trans hQ'.out]
      have hB9 := hB3.keep b9
      have z0 := hB9.f0
      have bT := b03.trans (b9.mono b03.size)
      clear b9
      by_cases hu : isUint m = true
      · have hmu : uintOf m = m := by unfold uintOf; unfold isUint at hu; rw [if_pos (by simpa using hu)]
        rw [hu, hmu]
        have hu' := Lib.hid hu
        clear hu hmu
        by_cases hle : m ≤ 9223372036854775808
        · have hd : decide ((m : Int) ≤ 9223372036854775808) = true := decide_eq_true (by omega)
          go_wp2
          go_ret2
          exact retZB_in (by unfold inR; simpa using hle) (neg_wrap hle) bT
        · have hd : decide ((m : Int) ≤ 9223372036854775808) = false := decide_eq_false (by omega)
          go_wp2
          go_ret2
          exact retZB_out (by unfold inR; simpa using hle) bT
      · have hu2 := eq_false_of_ne_true hu
        rw [hu2]
        have hu3 := Lib.hid hu2
        clear hu hu2
        go_wp2
        go_ret2
        exact retZB_out (inR_big hu3.out) bT
  · obtain ⟨m, hm⟩ : ∃ m, Hid (roundN true true (val la) (val lb) = m) := ⟨_, rfl⟩
    rw [hm.out]
    go_enter Try.func64, Try.ntmps64
    go_wp2_with fail
    refine (divMod_any ha0 hb0 (by omega) (by omega)).mono ?_
    rintro e w1 ⟨Q, cq, q, R, cr, r, rfl, nq, nr, iq, ir, lq, lr, b1⟩
    rw [if_neg h0] at iq ir
    have hz1 : (if val lb = 0 then (8 : Int) else 0) = 0 := if_neg h0
    rw [hz1]
    have iq' := Lib.hid iq
    have ir' := Lib.hid ir
    clear iq ir hz1 x0 x1 x2
    have hB1 := hB0.keep b1
    have b01 := bw0.trans (b1.mono (Nat.le_of_lt hlt0))
    have x0 := hB1.f0
    have hrb := nr.big
    have hQ : val q = m := by rw [iq'.out.val, ← hm.out]; unfold roundN; simp
    have hQ' := Lib.hid hQ
    clear hQ
    rcases Nat.eq_zero_or_pos r.length with hr | hr
    · have hrd : decide ((0 : Int) < (r.length : Int)) = false := decide_eq_false (by omega)
      go_wp2_with fail
      refine (uint_any nq).mono ?_
      rintro e w9 ⟨rfl, b9⟩
      rw [hQ'.out]
      have hB9 := hB1.keep b9
      have z0 := hB9.f0
      have bT := b01.trans (b9.mono b01.size)
      clear b9
      by_cases hu : isUint m = true
      · have hmu : uintOf m = m := by unfold uintOf; unfold isUint at hu; rw [if_pos (by simpa using hu)]
        rw [hu, hmu]
        have hu' := Lib.hid hu
        clear hu hmu
        by_cases hle : m ≤ 9223372036854775808
        · have hd : decide ((m : Int) ≤ 9223372036854775808) = true := decide_eq_true (by omega)
          go_wp2
          go_ret2
          exact retZB_in (by unfold inR; simpa using hle) (neg_wrap hle) bT
        · have hd : decide ((m : Int) ≤ 9223372036854775808) = false := decide_eq_false (by omega)
          go_wp2
          go_ret2
          exact retZB_out (by unfold inR; simpa using hle) bT
      · have hu2 := eq_false_of_ne_true hu
        rw [hu2]
        have hu3 := Lib.hid hu2
        clear hu hu2
        go_wp2
        go_ret2
        exact retZB_out (inR_big hu3.out) bT
    · have hrd : decide ((0 : Int) < (r.length : Int)) = true := decide_eq_true (by omega)
      go_wp2_with fail
      refine (uint_any nq).mono ?_
      rintro e w9 ⟨rfl, b9⟩
      rw [hQ'.out]
      have hB9 := hB1.keep b9
      have z0 := hB9.f0
      have bT := b01.trans (b9.mono b01.size)
      clear b9
      by_cases hu : isUint m = true
      · have hmu : uintOf m = m := by unfold uintOf; unfold isUint at hu; rw [if_pos (by simpa using hu)]
        rw [hu, hmu]
        have hu' := Lib.hid hu
        clear hu hmu
        by_cases hle : m ≤ 9223372036854775808
        · have hd : decide ((m : Int) ≤ 9223372036854775808) = true := decide_eq_true (by omega)
          go_wp2
          go_ret2
          exact retZB_in (by unfold inR; simpa using hle) (neg_wrap hle) bT
        · have hd : decide ((m : Int) ≤ 9223372036854775808) = false := decide_eq_false (by omega)
          go_wp2
          go_ret2
          exact retZB_out (by unfold inR; simpa using hle) bT
      · have hu2 := eq_false_of_ne_true hu
        rw [hu2]
        have hu3 := Lib.hid hu2
        clear hu hu2
        go_wp2
        go_ret2
        exact retZB_out (inR_big hu3.out) bT

theorem floorF_any {v : Value} {q : Rat} {k : Nat} {w : World} (hv : FV w v q) (hk : Fits k q) (hK : k ≤ 400000000) :
    Calls Try.prog 24 #[v] w (RetZB (decide (q.num < 0)) (rndN false q) w) := by
  obtain ⟨neg, A, ca, la, B, cb, lb, rfl, na, nb, iq⟩ := hv
  have hf := QIs.fits iq hk
  have h0 := QIs.den_ne iq
  have e : RetZB (decide (q.num < 0)) (rndN false q) w = RetZB neg (roundN neg false (val la) (val lb)) w := by unfold rndN; rw [iq.na.val, iq.nb.val, iq.2.2]
  rw [e]
  clear iq e
  obtain ⟨b, hb⟩ : ∃ b, Hid (inR neg (roundN neg false (val la) (val lb)) = b) := ⟨_, rfl⟩
  obtain ⟨z, hz⟩ : ∃ z, Hid ((if b = true then sg neg (roundN neg false (val la) (val lb)) else 0) = z) := ⟨_, rfl⟩
  obtain ⟨w0, hw0, bw0, hlt0, hB0⟩ := boxed w #[.bool neg, .slice A la.length ca, .slice B lb.length cb] 25
  have x0 := hB0.f0
  have x1 := hB0.f1
  have x2 := hB0.f2
  go_enter Try.func24, Try.ntmps24
  go_wp2_with fail
  refine (round_any (na.below bw0) (nb.below bw0) h0 (by omega) (by omega)).mono ?_
  rintro e w1 ⟨rfl, b1⟩
  rw [hb.out, hz.out]
  go_wp2
  go_ret2
  exact ⟨by rw [hb.out, hz.out]; rfl, bw0.trans (b1.mono (Nat.le_of_lt hlt0))⟩
theorem ceilF_any {v : Value} {q : Rat} {k : Nat} {w : World} (hv : FV w v q) (hk : Fits k q) (hK : k ≤ 400000000) :
    Calls Try.prog 26 #[v] w (RetZB (decide (q.num < 0)) (rndN true q) w) := by
  obtain ⟨neg, A, ca, la, B, cb, lb, rfl, na, nb, iq⟩ := hv
  have hf := QIs.fits iq hk
  have h0 := QIs.den_ne iq
  have e : RetZB (decide (q.num < 0)) (rndN true q) w = RetZB neg (roundN neg true (val la) (val lb)) w := by unfold rndN; rw [iq.na.val, iq.nb.val, iq.2.2]
  rw [e]
  clear iq e
  obtain ⟨b, hb⟩ : ∃ b, Hid (inR neg (roundN neg true (val la) (val lb)) = b) := ⟨_, rfl⟩
  obtain ⟨z, hz⟩ : ∃ z, Hid ((if b = true then sg neg (roundN neg true (val la) (val lb)) else 0) = z) := ⟨_, rfl⟩
  obtain ⟨w0, hw0, bw0, hlt0, hB0⟩ := boxed w #[.bool neg, .slice A la.length ca, .slice B lb.length cb] 25
  have x0 := hB0.f0
  have x1 := hB0.f1
  have x2 := hB0.f2
  go_enter Try.func26, Try.ntmps26
  go_wp2_with fail
  refine (round_any (na.below bw0) (nb.below bw0) h0 (by omega) (by omega)).mono ?_
  rintro e w1 ⟨rfl, b1⟩
  rw [hb.out, hz.out]
  go_wp2
  go_ret2
  exact ⟨by rw [hb.out, hz.out]; rfl, bw0.trans (b1.mono (Nat.le_of_lt hlt0))⟩
end Go.Proofs.Ytghpcimeobmonaa
/- fraction.Format: what the call does. -/
namespace Go.Proofs.Ytghpcimeobmonaa
set_option linter.unusedVariables false
set_option linter.unusedSimpArgs false
open Go.RowKit Plain
attribute [local go_sem ↓] Go.wp_at_zero Go.wp_at_succ

/-- The text of a number with a sign. -/
def sgB (neg : Bool) (a : Nat) : ByteArray := if neg = true then ⟨#[45]⟩ ++ strOf (decs a) else strOf (decs a)
/-- The text of a fraction. -/
def fmtB (neg : Bool) (a b : Nat) : ByteArray := if b = 1 then sgB neg a else sgB neg a ++ ⟨#[47]⟩ ++ strOf (decs b)
def fmtQ (q : Rat) : ByteArray := fmtB (decide (q.num < 0)) q.num.natAbs q.den
theorem decs_len' {n k : Nat} (h : n < pw k) : (decs n).length ≤ 10 * k + 1 := by
  unfold decs
  split
  · simp
  · rw [List.length_map, List.length_reverse]; have := decR_len h; omega
theorem fmt_sz {l : List Nat} (hd : Dig l) (hl : l.length ≤ 10000) : (strOf (decs (val l))).size ≤ 100001 := by
  rw [strOf_size]
  have := decs_len' (val_lt hd)
  omega
def RetS (s : ByteArray) (W : World) (e : Ending) (w' : World) : Prop := e = .returned (.string s) ∧ Below W.heap.size W w'

set_option maxRecDepth 100000 in
set_option maxHeartbeats 2000000 in
theorem formatF_nat {neg : Bool} {A B : Option Addr} {ca cb : Nat} {la lb : List Nat} {w : World} (ha : Nv w A ca la) (hb : Nv w B cb lb) (hla : la.length ≤ 10000) (hlb : lb.length ≤ 10000) :
    Calls Try.prog 12 #[fracV neg A la.length ca B lb.length cb] w (RetS (fmtB neg (val la) (val lb)) w) := by
  obtain ⟨w0, hw0, bw0, hlt0, hB0⟩ := boxed w #[.bool neg, .slice A la.length ca, .slice B lb.length cb] 25
  have ha0 := ha.below bw0
  have hb0 := hb.below bw0
  have x0 := hB0.f0
  have x1 := hB0.f1
  have x2 := hB0.f2
  have z1 := fmt_sz ha.dig hla
  have z2 := fmt_sz hb.dig hlb
  obtain ⟨S1, hS1⟩ : ∃ S, Hid (strOf (decs (val la)) = S) := ⟨_, rfl⟩
  obtain ⟨S2, hS2⟩ : ∃ S, Hid (strOf (decs (val lb)) = S) := ⟨_, rfl⟩
  rw [hS1.out] at z1
  rw [hS2.out] at z2
  have hF : Hid (fmtB neg (val la) (val lb) = if val lb = 1 then (if neg = true then ⟨#[45]⟩ ++ S1 else S1) else (if neg = true then ⟨#[45]⟩ ++ S1 else S1) ++ ⟨#[47]⟩ ++ S2) := Lib.hid (by unfold fmtB sgB; rw [hS1.out, hS2.out])
  rw [hF.out]
  obtain ⟨T, hT⟩ : ∃ T, Hid ((if neg = true then ⟨#[45]⟩ ++ S1 else S1) = T) := ⟨_, rfl⟩
  have hTs : T.size ≤ 100002 := by
    rw [← hT.out]
    split
    · rw [ByteArray.size_append]; show 1 + S1.size ≤ 100002; omega
    · omega
  rw [hT.out]
  have o1 : ¬ 9223372036854775807 < (⟨#[45]⟩ : ByteArray).size + S1.size := by show ¬ 9223372036854775807 < 1 + S1.size; omega
  have o2 : ¬ 9223372036854775807 < T.size + (⟨#[47]⟩ : ByteArray).size := by show ¬ 9223372036854775807 < T.size + 1; omega
  have o3 : ¬ 9223372036854775807 < (T ++ ⟨#[47]⟩).size + S2.size := by rw [ByteArray.size_append]; show ¬ 9223372036854775807 < T.size + 1 + S2.size; omega
  have hcm : (cmpI (val lb) 1 == 0) = decide (val lb = 1) := cmp_one _
  by_cases h1 : val lb = 1
  · have hc0 := Lib.hid (show cmpI (val lb) 1 = 0 by rw [h1]; rfl)
    rw [if_pos h1]
    clear h1 hcm
    cases neg with
    | false =>
      obtain rfl : S1 = T := hT.out
      go_enter Try.func12, Try.ntmps12
      go_wp2_with fail
      refine (format_any ha0 hla).mono ?_
      rintro e w1 ⟨rfl, b1⟩
      rw [hS1.out]
      have hB1 := hB0.keep b1
      have y0 := hB1.f0
      have y2 := hB1.f2
      have hb1 := hb0.below b1
      have b01 := bw0.trans (b1.mono (Nat.le_of_lt hlt0))
      have hrf : Below w1.heap.size w1 w1.drew := (Below.refl _ _).drew
      have y2' : w1.drew.cell? ⟨w.heap.size, 2, none⟩ = some (.slice B lb.length cb) := y2
      go_wp2_with fail
      go_region_held3 (fun w' => w'.cell? ⟨w.heap.size, 2, none⟩ = some (.slice B lb.length cb) ∧ Below w1.heap.size w1 w') (((try go_split_ands); (try dsimp only); (repeat' with_reducible apply And.intro) <;> with_reducible assumption)) (first
        | (go_at_call 50; go_split_ands; (with_reducible refine (fromUint_val 1 1 _ rfl (by rw [show pw 2 = 18446744073709551616 by simp only [pw]]; omega)).mono ?_); rintro e w3 ⟨O, co, lo, rfl, no, io, mo, b3⟩; have io' := Lib.hid io; clear io; have b4 := below_step (by assumption) b3; have u2 := (hB1.keep b4).f2)
        | (go_at_call 49; go_split_ands; (with_reducible refine (cmp_any (hb1.below (by assumption)) no).mono ?_); rintro e w5 ⟨rfl, b5⟩; rw [io'.out.val, hc0.out]; have b6 := below_step (by assumption) b5; have v2 := (hB1.keep b6).f2))
      go_wp2
      go_ret
      exact ⟨rfl, b01.trans (b6.mono b01.size)⟩
    | true =>
      obtain rfl : (⟨#[45]⟩ ++ S1 : ByteArray) = T := hT.out
      go_enter Try.func12, Try.ntmps12
      go_wp2_with fail
      refine (format_any ha0 hla).mono ?_
      rintro e w1 ⟨rfl, b1⟩
      rw [hS1.out]
      have hB1 := hB0.keep b1
      have y0 := hB1.f0
      have y2 := hB1.f2
      have hb1 := hb0.below b1
      have b01 := bw0.trans (b1.mono (Nat.le_of_lt hlt0))
      have hrf : Below w1.heap.size w1 w1.drew := (Below.refl _ _).drew
      have y2' : w1.drew.cell? ⟨w.heap.size, 2, none⟩ = some (.slice B lb.length cb) := y2
      go_wp2_with fail
      go_region_held3 (fun w' => w'.cell? ⟨w.heap.size, 2, none⟩ = some (.slice B lb.length cb) ∧ Below w1.heap.size w1 w') (((try go_split_ands); (try dsimp only); (repeat' with_reducible apply And.intro) <;> with_reducible assumption)) (first
        | (go_at_call 50; go_split_ands; (with_reducible refine (fromUint_val 1 1 _ rfl (by rw [show pw 2 = 18446744073709551616 by simp only [pw]]; omega)).mono ?_); rintro e w3 ⟨O, co, lo, rfl, no, io, mo, b3⟩; have io' := Lib.hid io; clear io; have b4 := below_step (by assumption) b3; have u2 := (hB1.keep b4).f2)
        | (go_at_call 49; go_split_ands; (with_reducible refine (cmp_any (hb1.below (by assumption)) no).mono ?_); rintro e w5 ⟨rfl, b5⟩; rw [io'.out.val, hc0.out]; have b6 := below_step (by assumption) b5; have v2 := (hB1.keep b6).f2))
      go_wp2
      go_ret
      exact ⟨rfl, b01.trans (b6.mono b01.size)⟩
  · have hc0 := Lib.hid (show (cmpI (val lb) 1 == 0) = false by rw [hcm]; exact decide_eq_false h1)
    obtain ⟨c, hc⟩ : ∃ c, Hid (cmpI (val lb) 1 = c) := ⟨_, rfl⟩
    rw [hc.out] at hc0
    have hc1 : (c == 0) = false := hc0.out
    rw [if_neg h1]
    clear h1 hcm hc0
    cases neg with
    | false =>
      obtain rfl : S1 = T := hT.out
      go_enter Try.func12, Try.ntmps12
      go_wp2_with fail
      refine (format_any ha0 hla).mono ?_
      rintro e w1 ⟨rfl, b1⟩
      rw [hS1.out]
      have hB1 := hB0.keep b1
      have y0 := hB1.f0
      have y2 := hB1.f2
      have hb1 := hb0.below b1
      have b01 := bw0.trans (b1.mono (Nat.le_of_lt hlt0))
      have hrf : Below w1.heap.size w1 w1.drew := (Below.refl _ _).drew
      have y2' : w1.drew.cell? ⟨w.heap.size, 2, none⟩ = some (.slice B lb.length cb) := y2
      go_wp2_with fail
      go_region_held3 (fun w' => w'.cell? ⟨w.heap.size, 2, none⟩ = some (.slice B lb.length cb) ∧ Below w1.heap.size w1 w') (((try go_split_ands); (try dsimp only); (repeat' with_reducible apply And.intro) <;> with_reducible assumption)) (first
        | (go_at_call 50; go_split_ands; (with_reducible refine (fromUint_val 1 1 _ rfl (by rw [show pw 2 = 18446744073709551616 by simp only [pw]]; omega)).mono ?_); rintro e w3 ⟨O, co, lo, rfl, no, io, mo, b3⟩; have io' := Lib.hid io; clear io; have b4 := below_step (by assumption) b3; have u2 := (hB1.keep b4).f2)
        | (go_at_call 49; go_split_ands; (with_reducible refine (cmp_any (hb1.below (by assumption)) no).mono ?_); rintro e w5 ⟨rfl, b5⟩; rw [io'.out.val, hc.out]; have b6 := below_step (by assumption) b5; have v2 := (hB1.keep b6).f2))
      have hb6 := hb1.below b6
      have b06 := b01.trans (b6.mono b01.size)
      go_wp2_with fail
      refine (format_any hb6 hlb).mono ?_
      rintro e w7 ⟨rfl, b7⟩
      rw [hS2.out]
      go_wp2
      go_ret
      exact ⟨rfl, b06.trans (b7.mono b06.size)⟩
    | true =>
      obtain rfl : (⟨#[45]⟩ ++ S1 : ByteArray) = T := hT.out
      go_enter Try.func12, Try.ntmps12
      go_wp2_with fail
      refine (format_any ha0 hla).mono ?_
      rintro e w1 ⟨rfl, b1⟩
      rw [hS1.out]
      have hB1 := hB0.keep b1
      have y0 := hB1.f0
      have y2 := hB1.f2
      have hb1 := hb0.below b1
      have b01 := bw0.trans (b1.mono (Nat.le_of_lt hlt0))
      have hrf : Below w1.heap.size w1 w1.drew := (Below.refl _ _).drew
      have y2' : w1.drew.cell? ⟨w.heap.size, 2, none⟩ = some (.slice B lb.length cb) := y2
      go_wp2_with fail
      go_region_held3 (fun w' => w'.cell? ⟨w.heap.size, 2, none⟩ = some (.slice B lb.length cb) ∧ Below w1.heap.size w1 w') (((try go_split_ands); (try dsimp only); (repeat' with_reducible apply And.intro) <;> with_reducible assumption)) (first
        | (go_at_call 50; go_split_ands; (with_reducible refine (fromUint_val 1 1 _ rfl (by rw [show pw 2 = 18446744073709551616 by simp only [pw]]; omega)).mono ?_); rintro e w3 ⟨O, co, lo, rfl, no, io, mo, b3⟩; have io' := Lib.hid io; clear io; have b4 := below_step (by assumption) b3; have u2 := (hB1.keep b4).f2)
        | (go_at_call 49; go_split_ands; (with_reducible refine (cmp_any (hb1.below (by assumption)) no).mono ?_); rintro e w5 ⟨rfl, b5⟩; rw [io'.out.val, hc.out]; have b6 := below_step (by assumption) b5; have v2 := (hB1.keep b6).f2))
      have hb6 := hb1.below b6
      have b06 := b01.trans (b6.mono b01.size)
      go_wp2_with fail
      refine (format_any hb6 hlb).mono ?_
      rintro e w7 ⟨rfl, b7⟩
      rw [hS2.out]
      go_wp2
      go_ret
      exact ⟨rfl, b06.trans (b7.mono b06.size)⟩

theorem formatF_any {v : Value} {q : Rat} {k : Nat} {w : World} (hv : FV w v q) (hk : Fits k q) (hK : k ≤ 10000) :
    Calls Try.prog 12 #[v] w (RetS (fmtQ q) w) := by
  obtain ⟨neg, A, ca, la, B, cb, lb, rfl, na, nb, iq⟩ := hv
  have hf := QIs.fits iq hk
  have := formatF_nat (neg := neg) na nb (by omega) (by omega)
  rw [iq.na.val, iq.nb.val, iq.2.2] at this
  rw [iq.2.2]
  exact this
end Go.Proofs.Ytghpcimeobmonaa
/- strings.CutPrefix and strings.Cut at a text of one byte: what the calls do. The first contracts were laid by the kit's contract.sh. -/
namespace Go.Proofs.Ytghpcimeobmonaa
set_option linter.unusedVariables false
set_option linter.unusedSimpArgs false
open Go.RowKit Plain

set_option maxHeartbeats 1000000 in
set_option maxRecDepth 100000 in
/-- internal/stringslite.IndexByte (what strings.IndexByte calls). -/
theorem stringslite_IndexByte (s : ByteArray) (c : Int) (w : World) :
    Calls Try.prog 94 #[.string s, .int .u8 c] w fun e w' => e = .returned (.int .i64 (Lib.indexByte s.data.toList c.toNat.toUInt8)) ∧ w' = w := by
  go_enter Try.func94, Try.ntmps94
  go_wp2
  rw [run_callFunc_extern Try.func98 (by kernel_rfl) (by kernel_rfl) (by kernel_rfl) (e := Extern.BytealgIndexByte.indexByte) (by kernel_rfl), Lib.run_indexByteString]
  simp only [Result.andThen]
  rw [Oper.upon_value]
  go_wp2
  go_ret
  exact ⟨rfl, rfl⟩

set_option maxHeartbeats 2000000 in
set_option maxRecDepth 100000 in
/-- internal/stringslite.Index (what strings.Index calls) at a text of one byte. -/
theorem stringslite_Index_one (s : ByteArray) (c : UInt8) (w : World) :
    Calls Try.prog 93 #[.string s, .string ⟨#[c]⟩] w fun e w' => e = .returned (.int .i64 (Lib.indexByte s.data.toList c)) ∧ w' = w := by
  go_enter Try.func93, Try.ntmps93
  go_wp2_with (go_at_call 94; refine (stringslite_IndexByte _ _ _).mono ?_; rintro e w' ⟨rfl, rfl⟩)
  · have h : ([c] == s.toList) = true := by assumption
    go_ret
    refine ⟨?_, rfl⟩
    have e : s.data.toList = [c] := by rw [← Lib.toList_data]; exact (beq_iff_eq.1 h).symm
    rw [e]
    simp [Lib.indexByte]
  · go_ret
    exact ⟨rfl, rfl⟩

set_option maxHeartbeats 1000000 in
set_option maxRecDepth 100000 in
theorem strings_CutPrefix (s p : ByteArray) (w : World) :
    Calls Try.prog 51 #[.string s, .string p] w fun e w' => e = .returned (.tuple #[.string ⟨(Lib.trimPrefix s.data.toList p.data.toList).toArray⟩, .bool (Lib.hasPrefix s.data.toList p.data.toList)]) ∧ w' = w := by
  go_enter Try.func51, Try.ntmps51
  go_wp2
  · have h2 : (!((s.extract 0 p.size).toList == p.toList)) = true := by assumption
    have h3 : (decide (p.size ≤ s.size) && ((s.extract 0 p.size).toList == p.toList)) = false := by
      have : ((s.extract 0 p.size).toList == p.toList) = false := by simpa using h2
      rw [this]
      simp
    go_ret2
    refine ⟨?_, rfl⟩
    rw [Lib.trimPrefix_miss s p h3, ← Lib.hasPrefix_raw, h3]
    rfl
  · have h1 : p.size ≤ s.size := by assumption
    have h2 : (!((s.extract 0 p.size).toList == p.toList)) = false := by assumption
    have h2' : ((s.extract 0 p.size).toList == p.toList) = true := by simpa using h2
    go_ret2
    refine ⟨?_, rfl⟩
    rw [Lib.trimPrefix_hit s p h1 h2', ← Lib.hasPrefix_raw, h2', decide_eq_true h1]
    rfl
  · have h1 : ¬ p.size ≤ s.size := by assumption
    have h3 : (decide (p.size ≤ s.size) && ((s.extract 0 p.size).toList == p.toList)) = false := by simp [h1]
    go_ret2
    refine ⟨?_, rfl⟩
    rw [Lib.trimPrefix_miss s p h3, ← Lib.hasPrefix_raw, h3]
    rfl

/-! The parts of a text: an optional sign, what stands before the bar and behind it. -/
def negL (l : List Nat) : Bool := decide (l.head? = some 45)
def restL (l : List Nat) : List Nat := if negL l = true then l.tail else l
def twoL (l : List Nat) : Bool := l.any (· == 47)
def numL (l : List Nat) : List Nat := l.takeWhile (· != 47)
def denL (l : List Nat) : List Nat := (l.dropWhile (· != 47)).tail
theorem u8_eq (b c : UInt8) : (b == c) = (b.toNat == c.toNat) := by
  rw [Bool.eq_iff_iff, beq_iff_eq, beq_iff_eq]
  exact ⟨fun h => by rw [h], fun h => UInt8.toNat_inj.1 h⟩
theorem bytes_mk (l : List UInt8) : bytes ⟨l.toArray⟩ = l.map UInt8.toNat := rfl
theorem hasPrefix_one (l : List UInt8) : Lib.hasPrefix l [45] = negL (l.map UInt8.toNat) := by
  unfold Lib.hasPrefix negL
  cases l with
  | nil => rfl
  | cons b l =>
    rw [Bool.eq_iff_iff]
    simp [List.isPrefixOf]
    exact ⟨fun h => by rw [← h]; rfl, fun h => (UInt8.toNat_inj.1 h).symm⟩
theorem cutPrefix_any (s : ByteArray) (w : World) :
    Calls Try.prog 51 #[.string s, .string ⟨#[45]⟩] w fun e w' => ∃ S, e = .returned (.tuple #[.string S, .bool (negL (bytes s))]) ∧ bytes S = restL (bytes s) ∧ w' = w := by
  refine (strings_CutPrefix s ⟨#[45]⟩ w).mono ?_
  rintro e w' ⟨rfl, rfl⟩
  have h1 := hasPrefix_one s.data.toList
  refine ⟨_, by rw [show (⟨#[45]⟩ : ByteArray).data.toList = [45] from rfl, h1]; rfl, ?_, rfl⟩
  rw [bytes_mk]
  unfold Lib.trimPrefix restL bytes
  rw [h1]
  split
  · simp
  · rfl
theorem indexByte_eq : ∀ l : List UInt8, Lib.indexByte l 47 = if twoL (l.map UInt8.toNat) = true then ((numL (l.map UInt8.toNat)).length : Int) else -1
  | [] => rfl
  | b :: l => by
    have ih := indexByte_eq l
    unfold Lib.indexByte
    rw [u8_eq, ih]
    unfold twoL numL
    simp only [List.map_cons, List.any_cons, List.takeWhile_cons]
    have h47 : (47 : UInt8).toNat = 47 := rfl
    rw [h47]
    by_cases hb : b.toNat = 47
    · simp [hb]
    · have hb1 : (b.toNat == 47) = false := by simpa using hb
      have hb2 : (b.toNat != 47) = true := by simpa using hb
      rw [hb1, hb2]
      unfold twoL numL at ih
      simp only [Bool.false_or, Bool.false_eq_true, if_false, if_true]
      by_cases ha : (List.map UInt8.toNat l).any (fun x => x == 47) = true
      · rw [if_pos ha, if_neg (by simp), if_pos ha]
        simp
      · rw [if_neg ha, if_neg ha]; rfl
theorem bytes_extract (s : ByteArray) (i j : Nat) (h : j ≤ s.size) : bytes (s.extract i j) = ((bytes s).drop i).take (j - i) := by
  unfold bytes
  rw [ByteArray.data_extract, Array.toList_extract, List.extract_eq_take_drop, List.map_take, List.map_drop]
theorem take_numL (l : List Nat) : l.take (numL l).length = numL l := by
  unfold numL
  conv => lhs; rw [← List.takeWhile_append_dropWhile (p := (· != 47)) (l := l)]
  rw [List.takeWhile_append_dropWhile]
  have := List.takeWhile_append_dropWhile (p := (· != 47)) (l := l)
  conv => lhs; arg 2; rw [← this]
  rw [List.take_left']
  rfl
theorem drop_numL (l : List Nat) : l.drop ((numL l).length + 1) = denL l := by
  unfold denL numL
  rw [← List.tail_drop]
  congr 1
  have := List.takeWhile_append_dropWhile (p := (· != 47)) (l := l)
  conv => lhs; arg 2; rw [← this]
  rw [List.drop_left']
  rfl
theorem numL_lt {l : List Nat} (h : twoL l = true) : (numL l).length < l.length := by
  unfold twoL at h
  unfold numL
  induction l with
  | nil => simp at h
  | cons b l ih =>
    rw [List.takeWhile_cons]
    by_cases hb : b = 47
    · simp [hb]
    · have hb2 : (b != 47) = true := by simpa using hb
      rw [if_pos hb2]
      simp only [List.any_cons, Bool.or_eq_true, beq_iff_eq, hb, false_or] at h
      have := ih h
      simp; omega
theorem numL_all {l : List Nat} (h : twoL l = false) : numL l = l ∧ denL l = [] := by
  unfold twoL at h
  unfold numL denL
  induction l with
  | nil => exact ⟨rfl, rfl⟩
  | cons b l ih =>
    simp only [List.any_cons, Bool.or_eq_false_iff] at h
    obtain ⟨h1, h2⟩ := ih h.2
    have hb2 : (b != 47) = true := by simpa using h.1
    rw [List.takeWhile_cons, List.dropWhile_cons, if_pos hb2, if_pos hb2, h1, h2]
    exact ⟨rfl, rfl⟩
set_option maxHeartbeats 2000000 in
set_option maxRecDepth 100000 in
theorem stringslite_Cut_any (s : ByteArray) (w : World) (hs : s.size ≤ 9223372036854775807) :
    Calls Try.prog 79 #[.string s, .string ⟨#[47]⟩] w fun e w' => ∃ S T, e = .returned (.tuple #[.string S, .string T, .bool (twoL (bytes s))]) ∧ bytes S = numL (bytes s) ∧ bytes T = denL (bytes s) ∧ ∃ n, w' = w.drewN n := by
  have hix := indexByte_eq s.data.toList
  have hbl := bytes_length s
  by_cases h2 : twoL (bytes s) = true
  · have hlt := numL_lt h2
    rw [show List.map UInt8.toNat s.data.toList = bytes s from rfl, if_pos h2] at hix
    obtain ⟨i, hi⟩ : ∃ i, Hid ((numL (bytes s)).length = i) := ⟨_, rfl⟩
    rw [hi.out] at hix hlt
    have hix' := Lib.hid hix
    have h2' := Lib.hid h2
    clear hix h2
    rw [h2'.out]
    have c2 : (i : Int) ≤ s.size := by omega
    have c0 : (0 : Int) ≤ i := by omega
    have c3 : (0 : Int) ≤ (i : Int) + 1 := by omega
    have c4 : (i : Int) + 1 ≤ s.size := by omega
    go_enter Try.func79, Try.ntmps79
    go_wp2_with (go_at_call 93; refine (stringslite_Index_one _ _ _).mono ?_; rintro e w' ⟨rfl, rfl⟩; rw [hix'.out])
    go_region
    all_goals go_wp2
    all_goals go_ret3
    refine ⟨_, _, rfl, ?_, ?_, 1, rfl⟩
    · rw [bytes_extract _ _ _ (by omega), List.drop_zero, Nat.sub_zero, ← hi.out, take_numL]
    · rw [bytes_extract _ _ _ (Nat.le_refl _), ← hi.out, drop_numL]
      refine List.take_of_length_le ?_
      rw [← drop_numL, List.length_drop, bytes_length]
      omega
  · have h2' := eq_false_of_ne_true h2
    rw [show List.map UInt8.toNat s.data.toList = bytes s from rfl, if_neg h2] at hix
    obtain ⟨e1, e2⟩ := numL_all h2'
    have hix' := Lib.hid hix
    have h3 := Lib.hid h2'
    clear hix h2 h2'
    rw [h3.out, e1, e2]
    clear e1 e2
    go_enter Try.func79, Try.ntmps79
    go_wp2_with (go_at_call 93; refine (stringslite_Index_one _ _ _).mono ?_; rintro e w' ⟨rfl, rfl⟩; rw [hix'.out])
    go_ret3
    exact ⟨_, _, rfl, rfl, rfl, 0, rfl⟩
set_option maxHeartbeats 2000000 in
set_option maxRecDepth 100000 in
theorem cut_any (s : ByteArray) (w : World) (hs : s.size ≤ 9223372036854775807) :
    Calls Try.prog 52 #[.string s, .string ⟨#[47]⟩] w fun e w' => ∃ S T, e = .returned (.tuple #[.string S, .string T, .bool (twoL (bytes s))]) ∧ bytes S = numL (bytes s) ∧ bytes T = denL (bytes s) ∧ ∃ n, w' = w.drewN n := by
  go_enter Try.func52, Try.ntmps52
  go_wp2_with (go_at_call 79; refine (stringslite_Cut_any _ _ hs).mono ?_; rintro e w' ⟨S, T, rfl, h1, h2, n, rfl⟩)
  go_ret3
  exact ⟨S, T, rfl, h1, h2, n, rfl⟩
end Go.Proofs.Ytghpcimeobmonaa
/- fraction.Parse: what the call does. -/
namespace Go.Proofs.Ytghpcimeobmonaa
set_option linter.unusedVariables false
set_option linter.unusedSimpArgs false
open Go.RowKit Plain
attribute [local go_sem ↓] Go.wp_at_zero Go.wp_at_succ

/-- What stands behind the bar, or 1. -/
def dL (l : List Nat) : List Nat := if twoL (restL l) = true then denL (restL l) else [49]
def pfQ (l : List Nat) : Rat := mkRat (sg (negL l) (parVal (numL (restL l)))) (parVal (dL l))
def pfOK (l : List Nat) : Bool := decide (parErr (numL (restL l)) = 0 ∧ parErr (dL l) = 0 ∧ parVal (dL l) ≠ 0 ∧ bytes (fmtQ (pfQ l)) = l)
/-- A call that returns the fraction with the text l, or its error. -/
def RetPF (l : List Nat) (W : World) (e : Ending) (w' : World) : Prop := if 1202 < l.length then RetZE 3 W e w' else if pfOK l = true then RetQE (pfQ l) W e w' else RetZE 2 W e w'
theorem retPF_long {l : List Nat} {W w' : World} {e : Ending} (h : 1202 < l.length) (r : RetZE 3 W e w') : RetPF l W e w' := by unfold RetPF; rw [if_pos h]; exact r
theorem retPF_bad {l : List Nat} {W w' : World} {e : Ending} (h : ¬ 1202 < l.length) (h2 : pfOK l = false) (r : RetZE 2 W e w') : RetPF l W e w' := by unfold RetPF; rw [if_neg h, if_neg (by rw [h2]; decide)]; exact r
theorem retPF_ok {l : List Nat} {W w' : World} {e : Ending} (h : ¬ 1202 < l.length) (h2 : pfOK l = true) (r : RetQE (pfQ l) W e w') : RetPF l W e w' := by unfold RetPF; rw [if_neg h, if_pos h2]; exact r
theorem pfOK_n {l : List Nat} (h : parErr (numL (restL l)) ≠ 0) : pfOK l = false := decide_eq_false fun k => h k.1
theorem pfOK_d {l : List Nat} (h : parErr (dL l) ≠ 0) : pfOK l = false := decide_eq_false fun k => h k.2.1
theorem pfOK_z {l : List Nat} (h : parVal (dL l) = 0) : pfOK l = false := decide_eq_false fun k => k.2.2.1 h
theorem pfOK_f {l : List Nat} (h : bytes (fmtQ (pfQ l)) ≠ l) : pfOK l = false := decide_eq_false fun k => h k.2.2.2
theorem beq_bytes (a b : ByteArray) : (a.toList == b.toList) = decide (bytes a = bytes b) := by
  rw [Bool.eq_iff_iff, beq_iff_eq, decide_eq_true_eq]
  constructor
  · intro h
    rw [Lib.toList_data, Lib.toList_data] at h
    unfold bytes; rw [h]
  · intro h; rw [byteArray_ext h]
theorem restL_len (l : List Nat) : (restL l).length ≤ l.length := by unfold restL; split <;> simp
theorem numL_len (l : List Nat) : (numL l).length ≤ l.length := by unfold numL; exact (List.takeWhile_sublist _).length_le
theorem denL_len (l : List Nat) : (denL l).length ≤ l.length := by
  rw [← drop_numL, List.length_drop]; omega
theorem dL_len (l : List Nat) : (dL l).length ≤ l.length + 1 := by
  unfold dL
  split
  · have := denL_len (restL l); have := restL_len l; omega
  · simp

set_option maxRecDepth 100000 in
set_option maxHeartbeats 4000000 in
theorem parseF_long (s : ByteArray) (w : World) (hs : 1202 < s.size) (hs2 : s.size ≤ 9223372036854775807) :
    Calls Try.prog 13 #[.string s] w (RetPF (bytes s) w) := by
  obtain ⟨w1, hw1, bw1, hlt1, hBr⟩ := boxed w #[.bool false, .slice none 0 0, .slice none 0 0] 25
  have hd : decide ((1202 : Int) < (s.size : Int)) = true := decide_eq_true (by omega)
  have hl := Lib.hid (bytes_length s)
  have r0 := hBr.f0
  have r1 := hBr.f1
  have r2 := hBr.f2
  have t0 := hBr.free 0
  have t1 := hBr.free 1
  have t2 := hBr.free 2
  go_enter Try.func13, Try.ntmps13
  go_wp2
  obtain ⟨w9, hw9, hB9, o9⟩ := hBr.set3 (.bool false) (.slice none 0 0) (.slice none 0 0)
  rw [hw9]
  have e0 := hB9.f0
  have e1 := hB9.f1
  have e2 := hB9.f2
  refine bodyPost_ret (v := .tuple #[fracV false none 0 0 none 0 0, .int .i64 3]) (by simp [results, Try.results13, go_sem, e0, e1, e2]) rfl ?_
  exact retPF_long (by rw [hl.out]; exact hs) ⟨rfl, o9.to_below bw1 (Nat.le_refl _) bw1.size⟩

set_option maxRecDepth 100000 in
set_option maxHeartbeats 4000000 in
theorem parseF_two (s : ByteArray) (w : World) (hs : s.size ≤ 1202) (h2 : twoL (restL (bytes s)) = true) :
    Calls Try.prog 13 #[.string s] w (RetPF (bytes s) w) := by
  obtain ⟨w1, hw1, bw1, hlt1, hB1⟩ := boxed w #[.bool false, .slice none 0 0, .slice none 0 0] 25
  have hd : decide ((1202 : Int) < (s.size : Int)) = false := decide_eq_false (by omega)
  have hl := Lib.hid (show ¬ 1202 < (bytes s).length by rw [bytes_length]; omega)
  have hn1 := Lib.hid (Nat.le_trans (numL_len (restL (bytes s))) (Nat.le_trans (restL_len (bytes s)) (Nat.le_of_eq (bytes_length s))))
  have hn2 := Lib.hid (Nat.le_trans (dL_len (bytes s)) (Nat.succ_le_succ (Nat.le_of_eq (bytes_length s))))
  have h2' := Lib.hid h2
  clear h2
  go_enter Try.func13, Try.ntmps13
  go_wp2_with fail
  refine (cutPrefix_any s _).mono ?_
  rintro e w1 ⟨S, rfl, hS, rfl⟩
  have hS' := Lib.hid hS
  have hSz : S.size ≤ s.size := by rw [← bytes_length, hS, ← bytes_length s]; exact restL_len _
  clear hS
  obtain ⟨neg, hneg⟩ : ∃ b, Hid (negL (bytes s) = b) := ⟨_, rfl⟩
  rw [hneg.out]
  go_wp2_with fail
  refine (cut_any S _ (by omega)).mono ?_
  rintro e w2 ⟨N, D, rfl, hN, hD, n, rfl⟩
  rw [hS'.out] at hN hD
  rw [hS'.out, h2'.out]
  have hNs : N.size ≤ 9223372036854775807 := by rw [← bytes_length, hN]; have := hn1.out; omega
  have hDL : bytes (D : ByteArray) = dL (bytes s) := by
    unfold dL; rw [h2'.out]; exact hD
  have hDs : (D : ByteArray).size ≤ 9223372036854775807 := by rw [← bytes_length, hDL]; have := hn2.out; omega
  have hN' := Lib.hid hN
  have hDL' := Lib.hid hDL
  clear hN hD hDL
  have b01 : Below w.heap.size w (w1.drewN n) := below_drewN bw1 n
  have hB2 : Blk (w1.drewN n) w.heap.size 25 #[.bool false, .slice none 0 0, .slice none 0 0] := hB1
  go_wp2_with fail
  refine (parse_any N _ hNs).mono ?_
  rintro e w3 ⟨X, cx, x, rfl, nx, ix, mx, b3⟩
  rw [hN'.out] at ix
  rw [hN'.out]
  have ix' := Lib.hid ix
  clear ix
  go_wp2_with fail
  refine (parse_any (D) _ hDs).mono ?_
  rintro e w4 ⟨Y, cy, y, rfl, ny, iy, my, b4⟩
  rw [hDL'.out] at iy
  rw [hDL'.out]
  have iy' := Lib.hid iy
  clear iy
  have b03 := b01.trans (b3.mono b01.size)
  have b04 := b03.trans (b4.mono b03.size)
  have hB4 := (hB2.keep b3).keep b4
  have nx4 := nx.below b4
  clear b3 b4 nx b03 b01 hB2 hB1
  obtain ⟨p, hp⟩ : ∃ p, Hid (parErr (numL (restL (bytes s))) = p) := ⟨_, rfl⟩
  obtain ⟨q, hq⟩ : ∃ p, Hid (parErr (dL (bytes s)) = p) := ⟨_, rfl⟩
  rw [hp.out, hq.out]
  by_cases hp0 : p = 0
  · by_cases hq0 : q = 0
    · subst hp0 hq0
      by_cases hz : parVal (dL (bytes s)) = 0
      · have hy := (iy'.out.zero_iff).2 hz
        have hbad := Lib.hid (pfOK_z hz)
        clear hz
        subst hy
        go_wp2_with fail
        refine (make_zero (B := Y) (cb := cy)).mono ?_
        rintro e w5 ⟨rfl, b5⟩
        have b05 := b04.trans (b5.mono b04.size)
        obtain ⟨w6, hw6, bw6, hlt6, hB6⟩ := boxed w5 #[.bool false, .slice none 0 0, .slice none 0 0] 25
        have hBr := (hB4.keep b5).keep bw6
        have b06 := b05.trans (bw6.mono b05.size)
        have x0 := hB6.f0
        have x1 := hB6.f1
        have x2 := hB6.f2
        have v0 := hB6.free 0
        have v1 := hB6.free 1
        have v2 := hB6.free 2
        have s0 := hB6.same (i := 0) (u := .bool false) rfl
        have s1 := hB6.same (i := 1) (u := .slice none 0 0) rfl
        have s2 := hB6.same (i := 2) (u := .slice none 0 0) rfl
        have r0 := hBr.f0
        have r1 := hBr.f1
        have r2 := hBr.f2
        have t0 := hBr.free 0
        have t1 := hBr.free 1
        have t2 := hBr.free 2
        go_wp2
        obtain ⟨w9, hw9, hB9, o9⟩ := hBr.set3 (.bool false) (.slice none 0 0) (.slice none 0 0)
        rw [hw9]
        have e0 := hB9.f0
        have e1 := hB9.f1
        have e2 := hB9.f2
        refine bodyPost_ret (v := .tuple #[fracV false none 0 0 none 0 0, .int .i64 2]) (by simp [results, Try.results13, go_sem, e0, e1, e2]) rfl ?_
        exact retPF_bad hl.out hbad.out ⟨rfl, o9.to_below b06 (Nat.le_refl _) b06.size⟩
      · have hy : val y ≠ 0 := by rw [iy'.out.val]; exact hz
        go_wp2_with fail
        refine (make_any (neg := neg) nx4 ny hy (by omega) (by omega)).mono ?_
        rintro e w5 ⟨v, rfl, ⟨m0, A1, c1, l1, B1, d1, m1, rfl, ma, mb, hQ⟩, b5⟩
        rw [ix'.out.val, iy'.out.val, ← hneg.out] at hQ
        have hQ1 : QIs m0 l1 m1 (pfQ (bytes s)) := hQ
        clear hQ
        have hfit : Fits 601 (pfQ (bytes s)) := fits_mk (by rw [sg_natAbs, ← ix'.out.val]; exact Nat.lt_of_lt_of_le (val_lt nx4.dig) (pw_mono (by omega))) (by rw [← iy'.out.val]; exact Nat.lt_of_lt_of_le (val_lt ny.dig) (pw_mono (by omega)))
        have hlen := QIs.fits hQ1 hfit
        have hFm : fmtB m0 (val l1) (val m1) = fmtQ (pfQ (bytes s)) := by unfold fmtQ; rw [hQ1.na.val, hQ1.nb.val, hQ1.2.2]
        have hFm' := Lib.hid hFm
        have hQ' := Lib.hid hQ1
        clear hQ1 hFm hfit
        have b05 := b04.trans (b5.mono b04.size)
        obtain ⟨w6, hw6, bw6, hlt6, hB6⟩ := boxed w5 #[.bool m0, .slice A1 l1.length c1, .slice B1 m1.length d1] 25
        have x0 := hB6.f0
        have x1 := hB6.f1
        have x2 := hB6.f2
        have hB6' := (hB4.keep b5).keep bw6
        have b06 := b05.trans (bw6.mono b05.size)
        go_wp2_with fail
        refine (formatF_nat (neg := m0) (ma.below bw6) (mb.below bw6) (by omega) (by omega)).mono ?_
        rintro e w7 ⟨rfl, b7⟩
        rw [hFm'.out]
        obtain ⟨F, hF⟩ : ∃ F, Hid (fmtQ (pfQ (bytes s)) = F) := ⟨_, rfl⟩
        rw [hF.out]
        have hX := hB6.keep b7
        clear x0 x1 x2
        have x0 := hX.f0
        have x1 := hX.f1
        have x2 := hX.f2
        have hBr := hB6'.keep b7
        have b07 := b06.trans (b7.mono b06.size)
        have heq := beq_bytes F s
        by_cases hs : bytes F = bytes s
        · have hcmp : (F.toList == s.toList) = true := by rw [heq]; exact decide_eq_true hs
          have hgood := Lib.hid (show pfOK (bytes s) = true from decide_eq_true ⟨hp.out, hq.out, hz, by rw [hF.out]; exact hs⟩)
          clear heq hs hz
          have r0 := hBr.f0
          have r1 := hBr.f1
          have r2 := hBr.f2
          have t0 := hBr.free 0
          have t1 := hBr.free 1
          have t2 := hBr.free 2
          go_wp2
          obtain ⟨w9, hw9, hB9, o9⟩ := hBr.set3 (.bool m0) (.slice A1 l1.length c1) (.slice B1 m1.length d1)
          rw [hw9]
          have e0 := hB9.f0
          have e1 := hB9.f1
          have e2 := hB9.f2
          refine bodyPost_ret (v := .tuple #[fracV m0 A1 l1.length c1 B1 m1.length d1, .int .i64 0]) (by simp [results, Try.results13, go_sem, e0, e1, e2]) rfl ?_
          have m1' := ((ma.below bw6).below b7).only_blk hBr (noDig3 _ _ _ _ _ _ _) o9
          have m2' := ((mb.below bw6).below b7).only_blk hBr (noDig3 _ _ _ _ _ _ _) o9
          exact retPF_ok hl.out hgood.out ⟨_, rfl, ⟨m0, A1, c1, l1, B1, d1, m1, rfl, m1', m2', hQ'.out⟩, o9.to_below b07 (Nat.le_refl _) b07.size⟩
        · have hcmp : (F.toList == s.toList) = false := by rw [heq]; exact decide_eq_false hs
          have hbad := Lib.hid (show pfOK (bytes s) = false from pfOK_f (by rw [hF.out]; exact hs))
          clear heq hs hz
          have r0 := hBr.f0
          have r1 := hBr.f1
          have r2 := hBr.f2
          have t0 := hBr.free 0
          have t1 := hBr.free 1
          have t2 := hBr.free 2
          go_wp2
          obtain ⟨w9, hw9, hB9, o9⟩ := hBr.set3 (.bool false) (.slice none 0 0) (.slice none 0 0)
          rw [hw9]
          have e0 := hB9.f0
          have e1 := hB9.f1
          have e2 := hB9.f2
          refine bodyPost_ret (v := .tuple #[fracV false none 0 0 none 0 0, .int .i64 2]) (by simp [results, Try.results13, go_sem, e0, e1, e2]) rfl ?_
          exact retPF_bad hl.out hbad.out ⟨rfl, o9.to_below b07 (Nat.le_refl _) b07.size⟩
    · have hbad := Lib.hid (show pfOK (bytes s) = false from pfOK_d (by rw [hq.out]; exact hq0))
      have hq1 : ((q : Int) == 0) = false := by rw [beq_eq_false_iff_ne]; omega
      subst hp0
      have hBr := hB4
      have r0 := hBr.f0
      have r1 := hBr.f1
      have r2 := hBr.f2
      have t0 := hBr.free 0
      have t1 := hBr.free 1
      have t2 := hBr.free 2
      go_wp2
      obtain ⟨w9, hw9, hB9, o9⟩ := hBr.set3 (.bool false) (.slice none 0 0) (.slice none 0 0)
      rw [hw9]
      have e0 := hB9.f0
      have e1 := hB9.f1
      have e2 := hB9.f2
      refine bodyPost_ret (v := .tuple #[fracV false none 0 0 none 0 0, .int .i64 2]) (by simp [results, Try.results13, go_sem, e0, e1, e2]) rfl ?_
      exact retPF_bad hl.out hbad.out ⟨rfl, o9.to_below b04 (Nat.le_refl _) b04.size⟩
  · have hbad := Lib.hid (show pfOK (bytes s) = false from pfOK_n (by rw [hp.out]; exact hp0))
    have hp1 : ((p : Int) == 0) = false := by rw [beq_eq_false_iff_ne]; omega
    have hBr := hB4
    have r0 := hBr.f0
    have r1 := hBr.f1
    have r2 := hBr.f2
    have t0 := hBr.free 0
    have t1 := hBr.free 1
    have t2 := hBr.free 2
    go_wp2
    obtain ⟨w9, hw9, hB9, o9⟩ := hBr.set3 (.bool false) (.slice none 0 0) (.slice none 0 0)
    rw [hw9]
    have e0 := hB9.f0
    have e1 := hB9.f1
    have e2 := hB9.f2
    refine bodyPost_ret (v := .tuple #[fracV false none 0 0 none 0 0, .int .i64 2]) (by simp [results, Try.results13, go_sem, e0, e1, e2]) rfl ?_
    exact retPF_bad hl.out hbad.out ⟨rfl, o9.to_below b04 (Nat.le_refl _) b04.size⟩

set_option maxRecDepth 100000 in
set_option maxHeartbeats 4000000 in
theorem parseF_one (s : ByteArray) (w : World) (hs : s.size ≤ 1202) (h2 : twoL (restL (bytes s)) = false) :
    Calls Try.prog 13 #[.string s] w (RetPF (bytes s) w) := by
  obtain ⟨w1, hw1, bw1, hlt1, hB1⟩ := boxed w #[.bool false, .slice none 0 0, .slice none 0 0] 25
  have hd : decide ((1202 : Int) < (s.size : Int)) = false := decide_eq_false (by omega)
  have hl := Lib.hid (show ¬ 1202 < (bytes s).length by rw [bytes_length]; omega)
  have hn1 := Lib.hid (Nat.le_trans (numL_len (restL (bytes s))) (Nat.le_trans (restL_len (bytes s)) (Nat.le_of_eq (bytes_length s))))
  have hn2 := Lib.hid (Nat.le_trans (dL_len (bytes s)) (Nat.succ_le_succ (Nat.le_of_eq (bytes_length s))))
  have h2' := Lib.hid h2
  clear h2
  go_enter Try.func13, Try.ntmps13
  go_wp2_with fail
  refine (cutPrefix_any s _).mono ?_
  rintro e w1 ⟨S, rfl, hS, rfl⟩
  have hS' := Lib.hid hS
  have hSz : S.size ≤ s.size := by rw [← bytes_length, hS, ← bytes_length s]; exact restL_len _
  clear hS
  obtain ⟨neg, hneg⟩ : ∃ b, Hid (negL (bytes s) = b) := ⟨_, rfl⟩
  rw [hneg.out]
  go_wp2_with fail
  refine (cut_any S _ (by omega)).mono ?_
  rintro e w2 ⟨N, D, rfl, hN, hD, n, rfl⟩
  rw [hS'.out] at hN hD
  rw [hS'.out, h2'.out]
  have hNs : N.size ≤ 9223372036854775807 := by rw [← bytes_length, hN]; have := hn1.out; omega
  have hDL : bytes (⟨#[49]⟩ : ByteArray) = dL (bytes s) := by
    unfold dL; rw [h2'.out]; rfl
  have hDs : (⟨#[49]⟩ : ByteArray).size ≤ 9223372036854775807 := by rw [← bytes_length, hDL]; have := hn2.out; omega
  have hN' := Lib.hid hN
  have hDL' := Lib.hid hDL
  clear hN hD hDL
  have b01 : Below w.heap.size w (w1.drewN n) := below_drewN bw1 n
  have hB2 : Blk (w1.drewN n) w.heap.size 25 #[.bool false, .slice none 0 0, .slice none 0 0] := hB1
  go_wp2_with fail
  refine (parse_any N _ hNs).mono ?_
  rintro e w3 ⟨X, cx, x, rfl, nx, ix, mx, b3⟩
  rw [hN'.out] at ix
  rw [hN'.out]
  have ix' := Lib.hid ix
  clear ix
  go_wp2_with fail
  refine (parse_any (⟨#[49]⟩) _ hDs).mono ?_
  rintro e w4 ⟨Y, cy, y, rfl, ny, iy, my, b4⟩
  rw [hDL'.out] at iy
  rw [hDL'.out]
  have iy' := Lib.hid iy
  clear iy
  have b03 := b01.trans (b3.mono b01.size)
  have b04 := b03.trans (b4.mono b03.size)
  have hB4 := (hB2.keep b3).keep b4
  have nx4 := nx.below b4
  clear b3 b4 nx b03 b01 hB2 hB1
  obtain ⟨p, hp⟩ : ∃ p, Hid (parErr (numL (restL (bytes s))) = p) := ⟨_, rfl⟩
  obtain ⟨q, hq⟩ : ∃ p, Hid (parErr (dL (bytes s)) = p) := ⟨_, rfl⟩
  rw [hp.out, hq.out]
  by_cases hp0 : p = 0
  · by_cases hq0 : q = 0
    · subst hp0 hq0
      by_cases hz : parVal (dL (bytes s)) = 0
      · have hy := (iy'.out.zero_iff).2 hz
        have hbad := Lib.hid (pfOK_z hz)
        clear hz
        subst hy
        go_wp2_with fail
        refine (make_zero (B := Y) (cb := cy)).mono ?_
        rintro e w5 ⟨rfl, b5⟩
        have b05 := b04.trans (b5.mono b04.size)
        obtain ⟨w6, hw6, bw6, hlt6, hB6⟩ := boxed w5 #[.bool false, .slice none 0 0, .slice none 0 0] 25
        have hBr := (hB4.keep b5).keep bw6
        have b06 := b05.trans (bw6.mono b05.size)
        have x0 := hB6.f0
        have x1 := hB6.f1
        have x2 := hB6.f2
        have v0 := hB6.free 0
        have v1 := hB6.free 1
        have v2 := hB6.free 2
        have s0 := hB6.same (i := 0) (u := .bool false) rfl
        have s1 := hB6.same (i := 1) (u := .slice none 0 0) rfl
        have s2 := hB6.same (i := 2) (u := .slice none 0 0) rfl
        have r0 := hBr.f0
        have r1 := hBr.f1
        have r2 := hBr.f2
        have t0 := hBr.free 0
        have t1 := hBr.free 1
        have t2 := hBr.free 2
        go_wp2
        obtain ⟨w9, hw9, hB9, o9⟩ := hBr.set3 (.bool false) (.slice none 0 0) (.slice none 0 0)
        rw [hw9]
        have e0 := hB9.f0
        have e1 := hB9.f1
        have e2 := hB9.f2
        refine bodyPost_ret (v := .tuple #[fracV false none 0 0 none 0 0, .int .i64 2]) (by simp [results, Try.results13, go_sem, e0, e1, e2]) rfl ?_
        exact retPF_bad hl.out hbad.out ⟨rfl, o9.to_below b06 (Nat.le_refl _) b06.size⟩
      · have hy : val y ≠ 0 := by rw [iy'.out.val]; exact hz
        go_wp2_with fail
        refine (make_any (neg := neg) nx4 ny hy (by omega) (by omega)).mono ?_
        rintro e w5 ⟨v, rfl, ⟨m0, A1, c1, l1, B1, d1, m1, rfl, ma, mb, hQ⟩, b5⟩
        rw [ix'.out.val, iy'.out.val, ← hneg.out] at hQ
        have hQ1 : QIs m0 l1 m1 (pfQ (bytes s)) := hQ
        clear hQ
        have hfit : Fits 601 (pfQ (bytes s)) := fits_mk (by rw [sg_natAbs, ← ix'.out.val]; exact Nat.lt_of_lt_of_le (val_lt nx4.dig) (pw_mono (by omega))) (by rw [← iy'.out.val]; exact Nat.lt_of_lt_of_le (val_lt ny.dig) (pw_mono (by omega)))
        have hlen := QIs.fits hQ1 hfit
        have hFm : fmtB m0 (val l1) (val m1) = fmtQ (pfQ (bytes s)) := by unfold fmtQ; rw [hQ1.na.val, hQ1.nb.val, hQ1.2.2]
        have hFm' := Lib.hid hFm
        have hQ' := Lib.hid hQ1
        clear hQ1 hFm hfit
        have b05 := b04.trans (b5.mono b04.size)
        obtain ⟨w6, hw6, bw6, hlt6, hB6⟩ := boxed w5 #[.bool m0, .slice A1 l1.length c1, .slice B1 m1.length d1] 25
        have x0 := hB6.f0
        have x1 := hB6.f1
        have x2 := hB6.f2
        have hB6' := (hB4.keep b5).keep bw6
        have b06 := b05.trans (bw6.mono b05.size)
        go_wp2_with fail
        refine (formatF_nat (neg := m0) (ma.below bw6) (mb.below bw6) (by omega) (by omega)).mono ?_
        rintro e w7 ⟨rfl, b7⟩
        rw [hFm'.out]
        obtain ⟨F, hF⟩ : ∃ F, Hid (fmtQ (pfQ (bytes s)) = F) := ⟨_, rfl⟩
        rw [hF.out]
        have hX := hB6.keep b7
        clear x0 x1 x2
        have x0 := hX.f0
        have x1 := hX.f1
        have x2 := hX.f2
        have hBr := hB6'.keep b7
        have b07 := b06.trans (b7.mono b06.size)
        have heq := beq_bytes F s
        by_cases hs : bytes F = bytes s
        · have hcmp : (F.toList == s.toList) = true := by rw [heq]; exact decide_eq_true hs
          have hgood := Lib.hid (show pfOK (bytes s) = true from decide_eq_true ⟨hp.out, hq.out, hz, by rw [hF.out]; exact hs⟩)
          clear heq hs hz
          have r0 := hBr.f0
          have r1 := hBr.f1
          have r2 := hBr.f2
          have t0 := hBr.free 0
          have t1 := hBr.free 1
          have t2 := hBr.free 2
          go_wp2
          obtain ⟨w9, hw9, hB9, o9⟩ := hBr.set3 (.bool m0) (.slice A1 l1.length c1) (.slice B1 m1.length d1)
          rw [hw9]
          have e0 := hB9.f0
          have e1 := hB9.f1
          have e2 := hB9.f2
          refine bodyPost_ret (v := .tuple #[fracV m0 A1 l1.length c1 B1 m1.length d1, .int .i64 0]) (by simp [results, Try.results13, go_sem, e0, e1, e2]) rfl ?_
          have m1' := ((ma.below bw6).below b7).only_blk hBr (noDig3 _ _ _ _ _ _ _) o9
          have m2' := ((mb.below bw6).below b7).only_blk hBr (noDig3 _ _ _ _ _ _ _) o9
          exact retPF_ok hl.out hgood.out ⟨_, rfl, ⟨m0, A1, c1, l1, B1, d1, m1, rfl, m1', m2', hQ'.out⟩, o9.to_below b07 (Nat.le_refl _) b07.size⟩
        · have hcmp : (F.toList == s.toList) = false := by rw [heq]; exact decide_eq_false hs
          have hbad := Lib.hid (show pfOK (bytes s) = false from pfOK_f (by rw [hF.out]; exact hs))
          clear heq hs hz
          have r0 := hBr.f0
          have r1 := hBr.f1
          have r2 := hBr.f2
          have t0 := hBr.free 0
          have t1 := hBr.free 1
          have t2 := hBr.free 2
          go_wp2
          obtain ⟨w9, hw9, hB9, o9⟩ := hBr.set3 (.bool false) (.slice none 0 0) (.slice none 0 0)
          rw [hw9]
          have e0 := hB9.f0
          have e1 := hB9.f1
          have e2 := hB9.f2
          refine bodyPost_ret (v := .tuple #[fracV false none 0 0 none 0 0, .int .i64 2]) (by simp [results, Try.results13, go_sem, e0, e1, e2]) rfl ?_
          exact retPF_bad hl.out hbad.out ⟨rfl, o9.to_below b07 (Nat.le_refl _) b07.size⟩
    · have hbad := Lib.hid (show pfOK (bytes s) = false from pfOK_d (by rw [hq.out]; exact hq0))
      have hq1 : ((q : Int) == 0) = false := by rw [beq_eq_false_iff_ne]; omega
      subst hp0
      have hBr := hB4
      have r0 := hBr.f0
      have r1 := hBr.f1
      have r2 := hBr.f2
      have t0 := hBr.free 0
      have t1 := hBr.free 1
      have t2 := hBr.free 2
      go_wp2
      obtain ⟨w9, hw9, hB9, o9⟩ := hBr.set3 (.bool false) (.slice none 0 0) (.slice none 0 0)
      rw [hw9]
      have e0 := hB9.f0
      have e1 := hB9.f1
      have e2 := hB9.f2
      refine bodyPost_ret (v := .tuple #[fracV false none 0 0 none 0 0, .int .i64 2]) (by simp [results, Try.results13, go_sem, e0, e1, e2]) rfl ?_
      exact retPF_bad hl.out hbad.out ⟨rfl, o9.to_below b04 (Nat.le_refl _) b04.size⟩
  · have hbad := Lib.hid (show pfOK (bytes s) = false from pfOK_n (by rw [hp.out]; exact hp0))
    have hp1 : ((p : Int) == 0) = false := by rw [beq_eq_false_iff_ne]; omega
    have hBr := hB4
    have r0 := hBr.f0
    have r1 := hBr.f1
    have r2 := hBr.f2
    have t0 := hBr.free 0
    have t1 := hBr.free 1
    have t2 := hBr.free 2
    go_wp2
    obtain ⟨w9, hw9, hB9, o9⟩ := hBr.set3 (.bool false) (.slice none 0 0) (.slice none 0 0)
    rw [hw9]
    have e0 := hB9.f0
    have e1 := hB9.f1
    have e2 := hB9.f2
    refine bodyPost_ret (v := .tuple #[fracV false none 0 0 none 0 0, .int .i64 2]) (by simp [results, Try.results13, go_sem, e0, e1, e2]) rfl ?_
    exact retPF_bad hl.out hbad.out ⟨rfl, o9.to_below b04 (Nat.le_refl _) b04.size⟩

theorem parseF_any (s : ByteArray) (w : World) (hs : s.size ≤ 9223372036854775807) :
    Calls Try.prog 13 #[.string s] w (RetPF (bytes s) w) := by
  by_cases h1 : s.size ≤ 1202
  · by_cases h2 : twoL (restL (bytes s)) = true
    · exact parseF_two s w h1 h2
    · exact parseF_one s w h1 (eq_false_of_ne_true h2)
  · exact parseF_long s w (by omega) hs
end Go.Proofs.Ytghpcimeobmonaa
/- fraction.FromInt and New: what the calls do. -/
namespace Go.Proofs.Ytghpcimeobmonaa
set_option linter.unusedVariables false
set_option linter.unusedSimpArgs false
open Go.RowKit Plain
attribute [local go_sem ↓] Go.wp_at_zero Go.wp_at_succ

theorem mk_int (n : Int) : mkRat (sg (decide (n < 0)) n.natAbs) 1 = (n : Rat) := by
  rw [sg_of]; exact Rat.mkRat_one n
theorem pw2_big : pw 2 = 18446744073709551616 := by simp only [pw]
set_option maxRecDepth 100000 in
set_option maxHeartbeats 1000000 in
theorem fromInt_any (n : Int) (w : World) (h1 : -9223372036854775808 ≤ n) (h2 : n ≤ 9223372036854775807) :
    Calls Try.prog 19 #[.int .i64 n] w (RetQ (n : Rat) w) := by
  obtain ⟨w0, hw0, bw0, hlt0, hB0⟩ := boxed w #[.bool false, .slice none 0 0, .slice none 0 0] 25
  go_enter Try.func19, Try.ntmps19
  go_wp2_with fail
  refine (size_any n _ h1 h2).mono ?_
  rintro e w1 ⟨A, c, l, rfl, na, ia, la, b1⟩
  have ia' := Lib.hid ia
  clear ia
  go_wp2_with fail
  refine (fromUint_val 1 1 _ rfl (by rw [pw2_big]; omega)).mono ?_
  rintro e w2 ⟨A2, c2, l2, rfl, na2, ia2, la2, b2⟩
  have ia2' := Lib.hid ia2
  clear ia2
  go_wp2_with fail
  refine (made_any (na.below b2) na2 (by rw [ia2'.out.val]; omega) (by omega) (by omega)).mono ?_
  rintro e w3 ⟨v, rfl, ⟨n1, A1, c1, l1, B1, d1, m1, rfl, ma, mb, hQ⟩, b3⟩
  rw [ia'.out.val, ia2'.out.val, mk_int] at hQ
  have hQ' := Lib.hid hQ
  clear hQ
  have b12 := (b1.trans (b2.mono b1.size))
  have b12 := b12.trans (b3.mono b12.size)
  have hB3 := hB0.keep b12
  have bw3 := bw0.trans (b12.mono (Nat.le_of_lt hlt0))
  have y0 := hB3.f0
  have y1 := hB3.f1
  have y2 := hB3.f2
  have z0 := hB3.free 0
  have z1 := hB3.free 1
  have z2 := hB3.free 2
  go_wp2
  obtain ⟨w9, hw9, hB9, o9⟩ := hB3.set3 (.bool n1) (.slice A1 l1.length c1) (.slice B1 m1.length d1)
  rw [hw9]
  have e0 := hB9.f0
  have e1 := hB9.f1
  have e2 := hB9.f2
  refine bodyPost_ret (v := fracV n1 A1 l1.length c1 B1 m1.length d1) (by simp [results, Try.results19, go_sem, e0, e1, e2]) rfl ?_
  have m1' := ma.only_blk hB3 (noDig3 _ _ _ _ _ _ _) o9
  have m2' := mb.only_blk hB3 (noDig3 _ _ _ _ _ _ _) o9
  exact ⟨_, rfl, ⟨n1, A1, c1, l1, B1, d1, m1, rfl, m1', m2', hQ'.out⟩, o9.to_below bw3 (Nat.le_refl _) bw3.size⟩
theorem mk_div {n d : Int} (h : d ≠ 0) : mkRat (sg (!(decide (n < 0) == decide (d < 0))) n.natAbs) d.natAbs = (n : Rat) / (d : Rat) := by
  rw [← Rat.divInt_eq_div]
  rcases Int.lt_trichotomy d 0 with h1 | h1 | h1
  · obtain ⟨k, rfl⟩ : ∃ k : Nat, d = -(k : Int) := ⟨d.natAbs, by omega⟩
    rw [Rat.divInt_neg', Int.natAbs_neg, Int.natAbs_natCast, Rat.divInt_ofNat]
    congr 1
    rw [decide_eq_true h1]
    simp only [sg]
    by_cases hn : n < 0 <;> simp [hn] <;> omega
  · exact absurd h1 h
  · obtain ⟨k, rfl⟩ : ∃ k : Nat, d = (k : Int) := ⟨d.natAbs, by omega⟩
    rw [Int.natAbs_natCast, Rat.divInt_ofNat]
    congr 1
    rw [decide_eq_false (by omega : ¬ (k : Int) < 0)]
    simp only [sg]
    by_cases hn : n < 0 <;> simp [hn] <;> omega
set_option maxRecDepth 100000 in
set_option maxHeartbeats 1000000 in
theorem new_any (n d : Int) (w : World) (h1 : -9223372036854775808 ≤ n) (h2 : n ≤ 9223372036854775807) (h3 : -9223372036854775808 ≤ d) (h4 : d ≤ 9223372036854775807) (h0 : d ≠ 0) :
    Calls Try.prog 17 #[.int .i64 n, .int .i64 d] w (RetQE ((n : Rat) / (d : Rat)) w) := by
  obtain ⟨w0, hw0, bw0, hlt0, hB0⟩ := boxed w #[.bool false, .slice none 0 0, .slice none 0 0] 25
  go_enter Try.func17, Try.ntmps17
  go_wp2_with fail
  refine (size_any n _ h1 h2).mono ?_
  rintro e w1 ⟨A, c, l, rfl, na, ia, la, b1⟩
  have ia' := Lib.hid ia
  clear ia
  go_wp2_with fail
  refine (size_any d _ h3 h4).mono ?_
  rintro e w2 ⟨A2, c2, l2, rfl, na2, ia2, la2, b2⟩
  have ia2' := Lib.hid ia2
  clear ia2
  go_wp2_with fail
  refine (make_any (na.below b2) na2 (by rw [ia2'.out.val]; omega) (by omega) (by omega)).mono ?_
  rintro e w3 ⟨v, rfl, ⟨n1, A1, c1, l1, B1, d1, m1, rfl, ma, mb, hQ⟩, b3⟩
  rw [ia'.out.val, ia2'.out.val, mk_div h0] at hQ
  have hQ' := Lib.hid hQ
  clear hQ
  have b12 := (b1.trans (b2.mono b1.size))
  have b12 := b12.trans (b3.mono b12.size)
  have hB3 := hB0.keep b12
  have bw3 := bw0.trans (b12.mono (Nat.le_of_lt hlt0))
  have y0 := hB3.f0
  have y1 := hB3.f1
  have y2 := hB3.f2
  have z0 := hB3.free 0
  have z1 := hB3.free 1
  have z2 := hB3.free 2
  go_wp2
  obtain ⟨w9, hw9, hB9, o9⟩ := hB3.set3 (.bool n1) (.slice A1 l1.length c1) (.slice B1 m1.length d1)
  rw [hw9]
  have e0 := hB9.f0
  have e1 := hB9.f1
  have e2 := hB9.f2
  refine bodyPost_ret (v := .tuple #[fracV n1 A1 l1.length c1 B1 m1.length d1, .int .i64 0]) (by simp [results, Try.results17, go_sem, e0, e1, e2]) rfl ?_
  have m1' := ma.only_blk hB3 (noDig3 _ _ _ _ _ _ _) o9
  have m2' := mb.only_blk hB3 (noDig3 _ _ _ _ _ _ _) o9
  exact ⟨_, rfl, ⟨n1, A1, c1, l1, B1, d1, m1, rfl, m1', m2', hQ'.out⟩, o9.to_below bw3 (Nat.le_refl _) bw3.size⟩
end Go.Proofs.Ytghpcimeobmonaa
/- fraction.Neg and Sign: what the calls do. -/
namespace Go.Proofs.Ytghpcimeobmonaa
set_option linter.unusedVariables false
set_option linter.unusedSimpArgs false
open Go.RowKit Plain
attribute [local go_sem ↓] Go.wp_at_zero Go.wp_at_succ

set_option maxRecDepth 100000 in
set_option maxHeartbeats 1000000 in
theorem neg_any {v : Value} {q : Rat} {k : Nat} {w : World} (hv : FV w v q) (hk : Fits k q) (hK : k ≤ 400000000) :
    Calls Try.prog 32 #[v] w (RetQ (-q) w) := by
  obtain ⟨neg, A, ca, la, B, cb, lb, rfl, na, nb, iq⟩ := hv
  have hf := QIs.fits iq hk
  have h0 := QIs.den_ne iq
  obtain ⟨r, hr⟩ : ∃ r, Hid (-q = r) := ⟨_, rfl⟩
  have iq' := Lib.hid iq
  clear iq
  obtain ⟨w0, hw0, bw0, hlt0, hB0⟩ := boxed w #[.bool neg, .slice A la.length ca, .slice B lb.length cb] 25
  obtain ⟨w1, hw1, bw1, hlt1, hB1⟩ := boxed w0 #[.bool false, .slice none 0 0, .slice none 0 0] 25
  have hA0 := hB0.keep bw1
  have x0 := hA0.f0
  have x1 := hA0.f1
  have x2 := hA0.f2
  have b01 := bw0.trans (bw1.mono (Nat.le_of_lt hlt0))
  rw [hr.out]
  go_enter Try.func32, Try.ntmps32
  go_wp2_with fail
  refine (made_any (na.below b01) (nb.below b01) h0 (by omega) (by omega)).mono ?_
  rintro e w3 ⟨v, rfl, ⟨n1, A1, c1, l1, B1, d1, m1, rfl, ma, mb, hQ⟩, b3⟩
  rw [q_neg iq'.out, hr.out] at hQ
  have hQ' := Lib.hid hQ
  clear hQ
  have hB3 := hB1.keep b3
  have bw3 := b01.trans (b3.mono (by omega))
  have y0 := hB3.f0
  have y1 := hB3.f1
  have y2 := hB3.f2
  have z0 := hB3.free 0
  have z1 := hB3.free 1
  have z2 := hB3.free 2
  go_wp2
  obtain ⟨w9, hw9, hB9, o9⟩ := hB3.set3 (.bool n1) (.slice A1 l1.length c1) (.slice B1 m1.length d1)
  rw [hw9]
  have e0 := hB9.f0
  have e1 := hB9.f1
  have e2 := hB9.f2
  refine bodyPost_ret (v := fracV n1 A1 l1.length c1 B1 m1.length d1) (by simp [results, Try.results32, go_sem, e0, e1, e2]) rfl ?_
  have m1' := ma.only_blk hB3 (noDig3 _ _ _ _ _ _ _) o9
  have m2' := mb.only_blk hB3 (noDig3 _ _ _ _ _ _ _) o9
  exact ⟨_, rfl, ⟨n1, A1, c1, l1, B1, d1, m1, rfl, m1', m2', hQ'.out⟩, o9.to_below bw3 (Nat.le_of_lt hlt0) bw3.size⟩
end Go.Proofs.Ytghpcimeobmonaa
