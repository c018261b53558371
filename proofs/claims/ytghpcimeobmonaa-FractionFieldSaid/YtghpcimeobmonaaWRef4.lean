/- The reference's shift, Mul, Uint: what the calls do. -/
import Derived.Test.YtghpcimeobmonaaWRef3
namespace Go.Proofs.Ytghpcimeobmonaa
set_option linter.unusedVariables false
set_option linter.unusedSimpArgs false
open Go.RowKit Plain

def RShInv (n : Nat) (w : World) (v i : Value) (wr : World) : Prop :=
  ∃ k : Nat, k ≤ n ∧ i = .int .i64 (k : Int) ∧ OwnD wr w.heap.size v (List.replicate k 0) ∧ Below w.heap.size w wr

theorem rep_len (k : Nat) : Hid ((List.replicate k 0 : List Nat).length = k) := List.length_replicate
theorem rep_snoc (k : Nat) : List.replicate k (0 : Nat) ++ [0] = List.replicate (k + 1) 0 := by rw [List.replicate_succ']
set_option maxRecDepth 100000 in
set_option maxHeartbeats 1000000 in
theorem refShift_any (A : Option Addr) (ca n : Nat) (la : List Nat) (w : World) (ha : Nv w A ca la) (hna : la.length ≤ 5000000000) (hn : n ≤ 5000000000) :
    Calls Try.prog 91 #[.slice A la.length ca, .int .i64 (n : Int)] w (RetNat (pw n * val la) (n + la.length) w) := by
  go_enter Try.func91, Try.ntmps91
  go_wp2
  go_loopw [5, 6] (fun v i wr => RShInv n w v i wr) (fun _ i _ => n - (intOf i).toNat)
  case atStart => exact ⟨0, by omega, rfl, OwnD.nil _ _, Below.refl _ _⟩
  case round =>
    obtain ⟨k, hk, rfl, hown, hbel⟩ := hrel
    have hlr := rep_len k
    by_cases hkn : k < n
    · have hcs : (#[Value.int .u32 0] : Array Value) = (u32s [0]).toArray := by simp [u32s]
      have hrd := (row_alloc wr hcs).rd
      clear hcs
      go_wp2_with (at_builtin; refine wpList_app _ rfl rfl _ _ rfl w.heap.size _ (List.replicate k 0) rfl (hown.alloc _) (some ⟨wr.heap.size, 0, none⟩) 1 1 [0] rfl hrd rfl ?_ ?_ ?_; (rw [hlr.out]; omega); (have := hbel.size; simp; omega); intro v' w2 hown2 hgrow2)
      go_roundw
      case rel => exact ⟨k + 1, by omega, rfl, hown2.eq (rep_snoc k), own_snoc hown hbel hown2 hgrow2⟩
      case measure => simp [intOf]; omega
    · obtain rfl : k = n := by omega
      have hA := ha.below hbel
      have hrd := hA.rd
      have hln := hA.len
      have hd := Lib.hid (show val (List.replicate k 0 ++ la) = pw k * val la by rw [val_append, val_replicate, hlr.out, Nat.zero_add])
      have hll := Lib.hid (show (List.replicate k 0 ++ la).length = k + la.length by rw [List.length_append, hlr.out])
      have hdg : Dig (List.replicate k 0 ++ la) := (Dig.replicate k).append ha.dig
      go_wp2_with (at_builtin; refine wpList_app _ rfl rfl _ _ rfl w.heap.size _ (List.replicate k 0) rfl hown A la.length ca la rfl hrd rfl ?_ ?_ ?_; (rw [hlr.out]; omega); (exact hbel.size); intro v' w2 hown2 hgrow2)
      have hbel2 := hown.grown_below hbel hgrow2 (Nat.le_refl _) hbel.size
      obtain ⟨A', c', rfl, hnv⟩ := hown2.nv hdg (by rw [hll.out]; omega)
      go_wp2_with fail
      refine (refTrim_any hnv (by rw [hll.out]; omega)).mono ?_
      rintro e w1 ⟨A1, c1, l1, rfl, h1, h2, h3, h4⟩
      go_wp2
      go_ret
      exact ⟨A1, c1, l1, rfl, h1, hd.out ▸ h2, by rw [hll.out] at h3; omega, hbel2.trans (h4.mono hbel2.size)⟩

def RMulInv (la lb : List Nat) (w : World) (v i : Value) (wr : World) : Prop :=
  ∃ (k c : Nat) (A : Option Addr) (l : List Nat), k ≤ lb.length ∧ i = .int .i64 (k : Int) ∧ v = .slice A l.length c ∧ Nv wr A c l ∧ Hid (NatIs l (val la * val (lb.take k))) ∧ l.length ≤ la.length + k ∧ Below w.heap.size w wr
theorem rmul_len {la lb l : List Nat} {k : Nat} (ha : Dig la) (hb : Dig lb) (h : NatIs l (val la * val (lb.take k))) : l.length ≤ la.length + k := by
  refine length_le_of_lt h.canon ?_
  rw [h.val, pw_add]
  exact Nat.mul_lt_mul_of_lt_of_lt (val_lt ha) (val_take_lt hb k)
set_option maxRecDepth 100000 in
set_option maxHeartbeats 1000000 in
theorem refMul_any (A B : Option Addr) (ca cb : Nat) (la lb : List Nat) (w : World) (ha : Nv w A ca la) (hb : Nv w B cb lb) (hna : la.length ≤ 500000000) (hnb : lb.length ≤ 500000000) :
    Calls Try.prog 74 #[.slice A la.length ca, .slice B lb.length cb] w (RetNat (val la * val lb) (la.length + lb.length) w) := by
  go_enter Try.func74, Try.ntmps74
  go_wp2
  go_loopw [5, 6] (fun v i wr => RMulInv la lb w v i wr) (fun _ i _ => lb.length - (intOf i).toNat)
  case atStart => exact ⟨0, 0, none, [], by omega, rfl, rfl, nv_nil' _, by rw [List.take_zero]; exact NatIs.nil, by simp, Below.refl _ _⟩
  case round =>
    obtain ⟨k, c, Ao, l, hk, rfl, rfl, hl, hnat, hlen, hbel⟩ := hrel
    by_cases hkn : k < lb.length
    · have hA := ha.below hbel
      obtain ⟨a, d, rfl, hab, hac, hda, hga⟩ := (hb.below hbel).at (k := k) hkn
      go_wp2_with fail
      refine (refScale_any _ _ d _ _ hA (by omega) hda).mono ?_
      rintro e w1 ⟨A1, c1, l1, rfl, n1, i1, h1, b1⟩
      have i1' := Lib.hid i1
      clear i1
      go_wp2_with fail
      refine (refShift_any _ _ k _ _ n1 (by omega) (by omega)).mono ?_
      rintro e w2 ⟨A2, c2, l2, rfl, n2, i2, h2, b2⟩
      have i2' := Lib.hid i2
      clear i2
      have b02 := hbel.trans ((b1.trans (b2.mono b1.size)).mono hbel.size)
      go_wp2_with fail
      refine (refAdd_any _ _ _ _ _ _ _ ((hl.below b1).below b2) n2 (by omega) (by omega)).mono ?_
      rintro e w3 ⟨A3, c3, l3, rfl, n3, i3, h3, b3⟩
      have i3' := Lib.hid (show NatIs l3 (val la * val (lb.take (k + 1))) by
        have h := i3
        rw [hnat.out.val, i2'.out.val, i1'.out.val, ← hga.out, Nat.mul_left_comm, ← Nat.mul_add, ← val_take_succ] at h
        exact h)
      clear i3 h3
      go_wp2
      go_roundw
      case rel => exact ⟨k + 1, c3, A3, l3, by omega, rfl, rfl, n3, i3', rmul_len ha.dig hb.dig i3'.out, b02.trans (b3.mono b02.size)⟩
      case measure => simp [intOf]; omega
    · obtain rfl : k = lb.length := by omega
      go_wp2
      go_ret
      exact ⟨Ao, c, l, rfl, hl, by have h := hnat.out; rw [List.take_length] at h; exact h, hlen, hbel⟩

def RUInv (l : List Nat) (v i : Value) : Prop := ∃ k x : Nat, k ≤ l.length ∧ v = .int .u64 (x : Int) ∧ i = .int .i64 ((k : Int) - 1) ∧ Hid (val (l.drop k) = x)
theorem ru_small {l : List Nat} {k x : Nat} (hd : Dig l) (hl : l.length ≤ 2) (hk : 0 < k) (h : Hid (val (l.drop k) = x)) : x < 4294967296 := by
  have h1 := val_lt (hd.drop k)
  rw [h.out] at h1
  have h2 : pw (l.drop k).length ≤ pw 1 := pw_mono (by rw [List.length_drop]; omega)
  rw [pw_one] at h2
  omega
set_option maxRecDepth 100000 in
set_option maxHeartbeats 1000000 in
theorem refUint_any {A : Option Addr} {c : Nat} {l : List Nat} {w : World} (h : Nv w A c l) (hc : Canon l) :
    Calls Try.prog 67 #[.slice A l.length c] w fun e w' => e = .returned (.tuple #[.int .u64 ((uintOf (val l) : Nat) : Int), .bool (isUint (val l))]) ∧ w = w' := by
  have hb := h.big
  by_cases h2 : l.length ≤ 2
  · have hu := uint_small h.dig h2
    have hu1 := Lib.hid hu.1
    have hu2 := Lib.hid hu.2
    clear hu
    have hd2 : decide (2 < l.length) = false := decide_eq_false (by omega)
    go_enter Try.func67, Try.ntmps67
    go_wp2
    go_loop [4, 5] (fun v i => RUInv l v i) (fun _ i => (intOf i + 1).toNat)
    case atStart => exact ⟨l.length, 0, Nat.le_refl _, rfl, rfl, by show _ = _; rw [List.drop_length]; rfl⟩
    case round =>
      obtain ⟨k, x, hk, rfl, rfl, hx⟩ := hrel
      rcases k with _ | j
      · have hz : decide ((0 : Int) ≤ ((0 : Nat) : Int) - 1) = false := by decide
        go_wp2
        go_ret2
        refine ⟨?_, rfl⟩
        rw [hu1.out, hu2.out, ← hx.out]; rfl
      · have hx1 := ru_small h.dig h2 (Nat.succ_pos j) hx
        obtain ⟨a, d, rfl, hab, hac, hda, hga⟩ := h.at (k := j) (by omega)
        have hj : ((j + 1 : Nat) : Int) - 1 = (j : Int) := by omega
        have hz : decide ((0 : Int) ≤ (j : Int)) = true := decide_eq_true (by omega)
        have hw1 : IntKind.u64.wrap ((x : Int) * 4294967296) = ((4294967296 * x : Nat) : Int) := by rw [wrap_u64]; omega
        have hw2 : IntKind.u64.wrap (((4294967296 * x : Nat) : Int) + (d : Int)) = ((4294967296 * x + d : Nat) : Int) := by rw [wrap_u64]; omega
        have hn := Lib.hid (show val (l.drop j) = 4294967296 * x + d by rw [val_drop l j (by omega), hga.out, hx.out]; omega)
        rw [hj]
        go_wp2
        go_round
        case rel => exact ⟨j, _, by omega, rfl, rfl, hn⟩
        case measure => simp [intOf]
  · have hu := uint_big hc (by omega)
    have hu1 := Lib.hid hu.1
    have hu2 := Lib.hid hu.2
    clear hu
    have hd2 : decide (2 < l.length) = true := decide_eq_true (by omega)
    go_enter Try.func67, Try.ntmps67
    go_wp2
    go_ret2
    refine ⟨?_, rfl⟩
    rw [hu1.out, hu2.out]; rfl
end Go.Proofs.Ytghpcimeobmonaa
