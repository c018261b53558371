/- Reading numbers: the readers' Uint, Int, Text: what the calls do. -/
import Derived.Test.YtkbibdbojdbfkaaVRdr
namespace Go.Proofs.Ytkbibdbojdbfkaa
set_option linter.unusedVariables false
set_option linter.unusedSimpArgs false
open Go.RowKit Plain

/-- What Uint returns, and the error behind it. -/
def uiE (most : Nat) (l : List Nat) (e : Int) : Int := if e = 0 then (if (rdU l).1 ≠ 0 then ((rdU l).1 : Int) else if most < (rdU l).2.1 then 4 else 0) else e
def uiV (most : Nat) (l : List Nat) (e : Int) : Nat := if uiE most l e = 0 then (rdU l).2.1 else 0
def uiL (l : List Nat) : List Nat := l.drop (rdU l).2.2
def RetU (t : TypeId) (g most : Nat) (l : List Nat) (e : Int) (w : World) (en : Ending) (w' : World) : Prop :=
  en = .returned (.int .u64 (uiV most l e : Nat)) ∧ (∃ l', Rdr t w' g l' (uiE most l e) ∧ (uiE most l e = 0 → l' = uiL l)) ∧ Only w w' g
theorem ru_no {t : TypeId} {g most : Nat} {l l' : List Nat} {e : Int} {w w' : World} (he : uiE most l e ≠ 0) (h1 : Rdr t w' g l' (uiE most l e)) (h2 : Only w w' g) (en : Ending) (hen : en = .returned (.int .u64 0)) : RetU t g most l e w en w' :=
  ⟨by rw [hen]; unfold uiV; rw [if_neg he]; rfl, ⟨l', h1, fun h => absurd h he⟩, h2⟩
theorem ru_err {t : TypeId} {g most n k : Nat} {l : List Nat} {w w' : World} {x : Nat} (hR : rdU l = (n, x, k)) (hn : n ≠ 0) (h1 : Rdr t w' g l (n : Int)) (h2 : Only w w' g) (en : Ending) (hen : en = .returned (.int .u64 0)) : RetU t g most l 0 w en w' := by
  have he : uiE most l 0 = (n : Int) := by unfold uiE; rw [if_pos rfl, hR]; exact if_pos hn
  exact ru_no (by rw [he]; omega) (he ▸ h1) h2 en hen
theorem ru_range {t : TypeId} {g most x k : Nat} {l l' : List Nat} {w w' : World} (hR : rdU l = (0, x, k)) (hx : most < x) (h1 : Rdr t w' g l' 4) (h2 : Only w w' g) (en : Ending) (hen : en = .returned (.int .u64 0)) : RetU t g most l 0 w en w' := by
  have he : uiE most l 0 = 4 := by unfold uiE; rw [if_pos rfl, hR, if_neg (by simp)]; exact if_pos hx
  exact ru_no (by rw [he]; decide) (he ▸ h1) h2 en hen
theorem ru_ok {t : TypeId} {g most x k : Nat} {l l' : List Nat} {w w' : World} (hR : rdU l = (0, x, k)) (hx : ¬ most < x) (h1 : Rdr t w' g l' 0) (hl : l' = l.drop k) (h2 : Only w w' g) (en : Ending) (hen : en = .returned (.int .u64 (x : Int))) : RetU t g most l 0 w en w' := by
  have he : uiE most l 0 = 0 := by unfold uiE; rw [if_pos rfl, hR, if_neg (by simp)]; exact if_neg hx
  exact ⟨by rw [hen]; unfold uiV; rw [if_pos he, hR], ⟨l', he.symm ▸ h1, fun _ => by unfold uiL; rw [hR]; exact hl⟩, h2⟩
theorem and127 (b : Nat) (hb : b < 256) : bits .and .u8 (b : Int) 127 = ((b % 128 : Nat) : Int) := by
  rw [u8_and b 127 (by omega) (by omega) (by omega) (by omega)]
  congr 1
  exact Nat.and_two_pow_sub_one_eq_mod b 7
theorem orsh (y c i : Nat) (hy : y < 2 ^ (7 * i)) (hi : i ≤ 9) (hc : y + c * 2 ^ (7 * i) < 18446744073709551616) : bits .or .u64 (y : Int) ((c * 2 ^ (7 * i) : Nat) : Int) = ((y + c * 2 ^ (7 * i) : Nat) : Int) := by
  have hp := pow7_le hi
  rw [u64_or_nat y (c * 2 ^ (7 * i)) (by omega) (by omega)]
  congr 1
  rw [Nat.or_comm, nat_join (7 * i) _ y (by simp) hy, Nat.add_comm]
theorem shl7 (c i : Nat) (hi : i ≤ 9) (hc : c * 2 ^ (7 * i) < 18446744073709551616) : IntKind.u64.wrap ((c : Int) * 2 ^ (7 * i)) = ((c * 2 ^ (7 * i) : Nat) : Int) := by
  rw [wrap_u64]
  have : (c : Int) * 2 ^ (7 * i) = ((c * 2 ^ (7 * i) : Nat) : Int) := by simp
  rw [this]
  omega
theorem bytes_extract (s : ByteArray) (a b : Nat) : bytes (s.extract a b) = ((bytes s).take b).drop a := by
  unfold bytes
  rw [ByteArray.data_extract, Array.toList_extract, List.extract_eq_take_drop]
  simp [List.map_drop, List.map_take, List.drop_take]
theorem orW (y b i : Nat) (hy : y < 2 ^ (7 * i)) (hi : i ≤ 9) (hc : b % 128 * 2 ^ (7 * i) + y < 18446744073709551616) :
    bits .or .u64 (y : Int) (IntKind.u64.wrap ((b : Int) % 128 * 2 ^ (7 * i))) = ((y + b % 128 * 2 ^ (7 * i) : Nat) : Int) := by
  have e : (b : Int) % 128 = ((b % 128 : Nat) : Int) := by omega
  rw [e, shl7 (b % 128) i hi (by omega), orsh y _ i hy hi (by omega)]
theorem or_bd {y b i : Nat} (hy : y < 2 ^ (7 * i)) (hi : i ≤ 9) (hb : i = 9 → b ≤ 1) : b % 128 * 2 ^ (7 * i) + y < 18446744073709551616 := by
  have hp := pow7_le hi
  by_cases h9 : i = 9
  · have h1 := hb h9
    have := Nat.mul_le_mul_right (2 ^ (7 * i)) (show b % 128 ≤ 1 by omega)
    omega
  · have h4 := Nat.mul_le_mul_right (2 ^ (7 * i)) (show b % 128 ≤ 127 by omega)
    have h5 := pow7_le (i := i + 1) (by omega)
    rw [pow7] at h5
    omega
def WuInv (l : List Nat) (R : Nat × Nat × Nat) (x i : Value) : Prop :=
  ∃ k y : Nat, k ≤ 9 ∧ k ≤ l.length ∧ i = .int .i64 (k : Int) ∧ x = .int .u64 (y : Int) ∧ Hid (y < 2 ^ (7 * k)) ∧ Hid (rdF l (10 - k) k y = R)

set_option maxRecDepth 100000 in
set_option maxHeartbeats 1000000 in
theorem readUint_any {w : World} {g : Nat} {l : List Nat} {e : Int} (most : Nat) (hm : most < 18446744073709551616) (h : Rdr 77 w g l e) :
    Calls Try.prog 22 #[.pointer (some ⟨g, 0, none⟩), .int .u64 (most : Int)] w (RetU 77 g most l e w) := by
  obtain ⟨s, hs, hsz, hsl, c0, c1, f0, f1⟩ := h.open
  by_cases h0 : e = 0
  · subst h0
    have he : okE 0 = true := rfl
    go_enter Try.func22, Try.ntmps22
    go_wp2_with (go_at_call 68; refine (ok_any h).mono ?_; rintro e w1 ⟨rfl, rfl⟩; rw [he])
    go_loopw [5, 6] (fun x i wr => WuInv l (rdU l) x i ∧ wr = w) (fun _ i _ => 9 - (intOf i).toNat)
    case atStart => exact ⟨⟨0, 0, by omega, by omega, rfl, rfl, by show _ < _; decide, rfl⟩, rfl⟩
    case round =>
      obtain ⟨⟨k, y, hk, hkl, rfl, rfl, hy, hR⟩, rfl⟩ := hrel
      by_cases hlen : k = s.size
      · have hR1 := Lib.hid (show rdU l = (1, 0, 0) by
          rw [← hR.out, show 10 - k = 9 - k + 1 by omega, rdF_short (by have := hsl.out; omega)])
        have hd : ((k : Int) == (s.size : Int)) = true := by rw [beq_iff_eq]; omega
        clear hlen
        go_wp2_with fail
        refine (fail_any 1 h).mono ?_
        rintro e w1 ⟨rfl, h1, o1⟩
        go_wp2
        go_ret
        exact ru_err hR1.out (by decide) h1 o1 _ rfl
      · have hlt : k < s.size := by have := hsl.out; omega
        have hlt' : k < l.length := by rw [← hsl.out]; exact hlt
        have hR2 := Lib.hid (show rdF l (9 - k + 1) k y = rdU l by rw [← hR.out]; congr 1; omega)
        obtain ⟨b, hb⟩ : ∃ b : Nat, (s[k]).toNat = b := ⟨_, rfl⟩
        have hb256 : b < 256 := by rw [← hb]; exact UInt8.toNat_lt _
        have hbl := Lib.hid (show l.getD k 0 = b by rw [← hs.out, bytes_get s k hlt, hb])
        have hd : ((k : Int) == (s.size : Int)) = false := by rw [beq_eq_false_iff_ne]; omega
        clear hlen
        by_cases hbad : (k = 9 ∧ 1 < b) ∨ (0 < k ∧ b = 0)
        · have hR3 := Lib.hid (show rdU l = (2, 0, 0) by rw [← hR2.out, rdF_form hlt' (by rw [hbl.out]; exact hbad)])
          by_cases h9 : k = 9
          · by_cases hb1 : 1 < b
            · have h9d : ((k : Int) == 9) = true := by rw [beq_iff_eq]; omega
              have h1d : decide ((1 : Int) < (b : Int)) = true := decide_eq_true (by omega)
              clear h9 hbad
              go_wp2_with fail
              refine (fail_any 2 h).mono ?_
              rintro e w1 ⟨rfl, h1, o1⟩
              go_wp2
              go_ret
              exact ru_err hR3.out (by decide) h1 o1 _ rfl
            · have h9d : ((k : Int) == 9) = true := by rw [beq_iff_eq]; omega
              have h1d : decide ((1 : Int) < (b : Int)) = false := decide_eq_false (by omega)
              have h0d : ((b : Int) == 0) = true := by rw [beq_iff_eq]; omega
              have hkd : decide ((0 : Int) < (k : Int)) = true := decide_eq_true (by omega)
              have hkd2 : decide (0 < k) = true := decide_eq_true (by omega)
              have h128 : decide ((128 : Int) ≤ (b : Int)) = false := decide_eq_false (by omega)
              clear h9 hbad
              go_wp2_with fail
              refine (fail_any 2 h).mono ?_
              rintro e w1 ⟨rfl, h1, o1⟩
              go_wp2
              go_ret
              exact ru_err hR3.out (by decide) h1 o1 _ rfl
          · have h9d : ((k : Int) == 9) = false := by rw [beq_eq_false_iff_ne]; omega
            have h0d : ((b : Int) == 0) = true := by rw [beq_iff_eq]; omega
            have hkd : decide ((0 : Int) < (k : Int)) = true := decide_eq_true (by omega)
            have hkd2 : decide (0 < k) = true := decide_eq_true (by omega)
            have h128 : decide ((128 : Int) ≤ (b : Int)) = false := decide_eq_false (by omega)
            clear h9 hbad
            go_wp2_with fail
            refine (fail_any 2 h).mono ?_
            rintro e w1 ⟨rfl, h1, o1⟩
            go_wp2
            go_ret
            exact ru_err hR3.out (by decide) h1 o1 _ rfl
        · have hand := and127 b hb256
          by_cases h128 : 128 ≤ b
          · have hR3 := Lib.hid (show rdF l (10 - (k + 1)) (k + 1) (y + b % 128 * 2 ^ (7 * k)) = rdU l by
              rw [← hR2.out, rdF_next hlt' (by rw [hbl.out]; exact hbad) (by rw [hbl.out]; omega), hbl.out]
              congr 1; omega)
            have hk8 : k ≤ 8 := by omega
            have h9d : ((k : Int) == 9) = false := by rw [beq_eq_false_iff_ne]; omega
            have h128d : decide ((128 : Int) ≤ (b : Int)) = true := decide_eq_true (by omega)
            have hor := orW y b k hy.out hk (or_bd hy.out hk (fun e => by omega))
            have hy2 := Lib.hid (show y + b % 128 * 2 ^ (7 * k) < 2 ^ (7 * (k + 1)) by
              rw [pow7]
              have h4 := Nat.mul_le_mul_right (2 ^ (7 * k)) (show b % 128 ≤ 127 by omega)
              have := hy.out
              omega)
            obtain ⟨z, hz⟩ : ∃ z, y + b % 128 * 2 ^ (7 * k) = z := ⟨_, rfl⟩
            rw [hz] at hor hR3 hy2
            clear hbad hz
            go_wp2
            go_roundw
            case rel => exact ⟨⟨k + 1, z, by omega, by omega, by go_num, rfl, hy2.out, hR3.out⟩, trivial⟩
            case measure => simp [intOf]; omega
          · have hb128 : b < 128 := by omega
            have hR3 := Lib.hid (show rdU l = (0, y + b % 128 * 2 ^ (7 * k), k + 1) by
              rw [← hR2.out, rdF_end hlt' (by rw [hbl.out]; exact hbad) (by rw [hbl.out]; omega), hbl.out, Nat.mod_eq_of_lt hb128])
            have hor := orW y b k hy.out hk (or_bd hy.out hk (fun e => by omega))
            have hzb := or_bd hy.out hk (show k = 9 → b ≤ 1 from fun e => by omega)
            rw [Nat.add_comm] at hzb
            obtain ⟨z, hz⟩ : ∃ z, y + b % 128 * 2 ^ (7 * k) = z := ⟨_, rfl⟩
            rw [hz] at hor hR3 hzb
            have h128d : decide ((128 : Int) ≤ (b : Int)) = false := decide_eq_false (by omega)
            have hex : s.extract (k + 1) s.size = s.extract (k + 1) s.size := rfl
            have hset := h.set0 (s.extract (k + 1) s.size) (by rw [ByteArray.size_extract]; omega)
            have hle := Lib.hid (show bytes (s.extract (k + 1) s.size) = l.drop (k + 1) by
              rw [bytes_extract, hs.out, List.take_of_length_le (by rw [← hsl.out]; exact Nat.le_refl _)])
            rw [hle.out] at hset
            have honly := (Only.refl wr g).set 0 (.string (s.extract (k + 1) s.size))
            have hgood : k = 9 → b ≤ 1 := fun e => by omega
            have hgood2 : b = 0 → k = 0 := fun e => by omega
            clear hbad hz hex
            by_cases hrg : most < z
            all_goals
              by_cases h9 : k = 9
              all_goals
                by_cases h0 : b = 0
                all_goals
                  have h9d : ((k : Int) == 9) = decide (k = 9) := by rw [Bool.eq_iff_iff, beq_iff_eq, decide_eq_true_eq]; omega
                  have h0d : ((b : Int) == 0) = decide (b = 0) := by rw [Bool.eq_iff_iff, beq_iff_eq, decide_eq_true_eq]; omega
                  first | rw [decide_eq_true h9] at h9d | rw [decide_eq_false h9] at h9d
                  first | rw [decide_eq_true h0] at h0d | rw [decide_eq_false h0] at h0d
                  first
                    | (have e := hgood2 h0; have hkd : decide ((0 : Int) < (k : Int)) = false := decide_eq_false (by omega); have hkd2 : decide (0 < k) = false := decide_eq_false (by omega); clear e)
                    | skip
                  first
                    | (have e := hgood h9; have h1d : decide ((1 : Int) < (b : Int)) = false := decide_eq_false (by omega); clear e)
                    | skip
                  clear h9 h0 hgood hgood2
            all_goals
              have hrg' := Lib.hid hrg
              first
                | (have hrd : decide (most < z) = true := decide_eq_true hrg
                   clear hrg
                   go_wp2_with fail
                   refine (fail_any 4 h).mono ?_
                   rintro e w1 ⟨rfl, h1, o1⟩
                   go_wp2
                   go_ret
                   exact ru_range hR3.out hrg'.out h1 o1 _ rfl)
                | (have hrd : decide (most < z) = false := decide_eq_false hrg
                   clear hrg
                   go_wp2
                   go_ret
                   exact ru_ok hR3.out hrg'.out hset rfl honly _ rfl)
  · have he : okE e = false := decide_eq_false h0
    have hv := Lib.hid (show uiE most l e = e by unfold uiE; rw [if_neg h0])
    have h0' := Lib.hid h0
    clear h0
    go_enter Try.func22, Try.ntmps22
    go_wp2_with (go_at_call 68; refine (ok_any h).mono ?_; rintro e w1 ⟨rfl, rfl⟩; rw [he])
    go_ret
    exact ru_no (by rw [hv.out]; exact h0'.out) (hv.out.symm ▸ h) (Only.refl w g) _ rfl

theorem addW (y b i : Nat) (hi : i ≤ 9) (hc : b % 128 * 2 ^ (7 * i) + y < 18446744073709551616) :
    IntKind.u64.wrap ((y : Int) + IntKind.u64.wrap ((b : Int) % 128 * 2 ^ (7 * i))) = ((y + b % 128 * 2 ^ (7 * i) : Nat) : Int) := by
  have e : (b : Int) % 128 = ((b % 128 : Nat) : Int) := by omega
  rw [e, shl7 (b % 128) i hi (by omega), wrap_u64]
  omega
set_option maxRecDepth 100000 in
set_option maxHeartbeats 1000000 in
theorem refReadUint_any {w : World} {g : Nat} {l : List Nat} {e : Int} (most : Nat) (hm : most < 18446744073709551616) (h : Rdr 91 w g l e) :
    Calls Try.prog 84 #[.pointer (some ⟨g, 0, none⟩), .int .u64 (most : Int)] w (RetU 91 g most l e w) := by
  obtain ⟨s, hs, hsz, hsl, c0, c1, f0, f1⟩ := h.open
  by_cases h0 : e = 0
  · subst h0
    go_enter Try.func84, Try.ntmps84
    go_wp2
    go_loopw [5, 6] (fun x i wr => WuInv l (rdU l) x i ∧ wr = w) (fun _ i _ => 9 - (intOf i).toNat)
    case atStart => exact ⟨⟨0, 0, by omega, by omega, rfl, rfl, by show _ < _; decide, rfl⟩, rfl⟩
    case round =>
      obtain ⟨⟨k, y, hk, hkl, rfl, rfl, hy, hR⟩, rfl⟩ := hrel
      have hk10 : k < 10 := by omega
      by_cases hlen : k = s.size
      · have hR1 := Lib.hid (show rdU l = (1, 0, 0) by
          rw [← hR.out, show 10 - k = 9 - k + 1 by omega, rdF_short (by have := hsl.out; omega)])
        have hd : decide (s.size ≤ k) = true := decide_eq_true (by omega)
        clear hlen
        go_wp2
        go_ret
        exact ru_err hR1.out (by decide) (h.set1 1) ((Only.refl _ g).set _ _) _ rfl
      · have hlt : k < s.size := by have := hsl.out; omega
        have hlt' : k < l.length := by rw [← hsl.out]; exact hlt
        have hR2 := Lib.hid (show rdF l (9 - k + 1) k y = rdU l by rw [← hR.out]; congr 1; omega)
        obtain ⟨b, hb⟩ : ∃ b : Nat, (s[k]).toNat = b := ⟨_, rfl⟩
        have hb256 : b < 256 := by rw [← hb]; exact UInt8.toNat_lt _
        have hbl := Lib.hid (show l.getD k 0 = b by rw [← hs.out, bytes_get s k hlt, hb])
        have hd : decide (s.size ≤ k) = false := decide_eq_false (by omega)
        clear hlen
        have h9d : ((k : Int) == 9) = decide (k = 9) := by rw [Bool.eq_iff_iff, beq_iff_eq, decide_eq_true_eq]; omega
        have h0d : ((b : Int) == 0) = decide (b = 0) := by rw [Bool.eq_iff_iff, beq_iff_eq, decide_eq_true_eq]; omega
        have h1d : decide ((1 : Int) < (b : Int)) = decide (1 < b) := by rw [Bool.eq_iff_iff, decide_eq_true_eq, decide_eq_true_eq]; omega
        have hkd : decide ((0 : Int) < (k : Int)) = decide (0 < k) := by rw [Bool.eq_iff_iff, decide_eq_true_eq, decide_eq_true_eq]; omega
        by_cases hbad : (k = 9 ∧ 1 < b) ∨ (0 < k ∧ b = 0)
        · have hR3 := Lib.hid (show rdU l = (2, 0, 0) by rw [← hR2.out, rdF_form hlt' (by rw [hbl.out]; exact hbad)])
          by_cases h9 : k = 9
          · by_cases hb1 : 1 < b
            · rw [decide_eq_true h9] at h9d
              rw [decide_eq_true hb1] at h1d
              clear h9 hbad h0d hkd
              go_wp2
              go_ret
              exact ru_err hR3.out (by decide) (h.set1 2) ((Only.refl _ g).set _ _) _ rfl
            · rw [decide_eq_true h9] at h9d
              rw [decide_eq_false hb1] at h1d
              rw [decide_eq_true (show b = 0 by omega)] at h0d
              rw [decide_eq_true (show 0 < k by omega)] at hkd
              have hkd2 : decide (0 < k) = true := decide_eq_true (by omega)
              clear h9 hbad
              go_wp2
              go_ret
              exact ru_err hR3.out (by decide) (h.set1 2) ((Only.refl _ g).set _ _) _ rfl
          · rw [decide_eq_false h9] at h9d
            rw [decide_eq_true (show b = 0 by omega)] at h0d
            rw [decide_eq_true (show 0 < k by omega)] at hkd
            have hkd2 : decide (0 < k) = true := decide_eq_true (by omega)
            clear h9 hbad h1d
            go_wp2
            go_ret
            exact ru_err hR3.out (by decide) (h.set1 2) ((Only.refl _ g).set _ _) _ rfl
        · by_cases h128 : 128 ≤ b
          · have hR3 := Lib.hid (show rdF l (10 - (k + 1)) (k + 1) (y + b % 128 * 2 ^ (7 * k)) = rdU l by
              rw [← hR2.out, rdF_next hlt' (by rw [hbl.out]; exact hbad) (by rw [hbl.out]; omega), hbl.out]
              congr 1; omega)
            have hk8 : k ≤ 8 := by omega
            rw [decide_eq_false (show ¬ k = 9 by omega)] at h9d
            rw [decide_eq_false (show ¬ b = 0 by omega)] at h0d
            have h128d : decide ((b : Int) < 128) = false := decide_eq_false (by omega)
            have hor := addW y b k hk (or_bd hy.out hk (fun e => by omega))
            have hy2 := Lib.hid (show y + b % 128 * 2 ^ (7 * k) < 2 ^ (7 * (k + 1)) by
              rw [pow7]
              have h4 := Nat.mul_le_mul_right (2 ^ (7 * k)) (show b % 128 ≤ 127 by omega)
              have := hy.out
              omega)
            obtain ⟨z, hz⟩ : ∃ z, y + b % 128 * 2 ^ (7 * k) = z := ⟨_, rfl⟩
            rw [hz] at hor hR3 hy2
            clear hbad hz h1d
            by_cases hk0 : 0 < k
            all_goals
              first | (have hkd2 : decide (0 < k) = true := decide_eq_true hk0; rw [hkd2] at hkd) | (have hkd2 : decide (0 < k) = false := decide_eq_false hk0; rw [hkd2] at hkd)
              clear hk0
              go_wp2
              go_roundw
              case rel => exact ⟨⟨k + 1, z, by omega, by omega, by go_num, rfl, hy2.out, hR3.out⟩, trivial⟩
              case measure => simp [intOf]; omega
          · have hb128 : b < 128 := by omega
            have hR3 := Lib.hid (show rdU l = (0, y + b % 128 * 2 ^ (7 * k), k + 1) by
              rw [← hR2.out, rdF_end hlt' (by rw [hbl.out]; exact hbad) (by rw [hbl.out]; omega), hbl.out, Nat.mod_eq_of_lt hb128])
            have hor := addW y b k hk (or_bd hy.out hk (fun e => by omega))
            have hzb := or_bd hy.out hk (show k = 9 → b ≤ 1 from fun e => by omega)
            rw [Nat.add_comm] at hzb
            obtain ⟨z, hz⟩ : ∃ z, y + b % 128 * 2 ^ (7 * k) = z := ⟨_, rfl⟩
            rw [hz] at hor hR3 hzb
            have h128d : decide ((b : Int) < 128) = true := decide_eq_true (by omega)
            have hset := h.set0 (s.extract (k + 1) s.size) (by rw [ByteArray.size_extract]; omega)
            have hle := Lib.hid (show bytes (s.extract (k + 1) s.size) = l.drop (k + 1) by
              rw [bytes_extract, hs.out, List.take_of_length_le (by rw [← hsl.out]; exact Nat.le_refl _)])
            rw [hle.out] at hset
            have honly := (Only.refl wr g).set 0 (.string (s.extract (k + 1) s.size))
            have hset2 := hset.set1 4
            have honly2 := honly.set 1 (.int .i64 4)
            have hgood : k = 9 → ¬ 1 < b := fun e => by omega
            have hgood2 : 0 < k → ¬ b = 0 := fun e => by omega
            clear hbad hz
            by_cases hrg : most < z
            all_goals
              by_cases h9 : k = 9
              all_goals
                by_cases h0 : 0 < k
                all_goals
                  first
                    | (exfalso; omega)
                    | (first
                        | (rw [decide_eq_true h9] at h9d; rw [decide_eq_false (hgood h9)] at h1d)
                        | (rw [decide_eq_false h9] at h9d; clear h1d)
                       first
                        | (have hkd2 : decide (0 < k) = true := decide_eq_true h0; rw [hkd2] at hkd; rw [decide_eq_false (hgood2 h0)] at h0d)
                        | (have hkd2 : decide (0 < k) = false := decide_eq_false h0; rw [hkd2] at hkd; clear h0d)
                       clear h9 h0 hgood hgood2)
            all_goals
              have hrg' := Lib.hid hrg
              first
                | (have hrd : decide (most < z) = true := decide_eq_true hrg
                   clear hrg
                   go_wp2
                   go_ret
                   exact ru_range hR3.out hrg'.out hset2 honly2 _ rfl)
                | (have hrd : decide (most < z) = false := decide_eq_false hrg
                   clear hrg
                   go_wp2
                   go_ret
                   exact ru_ok hR3.out hrg'.out hset rfl honly _ rfl)
  · have he : (e != 0) = true := by rw [bne_iff_ne]; exact h0
    have hv := Lib.hid (show uiE most l e = e by unfold uiE; rw [if_neg h0])
    have h0' := Lib.hid h0
    clear h0
    go_enter Try.func84, Try.ntmps84
    go_wp2
    go_ret
    exact ru_no (by rw [hv.out]; exact h0'.out) (hv.out.symm ▸ h) (Only.refl w g) _ rfl
end Go.Proofs.Ytkbibdbojdbfkaa
