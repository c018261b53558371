/- The reference's Bit, Bits, high: what the calls do. -/
import Derived.Test.YtkjmliebkbbogaaWRef4
import Derived.Test.YtkjmliebkbbogaaPLp
import Derived.Test.YtkjmliebkbbogaaWGcd
namespace Go.Proofs.Ytkjmliebkbbogaa
set_option linter.unusedVariables false
set_option linter.unusedSimpArgs false
open Go.RowKit Plain

theorem below_drewN' (w : World) (n : Nat) : Below w.heap.size w (w.drewN n) := ⟨rfl, rfl, rfl, Nat.le_refl _, fun _ _ => rfl⟩
theorem pow_lt_31 {r : Nat} (h : r < 32) : (2 : Nat) ^ r < 4294967296 := Nat.lt_of_lt_of_le (Nat.pow_lt_pow_right (by omega) h) (by decide)
set_option maxRecDepth 100000 in
set_option maxHeartbeats 400000 in
theorem refBit_any {A : Option Addr} {c i : Nat} {l : List Nat} {w : World} (h : Nv w A c l) (hi : i ≤ 1000000000000) :
    Calls Try.prog 89 #[.slice A l.length c, .int .i64 (i : Int)] w fun e w' => e = .returned (.int .u64 ((val l / 2 ^ i % 2 : Nat) : Int)) ∧ ∃ n, w' = w.drewN n := by
  have hm := Lib.hid (bit_math h.dig i)
  obtain ⟨d, hd⟩ : ∃ d, Hid (l.getD (i / 32) 0 = d) := ⟨_, rfl⟩
  have h3 := Lib.hid (pow_lt_31 (Nat.mod_lt i (show 0 < 32 by omega)))
  have hdd : d < 4294967296 := hd.out ▸ h.dig.getD _
  obtain ⟨p, hp, hp1, hp2⟩ : ∃ p : Nat, Hid (2 ^ (i % 32) = p) ∧ 1 ≤ p ∧ p < 4294967296 := ⟨_, rfl, Nat.one_le_two_pow, h3.out⟩
  have ht : ((i : Int) % 32).toNat = i % 32 := by omega
  have hpi : ((2 : Int) ^ (i % 32)) = (p : Int) := by rw [← hp.out]; simp
  have hw : IntKind.u64.wrap (p : Int) = (p : Int) := by rw [wrap_u64]; omega
  obtain ⟨x, hx, hxx⟩ : ∃ x : Nat, Hid (d / p = x) ∧ IntKind.u64.wrap ((d : Int) / (p : Int)) = (x : Int) := ⟨d / p, rfl, by
    have h1 : d / p ≤ d := Nat.div_le_self _ _
    rw [wrap_u64, ← Int.natCast_ediv]
    generalize d / p = x at *
    omega⟩
  go_enter Try.func89, Try.ntmps89
  go_wp2
  go_quiet ((go_at_call 77; refine Calls.quiet_of_same ((refDigit_at (i := i / 32) (h.below (below_drewN' _ _)) ((i : Int) / 32) (by omega) (by omega) hd).mono fun _ _ hh => ⟨hh.1, hh.2.symm⟩)))
  go_wp2
  go_ret
  refine ⟨?_, _, rfl⟩
  rw [← hm.out, hd.out, hp.out, hx.out]
  rfl

def RBtInv (l : List Nat) (w : World) (v : Value) (wr : World) : Prop := ∃ k n : Nat, k ≤ 32 * l.length ∧ v = .int .i64 (k : Int) ∧ Hid (val l < 2 ^ k) ∧ wr = w.drewN n
theorem rbits_end {x k : Nat} (h : x < 2 ^ k) (hb : k = 0 ∨ x / 2 ^ (k - 1) % 2 = 1) : bitLen x = k := by
  rcases Nat.eq_zero_or_pos k with h0 | h0
  · subst h0
    rw [Nat.pow_zero] at h
    rw [show x = 0 by omega]; rfl
  · obtain ⟨j, rfl⟩ : ∃ j, k = j + 1 := ⟨k - 1, by omega⟩
    rw [Nat.add_sub_cancel] at hb
    refine bitLen_eq ?_ h
    have h1 : x / 2 ^ j ≠ 0 := by omega
    rcases Nat.lt_or_ge x (2 ^ j) with hlt | hge
    · exact absurd (Nat.div_eq_of_lt hlt) h1
    · exact hge
theorem rbits_step {x k : Nat} (h : x < 2 ^ (k + 1)) (hb : x / 2 ^ k % 2 = 0) : x < 2 ^ k := by
  have h1 : x / 2 ^ k < 2 := Nat.div_lt_of_lt_mul (by rw [Nat.pow_succ] at h; omega)
  rcases Nat.lt_or_ge x (2 ^ k) with hlt | hge
  · exact hlt
  · have := Nat.div_pos hge (Nat.two_pow_pos k)
    omega
set_option maxRecDepth 100000 in
set_option maxHeartbeats 1000000 in
theorem refBits_any {A : Option Addr} {c : Nat} {l : List Nat} {w : World} (h : Nv w A c l) (hl : l.length ≤ 5000000000) :
    Calls Try.prog 87 #[.slice A l.length c] w fun e w' => e = .returned (.int .i64 ((bitLen (val l) : Nat) : Int)) ∧ ∃ n, w' = w.drewN n := by
  have hlt := Lib.hid (show val l < 2 ^ (32 * l.length) by rw [← pw_bits]; exact val_lt h.dig)
  go_enter Try.func87, Try.ntmps87
  go_wp2
  go_loopw [3] (fun v wr => RBtInv l w v wr) (fun v _ => (intOf v).toNat)
  case atStart => exact ⟨32 * l.length, 0, Nat.le_refl _, by simp, hlt, rfl⟩
  case round =>
    obtain ⟨k, n, hk, rfl, hx, rfl⟩ := hrel
    rcases k with _ | j
    · have hv := Lib.hid (rbits_end hx.out (.inl rfl))
      have hd0 : decide ((0 : Int) < ((0 : Nat) : Int)) = false := by decide
      go_wp2
      go_ret
      exact ⟨by rw [hv.out]; rfl, _, rfl⟩
    · have hd0 : decide (0 < j + 1) = true := by simp
      have hj : ((j + 1 : Nat) : Int) - 1 = (j : Int) := by omega
      obtain ⟨b, hb⟩ : ∃ b, Hid (val l / 2 ^ j % 2 = b) := ⟨_, rfl⟩
      have hb2 : b < 2 := hb.out ▸ Nat.mod_lt _ (by omega)
      go_wp2_with fail
      refine (refBit_any (i := j) (h.below (below_drewN' w n)) (by omega)).mono ?_
      rintro e w1 ⟨rfl, m, rfl⟩
      rw [hb.out]
      rcases (show b = 0 ∨ b = 1 by omega) with rfl | rfl
      · have hx2 := Lib.hid (rbits_step hx.out hb.out)
        go_wp2
        go_roundw
        case rel => exact ⟨j, n + m, by omega, rfl, hx2, rfl⟩
        case measure => simp [intOf]
      · have hv := Lib.hid (rbits_end hx.out (.inr hb.out))
        go_wp2
        go_ret
        exact ⟨by rw [hv.out]; rfl, n + m, rfl⟩

def RHiInv (l : List Nat) (k q : Nat) (w : World) (v i : Value) (wr : World) : Prop :=
  ∃ (m : Nat) (o : List Nat), i = .int .i64 ((q + m : Nat) : Int) ∧ (m = 0 ∨ q + m ≤ l.length) ∧ Hid (o.length = m) ∧ Dig o ∧ OwnD wr w.heap.size v o ∧ Hid (val o = val l / 2 ^ k % pw m) ∧ Below w.heap.size w wr
set_option maxRecDepth 100000 in
set_option maxHeartbeats 1000000 in
theorem refHigh_any {A : Option Addr} {c k : Nat} {l : List Nat} {w : World} (h : Nv w A c l) (hl : l.length ≤ 5000000000) (hk : k ≤ 1000000000000) :
    Calls Try.prog 88 #[.slice A l.length c, .int .i64 (k : Int)] w (RetNat (val l / 2 ^ k) l.length w) := by
  have h3 := Lib.hid (pow_lt_31 (Nat.mod_lt k (show 0 < 32 by omega)))
  obtain ⟨p, hp, hp1, hp2⟩ : ∃ p : Nat, Hid (2 ^ (k % 32) = p) ∧ 1 ≤ p ∧ p < 4294967296 := ⟨_, rfl, Nat.one_le_two_pow, h3.out⟩
  have ht : ((k : Int) % 32).toNat = k % 32 := by omega
  have hpi : ((2 : Int) ^ (k % 32)) = (p : Int) := by rw [← hp.out]; simp
  have hw : IntKind.u64.wrap (p : Int) = (p : Int) := by rw [wrap_u64]; omega
  obtain ⟨q, hq, hkd⟩ : ∃ q : Nat, Hid (k / 32 = q) ∧ (k : Int) / 32 = (q : Int) := ⟨k / 32, rfl, by omega⟩
  go_enter Try.func88, Try.ntmps88
  go_wp2
  go_loopw [5, 6] (fun v i wr => RHiInv l k q w v i wr) (fun _ i _ => l.length - (intOf i).toNat)
  case atStart => exact ⟨0, [], by simp, .inl rfl, rfl, Dig.nil, OwnD.nil _ _, by show _ = _; simp [val, pw, Nat.mod_one], Below.refl _ _⟩
  case round =>
    obtain ⟨m, o, rfl, hmm, ho, hod, hown, hval, hbel⟩ := hrel
    obtain ⟨i, hi⟩ : ∃ i, Hid (q + m = i) := ⟨_, rfl⟩
    have hm1 : m ≤ l.length := by omega
    rw [hi.out] at hmm ⊢
    by_cases hlt : i < l.length
    · obtain ⟨x, hx⟩ : ∃ d, Hid (l.getD i 0 = d) := ⟨_, rfl⟩
      obtain ⟨y, hy⟩ : ∃ d, Hid (l.getD (i + 1) 0 = d) := ⟨_, rfl⟩
      have hxb : x < 4294967296 := hx.out ▸ h.dig.getD _
      have hyb : y < 4294967296 := hy.out ▸ h.dig.getD _
      have hdig := Lib.hid (high_math h.dig k m)
      obtain ⟨s, hs, hsb, hsi⟩ : ∃ s : Nat, Hid (x + 4294967296 * y = s) ∧ s < 18446744073709551616 ∧ (x : Int) + (y : Int) * 4294967296 = (s : Int) := ⟨_, rfl, by omega, by omega⟩
      obtain ⟨z, hz, hzz, hzb⟩ : ∃ z : Nat, Hid (s / p = z) ∧ (s : Int) / (p : Int) = (z : Int) ∧ z < 18446744073709551616 := ⟨s / p, rfl, by rw [← Int.natCast_ediv], Nat.lt_of_le_of_lt (Nat.div_le_self _ _) hsb⟩
      have hdg2 := Lib.hid (high_step ho.out hval.out (show val l / 2 ^ k / pw m % 4294967296 = z % 4294967296 by
        rw [hdig.out, hq.out, hi.out, hx.out, hy.out, hp.out, hs.out, hz.out]))
      have hcs : (#[Value.int .u32 ((z : Int) % 4294967296)] : Array Value) = (u32s [z % 4294967296]).toArray := by simp [u32s]
      have hrd := (row_alloc wr hcs).rd
      clear hcs
      go_wp2_with fail
      refine (refDigit_at (i := i) (h.below hbel) _ rfl (by omega) hx).mono ?_
      rintro e w1 ⟨rfl, rfl⟩
      go_wp2_with fail
      refine (refDigit_at (i := i + 1) (h.below hbel) _ rfl (by omega) hy).mono ?_
      rintro e w1 ⟨rfl, rfl⟩
      go_wp2_with (at_builtin; refine wpList_app _ rfl rfl _ _ rfl w.heap.size _ o rfl (hown.alloc _) (some ⟨wr.heap.size, 0, none⟩) 1 1 [z % 4294967296] rfl hrd rfl ?_ ?_ ?_; (rw [ho.out]; omega); (have := hbel.size; simp; omega); intro v' w2 hown2 hgrow2)
      go_roundw
      case rel => exact ⟨m + 1, o ++ [z % 4294967296], by rw [← Nat.add_assoc, hi.out]; rfl, .inr (by have := hi.out; omega), by show (o ++ [_]).length = m + 1; rw [List.length_append, ho.out]; rfl, hod.snoc (Nat.mod_lt _ (by omega)), hown2, hdg2, own_snoc hown hbel hown2 hgrow2⟩
      case measure => simp [intOf]; omega
    · obtain ⟨A', c', rfl, hnv⟩ := hown.nv hod (by rw [ho.out]; omega)
      have hfin := Lib.hid (high_fin h.dig (show l.length ≤ k / 32 + m by rw [hq.out, hi.out]; omega) hval.out)
      have hol : m ≤ l.length := by omega
      go_wp2_with fail
      refine (refTrim_any hnv (by rw [ho.out]; omega)).mono ?_
      rintro e w1 ⟨A1, c1, l1, rfl, h1, h2, h3, h4⟩
      go_wp2
      go_ret
      exact ⟨A1, c1, l1, rfl, h1, hfin.out ▸ h2, by rw [ho.out] at h3; omega, hbel.trans (h4.mono hbel.size)⟩
end Go.Proofs.Ytkjmliebkbbogaa
