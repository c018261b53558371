/- wire.Uint, the reference's Uint; Int; Text: what the calls do. -/
import Derived.Test.YtkbibdbojdbfkaaAppB
import Derived.Test.YtkbibdbojdbfkaaEnc
import Derived.Deep.RegionWith
import Derived.Outline
namespace Go.Proofs.Ytkbibdbojdbfkaa
set_option linter.unusedVariables false
set_option linter.unusedSimpArgs false
open Go.RowKit Plain

def UInv (x0 : Nat) (w : World) (x v : Value) (wr : World) : Prop :=
  ∃ (y : Nat) (o : List Nat), x = .int .u64 (y : Int) ∧ y < 18446744073709551616 ∧ OwnB wr w.heap.size v o ∧ Hid (leb x0 = o ++ leb y) ∧ Below w.heap.size w wr
theorem or128 (x : Nat) : bits .or .u8 ((x : Int) % 256) 128 = ((x % 128 + 128 : Nat) : Int) := by
  have e : ((x : Int) % 256) = ((x % 256 : Nat) : Int) := by omega
  rw [e, u8_or (x % 256 : Nat) 128 (by omega) (by omega) (by omega) (by omega)]
  congr 1
  have h1 : x % 256 < 2 ^ 8 := by omega
  by_cases h : x % 256 < 128
  · simp only [Int.toNat_natCast]
    rw [show (128 : Int).toNat = 128 from rfl, Nat.or_comm, nat_join 7 128 (x % 256) (by decide) (by simpa using h)]; omega
  · obtain ⟨y, hy, hy2⟩ : ∃ y, x % 256 = 128 + y ∧ y < 128 := ⟨x % 256 - 128, by omega, by omega⟩
    have h2 : (128 + y) = 128 ||| y := (nat_join 7 128 y (by decide) (by simpa using hy2)).symm
    simp only [Int.toNat_natCast]
    rw [hy, h2, Nat.or_comm, ← Nat.or_assoc]
    have : ((128 : Int).toNat) ||| 128 = 128 := rfl
    rw [this, ← h2]; omega

theorem strOf_append' (a b : List Nat) : strOf (a ++ b) = strOf a ++ strOf b := by
  apply byteArray_ext
  unfold bytes strOf
  simp [strOfNums_data, ByteArray.data_append]
set_option maxRecDepth 100000 in
set_option maxHeartbeats 1000000 in
theorem wUint_any (x : Nat) (w : World) (hx : x < 18446744073709551616) :
    Calls Try.prog 17 #[.int .u64 (x : Int)] w fun e w' => e = .returned (.string (strOf (leb x))) ∧ Below w.heap.size w w' := by
  go_enter Try.func17, Try.ntmps17
  go_wp2
  go_loopw [0, 3] (fun x v wr => UInv _ w x v wr) (fun x _ _ => (intOf x).toNat)
  case atStart => exact ⟨x, [], rfl, hx, OwnB.nil _ _, rfl, Below.refl _ _⟩
  case round =>
    obtain ⟨y, o, rfl, hy, hown, hleb, hbel⟩ := hrel
    have hlen := Lib.hid (leb_len10 hx)
    have hol : o.length ≤ 10 := by
      have := hlen.out
      rw [hleb.out, List.length_append] at this
      omega
    by_cases hys : y < 128
    · have hcs : (#[Value.int .u8 ((y : Int) % 256)] : Array Value) = (u8s [y]).toArray := by simp [u8s]; omega
      have hrd := (rowB_alloc wr hcs).rd
      have hfin := Lib.hid (show leb x = o ++ [y] by rw [hleb.out, leb_small hys])
      have hd : decide ((128 : Int) ≤ (y : Int)) = false := decide_eq_false (by omega)
      clear hcs hys
      go_wp2_with (at_builtin; refine wpList_appB _ rfl rfl _ _ rfl w.heap.size _ o rfl (hown.alloc _) (some ⟨wr.heap.size, 0, none⟩) 1 1 [y] rfl hrd rfl ?_ ?_ ?_; omega; (have := hbel.size; simp; omega); intro v' w2 hown2 hgrow2; obtain ⟨A2, c2, e2, hoc2, hrd2⟩ := hown2.form; obtain ⟨n2, hn2⟩ : ∃ n, Hid ((o ++ [y]).length = n) := ⟨_, rfl⟩; rw [hn2.out] at e2; subst e2; have hcv := conv_bytes w2 A2 n2 c2 _ hrd2 hn2.out)
      go_ret
      refine ⟨?_, own_snocB hown hbel hown2 hgrow2⟩
      rw [hfin.out]; rfl
    · have hor := or128 y
      have hge : 128 ≤ y := by omega
      have hd : decide ((128 : Int) ≤ (y : Int)) = true := decide_eq_true (by omega)
      have hst := Lib.hid (show leb x = (o ++ [y % 128 + 128]) ++ leb (y / 128) by rw [hleb.out, leb_big hys, List.append_assoc]; rfl)
      have hcs : (#[Value.int .u8 ((y % 128 + 128 : Nat) : Int)] : Array Value) = (u8s [y % 128 + 128]).toArray := rfl
      have hrd := (rowB_alloc wr hcs).rd
      clear hcs hys
      go_wp2_with (at_builtin; refine wpList_appB _ rfl rfl _ _ rfl w.heap.size _ o rfl (hown.alloc _) (some ⟨wr.heap.size, 0, none⟩) 1 1 [y % 128 + 128] rfl hrd rfl ?_ ?_ ?_; omega; (have := hbel.size; simp; omega); intro v' w2 hown2 hgrow2)
      go_roundw
      case rel => exact ⟨y / 128, o ++ [y % 128 + 128], rfl, by omega, hown2, hst.out, own_snocB hown hbel hown2 hgrow2⟩
      case measure => simp [intOf]; omega

set_option maxRecDepth 100000 in
set_option maxHeartbeats 1000000 in
theorem refUintW_small (x : Nat) (w : World) (hs : x < 128) :
    Calls Try.prog 19 #[.int .u64 (x : Int)] w fun e w' => e = .returned (.string (strOf (leb x))) ∧ Below w.heap.size w w' := by
  have hd : decide ((x : Int) < 128) = true := decide_eq_true (by omega)
  have hcs : (#[Value.int .u8 ((x : Int) % 256)] : Array Value) = (u8s [x]).toArray := by simp [u8s]; omega
  have hrd := (rowB_alloc w hcs).rd
  have hcv := conv_bytes _ _ 1 1 [x] hrd rfl
  have hfin := Lib.hid (leb_small hs)
  clear hcs hs
  go_enter Try.func19, Try.ntmps19
  go_wp2_with fail
  go_ret
  refine ⟨?_, (Below.refl _ _).alloc (Nat.le_refl _) _⟩
  rw [hfin.out]; rfl
set_option maxRecDepth 100000 in
set_option maxHeartbeats 1000000 in
theorem refUintW_any : ∀ (k x : Nat) (w : World), x ≤ k → x < 18446744073709551616 →
    Calls Try.prog 19 #[.int .u64 (x : Int)] w fun e w' => e = .returned (.string (strOf (leb x))) ∧ Below w.heap.size w w' := by
  intro k
  induction k with
  | zero => intro x w hk hx; exact refUintW_small x w (by omega)
  | succ k ih =>
    intro x w hk hx
    by_cases hs : x < 128
    · exact refUintW_small x w hs
    · have hd : decide ((x : Int) < 128) = false := decide_eq_false (by omega)
      have hst := Lib.hid (show strOf (leb x) = strOf [x % 128 + 128] ++ strOf (leb (x / 128)) by rw [leb_big hs, ← strOf_append']; rfl)
      have ihx := Lib.hid (fun (n : Int) (w' : World) (hn : n = ((x / 128 : Nat) : Int)) => hn ▸ ih (x / 128) w' (by omega) (by omega))
      have hsz : (strOf (leb (x / 128))).size ≤ 10 := by rw [strOf_size]; exact leb_len10 (by omega)
      obtain ⟨r, hr⟩ : ∃ r, Hid (x % 128 = r) := ⟨_, rfl⟩
      obtain ⟨q, hq⟩ : ∃ q, Hid (x / 128 = q) := ⟨_, rfl⟩
      have hr0 : r < 128 := by have := hr.out; omega
      have h1 : (x : Int).tmod 128 = (r : Int) := by rw [Int.tmod_eq_emod_of_nonneg (by omega)]; have := hr.out; omega
      have h2 : IntKind.u64.wrap ((r : Int) + 128) = ((r + 128 : Nat) : Int) := by rw [wrap_u64]; omega
      have h3 : IntKind.u8.wrap ((r + 128 : Nat) : Int) = ((r + 128 : Nat) : Int) := by simp [IntKind.wrap, IntKind.bits, IntKind.signed]; omega
      have h4 : IntKind.u64.wrap ((x : Int) / 128) = (q : Int) := by rw [wrap_u64]; have := hq.out; omega
      rw [hr.out, hq.out] at hst
      rw [hq.out] at hsz ihx
      obtain ⟨S, hS⟩ : ∃ S, Hid (strOf [r + 128] = S) := ⟨_, rfl⟩
      have hsz1 : S.size ≤ 10 := by rw [← hS.out, strOf_size]; simp
      obtain ⟨V, hV⟩ : ∃ V : Int, ((r + 128 : Nat) : Int) = V := ⟨_, rfl⟩
      have hcs := Lib.hid (show (#[Value.int .u8 V] : Array Value) = (u8s [r + 128]).toArray by rw [← hV]; rfl)
      rw [hV] at h2 h3
      have hcv : ∀ (W : World), (convert 71 9 (.slice (some ⟨W.heap.size, 0, none⟩) 1 1)).run Try.prog (W.alloc (.cells #[Value.int .u8 V] 5)) = .ok (.string S) (W.alloc (.cells #[Value.int .u8 V] 5)) := fun W => by
        have h := conv_bytes _ _ 1 1 [r + 128] (rowB_alloc W hcs.out).rd rfl
        rw [hS.out] at h
        exact h
      have hcv2 : ∀ (W : World), (convert 71 9 (.slice (some ⟨W.heap.size, 0, none⟩) 1 1)).run Try.prog (W.alloc (.cells #[Value.int .u8 V] 5)).drew = .ok (.string S) (W.alloc (.cells #[Value.int .u8 V] 5)).drew := fun W => by
        have h := conv_bytes (W.alloc (.cells #[Value.int .u8 V] 5)).drew _ 1 1 [r + 128] ((rowB_alloc W hcs.out).rd.below ((Below.refl _ _).drew)) rfl
        rw [hS.out] at h
        exact h
      have hcv3 := Lib.hid (fun (w1 : World) (b : Below (w.heap.size + 1) ((w.alloc (.cells #[Value.int .u8 V] 5)).drew) w1) => by
        have h := conv_bytes w1 (some ⟨w.heap.size, 0, none⟩) 1 1 [r + 128] ((rowB_alloc w hcs.out).rd.below ((Below.refl _ _).drew.trans (b.mono (by simp)))) rfl
        rw [hS.out] at h
        exact h)
      clear hs ih hV
      go_enter Try.func19, Try.ntmps19
      go_wp2_with fail
      go_region_with (go_at_call 19; refine (ihx.out _ _ rfl).mono ?_; rintro e w1 ⟨rfl, b1⟩; try have hcv4 := hcv3.out w1 (by simpa using b1))
      all_goals
        go_wp2
        go_ret
        refine ⟨by rw [hst.out, hS.out]; rfl, ?_⟩
        first
          | exact ((Below.refl _ _).alloc (Nat.le_refl _) _).drew.trans (b1.mono (by simp))
          | exact ((Below.refl _ _).drew.trans (b1.mono (by simp))).alloc (by have := b1.size; simp at this; exact this) _

theorem wUint_val (x : Nat) (n : Int) (w : World) (hn : n = (x : Int)) (hx : x < 18446744073709551616) :
    Calls Try.prog 17 #[.int .u64 n] w fun e w' => e = .returned (.string (strOf (leb x))) ∧ Below w.heap.size w w' := by
  subst hn; exact wUint_any x w hx
theorem refUintW_val (x : Nat) (n : Int) (w : World) (hn : n = (x : Int)) (hx : x < 18446744073709551616) :
    Calls Try.prog 19 #[.int .u64 n] w fun e w' => e = .returned (.string (strOf (leb x))) ∧ Below w.heap.size w w' := by
  subst hn; exact refUintW_any x x w (Nat.le_refl _) hx

theorem zigx (x : Int) (h1 : -9223372036854775808 ≤ x) (h2 : x ≤ 9223372036854775807) : bits .xor .u64 (IntKind.u64.wrap (IntKind.u64.wrap x * 2)) (IntKind.u64.wrap (x / 9223372036854775808)) = (zig x : Int) := by
  simp only [wrap_u64]
  unfold zig
  split
  · have e1 : x % 18446744073709551616 * 2 % 18446744073709551616 = 2 * x := by omega
    have e2 : x / 9223372036854775808 % 18446744073709551616 = 0 := by omega
    rw [e1, e2, u64_xor _ _ (by omega) (by omega) (by omega) (by omega)]
    simp
  · have e1 : x % 18446744073709551616 * 2 % 18446744073709551616 = 2 * x + 18446744073709551616 := by omega
    have e2 : x / 9223372036854775808 % 18446744073709551616 = 18446744073709551615 := by omega
    rw [e1, e2, u64_xor _ _ (by omega) (by omega) (by omega) (by omega)]
    have e3 : (18446744073709551615 : Int).toNat = 2 ^ 64 - 1 := rfl
    rw [e3]
    have e4 : (2 * x + 18446744073709551616).toNat < 2 ^ 64 := by omega
    have e5 := BitVec.toNat_not (x := BitVec.ofNat 64 (2 * x + 18446744073709551616).toNat)
    rw [← BitVec.xor_allOnes, BitVec.toNat_xor, BitVec.toNat_allOnes, BitVec.toNat_ofNat, Nat.mod_eq_of_lt e4] at e5
    rw [e5]
    omega

set_option maxRecDepth 100000 in
set_option maxHeartbeats 1000000 in
theorem wInt_any (x : Int) (w : World) (h1 : -9223372036854775808 ≤ x) (h2 : x ≤ 9223372036854775807) :
    Calls Try.prog 18 #[.int .i64 x] w fun e w' => e = .returned (.string (strOf (leb (zig x)))) ∧ Below w.heap.size w w' := by
  have hz := zigx x h1 h2
  have hzl := zig_lt h1 h2
  go_enter Try.func18, Try.ntmps18
  go_wp2_with fail
  refine (wUint_val (zig x) _ _ rfl hzl).mono ?_
  rintro e w1 ⟨rfl, b1⟩
  go_wp2
  go_ret
  exact ⟨rfl, b1⟩
set_option maxRecDepth 100000 in
set_option maxHeartbeats 1000000 in
theorem refIntW_any (x : Int) (w : World) (h1 : -9223372036854775808 ≤ x) (h2 : x ≤ 9223372036854775807) :
    Calls Try.prog 20 #[.int .i64 x] w fun e w' => e = .returned (.string (strOf (leb (zig x)))) ∧ Below w.heap.size w w' := by
  have hzl := zig_lt h1 h2
  by_cases hx : 0 ≤ x
  · have hd : decide ((0 : Int) ≤ x) = true := decide_eq_true hx
    go_enter Try.func20, Try.ntmps20
    go_wp2_with fail
    refine (refUintW_val (zig x) _ _ (by unfold zig; rw [if_pos hx]; omega) hzl).mono ?_
    rintro e w1 ⟨rfl, b1⟩
    go_wp2
    go_ret
    exact ⟨rfl, b1⟩
  · have hd : decide ((0 : Int) ≤ x) = false := decide_eq_false hx
    have hx' : x < 0 := by omega
    go_enter Try.func20, Try.ntmps20
    go_wp2_with fail
    refine (refUintW_val (zig x) _ _ (by unfold zig; rw [if_neg (by omega)]; omega) hzl).mono ?_
    rintro e w1 ⟨rfl, b1⟩
    go_wp2
    go_ret
    exact ⟨rfl, b1⟩

def textEnc (s : ByteArray) : ByteArray := strOf (leb s.size) ++ s
theorem textEnc_size (s : ByteArray) (h : s.size ≤ 1000000000000) : (textEnc s).size ≤ s.size + 10 := by
  unfold textEnc
  rw [ByteArray.size_append, strOf_size]
  have := leb_len10 (x := s.size) (by omega)
  omega
set_option maxRecDepth 100000 in
set_option maxHeartbeats 1000000 in
theorem wText_any (s : ByteArray) (w : World) (hs : s.size ≤ 1000000000000) :
    Calls Try.prog 26 #[.string s] w fun e w' => e = .returned (.string (textEnc s)) ∧ Below w.heap.size w w' := by
  have hl : (strOf (leb s.size)).size ≤ 10 := by rw [strOf_size]; exact leb_len10 (by omega)
  go_enter Try.func26, Try.ntmps26
  go_wp2_with fail
  refine (wUint_val s.size _ _ rfl (by omega)).mono ?_
  rintro e w1 ⟨rfl, b1⟩
  go_wp2
  go_ret
  exact ⟨rfl, b1⟩
set_option maxRecDepth 100000 in
set_option maxHeartbeats 1000000 in
theorem refTextW_any (s : ByteArray) (w : World) (hs : s.size ≤ 1000000000000) :
    Calls Try.prog 27 #[.string s] w fun e w' => e = .returned (.string (textEnc s)) ∧ Below w.heap.size w w' := by
  have hl : (strOf (leb s.size)).size ≤ 10 := by rw [strOf_size]; exact leb_len10 (by omega)
  go_enter Try.func27, Try.ntmps27
  go_wp2_with fail
  refine (refUintW_val s.size _ _ rfl (by omega)).mono ?_
  rintro e w1 ⟨rfl, b1⟩
  go_wp2
  go_ret
  exact ⟨rfl, b1⟩
end Go.Proofs.Ytkbibdbojdbfkaa
