/- strings.CutPrefix and strings.Cut at a text of one byte: what the calls do. The first contracts were laid by the kit's contract.sh. -/
import Derived.Test.YtghpcimeobmonaaProg
import Derived.Test.YtghpcimeobmonaaWParse
import Derived.Test.YtghpcimeobmonaaAppB
import Derived.Lib.Strings
import Derived.Lib.Slices
import Derived.Lib.Walk
import Derived.Lib.Bytealg
import Derived.RegionTactic
namespace Go.Proofs.Ytghpcimeobmonaa
set_option linter.unusedVariables false
set_option linter.unusedSimpArgs false
open Go.RowKit Plain

set_option maxHeartbeats 1000000 in
set_option maxRecDepth 100000 in
/-- internal/stringslite.IndexByte (what strings.IndexByte calls). -/
theorem stringslite_IndexByte (s : ByteArray) (c : Int) (w : World) :
    Calls Try.prog 94 #[.string s, .int .u8 c] w fun e w' => e = .returned (.int .i64 (Lib.indexByte s.data.toList c.toNat.toUInt8)) ∧ w' = w := by
  go_enter Try.func94, Try.ntmps94
  go_wp2
  rw [run_callFunc_extern Try.func98 (by kernel_rfl) (by kernel_rfl) (by kernel_rfl) (e := Extern.BytealgIndexByte.indexByte) (by kernel_rfl), Lib.run_indexByteString]
  simp only [Result.andThen]
  rw [Oper.upon_value]
  go_wp2
  go_ret
  exact ⟨rfl, rfl⟩

set_option maxHeartbeats 2000000 in
set_option maxRecDepth 100000 in
/-- internal/stringslite.Index (what strings.Index calls) at a text of one byte. -/
theorem stringslite_Index_one (s : ByteArray) (c : UInt8) (w : World) :
    Calls Try.prog 93 #[.string s, .string ⟨#[c]⟩] w fun e w' => e = .returned (.int .i64 (Lib.indexByte s.data.toList c)) ∧ w' = w := by
  go_enter Try.func93, Try.ntmps93
  go_wp2_with (go_at_call 94; refine (stringslite_IndexByte _ _ _).mono ?_; rintro e w' ⟨rfl, rfl⟩)
  · have h : ([c] == s.toList) = true := by assumption
    go_ret
    refine ⟨?_, rfl⟩
    have e : s.data.toList = [c] := by rw [← Lib.toList_data]; exact (beq_iff_eq.1 h).symm
    rw [e]
    simp [Lib.indexByte]
  · go_ret
    exact ⟨rfl, rfl⟩

set_option maxHeartbeats 1000000 in
set_option maxRecDepth 100000 in
theorem strings_CutPrefix (s p : ByteArray) (w : World) :
    Calls Try.prog 51 #[.string s, .string p] w fun e w' => e = .returned (.tuple #[.string ⟨(Lib.trimPrefix s.data.toList p.data.toList).toArray⟩, .bool (Lib.hasPrefix s.data.toList p.data.toList)]) ∧ w' = w := by
  go_enter Try.func51, Try.ntmps51
  go_wp2
  · have h2 : (!((s.extract 0 p.size).toList == p.toList)) = true := by assumption
    have h3 : (decide (p.size ≤ s.size) && ((s.extract 0 p.size).toList == p.toList)) = false := by
      have : ((s.extract 0 p.size).toList == p.toList) = false := by simpa using h2
      rw [this]
      simp
    go_ret2
    refine ⟨?_, rfl⟩
    rw [Lib.trimPrefix_miss s p h3, ← Lib.hasPrefix_raw, h3]
    rfl
  · have h1 : p.size ≤ s.size := by assumption
    have h2 : (!((s.extract 0 p.size).toList == p.toList)) = false := by assumption
    have h2' : ((s.extract 0 p.size).toList == p.toList) = true := by simpa using h2
    go_ret2
    refine ⟨?_, rfl⟩
    rw [Lib.trimPrefix_hit s p h1 h2', ← Lib.hasPrefix_raw, h2', decide_eq_true h1]
    rfl
  · have h1 : ¬ p.size ≤ s.size := by assumption
    have h3 : (decide (p.size ≤ s.size) && ((s.extract 0 p.size).toList == p.toList)) = false := by simp [h1]
    go_ret2
    refine ⟨?_, rfl⟩
    rw [Lib.trimPrefix_miss s p h3, ← Lib.hasPrefix_raw, h3]
    rfl

/-! The parts of a text: an optional sign, what stands before the bar and behind it. -/
def negL (l : List Nat) : Bool := decide (l.head? = some 45)
def restL (l : List Nat) : List Nat := if negL l = true then l.tail else l
def twoL (l : List Nat) : Bool := l.any (· == 47)
def numL (l : List Nat) : List Nat := l.takeWhile (· != 47)
def denL (l : List Nat) : List Nat := (l.dropWhile (· != 47)).tail
theorem u8_eq (b c : UInt8) : (b == c) = (b.toNat == c.toNat) := by
  rw [Bool.eq_iff_iff, beq_iff_eq, beq_iff_eq]
  exact ⟨fun h => by rw [h], fun h => UInt8.toNat_inj.1 h⟩
theorem bytes_mk (l : List UInt8) : bytes ⟨l.toArray⟩ = l.map UInt8.toNat := rfl
theorem hasPrefix_one (l : List UInt8) : Lib.hasPrefix l [45] = negL (l.map UInt8.toNat) := by
  unfold Lib.hasPrefix negL
  cases l with
  | nil => rfl
  | cons b l =>
    rw [Bool.eq_iff_iff]
    simp [List.isPrefixOf]
    exact ⟨fun h => by rw [← h]; rfl, fun h => (UInt8.toNat_inj.1 h).symm⟩
theorem cutPrefix_any (s : ByteArray) (w : World) :
    Calls Try.prog 51 #[.string s, .string ⟨#[45]⟩] w fun e w' => ∃ S, e = .returned (.tuple #[.string S, .bool (negL (bytes s))]) ∧ bytes S = restL (bytes s) ∧ w' = w := by
  refine (strings_CutPrefix s ⟨#[45]⟩ w).mono ?_
  rintro e w' ⟨rfl, rfl⟩
  have h1 := hasPrefix_one s.data.toList
  refine ⟨_, by rw [show (⟨#[45]⟩ : ByteArray).data.toList = [45] from rfl, h1]; rfl, ?_, rfl⟩
  rw [bytes_mk]
  unfold Lib.trimPrefix restL bytes
  rw [h1]
  split
  · simp
  · rfl
theorem indexByte_eq : ∀ l : List UInt8, Lib.indexByte l 47 = if twoL (l.map UInt8.toNat) = true then ((numL (l.map UInt8.toNat)).length : Int) else -1
  | [] => rfl
  | b :: l => by
    have ih := indexByte_eq l
    unfold Lib.indexByte
    rw [u8_eq, ih]
    unfold twoL numL
    simp only [List.map_cons, List.any_cons, List.takeWhile_cons]
    have h47 : (47 : UInt8).toNat = 47 := rfl
    rw [h47]
    by_cases hb : b.toNat = 47
    · simp [hb]
    · have hb1 : (b.toNat == 47) = false := by simpa using hb
      have hb2 : (b.toNat != 47) = true := by simpa using hb
      rw [hb1, hb2]
      unfold twoL numL at ih
      simp only [Bool.false_or, Bool.false_eq_true, if_false, if_true]
      by_cases ha : (List.map UInt8.toNat l).any (fun x => x == 47) = true
      · rw [if_pos ha, if_neg (by simp), if_pos ha]
        simp
      · rw [if_neg ha, if_neg ha]; rfl
theorem bytes_extract (s : ByteArray) (i j : Nat) (h : j ≤ s.size) : bytes (s.extract i j) = ((bytes s).drop i).take (j - i) := by
  unfold bytes
  rw [ByteArray.data_extract, Array.toList_extract, List.extract_eq_take_drop, List.map_take, List.map_drop]
theorem take_numL (l : List Nat) : l.take (numL l).length = numL l := by
  unfold numL
  conv => lhs; rw [← List.takeWhile_append_dropWhile (p := (· != 47)) (l := l)]
  rw [List.takeWhile_append_dropWhile]
  have := List.takeWhile_append_dropWhile (p := (· != 47)) (l := l)
  conv => lhs; arg 2; rw [← this]
  rw [List.take_left']
  rfl
theorem drop_numL (l : List Nat) : l.drop ((numL l).length + 1) = denL l := by
  unfold denL numL
  rw [← List.tail_drop]
  congr 1
  have := List.takeWhile_append_dropWhile (p := (· != 47)) (l := l)
  conv => lhs; arg 2; rw [← this]
  rw [List.drop_left']
  rfl
theorem numL_lt {l : List Nat} (h : twoL l = true) : (numL l).length < l.length := by
  unfold twoL at h
  unfold numL
  induction l with
  | nil => simp at h
  | cons b l ih =>
    rw [List.takeWhile_cons]
    by_cases hb : b = 47
    · simp [hb]
    · have hb2 : (b != 47) = true := by simpa using hb
      rw [if_pos hb2]
      simp only [List.any_cons, Bool.or_eq_true, beq_iff_eq, hb, false_or] at h
      have := ih h
      simp; omega
theorem numL_all {l : List Nat} (h : twoL l = false) : numL l = l ∧ denL l = [] := by
  unfold twoL at h
  unfold numL denL
  induction l with
  | nil => exact ⟨rfl, rfl⟩
  | cons b l ih =>
    simp only [List.any_cons, Bool.or_eq_false_iff] at h
    obtain ⟨h1, h2⟩ := ih h.2
    have hb2 : (b != 47) = true := by simpa using h.1
    rw [List.takeWhile_cons, List.dropWhile_cons, if_pos hb2, if_pos hb2, h1, h2]
    exact ⟨rfl, rfl⟩
set_option maxHeartbeats 2000000 in
set_option maxRecDepth 100000 in
theorem stringslite_Cut_any (s : ByteArray) (w : World) (hs : s.size ≤ 9223372036854775807) :
    Calls Try.prog 79 #[.string s, .string ⟨#[47]⟩] w fun e w' => ∃ S T, e = .returned (.tuple #[.string S, .string T, .bool (twoL (bytes s))]) ∧ bytes S = numL (bytes s) ∧ bytes T = denL (bytes s) ∧ ∃ n, w' = w.drewN n := by
  have hix := indexByte_eq s.data.toList
  have hbl := bytes_length s
  by_cases h2 : twoL (bytes s) = true
  · have hlt := numL_lt h2
    rw [show List.map UInt8.toNat s.data.toList = bytes s from rfl, if_pos h2] at hix
    obtain ⟨i, hi⟩ : ∃ i, Hid ((numL (bytes s)).length = i) := ⟨_, rfl⟩
    rw [hi.out] at hix hlt
    have hix' := Lib.hid hix
    have h2' := Lib.hid h2
    clear hix h2
    rw [h2'.out]
    have c2 : (i : Int) ≤ s.size := by omega
    have c0 : (0 : Int) ≤ i := by omega
    have c3 : (0 : Int) ≤ (i : Int) + 1 := by omega
    have c4 : (i : Int) + 1 ≤ s.size := by omega
    go_enter Try.func79, Try.ntmps79
    go_wp2_with (go_at_call 93; refine (stringslite_Index_one _ _ _).mono ?_; rintro e w' ⟨rfl, rfl⟩; rw [hix'.out])
    go_region
    all_goals go_wp2
    all_goals go_ret3
    refine ⟨_, _, rfl, ?_, ?_, 1, rfl⟩
    · rw [bytes_extract _ _ _ (by omega), List.drop_zero, Nat.sub_zero, ← hi.out, take_numL]
    · rw [bytes_extract _ _ _ (Nat.le_refl _), ← hi.out, drop_numL]
      refine List.take_of_length_le ?_
      rw [← drop_numL, List.length_drop, bytes_length]
      omega
  · have h2' := eq_false_of_ne_true h2
    rw [show List.map UInt8.toNat s.data.toList = bytes s from rfl, if_neg h2] at hix
    obtain ⟨e1, e2⟩ := numL_all h2'
    have hix' := Lib.hid hix
    have h3 := Lib.hid h2'
    clear hix h2 h2'
    rw [h3.out, e1, e2]
    clear e1 e2
    go_enter Try.func79, Try.ntmps79
    go_wp2_with (go_at_call 93; refine (stringslite_Index_one _ _ _).mono ?_; rintro e w' ⟨rfl, rfl⟩; rw [hix'.out])
    go_ret3
    exact ⟨_, _, rfl, rfl, rfl, 0, rfl⟩
set_option maxHeartbeats 2000000 in
set_option maxRecDepth 100000 in
theorem cut_any (s : ByteArray) (w : World) (hs : s.size ≤ 9223372036854775807) :
    Calls Try.prog 52 #[.string s, .string ⟨#[47]⟩] w fun e w' => ∃ S T, e = .returned (.tuple #[.string S, .string T, .bool (twoL (bytes s))]) ∧ bytes S = numL (bytes s) ∧ bytes T = denL (bytes s) ∧ ∃ n, w' = w.drewN n := by
  go_enter Try.func52, Try.ntmps52
  go_wp2_with (go_at_call 79; refine (stringslite_Cut_any _ _ hs).mono ?_; rintro e w' ⟨S, T, rfl, h1, h2, n, rfl⟩)
  go_ret3
  exact ⟨S, T, rfl, h1, h2, n, rfl⟩
end Go.Proofs.Ytghpcimeobmonaa
