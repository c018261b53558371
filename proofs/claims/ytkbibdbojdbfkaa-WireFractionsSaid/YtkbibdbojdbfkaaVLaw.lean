/- What was encoded is read back: plain laws. -/
import Derived.Test.YtkbibdbojdbfkaaVLives
namespace Go.Proofs.Ytkbibdbojdbfkaa
set_option linter.unusedVariables false
set_option linter.unusedSimpArgs false
open Go.RowKit Plain

theorem ui_leb {m n : Nat} (r : List Nat) (hn : n < 18446744073709551616) (hm : n ≤ m) : uiE m (leb n ++ r) 0 = 0 ∧ uiV m (leb n ++ r) 0 = n ∧ uiL (leb n ++ r) = r := by
  have h := rdU_leb n r hn
  have h1 : uiE m (leb n ++ r) 0 = 0 := by
    unfold uiE
    rw [if_pos rfl, h]
    simp
    omega
  refine ⟨h1, ?_, ?_⟩
  · unfold uiV
    rw [if_pos h1, h]
  · unfold uiL
    rw [h]
    simp
theorem strOf_bytes (s : ByteArray) : strOf (bytes s) = s := byteArray_ext (bytes_strOf (fun b hb => by
  unfold bytes at hb
  obtain ⟨x, _, rfl⟩ := List.mem_map.1 hb
  exact UInt8.toNat_lt _))
theorem bytes_append (a b : ByteArray) : bytes (a ++ b) = bytes a ++ bytes b := by
  unfold bytes
  simp [ByteArray.data_append]
theorem bytes_leb (n : Nat) : bytes (strOf (leb n)) = leb n := bytes_strOf (leb_lt n)
theorem bytes_text (s : ByteArray) : bytes (textEnc s) = leb s.size ++ bytes s := by
  unfold textEnc
  rw [bytes_append, bytes_leb]
theorem tx_text {m : Int} (s : ByteArray) (r : List Nat) (hs : s.size ≤ 1000000000000) (hm : (s.size : Int) ≤ m) : txE m (bytes (textEnc s) ++ r) 0 = 0 ∧ strOf (txV m (bytes (textEnc s) ++ r) 0) = s ∧ txL (bytes (textEnc s) ++ r) = r := by
  rw [bytes_text, List.append_assoc]
  obtain ⟨h1, h2, h3⟩ := ui_leb (m := MU) (bytes s ++ r) (show s.size < 18446744073709551616 by omega) (by unfold MU; omega)
  have hE : txE m (leb s.size ++ (bytes s ++ r)) 0 = 0 := by
    unfold txE
    rw [if_pos rfl, h1, h2, h3, if_neg (by simp), if_neg (by omega), if_neg (by rw [List.length_append, bytes_length]; omega)]
  refine ⟨hE, ?_, ?_⟩
  · unfold txV
    rw [if_pos hE, h2, h3, List.take_append_of_le_length (by rw [bytes_length]; exact Nat.le_refl _), List.take_of_length_le (by rw [bytes_length]; exact Nat.le_refl _), strOf_bytes]
  · unfold txL
    rw [h2, h3, List.drop_append_of_le_length (by rw [bytes_length]; exact Nat.le_refl _), List.drop_of_length_le (by rw [bytes_length]; exact Nat.le_refl _)]
    rfl
end Go.Proofs.Ytkbibdbojdbfkaa
