/- What was read, encoded again, are the bytes that were read: plain laws. A slice of bytes handed in. -/
import Derived.Test.YtkbibdbojdbfkaaVLaw
import Derived.Test.YtkbibdbojdbfkaaVSame
import Derived.Test.YtkbibdbojdbfkaaLRow
namespace Go.Proofs.Ytkbibdbojdbfkaa
set_option linter.unusedVariables false
set_option linter.unusedSimpArgs false
open Go.RowKit Plain

def Byt (l : List Nat) : Prop := ∀ b ∈ l, b < 256
theorem byt_bytes (s : ByteArray) : Byt (bytes s) := fun b hb => by
  unfold bytes at hb
  obtain ⟨x, _, rfl⟩ := List.mem_map.1 hb
  exact UInt8.toNat_lt _
theorem Byt.drop {l : List Nat} (h : Byt l) (k : Nat) : Byt (l.drop k) := fun b hb => h b (List.mem_of_mem_drop hb)
theorem Byt.take {l : List Nat} (h : Byt l) (k : Nat) : Byt (l.take k) := fun b hb => h b (List.mem_of_mem_take hb)
theorem Byt.right {a b : List Nat} (h : Byt (a ++ b)) : Byt b := fun x hx => h x (by simp [hx])
theorem uiE_rd {m : Nat} {l : List Nat} (h : uiE m l 0 = 0) : rdU l = (0, uiV m l 0, (rdU l).2.2) := by
  have hv : uiV m l 0 = (rdU l).2.1 := by unfold uiV; rw [if_pos h]
  have h1 : (rdU l).1 = 0 := by
    unfold uiE at h
    rw [if_pos rfl] at h
    by_cases hz : (rdU l).1 = 0
    · exact hz
    · rw [if_pos hz] at h; omega
  rw [hv, ← h1]
theorem ui_back {m : Nat} {l : List Nat} (hb : Byt l) (h : uiE m l 0 = 0) : leb (uiV m l 0) ++ uiL l = l := by
  obtain ⟨h1, h2⟩ := rdU_take hb (uiE_rd h)
  unfold uiL
  rw [← h2, List.take_append_drop]
theorem byt_uiL {l : List Nat} (hb : Byt l) : Byt (uiL l) := hb.drop _
theorem tx_back {m : Int} {l : List Nat} (hb : Byt l) (h : txE m l 0 = 0) : bytes (textEnc (strOf (txV m l 0))) ++ txL l = l ∧ Byt (txL l) := by
  have h0 := h
  unfold txE at h
  rw [if_pos rfl] at h
  by_cases h1 : uiE MU l 0 = 0
  · rw [if_neg (by simpa using h1)] at h
    by_cases h2 : m < uiV MU l 0
    · rw [if_pos h2] at h; omega
    · rw [if_neg h2] at h
      by_cases h3 : (uiL l).length < uiV MU l 0
      · rw [if_pos h3] at h; omega
      · have hV : txV m l 0 = (uiL l).take (uiV MU l 0) := by unfold txV; rw [if_pos h0]
        have hs : (strOf (txV m l 0)).size = uiV MU l 0 := by rw [strOf_size, hV, List.length_take]; omega
        refine ⟨?_, (byt_uiL hb).drop _⟩
        rw [bytes_text, hs, bytes_strOf (by rw [hV]; exact (byt_uiL hb).take _), hV, List.append_assoc]
        unfold txL
        rw [List.take_append_drop]
        exact ui_back hb h1
  · rw [if_pos h1] at h; exact absurd h h1
theorem rdD_back : ∀ (n : Nat) (l : List Nat), Byt l → (rdD n l).1 = 0 → (rdD n l).2.1.length = n ∧ (rdD n l).2.1.flatMap leb ++ (rdD n l).2.2 = l ∧ Byt (rdD n l).2.2
  | 0, l, hb, _ => ⟨rfl, rfl, hb⟩
  | n + 1, l, hb, h => by
    by_cases h1 : uiE M32 l 0 = 0
    · rw [rdD_ok h1] at h ⊢
      obtain ⟨i1, i2, i3⟩ := rdD_back n (uiL l) (byt_uiL hb) h
      refine ⟨by simp [i1], ?_, i3⟩
      show (uiV M32 l 0 :: (rdD n (uiL l)).2.1).flatMap leb ++ (rdD n (uiL l)).2.2 = l
      rw [List.flatMap_cons, List.append_assoc, i2]
      exact ui_back hb h1
    · rw [rdD_err h1] at h; exact absurd h h1
theorem nu_back {l : List Nat} (hb : Byt l) (h : nuE l 0 = 0) : digE (nuO l) ++ nuL l = l ∧ Byt (nuL l) := by
  unfold nuE at h
  rw [if_pos rfl] at h
  by_cases h1 : uiE 2000 l 0 = 0
  · rw [if_pos h1] at h
    obtain ⟨i1, i2, i3⟩ := rdD_back _ _ (byt_uiL hb) h
    refine ⟨?_, i3⟩
    unfold digE nuO nuL
    rw [i1, List.append_assoc, i2]
    exact ui_back hb h1
  · rw [if_neg h1] at h; exact absurd h h1
theorem fr_back {l : List Nat} (hb : Byt l) (h : frE l 0 = 0) : bytes (fracE (frN l) (frA l) (frB l)) ++ frL l = l ∧ Byt (frL l) := by
  have hD : frD l 0 = 0 := by
    unfold frE at h
    by_cases hz : frD l 0 = 0
    · exact hz
    · rw [if_neg hz] at h; exact h
  unfold frD at hD
  have hE2 : nuE (uiL l) (uiE 1 l 0) = 0 := by
    by_cases hz : nuE (uiL l) (uiE 1 l 0) = 0
    · exact hz
    · rw [nuE_ne hz] at hD; exact absurd hD hz
  have hE1 : uiE 1 l 0 = 0 := by
    by_cases hz : uiE 1 l 0 = 0
    · exact hz
    · rw [nuE_ne hz] at hE2; exact absurd hE2 hz
  rw [hE2] at hD
  rw [hE1] at hE2
  obtain ⟨a1, a2⟩ := nu_back (byt_uiL hb) hE2
  obtain ⟨b1, b2⟩ := nu_back a2 hD
  refine ⟨?_, b2⟩
  have hn : negN (frN l) = uiV 1 l 0 := by
    have := uiV_le 1 l 0
    unfold negN frN
    by_cases hu : uiV 1 l 0 = 1
    · rw [hu]; rfl
    · rw [decide_eq_false hu]; simp; omega
  unfold fracE frL
  rw [bytes_append, bytes_append, bytes_leb, hn]
  have e1 : bytes (strOf (digE (frA l))) = digE (frA l) := bytes_strOf (by
    intro b hb'
    unfold digE at hb'
    rcases List.mem_append.1 hb' with h | h
    · exact leb_lt _ b h
    · obtain ⟨x, _, hx⟩ := List.mem_flatMap.1 h
      exact leb_lt x b hx)
  have e2 : bytes (strOf (digE (frB l))) = digE (frB l) := bytes_strOf (by
    intro b hb'
    unfold digE at hb'
    rcases List.mem_append.1 hb' with h | h
    · exact leb_lt _ b h
    · obtain ⟨x, _, hx⟩ := List.mem_flatMap.1 h
      exact leb_lt x b hx)
  rw [e1, e2, List.append_assoc, List.append_assoc]
  unfold frA frB
  rw [b1, a1]
  exact ui_back hb hE1

theorem rdr_len {t : TypeId} {w : World} {g : Nat} {l : List Nat} {e : Int} (h : Rdr t w g l e) : l.length ≤ 1000000 := by
  obtain ⟨s, h1, h2, _⟩ := h
  rw [← h1, bytes_length]; exact h2
theorem txV_len (m : Int) (l : List Nat) (e : Int) : (txV m l e).length ≤ l.length := by
  unfold txV
  split
  · rw [List.length_take]
    have : (uiL l).length ≤ l.length := by unfold uiL; rw [List.length_drop]; omega
    omega
  · simp
/-- A slice of bytes handed in. -/
theorem inRowB_of {w : World} {a : Option Addr} {len cap : Nat} {zs : List Int}
    (h : (a = none ∧ len = 0 ∧ cap = 0 ∧ zs = []) ∨
      ∃ x, a = some x ∧ len ≤ cap ∧ cap ≤ maxLen ∧ zs.length = cap ∧ (∀ i, i < zs.length → w.cell? (x.add i) = some (.int .u8 (zs.getD i 0))) ∧ ∀ n ∈ zs, (Lit.int .u8 n).wf = true) :
    ∃ l : List Nat, l.length = len ∧ len ≤ 9223372036854775807 ∧ RdB w a l ∧ ∀ d ∈ l, d < 256 := by
  rcases h with ⟨rfl, rfl, rfl, rfl⟩ | ⟨x, rfl, h1, h2, h3, h4, h5⟩
  · exact ⟨[], rfl, by omega, fun hx => by simp [u8s] at hx, by simp⟩
  · have hlen : ((zs.take len).map Int.toNat).length = len := by rw [List.length_map, List.length_take]; omega
    have hm : maxLen = 9223372036854775807 := rfl
    have hb : ∀ n ∈ zs, 0 ≤ n ∧ n < 256 := fun n hn => by
      have := h5 n hn
      simp [Lit.wf, IntKind.min, IntKind.max, IntKind.bits, IntKind.signed] at this
      omega
    refine ⟨(zs.take len).map Int.toNat, hlen, by omega, fun hx => ⟨x, rfl, ?_, fun j hj => ?_⟩, ?_⟩
    · rw [u8s_length, hlen] at hx
      have := h4 0 (by omega)
      exact cell_lt (by simpa [Addr.add] using this)
    · rw [u8s_length, hlen] at hj
      rw [h4 j (by omega)]
      have hz := hb (zs.getD j 0) (by rw [List.getD_eq_getElem?_getD, List.getElem?_eq_getElem (by omega)]; exact List.getElem_mem _)
      simp [u8s, List.getElem?_eq_getElem (show j < zs.length by omega)] at hz ⊢
      omega
    · intro d hd
      rw [List.mem_map] at hd
      obtain ⟨n, hn, rfl⟩ := hd
      have := hb n (List.mem_of_mem_take hn)
      omega
end Go.Proofs.Ytkbibdbojdbfkaa
