/- The readers' Int and Text: what the calls do. -/
import Derived.Test.YtkbibdbojdbfkaaVRead
namespace Go.Proofs.Ytkbibdbojdbfkaa
set_option linter.unusedVariables false
set_option linter.unusedSimpArgs false
open Go.RowKit Plain

theorem readUint_val {w : World} {g : Nat} {l : List Nat} {e : Int} (most : Nat) (n : Int) (hn : n = (most : Int)) (hm : most < 18446744073709551616) (h : Rdr 77 w g l e) :
    Calls Try.prog 22 #[.pointer (some ⟨g, 0, none⟩), .int .u64 n] w (RetU 77 g most l e w) := by
  subst hn; exact readUint_any most hm h
theorem refReadUint_val {w : World} {g : Nat} {l : List Nat} {e : Int} (most : Nat) (n : Int) (hn : n = (most : Int)) (hm : most < 18446744073709551616) (h : Rdr 91 w g l e) :
    Calls Try.prog 84 #[.pointer (some ⟨g, 0, none⟩), .int .u64 n] w (RetU 91 g most l e w) := by
  subst hn; exact refReadUint_any most hm h
def MU : Nat := 18446744073709551615
theorem uiV_lt (most : Nat) (l : List Nat) (e : Int) : uiV most l e < 18446744073709551616 := by
  unfold uiV
  split
  · exact (rdU_bd l).1
  · omega
theorem xor0 (a : Nat) (ha : a < 9223372036854775808) : bits .xor .i64 (a : Int) 0 = (a : Int) := by
  show IntKind.i64.wrap ((BitVec.ofInt 64 (a : Int) ^^^ BitVec.ofInt 64 0).toNat : Int) = _
  have h1 : BitVec.ofInt 64 0 = 0#64 := by decide
  rw [h1, BitVec.xor_zero, ofInt_u64 a (by omega)]
  simp [IntKind.wrap, IntKind.bits, IntKind.signed]
  omega
theorem xor1 (a : Nat) (ha : a < 9223372036854775808) : bits .xor .i64 (a : Int) (-1) = -(a : Int) - 1 := by
  show IntKind.i64.wrap ((BitVec.ofInt 64 (a : Int) ^^^ BitVec.ofInt 64 (-1)).toNat : Int) = _
  have h1 : BitVec.ofInt 64 (-1) = BitVec.allOnes 64 := by decide
  rw [h1, BitVec.xor_allOnes, BitVec.toNat_not, ofInt_u64 a (by omega)]
  simp [IntKind.wrap, IntKind.bits, IntKind.signed]
  omega
def RetI (t : TypeId) (g : Nat) (l : List Nat) (e : Int) (w : World) (en : Ending) (w' : World) : Prop :=
  en = .returned (.int .i64 (zag (uiV MU l e))) ∧ (∃ l', Rdr t w' g l' (uiE MU l e) ∧ (uiE MU l e = 0 → l' = uiL l)) ∧ Only w w' g

set_option maxRecDepth 100000 in
set_option maxHeartbeats 1000000 in
theorem readInt_any {w : World} {g : Nat} {l : List Nat} {e : Int} (h : Rdr 77 w g l e) :
    Calls Try.prog 23 #[.pointer (some ⟨g, 0, none⟩)] w (RetI 77 g l e w) := by
  obtain ⟨n, hn⟩ : ∃ n, uiV MU l e = n := ⟨_, rfl⟩
  have hlt : n < 18446744073709551616 := hn ▸ uiV_lt _ _ _
  have hand : bits .and .u64 (n : Int) 1 = ((n % 2 : Nat) : Int) := by
    rw [u64_and n 1 (by omega) (by omega) (by omega) (by omega)]
    congr 1
    exact nat_mask1 n
  have hn' := Lib.hid hn
  have hx : bits .xor .i64 ((n : Int) / 2) (-((n % 2 : Nat) : Int)) = zag n := by
    have e2 : (n : Int) / 2 = ((n / 2 : Nat) : Int) := by omega
    rw [e2]
    unfold zag
    split
    · rename_i h0
      rw [h0]
      exact xor0 _ (by omega)
    · rename_i h0
      rw [show n % 2 = 1 by omega]
      exact xor1 _ (by omega)
  obtain ⟨p, hp⟩ : ∃ p, n % 2 = p := ⟨_, rfl⟩
  have hp1 : p ≤ 1 := by omega
  rw [hp] at hand hx
  clear hp hn
  go_enter Try.func23, Try.ntmps23
  go_wp2_with fail
  refine (readUint_any MU (by decide) h).mono ?_
  rintro e w1 ⟨rfl, h1, o1⟩
  rw [hn'.out]
  go_wp2
  go_ret
  exact ⟨by rw [hn'.out]; rfl, h1, o1⟩
set_option maxRecDepth 100000 in
set_option maxHeartbeats 1000000 in
theorem refReadInt_any {w : World} {g : Nat} {l : List Nat} {e : Int} (h : Rdr 91 w g l e) :
    Calls Try.prog 85 #[.pointer (some ⟨g, 0, none⟩)] w (RetI 91 g l e w) := by
  obtain ⟨n, hn⟩ : ∃ n, uiV MU l e = n := ⟨_, rfl⟩
  have hlt : n < 18446744073709551616 := hn ▸ uiV_lt _ _ _
  have hn' := Lib.hid hn
  clear hn
  go_enter Try.func85, Try.ntmps85
  go_wp2_with fail
  refine (refReadUint_any MU (by decide) h).mono ?_
  rintro e w1 ⟨rfl, h1, o1⟩
  rw [hn'.out]
  by_cases hz : n % 2 = 0
  · have hd : ((n : Int) % 2 == 0) = true := by rw [beq_iff_eq]; omega
    have hv := Lib.hid (show zag n = (n : Int) / 2 by unfold zag; rw [if_pos hz]; omega)
    clear hz
    go_wp2
    go_ret
    exact ⟨by rw [hn'.out, hv.out]; rfl, h1, o1⟩
  · have hd : ((n : Int) % 2 == 0) = false := by rw [beq_eq_false_iff_ne]; omega
    have hv := Lib.hid (show zag n = -((n : Int) / 2) - 1 by unfold zag; rw [if_neg hz]; omega)
    clear hz
    go_wp2
    go_ret
    exact ⟨by rw [hn'.out, hv.out]; rfl, h1, o1⟩

/-- What Text returns, and the error behind it. -/
def txE (most : Int) (l : List Nat) (e : Int) : Int := if e = 0 then (if uiE MU l 0 ≠ 0 then uiE MU l 0 else if most < uiV MU l 0 then 4 else if (uiL l).length < uiV MU l 0 then 1 else 0) else e
def txV (most : Int) (l : List Nat) (e : Int) : List Nat := if txE most l e = 0 then (uiL l).take (uiV MU l 0) else []
def txL (l : List Nat) : List Nat := (uiL l).drop (uiV MU l 0)
def RetT (t : TypeId) (g : Nat) (most : Int) (l : List Nat) (e : Int) (w : World) (en : Ending) (w' : World) : Prop :=
  en = .returned (.string (strOf (txV most l e))) ∧ (∃ l', Rdr t w' g l' (txE most l e) ∧ (txE most l e = 0 → l' = txL l)) ∧ Only w w' g
theorem rt_no {t : TypeId} {g : Nat} {most : Int} {l l' : List Nat} {e e' : Int} {w w' : World} (hE : txE most l e = e') (he : e' ≠ 0) (h1 : Rdr t w' g l' e') (h2 : Only w w' g) (en : Ending) (hen : en = .returned (.string ⟨#[]⟩)) : RetT t g most l e w en w' := by
  subst hE
  exact ⟨by rw [hen]; unfold txV; rw [if_neg he]; rfl, ⟨l', h1, fun h => absurd h he⟩, h2⟩
theorem rt_ok {t : TypeId} {g : Nat} {most : Int} {l l' : List Nat} {w w' : World} {s : ByteArray} (hE : txE most l 0 = 0) (h1 : Rdr t w' g l' 0) (hl : l' = txL l) (h2 : Only w w' g) (en : Ending) (hen : en = .returned (.string s)) (hs : bytes s = (uiL l).take (uiV MU l 0)) : RetT t g most l 0 w en w' := by
  refine ⟨?_, ⟨l', hE.symm ▸ h1, fun _ => hl⟩, h2⟩
  rw [hen]
  unfold txV
  rw [if_pos hE, ← hs]
  congr 2
  exact byteArray_ext (by rw [bytes_strOf (fun b hb => by
    unfold bytes at hb
    obtain ⟨x, _, rfl⟩ := List.mem_map.1 hb
    exact UInt8.toNat_lt _)])
/-- Two limits. -/
theorem uiE_lim {m : Nat} {l : List Nat} (hm : m ≤ MU) : uiE m l 0 = if uiE MU l 0 ≠ 0 then uiE MU l 0 else if m < uiV MU l 0 then 4 else 0 := by
  have hb := (rdU_bd l).1
  unfold uiV uiE
  simp only [if_true]
  by_cases h1 : (rdU l).1 = 0
  · have h2 : ¬ MU < (rdU l).2.1 := by unfold MU; omega
    simp [h1, h2]
  · simp [h1]
theorem uiV_lim {m : Nat} {l : List Nat} (hm : m ≤ MU) (h : uiE m l 0 = 0) : uiV m l 0 = uiV MU l 0 := by
  have h1 := uiE_lim (l := l) hm
  rw [h] at h1
  have h2 : uiE MU l 0 = 0 := by
    split at h1
    · omega
    · rename_i h3; exact Decidable.not_not.1 h3
  unfold uiV
  rw [if_pos h, if_pos h2]
theorem txE_lim {m : Nat} {l : List Nat} {most : Int} (hm : m ≤ MU) (h1 : most ≤ m) (h0 : most = m ∨ m = 0) (h : uiE m l 0 ≠ 0) : txE most l 0 = uiE m l 0 := by
  rw [uiE_lim hm] at h ⊢
  unfold txE
  rw [if_pos rfl]
  by_cases h2 : uiE MU l 0 = 0
  · simp only [h2, ne_eq, not_true_eq_false, if_false] at h ⊢
    by_cases h3 : m < uiV MU l 0
    · rw [if_pos h3, if_pos (by omega)]
    · rw [if_neg h3] at h; exact absurd rfl h
  · rw [if_pos h2, if_pos h2]
theorem txE_lim0 {m : Nat} {l : List Nat} {most : Int} (hm : m ≤ MU) (h : uiE m l 0 = 0) : txE most l 0 = if most < uiV m l 0 then 4 else if (uiL l).length < uiV m l 0 then 1 else 0 := by
  rw [uiV_lim hm h]
  have h1 := uiE_lim (l := l) hm
  rw [h] at h1
  have h2 : uiE MU l 0 = 0 := by
    split at h1
    · omega
    · rename_i h3; exact Decidable.not_not.1 h3
  unfold txE
  rw [if_pos rfl, if_neg (by simpa using h2)]

theorem uiE_le {m : Nat} {l : List Nat} (h : uiE m l 0 = 0) : uiV m l 0 ≤ m := by
  unfold uiV
  rw [if_pos h]
  unfold uiE at h
  rw [if_pos rfl] at h
  split at h
  · omega
  · split at h
    · omega
    · omega
set_option maxRecDepth 100000 in
set_option maxHeartbeats 1000000 in
theorem readText_any {w : World} {g : Nat} {l : List Nat} {e : Int} (most : Int) (hm1 : -9223372036854775808 ≤ most) (hm2 : most ≤ 9223372036854775807) (h : Rdr 77 w g l e) :
    Calls Try.prog 28 #[.pointer (some ⟨g, 0, none⟩), .int .i64 most] w (RetT 77 g most l e w) := by
  by_cases h0 : e = 0
  · subst h0
    have he : okE 0 = true := rfl
    obtain ⟨m, hmm, hmx, hmo, hmo2⟩ : ∃ m : Nat, Hid ((m : Int) = if 0 < most then most else 0) ∧ m < 18446744073709551616 ∧ Hid (most ≤ m) ∧ Hid (most = m ∨ m = 0) := by
      by_cases hp : 0 < most
      · exact ⟨most.toNat, by show _ = _; rw [if_pos hp]; omega, by omega, by show _ ≤ _; omega, by show _ ∨ _; omega⟩
      · exact ⟨0, by show _ = _; rw [if_neg hp]; rfl, by omega, by show _ ≤ _; omega, .inr rfl⟩
    obtain ⟨E, hE⟩ : ∃ E, uiE m l 0 = E := ⟨_, rfl⟩
    obtain ⟨n, hn⟩ : ∃ n, uiV m l 0 = n := ⟨_, rfl⟩
    have hE' := Lib.hid hE
    have hn' := Lib.hid hn
    have hnl : n < 18446744073709551616 := hn ▸ uiV_lt _ _ _
    have hA := Lib.hid (show E ≠ 0 → txE most l 0 = E from fun hne => by rw [← hE]; exact txE_lim (by unfold MU; omega) hmo.out hmo2.out (by rw [hE]; exact hne))
    have hB := Lib.hid (show E = 0 → txE most l 0 = if most < n then 4 else if (uiL l).length < n then 1 else 0 from fun he => by rw [← hn]; exact txE_lim0 (by unfold MU; omega) (hE.trans he))
    have hC := Lib.hid (show E = 0 → n = uiV MU l 0 from fun he => by rw [← hn]; exact uiV_lim (by unfold MU; omega) (hE.trans he))
    have hD := Lib.hid (show E = 0 → n ≤ m from fun he => by rw [← hn]; exact uiE_le (hE.trans he))
    clear hE hn
    by_cases hp : 0 < most
    all_goals
      have hpd : decide (0 < most) = decide (0 < most) := rfl
      first
        | (rw (occs := .pos [2]) [decide_eq_true hp] at hpd; have hm0 : Hid ((m : Int) = most) := hmm.out.trans (if_pos hp))
        | (rw (occs := .pos [2]) [decide_eq_false hp] at hpd; have hm0 : Hid ((m : Int) = 0) := hmm.out.trans (if_neg hp))
      go_enter Try.func28, Try.ntmps28
      go_wp2_with (go_at_call 68; refine (ok_any h).mono ?_; rintro e w1 ⟨rfl, rfl⟩; rw [he])
      refine (readUint_val m _ hm0.out.symm hmx h).mono ?_
      rintro e w1 ⟨rfl, ⟨l1, h1, hl1⟩, o1⟩
      rw [hn'.out]
      obtain ⟨s1, hs1, hsz1, hsl1, d0, d1, k0, k1⟩ := h1.open
      rw [hE'.out] at hl1 h1
      have hl1' := Lib.hid hl1
      clear hl1
      by_cases hE0 : E = 0
      · subst hE0
        have hl2 := Lib.hid (hl1'.out rfl)
        have htx := Lib.hid (hB.out rfl)
        have hnM := Lib.hid (hC.out rfl)
        rw [← hl2.out] at htx
        rw [hE'.out] at d1
        have hnm := hD.out rfl
        have hmo' := hmo.out
        have hm0' := hm0.out
        by_cases hneg : most < 0
        · first
            | (exfalso; omega)
            | (clear hm0'; have htx4 := Lib.hid (htx.out.trans (if_pos (by omega)))
               go_wp2_with fail
               refine (fail_any 4 h1).mono ?_
               rintro e w2 ⟨rfl, h2, o2⟩
               obtain ⟨s2, hs2, hsz2, hsl2, x0, x1, y0, y1⟩ := h2.open
               have hf4 : failE 0 4 = 4 := rfl
               rw [hf4] at x1 h2
               go_wp2
               go_ret
               exact rt_no htx4.out (by decide) h2 (o1.trans o2) _ rfl)
        · have hneg' : 0 ≤ most := by omega
          have hnl2 : ¬ most < (n : Int) := by omega
          have htx5 := Lib.hid (htx.out.trans (if_neg hnl2))
          clear hneg hnl2 htx hm0'
          by_cases hsh : s1.size < n
          · have hshd : decide (s1.size < n) = true := decide_eq_true hsh
            have htx6 := Lib.hid (htx5.out.trans (if_pos (by rw [← hsl1.out]; exact hsh)))
            clear hsh
            go_wp2_with fail
            refine (fail_any 1 h1).mono ?_
            rintro e w2 ⟨rfl, h2, o2⟩
            obtain ⟨s2, hs2, hsz2, hsl2, x0, x1, y0, y1⟩ := h2.open
            have hf4 : failE 0 1 = 1 := rfl
            rw [hf4] at x1 h2
            go_wp2
            go_ret
            exact rt_no htx6.out (by decide) h2 (o1.trans o2) _ rfl
          · have hshd : decide (s1.size < n) = false := decide_eq_false hsh
            have htx6 := Lib.hid (htx5.out.trans (if_neg (by rw [← hsl1.out]; exact hsh)))
            have hns : n ≤ s1.size := by omega
            have hset := h1.set0 (s1.extract n s1.size) (by rw [ByteArray.size_extract]; omega)
            have hle := Lib.hid (show bytes (s1.extract n s1.size) = txL l by
              rw [bytes_extract, hs1.out, List.take_of_length_le (by rw [← hsl1.out]; exact Nat.le_refl _)]
              unfold txL
              rw [hl2.out, hnM.out])
            have hle2 := Lib.hid (show bytes (s1.extract 0 n) = (uiL l).take (uiV MU l 0) by
              rw [bytes_extract, hs1.out, List.drop_zero, hl2.out, hnM.out])
            have honly := o1.set 0 (.string (s1.extract n s1.size))
            clear hsh
            go_wp2
            go_ret
            exact rt_ok htx6.out hset hle.out honly _ rfl hle2.out
      · have hEb : (E == 0) = false := by rw [beq_eq_false_iff_ne]; exact hE0
        have hEb2 : (E != 0) = true := by rw [bne_iff_ne]; exact hE0
        have htx := Lib.hid (hA.out hE0)
        rw [hE'.out] at d1
        have hE0' := Lib.hid hE0
        clear hE0
        go_wp2
        go_ret
        exact rt_no htx.out hE0'.out h1 o1 _ rfl
  · have he : okE e = false := decide_eq_false h0
    have h0' := Lib.hid h0
    have hv := Lib.hid (show txE most l e = e by unfold txE; rw [if_neg h0])
    clear h0
    go_enter Try.func28, Try.ntmps28
    go_wp2_with (go_at_call 68; refine (ok_any h).mono ?_; rintro e w1 ⟨rfl, rfl⟩; rw [he])
    go_ret
    exact rt_no hv.out h0'.out h (Only.refl w g) _ rfl

set_option maxRecDepth 100000 in
set_option maxHeartbeats 1000000 in
theorem refReadText_any {w : World} {g : Nat} {l : List Nat} {e : Int} (most : Int) (hm1 : -9223372036854775808 ≤ most) (hm2 : most ≤ 9223372036854775807) (h : Rdr 91 w g l e) :
    Calls Try.prog 86 #[.pointer (some ⟨g, 0, none⟩), .int .i64 most] w (RetT 91 g most l e w) := by
  obtain ⟨E, hE⟩ : ∃ E, uiE MU l e = E := ⟨_, rfl⟩
  obtain ⟨n, hn⟩ : ∃ n, uiV MU l e = n := ⟨_, rfl⟩
  have hE' := Lib.hid hE
  have hn' := Lib.hid hn
  have hnl : n < 18446744073709551616 := hn ▸ uiV_lt _ _ _
  have hA := Lib.hid (show E ≠ 0 → txE most l e = E from fun hne => by
    unfold txE
    by_cases h0 : e = 0
    · subst h0
      rw [if_pos rfl, hE, if_pos hne]
    · rw [if_neg h0, ← hE]
      unfold uiE
      rw [if_neg h0])
  have hB := Lib.hid (show E = 0 → e = 0 from fun he => by
    by_cases h0 : e = 0
    · exact h0
    · exfalso
      rw [← hE] at he
      unfold uiE at he
      rw [if_neg h0] at he
      exact h0 he)
  clear hE hn
  go_enter Try.func86, Try.ntmps86
  go_wp2_with fail
  refine (refReadUint_any MU (by decide) h).mono ?_
  rintro en w1 ⟨rfl, ⟨l1, h1, hl1⟩, o1⟩
  rw [hn'.out]
  rw [hE'.out] at hl1 h1
  obtain ⟨s1, hs1, hsz1, hsl1, d0, d1, k0, k1⟩ := h1.open
  have hl1' := Lib.hid hl1
  clear hl1
  by_cases hE0 : E = 0
  · have he0 := hB.out hE0
    subst hE0
    have hl2 := Lib.hid (hl1'.out rfl)
    subst he0
    have hEz := Lib.hid (hE'.out)
    have htx := Lib.hid (show txE most l 0 = if most < n then 4 else if l1.length < n then 1 else 0 by
      unfold txE
      rw [if_pos rfl, hEz.out, hn'.out, hl2.out]
      rfl)
    clear hA hB hE' hl1'
    by_cases hneg : most < 0
    · have htx4 := Lib.hid (htx.out.trans (if_pos (by omega)))
      go_wp2
      go_ret
      exact rt_no htx4.out (by decide) (h1.set1 4) (o1.set _ _) _ rfl
    · obtain ⟨m, rfl⟩ : ∃ m : Nat, most = (m : Int) := ⟨most.toNat, by omega⟩
      clear hneg
      by_cases hnm : m < n
      · have htx4 := Lib.hid (htx.out.trans (if_pos (by omega)))
        have hd : decide (m < n) = true := decide_eq_true hnm
        clear hnm
        go_wp2
        go_ret
        exact rt_no htx4.out (by decide) (h1.set1 4) (o1.set _ _) _ rfl
      · have htx5 := Lib.hid (htx.out.trans (if_neg (by omega)))
        have hd : decide (m < n) = false := decide_eq_false hnm
        clear hnm htx
        by_cases hsh : s1.size < n
        · have hshd : decide (s1.size < n) = true := decide_eq_true hsh
          have htx6 := Lib.hid (htx5.out.trans (if_pos (by rw [← hsl1.out]; exact hsh)))
          clear hsh
          go_wp2
          go_ret
          exact rt_no htx6.out (by decide) (h1.set1 1) (o1.set _ _) _ rfl
        · have hshd : decide (s1.size < n) = false := decide_eq_false hsh
          have htx6 := Lib.hid (htx5.out.trans (if_neg (by rw [← hsl1.out]; exact hsh)))
          have hns : n ≤ s1.size := by omega
          have hset := h1.set0 (s1.extract n s1.size) (by rw [ByteArray.size_extract]; omega)
          have hle := Lib.hid (show bytes (s1.extract n s1.size) = txL l by
            rw [bytes_extract, hs1.out, List.take_of_length_le (by rw [← hsl1.out]; exact Nat.le_refl _)]
            unfold txL
            rw [hl2.out, hn'.out])
          have hle2 := Lib.hid (show bytes (s1.extract 0 n) = (uiL l).take (uiV MU l 0) by
            rw [bytes_extract, hs1.out, List.drop_zero, hl2.out, hn'.out])
          have honly := o1.set 0 (.string (s1.extract n s1.size))
          clear hsh
          go_wp2
          go_ret
          exact rt_ok htx6.out hset hle.out honly _ rfl hle2.out
  · have hEb2 : (E != 0) = true := by rw [bne_iff_ne]; exact hE0
    have htx := Lib.hid (hA.out hE0)
    have hE0' := Lib.hid hE0
    clear hE0
    go_wp2
    go_ret
    exact rt_no htx.out hE0'.out h1 o1 _ rfl
end Go.Proofs.Ytkbibdbojdbfkaa
