/- The reference's Parse: what the call does. -/
import Derived.Test.YtghpcimeobmonaaWRef8
import Derived.Deep.RegionHeld3
import Derived.Deep.DrawnRows
namespace Go.Proofs.Ytghpcimeobmonaa
set_option linter.unusedVariables false
set_option linter.unusedSimpArgs false
open Go.RowKit Plain
attribute [local go_sem ↓] Go.wp_at_zero Go.wp_at_succ

theorem retPar_errB {l : List Nat} {w W : World} {n : Nat} (h : parErr l = n) (h0 : n ≠ 0) (v : Value) (hv : v = .tuple #[.slice none 0 0, .int .i64 (n : Int)]) (hb : Below W.heap.size W w) : RetPar l W (.returned v) w :=
  ⟨none, 0, [], by rw [hv, h]; rfl, nv_nil' _, by unfold parVal; rw [if_neg (by rw [h]; exact h0)]; exact NatIs.nil, by simp, hb⟩
theorem decVal_take (l : List Nat) (k : Nat) (hk : k < l.length) : decVal (l.take (k + 1)) = 10 * decVal (l.take k) + (l.getD k 0 - 48) := by rw [take_snoc' l k hk, decVal_snoc]
theorem decVal_lt10 : ∀ (k : Nat) (l : List Nat), l.length = k → l.all isDec = true → decVal l < 10 ^ k
  | 0, l, h, _ => by rw [List.eq_nil_of_length_eq_zero h]; decide
  | k + 1, l, h, ha => by
    have h1 := decVal_take l k (by omega)
    rw [List.take_of_length_le (by omega)] at h1
    have h2 := decVal_lt10 k (l.take k) (by rw [List.length_take]; omega) (by
      rw [List.all_eq_true] at ha ⊢
      exact fun x hx => ha x (List.mem_of_mem_take hx))
    have h3 := all_get l k (by omega) ha
    rw [Nat.pow_succ, h1]
    omega
theorem ten_le_pw (k : Nat) : 10 ^ k ≤ pw k := by
  induction k with
  | zero => simp [pw]
  | succ k ih => rw [Nat.pow_succ, pw]; omega
theorem dec_len {l t : List Nat} {k : Nat} (h : NatIs l (decVal t)) (ht : t.length = k) (ha : t.all isDec = true) : l.length ≤ k :=
  length_le_of_lt h.canon (by rw [h.val]; exact Nat.lt_of_lt_of_le (decVal_lt10 k t ht ha) (ten_le_pw k))
theorem refFromUint_val (x : Nat) (n : Int) (w : World) (hn : n = (x : Int)) (hx : x < pw 2) : Calls Try.prog 66 #[.int .u64 n] w (RetNat x 2 w) := by
  subst hn; exact refFromUint_any x w hx
theorem refScale10 (A : Option Addr) (ca : Nat) (la : List Nat) (w : World) (ha : Nv w A ca la) (hna : la.length ≤ 5000000000) :
    Calls Try.prog 80 #[.slice A la.length ca, .int .u64 10] w (RetNat (val la * 10) (la.length + 1) w) := refScale_any A ca 10 la w ha hna (by decide)
def RPaInv (l : List Nat) (w : World) (v i : Value) (wr : World) : Prop :=
  ∃ (k c : Nat) (A : Option Addr) (r : List Nat), k ≤ l.length ∧ i = .int .i64 (k : Int) ∧ v = .slice A r.length c ∧ Nv wr A c r ∧ Hid (NatIs r (decVal (l.take k))) ∧ r.length ≤ k ∧ Hid ((l.take k).all isDec = true) ∧
    Hid (0 < k → ¬ (l.getD 0 0 = 48 ∧ 1 < l.length)) ∧ Below w.heap.size w wr

set_option maxRecDepth 100000 in
set_option maxHeartbeats 2000000 in
theorem refParse_any (s : ByteArray) (w : World) (hs : s.size ≤ 9223372036854775807) :
    Calls Try.prog 54 #[.string s] w (RetPar (bytes s) w) := by
  have hbl := Lib.hid (bytes_length s)
  have he := isEmpty_of s
  by_cases h0 : s.size = 0
  · rw [decide_eq_true h0] at he
    have hr := Lib.hid (show parErr (bytes s) = 1 by unfold parErr; rw [if_pos ((bytes_nil s).2 h0)])
    clear h0
    go_enter Try.func54, Try.ntmps54
    go_wp2
    go_ret2
    exact retPar_err hr.out (by decide) _ rfl
  rw [decide_eq_false h0] at he
  have hnn := Lib.hid (show bytes s ≠ [] from fun e => h0 ((bytes_nil s).1 e))
  by_cases h600 : 600 < s.size
  · have hr := Lib.hid (show parErr (bytes s) = 3 by unfold parErr; rw [if_neg hnn.out, if_pos (by rw [hbl.out]; exact h600)])
    have h600' : decide (600 < s.size) = true := decide_eq_true h600
    go_enter Try.func54, Try.ntmps54
    go_wp2
    go_ret2
    exact retPar_err hr.out (by decide) _ rfl
  have h600' : decide (600 < s.size) = false := decide_eq_false h600
  have h600i : decide ((600 : Int) < (s.size : Int)) = false := decide_eq_false (by omega)
  have hs6 : s.size ≤ 600 := by omega
  have hsp : 0 < s.size := by omega
  have hn6 := Lib.hid (show ¬ 600 < (bytes s).length by rw [hbl.out]; exact h600)
  clear h600 h0
  go_enter Try.func54, Try.ntmps54
  go_wp2
  go_loopw [4, 5] (fun v i wr => RPaInv (bytes s) w v i wr) (fun _ i _ => s.size - (intOf i).toNat)
  case atStart => exact ⟨0, 0, none, [], by omega, rfl, rfl, nv_nil' _, NatIs.nil, by simp, rfl, fun h => absurd h (by omega), Below.refl _ _⟩
  case round =>
    obtain ⟨k, c, A, r, hk, rfl, rfl, hv, hnat, hrl, hall, hlead, hbel⟩ := hrel
    rw [hbl.out] at hk
    by_cases hlt : k < s.size
    · have hbk := Lib.hid (bytes_get s k hlt)
      obtain ⟨b, hb⟩ : ∃ b : Nat, (s[k]).toNat = b := ⟨_, rfl⟩
      have hb' := Lib.hid hb
      by_cases hdec : isDec b = true
      · have hd2 : 48 ≤ b ∧ b ≤ 57 := by
          unfold isDec at hdec
          simpa using hdec
        have hall2 := Lib.hid (all_take_succ _ k (by rw [hbl.out]; exact hlt) hall.out (by rw [hbk.out, hb]; exact hdec))
        have hd48 : decide ((b : Int) < 48) = false := decide_eq_false (by omega)
        have hd57 : decide ((57 : Int) < (b : Int)) = false := decide_eq_false (by omega)
        clear hdec
        by_cases hbad : k = 0 ∧ b = 48 ∧ 1 < s.size
        · obtain ⟨rfl, rfl, h1s⟩ := hbad
          have hr := Lib.hid (show parErr (bytes s) = 2 by
            unfold parErr
            rw [if_neg hnn.out, if_neg hn6.out]
            split
            · rfl
            · rw [if_pos ⟨by rw [hbk.out, hb'.out], by rw [hbl.out]; exact h1s⟩])
          have h1d : decide ((1 : Int) < (s.size : Int)) = true := decide_eq_true (by omega)
          have h1e : decide (1 < s.size) = true := decide_eq_true h1s
          go_wp2
          go_ret2
          exact retPar_errB hr.out (by decide) _ rfl hbel
        · have hld := Lib.hid (show 0 < k + 1 → ¬ ((bytes s).getD 0 0 = 48 ∧ 1 < (bytes s).length) from fun _ => by
            rcases Nat.eq_zero_or_pos k with h | h
            · subst h
              rw [hbk.out, hb, hbl.out]
              exact fun e => hbad ⟨rfl, e.1, e.2⟩
            · exact hlead.out h)
          have hdv := Lib.hid (show decVal ((bytes s).take (k + 1)) = decVal ((bytes s).take k) * 10 + (b - 48) by
            rw [decVal_take _ _ (by rw [hbl.out]; exact hlt), hbk.out, hb, Nat.mul_comm])
          obtain ⟨d, hd, hdi⟩ : ∃ d : Nat, Hid (b - 48 = d) ∧ (b : Int) - 48 = (d : Int) := ⟨_, rfl, by omega⟩
          have hdp : d < pw 2 := by have := hd.out; simp only [pw]; omega
          have hw1 : IntKind.u64.wrap ((b : Int) - 48) = (d : Int) := by rw [hdi, wrap_u64]; have := hd.out; omega
          have hw0 : IntKind.u64.wrap (b : Int) = (b : Int) := by rw [wrap_u64]; omega
          have hw2 : IntKind.u64.wrap (d : Int) = (d : Int) := by rw [wrap_u64]; have := hd.out; omega
          obtain ⟨nk, hnk⟩ : ∃ nk, Hid (nk = k + 1) := ⟨_, rfl⟩
          have hi0 : (0 : Int) ≤ (k : Int) := by omega
          have hi1 : (k : Int) < (s.size : Int) := by omega
          have hvd : Nv wr.drew A c r := hv.below ((Below.refl _ _).drew)
          have hbd := hbel.drew
          have hlead' : k = 0 → b = 48 → ¬ 1 < s.size := fun h1 h2 h3 => hbad ⟨h1, h2, h3⟩
          clear hbad
          have hk0d : (((k : Nat) : Int) == 0) = decide (k = 0) := by rw [Bool.eq_iff_iff, beq_iff_eq, decide_eq_true_eq]; omega
          have hb48 : ((b : Int) == 48) = decide (b = 48) := by rw [Bool.eq_iff_iff, beq_iff_eq, decide_eq_true_eq]; omega
          have h1s : decide ((1 : Int) < (s.size : Int)) = decide (1 < s.size) := by rw [decide_eq_decide]; omega
          by_cases hk0 : k = 0
          all_goals
            by_cases hb0 : b = 48
            all_goals
              first
                | (rw [decide_eq_true hk0] at hk0d
                   subst hk0
                   first
                     | (rw [decide_eq_true hb0] at hb48; rw [decide_eq_false (hlead' rfl hb0)] at h1s; have h1s' : decide (1 < s.size) = false := decide_eq_false (hlead' rfl hb0))
                     | rw [decide_eq_false hb0] at hb48)
                | (rw [decide_eq_false hk0] at hk0d; clear hb48 h1s)
              clear hb0 hlead'
              go_wp2
              go_region_held3 (fun _ => True) (trivial) (first
                | (go_at_call 80; (with_reducible refine (refScale10 _ _ r _ hvd (by omega)).mono ?_); rintro e w1 ⟨A1, c1, l1, rfl, n1, i1, m1, b1⟩; have i1' := Lib.hid i1; clear i1)
                | (go_at_call 65; (with_reducible refine (refAdd_any _ _ _ _ _ _ _ (n1.below b2) n2 (by omega) (by omega)).mono ?_); rintro e w3 ⟨A3, c3, l3, rfl, n3, i3, m3, b3⟩; have i3' := Lib.hid i3; clear i3)
                | (go_at_call 66; (with_reducible refine (refFromUint_val d _ _ (by first | rfl | assumption | omega) hdp).mono ?_); rintro e w2 ⟨A2, c2, l2, rfl, n2, i2, m2, b2⟩; have i2' := Lib.hid i2; clear i2))
              all_goals
                have hnat3 : NatIs l3 (decVal ((bytes s).take nk)) := by
                  rw [hnk.out, hdv.out, hd.out, ← hnat.out.val, ← i1'.out.val, ← i2'.out.val]; exact i3'.out
                have hall3 : ((bytes s).take nk).all isDec = true := by rw [hnk.out]; exact hall2.out
                have hlen3 : l3.length ≤ nk := dec_len hnat3 (by rw [List.length_take, hbl.out]; have := hnk.out; omega) hall3
                have hnat3' := Lib.hid hnat3
                have hall3' := Lib.hid hall3
                clear hnat3 hall3
                go_wp2
                refine ⟨⟨nk, c3, A3, l3, ?_, ?_, rfl, n3, hnat3'.out, hlen3, hall3'.out, fun _ => hld.out (by omega), ?_⟩, ?_⟩
                · have := hnk.out; rw [hbl.out]; omega
                · have := hnk.out; congr 1; omega
                · exact ((hbd.trans (b1.mono hbd.size)).trans (b2.mono (Nat.le_trans hbd.size b1.size))).trans (b3.mono (Nat.le_trans (Nat.le_trans hbd.size b1.size) b2.size))
                · simp [intOf]; omega
      · have hr := Lib.hid (show parErr (bytes s) = 2 by
          unfold parErr
          rw [if_neg hnn.out, if_neg hn6.out, if_pos (not_all _ k (by rw [hbl.out]; exact hlt) (by rw [hbk.out, hb]; exact eq_false_of_ne_true hdec))])
        have hd2 : b < 48 ∨ 57 < b := by
          unfold isDec at hdec
          simp at hdec
          omega
        clear hdec
        by_cases h48 : b < 48
        · have hd48 : decide ((b : Int) < 48) = true := decide_eq_true (by omega)
          clear hd2
          go_wp2
          go_ret2
          exact retPar_errB hr.out (by decide) _ rfl hbel
        · have hd48 : decide ((b : Int) < 48) = false := decide_eq_false (by omega)
          have hd57 : decide ((57 : Int) < (b : Int)) = true := decide_eq_true (by omega)
          clear hd2 h48
          go_wp2
          go_ret2
          exact retPar_errB hr.out (by decide) _ rfl hbel
    · obtain rfl : k = s.size := by omega
      have hall2 := Lib.hid (show (bytes s).all isDec = true by
        have := hall.out
        rw [List.take_of_length_le (by rw [hbl.out]; exact Nat.le_refl _)] at this
        exact this)
      have hr := Lib.hid (show parErr (bytes s) = 0 by
        unfold parErr
        rw [if_neg hnn.out, if_neg hn6.out, if_neg (by rw [hall2.out]; decide), if_neg (hlead.out hsp)])
      have hn2 := Lib.hid (show NatIs r (parVal (bytes s)) by
        have h := hnat.out
        rw [List.take_of_length_le (by rw [hbl.out]; exact Nat.le_refl _)] at h
        unfold parVal
        rw [if_pos hr.out]; exact h)
      go_wp2
      go_ret2
      exact ⟨A, c, r, by rw [hr.out]; rfl, hv, hn2.out, by omega, hbel⟩
end Go.Proofs.Ytghpcimeobmonaa
