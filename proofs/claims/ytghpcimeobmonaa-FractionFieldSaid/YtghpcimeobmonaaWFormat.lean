/- natural.Format: what the call does. -/
import Derived.Test.YtghpcimeobmonaaAppB
import Derived.Test.YtghpcimeobmonaaWSmall
import Derived.Test.YtghpcimeobmonaaDec
namespace Go.Proofs.Ytghpcimeobmonaa
set_option linter.unusedVariables false
set_option linter.unusedSimpArgs false
open Go.RowKit Plain

def asc (l : List Nat) : List Nat := l.map (48 + ·)
theorem asc_append (a b : List Nat) : asc (a ++ b) = asc a ++ asc b := by simp [asc]
theorem asc_length (a : List Nat) : (asc a).length = a.length := by simp [asc]
def ForInv (n N : Nat) (w : World) (g : Nat) (a v : Value) (wr : World) : Prop :=
  ∃ (A : Option Addr) (c : Nat) (l bk : List Nat) (x : Nat), a = .slice A l.length c ∧ Nv wr A c l ∧ NatIs l x ∧ l.length ≤ 10000 ∧ g = x ∧ OwnB wr w.heap.size v (asc bk) ∧ Hid (decR n = bk ++ decR x) ∧ bk.length ≤ N ∧ Below w.heap.size w wr
def ForInv2 (n q : Nat) (A : Option Addr) (c : Nat) (l : List Nat) (w : World) (v r i : Value) (wr : World) : Prop :=
  ∃ (k rv : Nat) (bk : List Nat), k ≤ 9 ∧ i = .int .i64 (k : Int) ∧ r = .int .u32 (rv : Int) ∧ Hid (rv < 10 ^ (9 - k)) ∧ OwnB wr w.heap.size v (asc bk) ∧ Hid (decR n = bk ++ decR (q * 10 ^ (9 - k) + rv)) ∧ Nv wr A c l ∧ (0 < l.length → U32Blk wr A) ∧ Below w.heap.size w wr

theorem for_len {n N : Nat} {bk t : List Nat} (h : decR n = bk ++ t) (hN : (decR n).length ≤ N) : bk.length ≤ N := by
  rw [h, List.length_append] at hN; omega

theorem for_keep {w w' : World} {A : Option Addr} {c base : Nat} {q l : List Nat} {v : Value} {ob : Obj} (h : Nv w A c q) (hu : 0 < q.length → U32Blk w A) (hb : OwnB w base v l) (hg : (w.alloc ob).grownBy w' v.ownBlock) : Nv w' A c q := by
  rcases Nat.eq_zero_or_pos q.length with h0 | h0
  · exact ⟨h.len, h.big, fun hx => by rw [u32s_length] at hx; omega, h.dig⟩
  · exact (nv_besides h (hu h0) hb hg).1
theorem for_keep' {w w' : World} {A : Option Addr} {c base : Nat} {q l : List Nat} {v : Value} {ob : Obj} (h : Nv w A c q) (hu : 0 < q.length → U32Blk w A) (hb : OwnB w base v l) (hg : (w.alloc ob).grownBy w' v.ownBlock) : 0 < q.length → U32Blk w' A :=
  fun h0 => (nv_besides h (hu h0) hb hg).2 h0
theorem rev_take (l : List Nat) (k m d : Nat) (hl : l.length = m) (hk : k < m) (hd : l.getD (m - 1 - k) 0 = d) : l.reverse.take k ++ [d] = l.reverse.take (k + 1) := by
  rw [take_snoc' l.reverse k (by rw [List.length_reverse]; omega)]
  congr 2
  rw [← hd, List.getD_eq_getElem?_getD, List.getD_eq_getElem?_getD, List.getElem?_reverse (by omega), hl]
def RevInv (l : List Nat) (m : Nat) (w : World) (v i : Value) (wr : World) : Prop :=
  ∃ k : Nat, k ≤ m ∧ i = .int .i64 (k : Int) ∧ OwnB wr w.heap.size v (l.reverse.take k) ∧ Below w.heap.size w wr

set_option maxRecDepth 100000 in
set_option maxHeartbeats 1000000 in
theorem format_any {A : Option Addr} {ca : Nat} {la : List Nat} {w : World} (ha : Nv w A ca la) (hna : la.length ≤ 10000) :
    Calls Try.prog 48 #[.slice A la.length ca] w fun e w' => e = .returned (.string (strOf (decs (val la)))) ∧ Below w.heap.size w w' := by
  go_enter Try.func48, Try.ntmps48
  go_wp2_with fail
  refine (trim_nv ha).mono ?_
  rintro e w' ⟨l1, rfl, h1, n1, b1, rfl⟩
  have hg1 := h1.big
  rcases Nat.eq_zero_or_pos l1.length with h0 | h0
  · have hv := Lib.hid (show strOf (decs (val la)) = ⟨#[48]⟩ by rw [n1.zero_iff.1 (List.eq_nil_of_length_eq_zero h0)]; rfl)
    have hz : (((l1.length : Nat) : Int) == 0) = true := by rw [beq_iff_eq]; omega
    clear h0
    go_wp2
    go_ret
    refine ⟨?_, Below.refl _ _⟩
    rw [hv.out]; rfl
  have hv0 := Lib.hid (show val la ≠ 0 from fun e => by
    have := n1.zero_iff.2 e
    rw [this] at h0; simp at h0)
  have hz : (((l1.length : Nat) : Int) == 0) = false := by rw [beq_eq_false_iff_ne]; omega
  have hlen := Lib.hid (show (decR (val la)).length ≤ 100000 by
    have := decR_len (n := val la) (k := l1.length) (by rw [← n1.val]; exact val_lt h1.dig)
    omega)
  clear h0
  go_wp2
  go_loopg [0, 3] (val la) (fun g a v wr => ForInv (val la) 100000 w g a v wr)
  case atStart => exact ⟨A, _, l1, [], val la, rfl, h1, n1, by omega, rfl, OwnB.nil _ _, rfl, by simp, Below.refl _ _⟩
  case round =>
    obtain ⟨A, c, l, bk, x, rfl, hl, nl, hl4, rfl, hown, hdec, hbk, hbel⟩ := hrel
    have hg2 := hl.big
    by_cases hz1 : l.length = 0
    · have hx := Lib.hid (show gk = 0 from nl.zero_iff.1 (List.eq_nil_of_length_eq_zero hz1))
      have hd : decide (0 < l.length) = false := decide_eq_false (by omega)
      clear hz1
      obtain ⟨A5, c5, rfl, hoc, hrb⟩ := hown.form
      have hbl := Lib.hid (show bk = decR (val la) by rw [hdec.out, hx.out, decR_zero, List.append_nil])
      have hbl2 : bk.length ≤ 100000 := hbk
      obtain ⟨m, hm⟩ : ∃ m, Hid ((asc bk).length = m) := ⟨_, rfl⟩
      have hmb : m ≤ 100000 := by rw [← hm.out, asc_length]; exact hbl2
      rw [hm.out]
      have hmk := make_bytes wr m (m : Int) rfl (by omega)
      have hbel1 := hbel.alloc hbel.size (.cells (madeCells #[.int .u8 0] m) 5)
      have hown0 := OwnB.made wr m (by omega) wr.heap.size (Nat.le_refl _)
      have hbelr := (Below.refl wr.heap.size wr).alloc (Nat.le_refl _) (.cells (madeCells #[.int .u8 0] m) 5)
      go_wp2
      obtain ⟨wo, rfl⟩ : ∃ wo : World, wo = wr := ⟨_, rfl⟩
      go_loopw [5, 44] (fun v i wq => RevInv (asc bk) m wo v i wq) (fun _ i _ => m - (intOf i).toNat)
      case atStart => exact ⟨0, by omega, rfl, hown0, hbelr⟩
      case round =>
        obtain ⟨k, hk, rfl, hownk, hbelk⟩ := hrel
        have hrdk : RdB wr A5 (asc bk) := hrb.below hbelk
        by_cases hkm : k < m
        · obtain ⟨a, d, rfl, hab, hac, hda⟩ := hrdk.at (k := m - 1 - k) (by rw [hm.out]; omega)
          have hkd : decide ((k : Int) < (m : Int)) = true := decide_eq_true (by omega)
          have hkd2 : decide (k < m) = true := decide_eq_true hkm
          have hrd := (rowB_alloc wr (cs := #[Value.int .u8 (d : Int)]) (l := [d]) rfl).rd
          have hlk := Lib.hid (show ((asc bk).reverse.take k).length = k by rw [List.length_take, List.length_reverse, hm.out]; omega)
          have hnx := Lib.hid (rev_take (asc bk) k m d hm.out hkm hda.out)
          go_wp2_with (at_builtin; refine wpList_appB _ rfl rfl _ _ rfl wo.heap.size _ ((asc bk).reverse.take k) rfl (hownk.alloc _) (some ⟨wr.heap.size, 0, none⟩) 1 1 [d] rfl hrd rfl ?_ ?_ ?_; (rw [hlk.out]; omega); (have := hbelk.size; simp; omega); intro v' w4 hown4 hgrow4)
          go_roundw
          case rel => exact ⟨k + 1, by omega, rfl, hown4.eq hnx.out, own_snocB hownk hbelk hown4 hgrow4⟩
          case measure => simp [intOf]; omega
        · obtain rfl : k = m := by omega
          have hkd : decide ((k : Int) < (k : Int)) = false := decide_eq_false (by omega)
          have hkd2 : decide (k < k) = false := decide_eq_false (by omega)
          have hlk := Lib.hid (show ((asc bk).reverse.take k).length = k by rw [List.length_take, List.length_reverse, hm.out]; omega)
          have hownf : OwnB wr wo.heap.size u5 (asc bk).reverse := hownk.eq (by rw [List.take_of_length_le (by rw [List.length_reverse, hm.out]; exact Nat.le_refl _)])
          obtain ⟨A6, c6, e6, hoc6, hrb6⟩ := hownf.form
          rw [List.length_reverse, hm.out] at e6
          subst e6
          have hcv := conv_bytes wr A6 k c6 _ hrb6 (by rw [List.length_reverse, hm.out])
          have hst := Lib.hid (show strOf (asc bk).reverse = strOf (decs (val la)) by
            unfold decs
            rw [if_neg hv0.out, ← hbl.out]
            unfold asc
            rw [List.map_reverse])
          go_wp2
          go_ret
          refine ⟨?_, hbel.trans (hbelk.mono hbel.size)⟩
          rw [← hst.out]; rfl
    · have hx := Lib.hid (show gk ≠ 0 from fun e => hz1 (by rw [nl.zero_iff.2 e]; rfl))
      have hd : decide (0 < l.length) = true := decide_eq_true (by omega)
      clear hz1
      go_wp2_with fail
      refine (small_any _ _ 1000000000 l _ hl (by omega) (by omega) (by omega)).mono ?_
      rintro e w2 ⟨A2, c2, q, rfl, hq, nq, hql, hb2, hu2⟩
      rw [nl.val] at nq ⊢
      obtain ⟨r, hr⟩ : ∃ r, Hid (r = gk % 1000000000) := ⟨_, rfl⟩
      rw [← hr.out]
      have hrb : r < 1000000000 := by rw [hr.out]; omega
      obtain ⟨y, hy⟩ : ∃ y, Hid (y = gk / 1000000000) := ⟨_, rfl⟩
      rw [← hy.out] at nq
      have hown2 := hown.below (hb2.mono (Nat.le_refl _))
      have hbel2 := hbel.trans (hb2.mono hbel.size)
      have hyx := Lib.hid (show gk = y * 10 ^ 9 + r by rw [hy.out, hr.out]; omega)
      have hylt := Lib.hid (show y < gk by have := hx.out; rw [hy.out]; omega)
      clear hb2 hown hl
      go_wp2
      go_loopw [3, 4, 20] (fun v r i wx => ForInv2 (val la) y A2 c2 q w v r i wx) (fun _ _ i _ => 9 - (intOf i).toNat)
      case atStart => exact ⟨0, r, bk, by omega, rfl, rfl, by show _ < _; simp; omega, hown2, by show _ = _; rw [hdec.out, hyx.out], hq, fun _ => hu2, hbel2⟩
      case round =>
        obtain ⟨k, rv, bk2, hk, rfl, rfl, hrv, hown3, hdec3, hq3, hu3, hbel3⟩ := hrel
        have hq3b := hq3.big
        by_cases hk9 : k = 9
        · subst hk9
          have hrv0 := Lib.hid (show rv = 0 by have := hrv.out; simp at this; exact this)
          have hdec4 := Lib.hid (show decR (val la) = bk2 ++ decR y by rw [hdec3.out, hrv0.out]; simp)
          go_wp2
          go_roundg y
          case measure => exact hylt.out
          case rel => exact ⟨A2, c2, q, bk2, y, rfl, hq3, nq, by omega, rfl, hown3, hdec4.out, for_len hdec4.out hlen.out, hbel3⟩
        · have hk8 : k < 9 := by omega
          have hk8d : decide ((k : Int) < 9) = true := decide_eq_true (by omega)
          clear hk9
          have hrvb : rv < 1000000000 := by
            have h1 : 10 ^ (9 - k) ≤ 10 ^ 9 := Nat.pow_le_pow_right (by omega) (by omega)
            have h2 := hrv.out
            simp only [Nat.reducePow] at h1
            omega
          by_cases hbr : q.length = 0 ∧ rv = 0
          · have hy0 := Lib.hid (show y = 0 from nq.zero_iff.1 (List.eq_nil_of_length_eq_zero hbr.1))
            have hdec4 := Lib.hid (show decR (val la) = bk2 ++ decR y by rw [hdec3.out, hy0.out, hbr.2]; simp)
            have hz1 : (((q.length : Nat) : Int) == 0) = true := by rw [beq_iff_eq]; omega
            obtain ⟨_, hrv0⟩ := hbr
            subst hrv0
            go_wp2
            go_roundg y
            case measure => exact hylt.out
            case rel => exact ⟨A2, c2, q, bk2, y, rfl, hq3, nq, by omega, rfl, hown3, hdec4.out, for_len hdec4.out hlen.out, hbel3⟩
          · have hnz : ¬ (y = 0 ∧ rv = 0) := fun e => hbr ⟨by rw [nq.zero_iff.2 e.1]; rfl, e.2⟩
            have hst := Lib.hid (chunk_step (k := 8 - k) hnz)
            have hdec4 := Lib.hid (show decR (val la) = (bk2 ++ [rv % 10]) ++ decR (y * 10 ^ (9 - (k + 1)) + rv / 10) by
              rw [hdec3.out, show 9 - k = 8 - k + 1 by omega, hst.out, show 9 - (k + 1) = 8 - k by omega]; simp)
            have hl3 := Lib.hid (for_len hdec4.out hlen.out)
            have hrv4 := Lib.hid (show rv / 10 < 10 ^ (9 - (k + 1)) by
              have e : 10 ^ (9 - (k + 1)) * 10 = 10 ^ (9 - k) := by rw [← Nat.pow_succ]; congr 1; omega
              rw [Nat.div_lt_iff_lt_mul (by omega), e]; exact hrv.out)
            have hcs : (#[Value.int .u8 (48 + (rv : Int) % 10)] : Array Value) = (u8s [48 + rv % 10]).toArray := by simp [u8s]
            have hrd := (rowB_alloc wr hcs).rd
            clear hcs hnz
            by_cases hq0 : q.length = 0
            all_goals
              first
                | (have hz1 : (((q.length : Nat) : Int) == 0) = true := by rw [beq_iff_eq]; omega
                   have hz2 : ((rv : Int) == 0) = false := by rw [beq_eq_false_iff_ne]; omega)
                | (have hz1 : (((q.length : Nat) : Int) == 0) = false := by rw [beq_eq_false_iff_ne]; omega)
              clear hbr hq0
              go_wp2_with (at_builtin; refine wpList_appB _ rfl rfl _ _ rfl w.heap.size _ (asc bk2) rfl (hown3.alloc _) (some ⟨wr.heap.size, 0, none⟩) 1 1 [48 + rv % 10] rfl hrd rfl ?_ ?_ ?_; (have := hl3.out; rw [asc_length]; simp at this; omega); (have := hbel3.size; simp; omega); intro v' w4 hown4 hgrow4)
              go_roundw
              case rel => exact ⟨k + 1, rv / 10, bk2 ++ [rv % 10], by omega, rfl, by congr 1, hrv4.out, hown4.eq (by rw [asc_append]; rfl), hdec4.out, for_keep hq3 hu3 hown3 hgrow4, for_keep' hq3 hu3 hown3 hgrow4, own_snocB hown3 hbel3 hown4 hgrow4⟩
              case measure => simp [intOf]; omega
end Go.Proofs.Ytghpcimeobmonaa
