/- natural.Sub: what the call does. -/
import Derived.Test.YtghpcimeobmonaaWCmp
namespace Go.Proofs.Ytghpcimeobmonaa
set_option linter.unusedVariables false
set_option linter.unusedSimpArgs false
open Go.RowKit Plain

def SubInv (la lb : List Nat) (w : World) (g : Nat) (c i : Value) (wr : World) : Prop :=
  ∃ (k cv : Nat) (o : List Nat), k ≤ la.length ∧ i = .int .i64 k ∧ c = .int .u64 cv ∧ cv ≤ 1 ∧ Hid (o.length = k) ∧ Dig o ∧
    Row wr g (o ++ List.replicate (la.length - k) 0) ∧ Hid (val o + val (lb.take k) = val (la.take k) + pw k * cv) ∧ Below w.heap.size w wr

/-- The result of a subtraction. -/
def RetSub (m n k : Nat) (W : World) (e : Ending) (w' : World) : Prop :=
  ∃ A c l, e = .returned (.tuple #[.slice A l.length c, .bool (decide (n ≤ m))]) ∧ Nv w' A c l ∧ NatIs l (m - n) ∧ l.length ≤ k ∧ Below W.heap.size W w'

theorem sub_wrap (da cv db : Nat) (h1 : da < 4294967296) (h2 : cv ≤ 1) (h3 : db < 4294967296) :
    ∃ x c : Nat, IntKind.u64.wrap (IntKind.u64.wrap ((da : Int) - cv) - db) % 4294967296 = (x : Int) ∧ IntKind.u64.wrap (IntKind.u64.wrap ((da : Int) - cv) - db) / 9223372036854775808 = (c : Int) ∧
      x < 4294967296 ∧ c ≤ 1 ∧ x + db + cv = da + 4294967296 * c := by
  rw [wrap_u64, wrap_u64]
  by_cases h : db + cv ≤ da
  · refine ⟨da - cv - db, 0, ?_, ?_, by omega, by omega, by omega⟩ <;> omega
  · refine ⟨da + 4294967296 - cv - db, 1, ?_, ?_, by omega, by omega, by omega⟩ <;> omega
theorem sub_wrap0 (da cv : Nat) (h1 : da < 4294967296) (h2 : cv ≤ 1) :
    ∃ x c : Nat, IntKind.u64.wrap ((da : Int) - cv) % 4294967296 = (x : Int) ∧ IntKind.u64.wrap ((da : Int) - cv) / 9223372036854775808 = (c : Int) ∧
      x < 4294967296 ∧ c ≤ 1 ∧ x + 0 + cv = da + 4294967296 * c := by
  rw [wrap_u64]
  by_cases h : cv ≤ da
  · refine ⟨da - cv, 0, ?_, ?_, by omega, by omega, by omega⟩ <;> omega
  · refine ⟨da + 4294967296 - cv, 1, ?_, ?_, by omega, by omega, by omega⟩ <;> omega

theorem sub_digit (P x a b cv y c' da db : Nat) (h : x + b = a + P * cv) (hs : y + db + cv = da + 4294967296 * c') :
    x + P * y + (b + P * db) = a + P * da + 4294967296 * P * c' := by
  have h1 : P * (y + db + cv) = P * (da + 4294967296 * c') := by rw [hs]
  rw [Nat.mul_add, Nat.mul_add, Nat.mul_add, ← Nat.mul_assoc, Nat.mul_comm P 4294967296] at h1
  omega

theorem sub_step {la lb : List Nat} {w wr : World} {g k cv : Nat} {o : List Nat} (hkl : k < la.length) (ho : Hid (o.length = k)) (hod : Dig o)
    (hrow : Row wr g (o ++ List.replicate (la.length - k) 0)) (hval : Hid (val o + val (lb.take k) = val (la.take k) + pw k * cv)) (hbel : Below w.heap.size w wr) (hg : w.heap.size ≤ g)
    (y c' : Nat) (hy : y < 4294967296) (hc : c' ≤ 1) (hs : y + lb.getD k 0 + cv = la.getD k 0 + 4294967296 * c') (xi ci i' : Int) (hx : xi = (y : Int)) (hci : ci = (c' : Int)) (hi : i' = ((k + 1 : Nat) : Int)) :
    SubInv la lb w g (.int .u64 ci) (.int .i64 i') (wr.setCell ⟨g, k, none⟩ (.int .u32 xi)) := by
  refine ⟨k + 1, c', o ++ [y], by omega, by rw [hi], by rw [hci], hc, ?_, hod.snoc hy, ?_, ?_, hbel.setCell hg _⟩
  · show (o ++ [_]).length = k + 1
    rw [List.length_append, ho.out]; rfl
  · rw [rep_succ (by omega)] at hrow
    exact hrow.push ho.out xi hx
  · show val (o ++ [_]) + _ = _ + pw (k + 1) * _
    rw [val_snoc, ho.out, val_take_succ, val_take_succ, pw]
    exact sub_digit _ _ _ _ _ _ _ _ _ hval.out hs

theorem sub_last {la lb o : List Nat} {cv : Nat} (hval : Hid (val o + val (lb.take la.length) = val (la.take la.length) + pw la.length * cv)) (ho : Hid (o.length = la.length)) (hod : Dig o) (hl : lb.length ≤ la.length) (h : val lb ≤ val la) :
    val o = val la - val lb := by
  have h1 := hval.out
  rw [val_take_ge _ _ (Nat.le_refl _), val_take_ge _ _ hl] at h1
  have h2 := val_lt hod
  rw [ho.out] at h2
  have h3 : cv = 0 := by
    rcases Nat.eq_zero_or_pos cv with h0 | h0
    · exact h0
    · have : pw la.length * 1 ≤ pw la.length * cv := Nat.mul_le_mul_left _ h0
      omega
  subst h3
  omega

set_option maxRecDepth 100000 in
set_option maxHeartbeats 400000 in
theorem sub_any (A B : Option Addr) (ca cb : Nat) (la lb : List Nat) (w : World) (ha : Nv w A ca la) (hb : Nv w B cb lb) :
    Calls Try.prog 71 #[.slice A la.length ca, .slice B lb.length cb] w (RetSub (val la) (val lb) la.length w) := by
  go_enter Try.func71, Try.ntmps71
  go_wp2_with fail
  refine (trim_nv ha).mono ?_
  rintro e w' ⟨l1, rfl, h1, n1, b1, rfl⟩
  go_wp2_with fail
  refine (trim_nv hb).mono ?_
  rintro e w' ⟨l2, rfl, h2, n2, b2, rfl⟩
  clear b2 ha hb
  have hg1 := h1.big
  have hg2 := h2.big
  go_wp2_with fail
  refine (cmp_any h1 h2).mono ?_
  rintro e w1 ⟨rfl, hb1⟩
  by_cases hlt : val la < val lb
  · have hc := Lib.hid (show cmpI (val l1) (val l2) = -1 from cmpI_lt (by rw [n1.val, n2.val]; exact hlt))
    rw [hc.out]
    clear hc
    go_wp2
    go_ret2
    refine ⟨none, 0, [], ?_, ⟨by simp, by simp, fun hx => by simp [u32s] at hx, Dig.nil⟩, ?_, by simp, hb1⟩
    · rw [decide_eq_false (show ¬ val lb ≤ val la by omega)]; rfl
    · rw [show val la - val lb = 0 by omega]; exact NatIs.nil
  · have hc : 0 ≤ cmpI (val l1) (val l2) := by
      have h := cmpI_neg_iff (val l1) (val l2)
      rw [n1.val, n2.val] at *
      omega
    have hc2 := cmpI_bd (val l1) (val l2)
    obtain ⟨c, hcc⟩ : ∃ c, c = cmpI (val l1) (val l2) := ⟨_, rfl⟩
    rw [← hcc] at hc hc2 ⊢
    clear hcc
    have hmk := make_u32 w1 l1.length .i64 (l1.length : Int) rfl (by omega)
    have hll : l2.length ≤ l1.length := by
      rcases Nat.lt_or_ge l1.length l2.length with h | h
      · have := val_lt_of_len h1.dig n2.canon h
        rw [n1.val, n2.val] at this
        omega
      · exact h
    have h1' := h1.below hb1
    have h2' := h2.below hb1
    go_wp2
    go_loopw [7, 23] (fun c i wr => SubInv l1 l2 w1 w1.heap.size c i wr) (fun _ i _ => l1.length - (intOf i).toNat)
    case atStart => exact ⟨0, 0, [], by omega, rfl, rfl, by omega, rfl, Dig.nil, Row.new _ _, rfl, (Below.refl _ _).alloc (Nat.le_refl _) _⟩
    case round =>
      obtain ⟨k, cv, o, hk, rfl, rfl, hcv, ho, hod, hrow, hval, hbel⟩ := hrel
      by_cases hkl : k < l1.length
      · have hf := hrow.free k
        obtain ⟨d0, hc0, _, _⟩ := hrow.cell' (i := k) (hod.append (Dig.replicate _)) (by rw [List.length_append, List.length_replicate, ho.out]; omega)
        obtain ⟨a, da, rfl, hab, hac, hda, hga⟩ := (h1'.below hbel).at hkl
        by_cases hkb : k < l2.length
        · obtain ⟨b, db, rfl, hbb, hbc, hdb, hgb⟩ := (h2'.below hbel).at hkb
          go_wp2
          obtain ⟨y, c', e1, e2, hy, hc', hs⟩ := sub_wrap da cv db hda hcv hdb
          go_roundw
          case rel => exact sub_step hkl ho hod hrow hval hbel (Nat.le_refl _) y c' hy hc' (by rw [hga.out, hgb.out]; exact hs) _ _ _ e1 e2 (by omega)
          case measure => simp [intOf]; omega
        · have hgb := Lib.hid (show l2.getD k 0 = 0 by rw [List.getD_eq_getElem?_getD, List.getElem?_eq_none (by omega)]; rfl)
          go_wp2
          obtain ⟨y, c', e1, e2, hy, hc', hs⟩ := sub_wrap0 da cv hda hcv
          go_roundw
          case rel => exact sub_step hkl ho hod hrow hval hbel (Nat.le_refl _) y c' hy hc' (by rw [hga.out, hgb.out]; exact hs) _ _ _ e1 e2 (by omega)
          case measure => simp [intOf]; omega
      · obtain rfl : k = l1.length := by omega
        have hfin := Lib.hid (sub_last hval ho hod hll (by rw [n1.val, n2.val]; omega))
        have hrow2 : Row wr w1.heap.size o := hrow.eq (by simp)
        go_wp2_with fail
        refine (trim_row hrow2 ho.out hod (by omega)).mono ?_
        rintro e w2 ⟨l', rfl, h3, h4, h5, rfl⟩
        go_wp2
        go_ret2
        refine ⟨_, _, l', ?_, h3, ?_, by omega, hb1.trans (hbel.mono hb1.size)⟩
        · rw [decide_eq_true (show val lb ≤ val la by omega)]; rfl
        · rw [hfin.out, n1.val, n2.val] at h4; exact h4
end Go.Proofs.Ytghpcimeobmonaa
