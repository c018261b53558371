/- Contracts of functions. -/
import Derived.Test.YtghpcimeobmonaaWTrim
namespace Go.Proofs.Ytghpcimeobmonaa
set_option linter.unusedVariables false
set_option linter.unusedSimpArgs false
open Go.RowKit Plain

def AddInv (la lb : List Nat) (w : World) (c i : Value) (wr : World) : Prop :=
  ∃ (k cv : Nat) (o : List Nat), k ≤ la.length ∧ i = .int .i64 k ∧ c = .int .u64 cv ∧ cv ≤ 1 ∧ Hid (o.length = k) ∧ Dig o ∧
    Row wr w.heap.size (o ++ List.replicate (la.length + 1 - k) 0) ∧ Hid (val o + pw k * cv = val (la.take k) + val (lb.take k)) ∧ Below w.heap.size w wr

theorem add_digit (P x s a b cv : Nat) (h : x + P * cv = a + b) (da db : Nat) (hs : s = da + cv + db) :
    x + P * (s % 4294967296) + 4294967296 * P * (s / 4294967296) = a + P * da + (b + P * db) := by
  have h1 : P * s = P * (s % 4294967296) + 4294967296 * P * (s / 4294967296) := by
    rw [Nat.mul_comm 4294967296 P, Nat.mul_assoc, ← Nat.mul_add, Nat.mod_add_div]
  have h2 : P * s = P * da + P * cv + P * db := by rw [hs, Nat.mul_add, Nat.mul_add]
  omega

theorem add_step {la lb : List Nat} {w wr : World} {k cv : Nat} {o : List Nat} (hkl : k < la.length) (hcv : cv ≤ 1) (ho : Hid (o.length = k)) (hod : Dig o)
    (hrow : Row wr w.heap.size (o ++ List.replicate (la.length + 1 - k) 0)) (hval : Hid (val o + pw k * cv = val (la.take k) + val (lb.take k))) (hbel : Below w.heap.size w wr)
    (s : Nat) (hs : s = la.getD k 0 + cv + lb.getD k 0) (hs2 : s / 4294967296 ≤ 1) (x c' i' : Int) (hx : x = ((s % 4294967296 : Nat) : Int)) (hc : c' = ((s / 4294967296 : Nat) : Int)) (hi : i' = ((k + 1 : Nat) : Int)) :
    AddInv la lb w (.int .u64 c') (.int .i64 i') (wr.setCell ⟨w.heap.size, k, none⟩ (.int .u32 x)) := by
  refine ⟨k + 1, s / 4294967296, o ++ [s % 4294967296], by omega, by rw [hi], by rw [hc], hs2, ?_, hod.snoc (Nat.mod_lt _ (by omega)), ?_, ?_, hbel.setCell (Nat.le_refl _) _⟩
  · show (o ++ [_]).length = k + 1
    rw [List.length_append, ho.out]; rfl
  · rw [rep_succ (by omega)] at hrow
    exact hrow.push ho.out x hx
  · show val (o ++ [_]) + pw (k + 1) * _ = _
    rw [val_snoc, ho.out, val_take_succ, val_take_succ, pw]
    exact add_digit _ _ _ _ _ _ hval.out _ _ hs

theorem add_last {la lb o : List Nat} {cv : Nat} (hval : Hid (val o + pw la.length * cv = val (la.take la.length) + val (lb.take la.length))) (ho : Hid (o.length = la.length)) (hl : lb.length ≤ la.length) :
    val (o ++ [cv]) = val la + val lb := by
  rw [val_snoc, ho.out, hval.out, val_take_ge _ _ (Nat.le_refl _), val_take_ge _ _ hl]
theorem add_full {la o : List Nat} {wr : World} {g cv : Nat} (hrow : Row wr g (o ++ List.replicate (la.length + 1 - la.length) 0)) (ho : Hid (o.length = la.length)) (x : Int) (hx : x = (cv : Int)) (h : la.length < la.length + 1) :
    Row (wr.setCell ⟨g, la.length, none⟩ (.int .u32 x)) g (o ++ [cv]) := by
  rw [rep_succ h] at hrow
  have := hrow.push ho.out x hx
  simpa using this

def AddCut (la lb : List Nat) (w : World) (a b : Value) (wx : World) : Prop :=
  ∃ A ca l1 B cb l2, a = .slice A l1.length ca ∧ b = .slice B l2.length cb ∧ Nv w A ca l1 ∧ Nv w B cb l2 ∧ l2.length ≤ l1.length ∧ l1.length ≤ 5000000000 ∧
    Hid (val l1 + val l2 = val la + val lb) ∧ Hid (l1.length = max la.length lb.length) ∧ w = wx

set_option maxRecDepth 100000 in
set_option maxHeartbeats 400000 in
theorem add_any (A B : Option Addr) (ca cb : Nat) (la lb : List Nat) (w : World) (ha : Nv w A ca la) (hb : Nv w B cb lb) (hna : la.length ≤ 5000000000) (hnb : lb.length ≤ 5000000000) :
    Calls Try.prog 70 #[.slice A la.length ca, .slice B lb.length cb] w (RetNat (val la + val lb) (max la.length lb.length + 1) w) := by
  go_enter Try.func70, Try.ntmps70
  go_upto_if 13 with (fail)
  go_cut [0, 1] (fun a b wx => AddCut la lb w a b wx)
  case first =>
    by_cases hlt : la.length < lb.length
    · go_wp2
      go_meet
      case rel => exact ⟨_, _, _, _, _, _, rfl, rfl, hb, ha, by omega, hnb, Nat.add_comm _ _, (Nat.max_eq_right (by omega)).symm, rfl⟩
    · go_wp2
      go_meet
      case rel => exact ⟨_, _, _, _, _, _, rfl, rfl, ha, hb, by omega, hna, rfl, (Nat.max_eq_left (by omega)).symm, rfl⟩
  case rest =>
    obtain ⟨A, ca, l1, B, cb, l2, rfl, rfl, ha, hb, hl, hn, hsum, hmax, rfl⟩ := hcut
    have hmk := make_u32 w (l1.length + 1) .i64 ((l1.length : Int) + 1) (by omega) (by omega)
    go_wp2
    go_loopw [6, 22] (fun c i wr => AddInv l1 l2 w c i wr) (fun _ i _ => l1.length - (intOf i).toNat)
    case atStart => exact ⟨0, 0, [], by omega, rfl, rfl, by omega, rfl, Dig.nil, Row.new _ _, rfl, (Below.refl _ _).alloc (Nat.le_refl _) _⟩
    case round =>
      obtain ⟨k, cv, o, hk, rfl, rfl, hcv, ho, hod, hrow, hval, hbel⟩ := hrel
      have hf := hrow.free k
      obtain ⟨d0, hc0, _, _⟩ := hrow.cell' (i := k) (hod.append (Dig.replicate _)) (by rw [List.length_append, List.length_replicate, ho.out]; omega)
      by_cases hkl : k < l1.length
      · obtain ⟨a, da, rfl, hab, hac, hda, hga⟩ := (ha.below hbel).at hkl
        by_cases hkb : k < l2.length
        · obtain ⟨b, db, rfl, hbb, hbc, hdb, hgb⟩ := (hb.below hbel).at hkb
          go_wp2
          go_roundw
          case rel => exact add_step hkl hcv ho hod hrow hval hbel (da + cv + db) (by rw [hga.out, hgb.out]) (by omega) _ _ _ (by omega) (by omega) (by omega)
          case measure => simp [intOf]; omega
        · have hgb := Lib.hid (show l2.getD k 0 = 0 by rw [List.getD_eq_getElem?_getD, List.getElem?_eq_none (by omega)]; rfl)
          go_wp2
          go_roundw
          case rel => exact add_step hkl hcv ho hod hrow hval hbel (da + cv + 0) (by rw [hga.out, hgb.out]) (by omega) _ _ _ (by omega) (by omega) (by omega)
          case measure => simp [intOf]; omega
      · obtain rfl : k = l1.length := by omega
        have hfin := Lib.hid ((add_last hval ho hl).trans hsum.out)
        have hrow2 := add_full hrow ho (cv : Int) rfl (by omega)
        have hd2 : Dig (o ++ [cv]) := hod.snoc (by omega)
        have hl2 := Lib.hid (show (o ++ [cv]).length = l1.length + 1 by rw [List.length_append, ho.out]; rfl)
        have hb2 := hbel.setCell (p := ⟨w.heap.size, l1.length, none⟩) (Nat.le_refl _) (.int .u32 (cv : Int))
        go_wp2_with fail
        refine (trim_row hrow2 hl2.out hd2 (by omega)).mono ?_
        rintro e w1 ⟨l', rfl, h1, h2, h3, rfl⟩
        go_wp2
        go_ret
        exact ⟨_, _, _, rfl, h1, hfin.out ▸ h2, hmax.out ▸ h3, hb2⟩
end Go.Proofs.Ytghpcimeobmonaa
