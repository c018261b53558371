/- The reference's Sub, scale, shift, Mul, Uint: what the calls do. -/
import Derived.Test.YtghpcimeobmonaaWRef2
namespace Go.Proofs.Ytghpcimeobmonaa
set_option linter.unusedVariables false
set_option linter.unusedSimpArgs false
open Go.RowKit Plain

def RSubInv (la lb : List Nat) (w : World) (v c i : Value) (wr : World) : Prop :=
  ∃ (k cv : Nat) (o : List Nat), k ≤ la.length ∧ i = .int .i64 (k : Int) ∧ c = .int .u64 (cv : Int) ∧ cv ≤ 1 ∧ Hid (o.length = k) ∧ Dig o ∧ OwnD wr w.heap.size v o ∧
    Hid (val o + val (lb.take k) = val (la.take k) + pw k * cv) ∧ Below w.heap.size w wr

theorem rsub_digit (da db bv : Nat) (h1 : da < 4294967296) (h2 : db < 4294967296) (h3 : bv ≤ 1) : ∃ y c : Nat, y < 4294967296 ∧ c ≤ 1 ∧ Hid (y + db + bv = da + 4294967296 * c) ∧
    Hid ((4294967296 + (da : Int) - db - bv) % 4294967296 = (y : Int)) ∧ Hid (1 - (4294967296 + (da : Int) - db - bv) / 4294967296 = (c : Int)) := by
  by_cases h : db + bv ≤ da
  · exact ⟨da - db - bv, 0, by omega, by omega, by show _ = _; omega, by show _ = _; omega, by show _ = _; omega⟩
  · exact ⟨da + 4294967296 - db - bv, 1, by omega, by omega, by show _ = _; omega, by show _ = _; omega, by show _ = _; omega⟩

theorem rsub_fin {la lb o : List Nat} {cv : Nat} (ho : Hid (o.length = la.length)) (hval : Hid (val o + val (lb.take la.length) = val (la.take la.length) + pw la.length * cv)) (hod : Dig o) (had : Dig la) (h : val lb ≤ val la) : val o = val la - val lb := by
  have h1 := hval.out
  rw [val_take_ge _ _ (Nat.le_refl _)] at h1
  have h2 := val_lt hod
  rw [ho.out] at h2
  have h4 := val_lt had
  have h5 : val (lb.take la.length) = val lb := by
    rcases Nat.lt_or_ge la.length lb.length with hl | hl
    · have h6 := val_take_drop lb la.length (by omega)
      rcases Nat.eq_zero_or_pos (val (lb.drop la.length)) with h7 | h7
      · rw [h7] at h6; omega
      · have : pw la.length * 1 ≤ pw la.length * val (lb.drop la.length) := Nat.mul_le_mul_left _ h7
        omega
    · exact val_take_ge _ _ hl
  rw [h5] at h1
  have h3 : cv = 0 := by
    rcases Nat.eq_zero_or_pos cv with h0 | h0
    · exact h0
    · have : pw la.length * 1 ≤ pw la.length * cv := Nat.mul_le_mul_left _ h0
      omega
  subst h3
  omega

set_option maxRecDepth 100000 in
set_option maxHeartbeats 1000000 in
theorem refSub_any (A B : Option Addr) (ca cb : Nat) (la lb : List Nat) (w : World) (ha : Nv w A ca la) (hb : Nv w B cb lb) (hna : la.length ≤ 5000000000) (hnb : lb.length ≤ 5000000000) :
    Calls Try.prog 75 #[.slice A la.length ca, .slice B lb.length cb] w (RetSub (val la) (val lb) la.length w) := by
  go_enter Try.func75, Try.ntmps75
  go_wp2_with fail
  refine (refCmp_any ha hb hna hnb).mono ?_
  rintro e w1 ⟨rfl, rfl⟩
  by_cases hlt : val la < val lb
  · have hc := Lib.hid (cmpI_lt hlt)
    rw [hc.out]
    clear hc
    go_wp2
    go_ret2
    refine ⟨none, 0, [], ?_, nv_nil' _, ?_, by simp, Below.refl _ _⟩
    · rw [decide_eq_false (show ¬ val lb ≤ val la by omega)]; rfl
    · rw [show val la - val lb = 0 by omega]; exact NatIs.nil
  · have hc : 0 ≤ cmpI (val la) (val lb) := by
      have h := cmpI_neg_iff (val la) (val lb)
      omega
    have hc2 := cmpI_bd (val la) (val lb)
    obtain ⟨c, hcc⟩ : ∃ c, c = cmpI (val la) (val lb) := ⟨_, rfl⟩
    rw [← hcc] at hc hc2 ⊢
    clear hcc
    have hlt' := Lib.hid hlt
    clear hlt
    go_wp2
    go_loopw [6, 7, 8] (fun v c i wr => RSubInv la lb w v c i wr) (fun _ _ i _ => la.length - (intOf i).toNat)
    case atStart => exact ⟨0, 0, [], by omega, rfl, rfl, by omega, rfl, Dig.nil, OwnD.nil _ _, rfl, Below.refl _ _⟩
    case round =>
      obtain ⟨k, cv, o, hk, rfl, rfl, hcv, ho, hod, hown, hval, hbel⟩ := hrel
      by_cases hkn : k < la.length
      · obtain ⟨da, hda⟩ : ∃ d, Hid (la.getD k 0 = d) := ⟨_, rfl⟩
        obtain ⟨db, hdb⟩ : ∃ d, Hid (lb.getD k 0 = d) := ⟨_, rfl⟩
        have hdab : da < 4294967296 := hda.out ▸ ha.dig.getD _
        have hdbb : db < 4294967296 := hdb.out ▸ hb.dig.getD _
        obtain ⟨y, c2, hy, hc2b, hs, e1, e2⟩ := rsub_digit da db cv hdab hdbb hcv
        have hcs : (#[Value.int .u32 ((4294967296 + (da : Int) - db - cv) % 4294967296)] : Array Value) = (u32s [y]).toArray := by rw [e1.out]; rfl
        have hrd := (row_alloc wr hcs).rd
        clear hcs
        go_wp2_with fail
        refine (refDigit_at (i := k) (ha.below hbel) _ rfl (by omega) hda).mono ?_
        rintro e w1 ⟨rfl, rfl⟩
        go_wp2_with fail
        refine (refDigit_at (i := k) (hb.below hbel) _ rfl (by omega) hdb).mono ?_
        rintro e w1 ⟨rfl, rfl⟩
        go_wp2_with (at_builtin; refine wpList_app _ rfl rfl _ _ rfl w.heap.size _ o rfl (hown.alloc _) (some ⟨wr.heap.size, 0, none⟩) 1 1 [y] rfl hrd rfl ?_ ?_ ?_; (rw [ho.out]; omega); (have := hbel.size; simp; omega); intro v' w2 hown2 hgrow2)
        go_roundw
        case rel => exact ⟨k + 1, c2, o ++ [y], by omega, rfl, by rw [← e2.out], by omega, by show (o ++ [_]).length = k + 1; rw [List.length_append, ho.out]; rfl, hod.snoc hy, hown2, by
            show val (o ++ [_]) + _ = _ + pw (k + 1) * _
            rw [val_snoc, ho.out, val_take_succ, val_take_succ, pw]
            exact sub_digit _ _ _ _ _ _ _ _ _ hval.out (by rw [hda.out, hdb.out]; exact hs.out), own_snoc hown hbel hown2 hgrow2⟩
        case measure => simp [intOf]; omega
      · obtain rfl : k = la.length := by omega
        obtain ⟨A', c', rfl, hnv⟩ := hown.nv hod (by rw [ho.out]; omega)
        have hv2 := Lib.hid (rsub_fin ho hval hod ha.dig (by have := hlt'.out; omega))
        have hld : decide (la.length < la.length) = false := decide_eq_false (by omega)
        go_wp2_with fail
        refine (refTrim_any hnv (by rw [ho.out]; omega)).mono ?_
        rintro e w1 ⟨A1, c1, l1, rfl, h1, h2, h3, h4⟩
        go_wp2
        go_ret2
        refine ⟨A1, c1, l1, ?_, h1, hv2.out ▸ h2, by rw [ho.out] at h3; omega, hbel.trans (h4.mono hbel.size)⟩
        rw [decide_eq_true (show val lb ≤ val la by have := hlt'.out; omega)]; rfl

def RScInv (la : List Nat) (d : Nat) (w : World) (v c i : Value) (wr : World) : Prop :=
  ∃ (k cv : Nat) (o : List Nat), k ≤ la.length + 1 ∧ i = .int .i64 (k : Int) ∧ c = .int .u64 (cv : Int) ∧ cv < 4294967296 ∧ Hid (o.length = k) ∧ Dig o ∧ OwnD wr w.heap.size v o ∧
    Hid (val o + pw k * cv = val (la.take k) * d) ∧ Below w.heap.size w wr

theorem rsc_step {la o : List Nat} {k cv d da p : Nat} (ho : Hid (o.length = k)) (hval : Hid (val o + pw k * cv = val (la.take k) * d)) (hda : Hid (la.getD k 0 = da)) (hp : Hid (da * d = p)) :
    val (o ++ [(p + cv) % 4294967296]) + pw (k + 1) * ((p + cv) / 4294967296) = val (la.take (k + 1)) * d := by
  rw [val_snoc, ho.out, val_take_succ, hda.out, pw, Nat.add_mul, ← hval.out, Nat.mul_assoc (pw k), hp.out]
  have h1 : pw k * (p + cv) = pw k * ((p + cv) % 4294967296) + 4294967296 * pw k * ((p + cv) / 4294967296) := by
    rw [Nat.mul_comm 4294967296 (pw k), Nat.mul_assoc, ← Nat.mul_add, Nat.mod_add_div]
  rw [Nat.mul_add] at h1
  omega
theorem rsc_fin {la o : List Nat} {cv d : Nat} (ho : Hid (o.length = la.length + 1)) (hval : Hid (val o + pw (la.length + 1) * cv = val (la.take (la.length + 1)) * d)) (had : Dig la) (hd : d < 4294967296) : val o = val la * d := by
  have h := hval.out
  rw [val_take_ge _ _ (by omega)] at h
  have h3 := val_lt had
  rcases Nat.eq_zero_or_pos cv with h0 | h0
  · subst h0; omega
  · have h5 : pw (la.length + 1) * 1 ≤ pw (la.length + 1) * cv := Nat.mul_le_mul_left _ h0
    have h6 : val la * d ≤ pw la.length * 4294967296 := Nat.mul_le_mul (by omega) (by omega)
    rcases Nat.eq_zero_or_pos d with hd0 | hd0
    · subst hd0
      have := pw_pos (la.length + 1)
      omega
    · have h7 : val la * d < pw la.length * d := Nat.mul_lt_mul_of_pos_right h3 hd0
      have h8 : pw la.length * d ≤ pw la.length * 4294967296 := Nat.mul_le_mul_left _ (by omega)
      simp only [pw] at h5 h
      rw [Nat.mul_comm _ 4294967296] at h8
      omega

set_option maxRecDepth 100000 in
set_option maxHeartbeats 1000000 in
theorem refScale_any (A : Option Addr) (ca d : Nat) (la : List Nat) (w : World) (ha : Nv w A ca la) (hna : la.length ≤ 5000000000) (hd : d < 4294967296) :
    Calls Try.prog 80 #[.slice A la.length ca, .int .u64 (d : Int)] w (RetNat (val la * d) (la.length + 1) w) := by
  go_enter Try.func80, Try.ntmps80
  go_wp2
  go_loopw [5, 6, 7] (fun v c i wr => RScInv la d w v c i wr) (fun _ _ i _ => la.length + 1 - (intOf i).toNat)
  case atStart => exact ⟨0, 0, [], by omega, rfl, rfl, by omega, rfl, Dig.nil, OwnD.nil _ _, by show _ = _; simp [val], Below.refl _ _⟩
  case round =>
    obtain ⟨k, cv, o, hk, rfl, rfl, hcv, ho, hod, hown, hval, hbel⟩ := hrel
    by_cases hkn : k ≤ la.length
    · obtain ⟨da, hda⟩ : ∃ d, Hid (la.getD k 0 = d) := ⟨_, rfl⟩
      have hdab : da < 4294967296 := hda.out ▸ ha.dig.getD _
      obtain ⟨p, hp, hpb, hw1, hw2, _⟩ := mul_add_fits (c := 0) hdab hd hcv (by omega)
      have hstep := Lib.hid (rsc_step ho hval hda hp)
      have hcs : (#[Value.int .u32 (((p : Int) + (cv : Int)) % 4294967296)] : Array Value) = (u32s [(p + cv) % 4294967296]).toArray := by simp [u32s]
      have hrd := (row_alloc wr hcs).rd
      clear hcs
      go_wp2_with fail
      refine (refDigit_at (i := k) (ha.below hbel) _ rfl (by omega) hda).mono ?_
      rintro e w1 ⟨rfl, rfl⟩
      go_wp2_with (at_builtin; refine wpList_app _ rfl rfl _ _ rfl w.heap.size _ o rfl (hown.alloc _) (some ⟨wr.heap.size, 0, none⟩) 1 1 [(p + cv) % 4294967296] rfl hrd rfl ?_ ?_ ?_; (rw [ho.out]; omega); (have := hbel.size; simp; omega); intro v' w2 hown2 hgrow2)
      go_roundw
      case rel => exact ⟨k + 1, (p + cv) / 4294967296, o ++ [(p + cv) % 4294967296], by omega, rfl, rfl, by omega, by show (o ++ [_]).length = k + 1; rw [List.length_append, ho.out]; rfl, hod.snoc (Nat.mod_lt _ (by omega)), hown2, hstep.out, own_snoc hown hbel hown2 hgrow2⟩
      case measure => simp [intOf]; omega
    · obtain rfl : k = la.length + 1 := by omega
      obtain ⟨A', c', rfl, hnv⟩ := hown.nv hod (by rw [ho.out]; omega)
      have hv2 := Lib.hid (rsc_fin ho hval ha.dig hd)
      have hld : decide (la.length + 1 ≤ la.length) = false := decide_eq_false (by omega)
      go_wp2_with fail
      refine (refTrim_any hnv (by rw [ho.out]; omega)).mono ?_
      rintro e w1 ⟨A1, c1, l1, rfl, h1, h2, h3, h4⟩
      go_wp2
      go_ret
      exact ⟨A1, c1, l1, rfl, h1, hv2.out ▸ h2, by rw [ho.out] at h3; omega, hbel.trans (h4.mono hbel.size)⟩
end Go.Proofs.Ytghpcimeobmonaa
