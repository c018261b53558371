/- The reference's Add, Sub: what the calls do. -/
import Derived.Test.YtghpcimeobmonaaWRef1
import Derived.Test.YtghpcimeobmonaaWAdd
import Derived.Test.YtghpcimeobmonaaWSub
namespace Go.Proofs.Ytghpcimeobmonaa
set_option linter.unusedVariables false
set_option linter.unusedSimpArgs false
open Go.RowKit Plain

def RAddInv (la lb : List Nat) (n : Nat) (w : World) (v c i : Value) (wr : World) : Prop :=
  ∃ (k cv : Nat) (o : List Nat), k ≤ n + 1 ∧ i = .int .i64 (k : Int) ∧ c = .int .u64 (cv : Int) ∧ cv ≤ 1 ∧ Hid (o.length = k) ∧ Dig o ∧ OwnD wr w.heap.size v o ∧
    Hid (val o + pw k * cv = val (la.take k) + val (lb.take k)) ∧ Below w.heap.size w wr

theorem raddstep {la lb o : List Nat} {k cv s : Nat} (ho : Hid (o.length = k)) (hval : Hid (val o + pw k * cv = val (la.take k) + val (lb.take k))) (hs : s = la.getD k 0 + cv + lb.getD k 0) :
    val (o ++ [s % 4294967296]) + pw (k + 1) * (s / 4294967296) = val (la.take (k + 1)) + val (lb.take (k + 1)) := by
  rw [val_snoc, ho.out, val_take_succ, val_take_succ, pw]
  exact add_digit _ _ _ _ _ _ hval.out _ _ hs

theorem radd_fin {la lb o : List Nat} {n cv : Nat} (ho : Hid (o.length = n + 1)) (hval : Hid (val o + pw (n + 1) * cv = val (la.take (n + 1)) + val (lb.take (n + 1)))) (ha : Dig la) (hb : Dig lb) (h1 : la.length ≤ n) (h2 : lb.length ≤ n) : val o = val la + val lb := by
  have h := hval.out
  rw [val_take_ge _ _ (by omega), val_take_ge _ _ (by omega)] at h
  have h3 := Nat.lt_of_lt_of_le (val_lt ha) (pw_mono h1)
  have h4 := Nat.lt_of_lt_of_le (val_lt hb) (pw_mono h2)
  rcases Nat.eq_zero_or_pos cv with h0 | h0
  · subst h0; omega
  · have h5 : pw (n + 1) * 1 ≤ pw (n + 1) * cv := Nat.mul_le_mul_left _ h0
    simp only [pw] at h5 h
    omega

set_option maxRecDepth 100000 in
set_option maxHeartbeats 1000000 in
theorem refAdd_any (A B : Option Addr) (ca cb : Nat) (la lb : List Nat) (w : World) (ha : Nv w A ca la) (hb : Nv w B cb lb) (hna : la.length ≤ 5000000000) (hnb : lb.length ≤ 5000000000) :
    Calls Try.prog 65 #[.slice A la.length ca, .slice B lb.length cb] w (RetNat (val la + val lb) (max la.length lb.length + 1) w) := by
  by_cases hlt : la.length < lb.length
  all_goals
    obtain ⟨n, hn, hn1, hn2, hn3, hn4⟩ : ∃ n, Hid (n = if la.length < lb.length then lb.length else la.length) ∧ la.length ≤ n ∧ lb.length ≤ n ∧ n ≤ 5000000000 ∧ Hid (n ≤ max la.length lb.length) := by
      first
        | exact ⟨lb.length, (if_pos hlt).symm, by omega, by omega, by omega, by show _ ≤ _; omega⟩
        | exact ⟨la.length, (if_neg hlt).symm, by omega, by omega, by omega, by show _ ≤ _; omega⟩
    go_enter Try.func65, Try.ntmps65
    go_wp2
    go_loopw [5, 6, 7] (fun v c i wr => RAddInv la lb n w v c i wr) (fun _ _ i _ => n + 1 - (intOf i).toNat)
    case atStart => exact ⟨0, 0, [], by omega, rfl, rfl, by omega, rfl, Dig.nil, OwnD.nil _ _, rfl, Below.refl _ _⟩
    case round =>
      obtain ⟨k, cv, o, hk, rfl, rfl, hcv, ho, hod, hown, hval, hbel⟩ := hrel
      by_cases hkn : k ≤ n
      · obtain ⟨da, hda⟩ : ∃ d, Hid (la.getD k 0 = d) := ⟨_, rfl⟩
        obtain ⟨db, hdb⟩ : ∃ d, Hid (lb.getD k 0 = d) := ⟨_, rfl⟩
        have hdab : da < 4294967296 := hda.out ▸ ha.dig.getD _
        have hdbb : db < 4294967296 := hdb.out ▸ hb.dig.getD _
        have hstep := Lib.hid (raddstep ho hval (show da + cv + db = la.getD k 0 + cv + lb.getD k 0 by rw [hda.out, hdb.out]))
        have hcs : (#[Value.int .u32 (((da : Int) + (db : Int) + (cv : Int)) % 4294967296)] : Array Value) = (u32s [(da + cv + db) % 4294967296]).toArray := by simp [u32s]; omega
        have hrd := (row_alloc wr hcs).rd
        clear hcs
        have hle : decide (k ≤ n) = true := decide_eq_true hkn
        rw [hn.out] at hle
        first | rw [if_pos hlt] at hle | rw [if_neg hlt] at hle
        go_wp2_with fail
        refine (refDigit_at (i := k) (ha.below hbel) _ rfl (by omega) hda).mono ?_
        rintro e w1 ⟨rfl, rfl⟩
        go_wp2_with fail
        refine (refDigit_at (i := k) (hb.below hbel) _ rfl (by omega) hdb).mono ?_
        rintro e w1 ⟨rfl, rfl⟩
        go_wp2_with (at_builtin; refine wpList_app _ rfl rfl _ _ rfl w.heap.size _ o rfl (hown.alloc _) (some ⟨wr.heap.size, 0, none⟩) 1 1 [(da + cv + db) % 4294967296] rfl hrd rfl ?_ ?_ ?_; (rw [ho.out]; omega); (have := hbel.size; simp; omega); intro v' w2 hown2 hgrow2)
        go_roundw
        case rel => exact ⟨k + 1, (da + cv + db) / 4294967296, o ++ [(da + cv + db) % 4294967296], by omega, rfl, by congr 1; omega, by omega, by show (o ++ [_]).length = k + 1; rw [List.length_append, ho.out]; rfl, hod.snoc (Nat.mod_lt _ (by omega)), hown2, hstep.out, own_snoc hown hbel hown2 hgrow2⟩
        case measure => simp [intOf]; omega
      · obtain rfl : k = n + 1 := by omega
        have hle : decide (n + 1 ≤ if la.length < lb.length then lb.length else la.length) = false := by rw [← hn.out]; exact decide_eq_false (by omega)
        first | rw [if_pos hlt] at hle | rw [if_neg hlt] at hle
        obtain ⟨A', c', rfl, hnv⟩ := hown.nv hod (by rw [ho.out]; omega)
        have hv2 := Lib.hid (radd_fin ho hval ha.dig hb.dig hn1 hn2)
        go_wp2_with fail
        refine (refTrim_any hnv (by rw [ho.out]; omega)).mono ?_
        rintro e w1 ⟨A1, c1, l1, rfl, h1, h2, h3, h4⟩
        go_wp2
        go_ret
        exact ⟨A1, c1, l1, rfl, h1, hv2.out ▸ h2, by have := hn4.out; rw [ho.out] at h3; omega, hbel.trans (h4.mono hbel.size)⟩
end Go.Proofs.Ytghpcimeobmonaa
