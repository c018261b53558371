/- natural.Mul: what the call does. -/
import Derived.Test.YtkjmliebkbbogaaWSub
namespace Go.Proofs.Ytkjmliebkbbogaa
set_option linter.unusedVariables false
set_option linter.unusedSimpArgs false
open Go.RowKit Plain

/-- The outer loop: after k digits of a the block holds their product with b, and zeros. -/
def MulInv (la lb : List Nat) (w : World) (g : Nat) (i : Value) (wr : World) : Prop :=
  ∃ (k : Nat) (o : List Nat), k ≤ la.length ∧ i = .int .i64 k ∧ Hid (o.length = k + lb.length) ∧ Dig o ∧
    Row wr g (o ++ List.replicate (la.length - k) 0) ∧ Hid (val o = val (la.take k) * val lb) ∧ Below w.heap.size w wr
/-- The inner loop. -/
def MulInv2 (la lb : List Nat) (k da V : Nat) (z : List Nat) (w : World) (g : Nat) (c i : Value) (wr : World) : Prop :=
  ∃ (j cv : Nat) (lo hi : List Nat), j ≤ lb.length ∧ i = .int .i64 j ∧ c = .int .u64 cv ∧ cv < 4294967296 ∧ Hid (lo.length = k + j) ∧ Hid (hi.length = lb.length - j) ∧ Dig lo ∧ Dig hi ∧
    Row wr g (lo ++ hi ++ z) ∧ Hid (val lo + pw (k + j) * cv + pw (k + j) * val hi = V + pw k * (da * val (lb.take j))) ∧ Below w.heap.size w wr

theorem mul_cell {w : World} {g k j h : Nat} {lo hi z : List Nat} (hrow : Row w g (lo ++ h :: hi ++ z)) (hlo : Hid (lo.length = k + j)) : w.cell? ⟨g, k + j, none⟩ = some (.int .u32 (h : Int)) := by
  have := hrow.cell (i := k + j) (by simp [hlo.out])
  rw [this]
  congr 3
  rw [List.append_assoc, List.getD_eq_getElem?_getD, ← hlo.out, List.getElem?_append_right (Nat.le_refl _)]
  simp

theorem mul_cell0 {w : World} {g k n m : Nat} {lo hi : List Nat} (hrow : Row w g (lo ++ hi ++ List.replicate (m - k) 0)) (hlo : Hid (lo.length = k + n)) (hhi : Hid (hi.length = n - n)) (hk : k < m) : w.cell? ⟨g, k + n, none⟩ = some (.int .u32 (0 : Int)) := by
  obtain rfl : hi = [] := List.eq_nil_of_length_eq_zero (by rw [hhi.out]; omega)
  rw [rep_succ hk] at hrow
  exact mul_cell (hi := []) (h := 0) (z := List.replicate (m - (k + 1)) 0) (hrow.eq (by simp)) hlo

theorem mul_digit (P x c h v y da db t : Nat) (ht : t = da * db + h + c) (hs : x + P * c + P * (h + 4294967296 * v) = y) :
    x + P * (t % 4294967296) + 4294967296 * P * (t / 4294967296) + 4294967296 * P * v = y + P * (da * db) := by
  have h1 : P * t = P * (t % 4294967296) + 4294967296 * P * (t / 4294967296) := by
    rw [Nat.mul_comm 4294967296 P, Nat.mul_assoc, ← Nat.mul_add, Nat.mod_add_div]
  have h2 : P * t = P * (da * db) + P * h + P * c := by rw [ht, Nat.mul_add, Nat.mul_add]
  have h3 : P * (h + 4294967296 * v) = P * h + 4294967296 * P * v := by rw [Nat.mul_add, ← Nat.mul_assoc, Nat.mul_comm P 4294967296]
  omega

theorem mul_step {la lb : List Nat} {k da da' db p V : Nat} {z : List Nat} {w wr : World} {g j cv h : Nat} {lo hi : List Nat} (hda : da' = da) (hp : Hid (da' * db = p)) (hjl : j < lb.length) (hcv : cv < 4294967296)
    (hlo : Hid (lo.length = k + j)) (hhi : Hid ((h :: hi).length = lb.length - j)) (hlod : Dig lo) (hhid : Dig (h :: hi)) (hda2 : da' < 4294967296) (hpb : p ≤ 18446744065119617025) (hgb : Hid (lb.getD j 0 = db))
    (hrow : Row wr g (lo ++ h :: hi ++ z)) (hval : Hid (val lo + pw (k + j) * cv + pw (k + j) * val (h :: hi) = V + pw k * (da * val (lb.take j)))) (hbel : Below w.heap.size w wr) (nq : Nat)
    (x c' i' : Int) (hx : x = ((p : Int) + (h : Int) + (cv : Int)) % 4294967296) (hc : c' = ((p : Int) + (h : Int) + (cv : Int)) / 4294967296) (hi' : i' = (j : Int) + 1) (hg : w.heap.size ≤ g := by exact Nat.le_refl _) :
    MulInv2 la lb k da V z w g (.int .u64 c') (.int .i64 i') ((wr.drewN nq).setCell ⟨g, k + j, none⟩ (.int .u32 x)) := by
  have hh := hhid.head
  refine ⟨j + 1, (p + h + cv) / 4294967296, lo ++ [(p + h + cv) % 4294967296], hi, by omega, by rw [hi']; rfl, by rw [hc]; congr 1, by omega, ?_, ?_, hlod.snoc (Nat.mod_lt _ (by omega)), hhid.tail, ?_, ?_, (below_drewN hbel nq).setCell hg _⟩
  · show (lo ++ [_]).length = k + (j + 1)
    rw [List.length_append, hlo.out]; rfl
  · show hi.length = lb.length - (j + 1)
    have := hhi.out
    simp only [List.length_cons] at this
    omega
  · have h1 : Row (wr.drewN nq) g (lo ++ h :: (hi ++ z)) := hrow.eq (by simp)
    exact (h1.push hlo.out x (x := (p + h + cv) % 4294967296) (by rw [hx]; rfl)).eq (by simp)
  · show val (lo ++ [_]) + pw (k + j + 1) * _ + pw (k + j + 1) * _ = _
    rw [val_snoc, hlo.out, val_take_succ, pw, hgb.out]
    have h2 := mul_digit (pw (k + j)) (val lo) cv h (val hi) _ da db (p + h + cv) (by rw [← hp.out, hda]) hval.out
    rw [h2, Nat.mul_add, Nat.mul_add, pw_add, Nat.add_assoc]
    congr 2
    rw [Nat.mul_left_comm, Nat.mul_assoc, Nat.mul_left_comm]

theorem mul_round {la lb : List Nat} {k da : Nat} {w wr : World} {cv : Nat} {o lo hi : List Nat} (hkl : k < la.length) (hcv : cv < 4294967296) (ho : Hid (o.length = k + lb.length)) (hod : Dig o)
    (hlo : Hid (lo.length = k + lb.length)) (hhi : Hid (hi.length = lb.length - lb.length)) (hlod : Dig lo) (hga : Hid (la.getD k 0 = da))
    (hrow : Row wr w.heap.size (lo ++ hi ++ List.replicate (la.length - k) 0)) (hval : Hid (val o = val (la.take k) * val lb))
    (hval2 : Hid (val lo + pw (k + lb.length) * cv + pw (k + lb.length) * val hi = val o + pw k * (da * val (lb.take lb.length)))) (hbel : Below w.heap.size w wr)
    (x i' : Int) (hx : x = (cv : Int)) (hi' : i' = (k : Int) + 1) :
    MulInv la lb w w.heap.size (.int .i64 i') (wr.setCell ⟨w.heap.size, k + lb.length, none⟩ (.int .u32 x)) := by
  obtain rfl : hi = [] := List.eq_nil_of_length_eq_zero (by rw [hhi.out]; omega)
  refine ⟨k + 1, lo ++ [cv], by omega, by rw [hi']; rfl, ?_, hlod.snoc hcv, ?_, ?_, hbel.setCell (Nat.le_refl _) _⟩
  · show (lo ++ [_]).length = _
    rw [List.length_append, hlo.out]; simp; omega
  · rw [rep_succ hkl, List.append_nil] at hrow
    exact hrow.push hlo.out x hx
  · show val (lo ++ [_]) = _
    have h2 := hval2.out
    rw [val_take_ge _ _ (Nat.le_refl _), hval.out] at h2
    rw [val_snoc, hlo.out, val_take_succ, hga.out, Nat.add_mul]
    simp only [val, Nat.mul_zero, Nat.add_zero] at h2
    rw [h2, Nat.mul_assoc]

set_option maxRecDepth 100000 in
set_option maxHeartbeats 400000 in
theorem mul_any (A B : Option Addr) (ca cb : Nat) (la lb : List Nat) (w : World) (ha : Nv w A ca la) (hb : Nv w B cb lb) (hna : la.length ≤ 5000000000) (hnb : lb.length ≤ 5000000000) :
    Calls Try.prog 81 #[.slice A la.length ca, .slice B lb.length cb] w (RetNat (val la * val lb) (la.length + lb.length) w) := by
  have hmk := make_u32 w (la.length + lb.length) .i64 ((la.length : Int) + (lb.length : Int)) (by omega) (by omega)
  go_enter Try.func81, Try.ntmps81
  go_wp2
  go_loopw [18] (fun i wr => MulInv la lb w w.heap.size i wr) (fun i _ => la.length - (intOf i).toNat)
  case atStart => exact ⟨0, List.replicate lb.length 0, by omega, rfl, by show _ = _; simp, Dig.replicate _, (Row.new _ _).eq (by rw [Nat.add_comm, ← List.replicate_append_replicate]; rfl), by show val _ = _; simp [val_replicate, val], (Below.refl _ _).alloc (Nat.le_refl _) _⟩
  case round =>
    obtain ⟨k, o, hk, rfl, ho, hod, hrow, hval, hbel⟩ := hrel
    by_cases hkl : k < la.length
    · obtain ⟨wo, rfl⟩ : ∃ wo : World, wo = wr := ⟨_, rfl⟩
      have hod0 := hod
      go_wp2
      obtain ⟨a, da, hA, hab, hac, hda, hga⟩ := (ha.below hbel).at hkl
      go_loopw [7, 23] (fun c i wr => MulInv2 la lb k da (val o) (List.replicate (la.length - k) 0) w w.heap.size c i wr) (fun _ i _ => lb.length - (intOf i).toNat)
      case atStart => exact ⟨0, 0, o.take k, o.drop k, by omega, rfl, rfl, by omega, by show _ = _; rw [List.length_take, ho.out]; omega, by show _ = _; rw [List.length_drop, ho.out]; omega, hod.take _, hod.drop _, hrow.eq (by rw [List.take_append_drop]), by show _ = _; rw [Nat.add_zero, Nat.mul_zero, Nat.add_zero, val_take_drop _ _ (by rw [ho.out]; omega)]; simp [val], hbel⟩
      case round =>
        obtain ⟨j, cv, lo, hi, hj, rfl, rfl, hcv, hlo, hhi, hlod, hhid, hrow, hval2, hbel⟩ := hrel
        by_cases hjl : j < lb.length
        · obtain ⟨a', da', hA', hab', hac', hda', hga'⟩ := (ha.below hbel).at hkl
          obtain ⟨b, db, rfl, hbb, hbc, hdb, hgb⟩ := (hb.below hbel).at hjl
          subst hA
          obtain ⟨h, hi', rfl⟩ : ∃ h hi', hi = h :: hi' := by
            cases hi with
            | nil => have := hhi.out; simp at this; omega
            | cons h hi' => exact ⟨h, hi', rfl⟩
          have hhd := hhid.head
          obtain ⟨p, hp, hpb, hw1, hw2, hw3⟩ := mul_add_fits hda' hdb hhd hcv
          have hc0 := mul_cell hrow hlo
          have hf := hrow.free (k + j)
          have hix := wrap_i64_id ((k : Int) + (j : Int)) (by omega) (by omega)
          have hix2 : ((k : Int) + (j : Int)).toNat = k + j := by omega
          have hix3 : (0 : Int) ≤ (k : Int) + (j : Int) := by omega
          have hix4 : (k : Int) + (j : Int) < (la.length : Int) + (lb.length : Int) := by omega
          go_wp2
          go_quiet (fail)
          clear hix hix2
          go_wp2
          go_roundw
          case rel => exact mul_step (hga'.out.symm.trans hga.out) hp hjl hcv hlo hhi hlod hhid hda' hpb hgb hrow hval2 hbel nq _ _ _ rfl rfl rfl
          case measure => simp [intOf]; omega
        · obtain rfl : j = lb.length := by omega
          have hc0 := mul_cell0 (hi := hi) hrow hlo hhi hkl
          have hf := hrow.free (k + lb.length)
          go_wp2
          go_roundw
          case rel => exact mul_round hkl hcv ho hod0 hlo hhi hlod hga hrow hval hval2 hbel _ _ rfl rfl
          case measure => simp [intOf]; omega
    · obtain rfl : k = la.length := by omega
      have hrow2 : Row wr w.heap.size o := hrow.eq (by simp)
      have hfin := Lib.hid (show val o = val la * val lb by rw [hval.out, val_take_ge _ _ (Nat.le_refl _)])
      go_wp2_with fail
      refine (trim_row hrow2 ho.out hod (by omega)).mono ?_
      rintro e w2 ⟨l', rfl, h3, h4, h5, rfl⟩
      go_wp2
      go_ret
      exact ⟨_, _, l', rfl, h3, hfin.out ▸ h4, h5, hbel⟩
end Go.Proofs.Ytkjmliebkbbogaa
