/- Contracts of the functions that the claim reaches, and the plain arithmetic behind them: each part says what its functions do, for all arguments that its statements name. -/
import Derived.Test.YtghpcimeobmonaaK2
/- natural.Mul: what the call does. -/
namespace Go.Proofs.Ytghpcimeobmonaa
set_option linter.unusedVariables false
set_option linter.unusedSimpArgs false
open Go.RowKit Plain

/-- The outer loop: after k digits of a the block holds their product with b, and zeros. -/
def MulInv (la lb : List Nat) (w : World) (g : Nat) (i : Value) (wr : World) : Prop :=
  ∃ (k : Nat) (o : List Nat), k ≤ la.length ∧ i = .int .i64 k ∧ Hid (o.length = k + lb.length) ∧ Dig o ∧
    Row wr g (o ++ List.replicate (la.length - k) 0) ∧ Hid (val o = val (la.take k) * val lb) ∧ Below w.heap.size w wr
/-- The inner loop. -/
def MulInv2 (la lb : List Nat) (k da V : Nat) (z : List Nat) (w : World) (g : Nat) (c i : Value) (wr : World) : Prop :=
  ∃ (j cv : Nat) (lo hi : List Nat), j ≤ lb.length ∧ i = .int .i64 j ∧ c = .int .u64 cv ∧ cv < 4294967296 ∧ Hid (lo.length = k + j) ∧ Hid (hi.length = lb.length - j) ∧ Dig lo ∧ Dig hi ∧
    Row wr g (lo ++ hi ++ z) ∧ Hid (val lo + pw (k + j) * cv + pw (k + j) * val hi = V + pw k * (da * val (lb.take j))) ∧ Below w.heap.size w wr

theorem mul_cell {w : World} {g k j h : Nat} {lo hi z : List Nat} (hrow : Row w g (lo ++ h :: hi ++ z)) (hlo : Hid (lo.length = k + j)) : w.cell? ⟨g, k + j, none⟩ = some (.int .u32 (h : Int)) := by
  have := hrow.cell (i := k + j) (by simp [hlo.out])
  rw [this]
  congr 3
  rw [List.append_assoc, List.getD_eq_getElem?_getD, ← hlo.out, List.getElem?_append_right (Nat.le_refl _)]
  simp

theorem mul_cell0 {w : World} {g k n m : Nat} {lo hi : List Nat} (hrow : Row w g (lo ++ hi ++ List.replicate (m - k) 0)) (hlo : Hid (lo.length = k + n)) (hhi : Hid (hi.length = n - n)) (hk : k < m) : w.cell? ⟨g, k + n, none⟩ = some (.int .u32 (0 : Int)) := by
  obtain rfl : hi = [] := List.eq_nil_of_length_eq_zero (by rw [hhi.out]; omega)
  rw [rep_succ hk] at hrow
  exact mul_cell (hi := []) (h := 0) (z := List.replicate (m - (k + 1)) 0) (hrow.eq (by simp)) hlo

theorem mul_digit (P x c h v y da db t : Nat) (ht : t = da * db + h + c) (hs : x + P * c + P * (h + 4294967296 * v) = y) :
    x + P * (t % 4294967296) + 4294967296 * P * (t / 4294967296) + 4294967296 * P * v = y + P * (da * db) := by
  have h1 : P * t = P * (t % 4294967296) + 4294967296 * P * (t / 4294967296) := by
    rw [Nat.mul_comm 4294967296 P, Nat.mul_assoc, ← Nat.mul_add, Nat.mod_add_div]
  have h2 : P * t = P * (da * db) + P * h + P * c := by rw [ht, Nat.mul_add, Nat.mul_add]
  have h3 : P * (h + 4294967296 * v) = P * h + 4294967296 * P * v := by rw [Nat.mul_add, ← Nat.mul_assoc, Nat.mul_comm P 4294967296]
  omega

theorem mul_step {la lb : List Nat} {k da da' db p V : Nat} {z : List Nat} {w wr : World} {g j cv h : Nat} {lo hi : List Nat} (hda : da' = da) (hp : Hid (da' * db = p)) (hjl : j < lb.length) (hcv : cv < 4294967296)
    (hlo : Hid (lo.length = k + j)) (hhi : Hid ((h :: hi).length = lb.length - j)) (hlod : Dig lo) (hhid : Dig (h :: hi)) (hda2 : da' < 4294967296) (hpb : p ≤ 18446744065119617025) (hgb : Hid (lb.getD j 0 = db))
    (hrow : Row wr g (lo ++ h :: hi ++ z)) (hval : Hid (val lo + pw (k + j) * cv + pw (k + j) * val (h :: hi) = V + pw k * (da * val (lb.take j)))) (hbel : Below w.heap.size w wr) (nq : Nat)
    (x c' i' : Int) (hx : x = ((p : Int) + (h : Int) + (cv : Int)) % 4294967296) (hc : c' = ((p : Int) + (h : Int) + (cv : Int)) / 4294967296) (hi' : i' = (j : Int) + 1) (hg : w.heap.size ≤ g := by exact Nat.le_refl _) :
    MulInv2 la lb k da V z w g (.int .u64 c') (.int .i64 i') ((wr.drewN nq).setCell ⟨g, k + j, none⟩ (.int .u32 x)) := by
  have hh := hhid.head
  refine ⟨j + 1, (p + h + cv) / 4294967296, lo ++ [(p + h + cv) % 4294967296], hi, by omega, by rw [hi']; rfl, by rw [hc]; congr 1, by omega, ?_, ?_, hlod.snoc (Nat.mod_lt _ (by omega)), hhid.tail, ?_, ?_, (below_drewN hbel nq).setCell hg _⟩
  · show (lo ++ [_]).length = k + (j + 1)
    rw [List.length_append, hlo.out]; rfl
  · show hi.length = lb.length - (j + 1)
    have := hhi.out
    simp only [List.length_cons] at this
    omega
  · have h1 : Row (wr.drewN nq) g (lo ++ h :: (hi ++ z)) := hrow.eq (by simp)
    exact (h1.push hlo.out x (x := (p + h + cv) % 4294967296) (by rw [hx]; rfl)).eq (by simp)
  · show val (lo ++ [_]) + pw (k + j + 1) * _ + pw (k + j + 1) * _ = _
    rw [val_snoc, hlo.out, val_take_succ, pw, hgb.out]
    have h2 := mul_digit (pw (k + j)) (val lo) cv h (val hi) _ da db (p + h + cv) (by rw [← hp.out, hda]) hval.out
    rw [h2, Nat.mul_add, Nat.mul_add, pw_add, Nat.add_assoc]
    congr 2
    rw [Nat.mul_left_comm, Nat.mul_assoc, Nat.mul_left_comm]

theorem mul_round {la lb : List Nat} {k da : Nat} {w wr : World} {cv : Nat} {o lo hi : List Nat} (hkl : k < la.length) (hcv : cv < 4294967296) (ho : Hid (o.length = k + lb.length)) (hod : Dig o)
    (hlo : Hid (lo.length = k + lb.length)) (hhi : Hid (hi.length = lb.length - lb.length)) (hlod : Dig lo) (hga : Hid (la.getD k 0 = da))
    (hrow : Row wr w.heap.size (lo ++ hi ++ List.replicate (la.length - k) 0)) (hval : Hid (val o = val (la.take k) * val lb))
    (hval2 : Hid (val lo + pw (k + lb.length) * cv + pw (k + lb.length) * val hi = val o + pw k * (da * val (lb.take lb.length)))) (hbel : Below w.heap.size w wr)
    (x i' : Int) (hx : x = (cv : Int)) (hi' : i' = (k : Int) + 1) :
    MulInv la lb w w.heap.size (.int .i64 i') (wr.setCell ⟨w.heap.size, k + lb.length, none⟩ (.int .u32 x)) := by
  obtain rfl : hi = [] := List.eq_nil_of_length_eq_zero (by rw [hhi.out]; omega)
  refine ⟨k + 1, lo ++ [cv], by omega, by rw [hi']; rfl, ?_, hlod.snoc hcv, ?_, ?_, hbel.setCell (Nat.le_refl _) _⟩
  · show (lo ++ [_]).length = _
    rw [List.length_append, hlo.out]; simp; omega
  · rw [rep_succ hkl, List.append_nil] at hrow
    exact hrow.push hlo.out x hx
  · show val (lo ++ [_]) = _
    have h2 := hval2.out
    rw [val_take_ge _ _ (Nat.le_refl _), hval.out] at h2
    rw [val_snoc, hlo.out, val_take_succ, hga.out, Nat.add_mul]
    simp only [val, Nat.mul_zero, Nat.add_zero] at h2
    rw [h2, Nat.mul_assoc]

set_option maxRecDepth 100000 in
set_option maxHeartbeats 400000 in
theorem mul_any (A B : Option Addr) (ca cb : Nat) (la lb : List Nat) (w : World) (ha : Nv w A ca la) (hb : Nv w B cb lb) (hna : la.length ≤ 5000000000) (hnb : lb.length ≤ 5000000000) :
    Calls Try.prog 69 #[.slice A la.length ca, .slice B lb.length cb] w (RetNat (val la * val lb) (la.length + lb.length) w) := by
  have hmk := make_u32 w (la.length + lb.length) .i64 ((la.length : Int) + (lb.length : Int)) (by omega) (by omega)
  go_enter Try.func69, Try.ntmps69
  go_wp2
  go_loopw [18] (fun i wr => MulInv la lb w w.heap.size i wr) (fun i _ => la.length - (intOf i).toNat)
  case atStart => exact ⟨0, List.replicate lb.length 0, by omega, rfl, by show _ = _; simp, Dig.replicate _, (Row.new _ _).eq (by rw [Nat.add_comm, ← List.replicate_append_replicate]; rfl), by show val _ = _; simp [val_replicate, val], (Below.refl _ _).alloc (Nat.le_refl _) _⟩
  case round =>
    obtain ⟨k, o, hk, rfl, ho, hod, hrow, hval, hbel⟩ := hrel
    by_cases hkl : k < la.length
    · obtain ⟨wo, rfl⟩ : ∃ wo : World, wo = wr := ⟨_, rfl⟩
      have hod0 := hod
      go_wp2
      obtain ⟨a, da, hA, hab, hac, hda, hga⟩ := (ha.below hbel).at hkl
      go_loopw [7, 23] (fun c i wr => MulInv2 la lb k da (val o) (List.replicate (la.length - k) 0) w w.heap.size c i wr) (fun _ i _ => lb.length - (intOf i).toNat)
      case atStart => exact ⟨0, 0, o.take k, o.drop k, by omega, rfl, rfl, by omega, by show _ = _; rw [List.length_take, ho.out]; omega, by show _ = _; rw [List.length_drop, ho.out]; omega, hod.take _, hod.drop _, hrow.eq (by rw [List.take_append_drop]), by show _ = _; rw [Nat.add_zero, Nat.mul_zero, Nat.add_zero, val_take_drop _ _ (by rw [ho.out]; omega)]; simp [val], hbel⟩
      case round =>
        obtain ⟨j, cv, lo, hi, hj, rfl, rfl, hcv, hlo, hhi, hlod, hhid, hrow, hval2, hbel⟩ := hrel
        by_cases hjl : j < lb.length
        · obtain ⟨a', da', hA', hab', hac', hda', hga'⟩ := (ha.below hbel).at hkl
          obtain ⟨b, db, rfl, hbb, hbc, hdb, hgb⟩ := (hb.below hbel).at hjl
          subst hA
          obtain ⟨h, hi', rfl⟩ : ∃ h hi', hi = h :: hi' := by
            cases hi with
            | nil => have := hhi.out; simp at this; omega
            | cons h hi' => exact ⟨h, hi', rfl⟩
          have hhd := hhid.head
          obtain ⟨p, hp, hpb, hw1, hw2, hw3⟩ := mul_add_fits hda' hdb hhd hcv
          have hc0 := mul_cell hrow hlo
          have hf := hrow.free (k + j)
          have hix := wrap_i64_id ((k : Int) + (j : Int)) (by omega) (by omega)
          have hix2 : ((k : Int) + (j : Int)).toNat = k + j := by omega
          have hix3 : (0 : Int) ≤ (k : Int) + (j : Int) := by omega
          have hix4 : (k : Int) + (j : Int) < (la.length : Int) + (lb.length : Int) := by omega
          go_wp2
          go_quiet (fail)
          clear hix hix2
          go_wp2
          go_roundw
          case rel => exact mul_step (hga'.out.symm.trans hga.out) hp hjl hcv hlo hhi hlod hhid hda' hpb hgb hrow hval2 hbel nq _ _ _ rfl rfl rfl
          case measure => simp [intOf]; omega
        · obtain rfl : j = lb.length := by omega
          have hc0 := mul_cell0 (hi := hi) hrow hlo hhi hkl
          have hf := hrow.free (k + lb.length)
          go_wp2
          go_roundw
          case rel => exact mul_round hkl hcv ho hod0 hlo hhi hlod hga hrow hval hval2 hbel _ _ rfl rfl
          case measure => simp [intOf]; omega
    · obtain rfl : k = la.length := by omega
      have hrow2 : Row wr w.heap.size o := hrow.eq (by simp)
      have hfin := Lib.hid (show val o = val la * val lb by rw [hval.out, val_take_ge _ _ (Nat.le_refl _)])
      go_wp2_with fail
      refine (trim_row hrow2 ho.out hod (by omega)).mono ?_
      rintro e w2 ⟨l', rfl, h3, h4, h5, rfl⟩
      go_wp2
      go_ret
      exact ⟨_, _, l', rfl, h3, hfin.out ▸ h4, h5, hbel⟩
end Go.Proofs.Ytghpcimeobmonaa
/- fraction.cross: what the call does. -/
namespace Go.Proofs.Ytghpcimeobmonaa
set_option linter.unusedVariables false
set_option linter.unusedSimpArgs false
open Go.RowKit Plain
attribute [local go_sem ↓] Go.wp_at_zero Go.wp_at_succ

/-- A call that returns the natural numbers m and n. -/
def RetNN (m n k : Nat) (W : World) (e : Ending) (w' : World) : Prop :=
  ∃ (X : Option Addr) (cx : Nat) (x : List Nat) (Y : Option Addr) (cy : Nat) (y : List Nat), e = .returned (.tuple #[.slice X x.length cx, .slice Y y.length cy]) ∧ Nv w' X cx x ∧ Nv w' Y cy y ∧ NatIs x m ∧ NatIs y n ∧ x.length ≤ k ∧ y.length ≤ k ∧ Below W.heap.size W w'

set_option maxRecDepth 100000 in
set_option maxHeartbeats 1000000 in
theorem cross_any {n1 n2 : Bool} {A B C D : Option Addr} {ca cb cc cd : Nat} {la lb lc ld : List Nat} {w : World} (ha : Nv w A ca la) (hb : Nv w B cb lb) (hc : Nv w C cc lc) (hd : Nv w D cd ld)
    (hla : la.length ≤ 400000000) (hlb : lb.length ≤ 400000000) (hlc : lc.length ≤ 400000000) (hld : ld.length ≤ 400000000) :
    Calls Try.prog 68 #[fracV n1 A la.length ca B lb.length cb, fracV n2 C lc.length cc D ld.length cd] w (RetNN (val la * val ld) (val lc * val lb) (max (la.length + ld.length) (lc.length + lb.length)) w) := by
  obtain ⟨w0, hw0, bw0, hlt0, hB0⟩ := boxed w #[.bool n1, .slice A la.length ca, .slice B lb.length cb] 25
  obtain ⟨w1, hw1, bw1, hlt1, hB1⟩ := boxed w0 #[.bool n2, .slice C lc.length cc, .slice D ld.length cd] 25
  have hA1 := hB0.keep bw1
  have b01 := bw0.trans (bw1.mono (Nat.le_of_lt hlt0))
  have ha1 := ha.below b01
  have hb1 := hb.below b01
  have hc1 := hc.below b01
  have hd1 := hd.below b01
  have x1 := hA1.f1
  have x2 := hA1.f2
  have y1 := hB1.f1
  have y2 := hB1.f2
  clear ha hb hc hd
  have hrf : Below w1.heap.size w1 w1 := Below.refl _ _
  go_enter Try.func68, Try.ntmps68
  go_wp2_with fail
  go_region_held3 (fun w' => w'.cell? ⟨w.heap.size, 1, none⟩ = some (.slice A la.length ca) ∧ w'.cell? ⟨w.heap.size, 2, none⟩ = some (.slice B lb.length cb) ∧ w'.cell? ⟨w0.heap.size, 1, none⟩ = some (.slice C lc.length cc) ∧ w'.cell? ⟨w0.heap.size, 2, none⟩ = some (.slice D ld.length cd) ∧ Below w1.heap.size w1 w') (first | (go_keep; done) | ((try go_split_ands); (try dsimp only); refine ⟨?_, ?_, ?_, ?_, ?_⟩ <;> first | assumption | exact Below.drew (by assumption) | exact (hA1.keep (by assumption)).f1 | exact (hA1.keep (by assumption)).f2 | exact (hB1.keep (by assumption)).f1 | exact (hB1.keep (by assumption)).f2)) (first
    | (go_at_call 69; go_split_ands; (with_reducible refine (mul_any A D ca cd la ld _ (ha1.below (by assumption)) (hd1.below (by assumption)) (by omega) (by omega)).mono ?_); rintro e w2 ⟨X, cx, x, rfl, nx, ix, mx, b2⟩; have b4 := below_step (by assumption) b2)
    | (go_at_call 69; go_split_ands; (with_reducible refine (mul_any C B cc cb lc lb _ (hc1.below (by assumption)) (hb1.below (by assumption)) (by omega) (by omega)).mono ?_); rintro e w3 ⟨Y, cy, y, rfl, ny, iy, my, b3⟩; have b4 := below_step (by assumption) b3))
  go_wp2
  refine bodyPost_ret (v := .tuple #[.slice X x.length cx, .slice Y y.length cy]) (by simp [results, Try.results68, go_sem]) rfl ?_
  refine ⟨X, cx, x, Y, cy, y, rfl, ?_, ?_, ix, iy, by omega, by omega, ?_⟩
  · first | exact nx | exact nx.below b3
  · first | exact ny | exact ny.below b2
  · exact b01.trans (b4.mono (by omega))
end Go.Proofs.Ytghpcimeobmonaa
/- fraction.Add: what the call does. -/
namespace Go.Proofs.Ytghpcimeobmonaa
set_option linter.unusedVariables false
set_option linter.unusedSimpArgs false
open Go.RowKit Plain
attribute [local go_sem ↓] Go.wp_at_zero Go.wp_at_succ

set_option maxRecDepth 100000 in
set_option maxHeartbeats 4000000 in
theorem addF_any {v u : Value} {p q : Rat} {j k : Nat} {w : World} (hv : FV w v p) (hu : FV w u q) (hj : Fits j p) (hk : Fits k q) (hJ : j + k < 400000000) :
    Calls Try.prog 28 #[v, u] w (RetQ (p + q) w) := by
  obtain ⟨n1, A, ca, la, B, cb, lb, rfl, na, nb, iq⟩ := hv
  obtain ⟨n2, C, cc, lc, D, cd, ld, rfl, nc, nd, ir⟩ := hu
  have hf := QIs.fits iq hj
  have hg := QIs.fits ir hk
  have h0 : val lb * val ld ≠ 0 := Nat.mul_ne_zero (QIs.den_ne iq) (QIs.den_ne ir)
  obtain ⟨r, hr⟩ : ∃ r, p + q = r := ⟨_, rfl⟩
  have q1 := Lib.hid (show n1 = n2 → mkRat (sg n1 (val la * val ld + val lc * val lb)) (val lb * val ld) = r from fun e => by rw [← hr]; subst e; exact q_add iq ir)
  have q2 := Lib.hid (show n1 ≠ n2 → val lc * val lb ≤ val la * val ld → mkRat (sg n1 (val la * val ld - val lc * val lb)) (val lb * val ld) = r from fun e h => by rw [← hr]; exact q_sub1 iq ir e h)
  have q3 := Lib.hid (show n1 ≠ n2 → val la * val ld ≤ val lc * val lb → mkRat (sg n2 (val lc * val lb - val la * val ld)) (val lb * val ld) = r from fun e h => by rw [← hr]; exact q_sub2 iq ir e h)
  rw [hr]
  clear iq ir hr
  obtain ⟨w0, hw0, bw0, hlt0, hB0⟩ := boxed w #[.bool n1, .slice A la.length ca, .slice B lb.length cb] 25
  obtain ⟨w1, hw1, bw1, hlt1, hB1⟩ := boxed w0 #[.bool n2, .slice C lc.length cc, .slice D ld.length cd] 25
  obtain ⟨w2, hw2, bw2, hlt2, hB2⟩ := boxed w1 #[.bool false, .slice none 0 0, .slice none 0 0] 25
  have hA2 := (hB0.keep bw1).keep bw2
  have hC2 := hB1.keep bw2
  have b01 := bw0.trans (bw1.mono (Nat.le_of_lt hlt0))
  have b02 := b01.trans (bw2.mono b01.size)
  have ha1 := na.below b02
  have hb1 := nb.below b02
  have hc1 := nc.below b02
  have hd1 := nd.below b02
  have x0 := hA2.f0
  have x1 := hA2.f1
  have x2 := hA2.f2
  have y0 := hC2.f0
  have y1 := hC2.f1
  have y2 := hC2.f2
  clear na nb nc nd
  go_enter Try.func28, Try.ntmps28
  go_wp2_with fail
  refine (cross_any (n1 := n1) (n2 := n2) ha1 hb1 hc1 hd1 (by omega) (by omega) (by omega) (by omega)).mono ?_
  rintro e w3 ⟨X, cx, x, Y, cy, y, rfl, nx, ny, ix, iy, mx, my, b3⟩
  have ix' := Lib.hid ix
  have iy' := Lib.hid iy
  clear ix iy x0 x1 x2 y0 y1 y2
  have hA3 := hA2.keep b3
  have hC3 := hC2.keep b3
  have x0 := hA3.f0
  have x1 := hA3.f1
  have x2 := hA3.f2
  have y0 := hC3.f0
  have y1 := hC3.f1
  have y2 := hC3.f2
  go_wp2_with fail
  refine (mul_any B D cb cd lb ld _ (hb1.below b3) (hd1.below b3) (by omega) (by omega)).mono ?_
  rintro e w4 ⟨Z, cz, z, rfl, nz, iz, mz, b4⟩
  have iz' := Lib.hid iz
  clear iz x0 x1 x2 y0 y1 y2
  have hA4 := hA3.keep b4
  have hC4 := hC3.keep b4
  have hB4 := (hB2.keep b3).keep b4
  have x0 := hA4.f0
  have y0 := hC4.f0
  have nx4 := nx.below b4
  have ny4 := ny.below b4
  have b04 := (b02.trans (b3.mono b02.size)).trans (b4.mono (Nat.le_trans b02.size b3.size))
  have hrb : w.heap.size ≤ w1.heap.size := b01.size
  have hl1 : w.heap.size < w1.heap.size := by omega
  clear hA2 hC2 hA3 hC3 nx ny b3 b4 ha1 hb1 hc1 hd1 bw0 bw1 bw2 hw0 hw1 hw2
  by_cases hn : n1 = n2
  · subst hn
    have q1' := Lib.hid (q1.out rfl)
    clear q1 q2 q3
    have hrf : Only w4 w4 w1.heap.size := Only.refl _ _
    have h3f : Blk3 w4 w1.heap.size 25 := hB4.b3
    have hS : ∀ w', Only w4 w' w1.heap.size → w'.cell? ⟨w.heap.size, 0, none⟩ = some (.bool n1) := fun w' o => (hA4.only o (Nat.ne_of_lt hl1)).f0
    have d0 := hS _ hrf.drew
    have d6 := hrf.drew
    have d7 := h3f.drew
    go_wp2_with fail
    go_region_held3 (fun w' => w'.cell? ⟨w.heap.size, 0, none⟩ = some (.bool n1) ∧ Only w4 w' w1.heap.size ∧ Blk3 w' w1.heap.size 25) (((try go_split_ands); (try dsimp only); (repeat' with_reducible apply And.intro) <;> with_reducible assumption)) (first
      | (go_at_call 70; go_split_ands; (with_reducible refine (add_any X Y cx cy x y _ (nx4.only_blk hB4 (noDig3 _ _ _ _ _ _ _) (by assumption)) (ny4.only_blk hB4 (noDig3 _ _ _ _ _ _ _) (by assumption)) (by omega) (by omega)).mono ?_); rintro e w5 ⟨S, cs, s, rfl, ns, is, ms, b5⟩; have is' := Lib.hid is; clear is; have q4 := Blk3.keep (by assumption) b5; have b6 := (show Only w4 _ w1.heap.size by assumption).trans (Only.of_below b5 _); have f0 := hS _ b6)
      | (go_at_call 58; go_split_ands; (with_reducible refine (made_any ns (nz.only_blk hB4 (noDig3 _ _ _ _ _ _ _) (by assumption)) (by rw [iz'.out.val]; exact h0) (by omega) (by omega)).mono ?_); rintro e w7 ⟨v, rfl, ⟨m0, A1, c1, l1, B1, d1, m1, rfl, ma, mb, hQ⟩, b7⟩; rw [is'.out.val, ix'.out.val, iy'.out.val, iz'.out.val] at hQ; have b8 := (show Only w4 _ w1.heap.size by assumption).trans (Only.of_below b7 _); have k0 := hS _ b8; have q8 := Blk3.keep (t := 25) (by assumption) b7; have q9 := q8.set m0 A1 l1.length c1 B1 m1.length d1; obtain ⟨qa, qb, qc, qd, qe, qf, qg, hB3⟩ := id q8; have b9 := ((b8.set 0 (.bool m0)).set 1 (.slice A1 l1.length c1)).set 2 (.slice B1 m1.length d1); have j0 := hS _ b9; have u0 := hB3.f0; have u1 := hB3.f1; have u2 := hB3.f2; have t0 := hB3.free 0; have t1 := hB3.free 1; have t2 := hB3.free 2))
    clear j0 q9
    go_wp2
    obtain ⟨w9, hw9, hB9, o9⟩ := hB3.set3 (.bool m0) (.slice A1 l1.length c1) (.slice B1 m1.length d1)
    rw [hw9]
    have e0 := hB9.f0
    have e1 := hB9.f1
    have e2 := hB9.f2
    refine bodyPost_ret (v := fracV m0 A1 l1.length c1 B1 m1.length d1) (by simp [results, Try.results28, go_sem, e0, e1, e2]) rfl ?_
    have m1' := ma.only_blk hB3 (noDig3 _ _ _ _ _ _ _) o9
    have m2' := mb.only_blk hB3 (noDig3 _ _ _ _ _ _ _) o9
    have bT := (b8.trans o9).to_below b04 b01.size b04.size
    exact ⟨_, rfl, ⟨m0, A1, c1, l1, B1, d1, m1, rfl, m1', m2', by rw [← q1'.out]; exact hQ⟩, bT⟩
  · have hne : (n1 == n2) = false := by simpa using hn
    have q2' := Lib.hid (q2.out hn)
    have q3' := Lib.hid (q3.out hn)
    clear q1 q2 q3 hn
    by_cases hle : val lc * val lb ≤ val la * val ld
    · have hd : Hid (decide (val y ≤ val x) = true) := Lib.hid (by rw [ix'.out.val, iy'.out.val]; exact decide_eq_true hle)
      have qq := Lib.hid (q2'.out hle)
      clear hle q2' q3'
      go_wp2_with fail
      refine (sub_any X Y cx cy x y _ nx4 ny4).mono ?_
      rintro e w5 ⟨S, cs, s, rfl, ns, is, ms, b5⟩
      rw [hd.out]
      rw [ix'.out.val, iy'.out.val] at is
      have is' := Lib.hid is
      clear is
      have hA5 := hA4.keep b5
      have x0' := hA5.f0
      have hB5 := hB4.keep b5
      go_wp2_with fail
      refine (made_any ns (nz.below b5) (by rw [iz'.out.val]; exact h0) (by omega) (by omega)).mono ?_
      rintro e w7 ⟨v, rfl, ⟨m0, A1, c1, l1, B1, d1, m1, rfl, ma, mb, hQ⟩, b7⟩
      rw [is'.out.val, iz'.out.val, qq.out] at hQ
      have hQ' := Lib.hid hQ
      clear hQ
      have hB3 := hB5.keep b7
      have u0 := hB3.f0
      have u1 := hB3.f1
      have u2 := hB3.f2
      have t0 := hB3.free 0
      have t1 := hB3.free 1
      have t2 := hB3.free 2
      have b07 := (b04.trans (b5.mono b04.size)).trans (b7.mono (Nat.le_trans b04.size b5.size))
      go_wp2
      obtain ⟨w9, hw9, hB9, o9⟩ := hB3.set3 (.bool m0) (.slice A1 l1.length c1) (.slice B1 m1.length d1)
      rw [hw9]
      have e0 := hB9.f0
      have e1 := hB9.f1
      have e2 := hB9.f2
      refine bodyPost_ret (v := fracV m0 A1 l1.length c1 B1 m1.length d1) (by simp [results, Try.results28, go_sem, e0, e1, e2]) rfl ?_
      have m1' := ma.only_blk hB3 (noDig3 _ _ _ _ _ _ _) o9
      have m2' := mb.only_blk hB3 (noDig3 _ _ _ _ _ _ _) o9
      exact ⟨_, rfl, ⟨m0, A1, c1, l1, B1, d1, m1, rfl, m1', m2', hQ'.out⟩, o9.to_below b07 b01.size b07.size⟩
    · have hd : Hid (decide (val y ≤ val x) = false) := Lib.hid (by rw [ix'.out.val, iy'.out.val]; exact decide_eq_false hle)
      have qq := Lib.hid (q3'.out (by omega))
      have hle' : val la * val ld ≤ val lc * val lb := by omega
      have hd2 : Hid (decide (val x ≤ val y) = true) := Lib.hid (by rw [ix'.out.val, iy'.out.val]; exact decide_eq_true hle')
      clear hle q2' q3' hle'
      go_wp2_with fail
      refine (sub_any X Y cx cy x y _ nx4 ny4).mono ?_
      rintro e w5 ⟨S, cs, s, rfl, ns, is, ms, b5⟩
      rw [hd.out]
      have is'' := Lib.hid is
      clear is is'' ns ms
      go_wp2_with fail
      refine (sub_any Y X cy cx y x _ (ny4.below b5) (nx4.below b5)).mono ?_
      rintro e w6 ⟨S2, cs2, s2, rfl, ns, is, ms, b6⟩
      rw [hd2.out]
      rw [ix'.out.val, iy'.out.val] at is
      have is' := Lib.hid is
      clear is
      have hC6 := (hC4.keep b5).keep b6
      have y0' := hC6.f0
      have hB6 := (hB4.keep b5).keep b6
      go_wp2_with fail
      refine (made_any ns ((nz.below b5).below b6) (by rw [iz'.out.val]; exact h0) (by omega) (by omega)).mono ?_
      rintro e w7 ⟨v, rfl, ⟨m0, A1, c1, l1, B1, d1, m1, rfl, ma, mb, hQ⟩, b7⟩
      rw [is'.out.val, iz'.out.val, qq.out] at hQ
      have hQ' := Lib.hid hQ
      clear hQ
      have hB3 := hB6.keep b7
      have u0 := hB3.f0
      have u1 := hB3.f1
      have u2 := hB3.f2
      have t0 := hB3.free 0
      have t1 := hB3.free 1
      have t2 := hB3.free 2
      have b06 := (b04.trans (b5.mono b04.size)).trans (b6.mono (Nat.le_trans b04.size b5.size))
      have b07 := b06.trans (b7.mono b06.size)
      go_wp2
      obtain ⟨w9, hw9, hB9, o9⟩ := hB3.set3 (.bool m0) (.slice A1 l1.length c1) (.slice B1 m1.length d1)
      rw [hw9]
      have e0 := hB9.f0
      have e1 := hB9.f1
      have e2 := hB9.f2
      refine bodyPost_ret (v := fracV m0 A1 l1.length c1 B1 m1.length d1) (by simp [results, Try.results28, go_sem, e0, e1, e2]) rfl ?_
      have m1' := ma.only_blk hB3 (noDig3 _ _ _ _ _ _ _) o9
      have m2' := mb.only_blk hB3 (noDig3 _ _ _ _ _ _ _) o9
      exact ⟨_, rfl, ⟨m0, A1, c1, l1, B1, d1, m1, rfl, m1', m2', hQ'.out⟩, o9.to_below b07 b01.size b07.size⟩
end Go.Proofs.Ytghpcimeobmonaa
/- fraction.Sign: what the call does. -/
namespace Go.Proofs.Ytghpcimeobmonaa
set_option linter.unusedVariables false
set_option linter.unusedSimpArgs false
open Go.RowKit Plain
attribute [local go_sem ↓] Go.wp_at_zero Go.wp_at_succ

/-- A call that returns the whole number x. -/
def RetI (x : Int) (W : World) (e : Ending) (w' : World) : Prop := e = .returned (.int .i64 x) ∧ Below W.heap.size W w'

set_option maxRecDepth 100000 in
set_option maxHeartbeats 1000000 in
theorem sign_any {v : Value} {q : Rat} {w : World} (hv : FV w v q) :
    Calls Try.prog 39 #[v] w (RetI (cmpR q 0) w) := by
  obtain ⟨neg, A, ca, la, B, cb, lb, rfl, na, nb, iq⟩ := hv
  have hbg := na.big
  have hc := q_sign iq
  clear iq
  obtain ⟨w0, hw0, bw0, hlt0, hB0⟩ := boxed w #[.bool neg, .slice A la.length ca, .slice B lb.length cb] 25
  have x0 := hB0.f0
  have x1 := hB0.f1
  have x2 := hB0.f2
  rw [hc]
  rcases la with _ | ⟨a, la⟩
  · rw [if_pos rfl]
    go_enter Try.func39, Try.ntmps39
    go_wp2
    go_ret
    exact ⟨rfl, by first | exact bw0 | (subst hw0; exact bw0)⟩
  · have hlen : ((((a :: la).length : Nat) : Int) == 0) = false := by rw [beq_eq_false_iff_ne, List.length_cons]; omega
    rw [if_neg (by simp)]
    generalize (a :: la).length = n at *
    rcases neg with _ | _
    · go_enter Try.func39, Try.ntmps39
      go_wp2
      go_ret
      exact ⟨rfl, bw0⟩
    · go_enter Try.func39, Try.ntmps39
      go_wp2
      go_ret
      exact ⟨rfl, bw0⟩
end Go.Proofs.Ytghpcimeobmonaa
/- fraction.Cmp: what the call does. -/
namespace Go.Proofs.Ytghpcimeobmonaa
set_option linter.unusedVariables false
set_option linter.unusedSimpArgs false
open Go.RowKit Plain
attribute [local go_sem ↓] Go.wp_at_zero Go.wp_at_succ

set_option maxRecDepth 100000 in
set_option maxHeartbeats 1000000 in
theorem cmpF_any {v u : Value} {p q : Rat} {j k : Nat} {w : World} (hv : FV w v p) (hu : FV w u q) (hj : Fits j p) (hk : Fits k q) (hJ : j ≤ 400000000) (hK : k ≤ 400000000) :
    Calls Try.prog 37 #[v, u] w (RetI (cmpR p q) w) := by
  obtain ⟨n1, A, ca, la, B, cb, lb, rfl, na, nb, iq⟩ := hv
  obtain ⟨n2, C, cc, lc, D, cd, ld, rfl, nc, nd, ir⟩ := hu
  have hf := QIs.fits iq hj
  have hg := QIs.fits ir hk
  have iq' := Lib.hid iq
  have ir' := Lib.hid ir
  clear iq ir
  obtain ⟨r, hr⟩ : ∃ r, Hid (cmpR p q = r) := ⟨_, rfl⟩
  rw [hr.out]
  obtain ⟨w0, hw0, bw0, hlt0, hB0⟩ := boxed w #[.bool n1, .slice A la.length ca, .slice B lb.length cb] 25
  obtain ⟨w1, hw1, bw1, hlt1, hB1⟩ := boxed w0 #[.bool n2, .slice C lc.length cc, .slice D ld.length cd] 25
  have hA1 := hB0.keep bw1
  have b01 := bw0.trans (bw1.mono (Nat.le_of_lt hlt0))
  have x0 := hA1.f0
  have x1 := hA1.f1
  have x2 := hA1.f2
  have y0 := hB1.f0
  have y1 := hB1.f1
  have y2 := hB1.f2
  by_cases hne : n1 = n2
  · subst hne
    rcases n1 with _ | _
    · go_enter Try.func37, Try.ntmps37
      go_wp2_with fail
      refine (cross_any (n1 := false) (n2 := false) (na.below b01) (nb.below b01) (nc.below b01) (nd.below b01) (by omega) (by omega) (by omega) (by omega)).mono ?_
      rintro e w2 ⟨X, cx, x, Y, cy, y, rfl, nx, ny, ix, iy, mx, my, b2⟩
      have hc := Lib.hid (show cmpI (val x) (val y) = r by rw [ix.val, iy.val, q_cmp_pos iq'.out ir'.out rfl rfl]; exact hr.out)
      clear ix iy
      have hA2 := hA1.keep b2
      have x0 := hA2.f0
      go_wp2_with fail
      refine (cmp_any nx ny).mono ?_
      rintro e w3 ⟨rfl, b3⟩
      rw [hc.out]
      go_wp2
      go_ret
      exact ⟨rfl, (b01.trans (b2.mono (by omega))).trans (b3.mono (Nat.le_trans b01.size b2.size))⟩
    · go_enter Try.func37, Try.ntmps37
      go_wp2_with fail
      refine (cross_any (n1 := true) (n2 := true) (na.below b01) (nb.below b01) (nc.below b01) (nd.below b01) (by omega) (by omega) (by omega) (by omega)).mono ?_
      rintro e w2 ⟨X, cx, x, Y, cy, y, rfl, nx, ny, ix, iy, mx, my, b2⟩
      have hc := Lib.hid (show cmpI (val y) (val x) = r by rw [ix.val, iy.val, q_cmp_neg iq'.out ir'.out rfl rfl]; exact hr.out)
      clear ix iy
      have hA2 := hA1.keep b2
      have x0 := hA2.f0
      go_wp2_with fail
      refine (cmp_any ny nx).mono ?_
      rintro e w3 ⟨rfl, b3⟩
      rw [hc.out]
      go_wp2
      go_ret
      exact ⟨rfl, (b01.trans (b2.mono (by omega))).trans (b3.mono (Nat.le_trans b01.size b2.size))⟩
  · rcases n1 with _ | _ <;> rcases n2 with _ | _
    · exact absurd rfl hne
    · obtain rfl : (1 : Int) = r := by rw [← hr.out, q_cmp_pn iq'.out ir'.out rfl rfl]
      go_enter Try.func37, Try.ntmps37
      go_wp2
      go_ret
      exact ⟨rfl, b01⟩
    · obtain rfl : (-1 : Int) = r := by rw [← hr.out, q_cmp_np iq'.out ir'.out rfl rfl]
      go_enter Try.func37, Try.ntmps37
      go_wp2
      go_ret
      exact ⟨rfl, b01⟩
    · exact absurd rfl hne
end Go.Proofs.Ytghpcimeobmonaa
/- fraction.New at a denominator 0; R02 New, FromInt and Neg: what the calls do. -/
namespace Go.Proofs.Ytghpcimeobmonaa
set_option linter.unusedVariables false
set_option linter.unusedSimpArgs false
open Go.RowKit Plain
attribute [local go_sem ↓] Go.wp_at_zero Go.wp_at_succ

set_option maxRecDepth 100000 in
set_option maxHeartbeats 1000000 in
theorem new_zero (n : Int) (w : World) (h1 : -9223372036854775808 ≤ n) (h2 : n ≤ 9223372036854775807) :
    Calls Try.prog 17 #[.int .i64 n, .int .i64 0] w (RetZE 8 w) := by
  obtain ⟨w0, hw0, bw0, hlt0, hB0⟩ := boxed w #[.bool false, .slice none 0 0, .slice none 0 0] 25
  go_enter Try.func17, Try.ntmps17
  go_wp2_with fail
  refine (size_any n _ h1 h2).mono ?_
  rintro e w1 ⟨A, c, l, rfl, na, ia, la, b1⟩
  have ia' := Lib.hid ia
  clear ia
  go_wp2_with fail
  refine (size_any 0 _ (by omega) (by omega)).mono ?_
  rintro e w2 ⟨A2, c2, l2, rfl, na2, ia2, la2, b2⟩
  have ia2' := Lib.hid ia2
  clear ia2
  have hl2 := (ia2'.out.zero_iff).2 rfl
  subst hl2
  go_wp2_with fail
  refine (make_zero (B := A2) (cb := c2)).mono ?_
  rintro e w3 ⟨rfl, b3⟩
  have b12 := (b1.trans (b2.mono b1.size))
  have b12 := b12.trans (b3.mono b12.size)
  have hB3 := hB0.keep b12
  have bw3 := bw0.trans (b12.mono (Nat.le_of_lt hlt0))
  have y0 := hB3.f0
  have y1 := hB3.f1
  have y2 := hB3.f2
  have z0 := hB3.free 0
  have z1 := hB3.free 1
  have z2 := hB3.free 2
  go_wp2
  obtain ⟨w9, hw9, hB9, o9⟩ := hB3.set3 (.bool false) (.slice none 0 0) (.slice none 0 0)
  rw [hw9]
  have e0 := hB9.f0
  have e1 := hB9.f1
  have e2 := hB9.f2
  refine bodyPost_ret (v := .tuple #[fracV false none 0 0 none 0 0, .int .i64 8]) (by simp [results, Try.results17, go_sem, e0, e1, e2]) rfl ?_
  exact ⟨rfl, o9.to_below bw3 (Nat.le_refl _) bw3.size⟩
set_option maxRecDepth 100000 in
set_option maxHeartbeats 1000000 in
theorem refNew_any (n d : Int) (w : World) (h1 : -9223372036854775808 ≤ n) (h2 : n ≤ 9223372036854775807) (h3 : -9223372036854775808 ≤ d) (h4 : d ≤ 9223372036854775807) (h0 : d ≠ 0) :
    Calls Try.prog 18 #[.int .i64 n, .int .i64 d] w (RetQE ((n : Rat) / (d : Rat)) w) := by
  obtain ⟨w0, hw0, bw0, hlt0, hB0⟩ := boxed w #[.bool false, .slice none 0 0, .slice none 0 0] 25
  go_enter Try.func18, Try.ntmps18
  go_wp2_with fail
  refine (refSize_any n _ h1 h2).mono ?_
  rintro e w1 ⟨A, c, l, rfl, na, ia, la, b1⟩
  have ia' := Lib.hid ia
  clear ia
  go_wp2_with fail
  refine (refSize_any d _ h3 h4).mono ?_
  rintro e w2 ⟨A2, c2, l2, rfl, na2, ia2, la2, b2⟩
  have ia2' := Lib.hid ia2
  clear ia2
  go_wp2_with fail
  refine (refMake_any (na.below b2) na2 (by rw [ia2'.out.val]; omega) ia'.out.canon ia2'.out.canon (by omega) (by omega)).mono ?_
  rintro e w3 ⟨v, rfl, ⟨n1, A1, c1, l1, B1, d1, m1, rfl, ma, mb, hQ⟩, b3⟩
  rw [ia'.out.val, ia2'.out.val, mk_div h0] at hQ
  have hQ' := Lib.hid hQ
  clear hQ
  have b12 := (b1.trans (b2.mono b1.size))
  have b12 := b12.trans (b3.mono b12.size)
  have hB3 := hB0.keep b12
  have bw3 := bw0.trans (b12.mono (Nat.le_of_lt hlt0))
  have y0 := hB3.f0
  have y1 := hB3.f1
  have y2 := hB3.f2
  have z0 := hB3.free 0
  have z1 := hB3.free 1
  have z2 := hB3.free 2
  go_wp2
  obtain ⟨w9, hw9, hB9, o9⟩ := hB3.set3 (.bool n1) (.slice A1 l1.length c1) (.slice B1 m1.length d1)
  rw [hw9]
  have e0 := hB9.f0
  have e1 := hB9.f1
  have e2 := hB9.f2
  refine bodyPost_ret (v := .tuple #[fracV n1 A1 l1.length c1 B1 m1.length d1, .int .i64 0]) (by simp [results, Try.results18, go_sem, e0, e1, e2]) rfl ?_
  have m1' := ma.only_blk hB3 (noDig3 _ _ _ _ _ _ _) o9
  have m2' := mb.only_blk hB3 (noDig3 _ _ _ _ _ _ _) o9
  exact ⟨_, rfl, ⟨n1, A1, c1, l1, B1, d1, m1, rfl, m1', m2', hQ'.out⟩, o9.to_below bw3 (Nat.le_refl _) bw3.size⟩
set_option maxRecDepth 100000 in
set_option maxHeartbeats 1000000 in
theorem refNew_zero (n : Int) (w : World) (h1 : -9223372036854775808 ≤ n) (h2 : n ≤ 9223372036854775807) :
    Calls Try.prog 18 #[.int .i64 n, .int .i64 0] w (RetZE 8 w) := by
  obtain ⟨w0, hw0, bw0, hlt0, hB0⟩ := boxed w #[.bool false, .slice none 0 0, .slice none 0 0] 25
  go_enter Try.func18, Try.ntmps18
  go_wp2_with fail
  refine (refSize_any n _ h1 h2).mono ?_
  rintro e w1 ⟨A, c, l, rfl, na, ia, la, b1⟩
  have ia' := Lib.hid ia
  clear ia
  go_wp2_with fail
  refine (refSize_any 0 _ (by omega) (by omega)).mono ?_
  rintro e w2 ⟨A2, c2, l2, rfl, na2, ia2, la2, b2⟩
  have ia2' := Lib.hid ia2
  clear ia2
  have hl2 := (ia2'.out.zero_iff).2 rfl
  subst hl2
  go_wp2_with fail
  refine (refMake_zero (B := A2) (cb := c2)).mono ?_
  rintro e w3 ⟨rfl, b3⟩
  have b12 := (b1.trans (b2.mono b1.size))
  have b12 := b12.trans (b3.mono b12.size)
  have hB3 := hB0.keep b12
  have bw3 := bw0.trans (b12.mono (Nat.le_of_lt hlt0))
  have y0 := hB3.f0
  have y1 := hB3.f1
  have y2 := hB3.f2
  have z0 := hB3.free 0
  have z1 := hB3.free 1
  have z2 := hB3.free 2
  go_wp2
  obtain ⟨w9, hw9, hB9, o9⟩ := hB3.set3 (.bool false) (.slice none 0 0) (.slice none 0 0)
  rw [hw9]
  have e0 := hB9.f0
  have e1 := hB9.f1
  have e2 := hB9.f2
  refine bodyPost_ret (v := .tuple #[fracV false none 0 0 none 0 0, .int .i64 8]) (by simp [results, Try.results18, go_sem, e0, e1, e2]) rfl ?_
  exact ⟨rfl, o9.to_below bw3 (Nat.le_refl _) bw3.size⟩
set_option maxRecDepth 100000 in
set_option maxHeartbeats 1000000 in
theorem refFromInt_any (n : Int) (w : World) (h1 : -9223372036854775808 ≤ n) (h2 : n ≤ 9223372036854775807) :
    Calls Try.prog 20 #[.int .i64 n] w (RetQ (n : Rat) w) := by
  obtain ⟨w0, hw0, bw0, hlt0, hB0⟩ := boxed w #[.bool false, .slice none 0 0, .slice none 0 0] 25
  have hr := Lib.hid (show (n : Rat) / ((1 : Int) : Rat) = (n : Rat) by rw [show ((1 : Int) : Rat) = 1 from rfl]; grind)
  go_enter Try.func20, Try.ntmps20
  go_wp2_with fail
  refine (refNew_any n 1 _ h1 h2 (by omega) (by omega) (by omega)).mono ?_
  rintro e w1 ⟨v, rfl, ⟨n1, A1, c1, l1, B1, d1, m1, rfl, na, nb, hQ⟩, b1⟩
  rw [hr.out] at hQ
  have hQ' := Lib.hid hQ
  clear hQ
  have hB1 := hB0.keep b1
  have bw1 := bw0.trans (b1.mono (Nat.le_of_lt hlt0))
  obtain ⟨w2, hw2, bw2, hlt2, hB2⟩ := boxed w1 #[.bool n1, .slice A1 l1.length c1, .slice B1 m1.length d1] 25
  have hR2 := hB1.keep bw2
  have y0 := hR2.f0
  have y1 := hR2.f1
  have y2 := hR2.f2
  have z0 := hR2.free 0
  have z1 := hR2.free 1
  have z2 := hR2.free 2
  have x0 := hB2.f0
  have x1 := hB2.f1
  have x2 := hB2.f2
  go_wp2
  obtain ⟨w9, hw9, hB9, o9⟩ := hR2.set3 (.bool n1) (.slice A1 l1.length c1) (.slice B1 m1.length d1)
  rw [hw9]
  have e0 := hB9.f0
  have e1 := hB9.f1
  have e2 := hB9.f2
  refine bodyPost_ret (v := fracV n1 A1 l1.length c1 B1 m1.length d1) (by simp [results, Try.results20, go_sem, e0, e1, e2]) rfl ?_
  have m1' := (na.below bw2).only_blk hR2 (noDig3 _ _ _ _ _ _ _) o9
  have m2' := (nb.below bw2).only_blk hR2 (noDig3 _ _ _ _ _ _ _) o9
  exact ⟨_, rfl, ⟨n1, A1, c1, l1, B1, d1, m1, rfl, m1', m2', hQ'.out⟩, o9.to_below (bw1.trans (bw2.mono bw1.size)) (Nat.le_refl _) (Nat.le_trans bw1.size bw2.size)⟩
theorem Plain.QIs.negIs {neg : Bool} {la lb : List Nat} {q : Rat} (h : QIs neg la lb q) : QIs (!neg && decide (0 < la.length)) la lb (-q) := by
  refine ⟨by rw [Rat.neg_num, Int.natAbs_neg]; exact h.na, h.nb, ?_⟩
  rw [Rat.neg_num, Bool.eq_iff_iff, Bool.and_eq_true, Bool.not_eq_true', decide_eq_true_eq, decide_eq_true_eq, h.2.2, decide_eq_false_iff_not]
  have h0 := h.na.zero_iff
  constructor
  · rintro ⟨h1, h2⟩
    have : q.num.natAbs ≠ 0 := fun e => by rw [h0.2 e] at h2; simp at h2
    omega
  · intro h1
    refine ⟨by omega, h.na.pos (by omega)⟩
set_option maxRecDepth 100000 in
set_option maxHeartbeats 1000000 in
theorem refNeg_any {v : Value} {q : Rat} {w : World} (hv : FV w v q) :
    Calls Try.prog 40 #[v] w (RetQ (-q) w) := by
  obtain ⟨neg, A, ca, la, B, cb, lb, rfl, na, nb, iq⟩ := hv
  have hag := na.big
  have iq' := Lib.hid iq.negIs
  clear iq
  obtain ⟨w0, hw0, bw0, hlt0, hB0⟩ := boxed w #[.bool neg, .slice A la.length ca, .slice B lb.length cb] 25
  obtain ⟨w1, hw1, bw1, hlt1, hB1⟩ := boxed w0 #[.bool false, .slice none 0 0, .slice none 0 0] 25
  have hA0 := hB0.keep bw1
  have x0 := hA0.f0
  have x1 := hA0.f1
  have x2 := hA0.f2
  have y0 := hB1.f0
  have y1 := hB1.f1
  have y2 := hB1.f2
  have z0 := hB1.free 0
  have z1 := hB1.free 1
  have z2 := hB1.free 2
  have b01 := bw0.trans (bw1.mono (Nat.le_of_lt hlt0))
  obtain ⟨nz, hnz⟩ : ∃ b, decide (0 < la.length) = b := ⟨_, rfl⟩
  rw [hnz] at iq'
  rcases neg with _ | _
  · go_enter Try.func40, Try.ntmps40
    go_wp2
    obtain ⟨w9, hw9, hB9, o9⟩ := hB1.set3 (.bool nz) (.slice A la.length ca) (.slice B lb.length cb)
    rw [hw9]
    have e0 := hB9.f0
    have e1 := hB9.f1
    have e2 := hB9.f2
    refine bodyPost_ret (v := fracV nz A la.length ca B lb.length cb) (by simp [results, Try.results40, go_sem, e0, e1, e2]) rfl ?_
    have m1' := (na.below b01).only_blk hB1 (noDig3 _ _ _ _ _ _ _) o9
    have m2' := (nb.below b01).only_blk hB1 (noDig3 _ _ _ _ _ _ _) o9
    exact ⟨_, rfl, ⟨_, A, ca, la, B, cb, lb, rfl, m1', m2', iq'.out⟩, o9.to_below b01 (Nat.le_of_lt hlt0) b01.size⟩
  · go_enter Try.func40, Try.ntmps40
    go_wp2
    obtain ⟨w9, hw9, hB9, o9⟩ := hB1.set3 (.bool false) (.slice A la.length ca) (.slice B lb.length cb)
    rw [hw9]
    have e0 := hB9.f0
    have e1 := hB9.f1
    have e2 := hB9.f2
    refine bodyPost_ret (v := fracV false A la.length ca B lb.length cb) (by simp [results, Try.results40, go_sem, e0, e1, e2]) rfl ?_
    have m1' := (na.below b01).only_blk hB1 (noDig3 _ _ _ _ _ _ _) o9
    have m2' := (nb.below b01).only_blk hB1 (noDig3 _ _ _ _ _ _ _) o9
    exact ⟨_, rfl, ⟨_, A, ca, la, B, cb, lb, rfl, m1', m2', iq'.out⟩, o9.to_below b01 (Nat.le_of_lt hlt0) b01.size⟩
end Go.Proofs.Ytghpcimeobmonaa
/- The fraction law's awake: what the call does. -/
namespace Go.Proofs.Ytghpcimeobmonaa
set_option linter.unusedVariables false
set_option linter.unusedSimpArgs false
open Go.RowKit Plain
attribute [local go_sem ↓] Go.wp_at_zero Go.wp_at_succ

theorem parse24 : pfOK [50, 47, 52] = false := by decide +kernel
theorem retPF_24 {s : ByteArray} {W w' : World} {e : Ending} (h : RetPF (bytes s) W e w') (hs : bytes s = [50, 47, 52]) : RetZE 2 W e w' := by
  unfold RetPF at h
  rw [hs, if_neg (by decide), if_neg (by rw [parse24]; decide)] at h
  exact h
theorem blk_fv {w : World} {g : Nat} {t : TypeId} {n : Bool} {A B : Option Addr} {a c b d : Nat} (h : Blk w g t #[.bool n, .slice A a c, .slice B b d]) : w.cell? ⟨g, 0, none⟩ = some (.bool n) ∧ w.cell? ⟨g, 1, none⟩ = some (.slice A a c) ∧ w.cell? ⟨g, 2, none⟩ = some (.slice B b d) := ⟨h.f0, h.f1, h.f2⟩
set_option maxRecDepth 100000 in
set_option maxHeartbeats 4000000 in
theorem awake_any (w : World) : Calls Try.prog 11 #[] w (RetB true w) := by
  go_enter Try.func11, Try.ntmps11
  go_wp2_with fail
  refine (new_any 1 3 _ (by omega) (by omega) (by omega) (by omega) (by omega)).mono ?_
  rintro e w1 ⟨v1, rfl, ⟨n1, A1, ca1, la1, B1, cb1, lb1, rfl, na1, nb1, iq1⟩, b1⟩
  have fv1 : FV w1 (fracV n1 A1 la1.length ca1 B1 lb1.length cb1) (((1 : Int) : Rat) / ((3 : Int) : Rat)) := ⟨_, _, _, _, _, _, _, rfl, na1, nb1, iq1⟩
  clear na1 nb1 iq1
  have bT := b1
  obtain ⟨y1, hy1, by1, hlt1, hX1⟩ := boxed w1 #[.bool n1, .slice A1 la1.length ca1, .slice B1 lb1.length cb1] 25
  have bT := bT.trans (by1.mono bT.size)
  have fv1 := fv1.below by1
  go_wp2_with fail
  refine (new_any 1 6 _ (by omega) (by omega) (by omega) (by omega) (by omega)).mono ?_
  rintro e w2 ⟨v2, rfl, ⟨n2, A2, ca2, la2, B2, cb2, lb2, rfl, na2, nb2, iq2⟩, b2⟩
  have fv2 : FV w2 (fracV n2 A2 la2.length ca2 B2 lb2.length cb2) (((1 : Int) : Rat) / ((6 : Int) : Rat)) := ⟨_, _, _, _, _, _, _, rfl, na2, nb2, iq2⟩
  clear na2 nb2 iq2
  have bT := bT.trans (b2.mono bT.size)
  have hX1 := hX1.keep b2
  have fv1 := fv1.below b2
  obtain ⟨y2, hy2, by2, hlt2, hX2⟩ := boxed w2 #[.bool n2, .slice A2 la2.length ca2, .slice B2 lb2.length cb2] 25
  have bT := bT.trans (by2.mono bT.size)
  have hX1 := hX1.keep by2
  have fv1 := fv1.below by2
  have fv2 := fv2.below by2
  go_wp2_with fail
  refine (new_any 1 2 _ (by omega) (by omega) (by omega) (by omega) (by omega)).mono ?_
  rintro e w3 ⟨v3, rfl, ⟨n3, A3, ca3, la3, B3, cb3, lb3, rfl, na3, nb3, iq3⟩, b3⟩
  have fv3 : FV w3 (fracV n3 A3 la3.length ca3 B3 lb3.length cb3) (((1 : Int) : Rat) / ((2 : Int) : Rat)) := ⟨_, _, _, _, _, _, _, rfl, na3, nb3, iq3⟩
  clear na3 nb3 iq3
  have bT := bT.trans (b3.mono bT.size)
  have hX1 := hX1.keep b3
  have hX2 := hX2.keep b3
  have fv1 := fv1.below b3
  have fv2 := fv2.below b3
  obtain ⟨y3, hy3, by3, hlt3, hX3⟩ := boxed w3 #[.bool n3, .slice A3 la3.length ca3, .slice B3 lb3.length cb3] 25
  have bT := bT.trans (by3.mono bT.size)
  have hX1 := hX1.keep by3
  have hX2 := hX2.keep by3
  have fv1 := fv1.below by3
  have fv2 := fv2.below by3
  have fv3 := fv3.below by3
  go_wp2_with fail
  refine (new_zero 1 _ (by omega) (by omega)).mono ?_
  rintro e w4 ⟨rfl, b4⟩
  have bT := bT.trans (b4.mono bT.size)
  have hX1 := hX1.keep b4
  have hX2 := hX2.keep b4
  have hX3 := hX3.keep b4
  have fv1 := fv1.below b4
  have fv2 := fv2.below b4
  have fv3 := fv3.below b4
  obtain ⟨y4, hy4, by4, hlt4, hZ4⟩ := boxed w4 #[.bool false, .slice none 0 0, .slice none 0 0] 25
  have bT := bT.trans (by4.mono bT.size)
  have hX1 := hX1.keep by4
  have hX2 := hX2.keep by4
  have hX3 := hX3.keep by4
  have fv1 := fv1.below by4
  have fv2 := fv2.below by4
  have fv3 := fv3.below by4
  have za4 := hZ4.f0
  have zb4 := hZ4.f1
  have zc4 := hZ4.f2
  have zf40 := hZ4.free 0
  have zf41 := hZ4.free 1
  have zf42 := hZ4.free 2
  have zs40 := hZ4.same (i := 0) (u := .bool false) rfl
  have zs41 := hZ4.same (i := 1) (u := .slice none 0 0) rfl
  have zs42 := hZ4.same (i := 2) (u := .slice none 0 0) rfl
  obtain ⟨c3a, c3b, c3c⟩ := blk_fv hX3
  go_wp2_with fail
  clear za4 zb4 zc4 zf40 zf41 zf42 zs40 zs41 zs42 c3a c3b c3c
  refine (neg_any fv3 (k := 1) ⟨by decide +kernel, by decide +kernel⟩ (by omega)).mono ?_
  rintro e wn ⟨vn, rfl, fvn, bn⟩
  have bT := bT.trans (bn.mono bT.size)
  have hX1 := hX1.keep bn
  have hX2 := hX2.keep bn
  have hX3 := hX3.keep bn
  have fv1 := fv1.below bn
  have fv2 := fv2.below bn
  have fv3 := fv3.below bn
  go_wp2_with fail
  refine (floorF_any fvn (k := 1) ⟨by decide +kernel, by decide +kernel⟩ (by omega)).mono ?_
  rintro e wf ⟨rfl, bf⟩
  have hfl : inR (decide ((-(((1 : Int) : Rat) / ((2 : Int) : Rat))).num < 0)) (rndN false (-(((1 : Int) : Rat) / ((2 : Int) : Rat)))) = true := by decide +kernel
  have hfz : sg (decide ((-(((1 : Int) : Rat) / ((2 : Int) : Rat))).num < 0)) (rndN false (-(((1 : Int) : Rat) / ((2 : Int) : Rat)))) = -1 := by decide +kernel
  rw [hfl, if_pos rfl, hfz]
  clear hfl hfz fvn
  have bT := bT.trans (bf.mono bT.size)
  have hX1 := hX1.keep bf
  have hX2 := hX2.keep bf
  have hX3 := hX3.keep bf
  have fv1 := fv1.below bf
  have fv2 := fv2.below bf
  have fv3 := fv3.below bf
  go_wp2_with fail
  refine (parseF_any _ _ (by decide)).mono ?_
  rintro e w5 hp5
  obtain ⟨rfl, b5⟩ := retPF_24 hp5 (by decide +kernel)
  clear hp5
  have bT := bT.trans (b5.mono bT.size)
  have hX1 := hX1.keep b5
  have hX2 := hX2.keep b5
  have hX3 := hX3.keep b5
  have fv1 := fv1.below b5
  have fv2 := fv2.below b5
  have fv3 := fv3.below b5
  obtain ⟨y5, hy5, by5, hlt5, hZ5⟩ := boxed w5 #[.bool false, .slice none 0 0, .slice none 0 0] 25
  have bT := bT.trans (by5.mono bT.size)
  have hX1 := hX1.keep by5
  have hX2 := hX2.keep by5
  have hX3 := hX3.keep by5
  have fv1 := fv1.below by5
  have fv2 := fv2.below by5
  have fv3 := fv3.below by5
  have za5 := hZ5.f0
  have zb5 := hZ5.f1
  have zc5 := hZ5.f2
  have zf50 := hZ5.free 0
  have zf51 := hZ5.free 1
  have zf52 := hZ5.free 2
  have zs50 := hZ5.same (i := 0) (u := .bool false) rfl
  have zs51 := hZ5.same (i := 1) (u := .slice none 0 0) rfl
  have zs52 := hZ5.same (i := 2) (u := .slice none 0 0) rfl
  go_wp2_with fail
  refine (new_any 6 (-4) _ (by omega) (by omega) (by omega) (by omega) (by omega)).mono ?_
  rintro e w6 ⟨v6, rfl, ⟨n6, A6, ca6, la6, B6, cb6, lb6, rfl, na6, nb6, iq6⟩, b6⟩
  have fv6 : FV w6 (fracV n6 A6 la6.length ca6 B6 lb6.length cb6) (((6 : Int) : Rat) / (((-4) : Int) : Rat)) := ⟨_, _, _, _, _, _, _, rfl, na6, nb6, iq6⟩
  clear na6 nb6 iq6
  have bT := bT.trans (b6.mono bT.size)
  have hX1 := hX1.keep b6
  have hX2 := hX2.keep b6
  have hX3 := hX3.keep b6
  have fv1 := fv1.below b6
  have fv2 := fv2.below b6
  have fv3 := fv3.below b6
  obtain ⟨y6, hy6, by6, hlt6, hX6⟩ := boxed w6 #[.bool n6, .slice A6 la6.length ca6, .slice B6 lb6.length cb6] 25
  have bT := bT.trans (by6.mono bT.size)
  have hX1 := hX1.keep by6
  have hX2 := hX2.keep by6
  have hX3 := hX3.keep by6
  have fv1 := fv1.below by6
  have fv2 := fv2.below by6
  have fv3 := fv3.below by6
  have fv6 := fv6.below by6
  clear za5 zb5 zc5 zf50 zf51 zf52 zs50 zs51 zs52
  obtain ⟨c1a, c1b, c1c⟩ := blk_fv hX1
  obtain ⟨c2a, c2b, c2c⟩ := blk_fv hX2
  obtain ⟨c3a, c3b, c3c⟩ := blk_fv hX3
  obtain ⟨c6a, c6b, c6c⟩ := blk_fv hX6
  have hS : ∀ w', Below y6.heap.size y6 w' → w'.cell? ⟨w1.heap.size, 0, none⟩ = some (.bool n1) ∧ w'.cell? ⟨w1.heap.size, 1, none⟩ = some (.slice A1 la1.length ca1) ∧ w'.cell? ⟨w1.heap.size, 2, none⟩ = some (.slice B1 lb1.length cb1) ∧ w'.cell? ⟨w2.heap.size, 0, none⟩ = some (.bool n2) ∧ w'.cell? ⟨w2.heap.size, 1, none⟩ = some (.slice A2 la2.length ca2) ∧ w'.cell? ⟨w2.heap.size, 2, none⟩ = some (.slice B2 lb2.length cb2) ∧ w'.cell? ⟨w3.heap.size, 0, none⟩ = some (.bool n3) ∧ w'.cell? ⟨w3.heap.size, 1, none⟩ = some (.slice A3 la3.length ca3) ∧ w'.cell? ⟨w3.heap.size, 2, none⟩ = some (.slice B3 lb3.length cb3) ∧ w'.cell? ⟨w6.heap.size, 0, none⟩ = some (.bool n6) ∧ w'.cell? ⟨w6.heap.size, 1, none⟩ = some (.slice A6 la6.length ca6) ∧ w'.cell? ⟨w6.heap.size, 2, none⟩ = some (.slice B6 lb6.length cb6) ∧ Below y6.heap.size y6 w' := fun w' o =>
    ⟨(hX1.keep o).f0, (hX1.keep o).f1, (hX1.keep o).f2, (hX2.keep o).f0, (hX2.keep o).f1, (hX2.keep o).f2, (hX3.keep o).f0, (hX3.keep o).f1, (hX3.keep o).f2, (hX6.keep o).f0, (hX6.keep o).f1, (hX6.keep o).f2, o⟩
  have hf1 : Fits 1 (((1 : Int) : Rat) / ((3 : Int) : Rat)) := ⟨by decide +kernel, by decide +kernel⟩
  have hf2 : Fits 1 (((1 : Int) : Rat) / ((6 : Int) : Rat)) := ⟨by decide +kernel, by decide +kernel⟩
  have hf6 : Fits 1 (((6 : Int) : Rat) / (((-4) : Int) : Rat)) := ⟨by decide +kernel, by decide +kernel⟩
  have d6 : Below y6.heap.size y6 y6.drew := (Below.refl _ _).drew
  have k1 : decide ((((1 : Int) : Rat) / ((3 : Int) : Rat)) + (((1 : Int) : Rat) / ((6 : Int) : Rat)) = ((1 : Int) : Rat) / ((2 : Int) : Rat)) = true := by decide +kernel
  have k2 : fmtQ (((6 : Int) : Rat) / ((-4 : Int) : Rat)) = ⟨#[45, 51, 47, 50]⟩ := by decide +kernel
  have k3 : cmpR (((6 : Int) : Rat) / ((-4 : Int) : Rat)) (((1 : Int) : Rat) / ((3 : Int) : Rat)) = -1 := by decide +kernel
  have k1' := Lib.hid k1
  have k2' := Lib.hid k2
  have k3' := Lib.hid k3
  clear k1 k2 k3
  go_wp2_with fail
  go_region_held3 (fun w' => w'.cell? ⟨w1.heap.size, 0, none⟩ = some (.bool n1) ∧ w'.cell? ⟨w1.heap.size, 1, none⟩ = some (.slice A1 la1.length ca1) ∧ w'.cell? ⟨w1.heap.size, 2, none⟩ = some (.slice B1 lb1.length cb1) ∧ w'.cell? ⟨w2.heap.size, 0, none⟩ = some (.bool n2) ∧ w'.cell? ⟨w2.heap.size, 1, none⟩ = some (.slice A2 la2.length ca2) ∧ w'.cell? ⟨w2.heap.size, 2, none⟩ = some (.slice B2 lb2.length cb2) ∧ w'.cell? ⟨w3.heap.size, 0, none⟩ = some (.bool n3) ∧ w'.cell? ⟨w3.heap.size, 1, none⟩ = some (.slice A3 la3.length ca3) ∧ w'.cell? ⟨w3.heap.size, 2, none⟩ = some (.slice B3 lb3.length cb3) ∧ w'.cell? ⟨w6.heap.size, 0, none⟩ = some (.bool n6) ∧ w'.cell? ⟨w6.heap.size, 1, none⟩ = some (.slice A6 la6.length ca6) ∧ w'.cell? ⟨w6.heap.size, 2, none⟩ = some (.slice B6 lb6.length cb6) ∧ Below y6.heap.size y6 w') (((try go_split_ands); (try dsimp only); exact hS _ (by assumption))) (first
    | (go_at_call 28; go_split_ands; (with_reducible refine (addF_any (j := 1) (k := 1) (fv1.below (by assumption)) (fv2.below (by assumption)) hf1 hf2 (by omega)).mono ?_); rintro e wa ⟨va, rfl, fva, ba⟩; have o7 := (show Below y6.heap.size y6 _ by assumption).trans (ba.mono (show Below y6.heap.size y6 _ by assumption).size))
    | (go_at_call 16; go_split_ands; (with_reducible refine (sameQ_any fva (fv3.below (by assumption))).mono ?_); rintro e wb ⟨rfl, bb⟩; rw [k1'.out]; have o8 := (show Below y6.heap.size y6 _ by assumption).trans (bb.mono (show Below y6.heap.size y6 _ by assumption).size))
    | (go_at_call 12; go_split_ands; (with_reducible refine (formatF_any (k := 1) (fv6.below (by assumption)) hf6 (by omega)).mono ?_); rintro e wc ⟨rfl, bc⟩; rw [k2'.out]; have o9 := (show Below y6.heap.size y6 _ by assumption).trans (bc.mono (show Below y6.heap.size y6 _ by assumption).size))
    | (go_at_call 37; go_split_ands; (with_reducible refine (cmpF_any (j := 1) (k := 1) (fv6.below (by assumption)) (fv1.below (by assumption)) hf6 hf1 (by omega) (by omega)).mono ?_); rintro e wd ⟨rfl, bd⟩; rw [k3'.out]; have o10 := (show Below y6.heap.size y6 _ by assumption).trans (bd.mono (show Below y6.heap.size y6 _ by assumption).size)))
  go_wp2
  go_ret
  exact ⟨rfl, bT.trans (o10.mono bT.size)⟩
end Go.Proofs.Ytghpcimeobmonaa
