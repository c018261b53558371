/- natural.Parse: what the call does. -/
import Derived.Test.YtghpcimeobmonaaApp
namespace Go.Proofs.Ytghpcimeobmonaa
set_option linter.unusedVariables false
set_option linter.unusedSimpArgs false
open Go.RowKit Plain

/-- The bytes of a string as numbers. -/
def bytes (s : ByteArray) : List Nat := s.data.toList.map UInt8.toNat
theorem bytes_length (s : ByteArray) : (bytes s).length = s.size := by simp [bytes]
theorem bytes_get (s : ByteArray) (k : Nat) (h : k < s.size) : (bytes s).getD k 0 = (s[k]).toNat := by
  have hk : k < s.data.toList.length := by simpa using h
  rw [bytes, List.getD_eq_getElem?_getD, List.getElem?_map, List.getElem?_eq_getElem hk]
  rfl

def isDec (b : Nat) : Bool := decide (48 ≤ b ∧ b ≤ 57)
def decVal (l : List Nat) : Nat := l.foldl (fun v b => 10 * v + (b - 48)) 0
theorem decVal_snoc (l : List Nat) (b : Nat) : decVal (l ++ [b]) = 10 * decVal l + (b - 48) := by simp [decVal]
def parErr (l : List Nat) : Nat := if l = [] then 1 else if 600 < l.length then 3 else if l.all isDec = false then 2 else if l.getD 0 0 = 48 ∧ 1 < l.length then 2 else 0
def parVal (l : List Nat) : Nat := if parErr l = 0 then decVal l else 0

def RetPar (l : List Nat) (W : World) (e : Ending) (w' : World) : Prop :=
  ∃ A c r, e = .returned (.tuple #[.slice A r.length c, .int .i64 ((parErr l : Nat) : Int)]) ∧ Nv w' A c r ∧ NatIs r (parVal l) ∧ r.length ≤ 600 ∧ Below W.heap.size W w'

theorem retPar_err {l : List Nat} {w : World} {n : Nat} (h : parErr l = n) (h0 : n ≠ 0) (v : Value) (hv : v = .tuple #[.slice none 0 0, .int .i64 (n : Int)]) : RetPar l w (.returned v) w :=
  ⟨none, 0, [], by rw [hv, h]; rfl, nv_nil' _, by unfold parVal; rw [if_neg (by rw [h]; exact h0)]; exact NatIs.nil, by simp, Below.refl _ _⟩

theorem isEmpty_of (s : ByteArray) : s.toList.isEmpty = decide (s.size = 0) := by
  have h : decide (s = ByteArray.empty) = s.toList.isEmpty := decide_eq_emptyBytes s
  rw [← h, decide_eq_decide]
  constructor
  · rintro rfl; rfl
  · intro h0
    cases s with
    | mk d =>
      have : d = #[] := Array.eq_empty_of_size_eq_zero h0
      subst this; rfl
theorem bytes_nil (s : ByteArray) : bytes s = [] ↔ s.size = 0 := by
  rw [← bytes_length]; exact ⟨fun h => by rw [h]; rfl, List.eq_nil_of_length_eq_zero⟩
theorem all_take_succ (l : List Nat) (k : Nat) (hk : k < l.length) (h : (l.take k).all isDec = true) (hb : isDec (l.getD k 0) = true) : (l.take (k + 1)).all isDec = true := by
  rw [take_snoc' l k hk, List.all_append, h, Bool.true_and, List.all_cons, hb]; rfl
theorem not_all (l : List Nat) (k : Nat) (hk : k < l.length) (hb : isDec (l.getD k 0) = false) : l.all isDec = false := by
  rw [List.all_eq_false]
  refine ⟨l.getD k 0, ?_, by rw [hb]; decide⟩
  rw [List.getD_eq_getElem?_getD, List.getElem?_eq_getElem hk]
  exact List.getElem_mem hk
theorem all_get (l : List Nat) (k : Nat) (hk : k < l.length) (h : l.all isDec = true) : 48 ≤ l.getD k 0 ∧ l.getD k 0 ≤ 57 := by
  have := List.all_eq_true.1 h (l.getD k 0) (by rw [List.getD_eq_getElem?_getD, List.getElem?_eq_getElem hk]; exact List.getElem_mem hk)
  simpa [isDec] using this

/-- The outer loop: the digits of the number so far. -/
def ParInv (l : List Nat) (w : World) (v i : Value) (wr : World) : Prop :=
  ∃ (k : Nat) (o : List Nat), k ≤ l.length ∧ i = .int .i64 (k : Int) ∧ OwnD wr w.heap.size v o ∧ Dig o ∧ o.length ≤ k ∧ Hid (val o = decVal (l.take k)) ∧ Below w.heap.size w wr
/-- The inner loop: ten times the number, and a digit. -/
def ParInv2 (o : List Nat) (d : Nat) (w : World) (v c i : Value) (wr : World) : Prop :=
  ∃ (j cv : Nat) (lo : List Nat), j ≤ o.length ∧ i = .int .i64 (j : Int) ∧ c = .int .u64 (cv : Int) ∧ cv ≤ 9 ∧ Hid (lo.length = j) ∧ Dig lo ∧ OwnD wr w.heap.size v (lo ++ o.drop j) ∧
    Hid (val lo + pw j * cv = 10 * val (o.take j) + d) ∧ Below w.heap.size w wr

theorem drop_cons' {us : List Nat} {k : Nat} (h : k < us.length) : us.drop k = us.getD k 0 :: us.drop (k + 1) := by
  rw [List.drop_eq_getElem_cons h, List.getD_eq_getElem?_getD, List.getElem?_eq_getElem h]; rfl
theorem par_digit (P x a d c xk s : Nat) (h : x + P * c = 10 * a + d) (hs : s = 10 * xk + c) : x + P * (s % 4294967296) + 4294967296 * P * (s / 4294967296) = 10 * (a + P * xk) + d := by
  have h1 : P * s = P * (s % 4294967296) + 4294967296 * P * (s / 4294967296) := by
    rw [Nat.mul_comm 4294967296 P, Nat.mul_assoc, ← Nat.mul_add, Nat.mod_add_div]
  have h2 : P * s = 10 * (P * xk) + P * c := by rw [hs, Nat.mul_add, Nat.mul_left_comm]
  omega

theorem par_cell {w : World} {g j x : Nat} {lo o : List Nat} (h : ∀ i, i < (lo ++ o.drop j).length → w.cell? ⟨g, i, none⟩ = some (.int .u32 (((lo ++ o.drop j).getD i 0 : Nat) : Int))) (hlo : Hid (lo.length = j)) (hj : j < o.length) (hx : Hid (o.getD j 0 = x)) :
    w.cell? ⟨g, j, none⟩ = some (.int .u32 (x : Int)) := by
  rw [h j (by rw [List.length_append, List.length_drop, hlo.out]; omega)]
  congr 3
  rw [← hx.out, List.getD_eq_getElem?_getD, List.getElem?_append_right (by rw [hlo.out]; omega), hlo.out, Nat.sub_self, List.getElem?_drop, List.getD_eq_getElem?_getD]
  rfl
theorem par_set {lo o : List Nat} {j y : Nat} (hlo : Hid (lo.length = j)) (hj : j < o.length) : (lo ++ o.drop j).set j y = lo ++ [y] ++ o.drop (j + 1) := by
  rw [drop_cons' hj, ← hlo.out, set_mid, List.append_assoc]
  rfl

set_option maxRecDepth 100000 in
set_option maxHeartbeats 1000000 in
theorem parse_any (s : ByteArray) (w : World) (hs : s.size ≤ 9223372036854775807) :
    Calls Try.prog 53 #[.string s] w (RetPar (bytes s) w) := by
  have hbl := Lib.hid (bytes_length s)
  have he := isEmpty_of s
  by_cases h0 : s.size = 0
  · rw [decide_eq_true h0] at he
    have hr := Lib.hid (show parErr (bytes s) = 1 by unfold parErr; rw [if_pos ((bytes_nil s).2 h0)])
    clear h0
    go_enter Try.func53, Try.ntmps53
    go_wp2
    go_ret2
    exact retPar_err hr.out (by decide) _ rfl
  rw [decide_eq_false h0] at he
  have hnn := Lib.hid (show bytes s ≠ [] from fun e => h0 ((bytes_nil s).1 e))
  by_cases h600 : 600 < s.size
  · have hr := Lib.hid (show parErr (bytes s) = 3 by unfold parErr; rw [if_neg hnn.out, if_pos (by rw [hbl.out]; exact h600)])
    have h600' : decide (600 < s.size) = true := decide_eq_true h600
    go_enter Try.func53, Try.ntmps53
    go_wp2
    go_ret2
    exact retPar_err hr.out (by decide) _ rfl
  have h600' : decide (600 < s.size) = false := decide_eq_false h600
  have h600i : decide ((600 : Int) < (s.size : Int)) = false := decide_eq_false (by omega)
  have hs6 : s.size ≤ 600 := by omega
  have hsp : 0 < s.size := by omega
  have hn6 := Lib.hid (show ¬ 600 < (bytes s).length by rw [hbl.out]; exact h600)
  clear h600 h0
  go_enter Try.func53, Try.ntmps53
  go_wp2
  go_loop [17] (fun i => ∃ k : Nat, k ≤ s.size ∧ i = .int .i64 k ∧ Hid (((bytes s).take k).all isDec = true)) (fun i => s.size - (intOf i).toNat)
  case atStart => exact ⟨0, by omega, rfl, rfl⟩
  case round =>
    obtain ⟨k, hk, rfl, hall⟩ := hrel
    by_cases hlt : k < s.size
    · have hbk := Lib.hid (bytes_get s k hlt)
      have bad : isDec (s[k]).toNat = false → parErr (bytes s) = 2 := fun h => by
        unfold parErr
        rw [if_neg hnn.out, if_neg hn6.out, if_pos (not_all _ k (by rw [hbl.out]; exact hlt) (by rw [hbk.out]; exact h))]
      have hbad := Lib.hid bad
      clear bad
      go_wp2
      · have h1 : (48 : Int) ≤ ((s[k]).toNat : Int) := by assumption
        have h2 : ((s[k]).toNat : Int) < 48 ∨ 57 < ((s[k]).toNat : Int) := by assumption
        go_ret2
        exact retPar_err (hbad.out (by unfold isDec; rw [decide_eq_false]; omega)) (by decide) _ rfl
      · have h1 : (48 : Int) ≤ ((s[k]).toNat : Int) ∧ ((s[k]).toNat : Int) ≤ 57 := by assumption
        go_round
        case rel => exact ⟨k + 1, by omega, by go_num, all_take_succ _ k (by rw [hbl.out]; exact hlt) hall.out (by rw [hbk.out]; unfold isDec; rw [decide_eq_true]; omega)⟩
        case measure => simp [intOf]; omega
      · have h1 : ((s[k]).toNat : Int) < 48 := by assumption
        go_ret2
        exact retPar_err (hbad.out (by unfold isDec; rw [decide_eq_false]; omega)) (by decide) _ rfl
    · obtain rfl : k = s.size := by omega
      have hall2 := Lib.hid (show (bytes s).all isDec = true by
        have := hall.out
        rw [List.take_of_length_le (by rw [hbl.out]; exact Nat.le_refl _)] at this
        exact this)
      have hb0 := Lib.hid (bytes_get s 0 hsp)
      by_cases hz : (bytes s).getD 0 0 = 48 ∧ 1 < s.size
      · have hr := Lib.hid (show parErr (bytes s) = 2 by
          unfold parErr
          rw [if_neg hnn.out, if_neg hn6.out, if_neg (by rw [hall2.out]; decide), if_pos ⟨hz.1, by rw [hbl.out]; exact hz.2⟩])
        have h1 : (((s[0]).toNat : Int) == 48) = true := by rw [← hb0.out, beq_iff_eq, hz.1]; rfl
        have h2 : 1 < s.size := hz.2
        clear hz
        go_wp2
        go_ret2
        exact retPar_err hr.out (by decide) _ rfl
      · have hr := Lib.hid (show parErr (bytes s) = 0 by
          unfold parErr
          rw [if_neg hnn.out, if_neg hn6.out, if_neg (by rw [hall2.out]; decide), if_neg (by rw [hbl.out]; exact hz)])
        by_cases hz1 : (bytes s).getD 0 0 = 48
        all_goals
          have h1 : (((s[0]).toNat : Int) == 48) = decide ((bytes s).getD 0 0 = 48) := by rw [← hb0.out, Bool.eq_iff_iff, beq_iff_eq, decide_eq_true_eq]; omega
          first | rw [decide_eq_true hz1] at h1 | rw [decide_eq_false hz1] at h1
          have h2 : (bytes s).getD 0 0 = 48 → s.size ≤ 1 := fun e => Nat.not_lt.1 fun e2 => hz ⟨e, e2⟩
          first | (have h2 := h2 hz1; have h2i : decide ((1 : Int) < (s.size : Int)) = false := decide_eq_false (by omega)) | (clear h2)
          clear hz hz1
          go_wp2
          go_loopw [5, 41] (fun v i wr => ParInv (bytes s) w v i wr) (fun _ i _ => s.size - (intOf i).toNat)
          case atStart => exact ⟨0, [], by omega, rfl, OwnD.nil _ _, Dig.nil, by simp, rfl, Below.refl _ _⟩
          case round =>
            obtain ⟨k, o, hk, rfl, hown, hod, hol, hval, hbel⟩ := hrel
            rw [hbl.out] at hk
            obtain ⟨wo, rfl⟩ : ∃ wo : World, wo = wr := ⟨_, rfl⟩
            obtain ⟨A, c, rfl, hoc, hord⟩ := hown.form
            by_cases hks : k < s.size
            · obtain ⟨b, hb⟩ : ∃ b : Nat, (s[k]).toNat = b := ⟨_, rfl⟩
              have hbk := Lib.hid ((bytes_get s k hks).trans hb)
              have hbb := all_get _ k (by rw [hbl.out]; exact hks) hall2.out
              rw [hbk.out] at hbb
              obtain ⟨hb1, hb2⟩ := hbb
              obtain ⟨d, hd⟩ : ∃ d : Nat, Hid (b = 48 + d) := ⟨b - 48, by show _ = _; omega⟩
              have hd9 : d ≤ 9 := by have := hd.out; omega
              have hdi := Lib.hid (show (b : Int) - 48 = (d : Int) by have := hd.out; omega)
              go_wp2
              rw [hdi.out]
              go_loopw [7, 51] (fun cv j wx => ParInv2 o d w (.slice A o.length c) cv j wx) (fun _ j _ => o.length - (intOf j).toNat)
              case atStart => exact ⟨0, d, [], by omega, rfl, rfl, hd9, rfl, Dig.nil, hown.eq (by simp), by show _ = _; simp [val, pw], hbel⟩
              case round =>
                obtain ⟨j, cv, lo, hj, rfl, rfl, hcv, hlo, hlod, hown2, hval2, hbel2⟩ := hrel
                by_cases hjn : j < o.length
                · first
                    | (exfalso; omega)
                    | (obtain ⟨g, hA, -, hgB, hgl, hcells, hfree, hset⟩ := hown2.row (by rw [List.length_append, List.length_drop, hlo.out]; omega)
                       subst hA
                       obtain ⟨x, hx⟩ : ∃ x, Hid (o.getD j 0 = x) := ⟨_, rfl⟩
                       have hxb : x < 4294967296 := hx.out ▸ hod.getD _
                       have hc0 := par_cell hcells hlo hjn hx
                       have hf := hfree j
                       have hst := Lib.hid (fun (v : Int) (hv : v = ((10 * x + cv) % 4294967296 : Nat)) => hset j ((10 * x + cv) % 4294967296) v hv)
                       have hjd : decide (j < o.length) = true := decide_eq_true hjn
                       clear hcells hfree hset
                       go_wp2
                       go_roundw
                       case rel => exact ⟨j + 1, (10 * x + cv) / 4294967296, lo ++ [(10 * x + cv) % 4294967296], by omega, rfl, by congr 1, by omega, by show (lo ++ [_]).length = _; rw [List.length_append, hlo.out]; rfl, hlod.snoc (Nat.mod_lt _ (by omega)), (hst.out _ (by omega)).eq (par_set hlo hjn), by
                         show val (lo ++ [_]) + pw (j + 1) * _ = _
                         rw [val_snoc, hlo.out, val_take_succ, hx.out, pw]
                         exact par_digit _ _ _ _ _ _ _ hval2.out rfl, hbel2.setCell hgB _⟩
                       case measure => simp [intOf]; omega)
                · obtain rfl : j = o.length := by omega
                  have hjd : decide (o.length < o.length) = false := decide_eq_false (by omega)
                  have hown3 : OwnD wr w.heap.size (.slice A o.length c) lo := hown2.eq (by simp)
                  have hv3 := Lib.hid (show val lo + pw o.length * cv = decVal ((bytes s).take (k + 1)) by
                    rw [hval2.out, val_take_ge _ _ (Nat.le_refl _), hval.out, take_snoc' _ k (by rw [hbl.out]; exact hks), hbk.out, decVal_snoc, hd.out, Nat.add_sub_cancel_left])
                  by_cases hc0 : cv = 0
                  · subst hc0
                    go_wp2
                    go_roundw
                    case rel => exact ⟨k + 1, lo, by rw [hbl.out]; omega, rfl, hown3, hlod, by rw [hlo.out]; omega, by have := hv3.out; rw [Nat.mul_zero, Nat.add_zero] at this; exact this, hbel2⟩
                    case measure => simp [intOf]; omega
                  · have hcp : decide (0 < cv) = true := decide_eq_true (by omega)
                    have hcs : (#[Value.int .u32 (cv : Int)] : Array Value) = (u32s [cv]).toArray := rfl
                    have hrd := (row_alloc wr hcs).rd
                    have hv4 := Lib.hid (show val (lo ++ [cv]) = decVal ((bytes s).take (k + 1)) by rw [val_snoc, hlo.out]; exact hv3.out)
                    clear hcs hc0
                    go_wp2_with (at_builtin; refine wpList_app _ rfl rfl _ _ rfl w.heap.size _ lo rfl (hown3.alloc _) (some ⟨wr.heap.size, 0, none⟩) 1 1 [cv] rfl hrd rfl ?_ ?_ ?_; (rw [hlo.out]; omega); (have := hbel2.size; simp; omega); intro v' w2 hown4 hgrow4)
                    go_roundw
                    case rel => exact ⟨k + 1, lo ++ [cv], by rw [hbl.out]; omega, rfl, hown4, hlod.snoc (by omega), by rw [List.length_append, hlo.out]; simp; omega, hv4.out, own_snoc hown3 hbel2 hown4 hgrow4⟩
                    case measure => simp [intOf]; omega
            · obtain rfl : k = s.size := by omega
              have hkd : decide (s.size < s.size) = false := decide_eq_false (by omega)
              have hv2 := Lib.hid (show val o = parVal (bytes s) by
                rw [hval.out, List.take_of_length_le (by rw [hbl.out]; exact Nat.le_refl _)]
                unfold parVal
                rw [if_pos hr.out])
              go_wp2_with fail
              refine (trim_nv ⟨hoc, by omega, hord, hod⟩).mono ?_
              rintro e w1 ⟨l', rfl, h3, h4, h5, rfl⟩
              go_wp2
              go_ret2
              refine ⟨A, _, l', ?_, h3, hv2.out ▸ h4, by omega, hbel⟩
              rw [hr.out]; rfl
end Go.Proofs.Ytghpcimeobmonaa
