/- The reference's Valid, digit, trim, FromUint, Same, Cmp, Uint: what the calls do. -/
import Derived.Test.YtghpcimeobmonaaApp
namespace Go.Proofs.Ytghpcimeobmonaa
set_option linter.unusedVariables false
set_option linter.unusedSimpArgs false
open Go.RowKit Plain

def refValidL (l : List Nat) : Bool := decide (l.length = 0 ∨ l.getD (l.length - 1) 0 ≠ 0)
theorem refValidL_eq (l : List Nat) : refValidL l = validL l := by
  unfold refValidL validL
  rw [Bool.eq_iff_iff, decide_eq_true_eq, decide_eq_true_eq, ← canon_iff]
  exact ⟨trimN_canon, canon_of_trimN⟩

set_option maxRecDepth 100000 in
set_option maxHeartbeats 400000 in
theorem refValid_any {A : Option Addr} {c : Nat} {l : List Nat} {w : World} (h : Nv w A c l) :
    Calls Try.prog 59 #[.slice A l.length c] w fun e w' => e = .returned (.bool (validL l)) ∧ w = w' := by
  have hb := h.big
  rw [← refValidL_eq]
  rcases Nat.eq_zero_or_pos l.length with h0 | h0
  · obtain rfl : l = [] := List.eq_nil_of_length_eq_zero h0
    clear h0
    go_enter Try.func59, Try.ntmps59
    go_wp2
    go_ret
    exact ⟨rfl, rfl⟩
  · obtain ⟨a, d, rfl, hab, hac, hda, hga⟩ := h.at (k := l.length - 1) (by omega)
    have hne : (((l.length : Nat) : Int) == 0) = false := by rw [beq_eq_false_iff_ne]; omega
    have hv : Hid (refValidL l = ((d : Int) != 0)) := by
      show _ = _
      rw [Bool.eq_iff_iff]
      unfold refValidL
      rw [hga.out, decide_eq_true_eq, bne_iff_ne]
      omega
    go_enter Try.func59, Try.ntmps59
    go_wp2
    go_ret
    refine ⟨?_, rfl⟩
    rw [hv.out]; rfl

set_option maxRecDepth 100000 in
set_option maxHeartbeats 400000 in
theorem refDigit_any {A : Option Addr} {c i : Nat} {l : List Nat} {w : World} (h : Nv w A c l) (hi : i ≤ 1000000000000) :
    Calls Try.prog 90 #[.slice A l.length c, .int .i64 (i : Int)] w fun e w' => e = .returned (.int .u64 ((l.getD i 0 : Nat) : Int)) ∧ w = w' := by
  have hb := h.big
  by_cases hlt : i < l.length
  · obtain ⟨a, d, rfl, hab, hac, hda, hga⟩ := h.at (k := i) hlt
    go_enter Try.func90, Try.ntmps90
    go_wp2
    go_ret
    refine ⟨?_, rfl⟩
    rw [hga.out]; rfl
  · have hd : decide (i < l.length) = false := decide_eq_false hlt
    have hv := Lib.hid (show l.getD i 0 = 0 by rw [List.getD_eq_getElem?_getD, List.getElem?_eq_none (by omega)]; rfl)
    go_enter Try.func90, Try.ntmps90
    go_wp2
    go_ret
    refine ⟨?_, rfl⟩
    rw [hv.out]; rfl

/-- The same, the index as an Int, the digit by a name. -/
theorem refDigit_at {A : Option Addr} {c i d : Nat} {l : List Nat} {w : World} (h : Nv w A c l) (x : Int) (hx : x = (i : Int)) (hi : i ≤ 1000000000000) (hd : Hid (l.getD i 0 = d)) :
    Calls Try.prog 90 #[.slice A l.length c, .int .i64 x] w fun e w' => e = .returned (.int .u64 (d : Int)) ∧ w = w' := by
  subst hx
  have := refDigit_any h hi
  rw [hd.out] at this
  exact this

set_option maxRecDepth 100000 in
set_option maxHeartbeats 400000 in
theorem refTrim_any {A : Option Addr} {c : Nat} {l : List Nat} {w : World} (h : Nv w A c l) (hl : l.length ≤ 50000000000) :
    Calls Try.prog 84 #[.slice A l.length c] w (RetNat (val l) l.length w) := by
  have hb := h.big
  have hlc := h.len
  go_enter Try.func84, Try.ntmps84
  go_wp2
  go_loop [0] (fun v => ∃ k : Nat, k ≤ l.length ∧ v = .slice A k c ∧ Hid (trimN l l.length = trimN l k)) (fun v => match v with | .slice _ n _ => n | _ => 0)
  case atStart => exact ⟨_, Nat.le_refl _, rfl, rfl⟩
  case round =>
    obtain ⟨k, hk, rfl, hr⟩ := hrel
    by_cases hz : k = 0 ∨ l.getD (k - 1) 0 ≠ 0
    · have ek := Lib.hid (show trimL l = l.take k by
        unfold trimL
        rw [hr.out]
        congr 1
        have h1 := trimN_le l k
        have h2 := trimN_ge (Nat.le_refl k) hz
        omega)
      have hNat : Hid (NatIs (l.take k) (val l)) := by rw [← ek.out]; exact natIs_trimL h.dig
      have hrd : Rd (w.alloc (.cells #[] 62)) A (l.take k) := (h.rd.take k).alloc _
      have hlk := Lib.hid (show (l.take k).length = k by rw [List.length_take]; omega)
      have hown0 := OwnD.empty w w.heap.size (Nat.le_refl _)
      have hbel0 := (Below.refl w.heap.size w).alloc (Nat.le_refl _) (.cells #[] 62)
      have fin : ∀ (v' : Value) (w1 : World), OwnD w1 w.heap.size v' ([] ++ l.take k) → (w.alloc (.cells #[] 62)).grownBy w1 (Value.ownBlock (.slice (some ⟨w.heap.size, 0, none⟩) 0 0)) → RetNat (val l) l.length w (.returned v') w1 := fun v' w1 h1 h2 =>
        OwnD.ret (l := l.take k) h1 hNat.out (by rw [hlk.out]; exact hk) (hown0.grown_below hbel0 h2 (Nat.le_refl _) (by simp)) (by rw [hlk.out]; omega)
      rcases Nat.eq_zero_or_pos k with h0 | h0
      · subst h0
        clear hz
        go_wp2_with (at_builtin; (refine wpList_app _ rfl rfl _ _ rfl w.heap.size _ [] rfl hown0 A 0 c (l.take 0) rfl ?_ ?_ ?_ ?_ ?_); (exact hrd); (exact hlk.out); (exact Nat.zero_le _); (exact Nat.le_of_lt (by simp)); intro v' w1 hown1 hgrow1)
        go_ret
        exact fin _ _ hown1 hgrow1
      · have hz' : l.getD (k - 1) 0 ≠ 0 := by omega
        obtain ⟨a, d, rfl, hab, hac, hda, hga⟩ := h.at (k := k - 1) (by omega)
        rw [hga.out] at hz'
        have hz2 : ((d : Int) == 0) = false := by rw [beq_eq_false_iff_ne]; omega
        clear hz hz'
        go_wp2_with (at_builtin; refine wpList_app _ rfl rfl _ _ rfl w.heap.size _ [] rfl hown0 (some a) k c (l.take k) rfl hrd hlk.out (by simp; omega) (by simp) ?_; intro v' w1 hown1 hgrow1)
        go_ret
        exact fin _ _ hown1 hgrow1
    · have h0 : 0 < k := by omega
      obtain ⟨a, d, rfl, hab, hac, hda, hga⟩ := h.at (k := k - 1) (by omega)
      have hd0 : d = 0 := by have := hga.out; omega
      have e1 := Lib.hid (hr.out.trans (trimN_step h0 (hga.out.trans hd0)))
      subst hd0
      clear hz
      go_wp2
      go_round
      case rel => exact ⟨k - 1, by omega, rfl, e1⟩
      case measure => simp; omega

set_option maxRecDepth 100000 in
set_option maxHeartbeats 400000 in
theorem refFromUint_any (x : Nat) (w : World) (hx : x < pw 2) :
    Calls Try.prog 66 #[.int .u64 (x : Int)] w (RetNat x 2 w) := by
  have hrow := row_alloc w (cs := #[Value.int IntKind.u32 ((x : Int) % 4294967296), Value.int IntKind.u32 ((x : Int) / 4294967296 % 4294967296)]) (l := [x % 4294967296, x / 4294967296 % 4294967296]) (by simp [u32s])
  have hd : Dig [x % 4294967296, x / 4294967296 % 4294967296] := Dig.cons (by omega) (Dig.cons (by omega) Dig.nil)
  have hv := Lib.hid (val_two x hx)
  have hnv : Nv (w.alloc (.cells #[Value.int IntKind.u32 ((x : Int) % 4294967296), Value.int IntKind.u32 ((x : Int) / 4294967296 % 4294967296)] 62)) (some ⟨w.heap.size, 0, none⟩) 2 [x % 4294967296, x / 4294967296 % 4294967296] := ⟨by simp, by simp, hrow.rd, hd⟩
  have hw : IntKind.u64.wrap ((x : Int) / 4294967296) = (x : Int) / 4294967296 := by simp only [pw] at hx; rw [wrap_u64]; omega
  clear hx
  go_enter Try.func66, Try.ntmps66
  go_wp2_with fail
  refine (refTrim_any hnv (by simp)).mono ?_
  rintro e w' ⟨A, c, l', rfl, h1, h2, h3, h4⟩
  go_wp2
  go_ret
  exact ⟨_, _, _, rfl, h1, hv.out ▸ h2, h3, ((Below.refl _ _).alloc (Nat.le_refl _) _).trans (h4.mono (by simp))⟩

def CmpRInv (la lb : List Nat) (w : World) (n : Nat) (i : Value) (wr : World) : Prop :=
  ∃ k : Nat, k ≤ n ∧ i = .int .i64 ((k : Int) - 1) ∧ Hid (∀ j, k ≤ j → la.getD j 0 = lb.getD j 0) ∧ w = wr

theorem getD_ext_val : ∀ (a b : List Nat), Dig a → Dig b → (∀ j, a.getD j 0 = b.getD j 0) → val a = val b
  | [], [], _, _, _ => rfl
  | [], y :: b, ha, hb, h => by
    have h0 := h 0
    have ih := getD_ext_val [] b ha hb.tail (fun j => h (j + 1))
    simp only [val] at *
    simp at h0
    omega
  | x :: a, [], ha, hb, h => by
    have h0 := h 0
    have ih := getD_ext_val a [] ha.tail hb (fun j => h (j + 1))
    simp only [val] at *
    simp at h0
    omega
  | x :: a, y :: b, ha, hb, h => by
    have h0 := h 0
    have ih := getD_ext_val a b ha.tail hb.tail (fun j => h (j + 1))
    simp only [val] at *
    simp at h0
    omega
theorem getD_lt_val {a b : List Nat} (ha : Dig a) (hb : Dig b) (k : Nat) (h : ∀ j, k + 1 ≤ j → a.getD j 0 = b.getD j 0) (hk : a.getD k 0 < b.getD k 0) : val a < val b := by
  induction k generalizing a b with
  | zero =>
    cases b with
    | nil => simp at hk
    | cons y b =>
      cases a with
      | nil =>
        have := getD_ext_val [] b Dig.nil hb.tail (fun j => h (j + 1) (by omega))
        simp only [val, List.getD_cons_zero, List.getD_nil] at *
        omega
      | cons x a =>
        have := getD_ext_val a b ha.tail hb.tail (fun j => h (j + 1) (by omega))
        simp only [val, List.getD_cons_zero] at *
        omega
  | succ k ih =>
    cases b with
    | nil => simp at hk
    | cons y b =>
      cases a with
      | nil =>
        have := ih (a := []) (b := b) Dig.nil hb.tail (fun j hj => h (j + 1) (by omega)) (by simpa using hk)
        simp only [val] at *
        omega
      | cons x a =>
        have h1 := ih (a := a) (b := b) ha.tail hb.tail (fun j hj => h (j + 1) (by omega)) (by simpa using hk)
        have h2 := ha.head
        have h3 := hb.head
        simp only [val] at *
        omega

set_option maxRecDepth 100000 in
set_option maxHeartbeats 400000 in
theorem refCmp_any {A B : Option Addr} {ca cb : Nat} {la lb : List Nat} {w : World} (ha : Nv w A ca la) (hb : Nv w B cb lb) (hna : la.length ≤ 5000000000) (hnb : lb.length ≤ 5000000000) :
    Calls Try.prog 88 #[.slice A la.length ca, .slice B lb.length cb] w fun e w' => e = .returned (.int .i64 (cmpI (val la) (val lb))) ∧ w = w' := by
  by_cases hlt : la.length < lb.length
  all_goals
    obtain ⟨n, hn, hn1, hn2, hn3⟩ : ∃ n, Hid (n = if la.length < lb.length then lb.length else la.length) ∧ la.length ≤ n ∧ lb.length ≤ n ∧ n ≤ 5000000000 := by
      first
        | exact ⟨lb.length, (if_pos hlt).symm, by omega, by omega, by omega⟩
        | exact ⟨la.length, (if_neg hlt).symm, by omega, by omega, by omega⟩
    go_enter Try.func88, Try.ntmps88
    go_wp2
    go_loopw [5] (fun i wr => CmpRInv la lb w n i wr) (fun i _ => (intOf i + 1).toNat)
    case atStart => exact ⟨n, by omega, by rw [hn.out]; first | rw [if_pos hlt] | rw [if_neg hlt], fun j hj => by rw [List.getD_eq_getElem?_getD, List.getD_eq_getElem?_getD, List.getElem?_eq_none (by omega), List.getElem?_eq_none (by omega)], rfl⟩
    case round =>
      obtain ⟨k, hk, rfl, hd, rfl⟩ := hrel
      rcases Nat.eq_zero_or_pos k with h0 | h0
      · have hf := Lib.hid (cmpI_eq (getD_ext_val la lb ha.dig hb.dig (fun j => hd.out j (by omega))))
        subst h0
        go_wp2
        go_ret
        refine ⟨?_, rfl⟩
        rw [hf.out]; rfl
      · obtain ⟨d, hda⟩ : ∃ d, Hid (la.getD (k - 1) 0 = d) := ⟨_, rfl⟩
        obtain ⟨f, hfa⟩ : ∃ f, Hid (lb.getD (k - 1) 0 = f) := ⟨_, rfl⟩
        have hdb : d < 4294967296 := hda.out ▸ ha.dig.getD _
        have hfb : f < 4294967296 := hfa.out ▸ hb.dig.getD _
        rcases Nat.lt_trichotomy d f with hdf | hdf | hdf
        · have hf := Lib.hid (cmpI_lt (getD_lt_val ha.dig hb.dig (k - 1) (fun j hj => hd.out j (by omega)) (by rw [hda.out, hfa.out]; exact hdf)))
          go_wp2_with fail
          refine (refDigit_at (i := k - 1) ha _ (by omega) (by omega) hda).mono ?_
          rintro e w1 ⟨rfl, rfl⟩
          go_wp2_with fail
          refine (refDigit_at (i := k - 1) hb _ (by omega) (by omega) hfa).mono ?_
          rintro e w1 ⟨rfl, rfl⟩
          go_wp2
          go_ret
          refine ⟨?_, rfl⟩
          rw [hf.out]; rfl
        · subst hdf
          go_wp2_with fail
          refine (refDigit_at (i := k - 1) ha _ (by omega) (by omega) hda).mono ?_
          rintro e w1 ⟨rfl, rfl⟩
          go_wp2_with fail
          refine (refDigit_at (i := k - 1) hb _ (by omega) (by omega) hfa).mono ?_
          rintro e w1 ⟨rfl, rfl⟩
          go_wp2_with fail
          refine (refDigit_at (i := k - 1) ha _ (by omega) (by omega) hda).mono ?_
          rintro e w1 ⟨rfl, rfl⟩
          go_wp2_with fail
          refine (refDigit_at (i := k - 1) hb _ (by omega) (by omega) hfa).mono ?_
          rintro e w1 ⟨rfl, rfl⟩
          go_wp2
          go_roundw
          case rel => exact ⟨k - 1, by omega, by congr 1; omega, fun j hj => by
            by_cases hj2 : j = k - 1
            · rw [hj2, hda.out, hfa.out]
            · exact hd.out j (by omega), rfl⟩
          case measure => simp [intOf]; omega
        · have hf := Lib.hid (cmpI_gt (getD_lt_val hb.dig ha.dig (k - 1) (fun j hj => (hd.out j (by omega)).symm) (by rw [hda.out, hfa.out]; exact hdf)))
          go_wp2_with fail
          refine (refDigit_at (i := k - 1) ha _ (by omega) (by omega) hda).mono ?_
          rintro e w1 ⟨rfl, rfl⟩
          go_wp2_with fail
          refine (refDigit_at (i := k - 1) hb _ (by omega) (by omega) hfa).mono ?_
          rintro e w1 ⟨rfl, rfl⟩
          go_wp2_with fail
          refine (refDigit_at (i := k - 1) ha _ (by omega) (by omega) hda).mono ?_
          rintro e w1 ⟨rfl, rfl⟩
          go_wp2_with fail
          refine (refDigit_at (i := k - 1) hb _ (by omega) (by omega) hfa).mono ?_
          rintro e w1 ⟨rfl, rfl⟩
          go_wp2
          go_ret
          refine ⟨?_, rfl⟩
          rw [hf.out]; rfl
end Go.Proofs.Ytghpcimeobmonaa
