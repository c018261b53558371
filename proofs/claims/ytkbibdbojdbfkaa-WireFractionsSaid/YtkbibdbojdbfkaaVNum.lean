/- The readers' lists of digits: what the calls do. -/
import Derived.Test.YtkbibdbojdbfkaaVFrac
import Derived.Test.YtkbibdbojdbfkaaWRef1
namespace Go.Proofs.Ytkbibdbojdbfkaa
set_option linter.unusedVariables false
set_option linter.unusedSimpArgs false
open Go.RowKit Plain

def M32 : Nat := 4294967295
theorem uiV_le (m : Nat) (l : List Nat) (e : Int) : uiV m l e ≤ m := by
  by_cases he : e = 0
  · subst he
    by_cases h : uiE m l 0 = 0
    · exact uiE_le h
    · unfold uiV; rw [if_neg h]; omega
  · unfold uiV uiE
    rw [if_neg he, if_neg he]; omega
/-- n digits: the error, the digits, the bytes behind them. -/
def rdD : Nat → List Nat → Int × List Nat × List Nat
  | 0, l => (0, [], l)
  | n + 1, l => if uiE M32 l 0 = 0 then ((rdD n (uiL l)).1, uiV M32 l 0 :: (rdD n (uiL l)).2.1, (rdD n (uiL l)).2.2) else (uiE M32 l 0, [], [])
theorem rdD_err {n : Nat} {l : List Nat} (h : uiE M32 l 0 ≠ 0) : (rdD (n + 1) l).1 = uiE M32 l 0 := by simp only [rdD]; rw [if_neg h]
theorem rdD_ok {n : Nat} {l : List Nat} (h : uiE M32 l 0 = 0) : rdD (n + 1) l = ((rdD n (uiL l)).1, uiV M32 l 0 :: (rdD n (uiL l)).2.1, (rdD n (uiL l)).2.2) := by simp only [rdD]; rw [if_pos h]
def nuE (l : List Nat) (e : Int) : Int := if e = 0 then (if uiE 2000 l 0 = 0 then (rdD (uiV 2000 l 0) (uiL l)).1 else uiE 2000 l 0) else e
def nuO (l : List Nat) : List Nat := (rdD (uiV 2000 l 0) (uiL l)).2.1
def nuL (l : List Nat) : List Nat := (rdD (uiV 2000 l 0) (uiL l)).2.2
theorem nuE_ne {l : List Nat} {e : Int} (h : e ≠ 0) : nuE l e = e := by unfold nuE; rw [if_neg h]
theorem nuE_no {l : List Nat} {e : Int} (h : uiE 2000 l e ≠ 0) : nuE l e = uiE 2000 l e := by
  by_cases he : e = 0
  · subst he
    unfold nuE
    rw [if_pos rfl, if_neg h]
  · unfold nuE uiE
    rw [if_neg he, if_neg he]
theorem nuE_ok {l : List Nat} {e : Int} (h : uiE 2000 l e = 0) : nuE l e = (rdD (uiV 2000 l 0) (uiL l)).1 ∧ e = 0 := by
  by_cases he : e = 0
  · subst he
    unfold nuE
    rw [if_pos rfl, if_pos h]
    exact ⟨rfl, rfl⟩
  · unfold uiE at h
    rw [if_neg he] at h
    exact absurd h he

def RetD (t : TypeId) (g : Nat) (l : List Nat) (e : Int) (w : World) (en : Ending) (w' : World) : Prop :=
  ∃ (A : Option Addr) (c : Nat) (o l' : List Nat), en = .returned (.slice A o.length c) ∧ OwnD w' w.heap.size (.slice A o.length c) o ∧ Dig o ∧ o.length ≤ 2000 ∧ Rdr t w' g l' (nuE l e) ∧ (nuE l e = 0 → o = nuO l ∧ l' = nuL l) ∧ Only w w' g
theorem OwnD.only {w w' : World} {base g : Nat} {v : Value} {l : List Nat} (h : OwnD w base v l) (hb : Only w w' g) (hg : g < base) : OwnD w' base v l :=
  h.kept (row := some g) hb (by
    rcases h.2 with ⟨rfl, _⟩ | ⟨g', cap, cur, rfl, hb', _⟩
    · simp [Value.ownBlock]
    · simp [Value.ownBlock]; omega)
theorem own_ge {w : World} {base i : Nat} {v : Value} {l : List Nat} (h : OwnD w base v l) (hi : i < base) : v.ownBlock ≠ some i := by
  rcases h.2 with ⟨rfl, _⟩ | ⟨g', cap, cur, rfl, hb', _⟩
  · simp [Value.ownBlock]
  · simp [Value.ownBlock]; omega
theorem app_only {w w2 w3 : World} {g : Nat} {v : Value} {o : List Nat} {ob : Obj} (h : Only w w2 g) (hown : OwnD w2 w.heap.size v o) (hg : (w2.alloc ob).grownBy w3 v.ownBlock) : Only w w3 g :=
  ⟨hg.os.trans h.os, hg.tape.trans h.tape, hg.output.trans h.output, Nat.le_trans h.size (Nat.le_trans (by simp) hg.size), fun i hi hn =>
    ((hg.block i (by have := h.size; simp; omega) (own_ge hown hi).symm).trans (Below.heap_alloc w2 ob i (Nat.lt_of_lt_of_le hi h.size))).trans (h.block i hi hn)⟩
theorem rdr_app {t : TypeId} {w2 w3 : World} {g base : Nat} {l o : List Nat} {e : Int} {v : Value} {ob : Obj} (h : Rdr t w2 g l e) (hown : OwnD w2 base v o) (hb : g < base) (hg : (w2.alloc ob).grownBy w3 v.ownBlock) : Rdr t w3 g l e := by
  obtain ⟨s, h1, h2, h3⟩ := h
  have hlt : g < w2.heap.size := (Array.getElem?_eq_some_iff.1 h3).1
  exact ⟨s, h1, h2, ((hg.block g (by simp; omega) (own_ge hown hb).symm).trans (Below.heap_alloc w2 ob g hlt)).trans h3⟩
/-- The rounds: m digits more. -/
def NuInv (t : TypeId) (g : Nat) (l : List Nat) (e : Int) (w : World) (a r : Value) (wr : World) : Prop :=
  ∃ (m : Nat) (o lk : List Nat) (ek : Int), r = .int .u64 (m : Int) ∧ OwnD wr w.heap.size a o ∧ Dig o ∧ o.length + m ≤ 2000 ∧ Rdr t wr g lk ek ∧ Only w wr g ∧
    Hid (ek = 0 → nuE l e = (rdD m lk).1 ∧ nuO l = o ++ (rdD m lk).2.1 ∧ nuL l = (rdD m lk).2.2) ∧ Hid (ek ≠ 0 → nuE l e = ek) ∧ Hid (g < w.heap.size)
theorem nu_start {t : TypeId} {g : Nat} {l l1 : List Nat} {e : Int} {w w1 : World} (h : Rdr t w1 g l1 (uiE 2000 l e)) (hl : uiE 2000 l e = 0 → l1 = uiL l) (ho : Only w w1 g) (hg : g < w.heap.size) : NuInv t g l e w (.slice none 0 0) (.int .u64 (uiV 2000 l e : Nat)) w1 := by
  refine ⟨uiV 2000 l e, [], l1, uiE 2000 l e, rfl, OwnD.nil _ _, Dig.nil, by have := uiV_le 2000 l e; simpa using this, h, ho, fun he => ?_, fun he => nuE_no he, hg⟩
  obtain ⟨h1, rfl⟩ := nuE_ok he
  rw [hl he]
  exact ⟨h1, by simp [nuO], rfl⟩
theorem nu_next {t : TypeId} {g m : Nat} {l lk l2 o : List Nat} {e : Int} {w w2 w3 : World} {v v' : Value} {ob : Obj} (hown : OwnD w2 w.heap.size v o) (hod : Dig o) (hm : o.length + (m + 1) ≤ 2000) (hr : Rdr t w2 g l2 (uiE M32 lk 0)) (hl : uiE M32 lk 0 = 0 → l2 = uiL lk) (ho : Only w w2 g)
    (hA : nuE l e = (rdD (m + 1) lk).1 ∧ nuO l = o ++ (rdD (m + 1) lk).2.1 ∧ nuL l = (rdD (m + 1) lk).2.2) (hg : g < w.heap.size) (hown' : OwnD w3 w.heap.size v' (o ++ [uiV M32 lk 0])) (hgr : (w2.alloc ob).grownBy w3 v.ownBlock) (r : Value) (hrr : r = .int .u64 (m : Int)) : NuInv t g l e w v' r w3 := by
  refine ⟨m, o ++ [uiV M32 lk 0], l2, uiE M32 lk 0, hrr, hown', hod.snoc (by have := uiV_le M32 lk 0; unfold M32 at *; omega), by rw [List.length_append]; simp; omega, rdr_app hr hown hg hgr, app_only ho hown hgr, fun he => ?_, fun he => ?_, hg⟩
  · rw [rdD_ok he] at hA
    rw [hl he]
    exact ⟨hA.1, by rw [hA.2.1]; simp, hA.2.2⟩
  · rw [hA.1, rdD_err he]
theorem nu_end {t : TypeId} {g : Nat} {l lk o : List Nat} {e ek : Int} {w wr : World} {v : Value} {m : Nat} (hown : OwnD wr w.heap.size v o) (hod : Dig o) (hm : o.length + m ≤ 2000) (hr : Rdr t wr g lk ek) (ho : Only w wr g)
    (hA : ek = 0 → nuE l e = (rdD m lk).1 ∧ nuO l = o ++ (rdD m lk).2.1 ∧ nuL l = (rdD m lk).2.2) (hB : ek ≠ 0 → nuE l e = ek) (hend : ek = 0 → m = 0) : RetD t g l e w (.returned v) wr := by
  obtain ⟨A, c, rfl, h1, h2⟩ := hown.form
  by_cases he : ek = 0
  · have hm0 := hend he
    subst hm0
    obtain ⟨a1, a2, a3⟩ := hA he
    have hz : nuE l e = 0 := a1
    refine ⟨A, c, o, lk, rfl, hown, hod, by omega, by rw [hz, ← he]; exact hr, fun _ => ⟨by rw [a2]; simp [rdD], by rw [a3]; rfl⟩, ho⟩
  · have hE := hB he
    exact ⟨A, c, o, lk, rfl, hown, hod, by omega, hE.symm ▸ hr, fun h => absurd (hE.symm.trans h) he, ho⟩

set_option maxRecDepth 100000 in
set_option maxHeartbeats 1000000 in
theorem number_any {w : World} {g bx : Nat} {l : List Nat} {e : Int} (h : Rdr 77 w g l e) (hbx : w.cell? ⟨bx, 0, none⟩ = some (.pointer (some ⟨g, 0, none⟩))) (hlt : bx < w.heap.size) (hne : bx ≠ g) :
    Calls Try.prog 82 #[.pointer (some ⟨bx, 0, none⟩)] w (RetD 77 g l e w) := by
  have hglt := Lib.hid h.lt
  have hcell : ∀ W : World, Only w W g → W.cell? ⟨bx, 0, none⟩ = some (.pointer (some ⟨g, 0, none⟩)) := fun W hW =>
    (World.cell?_of_block (w := w) (hW.block bx hlt (by simpa using hne))).trans hbx
  have hcell' := Lib.hid hcell
  clear hcell
  go_enter Try.func82, Try.ntmps82
  go_wp2_with fail
  refine (readUint_any 2000 (by omega) h).mono ?_
  rintro en w1 ⟨rfl, ⟨l1, h1, hl1⟩, o1⟩
  have hst := Lib.hid (nu_start h1 hl1 o1 hglt.out)
  clear h1 hl1
  go_wp2
  go_loopw [2, 3] (fun a r wr => NuInv 77 g l e w a r wr) (fun _ r _ => (intOf r).toNat)
  case atStart => exact hst.out
  case round =>
    obtain ⟨m, o, lk, ek, rfl, hown, hod, hlen, hr, ho, hA, hB, hg⟩ := hrel
    have hc := hcell'.out wr ho
    rcases Nat.eq_zero_or_pos m with h0 | h0
    · subst h0
      have hfin := Lib.hid (nu_end hown hod hlen hr ho hA.out hB.out (fun _ => rfl))
      go_wp2
      go_ret
      exact hfin.out
    · obtain ⟨m, rfl⟩ : ∃ k, m = k + 1 := ⟨m - 1, by omega⟩
      have hmd : decide ((0 : Int) < ((m + 1 : Nat) : Int)) = true := decide_eq_true (by omega)
      by_cases hek : ek = 0
      · subst hek
        have hA' := Lib.hid (hA.out rfl)
        have hok : okE 0 = true := rfl
        have hl2000 : o.length ≤ 2000 := by omega
        go_wp2_with fail
        refine (ok_any hr).mono ?_
        rintro en w2 ⟨rfl, rfl⟩
        rw [hok]
        go_wp2_with fail
        refine (readUint_any M32 (by decide) hr).mono ?_
        rintro en w2 ⟨rfl, ⟨l2, hr2, hl2⟩, ho2⟩
        have hown2 := hown.only ho2 hg.out
        have ho3 := ho.trans ho2
        have hnext := Lib.hid (fun (w3 : World) (v' : Value) (ob : Obj) (h1 : OwnD w3 w.heap.size v' (o ++ [uiV M32 lk 0])) (h2 : (w2.alloc ob).grownBy w3 (Value.ownBlock _)) (r : Value) (hrr : r = .int .u64 (m : Int)) => nu_next (t := 77) hown2 hod hlen hr2 hl2 ho3 hA'.out hg.out h1 h2 r hrr)
        have hxb : uiV M32 lk 0 ≤ 4294967295 := uiV_le M32 lk 0
        obtain ⟨x, hx⟩ : ∃ x, uiV M32 lk 0 = x := ⟨_, rfl⟩
        rw [hx] at hnext hxb ⊢
        have hcs : (#[Value.int .u32 (x : Int)] : Array Value) = (u32s [x]).toArray := rfl
        have hrd := (row_alloc w2 hcs).rd
        have hbase : w.heap.size ≤ w2.heap.size := ho3.size
        clear hcs hx hl2 hr2 hl2000
        go_wp2_with (at_builtin; refine wpList_app _ rfl rfl _ _ rfl w.heap.size _ o rfl (hown2.alloc _) (some ⟨w2.heap.size, 0, none⟩) 1 1 [x] rfl hrd rfl ?_ ?_ ?_; omega; (simp; try omega); intro v' w3 hown4 hgrow4)
        go_roundw
        case rel => exact hnext.out _ _ _ hown4 hgrow4 _ (by first | rfl | (congr 1; omega))
        case measure => simp [intOf]
      · have hok : okE ek = false := decide_eq_false hek
        have hfin := Lib.hid (nu_end hown hod hlen hr ho hA.out hB.out (fun he => absurd he hek))
        clear hek
        go_wp2_with fail
        refine (ok_any hr).mono ?_
        rintro en w2 ⟨rfl, rfl⟩
        rw [hok]
        go_wp2
        go_ret
        exact hfin.out

def RNuInv (t : TypeId) (g n : Nat) (l : List Nat) (e : Int) (w : World) (a i : Value) (wr : World) : Prop :=
  ∃ (k m : Nat), Hid (k + m = n) ∧ k ≤ 2000 ∧ i = .int .u64 (k : Int) ∧ NuInv t g l e w a (.int .u64 (m : Int)) wr
set_option maxRecDepth 100000 in
set_option maxHeartbeats 1000000 in
theorem refNumber_any {w : World} {g : Nat} {l : List Nat} {e : Int} (h : Rdr 91 w g l e) :
    Calls Try.prog 91 #[.pointer (some ⟨g, 0, none⟩)] w (RetD 91 g l e w) := by
  have hglt := Lib.hid h.lt
  obtain ⟨n, hn⟩ : ∃ n, Hid (uiV 2000 l e = n) := ⟨_, rfl⟩
  have hn2 : n ≤ 2000 := hn.out ▸ uiV_le _ _ _
  go_enter Try.func91, Try.ntmps91
  go_wp2_with fail
  refine (refReadUint_any 2000 (by omega) h).mono ?_
  rintro en w1 ⟨rfl, ⟨l1, h1, hl1⟩, o1⟩
  have hst := Lib.hid (nu_start h1 hl1 o1 hglt.out)
  rw [hn.out] at hst ⊢
  clear h1 hl1
  go_wp2
  go_loopw [4, 5] (fun a i wr => RNuInv 91 g n l e w a i wr) (fun _ i _ => n - (intOf i).toNat)
  case atStart => exact ⟨0, n, Nat.zero_add n, by omega, rfl, hst.out⟩
  case round =>
    obtain ⟨k, m', hkm, hk2, rfl, m, o, lk, ek, hmm, hown, hod, hlen, hr, ho, hA, hB, hg⟩ := hrel
    injection hmm with _ hmm
    obtain rfl : m' = m := by omega
    obtain ⟨s, hs, hsz, hsl, c0, c1, f0, f1⟩ := hr.open
    rcases Nat.eq_zero_or_pos m' with h0 | h0
    · have hkd : decide (k < n) = false := decide_eq_false (by have := hkm.out; omega)
      subst h0
      have hfin := Lib.hid (nu_end hown hod hlen hr ho hA.out hB.out (fun _ => rfl))
      go_wp2
      go_ret
      exact hfin.out
    · obtain ⟨m, rfl⟩ : ∃ k, m' = k + 1 := ⟨m' - 1, by omega⟩
      have hkd : decide (k < n) = true := decide_eq_true (by have := hkm.out; omega)
      have hkn : k < n := by have := hkm.out; omega
      have hkm2 := Lib.hid (show k + 1 + m = n by have := hkm.out; omega)
      by_cases hek : ek = 0
      · subst hek
        have hA' := Lib.hid (hA.out rfl)
        have hl2000 : o.length ≤ 2000 := by omega
        go_wp2_with fail
        refine (refReadUint_any M32 (by decide) hr).mono ?_
        rintro en w2 ⟨rfl, ⟨l2, hr2, hl2⟩, ho2⟩
        have hown2 := hown.only ho2 hg.out
        have ho3 := ho.trans ho2
        have hnext := Lib.hid (fun (w3 : World) (v' : Value) (ob : Obj) (h1 : OwnD w3 w.heap.size v' (o ++ [uiV M32 lk 0])) (h2 : (w2.alloc ob).grownBy w3 (Value.ownBlock _)) => nu_next (t := 91) hown2 hod hlen hr2 hl2 ho3 hA'.out hg.out h1 h2 _ rfl)
        have hxb : uiV M32 lk 0 ≤ 4294967295 := uiV_le M32 lk 0
        obtain ⟨x, hx⟩ : ∃ x, uiV M32 lk 0 = x := ⟨_, rfl⟩
        rw [hx] at hnext hxb ⊢
        have hcs : (#[Value.int .u32 (x : Int)] : Array Value) = (u32s [x]).toArray := rfl
        have hrd := (row_alloc w2 hcs).rd
        have hbase : w.heap.size ≤ w2.heap.size := ho3.size
        clear hcs hx hl2 hr2 hl2000 c0 c1 f0 f1
        go_wp2_with (at_builtin; refine wpList_app _ rfl rfl _ _ rfl w.heap.size _ o rfl (hown2.alloc _) (some ⟨w2.heap.size, 0, none⟩) 1 1 [x] rfl hrd rfl ?_ ?_ ?_; omega; (simp; try omega); intro v' w3 hown4 hgrow4)
        go_roundw
        case rel => exact ⟨k + 1, m, hkm2.out, by omega, rfl, hnext.out _ _ _ hown4 hgrow4⟩
        case measure => simp [intOf]; omega
      · have hekb : (ek == 0) = false := by rw [beq_eq_false_iff_ne]; exact hek
        have hfin := Lib.hid (nu_end hown hod hlen hr ho hA.out hB.out (fun he => absurd he hek))
        clear hek
        go_wp2
        go_ret
        exact hfin.out
end Go.Proofs.Ytkbibdbojdbfkaa
