/- Reading fractions: what the calls do. -/
import Derived.Test.YtkbibdbojdbfkaaVNum
import Derived.Test.YtkbibdbojdbfkaaFValid
namespace Go.Proofs.Ytkbibdbojdbfkaa
set_option linter.unusedVariables false
set_option linter.unusedSimpArgs false
open Go.RowKit Plain

/-- What Fraction returns, and the error behind it. -/
def frN (l : List Nat) : Bool := decide (uiV 1 l 0 = 1)
def frA (l : List Nat) : List Nat := nuO (uiL l)
def frB (l : List Nat) : List Nat := nuO (nuL (uiL l))
def frL (l : List Nat) : List Nat := nuL (nuL (uiL l))
/-- The error behind the digits. -/
def frD (l : List Nat) (e : Int) : Int := nuE (nuL (uiL l)) (nuE (uiL l) (uiE 1 l e))
def frE (l : List Nat) (e : Int) : Int := if frD l e = 0 then (if vldF (frN l) (frA l) (frB l) = true then 0 else 2) else frD l e
/-- The digits, if there are any, lie in a block of uint32. -/
def U32 (w : World) (A : Option Addr) (l : List Nat) : Prop := 0 < l.length → ∀ a, A = some a → ∃ cs, w.heap[a.block]? = some (.cells cs 78 (0, 0))
theorem U32.nil (w : World) (A : Option Addr) : U32 w A [] := fun h => by simp at h
theorem OwnD.u32 {w : World} {base n : Nat} {A : Option Addr} {c : Nat} {l : List Nat} (h : OwnD w base (.slice A n c) l) : U32 w A l := fun hl a e => by
  subst e
  rcases h.2 with ⟨_, h0⟩ | ⟨g, cap, cur, e, hb, hg, _⟩
  · omega
  · injection e with e1 _ _
    injection e1 with e1
    subst e1
    exact ⟨_, hg⟩
/-- A list of digits is kept while a block of another type turns. -/
theorem Nv.other {t : TypeId} {w w' : World} {g : Nat} {l' : List Nat} {e : Int} {A : Option Addr} {c : Nat} {l : List Nat} (h : Nv w A c l) (hu : U32 w A l) (hr : Rdr t w g l' e) (ht : 78 ≠ t) (ho : Only w w' g) : Nv w' A c l := by
  refine ⟨h.len, h.big, fun hx => ?_, h.dig⟩
  obtain ⟨a, rfl, h1, h2⟩ := h.rd hx
  rw [u32s_length] at hx
  obtain ⟨cs, hcs⟩ := hu hx a rfl
  obtain ⟨s, _, _, hg⟩ := hr
  have hne : a.block ≠ g := fun e => by
    rw [e, hg] at hcs
    simp at hcs
    exact ht hcs.2.symm
  have hk := ho.block a.block h1 (by simpa using hne)
  exact ⟨a, rfl, Nat.lt_of_lt_of_le h1 ho.size, fun j hj => by
    rw [World.cell?_of_block (w := w) (by rw [block_add]; exact hk)]
    exact h2 j hj⟩
def RetF (t : TypeId) (g : Nat) (l : List Nat) (e : Int) (w : World) (en : Ending) (w' : World) : Prop :=
  ∃ (neg : Bool) (A : Option Addr) (ca : Nat) (la : List Nat) (B : Option Addr) (cb : Nat) (lb l' : List Nat), en = .returned (fracV neg A la.length ca B lb.length cb) ∧ Nv w' A ca la ∧ Nv w' B cb lb ∧ la.length ≤ 2000 ∧ lb.length ≤ 2000 ∧ U32 w' A la ∧ U32 w' B lb ∧
    Rdr t w' g l' (frE l e) ∧ (frE l e = 0 → neg = frN l ∧ la = frA l ∧ lb = frB l ∧ l' = frL l) ∧ (frE l e ≠ 0 → neg = false ∧ la = [] ∧ lb = []) ∧ Only w w' g

/-- Where the first error is not 0, the later ones are it. -/
theorem nuE_chain {l l' : List Nat} {e : Int} (h : e = 0 → l' = l) : nuE l' e = nuE l e := by
  by_cases he : e = 0
  · rw [h he]
  · rw [nuE_ne he, nuE_ne he]

theorem fr_chain {l l1 l3 : List Nat} {e : Int} (h1 : uiE 1 l e = 0 → l1 = uiL l) (h3 : nuE l1 (uiE 1 l e) = 0 → l3 = nuL l1) : nuE l3 (nuE l1 (uiE 1 l e)) = frD l e := by
  unfold frD
  rw [nuE_chain h1]
  rw [nuE_chain h1] at h3
  refine nuE_chain fun h => ?_
  rw [h3 h]
  congr 1
  apply h1
  by_cases hz : uiE 1 l e = 0
  · exact hz
  · rw [nuE_ne hz] at h; exact absurd h hz
theorem uiE_zero {m : Nat} {l : List Nat} {e : Int} (h : uiE m l e = 0) : e = 0 := by
  by_cases he : e = 0
  · exact he
  · unfold uiE at h; rw [if_neg he] at h; exact absurd h he
theorem fr_data {l l1 l3 l5 d1 d2 : List Nat} {e : Int} {ng : Bool} (h1 : uiE 1 l e = 0 → l1 = uiL l) (h3 : nuE l1 (uiE 1 l e) = 0 → d1 = nuO l1 ∧ l3 = nuL l1) (h5 : nuE l3 (nuE l1 (uiE 1 l e)) = 0 → d2 = nuO l3 ∧ l5 = nuL l3) (hn : decide (uiV 1 l e = 1) = ng) (hD : frD l e = 0) :
    e = 0 ∧ ng = frN l ∧ d1 = frA l ∧ d2 = frB l ∧ l5 = frL l := by
  have hc := fr_chain h1 (fun h => (h3 h).2)
  rw [hD] at hc
  have hE2 : nuE l1 (uiE 1 l e) = 0 := by
    by_cases hz : nuE l1 (uiE 1 l e) = 0
    · exact hz
    · rw [nuE_ne hz] at hc; exact absurd hc hz
  have hE1 : uiE 1 l e = 0 := by
    by_cases hz : uiE 1 l e = 0
    · exact hz
    · rw [nuE_ne hz] at hE2; exact absurd hE2 hz
  have he := uiE_zero hE1
  obtain ⟨a1, a2⟩ := h3 hE2
  obtain ⟨b1, b2⟩ := h5 hc
  have c1 := h1 hE1
  subst he
  subst c1 a2
  exact ⟨rfl, hn.symm, a1, b1, b2⟩
theorem OwnD.nv' {w : World} {base n : Nat} {A : Option Addr} {c : Nat} {l : List Nat} (h : OwnD w base (.slice A n c) l) (hd : Dig l) (hm : l.length ≤ 2000) : Nv w A c l := by
  obtain ⟨A', c', e, h1, h2⟩ := h.form
  injection e with e1 e2 e3
  subst e1 e3
  exact ⟨h1, by omega, h2, hd⟩
theorem Blk.set3 {w : World} {g : Nat} {t : TypeId} {a b c : Value} (h : Blk w g t #[a, b, c]) (x y z : Value) : ∃ w', ((w.setCell ⟨g, 0, none⟩ x).setCell ⟨g, 1, none⟩ y).setCell ⟨g, 2, none⟩ z = w' ∧ Blk w' g t #[x, y, z] ∧ Only w w' g :=
  ⟨_, rfl, ((h.set 0 x).set 1 y).set 2 z, (((Only.refl w g).set 0 x).set 1 y).set 2 z⟩
theorem Only.set3 {w0 w w' : World} {g rb : Nat} (h : Only w0 w g) (hr : w0.heap.size ≤ rb) (ho : Only w w' rb) : Only w0 w' g :=
  ⟨ho.os.trans h.os, ho.tape.trans h.tape, ho.output.trans h.output, Nat.le_trans h.size ho.size, fun i hi hn => (ho.block i (Nat.lt_of_lt_of_le hi h.size) (by simp; omega)).trans (h.block i hi hn)⟩
theorem OwnD.only_blk {w w' : World} {base f : Nat} {v : Value} {l : List Nat} {t : TypeId} {cs : Array Value} (h : OwnD w base v l) (hb : Blk w f t cs) (ht : 78 ≠ t) (ho : Only w w' f) : OwnD w' base v l :=
  h.kept (row := some f) ho (by
    rcases h.2 with ⟨rfl, _⟩ | ⟨g', cap, cur, rfl, _, hg, _⟩
    · exact .inl rfl
    · refine .inr fun e => ?_
      simp [Value.ownBlock] at e
      subst e
      unfold Blk at hb
      rw [hb] at hg
      simp at hg
      exact ht hg.2.symm)
theorem retF_no {t : TypeId} {g : Nat} {l l' : List Nat} {e E : Int} {w w' : World} (hE : frE l e = E) (h0 : E ≠ 0) (hr : Rdr t w' g l' E) (ho : Only w w' g) (en : Ending) (hen : en = .returned (fracV false none 0 0 none 0 0)) : RetF t g l e w en w' :=
  ⟨false, none, 0, [], none, 0, [], l', hen, nv_nil' _, nv_nil' _, by simp, by simp, U32.nil _ _, U32.nil _ _, hE.symm ▸ hr, fun h => absurd (hE.symm.trans h) h0, fun _ => ⟨rfl, rfl, rfl⟩, ho⟩
set_option maxRecDepth 100000 in
set_option maxHeartbeats 1000000 in
theorem readFrac_any {w : World} {g : Nat} {l : List Nat} {e : Int} (h : Rdr 77 w g l e) :
    Calls Try.prog 61 #[.pointer (some ⟨g, 0, none⟩)] w (RetF 77 g l e w) := by
  have hglt := Lib.hid h.lt
  obtain ⟨wa, hwa, bwa, hlta, hBa⟩ := boxed w #[.pointer (some ⟨g, 0, none⟩)] 25
  obtain ⟨w0, hw0, bw0, hlt0, hB0⟩ := boxed wa #[.bool false, .slice none 0 0, .slice none 0 0] 59
  have hbx := hBa.keep bw0
  have hcx := hbx.cell 0
  have hr0 := (h.below bwa h.lt).below bw0 (Nat.lt_trans h.lt hlta)
  go_enter Try.func61, Try.ntmps61
  go_wp2_with fail
  refine (readUint_any 1 (by omega) hr0).mono ?_
  rintro en w1 ⟨rfl, ⟨l1, hr1, hl1⟩, o1⟩
  obtain ⟨ng, hng⟩ : ∃ b, Hid (decide (uiV 1 l e = 1) = b) := ⟨_, rfl⟩
  have hngb : (((uiV 1 l e : Nat) : Int) == 1) = ng := by rw [← hng.out, Bool.eq_iff_iff, beq_iff_eq, decide_eq_true_eq]; omega
  have hl1' := Lib.hid hl1
  have hbx1 := hbx.only o1 (Nat.ne_of_gt h.lt)
  have hB1 := hB0.only o1 (Nat.ne_of_gt (Nat.lt_trans h.lt hlta))
  clear hl1 hcx
  go_wp2_with fail
  obtain ⟨w2, hw2, bw2, hlt2, hBf2⟩ := boxed w1 #[.bool ng, .slice none 0 0, .slice none 0 0] 59
  rw [hw2]
  have hgw0 : g < w0.heap.size := Nat.lt_trans (Nat.lt_trans h.lt hlta) hlt0
  have hgf : g < w1.heap.size := Nat.lt_of_lt_of_le hgw0 o1.size
  have hbxf : w.heap.size < w1.heap.size := Nat.lt_of_lt_of_le (Nat.lt_trans hlta hlt0) o1.size
  have hrf : wa.heap.size < w1.heap.size := Nat.lt_of_lt_of_le hlt0 o1.size
  have hr2 := hr1.below bw2 hgf
  have hbx2 := hbx1.below bw2 hbxf
  have hB2 := hB1.below bw2 hrf
  refine (number_any hr2 (hbx2.cell 0) hbx2.lt (Nat.ne_of_gt h.lt)).mono ?_
  rintro en w3 ⟨A1, c1, d1, l3, rfl, own1, dig1, len1, hr3, hl3, o3⟩
  have hBf3 := hBf2.only o3 (Nat.ne_of_gt hgf)
  have hbx3 := hbx2.only o3 (Nat.ne_of_gt h.lt)
  have hB3 := hB2.only o3 (Nat.ne_of_gt (Nat.lt_trans h.lt hlta))
  have hf1 := hBf3.f1
  have hf1f := hBf3.free 1
  obtain ⟨w4, hw4⟩ : ∃ w4, w3.setCell ⟨w1.heap.size, 1, none⟩ (.slice A1 d1.length c1) = w4 := ⟨_, rfl⟩
  have hBf4 : Blk w4 w1.heap.size 59 #[.bool ng, .slice A1 d1.length c1, .slice none 0 0] := by rw [← hw4]; exact hBf3.set 1 _
  have o4 : Only w3 w4 w1.heap.size := by rw [← hw4]; exact (Only.refl _ _).set 1 _
  have hr4 := hr3.other o4 (Nat.ne_of_lt hgf)
  have hbx4 := hbx3.only o4 (Nat.ne_of_lt hbxf)
  have hB4 := hB3.only o4 (Nat.ne_of_lt hrf)
  have own1 := own1.only o4 hlt2
  go_wp2_with fail
  refine (number_any hr4 (hbx4.cell 0) hbx4.lt (Nat.ne_of_gt h.lt)).mono ?_
  rintro en w5 ⟨A2, c2, d2, l5, rfl, own2, dig2, len2, hr5, hl5, o5⟩
  have hBf5 := hBf4.only o5 (Nat.ne_of_gt hgf)
  have hbx5 := hbx4.only o5 (Nat.ne_of_gt h.lt)
  have hB5 := hB4.only o5 (Nat.ne_of_gt (Nat.lt_trans h.lt hlta))
  have own1 := own1.only o5 (Nat.lt_trans hgf hlt2)
  have hf2 := hBf5.f2
  have hf2f := hBf5.free 2
  obtain ⟨w6, hw6⟩ : ∃ w6, w5.setCell ⟨w1.heap.size, 2, none⟩ (.slice A2 d2.length c2) = w6 := ⟨_, rfl⟩
  have hBf6 : Blk w6 w1.heap.size 59 #[.bool ng, .slice A1 d1.length c1, .slice A2 d2.length c2] := by rw [← hw6]; exact hBf5.set 2 _
  have o6 : Only w5 w6 w1.heap.size := by rw [← hw6]; exact (Only.refl _ _).set 2 _
  have hr6 := hr5.other o6 (Nat.ne_of_lt hgf)
  have hbx6 := hbx5.only o6 (Nat.ne_of_lt hbxf)
  have hB6 := hB5.only o6 (Nat.ne_of_lt hrf)
  have own1 := own1.only o6 hlt2
  have own2 := own2.only o6 (Nat.lt_of_lt_of_le hlt2 (Nat.le_trans o3.size o4.size))
  have q0 : Only w w0 g := Only.of_below (bwa.trans (bw0.mono (Nat.le_of_lt hlta))) g
  have q1 := q0.trans o1
  have q2 : Only w w2 g := q1.trans (Only.of_below bw2 g)
  have q3 := q2.trans o3
  have q4 : Only w w4 g := by rw [← hw4]; exact q3.set_new _ (.inr (Nat.le_of_lt hbxf)) _
  have q5 := q4.trans o5
  have q6 : Only w w6 g := by rw [← hw6]; exact q5.set_new _ (.inr (Nat.le_of_lt hbxf)) _
  have hr4s : wa.heap.size < w4.heap.size := Nat.lt_of_lt_of_le (Nat.lt_trans hrf hlt2) (Nat.le_trans o3.size o4.size)
  have hcx : w6.cell? ⟨w.heap.size, 0, none⟩ = some (.pointer (some ⟨g, 0, none⟩)) := hbx6.cell 0
  have hchain := fr_chain hl1'.out (fun h => (hl3 h).2)
  have hdata := Lib.hid (fr_data hl1'.out hl3 hl5 hng.out)
  rw [hchain] at hr6
  obtain ⟨D, hD⟩ : ∃ D, frD l e = D := ⟨_, rfl⟩
  rw [hD] at hr6 hdata
  have hD' := Lib.hid hD
  have nv1 := own1.nv' dig1 len1
  have nv2 := own2.nv' dig2 len2
  have x0 := hBf6.f0
  have x1 := hBf6.f1
  have x2 := hBf6.f2
  have y0 := hB6.f0
  have y1 := hB6.f1
  have y2 := hB6.f2
  have z0 := hB6.free 0
  have z1 := hB6.free 1
  have z2 := hB6.free 2
  clear hD hchain hl3 hl5 hl1' hr0 hr1 hr2 hr3 hr4 hr5 o1 o3 o4 o5 o6 q0 q1 q2 q3 q4 q5 hf1 hf1f hBf2 hBf3 hBf4 hBf5 hbx hbx1 hbx2 hbx3 hbx4 hbx5 hB0 hB1 hB2 hB3 hB4 hB5 hw2 hw4 hwa hw0
  by_cases hD0 : D = 0
  · have hokT : okE D = true := decide_eq_true hD0
    have hdt := Lib.hid (hdata.out hD0)
    have hvE := Lib.hid (show frE l e = if vldF ng d1 d2 = true then 0 else 2 by
      obtain ⟨he0, hng2, hd1, hd2, hl5⟩ := hdt.out
      unfold frE
      rw [hD'.out, if_pos hD0, hng2, hd1, hd2])
    clear hdata
    go_wp2_with fail
    refine (ok_any hr6).mono ?_
    rintro en w7 ⟨rfl, rfl⟩
    rw [hokT]
    go_wp2_with fail
    refine (fvalid_any nv1 nv2 (by omega) (by omega)).mono ?_
    rintro en w7 ⟨rfl, b7⟩
    have hr7 := hr6.below b7 hr6.lt
    have hB7 := hB6.keep b7
    have hBf7 := hBf6.keep b7
    have hcx7 : w7.cell? ⟨w.heap.size, 0, none⟩ = some (.pointer (some ⟨g, 0, none⟩)) := (hbx6.keep b7).cell 0
    have q7 := q6.trans (Only.of_below b7 g)
    have nv17 := nv1.below b7
    have nv27 := nv2.below b7
    clear hcx x0 x1 x2 y0 y1 y2 z0 z1 z2 hw6 hf2 hf2f
    have x0 := hBf7.f0
    have x1 := hBf7.f1
    have x2 := hBf7.f2
    have y0 := hB7.f0
    have y1 := hB7.f1
    have y2 := hB7.f2
    have z0 := hB7.free 0
    have z1 := hB7.free 1
    have z2 := hB7.free 2
    obtain ⟨vb, hvb⟩ : ∃ v, vldF ng d1 d2 = v := ⟨_, rfl⟩
    rw [hvb] at hvE ⊢
    rcases vb with _ | _
    · go_wp2_with fail
      refine (fail_any 2 hr7).mono ?_
      rintro en w8 ⟨rfl, hr8, o8⟩
      have hf2 : failE D 2 = 2 := by unfold failE; rw [if_pos hD0]
      rw [hf2] at hr8
      have hokF : okE 2 = false := rfl
      have hcx8 : w8.cell? ⟨w.heap.size, 0, none⟩ = some (.pointer (some ⟨g, 0, none⟩)) := ((hbx6.keep b7).only o8 (Nat.ne_of_gt h.lt)).cell 0
      have hB8 := hB7.only o8 (Nat.ne_of_gt (Nat.lt_trans h.lt hlta))
      have q8 := q7.trans o8
      clear x0 x1 x2 y0 y1 y2 z0 z1 z2 hcx7
      have y0 := hB8.f0
      have y1 := hB8.f1
      have y2 := hB8.f2
      have z0 := hB8.free 0
      have z1 := hB8.free 1
      have z2 := hB8.free 2
      go_wp2_with fail
      refine (ok_any hr8).mono ?_
      rintro en w9 ⟨rfl, rfl⟩
      rw [hokF]
      go_wp2
      obtain ⟨w9, hw9, hB9, o9⟩ := hB8.set3 (.bool false) (.slice none 0 0) (.slice none 0 0)
      rw [hw9]
      have e0 := hB9.f0
      have e1 := hB9.f1
      have e2 := hB9.f2
      refine bodyPost_ret (v := fracV false none 0 0 none 0 0) (by simp [results, Try.results61, go_sem, e0, e1, e2]) rfl ?_
      exact retF_no hvE.out (by decide) (hr8.other o9 (Nat.ne_of_lt (Nat.lt_trans h.lt hlta))) (q8.set3 (Nat.le_of_lt hlta) o9) _ rfl
    · go_wp2_with fail
      refine (ok_any hr7).mono ?_
      rintro en w8 ⟨rfl, rfl⟩
      rw [hokT]
      go_wp2
      obtain ⟨w9, hw9, hB9, o9⟩ := hB7.set3 (.bool ng) (.slice A1 d1.length c1) (.slice A2 d2.length c2)
      rw [hw9]
      have e0 := hB9.f0
      have e1 := hB9.f1
      have e2 := hB9.f2
      refine bodyPost_ret (v := fracV ng A1 d1.length c1 A2 d2.length c2) (by simp [results, Try.results61, go_sem, e0, e1, e2]) rfl ?_
      obtain ⟨he0, hng2, hd1, hd2, hl5⟩ := hdt.out
      have own1' := (own1.below b7).only o9 (Nat.lt_trans hrf hlt2)
      have own2' := (own2.below b7).only o9 hr4s
      have hr9 := hr7.other o9 (Nat.ne_of_lt (Nat.lt_trans h.lt hlta))
      rw [hD0] at hr9
      exact ⟨ng, A1, c1, d1, A2, c2, d2, l5, rfl, own1'.nv' dig1 len1, own2'.nv' dig2 len2, len1, len2, own1'.u32, own2'.u32, hvE.out.symm ▸ hr9, fun _ => ⟨hng2, hd1, hd2, hl5⟩, fun hne => absurd hvE.out hne, q7.set3 (Nat.le_of_lt hlta) o9⟩
  · have hokF : okE D = false := decide_eq_false hD0
    have hE := Lib.hid (show frE l e = D by unfold frE; rw [hD'.out, if_neg hD0])
    have hD0' := Lib.hid hD0
    clear hD0
    go_wp2_with fail
    refine (ok_any hr6).mono ?_
    rintro en w7 ⟨rfl, rfl⟩
    rw [hokF]
    go_wp2_with fail
    refine (ok_any hr6).mono ?_
    rintro en w7 ⟨rfl, rfl⟩
    rw [hokF]
    go_wp2
    obtain ⟨w8, hw8, hB8, o8⟩ := hB6.set3 (.bool false) (.slice none 0 0) (.slice none 0 0)
    rw [hw8]
    have e0 := hB8.f0
    have e1 := hB8.f1
    have e2 := hB8.f2
    refine bodyPost_ret (v := fracV false none 0 0 none 0 0) (by simp [results, Try.results61, go_sem, e0, e1, e2]) rfl ?_
    exact retF_no hE.out hD0'.out (hr6.other o8 (Nat.ne_of_lt (Nat.lt_trans h.lt hlta))) (q6.set3 (Nat.le_of_lt hlta) o8) _ rfl

set_option maxRecDepth 100000 in
set_option maxHeartbeats 1000000 in
theorem refReadFrac_any {w : World} {g : Nat} {l : List Nat} {e : Int} (h : Rdr 91 w g l e) :
    Calls Try.prog 87 #[.pointer (some ⟨g, 0, none⟩)] w (RetF 91 g l e w) := by
  obtain ⟨w0, hw0, bw0, hlt0, hB0⟩ := boxed w #[.bool false, .slice none 0 0, .slice none 0 0] 59
  have hr0 := h.below bw0 h.lt
  have hg0 : g < w0.heap.size := Nat.lt_trans h.lt hlt0
  obtain ⟨ng, hng⟩ : ∃ b, Hid (decide (uiV 1 l e = 1) = b) := ⟨_, rfl⟩
  have hngb : (((uiV 1 l e : Nat) : Int) == 1) = ng := by rw [← hng.out, Bool.eq_iff_iff, beq_iff_eq, decide_eq_true_eq]; omega
  go_enter Try.func87, Try.ntmps87
  go_wp2_with fail
  refine (refReadUint_any 1 (by omega) hr0).mono ?_
  rintro en w1 ⟨rfl, ⟨l1, hr1, hl1⟩, o1⟩
  have hl1' := Lib.hid hl1
  have hB1 := hB0.only o1 (Nat.ne_of_gt h.lt)
  clear hl1
  go_wp2_with fail
  refine (refNumber_any hr1).mono ?_
  rintro en w2 ⟨A1, c1, d1, l3, rfl, own1, dig1, len1, hr2, hl3, o2⟩
  have hl3' := Lib.hid hl3
  have hB2 := hB1.only o2 (Nat.ne_of_gt h.lt)
  clear hl3
  go_wp2_with fail
  obtain ⟨w3, hw3, bw3, hlt3, hBf3⟩ := boxed w2 #[.bool ng, .slice A1 d1.length c1, .slice none 0 0] 59
  rw [hw3]
  have hg2 : g < w2.heap.size := hr2.lt
  have hr2s : w.heap.size < w2.heap.size := hB2.lt
  have hr3 := hr2.below bw3 hg2
  have hB3 := hB2.below bw3 hr2s
  have own1 := own1.below bw3
  refine (refNumber_any hr3).mono ?_
  rintro en w5 ⟨A2, c2, d2, l5, rfl, own2, dig2, len2, hr5, hl5, o5⟩
  have hl5' := Lib.hid hl5
  clear hl5
  have hg1 : g < w1.heap.size := hr1.lt
  have hr1s : w.heap.size < w1.heap.size := hB1.lt
  have hBf5 := hBf3.only o5 (Nat.ne_of_gt hg2)
  have hB5 := hB3.only o5 (Nat.ne_of_gt h.lt)
  have own1 := own1.only o5 hg1
  have hf2 := hBf5.f2
  have hf2f := hBf5.free 2
  obtain ⟨w6, hw6⟩ : ∃ w6, w5.setCell ⟨w2.heap.size, 2, none⟩ (.slice A2 d2.length c2) = w6 := ⟨_, rfl⟩
  have hBf6 : Blk w6 w2.heap.size 59 #[.bool ng, .slice A1 d1.length c1, .slice A2 d2.length c2] := by rw [← hw6]; exact hBf5.set 2 _
  have o6 : Only w5 w6 w2.heap.size := by rw [← hw6]; exact (Only.refl _ _).set 2 _
  have hr6 := hr5.other o6 (Nat.ne_of_lt hg2)
  have hB6 := hB5.only o6 (Nat.ne_of_lt hr2s)
  have own1 := own1.only_blk hBf5 (by decide) o6
  have own2 := own2.only_blk hBf5 (by decide) o6
  have q0 : Only w w0 g := Only.of_below bw0 g
  have q2 := (q0.trans o1).trans o2
  have q3 : Only w w3 g := q2.trans (Only.of_below bw3 g)
  have q5 := q3.trans o5
  have q6 : Only w w6 g := by rw [← hw6]; exact q5.set_new _ (.inr (Nat.le_of_lt hr2s)) _
  have hchain := fr_chain hl1'.out (fun h => (hl3'.out h).2)
  have hdata := Lib.hid (fr_data hl1'.out hl3'.out hl5'.out hng.out)
  rw [hchain] at hr6
  obtain ⟨D, hD⟩ : ∃ D, frD l e = D := ⟨_, rfl⟩
  rw [hD] at hr6 hdata
  have hD' := Lib.hid hD
  have nv1 := own1.nv' dig1 len1
  have nv2 := own2.nv' dig2 len2
  have x0 := hBf6.f0
  have x1 := hBf6.f1
  have x2 := hBf6.f2
  have y0 := hB6.f0
  have y1 := hB6.f1
  have y2 := hB6.f2
  have z0 := hB6.free 0
  have z1 := hB6.free 1
  have z2 := hB6.free 2
  obtain ⟨s6, hs6, hsz6, hsl6, r60, r61, fr60, fr61⟩ := hr6.open
  clear hD hchain hl3' hl5' hl1' hr0 hr1 hr2 hr3 hr5 o1 o2 o5 o6 q0 q2 q3 q5 hBf3 hBf5 hB0 hB1 hB2 hB3 hB5 hw3 hw0
  by_cases hD0 : D = 0
  · subst hD0
    have hdt := Lib.hid (hdata.out rfl)
    have hvE := Lib.hid (show frE l e = if vldF ng d1 d2 = true then 0 else 2 by
      obtain ⟨he0, hng2, hd1, hd2, hl5⟩ := hdt.out
      unfold frE
      rw [hD'.out, if_pos rfl, hng2, hd1, hd2])
    clear hdata
    go_wp2_with fail
    refine (lowest_any nv1 nv2 (by omega) (by omega)).mono ?_
    rintro en w7 ⟨rfl, b7⟩
    have hr7 := hr6.below b7 hr6.lt
    have hB7 := hB6.keep b7
    have hBf7 := hBf6.keep b7
    have q7 := q6.trans (Only.of_below b7 g)
    clear x0 x1 x2 y0 y1 y2 z0 z1 z2 hw6 hf2 hf2f r60 r61 fr60 fr61
    have x0 := hBf7.f0
    have x1 := hBf7.f1
    have x2 := hBf7.f2
    have y0 := hB7.f0
    have y1 := hB7.f1
    have y2 := hB7.f2
    have z0 := hB7.free 0
    have z1 := hB7.free 1
    have z2 := hB7.free 2
    obtain ⟨s7, hs7, hsz7, hsl7, r70, r71, fr70, fr71⟩ := hr7.open
    obtain ⟨vb, hvb⟩ : ∃ v, vldF ng d1 d2 = v := ⟨_, rfl⟩
    rw [hvb] at hvE ⊢
    rcases vb with _ | _
    · have hr8 := hr7.set1 2
      have o8 := (Only.refl w7 g).set 1 (.int .i64 2)
      obtain ⟨w8, hw8⟩ : ∃ w8, w7.setCell ⟨g, 1, none⟩ (.int .i64 2) = w8 := ⟨_, rfl⟩
      rw [hw8] at hr8 o8
      have hB8 := hB7.only o8 (Nat.ne_of_gt h.lt)
      have q8 := q7.trans o8
      obtain ⟨s8, hs8, hsz8, hsl8, r80, r81, fr80, fr81⟩ := hr8.open
      clear x0 x1 x2 y0 y1 y2 z0 z1 z2
      have y0 := hB8.f0
      have y1 := hB8.f1
      have y2 := hB8.f2
      have z0 := hB8.free 0
      have z1 := hB8.free 1
      have z2 := hB8.free 2
      go_wp2
      obtain ⟨w9, hw9, hB9, o9⟩ := hB8.set3 (.bool false) (.slice none 0 0) (.slice none 0 0)
      rw [hw9]
      have e0 := hB9.f0
      have e1 := hB9.f1
      have e2 := hB9.f2
      refine bodyPost_ret (v := fracV false none 0 0 none 0 0) (by simp [results, Try.results87, go_sem, e0, e1, e2]) rfl ?_
      exact retF_no hvE.out (by decide) (hr8.other o9 (Nat.ne_of_lt h.lt)) (q8.set3 (Nat.le_refl _) o9) _ rfl
    · go_wp2
      obtain ⟨w9, hw9, hB9, o9⟩ := hB7.set3 (.bool ng) (.slice A1 d1.length c1) (.slice A2 d2.length c2)
      rw [hw9]
      have e0 := hB9.f0
      have e1 := hB9.f1
      have e2 := hB9.f2
      refine bodyPost_ret (v := fracV ng A1 d1.length c1 A2 d2.length c2) (by simp [results, Try.results87, go_sem, e0, e1, e2]) rfl ?_
      obtain ⟨he0, hng2, hd1, hd2, hl5⟩ := hdt.out
      have own1' := (own1.below b7).only_blk hB7 (by decide) o9
      have own2' := (own2.below b7).only_blk hB7 (by decide) o9
      have hr9 := hr7.other o9 (Nat.ne_of_lt h.lt)
      exact ⟨ng, A1, c1, d1, A2, c2, d2, l5, rfl, own1'.nv' dig1 len1, own2'.nv' dig2 len2, len1, len2, own1'.u32, own2'.u32, hvE.out.symm ▸ hr9, fun _ => ⟨hng2, hd1, hd2, hl5⟩, fun hne => absurd hvE.out hne, q7.set3 (Nat.le_refl _) o9⟩
  · have hokF : (D == 0) = false := by rw [beq_eq_false_iff_ne]; exact hD0
    have hokG : (D != 0) = true := by rw [bne_iff_ne]; exact hD0
    have hE := Lib.hid (show frE l e = D by unfold frE; rw [hD'.out, if_neg hD0])
    have hD0' := Lib.hid hD0
    clear hD0
    go_wp2
    obtain ⟨w8, hw8, hB8, o8⟩ := hB6.set3 (.bool false) (.slice none 0 0) (.slice none 0 0)
    rw [hw8]
    have e0 := hB8.f0
    have e1 := hB8.f1
    have e2 := hB8.f2
    refine bodyPost_ret (v := fracV false none 0 0 none 0 0) (by simp [results, Try.results87, go_sem, e0, e1, e2]) rfl ?_
    exact retF_no hE.out hD0'.out (hr6.other o8 (Nat.ne_of_lt h.lt)) (q6.set3 (Nat.le_refl _) o8) _ rfl
end Go.Proofs.Ytkbibdbojdbfkaa
