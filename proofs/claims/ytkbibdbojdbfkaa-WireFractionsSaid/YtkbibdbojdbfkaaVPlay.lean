/- The law's play: both readers answer alike. -/
import Derived.Test.YtkbibdbojdbfkaaVSame
import Derived.Test.YtkbibdbojdbfkaaVLaw
namespace Go.Proofs.Ytkbibdbojdbfkaa
set_option linter.unusedVariables false
set_option linter.unusedSimpArgs false
open Go.RowKit Plain
attribute [local go_sem ↓] Go.wp_at_zero Go.wp_at_succ

section
variable {l1 l2 : List Nat} {e : Int}
theorem uiE_ne {m : Nat} {l : List Nat} (h : e ≠ 0) : uiE m l e = e := by unfold uiE; rw [if_neg h]
theorem sync_ui (m : Nat) (h : e = 0 → l1 = l2) : uiE m l1 e = uiE m l2 e ∧ uiV m l1 e = uiV m l2 e ∧ (uiE m l1 e = 0 → uiL l1 = uiL l2) := by
  by_cases he : e = 0
  · obtain rfl := h he
    exact ⟨rfl, rfl, fun _ => rfl⟩
  · refine ⟨by rw [uiE_ne he, uiE_ne he], ?_, fun h0 => ?_⟩
    · unfold uiV
      rw [uiE_ne he, uiE_ne he, if_neg he, if_neg he]
    · rw [uiE_ne he] at h0; exact absurd h0 he
theorem txE_ne {m : Int} {l : List Nat} (h : e ≠ 0) : txE m l e = e := by unfold txE; rw [if_neg h]
theorem sync_tx (m : Int) (h : e = 0 → l1 = l2) : txE m l1 e = txE m l2 e ∧ txV m l1 e = txV m l2 e ∧ (txE m l1 e = 0 → txL l1 = txL l2) := by
  by_cases he : e = 0
  · obtain rfl := h he
    exact ⟨rfl, rfl, fun _ => rfl⟩
  · refine ⟨by rw [txE_ne he, txE_ne he], ?_, fun h0 => ?_⟩
    · unfold txV
      rw [txE_ne he, txE_ne he, if_neg he, if_neg he]
    · rw [txE_ne he] at h0; exact absurd h0 he
theorem frE_ne {l : List Nat} (h : e ≠ 0) : frE l e = e := by
  have : frD l e = e := by
    unfold frD
    rw [uiE_ne h, nuE_ne h, nuE_ne h]
  unfold frE
  rw [this, if_neg h]
theorem sync_fr (h : e = 0 → l1 = l2) : frE l1 e = frE l2 e ∧ (frE l1 e = 0 → l1 = l2) := by
  by_cases he : e = 0
  · obtain rfl := h he
    exact ⟨rfl, fun _ => rfl⟩
  · refine ⟨by rw [frE_ne he, frE_ne he], fun h0 => ?_⟩
    rw [frE_ne he] at h0; exact absurd h0 he
theorem sync_left (h : e = 0 → l1 = l2) : leftE l1 e = leftE l2 e := by
  by_cases he : e = 0
  · rw [h he]
  · unfold leftE; rw [if_neg he, if_neg he]
theorem sync_end (h : e = 0 → l1 = l2) : endE l1 e = endE l2 e ∧ (endE l1 e = 0 → l1 = l2) := by
  by_cases he : e = 0
  · obtain rfl := h he
    exact ⟨rfl, fun _ => rfl⟩
  · have h1 : ∀ l : List Nat, endE l e = e := fun l => endE_ok (.inl he)
    refine ⟨by rw [h1, h1], fun h0 => ?_⟩
    rw [h1] at h0; exact absurd h0 he
end
/-- Both readers, alike. -/
def Sync (w : World) (g1 g2 : Nat) : Prop := ∃ l1 l2 e, Rdr 77 w g1 l1 e ∧ Rdr 91 w g2 l2 e ∧ (e = 0 → l1 = l2)
def RetPlay (B g1 g2 : Nat) (a : World) (en : Ending) (w' : World) : Prop := en = .returned (.bool true) ∧ Sync w' g1 g2 ∧ Below B a w'
theorem wrapN (n : Int) : ∃ m : Nat, IntKind.u64.wrap n = (m : Int) ∧ m < 18446744073709551616 := by
  refine ⟨(n % 18446744073709551616).toNat, ?_, by omega⟩
  rw [wrap_u64]; omega

theorem play_end {w0 w1 w2 a : World} {B g1 g2 : Nat} {E1 E2 : Int} {L1 L2 : List Nat} (hr1 : ∃ l', Rdr 77 w1 g1 l' E1 ∧ (E1 = 0 → l' = L1)) (hr2 : ∃ l', Rdr 91 w2 g2 l' E2 ∧ (E2 = 0 → l' = L2))
    (hE : E1 = E2) (hL : E1 = 0 → L1 = L2) (o1 : Only w0 w1 g1) (o2 : Only w1 w2 g2) (b0 : Below B a w0) (hB1 : B ≤ g1) (hB2 : B ≤ g2) (hne : g1 ≠ g2 := by assumption) (hBa : B ≤ a.heap.size := by assumption) : RetPlay B g1 g2 a (.returned (.bool true)) w2 := by
  obtain ⟨x, hx, hx2⟩ := hr1
  obtain ⟨y, hy, hy2⟩ := hr2
  subst hE
  have b1 := o1.to_below b0 hB1 (Nat.le_trans hBa b0.size)
  exact ⟨rfl, ⟨x, y, E1, hx.other o2 hne, hy, fun h => by rw [hx2 h, hy2 h, hL h]⟩, o2.to_below b1 hB2 (Nat.le_trans hBa b1.size)⟩
theorem Sync.below {w w' : World} {g1 g2 : Nat} (h : Sync w g1 g2) (hb : Below w.heap.size w w') : Sync w' g1 g2 := by
  obtain ⟨l1, l2, e, h1, h2, h3⟩ := h
  exact ⟨l1, l2, e, h1.below hb h1.lt, h2.below hb h2.lt, h3⟩
theorem same_fr {l1 l2 lx ly fa fb fa' fb' : List Nat} {e : Int} {n1 n2 : Bool} (hs : frE l1 e = frE l2 e ∧ (frE l1 e = 0 → l1 = l2)) (ok1 : frE l1 e = 0 → n1 = frN l1 ∧ fa = frA l1 ∧ fb = frB l1 ∧ lx = frL l1) (no1 : frE l1 e ≠ 0 → n1 = false ∧ fa = [] ∧ fb = [])
    (ok2 : frE l2 e = 0 → n2 = frN l2 ∧ fa' = frA l2 ∧ fb' = frB l2 ∧ ly = frL l2) (no2 : frE l2 e ≠ 0 → n2 = false ∧ fa' = [] ∧ fb' = []) : sameF n1 fa fb n2 fa' fb' = true := by
  by_cases he : frE l1 e = 0
  · obtain rfl := hs.2 he
    obtain ⟨a1, a2, a3, _⟩ := ok1 he
    obtain ⟨b1, b2, b3, _⟩ := ok2 he
    subst a1 a2 a3 b1 b2 b3
    simp [sameF]
  · obtain ⟨a1, a2, a3⟩ := no1 he
    obtain ⟨b1, b2, b3⟩ := no2 (by rw [← hs.1]; exact he)
    subst a1 a2 a3 b1 b2 b3
    rfl
theorem play_fr {w1 w2 : World} {g1 g2 : Nat} {l1 l2 lx ly fa fb fa' fb' : List Nat} {e : Int} {n1 n2 : Bool} (hr1 : Rdr 77 w1 g1 lx (frE l1 e)) (hr2 : Rdr 91 w2 g2 ly (frE l2 e)) (hs : frE l1 e = frE l2 e ∧ (frE l1 e = 0 → l1 = l2))
    (ok1 : frE l1 e = 0 → n1 = frN l1 ∧ fa = frA l1 ∧ fb = frB l1 ∧ lx = frL l1) (ok2 : frE l2 e = 0 → n2 = frN l2 ∧ fa' = frA l2 ∧ fb' = frB l2 ∧ ly = frL l2) (hne : g1 ≠ g2) (o2 : Only w1 w2 g2) : Sync w2 g1 g2 := by
  rw [← hs.1] at hr2
  refine ⟨lx, ly, _, hr1.other o2 hne, hr2, fun he => ?_⟩
  rw [(ok1 he).2.2.2, (ok2 (by rw [← hs.1]; exact he)).2.2.2, hs.2 he]
set_option maxRecDepth 100000 in
set_option maxHeartbeats 2000000 in
theorem play_any {w a : World} {B g1 g2 k : Nat} {l1 l2 : List Nat} {e n x : Int} (h1 : Rdr 77 w g1 l1 e) (h2 : Rdr 91 w g2 l2 e) (hs : e = 0 → l1 = l2) (hne : g1 ≠ g2) (hk : k < 256)
    (hn1 : -9223372036854775808 ≤ n) (hn2 : n ≤ 9223372036854775807) (hx1 : -9223372036854775808 ≤ x) (hx2 : x ≤ 9223372036854775807) (hb : Below B a w) (hB1 : B ≤ g1) (hB2 : B ≤ g2) (hBa : B ≤ a.heap.size) :
    Calls Try.prog 63 #[.pointer (some ⟨g1, 0, none⟩), .pointer (some ⟨g2, 0, none⟩), .agg #[.int .u8 (k : Int), .int .i64 n, .int .i64 x]] w (RetPlay B g1 g2 a) := by
  obtain ⟨w0, hw0, bw0, hlt0, hX⟩ := boxed w #[.int .u8 (k : Int), .int .i64 n, .int .i64 x] 69
  have r1 := h1.below bw0 h1.lt
  have r2 := h2.below bw0 h2.lt
  have hn1' : w.heap.size ≠ g1 := Nat.ne_of_gt h1.lt
  have hn2' : w.heap.size ≠ g2 := Nat.ne_of_gt h2.lt
  have b0 := hb.trans (bw0.mono (Nat.le_trans hBa hb.size))
  have r1d : Rdr 77 w0.drew g1 l1 e := r1
  have r2d : Rdr 91 w0.drew g2 l2 e := r2
  have hXd : Blk w0.drew w.heap.size 69 #[.int .u8 (k : Int), .int .i64 n, .int .i64 x] := hX
  have b0d : Below B a w0.drew := b0.drew
  have c0 := hX.f0
  have c1 := hX.f1
  have c2 := hX.f2
  obtain ⟨m, hm, hml⟩ := wrapN n
  have hs' := Lib.hid hs
  clear hs
  have hk8 : k % 8 = 0 ∨ k % 8 = 1 ∨ k % 8 = 2 ∨ k % 8 = 3 ∨ k % 8 = 4 ∨ k % 8 = 5 ∨ k % 8 = 6 ∨ k % 8 = 7 := by omega
  rcases hk8 with hq | hq | hq | hq | hq | hq | hq | hq
  · have hq' : (k : Int) % 8 = 0 := by omega
    obtain ⟨s1, s2, s3⟩ := sync_ui m hs'.out
    have s1' := Lib.hid s1
    have s2' := Lib.hid s2
    have s3' := Lib.hid s3
    clear hq s1 s2 s3
    go_enter Try.func63, Try.ntmps63
    go_wp2_with fail
    go_region_held3 (fun w' => w'.cell? ⟨w.heap.size, 1, none⟩ = some (.int .i64 n)) (first | (go_keep; done) | assumption) (first
      | (go_at_call 22; (with_reducible refine (readUint_any m hml r1d).mono ?_); rintro en w1 ⟨rfl, hr1, o1⟩; rw [s2'.out]; have k1 : w1.cell? ⟨w.heap.size, 1, none⟩ = some (.int .i64 n) := (hXd.only o1 hn1').f1)
      | (go_at_call 84; (with_reducible refine (refReadUint_any m hml (r2d.other o1 (Ne.symm hne))).mono ?_); rintro en w2 ⟨rfl, hr2, o2⟩; have k1 : w2.cell? ⟨w.heap.size, 1, none⟩ = some (.int .i64 n) := ((hXd.only o1 hn1').only o2 hn2').f1))
    go_wp2
    go_ret
    exact play_end hr1 hr2 s1'.out s3'.out o1 o2 b0d hB1 hB2
  · have hq' : (k : Int) % 8 = 1 := by omega
    obtain ⟨s1, s2, s3⟩ := sync_ui MU hs'.out
    have s1' := Lib.hid s1
    have s2' := Lib.hid s2
    have s3' := Lib.hid s3
    clear hq s1 s2 s3
    go_enter Try.func63, Try.ntmps63
    go_wp2_with fail
    refine (readInt_any r1).mono ?_
    rintro en w1 ⟨rfl, hr1, o1⟩
    rw [s2'.out]
    go_wp2_with fail
    refine (refReadInt_any (r2.other o1 (Ne.symm hne))).mono ?_
    rintro en w2 ⟨rfl, hr2, o2⟩
    go_wp2
    go_ret
    exact play_end hr1 hr2 s1'.out s3'.out o1 o2 b0 hB1 hB2
  · have hq' : (k : Int) % 8 = 2 := by omega
    obtain ⟨s1, s2, s3⟩ := sync_tx n hs'.out
    have s1' := Lib.hid s1
    have s2' := Lib.hid s2
    have s3' := Lib.hid s3
    clear hq s1 s2 s3 hm
    obtain ⟨S, hS⟩ : ∃ S, Hid (strOf (txV n l2 e) = S) := ⟨_, rfl⟩
    have hS1 := Lib.hid (show strOf (txV n l1 e) = S by rw [s2'.out, hS.out])
    go_enter Try.func63, Try.ntmps63
    go_wp2_with fail
    go_region_held3 (fun w' => w'.cell? ⟨w.heap.size, 1, none⟩ = some (.int .i64 n)) (first | (go_keep; done) | assumption) (first
      | (go_at_call 28; (with_reducible refine (readText_any n hn1 hn2 r1d).mono ?_); rintro en w1 ⟨rfl, hr1, o1⟩; rw [hS1.out]; have k1 : w1.cell? ⟨w.heap.size, 1, none⟩ = some (.int .i64 n) := (hXd.only o1 hn1').f1)
      | (go_at_call 86; (with_reducible refine (refReadText_any n hn1 hn2 (r2d.other o1 (Ne.symm hne))).mono ?_); rintro en w2 ⟨rfl, hr2, o2⟩; rw [hS.out]; have k1 : w2.cell? ⟨w.heap.size, 1, none⟩ = some (.int .i64 n) := ((hXd.only o1 hn1').only o2 hn2').f1))
    go_wp2
    go_ret
    exact play_end hr1 hr2 s1'.out s3'.out o1 o2 b0d hB1 hB2
  · have hq' : (k : Int) % 8 = 3 := by omega
    have hfr := Lib.hid (sync_fr hs'.out)
    clear hq hm
    go_enter Try.func63, Try.ntmps63
    go_wp2_with fail
    refine (readFrac_any r1).mono ?_
    rintro en w1 ⟨n1, A, ca, fa, D, cb, fb, lx, rfl, na, nb, ma, mb, ua, ub, hr1, ok1, no1, o1⟩
    have r21 := r2.other o1 (Ne.symm hne)
    go_wp2_with fail
    refine (refReadFrac_any r21).mono ?_
    rintro en w2 ⟨n2, A', ca', fa', D', cb', fb', ly, rfl, na', nb', ma', mb', ua', ub', hr2, ok2, no2, o2⟩
    have na2 := na.other ua r21 (by decide) o2
    have nb2 := nb.other ub r21 (by decide) o2
    have hsame := Lib.hid (same_fr hfr.out ok1 no1 ok2 no2)
    have hend := Lib.hid (play_fr hr1 hr2 hfr.out ok1 ok2 hne o2)
    have b1 := o1.to_below b0 hB1 (Nat.le_trans hBa b0.size)
    have b2 := o2.to_below b1 hB2 (Nat.le_trans hBa b1.size)
    clear ok1 ok2 no1 no2
    go_wp2_with fail
    refine (sameF_any na2 nb2 na' nb').mono ?_
    rintro en w3 ⟨rfl, b3⟩
    rw [hsame.out]
    go_wp2
    go_ret
    exact ⟨rfl, hend.out.below b3, b2.trans (b3.mono (Nat.le_trans hBa b2.size))⟩
  · have hq' : (k : Int) % 8 = 4 := by omega
    have hl := Lib.hid (sync_left hs'.out)
    clear hq hm
    go_enter Try.func63, Try.ntmps63
    go_wp2_with fail
    refine (left_any r1).mono ?_
    rintro en w1 ⟨rfl, rfl⟩
    rw [hl.out]
    go_wp2_with fail
    refine (refLeft_any r2).mono ?_
    rintro en w1 ⟨rfl, rfl⟩
    go_wp2
    go_ret
    exact ⟨rfl, ⟨l1, l2, e, r1, r2, hs'.out⟩, b0⟩
  · have hq' : (k : Int) % 8 = 5 := by omega
    have hfail := Lib.hid (show failE e x = 0 → l1 = l2 from fun h0 => hs'.out (by
      unfold failE at h0
      by_cases he : e = 0
      · exact he
      · rw [if_neg he] at h0; exact h0))
    clear hq hm
    go_enter Try.func63, Try.ntmps63
    go_wp2_with fail
    refine (fail_any x r1).mono ?_
    rintro en w1 ⟨rfl, hr1, o1⟩
    have r21 := r2.other o1 (Ne.symm hne)
    have c21 := (hX.only o1 hn1').f2
    go_wp2_with fail
    refine (refFail_any x r21).mono ?_
    rintro en w2 ⟨rfl, hr2, o2⟩
    have hr12 := hr1.other o2 hne
    go_wp2_with fail
    refine (err_any hr12).mono ?_
    rintro en w3 ⟨rfl, rfl⟩
    go_wp2_with fail
    refine (refErr_any hr2).mono ?_
    rintro en w3 ⟨rfl, rfl⟩
    have b1 := o1.to_below b0 hB1 (Nat.le_trans hBa b0.size)
    have b2 := o2.to_below b1 hB2 (Nat.le_trans hBa b1.size)
    go_wp2
    go_ret
    exact ⟨rfl, ⟨l1, l2, _, hr12, hr2, hfail.out⟩, b2⟩
  · have hq' : (k : Int) % 8 = 6 := by omega
    obtain ⟨s1, s2, s3⟩ := sync_ui MU hs'.out
    have s1' := Lib.hid s1
    have s2' := Lib.hid s2
    have s3' := Lib.hid s3
    clear hq s1 s2 s3 hm
    go_enter Try.func63, Try.ntmps63
    go_wp2_with fail
    refine (readUint_any MU (by decide) r1).mono ?_
    rintro en w1 ⟨rfl, hr1, o1⟩
    rw [s2'.out]
    go_wp2_with fail
    refine (refReadUint_any MU (by decide) (r2.other o1 (Ne.symm hne))).mono ?_
    rintro en w2 ⟨rfl, hr2, o2⟩
    go_wp2
    go_ret
    exact play_end hr1 hr2 s1'.out s3'.out o1 o2 b0 hB1 hB2
  · have hq' : (k : Int) % 8 = 7 := by omega
    obtain ⟨s1, s2⟩ := sync_end hs'.out
    have s1' := Lib.hid s1
    have s2' := Lib.hid s2
    clear hq s1 s2 hm
    go_enter Try.func63, Try.ntmps63
    go_wp2_with fail
    refine (end_any r1).mono ?_
    rintro en w1 ⟨rfl, hr1, o1⟩
    rw [s1'.out] at hr1 ⊢
    go_wp2_with fail
    refine (refEnd_any (r2.other o1 (Ne.symm hne))).mono ?_
    rintro en w2 ⟨rfl, hr2, o2⟩
    have b1 := o1.to_below b0 hB1 (Nat.le_trans hBa b0.size)
    have b2 := o2.to_below b1 hB2 (Nat.le_trans hBa b1.size)
    go_wp2
    go_ret
    exact ⟨rfl, ⟨l1, l2, _, hr1.other o2 hne, hr2, fun h0 => s2'.out (s1'.out.trans h0)⟩, b2⟩
end Go.Proofs.Ytkbibdbojdbfkaa
