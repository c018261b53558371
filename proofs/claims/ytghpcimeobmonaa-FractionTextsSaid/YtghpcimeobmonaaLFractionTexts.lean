/- The statement FractionTexts of the given program: the law returns true for every input, and writes nothing that was there. The walk is proved over the contracts of the functions it calls. -/
import Derived.Test.YtghpcimeobmonaaRows
import Derived.Test.YtghpcimeobmonaaLShort
import Derived.Test.YtghpcimeobmonaaLAwake
import Derived.Test.YtghpcimeobmonaaGParse
import Derived.Test.YtghpcimeobmonaaPFmt
import Derived.WalkKit
import Derived.ProofKit
import Derived.OpenShut
import Derived.ShutString
import Derived.ChangeOld
import Derived.Below
namespace Go.Proofs.Ytghpcimeobmonaa.fractionTexts
open Go.ChangeShapes Go.WideShapes Go.ChangeAt Go.RowKit
open Plain
open Go.ChangeMaps (open_string shut_string)
set_option linter.unusedVariables false
set_option linter.unusedSimpArgs false

theorem own : ownKnob Try.prog.godebug = none := by kernel_rfl
theorem laidOut : laidOutB Try.prog = true := by kernel_rfl

theorem eq_self (q : Rat) : decide (q = q) = true := decide_eq_true rfl
theorem retPF_yes {l : List Nat} {W w' : World} {e : Ending} (h : RetPF l W e w') (h1 : ¬ 1202 < l.length) (h2 : pfOK l = true) : RetQE (pfQ l) W e w' := by
  unfold RetPF at h; rw [if_neg h1, if_pos h2] at h; exact h
/-- The error of a text. -/
def pfE (l : List Nat) : Int := if 1202 < l.length then 3 else 2
theorem pfE_ne (l : List Nat) : (pfE l == 0) = false := by unfold pfE; split <;> rfl
theorem retPF_no {l : List Nat} {W w' : World} {e : Ending} (h : RetPF l W e w') (h2 : ¬ (¬ 1202 < l.length ∧ pfOK l = true)) : RetZE (pfE l) W e w' := by
  unfold RetPF at h
  unfold pfE
  by_cases h1 : 1202 < l.length
  · rw [if_pos h1] at h ⊢; exact h
  · rw [if_neg h1] at h ⊢
    rw [if_neg (fun k => h2 ⟨h1, k⟩)] at h
    exact h
set_option maxRecDepth 100000 in
set_option maxHeartbeats 2000000 in
theorem walk (f0 : FrD) (a1 : ByteArray) (w : World) (w0 : f0.ok w) (w1 : a1.size ≤ maxLen) :
    Calls Try.prog 3 #[fracV f0.neg f0.a f0.la.length f0.ca f0.b f0.lb.length f0.cb, .string a1] w fun e w' => e = .returned (.bool true) ∧ Below w.heap.size w w' := by
  have hf := w0
  have hsz : a1.size ≤ 9223372036854775807 := w1
  clear w0 w1
  obtain ⟨wa, hwa, bwa, hlta, hAa⟩ := boxed w #[.bool f0.neg, .slice f0.a f0.la.length f0.ca, .slice f0.b f0.lb.length f0.cb] 25
  have x0 := hAa.f0
  have x1 := hAa.f1
  have x2 := hAa.f2
  have b00 := bwa
  have fo0 := hf.below bwa
  by_cases hs0 : shB f0 = true
  · obtain ⟨fv0, fit0⟩ := shB_fv fo0 hs0
    have hs0' := Lib.hid hs0
    clear hs0
    by_cases h13 : a1.size ≤ 1300
    · have d13 : decide ((1300 : Int) < (a1.size : Int)) = false := decide_eq_false (by omega)
      clear h13
      obtain ⟨p1, p2, p3⟩ := parse_fmt fit0
      obtain ⟨T, hT⟩ : ∃ T, Hid (fmtQ f0.q = T) := ⟨_, rfl⟩
      have hTsz : T.size ≤ 9223372036854775807 := by rw [← bytes_length, ← hT.out]; omega
      have p1' := Lib.hid p1
      have p2' := Lib.hid p2
      have p3' := Lib.hid p3
      clear p1 p2 p3
      go_enter Try.func3, Try.ntmps3
      go_wp2_with fail
      refine (short_any f0 _ fo0).mono ?_
      rintro en w1 ⟨rfl, b1⟩
      rw [hs0'.out]
      have hA1 := hAa.keep b1
      have fv1 := fv0.below b1
      have b01 := b00.trans (b1.mono b00.size)
      clear x0 x1 x2
      have x0 := hA1.f0
      have x1 := hA1.f1
      have x2 := hA1.f2
      go_wp2_with fail
      refine (formatF_any fv1 fit0 (by omega)).mono ?_
      rintro en w2 ⟨rfl, b2⟩
      rw [hT.out]
      have hA2 := hA1.keep b2
      have fv2 := fv1.below b2
      have b02 := b01.trans (b2.mono b01.size)
      clear x0 x1 x2
      go_wp2_with fail
      refine (parseF_any T _ hTsz).mono ?_
      rintro en w3 hp
      rw [← hT.out] at hp
      have hp2 := retPF_yes hp p1'.out p2'.out
      rw [p3'.out] at hp2
      clear hp
      obtain ⟨v3, rfl, ⟨n3, A3, ca3, la3, B3, cb3, lb3, rfl, na3, nb3, iq3⟩, b3⟩ := hp2
      have fv3 : FV w3 (fracV n3 A3 la3.length ca3 B3 lb3.length cb3) f0.q := ⟨_, _, _, _, _, _, _, rfl, na3, nb3, iq3⟩
      clear na3 nb3 iq3
      obtain ⟨y3, hy3, by3, hlt3, hX3⟩ := boxed w3 #[.bool n3, .slice A3 la3.length ca3, .slice B3 lb3.length cb3] 25
      have hA4 := (hA2.keep b3).keep by3
      have fv4 := (fv2.below b3).below by3
      have fw4 := fv3.below by3
      have b04 := (b02.trans (b3.mono b02.size)).trans (by3.mono (Nat.le_trans b02.size b3.size))
      clear b01 b02 fv1 fv2 fv3 b1 b2 b3 by3
      go_wp2_with fail
      refine (parseF_any a1 _ hsz).mono ?_
      rintro en w5 hp5
      by_cases hok : ¬ 1202 < (bytes a1).length ∧ pfOK (bytes a1) = true
      · have hq5 := retPF_yes hp5 hok.1 hok.2
        have hok' := Lib.hid hok
        clear hp5 hok
        obtain ⟨r, hr⟩ : ∃ r, Hid (pfQ (bytes a1) = r) := ⟨_, rfl⟩
        rw [hr.out] at hq5
        obtain ⟨v5, rfl, ⟨n5, A5, ca5, la5, B5, cb5, lb5, rfl, na5, nb5, iq5⟩, b5⟩ := hq5
        have fv5 : FV w5 (fracV n5 A5 la5.length ca5 B5 lb5.length cb5) (r) := ⟨_, _, _, _, _, _, _, rfl, na5, nb5, iq5⟩
        clear na5 nb5 iq5
        obtain ⟨y5, hy5, by5, hlt5, hX5⟩ := boxed w5 #[.bool n5, .slice A5 la5.length ca5, .slice B5 lb5.length cb5] 25
        go_wp2_with fail
        refine (refParseF_any a1 _ hsz).mono ?_
        rintro en w7 hp7
        have hq7 := retPF_yes hp7 hok'.out.1 hok'.out.2
        rw [hr.out] at hq7
        clear hp7
        obtain ⟨v7, rfl, ⟨n7, A7, ca7, la7, B7, cb7, lb7, rfl, na7, nb7, iq7⟩, b7⟩ := hq7
        have fv7 : FV w7 (fracV n7 A7 la7.length ca7 B7 lb7.length cb7) (r) := ⟨_, _, _, _, _, _, _, rfl, na7, nb7, iq7⟩
        clear na7 nb7 iq7
        obtain ⟨y7, hy7, by7, hlt7, hX7⟩ := boxed w7 #[.bool n7, .slice A7 la7.length ca7, .slice B7 lb7.length cb7] 25
        have hA8 := ((hA4.keep b5).keep by5).keep b7 |>.keep by7
        have hX8 := ((hX3.keep b5).keep by5).keep b7 |>.keep by7
        have fv8 := (((fv4.below b5).below by5).below b7).below by7
        have fw8 := (((fw4.below b5).below by5).below b7).below by7
        have b05 := b04.trans (b5.mono b04.size)
        have b06 := b05.trans (by5.mono b05.size)
        have b07 := b06.trans (b7.mono b06.size)
        have b08 := b07.trans (by7.mono b07.size)
        have x0 := hA8.f0
        have x1 := hA8.f1
        have x2 := hA8.f2
        go_wp2_with fail
        refine (refFormatF_any fv8 fit0 (by omega)).mono ?_
        rintro en w9 ⟨rfl, b9⟩
        rw [hT.out]
        have hA9 := hA8.keep b9
        have hX9 := hX8.keep b9
        have b09 := b08.trans (b9.mono b08.size)
        clear x0 x1 x2
        have x0 := hA9.f0
        have x1 := hA9.f1
        have x2 := hA9.f2
        have y0 := hX9.f0
        have y1 := hX9.f1
        have y2 := hX9.f2
        go_wp2_with fail
        refine (sameQ_any (fv8.below b9) (fw8.below b9)).mono ?_
        rintro en w10 ⟨rfl, b10⟩
        rw [eq_self]
        have b010 := b09.trans (b10.mono b09.size)
        have hX10 := (((hX5.keep b7).keep by7).keep b9).keep b10
        have hX11 := (hX7.keep b9).keep b10
        have fa10 := ((((fv5.below by5).below b7).below by7).below b9).below b10
        have fb10 := ((fv7.below by7).below b9).below b10
        clear x0 x1 x2 y0 y1 y2
        have x0 := hX10.f0
        have x1 := hX10.f1
        have x2 := hX10.f2
        have y0 := hX11.f0
        have y1 := hX11.f1
        have y2 := hX11.f2
        go_wp2_with fail
        refine (sameQ_any fa10 fb10).mono ?_
        rintro en w11 ⟨rfl, b11⟩
        rw [eq_self]
        have b011 := b010.trans (b11.mono b010.size)
        go_wp2_with fail
        refine (awake_any _).mono ?_
        rintro en wz ⟨rfl, bz⟩
        go_wp2
        go_ret
        exact ⟨rfl, b011.trans (bz.mono b011.size)⟩
      · have hq5 := retPF_no hp5 hok
        have hok' := Lib.hid hok
        clear hp5 hok
        obtain ⟨r, hr⟩ : ∃ r, Hid (pfE (bytes a1) = r) := ⟨_, rfl⟩
        have hrn : (r == 0) = false := by rw [← hr.out]; exact pfE_ne _
        have hrb : (r != 0) = true := by unfold bne; rw [hrn]; rfl
        rw [hr.out] at hq5
        obtain ⟨rfl, b5⟩ := hq5
        obtain ⟨y5, hy5, by5, hlt5, hZ5⟩ := boxed w5 #[.bool false, .slice none 0 0, .slice none 0 0] 25
        have za5 := hZ5.f0
        have zb5 := hZ5.f1
        have zc5 := hZ5.f2
        have zf50 := hZ5.free 0
        have zf51 := hZ5.free 1
        have zf52 := hZ5.free 2
        have zs50 := hZ5.same (i := 0) (u := .bool false) rfl
        have zs51 := hZ5.same (i := 1) (u := .slice none 0 0) rfl
        have zs52 := hZ5.same (i := 2) (u := .slice none 0 0) rfl
        go_wp2_with fail
        refine (refParseF_any a1 _ hsz).mono ?_
        rintro en w7 hp7
        have hq7 := retPF_no hp7 hok'.out
        rw [hr.out] at hq7
        clear hp7
        obtain ⟨rfl, b7⟩ := hq7
        clear za5 zb5 zc5 zf50 zf51 zf52 zs50 zs51 zs52
        obtain ⟨y7, hy7, by7, hlt7, hZ7⟩ := boxed w7 #[.bool false, .slice none 0 0, .slice none 0 0] 25
        have za7 := hZ7.f0
        have zb7 := hZ7.f1
        have zc7 := hZ7.f2
        have zf70 := hZ7.free 0
        have zf71 := hZ7.free 1
        have zf72 := hZ7.free 2
        have zs70 := hZ7.same (i := 0) (u := .bool false) rfl
        have zs71 := hZ7.same (i := 1) (u := .slice none 0 0) rfl
        have zs72 := hZ7.same (i := 2) (u := .slice none 0 0) rfl
        have hA8 := ((hA4.keep b5).keep by5).keep b7 |>.keep by7
        have hX8 := ((hX3.keep b5).keep by5).keep b7 |>.keep by7
        have fv8 := (((fv4.below b5).below by5).below b7).below by7
        have fw8 := (((fw4.below b5).below by5).below b7).below by7
        have b05 := b04.trans (b5.mono b04.size)
        have b06 := b05.trans (by5.mono b05.size)
        have b07 := b06.trans (b7.mono b06.size)
        have b08 := b07.trans (by7.mono b07.size)
        have x0 := hA8.f0
        have x1 := hA8.f1
        have x2 := hA8.f2
        go_wp2_with fail
        refine (refFormatF_any fv8 fit0 (by omega)).mono ?_
        rintro en w9 ⟨rfl, b9⟩
        rw [hT.out]
        clear za7 zb7 zc7 zf70 zf71 zf72 zs70 zs71 zs72
        have hA9 := hA8.keep b9
        have hX9 := hX8.keep b9
        have b09 := b08.trans (b9.mono b08.size)
        clear x0 x1 x2
        have x0 := hA9.f0
        have x1 := hA9.f1
        have x2 := hA9.f2
        have y0 := hX9.f0
        have y1 := hX9.f1
        have y2 := hX9.f2
        go_wp2_with fail
        refine (sameQ_any (fv8.below b9) (fw8.below b9)).mono ?_
        rintro en w10 ⟨rfl, b10⟩
        rw [eq_self]
        have b010 := b09.trans (b10.mono b09.size)
        go_wp2_with fail
        refine (awake_any _).mono ?_
        rintro en wz ⟨rfl, bz⟩
        go_wp2
        go_ret
        exact ⟨rfl, b010.trans (bz.mono b010.size)⟩
    · have d13 : decide ((1300 : Int) < (a1.size : Int)) = true := decide_eq_true (by omega)
      clear h13
      go_enter Try.func3, Try.ntmps3
      go_wp2_with fail
      refine (short_any f0 _ fo0).mono ?_
      rintro en w1 ⟨rfl, b1⟩
      rw [hs0'.out]
      have b01 := b00.trans (b1.mono b00.size)
      go_wp2_with fail
      refine (awake_any _).mono ?_
      rintro en wz ⟨rfl, bz⟩
      go_wp2
      go_ret
      exact ⟨rfl, b01.trans (bz.mono b01.size)⟩
  · have hs0' := Lib.hid (eq_false_of_ne_true hs0)
    clear hs0
    go_enter Try.func3, Try.ntmps3
    go_wp2_with fail
    refine (short_any f0 _ fo0).mono ?_
    rintro en w1 ⟨rfl, b1⟩
    rw [hs0'.out]
    have b01 := b00.trans (b1.mono b00.size)
    go_wp2_with fail
    refine (awake_any _).mono ?_
    rintro en wz ⟨rfl, bz⟩
    go_wp2
    go_ret
    exact ⟨rfl, b01.trans (bz.mono b01.size)⟩

/-! ### THE ROW's STEP: WRITTEN OUT: LEAVE IT -/
set_option maxRecDepth 100000 in
theorem lifted (os : Os) (started : os.Started) (H : Type) (enc : TypeId × Value → H) :
    ReturnsInHanded {} Try.checked os 3 .any (Rows.fractionTextsSpec.pre6 enc Try.prog Try.f3 Rows.fractionTextsRow.domain false) (Rows.fractionTextsSpec.post enc Try.prog Try.f3 false true false false) := by
  refine returnsInHanded_of_change (C := Try.checked) own started (by kernel_rfl) Try.func3
    (ChangeSpec.witness6 (enc := enc) (C := Try.checked) false ⟨#[], #[.agg #[.bool false, .slice none 0 0, .slice none 0 0], .string ByteArray.empty], []⟩ 8 (by kernel_rfl) (by kernel_rfl) (by kernel_rfl) (by kernel_rfl)) ?_
  intro W base args ds gs before hval0 hW hcnd _
  have hval : ∀ (j : Nat) t v, Try.f3.params[j]? = some t → args[j]? = some v → Value.okWide Try.prog W .any base t v := hval0
  have hW' := hW
  obtain ⟨p, q, hA0, hV, rfl, hfz, hnd⟩ := hW
  have hA : DataW.TrodAll enc Try.prog W 0 (fun _ => true) true Try.f3.params.toList args.toList ds p := hA0
  rw [Try.params3] at hA hval
  obtain ⟨v0, vs0, d0, ds0, p0, q0, hargs, rfl, rfl, h0, r0⟩ := trodAll_cons hA
  obtain ⟨v1, vs1, d1, ds1, p1, q1, rfl, rfl, rfl, h1, r1⟩ := trodAll_cons r0
  obtain ⟨rfl, rfl, rfl⟩ := trodAll_nil r1
  obtain rfl : args = #[v0, v1] := by cases args; simp_all
  obtain ⟨rfl, rfl⟩ := trodVars_none hV
  have k0 := h0
  have lt0 : ∀ x ∈ p0, x.block < W.heap.size := by obtain ⟨m, hm⟩ := k0; exact DataW.trod_lt m _ _ _ hm
  obtain ⟨f0, rfl, w0⟩ := open_frac (hval 0 25 v0 rfl rfl) h0
  obtain ⟨a1, rfl, rfl, rfl, w1⟩ := open_string Try.underlying9 (hval 1 9 v1 rfl rfl) h1
  clear hA0 hval0
  refine (walk f0 a1 W w0 w1).mono fun e W' ⟨he, bel⟩ => ?_
  subst he
  exact ⟨_, rfl, _, _, _, [], _, [], hW', trodAll_mk1 (shut_bool Try.underlying4 _), (trodAll_cons_mk (Below.trod laidOut (by kernel_rfl) (of_decide_eq_true (by kernel_rfl)) k0 bel lt0) (trodAll_cons_mk (shut_string Try.underlying9 w1) trodAll_mk0)), rfl, bel.frame _, fun h => by cases h⟩

theorem over : Rows.fractionTextsRow.holds Try.pinned (OpenSpec.ofChange Rows.fractionTextsSpec) :=
  OpenClaim.holds_of_wide 3 Try.f3 rfl rfl rfl rfl rfl rfl rfl ⟨rfl, rfl, rfl, rfl, rfl⟩ rfl rfl rfl rfl rfl (by kernel_rfl) Try.func3 (by kernel_rfl)
    (of_decide_eq_true (by kernel_rfl)) (by unfold Func.isWrapper; first | (rw [if_pos (by decide +kernel)]; kernel_rfl) | (rw [if_neg (by decide +kernel)]; exact ⟨rfl, rfl⟩))
    (fun os started H enc _ => lifted os started H enc)

/-- ████ THE STATEMENT ████ -/
theorem proved : Rows.FractionTextsSaid := over
#print axioms proved
end Go.Proofs.Ytghpcimeobmonaa.fractionTexts
