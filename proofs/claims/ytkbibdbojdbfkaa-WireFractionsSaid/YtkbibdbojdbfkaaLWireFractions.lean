/- The statement WireFractions of the given program: the law returns true for every input, and writes nothing that was there. The walk is proved over the contracts of the functions it calls. -/
import Derived.Test.YtkbibdbojdbfkaaRows
import Derived.Test.YtkbibdbojdbfkaaOpen
import Derived.WalkKit
import Derived.ProofKit
import Derived.OpenShut
import Derived.ShutString
import Derived.ChangeOld
import Derived.Below
namespace Go.Proofs.Ytkbibdbojdbfkaa.wireFractions
open Go.ChangeShapes Go.WideShapes Go.ChangeAt Go.RowKit
open Plain
open Go.ChangeMaps (open_string shut_string)
set_option linter.unusedVariables false
set_option linter.unusedSimpArgs false

theorem own : ownKnob Try.prog.godebug = none := by kernel_rfl
theorem laidOut : laidOutB Try.prog = true := by kernel_rfl

set_option maxRecDepth 100000 in
set_option maxHeartbeats 2000000 in
theorem walk (f0 : FrD) (w : World) (w0 : f0.ok w) :
    Calls Try.prog 13 #[fracV f0.neg f0.a f0.la.length f0.ca f0.b f0.lb.length f0.cb] w fun e w' => e = .returned (.bool true) ∧ Below w.heap.size w w' := by
  obtain ⟨ia, ib⟩ := w0
  obtain ⟨neg, A, ca, la, B, cb, lb⟩ := f0
  dsimp only at ia ib ⊢
  have ga := ia.big
  have gb := ib.big
  obtain ⟨wb, hwb, bwb, hltb, hBb⟩ := boxed w #[.bool neg, .slice A la.length ca, .slice B lb.length cb] 59
  have k0 := hBb.f0
  have k1 := hBb.f1
  have k2 := hBb.f2
  by_cases hA8 : 8 < la.length
  · have hd : decide ((8 : Int) < (la.length : Int)) = true := decide_eq_true (by omega)
    clear hA8
    go_enter Try.func13, Try.ntmps13
    go_wp2_with fail
    refine (livesW_any _).mono ?_
    rintro en wz ⟨rfl, b9⟩
    go_wp2
    go_ret
    exact ⟨rfl, bwb.trans (b9.mono (Nat.le_of_lt hltb))⟩
  have hd : decide ((8 : Int) < (la.length : Int)) = false := decide_eq_false (by omega)
  by_cases hB8 : 8 < lb.length
  · have hd2 : decide ((8 : Int) < (lb.length : Int)) = true := decide_eq_true (by omega)
    clear hB8
    go_enter Try.func13, Try.ntmps13
    go_wp2_with fail
    refine (livesW_any _).mono ?_
    rintro en wz ⟨rfl, b9⟩
    go_wp2
    go_ret
    exact ⟨rfl, bwb.trans (b9.mono (Nat.le_of_lt hltb))⟩
  have hd2 : decide ((8 : Int) < (lb.length : Int)) = false := decide_eq_false (by omega)
  have la8 : la.length ≤ 8 := by omega
  have lb8 : lb.length ≤ 8 := by omega
  clear hA8 hB8
  have na := (ia.nv (by omega)).below bwb
  have nb := (ib.nv (by omega)).below bwb
  obtain ⟨v, hv⟩ : ∃ v, Hid (vldF neg la lb = v) := ⟨_, rfl⟩
  rcases v with _ | _
  · go_enter Try.func13, Try.ntmps13
    go_wp2_with fail
    refine (lowest_any na nb (by omega) (by omega)).mono ?_
    rintro en w1 ⟨rfl, b1⟩
    rw [hv.out]
    go_wp2_with fail
    refine (livesW_any _).mono ?_
    rintro en wz ⟨rfl, b9⟩
    go_wp2
    go_ret
    have b01 := bwb.trans (b1.mono (Nat.le_of_lt hltb))
    exact ⟨rfl, b01.trans (b9.mono b01.size)⟩
  · have henc := Lib.hid (fr_enc (neg := neg) na.dig nb.dig (by omega) (by omega) hv.out)
    obtain ⟨S, hS⟩ : ∃ S, Hid (fracE neg la lb = S) := ⟨_, rfl⟩
    have hsz : S.size ≤ 1000000 := by rw [← hS.out]; exact fracE_size na.dig nb.dig (by omega) (by omega)
    rw [hS.out] at henc
    have hend : endE [] 0 = 0 := rfl
    have hsame := Lib.hid (show sameF neg la lb neg la lb = true by simp [sameF])
    go_enter Try.func13, Try.ntmps13
    go_wp2_with fail
    refine (lowest_any na nb (by omega) (by omega)).mono ?_
    rintro en w1 ⟨rfl, b1⟩
    rw [hv.out]
    have B1 := hBb.keep b1
    have na1 := na.below b1
    have nb1 := nb.below b1
    have b01 := bwb.trans (b1.mono (Nat.le_of_lt hltb))
    clear k0 k1 k2
    have k0 := B1.f0
    have k1 := B1.f1
    have k2 := B1.f2
    go_wp2_with fail
    refine (wFraction_any na1 nb1 (by omega) (by omega)).mono ?_
    rintro en w2 ⟨rfl, b2⟩
    rw [hS.out]
    have B2 := B1.keep b2
    have na2 := na1.below b2
    have nb2 := nb1.below b2
    have b02 := b01.trans (b2.mono b01.size)
    go_wp2_with fail
    refine (newR_any S _ hsz).mono ?_
    rintro en w3 ⟨rfl, r3, b3⟩
    have B3 := B2.keep b3
    have na3 := na2.below b3
    have nb3 := nb2.below b3
    have b03 := b02.trans (b3.mono b02.size)
    have hBg : w.heap.size ≤ w2.heap.size := b02.size
    have hxg : w.heap.size ≠ w2.heap.size := Nat.ne_of_lt B2.lt
    obtain ⟨g, hg⟩ : ∃ g, w2.heap.size = g := ⟨_, rfl⟩
    rw [hg] at r3 hBg hxg ⊢
    clear k0 k1 k2 b1 b2 b3 B1 B2 hg b01 b02
    have B3d : Blk w3.drew w.heap.size 59 #[.bool neg, .slice A la.length ca, .slice B lb.length cb] := B3
    have r3d : Rdr 77 w3.drew g (bytes S) 0 := r3
    have na3d : Nv w3.drew A ca la := na3.below ((Below.refl _ _).drew)
    have nb3d : Nv w3.drew B cb lb := nb3.below ((Below.refl _ _).drew)
    have b03d := b03.drew
    have k0 := B3.f0
    have k1 := B3.f1
    have k2 := B3.f2
    have hBg' := Lib.hid hBg
    have hxg' := Lib.hid hxg
    go_wp2_with fail
    have ia' := ia.nv (by omega)
    have ib' := ib.nv (by omega)
    go_region_held3 (fun w' => w'.cell? ⟨w.heap.size, 0, none⟩ = some (.bool neg) ∧ w'.cell? ⟨w.heap.size, 1, none⟩ = some (.slice A la.length ca) ∧ w'.cell? ⟨w.heap.size, 2, none⟩ = some (.slice B lb.length cb)) (first | (go_keep; done) | (refine ⟨?_, ?_, ?_⟩ <;> assumption)) (first
      | (go_at_call 59; (with_reducible refine (refFraction_any na3d nb3d (by omega) (by omega)).mono ?_); rintro en w4 ⟨rfl, b4⟩; rw [hS.out]; have B4 := B3d.keep b4; have b04 := b03d.trans (b4.mono b03d.size); have x0 := B4.f0; have x1 := B4.f1; have x2 := B4.f2)
      | (go_at_call 61; (with_reducible refine (readFrac_any (r3d.below b4 r3d.lt)).mono ?_); rintro en w5 ⟨n5, A5, c5, l5, D5, d5, m5, z5, rfl, p5, q5, -, -, u5, v5, r5, ok5, -, o5⟩; obtain ⟨e1, e2, e3, e4⟩ := ok5 henc.out.1; obtain rfl : neg = n5 := (e1.trans henc.out.2.1).symm; obtain rfl : la = l5 := (e2.trans henc.out.2.2.1).symm; obtain rfl : lb = m5 := (e3.trans henc.out.2.2.2.1).symm; obtain rfl : [] = z5 := (e4.trans henc.out.2.2.2.2).symm; rw [henc.out.1] at r5; have C5 := B4.only o5 hxg'.out; have b05 := o5.to_below b04 hBg'.out b04.size; have y0 := C5.f0; have y1 := C5.f1; have y2 := C5.f2; clear e1 e2 e3 e4 ok5)
      | (go_at_call 60; (with_reducible refine (sameF_any p5 q5 (ia'.below b05) (ib'.below b05)).mono ?_); rintro en w6 ⟨rfl, b6⟩; rw [hsame.out]; have C6 := C5.keep b6; have b06 := b05.trans (b6.mono b05.size); have r6 := r5.below b6 r5.lt; have t0 := C6.f0; have t1 := C6.f1; have t2 := C6.f2)
      | (go_at_call 24; (with_reducible refine (end_any r6).mono ?_); rintro en w7 ⟨rfl, r7, o7⟩; rw [hend]; have C7 := C6.only o7 hxg'.out; have b07 := o7.to_below b06 hBg'.out b06.size; have t0 := C7.f0; have t1 := C7.f1; have t2 := C7.f2)
      | (go_at_call 25; (with_reducible refine (livesW_any _).mono ?_); rintro en w8 ⟨rfl, b8⟩; have C8 := C7.keep b8; have b08 := b07.trans (b8.mono b07.size); have t0 := C8.f0; have t1 := C8.f1; have t2 := C8.f2))
    go_wp2
    go_ret
    exact ⟨rfl, b08⟩

/-! ### THE ROW's STEP: WRITTEN OUT: LEAVE IT -/
set_option maxRecDepth 100000 in
theorem lifted (os : Os) (started : os.Started) (H : Type) (enc : TypeId × Value → H) :
    ReturnsInHanded {} Try.checked os 13 .any (Rows.wireFractionsSpec.pre6 enc Try.prog Try.f13 Rows.wireFractionsRow.domain false) (Rows.wireFractionsSpec.post enc Try.prog Try.f13 false true false false) := by
  refine returnsInHanded_of_change (C := Try.checked) own started (by kernel_rfl) Try.func13
    (ChangeSpec.witness6 (enc := enc) (C := Try.checked) false ⟨#[], #[.agg #[.bool false, .slice none 0 0, .slice none 0 0]], []⟩ 8 (by kernel_rfl) (by kernel_rfl) (by kernel_rfl) (by kernel_rfl)) ?_
  intro W base args ds gs before hval0 hW hcnd _
  have hval : ∀ (j : Nat) t v, Try.f13.params[j]? = some t → args[j]? = some v → Value.okWide Try.prog W .any base t v := hval0
  have hW' := hW
  obtain ⟨p, q, hA0, hV, rfl, hfz, hnd⟩ := hW
  have hA : DataW.TrodAll enc Try.prog W 0 (fun _ => true) true Try.f13.params.toList args.toList ds p := hA0
  rw [Try.params13] at hA hval
  obtain ⟨v0, vs0, d0, ds0, p0, q0, hargs, rfl, rfl, h0, r0⟩ := trodAll_cons hA
  obtain ⟨rfl, rfl, rfl⟩ := trodAll_nil r0
  obtain rfl : args = #[v0] := by cases args; simp_all
  obtain ⟨rfl, rfl⟩ := trodVars_none hV
  have k0 := h0
  have lt0 : ∀ x ∈ p0, x.block < W.heap.size := by obtain ⟨m, hm⟩ := k0; exact DataW.trod_lt m _ _ _ hm
  obtain ⟨f0, rfl, w0⟩ := open_frac (hval 0 59 v0 rfl rfl) h0
  clear hA0 hval0
  refine (walk f0 W w0).mono fun e W' ⟨he, bel⟩ => ?_
  subst he
  exact ⟨_, rfl, _, _, _, [], _, [], hW', trodAll_mk1 (shut_bool Try.underlying4 _), (trodAll_cons_mk (Below.trod laidOut (by kernel_rfl) (of_decide_eq_true (by kernel_rfl)) k0 bel lt0) trodAll_mk0), rfl, bel.frame _, fun h => by cases h⟩

theorem over : Rows.wireFractionsRow.holds Try.pinned (OpenSpec.ofChange Rows.wireFractionsSpec) :=
  OpenClaim.holds_of_wide 13 Try.f13 rfl rfl rfl rfl rfl rfl rfl ⟨rfl, rfl, rfl, rfl, rfl⟩ rfl rfl rfl rfl rfl (by kernel_rfl) Try.func13 (by kernel_rfl)
    (of_decide_eq_true (by kernel_rfl)) (by unfold Func.isWrapper; first | (rw [if_pos (by decide +kernel)]; kernel_rfl) | (rw [if_neg (by decide +kernel)]; exact ⟨rfl, rfl⟩))
    (fun os started H enc _ => lifted os started H enc)

/-- ████ THE STATEMENT ████ -/
theorem proved : Rows.WireFractionsSaid := over
#print axioms proved
end Go.Proofs.Ytkbibdbojdbfkaa.wireFractions
