/- The statement FractionComputes of the given program: the law returns true for every input, and writes nothing that was there. The walk is proved over the contracts of the functions it calls. -/
import Derived.Test.YtghpcimeobmonaaRows
import Derived.Test.YtghpcimeobmonaaLShort
import Derived.Test.YtghpcimeobmonaaLAwake
import Derived.Test.YtghpcimeobmonaaFDiv
import Derived.Test.YtghpcimeobmonaaFMul
import Derived.Test.YtghpcimeobmonaaFSub
import Derived.Test.YtghpcimeobmonaaGMul
import Derived.Test.YtghpcimeobmonaaGSub
import Derived.WalkKit
import Derived.ProofKit
import Derived.OpenShut
import Derived.ShutString
import Derived.ChangeOld
import Derived.Below
namespace Go.Proofs.Ytghpcimeobmonaa.fractionComputes
open Go.ChangeShapes Go.WideShapes Go.ChangeAt Go.RowKit
open Plain
open Go.ChangeMaps (open_string shut_string)
set_option linter.unusedVariables false
set_option linter.unusedSimpArgs false

theorem own : ownKnob Try.prog.godebug = none := by kernel_rfl
theorem laidOut : laidOutB Try.prog = true := by kernel_rfl

theorem eq_self (q : Rat) : decide (q = q) = true := decide_eq_true rfl
set_option maxRecDepth 100000 in
set_option maxHeartbeats 2000000 in
theorem walk (f0 : FrD) (f1 : FrD) (w : World) (w0 : f0.ok w) (w1 : f1.ok w) :
    Calls Try.prog 8 #[fracV f0.neg f0.a f0.la.length f0.ca f0.b f0.lb.length f0.cb, fracV f1.neg f1.a f1.la.length f1.ca f1.b f1.lb.length f1.cb] w fun e w' => e = .returned (.bool true) ∧ Below w.heap.size w w' := by
  have hf0 := w0
  have hf1 := w1
  obtain ⟨wa, hwa, bwa, hlta, hAa⟩ := boxed w #[.bool f0.neg, .slice f0.a f0.la.length f0.ca, .slice f0.b f0.lb.length f0.cb] 25
  obtain ⟨wb, hwb, bwb, hltb, hBb⟩ := boxed wa #[.bool f1.neg, .slice f1.a f1.la.length f1.ca, .slice f1.b f1.lb.length f1.cb] 25
  have hAb := hAa.keep bwb
  have b00 := bwa.trans (bwb.mono (Nat.le_of_lt hlta))
  have x0 := hAb.f0
  have x1 := hAb.f1
  have x2 := hAb.f2
  have y0 := hBb.f0
  have y1 := hBb.f1
  have y2 := hBb.f2
  have fo0 := hf0.below b00
  have fo1 := hf1.below b00
  clear w0 w1 hf0 hf1
  by_cases hs0 : shB f0 = true
  · obtain ⟨fv0, fit0⟩ := shB_fv fo0 hs0
    have hs0' := Lib.hid hs0
    clear hs0
    by_cases hs1 : shB f1 = true
    · obtain ⟨fv1, fit1⟩ := shB_fv fo1 hs1
      have hs1' := Lib.hid hs1
      clear hs1
      obtain ⟨c, hc⟩ : ∃ z, Hid (cmpR f0.q f1.q = z) := ⟨_, rfl⟩
      obtain ⟨s, hsg⟩ : ∃ z, Hid (cmpR f0.q 0 = z) := ⟨_, rfl⟩
      go_enter Try.func8, Try.ntmps8
      go_wp2_with fail
      refine (short_any f0 _ fo0).mono ?_
      rintro en w1 ⟨rfl, b1⟩
      rw [hs0'.out]
      have hA1 := hAb.keep b1
      have hB1 := hBb.keep b1
      have b01 := b00.trans (b1.mono b00.size)
      clear x0 x1 x2 y0 y1 y2
      have y0 := hB1.f0
      have y1 := hB1.f1
      have y2 := hB1.f2
      go_wp2_with fail
      refine (short_any f1 _ (fo1.below b1)).mono ?_
      rintro en w2 ⟨rfl, b2⟩
      rw [hs1'.out]
      have hA2 := hA1.keep b2
      have hB2 := hB1.keep b2
      have b02 := b01.trans (b2.mono b01.size)
      have fa2 := (fv0.below b1).below b2
      have fb2 := (fv1.below b1).below b2
      clear y0 y1 y2 fv0 fv1 fo0 fo1
      have x0 := hA2.f0
      have x1 := hA2.f1
      have x2 := hA2.f2
      have y0 := hB2.f0
      have y1 := hB2.f1
      have y2 := hB2.f2
      by_cases hq : f1.q = 0
      · have hq' := Lib.hid hq
        clear hq
        go_wp2_with fail
        refine (divF_zero fa2 fb2 fit0 fit1 (by omega) hq'.out).mono ?_
        rintro en w3 ⟨rfl, b3⟩
        obtain ⟨y3', hy3, by3, hlt3, hZ3⟩ := boxed w3 #[.bool false, .slice none 0 0, .slice none 0 0] 25
        have za3 := hZ3.f0
        have zb3 := hZ3.f1
        have zc3 := hZ3.f2
        have zf30 := hZ3.free 0
        have zf31 := hZ3.free 1
        have zf32 := hZ3.free 2
        have zs30 := hZ3.same (i := 0) (u := .bool false) rfl
        have zs31 := hZ3.same (i := 1) (u := .slice none 0 0) rfl
        have zs32 := hZ3.same (i := 2) (u := .slice none 0 0) rfl
        have b03 := b02.trans (b3.mono b02.size)
        have b04 := b03.trans (by3.mono b03.size)
        have hA4 := (hA2.keep b3).keep by3
        have hB4 := (hB2.keep b3).keep by3
        have fa4 := (fa2.below b3).below by3
        have fb4 := (fb2.below b3).below by3
        clear x0 x1 x2 y0 y1 y2
        have x0 := hA4.f0
        have x1 := hA4.f1
        have x2 := hA4.f2
        have y0 := hB4.f0
        have y1 := hB4.f1
        have y2 := hB4.f2
        go_wp2_with fail
        refine (refDivF_zero fa4 fb4 fit0 fit1 (by omega) hq'.out).mono ?_
        rintro en w5 ⟨rfl, b5⟩
        clear za3 zb3 zc3 zf30 zf31 zf32 zs30 zs31 zs32
        obtain ⟨y5', hy5, by5, hlt5, hZ5⟩ := boxed w5 #[.bool false, .slice none 0 0, .slice none 0 0] 25
        have za5 := hZ5.f0
        have zb5 := hZ5.f1
        have zc5 := hZ5.f2
        have zf50 := hZ5.free 0
        have zf51 := hZ5.free 1
        have zf52 := hZ5.free 2
        have zs50 := hZ5.same (i := 0) (u := .bool false) rfl
        have zs51 := hZ5.same (i := 1) (u := .slice none 0 0) rfl
        have zs52 := hZ5.same (i := 2) (u := .slice none 0 0) rfl
        have b05 := b04.trans (b5.mono b04.size)
        have b06 := b05.trans (by5.mono b05.size)
        have hA6 := (hA4.keep b5).keep by5
        have hB6 := (hB4.keep b5).keep by5
        have fa6 := (fa4.below b5).below by5
        have fb6 := (fb4.below b5).below by5
        have hZ36 := (hZ3.keep b5).keep by5
        clear x0 x1 x2 y0 y1 y2
        have hS : ∀ w', Below y5'.heap.size y5' w' → w'.cell? ⟨w.heap.size, 0, none⟩ = some (.bool f0.neg) ∧ w'.cell? ⟨w.heap.size, 1, none⟩ = some (.slice f0.a f0.la.length f0.ca) ∧ w'.cell? ⟨w.heap.size, 2, none⟩ = some (.slice f0.b f0.lb.length f0.cb) ∧ w'.cell? ⟨wa.heap.size, 0, none⟩ = some (.bool f1.neg) ∧ w'.cell? ⟨wa.heap.size, 1, none⟩ = some (.slice f1.a f1.la.length f1.ca) ∧ w'.cell? ⟨wa.heap.size, 2, none⟩ = some (.slice f1.b f1.lb.length f1.cb) ∧ Below y5'.heap.size y5' w' := fun w' o => ⟨(hA6.keep o).f0, (hA6.keep o).f1, (hA6.keep o).f2, (hB6.keep o).f0, (hB6.keep o).f1, (hB6.keep o).f2, o⟩
        have dS : Below y5'.heap.size y5' y5'.drew := (Below.refl _ _).drew
        go_wp2_with fail
        clear za5 zb5 zc5 zf50 zf51 zf52 zs50 zs51 zs52
        refine wp_region_noPanic ?_
        refine wp_region_held_drew (S := fun w' => w'.cell? ⟨w.heap.size, 0, none⟩ = some (.bool f0.neg) ∧ w'.cell? ⟨w.heap.size, 1, none⟩ = some (.slice f0.a f0.la.length f0.ca) ∧ w'.cell? ⟨w.heap.size, 2, none⟩ = some (.slice f0.b f0.lb.length f0.cb) ∧ w'.cell? ⟨wa.heap.size, 0, none⟩ = some (.bool f1.neg) ∧ w'.cell? ⟨wa.heap.size, 1, none⟩ = some (.slice f1.a f1.la.length f1.ca) ∧ w'.cell? ⟨wa.heap.size, 2, none⟩ = some (.slice f1.b f1.lb.length f1.cb) ∧ Below y5'.heap.size y5' w') (by kernel_rfl) (hS _ dS) (fun hHeld => ?_)
        refine wpAnyH_take (i := 0) (v := ?_) rfl (by kernel_rfl) (by kernel_rfl) (by kernel_rfl) (fun _ _ _ h => h) (Or.inl ⟨by rfl, ?_⟩) hHeld ?_
        rotate_left
        · (intro w hSw; (try dsimp only at hSw); go_simp)
          all_goals with_reducible rfl
        try simp only [Act.put, List.setIfInBounds_toArray, List.set_cons_zero, List.set_cons_succ]
        refine wpAnyH_take (i := 1) (v := ?_) rfl (by kernel_rfl) (by kernel_rfl) (by kernel_rfl) (fun _ _ _ h => h) (Or.inl ⟨by rfl, ?_⟩) hHeld ?_
        rotate_left
        · (intro w hSw; (try dsimp only at hSw); go_simp)
          all_goals with_reducible rfl
        try simp only [Act.put, List.setIfInBounds_toArray, List.set_cons_zero, List.set_cons_succ]
        refine wpAnyH_take (i := 2) (v := ?_) rfl (by kernel_rfl) (by kernel_rfl) (by kernel_rfl) (fun _ _ _ h => h) (Or.inl ⟨by rfl, ?_⟩) hHeld ?_
        rotate_left
        · (intro w hSw; (try dsimp only at hSw); go_simp)
          all_goals with_reducible rfl
        try simp only [Act.put, List.setIfInBounds_toArray, List.set_cons_zero, List.set_cons_succ]
        refine wpAnyH_take (i := 3) (v := ?_) rfl (by kernel_rfl) (by kernel_rfl) (by kernel_rfl) (fun _ _ _ h => h) (Or.inl ⟨by rfl, ?_⟩) hHeld ?_
        rotate_left
        · (intro w hSw; (try dsimp only at hSw); go_simp)
          all_goals with_reducible rfl
        try simp only [Act.put, List.setIfInBounds_toArray, List.set_cons_zero, List.set_cons_succ]
        refine wpAnyH_take (i := 4) (v := ?_) rfl (by kernel_rfl) (by kernel_rfl) (by kernel_rfl) (fun _ _ _ h => h) (Or.inl ⟨by rfl, ?_⟩) hHeld ?_
        rotate_left
        · (intro w hSw; (try dsimp only at hSw); go_simp)
          all_goals with_reducible rfl
        try simp only [Act.put, List.setIfInBounds_toArray, List.set_cons_zero, List.set_cons_succ]
        refine wpAnyH_take (i := 5) (v := ?_) rfl (by kernel_rfl) (by kernel_rfl) (by kernel_rfl) (fun _ _ _ h => h) (Or.inl ⟨by rfl, ?_⟩) hHeld ?_
        rotate_left
        · (intro w hSw; (try dsimp only at hSw); go_simp)
          all_goals with_reducible rfl
        try simp only [Act.put, List.setIfInBounds_toArray, List.set_cons_zero, List.set_cons_succ]
        refine wpAnyH_take (i := 6) (v := ?_) rfl (by kernel_rfl) (by kernel_rfl) (by kernel_rfl) (fun _ _ _ h => h) (Or.inl ⟨by rfl, ?_⟩) hHeld ?_
        rotate_left
        · (intro w hSw; (try dsimp only at hSw); go_simp)
          all_goals with_reducible rfl
        try simp only [Act.put, List.setIfInBounds_toArray, List.set_cons_zero, List.set_cons_succ]
        refine wpAnyH_take (i := 7) (v := undef) rfl (by kernel_rfl) (by kernel_rfl) (by kernel_rfl) (fun _ _ _ h => h) (Or.inr ⟨by kernel_rfl, rfl⟩) hHeld ?_
        try simp only [Act.put, List.setIfInBounds_toArray, List.set_cons_zero, List.set_cons_succ]
        refine wpAnyH_take (i := 8) (v := undef) rfl (by kernel_rfl) (by kernel_rfl) (by kernel_rfl) (fun _ _ _ h => h) (Or.inr ⟨by kernel_rfl, rfl⟩) hHeld ?_
        try simp only [Act.put, List.setIfInBounds_toArray, List.set_cons_zero, List.set_cons_succ]
        refine wpAnyH_ready (rs := [9]) (by kernel_rfl) (by simp) ?_
        refine AllReadyH.cons rfl (fun K hK => ?_) AllReadyH.nil
        go_simp
        refine hK.out _ _ (hS _ (by assumption)) (fun hHeld => ?_)
        clear hK K
        try simp only [Act.put, List.setIfInBounds_toArray, List.set_cons_zero, List.set_cons_succ]
        refine wpAnyH_take (i := 10) (v := undef) rfl (by kernel_rfl) (by kernel_rfl) (by kernel_rfl) (fun _ _ _ h => h) (Or.inr ⟨by kernel_rfl, rfl⟩) hHeld ?_
        try simp only [Act.put, List.setIfInBounds_toArray, List.set_cons_zero, List.set_cons_succ]
        refine wpAnyH_take (i := 11) (v := ?_) rfl (by kernel_rfl) (by kernel_rfl) (by kernel_rfl) (fun _ _ _ h => h) (Or.inl ⟨by rfl, ?_⟩) hHeld ?_
        rotate_left
        · (intro w hSw; (try dsimp only at hSw); go_simp)
          all_goals with_reducible rfl
        try simp only [Act.put, List.setIfInBounds_toArray, List.set_cons_zero, List.set_cons_succ]
        refine wpAnyH_take (i := 12) (v := ?_) rfl (by kernel_rfl) (by kernel_rfl) (by kernel_rfl) (fun _ _ _ h => h) (Or.inl ⟨by rfl, ?_⟩) hHeld ?_
        rotate_left
        · (intro w hSw; (try dsimp only at hSw); go_simp)
          all_goals with_reducible rfl
        try simp only [Act.put, List.setIfInBounds_toArray, List.set_cons_zero, List.set_cons_succ]
        refine wpAnyH_take (i := 13) (v := ?_) rfl (by kernel_rfl) (by kernel_rfl) (by kernel_rfl) (fun _ _ _ h => h) (Or.inl ⟨by rfl, ?_⟩) hHeld ?_
        rotate_left
        · (intro w hSw; (try dsimp only at hSw); go_simp)
          all_goals with_reducible rfl
        try simp only [Act.put, List.setIfInBounds_toArray, List.set_cons_zero, List.set_cons_succ]
        refine wpAnyH_take (i := 14) (v := ?_) rfl (by kernel_rfl) (by kernel_rfl) (by kernel_rfl) (fun _ _ _ h => h) (Or.inl ⟨by rfl, ?_⟩) hHeld ?_
        rotate_left
        · (intro w hSw; (try dsimp only at hSw); go_simp)
          all_goals with_reducible rfl
        try simp only [Act.put, List.setIfInBounds_toArray, List.set_cons_zero, List.set_cons_succ]
        refine wpAnyH_take (i := 15) (v := ?_) rfl (by kernel_rfl) (by kernel_rfl) (by kernel_rfl) (fun _ _ _ h => h) (Or.inl ⟨by rfl, ?_⟩) hHeld ?_
        rotate_left
        · (intro w hSw; (try dsimp only at hSw); go_simp)
          all_goals with_reducible rfl
        try simp only [Act.put, List.setIfInBounds_toArray, List.set_cons_zero, List.set_cons_succ]
        refine wpAnyH_take (i := 17) (v := ?_) rfl (by kernel_rfl) (by kernel_rfl) (by kernel_rfl) (fun _ _ _ h => h) (Or.inl ⟨by rfl, ?_⟩) hHeld ?_
        rotate_left
        · (intro w hSw; (try dsimp only at hSw); go_simp)
          all_goals with_reducible rfl
        try simp only [Act.put, List.setIfInBounds_toArray, List.set_cons_zero, List.set_cons_succ]
        refine wpAnyH_take (i := 18) (v := ?_) rfl (by kernel_rfl) (by kernel_rfl) (by kernel_rfl) (fun _ _ _ h => h) (Or.inl ⟨by rfl, ?_⟩) hHeld ?_
        rotate_left
        · (intro w hSw; (try dsimp only at hSw); go_simp)
          all_goals with_reducible rfl
        try simp only [Act.put, List.setIfInBounds_toArray, List.set_cons_zero, List.set_cons_succ]
        refine wpAnyH_ready (rs := [16]) (by kernel_rfl) (by simp) ?_
        refine AllReadyH.cons rfl (fun K hK => ?_) AllReadyH.nil
        go_simp
        (go_at_call 37; go_split_ands; (with_reducible refine (cmpF_any (fa6.below (by assumption)) (fb6.below (by assumption)) fit0 fit1 (by omega) (by omega)).mono ?_); rintro en v1 ⟨rfl, e1⟩; rw [hc.out]; have o1 := below_step (show Below y5'.heap.size y5' _ by assumption) e1)
        go_wp2_with fail
        refine hK.out _ _ (hS _ (by assumption)) (fun hHeld => ?_)
        clear hK K
        try simp only [Act.put, List.setIfInBounds_toArray, List.set_cons_zero, List.set_cons_succ]
        refine wpAnyH_ready (rs := [19]) (by kernel_rfl) (by simp) ?_
        refine AllReadyH.cons rfl (fun K hK => ?_) AllReadyH.nil
        go_simp
        (go_at_call 38; go_split_ands; (with_reducible refine (refCmpF_any (fa6.below (by assumption)) (fb6.below (by assumption)) fit0 fit1 (by omega)).mono ?_); rintro en v2 ⟨rfl, e2⟩; rw [hc.out]; have o2 := below_step (show Below y5'.heap.size y5' _ by assumption) e2)
        go_wp2_with fail
        refine hK.out _ _ (hS _ (by assumption)) (fun hHeld => ?_)
        clear hK K
        try simp only [Act.put, List.setIfInBounds_toArray, List.set_cons_zero, List.set_cons_succ]
        refine wpAnyH_take (i := 20) (v := ?_) rfl (by kernel_rfl) (by kernel_rfl) (by kernel_rfl) (fun _ _ _ h => h) (Or.inl ⟨by rfl, ?_⟩) hHeld ?_
        rotate_left
        · (intro w hSw; (try dsimp only at hSw); go_simp)
          all_goals with_reducible rfl
        try simp only [Act.put, List.setIfInBounds_toArray, List.set_cons_zero, List.set_cons_succ]
        refine wpAnyH_take (i := 21) (v := ?_) rfl (by kernel_rfl) (by kernel_rfl) (by kernel_rfl) (fun _ _ _ h => h) (Or.inl ⟨by rfl, ?_⟩) hHeld ?_
        rotate_left
        · (intro w hSw; (try dsimp only at hSw); go_simp)
          all_goals with_reducible rfl
        try simp only [Act.put, List.setIfInBounds_toArray, List.set_cons_zero, List.set_cons_succ]
        refine wpAnyH_take (i := 22) (v := ?_) rfl (by kernel_rfl) (by kernel_rfl) (by kernel_rfl) (fun _ _ _ h => h) (Or.inl ⟨by rfl, ?_⟩) hHeld ?_
        rotate_left
        · (intro w hSw; (try dsimp only at hSw); go_simp)
          all_goals with_reducible rfl
        try simp only [Act.put, List.setIfInBounds_toArray, List.set_cons_zero, List.set_cons_succ]
        refine wpAnyH_take (i := 23) (v := ?_) rfl (by kernel_rfl) (by kernel_rfl) (by kernel_rfl) (fun _ _ _ h => h) (Or.inl ⟨by rfl, ?_⟩) hHeld ?_
        rotate_left
        · (intro w hSw; (try dsimp only at hSw); go_simp)
          all_goals with_reducible rfl
        try simp only [Act.put, List.setIfInBounds_toArray, List.set_cons_zero, List.set_cons_succ]
        refine wpAnyH_take (i := 25) (v := ?_) rfl (by kernel_rfl) (by kernel_rfl) (by kernel_rfl) (fun _ _ _ h => h) (Or.inl ⟨by rfl, ?_⟩) hHeld ?_
        rotate_left
        · (intro w hSw; (try dsimp only at hSw); go_simp)
          all_goals with_reducible rfl
        try simp only [Act.put, List.setIfInBounds_toArray, List.set_cons_zero, List.set_cons_succ]
        refine wpAnyH_ready (rs := [24]) (by kernel_rfl) (by simp) ?_
        refine AllReadyH.cons rfl (fun K hK => ?_) AllReadyH.nil
        go_simp
        (go_at_call 39; go_split_ands; (with_reducible refine (sign_any (fa6.below (by assumption))).mono ?_); rintro en v3 ⟨rfl, e3⟩; rw [hsg.out]; have o3 := below_step (show Below y5'.heap.size y5' _ by assumption) e3)
        go_wp2_with fail
        refine hK.out _ _ (hS _ (by assumption)) (fun hHeld => ?_)
        clear hK K
        try simp only [Act.put, List.setIfInBounds_toArray, List.set_cons_zero, List.set_cons_succ]
        refine wpAnyH_ready (rs := [26]) (by kernel_rfl) (by simp) ?_
        refine AllReadyH.cons rfl (fun K hK => ?_) AllReadyH.nil
        go_simp
        (go_at_call 34; go_split_ands; (with_reducible refine (refSign_any (fa6.below (by assumption))).mono ?_); rintro en v4 ⟨rfl, e4⟩; rw [hsg.out]; have o4 := below_step (show Below y5'.heap.size y5' _ by assumption) e4)
        go_wp2_with fail
        refine hK.out _ _ (hS _ (by assumption)) (fun hHeld => ?_)
        clear hK K
        try simp only [Act.put, List.setIfInBounds_toArray, List.set_cons_zero, List.set_cons_succ]
        refine wpAnyH_take (i := 27) (v := ?_) rfl (by kernel_rfl) (by kernel_rfl) (by kernel_rfl) (fun _ _ _ h => h) (Or.inl ⟨by rfl, ?_⟩) hHeld ?_
        rotate_left
        · (intro w hSw; (try dsimp only at hSw); go_simp)
          all_goals with_reducible rfl
        try simp only [Act.put, List.setIfInBounds_toArray, List.set_cons_zero, List.set_cons_succ]
        refine wpAnyH_take (i := 28) (v := ?_) rfl (by kernel_rfl) (by kernel_rfl) (by kernel_rfl) (fun _ _ _ h => h) (Or.inl ⟨by rfl, ?_⟩) hHeld ?_
        rotate_left
        · (intro w hSw; (try dsimp only at hSw); go_simp)
          all_goals with_reducible rfl
        try simp only [Act.put, List.setIfInBounds_toArray, List.set_cons_zero, List.set_cons_succ]
        refine wpAnyH_take (i := 29) (v := ?_) rfl (by kernel_rfl) (by kernel_rfl) (by kernel_rfl) (fun _ _ _ h => h) (Or.inl ⟨by rfl, ?_⟩) hHeld ?_
        rotate_left
        · (intro w hSw; (try dsimp only at hSw); go_simp)
          all_goals with_reducible rfl
        try simp only [Act.put, List.setIfInBounds_toArray, List.set_cons_zero, List.set_cons_succ]
        refine wpAnyH_take (i := 30) (v := ?_) rfl (by kernel_rfl) (by kernel_rfl) (by kernel_rfl) (fun _ _ _ h => h) (Or.inl ⟨by rfl, ?_⟩) hHeld ?_
        rotate_left
        · (intro w hSw; (try dsimp only at hSw); go_simp)
          all_goals with_reducible rfl
        try simp only [Act.put, List.setIfInBounds_toArray, List.set_cons_zero, List.set_cons_succ]
        refine wpAnyH_take (i := 32) (v := ?_) rfl (by kernel_rfl) (by kernel_rfl) (by kernel_rfl) (fun _ _ _ h => h) (Or.inl ⟨by rfl, ?_⟩) hHeld ?_
        rotate_left
        · (intro w hSw; (try dsimp only at hSw); go_simp)
          all_goals with_reducible rfl
        try simp only [Act.put, List.setIfInBounds_toArray, List.set_cons_zero, List.set_cons_succ]
        refine wpAnyH_ready (rs := [31]) (by kernel_rfl) (by simp) ?_
        refine AllReadyH.cons rfl (fun K hK => ?_) AllReadyH.nil
        go_simp
        (go_at_call 32; go_split_ands; (with_reducible refine (neg_any (fa6.below (by assumption)) fit0 (by omega)).mono ?_); rintro en v5 ⟨vn, rfl, fn, e5⟩; have o5 := below_step (show Below y5'.heap.size y5' _ by assumption) e5)
        go_wp2_with fail
        refine hK.out _ _ (hS _ (by assumption)) (fun hHeld => ?_)
        clear hK K
        try simp only [Act.put, List.setIfInBounds_toArray, List.set_cons_zero, List.set_cons_succ]
        refine wpAnyH_ready (rs := [33]) (by kernel_rfl) (by simp) ?_
        refine AllReadyH.cons rfl (fun K hK => ?_) AllReadyH.nil
        go_simp
        (go_at_call 40; go_split_ands; (with_reducible refine (refNeg_any (fa6.below (by assumption))).mono ?_); rintro en v6 ⟨vm, rfl, fm, e6⟩; have o6 := below_step (show Below y5'.heap.size y5' _ by assumption) e6)
        go_wp2_with fail
        refine hK.out _ _ (hS _ (by assumption)) (fun hHeld => ?_)
        clear hK K
        try simp only [Act.put, List.setIfInBounds_toArray, List.set_cons_zero, List.set_cons_succ]
        refine wpAnyH_ready (rs := [34]) (by kernel_rfl) (by simp) ?_
        refine AllReadyH.cons rfl (fun K hK => ?_) AllReadyH.nil
        go_simp
        (go_at_call 16; go_split_ands; (with_reducible refine (sameQ_any (fn.below e6) fm).mono ?_); rintro en v7 ⟨rfl, e7⟩; rw [eq_self]; have o7 := below_step (show Below y5'.heap.size y5' _ by assumption) e7)
        go_wp2_with fail
        refine hK.out _ _ (hS _ (by assumption)) (fun hHeld => ?_)
        clear hK K
        try simp only [Act.put, List.setIfInBounds_toArray, List.set_cons_zero, List.set_cons_succ]
        refine wpAnyH_take (i := 35) (v := ?_) rfl (by kernel_rfl) (by kernel_rfl) (by kernel_rfl) (fun _ _ _ h => h) (Or.inl ⟨by rfl, ?_⟩) hHeld ?_
        rotate_left
        · (intro w hSw; (try dsimp only at hSw); go_simp)
          all_goals with_reducible rfl
        try simp only [Act.put, List.setIfInBounds_toArray, List.set_cons_zero, List.set_cons_succ]
        refine wpAnyH_take (i := 36) (v := ?_) rfl (by kernel_rfl) (by kernel_rfl) (by kernel_rfl) (fun _ _ _ h => h) (Or.inl ⟨by rfl, ?_⟩) hHeld ?_
        rotate_left
        · (intro w hSw; (try dsimp only at hSw); go_simp)
          all_goals with_reducible rfl
        try simp only [Act.put, List.setIfInBounds_toArray, List.set_cons_zero, List.set_cons_succ]
        refine wpAnyH_done (by kernel_rfl) ?_ _
        refine NoPanic.normal ?_
        try go_simp
        clear hHeld hS dS
        all_goals
          have hA8 := hA6.keep o7
          have hB8 := hB6.keep o7
          have fa8 := fa6.below o7
          have fb8 := fb6.below o7
          have b08 := b06.trans (o7.mono b06.size)
          have hS : ∀ w', Below v7.heap.size v7 w' → w'.cell? ⟨w.heap.size, 0, none⟩ = some (.bool f0.neg) ∧ w'.cell? ⟨w.heap.size, 1, none⟩ = some (.slice f0.a f0.la.length f0.ca) ∧ w'.cell? ⟨w.heap.size, 2, none⟩ = some (.slice f0.b f0.lb.length f0.cb) ∧ w'.cell? ⟨wa.heap.size, 0, none⟩ = some (.bool f1.neg) ∧ w'.cell? ⟨wa.heap.size, 1, none⟩ = some (.slice f1.a f1.la.length f1.ca) ∧ w'.cell? ⟨wa.heap.size, 2, none⟩ = some (.slice f1.b f1.lb.length f1.cb) ∧ Below v7.heap.size v7 w' := fun w' o => ⟨(hA8.keep o).f0, (hA8.keep o).f1, (hA8.keep o).f2, (hB8.keep o).f0, (hB8.keep o).f1, (hB8.keep o).f2, o⟩
          have dS : Below v7.heap.size v7 v7.drew := (Below.refl _ _).drew
          go_wp2_with fail
          go_region_held3 (fun w' => w'.cell? ⟨w.heap.size, 0, none⟩ = some (.bool f0.neg) ∧ w'.cell? ⟨w.heap.size, 1, none⟩ = some (.slice f0.a f0.la.length f0.ca) ∧ w'.cell? ⟨w.heap.size, 2, none⟩ = some (.slice f0.b f0.lb.length f0.cb) ∧ w'.cell? ⟨wa.heap.size, 0, none⟩ = some (.bool f1.neg) ∧ w'.cell? ⟨wa.heap.size, 1, none⟩ = some (.slice f1.a f1.la.length f1.ca) ∧ w'.cell? ⟨wa.heap.size, 2, none⟩ = some (.slice f1.b f1.lb.length f1.cb) ∧ Below v7.heap.size v7 w') (((try go_split_ands); (try dsimp only); exact hS _ (by assumption))) (first
            | (go_at_call 28; go_split_ands; (with_reducible refine (addF_any (fa8.below (by assumption)) (fb8.below (by assumption)) fit0 fit1 (by omega)).mono ?_); rintro en u1 ⟨va, rfl, ga, d1⟩; have p1 := below_step (show Below v7.heap.size v7 _ by assumption) d1)
            | (go_at_call 41; go_split_ands; (with_reducible refine (refAddF_any (fa8.below (by assumption)) (fb8.below (by assumption)) fit0 fit1 (by omega)).mono ?_); rintro en u2 ⟨vb, rfl, gb, d2⟩; have p2 := below_step (show Below v7.heap.size v7 _ by assumption) d2)
            | (go_at_call 16; go_split_ands; (with_reducible refine (sameQ_any (ga.below d2) gb).mono ?_); rintro en u3 ⟨rfl, d3⟩; rw [eq_self]; have p3 := below_step (show Below v7.heap.size v7 _ by assumption) d3)
            | (go_at_call 31; go_split_ands; (with_reducible refine (subF_any (fa8.below (by assumption)) (fb8.below (by assumption)) fit0 fit1 (by omega)).mono ?_); rintro en u4 ⟨vc, rfl, gc, d4⟩; have p4 := below_step (show Below v7.heap.size v7 _ by assumption) d4)
            | (go_at_call 42; go_split_ands; (with_reducible refine (refSubF_any (fa8.below (by assumption)) (fb8.below (by assumption)) fit0 fit1 (by omega)).mono ?_); rintro en u5 ⟨vd, rfl, gd, d5⟩; have p5 := below_step (show Below v7.heap.size v7 _ by assumption) d5)
            | (go_at_call 16; go_split_ands; (with_reducible refine (sameQ_any (gc.below d5) gd).mono ?_); rintro en u6 ⟨rfl, d6⟩; rw [eq_self]; have p6 := below_step (show Below v7.heap.size v7 _ by assumption) d6)
            | (go_at_call 29; go_split_ands; (with_reducible refine (mulF_any (fa8.below (by assumption)) (fb8.below (by assumption)) fit0 fit1 (by omega)).mono ?_); rintro en u7 ⟨ve, rfl, ge, d7⟩; have p7 := below_step (show Below v7.heap.size v7 _ by assumption) d7)
            | (go_at_call 43; go_split_ands; (with_reducible refine (refMulF_any (fa8.below (by assumption)) (fb8.below (by assumption)) fit0 fit1 (by omega)).mono ?_); rintro en u8 ⟨vf, rfl, gf, d8⟩; have p8 := below_step (show Below v7.heap.size v7 _ by assumption) d8)
            | (go_at_call 16; go_split_ands; (with_reducible refine (sameQ_any (ge.below d8) gf).mono ?_); rintro en u9 ⟨rfl, d9⟩; rw [eq_self]; have p9 := below_step (show Below v7.heap.size v7 _ by assumption) d9)
            | (go_at_call 11; go_split_ands; (with_reducible refine (awake_any _).mono ?_); rintro en u10 ⟨rfl, d10⟩; have p10 := below_step (show Below v7.heap.size v7 _ by assumption) d10))
          go_wp2
          go_ret
          exact ⟨rfl, b08.trans (p10.mono b08.size)⟩
      · go_wp2_with fail
        refine (divF_any fa2 fb2 fit0 fit1 (by omega) hq).mono ?_
        rintro en w3 ⟨v3, rfl, ⟨n3, A3, ca3, la3, B3, cb3, lb3, rfl, na3, nb3, iq3⟩, b3⟩
        have fv3 : FV w3 (fracV n3 A3 la3.length ca3 B3 lb3.length cb3) (f0.q / f1.q) := ⟨_, _, _, _, _, _, _, rfl, na3, nb3, iq3⟩
        clear na3 nb3 iq3
        obtain ⟨y3', hy3, by3, hlt3, hX3⟩ := boxed w3 #[.bool n3, .slice A3 la3.length ca3, .slice B3 lb3.length cb3] 25
        have b03 := b02.trans (b3.mono b02.size)
        have b04 := b03.trans (by3.mono b03.size)
        have hA4 := (hA2.keep b3).keep by3
        have hB4 := (hB2.keep b3).keep by3
        have fa4 := (fa2.below b3).below by3
        have fb4 := (fb2.below b3).below by3
        clear x0 x1 x2 y0 y1 y2
        have x0 := hA4.f0
        have x1 := hA4.f1
        have x2 := hA4.f2
        have y0 := hB4.f0
        have y1 := hB4.f1
        have y2 := hB4.f2
        go_wp2_with fail
        refine (refDivF_any fa4 fb4 fit0 fit1 (by omega) hq).mono ?_
        rintro en w5 ⟨v5, rfl, ⟨n5, A5, ca5, la5, B5, cb5, lb5, rfl, na5, nb5, iq5⟩, b5⟩
        have fv5 : FV w5 (fracV n5 A5 la5.length ca5 B5 lb5.length cb5) (f0.q / f1.q) := ⟨_, _, _, _, _, _, _, rfl, na5, nb5, iq5⟩
        clear na5 nb5 iq5
        obtain ⟨y5', hy5, by5, hlt5, hX5⟩ := boxed w5 #[.bool n5, .slice A5 la5.length ca5, .slice B5 lb5.length cb5] 25
        have b05 := b04.trans (b5.mono b04.size)
        have b06 := b05.trans (by5.mono b05.size)
        have hA6 := (hA4.keep b5).keep by5
        have hB6 := (hB4.keep b5).keep by5
        have fa6 := (fa4.below b5).below by5
        have fb6 := (fb4.below b5).below by5
        have hX36 := (hX3.keep b5).keep by5
        have fv36 := ((fv3.below by3).below b5).below by5
        have fv56 := fv5.below by5
        clear x0 x1 x2 y0 y1 y2
        have hS : ∀ w', Below y5'.heap.size y5' w' → w'.cell? ⟨w.heap.size, 0, none⟩ = some (.bool f0.neg) ∧ w'.cell? ⟨w.heap.size, 1, none⟩ = some (.slice f0.a f0.la.length f0.ca) ∧ w'.cell? ⟨w.heap.size, 2, none⟩ = some (.slice f0.b f0.lb.length f0.cb) ∧ w'.cell? ⟨wa.heap.size, 0, none⟩ = some (.bool f1.neg) ∧ w'.cell? ⟨wa.heap.size, 1, none⟩ = some (.slice f1.a f1.la.length f1.ca) ∧ w'.cell? ⟨wa.heap.size, 2, none⟩ = some (.slice f1.b f1.lb.length f1.cb) ∧ w'.cell? ⟨w3.heap.size, 0, none⟩ = some (.bool n3) ∧ w'.cell? ⟨w3.heap.size, 1, none⟩ = some (.slice A3 la3.length ca3) ∧ w'.cell? ⟨w3.heap.size, 2, none⟩ = some (.slice B3 lb3.length cb3) ∧ w'.cell? ⟨w5.heap.size, 0, none⟩ = some (.bool n5) ∧ w'.cell? ⟨w5.heap.size, 1, none⟩ = some (.slice A5 la5.length ca5) ∧ w'.cell? ⟨w5.heap.size, 2, none⟩ = some (.slice B5 lb5.length cb5) ∧ Below y5'.heap.size y5' w' := fun w' o => ⟨(hA6.keep o).f0, (hA6.keep o).f1, (hA6.keep o).f2, (hB6.keep o).f0, (hB6.keep o).f1, (hB6.keep o).f2, (hX36.keep o).f0, (hX36.keep o).f1, (hX36.keep o).f2, (hX5.keep o).f0, (hX5.keep o).f1, (hX5.keep o).f2, o⟩
        have dS : Below y5'.heap.size y5' y5'.drew := (Below.refl _ _).drew
        go_wp2_with fail
        go_region_held3 (fun w' => w'.cell? ⟨w.heap.size, 0, none⟩ = some (.bool f0.neg) ∧ w'.cell? ⟨w.heap.size, 1, none⟩ = some (.slice f0.a f0.la.length f0.ca) ∧ w'.cell? ⟨w.heap.size, 2, none⟩ = some (.slice f0.b f0.lb.length f0.cb) ∧ w'.cell? ⟨wa.heap.size, 0, none⟩ = some (.bool f1.neg) ∧ w'.cell? ⟨wa.heap.size, 1, none⟩ = some (.slice f1.a f1.la.length f1.ca) ∧ w'.cell? ⟨wa.heap.size, 2, none⟩ = some (.slice f1.b f1.lb.length f1.cb) ∧ w'.cell? ⟨w3.heap.size, 0, none⟩ = some (.bool n3) ∧ w'.cell? ⟨w3.heap.size, 1, none⟩ = some (.slice A3 la3.length ca3) ∧ w'.cell? ⟨w3.heap.size, 2, none⟩ = some (.slice B3 lb3.length cb3) ∧ w'.cell? ⟨w5.heap.size, 0, none⟩ = some (.bool n5) ∧ w'.cell? ⟨w5.heap.size, 1, none⟩ = some (.slice A5 la5.length ca5) ∧ w'.cell? ⟨w5.heap.size, 2, none⟩ = some (.slice B5 lb5.length cb5) ∧ Below y5'.heap.size y5' w') (((try go_split_ands); (try dsimp only); exact hS _ (by assumption))) (first
          | (go_at_call 16; go_split_ands; (with_reducible refine (sameQ_any (fv36.below (by assumption)) (fv56.below (by assumption))).mono ?_); rintro en v0 ⟨rfl, e0⟩; rw [eq_self]; have o0 := below_step (show Below y5'.heap.size y5' _ by assumption) e0)
          | (go_at_call 37; go_split_ands; (with_reducible refine (cmpF_any (fa6.below (by assumption)) (fb6.below (by assumption)) fit0 fit1 (by omega) (by omega)).mono ?_); rintro en v1 ⟨rfl, e1⟩; rw [hc.out]; have o1 := below_step (show Below y5'.heap.size y5' _ by assumption) e1)
          | (go_at_call 38; go_split_ands; (with_reducible refine (refCmpF_any (fa6.below (by assumption)) (fb6.below (by assumption)) fit0 fit1 (by omega)).mono ?_); rintro en v2 ⟨rfl, e2⟩; rw [hc.out]; have o2 := below_step (show Below y5'.heap.size y5' _ by assumption) e2)
          | (go_at_call 39; go_split_ands; (with_reducible refine (sign_any (fa6.below (by assumption))).mono ?_); rintro en v3 ⟨rfl, e3⟩; rw [hsg.out]; have o3 := below_step (show Below y5'.heap.size y5' _ by assumption) e3)
          | (go_at_call 34; go_split_ands; (with_reducible refine (refSign_any (fa6.below (by assumption))).mono ?_); rintro en v4 ⟨rfl, e4⟩; rw [hsg.out]; have o4 := below_step (show Below y5'.heap.size y5' _ by assumption) e4)
          | (go_at_call 32; go_split_ands; (with_reducible refine (neg_any (fa6.below (by assumption)) fit0 (by omega)).mono ?_); rintro en v5 ⟨vn, rfl, fn, e5⟩; have o5 := below_step (show Below y5'.heap.size y5' _ by assumption) e5)
          | (go_at_call 40; go_split_ands; (with_reducible refine (refNeg_any (fa6.below (by assumption))).mono ?_); rintro en v6 ⟨vm, rfl, fm, e6⟩; have o6 := below_step (show Below y5'.heap.size y5' _ by assumption) e6)
          | (go_at_call 16; go_split_ands; (with_reducible refine (sameQ_any (fn.below e6) fm).mono ?_); rintro en v7 ⟨rfl, e7⟩; rw [eq_self]; have o7 := below_step (show Below y5'.heap.size y5' _ by assumption) e7))
        have hA8 := hA6.keep o7
        have hB8 := hB6.keep o7
        have fa8 := fa6.below o7
        have fb8 := fb6.below o7
        have b08 := b06.trans (o7.mono b06.size)
        clear hS dS
        have hS : ∀ w', Below v7.heap.size v7 w' → w'.cell? ⟨w.heap.size, 0, none⟩ = some (.bool f0.neg) ∧ w'.cell? ⟨w.heap.size, 1, none⟩ = some (.slice f0.a f0.la.length f0.ca) ∧ w'.cell? ⟨w.heap.size, 2, none⟩ = some (.slice f0.b f0.lb.length f0.cb) ∧ w'.cell? ⟨wa.heap.size, 0, none⟩ = some (.bool f1.neg) ∧ w'.cell? ⟨wa.heap.size, 1, none⟩ = some (.slice f1.a f1.la.length f1.ca) ∧ w'.cell? ⟨wa.heap.size, 2, none⟩ = some (.slice f1.b f1.lb.length f1.cb) ∧ Below v7.heap.size v7 w' := fun w' o => ⟨(hA8.keep o).f0, (hA8.keep o).f1, (hA8.keep o).f2, (hB8.keep o).f0, (hB8.keep o).f1, (hB8.keep o).f2, o⟩
        have dS : Below v7.heap.size v7 v7.drew := (Below.refl _ _).drew
        go_wp2_with fail
        go_region_held3 (fun w' => w'.cell? ⟨w.heap.size, 0, none⟩ = some (.bool f0.neg) ∧ w'.cell? ⟨w.heap.size, 1, none⟩ = some (.slice f0.a f0.la.length f0.ca) ∧ w'.cell? ⟨w.heap.size, 2, none⟩ = some (.slice f0.b f0.lb.length f0.cb) ∧ w'.cell? ⟨wa.heap.size, 0, none⟩ = some (.bool f1.neg) ∧ w'.cell? ⟨wa.heap.size, 1, none⟩ = some (.slice f1.a f1.la.length f1.ca) ∧ w'.cell? ⟨wa.heap.size, 2, none⟩ = some (.slice f1.b f1.lb.length f1.cb) ∧ Below v7.heap.size v7 w') (((try go_split_ands); (try dsimp only); exact hS _ (by assumption))) (first
          | (go_at_call 28; go_split_ands; (with_reducible refine (addF_any (fa8.below (by assumption)) (fb8.below (by assumption)) fit0 fit1 (by omega)).mono ?_); rintro en u1 ⟨va, rfl, ga, d1⟩; have p1 := below_step (show Below v7.heap.size v7 _ by assumption) d1)
          | (go_at_call 41; go_split_ands; (with_reducible refine (refAddF_any (fa8.below (by assumption)) (fb8.below (by assumption)) fit0 fit1 (by omega)).mono ?_); rintro en u2 ⟨vb, rfl, gb, d2⟩; have p2 := below_step (show Below v7.heap.size v7 _ by assumption) d2)
          | (go_at_call 16; go_split_ands; (with_reducible refine (sameQ_any (ga.below d2) gb).mono ?_); rintro en u3 ⟨rfl, d3⟩; rw [eq_self]; have p3 := below_step (show Below v7.heap.size v7 _ by assumption) d3)
          | (go_at_call 31; go_split_ands; (with_reducible refine (subF_any (fa8.below (by assumption)) (fb8.below (by assumption)) fit0 fit1 (by omega)).mono ?_); rintro en u4 ⟨vc, rfl, gc, d4⟩; have p4 := below_step (show Below v7.heap.size v7 _ by assumption) d4)
          | (go_at_call 42; go_split_ands; (with_reducible refine (refSubF_any (fa8.below (by assumption)) (fb8.below (by assumption)) fit0 fit1 (by omega)).mono ?_); rintro en u5 ⟨vd, rfl, gd, d5⟩; have p5 := below_step (show Below v7.heap.size v7 _ by assumption) d5)
          | (go_at_call 16; go_split_ands; (with_reducible refine (sameQ_any (gc.below d5) gd).mono ?_); rintro en u6 ⟨rfl, d6⟩; rw [eq_self]; have p6 := below_step (show Below v7.heap.size v7 _ by assumption) d6)
          | (go_at_call 29; go_split_ands; (with_reducible refine (mulF_any (fa8.below (by assumption)) (fb8.below (by assumption)) fit0 fit1 (by omega)).mono ?_); rintro en u7 ⟨ve, rfl, ge, d7⟩; have p7 := below_step (show Below v7.heap.size v7 _ by assumption) d7)
          | (go_at_call 43; go_split_ands; (with_reducible refine (refMulF_any (fa8.below (by assumption)) (fb8.below (by assumption)) fit0 fit1 (by omega)).mono ?_); rintro en u8 ⟨vf, rfl, gf, d8⟩; have p8 := below_step (show Below v7.heap.size v7 _ by assumption) d8)
          | (go_at_call 16; go_split_ands; (with_reducible refine (sameQ_any (ge.below d8) gf).mono ?_); rintro en u9 ⟨rfl, d9⟩; rw [eq_self]; have p9 := below_step (show Below v7.heap.size v7 _ by assumption) d9)
          | (go_at_call 11; go_split_ands; (with_reducible refine (awake_any _).mono ?_); rintro en u10 ⟨rfl, d10⟩; have p10 := below_step (show Below v7.heap.size v7 _ by assumption) d10))
        go_wp2
        go_ret
        exact ⟨rfl, b08.trans (p10.mono b08.size)⟩
    · have hs1' := Lib.hid (eq_false_of_ne_true hs1)
      clear hs1
      go_enter Try.func8, Try.ntmps8
      go_wp2_with fail
      refine (short_any f0 _ fo0).mono ?_
      rintro en w1 ⟨rfl, b1⟩
      rw [hs0'.out]
      have hB1 := hBb.keep b1
      have b01 := b00.trans (b1.mono b00.size)
      clear x0 x1 x2 y0 y1 y2
      have y0 := hB1.f0
      have y1 := hB1.f1
      have y2 := hB1.f2
      go_wp2_with fail
      refine (short_any f1 _ (fo1.below b1)).mono ?_
      rintro en w2 ⟨rfl, b2⟩
      rw [hs1'.out]
      have b02 := b01.trans (b2.mono b01.size)
      go_wp2_with fail
      refine (awake_any _).mono ?_
      rintro en wz ⟨rfl, bz⟩
      go_wp2
      go_ret
      exact ⟨rfl, b02.trans (bz.mono b02.size)⟩
  · have hs0' := Lib.hid (eq_false_of_ne_true hs0)
    clear hs0
    go_enter Try.func8, Try.ntmps8
    go_wp2_with fail
    refine (short_any f0 _ fo0).mono ?_
    rintro en w1 ⟨rfl, b1⟩
    rw [hs0'.out]
    have b01 := b00.trans (b1.mono b00.size)
    go_wp2_with fail
    refine (awake_any _).mono ?_
    rintro en wz ⟨rfl, bz⟩
    go_wp2
    go_ret
    exact ⟨rfl, b01.trans (bz.mono b01.size)⟩

/-! ### THE ROW's STEP: WRITTEN OUT: LEAVE IT -/
set_option maxRecDepth 100000 in
theorem lifted (os : Os) (started : os.Started) (H : Type) (enc : TypeId × Value → H) :
    ReturnsInHanded {} Try.checked os 8 .any (Rows.fractionComputesSpec.pre6 enc Try.prog Try.f8 Rows.fractionComputesRow.domain false) (Rows.fractionComputesSpec.post enc Try.prog Try.f8 false true false false) := by
  refine returnsInHanded_of_change (C := Try.checked) own started (by kernel_rfl) Try.func8
    (ChangeSpec.witness6 (enc := enc) (C := Try.checked) false ⟨#[], #[.agg #[.bool false, .slice none 0 0, .slice none 0 0], .agg #[.bool false, .slice none 0 0, .slice none 0 0]], []⟩ 8 (by kernel_rfl) (by kernel_rfl) (by kernel_rfl) (by kernel_rfl)) ?_
  intro W base args ds gs before hval0 hW hcnd _
  have hval : ∀ (j : Nat) t v, Try.f8.params[j]? = some t → args[j]? = some v → Value.okWide Try.prog W .any base t v := hval0
  have hW' := hW
  obtain ⟨p, q, hA0, hV, rfl, hfz, hnd⟩ := hW
  have hA : DataW.TrodAll enc Try.prog W 0 (fun _ => true) true Try.f8.params.toList args.toList ds p := hA0
  rw [Try.params8] at hA hval
  obtain ⟨v0, vs0, d0, ds0, p0, q0, hargs, rfl, rfl, h0, r0⟩ := trodAll_cons hA
  obtain ⟨v1, vs1, d1, ds1, p1, q1, rfl, rfl, rfl, h1, r1⟩ := trodAll_cons r0
  obtain ⟨rfl, rfl, rfl⟩ := trodAll_nil r1
  obtain rfl : args = #[v0, v1] := by cases args; simp_all
  obtain ⟨rfl, rfl⟩ := trodVars_none hV
  have k0 := h0
  have lt0 : ∀ x ∈ p0, x.block < W.heap.size := by obtain ⟨m, hm⟩ := k0; exact DataW.trod_lt m _ _ _ hm
  obtain ⟨f0, rfl, w0⟩ := open_frac (hval 0 25 v0 rfl rfl) h0
  have k1 := h1
  have lt1 : ∀ x ∈ p1, x.block < W.heap.size := by obtain ⟨m, hm⟩ := k1; exact DataW.trod_lt m _ _ _ hm
  obtain ⟨f1, rfl, w1⟩ := open_frac (hval 1 25 v1 rfl rfl) h1
  clear hA0 hval0
  refine (walk f0 f1 W w0 w1).mono fun e W' ⟨he, bel⟩ => ?_
  subst he
  exact ⟨_, rfl, _, _, _, [], _, [], hW', trodAll_mk1 (shut_bool Try.underlying4 _), (trodAll_cons_mk (Below.trod laidOut (by kernel_rfl) (of_decide_eq_true (by kernel_rfl)) k0 bel lt0) (trodAll_cons_mk (Below.trod laidOut (by kernel_rfl) (of_decide_eq_true (by kernel_rfl)) k1 bel lt1) trodAll_mk0)), rfl, bel.frame _, fun h => by cases h⟩

theorem over : Rows.fractionComputesRow.holds Try.pinned (OpenSpec.ofChange Rows.fractionComputesSpec) :=
  OpenClaim.holds_of_wide 8 Try.f8 rfl rfl rfl rfl rfl rfl rfl ⟨rfl, rfl, rfl, rfl, rfl⟩ rfl rfl rfl rfl rfl (by kernel_rfl) Try.func8 (by kernel_rfl)
    (of_decide_eq_true (by kernel_rfl)) (by unfold Func.isWrapper; first | (rw [if_pos (by decide +kernel)]; kernel_rfl) | (rw [if_neg (by decide +kernel)]; exact ⟨rfl, rfl⟩))
    (fun os started H enc _ => lifted os started H enc)

/-- ████ THE STATEMENT ████ -/
theorem proved : Rows.FractionComputesSaid := over
#print axioms proved
end Go.Proofs.Ytghpcimeobmonaa.fractionComputes
