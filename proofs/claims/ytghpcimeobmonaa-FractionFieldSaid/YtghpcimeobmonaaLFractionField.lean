/- The statement FractionField of the given program: the law returns true for every input, and writes nothing that was there. The walk is proved over the contracts of the functions it calls. -/
import Derived.Test.YtghpcimeobmonaaRows
import Derived.Test.YtghpcimeobmonaaLShort
import Derived.Test.YtghpcimeobmonaaLAwake
import Derived.Test.YtghpcimeobmonaaFDiv
import Derived.Test.YtghpcimeobmonaaFMul
import Derived.Test.YtghpcimeobmonaaFSub
import Derived.Test.YtghpcimeobmonaaGSub
import Derived.WalkKit
import Derived.ProofKit
import Derived.OpenShut
import Derived.ShutString
import Derived.ChangeOld
import Derived.Below
namespace Go.Proofs.Ytghpcimeobmonaa.fractionField
open Go.ChangeShapes Go.WideShapes Go.ChangeAt Go.RowKit
open Plain
open Go.ChangeMaps (open_string shut_string)
set_option linter.unusedVariables false
set_option linter.unusedSimpArgs false

theorem own : ownKnob Try.prog.godebug = none := by kernel_rfl
theorem laidOut : laidOutB Try.prog = true := by kernel_rfl

/-- A block of a fraction, made ahead of a call. -/
theorem keep1 {w W : World} {cs : Array Value} {t : TypeId} (b : Below (w.alloc (.cells cs t)).heap.size (w.alloc (.cells cs t)) W) : Blk W w.heap.size t cs := (Blk.new w t cs).keep b
theorem keepU {w W : World} {g : Nat} {t : TypeId} {cs : Array Value} {o : Obj} (h : Blk w g t cs) (b : Below (w.alloc o).heap.size (w.alloc o) W) : Blk W g t cs := (h.keep ((Below.refl _ _).alloc (Nat.le_refl _) o)).keep b
theorem keep2 {w W : World} {c1 c2 : Array Value} {t : TypeId} (b : Below ((w.alloc (.cells c1 t)).alloc (.cells c2 t)).heap.size ((w.alloc (.cells c1 t)).alloc (.cells c2 t)) W) : Blk W w.heap.size t c1 ∧ Blk W (w.heap.size + 1) t c2 := by
  refine ⟨keepU (Blk.new w t c1) b, ?_⟩
  have h := keep1 b
  rw [World.size_alloc] at h
  exact h
/-- Behind the two calls: the sum and the product lie in blocks of their own. -/
def FieldCut (y : World) (p q : Rat) (v7 v8 : Value) (W : World) : Prop :=
  ∃ (g7 : Nat) (n7 : Bool) (A7 : Option Addr) (c7 : Nat) (l7 : List Nat) (B7 : Option Addr) (d7 : Nat) (m7 : List Nat) (g8 : Nat) (n8 : Bool) (A8 : Option Addr) (c8 : Nat) (l8 : List Nat) (B8 : Option Addr) (d8 : Nat) (m8 : List Nat),
    v7 = .pointer (some ⟨g7, 0, none⟩) ∧ v8 = .pointer (some ⟨g8, 0, none⟩) ∧ Blk W g7 25 #[.bool n7, .slice A7 l7.length c7, .slice B7 m7.length d7] ∧ Blk W g8 25 #[.bool n8, .slice A8 l8.length c8, .slice B8 m8.length d8] ∧
      FV W (fracV n7 A7 l7.length c7 B7 m7.length d7) (p + q) ∧ FV W (fracV n8 A8 l8.length c8 B8 m8.length d8) (p * q) ∧ Below y.heap.size y W
theorem dec_eq {p q : Rat} (h : p = q) : decide (p = q) = true := decide_eq_true h
theorem div_back {p q : Rat} (h : q ≠ 0) : p * q / q = p := by
  rw [Rat.div_def, Rat.mul_assoc, Rat.mul_inv_cancel q h, Rat.mul_one]
set_option maxRecDepth 100000 in
set_option maxHeartbeats 40000000 in
theorem field_main {f0 f1 f2 : FrD} {w wa wb wd : World} (fo0 : f0.ok wd) (fo1 : f1.ok wd) (fo2 : f2.ok wd) (fv0 : FV wd f0.v f0.q) (fv1 : FV wd f1.v f1.q) (fv2 : FV wd f2.v f2.q) (fit0 : Fits 20 f0.q) (fit1 : Fits 20 f1.q) (fit2 : Fits 20 f2.q)
    (hs0' : Hid (shB f0 = true)) (hs1' : Hid (shB f1 = true)) (hs2' : Hid (shB f2 = true))
    (hAc : Blk wd w.heap.size 25 #[.bool f0.neg, .slice f0.a f0.la.length f0.ca, .slice f0.b f0.lb.length f0.cb]) (hBc : Blk wd wa.heap.size 25 #[.bool f1.neg, .slice f1.a f1.la.length f1.ca, .slice f1.b f1.lb.length f1.cb]) (hCc : Blk wd wb.heap.size 25 #[.bool f2.neg, .slice f2.a f2.la.length f2.ca, .slice f2.b f2.lb.length f2.cb])
    (b00 : Below w.heap.size w wd) (hlt : w.heap.size < wb.heap.size)
    (hwa : w.alloc (.cells #[.bool f0.neg, .slice f0.a f0.la.length f0.ca, .slice f0.b f0.lb.length f0.cb] 25) = wa) (hwb : wa.alloc (.cells #[.bool f1.neg, .slice f1.a f1.la.length f1.ca, .slice f1.b f1.lb.length f1.cb] 25) = wb) (hwc : wb.alloc (.cells #[.bool f2.neg, .slice f2.a f2.la.length f2.ca, .slice f2.b f2.lb.length f2.cb] 25) = wd) :
    Calls Try.prog 6 #[f0.v, f1.v, f2.v] w fun e w' => e = .returned (.bool true) ∧ Below w.heap.size w w' := by
  have x0 := hAc.f0
  have x1 := hAc.f1
  have x2 := hAc.f2
  go_enter Try.func6, Try.ntmps6
  go_wp2_with fail
  refine (short_any f0 _ fo0).mono ?_
  rintro en s1 ⟨rfl, e1⟩
  rw [hs0'.out]
  have b01 := b00.trans (e1.mono b00.size)
  have yy0 := (hBc.keep e1).f0
  have yy1 := (hBc.keep e1).f1
  have yy2 := (hBc.keep e1).f2
  go_wp2_with fail
  refine (short_any f1 _ (fo1.below e1)).mono ?_
  rintro en s2 ⟨rfl, e2⟩
  rw [hs1'.out]
  have b02 := b01.trans (e2.mono b01.size)
  have zz0 := ((hCc.keep e1).keep e2).f0
  have zz1 := ((hCc.keep e1).keep e2).f1
  have zz2 := ((hCc.keep e1).keep e2).f2
  go_wp2_with fail
  refine (short_any f2 _ ((fo2.below e1).below e2)).mono ?_
  rintro en s3 ⟨rfl, e3⟩
  rw [hs2'.out]
  have b03 := b02.trans (e3.mono b02.size)
  have hAy := ((hAc.keep e1).keep e2).keep e3
  have hBy := ((hBc.keep e1).keep e2).keep e3
  have hCy := ((hCc.keep e1).keep e2).keep e3
  have fa := ((fv0.below e1).below e2).below e3
  have fb := ((fv1.below e1).below e2).below e3
  have fc := ((fv2.below e1).below e2).below e3
  clear x0 x1 x2 yy0 yy1 yy2 zz0 zz1 zz2 fv0 fv1 fv2 fo0 fo1 fo2 e1 e2 e3 b01 b02 b00 hAc hBc hCc
  obtain ⟨y, hy⟩ : ∃ y, y = s3 := ⟨_, rfl⟩
  subst hy
  have y0 := hAy.f0
  have y1 := hAy.f1
  have y2 := hAy.f2
  have z0 := hBy.f0
  have z1 := hBy.f1
  have z2 := hBy.f2
  go_wp2_with fail
  go_cut [7, 8] (fun v7 v8 wx => FieldCut y f0.q f1.q v7 v8 wx)
  case first =>
    have hS : ∀ w', Below y.heap.size y w' → w'.cell? ⟨w.heap.size, 0, none⟩ = some (.bool f0.neg) ∧ w'.cell? ⟨w.heap.size, 1, none⟩ = some (.slice f0.a f0.la.length f0.ca) ∧ w'.cell? ⟨w.heap.size, 2, none⟩ = some (.slice f0.b f0.lb.length f0.cb) ∧ w'.cell? ⟨wa.heap.size, 0, none⟩ = some (.bool f1.neg) ∧ w'.cell? ⟨wa.heap.size, 1, none⟩ = some (.slice f1.a f1.la.length f1.ca) ∧ w'.cell? ⟨wa.heap.size, 2, none⟩ = some (.slice f1.b f1.lb.length f1.cb) ∧ Below y.heap.size y w' := fun w' o => ⟨(hAy.keep o).f0, (hAy.keep o).f1, (hAy.keep o).f2, (hBy.keep o).f0, (hBy.keep o).f1, (hBy.keep o).f2, o⟩
    have dS : Below y.heap.size y y.drew := (Below.refl _ _).drew
    have dS0 : Below y.heap.size y y := Below.refl _ _
    have hsz : y.heap.size ≤ y.heap.size := Nat.le_refl _
    have hszd : y.heap.size ≤ y.drew.heap.size := Nat.le_refl _
    go_region_held3 (fun w' => w'.cell? ⟨w.heap.size, 0, none⟩ = some (.bool f0.neg) ∧ w'.cell? ⟨w.heap.size, 1, none⟩ = some (.slice f0.a f0.la.length f0.ca) ∧ w'.cell? ⟨w.heap.size, 2, none⟩ = some (.slice f0.b f0.lb.length f0.cb) ∧ w'.cell? ⟨wa.heap.size, 0, none⟩ = some (.bool f1.neg) ∧ w'.cell? ⟨wa.heap.size, 1, none⟩ = some (.slice f1.a f1.la.length f1.ca) ∧ w'.cell? ⟨wa.heap.size, 2, none⟩ = some (.slice f1.b f1.lb.length f1.cb) ∧ Below y.heap.size y w') (((try go_split_ands); (try dsimp only); refine hS _ ?_; (repeat' (first | with_reducible assumption | (with_reducible refine Below.drew ?_) | (with_reducible refine Below.alloc ?_ ?_ _) | (with_reducible refine Below.setCell ?_ ?_ _))) <;> (first | with_reducible assumption | (simp only [World.size_alloc, World.size_setCell]; omega) | omega))) (first
      | (go_at_call 28; go_split_ands; (with_reducible refine (addF_any (fa.below (by assumption)) (fb.below (by assumption)) fit0 fit1 (by omega)).mono ?_); rintro e w3 ⟨v3, rfl, ⟨n3, A3, c3, l3, B3, d3, m3, rfl, na3, nb3, iq3⟩, r3⟩; have f73 : FV w3 (fracV n3 A3 l3.length c3 B3 m3.length d3) (f0.q + f1.q) := ⟨_, _, _, _, _, _, _, rfl, na3, nb3, iq3⟩; clear na3 nb3 iq3; have o3 := below_step (show Below y.heap.size y _ by assumption) r3; (first | (have hV := hV.keep r3; have hU := hU.keep r3) | (have hUV := hU.lt; have hV := keep1 r3; have hU := keepU hU r3) | (have hU := hU.keep r3) | (have hU : Blk _ y.heap.size _ _ := (keep2 (w := y.drew) r3).1; have hV : Blk _ (y.heap.size + 1) _ _ := (keep2 (w := y.drew) r3).2; have hUV := Nat.lt_succ_self y.heap.size; have hyU : y.heap.size ≤ y.heap.size := Nat.le_refl _) | (have hU := (keep2 r3).1; have hV := (keep2 r3).2; have hUV := Nat.lt_succ_self w3.heap.size; have hyU := hsz) | (have hU : Blk _ y.heap.size _ _ := keep1 (w := y.drew) r3; have hyU : y.heap.size ≤ y.heap.size := Nat.le_refl _) | (have hU := keep1 r3; have hyU := hsz) | skip); have hsz := o3.size)
      | (go_at_call 29; go_split_ands; (with_reducible refine (mulF_any (fa.below (by assumption)) (fb.below (by assumption)) fit0 fit1 (by omega)).mono ?_); rintro e w5 ⟨v5, rfl, ⟨n5, A5, c5, l5, B5, d5, m5, rfl, na5, nb5, iq5⟩, r5⟩; have f85 : FV w5 (fracV n5 A5 l5.length c5 B5 m5.length d5) (f0.q * f1.q) := ⟨_, _, _, _, _, _, _, rfl, na5, nb5, iq5⟩; clear na5 nb5 iq5; have o5 := below_step (show Below y.heap.size y _ by assumption) r5; (first | (have f75 := f73.below r5) | (have f75 := (f73.below ((Below.refl _ _).alloc (Nat.le_refl _) _)).below r5) | (have f75 := (f73.below (((Below.refl _ _).alloc (Nat.le_refl _) _).alloc (by simp) _)).below r5)); (first | (have hV := hV.keep r5; have hU := hU.keep r5) | (have hUV := hU.lt; have hV := keep1 r5; have hU := keepU hU r5) | (have hU := hU.keep r5) | (have hU : Blk _ y.heap.size _ _ := (keep2 (w := y.drew) r5).1; have hV : Blk _ (y.heap.size + 1) _ _ := (keep2 (w := y.drew) r5).2; have hUV := Nat.lt_succ_self y.heap.size; have hyU : y.heap.size ≤ y.heap.size := Nat.le_refl _) | (have hU := (keep2 r5).1; have hV := (keep2 r5).2; have hUV := Nat.lt_succ_self w3.heap.size; have hyU := hsz) | (have hU : Blk _ y.heap.size _ _ := keep1 (w := y.drew) r5; have hyU : y.heap.size ≤ y.heap.size := Nat.le_refl _) | (have hU := keep1 r5; have hyU := hsz) | skip); have hsz := o5.size; (first | (have u0 := hU.f0; have u1 := hU.f1; have u2 := hU.f2; have t0 := hU.free 0; have t1 := hU.free 1; have t2 := hU.free 2; have hUl := hU.lt) | skip); (first | (have p0 := hV.f0; have p1 := hV.f1; have p2 := hV.f2; have q0 := hV.free 0; have q1 := hV.free 1; have q2 := hV.free 2; have hVl := hV.lt; have hUVn := Nat.ne_of_lt hUV; have hVUn := Nat.ne_of_gt hUV) | skip)))
    all_goals
      go_wp2_with fail
      first
        | (obtain ⟨x1, hx1, hU1, o1⟩ := hU.set3 (.bool n3) (.slice A3 l3.length c3) (.slice B3 m3.length d3); have hV1 := hV.only o1 (Nat.ne_of_gt hUV); obtain ⟨x2, hx2, hV2, o2⟩ := hV1.set3 (.bool n5) (.slice A5 l5.length c5) (.slice B5 m5.length d5); rw [hx1, hx2]; have hP7 := hU1.only o2 (Nat.ne_of_lt hUV); have hP8 := hV2; have q7 := (f75.only_blk hU (noDig3 _ _ _ _ _ _ _) o1).only_blk hV1 (noDig3 _ _ _ _ _ _ _) o2; have q8 := (f85.only_blk hU (noDig3 _ _ _ _ _ _ _) o1).only_blk hV1 (noDig3 _ _ _ _ _ _ _) o2; have oF := o2.to_below (o1.to_below o5 hyU hsz) (Nat.le_trans hyU (Nat.le_of_lt hUV)) (Nat.le_trans hsz o1.size))
        | (obtain ⟨x1, hx1, hV1, o1⟩ := hV.set3 (.bool n3) (.slice A3 l3.length c3) (.slice B3 m3.length d3); have hU1 := hU.only o1 (Nat.ne_of_lt hUV); obtain ⟨x2, hx2, hU2, o2⟩ := hU1.set3 (.bool n5) (.slice A5 l5.length c5) (.slice B5 m5.length d5); rw [hx1, hx2]; have hP7 := hV1.only o2 (Nat.ne_of_gt hUV); have hP8 := hU2; have q7 := (f75.only_blk hV (noDig3 _ _ _ _ _ _ _) o1).only_blk hU1 (noDig3 _ _ _ _ _ _ _) o2; have q8 := (f85.only_blk hV (noDig3 _ _ _ _ _ _ _) o1).only_blk hU1 (noDig3 _ _ _ _ _ _ _) o2; have oF := o2.to_below (o1.to_below o5 (Nat.le_trans hyU (Nat.le_of_lt hUV)) hsz) hyU (Nat.le_trans hsz o1.size))
        | (obtain ⟨x1, hx1, hU1, o1⟩ := hU.set3 (.bool n3) (.slice A3 l3.length c3) (.slice B3 m3.length d3); have hs1 : x1.heap.size = w5.heap.size := (by rw [← hx1]; simp [World.setCell]); obtain ⟨x2, hx2, b2, hlt2, hN⟩ := boxed x1 #[.bool n5, .slice A5 l5.length c5, .slice B5 m5.length d5] 25; rw [hx1, hx2]; rw [hs1] at hN; have hP7 := hU1.keep b2; have hP8 := hN; have q7 := (f75.only_blk hU (noDig3 _ _ _ _ _ _ _) o1).below b2; have q8 := (f85.only_blk hU (noDig3 _ _ _ _ _ _ _) o1).below b2; have oF := (o1.to_below o5 hyU hsz).trans (b2.mono (Nat.le_trans hsz o1.size)))
        | (obtain ⟨x1, hx1, hU1, o1⟩ := hU.set3 (.bool n5) (.slice A5 l5.length c5) (.slice B5 m5.length d5); have hs1 : x1.heap.size = w5.heap.size := (by rw [← hx1]; simp [World.setCell]); obtain ⟨x2, hx2, b2, hlt2, hN⟩ := boxed x1 #[.bool n3, .slice A3 l3.length c3, .slice B3 m3.length d3] 25; rw [hx1, hx2]; rw [hs1] at hN; have hP8 := hU1.keep b2; have hP7 := hN; have q7 := (f75.only_blk hU (noDig3 _ _ _ _ _ _ _) o1).below b2; have q8 := (f85.only_blk hU (noDig3 _ _ _ _ _ _ _) o1).below b2; have oF := (o1.to_below o5 hyU hsz).trans (b2.mono (Nat.le_trans hsz o1.size)))
        | (obtain ⟨x1, hx1, b1', hlt1', hN1⟩ := boxed w5 #[.bool n3, .slice A3 l3.length c3, .slice B3 m3.length d3] 25; have hs1 : x1.heap.size = w5.heap.size + 1 := (by rw [← hx1, World.size_alloc]); obtain ⟨x2, hx2, b2, hlt2, hN⟩ := boxed x1 #[.bool n5, .slice A5 l5.length c5, .slice B5 m5.length d5] 25; rw [hx1, hx2]; rw [hs1] at hN; have hP7 := hN1.keep b2; have hP8 := hN; have q7 := (f75.below b1').below b2; have q8 := (f85.below b1').below b2; have oF := (o5.trans (b1'.mono hsz)).trans (b2.mono (Nat.le_trans hsz b1'.size)))
        | (obtain ⟨x1, hx1, b1', hlt1', hN1⟩ := boxed w5 #[.bool n5, .slice A5 l5.length c5, .slice B5 m5.length d5] 25; have hs1 : x1.heap.size = w5.heap.size + 1 := (by rw [← hx1, World.size_alloc]); obtain ⟨x2, hx2, b2, hlt2, hN⟩ := boxed x1 #[.bool n3, .slice A3 l3.length c3, .slice B3 m3.length d3] 25; rw [hx1, hx2]; rw [hs1] at hN; have hP8 := hN1.keep b2; have hP7 := hN; have q7 := (f75.below b1').below b2; have q8 := (f85.below b1').below b2; have oF := (o5.trans (b1'.mono hsz)).trans (b2.mono (Nat.le_trans hsz b1'.size)))
      go_meet
      exact ⟨_, n3, A3, c3, l3, B3, d3, m3, _, n5, A5, c5, l5, B5, d5, m5, rfl, rfl, hP7, hP8, q7, q8, oF⟩
  case rest =>
    obtain ⟨g7, n7, A7, c7, l7, B7, d7, m7, g8, n8, A8, c8, l8, B8, d8, m8, rfl, rfl, hS7, hS8, fs, fp, oy⟩ := hcut
    have hA := hAy.keep oy
    have hB := hBy.keep oy
    have hC := hCy.keep oy
    have fa1 := fa.below oy
    have fb1 := fb.below oy
    have fc1 := fc.below oy
    have bc := b03.trans (oy.mono b03.size)
    have fS : Fits 41 (f0.q + f1.q) := fit0.add fit1
    have fP : Fits 40 (f0.q * f1.q) := fit0.mul fit1
    have fBC : Fits 41 (f1.q + f2.q) := fit1.add fit2
    have fMB : Fits 40 (f1.q * f2.q) := fit1.mul fit2
    have fMA : Fits 40 (f0.q * f2.q) := fit0.mul fit2
    have k1 := Lib.hid (dec_eq (show f0.q + f1.q = f1.q + f0.q by grind))
    have k2 := Lib.hid (dec_eq (show f0.q * f1.q = f1.q * f0.q by grind))
    have k3 := Lib.hid (dec_eq (show f0.q + f1.q + f2.q = f0.q + (f1.q + f2.q) by grind))
    have k4 := Lib.hid (dec_eq (show f0.q * f1.q * f2.q = f0.q * (f1.q * f2.q) by grind))
    have k5 := Lib.hid (dec_eq (show (f0.q + f1.q) * f2.q = f0.q * f2.q + f1.q * f2.q by grind))
    have k6 := Lib.hid (dec_eq (show f0.q + f1.q - f1.q = f0.q by grind))
    have k7 := Lib.hid (dec_eq (show f0.q + -f0.q = ((0 : Int) : Rat) by rw [show ((0 : Int) : Rat) = 0 from rfl]; grind))
    clear fa fb fc hAy hBy hCy b03
    have hS : ∀ w', Below wc.heap.size wc w' → w'.cell? ⟨w.heap.size, 0, none⟩ = some (.bool f0.neg) ∧ w'.cell? ⟨w.heap.size, 1, none⟩ = some (.slice f0.a f0.la.length f0.ca) ∧ w'.cell? ⟨w.heap.size, 2, none⟩ = some (.slice f0.b f0.lb.length f0.cb) ∧ w'.cell? ⟨wa.heap.size, 0, none⟩ = some (.bool f1.neg) ∧ w'.cell? ⟨wa.heap.size, 1, none⟩ = some (.slice f1.a f1.la.length f1.ca) ∧ w'.cell? ⟨wa.heap.size, 2, none⟩ = some (.slice f1.b f1.lb.length f1.cb) ∧ w'.cell? ⟨g7, 0, none⟩ = some (.bool n7) ∧ w'.cell? ⟨g7, 1, none⟩ = some (.slice A7 l7.length c7) ∧ w'.cell? ⟨g7, 2, none⟩ = some (.slice B7 m7.length d7) ∧ w'.cell? ⟨g8, 0, none⟩ = some (.bool n8) ∧ w'.cell? ⟨g8, 1, none⟩ = some (.slice A8 l8.length c8) ∧ w'.cell? ⟨g8, 2, none⟩ = some (.slice B8 m8.length d8) ∧ Below wc.heap.size wc w' := fun w' o => ⟨(hA.keep o).f0, (hA.keep o).f1, (hA.keep o).f2, (hB.keep o).f0, (hB.keep o).f1, (hB.keep o).f2, (hS7.keep o).f0, (hS7.keep o).f1, (hS7.keep o).f2, (hS8.keep o).f0, (hS8.keep o).f1, (hS8.keep o).f2, o⟩
    have dS : Below wc.heap.size wc wc.drew := (Below.refl _ _).drew
    go_wp2_with fail
    go_region_held3 (fun w' => w'.cell? ⟨w.heap.size, 0, none⟩ = some (.bool f0.neg) ∧ w'.cell? ⟨w.heap.size, 1, none⟩ = some (.slice f0.a f0.la.length f0.ca) ∧ w'.cell? ⟨w.heap.size, 2, none⟩ = some (.slice f0.b f0.lb.length f0.cb) ∧ w'.cell? ⟨wa.heap.size, 0, none⟩ = some (.bool f1.neg) ∧ w'.cell? ⟨wa.heap.size, 1, none⟩ = some (.slice f1.a f1.la.length f1.ca) ∧ w'.cell? ⟨wa.heap.size, 2, none⟩ = some (.slice f1.b f1.lb.length f1.cb) ∧ w'.cell? ⟨g7, 0, none⟩ = some (.bool n7) ∧ w'.cell? ⟨g7, 1, none⟩ = some (.slice A7 l7.length c7) ∧ w'.cell? ⟨g7, 2, none⟩ = some (.slice B7 m7.length d7) ∧ w'.cell? ⟨g8, 0, none⟩ = some (.bool n8) ∧ w'.cell? ⟨g8, 1, none⟩ = some (.slice A8 l8.length c8) ∧ w'.cell? ⟨g8, 2, none⟩ = some (.slice B8 m8.length d8) ∧ Below wc.heap.size wc w') (((try go_split_ands); (try dsimp only); exact hS _ (by assumption))) (first
      | (go_at_call 30; go_split_ands; (with_reducible refine (refValidQ_any (fs.below (by assumption)) fS (by omega)).mono ?_); rintro en u1 ⟨rfl, e1⟩; have o1 := below_step (show Below wc.heap.size wc _ by assumption) e1)
      | (go_at_call 30; go_split_ands; (with_reducible refine (refValidQ_any (fp.below (by assumption)) fP (by omega)).mono ?_); rintro en u2 ⟨rfl, e2⟩; have o2 := below_step (show Below wc.heap.size wc _ by assumption) e2)
      | (go_at_call 28; go_split_ands; (with_reducible refine (addF_any (fb1.below (by assumption)) (fa1.below (by assumption)) fit1 fit0 (by omega)).mono ?_); rintro en u3 ⟨v3, rfl, h3, e3⟩; have o3 := below_step (show Below wc.heap.size wc _ by assumption) e3)
      | (go_at_call 16; go_split_ands; (with_reducible refine (sameQ_any (fs.below (by assumption)) h3).mono ?_); rintro en u4 ⟨rfl, e4⟩; rw [k1.out]; have o4 := below_step (show Below wc.heap.size wc _ by assumption) e4)
      | (go_at_call 29; go_split_ands; (with_reducible refine (mulF_any (fb1.below (by assumption)) (fa1.below (by assumption)) fit1 fit0 (by omega)).mono ?_); rintro en u5 ⟨v5, rfl, h5, e5⟩; have o5 := below_step (show Below wc.heap.size wc _ by assumption) e5)
      | (go_at_call 16; go_split_ands; (with_reducible refine (sameQ_any (fp.below (by assumption)) h5).mono ?_); rintro en u6 ⟨rfl, e6⟩; rw [k2.out]; have o6 := below_step (show Below wc.heap.size wc _ by assumption) e6))
    clear hS dS
    have hA2 := hA.keep o6
    have hB2 := hB.keep o6
    have hC2 := hC.keep o6
    have h72 := hS7.keep o6
    have h82 := hS8.keep o6
    have fa2 := fa1.below o6
    have fb2 := fb1.below o6
    have fc2 := fc1.below o6
    have fs2 := fs.below o6
    have fp2 := fp.below o6
    have bc2 := bc.trans (o6.mono bc.size)
    have hS : ∀ w', Below u6.heap.size u6 w' → w'.cell? ⟨w.heap.size, 0, none⟩ = some (.bool f0.neg) ∧ w'.cell? ⟨w.heap.size, 1, none⟩ = some (.slice f0.a f0.la.length f0.ca) ∧ w'.cell? ⟨w.heap.size, 2, none⟩ = some (.slice f0.b f0.lb.length f0.cb) ∧ w'.cell? ⟨wa.heap.size, 0, none⟩ = some (.bool f1.neg) ∧ w'.cell? ⟨wa.heap.size, 1, none⟩ = some (.slice f1.a f1.la.length f1.ca) ∧ w'.cell? ⟨wa.heap.size, 2, none⟩ = some (.slice f1.b f1.lb.length f1.cb) ∧ w'.cell? ⟨wb.heap.size, 0, none⟩ = some (.bool f2.neg) ∧ w'.cell? ⟨wb.heap.size, 1, none⟩ = some (.slice f2.a f2.la.length f2.ca) ∧ w'.cell? ⟨wb.heap.size, 2, none⟩ = some (.slice f2.b f2.lb.length f2.cb) ∧ w'.cell? ⟨g7, 0, none⟩ = some (.bool n7) ∧ w'.cell? ⟨g7, 1, none⟩ = some (.slice A7 l7.length c7) ∧ w'.cell? ⟨g7, 2, none⟩ = some (.slice B7 m7.length d7) ∧ w'.cell? ⟨g8, 0, none⟩ = some (.bool n8) ∧ w'.cell? ⟨g8, 1, none⟩ = some (.slice A8 l8.length c8) ∧ w'.cell? ⟨g8, 2, none⟩ = some (.slice B8 m8.length d8) ∧ Below u6.heap.size u6 w' := fun w' o => ⟨(hA2.keep o).f0, (hA2.keep o).f1, (hA2.keep o).f2, (hB2.keep o).f0, (hB2.keep o).f1, (hB2.keep o).f2, (hC2.keep o).f0, (hC2.keep o).f1, (hC2.keep o).f2, (h72.keep o).f0, (h72.keep o).f1, (h72.keep o).f2, (h82.keep o).f0, (h82.keep o).f1, (h82.keep o).f2, o⟩
    have dS : Below u6.heap.size u6 u6.drew := (Below.refl _ _).drew
    go_wp2_with fail
    go_region_held3 (fun w' => w'.cell? ⟨w.heap.size, 0, none⟩ = some (.bool f0.neg) ∧ w'.cell? ⟨w.heap.size, 1, none⟩ = some (.slice f0.a f0.la.length f0.ca) ∧ w'.cell? ⟨w.heap.size, 2, none⟩ = some (.slice f0.b f0.lb.length f0.cb) ∧ w'.cell? ⟨wa.heap.size, 0, none⟩ = some (.bool f1.neg) ∧ w'.cell? ⟨wa.heap.size, 1, none⟩ = some (.slice f1.a f1.la.length f1.ca) ∧ w'.cell? ⟨wa.heap.size, 2, none⟩ = some (.slice f1.b f1.lb.length f1.cb) ∧ w'.cell? ⟨wb.heap.size, 0, none⟩ = some (.bool f2.neg) ∧ w'.cell? ⟨wb.heap.size, 1, none⟩ = some (.slice f2.a f2.la.length f2.ca) ∧ w'.cell? ⟨wb.heap.size, 2, none⟩ = some (.slice f2.b f2.lb.length f2.cb) ∧ w'.cell? ⟨g7, 0, none⟩ = some (.bool n7) ∧ w'.cell? ⟨g7, 1, none⟩ = some (.slice A7 l7.length c7) ∧ w'.cell? ⟨g7, 2, none⟩ = some (.slice B7 m7.length d7) ∧ w'.cell? ⟨g8, 0, none⟩ = some (.bool n8) ∧ w'.cell? ⟨g8, 1, none⟩ = some (.slice A8 l8.length c8) ∧ w'.cell? ⟨g8, 2, none⟩ = some (.slice B8 m8.length d8) ∧ Below u6.heap.size u6 w') (((try go_split_ands); (try dsimp only); exact hS _ (by assumption))) (first
      | (go_at_call 28; go_split_ands; (with_reducible refine (addF_any (fs2.below (by assumption)) (fc2.below (by assumption)) fS fit2 (by omega)).mono ?_); rintro en p1 ⟨w1, rfl, q1, e1⟩; have o1 := below_step (show Below u6.heap.size u6 _ by assumption) e1)
      | (go_at_call 28; go_split_ands; (with_reducible refine (addF_any (fb2.below (by assumption)) (fc2.below (by assumption)) fit1 fit2 (by omega)).mono ?_); rintro en p2 ⟨w2, rfl, q2, e2⟩; have o2 := below_step (show Below u6.heap.size u6 _ by assumption) e2)
      | (go_at_call 28; go_split_ands; (with_reducible refine (addF_any (fa2.below (by assumption)) q2 fit0 fBC (by omega)).mono ?_); rintro en p3 ⟨w3, rfl, q3, e3⟩; have o3 := below_step (show Below u6.heap.size u6 _ by assumption) e3)
      | (go_at_call 16; go_split_ands; (with_reducible refine (sameQ_any ((q1.below e2).below e3) q3).mono ?_); rintro en p4 ⟨rfl, e4⟩; rw [k3.out]; have o4 := below_step (show Below u6.heap.size u6 _ by assumption) e4)
      | (go_at_call 29; go_split_ands; (with_reducible refine (mulF_any (fp2.below (by assumption)) (fc2.below (by assumption)) fP fit2 (by omega)).mono ?_); rintro en p5 ⟨w5, rfl, q5, e5⟩; have o5 := below_step (show Below u6.heap.size u6 _ by assumption) e5)
      | (go_at_call 29; go_split_ands; (with_reducible refine (mulF_any (fb2.below (by assumption)) (fc2.below (by assumption)) fit1 fit2 (by omega)).mono ?_); rintro en p6 ⟨w6, rfl, q6, e6⟩; have o6 := below_step (show Below u6.heap.size u6 _ by assumption) e6)
      | (go_at_call 29; go_split_ands; (with_reducible refine (mulF_any (fa2.below (by assumption)) q6 fit0 fMB (by omega)).mono ?_); rintro en p7 ⟨w7, rfl, q7, e7⟩; have o7 := below_step (show Below u6.heap.size u6 _ by assumption) e7)
      | (go_at_call 16; go_split_ands; (with_reducible refine (sameQ_any ((q5.below e6).below e7) q7).mono ?_); rintro en p8 ⟨rfl, e8⟩; rw [k4.out]; have o8 := below_step (show Below u6.heap.size u6 _ by assumption) e8))
    clear hS dS
    have hA3 := hA2.keep o8
    have hB3 := hB2.keep o8
    have hC3 := hC2.keep o8
    have h73 := h72.keep o8
    have h83 := h82.keep o8
    have fa3 := fa2.below o8
    have fb3 := fb2.below o8
    have fc3 := fc2.below o8
    have fs3 := fs2.below o8
    have fp3 := fp2.below o8
    have bc3 := bc2.trans (o8.mono bc2.size)
    have hS : ∀ w', Below p8.heap.size p8 w' → w'.cell? ⟨w.heap.size, 0, none⟩ = some (.bool f0.neg) ∧ w'.cell? ⟨w.heap.size, 1, none⟩ = some (.slice f0.a f0.la.length f0.ca) ∧ w'.cell? ⟨w.heap.size, 2, none⟩ = some (.slice f0.b f0.lb.length f0.cb) ∧ w'.cell? ⟨wa.heap.size, 0, none⟩ = some (.bool f1.neg) ∧ w'.cell? ⟨wa.heap.size, 1, none⟩ = some (.slice f1.a f1.la.length f1.ca) ∧ w'.cell? ⟨wa.heap.size, 2, none⟩ = some (.slice f1.b f1.lb.length f1.cb) ∧ w'.cell? ⟨wb.heap.size, 0, none⟩ = some (.bool f2.neg) ∧ w'.cell? ⟨wb.heap.size, 1, none⟩ = some (.slice f2.a f2.la.length f2.ca) ∧ w'.cell? ⟨wb.heap.size, 2, none⟩ = some (.slice f2.b f2.lb.length f2.cb) ∧ w'.cell? ⟨g7, 0, none⟩ = some (.bool n7) ∧ w'.cell? ⟨g7, 1, none⟩ = some (.slice A7 l7.length c7) ∧ w'.cell? ⟨g7, 2, none⟩ = some (.slice B7 m7.length d7) ∧ w'.cell? ⟨g8, 0, none⟩ = some (.bool n8) ∧ w'.cell? ⟨g8, 1, none⟩ = some (.slice A8 l8.length c8) ∧ w'.cell? ⟨g8, 2, none⟩ = some (.slice B8 m8.length d8) ∧ Below p8.heap.size p8 w' := fun w' o => ⟨(hA3.keep o).f0, (hA3.keep o).f1, (hA3.keep o).f2, (hB3.keep o).f0, (hB3.keep o).f1, (hB3.keep o).f2, (hC3.keep o).f0, (hC3.keep o).f1, (hC3.keep o).f2, (h73.keep o).f0, (h73.keep o).f1, (h73.keep o).f2, (h83.keep o).f0, (h83.keep o).f1, (h83.keep o).f2, o⟩
    have dS : Below p8.heap.size p8 p8.drew := (Below.refl _ _).drew
    go_wp2_with fail
    go_region_held3 (fun w' => w'.cell? ⟨w.heap.size, 0, none⟩ = some (.bool f0.neg) ∧ w'.cell? ⟨w.heap.size, 1, none⟩ = some (.slice f0.a f0.la.length f0.ca) ∧ w'.cell? ⟨w.heap.size, 2, none⟩ = some (.slice f0.b f0.lb.length f0.cb) ∧ w'.cell? ⟨wa.heap.size, 0, none⟩ = some (.bool f1.neg) ∧ w'.cell? ⟨wa.heap.size, 1, none⟩ = some (.slice f1.a f1.la.length f1.ca) ∧ w'.cell? ⟨wa.heap.size, 2, none⟩ = some (.slice f1.b f1.lb.length f1.cb) ∧ w'.cell? ⟨wb.heap.size, 0, none⟩ = some (.bool f2.neg) ∧ w'.cell? ⟨wb.heap.size, 1, none⟩ = some (.slice f2.a f2.la.length f2.ca) ∧ w'.cell? ⟨wb.heap.size, 2, none⟩ = some (.slice f2.b f2.lb.length f2.cb) ∧ w'.cell? ⟨g7, 0, none⟩ = some (.bool n7) ∧ w'.cell? ⟨g7, 1, none⟩ = some (.slice A7 l7.length c7) ∧ w'.cell? ⟨g7, 2, none⟩ = some (.slice B7 m7.length d7) ∧ w'.cell? ⟨g8, 0, none⟩ = some (.bool n8) ∧ w'.cell? ⟨g8, 1, none⟩ = some (.slice A8 l8.length c8) ∧ w'.cell? ⟨g8, 2, none⟩ = some (.slice B8 m8.length d8) ∧ Below p8.heap.size p8 w') (((try go_split_ands); (try dsimp only); exact hS _ (by assumption))) (first
      | (go_at_call 29; go_split_ands; (with_reducible refine (mulF_any (fs3.below (by assumption)) (fc3.below (by assumption)) fS fit2 (by omega)).mono ?_); rintro en r1 ⟨x1, rfl, q1, e1⟩; have o1 := below_step (show Below p8.heap.size p8 _ by assumption) e1)
      | (go_at_call 29; go_split_ands; (with_reducible refine (mulF_any (fa3.below (by assumption)) (fc3.below (by assumption)) fit0 fit2 (by omega)).mono ?_); rintro en r2 ⟨x2, rfl, q2, e2⟩; have o2 := below_step (show Below p8.heap.size p8 _ by assumption) e2)
      | (go_at_call 29; go_split_ands; (with_reducible refine (mulF_any (fb3.below (by assumption)) (fc3.below (by assumption)) fit1 fit2 (by omega)).mono ?_); rintro en r3 ⟨x3, rfl, q3, e3⟩; have o3 := below_step (show Below p8.heap.size p8 _ by assumption) e3)
      | (go_at_call 28; go_split_ands; (with_reducible refine (addF_any (q2.below e3) q3 fMA fMB (by omega)).mono ?_); rintro en r4 ⟨x4, rfl, q4, e4⟩; have o4 := below_step (show Below p8.heap.size p8 _ by assumption) e4)
      | (go_at_call 16; go_split_ands; (with_reducible refine (sameQ_any (((q1.below e2).below e3).below e4) q4).mono ?_); rintro en r5 ⟨rfl, e5⟩; rw [k5.out]; have o5 := below_step (show Below p8.heap.size p8 _ by assumption) e5)
      | (go_at_call 31; go_split_ands; (with_reducible refine (subF_any (fs3.below (by assumption)) (fb3.below (by assumption)) fS fit1 (by omega)).mono ?_); rintro en r6 ⟨x6, rfl, q6, e6⟩; have o6 := below_step (show Below p8.heap.size p8 _ by assumption) e6)
      | (go_at_call 16; go_split_ands; (with_reducible refine (sameQ_any q6 (fa3.below (by assumption))).mono ?_); rintro en r7 ⟨rfl, e7⟩; rw [k6.out]; have o7 := below_step (show Below p8.heap.size p8 _ by assumption) e7)
      | (go_at_call 32; go_split_ands; (with_reducible refine (neg_any (fa3.below (by assumption)) fit0 (by omega)).mono ?_); rintro en r8 ⟨x8, rfl, q8, e8⟩; have o8 := below_step (show Below p8.heap.size p8 _ by assumption) e8)
      | (go_at_call 28; go_split_ands; (with_reducible refine (addF_any (fa3.below (by assumption)) q8 fit0 fit0.neg (by omega)).mono ?_); rintro en r9 ⟨x9, rfl, q9, e9⟩; have o9 := below_step (show Below p8.heap.size p8 _ by assumption) e9)
      | (go_at_call 20; go_split_ands; (with_reducible refine (refFromInt_any 0 _ (by omega) (by omega)).mono ?_); rintro en r10 ⟨x10, rfl, q10, e10⟩; have o10 := below_step (show Below p8.heap.size p8 _ by assumption) e10)
      | (go_at_call 16; go_split_ands; (with_reducible refine (sameQ_any (q9.below e10) q10).mono ?_); rintro en r11 ⟨rfl, e11⟩; rw [k7.out]; have o11 := below_step (show Below p8.heap.size p8 _ by assumption) e11))
    clear hS dS
    have hA4 := hA3.keep o11
    have hB4 := hB3.keep o11
    have hC4 := hC3.keep o11
    have h74 := h73.keep o11
    have h84 := h83.keep o11
    have fa4 := fa3.below o11
    have fb4 := fb3.below o11
    have fc4 := fc3.below o11
    have fs4 := fs3.below o11
    have fp4 := fp3.below o11
    have bc4 := bc3.trans (o11.mono bc3.size)
    have x0 := h84.f0
    have x1 := h84.f1
    have x2 := h84.f2
    have y0 := hB4.f0
    have y1 := hB4.f1
    have y2 := hB4.f2
    by_cases hq : f1.q = 0
    · have hq' := Lib.hid hq
      have hsg := Lib.hid (show cmpR f1.q 0 = 0 from cmpR_zero.2 hq)
      clear hq
      go_wp2_with fail
      refine (divF_zero fp4 fb4 fP fit1 (by omega) hq'.out).mono ?_
      rintro en t1 ⟨rfl, e1⟩
      obtain ⟨t2, ht2, e2, hlt2, hZ⟩ := boxed t1 #[.bool false, .slice none 0 0, .slice none 0 0] 25
      have za := hZ.f0
      have zb := hZ.f1
      have zc := hZ.f2
      have zf0 := hZ.free 0
      have zf1 := hZ.free 1
      have zf2 := hZ.free 2
      have zs0 := hZ.same (i := 0) (u := .bool false) rfl
      have zs1 := hZ.same (i := 1) (u := .slice none 0 0) rfl
      have zs2 := hZ.same (i := 2) (u := .slice none 0 0) rfl
      have hB5 := (hB4.keep e1).keep e2
      have fb5 := (fb4.below e1).below e2
      have bc5 := (bc4.trans (e1.mono bc4.size)).trans (e2.mono (Nat.le_trans bc4.size e1.size))
      clear x0 x1 x2 y0 y1 y2
      have y0 := hB5.f0
      have y1 := hB5.f1
      have y2 := hB5.f2
      go_wp2_with fail
      refine (refSign_any fb5).mono ?_
      rintro en t3 ⟨rfl, e3⟩
      rw [hsg.out]
      have bc6 := bc5.trans (e3.mono bc5.size)
      go_wp2_with fail
      refine (awake_any _).mono ?_
      rintro en wz ⟨rfl, bz⟩
      go_wp2
      go_ret
      exact ⟨rfl, bc6.trans (bz.mono bc6.size)⟩
    · obtain ⟨c, hc⟩ : ∃ c, Hid (cmpR f1.q 0 = c) := ⟨_, rfl⟩
      have hcn : (c == 0) = false := by rw [beq_eq_false_iff_ne]; intro e; exact hq (cmpR_zero.1 (hc.out.trans e))
      have k8 := Lib.hid (dec_eq (div_back (p := f0.q) hq))
      go_wp2_with fail
      refine (divF_any fp4 fb4 fP fit1 (by omega) hq).mono ?_
      rintro en t1 ⟨v1, rfl, ⟨n1, A1, c1, l1, B1, d1, m1, rfl, na1, nb1, iq1⟩, e1⟩
      have fv1 : FV t1 (fracV n1 A1 l1.length c1 B1 m1.length d1) (f0.q * f1.q / f1.q) := ⟨_, _, _, _, _, _, _, rfl, na1, nb1, iq1⟩
      clear na1 nb1 iq1
      obtain ⟨t2, ht2, e2, hlt2, hX⟩ := boxed t1 #[.bool n1, .slice A1 l1.length c1, .slice B1 m1.length d1] 25
      have hB5 := (hB4.keep e1).keep e2
      have fb5 := (fb4.below e1).below e2
      have bc5 := (bc4.trans (e1.mono bc4.size)).trans (e2.mono (Nat.le_trans bc4.size e1.size))
      clear x0 x1 x2 y0 y1 y2
      have y0 := hB5.f0
      have y1 := hB5.f1
      have y2 := hB5.f2
      go_wp2_with fail
      refine (refSign_any fb5).mono ?_
      rintro en t3 ⟨rfl, e3⟩
      rw [hc.out]
      have bc6 := bc5.trans (e3.mono bc5.size)
      have hX6 := hX.keep e3
      have hA6 := ((hA4.keep e1).keep e2).keep e3
      have fa6 := ((fa4.below e1).below e2).below e3
      clear y0 y1 y2
      have x0 := hX6.f0
      have x1 := hX6.f1
      have x2 := hX6.f2
      have y0 := hA6.f0
      have y1 := hA6.f1
      have y2 := hA6.f2
      go_wp2_with fail
      refine (sameQ_any ((fv1.below e2).below e3) fa6).mono ?_
      rintro en t4 ⟨rfl, e4⟩
      rw [k8.out]
      have bc7 := bc6.trans (e4.mono bc6.size)
      go_wp2_with fail
      refine (awake_any _).mono ?_
      rintro en wz ⟨rfl, bz⟩
      go_wp2
      go_ret
      exact ⟨rfl, bc7.trans (bz.mono bc7.size)⟩
set_option maxRecDepth 100000 in
set_option maxHeartbeats 2000000 in
theorem walk (f0 : FrD) (f1 : FrD) (f2 : FrD) (w : World) (w0 : f0.ok w) (w1 : f1.ok w) (w2 : f2.ok w) :
    Calls Try.prog 6 #[fracV f0.neg f0.a f0.la.length f0.ca f0.b f0.lb.length f0.cb, fracV f1.neg f1.a f1.la.length f1.ca f1.b f1.lb.length f1.cb, fracV f2.neg f2.a f2.la.length f2.ca f2.b f2.lb.length f2.cb] w fun e w' => e = .returned (.bool true) ∧ Below w.heap.size w w' := by
  have hf0 := w0
  have hf1 := w1
  have hf2 := w2
  obtain ⟨wa, hwa, bwa, hlta, hAa⟩ := boxed w #[.bool f0.neg, .slice f0.a f0.la.length f0.ca, .slice f0.b f0.lb.length f0.cb] 25
  obtain ⟨wb, hwb, bwb, hltb, hBb⟩ := boxed wa #[.bool f1.neg, .slice f1.a f1.la.length f1.ca, .slice f1.b f1.lb.length f1.cb] 25
  obtain ⟨wc, hwc, bwc, hltc, hCc⟩ := boxed wb #[.bool f2.neg, .slice f2.a f2.la.length f2.ca, .slice f2.b f2.lb.length f2.cb] 25
  have hAc := (hAa.keep bwb).keep bwc
  have hBc := hBb.keep bwc
  have b00 := (bwa.trans (bwb.mono (Nat.le_of_lt hlta))).trans (bwc.mono (Nat.le_trans (Nat.le_of_lt hlta) (Nat.le_of_lt hltb)))
  have fo0 := hf0.below b00
  have fo1 := hf1.below b00
  have fo2 := hf2.below b00
  clear w0 w1 w2 hf0 hf1 hf2
  have x0 := hAc.f0
  have x1 := hAc.f1
  have x2 := hAc.f2
  by_cases hs0 : shB f0 = true
  · obtain ⟨fv0, fit0⟩ := shB_fv fo0 hs0
    have hs0' := Lib.hid hs0
    clear hs0
    by_cases hs1 : shB f1 = true
    · obtain ⟨fv1, fit1⟩ := shB_fv fo1 hs1
      have hs1' := Lib.hid hs1
      clear hs1
      by_cases hs2 : shB f2 = true
      · obtain ⟨fv2, fit2⟩ := shB_fv fo2 hs2
        have hs2' := Lib.hid hs2
        clear hs2
        exact field_main fo0 fo1 fo2 fv0 fv1 fv2 fit0 fit1 fit2 hs0' hs1' hs2' hAc hBc hCc b00 (Nat.lt_trans hlta hltb) hwa hwb hwc
      · have hs2' := Lib.hid (eq_false_of_ne_true hs2)
        clear hs2
        go_enter Try.func6, Try.ntmps6
        go_wp2_with fail
        refine (short_any f0 _ fo0).mono ?_
        rintro en s1 ⟨rfl, e1⟩
        rw [hs0'.out]
        have b01 := b00.trans (e1.mono b00.size)
        have yy0 := (hBc.keep e1).f0
        have yy1 := (hBc.keep e1).f1
        have yy2 := (hBc.keep e1).f2
        go_wp2_with fail
        refine (short_any f1 _ (fo1.below e1)).mono ?_
        rintro en s2 ⟨rfl, e2⟩
        rw [hs1'.out]
        have b02 := b01.trans (e2.mono b01.size)
        have zz0 := ((hCc.keep e1).keep e2).f0
        have zz1 := ((hCc.keep e1).keep e2).f1
        have zz2 := ((hCc.keep e1).keep e2).f2
        go_wp2_with fail
        refine (short_any f2 _ ((fo2.below e1).below e2)).mono ?_
        rintro en s3 ⟨rfl, e3⟩
        rw [hs2'.out]
        have b03 := b02.trans (e3.mono b02.size)
        go_wp2_with fail
        refine (awake_any _).mono ?_
        rintro en wz ⟨rfl, bz⟩
        go_wp2
        go_ret
        exact ⟨rfl, b03.trans (bz.mono b03.size)⟩
    · have hs1' := Lib.hid (eq_false_of_ne_true hs1)
      clear hs1
      go_enter Try.func6, Try.ntmps6
      go_wp2_with fail
      refine (short_any f0 _ fo0).mono ?_
      rintro en s1 ⟨rfl, e1⟩
      rw [hs0'.out]
      have b01 := b00.trans (e1.mono b00.size)
      have yy0 := (hBc.keep e1).f0
      have yy1 := (hBc.keep e1).f1
      have yy2 := (hBc.keep e1).f2
      go_wp2_with fail
      refine (short_any f1 _ (fo1.below e1)).mono ?_
      rintro en s2 ⟨rfl, e2⟩
      rw [hs1'.out]
      have b02 := b01.trans (e2.mono b01.size)
      have zz0 := ((hCc.keep e1).keep e2).f0
      have zz1 := ((hCc.keep e1).keep e2).f1
      have zz2 := ((hCc.keep e1).keep e2).f2
      go_wp2_with fail
      refine (awake_any _).mono ?_
      rintro en wz ⟨rfl, bz⟩
      go_wp2
      go_ret
      exact ⟨rfl, b02.trans (bz.mono b02.size)⟩
  · have hs0' := Lib.hid (eq_false_of_ne_true hs0)
    clear hs0
    go_enter Try.func6, Try.ntmps6
    go_wp2_with fail
    refine (short_any f0 _ fo0).mono ?_
    rintro en s1 ⟨rfl, e1⟩
    rw [hs0'.out]
    have b01 := b00.trans (e1.mono b00.size)
    have yy0 := (hBc.keep e1).f0
    have yy1 := (hBc.keep e1).f1
    have yy2 := (hBc.keep e1).f2
    go_wp2_with fail
    refine (awake_any _).mono ?_
    rintro en wz ⟨rfl, bz⟩
    go_wp2
    go_ret
    exact ⟨rfl, b01.trans (bz.mono b01.size)⟩

/-! ### THE ROW's STEP: WRITTEN OUT: LEAVE IT -/
set_option maxRecDepth 100000 in
theorem lifted (os : Os) (started : os.Started) (H : Type) (enc : TypeId × Value → H) :
    ReturnsInHanded {} Try.checked os 6 .any (Rows.fractionFieldSpec.pre6 enc Try.prog Try.f6 Rows.fractionFieldRow.domain false) (Rows.fractionFieldSpec.post enc Try.prog Try.f6 false true false false) := by
  refine returnsInHanded_of_change (C := Try.checked) own started (by kernel_rfl) Try.func6
    (ChangeSpec.witness6 (enc := enc) (C := Try.checked) false ⟨#[], #[.agg #[.bool false, .slice none 0 0, .slice none 0 0], .agg #[.bool false, .slice none 0 0, .slice none 0 0], .agg #[.bool false, .slice none 0 0, .slice none 0 0]], []⟩ 8 (by kernel_rfl) (by kernel_rfl) (by kernel_rfl) (by kernel_rfl)) ?_
  intro W base args ds gs before hval0 hW hcnd _
  have hval : ∀ (j : Nat) t v, Try.f6.params[j]? = some t → args[j]? = some v → Value.okWide Try.prog W .any base t v := hval0
  have hW' := hW
  obtain ⟨p, q, hA0, hV, rfl, hfz, hnd⟩ := hW
  have hA : DataW.TrodAll enc Try.prog W 0 (fun _ => true) true Try.f6.params.toList args.toList ds p := hA0
  rw [Try.params6] at hA hval
  obtain ⟨v0, vs0, d0, ds0, p0, q0, hargs, rfl, rfl, h0, r0⟩ := trodAll_cons hA
  obtain ⟨v1, vs1, d1, ds1, p1, q1, rfl, rfl, rfl, h1, r1⟩ := trodAll_cons r0
  obtain ⟨v2, vs2, d2, ds2, p2, q2, rfl, rfl, rfl, h2, r2⟩ := trodAll_cons r1
  obtain ⟨rfl, rfl, rfl⟩ := trodAll_nil r2
  obtain rfl : args = #[v0, v1, v2] := by cases args; simp_all
  obtain ⟨rfl, rfl⟩ := trodVars_none hV
  have k0 := h0
  have lt0 : ∀ x ∈ p0, x.block < W.heap.size := by obtain ⟨m, hm⟩ := k0; exact DataW.trod_lt m _ _ _ hm
  obtain ⟨f0, rfl, w0⟩ := open_frac (hval 0 25 v0 rfl rfl) h0
  have k1 := h1
  have lt1 : ∀ x ∈ p1, x.block < W.heap.size := by obtain ⟨m, hm⟩ := k1; exact DataW.trod_lt m _ _ _ hm
  obtain ⟨f1, rfl, w1⟩ := open_frac (hval 1 25 v1 rfl rfl) h1
  have k2 := h2
  have lt2 : ∀ x ∈ p2, x.block < W.heap.size := by obtain ⟨m, hm⟩ := k2; exact DataW.trod_lt m _ _ _ hm
  obtain ⟨f2, rfl, w2⟩ := open_frac (hval 2 25 v2 rfl rfl) h2
  clear hA0 hval0
  refine (walk f0 f1 f2 W w0 w1 w2).mono fun e W' ⟨he, bel⟩ => ?_
  subst he
  exact ⟨_, rfl, _, _, _, [], _, [], hW', trodAll_mk1 (shut_bool Try.underlying4 _), (trodAll_cons_mk (Below.trod laidOut (by kernel_rfl) (of_decide_eq_true (by kernel_rfl)) k0 bel lt0) (trodAll_cons_mk (Below.trod laidOut (by kernel_rfl) (of_decide_eq_true (by kernel_rfl)) k1 bel lt1) (trodAll_cons_mk (Below.trod laidOut (by kernel_rfl) (of_decide_eq_true (by kernel_rfl)) k2 bel lt2) trodAll_mk0))), rfl, bel.frame _, fun h => by cases h⟩

theorem over : Rows.fractionFieldRow.holds Try.pinned (OpenSpec.ofChange Rows.fractionFieldSpec) :=
  OpenClaim.holds_of_wide 6 Try.f6 rfl rfl rfl rfl rfl rfl rfl ⟨rfl, rfl, rfl, rfl, rfl⟩ rfl rfl rfl rfl rfl (by kernel_rfl) Try.func6 (by kernel_rfl)
    (of_decide_eq_true (by kernel_rfl)) (by unfold Func.isWrapper; first | (rw [if_pos (by decide +kernel)]; kernel_rfl) | (rw [if_neg (by decide +kernel)]; exact ⟨rfl, rfl⟩))
    (fun os started H enc _ => lifted os started H enc)

/-- ████ THE STATEMENT ████ -/
theorem proved : Rows.FractionFieldSaid := over
#print axioms proved
end Go.Proofs.Ytghpcimeobmonaa.fractionField
