/- The fraction law's awake: what the call does. -/
import Derived.Test.YtghpcimeobmonaaGSame
import Derived.Test.YtghpcimeobmonaaFRound
import Derived.Test.YtghpcimeobmonaaFParse
import Derived.Test.YtghpcimeobmonaaFAdd
import Derived.Test.YtghpcimeobmonaaFCmp
import Derived.Test.YtghpcimeobmonaaGNew
namespace Go.Proofs.Ytghpcimeobmonaa
set_option linter.unusedVariables false
set_option linter.unusedSimpArgs false
open Go.RowKit Plain
attribute [local go_sem ↓] Go.wp_at_zero Go.wp_at_succ

theorem parse24 : pfOK [50, 47, 52] = false := by decide +kernel
theorem retPF_24 {s : ByteArray} {W w' : World} {e : Ending} (h : RetPF (bytes s) W e w') (hs : bytes s = [50, 47, 52]) : RetZE 2 W e w' := by
  unfold RetPF at h
  rw [hs, if_neg (by decide), if_neg (by rw [parse24]; decide)] at h
  exact h
theorem blk_fv {w : World} {g : Nat} {t : TypeId} {n : Bool} {A B : Option Addr} {a c b d : Nat} (h : Blk w g t #[.bool n, .slice A a c, .slice B b d]) : w.cell? ⟨g, 0, none⟩ = some (.bool n) ∧ w.cell? ⟨g, 1, none⟩ = some (.slice A a c) ∧ w.cell? ⟨g, 2, none⟩ = some (.slice B b d) := ⟨h.f0, h.f1, h.f2⟩
set_option maxRecDepth 100000 in
set_option maxHeartbeats 4000000 in
theorem awake_any (w : World) : Calls Try.prog 11 #[] w (RetB true w) := by
  go_enter Try.func11, Try.ntmps11
  go_wp2_with fail
  refine (new_any 1 3 _ (by omega) (by omega) (by omega) (by omega) (by omega)).mono ?_
  rintro e w1 ⟨v1, rfl, ⟨n1, A1, ca1, la1, B1, cb1, lb1, rfl, na1, nb1, iq1⟩, b1⟩
  have fv1 : FV w1 (fracV n1 A1 la1.length ca1 B1 lb1.length cb1) (((1 : Int) : Rat) / ((3 : Int) : Rat)) := ⟨_, _, _, _, _, _, _, rfl, na1, nb1, iq1⟩
  clear na1 nb1 iq1
  have bT := b1
  obtain ⟨y1, hy1, by1, hlt1, hX1⟩ := boxed w1 #[.bool n1, .slice A1 la1.length ca1, .slice B1 lb1.length cb1] 25
  have bT := bT.trans (by1.mono bT.size)
  have fv1 := fv1.below by1
  go_wp2_with fail
  refine (new_any 1 6 _ (by omega) (by omega) (by omega) (by omega) (by omega)).mono ?_
  rintro e w2 ⟨v2, rfl, ⟨n2, A2, ca2, la2, B2, cb2, lb2, rfl, na2, nb2, iq2⟩, b2⟩
  have fv2 : FV w2 (fracV n2 A2 la2.length ca2 B2 lb2.length cb2) (((1 : Int) : Rat) / ((6 : Int) : Rat)) := ⟨_, _, _, _, _, _, _, rfl, na2, nb2, iq2⟩
  clear na2 nb2 iq2
  have bT := bT.trans (b2.mono bT.size)
  have hX1 := hX1.keep b2
  have fv1 := fv1.below b2
  obtain ⟨y2, hy2, by2, hlt2, hX2⟩ := boxed w2 #[.bool n2, .slice A2 la2.length ca2, .slice B2 lb2.length cb2] 25
  have bT := bT.trans (by2.mono bT.size)
  have hX1 := hX1.keep by2
  have fv1 := fv1.below by2
  have fv2 := fv2.below by2
  go_wp2_with fail
  refine (new_any 1 2 _ (by omega) (by omega) (by omega) (by omega) (by omega)).mono ?_
  rintro e w3 ⟨v3, rfl, ⟨n3, A3, ca3, la3, B3, cb3, lb3, rfl, na3, nb3, iq3⟩, b3⟩
  have fv3 : FV w3 (fracV n3 A3 la3.length ca3 B3 lb3.length cb3) (((1 : Int) : Rat) / ((2 : Int) : Rat)) := ⟨_, _, _, _, _, _, _, rfl, na3, nb3, iq3⟩
  clear na3 nb3 iq3
  have bT := bT.trans (b3.mono bT.size)
  have hX1 := hX1.keep b3
  have hX2 := hX2.keep b3
  have fv1 := fv1.below b3
  have fv2 := fv2.below b3
  obtain ⟨y3, hy3, by3, hlt3, hX3⟩ := boxed w3 #[.bool n3, .slice A3 la3.length ca3, .slice B3 lb3.length cb3] 25
  have bT := bT.trans (by3.mono bT.size)
  have hX1 := hX1.keep by3
  have hX2 := hX2.keep by3
  have fv1 := fv1.below by3
  have fv2 := fv2.below by3
  have fv3 := fv3.below by3
  go_wp2_with fail
  refine (new_zero 1 _ (by omega) (by omega)).mono ?_
  rintro e w4 ⟨rfl, b4⟩
  have bT := bT.trans (b4.mono bT.size)
  have hX1 := hX1.keep b4
  have hX2 := hX2.keep b4
  have hX3 := hX3.keep b4
  have fv1 := fv1.below b4
  have fv2 := fv2.below b4
  have fv3 := fv3.below b4
  obtain ⟨y4, hy4, by4, hlt4, hZ4⟩ := boxed w4 #[.bool false, .slice none 0 0, .slice none 0 0] 25
  have bT := bT.trans (by4.mono bT.size)
  have hX1 := hX1.keep by4
  have hX2 := hX2.keep by4
  have hX3 := hX3.keep by4
  have fv1 := fv1.below by4
  have fv2 := fv2.below by4
  have fv3 := fv3.below by4
  have za4 := hZ4.f0
  have zb4 := hZ4.f1
  have zc4 := hZ4.f2
  have zf40 := hZ4.free 0
  have zf41 := hZ4.free 1
  have zf42 := hZ4.free 2
  have zs40 := hZ4.same (i := 0) (u := .bool false) rfl
  have zs41 := hZ4.same (i := 1) (u := .slice none 0 0) rfl
  have zs42 := hZ4.same (i := 2) (u := .slice none 0 0) rfl
  obtain ⟨c3a, c3b, c3c⟩ := blk_fv hX3
  go_wp2_with fail
  clear za4 zb4 zc4 zf40 zf41 zf42 zs40 zs41 zs42 c3a c3b c3c
  refine (neg_any fv3 (k := 1) ⟨by decide +kernel, by decide +kernel⟩ (by omega)).mono ?_
  rintro e wn ⟨vn, rfl, fvn, bn⟩
  have bT := bT.trans (bn.mono bT.size)
  have hX1 := hX1.keep bn
  have hX2 := hX2.keep bn
  have hX3 := hX3.keep bn
  have fv1 := fv1.below bn
  have fv2 := fv2.below bn
  have fv3 := fv3.below bn
  go_wp2_with fail
  refine (floorF_any fvn (k := 1) ⟨by decide +kernel, by decide +kernel⟩ (by omega)).mono ?_
  rintro e wf ⟨rfl, bf⟩
  have hfl : inR (decide ((-(((1 : Int) : Rat) / ((2 : Int) : Rat))).num < 0)) (rndN false (-(((1 : Int) : Rat) / ((2 : Int) : Rat)))) = true := by decide +kernel
  have hfz : sg (decide ((-(((1 : Int) : Rat) / ((2 : Int) : Rat))).num < 0)) (rndN false (-(((1 : Int) : Rat) / ((2 : Int) : Rat)))) = -1 := by decide +kernel
  rw [hfl, if_pos rfl, hfz]
  clear hfl hfz fvn
  have bT := bT.trans (bf.mono bT.size)
  have hX1 := hX1.keep bf
  have hX2 := hX2.keep bf
  have hX3 := hX3.keep bf
  have fv1 := fv1.below bf
  have fv2 := fv2.below bf
  have fv3 := fv3.below bf
  go_wp2_with fail
  refine (parseF_any _ _ (by decide)).mono ?_
  rintro e w5 hp5
  obtain ⟨rfl, b5⟩ := retPF_24 hp5 (by decide +kernel)
  clear hp5
  have bT := bT.trans (b5.mono bT.size)
  have hX1 := hX1.keep b5
  have hX2 := hX2.keep b5
  have hX3 := hX3.keep b5
  have fv1 := fv1.below b5
  have fv2 := fv2.below b5
  have fv3 := fv3.below b5
  obtain ⟨y5, hy5, by5, hlt5, hZ5⟩ := boxed w5 #[.bool false, .slice none 0 0, .slice none 0 0] 25
  have bT := bT.trans (by5.mono bT.size)
  have hX1 := hX1.keep by5
  have hX2 := hX2.keep by5
  have hX3 := hX3.keep by5
  have fv1 := fv1.below by5
  have fv2 := fv2.below by5
  have fv3 := fv3.below by5
  have za5 := hZ5.f0
  have zb5 := hZ5.f1
  have zc5 := hZ5.f2
  have zf50 := hZ5.free 0
  have zf51 := hZ5.free 1
  have zf52 := hZ5.free 2
  have zs50 := hZ5.same (i := 0) (u := .bool false) rfl
  have zs51 := hZ5.same (i := 1) (u := .slice none 0 0) rfl
  have zs52 := hZ5.same (i := 2) (u := .slice none 0 0) rfl
  go_wp2_with fail
  refine (new_any 6 (-4) _ (by omega) (by omega) (by omega) (by omega) (by omega)).mono ?_
  rintro e w6 ⟨v6, rfl, ⟨n6, A6, ca6, la6, B6, cb6, lb6, rfl, na6, nb6, iq6⟩, b6⟩
  have fv6 : FV w6 (fracV n6 A6 la6.length ca6 B6 lb6.length cb6) (((6 : Int) : Rat) / (((-4) : Int) : Rat)) := ⟨_, _, _, _, _, _, _, rfl, na6, nb6, iq6⟩
  clear na6 nb6 iq6
  have bT := bT.trans (b6.mono bT.size)
  have hX1 := hX1.keep b6
  have hX2 := hX2.keep b6
  have hX3 := hX3.keep b6
  have fv1 := fv1.below b6
  have fv2 := fv2.below b6
  have fv3 := fv3.below b6
  obtain ⟨y6, hy6, by6, hlt6, hX6⟩ := boxed w6 #[.bool n6, .slice A6 la6.length ca6, .slice B6 lb6.length cb6] 25
  have bT := bT.trans (by6.mono bT.size)
  have hX1 := hX1.keep by6
  have hX2 := hX2.keep by6
  have hX3 := hX3.keep by6
  have fv1 := fv1.below by6
  have fv2 := fv2.below by6
  have fv3 := fv3.below by6
  have fv6 := fv6.below by6
  clear za5 zb5 zc5 zf50 zf51 zf52 zs50 zs51 zs52
  obtain ⟨c1a, c1b, c1c⟩ := blk_fv hX1
  obtain ⟨c2a, c2b, c2c⟩ := blk_fv hX2
  obtain ⟨c3a, c3b, c3c⟩ := blk_fv hX3
  obtain ⟨c6a, c6b, c6c⟩ := blk_fv hX6
  have hS : ∀ w', Below y6.heap.size y6 w' → w'.cell? ⟨w1.heap.size, 0, none⟩ = some (.bool n1) ∧ w'.cell? ⟨w1.heap.size, 1, none⟩ = some (.slice A1 la1.length ca1) ∧ w'.cell? ⟨w1.heap.size, 2, none⟩ = some (.slice B1 lb1.length cb1) ∧ w'.cell? ⟨w2.heap.size, 0, none⟩ = some (.bool n2) ∧ w'.cell? ⟨w2.heap.size, 1, none⟩ = some (.slice A2 la2.length ca2) ∧ w'.cell? ⟨w2.heap.size, 2, none⟩ = some (.slice B2 lb2.length cb2) ∧ w'.cell? ⟨w3.heap.size, 0, none⟩ = some (.bool n3) ∧ w'.cell? ⟨w3.heap.size, 1, none⟩ = some (.slice A3 la3.length ca3) ∧ w'.cell? ⟨w3.heap.size, 2, none⟩ = some (.slice B3 lb3.length cb3) ∧ w'.cell? ⟨w6.heap.size, 0, none⟩ = some (.bool n6) ∧ w'.cell? ⟨w6.heap.size, 1, none⟩ = some (.slice A6 la6.length ca6) ∧ w'.cell? ⟨w6.heap.size, 2, none⟩ = some (.slice B6 lb6.length cb6) ∧ Below y6.heap.size y6 w' := fun w' o =>
    ⟨(hX1.keep o).f0, (hX1.keep o).f1, (hX1.keep o).f2, (hX2.keep o).f0, (hX2.keep o).f1, (hX2.keep o).f2, (hX3.keep o).f0, (hX3.keep o).f1, (hX3.keep o).f2, (hX6.keep o).f0, (hX6.keep o).f1, (hX6.keep o).f2, o⟩
  have hf1 : Fits 1 (((1 : Int) : Rat) / ((3 : Int) : Rat)) := ⟨by decide +kernel, by decide +kernel⟩
  have hf2 : Fits 1 (((1 : Int) : Rat) / ((6 : Int) : Rat)) := ⟨by decide +kernel, by decide +kernel⟩
  have hf6 : Fits 1 (((6 : Int) : Rat) / (((-4) : Int) : Rat)) := ⟨by decide +kernel, by decide +kernel⟩
  have d6 : Below y6.heap.size y6 y6.drew := (Below.refl _ _).drew
  have k1 : decide ((((1 : Int) : Rat) / ((3 : Int) : Rat)) + (((1 : Int) : Rat) / ((6 : Int) : Rat)) = ((1 : Int) : Rat) / ((2 : Int) : Rat)) = true := by decide +kernel
  have k2 : fmtQ (((6 : Int) : Rat) / ((-4 : Int) : Rat)) = ⟨#[45, 51, 47, 50]⟩ := by decide +kernel
  have k3 : cmpR (((6 : Int) : Rat) / ((-4 : Int) : Rat)) (((1 : Int) : Rat) / ((3 : Int) : Rat)) = -1 := by decide +kernel
  have k1' := Lib.hid k1
  have k2' := Lib.hid k2
  have k3' := Lib.hid k3
  clear k1 k2 k3
  go_wp2_with fail
  go_region_held3 (fun w' => w'.cell? ⟨w1.heap.size, 0, none⟩ = some (.bool n1) ∧ w'.cell? ⟨w1.heap.size, 1, none⟩ = some (.slice A1 la1.length ca1) ∧ w'.cell? ⟨w1.heap.size, 2, none⟩ = some (.slice B1 lb1.length cb1) ∧ w'.cell? ⟨w2.heap.size, 0, none⟩ = some (.bool n2) ∧ w'.cell? ⟨w2.heap.size, 1, none⟩ = some (.slice A2 la2.length ca2) ∧ w'.cell? ⟨w2.heap.size, 2, none⟩ = some (.slice B2 lb2.length cb2) ∧ w'.cell? ⟨w3.heap.size, 0, none⟩ = some (.bool n3) ∧ w'.cell? ⟨w3.heap.size, 1, none⟩ = some (.slice A3 la3.length ca3) ∧ w'.cell? ⟨w3.heap.size, 2, none⟩ = some (.slice B3 lb3.length cb3) ∧ w'.cell? ⟨w6.heap.size, 0, none⟩ = some (.bool n6) ∧ w'.cell? ⟨w6.heap.size, 1, none⟩ = some (.slice A6 la6.length ca6) ∧ w'.cell? ⟨w6.heap.size, 2, none⟩ = some (.slice B6 lb6.length cb6) ∧ Below y6.heap.size y6 w') (((try go_split_ands); (try dsimp only); exact hS _ (by assumption))) (first
    | (go_at_call 28; go_split_ands; (with_reducible refine (addF_any (j := 1) (k := 1) (fv1.below (by assumption)) (fv2.below (by assumption)) hf1 hf2 (by omega)).mono ?_); rintro e wa ⟨va, rfl, fva, ba⟩; have o7 := (show Below y6.heap.size y6 _ by assumption).trans (ba.mono (show Below y6.heap.size y6 _ by assumption).size))
    | (go_at_call 16; go_split_ands; (with_reducible refine (sameQ_any fva (fv3.below (by assumption))).mono ?_); rintro e wb ⟨rfl, bb⟩; rw [k1'.out]; have o8 := (show Below y6.heap.size y6 _ by assumption).trans (bb.mono (show Below y6.heap.size y6 _ by assumption).size))
    | (go_at_call 12; go_split_ands; (with_reducible refine (formatF_any (k := 1) (fv6.below (by assumption)) hf6 (by omega)).mono ?_); rintro e wc ⟨rfl, bc⟩; rw [k2'.out]; have o9 := (show Below y6.heap.size y6 _ by assumption).trans (bc.mono (show Below y6.heap.size y6 _ by assumption).size))
    | (go_at_call 37; go_split_ands; (with_reducible refine (cmpF_any (j := 1) (k := 1) (fv6.below (by assumption)) (fv1.below (by assumption)) hf6 hf1 (by omega) (by omega)).mono ?_); rintro e wd ⟨rfl, bd⟩; rw [k3'.out]; have o10 := (show Below y6.heap.size y6 _ by assumption).trans (bd.mono (show Below y6.heap.size y6 _ by assumption).size)))
  go_wp2
  go_ret
  exact ⟨rfl, bT.trans (o10.mono bT.size)⟩
end Go.Proofs.Ytghpcimeobmonaa
