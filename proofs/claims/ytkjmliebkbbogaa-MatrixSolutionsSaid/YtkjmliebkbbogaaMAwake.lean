/- L17 awake: what the call does. -/
import Derived.Test.YtkjmliebkbbogaaMInts
import Derived.Test.YtkjmliebkbbogaaMSolv
import Derived.Test.YtkjmliebkbbogaaMRk
import Derived.Test.YtkjmliebkbbogaaMSame
import Derived.Deep.RegionHeld3
namespace Go.Proofs.Ytkjmliebkbbogaa
set_option linter.unusedVariables false
set_option linter.unusedSimpArgs false
open Go.RowKit Plain
attribute [local go_sem ↓] Go.wp_at_zero Go.wp_at_succ

theorem i64_ok {zs : List Int} (h : zs.all (fun z => decide (-9223372036854775808 ≤ z) && decide (z ≤ 9223372036854775807)) = true) : ∀ z ∈ zs, -9223372036854775808 ≤ z ∧ z ≤ 9223372036854775807 := fun z hz => by
  have := List.all_eq_true.1 h z hz
  simpa using this
theorem len_of {ds : List FrD} {qs : List Rat} (h : ds.map FrD.q = qs) : ds.length = qs.length := by rw [← h, List.length_map]
/-- Fractions of small integers. -/
def ofI (zs : List Int) : List Rat := zs.map fun z : Int => (z : Rat)
def ofM (zss : List (List Int)) : Mat := zss.map ofI
theorem qfits_ofI {zs : List Int} (h : zs.all (fun z => decide (-9223372036854775808 ≤ z) && decide (z ≤ 9223372036854775807)) = true) : QFits 4 (ofI zs) := fun q hq => by
  obtain ⟨z, hz, rfl⟩ := List.mem_map.1 hq
  have := List.all_eq_true.1 h z hz
  simp at this
  exact fits_int4 this.1 this.2
theorem mfits_ofM {zss : List (List Int)} (h : zss.all (fun zs => zs.all (fun z => decide (-9223372036854775808 ≤ z) && decide (z ≤ 9223372036854775807))) = true) : MFits 4 (ofM zss) := fun r hr => by
  obtain ⟨zs, hz, rfl⟩ := List.mem_map.1 hr
  exact qfits_ofI (List.all_eq_true.1 h zs hz)
set_option maxRecDepth 100000 in
set_option maxHeartbeats 40000000 in
theorem awake17_any (w : World) : Calls Try.prog 13 #[] w (RetB true w) := by
  have bT := Below.refl w.heap.size w
  go_enter Try.func13, Try.ntmps13
  obtain ⟨y1, hy1, by1, ly1, By1⟩ := boxed w #[.int .i64 (1), .int .i64 (1)] 2
  replace bT := bT.trans (by1.mono bT.size)
  have ili1 := Blk.il (zs := [1, 1]) By1
  clear By1
  go_wp2_with fail
  refine (ints17_any (zs := [1, 1]) ili1 (i64_ok (by decide)) (by decide) (by decide) (by decide)).mono ?_
  rintro e y2 ⟨Ai1, ci1, di1, rfl, Li1, Qi1, by2⟩
  replace ili1 := ili1.below by2
  replace bT := bT.trans (by2.mono bT.size)
  clear ili1
  have gi1 := len_of Qi1.out
  simp only [List.length_map, List.length_cons, List.length_nil] at gi1
  replace gi1 := Lib.hid gi1
  replace Qi1 : Hid (di1.map FrD.q = ofI [1, 1]) := Qi1
  obtain ⟨y3, hy3, by3, ly3, By3⟩ := boxed y2 #[.int .i64 (1), .int .i64 (-1)] 2
  replace Li1 := Li1.below by3
  replace bT := bT.trans (by3.mono bT.size)
  have ili2 := Blk.il (zs := [1, -1]) By3
  clear By3
  go_wp2_with fail
  refine (ints17_any (zs := [1, -1]) ili2 (i64_ok (by decide)) (by decide) (by decide) (by decide)).mono ?_
  rintro e y4 ⟨Ai2, ci2, di2, rfl, Li2, Qi2, by4⟩
  replace Li1 := Li1.below by4
  replace ili2 := ili2.below by4
  replace bT := bT.trans (by4.mono bT.size)
  clear ili2
  have gi2 := len_of Qi2.out
  simp only [List.length_map, List.length_cons, List.length_nil] at gi2
  replace gi2 := Lib.hid gi2
  replace Qi2 : Hid (di2.map FrD.q = ofI [1, -1]) := Qi2
  obtain ⟨y5, hy5, by5, ly5, By5⟩ := boxed y4 #[.slice Ai1 di1.length ci1, .slice Ai2 di2.length ci2] 23
  replace Li1 := Li1.below by5
  replace Li2 := Li2.below by5
  replace bT := bT.trans (by5.mono bT.size)
  have m3 : ML y5 (some ⟨y4.heap.size, 0, none⟩) 2 ([⟨Ai1, ci1, di1⟩, ⟨Ai2, ci2, di2⟩] : List RwD) := ArrM.ml (rows := [⟨Ai1, ci1, di1⟩, ⟨Ai2, ci2, di2⟩]) By5 (fun r hr => by
    simp only [List.mem_cons, List.not_mem_nil, or_false] at hr
    rcases hr with rfl | rfl
    · exact Li1
    · exact Li2) (by simp)
  have qm3 := Lib.hid (show qsM ([⟨Ai1, ci1, di1⟩, ⟨Ai2, ci2, di2⟩] : List RwD) = ofM [[1, 1], [1, -1]] by
    show [di1.map FrD.q, di2.map FrD.q] = _
    rw [Qi1.out, Qi2.out]; rfl)
  clear By5
  obtain ⟨y6, hy6, by6, ly6, By6⟩ := boxed y5 #[.int .i64 (3), .int .i64 (1)] 2
  replace m3 := m3.below by6
  replace bT := bT.trans (by6.mono bT.size)
  have ili4 := Blk.il (zs := [3, 1]) By6
  clear By6
  go_wp2_with fail
  refine (ints17_any (zs := [3, 1]) ili4 (i64_ok (by decide)) (by decide) (by decide) (by decide)).mono ?_
  rintro e y7 ⟨Ai4, ci4, di4, rfl, Li4, Qi4, by7⟩
  replace m3 := m3.below by7
  replace ili4 := ili4.below by7
  replace bT := bT.trans (by7.mono bT.size)
  clear ili4
  have gi4 := len_of Qi4.out
  simp only [List.length_map, List.length_cons, List.length_nil] at gi4
  replace gi4 := Lib.hid gi4
  replace Qi4 : Hid (di4.map FrD.q = ofI [3, 1]) := Qi4
  have hc5v := Lib.hid (show solveS (qsM ([⟨Ai1, ci1, di1⟩, ⟨Ai2, ci2, di2⟩] : List RwD)) (di4.map FrD.q) = (ofI [2, 1], 0) by
    rw [qm3.out, Qi4.out]; decide +kernel)
  have hc5 := solve_any m3 Li4 (by rw [qm3.out]; exact mfits_ofM (by decide)) (by rw [Qi4.out]; exact qfits_ofI (by decide)) (by rw [qm3.out]; decide +kernel) (by simp) (by rw [qm3.out]; decide +kernel)
  rw [hc5v.out] at hc5
  go_wp2_with fail
  refine (hc5).mono ?_
  rintro e y8 ⟨As6, cs6, ds6, rfl, Ls6, Qs6, by8⟩
  replace m3 := m3.below by8
  replace Li4 := Li4.below by8
  replace bT := bT.trans (by8.mono bT.size)
  clear hc5 m3 Li4
  obtain ⟨y9, hy9, by9, ly9, By9⟩ := boxed y8 #[.int .i64 (1), .int .i64 (1)] 2
  replace Ls6 := Ls6.below by9
  replace bT := bT.trans (by9.mono bT.size)
  have ili7 := Blk.il (zs := [1, 1]) By9
  clear By9
  go_wp2_with fail
  refine (ints17_any (zs := [1, 1]) ili7 (i64_ok (by decide)) (by decide) (by decide) (by decide)).mono ?_
  rintro e y10 ⟨Ai7, ci7, di7, rfl, Li7, Qi7, by10⟩
  replace Ls6 := Ls6.below by10
  replace ili7 := ili7.below by10
  replace bT := bT.trans (by10.mono bT.size)
  clear ili7
  have gi7 := len_of Qi7.out
  simp only [List.length_map, List.length_cons, List.length_nil] at gi7
  replace gi7 := Lib.hid gi7
  replace Qi7 : Hid (di7.map FrD.q = ofI [1, 1]) := Qi7
  obtain ⟨y11, hy11, by11, ly11, By11⟩ := boxed y10 #[.int .i64 (2), .int .i64 (2)] 2
  replace Ls6 := Ls6.below by11
  replace Li7 := Li7.below by11
  replace bT := bT.trans (by11.mono bT.size)
  have ili8 := Blk.il (zs := [2, 2]) By11
  clear By11
  go_wp2_with fail
  refine (ints17_any (zs := [2, 2]) ili8 (i64_ok (by decide)) (by decide) (by decide) (by decide)).mono ?_
  rintro e y12 ⟨Ai8, ci8, di8, rfl, Li8, Qi8, by12⟩
  replace Ls6 := Ls6.below by12
  replace Li7 := Li7.below by12
  replace ili8 := ili8.below by12
  replace bT := bT.trans (by12.mono bT.size)
  clear ili8
  have gi8 := len_of Qi8.out
  simp only [List.length_map, List.length_cons, List.length_nil] at gi8
  replace gi8 := Lib.hid gi8
  replace Qi8 : Hid (di8.map FrD.q = ofI [2, 2]) := Qi8
  obtain ⟨y13, hy13, by13, ly13, By13⟩ := boxed y12 #[.slice Ai7 di7.length ci7, .slice Ai8 di8.length ci8] 23
  replace Ls6 := Ls6.below by13
  replace Li7 := Li7.below by13
  replace Li8 := Li8.below by13
  replace bT := bT.trans (by13.mono bT.size)
  have m9 : ML y13 (some ⟨y12.heap.size, 0, none⟩) 2 ([⟨Ai7, ci7, di7⟩, ⟨Ai8, ci8, di8⟩] : List RwD) := ArrM.ml (rows := [⟨Ai7, ci7, di7⟩, ⟨Ai8, ci8, di8⟩]) By13 (fun r hr => by
    simp only [List.mem_cons, List.not_mem_nil, or_false] at hr
    rcases hr with rfl | rfl
    · exact Li7
    · exact Li8) (by simp)
  have qm9 := Lib.hid (show qsM ([⟨Ai7, ci7, di7⟩, ⟨Ai8, ci8, di8⟩] : List RwD) = ofM [[1, 1], [2, 2]] by
    show [di7.map FrD.q, di8.map FrD.q] = _
    rw [Qi7.out, Qi8.out]; rfl)
  clear By13
  obtain ⟨y14, hy14, by14, ly14, By14⟩ := boxed y13 #[.int .i64 (1), .int .i64 (3)] 2
  replace Ls6 := Ls6.below by14
  replace m9 := m9.below by14
  replace bT := bT.trans (by14.mono bT.size)
  have ili10 := Blk.il (zs := [1, 3]) By14
  clear By14
  go_wp2_with fail
  refine (ints17_any (zs := [1, 3]) ili10 (i64_ok (by decide)) (by decide) (by decide) (by decide)).mono ?_
  rintro e y15 ⟨Ai10, ci10, di10, rfl, Li10, Qi10, by15⟩
  replace Ls6 := Ls6.below by15
  replace m9 := m9.below by15
  replace ili10 := ili10.below by15
  replace bT := bT.trans (by15.mono bT.size)
  clear ili10
  have gi10 := len_of Qi10.out
  simp only [List.length_map, List.length_cons, List.length_nil] at gi10
  replace gi10 := Lib.hid gi10
  replace Qi10 : Hid (di10.map FrD.q = ofI [1, 3]) := Qi10
  have hc11v := Lib.hid (show solveS (qsM ([⟨Ai7, ci7, di7⟩, ⟨Ai8, ci8, di8⟩] : List RwD)) (di10.map FrD.q) = ([], 6) by
    rw [qm9.out, Qi10.out]; decide +kernel)
  have hc11 := solve_any m9 Li10 (by rw [qm9.out]; exact mfits_ofM (by decide)) (by rw [Qi10.out]; exact qfits_ofI (by decide)) (by rw [qm9.out]; decide +kernel) (by simp) (by rw [qm9.out]; decide +kernel)
  rw [hc11v.out] at hc11
  go_wp2_with fail
  refine (hc11).mono ?_
  rintro e y16 ⟨As12, cs12, ds12, rfl, Ls12, Qs12, by16⟩
  replace Ls6 := Ls6.below by16
  replace m9 := m9.below by16
  replace Li10 := Li10.below by16
  replace bT := bT.trans (by16.mono bT.size)
  clear hc11 m9 Li10
  obtain ⟨y17, hy17, by17, ly17, By17⟩ := boxed y16 #[.int .i64 (2), .int .i64 (4)] 2
  replace Ls6 := Ls6.below by17
  replace Ls12 := Ls12.below by17
  replace bT := bT.trans (by17.mono bT.size)
  have ili13 := Blk.il (zs := [2, 4]) By17
  clear By17
  go_wp2_with fail
  refine (ints17_any (zs := [2, 4]) ili13 (i64_ok (by decide)) (by decide) (by decide) (by decide)).mono ?_
  rintro e y18 ⟨Ai13, ci13, di13, rfl, Li13, Qi13, by18⟩
  replace Ls6 := Ls6.below by18
  replace Ls12 := Ls12.below by18
  replace ili13 := ili13.below by18
  replace bT := bT.trans (by18.mono bT.size)
  clear ili13
  have gi13 := len_of Qi13.out
  simp only [List.length_map, List.length_cons, List.length_nil] at gi13
  replace gi13 := Lib.hid gi13
  replace Qi13 : Hid (di13.map FrD.q = ofI [2, 4]) := Qi13
  obtain ⟨y19, hy19, by19, ly19, By19⟩ := boxed y18 #[.int .i64 (3), .int .i64 (5)] 2
  replace Ls6 := Ls6.below by19
  replace Ls12 := Ls12.below by19
  replace Li13 := Li13.below by19
  replace bT := bT.trans (by19.mono bT.size)
  have ili14 := Blk.il (zs := [3, 5]) By19
  clear By19
  go_wp2_with fail
  refine (ints17_any (zs := [3, 5]) ili14 (i64_ok (by decide)) (by decide) (by decide) (by decide)).mono ?_
  rintro e y20 ⟨Ai14, ci14, di14, rfl, Li14, Qi14, by20⟩
  replace Ls6 := Ls6.below by20
  replace Ls12 := Ls12.below by20
  replace Li13 := Li13.below by20
  replace ili14 := ili14.below by20
  replace bT := bT.trans (by20.mono bT.size)
  clear ili14
  have gi14 := len_of Qi14.out
  simp only [List.length_map, List.length_cons, List.length_nil] at gi14
  replace gi14 := Lib.hid gi14
  replace Qi14 : Hid (di14.map FrD.q = ofI [3, 5]) := Qi14
  obtain ⟨y21, hy21, by21, ly21, By21⟩ := boxed y20 #[.slice Ai13 di13.length ci13, .slice Ai14 di14.length ci14] 23
  replace Ls6 := Ls6.below by21
  replace Ls12 := Ls12.below by21
  replace Li13 := Li13.below by21
  replace Li14 := Li14.below by21
  replace bT := bT.trans (by21.mono bT.size)
  have m15 : ML y21 (some ⟨y20.heap.size, 0, none⟩) 2 ([⟨Ai13, ci13, di13⟩, ⟨Ai14, ci14, di14⟩] : List RwD) := ArrM.ml (rows := [⟨Ai13, ci13, di13⟩, ⟨Ai14, ci14, di14⟩]) By21 (fun r hr => by
    simp only [List.mem_cons, List.not_mem_nil, or_false] at hr
    rcases hr with rfl | rfl
    · exact Li13
    · exact Li14) (by simp)
  have qm15 := Lib.hid (show qsM ([⟨Ai13, ci13, di13⟩, ⟨Ai14, ci14, di14⟩] : List RwD) = ofM [[2, 4], [3, 5]] by
    show [di13.map FrD.q, di14.map FrD.q] = _
    rw [Qi13.out, Qi14.out]; rfl)
  clear By21
  have hc16v := Lib.hid (show pivS (qsM ([⟨Ai13, ci13, di13⟩, ⟨Ai14, ci14, di14⟩] : List RwD)) 0 0 = (ofM [[1, 2], [0, -1]], 0) by
    rw [qm15.out]; decide +kernel)
  have hc16 := pivotS_any (x := 0) (y := 0) m15 (by rw [qm15.out]; exact mfits_ofM (by decide)) (by decide) (by simp) (by rw [qm15.out]; decide +kernel) (by decide) (by decide)
  rw [hc16v.out] at hc16
  go_wp2_with fail
  refine (hc16).mono ?_
  rintro e y22 ⟨Ap, cp, rp, rfl, Lp, Qp, by22⟩
  replace Ls6 := Ls6.below by22
  replace Ls12 := Ls12.below by22
  replace m15 := m15.below by22
  replace bT := bT.trans (by22.mono bT.size)
  clear hc16 m15
  have hc17v := Lib.hid (show newS 301 1 = ([], 4) by
    decide +kernel)
  have hc17 := newS_any (x := 301) (y := 1) (w := y22) (by decide) (by decide)
  rw [hc17v.out] at hc17
  go_wp2_with fail
  refine (hc17).mono ?_
  rintro e y23 ⟨An, cn, rn, rfl, Ln, Qn, by23⟩
  replace Ls6 := Ls6.below by23
  replace Ls12 := Ls12.below by23
  replace Lp := Lp.below by23
  replace bT := bT.trans (by23.mono bT.size)
  clear hc17
  obtain ⟨y24, hy24, by24, ly24, By24⟩ := boxed y23 #[.int .i64 (2), .int .i64 (1)] 2
  replace Ls6 := Ls6.below by24
  replace Ls12 := Ls12.below by24
  replace Lp := Lp.below by24
  replace bT := bT.trans (by24.mono bT.size)
  have ili18 := Blk.il (zs := [2, 1]) By24
  clear By24
  go_wp2_with fail
  refine (ints17_any (zs := [2, 1]) ili18 (i64_ok (by decide)) (by decide) (by decide) (by decide)).mono ?_
  rintro e y25 ⟨Ai18, ci18, di18, rfl, Li18, Qi18, by25⟩
  replace Ls6 := Ls6.below by25
  replace Ls12 := Ls12.below by25
  replace Lp := Lp.below by25
  replace ili18 := ili18.below by25
  replace bT := bT.trans (by25.mono bT.size)
  clear ili18
  have gi18 := len_of Qi18.out
  simp only [List.length_map, List.length_cons, List.length_nil] at gi18
  replace gi18 := Lib.hid gi18
  replace Qi18 : Hid (di18.map FrD.q = ofI [2, 1]) := Qi18
  have hc19v := Lib.hid (show decide (ds6.map FrD.q = di18.map FrD.q) = true by
    rw [Qs6.out, Qi18.out]; decide +kernel)
  have hc19 := same17_any Ls6 Li18
  rw [hc19v.out] at hc19
  go_wp2_with fail
  refine (hc19).mono ?_
  rintro e y26 ⟨rfl, by26⟩
  replace Ls6 := Ls6.below by26
  replace Ls12 := Ls12.below by26
  replace Lp := Lp.below by26
  replace Li18 := Li18.below by26
  replace bT := bT.trans (by26.mono bT.size)
  clear hc19
  obtain ⟨y27, hy27, by27, ly27, By27⟩ := boxed y26 #[.int .i64 (1), .int .i64 (2)] 2
  replace Ls6 := Ls6.below by27
  replace Ls12 := Ls12.below by27
  replace Lp := Lp.below by27
  replace Li18 := Li18.below by27
  replace bT := bT.trans (by27.mono bT.size)
  have ili20 := Blk.il (zs := [1, 2]) By27
  clear By27
  go_wp2_with fail
  refine (ints17_any (zs := [1, 2]) ili20 (i64_ok (by decide)) (by decide) (by decide) (by decide)).mono ?_
  rintro e y28 ⟨Ai20, ci20, di20, rfl, Li20, Qi20, by28⟩
  replace Ls6 := Ls6.below by28
  replace Ls12 := Ls12.below by28
  replace Lp := Lp.below by28
  replace Li18 := Li18.below by28
  replace ili20 := ili20.below by28
  replace bT := bT.trans (by28.mono bT.size)
  clear ili20
  have gi20 := len_of Qi20.out
  simp only [List.length_map, List.length_cons, List.length_nil] at gi20
  replace gi20 := Lib.hid gi20
  replace Qi20 : Hid (di20.map FrD.q = ofI [1, 2]) := Qi20
  obtain ⟨y29, hy29, by29, ly29, By29⟩ := boxed y28 #[.int .i64 (0), .int .i64 (-1)] 2
  replace Ls6 := Ls6.below by29
  replace Ls12 := Ls12.below by29
  replace Lp := Lp.below by29
  replace Li18 := Li18.below by29
  replace Li20 := Li20.below by29
  replace bT := bT.trans (by29.mono bT.size)
  have ili21 := Blk.il (zs := [0, -1]) By29
  clear By29
  go_wp2_with fail
  refine (ints17_any (zs := [0, -1]) ili21 (i64_ok (by decide)) (by decide) (by decide) (by decide)).mono ?_
  rintro e y30 ⟨Ai21, ci21, di21, rfl, Li21, Qi21, by30⟩
  replace Ls6 := Ls6.below by30
  replace Ls12 := Ls12.below by30
  replace Lp := Lp.below by30
  replace Li18 := Li18.below by30
  replace Li20 := Li20.below by30
  replace ili21 := ili21.below by30
  replace bT := bT.trans (by30.mono bT.size)
  clear ili21
  have gi21 := len_of Qi21.out
  simp only [List.length_map, List.length_cons, List.length_nil] at gi21
  replace gi21 := Lib.hid gi21
  replace Qi21 : Hid (di21.map FrD.q = ofI [0, -1]) := Qi21
  obtain ⟨y31, hy31, by31, ly31, By31⟩ := boxed y30 #[.slice Ai20 di20.length ci20, .slice Ai21 di21.length ci21] 23
  replace Ls6 := Ls6.below by31
  replace Ls12 := Ls12.below by31
  replace Lp := Lp.below by31
  replace Li18 := Li18.below by31
  replace Li20 := Li20.below by31
  replace Li21 := Li21.below by31
  replace bT := bT.trans (by31.mono bT.size)
  have m22 : ML y31 (some ⟨y30.heap.size, 0, none⟩) 2 ([⟨Ai20, ci20, di20⟩, ⟨Ai21, ci21, di21⟩] : List RwD) := ArrM.ml (rows := [⟨Ai20, ci20, di20⟩, ⟨Ai21, ci21, di21⟩]) By31 (fun r hr => by
    simp only [List.mem_cons, List.not_mem_nil, or_false] at hr
    rcases hr with rfl | rfl
    · exact Li20
    · exact Li21) (by simp)
  have qm22 := Lib.hid (show qsM ([⟨Ai20, ci20, di20⟩, ⟨Ai21, ci21, di21⟩] : List RwD) = ofM [[1, 2], [0, -1]] by
    show [di20.map FrD.q, di21.map FrD.q] = _
    rw [Qi20.out, Qi21.out]; rfl)
  clear By31
  have hc23v := Lib.hid (show decide (qsM rp = qsM ([⟨Ai20, ci20, di20⟩, ⟨Ai21, ci21, di21⟩] : List RwD)) = true by
    rw [Qp.out, qm22.out]; decide +kernel)
  have hc23 := sames17_any Lp m22
  rw [hc23v.out] at hc23
  go_wp2_with fail
  refine (hc23).mono ?_
  rintro e y32 ⟨rfl, by32⟩
  replace Ls6 := Ls6.below by32
  replace Ls12 := Ls12.below by32
  replace Lp := Lp.below by32
  replace Li18 := Li18.below by32
  replace m22 := m22.below by32
  replace bT := bT.trans (by32.mono bT.size)
  clear hc23
  obtain ⟨y33, hy33, by33, ly33, By33⟩ := boxed y32 #[.int .i64 (1), .int .i64 (2)] 2
  replace Ls6 := Ls6.below by33
  replace Ls12 := Ls12.below by33
  replace Lp := Lp.below by33
  replace Li18 := Li18.below by33
  replace m22 := m22.below by33
  replace bT := bT.trans (by33.mono bT.size)
  have ili24 := Blk.il (zs := [1, 2]) By33
  clear By33
  go_wp2_with fail
  refine (ints17_any (zs := [1, 2]) ili24 (i64_ok (by decide)) (by decide) (by decide) (by decide)).mono ?_
  rintro e y34 ⟨Ai24, ci24, di24, rfl, Li24, Qi24, by34⟩
  replace Ls6 := Ls6.below by34
  replace Ls12 := Ls12.below by34
  replace Lp := Lp.below by34
  replace Li18 := Li18.below by34
  replace m22 := m22.below by34
  replace ili24 := ili24.below by34
  replace bT := bT.trans (by34.mono bT.size)
  clear ili24
  have gi24 := len_of Qi24.out
  simp only [List.length_map, List.length_cons, List.length_nil] at gi24
  replace gi24 := Lib.hid gi24
  replace Qi24 : Hid (di24.map FrD.q = ofI [1, 2]) := Qi24
  obtain ⟨y35, hy35, by35, ly35, By35⟩ := boxed y34 #[.int .i64 (3), .int .i64 (4)] 2
  replace Ls6 := Ls6.below by35
  replace Ls12 := Ls12.below by35
  replace Lp := Lp.below by35
  replace Li18 := Li18.below by35
  replace m22 := m22.below by35
  replace Li24 := Li24.below by35
  replace bT := bT.trans (by35.mono bT.size)
  have ili25 := Blk.il (zs := [3, 4]) By35
  clear By35
  go_wp2_with fail
  refine (ints17_any (zs := [3, 4]) ili25 (i64_ok (by decide)) (by decide) (by decide) (by decide)).mono ?_
  rintro e y36 ⟨Ai25, ci25, di25, rfl, Li25, Qi25, by36⟩
  replace Ls6 := Ls6.below by36
  replace Ls12 := Ls12.below by36
  replace Lp := Lp.below by36
  replace Li18 := Li18.below by36
  replace m22 := m22.below by36
  replace Li24 := Li24.below by36
  replace ili25 := ili25.below by36
  replace bT := bT.trans (by36.mono bT.size)
  clear ili25
  have gi25 := len_of Qi25.out
  simp only [List.length_map, List.length_cons, List.length_nil] at gi25
  replace gi25 := Lib.hid gi25
  replace Qi25 : Hid (di25.map FrD.q = ofI [3, 4]) := Qi25
  obtain ⟨y37, hy37, by37, ly37, By37⟩ := boxed y36 #[.slice Ai24 di24.length ci24, .slice Ai25 di25.length ci25] 23
  replace Ls6 := Ls6.below by37
  replace Ls12 := Ls12.below by37
  replace Lp := Lp.below by37
  replace Li18 := Li18.below by37
  replace m22 := m22.below by37
  replace Li24 := Li24.below by37
  replace Li25 := Li25.below by37
  replace bT := bT.trans (by37.mono bT.size)
  have m26 : ML y37 (some ⟨y36.heap.size, 0, none⟩) 2 ([⟨Ai24, ci24, di24⟩, ⟨Ai25, ci25, di25⟩] : List RwD) := ArrM.ml (rows := [⟨Ai24, ci24, di24⟩, ⟨Ai25, ci25, di25⟩]) By37 (fun r hr => by
    simp only [List.mem_cons, List.not_mem_nil, or_false] at hr
    rcases hr with rfl | rfl
    · exact Li24
    · exact Li25) (by simp)
  have qm26 := Lib.hid (show qsM ([⟨Ai24, ci24, di24⟩, ⟨Ai25, ci25, di25⟩] : List RwD) = ofM [[1, 2], [3, 4]] by
    show [di24.map FrD.q, di25.map FrD.q] = _
    rw [Qi24.out, Qi25.out]; rfl)
  clear By37
  obtain ⟨y38, hy38, by38, ly38, By38⟩ := boxed y37 #[.int .i64 (1), .int .i64 (1)] 2
  replace Ls6 := Ls6.below by38
  replace Ls12 := Ls12.below by38
  replace Lp := Lp.below by38
  replace Li18 := Li18.below by38
  replace m22 := m22.below by38
  replace m26 := m26.below by38
  replace bT := bT.trans (by38.mono bT.size)
  have ili27 := Blk.il (zs := [1, 1]) By38
  clear By38
  go_wp2_with fail
  refine (ints17_any (zs := [1, 1]) ili27 (i64_ok (by decide)) (by decide) (by decide) (by decide)).mono ?_
  rintro e y39 ⟨Ai27, ci27, di27, rfl, Li27, Qi27, by39⟩
  replace Ls6 := Ls6.below by39
  replace Ls12 := Ls12.below by39
  replace Lp := Lp.below by39
  replace Li18 := Li18.below by39
  replace m22 := m22.below by39
  replace m26 := m26.below by39
  replace ili27 := ili27.below by39
  replace bT := bT.trans (by39.mono bT.size)
  clear ili27
  have gi27 := len_of Qi27.out
  simp only [List.length_map, List.length_cons, List.length_nil] at gi27
  replace gi27 := Lib.hid gi27
  replace Qi27 : Hid (di27.map FrD.q = ofI [1, 1]) := Qi27
  have hc28v := Lib.hid (show timesS (qsM ([⟨Ai24, ci24, di24⟩, ⟨Ai25, ci25, di25⟩] : List RwD)) (di27.map FrD.q) = ofI [3, 7] by
    rw [qm26.out, Qi27.out]; decide +kernel)
  have hc28 := times_any m26 Li27 (by rw [qm26.out]; exact mfits_ofM (by decide)) (by rw [Qi27.out]; exact qfits_ofI (by decide)) (by rw [gi27.out]; decide) (by simp)
  rw [hc28v.out] at hc28
  go_wp2_with fail
  refine (hc28).mono ?_
  rintro e y40 ⟨At, ct, dt, rfl, Lt, Qt, by40⟩
  replace Ls6 := Ls6.below by40
  replace Ls12 := Ls12.below by40
  replace Lp := Lp.below by40
  replace Li18 := Li18.below by40
  replace m22 := m22.below by40
  replace m26 := m26.below by40
  replace Li27 := Li27.below by40
  replace bT := bT.trans (by40.mono bT.size)
  clear hc28
  obtain ⟨y41, hy41, by41, ly41, By41⟩ := boxed y40 #[.int .i64 (3), .int .i64 (7)] 2
  replace Ls6 := Ls6.below by41
  replace Ls12 := Ls12.below by41
  replace Lp := Lp.below by41
  replace Li18 := Li18.below by41
  replace m22 := m22.below by41
  replace m26 := m26.below by41
  replace Li27 := Li27.below by41
  replace Lt := Lt.below by41
  replace bT := bT.trans (by41.mono bT.size)
  have ili29 := Blk.il (zs := [3, 7]) By41
  clear By41
  go_wp2_with fail
  refine (ints17_any (zs := [3, 7]) ili29 (i64_ok (by decide)) (by decide) (by decide) (by decide)).mono ?_
  rintro e y42 ⟨Ai29, ci29, di29, rfl, Li29, Qi29, by42⟩
  replace Ls6 := Ls6.below by42
  replace Ls12 := Ls12.below by42
  replace Lp := Lp.below by42
  replace Li18 := Li18.below by42
  replace m22 := m22.below by42
  replace m26 := m26.below by42
  replace Li27 := Li27.below by42
  replace Lt := Lt.below by42
  replace ili29 := ili29.below by42
  replace bT := bT.trans (by42.mono bT.size)
  clear ili29
  have gi29 := len_of Qi29.out
  simp only [List.length_map, List.length_cons, List.length_nil] at gi29
  replace gi29 := Lib.hid gi29
  replace Qi29 : Hid (di29.map FrD.q = ofI [3, 7]) := Qi29
  have hc30v := Lib.hid (show decide (dt.map FrD.q = di29.map FrD.q) = true by
    rw [Qt.out, Qi29.out]; decide +kernel)
  have hc30 := same17_any Lt Li29
  rw [hc30v.out] at hc30
  go_wp2_with fail
  refine (hc30).mono ?_
  rintro e y43 ⟨rfl, by43⟩
  replace Ls6 := Ls6.below by43
  replace Ls12 := Ls12.below by43
  replace Lp := Lp.below by43
  replace Li18 := Li18.below by43
  replace m22 := m22.below by43
  replace m26 := m26.below by43
  replace Li27 := Li27.below by43
  replace Lt := Lt.below by43
  replace Li29 := Li29.below by43
  replace bT := bT.trans (by43.mono bT.size)
  clear hc30
  obtain ⟨y44, hy44, by44, ly44, By44⟩ := boxed y43 #[.int .i64 (1), .int .i64 (2)] 2
  replace Ls6 := Ls6.below by44
  replace Ls12 := Ls12.below by44
  replace Lp := Lp.below by44
  replace Li18 := Li18.below by44
  replace m22 := m22.below by44
  replace m26 := m26.below by44
  replace Li27 := Li27.below by44
  replace Lt := Lt.below by44
  replace Li29 := Li29.below by44
  replace bT := bT.trans (by44.mono bT.size)
  have ili31 := Blk.il (zs := [1, 2]) By44
  clear By44
  go_wp2_with fail
  refine (ints17_any (zs := [1, 2]) ili31 (i64_ok (by decide)) (by decide) (by decide) (by decide)).mono ?_
  rintro e y45 ⟨Ai31, ci31, di31, rfl, Li31, Qi31, by45⟩
  replace Ls6 := Ls6.below by45
  replace Ls12 := Ls12.below by45
  replace Lp := Lp.below by45
  replace Li18 := Li18.below by45
  replace m22 := m22.below by45
  replace m26 := m26.below by45
  replace Li27 := Li27.below by45
  replace Lt := Lt.below by45
  replace Li29 := Li29.below by45
  replace ili31 := ili31.below by45
  replace bT := bT.trans (by45.mono bT.size)
  clear ili31
  have gi31 := len_of Qi31.out
  simp only [List.length_map, List.length_cons, List.length_nil] at gi31
  replace gi31 := Lib.hid gi31
  replace Qi31 : Hid (di31.map FrD.q = ofI [1, 2]) := Qi31
  obtain ⟨y46, hy46, by46, ly46, By46⟩ := boxed y45 #[.slice Ai31 di31.length ci31] 23
  replace Ls6 := Ls6.below by46
  replace Ls12 := Ls12.below by46
  replace Lp := Lp.below by46
  replace Li18 := Li18.below by46
  replace m22 := m22.below by46
  replace m26 := m26.below by46
  replace Li27 := Li27.below by46
  replace Lt := Lt.below by46
  replace Li29 := Li29.below by46
  replace Li31 := Li31.below by46
  replace bT := bT.trans (by46.mono bT.size)
  have m32 : ML y46 (some ⟨y45.heap.size, 0, none⟩) 1 ([⟨Ai31, ci31, di31⟩] : List RwD) := ArrM.ml (rows := [⟨Ai31, ci31, di31⟩]) By46 (fun r hr => by
    simp only [List.mem_cons, List.not_mem_nil, or_false] at hr
    rcases hr with rfl
    · exact Li31) (by simp)
  have qm32 := Lib.hid (show qsM ([⟨Ai31, ci31, di31⟩] : List RwD) = ofM [[1, 2]] by
    show [di31.map FrD.q] = _
    rw [Qi31.out]; rfl)
  clear By46
  have hc33v := Lib.hid (show nullS (qsM ([⟨Ai31, ci31, di31⟩] : List RwD)) = ofI [-2, 1] by
    rw [qm32.out]; decide +kernel)
  have hc33 := null_any m32 (by rw [qm32.out]; exact mfits_ofM (by decide)) (by rw [qm32.out]; decide +kernel) (by simp) (by rw [qm32.out]; decide +kernel)
  rw [hc33v.out] at hc33
  go_wp2_with fail
  refine (hc33).mono ?_
  rintro e y47 ⟨Au, cu, du, rfl, Lu, Qu, by47⟩
  replace Ls6 := Ls6.below by47
  replace Ls12 := Ls12.below by47
  replace Lp := Lp.below by47
  replace Li18 := Li18.below by47
  replace m22 := m22.below by47
  replace m26 := m26.below by47
  replace Li27 := Li27.below by47
  replace Lt := Lt.below by47
  replace Li29 := Li29.below by47
  replace m32 := m32.below by47
  replace bT := bT.trans (by47.mono bT.size)
  clear hc33
  obtain ⟨y48, hy48, by48, ly48, By48⟩ := boxed y47 #[.int .i64 (-2), .int .i64 (1)] 2
  replace Ls6 := Ls6.below by48
  replace Ls12 := Ls12.below by48
  replace Lp := Lp.below by48
  replace Li18 := Li18.below by48
  replace m22 := m22.below by48
  replace m26 := m26.below by48
  replace Li27 := Li27.below by48
  replace Lt := Lt.below by48
  replace Li29 := Li29.below by48
  replace m32 := m32.below by48
  replace Lu := Lu.below by48
  replace bT := bT.trans (by48.mono bT.size)
  have ili34 := Blk.il (zs := [-2, 1]) By48
  clear By48
  go_wp2_with fail
  refine (ints17_any (zs := [-2, 1]) ili34 (i64_ok (by decide)) (by decide) (by decide) (by decide)).mono ?_
  rintro e y49 ⟨Ai34, ci34, di34, rfl, Li34, Qi34, by49⟩
  replace Ls6 := Ls6.below by49
  replace Ls12 := Ls12.below by49
  replace Lp := Lp.below by49
  replace Li18 := Li18.below by49
  replace m22 := m22.below by49
  replace m26 := m26.below by49
  replace Li27 := Li27.below by49
  replace Lt := Lt.below by49
  replace Li29 := Li29.below by49
  replace m32 := m32.below by49
  replace Lu := Lu.below by49
  replace ili34 := ili34.below by49
  replace bT := bT.trans (by49.mono bT.size)
  clear ili34
  have gi34 := len_of Qi34.out
  simp only [List.length_map, List.length_cons, List.length_nil] at gi34
  replace gi34 := Lib.hid gi34
  replace Qi34 : Hid (di34.map FrD.q = ofI [-2, 1]) := Qi34
  have hc35v := Lib.hid (show decide (du.map FrD.q = di34.map FrD.q) = true by
    rw [Qu.out, Qi34.out]; decide +kernel)
  have hc35 := same17_any Lu Li34
  rw [hc35v.out] at hc35
  go_wp2_with fail
  refine (hc35).mono ?_
  rintro e y50 ⟨rfl, by50⟩
  replace Ls6 := Ls6.below by50
  replace Ls12 := Ls12.below by50
  replace Lp := Lp.below by50
  replace Li18 := Li18.below by50
  replace m22 := m22.below by50
  replace m26 := m26.below by50
  replace Li27 := Li27.below by50
  replace Lt := Lt.below by50
  replace Li29 := Li29.below by50
  replace m32 := m32.below by50
  replace Lu := Lu.below by50
  replace Li34 := Li34.below by50
  replace bT := bT.trans (by50.mono bT.size)
  clear hc35
  obtain ⟨y51, hy51, by51, ly51, By51⟩ := boxed y50 #[.int .i64 (1), .int .i64 (1)] 2
  replace Ls6 := Ls6.below by51
  replace Ls12 := Ls12.below by51
  replace Lp := Lp.below by51
  replace Li18 := Li18.below by51
  replace m22 := m22.below by51
  replace m26 := m26.below by51
  replace Li27 := Li27.below by51
  replace Lt := Lt.below by51
  replace Li29 := Li29.below by51
  replace m32 := m32.below by51
  replace Lu := Lu.below by51
  replace Li34 := Li34.below by51
  replace bT := bT.trans (by51.mono bT.size)
  have ili36 := Blk.il (zs := [1, 1]) By51
  clear By51
  go_wp2_with fail
  refine (ints17_any (zs := [1, 1]) ili36 (i64_ok (by decide)) (by decide) (by decide) (by decide)).mono ?_
  rintro e y52 ⟨Ai36, ci36, di36, rfl, Li36, Qi36, by52⟩
  replace Ls6 := Ls6.below by52
  replace Ls12 := Ls12.below by52
  replace Lp := Lp.below by52
  replace Li18 := Li18.below by52
  replace m22 := m22.below by52
  replace m26 := m26.below by52
  replace Li27 := Li27.below by52
  replace Lt := Lt.below by52
  replace Li29 := Li29.below by52
  replace m32 := m32.below by52
  replace Lu := Lu.below by52
  replace Li34 := Li34.below by52
  replace ili36 := ili36.below by52
  replace bT := bT.trans (by52.mono bT.size)
  clear ili36
  have gi36 := len_of Qi36.out
  simp only [List.length_map, List.length_cons, List.length_nil] at gi36
  replace gi36 := Lib.hid gi36
  replace Qi36 : Hid (di36.map FrD.q = ofI [1, 1]) := Qi36
  obtain ⟨y53, hy53, by53, ly53, By53⟩ := boxed y52 #[.int .i64 (2), .int .i64 (2)] 2
  replace Ls6 := Ls6.below by53
  replace Ls12 := Ls12.below by53
  replace Lp := Lp.below by53
  replace Li18 := Li18.below by53
  replace m22 := m22.below by53
  replace m26 := m26.below by53
  replace Li27 := Li27.below by53
  replace Lt := Lt.below by53
  replace Li29 := Li29.below by53
  replace m32 := m32.below by53
  replace Lu := Lu.below by53
  replace Li34 := Li34.below by53
  replace Li36 := Li36.below by53
  replace bT := bT.trans (by53.mono bT.size)
  have ili37 := Blk.il (zs := [2, 2]) By53
  clear By53
  go_wp2_with fail
  refine (ints17_any (zs := [2, 2]) ili37 (i64_ok (by decide)) (by decide) (by decide) (by decide)).mono ?_
  rintro e y54 ⟨Ai37, ci37, di37, rfl, Li37, Qi37, by54⟩
  replace Ls6 := Ls6.below by54
  replace Ls12 := Ls12.below by54
  replace Lp := Lp.below by54
  replace Li18 := Li18.below by54
  replace m22 := m22.below by54
  replace m26 := m26.below by54
  replace Li27 := Li27.below by54
  replace Lt := Lt.below by54
  replace Li29 := Li29.below by54
  replace m32 := m32.below by54
  replace Lu := Lu.below by54
  replace Li34 := Li34.below by54
  replace Li36 := Li36.below by54
  replace ili37 := ili37.below by54
  replace bT := bT.trans (by54.mono bT.size)
  clear ili37
  have gi37 := len_of Qi37.out
  simp only [List.length_map, List.length_cons, List.length_nil] at gi37
  replace gi37 := Lib.hid gi37
  replace Qi37 : Hid (di37.map FrD.q = ofI [2, 2]) := Qi37
  obtain ⟨y55, hy55, by55, ly55, By55⟩ := boxed y54 #[.slice Ai36 di36.length ci36, .slice Ai37 di37.length ci37] 23
  replace Ls6 := Ls6.below by55
  replace Ls12 := Ls12.below by55
  replace Lp := Lp.below by55
  replace Li18 := Li18.below by55
  replace m22 := m22.below by55
  replace m26 := m26.below by55
  replace Li27 := Li27.below by55
  replace Lt := Lt.below by55
  replace Li29 := Li29.below by55
  replace m32 := m32.below by55
  replace Lu := Lu.below by55
  replace Li34 := Li34.below by55
  replace Li36 := Li36.below by55
  replace Li37 := Li37.below by55
  replace bT := bT.trans (by55.mono bT.size)
  have m38 : ML y55 (some ⟨y54.heap.size, 0, none⟩) 2 ([⟨Ai36, ci36, di36⟩, ⟨Ai37, ci37, di37⟩] : List RwD) := ArrM.ml (rows := [⟨Ai36, ci36, di36⟩, ⟨Ai37, ci37, di37⟩]) By55 (fun r hr => by
    simp only [List.mem_cons, List.not_mem_nil, or_false] at hr
    rcases hr with rfl | rfl
    · exact Li36
    · exact Li37) (by simp)
  have qm38 := Lib.hid (show qsM ([⟨Ai36, ci36, di36⟩, ⟨Ai37, ci37, di37⟩] : List RwD) = ofM [[1, 1], [2, 2]] by
    show [di36.map FrD.q, di37.map FrD.q] = _
    rw [Qi36.out, Qi37.out]; rfl)
  clear By55
  have hc39v := Lib.hid (show rankS (qsM ([⟨Ai36, ci36, di36⟩, ⟨Ai37, ci37, di37⟩] : List RwD)) = 1 by
    rw [qm38.out]; decide +kernel)
  have hc39 := rank_any m38 (by rw [qm38.out]; exact mfits_ofM (by decide)) (by rw [qm38.out]; decide +kernel) (by simp) (by rw [qm38.out]; decide +kernel)
  rw [hc39v.out] at hc39
  go_wp2_with fail
  refine (hc39).mono ?_
  rintro e y56 ⟨rfl, by56⟩
  replace Ls6 := Ls6.below by56
  replace Ls12 := Ls12.below by56
  replace Lp := Lp.below by56
  replace Li18 := Li18.below by56
  replace m22 := m22.below by56
  replace m26 := m26.below by56
  replace Li27 := Li27.below by56
  replace Lt := Lt.below by56
  replace Li29 := Li29.below by56
  replace m32 := m32.below by56
  replace Lu := Lu.below by56
  replace Li34 := Li34.below by56
  replace m38 := m38.below by56
  replace bT := bT.trans (by56.mono bT.size)
  clear hc39
  obtain ⟨y57, hy57, by57, ly57, By57⟩ := boxed y56 #[.int .i64 (1), .int .i64 (2)] 2
  replace Ls6 := Ls6.below by57
  replace Ls12 := Ls12.below by57
  replace Lp := Lp.below by57
  replace Li18 := Li18.below by57
  replace m22 := m22.below by57
  replace m26 := m26.below by57
  replace Li27 := Li27.below by57
  replace Lt := Lt.below by57
  replace Li29 := Li29.below by57
  replace m32 := m32.below by57
  replace Lu := Lu.below by57
  replace Li34 := Li34.below by57
  replace m38 := m38.below by57
  replace bT := bT.trans (by57.mono bT.size)
  have ili40 := Blk.il (zs := [1, 2]) By57
  clear By57
  go_wp2_with fail
  refine (ints17_any (zs := [1, 2]) ili40 (i64_ok (by decide)) (by decide) (by decide) (by decide)).mono ?_
  rintro e y58 ⟨Ai40, ci40, di40, rfl, Li40, Qi40, by58⟩
  replace Ls6 := Ls6.below by58
  replace Ls12 := Ls12.below by58
  replace Lp := Lp.below by58
  replace Li18 := Li18.below by58
  replace m22 := m22.below by58
  replace m26 := m26.below by58
  replace Li27 := Li27.below by58
  replace Lt := Lt.below by58
  replace Li29 := Li29.below by58
  replace m32 := m32.below by58
  replace Lu := Lu.below by58
  replace Li34 := Li34.below by58
  replace m38 := m38.below by58
  replace ili40 := ili40.below by58
  replace bT := bT.trans (by58.mono bT.size)
  clear ili40
  have gi40 := len_of Qi40.out
  simp only [List.length_map, List.length_cons, List.length_nil] at gi40
  replace gi40 := Lib.hid gi40
  replace Qi40 : Hid (di40.map FrD.q = ofI [1, 2]) := Qi40
  obtain ⟨y59, hy59, by59, ly59, By59⟩ := boxed y58 #[.slice Ai40 di40.length ci40] 23
  replace Ls6 := Ls6.below by59
  replace Ls12 := Ls12.below by59
  replace Lp := Lp.below by59
  replace Li18 := Li18.below by59
  replace m22 := m22.below by59
  replace m26 := m26.below by59
  replace Li27 := Li27.below by59
  replace Lt := Lt.below by59
  replace Li29 := Li29.below by59
  replace m32 := m32.below by59
  replace Lu := Lu.below by59
  replace Li34 := Li34.below by59
  replace m38 := m38.below by59
  replace Li40 := Li40.below by59
  replace bT := bT.trans (by59.mono bT.size)
  have m41 : ML y59 (some ⟨y58.heap.size, 0, none⟩) 1 ([⟨Ai40, ci40, di40⟩] : List RwD) := ArrM.ml (rows := [⟨Ai40, ci40, di40⟩]) By59 (fun r hr => by
    simp only [List.mem_cons, List.not_mem_nil, or_false] at hr
    rcases hr with rfl
    · exact Li40) (by simp)
  have qm41 := Lib.hid (show qsM ([⟨Ai40, ci40, di40⟩] : List RwD) = ofM [[1, 2]] by
    show [di40.map FrD.q] = _
    rw [Qi40.out]; rfl)
  clear By59
  have hc42v := Lib.hid (show transS (qsM ([⟨Ai40, ci40, di40⟩] : List RwD)) = ofM [[1], [2]] by
    rw [qm41.out]; decide +kernel)
  have hc42 := trans_any m41 (by simp) (by rw [qm41.out]; decide +kernel)
  rw [hc42v.out] at hc42
  go_wp2_with fail
  refine (hc42).mono ?_
  rintro e y60 ⟨Av, cv, rv, rfl, Lv, Qv, by60⟩
  replace Ls6 := Ls6.below by60
  replace Ls12 := Ls12.below by60
  replace Lp := Lp.below by60
  replace Li18 := Li18.below by60
  replace m22 := m22.below by60
  replace m26 := m26.below by60
  replace Li27 := Li27.below by60
  replace Lt := Lt.below by60
  replace Li29 := Li29.below by60
  replace m32 := m32.below by60
  replace Lu := Lu.below by60
  replace Li34 := Li34.below by60
  replace m38 := m38.below by60
  replace m41 := m41.below by60
  replace bT := bT.trans (by60.mono bT.size)
  clear hc42
  obtain ⟨y61, hy61, by61, ly61, By61⟩ := boxed y60 #[.int .i64 (1)] 2
  replace Ls6 := Ls6.below by61
  replace Ls12 := Ls12.below by61
  replace Lp := Lp.below by61
  replace Li18 := Li18.below by61
  replace m22 := m22.below by61
  replace m26 := m26.below by61
  replace Li27 := Li27.below by61
  replace Lt := Lt.below by61
  replace Li29 := Li29.below by61
  replace m32 := m32.below by61
  replace Lu := Lu.below by61
  replace Li34 := Li34.below by61
  replace m38 := m38.below by61
  replace m41 := m41.below by61
  replace Lv := Lv.below by61
  replace bT := bT.trans (by61.mono bT.size)
  have ili43 := Blk.il (zs := [1]) By61
  clear By61
  go_wp2_with fail
  refine (ints17_any (zs := [1]) ili43 (i64_ok (by decide)) (by decide) (by decide) (by decide)).mono ?_
  rintro e y62 ⟨Ai43, ci43, di43, rfl, Li43, Qi43, by62⟩
  replace Ls6 := Ls6.below by62
  replace Ls12 := Ls12.below by62
  replace Lp := Lp.below by62
  replace Li18 := Li18.below by62
  replace m22 := m22.below by62
  replace m26 := m26.below by62
  replace Li27 := Li27.below by62
  replace Lt := Lt.below by62
  replace Li29 := Li29.below by62
  replace m32 := m32.below by62
  replace Lu := Lu.below by62
  replace Li34 := Li34.below by62
  replace m38 := m38.below by62
  replace m41 := m41.below by62
  replace Lv := Lv.below by62
  replace ili43 := ili43.below by62
  replace bT := bT.trans (by62.mono bT.size)
  clear ili43
  have gi43 := len_of Qi43.out
  simp only [List.length_map, List.length_cons, List.length_nil] at gi43
  replace gi43 := Lib.hid gi43
  replace Qi43 : Hid (di43.map FrD.q = ofI [1]) := Qi43
  obtain ⟨y63, hy63, by63, ly63, By63⟩ := boxed y62 #[.int .i64 (2)] 2
  replace Ls6 := Ls6.below by63
  replace Ls12 := Ls12.below by63
  replace Lp := Lp.below by63
  replace Li18 := Li18.below by63
  replace m22 := m22.below by63
  replace m26 := m26.below by63
  replace Li27 := Li27.below by63
  replace Lt := Lt.below by63
  replace Li29 := Li29.below by63
  replace m32 := m32.below by63
  replace Lu := Lu.below by63
  replace Li34 := Li34.below by63
  replace m38 := m38.below by63
  replace m41 := m41.below by63
  replace Lv := Lv.below by63
  replace Li43 := Li43.below by63
  replace bT := bT.trans (by63.mono bT.size)
  have ili44 := Blk.il (zs := [2]) By63
  clear By63
  go_wp2_with fail
  refine (ints17_any (zs := [2]) ili44 (i64_ok (by decide)) (by decide) (by decide) (by decide)).mono ?_
  rintro e y64 ⟨Ai44, ci44, di44, rfl, Li44, Qi44, by64⟩
  replace Ls6 := Ls6.below by64
  replace Ls12 := Ls12.below by64
  replace Lp := Lp.below by64
  replace Li18 := Li18.below by64
  replace m22 := m22.below by64
  replace m26 := m26.below by64
  replace Li27 := Li27.below by64
  replace Lt := Lt.below by64
  replace Li29 := Li29.below by64
  replace m32 := m32.below by64
  replace Lu := Lu.below by64
  replace Li34 := Li34.below by64
  replace m38 := m38.below by64
  replace m41 := m41.below by64
  replace Lv := Lv.below by64
  replace Li43 := Li43.below by64
  replace ili44 := ili44.below by64
  replace bT := bT.trans (by64.mono bT.size)
  clear ili44
  have gi44 := len_of Qi44.out
  simp only [List.length_map, List.length_cons, List.length_nil] at gi44
  replace gi44 := Lib.hid gi44
  replace Qi44 : Hid (di44.map FrD.q = ofI [2]) := Qi44
  obtain ⟨y65, hy65, by65, ly65, By65⟩ := boxed y64 #[.slice Ai43 di43.length ci43, .slice Ai44 di44.length ci44] 23
  replace Ls6 := Ls6.below by65
  replace Ls12 := Ls12.below by65
  replace Lp := Lp.below by65
  replace Li18 := Li18.below by65
  replace m22 := m22.below by65
  replace m26 := m26.below by65
  replace Li27 := Li27.below by65
  replace Lt := Lt.below by65
  replace Li29 := Li29.below by65
  replace m32 := m32.below by65
  replace Lu := Lu.below by65
  replace Li34 := Li34.below by65
  replace m38 := m38.below by65
  replace m41 := m41.below by65
  replace Lv := Lv.below by65
  replace Li43 := Li43.below by65
  replace Li44 := Li44.below by65
  replace bT := bT.trans (by65.mono bT.size)
  have m45 : ML y65 (some ⟨y64.heap.size, 0, none⟩) 2 ([⟨Ai43, ci43, di43⟩, ⟨Ai44, ci44, di44⟩] : List RwD) := ArrM.ml (rows := [⟨Ai43, ci43, di43⟩, ⟨Ai44, ci44, di44⟩]) By65 (fun r hr => by
    simp only [List.mem_cons, List.not_mem_nil, or_false] at hr
    rcases hr with rfl | rfl
    · exact Li43
    · exact Li44) (by simp)
  have qm45 := Lib.hid (show qsM ([⟨Ai43, ci43, di43⟩, ⟨Ai44, ci44, di44⟩] : List RwD) = ofM [[1], [2]] by
    show [di43.map FrD.q, di44.map FrD.q] = _
    rw [Qi43.out, Qi44.out]; rfl)
  clear By65
  have hc46v := Lib.hid (show decide (qsM rv = qsM ([⟨Ai43, ci43, di43⟩, ⟨Ai44, ci44, di44⟩] : List RwD)) = true by
    rw [Qv.out, qm45.out]; decide +kernel)
  have hc46 := sames17_any Lv m45
  rw [hc46v.out] at hc46
  go_wp2_with fail
  refine (hc46).mono ?_
  rintro e y66 ⟨rfl, by66⟩
  replace Ls6 := Ls6.below by66
  replace Ls12 := Ls12.below by66
  replace Lp := Lp.below by66
  replace Li18 := Li18.below by66
  replace m22 := m22.below by66
  replace m26 := m26.below by66
  replace Li27 := Li27.below by66
  replace Lt := Lt.below by66
  replace Li29 := Li29.below by66
  replace m32 := m32.below by66
  replace Lu := Lu.below by66
  replace Li34 := Li34.below by66
  replace m38 := m38.below by66
  replace m41 := m41.below by66
  replace Lv := Lv.below by66
  replace m45 := m45.below by66
  replace bT := bT.trans (by66.mono bT.size)
  clear hc46
  go_wp2
  go_ret
  exact ⟨rfl, bT⟩
end Go.Proofs.Ytkjmliebkbbogaa
