/- The statement FractionMakes of the given program: the law returns true for every input, and writes nothing that was there. The walk is proved over the contracts of the functions it calls. -/
import Derived.Test.YtghpcimeobmonaaRows
import Derived.Test.YtghpcimeobmonaaLShort
import Derived.Test.YtghpcimeobmonaaLAwake
import Derived.WalkKit
import Derived.ProofKit
import Derived.OpenShut
import Derived.ShutString
import Derived.ChangeOld
import Derived.Below
namespace Go.Proofs.Ytghpcimeobmonaa.fractionMakes
open Go.ChangeShapes Go.WideShapes Go.ChangeAt Go.RowKit
open Plain
open Go.ChangeMaps (open_string shut_string)
set_option linter.unusedVariables false
set_option linter.unusedSimpArgs false

theorem own : ownKnob Try.prog.godebug = none := by kernel_rfl
theorem laidOut : laidOutB Try.prog = true := by kernel_rfl

theorem i64_bd {n : Int} (h : (Lit.int .i64 n).wf = true) : -9223372036854775808 ≤ n ∧ n ≤ 9223372036854775807 := by
  simp [Lit.wf, IntKind.min, IntKind.max, IntKind.signed, IntKind.bits] at h
  omega
theorem eq_self (q : Rat) : decide (q = q) = true := decide_eq_true rfl
theorem refNatural_eq {A : Option Addr} {c : Nat} {l : List Nat} {w : World} (h : Nv w A c l) (b : Bool) (hb : validL l = b) :
    Calls Try.prog 21 #[.slice A l.length c] w fun e w' => e = .returned (.bool b) ∧ w = w' := by
  subst hb; exact refNatural_any h
set_option maxRecDepth 100000 in
set_option maxHeartbeats 2000000 in
theorem walk (a0 : Int) (a1 : Int) (a2 : Bool) (A3 : Option Addr) (c3 : Nat) (l3 : List Nat) (A4 : Option Addr) (c4 : Nat) (l4 : List Nat) (w : World) (w0 : (Lit.int .i64 a0).wf = true) (w1 : (Lit.int .i64 a1).wf = true)  (w3 : InRow w A3 c3 l3) (w4 : InRow w A4 c4 l4) :
    Calls Try.prog 4 #[.int .i64 a0, .int .i64 a1, .bool a2, .slice A3 l3.length c3, .slice A4 l4.length c4] w fun e w' => e = .returned (.bool true) ∧ Below w.heap.size w w' := by
  have bd0 := i64_bd w0
  have bd1 := i64_bd w1
  have r3 := w3
  have r4 := w4
  have g3 := w3.big
  have g4 := w4.big
  clear w0 w1 w3 w4
  go_enter Try.func4, Try.ntmps4
  by_cases hz : a1 = 0
  · subst hz
    go_wp2_with fail
    refine (new_zero a0 _ bd0.1 bd0.2).mono ?_
    rintro e w1 ⟨rfl, b1⟩
    obtain ⟨y1, hy1, by1, hlt1, hZ1⟩ := boxed w1 #[.bool false, .slice none 0 0, .slice none 0 0] 25
    have za1 := hZ1.f0
    have zb1 := hZ1.f1
    have zc1 := hZ1.f2
    have zf10 := hZ1.free 0
    have zf11 := hZ1.free 1
    have zf12 := hZ1.free 2
    have zs10 := hZ1.same (i := 0) (u := .bool false) rfl
    have zs11 := hZ1.same (i := 1) (u := .slice none 0 0) rfl
    have zs12 := hZ1.same (i := 2) (u := .slice none 0 0) rfl
    have b01 := b1.trans (by1.mono b1.size)
    go_wp2_with fail
    refine (refNew_zero a0 _ bd0.1 bd0.2).mono ?_
    rintro e w2 ⟨rfl, b2⟩
    clear za1 zb1 zc1 zf10 zf11 zf12 zs10 zs11 zs12
    have b02 := b01.trans (b2.mono b01.size)
    obtain ⟨y2, hy2, by2, hlt2, hZ2⟩ := boxed w2 #[.bool false, .slice none 0 0, .slice none 0 0] 25
    have za2 := hZ2.f0
    have zb2 := hZ2.f1
    have zc2 := hZ2.f2
    have zf20 := hZ2.free 0
    have zf21 := hZ2.free 1
    have zf22 := hZ2.free 2
    have zs20 := hZ2.same (i := 0) (u := .bool false) rfl
    have zs21 := hZ2.same (i := 1) (u := .slice none 0 0) rfl
    have zs22 := hZ2.same (i := 2) (u := .slice none 0 0) rfl
    have b03 := b02.trans (by2.mono b02.size)
    clear b1 b2 b01 b02
    go_wp2_with fail
    refine (fromInt_any a0 _ bd0.1 bd0.2).mono ?_
    clear za2 zb2 zc2 zf20 zf21 zf22 zs20 zs21 zs22
    rintro e w5 ⟨v5, rfl, ⟨n5, A5, ca5, la5, B5, cb5, lb5, rfl, na5, nb5, iq5⟩, b5⟩
    have fv5 : FV w5 (fracV n5 A5 la5.length ca5 B5 lb5.length cb5) ((a0 : Rat)) := ⟨_, _, _, _, _, _, _, rfl, na5, nb5, iq5⟩
    clear na5 nb5 iq5
    have b05 := b03.trans (b5.mono b03.size)
    go_wp2_with fail
    refine (refFromInt_any a0 _ bd0.1 bd0.2).mono ?_
    rintro e w6 ⟨v6, rfl, ⟨n6, A6, ca6, la6, B6, cb6, lb6, rfl, na6, nb6, iq6⟩, b6⟩
    have fv6 : FV w6 (fracV n6 A6 la6.length ca6 B6 lb6.length cb6) ((a0 : Rat)) := ⟨_, _, _, _, _, _, _, rfl, na6, nb6, iq6⟩
    clear na6 nb6 iq6
    have b06 := b05.trans (b6.mono b05.size)
    go_wp2_with fail
    refine (sameQ_any (fv5.below b6) fv6).mono ?_
    rintro e w7 ⟨rfl, b7⟩
    rw [eq_self]
    have b07 := b06.trans (b7.mono b06.size)
    clear b06 b05 b5 b6 b7 fv5 fv6
    by_cases h3 : l3.length ≤ 20
    · have d3 : decide ((20 : Int) < (l3.length : Int)) = false := decide_eq_false (by omega)
      by_cases h4 : l4.length ≤ 20
      · have d4 : decide ((20 : Int) < (l4.length : Int)) = false := decide_eq_false (by omega)
        have n3 := (r3.nv (by omega)).below b07
        have n4 := (r4.nv (by omega)).below b07
        by_cases hv3 : validL l3 = true
        · have hv3' := Lib.hid hv3
          clear hv3
          go_wp2_with fail
          refine (refNatural_eq n3 true hv3'.out).mono ?_
          rintro e w8 ⟨rfl, rfl⟩
          by_cases hv4 : validL l4 = true
          · have hv4' := Lib.hid hv4
            clear hv4
            go_wp2_with fail
            refine (refNatural_eq n4 true hv4'.out).mono ?_
            rintro e w8 ⟨rfl, rfl⟩
            have hc3 := Lib.hid (canon_of_validL hv3'.out)
            have hc4 := Lib.hid (canon_of_validL hv4'.out)
            clear d3 d4 r3 r4
            by_cases hd : val l4 = 0
            · obtain rfl : l4 = [] := ((show NatIs l4 (val l4) from ⟨n4.dig, hc4.out, rfl⟩).zero_iff).2 hd
              clear hd
              go_wp2_with fail
              refine (make_zero (neg := a2) (B := A4) (cb := c4)).mono ?_
              rintro e w9 ⟨rfl, b9⟩
              have b09 := b07.trans (b9.mono b07.size)
              obtain ⟨y9, hy9, by9, hlt9, hZ9⟩ := boxed w9 #[.bool false, .slice none 0 0, .slice none 0 0] 25
              have za9 := hZ9.f0
              have zb9 := hZ9.f1
              have zc9 := hZ9.f2
              have zf90 := hZ9.free 0
              have zf91 := hZ9.free 1
              have zf92 := hZ9.free 2
              have zs90 := hZ9.same (i := 0) (u := .bool false) rfl
              have zs91 := hZ9.same (i := 1) (u := .slice none 0 0) rfl
              have zs92 := hZ9.same (i := 2) (u := .slice none 0 0) rfl
              have c09 := b09.trans (by9.mono b09.size)
              go_wp2_with fail
              refine (refMake_zero (neg := a2) (B := A4) (cb := c4)).mono ?_
              rintro e w10 ⟨rfl, b10⟩
              clear za9 zb9 zc9 zf90 zf91 zf92 zs90 zs91 zs92
              have b010 := c09.trans (b10.mono c09.size)
              obtain ⟨y10, hy10, by10, hlt10, hZ10⟩ := boxed w10 #[.bool false, .slice none 0 0, .slice none 0 0] 25
              have za10 := hZ10.f0
              have zb10 := hZ10.f1
              have zc10 := hZ10.f2
              have zf100 := hZ10.free 0
              have zf101 := hZ10.free 1
              have zf102 := hZ10.free 2
              have zs100 := hZ10.same (i := 0) (u := .bool false) rfl
              have zs101 := hZ10.same (i := 1) (u := .slice none 0 0) rfl
              have zs102 := hZ10.same (i := 2) (u := .slice none 0 0) rfl
              have c010 := b010.trans (by10.mono b010.size)
              go_wp2_with fail
              refine (awake_any _).mono ?_
              rintro e wz ⟨rfl, bz⟩
              clear za10 zb10 zc10 zf100 zf101 zf102 zs100 zs101 zs102
              go_wp2
              go_ret
              exact ⟨rfl, c010.trans (bz.mono c010.size)⟩
            · go_wp2_with fail
              refine (make_any (neg := a2) n3 n4 hd (by omega) (by omega)).mono ?_
              rintro e w9 ⟨v9, rfl, ⟨n9, A9, ca9, la9, B9, cb9, lb9, rfl, na9, nb9, iq9⟩, b9⟩
              have fv9 : FV w9 (fracV n9 A9 la9.length ca9 B9 lb9.length cb9) (mkRat (sg a2 (val l3)) (val l4)) := ⟨_, _, _, _, _, _, _, rfl, na9, nb9, iq9⟩
              clear na9 nb9 iq9
              have b09 := b07.trans (b9.mono b07.size)
              obtain ⟨y9, hy9, by9, hlt9, hX9⟩ := boxed w9 #[.bool n9, .slice A9 la9.length ca9, .slice B9 lb9.length cb9] 25
              have c09 := b09.trans (by9.mono b09.size)
              have n39 := (n3.below b9).below by9
              have n49 := (n4.below b9).below by9
              go_wp2_with fail
              refine (refMake_any (neg := a2) n39 n49 hd hc3.out hc4.out (by omega) (by omega)).mono ?_
              rintro e w10 ⟨v10, rfl, ⟨n10, A10, ca10, la10, B10, cb10, lb10, rfl, na10, nb10, iq10⟩, b10⟩
              have fv10 : FV w10 (fracV n10 A10 la10.length ca10 B10 lb10.length cb10) (mkRat (sg a2 (val l3)) (val l4)) := ⟨_, _, _, _, _, _, _, rfl, na10, nb10, iq10⟩
              clear na10 nb10 iq10
              have b010 := c09.trans (b10.mono c09.size)
              obtain ⟨y10, hy10, by10, hlt10, hX10⟩ := boxed w10 #[.bool n10, .slice A10 la10.length ca10, .slice B10 lb10.length cb10] 25
              have c010 := b010.trans (by10.mono b010.size)
              have fw9 := ((fv9.below by9).below b10).below by10
              have fw10 := fv10.below by10
              have hX9' := (hX9.keep b10).keep by10
              have x0 := hX9'.f0
              have x1 := hX9'.f1
              have x2 := hX9'.f2
              have u0 := hX10.f0
              have u1 := hX10.f1
              have u2 := hX10.f2
              go_wp2_with fail
              refine (sameQ_any fw9 fw10).mono ?_
              rintro e w11 ⟨rfl, b11⟩
              rw [eq_self]
              have b011 := c010.trans (b11.mono c010.size)
              go_wp2_with fail
              refine (awake_any _).mono ?_
              rintro e wz ⟨rfl, bz⟩
              go_wp2
              go_ret
              exact ⟨rfl, b011.trans (bz.mono b011.size)⟩
          · have hv4' := Lib.hid (eq_false_of_ne_true hv4)
            clear hv4
            go_wp2_with fail
            refine (refNatural_eq n4 false hv4'.out).mono ?_
            rintro e w8 ⟨rfl, rfl⟩
            go_wp2_with fail
            refine (awake_any _).mono ?_
            rintro e wz ⟨rfl, bz⟩
            go_wp2
            go_ret
            exact ⟨rfl, b07.trans (bz.mono b07.size)⟩
        · have hv3' := Lib.hid (eq_false_of_ne_true hv3)
          clear hv3
          go_wp2_with fail
          refine (refNatural_eq n3 false hv3'.out).mono ?_
          rintro e w8 ⟨rfl, rfl⟩
          go_wp2_with fail
          refine (awake_any _).mono ?_
          rintro e wz ⟨rfl, bz⟩
          go_wp2
          go_ret
          exact ⟨rfl, b07.trans (bz.mono b07.size)⟩
      · have d4 : decide ((20 : Int) < (l4.length : Int)) = true := decide_eq_true (by omega)
        go_wp2_with fail
        refine (awake_any _).mono ?_
        rintro e wz ⟨rfl, bz⟩
        go_wp2
        go_ret
        exact ⟨rfl, b07.trans (bz.mono b07.size)⟩
    · have d3 : decide ((20 : Int) < (l3.length : Int)) = true := decide_eq_true (by omega)
      go_wp2_with fail
      refine (awake_any _).mono ?_
      rintro e wz ⟨rfl, bz⟩
      go_wp2
      go_ret
      exact ⟨rfl, b07.trans (bz.mono b07.size)⟩
  · go_wp2_with fail
    refine (new_any a0 a1 _ bd0.1 bd0.2 bd1.1 bd1.2 hz).mono ?_
    rintro e w1 ⟨v1, rfl, ⟨n1, A1, ca1, la1, B1, cb1, lb1, rfl, na1, nb1, iq1⟩, b1⟩
    have fv1 : FV w1 (fracV n1 A1 la1.length ca1 B1 lb1.length cb1) (((a0 : Int) : Rat) / ((a1 : Int) : Rat)) := ⟨_, _, _, _, _, _, _, rfl, na1, nb1, iq1⟩
    clear na1 nb1 iq1
    obtain ⟨y1, hy1, by1, hlt1, hX1⟩ := boxed w1 #[.bool n1, .slice A1 la1.length ca1, .slice B1 lb1.length cb1] 25
    have b01 := b1.trans (by1.mono b1.size)
    go_wp2_with fail
    refine (refNew_any a0 a1 _ bd0.1 bd0.2 bd1.1 bd1.2 hz).mono ?_
    rintro e w2 ⟨v2, rfl, ⟨n2, A2, ca2, la2, B2, cb2, lb2, rfl, na2, nb2, iq2⟩, b2⟩
    have fv2 : FV w2 (fracV n2 A2 la2.length ca2 B2 lb2.length cb2) (((a0 : Int) : Rat) / ((a1 : Int) : Rat)) := ⟨_, _, _, _, _, _, _, rfl, na2, nb2, iq2⟩
    clear na2 nb2 iq2
    have b02 := b01.trans (b2.mono b01.size)
    obtain ⟨y2, hy2, by2, hlt2, hX2⟩ := boxed w2 #[.bool n2, .slice A2 la2.length ca2, .slice B2 lb2.length cb2] 25
    have b03 := b02.trans (by2.mono b02.size)
    have fw1 := ((fv1.below by1).below b2).below by2
    have fw2 := fv2.below by2
    have hX1' := (hX1.keep b2).keep by2
    have x0 := hX1'.f0
    have x1 := hX1'.f1
    have x2 := hX1'.f2
    have u0 := hX2.f0
    have u1 := hX2.f1
    have u2 := hX2.f2
    clear b1 b2 b01 b02 fv1 fv2
    go_wp2_with fail
    refine (sameQ_any fw1 fw2).mono ?_
    rintro e w4 ⟨rfl, b4⟩
    rw [eq_self]
    have b04 := b03.trans (b4.mono b03.size)
    clear x0 x1 x2 u0 u1 u2 fw1 fw2 b03
    go_wp2_with fail
    refine (fromInt_any a0 _ bd0.1 bd0.2).mono ?_
    rintro e w5 ⟨v5, rfl, ⟨n5, A5, ca5, la5, B5, cb5, lb5, rfl, na5, nb5, iq5⟩, b5⟩
    have fv5 : FV w5 (fracV n5 A5 la5.length ca5 B5 lb5.length cb5) ((a0 : Rat)) := ⟨_, _, _, _, _, _, _, rfl, na5, nb5, iq5⟩
    clear na5 nb5 iq5
    have b05 := b04.trans (b5.mono b04.size)
    go_wp2_with fail
    refine (refFromInt_any a0 _ bd0.1 bd0.2).mono ?_
    rintro e w6 ⟨v6, rfl, ⟨n6, A6, ca6, la6, B6, cb6, lb6, rfl, na6, nb6, iq6⟩, b6⟩
    have fv6 : FV w6 (fracV n6 A6 la6.length ca6 B6 lb6.length cb6) ((a0 : Rat)) := ⟨_, _, _, _, _, _, _, rfl, na6, nb6, iq6⟩
    clear na6 nb6 iq6
    have b06 := b05.trans (b6.mono b05.size)
    go_wp2_with fail
    refine (sameQ_any (fv5.below b6) fv6).mono ?_
    rintro e w7 ⟨rfl, b7⟩
    rw [eq_self]
    have b07 := b06.trans (b7.mono b06.size)
    clear b06 b05 b5 b6 b7 fv5 fv6
    by_cases h3 : l3.length ≤ 20
    · have d3 : decide ((20 : Int) < (l3.length : Int)) = false := decide_eq_false (by omega)
      by_cases h4 : l4.length ≤ 20
      · have d4 : decide ((20 : Int) < (l4.length : Int)) = false := decide_eq_false (by omega)
        have n3 := (r3.nv (by omega)).below b07
        have n4 := (r4.nv (by omega)).below b07
        by_cases hv3 : validL l3 = true
        · have hv3' := Lib.hid hv3
          clear hv3
          go_wp2_with fail
          refine (refNatural_eq n3 true hv3'.out).mono ?_
          rintro e w8 ⟨rfl, rfl⟩
          by_cases hv4 : validL l4 = true
          · have hv4' := Lib.hid hv4
            clear hv4
            go_wp2_with fail
            refine (refNatural_eq n4 true hv4'.out).mono ?_
            rintro e w8 ⟨rfl, rfl⟩
            have hc3 := Lib.hid (canon_of_validL hv3'.out)
            have hc4 := Lib.hid (canon_of_validL hv4'.out)
            clear d3 d4 r3 r4
            by_cases hd : val l4 = 0
            · obtain rfl : l4 = [] := ((show NatIs l4 (val l4) from ⟨n4.dig, hc4.out, rfl⟩).zero_iff).2 hd
              clear hd
              go_wp2_with fail
              refine (make_zero (neg := a2) (B := A4) (cb := c4)).mono ?_
              rintro e w9 ⟨rfl, b9⟩
              have b09 := b07.trans (b9.mono b07.size)
              obtain ⟨y9, hy9, by9, hlt9, hZ9⟩ := boxed w9 #[.bool false, .slice none 0 0, .slice none 0 0] 25
              have za9 := hZ9.f0
              have zb9 := hZ9.f1
              have zc9 := hZ9.f2
              have zf90 := hZ9.free 0
              have zf91 := hZ9.free 1
              have zf92 := hZ9.free 2
              have zs90 := hZ9.same (i := 0) (u := .bool false) rfl
              have zs91 := hZ9.same (i := 1) (u := .slice none 0 0) rfl
              have zs92 := hZ9.same (i := 2) (u := .slice none 0 0) rfl
              have c09 := b09.trans (by9.mono b09.size)
              go_wp2_with fail
              refine (refMake_zero (neg := a2) (B := A4) (cb := c4)).mono ?_
              rintro e w10 ⟨rfl, b10⟩
              clear za9 zb9 zc9 zf90 zf91 zf92 zs90 zs91 zs92
              have b010 := c09.trans (b10.mono c09.size)
              obtain ⟨y10, hy10, by10, hlt10, hZ10⟩ := boxed w10 #[.bool false, .slice none 0 0, .slice none 0 0] 25
              have za10 := hZ10.f0
              have zb10 := hZ10.f1
              have zc10 := hZ10.f2
              have zf100 := hZ10.free 0
              have zf101 := hZ10.free 1
              have zf102 := hZ10.free 2
              have zs100 := hZ10.same (i := 0) (u := .bool false) rfl
              have zs101 := hZ10.same (i := 1) (u := .slice none 0 0) rfl
              have zs102 := hZ10.same (i := 2) (u := .slice none 0 0) rfl
              have c010 := b010.trans (by10.mono b010.size)
              go_wp2_with fail
              refine (awake_any _).mono ?_
              rintro e wz ⟨rfl, bz⟩
              clear za10 zb10 zc10 zf100 zf101 zf102 zs100 zs101 zs102
              go_wp2
              go_ret
              exact ⟨rfl, c010.trans (bz.mono c010.size)⟩
            · go_wp2_with fail
              refine (make_any (neg := a2) n3 n4 hd (by omega) (by omega)).mono ?_
              rintro e w9 ⟨v9, rfl, ⟨n9, A9, ca9, la9, B9, cb9, lb9, rfl, na9, nb9, iq9⟩, b9⟩
              have fv9 : FV w9 (fracV n9 A9 la9.length ca9 B9 lb9.length cb9) (mkRat (sg a2 (val l3)) (val l4)) := ⟨_, _, _, _, _, _, _, rfl, na9, nb9, iq9⟩
              clear na9 nb9 iq9
              have b09 := b07.trans (b9.mono b07.size)
              obtain ⟨y9, hy9, by9, hlt9, hX9⟩ := boxed w9 #[.bool n9, .slice A9 la9.length ca9, .slice B9 lb9.length cb9] 25
              have c09 := b09.trans (by9.mono b09.size)
              have n39 := (n3.below b9).below by9
              have n49 := (n4.below b9).below by9
              go_wp2_with fail
              refine (refMake_any (neg := a2) n39 n49 hd hc3.out hc4.out (by omega) (by omega)).mono ?_
              rintro e w10 ⟨v10, rfl, ⟨n10, A10, ca10, la10, B10, cb10, lb10, rfl, na10, nb10, iq10⟩, b10⟩
              have fv10 : FV w10 (fracV n10 A10 la10.length ca10 B10 lb10.length cb10) (mkRat (sg a2 (val l3)) (val l4)) := ⟨_, _, _, _, _, _, _, rfl, na10, nb10, iq10⟩
              clear na10 nb10 iq10
              have b010 := c09.trans (b10.mono c09.size)
              obtain ⟨y10, hy10, by10, hlt10, hX10⟩ := boxed w10 #[.bool n10, .slice A10 la10.length ca10, .slice B10 lb10.length cb10] 25
              have c010 := b010.trans (by10.mono b010.size)
              have fw9 := ((fv9.below by9).below b10).below by10
              have fw10 := fv10.below by10
              have hX9' := (hX9.keep b10).keep by10
              have x0 := hX9'.f0
              have x1 := hX9'.f1
              have x2 := hX9'.f2
              have u0 := hX10.f0
              have u1 := hX10.f1
              have u2 := hX10.f2
              go_wp2_with fail
              refine (sameQ_any fw9 fw10).mono ?_
              rintro e w11 ⟨rfl, b11⟩
              rw [eq_self]
              have b011 := c010.trans (b11.mono c010.size)
              go_wp2_with fail
              refine (awake_any _).mono ?_
              rintro e wz ⟨rfl, bz⟩
              go_wp2
              go_ret
              exact ⟨rfl, b011.trans (bz.mono b011.size)⟩
          · have hv4' := Lib.hid (eq_false_of_ne_true hv4)
            clear hv4
            go_wp2_with fail
            refine (refNatural_eq n4 false hv4'.out).mono ?_
            rintro e w8 ⟨rfl, rfl⟩
            go_wp2_with fail
            refine (awake_any _).mono ?_
            rintro e wz ⟨rfl, bz⟩
            go_wp2
            go_ret
            exact ⟨rfl, b07.trans (bz.mono b07.size)⟩
        · have hv3' := Lib.hid (eq_false_of_ne_true hv3)
          clear hv3
          go_wp2_with fail
          refine (refNatural_eq n3 false hv3'.out).mono ?_
          rintro e w8 ⟨rfl, rfl⟩
          go_wp2_with fail
          refine (awake_any _).mono ?_
          rintro e wz ⟨rfl, bz⟩
          go_wp2
          go_ret
          exact ⟨rfl, b07.trans (bz.mono b07.size)⟩
      · have d4 : decide ((20 : Int) < (l4.length : Int)) = true := decide_eq_true (by omega)
        go_wp2_with fail
        refine (awake_any _).mono ?_
        rintro e wz ⟨rfl, bz⟩
        go_wp2
        go_ret
        exact ⟨rfl, b07.trans (bz.mono b07.size)⟩
    · have d3 : decide ((20 : Int) < (l3.length : Int)) = true := decide_eq_true (by omega)
      go_wp2_with fail
      refine (awake_any _).mono ?_
      rintro e wz ⟨rfl, bz⟩
      go_wp2
      go_ret
      exact ⟨rfl, b07.trans (bz.mono b07.size)⟩

/-! ### THE ROW's STEP: WRITTEN OUT: LEAVE IT -/
set_option maxRecDepth 100000 in
theorem lifted (os : Os) (started : os.Started) (H : Type) (enc : TypeId × Value → H) :
    ReturnsInHanded {} Try.checked os 4 .any (Rows.fractionMakesSpec.pre6 enc Try.prog Try.f4 Rows.fractionMakesRow.domain false) (Rows.fractionMakesSpec.post enc Try.prog Try.f4 false true false false) := by
  refine returnsInHanded_of_change (C := Try.checked) own started (by kernel_rfl) Try.func4
    (ChangeSpec.witness6 (enc := enc) (C := Try.checked) false ⟨#[], #[.int .i64 0, .int .i64 0, .bool false, .slice none 0 0, .slice none 0 0], []⟩ 8 (by kernel_rfl) (by kernel_rfl) (by kernel_rfl) (by kernel_rfl)) ?_
  intro W base args ds gs before hval0 hW hcnd _
  have hval : ∀ (j : Nat) t v, Try.f4.params[j]? = some t → args[j]? = some v → Value.okWide Try.prog W .any base t v := hval0
  have hW' := hW
  obtain ⟨p, q, hA0, hV, rfl, hfz, hnd⟩ := hW
  have hA : DataW.TrodAll enc Try.prog W 0 (fun _ => true) true Try.f4.params.toList args.toList ds p := hA0
  rw [Try.params4] at hA hval
  obtain ⟨v0, vs0, d0, ds0, p0, q0, hargs, rfl, rfl, h0, r0⟩ := trodAll_cons hA
  obtain ⟨v1, vs1, d1, ds1, p1, q1, rfl, rfl, rfl, h1, r1⟩ := trodAll_cons r0
  obtain ⟨v2, vs2, d2, ds2, p2, q2, rfl, rfl, rfl, h2, r2⟩ := trodAll_cons r1
  obtain ⟨v3, vs3, d3, ds3, p3, q3, rfl, rfl, rfl, h3, r3⟩ := trodAll_cons r2
  obtain ⟨v4, vs4, d4, ds4, p4, q4, rfl, rfl, rfl, h4, r4⟩ := trodAll_cons r3
  obtain ⟨rfl, rfl, rfl⟩ := trodAll_nil r4
  obtain rfl : args = #[v0, v1, v2, v3, v4] := by cases args; simp_all
  obtain ⟨rfl, rfl⟩ := trodVars_none hV
  obtain ⟨a0, rfl, rfl, rfl, w0⟩ := open_int Try.underlying2 (hval 0 2 v0 rfl rfl) h0
  obtain ⟨a1, rfl, rfl, rfl, w1⟩ := open_int Try.underlying2 (hval 1 2 v1 rfl rfl) h1
  obtain ⟨a2, rfl, rfl, rfl⟩ := open_bool Try.underlying4 (hval 2 4 v2 rfl rfl) h2
  have k3 := h3
  have lt3 : ∀ x ∈ p3, x.block < W.heap.size := by obtain ⟨m, hm⟩ := k3; exact DataW.trod_lt m _ _ _ hm
  obtain ⟨A3, c3, l3, rfl, w3⟩ := open_natArg (hval 3 23 v3 rfl rfl) h3
  have k4 := h4
  have lt4 : ∀ x ∈ p4, x.block < W.heap.size := by obtain ⟨m, hm⟩ := k4; exact DataW.trod_lt m _ _ _ hm
  obtain ⟨A4, c4, l4, rfl, w4⟩ := open_natArg (hval 4 23 v4 rfl rfl) h4
  clear hA0 hval0
  refine (walk a0 a1 a2 A3 c3 l3 A4 c4 l4 W w0 w1  w3 w4).mono fun e W' ⟨he, bel⟩ => ?_
  subst he
  exact ⟨_, rfl, _, _, _, [], _, [], hW', trodAll_mk1 (shut_bool Try.underlying4 _), (trodAll_cons_mk (shut_int Try.underlying2 w0) (trodAll_cons_mk (shut_int Try.underlying2 w1) (trodAll_cons_mk (shut_bool Try.underlying4 a2) (trodAll_cons_mk (Below.trod laidOut (by kernel_rfl) (of_decide_eq_true (by kernel_rfl)) k3 bel lt3) (trodAll_cons_mk (Below.trod laidOut (by kernel_rfl) (of_decide_eq_true (by kernel_rfl)) k4 bel lt4) trodAll_mk0))))), rfl, bel.frame _, fun h => by cases h⟩

theorem over : Rows.fractionMakesRow.holds Try.pinned (OpenSpec.ofChange Rows.fractionMakesSpec) :=
  OpenClaim.holds_of_wide 4 Try.f4 rfl rfl rfl rfl rfl rfl rfl ⟨rfl, rfl, rfl, rfl, rfl⟩ rfl rfl rfl rfl rfl (by kernel_rfl) Try.func4 (by kernel_rfl)
    (of_decide_eq_true (by kernel_rfl)) (by unfold Func.isWrapper; first | (rw [if_pos (by decide +kernel)]; kernel_rfl) | (rw [if_neg (by decide +kernel)]; exact ⟨rfl, rfl⟩))
    (fun os started H enc _ => lifted os started H enc)

/-- ████ THE STATEMENT ████ -/
theorem proved : Rows.FractionMakesSaid := over
#print axioms proved
end Go.Proofs.Ytghpcimeobmonaa.fractionMakes
