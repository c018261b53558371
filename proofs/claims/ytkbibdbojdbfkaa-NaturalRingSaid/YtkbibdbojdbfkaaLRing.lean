/- The statement NaturalRing of the given program: the law returns true for every input, and writes nothing that was there. The walk is proved over the contracts of the functions it calls. -/
import Derived.Test.YtkbibdbojdbfkaaRows
import Derived.Test.YtkbibdbojdbfkaaLRow
import Derived.Test.YtkbibdbojdbfkaaWSub
import Derived.Test.YtkbibdbojdbfkaaWAdd
import Derived.Test.YtkbibdbojdbfkaaWMul
import Derived.WalkKit
import Derived.ProofKit
import Derived.OpenShut
import Derived.ShutString
import Derived.ChangeOld
import Derived.Below
namespace Go.Proofs.Ytkbibdbojdbfkaa.naturalRing
open Go.ChangeShapes Go.WideShapes Go.ChangeAt Go.RowKit
open Plain
open Go.ChangeMaps (open_string shut_string)
set_option linter.unusedVariables false
set_option linter.unusedSimpArgs false

theorem own : ownKnob Try.prog.godebug = none := by kernel_rfl
theorem laidOut : laidOutB Try.prog = true := by kernel_rfl

/-- WHAT THE WALK IS TOLD OF A SLICE OF INTEGERS THAT CAME IN: it is nil; or it leads to a row of 'cap' cells, the numbers 'zs' (the first 'len' are its elements, the rest its spare room), each fitting its kind. -/
def IsRow (k : IntKind) (w : World) (a : Option Addr) (len cap : Nat) (zs : List Int) : Prop :=
  (a = none ∧ len = 0 ∧ cap = 0 ∧ zs = []) ∨
  ∃ x, a = some x ∧ len ≤ cap ∧ cap ≤ maxLen ∧ zs.length = cap ∧ (∀ i, i < zs.length → w.cell? (x.add i) = some (.int k (zs.getD i 0))) ∧ ∀ n ∈ zs, (Lit.int k n).wf = true

set_option maxRecDepth 100000 in
set_option maxHeartbeats 4000000 in
theorem ring_main {A B C : Option Addr} {ca cb cc : Nat} {la lb lc : List Nat} {w : World} (ra : InRow w A ca la) (rb : InRow w B cb lb) (rc : InRow w C cc lc) (fa : fewL la 12 = true) (fb : fewL lb 12 = true) (fc : fewL lc 12 = true) :
    Calls Try.prog 12 #[.slice A la.length ca, .slice B lb.length cb, .slice C lc.length cc] w fun e w' => e = .returned (.bool true) ∧ Below w.heap.size w w' := by
  have ka := fewL_le fa
  have kb := fewL_le fb
  have kc := fewL_le fc
  have na := ra.nv (by omega)
  have nb := rb.nv (by omega)
  have nc := rc.nv (by omega)
  have ia' := Lib.hid (fewL_natIs ra.dig fa)
  have fa' := Lib.hid fa
  have fb' := Lib.hid fb
  have fc' := Lib.hid fc
  clear fa fb fc
  go_enter Try.func12, Try.ntmps12
  go_wp2_with fail
  refine (few_row ra 12 _ rfl (by omega)).mono ?_
  rintro e w1 ⟨rfl, rfl⟩
  rw [fa'.out]
  go_wp2_with fail
  refine (few_row rb 12 _ rfl (by omega)).mono ?_
  rintro e w1 ⟨rfl, rfl⟩
  rw [fb'.out]
  go_wp2_with fail
  refine (few_row rc 12 _ rfl (by omega)).mono ?_
  rintro e w1 ⟨rfl, rfl⟩
  rw [fc'.out]
  clear ra rb rc
  go_wp2_with fail
  refine (add_any _ _ _ _ _ _ _ na nb (by omega) (by omega)).mono ?_
  rintro e w1 ⟨A1, c1, l1, rfl, n1, i1, h1, b1⟩
  have i1' := Lib.hid i1
  clear i1
  have k1 : l1.length ≤ 13 := by omega
  clear h1
  have B1 := b1
  go_wp2_with fail
  refine (add_any _ _ _ _ _ _ _ (nb.below b1) (na.below b1) (by omega) (by omega)).mono ?_
  rintro e w2 ⟨A2, c2, l2, rfl, n2, i2, h2, b2⟩
  have i2' := Lib.hid i2
  clear i2
  have k2 : l2.length ≤ 13 := by omega
  clear h2
  have B2 := B1.trans (b2.mono B1.size)
  have e3 := Lib.hid (decide_eq_true ((show NatIs l1 (val la + val lb) from by have h := i1'.out; exact h).uniq (show NatIs l2 (val la + val lb) from by have h := i2'.out; rw [Nat.add_comm] at h; exact h)))
  go_wp2_with fail
  refine (same_any (n1.below b2) n2).mono ?_
  rintro e w3 ⟨rfl, b3⟩
  have B3 := B2.trans (b3.mono B2.size)
  rw [e3.out]
  go_wp2_with fail
  refine (mul_any _ _ _ _ _ _ _ (((na.below b1).below b2).below b3) (((nb.below b1).below b2).below b3) (by omega) (by omega)).mono ?_
  rintro e w4 ⟨A4, c4, l4, rfl, n4, i4, h4, b4⟩
  have i4' := Lib.hid i4
  clear i4
  have k4 : l4.length ≤ 24 := by omega
  clear h4
  have B4 := B3.trans (b4.mono B3.size)
  go_wp2_with fail
  refine (mul_any _ _ _ _ _ _ _ ((((nb.below b1).below b2).below b3).below b4) ((((na.below b1).below b2).below b3).below b4) (by omega) (by omega)).mono ?_
  rintro e w5 ⟨A5, c5, l5, rfl, n5, i5, h5, b5⟩
  have i5' := Lib.hid i5
  clear i5
  have k5 : l5.length ≤ 24 := by omega
  clear h5
  have B5 := B4.trans (b5.mono B4.size)
  have e6 := Lib.hid (decide_eq_true ((show NatIs l4 (val la * val lb) from by have h := i4'.out; exact h).uniq (show NatIs l5 (val la * val lb) from by have h := i5'.out; rw [Nat.mul_comm] at h; exact h)))
  go_wp2_with fail
  refine (same_any (n4.below b5) n5).mono ?_
  rintro e w6 ⟨rfl, b6⟩
  have B6 := B5.trans (b6.mono B5.size)
  rw [e6.out]
  go_wp2_with fail
  refine (add_any _ _ _ _ _ _ _ ((((((na.below b1).below b2).below b3).below b4).below b5).below b6) ((((((nb.below b1).below b2).below b3).below b4).below b5).below b6) (by omega) (by omega)).mono ?_
  rintro e w7 ⟨A7, c7, l7, rfl, n7, i7, h7, b7⟩
  have i7' := Lib.hid i7
  clear i7
  have k7 : l7.length ≤ 13 := by omega
  clear h7
  have B7 := B6.trans (b7.mono B6.size)
  go_wp2_with fail
  refine (add_any _ _ _ _ _ _ _ n7 (((((((nc.below b1).below b2).below b3).below b4).below b5).below b6).below b7) (by omega) (by omega)).mono ?_
  rintro e w8 ⟨A8, c8, l8, rfl, n8, i8, h8, b8⟩
  have i8' := Lib.hid i8
  clear i8
  have k8 : l8.length ≤ 14 := by omega
  clear h8
  have B8 := B7.trans (b8.mono B7.size)
  go_wp2_with fail
  refine (add_any _ _ _ _ _ _ _ ((((((((nb.below b1).below b2).below b3).below b4).below b5).below b6).below b7).below b8) ((((((((nc.below b1).below b2).below b3).below b4).below b5).below b6).below b7).below b8) (by omega) (by omega)).mono ?_
  rintro e w9 ⟨A9, c9, l9, rfl, n9, i9, h9, b9⟩
  have i9' := Lib.hid i9
  clear i9
  have k9 : l9.length ≤ 13 := by omega
  clear h9
  have B9 := B8.trans (b9.mono B8.size)
  go_wp2_with fail
  refine (add_any _ _ _ _ _ _ _ (((((((((na.below b1).below b2).below b3).below b4).below b5).below b6).below b7).below b8).below b9) n9 (by omega) (by omega)).mono ?_
  rintro e w10 ⟨A10, c10, l10, rfl, n10, i10, h10, b10⟩
  have i10' := Lib.hid i10
  clear i10
  have k10 : l10.length ≤ 14 := by omega
  clear h10
  have B10 := B9.trans (b10.mono B9.size)
  have e11 := Lib.hid (decide_eq_true ((show NatIs l8 (val la + val lb + val lc) from by have h := i8'.out; rw [i7'.out.val] at h; exact h).uniq (show NatIs l10 (val la + val lb + val lc) from by have h := i10'.out; rw [i9'.out.val, ← Nat.add_assoc] at h; exact h)))
  go_wp2_with fail
  refine (same_any ((n8.below b9).below b10) n10).mono ?_
  rintro e w11 ⟨rfl, b11⟩
  have B11 := B10.trans (b11.mono B10.size)
  rw [e11.out]
  go_wp2_with fail
  refine (mul_any _ _ _ _ _ _ _ (((((((((((na.below b1).below b2).below b3).below b4).below b5).below b6).below b7).below b8).below b9).below b10).below b11) (((((((((((nb.below b1).below b2).below b3).below b4).below b5).below b6).below b7).below b8).below b9).below b10).below b11) (by omega) (by omega)).mono ?_
  rintro e w12 ⟨A12, c12, l12, rfl, n12, i12, h12, b12⟩
  have i12' := Lib.hid i12
  clear i12
  have k12 : l12.length ≤ 24 := by omega
  clear h12
  have B12 := B11.trans (b12.mono B11.size)
  go_wp2_with fail
  refine (mul_any _ _ _ _ _ _ _ n12 ((((((((((((nc.below b1).below b2).below b3).below b4).below b5).below b6).below b7).below b8).below b9).below b10).below b11).below b12) (by omega) (by omega)).mono ?_
  rintro e w13 ⟨A13, c13, l13, rfl, n13, i13, h13, b13⟩
  have i13' := Lib.hid i13
  clear i13
  have k13 : l13.length ≤ 36 := by omega
  clear h13
  have B13 := B12.trans (b13.mono B12.size)
  go_wp2_with fail
  refine (mul_any _ _ _ _ _ _ _ (((((((((((((nb.below b1).below b2).below b3).below b4).below b5).below b6).below b7).below b8).below b9).below b10).below b11).below b12).below b13) (((((((((((((nc.below b1).below b2).below b3).below b4).below b5).below b6).below b7).below b8).below b9).below b10).below b11).below b12).below b13) (by omega) (by omega)).mono ?_
  rintro e w14 ⟨A14, c14, l14, rfl, n14, i14, h14, b14⟩
  have i14' := Lib.hid i14
  clear i14
  have k14 : l14.length ≤ 24 := by omega
  clear h14
  have B14 := B13.trans (b14.mono B13.size)
  go_wp2_with fail
  refine (mul_any _ _ _ _ _ _ _ ((((((((((((((na.below b1).below b2).below b3).below b4).below b5).below b6).below b7).below b8).below b9).below b10).below b11).below b12).below b13).below b14) n14 (by omega) (by omega)).mono ?_
  rintro e w15 ⟨A15, c15, l15, rfl, n15, i15, h15, b15⟩
  have i15' := Lib.hid i15
  clear i15
  have k15 : l15.length ≤ 36 := by omega
  clear h15
  have B15 := B14.trans (b15.mono B14.size)
  have e16 := Lib.hid (decide_eq_true ((show NatIs l13 (val la * val lb * val lc) from by have h := i13'.out; rw [i12'.out.val] at h; exact h).uniq (show NatIs l15 (val la * val lb * val lc) from by have h := i15'.out; rw [i14'.out.val, ← Nat.mul_assoc] at h; exact h)))
  go_wp2_with fail
  refine (same_any ((n13.below b14).below b15) n15).mono ?_
  rintro e w16 ⟨rfl, b16⟩
  have B16 := B15.trans (b16.mono B15.size)
  rw [e16.out]
  go_wp2_with fail
  refine (add_any _ _ _ _ _ _ _ ((((((((((((((((na.below b1).below b2).below b3).below b4).below b5).below b6).below b7).below b8).below b9).below b10).below b11).below b12).below b13).below b14).below b15).below b16) ((((((((((((((((nb.below b1).below b2).below b3).below b4).below b5).below b6).below b7).below b8).below b9).below b10).below b11).below b12).below b13).below b14).below b15).below b16) (by omega) (by omega)).mono ?_
  rintro e w17 ⟨A17, c17, l17, rfl, n17, i17, h17, b17⟩
  have i17' := Lib.hid i17
  clear i17
  have k17 : l17.length ≤ 13 := by omega
  clear h17
  have B17 := B16.trans (b17.mono B16.size)
  go_wp2_with fail
  refine (sub_any _ _ _ _ _ _ _ n17 (((((((((((((((((nb.below b1).below b2).below b3).below b4).below b5).below b6).below b7).below b8).below b9).below b10).below b11).below b12).below b13).below b14).below b15).below b16).below b17)).mono ?_
  rintro e w18 ⟨A18, c18, l18, rfl, n18, i18, h18, b18⟩
  have i18' := Lib.hid i18
  clear i18 h18
  have B18 := B17.trans (b18.mono B17.size)
  have q18 := Lib.hid (show decide (val lb ≤ val l17) = true from decide_eq_true (by rw [i17'.out.val]; omega))
  rw [q18.out]
  go_wp2_with fail
  refine (add_any _ _ _ _ _ _ _ ((((((((((((((((((nb.below b1).below b2).below b3).below b4).below b5).below b6).below b7).below b8).below b9).below b10).below b11).below b12).below b13).below b14).below b15).below b16).below b17).below b18) ((((((((((((((((((nc.below b1).below b2).below b3).below b4).below b5).below b6).below b7).below b8).below b9).below b10).below b11).below b12).below b13).below b14).below b15).below b16).below b17).below b18) (by omega) (by omega)).mono ?_
  rintro e w19 ⟨A19, c19, l19, rfl, n19, i19, h19, b19⟩
  have i19' := Lib.hid i19
  clear i19
  have k19 : l19.length ≤ 13 := by omega
  clear h19
  have B19 := B18.trans (b19.mono B18.size)
  go_wp2_with fail
  refine (mul_any _ _ _ _ _ _ _ (((((((((((((((((((na.below b1).below b2).below b3).below b4).below b5).below b6).below b7).below b8).below b9).below b10).below b11).below b12).below b13).below b14).below b15).below b16).below b17).below b18).below b19) n19 (by omega) (by omega)).mono ?_
  rintro e w20 ⟨A20, c20, l20, rfl, n20, i20, h20, b20⟩
  have i20' := Lib.hid i20
  clear i20
  have k20 : l20.length ≤ 25 := by omega
  clear h20
  have B20 := B19.trans (b20.mono B19.size)
  go_wp2_with fail
  refine (mul_any _ _ _ _ _ _ _ ((((((((((((((((((((na.below b1).below b2).below b3).below b4).below b5).below b6).below b7).below b8).below b9).below b10).below b11).below b12).below b13).below b14).below b15).below b16).below b17).below b18).below b19).below b20) ((((((((((((((((((((nb.below b1).below b2).below b3).below b4).below b5).below b6).below b7).below b8).below b9).below b10).below b11).below b12).below b13).below b14).below b15).below b16).below b17).below b18).below b19).below b20) (by omega) (by omega)).mono ?_
  rintro e w21 ⟨A21, c21, l21, rfl, n21, i21, h21, b21⟩
  have i21' := Lib.hid i21
  clear i21
  have k21 : l21.length ≤ 24 := by omega
  clear h21
  have B21 := B20.trans (b21.mono B20.size)
  go_wp2_with fail
  refine (mul_any _ _ _ _ _ _ _ (((((((((((((((((((((na.below b1).below b2).below b3).below b4).below b5).below b6).below b7).below b8).below b9).below b10).below b11).below b12).below b13).below b14).below b15).below b16).below b17).below b18).below b19).below b20).below b21) (((((((((((((((((((((nc.below b1).below b2).below b3).below b4).below b5).below b6).below b7).below b8).below b9).below b10).below b11).below b12).below b13).below b14).below b15).below b16).below b17).below b18).below b19).below b20).below b21) (by omega) (by omega)).mono ?_
  rintro e w22 ⟨A22, c22, l22, rfl, n22, i22, h22, b22⟩
  have i22' := Lib.hid i22
  clear i22
  have k22 : l22.length ≤ 24 := by omega
  clear h22
  have B22 := B21.trans (b22.mono B21.size)
  go_wp2_with fail
  refine (add_any _ _ _ _ _ _ _ (n21.below b22) n22 (by omega) (by omega)).mono ?_
  rintro e w23 ⟨A23, c23, l23, rfl, n23, i23, h23, b23⟩
  have i23' := Lib.hid i23
  clear i23
  have k23 : l23.length ≤ 25 := by omega
  clear h23
  have B23 := B22.trans (b23.mono B22.size)
  have e24 := Lib.hid (decide_eq_true ((show NatIs l20 (val la * val lb + val la * val lc) from by have h := i20'.out; rw [i19'.out.val, Nat.mul_add] at h; exact h).uniq (show NatIs l23 (val la * val lb + val la * val lc) from by have h := i23'.out; rw [i21'.out.val, i22'.out.val] at h; exact h)))
  go_wp2_with fail
  refine (same_any (((n20.below b21).below b22).below b23) n23).mono ?_
  rintro e w24 ⟨rfl, b24⟩
  have B24 := B23.trans (b24.mono B23.size)
  rw [e24.out]
  have e25 := Lib.hid (decide_eq_true ((show NatIs l18 (val la) from by have h := i18'.out; rw [i17'.out.val, Nat.add_sub_cancel] at h; exact h).uniq ia'.out))
  go_wp2_with fail
  refine (same_any ((((((n18.below b19).below b20).below b21).below b22).below b23).below b24) ((((((((((((((((((((((((na.below b1).below b2).below b3).below b4).below b5).below b6).below b7).below b8).below b9).below b10).below b11).below b12).below b13).below b14).below b15).below b16).below b17).below b18).below b19).below b20).below b21).below b22).below b23).below b24)).mono ?_
  rintro e w25 ⟨rfl, b25⟩
  have B25 := B24.trans (b25.mono B24.size)
  rw [e25.out]
  go_wp2_with fail
  refine (lives_any _).mono ?_
  rintro e w26 ⟨rfl, b26⟩
  have B26 := B25.trans (b26.mono B25.size)
  go_wp2
  go_ret
  exact ⟨rfl, B26⟩
theorem walk (a0 : Option Addr) (len0 cap0 : Nat) (z0 : List Int) (a1 : Option Addr) (len1 cap1 : Nat) (z1 : List Int) (a2 : Option Addr) (len2 cap2 : Nat) (z2 : List Int) (w : World) (w0 : IsRow .u32 w a0 len0 cap0 z0) (w1 : IsRow .u32 w a1 len1 cap1 z1) (w2 : IsRow .u32 w a2 len2 cap2 z2) :
    Calls Try.prog 12 #[.slice a0 len0 cap0, .slice a1 len1 cap1, .slice a2 len2 cap2] w fun e w' => e = .returned (.bool true) ∧ Below w.heap.size w w' := by
  obtain ⟨la, ha, rfl, ra⟩ := inRow_of w0
  obtain ⟨lb, hb, rfl, rb⟩ := inRow_of w1
  obtain ⟨lc, hc, rfl, rc⟩ := inRow_of w2
  clear ha hb hc w0 w1 w2
  by_cases fa : fewL la 12 = true
  · by_cases fb : fewL lb 12 = true
    · by_cases fc : fewL lc 12 = true
      · exact ring_main ra rb rc fa fb fc
      · have fb' := Lib.hid fb
        have fa' := Lib.hid fa
        have fc' := Lib.hid (eq_false_of_ne_true fc)
        clear fa fb fc
        go_enter Try.func12, Try.ntmps12
        go_wp2_with fail
        refine (few_row ra 12 _ rfl (by omega)).mono ?_
        rintro e w1 ⟨rfl, rfl⟩
        rw [fa'.out]
        go_wp2_with fail
        refine (few_row rb 12 _ rfl (by omega)).mono ?_
        rintro e w1 ⟨rfl, rfl⟩
        rw [fb'.out]
        go_wp2_with fail
        refine (few_row rc 12 _ rfl (by omega)).mono ?_
        rintro e w1 ⟨rfl, rfl⟩
        rw [fc'.out]
        go_wp2_with fail
        refine (lives_any _).mono ?_
        rintro e w1 ⟨rfl, bel⟩
        go_wp2
        go_ret
        exact ⟨rfl, bel⟩
    · have fb' := Lib.hid (eq_false_of_ne_true fb)
      have fa' := Lib.hid fa
      clear fa fb
      go_enter Try.func12, Try.ntmps12
      go_wp2_with fail
      refine (few_row ra 12 _ rfl (by omega)).mono ?_
      rintro e w1 ⟨rfl, rfl⟩
      rw [fa'.out]
      go_wp2_with fail
      refine (few_row rb 12 _ rfl (by omega)).mono ?_
      rintro e w1 ⟨rfl, rfl⟩
      rw [fb'.out]
      go_wp2_with fail
      refine (lives_any _).mono ?_
      rintro e w1 ⟨rfl, bel⟩
      go_wp2
      go_ret
      exact ⟨rfl, bel⟩
  · have fa' := Lib.hid (eq_false_of_ne_true fa)
    clear fa
    go_enter Try.func12, Try.ntmps12
    go_wp2_with fail
    refine (few_row ra 12 _ rfl (by omega)).mono ?_
    rintro e w1 ⟨rfl, rfl⟩
    rw [fa'.out]
    go_wp2_with fail
    refine (lives_any _).mono ?_
    rintro e w1 ⟨rfl, bel⟩
    go_wp2
    go_ret
    exact ⟨rfl, bel⟩

/-! ### THE ROW's STEP: WRITTEN OUT: LEAVE IT -/
set_option maxRecDepth 100000 in
theorem lifted (os : Os) (started : os.Started) (H : Type) (enc : TypeId × Value → H) :
    ReturnsInHanded {} Try.checked os 12 .any (Rows.naturalRingSpec.pre6 enc Try.prog Try.f12 Rows.naturalRingRow.domain false) (Rows.naturalRingSpec.post enc Try.prog Try.f12 false true false false) := by
  refine returnsInHanded_of_change (C := Try.checked) own started (by kernel_rfl) Try.func12
    (ChangeSpec.witness6 (enc := enc) (C := Try.checked) false ⟨#[], #[.slice none 0 0, .slice none 0 0, .slice none 0 0], []⟩ 8 (by kernel_rfl) (by kernel_rfl) (by kernel_rfl) (by kernel_rfl)) ?_
  intro W base args ds gs before hval0 hW hcnd _
  have hval : ∀ (j : Nat) t v, Try.f12.params[j]? = some t → args[j]? = some v → Value.okWide Try.prog W .any base t v := hval0
  have hW' := hW
  obtain ⟨p, q, hA0, hV, rfl, hfz, hnd⟩ := hW
  have hA : DataW.TrodAll enc Try.prog W 0 (fun _ => true) true Try.f12.params.toList args.toList ds p := hA0
  rw [Try.params12] at hA hval
  obtain ⟨v0, vs0, d0, ds0, p0, q0, hargs, rfl, rfl, h0, r0⟩ := trodAll_cons hA
  obtain ⟨v1, vs1, d1, ds1, p1, q1, rfl, rfl, rfl, h1, r1⟩ := trodAll_cons r0
  obtain ⟨v2, vs2, d2, ds2, p2, q2, rfl, rfl, rfl, h2, r2⟩ := trodAll_cons r1
  obtain ⟨rfl, rfl, rfl⟩ := trodAll_nil r2
  obtain rfl : args = #[v0, v1, v2] := by cases args; simp_all
  obtain ⟨rfl, rfl⟩ := trodVars_none hV
  obtain ⟨a0, len0, cap0, rfl⟩ := okWide_slice Try.underlying38 (hval 0 38 v0 rfl rfl)
  have k0 := h0
  have lt0 : ∀ x ∈ p0, x.block < W.heap.size := by obtain ⟨m, hm⟩ := k0; exact DataW.trod_lt m _ _ _ hm
  obtain ⟨z0, w0⟩ : ∃ zs, IsRow .u32 W a0 len0 cap0 zs := by
    obtain ⟨fuel, hf⟩ := h0
    rcases open_ints Try.underlying38 Try.underlying78 (by kernel_rfl) hf with ⟨hcs, _⟩ | ⟨x, l, c, zs, hcs, _, hl, hm, hz, _, hcell, hwz⟩
    · simp [Value.cells] at hcs
      obtain ⟨rfl, rfl, rfl⟩ := hcs
      exact ⟨[], .inl ⟨rfl, rfl, rfl, rfl⟩⟩
    · simp [Value.cells] at hcs
      obtain ⟨rfl, rfl, rfl⟩ := hcs
      exact ⟨zs, .inr ⟨_, rfl, hl, hm, by simpa using hz, hcell, hwz⟩⟩
  obtain ⟨a1, len1, cap1, rfl⟩ := okWide_slice Try.underlying38 (hval 1 38 v1 rfl rfl)
  have k1 := h1
  have lt1 : ∀ x ∈ p1, x.block < W.heap.size := by obtain ⟨m, hm⟩ := k1; exact DataW.trod_lt m _ _ _ hm
  obtain ⟨z1, w1⟩ : ∃ zs, IsRow .u32 W a1 len1 cap1 zs := by
    obtain ⟨fuel, hf⟩ := h1
    rcases open_ints Try.underlying38 Try.underlying78 (by kernel_rfl) hf with ⟨hcs, _⟩ | ⟨x, l, c, zs, hcs, _, hl, hm, hz, _, hcell, hwz⟩
    · simp [Value.cells] at hcs
      obtain ⟨rfl, rfl, rfl⟩ := hcs
      exact ⟨[], .inl ⟨rfl, rfl, rfl, rfl⟩⟩
    · simp [Value.cells] at hcs
      obtain ⟨rfl, rfl, rfl⟩ := hcs
      exact ⟨zs, .inr ⟨_, rfl, hl, hm, by simpa using hz, hcell, hwz⟩⟩
  obtain ⟨a2, len2, cap2, rfl⟩ := okWide_slice Try.underlying38 (hval 2 38 v2 rfl rfl)
  have k2 := h2
  have lt2 : ∀ x ∈ p2, x.block < W.heap.size := by obtain ⟨m, hm⟩ := k2; exact DataW.trod_lt m _ _ _ hm
  obtain ⟨z2, w2⟩ : ∃ zs, IsRow .u32 W a2 len2 cap2 zs := by
    obtain ⟨fuel, hf⟩ := h2
    rcases open_ints Try.underlying38 Try.underlying78 (by kernel_rfl) hf with ⟨hcs, _⟩ | ⟨x, l, c, zs, hcs, _, hl, hm, hz, _, hcell, hwz⟩
    · simp [Value.cells] at hcs
      obtain ⟨rfl, rfl, rfl⟩ := hcs
      exact ⟨[], .inl ⟨rfl, rfl, rfl, rfl⟩⟩
    · simp [Value.cells] at hcs
      obtain ⟨rfl, rfl, rfl⟩ := hcs
      exact ⟨zs, .inr ⟨_, rfl, hl, hm, by simpa using hz, hcell, hwz⟩⟩
  clear hA0 hval0
  refine (walk a0 len0 cap0 z0 a1 len1 cap1 z1 a2 len2 cap2 z2 W w0 w1 w2).mono fun e W' ⟨he, bel⟩ => ?_
  subst he
  exact ⟨_, rfl, _, _, _, [], _, [], hW', trodAll_mk1 (shut_bool Try.underlying4 _), (trodAll_cons_mk (Below.trod laidOut (by kernel_rfl) (of_decide_eq_true (by kernel_rfl)) k0 bel lt0) (trodAll_cons_mk (Below.trod laidOut (by kernel_rfl) (of_decide_eq_true (by kernel_rfl)) k1 bel lt1) (trodAll_cons_mk (Below.trod laidOut (by kernel_rfl) (of_decide_eq_true (by kernel_rfl)) k2 bel lt2) trodAll_mk0))), rfl, bel.frame _, fun h => by cases h⟩

theorem over : Rows.naturalRingRow.holds Try.pinned (OpenSpec.ofChange Rows.naturalRingSpec) :=
  OpenClaim.holds_of_wide 12 Try.f12 rfl rfl rfl rfl rfl rfl rfl ⟨rfl, rfl, rfl, rfl, rfl⟩ rfl rfl rfl rfl rfl (by kernel_rfl) Try.func12 (by kernel_rfl)
    (of_decide_eq_true (by kernel_rfl)) (by unfold Func.isWrapper; first | (rw [if_pos (by decide +kernel)]; kernel_rfl) | (rw [if_neg (by decide +kernel)]; exact ⟨rfl, rfl⟩))
    (fun os started H enc _ => lifted os started H enc)

/-- ████ THE STATEMENT ████ -/
theorem proved : Rows.NaturalRingSaid := over
#print axioms proved
end Go.Proofs.Ytkbibdbojdbfkaa.naturalRing
