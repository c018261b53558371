/- The statement MatrixNew of the given program: the law returns true for every input, and writes nothing that was there. The walk is proved over the contracts of the functions it calls. -/
import Derived.Test.YtkjmliebkbbogaaRows
import Derived.Test.YtkjmliebkbbogaaMAwake
import Derived.WalkKit
import Derived.ProofKit
import Derived.OpenShut
import Derived.ShutString
import Derived.ChangeOld
import Derived.Below
namespace Go.Proofs.Ytkjmliebkbbogaa.matrixNew
open Go.ChangeShapes Go.WideShapes Go.ChangeAt Go.RowKit
open Plain
open Go.ChangeMaps (open_string shut_string)
set_option linter.unusedVariables false
set_option linter.unusedSimpArgs false

theorem own : ownKnob Try.prog.godebug = none := by kernel_rfl
theorem laidOut : laidOutB Try.prog = true := by kernel_rfl

theorem int_bounds {a : Int} (h : (Lit.int .i64 a).wf = true) : -9223372036854775808 ≤ a ∧ a ≤ 9223372036854775807 := by
  simp [Lit.wf, IntKind.min, IntKind.max, IntKind.signed, IntKind.bits] at h
  omega
theorem rows_nil {rows : List RwD} (h : qsM rows = []) : rows = [] := List.eq_nil_of_length_eq_zero (by rw [← qsM_len, h]; rfl)
theorem newS_wrong {A : Int × Int} (h : A.1 < 0 ∨ 300 < A.1 ∨ A.2 < 0 ∨ 300 < A.2) : newS A.1 A.2 = ([], 4) := newS_range h
set_option maxRecDepth 100000 in
set_option maxHeartbeats 2000000 in
theorem walk (a0 : Int) (a1 : Int) (w : World) (w0 : (Lit.int .i64 a0).wf = true) (w1 : (Lit.int .i64 a1).wf = true) :
    Calls Try.prog 9 #[.int .i64 a0, .int .i64 a1] w fun e w' => e = .returned (.bool true) ∧ Below w.heap.size w w' := by
  obtain ⟨hx1, hx2⟩ := int_bounds w0
  obtain ⟨hy1, hy2⟩ := int_bounds w1
  clear w0 w1
  have hnew := newS_any (x := a0) (y := a1) (w := w) ⟨hx1, hx2⟩ ⟨hy1, hy2⟩
  obtain ⟨S, hS⟩ : ∃ S, Hid (newS a0 a1 = S) := ⟨_, rfl⟩
  rw [hS.out] at hnew
  have hnew' := Lib.hid hnew
  clear hnew
  by_cases h1 : a0 < 0
  · have t1 : decide (a0 < 0) = true := decide_eq_true h1
    have hSe := Lib.hid (show S = ([], 4) by rw [← hS.out]; exact newS_range (.inl h1))
    go_enter Try.func9, Try.ntmps9
    go_wp2_with fail
    refine hnew'.out.mono ?_
    rw [hSe.out]
    rintro e y1 ⟨A, c, rows, rfl, hml, hq, b1⟩
    obtain rfl := rows_nil hq.out
    go_wp2_with fail
    refine (awake17_any _).mono ?_
    rintro e wz ⟨rfl, bz⟩
    go_wp2
    go_ret
    exact ⟨rfl, b1.trans (bz.mono b1.size)⟩
  have t1 : decide (a0 < 0) = false := decide_eq_false h1
  by_cases h2 : 300 < a0
  · have t2 : decide ((300 : Int) < a0) = true := decide_eq_true h2
    have hSe := Lib.hid (show S = ([], 4) by rw [← hS.out]; exact newS_range (.inr (.inl h2)))
    go_enter Try.func9, Try.ntmps9
    go_wp2_with fail
    refine hnew'.out.mono ?_
    rw [hSe.out]
    rintro e y1 ⟨A, c, rows, rfl, hml, hq, b1⟩
    obtain rfl := rows_nil hq.out
    go_wp2_with fail
    refine (awake17_any _).mono ?_
    rintro e wz ⟨rfl, bz⟩
    go_wp2
    go_ret
    exact ⟨rfl, b1.trans (bz.mono b1.size)⟩
  have t2 : decide ((300 : Int) < a0) = false := decide_eq_false h2
  by_cases h3 : a1 < 0
  · have t3 : decide (a1 < 0) = true := decide_eq_true h3
    have hSe := Lib.hid (show S = ([], 4) by rw [← hS.out]; exact newS_range (.inr (.inr (.inl h3))))
    go_enter Try.func9, Try.ntmps9
    go_wp2_with fail
    refine hnew'.out.mono ?_
    rw [hSe.out]
    rintro e y1 ⟨A, c, rows, rfl, hml, hq, b1⟩
    obtain rfl := rows_nil hq.out
    go_wp2_with fail
    refine (awake17_any _).mono ?_
    rintro e wz ⟨rfl, bz⟩
    go_wp2
    go_ret
    exact ⟨rfl, b1.trans (bz.mono b1.size)⟩
  have t3 : decide (a1 < 0) = false := decide_eq_false h3
  by_cases h4 : 300 < a1
  · have t4 : decide ((300 : Int) < a1) = true := decide_eq_true h4
    have hSe := Lib.hid (show S = ([], 4) by rw [← hS.out]; exact newS_range (.inr (.inr (.inr h4))))
    go_enter Try.func9, Try.ntmps9
    go_wp2_with fail
    refine hnew'.out.mono ?_
    rw [hSe.out]
    rintro e y1 ⟨A, c, rows, rfl, hml, hq, b1⟩
    obtain rfl := rows_nil hq.out
    go_wp2_with fail
    refine (awake17_any _).mono ?_
    rintro e wz ⟨rfl, bz⟩
    go_wp2
    go_ret
    exact ⟨rfl, b1.trans (bz.mono b1.size)⟩
  have t4 : decide ((300 : Int) < a1) = false := decide_eq_false h4
  by_cases h5 : 20 < a0
  · have t5 : decide ((20 : Int) < a0) = true := decide_eq_true h5
    go_enter Try.func9, Try.ntmps9
    go_wp2_with fail
    refine (awake17_any _).mono ?_
    rintro e wz ⟨rfl, bz⟩
    go_wp2
    go_ret
    exact ⟨rfl, bz⟩
  have t5 : decide ((20 : Int) < a0) = false := decide_eq_false h5
  by_cases h6 : 20 < a1
  · have t6 : decide ((20 : Int) < a1) = true := decide_eq_true h6
    go_enter Try.func9, Try.ntmps9
    go_wp2_with fail
    refine (awake17_any _).mono ?_
    rintro e wz ⟨rfl, bz⟩
    go_wp2
    go_ret
    exact ⟨rfl, bz⟩
  have t6 : decide ((20 : Int) < a1) = false := decide_eq_false h6
  obtain ⟨m, rfl⟩ : ∃ p : Nat, a0 = (p : Int) := ⟨a0.toNat, by omega⟩
  obtain ⟨n, rfl⟩ : ∃ j : Nat, a1 = (j : Int) := ⟨a1.toNat, by omega⟩
  have hSe := Lib.hid (show S = (List.replicate m (List.replicate n (0 : Rat)), (0 : Int)) by rw [← hS.out]; exact newS_ok (by omega) (by omega))
  go_enter Try.func9, Try.ntmps9
  go_wp2_with fail
  refine hnew'.out.mono ?_
  rw [hSe.out]
  rintro e y1 ⟨A, c, rows, rfl, hml, hq, b1⟩
  have hrl : rows.length = m := by rw [← qsM_len, hq.out, List.length_replicate]
  have hrow := Lib.hid (show ∀ r ∈ rows, r.ds.length = n ∧ ∀ d ∈ r.ds, d.q = 0 from fun r hr => by
    have h7 : r.qs ∈ qsM rows := List.mem_map.2 ⟨r, hr, rfl⟩
    have h8 := hq.out
    simp only at h8
    rw [h8] at h7
    have h9 := (List.mem_replicate.1 h7).2
    refine ⟨by rw [← RwD.qs_len, h9, List.length_replicate], fun d hd => ?_⟩
    have h10 : d.q ∈ r.qs := List.mem_map.2 ⟨d, hd, rfl⟩
    rw [h9] at h10
    exact (List.mem_replicate.1 h10).2)
  obtain rfl := hrl
  have hl := hml.len
  go_wp2_with fail
  refine (refFromInt_any 0 _ (by decide) (by decide)).mono ?_
  rintro e y2 ⟨v1, rfl, hz, b2⟩
  obtain ⟨n1, A1, a1, l1, B1, c1, m1, rfl, na, nb, iq⟩ := id hz
  clear na nb iq
  obtain ⟨y3, hy3, by3, ly3, By3⟩ := boxed y2 #[.bool false, .slice none 0 0, .slice none 0 0] 50
  have p0 := By3.f0
  have p1 := By3.f1
  have p2 := By3.f2
  have r0 := By3.free 0
  have r1 := By3.free 1
  have r2 := By3.free 2
  obtain ⟨y4, hy4, By4, o4⟩ := By3.set3 (.bool n1) (.slice A1 l1.length a1) (.slice B1 m1.length c1)
  have b4 := o4.to_below by3 (Nat.le_refl _) by3.size
  have hz4 := hz.below b4
  have hml4 := (hml.below b2).below b4
  have b04 := (b1.trans (b2.mono b1.size)).trans (b4.mono (b1.trans (b2.mono b1.size)).size)
  clear hz hml by3 ly3 o4
  go_wp2
  clear p0 p1 p2 r0 r1 r2 hy3 hy4 By3
  go_loopw [66] (fun i wr => ∃ k : Nat, k ≤ rows.length ∧ i = .int .i64 (k : Int) ∧ Below y4.heap.size y4 wr) (fun i _ => rows.length - (intOf i).toNat)
  case atStart => exact ⟨0, by omega, rfl, Below.refl _ _⟩
  case round =>
    obtain ⟨k, hk, rfl, bk⟩ := hrel
    by_cases hkl : k < rows.length
    · have hki : (k : Int) < (rows.length : Int) := by omega
      obtain ⟨a, r, rfl, hab, hc0, hfr, hrk⟩ := (hml4.below bk).at hkl
      obtain ⟨hrl, hr0⟩ := hrow.out r (List.mem_of_getElem? hrk.out)
      have hr0' := Lib.hid hr0
      have hlr := hfr.len
      have hne : ((r.ds.length : Int) != (n : Int)) = false := by rw [bne_eq_false_iff_eq]; omega
      clear hr0 hrl
      obtain ⟨wo, hwo⟩ : ∃ wo : World, wo = wr := ⟨_, rfl⟩
      subst hwo
      go_wp2
      go_loopw [76] (fun i wr2 => ∃ j : Nat, j ≤ r.ds.length ∧ i = .int .i64 (j : Int) ∧ Below wo.heap.size wo wr2) (fun i _ => r.ds.length - (intOf i).toNat)
      case atStart => exact ⟨0, by omega, rfl, Below.refl _ _⟩
      case round =>
        obtain ⟨j, hj, rfl, bj⟩ := hrel
        by_cases hjl : j < r.ds.length
        · have hji : (j : Int) < (r.ds.length : Int) := by omega
          obtain ⟨e, d, eb, heb, he0, he1, he2, hd, hdk⟩ := (hfr.below bj).at hjl
          have hdq := Lib.hid (hr0'.out d (List.mem_of_getElem? hdk.out))
          rw [eb]
          obtain ⟨x3, hx3, bx3, lx3, Bx3⟩ := boxed wr #[.bool false, .slice none 0 0, .slice none 0 0] 50
          have p0 := Bx3.f0
          have p1 := Bx3.f1
          have p2 := Bx3.f2
          have r0 := Bx3.free 0
          have r1 := Bx3.free 1
          have r2 := Bx3.free 2
          obtain ⟨x4, hx4, Bx4, ox4⟩ := Bx3.set3 (.bool d.neg) (.slice d.a d.la.length d.ca) (.slice d.b d.lb.length d.cb)
          have bx4 := ox4.to_below bx3 (Nat.le_refl _) bx3.size
          have bj4 := bj.trans (bx4.mono bj.size)
          have bk4 := bk.trans (bj4.mono bk.size)
          have hd4 := hd.below bx4
          have g0 := Bx4.f0
          have g1 := Bx4.f1
          have g2 := Bx4.f2
          have By5 := By4.keep bk4
          have k0 := By5.f0
          have k1 := By5.f1
          have k2 := By5.f2
          have hz5 := hz4.below bk4
          go_wp2_with fail
          refine (equal17_any hd4 hz5).mono ?_
          have hv := Lib.hid (show decide (d.q = ((0 : Int) : Rat)) = true by rw [hdq.out]; decide +kernel)
          rw [hv.out]
          rintro e x5 ⟨rfl, b5⟩
          go_wp2
          go_roundw
          case rel => exact ⟨j + 1, by omega, by go_num, bj4.trans (b5.mono bj4.size)⟩
          case measure => simp [intOf]; omega
        · obtain rfl : j = r.ds.length := by omega
          have hlt' : decide ((r.ds.length : Int) < (r.ds.length : Int)) = false := decide_eq_false (by omega)
          go_wp2
          go_roundw
          case rel => exact ⟨k + 1, by omega, by go_num, bk.trans (bj.mono bk.size)⟩
          case measure => simp [intOf]; omega
    · obtain rfl : k = rows.length := by omega
      have hlt' : decide ((rows.length : Int) < (rows.length : Int)) = false := decide_eq_false (by omega)
      have b0k := b04.trans (bk.mono b04.size)
      go_wp2_with fail
      refine (awake17_any _).mono ?_
      rintro e wz ⟨rfl, bz⟩
      go_wp2
      go_ret
      exact ⟨rfl, b0k.trans (bz.mono b0k.size)⟩

/-! ### THE ROW's STEP: WRITTEN OUT: LEAVE IT -/
set_option maxRecDepth 100000 in
theorem lifted (os : Os) (started : os.Started) (H : Type) (enc : TypeId × Value → H) :
    ReturnsInHanded {} Try.checked os 9 .any (Rows.matrixNewSpec.pre6 enc Try.prog Try.f9 Rows.matrixNewRow.domain false) (Rows.matrixNewSpec.post enc Try.prog Try.f9 false true false false) := by
  refine returnsInHanded_of_change (C := Try.checked) own started (by kernel_rfl) Try.func9
    (ChangeSpec.witness6 (enc := enc) (C := Try.checked) false ⟨#[], #[.int .i64 0, .int .i64 0], []⟩ 8 (by kernel_rfl) (by kernel_rfl) (by kernel_rfl) (by kernel_rfl)) ?_
  intro W base args ds gs before hval0 hW hcnd _
  have hval : ∀ (j : Nat) t v, Try.f9.params[j]? = some t → args[j]? = some v → Value.okWide Try.prog W .any base t v := hval0
  have hW' := hW
  obtain ⟨p, q, hA0, hV, rfl, hfz, hnd⟩ := hW
  have hA : DataW.TrodAll enc Try.prog W 0 (fun _ => true) true Try.f9.params.toList args.toList ds p := hA0
  rw [Try.params9] at hA hval
  obtain ⟨v0, vs0, d0, ds0, p0, q0, hargs, rfl, rfl, h0, r0⟩ := trodAll_cons hA
  obtain ⟨v1, vs1, d1, ds1, p1, q1, rfl, rfl, rfl, h1, r1⟩ := trodAll_cons r0
  obtain ⟨rfl, rfl, rfl⟩ := trodAll_nil r1
  obtain rfl : args = #[v0, v1] := by cases args; simp_all
  obtain ⟨rfl, rfl⟩ := trodVars_none hV
  obtain ⟨a0, rfl, rfl, rfl, w0⟩ := open_int Try.underlying3 (hval 0 3 v0 rfl rfl) h0
  obtain ⟨a1, rfl, rfl, rfl, w1⟩ := open_int Try.underlying3 (hval 1 3 v1 rfl rfl) h1
  clear hA0 hval0
  refine (walk a0 a1 W w0 w1).mono fun e W' ⟨he, bel⟩ => ?_
  subst he
  exact ⟨_, rfl, _, _, _, [], _, [], hW', trodAll_mk1 (shut_bool Try.underlying4 _), (trodAll_cons_mk (shut_int Try.underlying3 w0) (trodAll_cons_mk (shut_int Try.underlying3 w1) trodAll_mk0)), rfl, bel.frame _, fun h => by cases h⟩

theorem over : Rows.matrixNewRow.holds Try.pinned (OpenSpec.ofChange Rows.matrixNewSpec) :=
  OpenClaim.holds_of_wide 9 Try.f9 rfl rfl rfl rfl rfl rfl rfl ⟨rfl, rfl, rfl, rfl, rfl⟩ rfl rfl rfl rfl rfl (by kernel_rfl) Try.func9 (by kernel_rfl)
    (of_decide_eq_true (by kernel_rfl)) (by unfold Func.isWrapper; first | (rw [if_pos (by decide +kernel)]; kernel_rfl) | (rw [if_neg (by decide +kernel)]; exact ⟨rfl, rfl⟩))
    (fun os started H enc _ => lifted os started H enc)

/-- ████ THE STATEMENT ████ -/
theorem proved : Rows.MatrixNewSaid := over
#print axioms proved
end Go.Proofs.Ytkjmliebkbbogaa.matrixNew
