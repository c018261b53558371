/- The statement FractionSums of the given program: the law returns true for every input, and writes nothing that was there. The walk is proved over the contracts of the functions it calls. -/
import Derived.Test.YtghpcimeobmonaaRows
import Derived.Test.YtghpcimeobmonaaLShort
import Derived.Test.YtghpcimeobmonaaLAwake
import Derived.Test.YtghpcimeobmonaaFDot
import Derived.Test.YtghpcimeobmonaaGSum
import Derived.WalkKit
import Derived.ProofKit
import Derived.OpenShut
import Derived.ShutString
import Derived.ChangeOld
import Derived.Below
namespace Go.Proofs.Ytghpcimeobmonaa.fractionSums
open Go.ChangeShapes Go.WideShapes Go.ChangeAt Go.RowKit
open Plain
open Go.ChangeMaps (open_string shut_string)
set_option linter.unusedVariables false
set_option linter.unusedSimpArgs false

theorem own : ownKnob Try.prog.godebug = none := by kernel_rfl
theorem laidOut : laidOutB Try.prog = true := by kernel_rfl

theorem eq_self (q : Rat) : decide (q = q) = true := decide_eq_true rfl
def smB (d : FrD) : Bool := decide (d.la.length ≤ 2) && (decide (d.lb.length ≤ 2) && vldF d.neg d.la d.lb)
theorem smB_fv {f : FrD} {w : World} (hf : f.ok w) (h : smB f = true) : FV w f.v f.q ∧ Fits 2 f.q := by
  unfold smB at h
  simp only [Bool.and_eq_true, decide_eq_true_eq] at h
  obtain ⟨h1, h2, h3⟩ := h
  have hq : QIs f.neg f.la f.lb f.q := vldF_qIs hf.1.dig hf.2.dig h3
  refine ⟨⟨_, _, _, _, _, _, _, rfl, hf.1.nv (by omega), hf.2.nv (by omega), hq⟩, ?_⟩
  exact ⟨by rw [← hq.na.val]; exact Nat.lt_of_lt_of_le (val_lt hf.1.dig) (pw_mono h1), by rw [← hq.nb.val]; exact Nat.lt_of_lt_of_le (val_lt hf.2.dig) (pw_mono h2)⟩
/-- The k-th element that was handed in. -/
theorem srow_at {w : World} {A : Option Addr} {c : Nat} {ds : List FrD} (h : Srow w 3 FrD.cells A c ds) (ho : ∀ f ∈ ds, f.ok w) {k : Nat} (hk : k < ds.length) :
    ∃ a d, A = some a ∧ a.block < w.heap.size ∧ w.cell? (a.add (k * 3)) = some (.bool d.neg) ∧ w.cell? ⟨(a.add (k * 3)).block, (a.add (k * 3)).off + 1, none⟩ = some (.slice d.a d.la.length d.ca) ∧
      w.cell? ⟨(a.add (k * 3)).block, (a.add (k * 3)).off + 2, none⟩ = some (.slice d.b d.lb.length d.cb) ∧ d.ok w ∧ Hid (ds[k]? = some d) := by
  obtain ⟨a, e, h1, h2⟩ := h.2.2 k hk
  have hc : ∀ i u, (ds[k]).cells[i]? = some u → w.cell? ((a.add (k * 3)).add i) = some u := fun i u hu => by
    rw [add_add]; exact h2 i u hu
  exact ⟨a, ds[k], e, h1, cell0 (hc 0 _ rfl), cellK (hc 1 _ rfl) (by decide), cellK (hc 2 _ rfl) (by decide), ho _ (List.getElem_mem hk), List.getElem?_eq_getElem hk⟩
theorem all_snoc {ds : List FrD} {k : Nat} {d : FrD} (h : ∀ x ∈ ds.take k, smB x = true) (hk : ds[k]? = some d) (hd : smB d = true) : ∀ x ∈ ds.take (k + 1), smB x = true := fun x hx => by
  rw [List.take_add_one, hk] at hx
  rcases List.mem_append.1 hx with h1 | h1
  · exact h x h1
  · simp at h1; subst h1; exact hd
theorem fl_of {w : World} {A : Option Addr} {c : Nat} {ds : List FrD} (h : Srow w 3 FrD.cells A c ds) (ho : ∀ f ∈ ds, f.ok w) (hs : ∀ x ∈ ds, smB x = true) : FL w A c ds ∧ ∀ d ∈ ds, Fits 2 d.q :=
  ⟨⟨h, fun d hd => (smB_fv (ho d hd) (hs d hd)).1⟩, fun d hd => (smB_fv (ho d hd) (hs d hd)).2⟩
def ChkInv (ds : List FrD) (w : World) (i : Value) (wr : World) : Prop := ∃ k : Nat, k ≤ ds.length ∧ i = .int .i64 (k : Int) ∧ Hid (∀ x ∈ ds.take k, smB x = true) ∧ Below w.heap.size w wr
set_option maxRecDepth 100000 in
set_option maxHeartbeats 2000000 in
theorem walk (A0 : Option Addr) (c0 : Nat) (ds0 : List FrD) (A1 : Option Addr) (c1 : Nat) (ds1 : List FrD) (w : World) (w0 : Srow w 3 FrD.cells A0 c0 ds0) (x0 : ∀ f ∈ ds0, f.ok w) (w1 : Srow w 3 FrD.cells A1 c1 ds1) (x1 : ∀ f ∈ ds1, f.ok w) :
    Calls Try.prog 9 #[.slice A0 ds0.length c0, .slice A1 ds1.length c1] w fun e w' => e = .returned (.bool true) ∧ Below w.heap.size w w' := by
  have hlA := w0.1
  have hlA2 := w0.2.1
  have hlB := w1.1
  have hlB2 := w1.2.1
  have xa := Lib.hid x0
  have xb := Lib.hid x1
  clear x0 x1
  by_cases h5 : ds0.length ≤ 5
  · by_cases h6 : ds1.length ≤ 5
    · have e5 : decide ((5 : Int) < (ds0.length : Int)) = false := decide_eq_false (by omega)
      have e6 : decide ((5 : Int) < (ds1.length : Int)) = false := decide_eq_false (by omega)
      go_enter Try.func9, Try.ntmps9
      go_wp2
      go_loopw [5] (fun i wr => ChkInv ds0 w i wr) (fun i _ => ds0.length - (intOf i).toNat)
      case atStart => exact ⟨0, by omega, rfl, fun x hx => by simp at hx, Below.refl _ _⟩
      case round =>
        obtain ⟨k, hk, rfl, hall, hbel⟩ := hrel
        by_cases hkl : k < ds0.length
        · obtain ⟨a, d, rfl, hab, hc0, hc1, hc2, hok, hdk⟩ := srow_at w0 xa.out hkl
          have g0 := (hbel.cell (p := a.add (k * 3)) (by rw [block_add]; exact hab)).trans hc0
          have g1 := (hbel.cell (p := ⟨(a.add (k * 3)).block, (a.add (k * 3)).off + 1, none⟩) (by show (a.add (k * 3)).block < _; rw [block_add]; exact hab)).trans hc1
          have g2 := (hbel.cell (p := ⟨(a.add (k * 3)).block, (a.add (k * 3)).off + 2, none⟩) (by show (a.add (k * 3)).block < _; rw [block_add]; exact hab)).trans hc2
          have hki : (k : Int) < (ds0.length : Int) := by omega
          have gA := hok.1.big
          have gB := hok.2.big
          clear hc0 hc1 hc2
          by_cases h1 : d.la.length ≤ 2
          · have f1 : decide ((2 : Int) < (d.la.length : Int)) = false := decide_eq_false (by omega)
            by_cases h2 : d.lb.length ≤ 2
            · have f2 : decide ((2 : Int) < (d.lb.length : Int)) = false := decide_eq_false (by omega)
              have na := (hok.1.nv (by omega)).below hbel
              have nb := (hok.2.nv (by omega)).below hbel
              obtain ⟨v, hv⟩ : ∃ v, Hid (vldF d.neg d.la d.lb = v) := ⟨_, rfl⟩
              have hsm := Lib.hid (show smB d = v by unfold smB; rw [decide_eq_true h1, decide_eq_true h2, hv.out]; rfl)
              go_wp2_with fail
              refine (refValidF_any (neg := d.neg) na nb (by omega) (by omega)).mono ?_
              rintro en wv ⟨rfl, bv⟩
              rw [hv.out]
              have bT := hbel.trans (bv.mono hbel.size)
              rcases v with _ | _
              · skip
                go_wp2_with fail
                refine (awake_any _).mono ?_
                rintro en wz ⟨rfl, bz⟩
                go_wp2
                go_ret
                exact ⟨rfl, bT.trans (bz.mono bT.size)⟩
              · have hs2 := Lib.hid (all_snoc hall.out hdk.out hsm.out)
                go_wp2
                go_roundw
                case rel => exact ⟨k + 1, by omega, by go_num, hs2, bT⟩
                case measure => simp [intOf]; omega
            · have f2 : decide ((2 : Int) < (d.lb.length : Int)) = true := decide_eq_true (by omega)
              clear h2
              go_wp2_with fail
              refine (awake_any _).mono ?_
              rintro en wz ⟨rfl, bz⟩
              go_wp2
              go_ret
              exact ⟨rfl, hbel.trans (bz.mono hbel.size)⟩
          · have f1 : decide ((2 : Int) < (d.la.length : Int)) = true := decide_eq_true (by omega)
            clear h1
            go_wp2_with fail
            refine (awake_any _).mono ?_
            rintro en wz ⟨rfl, bz⟩
            go_wp2
            go_ret
            exact ⟨rfl, hbel.trans (bz.mono hbel.size)⟩
        · obtain rfl : k = ds0.length := by omega
          have hfull1 := Lib.hid (show ∀ x ∈ ds0, smB x = true by have := hall.out; rw [List.take_length] at this; exact this)
          have hlt1 : decide ((ds0.length : Int) < (ds0.length : Int)) = false := decide_eq_false (by omega)
          clear hall hkl hk
          go_wp2
          go_loopw [6] (fun i wr => ChkInv ds1 w i wr) (fun i _ => ds1.length - (intOf i).toNat)
          case atStart => exact ⟨0, by omega, rfl, fun x hx => by simp at hx, hbel⟩
          case round =>
            obtain ⟨k, hk, rfl, hall, hbel⟩ := hrel
            by_cases hkl : k < ds1.length
            · obtain ⟨a, d, rfl, hab, hc0, hc1, hc2, hok, hdk⟩ := srow_at w1 xb.out hkl
              have g0 := (hbel.cell (p := a.add (k * 3)) (by rw [block_add]; exact hab)).trans hc0
              have g1 := (hbel.cell (p := ⟨(a.add (k * 3)).block, (a.add (k * 3)).off + 1, none⟩) (by show (a.add (k * 3)).block < _; rw [block_add]; exact hab)).trans hc1
              have g2 := (hbel.cell (p := ⟨(a.add (k * 3)).block, (a.add (k * 3)).off + 2, none⟩) (by show (a.add (k * 3)).block < _; rw [block_add]; exact hab)).trans hc2
              have hki : (k : Int) < (ds1.length : Int) := by omega
              have gA := hok.1.big
              have gB := hok.2.big
              clear hc0 hc1 hc2
              by_cases h1 : d.la.length ≤ 2
              · have f1 : decide ((2 : Int) < (d.la.length : Int)) = false := decide_eq_false (by omega)
                by_cases h2 : d.lb.length ≤ 2
                · have f2 : decide ((2 : Int) < (d.lb.length : Int)) = false := decide_eq_false (by omega)
                  have na := (hok.1.nv (by omega)).below hbel
                  have nb := (hok.2.nv (by omega)).below hbel
                  obtain ⟨v, hv⟩ : ∃ v, Hid (vldF d.neg d.la d.lb = v) := ⟨_, rfl⟩
                  have hsm := Lib.hid (show smB d = v by unfold smB; rw [decide_eq_true h1, decide_eq_true h2, hv.out]; rfl)
                  go_wp2_with fail
                  refine (refValidF_any (neg := d.neg) na nb (by omega) (by omega)).mono ?_
                  rintro en wv ⟨rfl, bv⟩
                  rw [hv.out]
                  have bT := hbel.trans (bv.mono hbel.size)
                  rcases v with _ | _
                  · skip
                    go_wp2_with fail
                    refine (awake_any _).mono ?_
                    rintro en wz ⟨rfl, bz⟩
                    go_wp2
                    go_ret
                    exact ⟨rfl, bT.trans (bz.mono bT.size)⟩
                  · have hs2 := Lib.hid (all_snoc hall.out hdk.out hsm.out)
                    go_wp2
                    go_roundw
                    case rel => exact ⟨k + 1, by omega, by go_num, hs2, bT⟩
                    case measure => simp [intOf]; omega
                · have f2 : decide ((2 : Int) < (d.lb.length : Int)) = true := decide_eq_true (by omega)
                  clear h2
                  go_wp2_with fail
                  refine (awake_any _).mono ?_
                  rintro en wz ⟨rfl, bz⟩
                  go_wp2
                  go_ret
                  exact ⟨rfl, hbel.trans (bz.mono hbel.size)⟩
              · have f1 : decide ((2 : Int) < (d.la.length : Int)) = true := decide_eq_true (by omega)
                clear h1
                go_wp2_with fail
                refine (awake_any _).mono ?_
                rintro en wz ⟨rfl, bz⟩
                go_wp2
                go_ret
                exact ⟨rfl, hbel.trans (bz.mono hbel.size)⟩
            · obtain rfl : k = ds1.length := by omega
              have hfull2 := Lib.hid (show ∀ x ∈ ds1, smB x = true by have := hall.out; rw [List.take_length] at this; exact this)
              have hlt2 : decide ((ds1.length : Int) < (ds1.length : Int)) = false := decide_eq_false (by omega)
              clear hall hkl hk
              obtain ⟨fa, ta⟩ := fl_of w0 xa.out hfull1.out
              obtain ⟨fb, tb⟩ := fl_of w1 xb.out hfull2.out
              have ta' := Lib.hid ta
              have tb' := Lib.hid tb
              clear ta tb
              have fa1 := fa.below hbel
              have fb1 := fb.below hbel
              go_wp2_with fail
              refine (sumF_any fa1 ta'.out (by omega)).mono ?_
              rintro en u1 ⟨v1, rfl, q1, b1⟩
              have B1 := hbel.trans (b1.mono hbel.size)
              go_wp2_with fail
              refine (refSumF_any (fa1.below b1) ta'.out (by omega)).mono ?_
              rintro en u2 ⟨v2, rfl, q2, b2⟩
              have B2 := B1.trans (b2.mono B1.size)
              go_wp2_with fail
              refine (sameQ_any (q1.below b2) q2).mono ?_
              rintro en u3 ⟨rfl, b3⟩
              rw [eq_self]
              have B3 := B2.trans (b3.mono B2.size)
              have fa3 := ((fa1.below b1).below b2).below b3
              have fb3 := ((fb1.below b1).below b2).below b3
              go_wp2_with fail
              refine (dotF_any fa3 fb3 ta'.out tb'.out (by omega)).mono ?_
              rintro en u4 ⟨v4, rfl, q4, b4⟩
              have B4 := B3.trans (b4.mono B3.size)
              go_wp2_with fail
              refine (refDotF_any (fa3.below b4) (fb3.below b4) ta'.out tb'.out (by omega)).mono ?_
              rintro en u5 ⟨v5, rfl, q5, b5⟩
              have B5 := B4.trans (b5.mono B4.size)
              go_wp2_with fail
              refine (sameQ_any (q4.below b5) q5).mono ?_
              rintro en u6 ⟨rfl, b6⟩
              rw [eq_self]
              have B6 := B5.trans (b6.mono B5.size)
              go_wp2_with fail
              refine (awake_any _).mono ?_
              rintro en wz ⟨rfl, bz⟩
              go_wp2
              go_ret
              exact ⟨rfl, B6.trans (bz.mono B6.size)⟩
    · have e5 : decide ((5 : Int) < (ds0.length : Int)) = false := decide_eq_false (by omega)
      have e6 : decide ((5 : Int) < (ds1.length : Int)) = true := decide_eq_true (by omega)
      go_enter Try.func9, Try.ntmps9
      go_wp2_with fail
      refine (awake_any _).mono ?_
      rintro en wz ⟨rfl, bz⟩
      go_wp2
      go_ret
      exact ⟨rfl, bz⟩
  · have e5 : decide ((5 : Int) < (ds0.length : Int)) = true := decide_eq_true (by omega)
    go_enter Try.func9, Try.ntmps9
    go_wp2_with fail
    refine (awake_any _).mono ?_
    rintro en wz ⟨rfl, bz⟩
    go_wp2
    go_ret
    exact ⟨rfl, bz⟩

/-! ### THE ROW's STEP: WRITTEN OUT: LEAVE IT -/
set_option maxRecDepth 100000 in
theorem lifted (os : Os) (started : os.Started) (H : Type) (enc : TypeId × Value → H) :
    ReturnsInHanded {} Try.checked os 9 .any (Rows.fractionSumsSpec.pre6 enc Try.prog Try.f9 Rows.fractionSumsRow.domain false) (Rows.fractionSumsSpec.post enc Try.prog Try.f9 false true false false) := by
  refine returnsInHanded_of_change (C := Try.checked) own started (by kernel_rfl) Try.func9
    (ChangeSpec.witness6 (enc := enc) (C := Try.checked) false ⟨#[], #[.slice none 0 0, .slice none 0 0], []⟩ 8 (by kernel_rfl) (by kernel_rfl) (by kernel_rfl) (by kernel_rfl)) ?_
  intro W base args ds gs before hval0 hW hcnd _
  have hval : ∀ (j : Nat) t v, Try.f9.params[j]? = some t → args[j]? = some v → Value.okWide Try.prog W .any base t v := hval0
  have hW' := hW
  obtain ⟨p, q, hA0, hV, rfl, hfz, hnd⟩ := hW
  have hA : DataW.TrodAll enc Try.prog W 0 (fun _ => true) true Try.f9.params.toList args.toList ds p := hA0
  rw [Try.params9] at hA hval
  obtain ⟨v0, vs0, d0, ds0, p0, q0, hargs, rfl, rfl, h0, r0⟩ := trodAll_cons hA
  obtain ⟨v1, vs1, d1, ds1, p1, q1, rfl, rfl, rfl, h1, r1⟩ := trodAll_cons r0
  obtain ⟨rfl, rfl, rfl⟩ := trodAll_nil r1
  obtain rfl : args = #[v0, v1] := by cases args; simp_all
  obtain ⟨rfl, rfl⟩ := trodVars_none hV
  have k0 := h0
  have lt0 : ∀ x ∈ p0, x.block < W.heap.size := by obtain ⟨m, hm⟩ := k0; exact DataW.trod_lt m _ _ _ hm
  obtain ⟨A0, c0, ds0, rfl, w0, x0⟩ := open_fracs (hval 0 47 v0 rfl rfl) h0
  have k1 := h1
  have lt1 : ∀ x ∈ p1, x.block < W.heap.size := by obtain ⟨m, hm⟩ := k1; exact DataW.trod_lt m _ _ _ hm
  obtain ⟨A1, c1, ds1, rfl, w1, x1⟩ := open_fracs (hval 1 47 v1 rfl rfl) h1
  clear hA0 hval0
  refine (walk A0 c0 ds0 A1 c1 ds1 W w0 x0 w1 x1).mono fun e W' ⟨he, bel⟩ => ?_
  subst he
  exact ⟨_, rfl, _, _, _, [], _, [], hW', trodAll_mk1 (shut_bool Try.underlying4 _), (trodAll_cons_mk (Below.trod laidOut (by kernel_rfl) (of_decide_eq_true (by kernel_rfl)) k0 bel lt0) (trodAll_cons_mk (Below.trod laidOut (by kernel_rfl) (of_decide_eq_true (by kernel_rfl)) k1 bel lt1) trodAll_mk0)), rfl, bel.frame _, fun h => by cases h⟩

theorem over : Rows.fractionSumsRow.holds Try.pinned (OpenSpec.ofChange Rows.fractionSumsSpec) :=
  OpenClaim.holds_of_wide 9 Try.f9 rfl rfl rfl rfl rfl rfl rfl ⟨rfl, rfl, rfl, rfl, rfl⟩ rfl rfl rfl rfl rfl (by kernel_rfl) Try.func9 (by kernel_rfl)
    (of_decide_eq_true (by kernel_rfl)) (by unfold Func.isWrapper; first | (rw [if_pos (by decide +kernel)]; kernel_rfl) | (rw [if_neg (by decide +kernel)]; exact ⟨rfl, rfl⟩))
    (fun os started H enc _ => lifted os started H enc)

/-- ████ THE STATEMENT ████ -/
theorem proved : Rows.FractionSumsSaid := over
#print axioms proved
end Go.Proofs.Ytghpcimeobmonaa.fractionSums
