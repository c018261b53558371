/- The statement FractionValid of the given program: the law returns true for every input, and writes nothing that was there. The walk is proved over the contracts of the functions it calls. -/
import Derived.Test.YtghpcimeobmonaaRows
import Derived.Test.YtghpcimeobmonaaLShort
import Derived.Test.YtghpcimeobmonaaLAwake
import Derived.WalkKit
import Derived.ProofKit
import Derived.OpenShut
import Derived.ShutString
import Derived.ChangeOld
import Derived.Below
namespace Go.Proofs.Ytghpcimeobmonaa.fractionValid
open Go.ChangeShapes Go.WideShapes Go.ChangeAt Go.RowKit
open Plain
open Go.ChangeMaps (open_string shut_string)
set_option linter.unusedVariables false
set_option linter.unusedSimpArgs false

theorem own : ownKnob Try.prog.godebug = none := by kernel_rfl
theorem laidOut : laidOutB Try.prog = true := by kernel_rfl

set_option maxRecDepth 100000 in
set_option maxHeartbeats 2000000 in
theorem walk (f0 : FrD) (w : World) (w0 : f0.ok w) :
    Calls Try.prog 7 #[fracV f0.neg f0.a f0.la.length f0.ca f0.b f0.lb.length f0.cb] w fun e w' => e = .returned (.bool true) ∧ Below w.heap.size w w' := by
  have hf := w0
  obtain ⟨ia, ib⟩ := w0
  obtain ⟨neg, A, ca, la, B, cb, lb⟩ := f0
  dsimp only at ia ib hf ⊢
  have ga := ia.big
  have gb := ib.big
  obtain ⟨w0, hw0, bw0, hlt0, hB0⟩ := boxed w #[.bool neg, .slice A la.length ca, .slice B lb.length cb] 25
  have k0 := hB0.f0
  have k1 := hB0.f1
  have k2 := hB0.f2
  by_cases h1 : la.length ≤ 20
  · by_cases h2 : lb.length ≤ 20
    · have d1 : decide ((20 : Int) < (la.length : Int)) = false := decide_eq_false (by omega)
      have d2 : decide ((20 : Int) < (lb.length : Int)) = false := decide_eq_false (by omega)
      have na := (ia.nv (by omega)).below bw0
      have nb := (ib.nv (by omega)).below bw0
      obtain ⟨v, hv⟩ : ∃ v, Hid (vldF neg la lb = v) := ⟨_, rfl⟩
      have hS : ∀ w', Below w0.heap.size w0 w' → w'.cell? ⟨w.heap.size, 0, none⟩ = some (.bool neg) ∧ w'.cell? ⟨w.heap.size, 1, none⟩ = some (.slice A la.length ca) ∧ w'.cell? ⟨w.heap.size, 2, none⟩ = some (.slice B lb.length cb) ∧ Below w0.heap.size w0 w' := fun w' o => ⟨(hB0.keep o).f0, (hB0.keep o).f1, (hB0.keep o).f2, o⟩
      have d6 : Below w0.heap.size w0 w0.drew := (Below.refl _ _).drew
      clear ia ib hf
      go_enter Try.func7, Try.ntmps7
      go_wp2_with fail
      go_region_held3 (fun w' => w'.cell? ⟨w.heap.size, 0, none⟩ = some (.bool neg) ∧ w'.cell? ⟨w.heap.size, 1, none⟩ = some (.slice A la.length ca) ∧ w'.cell? ⟨w.heap.size, 2, none⟩ = some (.slice B lb.length cb) ∧ Below w0.heap.size w0 w') (((try go_split_ands); (try dsimp only); exact hS _ (by assumption))) (first
        | (go_at_call 35; go_split_ands; (with_reducible refine (fvalid_any (na.below (by assumption)) (nb.below (by assumption)) (by omega) (by omega)).mono ?_); rintro e wa ⟨rfl, ba⟩; rw [hv.out]; have o1 := below_step (show Below w0.heap.size w0 _ by assumption) ba)
        | (go_at_call 30; go_split_ands; (with_reducible refine (refValidF_any (na.below (by assumption)) (nb.below (by assumption)) (by omega) (by omega)).mono ?_); rintro e wb ⟨rfl, bb⟩; rw [hv.out]; have o2 := below_step (show Below w0.heap.size w0 _ by assumption) bb)
        | (go_at_call 11; go_split_ands; (with_reducible refine (awake_any _).mono ?_); rintro e wc ⟨rfl, bc⟩; have o3 := below_step (show Below w0.heap.size w0 _ by assumption) bc))
      all_goals
        go_wp2
        go_ret
        exact ⟨rfl, bw0.trans (o3.mono (Nat.le_of_lt hlt0))⟩
    · have d1 : decide ((20 : Int) < (la.length : Int)) = false := decide_eq_false (by omega)
      have d2 : decide ((20 : Int) < (lb.length : Int)) = true := decide_eq_true (by omega)
      clear ia ib hf
      go_enter Try.func7, Try.ntmps7
      go_wp2_with fail
      refine (awake_any _).mono ?_
      rintro en wz ⟨rfl, b9⟩
      go_wp2
      go_ret
      exact ⟨rfl, bw0.trans (b9.mono (Nat.le_of_lt hlt0))⟩
  · have d1 : decide ((20 : Int) < (la.length : Int)) = true := decide_eq_true (by omega)
    clear ia ib hf
    go_enter Try.func7, Try.ntmps7
    go_wp2_with fail
    refine (awake_any _).mono ?_
    rintro en wz ⟨rfl, b9⟩
    go_wp2
    go_ret
    exact ⟨rfl, bw0.trans (b9.mono (Nat.le_of_lt hlt0))⟩

/-! ### THE ROW's STEP: WRITTEN OUT: LEAVE IT -/
set_option maxRecDepth 100000 in
theorem lifted (os : Os) (started : os.Started) (H : Type) (enc : TypeId × Value → H) :
    ReturnsInHanded {} Try.checked os 7 .any (Rows.fractionValidSpec.pre6 enc Try.prog Try.f7 Rows.fractionValidRow.domain false) (Rows.fractionValidSpec.post enc Try.prog Try.f7 false true false false) := by
  refine returnsInHanded_of_change (C := Try.checked) own started (by kernel_rfl) Try.func7
    (ChangeSpec.witness6 (enc := enc) (C := Try.checked) false ⟨#[], #[.agg #[.bool false, .slice none 0 0, .slice none 0 0]], []⟩ 8 (by kernel_rfl) (by kernel_rfl) (by kernel_rfl) (by kernel_rfl)) ?_
  intro W base args ds gs before hval0 hW hcnd _
  have hval : ∀ (j : Nat) t v, Try.f7.params[j]? = some t → args[j]? = some v → Value.okWide Try.prog W .any base t v := hval0
  have hW' := hW
  obtain ⟨p, q, hA0, hV, rfl, hfz, hnd⟩ := hW
  have hA : DataW.TrodAll enc Try.prog W 0 (fun _ => true) true Try.f7.params.toList args.toList ds p := hA0
  rw [Try.params7] at hA hval
  obtain ⟨v0, vs0, d0, ds0, p0, q0, hargs, rfl, rfl, h0, r0⟩ := trodAll_cons hA
  obtain ⟨rfl, rfl, rfl⟩ := trodAll_nil r0
  obtain rfl : args = #[v0] := by cases args; simp_all
  obtain ⟨rfl, rfl⟩ := trodVars_none hV
  have k0 := h0
  have lt0 : ∀ x ∈ p0, x.block < W.heap.size := by obtain ⟨m, hm⟩ := k0; exact DataW.trod_lt m _ _ _ hm
  obtain ⟨f0, rfl, w0⟩ := open_frac (hval 0 25 v0 rfl rfl) h0
  clear hA0 hval0
  refine (walk f0 W w0).mono fun e W' ⟨he, bel⟩ => ?_
  subst he
  exact ⟨_, rfl, _, _, _, [], _, [], hW', trodAll_mk1 (shut_bool Try.underlying4 _), (trodAll_cons_mk (Below.trod laidOut (by kernel_rfl) (of_decide_eq_true (by kernel_rfl)) k0 bel lt0) trodAll_mk0), rfl, bel.frame _, fun h => by cases h⟩

theorem over : Rows.fractionValidRow.holds Try.pinned (OpenSpec.ofChange Rows.fractionValidSpec) :=
  OpenClaim.holds_of_wide 7 Try.f7 rfl rfl rfl rfl rfl rfl rfl ⟨rfl, rfl, rfl, rfl, rfl⟩ rfl rfl rfl rfl rfl (by kernel_rfl) Try.func7 (by kernel_rfl)
    (of_decide_eq_true (by kernel_rfl)) (by unfold Func.isWrapper; first | (rw [if_pos (by decide +kernel)]; kernel_rfl) | (rw [if_neg (by decide +kernel)]; exact ⟨rfl, rfl⟩))
    (fun os started H enc _ => lifted os started H enc)

/-- ████ THE STATEMENT ████ -/
theorem proved : Rows.FractionValidSaid := over
#print axioms proved
end Go.Proofs.Ytghpcimeobmonaa.fractionValid
