/- The statement NaturalShows of the given program: the law returns true for every input, and writes nothing that was there. The walk is proved over the contracts of the functions it calls. -/
import Derived.Test.YtkbibdbojdbfkaaRows
import Derived.Test.YtkbibdbojdbfkaaLRow
import Derived.Test.YtkbibdbojdbfkaaLShow
import Derived.Test.YtkbibdbojdbfkaaWGcd
import Derived.WalkKit
import Derived.ProofKit
import Derived.OpenShut
import Derived.ShutString
import Derived.ChangeOld
import Derived.Below
namespace Go.Proofs.Ytkbibdbojdbfkaa.naturalShows
open Go.ChangeShapes Go.WideShapes Go.ChangeAt Go.RowKit
open Plain
open Go.ChangeMaps (open_string shut_string)
set_option linter.unusedVariables false
set_option linter.unusedSimpArgs false

theorem own : ownKnob Try.prog.godebug = none := by kernel_rfl
theorem laidOut : laidOutB Try.prog = true := by kernel_rfl

/-- WHAT THE WALK IS TOLD OF A SLICE OF INTEGERS THAT CAME IN: it is nil; or it leads to a row of 'cap' cells, the numbers 'zs' (the first 'len' are its elements, the rest its spare room), each fitting its kind. -/
def IsRow (k : IntKind) (w : World) (a : Option Addr) (len cap : Nat) (zs : List Int) : Prop :=
  (a = none ∧ len = 0 ∧ cap = 0 ∧ zs = []) ∨
  ∃ x, a = some x ∧ len ≤ cap ∧ cap ≤ maxLen ∧ zs.length = cap ∧ (∀ i, i < zs.length → w.cell? (x.add i) = some (.int k (zs.getD i 0))) ∧ ∀ n ∈ zs, (Lit.int k n).wf = true

theorem walk (a0 : Option Addr) (len0 cap0 : Nat) (z0 : List Int) (w : World) (w0 : IsRow .u32 w a0 len0 cap0 z0) :
    Calls Try.prog 9 #[.slice a0 len0 cap0] w fun e w' => e = .returned (.bool true) ∧ Below w.heap.size w w' := by
  obtain ⟨la, ha, rfl, ra⟩ := inRow_of w0
  clear ha w0
  by_cases fa : fewL la 30 = true
  · have la30 := fewL_le fa
    have na := ra.nv (by omega)
    have fa' := Lib.hid fa
    have ia' := Lib.hid (fewL_natIs ra.dig fa)
    clear fa
    go_enter Try.func9, Try.ntmps9
    go_wp2_with fail
    refine (few_row ra 30 _ rfl (by omega)).mono ?_
    rintro e w1 ⟨rfl, rfl⟩
    rw [fa'.out]
    go_wp2_with fail
    refine (format_any na (by omega)).mono ?_
    rintro e w1 ⟨rfl, b1⟩
    have hshow := shows (n := val la) (Nat.lt_of_lt_of_le (val_lt ra.dig) (pw_mono la30))
    obtain ⟨S, hS⟩ : ∃ S, Hid (strOf (decs (val la)) = S) := ⟨_, rfl⟩
    rw [hS.out] at hshow ⊢
    have hse := Lib.hid hshow.1
    have hsv := Lib.hid hshow.2.1
    have hsz := hshow.2.2
    clear hshow
    have na1 := na.below b1
    go_wp2_with fail
    refine (uint_any na1).mono ?_
    rintro e w2 ⟨rfl, b2⟩
    obtain ⟨x, hx⟩ : ∃ x, Hid (uintOf (val la) = x) := ⟨_, rfl⟩
    obtain ⟨y, hy⟩ : ∃ y, Hid (isUint (val la) = y) := ⟨_, rfl⟩
    rw [hx.out, hy.out]
    have b12 := b1.trans (b2.mono b1.size)
    have na2 := na1.below b2
    go_wp2_with fail
    refine (refUint_any na2 ia'.out.canon).mono ?_
    rintro e w3 ⟨rfl, rfl⟩
    rw [hx.out, hy.out]
    go_wp2_with fail
    refine (parse_any S _ (by omega)).mono ?_
    rintro e w4 ⟨A4, c4, r4, rfl, n4, i4, m4, b4⟩
    rw [hse.out]
    have e4 := Lib.hid (decide_eq_true (show la = r4 from by rw [hsv.out] at i4; exact ia'.out.uniq i4))
    clear i4
    have b14 := b12.trans (b4.mono b12.size)
    have na4 := na2.below b4
    go_wp2_with fail
    refine (refFormat_any na4 ia'.out.canon (by omega)).mono ?_
    rintro e w5 ⟨rfl, b5⟩
    rw [hS.out]
    have b15 := b14.trans (b5.mono b14.size)
    have na5 := na4.below b5
    have hss2 : decide (S = S) = true := decide_eq_true rfl
    go_wp2_with fail
    refine (bits_any na5 (by omega)).mono ?_
    rintro e w6 ⟨rfl, rfl⟩
    obtain ⟨z, hz⟩ : ∃ z, Hid (bitLen (val la) = z) := ⟨_, rfl⟩
    rw [hz.out]
    go_wp2_with fail
    refine (refBits_any na5 (by omega)).mono ?_
    rintro e w7 ⟨rfl, n7, rfl⟩
    rw [hz.out]
    have b17 := b15.trans ((below_drewN' w5 n7).mono b15.size)
    go_wp2_with fail
    refine (same_any (na5.below (below_drewN' w5 n7)) ((n4.below b5).below (below_drewN' w5 n7))).mono ?_
    rintro e w8 ⟨rfl, b8⟩
    have b18 := b17.trans (b8.mono b17.size)
    rw [e4.out]
    go_wp2_with fail
    refine (lives_any _).mono ?_
    rintro e w9 ⟨rfl, b9⟩
    have b19 := b18.trans (b9.mono b18.size)
    go_wp2
    go_ret
    exact ⟨rfl, b19⟩
  · have fa' := Lib.hid (eq_false_of_ne_true fa)
    clear fa
    go_enter Try.func9, Try.ntmps9
    go_wp2_with fail
    refine (few_row ra 30 _ rfl (by omega)).mono ?_
    rintro e w1 ⟨rfl, rfl⟩
    rw [fa'.out]
    go_wp2_with fail
    refine (lives_any _).mono ?_
    rintro e w1 ⟨rfl, bel⟩
    go_wp2
    go_ret
    exact ⟨rfl, bel⟩

/-! ### THE ROW's STEP: WRITTEN OUT: LEAVE IT -/
set_option maxRecDepth 100000 in
theorem lifted (os : Os) (started : os.Started) (H : Type) (enc : TypeId × Value → H) :
    ReturnsInHanded {} Try.checked os 9 .any (Rows.naturalShowsSpec.pre6 enc Try.prog Try.f9 Rows.naturalShowsRow.domain false) (Rows.naturalShowsSpec.post enc Try.prog Try.f9 false true false false) := by
  refine returnsInHanded_of_change (C := Try.checked) own started (by kernel_rfl) Try.func9
    (ChangeSpec.witness6 (enc := enc) (C := Try.checked) false ⟨#[], #[.slice none 0 0], []⟩ 8 (by kernel_rfl) (by kernel_rfl) (by kernel_rfl) (by kernel_rfl)) ?_
  intro W base args ds gs before hval0 hW hcnd _
  have hval : ∀ (j : Nat) t v, Try.f9.params[j]? = some t → args[j]? = some v → Value.okWide Try.prog W .any base t v := hval0
  have hW' := hW
  obtain ⟨p, q, hA0, hV, rfl, hfz, hnd⟩ := hW
  have hA : DataW.TrodAll enc Try.prog W 0 (fun _ => true) true Try.f9.params.toList args.toList ds p := hA0
  rw [Try.params9] at hA hval
  obtain ⟨v0, vs0, d0, ds0, p0, q0, hargs, rfl, rfl, h0, r0⟩ := trodAll_cons hA
  obtain ⟨rfl, rfl, rfl⟩ := trodAll_nil r0
  obtain rfl : args = #[v0] := by cases args; simp_all
  obtain ⟨rfl, rfl⟩ := trodVars_none hV
  obtain ⟨a0, len0, cap0, rfl⟩ := okWide_slice Try.underlying38 (hval 0 38 v0 rfl rfl)
  have k0 := h0
  have lt0 : ∀ x ∈ p0, x.block < W.heap.size := by obtain ⟨m, hm⟩ := k0; exact DataW.trod_lt m _ _ _ hm
  obtain ⟨z0, w0⟩ : ∃ zs, IsRow .u32 W a0 len0 cap0 zs := by
    obtain ⟨fuel, hf⟩ := h0
    rcases open_ints Try.underlying38 Try.underlying78 (by kernel_rfl) hf with ⟨hcs, _⟩ | ⟨x, l, c, zs, hcs, _, hl, hm, hz, _, hcell, hwz⟩
    · simp [Value.cells] at hcs
      obtain ⟨rfl, rfl, rfl⟩ := hcs
      exact ⟨[], .inl ⟨rfl, rfl, rfl, rfl⟩⟩
    · simp [Value.cells] at hcs
      obtain ⟨rfl, rfl, rfl⟩ := hcs
      exact ⟨zs, .inr ⟨_, rfl, hl, hm, by simpa using hz, hcell, hwz⟩⟩
  clear hA0 hval0
  refine (walk a0 len0 cap0 z0 W w0).mono fun e W' ⟨he, bel⟩ => ?_
  subst he
  exact ⟨_, rfl, _, _, _, [], _, [], hW', trodAll_mk1 (shut_bool Try.underlying4 _), (trodAll_cons_mk (Below.trod laidOut (by kernel_rfl) (of_decide_eq_true (by kernel_rfl)) k0 bel lt0) trodAll_mk0), rfl, bel.frame _, fun h => by cases h⟩

theorem over : Rows.naturalShowsRow.holds Try.pinned (OpenSpec.ofChange Rows.naturalShowsSpec) :=
  OpenClaim.holds_of_wide 9 Try.f9 rfl rfl rfl rfl rfl rfl rfl ⟨rfl, rfl, rfl, rfl, rfl⟩ rfl rfl rfl rfl rfl (by kernel_rfl) Try.func9 (by kernel_rfl)
    (of_decide_eq_true (by kernel_rfl)) (by unfold Func.isWrapper; first | (rw [if_pos (by decide +kernel)]; kernel_rfl) | (rw [if_neg (by decide +kernel)]; exact ⟨rfl, rfl⟩))
    (fun os started H enc _ => lifted os started H enc)

/-- ████ THE STATEMENT ████ -/
theorem proved : Rows.NaturalShowsSaid := over
#print axioms proved
end Go.Proofs.Ytkbibdbojdbfkaa.naturalShows
