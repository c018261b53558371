/- The statement WireReads of the given program: the law returns true for every input, and writes nothing that was there. The walk is proved over the contracts of the functions it calls. -/
import Derived.Test.YtkbibdbojdbfkaaRows
import Derived.Test.YtkbibdbojdbfkaaOpen
import Derived.WalkKit
import Derived.ProofKit
import Derived.OpenShut
import Derived.ShutString
import Derived.ChangeOld
import Derived.Below
namespace Go.Proofs.Ytkbibdbojdbfkaa.wireReads
open Go.ChangeShapes Go.WideShapes Go.ChangeAt Go.RowKit
open Plain
open Go.ChangeMaps (open_string shut_string)
set_option linter.unusedVariables false
set_option linter.unusedSimpArgs false

theorem own : ownKnob Try.prog.godebug = none := by kernel_rfl
theorem laidOut : laidOutB Try.prog = true := by kernel_rfl

def RdInv (n g1 g2 : Nat) (w : World) (i : Value) (wr : World) : Prop := ∃ k : Nat, k ≤ n ∧ i = .int .i64 (k : Int) ∧ Sync wr g1 g2 ∧ Below w.heap.size w wr
theorem srow_at {w : World} {A : Option Addr} {c : Nat} {ds : List StD} {j : Nat} (h : Srow w 3 StD.cells A c ds) (hj : j < ds.length) : ∃ a, A = some a ∧ a.block < w.heap.size ∧ w.cell? (a.add (j * 3)) = some (.int .u8 ((ds[j].k : Nat) : Int)) ∧ w.cell? ⟨(a.add (j * 3)).block, (a.add (j * 3)).off + 1, none⟩ = some (.int .i64 ds[j].n) ∧ w.cell? ⟨(a.add (j * 3)).block, (a.add (j * 3)).off + 2, none⟩ = some (.int .i64 ds[j].e) := by
  obtain ⟨a, e, h1, h2⟩ := h.2.2 j hj
  exact ⟨a, e, h1, h2 0 _ rfl, cellK (a := a.add (j * 3)) (by rw [add_add]; exact h2 1 _ rfl) (by decide), cellK (a := a.add (j * 3)) (by rw [add_add]; exact h2 2 _ rfl) (by decide)⟩
theorem walk (a0 : ByteArray) (A1 : Option Addr) (c1 : Nat) (ds1 : List StD) (w : World) (w0 : a0.size ≤ maxLen) (w1 : Srow w 3 StD.cells A1 c1 ds1) (x1 : ∀ f ∈ ds1, f.ok) :
    Calls Try.prog 14 #[.string a0, .slice A1 ds1.length c1] w fun e w' => e = .returned (.bool true) ∧ Below w.heap.size w w' := by
  unfold maxLen at w0
  have h0 : ∃ s : ByteArray, s = a0 := ⟨_, rfl⟩
  have hc1 := w1.1
  have hc2 := w1.2.1
  by_cases hbig : 60 < a0.size
  all_goals
    have hd60 : decide ((60 : Int) < (a0.size : Int)) = decide (60 < a0.size) := by rw [decide_eq_decide]; omega
    first
      | (rw [decide_eq_true hbig] at hd60
         obtain ⟨s, hs⟩ : ∃ s, a0.extract 0 60 = s := ⟨_, rfl⟩
         have hs60 : s.size ≤ 60 := by rw [← hs, ByteArray.size_extract]; omega
         have h60 : 60 ≤ a0.size := by omega)
      | (rw [decide_eq_false hbig] at hd60
         obtain ⟨s, hs⟩ := h0
         subst hs
         have hs60 : s.size ≤ 60 := by omega)
    have hzs : s.size ≤ 1000000 := by omega
    clear hbig
    by_cases hbl : 40 < ds1.length
    all_goals
      have hd40 : decide ((40 : Int) < (ds1.length : Int)) = decide (40 < ds1.length) := by rw [decide_eq_decide]; omega
      first
        | (rw [decide_eq_true hbl] at hd40
           obtain ⟨st, hst, hstl⟩ : ∃ st, Hid (st = ds1.take 40) ∧ st.length = 40 := ⟨_, rfl, by rw [List.length_take]; omega⟩
           have hrow : Srow w 3 StD.cells A1 c1 st := by rw [hst.out]; exact w1.take 40
           have hok : ∀ f ∈ st, f.ok := fun f hf => x1 f (by rw [hst.out] at hf; exact List.mem_of_mem_take hf)
           have h40 : 40 ≤ ds1.length := by omega
           have h40c : 40 ≤ c1 := by omega)
        | (rw [decide_eq_false hbl] at hd40
           obtain ⟨st, hst, hstl⟩ : ∃ st, Hid (st = ds1) ∧ st.length = ds1.length := ⟨_, rfl, rfl⟩
           have hrow : Srow w 3 StD.cells A1 c1 st := by rw [hst.out]; exact w1
           have hok : ∀ f ∈ st, f.ok := fun f hf => x1 f (by rw [hst.out] at hf; exact hf))
      clear hbl w1 x1
      have hok' := Lib.hid hok
      have hstl' := Lib.hid hstl
      clear hok hstl
      go_enter Try.func14, Try.ntmps14
      go_wp2_with fail
      refine (newR_any s _ hzs).mono ?_
      rintro en w1 ⟨rfl, hr1, b1⟩
      go_wp2_with fail
      refine (newRef_any s _ hzs).mono ?_
      rintro en w2 ⟨rfl, hr2, b2⟩
      have hr12 := hr1.below b2 hr1.lt
      have hne := Nat.ne_of_lt hr1.lt
      have hB2 : w.heap.size ≤ w1.heap.size := Nat.le_of_lt hr1.lt
      have hsync : Sync w2 w.heap.size w1.heap.size := ⟨_, _, _, hr12, hr2, fun _ => rfl⟩
      have b02 := b1.trans (b2.mono b1.size)
      obtain ⟨g1, hg1⟩ : ∃ g, w.heap.size = g := ⟨_, rfl⟩
      obtain ⟨g2, hg2⟩ : ∃ g, w1.heap.size = g := ⟨_, rfl⟩
      have hB1' := Lib.hid (show w.heap.size ≤ g1 from Nat.le_of_eq hg1)
      rw [hg2] at hB2 hne hsync
      have hB2' := Lib.hid hB2
      rw [hg1] at hne hsync
      have hne' := Lib.hid hne
      rw [hg1, hg2]
      have hsync' := Lib.hid hsync
      have b02' := Lib.hid b02
      clear hg1 hg2 hB2 hne hr1 hr2 hr12 b1 b2 hsync b02
      go_wp2
      go_loopw [7] (fun i wr => RdInv st.length g1 g2 w i wr) (fun i _ => st.length - (intOf i).toNat)
      case atStart => exact ⟨0, by omega, rfl, hsync'.out, b02'.out⟩
      case round =>
        obtain ⟨k, hk, rfl, hsy, hbel⟩ := hrel
        by_cases hkn : k < st.length
        · obtain ⟨a, rfl, hab, ca, cb, cc⟩ := srow_at (hrow.below hbel) hkn
          obtain ⟨o1, o2, o3⟩ := hok'.out st[k] (List.getElem_mem hkn)
          obtain ⟨kk, hkk⟩ : ∃ x, st[k].k = x := ⟨_, rfl⟩
          obtain ⟨kn, hkn'⟩ : ∃ x, st[k].n = x := ⟨_, rfl⟩
          obtain ⟨ke, hke⟩ : ∃ x, st[k].e = x := ⟨_, rfl⟩
          rw [hkk] at ca o1
          rw [hkn'] at cb o2
          rw [hke] at cc o3
          clear hkk hkn' hke
          obtain ⟨l1, l2, e, r1, r2, hs⟩ := hsy
          first
            | (have hkst : st.length = 40 := hstl'.out
               have hkd : decide ((k : Int) < 40) = true := decide_eq_true (by omega)
               have hkd' : k < 40 := by omega
               clear hkst)
            | (have hkst : st.length = ds1.length := hstl'.out
               have hkd : decide (k < ds1.length) = true := decide_eq_true (by omega)
               have hkd' : k < ds1.length := by omega
               clear hkst)
          go_wp2_with fail
          refine (play_any r1 r2 hs hne'.out o1 o2.1 o2.2 o3.1 o3.2 hbel hB1'.out hB2'.out (Nat.le_refl _)).mono ?_
          rintro en w3 ⟨rfl, ⟨l1', l2', e', r1', r2', hs'⟩, b3⟩
          have hl := Lib.hid (sync_left hs')
          have hss := Lib.hid (show Sync w3 g1 g2 from ⟨l1', l2', e', r1', r2', hs'⟩)
          clear hs' hs r1 r2
          go_wp2_with fail
          refine (err_any r1').mono ?_
          rintro en w4 ⟨rfl, rfl⟩
          go_wp2_with fail
          refine (refErr_any r2').mono ?_
          rintro en w4 ⟨rfl, rfl⟩
          go_wp2_with fail
          refine (left_any r1').mono ?_
          rintro en w4 ⟨rfl, rfl⟩
          rw [hl.out]
          go_wp2_with fail
          refine (refLeft_any r2').mono ?_
          rintro en w4 ⟨rfl, rfl⟩
          go_wp2
          go_roundw
          case rel => exact ⟨k + 1, by omega, by go_num, hss.out, b3⟩
          case measure => simp [intOf]; omega
        · first
            | (have hkst : st.length = 40 := hstl'.out
               have hkd : decide ((k : Int) < 40) = false := decide_eq_false (by omega)
               clear hkst)
            | (have hkst : st.length = ds1.length := hstl'.out
               have hkd : decide (k < ds1.length) = false := decide_eq_false (by omega)
               clear hkst)
          go_wp2_with fail
          refine (livesW_any _).mono ?_
          rintro en wz ⟨rfl, b9⟩
          go_wp2
          go_ret
          exact ⟨rfl, hbel.trans (b9.mono hbel.size)⟩

/-! ### THE ROW's STEP: WRITTEN OUT: LEAVE IT -/
set_option maxRecDepth 100000 in
theorem lifted (os : Os) (started : os.Started) (H : Type) (enc : TypeId × Value → H) :
    ReturnsInHanded {} Try.checked os 14 .any (Rows.wireReadsSpec.pre6 enc Try.prog Try.f14 Rows.wireReadsRow.domain false) (Rows.wireReadsSpec.post enc Try.prog Try.f14 false true false false) := by
  refine returnsInHanded_of_change (C := Try.checked) own started (by kernel_rfl) Try.func14
    (ChangeSpec.witness6 (enc := enc) (C := Try.checked) false ⟨#[], #[.string ByteArray.empty, .slice none 0 0], []⟩ 8 (by kernel_rfl) (by kernel_rfl) (by kernel_rfl) (by kernel_rfl)) ?_
  intro W base args ds gs before hval0 hW hcnd _
  have hval : ∀ (j : Nat) t v, Try.f14.params[j]? = some t → args[j]? = some v → Value.okWide Try.prog W .any base t v := hval0
  have hW' := hW
  obtain ⟨p, q, hA0, hV, rfl, hfz, hnd⟩ := hW
  have hA : DataW.TrodAll enc Try.prog W 0 (fun _ => true) true Try.f14.params.toList args.toList ds p := hA0
  rw [Try.params14] at hA hval
  obtain ⟨v0, vs0, d0, ds0, p0, q0, hargs, rfl, rfl, h0, r0⟩ := trodAll_cons hA
  obtain ⟨v1, vs1, d1, ds1, p1, q1, rfl, rfl, rfl, h1, r1⟩ := trodAll_cons r0
  obtain ⟨rfl, rfl, rfl⟩ := trodAll_nil r1
  obtain rfl : args = #[v0, v1] := by cases args; simp_all
  obtain ⟨rfl, rfl⟩ := trodVars_none hV
  obtain ⟨a0, rfl, rfl, rfl, w0⟩ := open_string Try.underlying9 (hval 0 9 v0 rfl rfl) h0
  have k1 := h1
  have lt1 : ∀ x ∈ p1, x.block < W.heap.size := by obtain ⟨m, hm⟩ := k1; exact DataW.trod_lt m _ _ _ hm
  obtain ⟨A1, c1, ds1, rfl, w1, x1⟩ := open_steps (hval 1 64 v1 rfl rfl) h1
  clear hA0 hval0
  refine (walk a0 A1 c1 ds1 W w0 w1 x1).mono fun e W' ⟨he, bel⟩ => ?_
  subst he
  exact ⟨_, rfl, _, _, _, [], _, [], hW', trodAll_mk1 (shut_bool Try.underlying4 _), (trodAll_cons_mk (shut_string Try.underlying9 w0) (trodAll_cons_mk (Below.trod laidOut (by kernel_rfl) (of_decide_eq_true (by kernel_rfl)) k1 bel lt1) trodAll_mk0)), rfl, bel.frame _, fun h => by cases h⟩

theorem over : Rows.wireReadsRow.holds Try.pinned (OpenSpec.ofChange Rows.wireReadsSpec) :=
  OpenClaim.holds_of_wide 14 Try.f14 rfl rfl rfl rfl rfl rfl rfl ⟨rfl, rfl, rfl, rfl, rfl⟩ rfl rfl rfl rfl rfl (by kernel_rfl) Try.func14 (by kernel_rfl)
    (of_decide_eq_true (by kernel_rfl)) (by unfold Func.isWrapper; first | (rw [if_pos (by decide +kernel)]; kernel_rfl) | (rw [if_neg (by decide +kernel)]; exact ⟨rfl, rfl⟩))
    (fun os started H enc _ => lifted os started H enc)

/-- ████ THE STATEMENT ████ -/
theorem proved : Rows.WireReadsSaid := over
#print axioms proved
end Go.Proofs.Ytkbibdbojdbfkaa.wireReads
