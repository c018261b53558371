/- The statement WireRoundTrip of the given program: the law returns true for every input, and writes nothing that was there. The walk is proved over the contracts of the functions it calls. -/
import Derived.Test.YtkbibdbojdbfkaaRows
import Derived.Test.YtkbibdbojdbfkaaVRound
import Derived.WalkKit
import Derived.ProofKit
import Derived.OpenShut
import Derived.ShutString
import Derived.ChangeOld
import Derived.Below
namespace Go.Proofs.Ytkbibdbojdbfkaa.wireRoundTrip
open Go.ChangeShapes Go.WideShapes Go.ChangeAt Go.RowKit
open Plain
open Go.ChangeMaps (open_string shut_string)
set_option linter.unusedVariables false
set_option linter.unusedSimpArgs false

theorem own : ownKnob Try.prog.godebug = none := by kernel_rfl
theorem laidOut : laidOutB Try.prog = true := by kernel_rfl

/-- WHAT THE WALK IS TOLD OF A SLICE OF INTEGERS THAT CAME IN: it is nil; or it leads to a row of 'cap' cells, the numbers 'zs' (the first 'len' are its elements, the rest its spare room), each fitting its kind. -/
def IsRow (k : IntKind) (w : World) (a : Option Addr) (len cap : Nat) (zs : List Int) : Prop :=
  (a = none ∧ len = 0 ∧ cap = 0 ∧ zs = []) ∨
  ∃ x, a = some x ∧ len ≤ cap ∧ cap ≤ maxLen ∧ zs.length = cap ∧ (∀ i, i < zs.length → w.cell? (x.add i) = some (.int k (zs.getD i 0))) ∧ ∀ n ∈ zs, (Lit.int k n).wf = true

def RtInv (s : ByteArray) (n g : Nat) (w : World) (out i : Value) (wr : World) : Prop :=
  ∃ (k : Nat) (o : ByteArray) (lk : List Nat), k ≤ 40 ∧ k ≤ n ∧ i = .int .i64 (k : Int) ∧ out = .string o ∧ Rdr 77 wr g lk 0 ∧ Hid (bytes o ++ lk = bytes s) ∧ Hid (Byt lk) ∧ Below w.heap.size w wr
theorem join_size {o P s : ByteArray} {lk lx : List Nat} (h1 : bytes P ++ lx = lk) (h2 : bytes o ++ lk = bytes s) : o.size + P.size ≤ s.size := by
  have := congrArg List.length h2
  rw [← h1] at this
  simp only [List.length_append, bytes_length] at this
  omega
theorem join_next {o P s : ByteArray} {lk lx : List Nat} (h1 : bytes P ++ lx = lk) (h2 : bytes o ++ lk = bytes s) : bytes (o ++ P) ++ lx = bytes s := by
  rw [bytes_append, List.append_assoc, h1, h2]
theorem cut_back {o s : ByteArray} {lk : List Nat} (h : bytes o ++ lk = bytes s) : s.extract 0 (s.size - lk.length) = o ∧ lk.length ≤ s.size := by
  have hl := congrArg List.length h
  simp only [List.length_append, bytes_length] at hl
  refine ⟨byteArray_ext ?_, by omega⟩
  rw [bytes_extract, ← h, List.drop_zero, List.take_append_of_le_length (by rw [bytes_length]; omega), List.take_of_length_le (by rw [bytes_length]; omega)]
theorem walk (a0 : ByteArray) (a1 : Option Addr) (len1 cap1 : Nat) (z1 : List Int) (w : World) (w0 : a0.size ≤ maxLen) (w1 : IsRow .u8 w a1 len1 cap1 z1) :
    Calls Try.prog 15 #[.string a0, .slice a1 len1 cap1] w fun e w' => e = .returned (.bool true) ∧ Below w.heap.size w w' := by
  obtain ⟨kl, hkl, hklm, hrd, hkb⟩ := inRowB_of w1
  subst hkl
  unfold maxLen at w0
  clear w1
  have h0 : ∃ s : ByteArray, s = a0 := ⟨_, rfl⟩
  by_cases hbig : 60 < a0.size
  all_goals
    have hd60 : decide ((60 : Int) < (a0.size : Int)) = decide (60 < a0.size) := by rw [decide_eq_decide]; omega
    first
      | (rw [decide_eq_true hbig] at hd60
         obtain ⟨s, hs⟩ : ∃ s, a0.extract 0 60 = s := ⟨_, rfl⟩
         have hs60 : s.size ≤ 60 := by rw [← hs, ByteArray.size_extract]; omega
         have h60 : 60 ≤ a0.size := by omega)
      | (rw [decide_eq_false hbig] at hd60
         obtain ⟨s, hs⟩ := h0
         subst hs
         have hs60 : s.size ≤ 60 := by omega)
    have hzs : s.size ≤ 1000000 := by omega
    have hh0 : True := trivial
    clear hbig
    go_enter Try.func15, Try.ntmps15
    go_wp2_with fail
    refine (newR_any s _ hzs).mono ?_
    rintro en w1 ⟨rfl, hr0, hb0⟩
    have hgg := Lib.hid (Nat.le_refl w.heap.size)
    obtain ⟨g, hg⟩ : ∃ g, w.heap.size = g := ⟨_, rfl⟩
    have hgl := Lib.hid (show w.heap.size ≤ g from Nat.le_of_eq hg)
    have hg' := Lib.hid hg
    rw [hg] at hr0 ⊢
    clear hg
    go_wp2
    go_loopw [6, 7] (fun o i wr => RtInv s kl.length g w o i wr) (fun _ i _ => 40 - (intOf i).toNat)
    case atStart => exact ⟨0, ByteArray.empty, bytes s, by omega, by omega, rfl, rfl, hr0, rfl, byt_bytes s, hb0⟩
    case round =>
      obtain ⟨k, o, lk, hk, hkn, rfl, rfl, hr, hbo, hby, hbel⟩ := hrel
      have hcase : k < kl.length ∧ k < 40 ∨ ¬ (k < kl.length ∧ k < 40) := Classical.em _
      rcases hcase with ⟨hk1, hk2⟩ | hstop
      · obtain ⟨a, d, rfl, hab, hac, hda⟩ := (hrd.below hbel).at (k := k) hk1
        have hd256 : d < 256 := by
          rw [← hda.out, List.getD_eq_getElem?_getD, List.getElem?_eq_getElem hk1]
          exact hkb _ (List.getElem_mem _)
        have hkd1 : decide (k < kl.length) = true := decide_eq_true hk1
        have hkd2 : decide ((k : Int) < 40) = true := decide_eq_true (by omega)
        have hd4 : d % 4 = 0 ∨ d % 4 = 1 ∨ d % 4 = 2 ∨ d % 4 = 3 := by omega
        rcases hd4 with hd4 | hd4 | hd4 | hd4
        · have hq : (d : Int) % 4 = 0 := by omega
          clear hd4
          go_wp2_with fail
          refine (readUint_any MU (by decide) hr).mono ?_
          rintro en wu ⟨rfl, ⟨lx, hr1, hlx⟩, ou⟩
          have hb1 := ou.to_below hbel hgl.out hbel.size
          obtain ⟨ex, hex⟩ : ∃ ex, uiE MU lk 0 = ex := ⟨_, rfl⟩
          have hP := Lib.hid (show ex = 0 → bytes (strOf (leb (uiV MU lk 0))) ++ lx = lk from fun he => by rw [hlx (hex.trans he), bytes_leb]; exact ui_back hby.out (hex.trans he))
          have hB2 := Lib.hid (show ex = 0 → Byt lx from fun he => by rw [hlx (hex.trans he)]; exact byt_uiL hby.out)
          rw [hex] at hr1
          clear hex hlx
          go_wp2_with fail
          refine (wUint_any _ _ (uiV_lt _ _ _)).mono ?_
          rintro en wx ⟨rfl, be⟩
          have hbx := hb1.trans (be.mono hb1.size)
          have hrx := hr1.below be hr1.lt
          obtain ⟨P, hPe⟩ : ∃ P, strOf (leb (uiV MU lk 0)) = P := ⟨_, rfl⟩
          rw [hPe] at hP ⊢
          clear hPe be hr1 hb1
          have hwx := hbx.size
          go_wp2_with fail
          refine (err_any hrx).mono ?_
          rintro en wy ⟨rfl, rfl⟩
          by_cases he0 : ex = 0
          · subst he0
            have hj := Lib.hid (hP.out rfl)
            have hjb := Lib.hid (hB2.out rfl)
            have hsz2 := join_size hj.out hbo.out
            go_wp2
            go_roundw
            case rel => exact ⟨k + 1, o ++ P, lx, by omega, by omega, by go_num, rfl, hrx, join_next hj.out hbo.out, hjb.out, hbx⟩
            case measure => simp [intOf]; omega
          · have hne : (ex != 0) = true := by rw [bne_iff_ne]; exact he0
            clear he0
            go_wp2_with fail
            refine (livesW_any _).mono ?_
            rintro en wz ⟨rfl, b9⟩
            go_wp2
            go_ret
            exact ⟨rfl, hbx.trans (b9.mono hbx.size)⟩
        · have hq : (d : Int) % 4 = 1 := by omega
          clear hd4
          go_wp2_with fail
          refine (readInt_any hr).mono ?_
          rintro en wu ⟨rfl, ⟨lx, hr1, hlx⟩, ou⟩
          have hb1 := ou.to_below hbel hgl.out hbel.size
          obtain ⟨ex, hex⟩ : ∃ ex, uiE MU lk 0 = ex := ⟨_, rfl⟩
          have hP := Lib.hid (show ex = 0 → bytes (strOf (leb (zig (zag (uiV MU lk 0))))) ++ lx = lk from fun he => by rw [zig_zag, hlx (hex.trans he), bytes_leb]; exact ui_back hby.out (hex.trans he))
          have hB2 := Lib.hid (show ex = 0 → Byt lx from fun he => by rw [hlx (hex.trans he)]; exact byt_uiL hby.out)
          rw [hex] at hr1
          clear hex hlx
          go_wp2_with fail
          refine (wInt_any _ _ (zag_bd (uiV_lt _ _ _)).1 (zag_bd (uiV_lt _ _ _)).2).mono ?_
          rintro en wx ⟨rfl, be⟩
          have hbx := hb1.trans (be.mono hb1.size)
          have hrx := hr1.below be hr1.lt
          obtain ⟨P, hPe⟩ : ∃ P, strOf (leb (zig (zag (uiV MU lk 0)))) = P := ⟨_, rfl⟩
          rw [hPe] at hP ⊢
          clear hPe be hr1 hb1
          have hwx := hbx.size
          go_wp2_with fail
          refine (err_any hrx).mono ?_
          rintro en wy ⟨rfl, rfl⟩
          by_cases he0 : ex = 0
          · subst he0
            have hj := Lib.hid (hP.out rfl)
            have hjb := Lib.hid (hB2.out rfl)
            have hsz2 := join_size hj.out hbo.out
            go_wp2
            go_roundw
            case rel => exact ⟨k + 1, o ++ P, lx, by omega, by omega, by go_num, rfl, hrx, join_next hj.out hbo.out, hjb.out, hbx⟩
            case measure => simp [intOf]; omega
          · have hne : (ex != 0) = true := by rw [bne_iff_ne]; exact he0
            clear he0
            go_wp2_with fail
            refine (livesW_any _).mono ?_
            rintro en wz ⟨rfl, b9⟩
            go_wp2
            go_ret
            exact ⟨rfl, hbx.trans (b9.mono hbx.size)⟩
        · have hq : (d : Int) % 4 = 2 := by omega
          clear hd4
          go_wp2_with fail
          refine (readText_any 300 (by omega) (by omega) hr).mono ?_
          rintro en wu ⟨rfl, ⟨lx, hr1, hlx⟩, ou⟩
          have hb1 := ou.to_below hbel hgl.out hbel.size
          obtain ⟨ex, hex⟩ : ∃ ex, txE 300 lk 0 = ex := ⟨_, rfl⟩
          have htl : (strOf (txV 300 lk 0)).size ≤ 1000000000000 := by rw [strOf_size]; have h1 := txV_len 300 lk 0; have h2 := rdr_len hr; omega
          have hP := Lib.hid (show ex = 0 → bytes (textEnc (strOf (txV 300 lk 0))) ++ lx = lk from fun he => by rw [hlx (hex.trans he)]; exact (tx_back hby.out (hex.trans he)).1)
          have hB2 := Lib.hid (show ex = 0 → Byt lx from fun he => by rw [hlx (hex.trans he)]; exact (tx_back hby.out (hex.trans he)).2)
          rw [hex] at hr1
          clear hex hlx
          go_wp2_with fail
          refine (wText_any _ _ htl).mono ?_
          rintro en wx ⟨rfl, be⟩
          have hbx := hb1.trans (be.mono hb1.size)
          have hrx := hr1.below be hr1.lt
          obtain ⟨P, hPe⟩ : ∃ P, textEnc (strOf (txV 300 lk 0)) = P := ⟨_, rfl⟩
          rw [hPe] at hP ⊢
          clear hPe be hr1 hb1
          have hwx := hbx.size
          go_wp2_with fail
          refine (err_any hrx).mono ?_
          rintro en wy ⟨rfl, rfl⟩
          by_cases he0 : ex = 0
          · subst he0
            have hj := Lib.hid (hP.out rfl)
            have hjb := Lib.hid (hB2.out rfl)
            have hsz2 := join_size hj.out hbo.out
            go_wp2
            go_roundw
            case rel => exact ⟨k + 1, o ++ P, lx, by omega, by omega, by go_num, rfl, hrx, join_next hj.out hbo.out, hjb.out, hbx⟩
            case measure => simp [intOf]; omega
          · have hne : (ex != 0) = true := by rw [bne_iff_ne]; exact he0
            clear he0
            go_wp2_with fail
            refine (livesW_any _).mono ?_
            rintro en wz ⟨rfl, b9⟩
            go_wp2
            go_ret
            exact ⟨rfl, hbx.trans (b9.mono hbx.size)⟩
        · have hq : (d : Int) % 4 = 3 := by omega
          clear hd4
          go_wp2_with fail
          refine (readFrac_any hr).mono ?_
          rintro en wu ⟨ng, A, ca, fa, B, cb, fb, lx, rfl, na, nb, ma, mb, hr1, hok, -, ou⟩
          have hb1 := ou.to_below hbel hgl.out hbel.size
          obtain ⟨ex, hex⟩ : ∃ ex, frE lk 0 = ex := ⟨_, rfl⟩
          have hP := Lib.hid (show ex = 0 → bytes (fracE ng fa fb) ++ lx = lk from fun he => by
            obtain ⟨h1, h2, h3, h4⟩ := hok (hex.trans he)
            rw [h1, h2, h3, h4]; exact (fr_back hby.out (hex.trans he)).1)
          have hB2 := Lib.hid (show ex = 0 → Byt lx from fun he => by rw [(hok (hex.trans he)).2.2.2]; exact (fr_back hby.out (hex.trans he)).2)
          rw [hex] at hr1
          clear hex hok
          go_wp2_with fail
          refine (wFraction_any na nb (by omega) (by omega)).mono ?_
          rintro en wx ⟨rfl, be⟩
          have hbx := hb1.trans (be.mono hb1.size)
          have hrx := hr1.below be hr1.lt
          obtain ⟨P, hPe⟩ : ∃ P, fracE ng fa fb = P := ⟨_, rfl⟩
          rw [hPe] at hP ⊢
          clear hPe be hr1 hb1
          have hwx := hbx.size
          go_wp2_with fail
          refine (err_any hrx).mono ?_
          rintro en wy ⟨rfl, rfl⟩
          by_cases he0 : ex = 0
          · subst he0
            have hj := Lib.hid (hP.out rfl)
            have hjb := Lib.hid (hB2.out rfl)
            have hsz2 := join_size hj.out hbo.out
            go_wp2
            go_roundw
            case rel => exact ⟨k + 1, o ++ P, lx, by omega, by omega, by go_num, rfl, hrx, join_next hj.out hbo.out, hjb.out, hbx⟩
            case measure => simp [intOf]; omega
          · have hne : (ex != 0) = true := by rw [bne_iff_ne]; exact he0
            clear he0
            go_wp2_with fail
            refine (livesW_any _).mono ?_
            rintro en wz ⟨rfl, b9⟩
            go_wp2
            go_ret
            exact ⟨rfl, hbx.trans (b9.mono hbx.size)⟩
      · have hcut := Lib.hid (cut_back hbo.out)
        have hlen := hcut.out.2
        have hex := hcut.out.1
        have hle0 : leftE lk 0 = lk.length := rfl
        have hst : k < kl.length → ¬ k < 40 := fun h1 h2 => hstop ⟨h1, h2⟩
        by_cases hk1 : k < kl.length
        all_goals
          have hkd1 : decide (k < kl.length) = decide (k < kl.length) := rfl
          first | (rw (occs := .pos [2]) [decide_eq_true hk1] at hkd1; have hkd2 : decide ((k : Int) < 40) = false := decide_eq_false (by have := hst hk1; omega)) | rw (occs := .pos [2]) [decide_eq_false hk1] at hkd1
          clear hk1 hst hstop
          go_wp2_with fail
          refine (left_any hr).mono ?_
          rintro en w9 ⟨rfl, rfl⟩
          rw [hle0]
          go_wp2_with fail
          refine (livesW_any _).mono ?_
          rintro en wz ⟨rfl, b9⟩
          go_wp2
          go_ret
          exact ⟨rfl, hbel.trans (b9.mono hbel.size)⟩

/-! ### THE ROW's STEP: WRITTEN OUT: LEAVE IT -/
set_option maxRecDepth 100000 in
theorem lifted (os : Os) (started : os.Started) (H : Type) (enc : TypeId × Value → H) :
    ReturnsInHanded {} Try.checked os 15 .any (Rows.wireRoundTripSpec.pre6 enc Try.prog Try.f15 Rows.wireRoundTripRow.domain false) (Rows.wireRoundTripSpec.post enc Try.prog Try.f15 false true false false) := by
  refine returnsInHanded_of_change (C := Try.checked) own started (by kernel_rfl) Try.func15
    (ChangeSpec.witness6 (enc := enc) (C := Try.checked) false ⟨#[], #[.string ByteArray.empty, .slice none 0 0], []⟩ 8 (by kernel_rfl) (by kernel_rfl) (by kernel_rfl) (by kernel_rfl)) ?_
  intro W base args ds gs before hval0 hW hcnd _
  have hval : ∀ (j : Nat) t v, Try.f15.params[j]? = some t → args[j]? = some v → Value.okWide Try.prog W .any base t v := hval0
  have hW' := hW
  obtain ⟨p, q, hA0, hV, rfl, hfz, hnd⟩ := hW
  have hA : DataW.TrodAll enc Try.prog W 0 (fun _ => true) true Try.f15.params.toList args.toList ds p := hA0
  rw [Try.params15] at hA hval
  obtain ⟨v0, vs0, d0, ds0, p0, q0, hargs, rfl, rfl, h0, r0⟩ := trodAll_cons hA
  obtain ⟨v1, vs1, d1, ds1, p1, q1, rfl, rfl, rfl, h1, r1⟩ := trodAll_cons r0
  obtain ⟨rfl, rfl, rfl⟩ := trodAll_nil r1
  obtain rfl : args = #[v0, v1] := by cases args; simp_all
  obtain ⟨rfl, rfl⟩ := trodVars_none hV
  obtain ⟨a0, rfl, rfl, rfl, w0⟩ := open_string Try.underlying9 (hval 0 9 v0 rfl rfl) h0
  obtain ⟨a1, len1, cap1, rfl⟩ := okWide_slice Try.underlying71 (hval 1 71 v1 rfl rfl)
  have k1 := h1
  have lt1 : ∀ x ∈ p1, x.block < W.heap.size := by obtain ⟨m, hm⟩ := k1; exact DataW.trod_lt m _ _ _ hm
  obtain ⟨z1, w1⟩ : ∃ zs, IsRow .u8 W a1 len1 cap1 zs := by
    obtain ⟨fuel, hf⟩ := h1
    rcases open_ints Try.underlying71 Try.underlying5 (by kernel_rfl) hf with ⟨hcs, _⟩ | ⟨x, l, c, zs, hcs, _, hl, hm, hz, _, hcell, hwz⟩
    · simp [Value.cells] at hcs
      obtain ⟨rfl, rfl, rfl⟩ := hcs
      exact ⟨[], .inl ⟨rfl, rfl, rfl, rfl⟩⟩
    · simp [Value.cells] at hcs
      obtain ⟨rfl, rfl, rfl⟩ := hcs
      exact ⟨zs, .inr ⟨_, rfl, hl, hm, by simpa using hz, hcell, hwz⟩⟩
  clear hA0 hval0
  refine (walk a0 a1 len1 cap1 z1 W w0 w1).mono fun e W' ⟨he, bel⟩ => ?_
  subst he
  exact ⟨_, rfl, _, _, _, [], _, [], hW', trodAll_mk1 (shut_bool Try.underlying4 _), (trodAll_cons_mk (shut_string Try.underlying9 w0) (trodAll_cons_mk (Below.trod laidOut (by kernel_rfl) (of_decide_eq_true (by kernel_rfl)) k1 bel lt1) trodAll_mk0)), rfl, bel.frame _, fun h => by cases h⟩

theorem over : Rows.wireRoundTripRow.holds Try.pinned (OpenSpec.ofChange Rows.wireRoundTripSpec) :=
  OpenClaim.holds_of_wide 15 Try.f15 rfl rfl rfl rfl rfl rfl rfl ⟨rfl, rfl, rfl, rfl, rfl⟩ rfl rfl rfl rfl rfl (by kernel_rfl) Try.func15 (by kernel_rfl)
    (of_decide_eq_true (by kernel_rfl)) (by unfold Func.isWrapper; first | (rw [if_pos (by decide +kernel)]; kernel_rfl) | (rw [if_neg (by decide +kernel)]; exact ⟨rfl, rfl⟩))
    (fun os started H enc _ => lifted os started H enc)

/-- ████ THE STATEMENT ████ -/
theorem proved : Rows.WireRoundTripSaid := over
#print axioms proved
end Go.Proofs.Ytkbibdbojdbfkaa.wireRoundTrip
