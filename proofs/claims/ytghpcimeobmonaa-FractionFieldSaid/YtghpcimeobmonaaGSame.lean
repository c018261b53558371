/- R02 Same: what the call does. -/
import Derived.Test.YtghpcimeobmonaaGMake
namespace Go.Proofs.Ytghpcimeobmonaa
set_option linter.unusedVariables false
set_option linter.unusedSimpArgs false
open Go.RowKit Plain

def sameF (n1 : Bool) (a1 b1 : List Nat) (n2 : Bool) (a2 b2 : List Nat) : Bool := (n1 == n2) && (decide (a1 = a2) && decide (b1 = b2))
def PartInv (la lb : List Nat) (w : World) (i : Value) (wr : World) : Prop :=
  ∃ k : Nat, k ≤ la.length ∧ i = .int .i64 k ∧ Hid (la.take k = lb.take k) ∧ Below w.heap.size w wr

set_option maxRecDepth 100000 in
set_option maxHeartbeats 2000000 in
theorem sameF_any {n1 n2 : Bool} {A B C D : Option Addr} {ca cb cc cd : Nat} {a1 b1 a2 b2 : List Nat} {w : World} (ha : Nv w A ca a1) (hb : Nv w B cb b1) (hc : Nv w C cc a2) (hd : Nv w D cd b2) :
    Calls Try.prog 16 #[fracV n1 A a1.length ca B b1.length cb, fracV n2 C a2.length cc D b2.length cd] w fun e w' => e = .returned (.bool (sameF n1 a1 b1 n2 a2 b2)) ∧ Below w.heap.size w w' := by
  by_cases hn : n1 = n2
  · subst hn
    obtain ⟨wa, hwa, bwa, hlta, hBa⟩ := boxed w #[.bool n1, .slice A a1.length ca, .slice B b1.length cb] 25
    obtain ⟨w0, hw0, bw0, hlt0, hB0⟩ := boxed wa #[.bool n1, .slice C a2.length cc, .slice D b2.length cd] 25
    have b0 := bwa.trans (bw0.mono (Nat.le_of_lt hlta))
    have hA := hBa.keep bw0
    have x0 := hA.f0
    have x1 := hA.f1
    have x2 := hA.f2
    have y0 := hB0.f0
    have y1 := hB0.f1
    have y2 := hB0.f2
    have g1 := ha.big
    have g2 := hb.big
    have g3 := hc.big
    have g4 := hd.big
    have ha0 := ha.below b0
    have hb0 := hb.below b0
    have hc0 := hc.below b0
    have hd0 := hd.below b0
    by_cases hl1 : a1.length = a2.length
    · have hne1 : (((a1.length : Nat) : Int) != ((a2.length : Nat) : Int)) = false := by rw [bne_eq_false_iff_eq]; omega
      have hl1' := Lib.hid hl1
      have hle1 : a1.length ≤ a2.length := by omega
      clear hl1
      by_cases hl2 : b1.length = b2.length
      · have hne2 : (((b1.length : Nat) : Int) != ((b2.length : Nat) : Int)) = false := by rw [bne_eq_false_iff_eq]; omega
        have hl2' := Lib.hid hl2
        have hle2 : b1.length ≤ b2.length := by omega
        have hr : Hid (sameF n1 a1 b1 n1 a2 b2 = (decide (a1 = a2) && decide (b1 = b2))) := by show _ = _; unfold sameF; rw [beq_self_eq_true, Bool.true_and]
        rw [hr.out]
        clear hl2 hr
        go_enter Try.func16, Try.ntmps16
        go_wp2
        go_loopw [5] (fun i wr => PartInv a1 a2 w0 i wr) (fun i _ => a1.length - (intOf i).toNat)
        case atStart => exact ⟨0, by omega, rfl, rfl, Below.refl _ _⟩
        case round =>
          obtain ⟨k, hk, rfl, hdd, hbel⟩ := hrel
          have k1 := (hA.keep hbel).f1
          have m1 := (hB0.keep hbel).f1
          have bT := b0.trans (hbel.mono b0.size)
          by_cases hkl : k < a1.length
          · obtain ⟨a, d, rfl, hab, hac, hda, hga⟩ := (ha0.below hbel).at (k := k) hkl
            obtain ⟨b, f, rfl, hbb, hbc, hdb, hgb⟩ := (hc0.below hbel).at (k := k) (by omega)
            by_cases hdf : d = f
            · subst hdf
              have hf := Lib.hid (show a1.take (k + 1) = a2.take (k + 1) by rw [take_snoc' a1 k hkl, take_snoc' a2 k (by omega), hdd.out, hga.out, hgb.out])
              go_wp2
              go_quiet (fail)
              go_wp2
              go_roundw
              case rel => exact ⟨k + 1, by omega, by go_num, hf, below_drewN hbel _⟩
              case measure => simp [intOf]; omega
            · have hf := Lib.hid (show a1 ≠ a2 by intro e; subst e; exact hdf (hga.out.symm.trans hgb.out))
              have hdf' : ((d : Int) != (f : Int)) = true := by rw [bne_iff_ne]; omega
              go_wp2
              go_quiet (fail)
              go_wp2
              go_ret
              refine ⟨?_, below_drewN bT _⟩
              rw [decide_eq_false hf.out]; rfl
          · obtain rfl : k = a1.length := by omega
            have hf := Lib.hid (show a1 = a2 by
              have := hdd.out
              rw [List.take_length, hl1'.out, List.take_length] at this
              exact this)
            clear x0 x1 x2 y0 y1 y2 ha0 hc0 hdd
            go_wp2
            rename_i wr
            go_loopw [6] (fun i wr => PartInv b1 b2 w0 i wr) (fun i _ => b1.length - (intOf i).toNat)
            case atStart => exact ⟨0, by omega, rfl, rfl, hbel⟩
            case round =>
              obtain ⟨k, hk, rfl, hdd, hbel⟩ := hrel
              have k2 := (hA.keep hbel).f2
              have m2 := (hB0.keep hbel).f2
              have bT := b0.trans (hbel.mono b0.size)
              by_cases hkl : k < b1.length
              · obtain ⟨a, d, rfl, hab, hac, hda, hga⟩ := (hb0.below hbel).at (k := k) hkl
                obtain ⟨b, f, rfl, hbb, hbc, hdb, hgb⟩ := (hd0.below hbel).at (k := k) (by omega)
                by_cases hdf : d = f
                · subst hdf
                  have hf := Lib.hid (show b1.take (k + 1) = b2.take (k + 1) by rw [take_snoc' b1 k hkl, take_snoc' b2 k (by omega), hdd.out, hga.out, hgb.out])
                  go_wp2
                  go_quiet (fail)
                  go_wp2
                  go_roundw
                  case rel => exact ⟨k + 1, by omega, by go_num, hf, below_drewN hbel _⟩
                  case measure => simp [intOf]; omega
                · have hf2 := Lib.hid (show b1 ≠ b2 by intro e; subst e; exact hdf (hga.out.symm.trans hgb.out))
                  have hdf' : ((d : Int) != (f : Int)) = true := by rw [bne_iff_ne]; omega
                  go_wp2
                  go_quiet (fail)
                  go_wp2
                  go_ret
                  refine ⟨?_, below_drewN bT _⟩
                  rw [decide_eq_false hf2.out, Bool.and_false]; rfl
              · obtain rfl : k = b1.length := by omega
                have hf2 := Lib.hid (show b1 = b2 by
                  have := hdd.out
                  rw [List.take_length, hl2'.out, List.take_length] at this
                  exact this)
                go_wp2
                go_ret
                refine ⟨?_, bT⟩
                rw [decide_eq_true hf.out, decide_eq_true hf2.out]; rfl
      · have hne2 : (((b1.length : Nat) : Int) != ((b2.length : Nat) : Int)) = true := by rw [bne_iff_ne]; omega
        have hr : Hid (sameF n1 a1 b1 n1 a2 b2 = false) := by
          show _ = _; unfold sameF
          rw [decide_eq_false (show ¬ b1 = b2 from fun e => hl2 (by rw [e])), Bool.and_false, Bool.and_false]
        rw [hr.out]
        clear hl2 hr
        go_enter Try.func16, Try.ntmps16
        go_wp2
        go_ret
        exact ⟨rfl, b0⟩
    · have hne1 : (((a1.length : Nat) : Int) != ((a2.length : Nat) : Int)) = true := by rw [bne_iff_ne]; omega
      have hr : Hid (sameF n1 a1 b1 n1 a2 b2 = false) := by
        show _ = _; unfold sameF
        rw [decide_eq_false (show ¬ a1 = a2 from fun e => hl1 (by rw [e])), Bool.false_and, Bool.and_false]
      rw [hr.out]
      clear hl1 hr
      go_enter Try.func16, Try.ntmps16
      go_wp2
      go_ret
      exact ⟨rfl, b0⟩
  · have hnb : (n1 == n2) = false := by simpa using hn
    obtain ⟨wa, hwa, bwa, hlta, hBa⟩ := boxed w #[.bool n1, .slice A a1.length ca, .slice B b1.length cb] 25
    obtain ⟨w0, hw0, bw0, hlt0, hB0⟩ := boxed wa #[.bool n2, .slice C a2.length cc, .slice D b2.length cd] 25
    have b0 := bwa.trans (bw0.mono (Nat.le_of_lt hlta))
    have hA := hBa.keep bw0
    have x0 := hA.f0
    have x1 := hA.f1
    have x2 := hA.f2
    have y0 := hB0.f0
    have y1 := hB0.f1
    have y2 := hB0.f2
    have g1 := ha.big
    have g2 := hb.big
    have g3 := hc.big
    have g4 := hd.big
    have ha0 := ha.below b0
    have hb0 := hb.below b0
    have hc0 := hc.below b0
    have hd0 := hd.below b0
    have hr : Hid (sameF n1 a1 b1 n2 a2 b2 = false) := by show _ = _; unfold sameF; rw [hnb, Bool.false_and]
    rw [hr.out]
    clear hn hr
    go_enter Try.func16, Try.ntmps16
    go_wp2
    go_ret
    exact ⟨rfl, b0⟩
theorem same_q {n1 n2 : Bool} {a1 b1 a2 b2 : List Nat} {p q : Rat} (h1 : QIs n1 a1 b1 p) (h2 : QIs n2 a2 b2 q) : sameF n1 a1 b1 n2 a2 b2 = decide (p = q) := by
  unfold sameF
  rw [Bool.eq_iff_iff, Bool.and_eq_true, Bool.and_eq_true, beq_iff_eq, decide_eq_true_eq, decide_eq_true_eq, decide_eq_true_eq]
  constructor
  · rintro ⟨rfl, rfl, rfl⟩; exact h1.inj h2
  · rintro rfl; exact h1.uniq h2
def RetB (b : Bool) (W : World) (e : Ending) (w' : World) : Prop := e = .returned (.bool b) ∧ Below W.heap.size W w'
theorem sameQ_any {v u : Value} {p q : Rat} {w : World} (hv : FV w v p) (hu : FV w u q) : Calls Try.prog 16 #[v, u] w (RetB (decide (p = q)) w) := by
  obtain ⟨n1, A, ca, la, B, cb, lb, rfl, na, nb, iq⟩ := hv
  obtain ⟨n2, C, cc, lc, D, cd, ld, rfl, nc, nd, ir⟩ := hu
  rw [← same_q iq ir]
  exact sameF_any na nb nc nd
end Go.Proofs.Ytghpcimeobmonaa
