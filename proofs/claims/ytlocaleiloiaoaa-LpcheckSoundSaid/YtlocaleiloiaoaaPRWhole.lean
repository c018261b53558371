/- R02 Whole, R19 Positive: what the calls do. -/
import Derived.Test.YtlocaleiloiaoaaPNonneg
import Derived.Test.YtlocaleiloiaoaaGValid
import Derived.Test.YtlocaleiloiaoaaGSub
namespace Go.Proofs.Ytlocaleiloiaoaa
set_option linter.unusedVariables false
set_option linter.unusedSimpArgs false
open Go.RowKit Plain
attribute [local go_sem ↓] Go.wp_at_zero Go.wp_at_succ

set_option maxRecDepth 100000 in
set_option maxHeartbeats 2000000 in
theorem whole_any {A : Option Addr} {c K : Nat} {ds : List FrD} {w : World} (h : LD w K A c ds) (hK : K ≤ 400000000) :
    Calls Try.prog 24 #[.slice A ds.length c] w (RetB (whB ds) w) := by
  have hl := h.len
  obtain ⟨r, hr⟩ : ∃ r, Hid (whB ds = r) := ⟨_, rfl⟩
  rw [hr.out]
  go_enter Try.func24, Try.ntmps24
  go_wp2
  go_loopw [3] (fun i wr => AllInv FrD.vld ds w i wr) (fun i _ => ds.length - (intOf i).toNat)
  case atStart => exact ⟨0, by omega, rfl, rfl, Below.refl _ _⟩
  case round =>
    obtain ⟨k, hk, rfl, hv, hbel⟩ := hrel
    by_cases hkl : k < ds.length
    · obtain ⟨a, d, rfl, hab, hc0, hc1, hc2, ⟨na, nb, hla, hlb⟩, hdk⟩ := (h.below hbel).at hkl
      have hki : (k : Int) < (ds.length : Int) := by omega
      go_wp2_with fail
      refine (refValidF_any (neg := d.neg) na nb (by omega) (by omega)).mono ?_
      rintro e w5 ⟨rfl, b5⟩
      have b05 := hbel.trans (b5.mono hbel.size)
      rcases hd : vldF d.neg d.la d.lb with _ | _
      · have hf : Hid (r = false) := by show r = false; rw [← hr.out]; exact whB_no hdk.out hd
        go_wp2
        go_ret
        exact ⟨by rw [hf.out]; rfl, b05⟩
      · have hf := Lib.hid (show (ds.take (k + 1)).all FrD.vld = true by rw [all_take hv.out hdk.out]; exact hd)
        go_wp2
        go_roundw
        case rel => exact ⟨k + 1, by omega, by go_num, hf, b05⟩
        case measure => simp [intOf]; omega
    · obtain rfl : k = ds.length := by omega
      have hlt' : decide ((ds.length : Int) < (ds.length : Int)) = false := decide_eq_false (by omega)
      have hf : Hid (r = true) := by show r = true; rw [← hr.out]; have := hv.out; rw [List.take_length] at this; exact this
      go_wp2
      go_ret
      exact ⟨by rw [hf.out]; rfl, hbel⟩

set_option maxRecDepth 100000 in
set_option maxHeartbeats 2000000 in
theorem positive_any {A : Option Addr} {c K n : Nat} {ds : List FrD} {w : World} (h : LD w K A c ds) (hK : K ≤ 400000000) (hn : n ≤ 9223372036854775807) :
    Calls Try.prog 33 #[.slice A ds.length c, .int .i64 (n : Int)] w (RetB (posB ds n) w) := by
  have hl := h.len
  obtain ⟨v, hv⟩ : ∃ v, Hid (posB ds n = v) := ⟨_, rfl⟩
  rw [hv.out]
  by_cases hd : ds.length = n
  · have hne : (((ds.length : Nat) : Int) != ((n : Nat) : Int)) = false := by rw [bne_eq_false_iff_eq]; omega
    have hd' := Lib.hid hd
    clear hd
    go_enter Try.func33, Try.ntmps33
    go_wp2_with fail
    refine (whole_any h hK).mono ?_
    rintro e w1 ⟨rfl, b1⟩
    have h1 := h.below b1
    rcases hw : whB ds with _ | _
    · have hf : Hid (v = false) := by show v = false; rw [← hv.out]; unfold posB; rw [hw]; simp
      go_wp2
      go_ret
      exact ⟨by rw [hf.out]; rfl, b1⟩
    · have hf : Hid (v = nnB ds) := by show v = _; rw [← hv.out]; unfold posB; rw [hw, decide_eq_true hd'.out]; rfl
      obtain ⟨hfl, hfit⟩ := h1.fl hw
      go_wp2
      go_loopw [5] (fun i wr => AllInv (fun d : FrD => !decide (cmpR d.q 0 < 0)) ds w1 i wr) (fun i _ => ds.length - (intOf i).toNat)
      case atStart => exact ⟨0, by omega, rfl, rfl, Below.refl _ _⟩
      case round =>
        obtain ⟨k, hk, rfl, hall, hbel1⟩ := hrel
        have hbel := b1.trans (hbel1.mono b1.size)
        by_cases hkl : k < ds.length
        · obtain ⟨a, d, rfl, hab, hc0, hc1, hc2, hfd, hdk⟩ := (hfl.below hbel1).at hkl
          have hki : (k : Int) < (ds.length : Int) := by omega
          go_wp2_with fail
          refine (refSign_any hfd).mono ?_
          rintro e w5 ⟨rfl, b5⟩
          have b05 := hbel.trans (b5.mono hbel.size)
          have b051 := hbel1.trans (b5.mono hbel1.size)
          rcases hs : decide (cmpR d.q 0 < 0) with _ | _
          · have hg := Lib.hid (show (ds.take (k + 1)).all (fun d : FrD => !decide (cmpR d.q 0 < 0)) = true by rw [all_take hall.out hdk.out, hs]; rfl)
            go_wp2
            go_roundw
            case rel => exact ⟨k + 1, by omega, by go_num, hg, b051⟩
            case measure => simp [intOf]; omega
          · have hg : Hid (v = false) := by show v = false; rw [hf.out]; exact all_no hdk.out (by rw [hs]; rfl)
            go_wp2
            go_ret
            exact ⟨by rw [hg.out]; rfl, b05⟩
        · obtain rfl : k = ds.length := by omega
          have hlt' : decide ((ds.length : Int) < (ds.length : Int)) = false := decide_eq_false (by omega)
          have hg : Hid (v = true) := by show v = true; rw [hf.out]; have := hall.out; rw [List.take_length] at this; exact this
          go_wp2
          go_ret
          exact ⟨by rw [hg.out]; rfl, hbel⟩
  · have hne : (((ds.length : Nat) : Int) != ((n : Nat) : Int)) = true := by rw [bne_iff_ne]; omega
    have hf : Hid (v = false) := by show v = false; rw [← hv.out]; unfold posB; rw [decide_eq_false hd]; rfl
    go_enter Try.func33, Try.ntmps33
    go_wp2
    go_ret
    exact ⟨by rw [hf.out]; rfl, Below.refl _ _⟩
end Go.Proofs.Ytlocaleiloiaoaa
