/- fraction.Cmp: what the call does. -/
import Derived.Test.YtghpcimeobmonaaFCross
import Derived.Test.YtghpcimeobmonaaFSign
import Derived.Test.YtghpcimeobmonaaWSub
import Derived.Test.YtghpcimeobmonaaQ
namespace Go.Proofs.Ytghpcimeobmonaa
set_option linter.unusedVariables false
set_option linter.unusedSimpArgs false
open Go.RowKit Plain
attribute [local go_sem ↓] Go.wp_at_zero Go.wp_at_succ

set_option maxRecDepth 100000 in
set_option maxHeartbeats 1000000 in
theorem cmpF_any {v u : Value} {p q : Rat} {j k : Nat} {w : World} (hv : FV w v p) (hu : FV w u q) (hj : Fits j p) (hk : Fits k q) (hJ : j ≤ 400000000) (hK : k ≤ 400000000) :
    Calls Try.prog 37 #[v, u] w (RetI (cmpR p q) w) := by
  obtain ⟨n1, A, ca, la, B, cb, lb, rfl, na, nb, iq⟩ := hv
  obtain ⟨n2, C, cc, lc, D, cd, ld, rfl, nc, nd, ir⟩ := hu
  have hf := QIs.fits iq hj
  have hg := QIs.fits ir hk
  have iq' := Lib.hid iq
  have ir' := Lib.hid ir
  clear iq ir
  obtain ⟨r, hr⟩ : ∃ r, Hid (cmpR p q = r) := ⟨_, rfl⟩
  rw [hr.out]
  obtain ⟨w0, hw0, bw0, hlt0, hB0⟩ := boxed w #[.bool n1, .slice A la.length ca, .slice B lb.length cb] 25
  obtain ⟨w1, hw1, bw1, hlt1, hB1⟩ := boxed w0 #[.bool n2, .slice C lc.length cc, .slice D ld.length cd] 25
  have hA1 := hB0.keep bw1
  have b01 := bw0.trans (bw1.mono (Nat.le_of_lt hlt0))
  have x0 := hA1.f0
  have x1 := hA1.f1
  have x2 := hA1.f2
  have y0 := hB1.f0
  have y1 := hB1.f1
  have y2 := hB1.f2
  by_cases hne : n1 = n2
  · subst hne
    rcases n1 with _ | _
    · go_enter Try.func37, Try.ntmps37
      go_wp2_with fail
      refine (cross_any (n1 := false) (n2 := false) (na.below b01) (nb.below b01) (nc.below b01) (nd.below b01) (by omega) (by omega) (by omega) (by omega)).mono ?_
      rintro e w2 ⟨X, cx, x, Y, cy, y, rfl, nx, ny, ix, iy, mx, my, b2⟩
      have hc := Lib.hid (show cmpI (val x) (val y) = r by rw [ix.val, iy.val, q_cmp_pos iq'.out ir'.out rfl rfl]; exact hr.out)
      clear ix iy
      have hA2 := hA1.keep b2
      have x0 := hA2.f0
      go_wp2_with fail
      refine (cmp_any nx ny).mono ?_
      rintro e w3 ⟨rfl, b3⟩
      rw [hc.out]
      go_wp2
      go_ret
      exact ⟨rfl, (b01.trans (b2.mono (by omega))).trans (b3.mono (Nat.le_trans b01.size b2.size))⟩
    · go_enter Try.func37, Try.ntmps37
      go_wp2_with fail
      refine (cross_any (n1 := true) (n2 := true) (na.below b01) (nb.below b01) (nc.below b01) (nd.below b01) (by omega) (by omega) (by omega) (by omega)).mono ?_
      rintro e w2 ⟨X, cx, x, Y, cy, y, rfl, nx, ny, ix, iy, mx, my, b2⟩
      have hc := Lib.hid (show cmpI (val y) (val x) = r by rw [ix.val, iy.val, q_cmp_neg iq'.out ir'.out rfl rfl]; exact hr.out)
      clear ix iy
      have hA2 := hA1.keep b2
      have x0 := hA2.f0
      go_wp2_with fail
      refine (cmp_any ny nx).mono ?_
      rintro e w3 ⟨rfl, b3⟩
      rw [hc.out]
      go_wp2
      go_ret
      exact ⟨rfl, (b01.trans (b2.mono (by omega))).trans (b3.mono (Nat.le_trans b01.size b2.size))⟩
  · rcases n1 with _ | _ <;> rcases n2 with _ | _
    · exact absurd rfl hne
    · obtain rfl : (1 : Int) = r := by rw [← hr.out, q_cmp_pn iq'.out ir'.out rfl rfl]
      go_enter Try.func37, Try.ntmps37
      go_wp2
      go_ret
      exact ⟨rfl, b01⟩
    · obtain rfl : (-1 : Int) = r := by rw [← hr.out, q_cmp_np iq'.out ir'.out rfl rfl]
      go_enter Try.func37, Try.ntmps37
      go_wp2
      go_ret
      exact ⟨rfl, b01⟩
    · exact absurd rfl hne
end Go.Proofs.Ytghpcimeobmonaa
