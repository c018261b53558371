/- fraction.Neg and Sign: what the calls do. -/
import Derived.Test.YtghpcimeobmonaaFNew
namespace Go.Proofs.Ytghpcimeobmonaa
set_option linter.unusedVariables false
set_option linter.unusedSimpArgs false
open Go.RowKit Plain
attribute [local go_sem ↓] Go.wp_at_zero Go.wp_at_succ

set_option maxRecDepth 100000 in
set_option maxHeartbeats 1000000 in
theorem neg_any {v : Value} {q : Rat} {k : Nat} {w : World} (hv : FV w v q) (hk : Fits k q) (hK : k ≤ 400000000) :
    Calls Try.prog 32 #[v] w (RetQ (-q) w) := by
  obtain ⟨neg, A, ca, la, B, cb, lb, rfl, na, nb, iq⟩ := hv
  have hf := QIs.fits iq hk
  have h0 := QIs.den_ne iq
  obtain ⟨r, hr⟩ : ∃ r, Hid (-q = r) := ⟨_, rfl⟩
  have iq' := Lib.hid iq
  clear iq
  obtain ⟨w0, hw0, bw0, hlt0, hB0⟩ := boxed w #[.bool neg, .slice A la.length ca, .slice B lb.length cb] 25
  obtain ⟨w1, hw1, bw1, hlt1, hB1⟩ := boxed w0 #[.bool false, .slice none 0 0, .slice none 0 0] 25
  have hA0 := hB0.keep bw1
  have x0 := hA0.f0
  have x1 := hA0.f1
  have x2 := hA0.f2
  have b01 := bw0.trans (bw1.mono (Nat.le_of_lt hlt0))
  rw [hr.out]
  go_enter Try.func32, Try.ntmps32
  go_wp2_with fail
  refine (made_any (na.below b01) (nb.below b01) h0 (by omega) (by omega)).mono ?_
  rintro e w3 ⟨v, rfl, ⟨n1, A1, c1, l1, B1, d1, m1, rfl, ma, mb, hQ⟩, b3⟩
  rw [q_neg iq'.out, hr.out] at hQ
  have hQ' := Lib.hid hQ
  clear hQ
  have hB3 := hB1.keep b3
  have bw3 := b01.trans (b3.mono (by omega))
  have y0 := hB3.f0
  have y1 := hB3.f1
  have y2 := hB3.f2
  have z0 := hB3.free 0
  have z1 := hB3.free 1
  have z2 := hB3.free 2
  go_wp2
  obtain ⟨w9, hw9, hB9, o9⟩ := hB3.set3 (.bool n1) (.slice A1 l1.length c1) (.slice B1 m1.length d1)
  rw [hw9]
  have e0 := hB9.f0
  have e1 := hB9.f1
  have e2 := hB9.f2
  refine bodyPost_ret (v := fracV n1 A1 l1.length c1 B1 m1.length d1) (by simp [results, Try.results32, go_sem, e0, e1, e2]) rfl ?_
  have m1' := ma.only_blk hB3 (noDig3 _ _ _ _ _ _ _) o9
  have m2' := mb.only_blk hB3 (noDig3 _ _ _ _ _ _ _) o9
  exact ⟨_, rfl, ⟨n1, A1, c1, l1, B1, d1, m1, rfl, m1', m2', hQ'.out⟩, o9.to_below bw3 (Nat.le_of_lt hlt0) bw3.size⟩
end Go.Proofs.Ytghpcimeobmonaa
