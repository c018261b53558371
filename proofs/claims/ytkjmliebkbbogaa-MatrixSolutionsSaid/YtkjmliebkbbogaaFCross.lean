/- fraction.cross: what the call does. -/
import Derived.Test.YtkjmliebkbbogaaFV
import Derived.Test.YtkjmliebkbbogaaWMul
namespace Go.Proofs.Ytkjmliebkbbogaa
set_option linter.unusedVariables false
set_option linter.unusedSimpArgs false
open Go.RowKit Plain
attribute [local go_sem ↓] Go.wp_at_zero Go.wp_at_succ

/-- A call that returns the natural numbers m and n. -/
def RetNN (m n k : Nat) (W : World) (e : Ending) (w' : World) : Prop :=
  ∃ (X : Option Addr) (cx : Nat) (x : List Nat) (Y : Option Addr) (cy : Nat) (y : List Nat), e = .returned (.tuple #[.slice X x.length cx, .slice Y y.length cy]) ∧ Nv w' X cx x ∧ Nv w' Y cy y ∧ NatIs x m ∧ NatIs y n ∧ x.length ≤ k ∧ y.length ≤ k ∧ Below W.heap.size W w'

set_option maxRecDepth 100000 in
set_option maxHeartbeats 1000000 in
theorem cross_any {n1 n2 : Bool} {A B C D : Option Addr} {ca cb cc cd : Nat} {la lb lc ld : List Nat} {w : World} (ha : Nv w A ca la) (hb : Nv w B cb lb) (hc : Nv w C cc lc) (hd : Nv w D cd ld)
    (hla : la.length ≤ 400000000) (hlb : lb.length ≤ 400000000) (hlc : lc.length ≤ 400000000) (hld : ld.length ≤ 400000000) :
    Calls Try.prog 90 #[fracV n1 A la.length ca B lb.length cb, fracV n2 C lc.length cc D ld.length cd] w (RetNN (val la * val ld) (val lc * val lb) (max (la.length + ld.length) (lc.length + lb.length)) w) := by
  obtain ⟨w0, hw0, bw0, hlt0, hB0⟩ := boxed w #[.bool n1, .slice A la.length ca, .slice B lb.length cb] 50
  obtain ⟨w1, hw1, bw1, hlt1, hB1⟩ := boxed w0 #[.bool n2, .slice C lc.length cc, .slice D ld.length cd] 50
  have hA1 := hB0.keep bw1
  have b01 := bw0.trans (bw1.mono (Nat.le_of_lt hlt0))
  have ha1 := ha.below b01
  have hb1 := hb.below b01
  have hc1 := hc.below b01
  have hd1 := hd.below b01
  have x1 := hA1.f1
  have x2 := hA1.f2
  have y1 := hB1.f1
  have y2 := hB1.f2
  clear ha hb hc hd
  have hrf : Below w1.heap.size w1 w1 := Below.refl _ _
  go_enter Try.func90, Try.ntmps90
  go_wp2_with fail
  go_region_held3 (fun w' => w'.cell? ⟨w.heap.size, 1, none⟩ = some (.slice A la.length ca) ∧ w'.cell? ⟨w.heap.size, 2, none⟩ = some (.slice B lb.length cb) ∧ w'.cell? ⟨w0.heap.size, 1, none⟩ = some (.slice C lc.length cc) ∧ w'.cell? ⟨w0.heap.size, 2, none⟩ = some (.slice D ld.length cd) ∧ Below w1.heap.size w1 w') (first | (go_keep; done) | ((try go_split_ands); (try dsimp only); refine ⟨?_, ?_, ?_, ?_, ?_⟩ <;> first | assumption | exact Below.drew (by assumption) | exact (hA1.keep (by assumption)).f1 | exact (hA1.keep (by assumption)).f2 | exact (hB1.keep (by assumption)).f1 | exact (hB1.keep (by assumption)).f2)) (first
    | (go_at_call 81; go_split_ands; (with_reducible refine (mul_any A D ca cd la ld _ (ha1.below (by assumption)) (hd1.below (by assumption)) (by omega) (by omega)).mono ?_); rintro e w2 ⟨X, cx, x, rfl, nx, ix, mx, b2⟩; have b4 := below_step (by assumption) b2)
    | (go_at_call 81; go_split_ands; (with_reducible refine (mul_any C B cc cb lc lb _ (hc1.below (by assumption)) (hb1.below (by assumption)) (by omega) (by omega)).mono ?_); rintro e w3 ⟨Y, cy, y, rfl, ny, iy, my, b3⟩; have b4 := below_step (by assumption) b3))
  go_wp2
  refine bodyPost_ret (v := .tuple #[.slice X x.length cx, .slice Y y.length cy]) (by simp [results, Try.results90, go_sem]) rfl ?_
  refine ⟨X, cx, x, Y, cy, y, rfl, ?_, ?_, ix, iy, by omega, by omega, ?_⟩
  · first | exact nx | exact nx.below b3
  · first | exact ny | exact ny.below b2
  · exact b01.trans (b4.mono (by omega))
end Go.Proofs.Ytkjmliebkbbogaa
