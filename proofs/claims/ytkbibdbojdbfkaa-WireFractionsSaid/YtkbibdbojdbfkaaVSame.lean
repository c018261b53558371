/- The reference's Same; nil readers' Fraction: what the calls do. -/
import Derived.Test.YtkbibdbojdbfkaaVRFrac
namespace Go.Proofs.Ytkbibdbojdbfkaa
set_option linter.unusedVariables false
set_option linter.unusedSimpArgs false
open Go.RowKit Plain

def sameF (n1 : Bool) (a1 b1 : List Nat) (n2 : Bool) (a2 b2 : List Nat) : Bool := (n1 == n2) && (decide (a1 = a2) && decide (b1 = b2))
set_option maxRecDepth 100000 in
set_option maxHeartbeats 1000000 in
theorem sameF_any {n1 n2 : Bool} {A B C D : Option Addr} {ca cb cc cd : Nat} {a1 b1 a2 b2 : List Nat} {w : World} (ha : Nv w A ca a1) (hb : Nv w B cb b1) (hc : Nv w C cc a2) (hd : Nv w D cd b2) :
    Calls Try.prog 60 #[fracV n1 A a1.length ca B b1.length cb, fracV n2 C a2.length cc D b2.length cd] w fun e w' => e = .returned (.bool (sameF n1 a1 b1 n2 a2 b2)) ∧ Below w.heap.size w w' := by
  obtain ⟨wa, hwa, bwa, hlta, hBa⟩ := boxed w #[.bool n1, .slice A a1.length ca, .slice B b1.length cb] 59
  obtain ⟨w0, hw0, bw0, hlt0, hB0⟩ := boxed wa #[.bool n2, .slice C a2.length cc, .slice D b2.length cd] 59
  have b0 := bwa.trans (bw0.mono (Nat.le_of_lt hlta))
  have hA := hBa.keep bw0
  have x0 := hA.f0
  have x1 := hA.f1
  have x2 := hA.f2
  have y0 := hB0.f0
  have y1 := hB0.f1
  have y2 := hB0.f2
  obtain ⟨z1, hz1⟩ : ∃ z, Hid (decide (a1 = a2) = z) := ⟨_, rfl⟩
  obtain ⟨z2, hz2⟩ : ∃ z, Hid (decide (b1 = b2) = z) := ⟨_, rfl⟩
  have hr : Hid (sameF n1 a1 b1 n2 a2 b2 = ((n1 == n2) && (z1 && z2))) := by show _ = _; rw [← hz1.out, ← hz2.out]; rfl
  rw [hr.out]
  have ha0 := ha.below b0
  have hb0 := hb.below b0
  have hc0 := hc.below b0
  have hd0 := hd.below b0
  clear hr
  rcases n1 with _ | _ <;> rcases n2 with _ | _
  case false.true =>
    go_enter Try.func60, Try.ntmps60
    go_wp2
    go_ret
    exact ⟨rfl, b0⟩
  case true.false =>
    go_enter Try.func60, Try.ntmps60
    go_wp2
    go_ret
    exact ⟨rfl, b0⟩
  all_goals
    go_enter Try.func60, Try.ntmps60
    go_wp2_with fail
    refine (same_any ha0 hc0).mono ?_
    rintro e w1 ⟨rfl, b1⟩
    rw [hz1.out]
    have b01 := b0.trans (b1.mono b0.size)
    rcases z1 with _ | _
    · go_wp2
      go_ret
      exact ⟨rfl, b01⟩
    · have hA1 := hA.keep b1
      have hB1 := hB0.keep b1
      have hb1 := hb0.below b1
      have hd1 := hd0.below b1
      clear x0 x1 x2 y0 y1 y2
      have x2 := hA1.f2
      have y2 := hB1.f2
      go_wp2_with fail
      refine (same_any hb1 hd1).mono ?_
      rintro e w2 ⟨rfl, b2⟩
      rw [hz2.out]
      go_wp2
      go_ret
      exact ⟨rfl, b01.trans (b2.mono b01.size)⟩

set_option maxRecDepth 100000 in
set_option maxHeartbeats 1000000 in
theorem numberNil {w : World} {bx : Nat} (hbx : w.cell? ⟨bx, 0, none⟩ = some (.pointer none)) :
    Calls Try.prog 82 #[.pointer (some ⟨bx, 0, none⟩)] w fun e w' => e = .returned (.slice none 0 0) ∧ w = w' := by
  go_enter Try.func82, Try.ntmps82
  go_wp2_with (go_at_call 22; refine (uintNil _ _).mono ?_; rintro e w1 ⟨rfl, rfl⟩)
  go_loop [2, 3] (fun a n => a = .slice none 0 0 ∧ n = .int .u64 0) (fun _ _ => 0)
  case atStart => exact ⟨rfl, rfl⟩
  case round =>
    obtain ⟨rfl, rfl⟩ := hrel
    go_wp2
    go_ret
    exact ⟨rfl, rfl⟩
set_option maxRecDepth 100000 in
set_option maxHeartbeats 1000000 in
theorem fracNil (w : World) :
    Calls Try.prog 61 #[.pointer none] w fun e w' => e = .returned (fracV false none 0 0 none 0 0) ∧ Below w.heap.size w w' := by
  obtain ⟨wa, hwa, bwa, hlta, hBa⟩ := boxed w #[.pointer none] 25
  obtain ⟨w0, hw0, bw0, hlt0, hB0⟩ := boxed wa #[.bool false, .slice none 0 0, .slice none 0 0] 59
  have hbx := hBa.keep bw0
  have hcx : w0.cell? ⟨w.heap.size, 0, none⟩ = some (.pointer none) := hbx.cell 0
  have q0 := bwa.trans (bw0.mono (Nat.le_of_lt hlta))
  go_enter Try.func61, Try.ntmps61
  go_wp2_with fail
  refine (uintNil _ _).mono ?_
  rintro e w1 ⟨rfl, rfl⟩
  go_wp2_with fail
  obtain ⟨w2, hw2, bw2, hlt2, hB2⟩ := boxed w0 #[.bool false, .slice none 0 0, .slice none 0 0] 59
  rw [hw2]
  have hcx2 : w2.cell? ⟨w.heap.size, 0, none⟩ = some (.pointer none) := (hbx.keep bw2).cell 0
  have hf1 := hB2.f1
  have hf1f := hB2.free 1
  refine (numberNil hcx2).mono ?_
  rintro e w3 ⟨rfl, rfl⟩
  have hbx4 := hbx.keep bw2
  have hR4 := hB0.keep bw2
  obtain ⟨w4, hw4⟩ : ∃ w4, w2.setCell ⟨w0.heap.size, 1, none⟩ (.slice none 0 0) = w4 := ⟨_, rfl⟩
  have hB4 : Blk w4 w0.heap.size 59 #[.bool false, .slice none 0 0, .slice none 0 0] := by rw [← hw4]; exact hB2.set 1 _
  have hbx5 : Blk w4 w.heap.size 25 #[.pointer none] := by rw [← hw4]; exact hbx4.far (Nat.ne_of_lt (Nat.lt_trans hlta hlt0)) _
  have hR5 : Blk w4 wa.heap.size 59 #[.bool false, .slice none 0 0, .slice none 0 0] := by rw [← hw4]; exact hR4.far (Nat.ne_of_lt hlt0) _
  have hcx4 : w4.cell? ⟨w.heap.size, 0, none⟩ = some (.pointer none) := hbx5.cell 0
  have q2 := q0.trans (bw2.mono q0.size)
  have q4 : Below w.heap.size w w4 := by rw [← hw4]; exact q2.setCell (Nat.le_of_lt (Nat.lt_trans hlta hlt0)) _
  go_wp2_with fail
  refine (numberNil hcx4).mono ?_
  rintro e w5 ⟨rfl, rfl⟩
  have hf2 := hB4.f2
  have hf2f := hB4.free 2
  obtain ⟨w6, hw6⟩ : ∃ w6, w4.setCell ⟨w0.heap.size, 2, none⟩ (.slice none 0 0) = w6 := ⟨_, rfl⟩
  have hbx6 : Blk w6 w.heap.size 25 #[.pointer none] := by rw [← hw6]; exact hbx5.far (Nat.ne_of_lt (Nat.lt_trans hlta hlt0)) _
  have hR6 : Blk w6 wa.heap.size 59 #[.bool false, .slice none 0 0, .slice none 0 0] := by rw [← hw6]; exact hR5.far (Nat.ne_of_lt hlt0) _
  have hcx6 : w6.cell? ⟨w.heap.size, 0, none⟩ = some (.pointer none) := hbx6.cell 0
  have q6 : Below w.heap.size w w6 := by rw [← hw6]; exact q4.setCell (Nat.le_of_lt (Nat.lt_trans hlta hlt0)) _
  have z0 := hR6.free 0
  have z1 := hR6.free 1
  have z2 := hR6.free 2
  have y0 := hR6.f0
  have y1 := hR6.f1
  have y2 := hR6.f2
  clear hcx hcx2 hcx4 hw2 hw4 hwa hw0
  go_wp2_with fail
  refine (okNil _).mono ?_
  rintro e w7 ⟨rfl, rfl⟩
  go_wp2_with fail
  refine (okNil _).mono ?_
  rintro e w7 ⟨rfl, rfl⟩
  go_wp2
  obtain ⟨w9, hw9, hB9, o9⟩ := hR6.set3 (.bool false) (.slice none 0 0) (.slice none 0 0)
  rw [hw9]
  have e0 := hB9.f0
  have e1 := hB9.f1
  have e2 := hB9.f2
  refine bodyPost_ret (v := fracV false none 0 0 none 0 0) (by simp [results, Try.results61, go_sem, e0, e1, e2]) rfl ?_
  exact ⟨rfl, o9.to_below q6 (Nat.le_of_lt hlta) q6.size⟩
end Go.Proofs.Ytkbibdbojdbfkaa
