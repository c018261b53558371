/- The law's lives (wire): it returns true. -/
import Derived.Test.YtkbibdbojdbfkaaVFrac
namespace Go.Proofs.Ytkbibdbojdbfkaa
set_option linter.unusedVariables false
set_option linter.unusedSimpArgs false
open Go.RowKit Plain

def vS : ByteArray := ⟨#[1, 2, 97, 98, 172, 2]⟩
theorem v1 : strOf (leb (zig (-1))) ++ textEnc ⟨#[97, 98]⟩ ++ strOf (leb 300) = vS := by decide +kernel
theorem v1a : (strOf (leb (zig (-1)))).size = 1 := by decide +kernel
theorem v1b : (textEnc ⟨#[97, 98]⟩).size = 3 := by decide +kernel
theorem v1c : (strOf (leb 300)).size = 2 := by decide +kernel
theorem v2 : fracE true [3] [4] = ⟨#[1, 1, 3, 1, 4]⟩ := by decide +kernel
theorem v3 : bytes vS = [1, 2, 97, 98, 172, 2] := by decide +kernel
theorem i1 : uiE MU [1, 2, 97, 98, 172, 2] 0 = 0 := by decide +kernel
theorem i2 : zag (uiV MU [1, 2, 97, 98, 172, 2] 0) = -1 := by decide +kernel
theorem i3 : uiL [1, 2, 97, 98, 172, 2] = [2, 97, 98, 172, 2] := by decide +kernel
theorem t1 : txE 2 [2, 97, 98, 172, 2] 0 = 0 := by decide +kernel
theorem t2 : strOf (txV 2 [2, 97, 98, 172, 2] 0) = ⟨#[97, 98]⟩ := by decide +kernel
theorem t3 : txL [2, 97, 98, 172, 2] = [172, 2] := by decide +kernel
theorem u1 : uiE 300 [172, 2] 0 = 0 := by decide +kernel
theorem u2 : uiV 300 [172, 2] 0 = 300 := by decide +kernel
theorem u3 : uiL [172, 2] = [] := by decide +kernel
theorem n1 : endE [] 0 = 0 := by decide +kernel

theorem nv_three (W : World) : Nv ((W.alloc (.cells #[Value.int IntKind.u32 3] 78)).alloc (.cells #[Value.int IntKind.u32 4] 78)) (some ⟨W.heap.size, 0, none⟩) 1 [3] :=
  Nv.below ⟨by simp, by simp, (row_alloc W (cs := #[Value.int IntKind.u32 3]) (l := [3]) rfl).rd, Dig.cons (by omega) Dig.nil⟩ ((Below.refl _ _).alloc (Nat.le_refl _) _)
theorem nv_four (W : World) : Nv ((W.alloc (.cells #[Value.int IntKind.u32 3] 78)).alloc (.cells #[Value.int IntKind.u32 4] 78)) (some ⟨W.heap.size + 1, 0, none⟩) 1 [4] := by
  have h := (row_alloc (W.alloc (.cells #[Value.int IntKind.u32 3] 78)) (cs := #[Value.int IntKind.u32 4]) (l := [4]) rfl).rd
  have e : (W.alloc (.cells #[Value.int IntKind.u32 3] 78)).heap.size = W.heap.size + 1 := by simp
  rw [e] at h
  exact ⟨by simp, by simp, h, Dig.cons (by omega) Dig.nil⟩
set_option maxRecDepth 100000 in
set_option maxHeartbeats 1000000 in
theorem livesW_any (w : World) : Calls Try.prog 25 #[] w fun e w' => e = .returned (.bool true) ∧ Below w.heap.size w w' := by
  obtain ⟨a, ha⟩ : ∃ a, Hid (strOf (leb (zig (-1))) = a) := ⟨_, rfl⟩
  obtain ⟨b, hb⟩ : ∃ b, Hid (textEnc ⟨#[97, 98]⟩ = b) := ⟨_, rfl⟩
  obtain ⟨c, hc⟩ : ∃ c, Hid (strOf (leb 300) = c) := ⟨_, rfl⟩
  have hs := v1
  have ha1 := v1a
  have hb1 := v1b
  have hc1 := v1c
  rw [ha.out, hb.out, hc.out] at hs
  rw [ha.out] at ha1
  rw [hb.out] at hb1
  rw [hc.out] at hc1
  have hvs : vS.toList = [1, 2, 97, 98, 172, 2] := by decide +kernel
  have hf := Lib.hid v2
  have hn3 := fun (W : World) => nv_three W
  have hn4 := fun (W : World) => nv_four W
  go_enter Try.func25, Try.ntmps25
  go_wp2_with fail
  refine (wInt_any (-1) _ (by omega) (by omega)).mono ?_
  rintro e w1 ⟨rfl, b1⟩
  rw [ha.out]
  go_wp2_with fail
  refine (wText_any ⟨#[97, 98]⟩ _ (by decide)).mono ?_
  rintro e w2 ⟨rfl, b2⟩
  rw [hb.out]
  go_wp2_with fail
  refine (wUint_val 300 _ _ rfl (by omega)).mono ?_
  rintro e w3 ⟨rfl, b3⟩
  rw [hc.out]
  have b13 := (b1.trans (b2.mono b1.size))
  have b13 := b13.trans (b3.mono b13.size)
  clear b1 b2 b3
  go_wp2_with fail
  refine (wFraction_any (neg := true) (la := [3]) (lb := [4]) (hn3 w3) (hn4 w3) (by decide) (by decide)).mono ?_
  rintro e w4 ⟨rfl, b4⟩
  rw [hf.out]
  have b14 := b13.trans (((Below.refl w3.heap.size w3).alloc (Nat.le_refl _) _).alloc (by simp) _ |>.trans (b4.mono (by simp; omega)) |>.mono b13.size)
  clear b13 b4
  go_wp2_with fail
  refine (newR_any vS _ (by decide +kernel)).mono ?_
  rintro e w5 ⟨rfl, r5, b5⟩
  rw [v3] at r5
  have o5 := b14.trans (b5.mono b14.size)
  have hg : w.heap.size ≤ w4.heap.size := b14.size
  obtain ⟨g, hgg⟩ : ∃ g, w4.heap.size = g := ⟨_, rfl⟩
  rw [hgg] at r5 hg ⊢
  clear b5 b14 hgg
  go_wp2_with fail
  refine (readInt_any r5).mono ?_
  rintro e w6 ⟨rfl, ⟨l6, r6, hl6⟩, q6⟩
  rw [i2]
  rw [i1] at r6 hl6
  have hl6' := hl6 rfl
  rw [i3] at hl6'
  subst hl6'
  have o6 := q6.to_below o5 hg o5.size
  clear hl6 o5 q6
  go_wp2_with fail
  refine (readText_any 2 (by omega) (by omega) r6).mono ?_
  rintro e w7 ⟨rfl, ⟨l7, r7, hl7⟩, q7⟩
  rw [t2]
  rw [t1] at r7 hl7
  have hl7' := hl7 rfl
  rw [t3] at hl7'
  subst hl7'
  have o7 := q7.to_below o6 hg o6.size
  clear hl7 o6 q7
  go_wp2_with fail
  refine (readUint_any 300 (by omega) r7).mono ?_
  rintro e w8 ⟨rfl, ⟨l8, r8, hl8⟩, q8⟩
  rw [u2]
  rw [u1] at r8 hl8
  have hl8' := hl8 rfl
  rw [u3] at hl8'
  subst hl8'
  have o8 := q8.to_below o7 hg o7.size
  clear hl8 o7 q8
  go_wp2_with fail
  refine (end_any r8).mono ?_
  rintro e w9 ⟨rfl, r9, q9⟩
  rw [n1]
  have o9 := q9.to_below o8 hg o8.size
  go_wp2
  go_ret
  exact ⟨rfl, o9⟩
end Go.Proofs.Ytkbibdbojdbfkaa
