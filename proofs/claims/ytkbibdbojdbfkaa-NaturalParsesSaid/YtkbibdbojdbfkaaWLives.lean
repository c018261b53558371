/- The natural law's few and lives: what the calls do. -/
import Derived.Test.YtkbibdbojdbfkaaWFormat
import Derived.Test.YtkbibdbojdbfkaaWGcd
import Derived.Test.YtkbibdbojdbfkaaWMul
import Derived.Test.YtkbibdbojdbfkaaWRef1
namespace Go.Proofs.Ytkbibdbojdbfkaa
set_option linter.unusedVariables false
set_option linter.unusedSimpArgs false
open Go.RowKit Plain

def fewL (l : List Nat) (m : Nat) : Bool := decide (l.length ≤ m) && validL l
set_option maxHeartbeats 400000 in
theorem few_any {A : Option Addr} {c : Nat} {l : List Nat} {w : World} (h : Nv w A c l) (m : Nat) (x : Int) (hx : x = (m : Int)) (hm : m ≤ 1000000) :
    Calls Try.prog 32 #[.slice A l.length c, .int .i64 x] w fun e w' => e = .returned (.bool (fewL l m)) ∧ w = w' := by
  subst hx
  have hb := h.big
  by_cases hlt : l.length ≤ m
  · have hd : decide (l.length ≤ m) = true := decide_eq_true hlt
    have hf := Lib.hid (show fewL l m = validL l by unfold fewL; rw [hd, Bool.true_and])
    go_enter Try.func32, Try.ntmps32
    go_wp2_with fail
    refine (refValid_any h).mono ?_
    rintro e w' ⟨rfl, rfl⟩
    go_wp2
    go_ret
    refine ⟨?_, rfl⟩
    rw [hf.out]; rfl
  · have hd : decide (l.length ≤ m) = false := decide_eq_false hlt
    have hf := Lib.hid (show fewL l m = false by unfold fewL; rw [hd, Bool.false_and])
    go_enter Try.func32, Try.ntmps32
    go_wp2
    go_ret
    refine ⟨?_, rfl⟩
    rw [hf.out]; rfl

theorem nv_row {w : World} {g n : Nat} {l : List Nat} (h : Row w g l) (hn : l.length = n) (hd : Dig l) (hb : n ≤ 1000) : Nv w (some ⟨g, 0, none⟩) n l := ⟨by omega, by omega, h.rd, hd⟩
theorem dig1 {a : Nat} (h : a < 4294967296) : Dig [a] := Dig.cons h Dig.nil
theorem natIs_lit {l : List Nat} (hd : Dig l) (hc : l.getLast? ≠ some 0) : NatIs l (val l) := ⟨hd, hc, rfl⟩

theorem nv_lit (w : World) {cs : Array Value} {lit : List Nat} {n : Nat} (hcs : cs = (u32s lit).toArray) (hd : Dig lit) (hn : lit.length = n) (hb : n ≤ 1000) : Nv (w.alloc (.cells cs 78)) (some ⟨w.heap.size, 0, none⟩) n lit :=
  nv_row (row_alloc w hcs) hn hd hb
theorem same_lit {A : Option Addr} {c n : Nat} {l lit : List Nat} {w : World} {cs : Array Value} (h : Nv w A c l) (hcs : cs = (u32s lit).toArray) (hd : Dig lit) (hn : lit.length = n) (hb : n ≤ 1000) (e : l = lit) :
    Calls Try.prog 36 #[.slice A l.length c, .slice (some ⟨w.heap.size, 0, none⟩) n n] (w.alloc (.cells cs 78)) fun e w' => e = .returned (.bool true) ∧ Below w.heap.size w w' := by
  subst hn
  have hba := (Below.refl w.heap.size w).alloc (Nat.le_refl _) (.cells cs 78)
  refine (same_any (h.below hba) (nv_lit w hcs hd rfl hb)).mono ?_
  rintro e w' ⟨rfl, h1⟩
  exact ⟨by rw [decide_eq_true ‹l = lit›], hba.trans (h1.mono (by simp))⟩

set_option maxRecDepth 100000 in
set_option maxHeartbeats 1000000 in
theorem lives_any (w : World) : Calls Try.prog 33 #[] w fun e w' => e = .returned (.bool true) ∧ Below w.heap.size w w' := by
  have r1 := row_alloc w (cs := #[Value.int .u32 4294967295]) (l := [4294967295]) rfl
  have r2 := row_alloc (w.alloc (.cells #[Value.int .u32 4294967295] 78)) (cs := #[Value.int .u32 4294967295]) (l := [4294967295]) rfl
  rw [World.size_alloc] at r2
  have r1' := r1.keep ((Below.refl _ _).alloc (Nat.le_refl _) (.cells #[Value.int .u32 4294967295] 78)) r1.lt
  have d1 : Dig [4294967295] := dig1 (by omega)
  go_enter Try.func33, Try.ntmps33
  go_wp2_with fail
  refine (mul_any _ _ 1 1 [4294967295] [4294967295] _ (nv_row r1' rfl d1 (by omega)) (nv_row r2 rfl d1 (by omega)) (by simp) (by simp)).mono ?_
  rintro e w1 ⟨A1, c1, m, rfl, hm, nm, lm, b1⟩
  have b1' : Below w.heap.size w w1 := (((Below.refl w.heap.size w).alloc (Nat.le_refl _) _).alloc (by simp) _).trans (b1.mono (by simp; omega))
  clear r1 r2 r1' b1
  have hme := Lib.hid (nm.uniq (natIs_lit (l := [1, 4294967294]) (Dig.cons (by omega) (dig1 (by omega))) (by decide)))
  have hml := Lib.hid (show m.length = 2 by rw [hme.out]; rfl)
  go_wp2_with fail
  refine (fromUint_any 1000 _ (by decide)).mono ?_
  rintro e w2 ⟨A2, c2, x, rfl, hx, nx, lx, b2⟩
  go_wp2_with fail
  refine (fromUint_any 7 _ (by decide)).mono ?_
  rintro e w3 ⟨A3, c3, y, rfl, hy, ny, ly, b3⟩
  go_wp2_with fail
  refine (divMod_any (hx.below b3) hy (by omega) (by omega)).mono ?_
  rintro e w4 ⟨A4, c4, q, B4, d4, r, rfl, hq, hr, nq, nr, lq, lr, b4⟩
  rw [ny.val, nx.val] at nq nr
  rw [ny.val]
  have hqe := Lib.hid (nq.uniq (natIs_lit (l := [142]) (dig1 (by omega)) (by decide)))
  have hre := Lib.hid (nr.uniq (natIs_lit (l := [6]) (dig1 (by omega)) (by decide)))
  have b14 := b1'.trans ((b2.trans ((b3.trans (b4.mono b3.size)).mono b2.size)).mono b1'.size)
  have hm4 := ((hm.below b2).below b3).below b4
  clear hm hx hy b1' b2 b3 b4
  go_wp2_with fail
  refine (parse_any _ _ (by decide)).mono ?_
  rintro e w5 ⟨A5, c5, a, rfl, ha, na, la, b5⟩
  have e0 : ∀ s : ByteArray, s = ⟨#[49, 56, 52, 52, 54, 55, 52, 52, 48, 55, 51, 55, 48, 57, 53, 53, 49, 54, 49, 54]⟩ → parErr (bytes s) = 0 ∧ parVal (bytes s) = 18446744073709551616 := by
    rintro s rfl; decide +kernel
  have e1 := Lib.hid (e0 _ rfl)
  clear e0
  rw [e1.out.2] at na
  rw [e1.out.1]
  have hae := Lib.hid (na.uniq (natIs_lit (l := [0, 0, 1]) (Dig.cons (by omega) (Dig.cons (by omega) (dig1 (by omega)))) (by decide)))
  have b15 := b14.trans (b5.mono b14.size)
  have hm5 := hm4.below b5
  have hq5 := hq.below b5
  have hr5 := hr.below b5
  clear b14 b5 hm4 hq hr
  go_wp2_with fail
  refine (same_lit hm5 (lit := [1, 4294967294]) rfl (Dig.cons (by omega) (dig1 (by omega))) rfl (by decide) hme.out).mono ?_
  rintro e w6 ⟨rfl, b6⟩
  go_wp2_with fail
  refine (same_lit (hq5.below b6) (lit := [142]) rfl (dig1 (by omega)) rfl (by decide) hqe.out).mono ?_
  rintro e w7 ⟨rfl, b7⟩
  go_wp2_with fail
  refine (same_lit ((hr5.below b6).below b7) (lit := [6]) rfl (dig1 (by omega)) rfl (by decide) hre.out).mono ?_
  rintro e w8 ⟨rfl, b8⟩
  go_wp2_with fail
  refine (same_lit (((ha.below b6).below b7).below b8) (lit := [0, 0, 1]) rfl (Dig.cons (by omega) (Dig.cons (by omega) (dig1 (by omega)))) rfl (by decide) hae.out).mono ?_
  rintro e w9 ⟨rfl, b9⟩
  have b19 := b15.trans ((b6.trans ((b7.trans ((b8.trans (b9.mono b8.size)).mono b7.size)).mono b6.size)).mono b15.size)
  clear b15 b6 b7 b8 b9 hm5 hq5 hr5 ha
  go_wp2_with fail
  refine (format_any (nv_lit w9 (lit := [0, 0, 1]) rfl (Dig.cons (by omega) (Dig.cons (by omega) (dig1 (by omega)))) rfl (by decide)) (by simp)).mono ?_
  rintro e w10 ⟨rfl, b10⟩
  have e2 := Lib.hid (show strOf (decs (val [0, 0, 1])) = ⟨#[49, 56, 52, 52, 54, 55, 52, 52, 48, 55, 51, 55, 48, 57, 53, 53, 49, 54, 49, 54]⟩ by decide +kernel)
  rw [e2.out]
  have b110 := b19.trans ((((Below.refl w9.heap.size w9).alloc (Nat.le_refl _) _).trans (b10.mono (by simp))).mono b19.size)
  clear b19 b10
  go_wp2_with fail
  refine (bits_any (nv_lit w10 (lit := [0, 1]) rfl (Dig.cons (by omega) (dig1 (by omega))) rfl (by decide)) (by simp)).mono ?_
  rintro e w11 ⟨rfl, hw⟩
  have e3 := Lib.hid (show bitLen (val [0, 1]) = 33 by decide +kernel)
  rw [e3.out]
  have b111 : Below w.heap.size w w11 := hw ▸ b110.alloc b110.size _
  clear b110 hw
  go_wp2_with fail
  refine (valid_any (nv_lit w11 (lit := [0, 1]) rfl (Dig.cons (by omega) (dig1 (by omega))) rfl (by decide))).mono ?_
  rintro e w12 ⟨rfl, hw⟩
  have e4 := Lib.hid (show validL [0, 1] = true by decide)
  rw [e4.out]
  have b112 : Below w.heap.size w w12 := hw ▸ b111.alloc b111.size _
  clear b111 hw
  go_wp2_with fail
  refine (valid_any (nv_lit w12 (lit := [1, 0]) rfl (Dig.cons (by omega) (dig1 (by omega))) rfl (by decide))).mono ?_
  rintro e w13 ⟨rfl, hw⟩
  have e5 := Lib.hid (show validL [1, 0] = false by decide)
  rw [e5.out]
  have b113 : Below w.heap.size w w13 := hw ▸ b112.alloc b112.size _
  clear b112 hw
  go_wp2
  go_ret
  exact ⟨rfl, b113⟩
end Go.Proofs.Ytkbibdbojdbfkaa
