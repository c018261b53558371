/- wire.digits, Fraction; the reference's: what the calls do. -/
import Derived.Test.YtkbibdbojdbfkaaVText
import Derived.Deep.RegionHeld3
import Derived.Deep.DrawnRows
namespace Go.Proofs.Ytkbibdbojdbfkaa
set_option linter.unusedVariables false
set_option linter.unusedSimpArgs false
open Go.RowKit Plain
attribute [local go_sem ↓] Go.wp_at_zero Go.wp_at_succ

/-- The encoding of a list of digits. -/
def digE (l : List Nat) : List Nat := leb l.length ++ l.flatMap leb
def digK (l : List Nat) (k : Nat) : List Nat := leb l.length ++ (l.take k).flatMap leb
theorem digK_succ (l : List Nat) (k : Nat) (h : k < l.length) : strOf (digK l (k + 1)) = strOf (digK l k) ++ strOf (leb (l.getD k 0)) := by
  rw [← strOf_append']
  congr 1
  unfold digK
  rw [take_snoc' l k h]
  simp
theorem flat_len {l : List Nat} (h : Dig l) (k : Nat) : ((l.take k).flatMap leb).length ≤ 10 * k := by
  induction k with
  | zero => simp
  | succ k ih =>
    by_cases hk : k < l.length
    · rw [take_snoc' l k hk, List.flatMap_append, List.length_append]
      have h1 := leb_len10 (x := l.getD k 0) (by have := h.getD k; omega)
      simp only [List.flatMap_cons, List.flatMap_nil, List.append_nil]
      omega
    · rw [List.take_of_length_le (by omega)]
      rw [List.take_of_length_le (by omega)] at ih
      omega
theorem digK_len {l : List Nat} (h : Dig l) (hl : l.length ≤ 10000) (k : Nat) : (digK l k).length ≤ 10 * k + 10 := by
  unfold digK
  rw [List.length_append]
  have h1 := leb_len10 (x := l.length) (by omega)
  have h2 := flat_len h k
  omega
theorem digK_full (l : List Nat) : digK l l.length = digE l := by unfold digK digE; rw [List.take_length]
theorem digE_len {l : List Nat} (h : Dig l) (hl : l.length ≤ 10000) : (digE l).length ≤ 10 * l.length + 10 := by rw [← digK_full]; exact digK_len h hl _

def DgInv (l : List Nat) (w : World) (v i : Value) (wr : World) : Prop :=
  ∃ k : Nat, k ≤ l.length ∧ i = .int .i64 (k : Int) ∧ v = .string (strOf (digK l k)) ∧ Below w.heap.size w wr

set_option maxRecDepth 100000 in
set_option maxHeartbeats 1000000 in
theorem wDigits_any {A : Option Addr} {c : Nat} {l : List Nat} {w : World} (h : Nv w A c l) (hl : l.length ≤ 10000) :
    Calls Try.prog 80 #[.slice A l.length c] w fun e w' => e = .returned (.string (strOf (digE l))) ∧ Below w.heap.size w w' := by
  have h0 := Lib.hid (show strOf (leb l.length) = strOf (digK l 0) by unfold digK; simp)
  have hfull := Lib.hid (digK_full l)
  go_enter Try.func80, Try.ntmps80
  go_wp2_with fail
  refine (wUint_val l.length _ _ rfl (by omega)).mono ?_
  rintro e w1 ⟨rfl, b1⟩
  rw [h0.out]
  go_wp2
  go_loopw [3, 12] (fun v i wr => DgInv l w v i wr) (fun _ i _ => l.length - (intOf i).toNat)
  case atStart => exact ⟨0, by omega, rfl, rfl, b1⟩
  case round =>
    obtain ⟨k, hk, rfl, rfl, hbel⟩ := hrel
    by_cases hkl : k < l.length
    · obtain ⟨a, d, rfl, hab, hac, hda, hga⟩ := (h.below hbel).at (k := k) hkl
      have hs1 : (strOf (digK l k)).size ≤ 1000000 := by rw [strOf_size]; have := digK_len h.dig hl k; omega
      have hs2 : (strOf (leb d)).size ≤ 10 := by rw [strOf_size]; exact leb_len10 (by omega)
      have hst := Lib.hid (show strOf (digK l (k + 1)) = strOf (digK l k) ++ strOf (leb d) by rw [digK_succ l k hkl, hga.out])
      go_wp2_with fail
      refine (wUint_val d _ _ rfl (by omega)).mono ?_
      rintro e w2 ⟨rfl, b2⟩
      go_wp2
      go_roundw
      case rel => exact ⟨k + 1, by omega, by go_num, by rw [hst.out], hbel.trans (b2.mono hbel.size)⟩
      case measure => simp [intOf]; omega
    · obtain rfl : k = l.length := by omega
      go_wp2
      go_ret
      exact ⟨by rw [← hfull.out]; rfl, hbel⟩

set_option maxRecDepth 100000 in
set_option maxHeartbeats 1000000 in
theorem refDigitsW_any {A : Option Addr} {c : Nat} {l : List Nat} {w : World} (h : Nv w A c l) (hl : l.length ≤ 10000) :
    Calls Try.prog 81 #[.slice A l.length c] w fun e w' => e = .returned (.string (strOf (digE l))) ∧ Below w.heap.size w w' := by
  have h0 := Lib.hid (show strOf (leb l.length) = strOf (digK l 0) by unfold digK; simp)
  have hfull := Lib.hid (digK_full l)
  go_enter Try.func81, Try.ntmps81
  go_wp2_with fail
  refine (refUintW_val l.length _ _ rfl (by omega)).mono ?_
  rintro e w1 ⟨rfl, b1⟩
  rw [h0.out]
  go_wp2
  go_loopw [3, 4] (fun v i wr => DgInv l w v i wr) (fun _ i _ => l.length - (intOf i).toNat)
  case atStart => exact ⟨0, by omega, rfl, rfl, b1⟩
  case round =>
    obtain ⟨k, hk, rfl, rfl, hbel⟩ := hrel
    by_cases hkl : k < l.length
    · obtain ⟨a, d, rfl, hab, hac, hda, hga⟩ := (h.below hbel).at (k := k) hkl
      have hs1 : (strOf (digK l k)).size ≤ 1000000 := by rw [strOf_size]; have := digK_len h.dig hl k; omega
      have hs2 : (strOf (leb d)).size ≤ 10 := by rw [strOf_size]; exact leb_len10 (by omega)
      have hst := Lib.hid (show strOf (digK l (k + 1)) = strOf (digK l k) ++ strOf (leb d) by rw [digK_succ l k hkl, hga.out])
      go_wp2_with fail
      refine (refUintW_val d _ _ rfl (by omega)).mono ?_
      rintro e w2 ⟨rfl, b2⟩
      go_wp2
      go_roundw
      case rel => exact ⟨k + 1, by omega, by go_num, by rw [hst.out], hbel.trans (b2.mono hbel.size)⟩
      case measure => simp [intOf]; omega
    · obtain rfl : k = l.length := by omega
      go_wp2
      go_ret
      exact ⟨by rw [← hfull.out]; rfl, hbel⟩

def negN (b : Bool) : Nat := if b = true then 1 else 0
/-- The encoding of a fraction. -/
def fracE (neg : Bool) (la lb : List Nat) : ByteArray := strOf (leb (negN neg)) ++ strOf (digE la) ++ strOf (digE lb)
abbrev fracV (neg : Bool) (A : Option Addr) (n c : Nat) (B : Option Addr) (m d : Nat) : Value := .agg #[.bool neg, .slice A n c, .slice B m d]
abbrev fracB (neg : Bool) (A : Option Addr) (n c : Nat) (B : Option Addr) (m d : Nat) : Obj := .cells #[.bool neg, .slice A n c, .slice B m d] 59
theorem cellsAt {w w' : World} {b : Nat} {B : Nat} (hb : Below B w w') (h : b < B) (o : Nat) : w'.cell? ⟨b, o, none⟩ = w.cell? ⟨b, o, none⟩ := hb.cell (p := ⟨b, o, none⟩) h

/-- A block that is known whole. -/
def Blk (w : World) (g : Nat) (t : TypeId) (cs : Array Value) : Prop := w.heap[g]? = some (.cells cs t (0, 0))
section
variable {w w' : World} {g : Nat} {t : TypeId} {cs : Array Value}
theorem Blk.lt (h : Blk w g t cs) : g < w.heap.size := by
  rcases Nat.lt_or_ge g w.heap.size with hlt | hge
  · exact hlt
  · unfold Blk at h; rw [Array.getElem?_eq_none hge] at h; cases h
theorem Blk.cell (h : Blk w g t cs) (i : Nat) : w.cell? ⟨g, i, none⟩ = cs[i]? := by
  unfold Blk at h
  simp [World.cell?, h]
theorem Blk.free (h : Blk w g t cs) (i : Nat) : w.frozen? ⟨g, i, none⟩ = false := by
  unfold Blk at h
  simp [World.frozen?, h]
theorem Blk.new (w : World) (t : TypeId) (cs : Array Value) : Blk (w.alloc (.cells cs t)) w.heap.size t cs := heap_alloc_new w _
theorem Blk.drew (h : Blk w g t cs) : Blk w.drew g t cs := h
theorem Blk.drewN (h : Blk w g t cs) (n : Nat) : Blk (w.drewN n) g t cs := h
theorem Blk.set (h : Blk w g t cs) (i : Nat) (u : Value) : Blk (w.setCell ⟨g, i, none⟩ u) g t (cs.setIfInBounds i u) := by
  unfold Blk at h ⊢
  simp [World.setCell, Array.getElem?_modify, h]
theorem Blk.far (h : Blk w g t cs) {p : Addr} (hp : g ≠ p.block) (u : Value) : Blk (w.setCell p u) g t cs := (Below.heap_setCell w p u g hp).trans h
theorem Blk.below {B : Nat} (h : Blk w g t cs) (hb : Below B w w') (hg : g < B) : Blk w' g t cs := (hb.block g hg).trans h
theorem Blk.keep (h : Blk w g t cs) (hb : Below w.heap.size w w') : Blk w' g t cs := h.below hb h.lt
theorem Blk.only {g' : Nat} (h : Blk w g t cs) (hb : Only w w' g') (hg : g ≠ g') : Blk w' g t cs := (hb.block g h.lt (by simpa using hg)).trans h
end
/-- A struct is boxed: the world behind it gets a letter. -/
theorem boxed (w : World) (cs : Array Value) (t : TypeId) : ∃ w0, w.alloc (.cells cs t) = w0 ∧ Below w.heap.size w w0 ∧ w.heap.size < w0.heap.size ∧ Blk w0 w.heap.size t cs :=
  ⟨_, rfl, (Below.refl _ _).alloc (Nat.le_refl _) _, by simp, Blk.new w t cs⟩
theorem Blk.f0 {w : World} {g : Nat} {t : TypeId} {a b c : Value} (h : Blk w g t #[a, b, c]) : w.cell? ⟨g, 0, none⟩ = some a := h.cell 0
theorem Blk.f1 {w : World} {g : Nat} {t : TypeId} {a b c : Value} (h : Blk w g t #[a, b, c]) : w.cell? ⟨g, 1, none⟩ = some b := h.cell 1
theorem Blk.f2 {w : World} {g : Nat} {t : TypeId} {a b c : Value} (h : Blk w g t #[a, b, c]) : w.cell? ⟨g, 2, none⟩ = some c := h.cell 2

theorem nvK {w w0 W : World} {A : Option Addr} {c : Nat} {l : List Nat} (h : Nv w A c l) (b : Below w.heap.size w w0) (hlt : w.heap.size < w0.heap.size) (k : Below w0.heap.size w0 W) : Nv W A c l := (h.below b).below k
theorem below_step {w0 W w3 : World} (h : Below w0.heap.size w0 W) (b3 : Below W.heap.size W w3) : Below w0.heap.size w0 w3 := h.trans (b3.mono h.size)
theorem wFraction_end {neg : Bool} {la lb : List Nat} {x y z : ByteArray} (hx : x = strOf (leb (negN neg))) (hy : y = strOf (digE la)) (hz : z = strOf (digE lb)) : Ending.returned (.string (x ++ y ++ z)) = .returned (.string (fracE neg la lb)) := by
  subst hx hy hz; rfl
set_option maxRecDepth 100000 in
set_option maxHeartbeats 1000000 in
theorem wFraction_any {neg : Bool} {A B : Option Addr} {ca cb : Nat} {la lb : List Nat} {w : World} (ha : Nv w A ca la) (hb : Nv w B cb lb) (hla : la.length ≤ 10000) (hlb : lb.length ≤ 10000) :
    Calls Try.prog 58 #[fracV neg A la.length ca B lb.length cb] w fun e w' => e = .returned (.string (fracE neg la lb)) ∧ Below w.heap.size w w' := by
  have hs1 : (strOf (digE la)).size ≤ 1000000 := by rw [strOf_size]; have := digE_len ha.dig hla; omega
  have hs2 : (strOf (digE lb)).size ≤ 1000000 := by rw [strOf_size]; have := digE_len hb.dig hlb; omega
  have hs3 : (strOf (leb (negN neg))).size ≤ 10 := by rw [strOf_size]; exact leb_len10 (by unfold negN; split <;> omega)
  obtain ⟨w0, hw0, bw0, hlt0, hB0⟩ := boxed w #[.bool neg, .slice A la.length ca, .slice B lb.length cb] 59
  rcases neg with _ | _
  all_goals
    go_enter Try.func58, Try.ntmps58
    go_wp2_with fail
    refine (wUint_val 0 _ _ rfl (by omega)).mono ?_
    rintro e w1 ⟨rfl, b1⟩
    have k0 := (hB0.keep b1).f0
    have b01 := bw0.trans (b1.mono (Nat.le_of_lt hlt0))
    have hs0 : (strOf (leb 0)).size ≤ 10 := by rw [strOf_size]; exact leb_len10 (by omega)
    go_wp2_with fail
    first
      | (refine (wUint_val 1 _ _ rfl (by omega)).mono ?_; rintro e w2 ⟨rfl, b2⟩; have b12 := b1.trans (b2.mono b1.size); clear b1 b2; have b02 := bw0.trans (b12.mono (Nat.le_of_lt hlt0)); have hs4 : (strOf (leb 1)).size ≤ 10 := by (rw [strOf_size]; exact leb_len10 (by omega)))
      | (obtain ⟨w2, hw2⟩ : ∃ w2, w1 = w2 := ⟨_, rfl⟩; subst hw2; have b12 := b1; clear b1; have b02 := b01)
    have k1 := (hB0.keep b12).f1
    have k2 := (hB0.keep b12).f2
    clear k0
    first
      | have hadd1 : ¬ 9223372036854775807 < (strOf (leb 1)).size + (strOf (digE la)).size := by omega
        have hadd2 : ¬ 9223372036854775807 < (strOf (leb 1)).size + (strOf (digE la)).size + (strOf (digE lb)).size := by omega
      | have hadd1 : ¬ 9223372036854775807 < (strOf (leb 0)).size + (strOf (digE la)).size := by omega
        have hadd2 : ¬ 9223372036854775807 < (strOf (leb 0)).size + (strOf (digE la)).size + (strOf (digE lb)).size := by omega
    go_wp2_with fail
    go_region_held3 (fun w' => w'.cell? ⟨w.heap.size, 1, none⟩ = some (.slice A la.length ca) ∧ w'.cell? ⟨w.heap.size, 2, none⟩ = some (.slice B lb.length cb) ∧ Below w0.heap.size w0 w') (first | (go_keep; done) | ((try go_split_ands); (try dsimp only); refine ⟨?_, ?_, ?_⟩ <;> first | assumption | exact Below.drew (by assumption) | exact (hB0.keep (by assumption)).f1 | exact (hB0.keep (by assumption)).f2)) (first
      | (go_at_call 80; go_split_ands; (with_reducible refine (wDigits_any (nvK ha bw0 hlt0 (by assumption)) hla).mono ?_); rintro e w3 ⟨rfl, b3⟩; have b4 := below_step (by assumption) b3)
      | (go_at_call 80; go_split_ands; (with_reducible refine (wDigits_any (nvK hb bw0 hlt0 (by assumption)) hlb).mono ?_); rintro e w3 ⟨rfl, b3⟩; have b4 := below_step (by assumption) b3))
    go_wp2
    go_ret
    exact ⟨wFraction_end rfl rfl rfl, bw0.trans (b4.mono (Nat.le_of_lt hlt0))⟩

set_option maxRecDepth 100000 in
set_option maxHeartbeats 1000000 in
theorem refFraction_any {neg : Bool} {A B : Option Addr} {ca cb : Nat} {la lb : List Nat} {w : World} (ha : Nv w A ca la) (hb : Nv w B cb lb) (hla : la.length ≤ 10000) (hlb : lb.length ≤ 10000) :
    Calls Try.prog 59 #[fracV neg A la.length ca B lb.length cb] w fun e w' => e = .returned (.string (fracE neg la lb)) ∧ Below w.heap.size w w' := by
  have hs1 : (strOf (digE la)).size ≤ 1000000 := by rw [strOf_size]; have := digE_len ha.dig hla; omega
  have hs2 : (strOf (digE lb)).size ≤ 1000000 := by rw [strOf_size]; have := digE_len hb.dig hlb; omega
  have hs3 : (strOf (leb (negN neg))).size ≤ 10 := by rw [strOf_size]; exact leb_len10 (by unfold negN; split <;> omega)
  obtain ⟨w0, hw0, bw0, hlt0, hB0⟩ := boxed w #[.bool neg, .slice A la.length ca, .slice B lb.length cb] 59
  have k0 := hB0.f0
  have k1 := hB0.f1
  have k2 := hB0.f2
  have b00 := Below.refl w0.heap.size w0
  rcases neg with _ | _
  · go_enter Try.func59, Try.ntmps59
    go_wp2_with fail
    have hadd1 : ¬ 9223372036854775807 < (strOf (leb (negN false))).size + (strOf (digE la)).size := by omega
    have hadd2 : ¬ 9223372036854775807 < (strOf (leb (negN false))).size + (strOf (digE la)).size + (strOf (digE lb)).size := by omega
    go_region_held3 (fun w' => w'.cell? ⟨w.heap.size, 1, none⟩ = some (.slice A la.length ca) ∧ w'.cell? ⟨w.heap.size, 2, none⟩ = some (.slice B lb.length cb) ∧ Below w0.heap.size w0 w') (first | (go_keep; done) | ((try go_split_ands); (try dsimp only); refine ⟨?_, ?_, ?_⟩ <;> first | assumption | exact Below.drew (by assumption) | exact (hB0.keep (by assumption)).f1 | exact (hB0.keep (by assumption)).f2)) (first
      | (go_at_call 19; go_split_ands; (with_reducible refine (refUintW_val (negN false) _ _ (by simp [negN]) (by simp [negN])).mono ?_); rintro e w3 ⟨rfl, b3⟩; have b4 := below_step (by assumption) b3)
      | (go_at_call 81; go_split_ands; (with_reducible refine (refDigitsW_any (nvK ha bw0 hlt0 (by assumption)) hla).mono ?_); rintro e w3 ⟨rfl, b3⟩; have b4 := below_step (by assumption) b3)
      | (go_at_call 81; go_split_ands; (with_reducible refine (refDigitsW_any (nvK hb bw0 hlt0 (by assumption)) hlb).mono ?_); rintro e w3 ⟨rfl, b3⟩; have b4 := below_step (by assumption) b3))
    go_wp2
    go_ret
    exact ⟨wFraction_end rfl rfl rfl, bw0.trans (b4.mono (Nat.le_of_lt hlt0))⟩
  · go_enter Try.func59, Try.ntmps59
    go_wp2_with fail
    have hadd1 : ¬ 9223372036854775807 < (strOf (leb (negN true))).size + (strOf (digE la)).size := by omega
    have hadd2 : ¬ 9223372036854775807 < (strOf (leb (negN true))).size + (strOf (digE la)).size + (strOf (digE lb)).size := by omega
    go_region_held3 (fun w' => w'.cell? ⟨w.heap.size, 1, none⟩ = some (.slice A la.length ca) ∧ w'.cell? ⟨w.heap.size, 2, none⟩ = some (.slice B lb.length cb) ∧ Below w0.heap.size w0 w') (first | (go_keep; done) | ((try go_split_ands); (try dsimp only); refine ⟨?_, ?_, ?_⟩ <;> first | assumption | exact Below.drew (by assumption) | exact (hB0.keep (by assumption)).f1 | exact (hB0.keep (by assumption)).f2)) (first
      | (go_at_call 19; go_split_ands; (with_reducible refine (refUintW_val (negN true) _ _ (by simp [negN]) (by simp [negN])).mono ?_); rintro e w3 ⟨rfl, b3⟩; have b4 := below_step (by assumption) b3)
      | (go_at_call 81; go_split_ands; (with_reducible refine (refDigitsW_any (nvK ha bw0 hlt0 (by assumption)) hla).mono ?_); rintro e w3 ⟨rfl, b3⟩; have b4 := below_step (by assumption) b3)
      | (go_at_call 81; go_split_ands; (with_reducible refine (refDigitsW_any (nvK hb bw0 hlt0 (by assumption)) hlb).mono ?_); rintro e w3 ⟨rfl, b3⟩; have b4 := below_step (by assumption) b3))
    go_wp2
    go_ret
    exact ⟨wFraction_end rfl rfl rfl, bw0.trans (b4.mono (Nat.le_of_lt hlt0))⟩
end Go.Proofs.Ytkbibdbojdbfkaa
