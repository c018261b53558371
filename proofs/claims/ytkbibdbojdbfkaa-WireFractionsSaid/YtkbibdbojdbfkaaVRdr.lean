/- The readers in memory; their small methods. -/
import Derived.Test.YtkbibdbojdbfkaaVUint
import Derived.Laws.OwnMore
import Derived.Deep.AppendLies
namespace Go.Proofs.Ytkbibdbojdbfkaa
set_option linter.unusedVariables false
set_option linter.unusedSimpArgs false
open Go.RowKit Plain

/-- Block g is a reader (of type t) with the bytes l left and the error e. -/
def Rdr (t : TypeId) (w : World) (g : Nat) (l : List Nat) (e : Int) : Prop := ∃ s : ByteArray, bytes s = l ∧ s.size ≤ 1000000 ∧ w.heap[g]? = some (.cells #[.string s, .int .i64 e] t (0, 0))
/-- Only block g has turned; blocks are new. -/
abbrev Only (w w' : World) (g : Nat) : Prop := w.grownBy w' (some g)

section
variable {w w' w'' : World} {g g' t t' : Nat} {l : List Nat} {e : Int}
theorem Rdr.lt (h : Rdr t w g l e) : g < w.heap.size := by
  obtain ⟨s, _, _, h⟩ := h
  exact (Array.getElem?_eq_some_iff.1 h).1
theorem Rdr.open (h : Rdr t w g l e) : ∃ s : ByteArray, Hid (bytes s = l) ∧ s.size ≤ 1000000 ∧ Hid (s.size = l.length) ∧ w.cell? ⟨g, 0, none⟩ = some (.string s) ∧ w.cell? ⟨g, 1, none⟩ = some (.int .i64 e) ∧ w.frozen? ⟨g, 0, none⟩ = false ∧ w.frozen? ⟨g, 1, none⟩ = false := by
  obtain ⟨s, h1, h2, h3⟩ := h
  refine ⟨s, h1, h2, ?_, ?_, ?_, ?_, ?_⟩
  · show _ = _
    rw [← h1, bytes_length]
  · simp [World.cell?, h3]
  · simp [World.cell?, h3]
  · simp [World.frozen?, h3]
  · simp [World.frozen?, h3]
theorem Rdr.other (h : Rdr t w g l e) (hg : Only w w' g') (hne : g ≠ g') : Rdr t w' g l e := by
  obtain ⟨s, h1, h2, h3⟩ := h
  exact ⟨s, h1, h2, (hg.block g (Array.getElem?_eq_some_iff.1 h3).1 (by simpa using hne)).trans h3⟩
theorem Rdr.below (h : Rdr t w g l e) {B : Nat} (hb : Below B w w') (hg : g < B) : Rdr t w' g l e := by
  obtain ⟨s, h1, h2, h3⟩ := h
  exact ⟨s, h1, h2, (hb.block g hg).trans h3⟩
theorem Rdr.drewN (h : Rdr t w g l e) (n : Nat) : Rdr t (w.drewN n) g l e := h
theorem Rdr.set0 (h : Rdr t w g l e) (s : ByteArray) (hs : s.size ≤ 1000000) : Rdr t (w.setCell ⟨g, 0, none⟩ (.string s)) g (bytes s) e := by
  obtain ⟨s', h1, h2, h3⟩ := h
  exact ⟨s, rfl, hs, by simp [World.setCell, Array.getElem?_modify, h3]⟩
theorem Rdr.set1 (h : Rdr t w g l e) (e' : Int) : Rdr t (w.setCell ⟨g, 1, none⟩ (.int .i64 e')) g l e' := by
  obtain ⟨s', h1, h2, h3⟩ := h
  exact ⟨s', h1, h2, by simp [World.setCell, Array.getElem?_modify, h3]⟩
theorem Only.refl (w : World) (g : Nat) : Only w w g := World.grownBy.refl w _
theorem Only.trans (h : Only w w' g) (k : Only w' w'' g) : Only w w'' g :=
  ⟨k.os.trans h.os, k.tape.trans h.tape, k.output.trans h.output, Nat.le_trans h.size k.size, fun i hi hn => (k.block i (Nat.lt_of_lt_of_le hi h.size) hn).trans (h.block i hi hn)⟩
theorem Only.set (h : Only w w' g) (o : Nat) (u : Value) : Only w (w'.setCell ⟨g, o, none⟩ u) g :=
  ⟨h.os, h.tape, h.output, by simpa [World.setCell] using h.size, fun i hi hn => (Below.heap_setCell w' ⟨g, o, none⟩ u i (by rintro rfl; exact hn rfl)).trans (h.block i hi hn)⟩
theorem Only.drewN (h : Only w w' g) (n : Nat) : Only w (w'.drewN n) g := ⟨h.os, h.tape, h.output, h.size, h.block⟩
theorem Only.drew (h : Only w w' g) : Only w w'.drew g := ⟨h.os, h.tape, h.output, h.size, h.block⟩
theorem Only.alloc (h : Only w w' g) (o : Obj) : Only w (w'.alloc o) g :=
  ⟨h.os, h.tape, h.output, Nat.le_trans h.size (by simp), fun i hi hn => (Below.heap_alloc w' o i (Nat.lt_of_lt_of_le hi h.size)).trans (h.block i hi hn)⟩
theorem Only.of_below (h : Below w.heap.size w w') (g : Nat) : Only w w' g := ⟨h.os, h.tape, h.output, h.size, fun i hi _ => h.block i hi⟩
theorem Only.to_below {B : Nat} {a : World} (hb : Below B a w) (h : Only w w' g) (hg : B ≤ g) (hB : B ≤ w.heap.size) : Below B a w' :=
  hb.grown h hB (fun k hk => by simp at hk; omega)
/-- Written: the block g, or what is new. -/
theorem Only.set_new (h : Only w w' g) (p : Addr) (hp : p.block = g ∨ w.heap.size ≤ p.block) (u : Value) : Only w (w'.setCell p u) g :=
  ⟨h.os, h.tape, h.output, by simpa [World.setCell] using h.size, fun i hi hn => (Below.heap_setCell w' p u i (by
    rintro rfl
    rcases hp with hp | hp
    · exact hn (by rw [hp])
    · omega)).trans (h.block i hi hn)⟩
end
theorem new_rdr {t : TypeId} (w : World) (s : ByteArray) (hs : s.size ≤ 1000000) : Rdr t (w.alloc (.cells #[.string s, .int .i64 0] t)) w.heap.size (bytes s) 0 := ⟨s, rfl, hs, heap_alloc_new w _⟩

set_option maxRecDepth 100000 in
theorem newR_any (s : ByteArray) (w : World) (hs : s.size ≤ 1000000) :
    Calls Try.prog 21 #[.string s] w fun e w' => e = .returned (.pointer (some ⟨w.heap.size, 0, none⟩)) ∧ Rdr 77 w' w.heap.size (bytes s) 0 ∧ Below w.heap.size w w' := by
  go_enter Try.func21, Try.ntmps21
  go_wp2
  go_ret
  exact ⟨rfl, new_rdr w s hs, (Below.refl _ _).alloc (Nat.le_refl _) _⟩
set_option maxRecDepth 100000 in
theorem newRef_any (s : ByteArray) (w : World) (hs : s.size ≤ 1000000) :
    Calls Try.prog 62 #[.string s] w fun e w' => e = .returned (.pointer (some ⟨w.heap.size, 0, none⟩)) ∧ Rdr 91 w' w.heap.size (bytes s) 0 ∧ Below w.heap.size w w' := by
  go_enter Try.func62, Try.ntmps62
  go_wp2
  go_ret
  exact ⟨rfl, new_rdr w s hs, (Below.refl _ _).alloc (Nat.le_refl _) _⟩

/-- Is there no error? -/
def okE (e : Int) : Bool := decide (e = 0)
theorem okE_beq (e : Int) : (e == 0) = okE e := by unfold okE; rw [Bool.eq_iff_iff]; simp
theorem okE_bne (e : Int) : (e != 0) = !okE e := by unfold okE; rw [Bool.eq_iff_iff]; simp
set_option maxHeartbeats 400000 in
theorem ok_any {w : World} {g : Nat} {l : List Nat} {e : Int} (h : Rdr 77 w g l e) :
    Calls Try.prog 68 #[.pointer (some ⟨g, 0, none⟩)] w fun en w' => en = .returned (.bool (okE e)) ∧ w = w' := by
  obtain ⟨s, hs, hsz, hsl, c0, c1, f0, f1⟩ := h.open
  have he := okE_beq e
  obtain ⟨b, hb⟩ : ∃ b, okE e = b := ⟨_, rfl⟩
  rw [hb] at he ⊢
  clear hb
  go_enter Try.func68, Try.ntmps68
  go_wp2
  go_ret
  exact ⟨rfl, rfl⟩
set_option maxHeartbeats 400000 in
theorem err_any {w : World} {g : Nat} {l : List Nat} {e : Int} (h : Rdr 77 w g l e) :
    Calls Try.prog 64 #[.pointer (some ⟨g, 0, none⟩)] w fun en w' => en = .returned (.int .i64 e) ∧ w = w' := by
  obtain ⟨s, hs, hsz, hsl, c0, c1, f0, f1⟩ := h.open
  go_enter Try.func64, Try.ntmps64
  go_wp2
  go_ret
  exact ⟨rfl, rfl⟩
set_option maxHeartbeats 400000 in
theorem refErr_any {w : World} {g : Nat} {l : List Nat} {e : Int} (h : Rdr 91 w g l e) :
    Calls Try.prog 65 #[.pointer (some ⟨g, 0, none⟩)] w fun en w' => en = .returned (.int .i64 e) ∧ w = w' := by
  obtain ⟨s, hs, hsz, hsl, c0, c1, f0, f1⟩ := h.open
  go_enter Try.func65, Try.ntmps65
  go_wp2
  go_ret
  exact ⟨rfl, rfl⟩
/-- The error after a failure. -/
def failE (e e' : Int) : Int := if e = 0 then e' else e
set_option maxHeartbeats 400000 in
theorem fail_any {w : World} {g : Nat} {l : List Nat} {e : Int} (e' : Int) (h : Rdr 77 w g l e) :
    Calls Try.prog 67 #[.pointer (some ⟨g, 0, none⟩), .int .i64 e'] w fun en w' => en = .returned (.tuple #[]) ∧ Rdr 77 w' g l (failE e e') ∧ Only w w' g := by
  obtain ⟨s, hs, hsz, hsl, c0, c1, f0, f1⟩ := h.open
  by_cases h0 : e = 0
  · subst h0
    go_enter Try.func67, Try.ntmps67
    go_wp2
    go_end0
    exact ⟨rfl, h.set1 e', (Only.refl w g).set _ _⟩
  · have he : (e == 0) = false := by rw [beq_eq_false_iff_ne]; exact h0
    have hf := Lib.hid (show failE e e' = e by unfold failE; rw [if_neg h0])
    clear h0
    go_enter Try.func67, Try.ntmps67
    go_wp2
    go_end0
    exact ⟨rfl, hf.out.symm ▸ h, Only.refl w g⟩
set_option maxHeartbeats 400000 in
theorem refFail_any {w : World} {g : Nat} {l : List Nat} {e : Int} (e' : Int) (h : Rdr 91 w g l e) :
    Calls Try.prog 88 #[.pointer (some ⟨g, 0, none⟩), .int .i64 e'] w fun en w' => en = .returned (.tuple #[]) ∧ Rdr 91 w' g l (failE e e') ∧ Only w w' g := by
  obtain ⟨s, hs, hsz, hsl, c0, c1, f0, f1⟩ := h.open
  by_cases h0 : e = 0
  · subst h0
    go_enter Try.func88, Try.ntmps88
    go_wp2
    go_end0
    exact ⟨rfl, h.set1 e', (Only.refl w g).set _ _⟩
  · have he : (e == 0) = false := by rw [beq_eq_false_iff_ne]; exact h0
    have hf := Lib.hid (show failE e e' = e by unfold failE; rw [if_neg h0])
    clear h0
    go_enter Try.func88, Try.ntmps88
    go_wp2
    go_end0
    exact ⟨rfl, hf.out.symm ▸ h, Only.refl w g⟩
/-- The bytes that are left. -/
def leftE (l : List Nat) (e : Int) : Nat := if e = 0 then l.length else 0
set_option maxHeartbeats 400000 in
theorem left_any {w : World} {g : Nat} {l : List Nat} {e : Int} (h : Rdr 77 w g l e) :
    Calls Try.prog 29 #[.pointer (some ⟨g, 0, none⟩)] w fun en w' => en = .returned (.int .i64 (leftE l e : Nat)) ∧ w = w' := by
  obtain ⟨s, hs, hsz, hsl, c0, c1, f0, f1⟩ := h.open
  obtain ⟨n, hn⟩ : ∃ n, leftE l e = n := ⟨_, rfl⟩
  have hv := Lib.hid hn
  rw [hn]
  clear hn
  by_cases h0 : e = 0
  · subst h0
    go_enter Try.func29, Try.ntmps29
    go_wp2_with (go_at_call 68; refine (ok_any h).mono ?_; rintro e w1 ⟨rfl, rfl⟩)
    go_ret
    exact ⟨by rw [← hv.out]; unfold leftE; rw [if_pos rfl, ← hsl.out]; rfl, rfl⟩
  · have he : okE e = false := decide_eq_false h0
    have h0' := Lib.hid h0
    clear h0
    go_enter Try.func29, Try.ntmps29
    go_wp2_with (go_at_call 68; refine (ok_any h).mono ?_; rintro e w1 ⟨rfl, rfl⟩; rw [he])
    go_ret
    exact ⟨by rw [← hv.out]; unfold leftE; rw [if_neg h0'.out]; rfl, rfl⟩
set_option maxHeartbeats 400000 in
theorem refLeft_any {w : World} {g : Nat} {l : List Nat} {e : Int} (h : Rdr 91 w g l e) :
    Calls Try.prog 66 #[.pointer (some ⟨g, 0, none⟩)] w fun en w' => en = .returned (.int .i64 (leftE l e : Nat)) ∧ w = w' := by
  obtain ⟨s, hs, hsz, hsl, c0, c1, f0, f1⟩ := h.open
  obtain ⟨n, hn⟩ : ∃ n, leftE l e = n := ⟨_, rfl⟩
  have hv := Lib.hid hn
  rw [hn]
  clear hn
  by_cases h0 : e = 0
  · subst h0
    go_enter Try.func66, Try.ntmps66
    go_wp2
    go_ret
    exact ⟨by rw [← hv.out]; unfold leftE; rw [if_pos rfl, ← hsl.out]; rfl, rfl⟩
  · have he : (e != 0) = true := by rw [bne_iff_ne]; exact h0
    have h0' := Lib.hid h0
    clear h0
    go_enter Try.func66, Try.ntmps66
    go_wp2
    go_ret
    exact ⟨by rw [← hv.out]; unfold leftE; rw [if_neg h0'.out]; rfl, rfl⟩
/-- The error at the end. -/
def endE (l : List Nat) (e : Int) : Int := if e = 0 ∧ l ≠ [] then 3 else e
theorem endE_fail {l : List Nat} (h : l ≠ []) : endE l 0 = 3 := by unfold endE; rw [if_pos ⟨rfl, h⟩]
theorem endE_ok {l : List Nat} {e : Int} (h : e ≠ 0 ∨ l = []) : endE l e = e := by
  unfold endE
  rw [if_neg]
  rintro ⟨h1, h2⟩
  rcases h with h | h
  · exact h h1
  · exact h2 h
theorem neq_empty (s : ByteArray) : s.toList.isEmpty = decide (s.size = 0) := isEmpty_of s
set_option maxHeartbeats 400000 in
theorem end_any {w : World} {g : Nat} {l : List Nat} {e : Int} (h : Rdr 77 w g l e) :
    Calls Try.prog 24 #[.pointer (some ⟨g, 0, none⟩)] w fun en w' => en = .returned (.int .i64 (endE l e)) ∧ Rdr 77 w' g l (endE l e) ∧ Only w w' g := by
  obtain ⟨s, hs, hsz, hsl, c0, c1, f0, f1⟩ := h.open
  have hem := isEmpty_of s
  by_cases h0 : e = 0
  · by_cases hl : l = []
    · have hv := Lib.hid (show endE l e = e from endE_ok (.inr hl))
      rw [hv.out]
      have hs0 : s.size = 0 := by rw [hsl.out, hl]; rfl
      rw [decide_eq_true hs0] at hem
      have he : okE e = true := decide_eq_true h0
      clear hs0 hl h0
      go_enter Try.func24, Try.ntmps24
      go_wp2_with (first | (go_at_call 68; refine (ok_any h).mono ?_; rintro e w1 ⟨rfl, rfl⟩; rw [he]) | (go_at_call 64; refine (err_any h).mono ?_; rintro e w1 ⟨rfl, rfl⟩))
      go_ret
      exact ⟨rfl, h, Only.refl w g⟩
    · subst h0
      have hv := Lib.hid (endE_fail hl)
      rw [hv.out]
      have hs0 : s.size ≠ 0 := by rw [hsl.out]; exact fun e => hl (List.eq_nil_of_length_eq_zero e)
      rw [decide_eq_false hs0] at hem
      clear hs0 hl
      go_enter Try.func24, Try.ntmps24
      go_wp2_with fail
      refine (ok_any h).mono ?_
      rintro e w1 ⟨rfl, rfl⟩
      go_wp2_with fail
      refine (fail_any 3 h).mono ?_
      rintro e w1 ⟨rfl, h1, o1⟩
      go_wp2_with fail
      refine (err_any h1).mono ?_
      rintro e w2 ⟨rfl, rfl⟩
      go_wp2
      go_ret
      exact ⟨rfl, h1, o1⟩
  · have hv := Lib.hid (show endE l e = e from endE_ok (.inl h0))
    rw [hv.out]
    have he : okE e = false := decide_eq_false h0
    clear h0
    go_enter Try.func24, Try.ntmps24
    go_wp2_with (first | (go_at_call 68; refine (ok_any h).mono ?_; rintro e w1 ⟨rfl, rfl⟩; rw [he]) | (go_at_call 64; refine (err_any h).mono ?_; rintro e w1 ⟨rfl, rfl⟩))
    go_ret
    exact ⟨rfl, h, Only.refl w g⟩
set_option maxHeartbeats 400000 in
theorem refEnd_any {w : World} {g : Nat} {l : List Nat} {e : Int} (h : Rdr 91 w g l e) :
    Calls Try.prog 89 #[.pointer (some ⟨g, 0, none⟩)] w fun en w' => en = .returned (.int .i64 (endE l e)) ∧ Rdr 91 w' g l (endE l e) ∧ Only w w' g := by
  obtain ⟨s, hs, hsz, hsl, c0, c1, f0, f1⟩ := h.open
  by_cases h0 : e = 0
  · subst h0
    by_cases hl : l = []
    · have hv := Lib.hid (show endE l 0 = 0 from endE_ok (.inr hl))
      rw [hv.out]
      have hs0 : s.size = 0 := by rw [hsl.out, hl]; rfl
      have hd : decide (0 < s.size) = false := decide_eq_false (by omega)
      clear hs0 hl
      go_enter Try.func89, Try.ntmps89
      go_wp2
      go_ret
      exact ⟨rfl, h, Only.refl w g⟩
    · have hv := Lib.hid (endE_fail hl)
      rw [hv.out]
      have hs0 : s.size ≠ 0 := by rw [hsl.out]; exact fun e => hl (List.eq_nil_of_length_eq_zero e)
      have hd : decide (0 < s.size) = true := decide_eq_true (by omega)
      clear hs0 hl
      go_enter Try.func89, Try.ntmps89
      go_wp2
      go_ret
      exact ⟨rfl, h.set1 3, (Only.refl w g).set _ _⟩
  · have he : (e == 0) = false := by rw [beq_eq_false_iff_ne]; exact h0
    have hv := Lib.hid (show endE l e = e from endE_ok (.inl h0))
    rw [hv.out]
    clear h0
    go_enter Try.func89, Try.ntmps89
    go_wp2
    go_ret
    exact ⟨rfl, h, Only.refl w g⟩

/-! nil receivers -/
section
variable (w : World)
theorem okNil : Calls Try.prog 68 #[.pointer none] w fun en w' => en = .returned (.bool false) ∧ w = w' := by
  go_enter Try.func68, Try.ntmps68
  go_wp2
  go_ret
  exact ⟨rfl, rfl⟩
theorem errNil : Calls Try.prog 64 #[.pointer none] w fun en w' => en = .returned (.int .i64 6) ∧ w = w' := by
  go_enter Try.func64, Try.ntmps64
  go_wp2
  go_ret
  exact ⟨rfl, rfl⟩
theorem failNil (e' : Int) : Calls Try.prog 67 #[.pointer none, .int .i64 e'] w fun en w' => en = .returned (.tuple #[]) ∧ w = w' := by
  go_enter Try.func67, Try.ntmps67
  go_wp2
  go_end0
  exact ⟨rfl, rfl⟩
theorem leftNil : Calls Try.prog 29 #[.pointer none] w fun en w' => en = .returned (.int .i64 0) ∧ w = w' := by
  go_enter Try.func29, Try.ntmps29
  go_wp2_with (go_at_call 68; refine (okNil _).mono ?_; rintro e w1 ⟨rfl, rfl⟩)
  go_ret
  exact ⟨rfl, rfl⟩
theorem endNil : Calls Try.prog 24 #[.pointer none] w fun en w' => en = .returned (.int .i64 6) ∧ w = w' := by
  go_enter Try.func24, Try.ntmps24
  go_wp2_with (first | (go_at_call 68; refine (okNil _).mono ?_; rintro e w1 ⟨rfl, rfl⟩) | (go_at_call 64; refine (errNil _).mono ?_; rintro e w1 ⟨rfl, rfl⟩))
  go_ret
  exact ⟨rfl, rfl⟩
theorem uintNil (n : Int) : Calls Try.prog 22 #[.pointer none, .int .u64 n] w fun en w' => en = .returned (.int .u64 0) ∧ w = w' := by
  go_enter Try.func22, Try.ntmps22
  go_wp2_with (go_at_call 68; refine (okNil _).mono ?_; rintro e w1 ⟨rfl, rfl⟩)
  go_ret
  exact ⟨rfl, rfl⟩
theorem intNil : Calls Try.prog 23 #[.pointer none] w fun en w' => en = .returned (.int .i64 0) ∧ w = w' := by
  go_enter Try.func23, Try.ntmps23
  have h1 : bits .and .u64 0 1 = 0 := by decide
  have h2 : bits .xor .i64 0 0 = 0 := by decide
  go_wp2_with (go_at_call 22; refine (uintNil _ _).mono ?_; rintro e w1 ⟨rfl, rfl⟩)
  go_ret
  exact ⟨rfl, rfl⟩
theorem textNil (n : Int) : Calls Try.prog 28 #[.pointer none, .int .i64 n] w fun en w' => en = .returned (.string ⟨#[]⟩) ∧ w = w' := by
  go_enter Try.func28, Try.ntmps28
  go_wp2_with (go_at_call 68; refine (okNil _).mono ?_; rintro e w1 ⟨rfl, rfl⟩)
  go_ret
  exact ⟨rfl, rfl⟩
end
end Go.Proofs.Ytkbibdbojdbfkaa
