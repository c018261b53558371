/- A slice of numbers as it is handed in, as a list of digits; few of it, whatever its length. -/
import Derived.Test.YtkbibdbojdbfkaaWLives
namespace Go.Proofs.Ytkbibdbojdbfkaa
set_option linter.unusedVariables false
set_option linter.unusedSimpArgs false
open Go.RowKit Plain

/-- A slice handed in, of any length. -/
structure InRow (w : World) (A : Option Addr) (c : Nat) (l : List Nat) : Prop where
  len : l.length ≤ c
  big : l.length ≤ 9223372036854775807
  rd : Rd w A l
  dig : Dig l

theorem InRow.nv {w : World} {A : Option Addr} {c : Nat} {l : List Nat} (h : InRow w A c l) (hl : l.length ≤ 70368744177664) : Nv w A c l := ⟨h.len, hl, h.rd, h.dig⟩

theorem cell_lt {w : World} {a : Addr} {v : Value} (h : w.cell? a = some v) : a.block < w.heap.size := by
  rcases Nat.lt_or_ge a.block w.heap.size with hlt | hge
  · exact hlt
  · simp [World.cell?, Array.getElem?_eq_none hge] at h

theorem inRow_of {w : World} {a : Option Addr} {len cap : Nat} {zs : List Int}
    (h : (a = none ∧ len = 0 ∧ cap = 0 ∧ zs = []) ∨
      ∃ x, a = some x ∧ len ≤ cap ∧ cap ≤ maxLen ∧ zs.length = cap ∧ (∀ i, i < zs.length → w.cell? (x.add i) = some (.int .u32 (zs.getD i 0))) ∧ ∀ n ∈ zs, (Lit.int .u32 n).wf = true) :
    ∃ l, Hid (l = (zs.take len).map Int.toNat) ∧ l.length = len ∧ InRow w a cap l := by
  rcases h with ⟨rfl, rfl, rfl, rfl⟩ | ⟨x, rfl, h1, h2, h3, h4, h5⟩
  · exact ⟨[], rfl, rfl, by simp, by simp, fun hx => by simp [u32s] at hx, Dig.nil⟩
  · have hlen : ((zs.take len).map Int.toNat).length = len := by rw [List.length_map, List.length_take]; omega
    have hm : maxLen = 9223372036854775807 := rfl
    have hb : ∀ n ∈ zs, 0 ≤ n ∧ n < 4294967296 := fun n hn => by
      have := h5 n hn
      simp [Lit.wf, IntKind.min, IntKind.max, IntKind.bits, IntKind.signed] at this
      omega
    refine ⟨_, rfl, hlen, by rw [hlen]; exact h1, by rw [hlen]; omega, fun hx => ⟨x, rfl, ?_, fun j hj => ?_⟩, ?_⟩
    · rw [u32s_length, hlen] at hx
      have := h4 0 (by omega)
      exact cell_lt (by simpa [Addr.add] using this)
    · rw [u32s_length, hlen] at hj
      rw [h4 j (by omega)]
      have hz := hb (zs.getD j 0) (by rw [List.getD_eq_getElem?_getD, List.getElem?_eq_getElem (by omega)]; exact List.getElem_mem _)
      simp [u32s, List.getElem?_eq_getElem (show j < zs.length by omega)] at hz ⊢
      omega
    · intro d hd
      rw [List.mem_map] at hd
      obtain ⟨n, hn, rfl⟩ := hd
      have := hb n (List.mem_of_mem_take hn)
      omega

theorem fewL_long {l : List Nat} {m : Nat} (h : ¬ l.length ≤ m) : fewL l m = false := by unfold fewL; rw [decide_eq_false h]; rfl
theorem few_row {A : Option Addr} {c : Nat} {l : List Nat} {w : World} (h : InRow w A c l) (m : Nat) (x : Int) (hx : x = (m : Int)) (hm : m ≤ 1000000) :
    Calls Try.prog 32 #[.slice A l.length c, .int .i64 x] w fun e w' => e = .returned (.bool (fewL l m)) ∧ w = w' := by
  by_cases hlt : l.length ≤ m
  · exact few_any (h.nv (by omega)) m x hx hm
  · subst hx
    have hf := Lib.hid (fewL_long hlt)
    have hb := h.big
    have hd : decide (l.length ≤ m) = false := decide_eq_false hlt
    clear hlt
    go_enter Try.func32, Try.ntmps32
    go_wp2
    go_ret
    refine ⟨?_, rfl⟩
    rw [hf.out]; rfl

theorem fewL_le {l : List Nat} {m : Nat} (h : fewL l m = true) : l.length ≤ m := by
  unfold fewL at h
  simp at h
  exact h.1
theorem fewL_natIs {l : List Nat} {m : Nat} (hd : Dig l) (h : fewL l m = true) : NatIs l (val l) := by
  unfold fewL validL at h
  simp at h
  exact ⟨hd, canon_of_trimN h.2, rfl⟩
end Go.Proofs.Ytkbibdbojdbfkaa
