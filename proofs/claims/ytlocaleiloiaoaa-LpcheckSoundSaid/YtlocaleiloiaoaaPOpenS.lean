/- A solution that is handed in; what the check answers. -/
import Derived.Test.YtlocaleiloiaoaaPOpt
import Derived.Test.YtlocaleiloiaoaaPFew
namespace Go.Proofs.Ytlocaleiloiaoaa
set_option linter.unusedVariables false
set_option linter.unusedSimpArgs false
open Go.RowKit Plain

/-- A solution as it lies in memory. -/
structure SolD where
  st : Int
  d : FrD
  xa : Option Addr
  xc : Nat
  xs : List FrD
  ya : Option Addr
  yc : Nat
  ys : List FrD
  za : Option Addr
  zc : Nat
  zs : List FrD
abbrev SolD.cs (s : SolD) : Array Value := #[.int .i64 s.st, .bool s.d.neg, .slice s.d.a s.d.la.length s.d.ca, .slice s.d.b s.d.lb.length s.d.cb, .slice s.xa s.xs.length s.xc, .slice s.ya s.ys.length s.yc, .slice s.za s.zs.length s.zc]
abbrev SolD.v (s : SolD) : Value := .agg s.cs
structure SolD.few (w : World) (K : Nat) (s : SolD) : Prop where
  d : s.d.few w K
  x : LD w K s.xa s.xc s.xs
  y : LD w K s.ya s.yc s.ys
  z : LD w K s.za s.zc s.zs
theorem SolD.few.below {w w' : World} {K : Nat} {s : SolD} (h : s.few w K) (hb : Below w.heap.size w w') : s.few w' K := ⟨h.d.below hb, h.x.below hb, h.y.below hb, h.z.below hb⟩
/-- The check's answer, but for the form. -/
def provenB (gs : List FrD) (rs : List RowD) (s : SolD) : Bool :=
  if s.st = 1 then optB gs rs s.d s.xs s.ys else if s.st = 2 then emptyB gs rs s.ys else if s.st = 3 then (feaB gs rs s.xs && endB gs rs s.zs) else false
def checkN (gs : List FrD) (rs : List RowD) (s : SolD) : Int := if (rowsB gs.length rs && whB gs) = false then 2 else if provenB gs rs s = true then 0 else 13
theorem checkN_ok {gs : List FrD} {rs : List RowD} {s : SolD} (h : (rowsB gs.length rs && whB gs) = true) : checkN gs rs s = if provenB gs rs s = true then (0 : Int) else 13 := by
  unfold checkN; rw [h]; simp
theorem sameF_vld {n : Bool} {a b : List Nat} {q : Rat} {w : World} {K : Nat} {d : FrD} (h : QIs n a b q) (hd : d.few w K) : sameF n a b d.neg d.la d.lb = (d.vld && decide (q = d.q)) := by
  rcases hv : d.vld with _ | _
  · rw [Bool.false_and]
    rw [Bool.eq_false_iff]
    intro he
    unfold sameF at he
    simp only [Bool.and_eq_true, beq_iff_eq, decide_eq_true_eq] at he
    obtain ⟨rfl, rfl, rfl⟩ := he
    have := qIs_vldF h
    unfold FrD.vld at hv
    rw [this] at hv
    cases hv
  · rw [Bool.true_and]
    exact same_q h (vldF_qIs hd.1.dig hd.2.1.dig hv)
end Go.Proofs.Ytlocaleiloiaoaa
/- Solutions that are handed in; small programs. -/
namespace Go.Proofs.Ytlocaleiloiaoaa
set_option linter.unusedVariables false
set_option linter.unusedSimpArgs false
open Go.RowKit Plain Go.ChangeShapes Go.WideShapes

/-- A slice of fractions that is handed in. -/
def FOk (w : World) (A : Option Addr) (c : Nat) (ds : List FrD) : Prop := Srow w 3 FrD.cells A c ds ∧ ∀ f ∈ ds, f.ok w
theorem FOk.below {w w' : World} {A : Option Addr} {c : Nat} {ds : List FrD} (h : FOk w A c ds) (hb : Below w.heap.size w w') : FOk w' A c ds := ⟨h.1.below hb, fun f hf => (h.2 f hf).below hb⟩
structure SolD.ok (w : World) (s : SolD) : Prop where
  st : -9223372036854775808 ≤ s.st ∧ s.st ≤ 9223372036854775807
  d : s.d.ok w
  x : FOk w s.xa s.xc s.xs
  y : FOk w s.ya s.yc s.ys
  z : FOk w s.za s.zc s.zs
theorem SolD.ok.below {w w' : World} {s : SolD} (h : s.ok w) (hb : Below w.heap.size w w') : s.ok w' := ⟨h.st, h.d.below hb, h.x.below hb, h.y.below hb, h.z.below hb⟩
section
variable {H : Type} {enc : TypeId × Value → H} {w : World} {fuel : Nat} {cs : List Value} {x : DataW H × List MemPlace}
theorem cellsSol : Try.prog.cellsOf 31 = 7 := by kernel_rfl
theorem cellsIntS : Try.prog.cellsOf 3 = 1 := by kernel_rfl
theorem list7 {α : Type} {l : List α} (h : l.length = 7) : ∃ a b c d e f g, l = [a, b, c, d, e, f, g] := by
  match l, h with
  | [a, b, c, d, e, f, g], _ => exact ⟨a, b, c, d, e, f, g, rfl⟩
theorem i64_bdS {n : Int} (h : (Lit.int .i64 n).wf = true) : -9223372036854775808 ≤ n ∧ n ≤ 9223372036854775807 := by
  simp [Lit.wf, IntKind.min, IntKind.max, IntKind.signed, IntKind.bits] at h
  omega
theorem trod_five {t : TypeId} {f0 f1 f2 f3 f4 : Field} (ht : Try.prog.underlying t = some (.struct #[f0, f1, f2, f3, f4])) (h : DataW.trod enc Try.prog w 0 (fun _ => true) true fuel t cs = some x) :
    ∃ y0 y1 y2 y3 y4 n, cs.length = Try.prog.cellsOf t ∧ DataW.trod enc Try.prog w 0 (fun _ => true) true n f0.type ((cs.drop f0.offset).take (Try.prog.cellsOf f0.type)) = some y0 ∧
      DataW.trod enc Try.prog w 0 (fun _ => true) true n f1.type ((cs.drop f1.offset).take (Try.prog.cellsOf f1.type)) = some y1 ∧ DataW.trod enc Try.prog w 0 (fun _ => true) true n f2.type ((cs.drop f2.offset).take (Try.prog.cellsOf f2.type)) = some y2 ∧
      DataW.trod enc Try.prog w 0 (fun _ => true) true n f3.type ((cs.drop f3.offset).take (Try.prog.cellsOf f3.type)) = some y3 ∧ DataW.trod enc Try.prog w 0 (fun _ => true) true n f4.type ((cs.drop f4.offset).take (Try.prog.cellsOf f4.type)) = some y4 := by
  obtain ⟨xs, n, _, _, hl, hlen, hf⟩ := DataW.trod_struct ht h
  match xs, hlen with
  | [y0, y1, y2, y3, y4], _ => exact ⟨y0, y1, y2, y3, y4, n, hl, by simpa using hf 0 f0 rfl, by simpa using hf 1 f1 rfl, by simpa using hf 2 f2 rfl, by simpa using hf 3 f3 rfl, by simpa using hf 4 f4 rfl⟩
theorem trod_sol (h : DataW.trod enc Try.prog w 0 (fun _ => true) true fuel 31 cs = some x) : ∃ s : SolD, cs = s.cs.toList ∧ s.ok w := by
  obtain ⟨y0, y1, y2, y3, y4, n, hl, h0, h1, h2, h3, h4⟩ := trod_five Try.underlying31 h
  rw [cellsSol] at hl
  obtain ⟨c0, c1, c2, c3, c4, c5, c6, rfl⟩ := list7 hl
  simp only [cellsIntS, cellsFrac, cellsFracs] at h0 h1 h2 h3 h4
  obtain ⟨a, ha, _, wa⟩ := DataW.trod_int Try.underlying3 h0
  obtain ⟨d, hd, od⟩ := trod_frac h1
  obtain ⟨A, c, ds, hA, sA, oA⟩ := trod_fracs h2
  obtain ⟨B, b, es, hB, sB, oB⟩ := trod_fracs h3
  obtain ⟨C, e, fs, hC, sC, oC⟩ := trod_fracs h4
  simp [FrD.cells] at ha hd hA hB hC
  obtain ⟨rfl, rfl, rfl⟩ := hd
  subst ha hA hB hC
  exact ⟨⟨a, d, A, c, ds, B, b, es, C, e, fs⟩, rfl, i64_bdS wa, od, ⟨sA, oA⟩, ⟨sB, oB⟩, ⟨sC, oC⟩⟩
theorem open_sol {b0 : Nat} {v : Value} {d : DataW H} {p : List MemPlace} (hv : Value.okWide Try.prog w .any b0 31 v) (h : DataW.Trod enc Try.prog w 0 (fun _ => true) true 31 v d p) : ∃ s : SolD, v = s.v ∧ s.ok w := by
  obtain ⟨vs, rfl, hsz⟩ := okWide_struct Try.underlying31 hv
  obtain ⟨fuel, hf⟩ := h
  obtain ⟨f, hc, ho⟩ := trod_sol hf
  refine ⟨f, ?_, ho⟩
  have e : vs = f.cs := by
    apply Array.ext'
    simpa [Value.cells] using hc
  rw [e]
end
theorem FOk.ld {w : World} {A : Option Addr} {c : Nat} {ds : List FrD} (h : FOk w A c ds) (hs : shortB ds = true) : LD w 4 A c ds ∧ ds.length ≤ 12 := shortB_ld h.1 h.2 hs
theorem frS_few {w : World} {d : FrD} (h : d.ok w) (hs : frS d = true) : d.few w 4 := by
  unfold frS at hs
  simp only [Bool.and_eq_true, decide_eq_true_eq] at hs
  exact ⟨h.1.nv (by omega), h.2.nv (by omega), hs.1, hs.2⟩
theorem one_short {d : FrD} (h : shortB [d] = true) : frS d = true := by
  unfold shortB at h
  simpa using h
/-- A small program. -/
theorem few_ld {w : World} {p : PrD} (h : p.ok w) (hf : fewB p.gs p.rs = true) : LD w 4 p.ga p.gc p.gs ∧ RL w 4 p.ra p.rc p.rs ∧ p.gs.length ≤ 8 ∧ p.rs.length ≤ 8 := by
  unfold fewB at hf
  simp only [Bool.and_eq_true, decide_eq_true_eq, List.all_eq_true] at hf
  obtain ⟨h1, h2, h3, h4⟩ := hf
  refine ⟨(shortB_ld h.1 h.2.1 h3).1, ⟨h.2.2.1, fun r hr => ?_⟩, h1, h2⟩
  have h5 := h4 r hr
  unfold rowS at h5
  simp only [Bool.and_eq_true] at h5
  obtain ⟨h6, h7, h8⟩ := h.2.2.2 r hr
  exact ⟨(shortB_ld h6 h7 h5.1).1, frS_few h8 h5.2⟩
end Go.Proofs.Ytlocaleiloiaoaa
