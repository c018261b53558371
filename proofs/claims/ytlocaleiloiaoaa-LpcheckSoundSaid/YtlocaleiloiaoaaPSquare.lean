/- Lists of fractions of the call's own: their digits are known. -/
import Derived.Test.YtlocaleiloiaoaaApF
import Derived.Test.YtlocaleiloiaoaaLD
import Derived.Test.YtlocaleiloiaoaaGNew
import Derived.Test.YtlocaleiloiaoaaPNonneg
import Derived.Test.YtlocaleiloiaoaaPLp
import Derived.Test.YtlocaleiloiaoaaPOpenS
namespace Go.Proofs.Ytlocaleiloiaoaa
set_option linter.unusedVariables false
set_option linter.unusedSimpArgs false
open Go.RowKit Plain

/-- Few digits, valid. -/
def AllQ (w : World) (K : Nat) (os : List FrD) : Prop := ∀ d ∈ os, d.few w K ∧ d.vld = true
theorem AllQ.below {w w' : World} {K : Nat} {os : List FrD} (h : AllQ w K os) (hb : Below w.heap.size w w') : AllQ w' K os := fun d hd => ⟨(h d hd).1.below hb, (h d hd).2⟩
theorem FrD.few.row {w w' : World} {base K : Nat} {d : FrD} {v : Value} {ds : List FrD} (h : d.few w K) (hown : OwnQ w base v ds) (hg : w.grownBy w' v.ownBlock) : d.few w' K := ⟨h.1.row hown hg, h.2.1.row hown hg, h.2.2.1, h.2.2.2⟩
theorem AllQ.snoc {w4 w6 : World} {K base : Nat} {v : Value} {os ds : List FrD} {o : Obj} {d : FrD} (h1 : AllQ w4 K os) (h2 : d.few w4 K ∧ d.vld = true) (hown : OwnQ (w4.alloc o) base v ds) (hg : (w4.alloc o).grownBy w6 v.ownBlock) : AllQ w6 K (os ++ [d]) := fun x hx => by
  have hb : Below w4.heap.size w4 (w4.alloc o) := (Below.refl _ _).alloc (Nat.le_refl _) o
  rcases List.mem_append.1 hx with h | h
  · exact ⟨((h1 x h).1.below hb).row hown hg, (h1 x h).2⟩
  · simp at h; subst h
    exact ⟨(h2.1.below hb).row hown hg, h2.2⟩
theorem OwnQ.ld {w : World} {base K : Nat} {v : Value} {ds : List FrD} (h : OwnQ w base v ds) (ha : AllQ w K ds) : ∃ A c, v = .slice A ds.length c ∧ LD w K A c ds ∧ whB ds = true := by
  obtain ⟨A, c, e, hf⟩ := h.fl fun d hd => ((ha d hd).1.fv (ha d hd).2).1
  exact ⟨A, c, e, ⟨hf.row, fun d hd => (ha d hd).1⟩, by unfold whB; rw [List.all_eq_true]; exact fun d hd => (ha d hd).2⟩
/-- A fraction's value with its digits. -/
theorem few_of {w : World} {K : Nat} {n : Bool} {A B : Option Addr} {a b : Nat} {la lb : List Nat} {q : Rat} (ha : Nv w A a la) (hb : Nv w B b lb) (hq : QIs n la lb q) (hf : Fits K q) :
    FrD.few w K ⟨n, A, a, la, B, b, lb⟩ ∧ FrD.vld ⟨n, A, a, la, B, b, lb⟩ = true ∧ FrD.q ⟨n, A, a, la, B, b, lb⟩ = q :=
  ⟨⟨ha, hb, (QIs.fits hq hf).1, (QIs.fits hq hf).2⟩, qIs_vldF hq, hq.mk.symm⟩
theorem pw_two : pw 2 = 18446744073709551616 := by decide
theorem fits_int {n : Int} (h1 : -9223372036854775808 ≤ n) (h2 : n ≤ 9223372036854775807) : Fits 2 (n : Rat) := by
  refine ⟨?_, ?_⟩
  · rw [pw_two, Rat.num_intCast]; omega
  · rw [pw_two, Rat.den_intCast]; omega
theorem fits_third {n : Int} (h1 : -9223372036854775808 ≤ n) (h2 : n ≤ 9223372036854775807) : Fits 4 ((n : Rat) / ((3 : Int) : Rat)) := by
  have e : (n : Rat) / ((3 : Int) : Rat) = mkRat n 3 := by rw [Rat.mkRat_eq_div]; rfl
  rw [e]
  have h4 : pw 2 ≤ pw 4 := pw_mono (by omega)
  rw [pw_two] at h4
  exact fits_mk (by omega) (by omega)
/-- A list of integers. -/
def i64s (zs : List Int) : List Value := zs.map (Value.int .i64)
def IL (w : World) (A : Option Addr) (zs : List Int) : Prop := Sl w A (i64s zs)
theorem i64s_get {l : List Int} {k : Nat} (h : k < l.length) : (i64s l)[k]? = some (.int .i64 (l.getD k 0)) := by simp [i64s, List.getElem?_eq_getElem h]
theorem IL.below {w w' : World} {A : Option Addr} {l : List Int} (h : IL w A l) (hb : Below w.heap.size w w') : IL w' A l := Sl.below h hb
theorem IL.at {w : World} {A : Option Addr} {l : List Int} (h : IL w A l) {k : Nat} (hk : k < l.length) : ∃ a, A = some a ∧ a.block < w.heap.size ∧ w.cell? (a.add k) = some (.int .i64 (l.getD k 0)) := by
  have hl : 0 < (i64s l).length := by simp [i64s]; omega
  obtain ⟨a, e, h1, h2⟩ := h hl
  have hk2 : k < (i64s l).length := by simp [i64s]; omega
  refine ⟨a, e, h1, ?_⟩
  rw [h2 k hk2, ← i64s_get hk, List.getElem?_eq_getElem hk2]
theorem Blk.il {w : World} {g : Nat} {t : TypeId} {zs : List Int} (h : Blk w g t (i64s zs).toArray) : IL w (some ⟨g, 0, none⟩) zs := fun hx =>
  ⟨_, rfl, h.lt, fun j hj => by rw [add_zero_, h.cell j]; simp [List.getElem?_eq_getElem hj]⟩

theorem fits_int4 {n : Int} (h1 : -9223372036854775808 ≤ n) (h2 : n ≤ 9223372036854775807) : Fits 4 (n : Rat) := (fits_int h1 h2).mono (by omega)
def RetL (K : Nat) (qs : List Rat) (W : World) (e : Ending) (w' : World) : Prop :=
  ∃ A c ds, e = .returned (.slice A ds.length c) ∧ LD w' K A c ds ∧ whB ds = true ∧ Hid (ds.map FrD.q = qs) ∧ Below W.heap.size W w'
/-- The round of a loop that collects fractions. -/
def ColInv (K : Nat) (qs : List Rat) (w : World) (base : Nat) (v i : Value) (wr : World) : Prop :=
  ∃ (u : Value) (k : Nat) (os : List FrD), u = v ∧ k ≤ qs.length ∧ i = .int .i64 (k : Int) ∧ OwnQ wr base u os ∧ Hid (AllQ wr K os) ∧ Hid (os.length = k) ∧ Hid (os.map FrD.q = qs.take k) ∧ base ≤ wr.heap.size ∧ Below w.heap.size w wr
theorem col_snoc {os : List FrD} {qs : List Rat} {k : Nat} {d : FrD} (h : os.map FrD.q = qs.take k) (hk : qs[k]? = some d.q) : (os ++ [d]).map FrD.q = qs.take (k + 1) := by
  rw [List.map_append, h, List.take_add_one, hk]; rfl
theorem ints_get {zs : List Int} {f : Int → Rat} {k : Nat} (hk : k < zs.length) : (zs.map f)[k]? = some (f (zs.getD k 0)) := by
  rw [List.getElem?_map, List.getElem?_eq_getElem hk, List.getD_eq_getElem?_getD, List.getElem?_eq_getElem hk]; rfl
end Go.Proofs.Ytlocaleiloiaoaa
/- The sums of the checker as sums over numbers. -/
namespace Go.Proofs.Ytlocaleiloiaoaa
set_option linter.unusedVariables false
set_option linter.unusedSimpArgs false
open Go.RowKit Plain

theorem sumR_sm (l : List Rat) : sumR l = sm l.length (fun k => l.getD k 0) := by
  have key : ∀ n, n ≤ l.length → sumR (l.take n) = sm n (fun k => l.getD k 0) := by
    intro n
    induction n with
    | zero => exact fun _ => rfl
    | succ n ih =>
      intro hn
      have h : l[n]? = some l[n] := List.getElem?_eq_getElem (by omega)
      rw [sumR_takeL h, ih (by omega)]
      show _ = sm n _ + l.getD n 0
      rw [List.getD_eq_getElem?_getD, h]
      rfl
  have := key l.length (Nat.le_refl _)
  rw [List.take_length] at this
  exact this
/-- The k-th number of a list of fractions. -/
def qAt (ds : List FrD) (k : Nat) : Rat := match ds[k]? with | some d => d.q | none => 0
theorem prods_sm {ds es : List FrD} {n : Nat} (h1 : ds.length = n) (h2 : es.length = n) : sumR (prods ds es) = sm n (fun k => qAt ds k * qAt es k) := by
  rw [sumR_sm, prods_len, show min ds.length es.length = n by omega]
  refine sm_congr fun k hk => ?_
  have e1 : ds[k]? = some ds[k] := List.getElem?_eq_getElem (by omega)
  have e2 : es[k]? = some es[k] := List.getElem?_eq_getElem (by omega)
  rw [List.getD_eq_getElem?_getD, prods_get e1 e2]
  simp [qAt, e1, e2]
end Go.Proofs.Ytlocaleiloiaoaa
/- What the checker answers, by the numbers alone. -/
namespace Go.Proofs.Ytlocaleiloiaoaa
set_option linter.unusedVariables false
set_option linter.unusedSimpArgs false
open Go.RowKit Plain

/-- A linear program of numbers: the goal, the rows, the bounds. -/
structure LP where
  g : List Rat
  a : List (List Rat)
  b : List Rat
def posQ (x : List Rat) (n : Nat) : Bool := decide (x.length = n) && x.all fun q => !decide (cmpR q 0 < 0)
def dotQ (a x : List Rat) : Rat := sumR (List.zipWith (· * ·) a x)
def colQ (p : LP) (y : List Rat) (k : Nat) : Rat := sumR (List.zipWith (fun r y => y * r.getD k 0) p.a y)
def bndQ (p : LP) (y : List Rat) : Rat := sumR (List.zipWith (fun b y => y * b) p.b y)
def feaQ (p : LP) (x : List Rat) : Bool := posQ x p.g.length && (List.zipWith (fun r b => !decide (0 < cmpR (dotQ r x) b)) p.a p.b).all id
def dualQ (p : LP) (y : List Rat) : Bool := posQ y p.a.length && allN p.g.length fun k => !decide (cmpR (colQ p y k) (p.g.getD k 0) < 0)
def emptyQ (p : LP) (y : List Rat) : Bool := posQ y p.a.length && (allN p.g.length (fun k => !decide (cmpR (colQ p y k) 0 < 0)) && decide (cmpR (bndQ p y) 0 < 0))
def endQ (p : LP) (d : List Rat) : Bool := posQ d p.g.length && (p.a.all (fun r => !decide (0 < cmpR (dotQ r d) 0)) && decide (0 < cmpR (dotQ p.g d) 0))
def RowD.qs (r : RowD) : List Rat := r.ds.map FrD.q
/-- The program of numbers that lies in memory. -/
def lpOf (gs : List FrD) (rs : List RowD) : LP := ⟨gs.map FrD.q, rs.map RowD.qs, rs.map fun r => r.b.q⟩
theorem prods_Q (ds es : List FrD) : prods ds es = List.zipWith (· * ·) (ds.map FrD.q) (es.map FrD.q) := by
  unfold prods; rw [List.zipWith_map]
theorem dot_Q (ds es : List FrD) : sumR (prods ds es) = dotQ (ds.map FrD.q) (es.map FrD.q) := by unfold dotQ; rw [prods_Q]
theorem getD_Q (ds : List FrD) (k : Nat) : (ds.map FrD.q).getD k 0 = match ds[k]? with | some d => d.q | none => 0 := by
  rw [List.getD_eq_getElem?_getD, List.getElem?_map]
  cases ds[k]? <;> rfl
theorem cols_Q (gs : List FrD) (rs : List RowD) (ys : List FrD) (k : Nat) : sumR (cols rs ys k) = colQ (lpOf gs rs) (ys.map FrD.q) k := by
  unfold cols colQ lpOf
  rw [List.zipWith_map]
  congr 1
  have e : (fun (r : RowD) (y : FrD) => y.q * r.cq k) = fun r y => y.q * (r.qs).getD k 0 := by
    funext r y
    unfold RowD.cq RowD.qs
    rw [getD_Q]
    cases r.ds[k]? <;> rfl
  rw [e]
theorem bnds_Q (gs : List FrD) (rs : List RowD) (ys : List FrD) : sumR (bnds rs ys) = bndQ (lpOf gs rs) (ys.map FrD.q) := by
  unfold bnds bndQ lpOf
  rw [List.zipWith_map]
theorem pos_Q {ds : List FrD} {n : Nat} (h : whB ds = true) : posB ds n = posQ (ds.map FrD.q) n := by
  unfold posB posQ nnB
  rw [h, List.length_map, List.all_map]
  rfl
theorem all_zip {α β γ : Type} {f : α → β → Bool} {l : List γ} {a : γ → α} {b : γ → β} : (List.zipWith f (l.map a) (l.map b)).all id = l.all fun x => f (a x) (b x) := by
  induction l with
  | nil => rfl
  | cons x l ih => simp [ih]
theorem fea_Q {gs xs : List FrD} {rs : List RowD} (h : (rowsB gs.length rs && whB gs) = true) (hx : whB xs = true) : feaB gs rs xs = feaQ (lpOf gs rs) (xs.map FrD.q) := by
  unfold feaB feaQ lpOf
  rw [h, pos_Q hx, Bool.true_and, List.length_map, all_zip]
  congr 1
  unfold rowOk RowD.qs
  simp only [dot_Q]
theorem dual_Q {gs ys : List FrD} {rs : List RowD} (h : (rowsB gs.length rs && whB gs) = true) (hy : whB ys = true) : dualB gs rs ys = dualQ (lpOf gs rs) (ys.map FrD.q) := by
  unfold dualB dualQ
  rw [h, pos_Q hy, Bool.true_and]
  have e : colOk gs rs ys = fun k => !decide (cmpR (colQ (lpOf gs rs) (ys.map FrD.q) k) ((lpOf gs rs).g.getD k 0) < 0) := by
    funext k
    unfold colOk gq
    rw [cols_Q gs]
    show _ = !decide (cmpR _ ((gs.map FrD.q).getD k 0) < 0)
    rw [getD_Q]
    cases gs[k]? <;> rfl
  rw [e]
  simp only [lpOf, List.length_map]
theorem empty_Q {gs ys : List FrD} {rs : List RowD} (hy : whB ys = true) : emptyB gs rs ys = emptyQ (lpOf gs rs) (ys.map FrD.q) := by
  unfold emptyB emptyQ
  rw [pos_Q hy]
  have e : colNN rs ys = fun k => !decide (cmpR (colQ (lpOf gs rs) (ys.map FrD.q) k) 0 < 0) := by
    funext k
    unfold colNN
    rw [cols_Q gs]
  rw [e, bnds_Q gs]
  simp only [lpOf, List.length_map]
theorem end_Q {gs ds : List FrD} {rs : List RowD} (hd : whB ds = true) : endB gs rs ds = endQ (lpOf gs rs) (ds.map FrD.q) := by
  unfold endB endQ
  rw [pos_Q hd]
  unfold rayOk lpOf RowD.qs
  simp only [dot_Q, List.length_map, List.all_map]
  rfl
theorem opt_Q {gs xs ys : List FrD} {rs : List RowD} {d : FrD} (h : (rowsB gs.length rs && whB gs) = true) (hx : whB xs = true) (hy : whB ys = true) (hd : d.vld = true) :
    optB gs rs d xs ys = (feaQ (lpOf gs rs) (xs.map FrD.q) && (dualQ (lpOf gs rs) (ys.map FrD.q) && (decide (dotQ (gs.map FrD.q) (xs.map FrD.q) = bndQ (lpOf gs rs) (ys.map FrD.q)) && decide (d.q = bndQ (lpOf gs rs) (ys.map FrD.q))))) := by
  unfold optB
  rw [fea_Q h hx, dual_Q h hy, hd, dot_Q, bnds_Q gs, Bool.true_and]
/-- A block of structs is a slice of them. -/
theorem flatC {α : Type} {C : Nat} {cells : α → List Value} (hc : ∀ d, (cells d).length = C) : ∀ (ds : List α) (j i : Nat) (hj : j < ds.length), i < C → (ds.flatMap cells)[j * C + i]? = (cells ds[j])[i]?
  | d :: ds, 0, i, _, hi => by
    rw [List.flatMap_cons, List.getElem?_append_left (by rw [hc]; omega)]
    simp
  | d :: ds, j + 1, i, hj, hi => by
    rw [List.flatMap_cons, List.getElem?_append_right (by rw [hc, Nat.add_mul]; omega)]
    have e : (j + 1) * C + i - (cells d).length = j * C + i := by rw [hc, Nat.add_mul]; omega
    rw [e, flatC hc ds j i (by simpa using hj) hi]
    rfl
theorem Blk.srow {α : Type} {C : Nat} {cells : α → List Value} {w : World} {g : Nat} {t : TypeId} {ds : List α} (hc : ∀ d, (cells d).length = C) (hm : ds.length ≤ 9223372036854775807) (h : Blk w g t (ds.flatMap cells).toArray) : Srow w C cells (some ⟨g, 0, none⟩) ds.length ds :=
  ⟨Nat.le_refl _, hm, fun j hj => ⟨_, rfl, h.lt, fun i u hu => by
    have hi : i < C := by
      have := (List.getElem?_eq_some_iff.1 hu).1
      rw [hc] at this; exact this
    rw [add_zero_, h.cell (j * C + i)]
    rw [List.getElem?_toArray, flatC hc ds j i hj hi]
    exact hu⟩⟩
/-- No truth value among the cells: so no fraction, and no row, lies there. -/
def NoBool (cs : Array Value) : Prop := ∀ (i : Nat) (b : Bool), cs[i]? ≠ some (.bool b)
theorem noBool2 (A : Option Addr) (n c : Nat) (B : Option Addr) (m d : Nat) : NoBool #[.slice A n c, .slice B m d] := fun i x => by
  match i with
  | 0 => simp
  | 1 => simp
  | i + 2 => simp
theorem noDig2 (A : Option Addr) (n c : Nat) (B : Option Addr) (m d : Nat) : NoDig #[.slice A n c, .slice B m d] := fun i x => by
  match i with
  | 0 => simp
  | 1 => simp
  | i + 2 => simp
theorem Srow.only_blk {α : Type} {C : Nat} {cells : α → List Value} {w w' : World} {g c : Nat} {t : TypeId} {cs : Array Value} {A : Option Addr} {ds : List α} (hb : ∀ d, ∃ (i : Nat) (b : Bool), (cells d)[i]? = some (.bool b))
    (h : Srow w C cells A c ds) (hB : Blk w g t cs) (hs : NoBool cs) (ho : Only w w' g) : Srow w' C cells A c ds :=
  ⟨h.1, h.2.1, fun j hj => by
    obtain ⟨a, e, h1, h2⟩ := h.2.2 j hj
    have hne : a.block ≠ g := fun hg => by
      obtain ⟨i, b, hib⟩ := hb ds[j]
      have h3 := h2 i _ hib
      unfold Blk at hB
      unfold World.cell? at h3
      rw [block_add, hg, hB] at h3
      simp only at h3
      split at h3
      · cases h3
      · exact hs _ _ h3
    have hk := ho.block a.block h1 (by simpa using hne)
    exact ⟨a, e, Nat.lt_of_lt_of_le h1 ho.size, fun i u hu => by
      rw [World.cell?_of_block (w := w) (by rw [block_add]; exact hk)]
      exact h2 i u hu⟩⟩
theorem FrD.few.only_blk {w w' : World} {K g : Nat} {t : TypeId} {cs : Array Value} {d : FrD} (h : d.few w K) (hB : Blk w g t cs) (hd : NoDig cs) (ho : Only w w' g) : d.few w' K :=
  ⟨h.1.only_blk hB hd ho, h.2.1.only_blk hB hd ho, h.2.2.1, h.2.2.2⟩
theorem LD.only_blk {w w' : World} {K g c : Nat} {t : TypeId} {cs : Array Value} {A : Option Addr} {ds : List FrD} (h : LD w K A c ds) (hB : Blk w g t cs) (hs : NoBool cs) (hd : NoDig cs) (ho : Only w w' g) : LD w' K A c ds :=
  ⟨h.row.only_blk (fun d => ⟨0, d.neg, rfl⟩) hB hs ho, fun d hx => (h.few d hx).only_blk hB hd ho⟩
theorem RL.only_blk {w w' : World} {K g c : Nat} {t : TypeId} {cs : Array Value} {A : Option Addr} {rs : List RowD} (h : RL w K A c rs) (hB : Blk w g t cs) (hs : NoBool cs) (hd : NoDig cs) (ho : Only w w' g) : RL w' K A c rs :=
  ⟨h.row.only_blk (fun d => ⟨1, d.b.neg, rfl⟩) hB hs ho, fun d hx => ⟨(h.few d hx).1.only_blk hB hs hd ho, (h.few d hx).2.only_blk hB hd ho⟩⟩
theorem rowB_of {r : RowD} {n : Nat} (h1 : r.ds.length = n) (h2 : whB r.ds = true) (h3 : r.b.vld = true) : rowB n r = true := by
  unfold rowB; rw [h1, h2, h3]; simp
/-- A program that lies in memory, with its numbers. -/
structure IsP (w : World) (ga ra : Option Addr) (gc rc : Nat) (gs : List FrD) (rs : List RowD) (p : LP) : Prop where
  g : LD w 4 ga gc gs
  r : RL w 4 ra rc rs
  f : Hid ((rowsB gs.length rs && whB gs) = true)
  q : Hid (lpOf gs rs = p)
theorem IsP.below {w w' : World} {ga ra : Option Addr} {gc rc : Nat} {gs : List FrD} {rs : List RowD} {p : LP} (h : IsP w ga ra gc rc gs rs p) (hb : Below w.heap.size w w') : IsP w' ga ra gc rc gs rs p := ⟨h.g.below hb, h.r.below hb, h.f, h.q⟩
def RetP (p : LP) (W : World) (e : Ending) (w' : World) : Prop :=
  ∃ ga gc gs ra rc rs, e = .returned (.agg #[.slice ga gs.length gc, .slice ra rs.length rc]) ∧ IsP w' ga ra gc rc gs rs p ∧ gs.length ≤ 10 ∧ rs.length ≤ 10 ∧ Below W.heap.size W w'
end Go.Proofs.Ytlocaleiloiaoaa
/- L19 whole, thirds: what the calls do. -/
namespace Go.Proofs.Ytlocaleiloiaoaa
set_option linter.unusedVariables false
set_option linter.unusedSimpArgs false
open Go.RowKit Plain
attribute [local go_sem ↓] Go.wp_at_zero Go.wp_at_succ

set_option maxRecDepth 100000 in
set_option maxHeartbeats 4000000 in
theorem whole19_any {A : Option Addr} {c : Nat} {zs : List Int} {w : World} (h : IL w A zs) (hb : ∀ z ∈ zs, -9223372036854775808 ≤ z ∧ z ≤ 9223372036854775807) (hl : zs.length ≤ 1000000) (hc : c ≤ 9223372036854775807) (hlc : zs.length ≤ c) :
    Calls Try.prog 32 #[.slice A zs.length c] w (RetL 4 (zs.map (fun z : Int => (z : Rat))) w) := by
  obtain ⟨qs, hqs⟩ : ∃ qs, Hid (zs.map (fun z : Int => (z : Rat)) = qs) := ⟨_, rfl⟩
  have hql := Lib.hid (show qs.length = zs.length by rw [← hqs.out, List.length_map])
  have hb' := Lib.hid hb
  clear hb
  rw [hqs.out]
  go_enter Try.func32, Try.ntmps32
  go_wp2
  go_loopw [3, 4] (fun v i  wr => ColInv 4 qs w w.heap.size v i wr) (fun _ i  _ => zs.length - (intOf i).toNat)
  case atStart => exact ⟨_, 0, [], rfl, by omega, rfl, OwnQ.nil _ _, fun d hd => by simp at hd, rfl, rfl, Nat.le_refl _, Below.refl _ _⟩
  case round =>
    obtain ⟨v, k, os, rfl, hk, rfl, hown, hall, hol, hmap, hbr, hbel⟩ := hrel
    rw [hql.out] at hk
    by_cases hkl : k < zs.length
    · obtain ⟨a, rfl, hab, hc0⟩ := (h.below hbel).at hkl
      obtain ⟨z, hz⟩ : ∃ z, Hid (zs.getD k 0 = z) := ⟨_, rfl⟩
      have hzb : -9223372036854775808 ≤ z ∧ z ≤ 9223372036854775807 := by
        rw [← hz.out]; exact hb'.out _ (by rw [List.getD_eq_getElem?_getD, List.getElem?_eq_getElem hkl]; exact List.getElem_mem hkl)
      rw [hz.out] at hc0
      have hqk := Lib.hid (show qs[k]? = some ((fun z : Int => (z : Rat)) z) by rw [← hqs.out, ← hz.out]; exact ints_get hkl)
      have hki : (k : Int) < (zs.length : Int) := by omega
      have hos : os.length + 1 ≤ 1000000000000 := by rw [hol.out]; omega
      go_wp2_with fail
      refine (refFromInt_any z _ hzb.1 hzb.2).mono ?_
      rintro e w4 ⟨v1, rfl, ⟨n1, A1, a1, l1, B1, c1, m1, rfl, na, nb, iq⟩, b1⟩
      have hfit := Lib.hid (fits_int4 (n := z) hzb.1 hzb.2)
      obtain ⟨hf1, hf2, hf3⟩ := few_of na nb iq hfit.out
      have hf3' := Lib.hid hf3
      have hf2' := Lib.hid hf2
      clear iq hf3 hf2
      have b2 := hbel.trans (b1.mono hbel.size)
      have hown1 := hown.below b1
      have hall1 := Lib.hid (hall.out.below b1)

      have hsz : w.heap.size ≤ w4.heap.size := b2.size
      go_wp2_with (at_builtin; go_loud (refine wpList_appQ rfl rfl _ _ rfl w.heap.size v os rfl (hown1.below ((Below.refl _ _).alloc (Nat.le_refl _) _)) ⟨w4.heap.size, 0, none⟩ 1 ⟨n1, A1, a1, l1, B1, c1, m1⟩ rfl (World.news_of_block (heap_alloc_new w4 _)) hos (by rw [World.size_alloc]; omega) ?_; intro v6 w6 ho6 hg6))
      have o6 := (b2.alloc b2.size (.cells #[.bool n1, .slice A1 l1.length a1, .slice B1 m1.length c1] 29)).grown hg6 (Nat.le_trans b2.size (by simp)) (fun g hg => hown1.block hg)
      have hall6 := Lib.hid (AllQ.snoc (d := ⟨n1, A1, a1, l1, B1, c1, m1⟩) hall1.out ⟨hf1, hf2'.out⟩ (hown1.below ((Below.refl _ _).alloc (Nat.le_refl _) _)) hg6)
      have hmap6 := Lib.hid (col_snoc (d := ⟨n1, A1, a1, l1, B1, c1, m1⟩) hmap.out (by rw [hqk.out]; exact congrArg some hf3'.out.symm))
      have hbr6 : w.heap.size ≤ w6.heap.size := o6.size
      go_wp2
      go_roundw
      case rel => exact ⟨_, k + 1, _, rfl, by rw [hql.out]; omega, by go_num, ho6, hall6, by show _ = _; rw [List.length_append, hol.out]; rfl, hmap6, hbr6, o6⟩
      case measure => simp [intOf]; omega
    · obtain rfl : k = zs.length := by omega
      have hlt' : decide ((zs.length : Int) < (zs.length : Int)) = false := decide_eq_false (by omega)
      obtain ⟨B, cb, rfl, hld, hwh⟩ := hown.ld hall.out
      have hfin := Lib.hid (show os.map FrD.q = qs by rw [hmap.out, List.take_of_length_le (by rw [hql.out]; exact Nat.le_refl _)])
      have hwh' := Lib.hid hwh
      clear hwh
      go_wp2
      go_ret
      exact ⟨B, cb, os, rfl, hld, hwh'.out, hfin, hbel⟩

set_option maxRecDepth 100000 in
set_option maxHeartbeats 4000000 in
theorem thirds19_any {A : Option Addr} {c : Nat} {zs : List Int} {w : World} (h : IL w A zs) (hb : ∀ z ∈ zs, -9223372036854775808 ≤ z ∧ z ≤ 9223372036854775807) (hl : zs.length ≤ 1000000) (hc : c ≤ 9223372036854775807) (hlc : zs.length ≤ c) :
    Calls Try.prog 31 #[.slice A zs.length c] w (RetL 4 (zs.map (fun z : Int => (z : Rat) / ((3 : Int) : Rat))) w) := by
  obtain ⟨qs, hqs⟩ : ∃ qs, Hid (zs.map (fun z : Int => (z : Rat) / ((3 : Int) : Rat)) = qs) := ⟨_, rfl⟩
  have hql := Lib.hid (show qs.length = zs.length by rw [← hqs.out, List.length_map])
  have hb' := Lib.hid hb
  clear hb
  rw [hqs.out]
  go_enter Try.func31, Try.ntmps31
  go_wp2
  go_loopw [3, 4, 5, 6, 13] (fun v i x y u wr => ColInv 4 qs w w.heap.size v i wr) (fun _ i _ _ _ _ => zs.length - (intOf i).toNat)
  case atStart => exact ⟨_, 0, [], rfl, by omega, rfl, OwnQ.nil _ _, fun d hd => by simp at hd, rfl, rfl, Nat.le_refl _, Below.refl _ _⟩
  case round =>
    obtain ⟨v, k, os, rfl, hk, rfl, hown, hall, hol, hmap, hbr, hbel⟩ := hrel
    rw [hql.out] at hk
    by_cases hkl : k < zs.length
    · obtain ⟨a, rfl, hab, hc0⟩ := (h.below hbel).at hkl
      obtain ⟨z, hz⟩ : ∃ z, Hid (zs.getD k 0 = z) := ⟨_, rfl⟩
      have hzb : -9223372036854775808 ≤ z ∧ z ≤ 9223372036854775807 := by
        rw [← hz.out]; exact hb'.out _ (by rw [List.getD_eq_getElem?_getD, List.getElem?_eq_getElem hkl]; exact List.getElem_mem hkl)
      rw [hz.out] at hc0
      have hqk := Lib.hid (show qs[k]? = some ((fun z : Int => (z : Rat) / ((3 : Int) : Rat)) z) by rw [← hqs.out, ← hz.out]; exact ints_get hkl)
      have hki : (k : Int) < (zs.length : Int) := by omega
      have hos : os.length + 1 ≤ 1000000000000 := by rw [hol.out]; omega
      go_wp2_with fail
      refine (refNew_any z 3 _ hzb.1 hzb.2 (by omega) (by omega) (by omega)).mono ?_
      rintro e w4 ⟨v1, rfl, ⟨n1, A1, a1, l1, B1, c1, m1, rfl, na, nb, iq⟩, b1⟩
      have hfit := Lib.hid (fits_third (n := z) hzb.1 hzb.2)
      obtain ⟨hf1, hf2, hf3⟩ := few_of na nb iq hfit.out
      have hf3' := Lib.hid hf3
      have hf2' := Lib.hid hf2
      clear iq hf3 hf2
      have b2 := hbel.trans (b1.mono hbel.size)
      have hown1 := hown.below b1
      have hall1 := Lib.hid (hall.out.below b1)
      obtain ⟨w5, hw5, bw5, hlt5, hX5⟩ := boxed w4 #[.bool n1, .slice A1 l1.length a1, .slice B1 m1.length c1] 29
      have x0 := hX5.f0
      have x1 := hX5.f1
      have x2 := hX5.f2
      have hown5 := hown1.below bw5
      have hall5 := Lib.hid (hall1.out.below bw5)
      have b5 := b2.trans (bw5.mono b2.size)
      have hf5 := hf1.below bw5
      have hsz : w.heap.size ≤ w5.heap.size := b5.size
      go_wp2_with (at_builtin; go_loud (refine wpList_appQ rfl rfl _ _ rfl w.heap.size v os rfl (hown5.below ((Below.refl _ _).alloc (Nat.le_refl _) _)) ⟨w5.heap.size, 0, none⟩ 1 ⟨n1, A1, a1, l1, B1, c1, m1⟩ rfl (World.news_of_block (heap_alloc_new w5 _)) hos (by rw [World.size_alloc]; omega) ?_; intro v6 w6 ho6 hg6))
      have o6 := (b5.alloc b5.size (.cells #[.bool n1, .slice A1 l1.length a1, .slice B1 m1.length c1] 29)).grown hg6 (Nat.le_trans b5.size (by simp)) (fun g hg => hown5.block hg)
      have hall6 := Lib.hid (AllQ.snoc (d := ⟨n1, A1, a1, l1, B1, c1, m1⟩) hall5.out ⟨hf5, hf2'.out⟩ (hown5.below ((Below.refl _ _).alloc (Nat.le_refl _) _)) hg6)
      have hmap6 := Lib.hid (col_snoc (d := ⟨n1, A1, a1, l1, B1, c1, m1⟩) hmap.out (by rw [hqk.out]; exact congrArg some hf3'.out.symm))
      have hbr6 : w.heap.size ≤ w6.heap.size := o6.size
      go_wp2
      go_roundw
      case rel => exact ⟨_, k + 1, _, rfl, by rw [hql.out]; omega, by go_num, ho6, hall6, by show _ = _; rw [List.length_append, hol.out]; rfl, hmap6, hbr6, o6⟩
      case measure => simp [intOf]; omega
    · obtain rfl : k = zs.length := by omega
      have hlt' : decide ((zs.length : Int) < (zs.length : Int)) = false := decide_eq_false (by omega)
      obtain ⟨B, cb, rfl, hld, hwh⟩ := hown.ld hall.out
      have hfin := Lib.hid (show os.map FrD.q = qs by rw [hmap.out, List.take_of_length_le (by rw [hql.out]; exact Nat.le_refl _)])
      have hwh' := Lib.hid hwh
      clear hwh
      go_wp2
      go_ret
      exact ⟨B, cb, os, rfl, hld, hwh'.out, hfin, hbel⟩
end Go.Proofs.Ytlocaleiloiaoaa
/- L19 square: what the call does. -/
namespace Go.Proofs.Ytlocaleiloiaoaa
set_option linter.unusedVariables false
set_option linter.unusedSimpArgs false
open Go.RowKit Plain
attribute [local go_sem ↓] Go.wp_at_zero Go.wp_at_succ

theorem len_of {ds : List FrD} {qs : List Rat} (h : ds.map FrD.q = qs) : ds.length = qs.length := by rw [← h, List.length_map]
theorem i64_ok {zs : List Int} (h : (zs.all fun z => decide (-9223372036854775808 ≤ z) && decide (z ≤ 9223372036854775807)) = true) : ∀ z ∈ zs, -9223372036854775808 ≤ z ∧ z ≤ 9223372036854775807 := fun z hz => by
  rw [List.all_eq_true] at h
  have := h z hz
  simpa using this
theorem Blk.set2 {w : World} {g : Nat} {t : TypeId} {a b : Value} (h : Blk w g t #[a, b]) (x y : Value) : ∃ w', (w.setCell ⟨g, 0, none⟩ x).setCell ⟨g, 1, none⟩ y = w' ∧ Blk w' g t #[x, y] ∧ Only w w' g :=
  ⟨_, rfl, (h.set 0 x).set 1 y, ((Only.refl w g).set 0 x).set 1 y⟩
theorem rowCells_len (r : RowD) : r.cells.length = 4 := rfl
set_option maxRecDepth 100000 in
set_option maxHeartbeats 4000000 in
theorem square_any (w : World) : Calls Try.prog 30 #[] w (RetP ⟨[1, 1], [[1, 2], [2, 1]], [4, 4]⟩ w) := by
  obtain ⟨y0, hy0, by0, hlt0, hR⟩ := boxed w #[.slice none 0 0, .slice none 0 0] 25
  have bT := by0
  go_enter Try.func30, Try.ntmps30
  obtain ⟨y1, hy1, by1, ly1, By1⟩ := boxed y0 #[.int .i64 1, .int .i64 1] 2
  replace hR := hR.keep by1
  replace bT := bT.trans (by1.mono bT.size)
  have il := Blk.il (zs := [1, 1]) By1
  go_wp2_with fail
  refine (whole19_any (zs := [1, 1]) il (i64_ok (by decide)) (by decide) (by decide) (by decide)).mono ?_
  rintro e y2 ⟨Ag, cg, dg, rfl, Lg, Vg, Qg, by2⟩
  clear il By1
  replace Vg := Lib.hid Vg
  replace hR := hR.keep by2
  replace bT := bT.trans (by2.mono bT.size)
  obtain ⟨y3, hy3, by3, ly3, By3⟩ := boxed y2 #[.int .i64 1, .int .i64 2] 2
  replace hR := hR.keep by3
  replace Lg := Lg.below by3
  replace bT := bT.trans (by3.mono bT.size)
  have il := Blk.il (zs := [1, 2]) By3
  go_wp2_with fail
  refine (whole19_any (zs := [1, 2]) il (i64_ok (by decide)) (by decide) (by decide) (by decide)).mono ?_
  rintro e y4 ⟨Aa, ca, da, rfl, La, Va, Qa, by4⟩
  clear il By3
  replace Va := Lib.hid Va
  replace hR := hR.keep by4
  replace Lg := Lg.below by4
  replace bT := bT.trans (by4.mono bT.size)
  go_wp2_with fail
  refine (refFromInt_any 4 _ (by decide) (by decide)).mono ?_
  rintro e y5 ⟨vb, rfl, ⟨nb, Xb, xb, lb, Yb, zb, mb, rfl, na, nb, iq⟩, by5⟩
  replace hR := hR.keep by5
  replace Lg := Lg.below by5
  replace La := La.below by5
  replace bT := bT.trans (by5.mono bT.size)
  obtain ⟨Fb, Vb, Qb⟩ := few_of na nb iq (fits_int4 (n := 4) (by decide) (by decide))
  replace Vb := Lib.hid Vb
  replace Qb := Lib.hid Qb
  clear na nb iq
  obtain ⟨y6, hy6, by6, ly6, By6⟩ := boxed y5 #[.int .i64 2, .int .i64 1] 2
  replace hR := hR.keep by6
  replace Lg := Lg.below by6
  replace La := La.below by6
  replace Fb := Fb.below by6
  replace bT := bT.trans (by6.mono bT.size)
  have il := Blk.il (zs := [2, 1]) By6
  go_wp2_with fail
  refine (whole19_any (zs := [2, 1]) il (i64_ok (by decide)) (by decide) (by decide) (by decide)).mono ?_
  rintro e y7 ⟨Ac, cc, dc, rfl, Lc, Vc, Qc, by7⟩
  clear il By6
  replace Vc := Lib.hid Vc
  replace hR := hR.keep by7
  replace Lg := Lg.below by7
  replace La := La.below by7
  replace Fb := Fb.below by7
  replace bT := bT.trans (by7.mono bT.size)
  go_wp2_with fail
  refine (refFromInt_any 4 _ (by decide) (by decide)).mono ?_
  rintro e y8 ⟨vd, rfl, ⟨nd, Xd, xd, ld, Yd, zd, md, rfl, na, nb, iq⟩, by8⟩
  replace hR := hR.keep by8
  replace Lg := Lg.below by8
  replace La := La.below by8
  replace Fb := Fb.below by8
  replace Lc := Lc.below by8
  replace bT := bT.trans (by8.mono bT.size)
  obtain ⟨Fd, Vd, Qd⟩ := few_of na nb iq (fits_int4 (n := 4) (by decide) (by decide))
  replace Vd := Lib.hid Vd
  replace Qd := Lib.hid Qd
  clear na nb iq
  obtain ⟨r1, hr1⟩ : ∃ r : RowD, Hid (r = ⟨Aa, ca, da, ⟨nb, Xb, xb, lb, Yb, zb, mb⟩⟩) := ⟨_, rfl⟩
  obtain ⟨r2, hr2⟩ : ∃ r : RowD, Hid (r = ⟨Ac, cc, dc, ⟨nd, Xd, xd, ld, Yd, zd, md⟩⟩) := ⟨_, rfl⟩
  obtain ⟨y9, hy9, by9, ly9, By9⟩ := boxed y8 #[.slice Aa da.length ca, .bool nb, .slice Xb lb.length xb, .slice Yb mb.length zb, .slice Ac dc.length cc, .bool nd, .slice Xd ld.length xd, .slice Yd md.length zd] 51
  replace hR := hR.keep by9
  replace Lg := Lg.below by9
  replace La := La.below by9
  replace Fb := Fb.below by9
  replace Lc := Lc.below by9
  replace Fd := Fd.below by9
  replace bT := bT.trans (by9.mono bT.size)
  have q0 := hR.free 0
  have q1 := hR.free 1
  have p0 := hR.g0
  have p1 := hR.g1
  go_wp2
  obtain ⟨y10, hy10, hR10, o10⟩ := hR.set2 (.slice Ag dg.length cg) (.slice (some ⟨y8.heap.size, 0, none⟩) 2 2)
  rw [hy10]
  have e0 := hR10.g0
  have e1 := hR10.g1
  refine bodyPost_ret (v := .agg #[.slice Ag dg.length cg, .slice (some ⟨y8.heap.size, 0, none⟩) 2 2]) (by simp [results, Try.results30, go_sem, e0, e1]) rfl ?_
  have hrl : RL y9 4 (some ⟨y8.heap.size, 0, none⟩) 2 [r1, r2] := by
    refine ⟨Blk.srow (cells := RowD.cells) rowCells_len (by simp) (t := 51) ?_, ?_⟩
    · have h1 := hr1.out
      have h2 := hr2.out
      subst h1 h2
      exact By9
    · have h1 := hr1.out
      have h2 := hr2.out
      subst h1 h2
      intro r hr
      simp only [List.mem_cons, List.not_mem_nil, or_false] at hr
      rcases hr with rfl | rfl
      · exact ⟨La, Fb⟩
      · exact ⟨Lc, Fd⟩
  have lg := len_of Qg.out
  have la := len_of Qa.out
  have lc := len_of Qc.out
  simp at lg la lc
  refine ⟨Ag, cg, dg, some ⟨y8.heap.size, 0, none⟩, 2, [r1, r2], rfl, ⟨Lg.only_blk hR (noBool2 _ _ _ _ _ _) (noDig2 _ _ _ _ _ _) o10, hrl.only_blk hR (noBool2 _ _ _ _ _ _) (noDig2 _ _ _ _ _ _) o10, ?_, ?_⟩, by omega, by simp, o10.to_below bT (Nat.le_refl _) bT.size⟩
  · have h1 := hr1.out
    have h2 := hr2.out
    subst h1 h2
    show _ = true
    unfold rowsB
    simp only [List.all_cons, List.all_nil, Bool.and_true, Bool.and_eq_true]
    exact ⟨⟨rowB_of (by show da.length = dg.length; omega) Va.out Vb.out, rowB_of (by show dc.length = dg.length; omega) Vc.out Vd.out⟩, Vg.out⟩
  · have h1 := hr1.out
    have h2 := hr2.out
    subst h1 h2
    show _ = _
    unfold lpOf RowD.qs
    simp only [List.map_cons, List.map_nil, Qg.out, Qa.out, Qc.out, Qb.out, Qd.out]
    rfl
end Go.Proofs.Ytlocaleiloiaoaa
