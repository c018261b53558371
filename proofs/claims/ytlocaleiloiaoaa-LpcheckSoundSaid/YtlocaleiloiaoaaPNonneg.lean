/- Linear programs of few-digit fractions, and what the checker's functions answer. -/
import Derived.Test.YtlocaleiloiaoaaLD
import Derived.Test.YtlocaleiloiaoaaOpenP
import Derived.Test.YtlocaleiloiaoaaGDot
import Derived.Test.YtlocaleiloiaoaaFVal
import Derived.Test.YtlocaleiloiaoaaFSign
namespace Go.Proofs.Ytlocaleiloiaoaa
set_option linter.unusedVariables false
set_option linter.unusedSimpArgs false
open Go.RowKit Plain

def RowD.few (w : World) (K : Nat) (r : RowD) : Prop := LD w K r.a r.c r.ds ∧ r.b.few w K
theorem RowD.few.below {w w' : World} {K : Nat} {r : RowD} (h : r.few w K) (hb : Below w.heap.size w w') : r.few w' K := ⟨h.1.below hb, h.2.below hb⟩
/-- The rows, of few-digit fractions. -/
structure RL (w : World) (K : Nat) (A : Option Addr) (c : Nat) (rs : List RowD) : Prop where
  row : Srow w 4 RowD.cells A c rs
  few : ∀ r ∈ rs, r.few w K
theorem RL.below {w w' : World} {K : Nat} {A : Option Addr} {c : Nat} {rs : List RowD} (h : RL w K A c rs) (hb : Below w.heap.size w w') : RL w' K A c rs := ⟨h.row.below hb, fun r hr => (h.few r hr).below hb⟩
theorem RL.len {w : World} {K : Nat} {A : Option Addr} {c : Nat} {rs : List RowD} (h : RL w K A c rs) : rs.length ≤ c ∧ c ≤ 9223372036854775807 := ⟨h.row.1, h.row.2.1⟩
theorem RL.at {w : World} {K : Nat} {A : Option Addr} {c : Nat} {rs : List RowD} (h : RL w K A c rs) {k : Nat} (hk : k < rs.length) :
    ∃ a r, A = some a ∧ a.block < w.heap.size ∧ w.cell? (a.add (k * 4)) = some (.slice r.a r.ds.length r.c) ∧ w.cell? ⟨(a.add (k * 4)).block, (a.add (k * 4)).off + 1, none⟩ = some (.bool r.b.neg) ∧
      w.cell? ⟨(a.add (k * 4)).block, (a.add (k * 4)).off + 2, none⟩ = some (.slice r.b.a r.b.la.length r.b.ca) ∧ w.cell? ⟨(a.add (k * 4)).block, (a.add (k * 4)).off + 3, none⟩ = some (.slice r.b.b r.b.lb.length r.b.cb) ∧
      r.few w K ∧ Hid (rs[k]? = some r) := by
  obtain ⟨a, e, h1, h2⟩ := h.row.2.2 k hk
  have hc : ∀ i u, (rs[k]).cells[i]? = some u → w.cell? ((a.add (k * 4)).add i) = some u := fun i u hu => by
    rw [add_add]; exact h2 i u hu
  exact ⟨a, rs[k], e, h1, cell0 (hc 0 _ rfl), cellK (hc 1 _ rfl) (by decide), cellK (hc 2 _ rfl) (by decide), cellK (hc 3 _ rfl) (by decide), h.few _ (List.getElem_mem hk), List.getElem?_eq_getElem hk⟩

/-- A row of a well-formed program. -/
def rowB (n : Nat) (r : RowD) : Bool := decide (r.ds.length = n) && (whB r.ds && r.b.vld)
def rowsB (n : Nat) (rs : List RowD) : Bool := rs.all (rowB n)
def frmB (p : PrD) : Bool := rowsB p.gs.length p.rs && whB p.gs
def nnB (ds : List FrD) : Bool := ds.all fun d => !decide (cmpR d.q 0 < 0)
def posB (ds : List FrD) (n : Nat) : Bool := decide (ds.length = n) && (whB ds && nnB ds)
theorem all_take {α : Type} {f : α → Bool} {l : List α} {k : Nat} {x : α} (h : (l.take k).all f = true) (hk : l[k]? = some x) : (l.take (k + 1)).all f = f x := by
  rw [List.take_add_one, hk, List.all_append, h]; simp
theorem all_no {α : Type} {f : α → Bool} {l : List α} {k : Nat} {x : α} (hk : l[k]? = some x) (h : f x = false) : l.all f = false := by
  rw [List.all_eq_false]; exact ⟨x, List.mem_of_getElem? hk, by rw [h]; decide⟩
/-- The terms of the sum of a column; of the bounds. -/
def RowD.cq (k : Nat) (r : RowD) : Rat := match r.ds[k]? with | some d => d.q | none => 0
def cols (rs : List RowD) (ys : List FrD) (k : Nat) : List Rat := List.zipWith (fun r y => y.q * r.cq k) rs ys
def bnds (rs : List RowD) (ys : List FrD) : List Rat := List.zipWith (fun r y => y.q * r.b.q) rs ys
theorem cols_len (rs : List RowD) (ys : List FrD) (k : Nat) : (cols rs ys k).length = min rs.length ys.length := by simp [cols]
theorem bnds_len (rs : List RowD) (ys : List FrD) : (bnds rs ys).length = min rs.length ys.length := by simp [bnds]
theorem cols_get {rs : List RowD} {ys : List FrD} {k i : Nat} {r : RowD} {y d : FrD} (h1 : rs[i]? = some r) (h2 : ys[i]? = some y) (h3 : r.ds[k]? = some d) : (cols rs ys k)[i]? = some (y.q * d.q) := by
  unfold cols; rw [List.getElem?_zipWith, h1, h2]; simp [RowD.cq, h3]
theorem bnds_get {rs : List RowD} {ys : List FrD} {i : Nat} {r : RowD} {y : FrD} (h1 : rs[i]? = some r) (h2 : ys[i]? = some y) : (bnds rs ys)[i]? = some (y.q * r.b.q) := by
  unfold bnds; rw [List.getElem?_zipWith, h1, h2]
/-- The rows are well formed: what that gives. -/
theorem rowsB_at {w : World} {K n : Nat} {rs : List RowD} (h : rowsB n rs = true) {r : RowD} (hr : r ∈ rs) (hf : r.few w K) :
    r.ds.length = n ∧ FL w r.a r.c r.ds ∧ (∀ d ∈ r.ds, Fits K d.q) ∧ FV w r.b.v r.b.q ∧ Fits K r.b.q := by
  unfold rowsB at h
  rw [List.all_eq_true] at h
  have h1 := h r hr
  unfold rowB at h1
  simp only [Bool.and_eq_true, decide_eq_true_eq] at h1
  obtain ⟨h2, h3, h4⟩ := h1
  obtain ⟨h5, h6⟩ := hf.1.fl h3
  obtain ⟨h7, h8⟩ := hf.2.fv h4
  exact ⟨h2, h5, h6, h7, h8⟩
theorem Fits.cq {K n k : Nat} {rs : List RowD} {r : RowD} {w : World} (h : rowsB n rs = true) (hr : r ∈ rs) (hf : r.few w K) (hk : k < n) : ∃ d, Hid (r.ds[k]? = some d) ∧ FV w d.v d.q ∧ Fits K d.q ∧ k < r.ds.length := by
  obtain ⟨h1, h2, h3, -, -⟩ := rowsB_at h hr hf
  have hk' : k < r.ds.length := by omega
  exact ⟨r.ds[k], List.getElem?_eq_getElem hk', h2.fv _ (List.getElem_mem hk'), h3 _ (List.getElem_mem hk'), hk'⟩
theorem bnds_fits {w : World} {K n : Nat} {rs : List RowD} {ys : List FrD} (h : rowsB n rs = true) (hf : ∀ r ∈ rs, r.few w K) (h2 : ∀ d ∈ ys, Fits K d.q) : ∀ q ∈ bnds rs ys, Fits (K + K) q := fun q hq => by
  unfold bnds at hq
  rw [List.mem_iff_getElem] at hq
  obtain ⟨i, hi, rfl⟩ := hq
  rw [List.getElem_zipWith]
  exact (h2 _ (List.getElem_mem _)).mul (rowsB_at h (List.getElem_mem _) (hf _ (List.getElem_mem _))).2.2.2.2
theorem cols_fits {w : World} {K n k : Nat} {rs : List RowD} {ys : List FrD} (h : rowsB n rs = true) (hk : k < n) (hf : ∀ r ∈ rs, r.few w K) (h2 : ∀ d ∈ ys, Fits K d.q) : ∀ q ∈ cols rs ys k, Fits (K + K) q := fun q hq => by
  unfold cols at hq
  rw [List.mem_iff_getElem] at hq
  obtain ⟨i, hi, rfl⟩ := hq
  rw [List.getElem_zipWith]
  obtain ⟨d, h3, h4, h5, h6⟩ := Fits.cq h (List.getElem_mem _) (hf _ (List.getElem_mem _)) hk
  refine (h2 _ (List.getElem_mem _)).mul ?_
  unfold RowD.cq
  rw [h3.out]
  exact h5
end Go.Proofs.Ytlocaleiloiaoaa
/- lpcheck.valid: what the call does. -/
namespace Go.Proofs.Ytlocaleiloiaoaa
set_option linter.unusedVariables false
set_option linter.unusedSimpArgs false
open Go.RowKit Plain
attribute [local go_sem ↓] Go.wp_at_zero Go.wp_at_succ

/-- The round: the first elements are well. -/
def AllInv {α : Type} (f : α → Bool) (l : List α) (w : World) (i : Value) (wr : World) : Prop :=
  ∃ k : Nat, k ≤ l.length ∧ i = .int .i64 (k : Int) ∧ Hid ((l.take k).all f = true) ∧ Below w.heap.size w wr

set_option maxRecDepth 100000 in
set_option maxHeartbeats 2000000 in
theorem validL_any {A : Option Addr} {c K : Nat} {ds : List FrD} {w : World} (h : LD w K A c ds) (hK : K ≤ 400000000) :
    Calls Try.prog 53 #[.slice A ds.length c] w (RetB (whB ds) w) := by
  have hl := h.len
  obtain ⟨r, hr⟩ : ∃ r, Hid (whB ds = r) := ⟨_, rfl⟩
  rw [hr.out]
  go_enter Try.func53, Try.ntmps53
  go_wp2
  go_loopw [4, 7] (fun b i wr => AllInv FrD.vld ds w i wr) (fun _ i _ => ds.length - (intOf i).toNat)
  case atStart => exact ⟨0, by omega, rfl, rfl, Below.refl _ _⟩
  case round =>
    obtain ⟨k, hk, rfl, hv, hbel⟩ := hrel
    by_cases hkl : k < ds.length
    · obtain ⟨a, d, rfl, hab, hc0, hc1, hc2, ⟨na, nb, hla, hlb⟩, hdk⟩ := (h.below hbel).at hkl
      obtain ⟨w4, hw4, bw4, hlt4, hY⟩ := boxed wr #[.bool d.neg, .slice d.a d.la.length d.ca, .slice d.b d.lb.length d.cb] 29
      have v0 := hY.f0
      have v1 := hY.f1
      have v2 := hY.f2
      have b4 := hbel.trans (bw4.mono hbel.size)
      go_wp2_with fail
      refine (fvalid_any (neg := d.neg) (na.below bw4) (nb.below bw4) (by omega) (by omega)).mono ?_
      rintro e w5 ⟨rfl, b5⟩
      have b05 := b4.trans (b5.mono b4.size)
      rcases hd : vldF d.neg d.la d.lb with _ | _
      · have hf : Hid (r = false) := by show r = false; rw [← hr.out]; exact whB_no hdk.out hd
        go_wp2
        go_ret
        exact ⟨by rw [hf.out]; rfl, b05⟩
      · have hf := Lib.hid (show (ds.take (k + 1)).all FrD.vld = true by rw [all_take hv.out hdk.out]; exact hd)
        go_wp2
        go_roundw
        case rel => exact ⟨k + 1, by omega, by go_num, hf, b05⟩
        case measure => simp [intOf]; omega
    · obtain rfl : k = ds.length := by omega
      have hlt' : decide ((ds.length : Int) < (ds.length : Int)) = false := decide_eq_false (by omega)
      have hf : Hid (r = true) := by show r = true; rw [← hr.out]; have := hv.out; rw [List.take_length] at this; exact this
      go_wp2
      go_ret
      exact ⟨by rw [hf.out]; rfl, hbel⟩
end Go.Proofs.Ytlocaleiloiaoaa
/- lpcheck.formed: what the call does. -/
namespace Go.Proofs.Ytlocaleiloiaoaa
set_option linter.unusedVariables false
set_option linter.unusedSimpArgs false
open Go.RowKit Plain
attribute [local go_sem ↓] Go.wp_at_zero Go.wp_at_succ

theorem Blk.g0 {w : World} {g : Nat} {t : TypeId} {a b : Value} (h : Blk w g t #[a, b]) : w.cell? ⟨g, 0, none⟩ = some a := h.cell 0
theorem Blk.g1 {w : World} {g : Nat} {t : TypeId} {a b : Value} (h : Blk w g t #[a, b]) : w.cell? ⟨g, 1, none⟩ = some b := h.cell 1
theorem Blk.h0 {w : World} {g : Nat} {t : TypeId} {a b c d : Value} (h : Blk w g t #[a, b, c, d]) : w.cell? ⟨g, 0, none⟩ = some a := h.cell 0
theorem Blk.h1 {w : World} {g : Nat} {t : TypeId} {a b c d : Value} (h : Blk w g t #[a, b, c, d]) : w.cell? ⟨g, 1, none⟩ = some b := h.cell 1
theorem Blk.h2 {w : World} {g : Nat} {t : TypeId} {a b c d : Value} (h : Blk w g t #[a, b, c, d]) : w.cell? ⟨g, 2, none⟩ = some c := h.cell 2
theorem Blk.h3 {w : World} {g : Nat} {t : TypeId} {a b c d : Value} (h : Blk w g t #[a, b, c, d]) : w.cell? ⟨g, 3, none⟩ = some d := h.cell 3

set_option maxRecDepth 100000 in
set_option maxHeartbeats 2000000 in
theorem formed_any {K : Nat} {ga ra : Option Addr} {gc rc : Nat} {gs : List FrD} {rs : List RowD} {w : World} (hg : LD w K ga gc gs) (hr : RL w K ra rc rs) (hK : K ≤ 400000000) :
    Calls Try.prog 29 #[.agg #[.slice ga gs.length gc, .slice ra rs.length rc]] w (RetB (rowsB gs.length rs && whB gs) w) := by
  obtain ⟨w0, hw0, bw0, hlt0, hB0⟩ := boxed w #[.slice ga gs.length gc, .slice ra rs.length rc] 25
  have hlg := hg.len
  have hlr := hr.len
  obtain ⟨v, hv⟩ : ∃ v, Hid ((rowsB gs.length rs && whB gs) = v) := ⟨_, rfl⟩
  have z0 := hB0.g0
  have z1 := hB0.g1
  rw [hv.out]
  go_enter Try.func29, Try.ntmps29
  go_wp2
  go_loopw [4, 8] (fun b i wr => AllInv (rowB gs.length) rs w0 i wr) (fun _ i _ => rs.length - (intOf i).toNat)
  case atStart => exact ⟨0, by omega, rfl, rfl, Below.refl _ _⟩
  case round =>
    obtain ⟨k, hk, rfl, hall, hbel0⟩ := hrel
    have hXk := hB0.keep hbel0
    have hbel := bw0.trans (hbel0.mono (Nat.le_of_lt hlt0))
    have x0 := hXk.g0
    have x1 := hXk.g1
    by_cases hkl : k < rs.length
    · obtain ⟨a, r, rfl, hab, hc0, hc1, hc2, hc3, ⟨hld, na, nb, hla, hlb⟩, hrk⟩ := (hr.below hbel).at hkl
      obtain ⟨w4, hw4, bw4, hlt4, hY⟩ := boxed wr #[.slice r.a r.ds.length r.c, .bool r.b.neg, .slice r.b.a r.b.la.length r.b.ca, .slice r.b.b r.b.lb.length r.b.cb] 51
      have hX4 := hXk.keep bw4
      have v0 := hY.h0
      have v1 := hY.h1
      have v2 := hY.h2
      have v3 := hY.h3
      have y0 := hX4.g0
      have y1 := hX4.g1
      have b4 := hbel.trans (bw4.mono hbel.size)
      have b40 := hbel0.trans (bw4.mono hbel0.size)
      have hll := hld.len
      by_cases hn : r.ds.length = gs.length
      · have hne : (((r.ds.length : Nat) : Int) != ((gs.length : Nat) : Int)) = false := by rw [bne_eq_false_iff_eq]; omega
        have hn' := Lib.hid hn
        clear hn
        go_wp2_with fail
        refine (validL_any (hld.below bw4) hK).mono ?_
        rintro e w5 ⟨rfl, b5⟩
        have hY5 := hY.keep b5
        have hX5 := hX4.keep b5
        have u0 := hY5.h0
        have u1 := hY5.h1
        have u2 := hY5.h2
        have u3 := hY5.h3
        have t0 := hX5.g0
        have t1 := hX5.g1
        have b05 := b4.trans (b5.mono b4.size)
        have b050 := b40.trans (b5.mono b40.size)
        clear x0 x1 y0 y1 v0 v1 v2 v3
        rcases hw : whB r.ds with _ | _
        · have hf : Hid (v = false) := by
            show v = false
            rw [← hv.out, show rowsB gs.length rs = false from all_no hrk.out (by unfold rowB; rw [hw]; simp)]; rfl
          go_wp2
          go_ret
          exact ⟨by rw [hf.out]; rfl, b05⟩
        · go_wp2_with fail
          refine (fvalid_any (neg := r.b.neg) ((na.below bw4).below b5) ((nb.below bw4).below b5) (by omega) (by omega)).mono ?_
          rintro e w6 ⟨rfl, b6⟩
          have hX6 := hX5.keep b6
          have s0 := hX6.g0
          have s1 := hX6.g1
          have b06 := b05.trans (b6.mono b05.size)
          have b060 := b050.trans (b6.mono b050.size)
          clear u0 u1 u2 u3 t0 t1
          rcases hd : vldF r.b.neg r.b.la r.b.lb with _ | _
          · have hf : Hid (v = false) := by
              show v = false
              rw [← hv.out, show rowsB gs.length rs = false from all_no hrk.out (by unfold rowB FrD.vld; rw [hd]; simp)]; rfl
            go_wp2
            go_ret
            exact ⟨by rw [hf.out]; rfl, b06⟩
          · have hf := Lib.hid (show (rs.take (k + 1)).all (rowB gs.length) = true by rw [all_take hall.out hrk.out]; unfold rowB FrD.vld; rw [hd, hw, decide_eq_true hn'.out]; rfl)
            go_wp2
            go_roundw
            case rel => exact ⟨k + 1, by omega, by go_num, hf, b060⟩
            case measure => simp [intOf]; omega
      · have hne : (((r.ds.length : Nat) : Int) != ((gs.length : Nat) : Int)) = true := by rw [bne_iff_ne]; omega
        have hf : Hid (v = false) := by
          show v = false
          rw [← hv.out, show rowsB gs.length rs = false from all_no hrk.out (by unfold rowB; rw [decide_eq_false hn]; rfl)]; rfl
        go_wp2
        go_ret
        exact ⟨by rw [hf.out]; rfl, b4⟩
    · obtain rfl : k = rs.length := by omega
      have hlt' : decide ((rs.length : Int) < (rs.length : Int)) = false := decide_eq_false (by omega)
      have hf : Hid (v = whB gs) := by show v = _; rw [← hv.out]; have := hall.out; rw [List.take_length] at this; unfold rowsB; rw [this]; rfl
      go_wp2_with fail
      refine (validL_any (hg.below hbel) hK).mono ?_
      rintro e w5 ⟨rfl, b5⟩
      go_wp2
      go_ret
      exact ⟨by rw [hf.out]; rfl, hbel.trans (b5.mono hbel.size)⟩
end Go.Proofs.Ytlocaleiloiaoaa
/- lpcheck.nonnegative: what the call does. -/
namespace Go.Proofs.Ytlocaleiloiaoaa
set_option linter.unusedVariables false
set_option linter.unusedSimpArgs false
open Go.RowKit Plain
attribute [local go_sem ↓] Go.wp_at_zero Go.wp_at_succ

set_option maxRecDepth 100000 in
set_option maxHeartbeats 2000000 in
theorem nonneg_any {A : Option Addr} {c K n : Nat} {ds : List FrD} {w : World} (h : LD w K A c ds) (hK : K ≤ 400000000) (hn : n ≤ 9223372036854775807) :
    Calls Try.prog 44 #[.slice A ds.length c, .int .i64 (n : Int)] w (RetB (posB ds n) w) := by
  have hl := h.len
  obtain ⟨v, hv⟩ : ∃ v, Hid (posB ds n = v) := ⟨_, rfl⟩
  rw [hv.out]
  by_cases hd : ds.length = n
  · have hne : (((ds.length : Nat) : Int) != ((n : Nat) : Int)) = false := by rw [bne_eq_false_iff_eq]; omega
    have hd' := Lib.hid hd
    clear hd
    go_enter Try.func44, Try.ntmps44
    go_wp2_with fail
    refine (validL_any h hK).mono ?_
    rintro e w1 ⟨rfl, b1⟩
    have h1 := h.below b1
    rcases hw : whB ds with _ | _
    · have hf : Hid (v = false) := by show v = false; rw [← hv.out]; unfold posB; rw [hw]; simp
      go_wp2
      go_ret
      exact ⟨by rw [hf.out]; rfl, b1⟩
    · have hf : Hid (v = nnB ds) := by show v = _; rw [← hv.out]; unfold posB; rw [hw, decide_eq_true hd'.out]; rfl
      obtain ⟨hfl, hfit⟩ := h1.fl hw
      go_wp2
      go_loopw [6, 18] (fun b i wr => AllInv (fun d : FrD => !decide (cmpR d.q 0 < 0)) ds w1 i wr) (fun _ i _ => ds.length - (intOf i).toNat)
      case atStart => exact ⟨0, by omega, rfl, rfl, Below.refl _ _⟩
      case round =>
        obtain ⟨k, hk, rfl, hall, hbel1⟩ := hrel
        have hbel := b1.trans (hbel1.mono b1.size)
        by_cases hkl : k < ds.length
        · obtain ⟨a, d, rfl, hab, hc0, hc1, hc2, hfd, hdk⟩ := (hfl.below hbel1).at hkl
          obtain ⟨w4, hw4, bw4, hlt4, hY⟩ := boxed wr #[.bool d.neg, .slice d.a d.la.length d.ca, .slice d.b d.lb.length d.cb] 29
          have v0 := hY.f0
          have v1 := hY.f1
          have v2 := hY.f2
          have b4 := hbel.trans (bw4.mono hbel.size)
          have b41 := hbel1.trans (bw4.mono hbel1.size)
          go_wp2_with fail
          refine (sign_any (hfd.below bw4)).mono ?_
          rintro e w5 ⟨rfl, b5⟩
          have b05 := b4.trans (b5.mono b4.size)
          have b051 := b41.trans (b5.mono b41.size)
          rcases hs : decide (cmpR d.q 0 < 0) with _ | _
          · have hg := Lib.hid (show (ds.take (k + 1)).all (fun d : FrD => !decide (cmpR d.q 0 < 0)) = true by rw [all_take hall.out hdk.out, hs]; rfl)
            go_wp2
            go_roundw
            case rel => exact ⟨k + 1, by omega, by go_num, hg, b051⟩
            case measure => simp [intOf]; omega
          · have hg : Hid (v = false) := by show v = false; rw [hf.out]; exact all_no hdk.out (by rw [hs]; rfl)
            go_wp2
            go_ret
            exact ⟨by rw [hg.out]; rfl, b05⟩
        · obtain rfl : k = ds.length := by omega
          have hlt' : decide ((ds.length : Int) < (ds.length : Int)) = false := decide_eq_false (by omega)
          have hg : Hid (v = true) := by show v = true; rw [hf.out]; have := hall.out; rw [List.take_length] at this; exact this
          go_wp2
          go_ret
          exact ⟨by rw [hg.out]; rfl, hbel⟩
  · have hne : (((ds.length : Nat) : Int) != ((n : Nat) : Int)) = true := by rw [bne_iff_ne]; omega
    have hf : Hid (v = false) := by show v = false; rw [← hv.out]; unfold posB; rw [decide_eq_false hd]; rfl
    go_enter Try.func44, Try.ntmps44
    go_wp2
    go_ret
    exact ⟨by rw [hf.out]; rfl, Below.refl _ _⟩
end Go.Proofs.Ytlocaleiloiaoaa
