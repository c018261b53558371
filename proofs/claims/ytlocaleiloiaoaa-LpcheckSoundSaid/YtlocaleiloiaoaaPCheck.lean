/- lpcheck.Check: what the call does. -/
import Derived.Test.YtlocaleiloiaoaaPOpenS
import Derived.Test.YtlocaleiloiaoaaPUnb
import Derived.Deep.RegionWith
namespace Go.Proofs.Ytlocaleiloiaoaa
set_option linter.unusedVariables false
set_option linter.unusedSimpArgs false
open Go.RowKit Plain
attribute [local go_sem ↓] Go.wp_at_zero Go.wp_at_succ

theorem method_opt (a b c : Value) (w : World) : (method 217 55 (.agg #[a, b, c]) "saleroom/lpcheck.proven").run Try.prog w = .ok (108, .agg #[a, b, c]) w := by kernel_rfl
theorem method_inf (a : Value) (w : World) : (method 217 57 (.agg #[a]) "saleroom/lpcheck.proven").run Try.prog w = .ok (109, .agg #[a]) w := by kernel_rfl
theorem method_unb (a b : Value) (w : World) : (method 217 59 (.agg #[a, b]) "saleroom/lpcheck.proven").run Try.prog w = .ok (110, .agg #[a, b]) w := by kernel_rfl

set_option maxRecDepth 100000 in
set_option maxHeartbeats 4000000 in
theorem check_any {K : Nat} {ga ra : Option Addr} {gc rc : Nat} {gs : List FrD} {rs : List RowD} {s : SolD} {w : World} (hg : LD w K ga gc gs) (hr : RL w K ra rc rs) (hs : s.few w K)
    (hK1 : 1 + (rs.length + 1) * (K + K + 1) + K < 400000000) (hK2 : 1 + (gs.length + 1) * (K + K + 1) + K < 400000000) :
    Calls Try.prog 10 #[.agg #[.slice ga gs.length gc, .slice ra rs.length rc], s.v] w (RetI (checkN gs rs s) w) := by
  obtain ⟨w0, hw0, bw0, hlt0, hA0⟩ := boxed w #[.slice ga gs.length gc, .slice ra rs.length rc] 25
  obtain ⟨w1, hw1, bw1, hlt1, hC1⟩ := boxed w0 s.cs 31
  have hA1 := hA0.keep bw1
  have b01 := bw0.trans (bw1.mono (Nat.le_of_lt hlt0))
  have z0 := hA1.g0
  have z1 := hA1.g1
  have hlg := hg.len
  have hlr := hr.len
  have hKs : K ≤ 400000000 := by rw [Nat.add_mul] at hK1; omega
  obtain ⟨v, hv⟩ : ∃ v, Hid (checkN gs rs s = v) := ⟨_, rfl⟩
  rw [hv.out]
  go_enter Try.func10, Try.ntmps10
  go_wp2_with fail
  refine (formed_any (hg.below b01) (hr.below b01) hKs).mono ?_
  rintro e w2 ⟨rfl, b2⟩
  have hA2 := hA1.keep b2
  have hC2 := hC1.keep b2
  have b02 := b01.trans (b2.mono b01.size)
  clear z0 z1
  have z0 := hA2.g0
  have z1 := hA2.g1
  rcases hfm : (rowsB gs.length rs && whB gs) with _ | _
  · have hf : Hid (v = 2) := by show v = 2; rw [← hv.out]; unfold checkN; rw [if_pos hfm]
    go_wp2
    go_ret
    exact ⟨by rw [hf.out]; rfl, b02⟩
  have hv2 : Hid ((if provenB gs rs s = true then (0 : Int) else 13) = v) := by show _ = v; rw [← hv.out]; exact (checkN_ok hfm).symm
  have hrw : rowsB gs.length rs = true := by rw [Bool.and_eq_true] at hfm; exact hfm.1
  have hwg : whB gs = true := by rw [Bool.and_eq_true] at hfm; exact hfm.2
  have hrw' := Lib.hid hrw
  have hwg' := Lib.hid hwg
  have c0 : w2.cell? ⟨w0.heap.size, 0, none⟩ = some (.int .i64 s.st) := hC2.cell 0
  have c1 : w2.cell? ⟨w0.heap.size, 1, none⟩ = some (.bool s.d.neg) := hC2.cell 1
  have c2 : w2.cell? ⟨w0.heap.size, 2, none⟩ = some (.slice s.d.a s.d.la.length s.d.ca) := hC2.cell 2
  have c3 : w2.cell? ⟨w0.heap.size, 3, none⟩ = some (.slice s.d.b s.d.lb.length s.d.cb) := hC2.cell 3
  have c4 : w2.cell? ⟨w0.heap.size, 4, none⟩ = some (.slice s.xa s.xs.length s.xc) := hC2.cell 4
  have c5 : w2.cell? ⟨w0.heap.size, 5, none⟩ = some (.slice s.ya s.ys.length s.yc) := hC2.cell 5
  have c6 : w2.cell? ⟨w0.heap.size, 6, none⟩ = some (.slice s.za s.zs.length s.zc) := hC2.cell 6
  have hx2 := hs.below b02
  clear hrw hwg hfm hv
  obtain ⟨st, hst⟩ : ∃ st, Hid (s.st = st) := ⟨_, rfl⟩
  rw [hst.out] at c0
  by_cases h1 : st = 1
  · subst h1
    have hv3 : Hid (provenB gs rs s = optB gs rs s.d s.xs s.ys) := by show _ = _; unfold provenB; rw [if_pos hst.out]
    obtain ⟨w3, hw3, bw3, hlt3, hD3⟩ := boxed w2 #[.bool s.d.neg, .slice s.d.a s.d.la.length s.d.ca, .slice s.d.b s.d.lb.length s.d.cb] 29
    have hC3 := hC2.keep bw3
    clear c4 c5
    have c4 : w3.cell? ⟨w0.heap.size, 4, none⟩ = some (.slice s.xa s.xs.length s.xc) := hC3.cell 4
    have c5 : w3.cell? ⟨w0.heap.size, 5, none⟩ = some (.slice s.ya s.ys.length s.yc) := hC3.cell 5
    have hA3 := hA2.keep bw3
    have x0 := hA3.g0
    have x1 := hA3.g1
    have b03 := b02.trans (bw3.mono b02.size)
    have hm := fun (a b c : Value) (w : World) => method_opt a b c w
    have hx3 := hx2.below bw3
    go_wp2_with fail
    refine (optimal_any (hg.below b03) (hr.below b03) hD3 hx3.d hx3.x hx3.y hK1 hK2).mono ?_
    rintro e w4 ⟨rfl, b4⟩
    have b04 := b03.trans (b4.mono b03.size)
    rw [hv3.out] at hv2
    rcases hp : optB gs rs s.d s.xs s.ys with _ | _
    · have hf : Hid (v = 13) := by show v = 13; rw [← hv2.out, hp]; rfl
      go_wp2
      go_ret
      exact ⟨by rw [hf.out]; rfl, b04⟩
    · have hf : Hid (v = 0) := by show v = 0; rw [← hv2.out, hp]; rfl
      go_wp2
      go_ret
      exact ⟨by rw [hf.out]; rfl, b04⟩
  have n1 : (st == 1) = false := by simpa using h1
  by_cases h2 : st = 2
  · subst h2
    have hv3 : Hid (provenB gs rs s = emptyB gs rs s.ys) := by show _ = _; unfold provenB; rw [if_neg (by rw [hst.out]; decide), if_pos hst.out]
    clear n1 h1
    have hm := fun (a : Value) (w : World) => method_inf a w
    go_wp2_with fail
    refine (infeasible_any (hg.below b02) (hr.below b02) hrw'.out hx2.y hK1).mono ?_
    rintro e w4 ⟨rfl, b4⟩
    have b04 := b02.trans (b4.mono b02.size)
    rw [hv3.out] at hv2
    rcases hp : emptyB gs rs s.ys with _ | _
    · have hf : Hid (v = 13) := by show v = 13; rw [← hv2.out, hp]; rfl
      go_wp2
      go_ret
      exact ⟨by rw [hf.out]; rfl, b04⟩
    · have hf : Hid (v = 0) := by show v = 0; rw [← hv2.out, hp]; rfl
      go_wp2
      go_ret
      exact ⟨by rw [hf.out]; rfl, b04⟩
  have n2 : (st == 2) = false := by simpa using h2
  by_cases h3 : st = 3
  · subst h3
    have hv3 : Hid (provenB gs rs s = (feaB gs rs s.xs && endB gs rs s.zs)) := by show _ = _; unfold provenB; rw [if_neg (by rw [hst.out]; decide), if_neg (by rw [hst.out]; decide), if_pos hst.out]
    clear n1 h1 n2 h2
    have hm := fun (a b : Value) (w : World) => method_unb a b w
    go_wp2_with fail
    refine (unbounded_any (hg.below b02) (hr.below b02) hwg'.out hrw'.out hx2.x hx2.z (by omega)).mono ?_
    rintro e w4 ⟨rfl, b4⟩
    have b04 := b02.trans (b4.mono b02.size)
    rw [hv3.out] at hv2
    rcases hp : (feaB gs rs s.xs && endB gs rs s.zs) with _ | _
    · have hf : Hid (v = 13) := by show v = 13; rw [← hv2.out, hp]; rfl
      go_wp2
      go_ret
      exact ⟨by rw [hf.out]; rfl, b04⟩
    · have hf : Hid (v = 0) := by show v = 0; rw [← hv2.out, hp]; rfl
      go_wp2
      go_ret
      exact ⟨by rw [hf.out]; rfl, b04⟩
  have n3 : (st == 3) = false := by simpa using h3
  have hf : Hid (v = 13) := by
    show v = 13
    have hpf : provenB gs rs s = false := by unfold provenB; rw [hst.out, if_neg h1, if_neg h2, if_neg h3]
    rw [← hv2.out, hpf]; rfl
  go_wp2
  go_ret
  exact ⟨by rw [hf.out]; rfl, b02⟩
end Go.Proofs.Ytlocaleiloiaoaa
