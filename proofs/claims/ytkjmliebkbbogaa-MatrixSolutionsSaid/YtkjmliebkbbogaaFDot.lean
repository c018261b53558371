/- fraction.Mul: what the call does. -/
import Derived.Test.YtkjmliebkbbogaaFSign
import Derived.Test.YtkjmliebkbbogaaFCross
import Derived.Test.YtkjmliebkbbogaaApF
import Derived.Test.YtkjmliebkbbogaaFSum
import Derived.Test.YtkjmliebkbbogaaGDot
namespace Go.Proofs.Ytkjmliebkbbogaa
set_option linter.unusedVariables false
set_option linter.unusedSimpArgs false
open Go.RowKit Plain
attribute [local go_sem ↓] Go.wp_at_zero Go.wp_at_succ

set_option maxRecDepth 100000 in
set_option maxHeartbeats 4000000 in
theorem mulF_any {v u : Value} {p q : Rat} {j k : Nat} {w : World} (hv : FV w v p) (hu : FV w u q) (hj : Fits j p) (hk : Fits k q) (hJ : j + k ≤ 400000000) :
    Calls Try.prog 62 #[v, u] w (RetQ (p * q) w) := by
  obtain ⟨n1, A, ca, la, B, cb, lb, rfl, na, nb, iq⟩ := hv
  obtain ⟨n2, C, cc, lc, D, cd, ld, rfl, nc, nd, ir⟩ := hu
  have hf := QIs.fits iq hj
  have hg := QIs.fits ir hk
  have h0 : val lb * val ld ≠ 0 := Nat.mul_ne_zero (QIs.den_ne iq) (QIs.den_ne ir)
  have hq := q_mul iq ir
  obtain ⟨r, hr⟩ : ∃ r, p * q = r := ⟨_, rfl⟩
  rw [hr] at hq ⊢
  have hq' := Lib.hid hq
  clear iq ir hq hr
  obtain ⟨w0, hw0, bw0, hlt0, hB0⟩ := boxed w #[.bool n1, .slice A la.length ca, .slice B lb.length cb] 50
  obtain ⟨w1, hw1, bw1, hlt1, hB1⟩ := boxed w0 #[.bool n2, .slice C lc.length cc, .slice D ld.length cd] 50
  obtain ⟨w2, hw2, bw2, hlt2, hB2⟩ := boxed w1 #[.bool false, .slice none 0 0, .slice none 0 0] 50
  have hA2 := (hB0.keep bw1).keep bw2
  have hC2 := hB1.keep bw2
  have b01 := bw0.trans (bw1.mono (Nat.le_of_lt hlt0))
  have b02 := b01.trans (bw2.mono b01.size)
  have ha1 := na.below b02
  have hb1 := nb.below b02
  have hc1 := nc.below b02
  have hd1 := nd.below b02
  have x0 := hA2.f0
  have x1 := hA2.f1
  have x2 := hA2.f2
  have y0 := hC2.f0
  have y1 := hC2.f1
  have y2 := hC2.f2
  have z0 := hB2.f0
  have z1 := hB2.f1
  have z2 := hB2.f2
  have h3f : Blk3 w2 w1.heap.size 50 := hB2.b3
  have hrf : Only w2 w2 w1.heap.size := Only.refl _ _
  have nd0 := noDig3 false none 0 0 none 0 0
  have hl1 : w.heap.size < w1.heap.size := by omega
  have hS : ∀ w', Only w2 w' w1.heap.size → w'.cell? ⟨w.heap.size, 0, none⟩ = some (.bool n1) ∧ w'.cell? ⟨w.heap.size, 1, none⟩ = some (.slice A la.length ca) ∧ w'.cell? ⟨w.heap.size, 2, none⟩ = some (.slice B lb.length cb) ∧ w'.cell? ⟨w0.heap.size, 0, none⟩ = some (.bool n2) ∧ w'.cell? ⟨w0.heap.size, 1, none⟩ = some (.slice C lc.length cc) ∧ w'.cell? ⟨w0.heap.size, 2, none⟩ = some (.slice D ld.length cd) := fun w' o =>
    have p := hA2.only o (Nat.ne_of_lt hl1); have q := hC2.only o (Nat.ne_of_lt hlt1); ⟨p.f0, p.f1, p.f2, q.f0, q.f1, q.f2⟩
  obtain ⟨d0, d1, d2, d3, d4, d5⟩ := hS _ hrf.drew
  have d6 := hrf.drew
  have d7 := h3f.drew
  clear na nb nc nd
  go_enter Try.func62, Try.ntmps62
  go_wp2_with fail
  go_region_held3 (fun w' => w'.cell? ⟨w.heap.size, 0, none⟩ = some (.bool n1) ∧ w'.cell? ⟨w.heap.size, 1, none⟩ = some (.slice A la.length ca) ∧ w'.cell? ⟨w.heap.size, 2, none⟩ = some (.slice B lb.length cb) ∧ w'.cell? ⟨w0.heap.size, 0, none⟩ = some (.bool n2) ∧ w'.cell? ⟨w0.heap.size, 1, none⟩ = some (.slice C lc.length cc) ∧ w'.cell? ⟨w0.heap.size, 2, none⟩ = some (.slice D ld.length cd) ∧ Only w2 w' w1.heap.size ∧ Blk3 w' w1.heap.size 50) (((try go_split_ands); (try dsimp only); (repeat' with_reducible apply And.intro) <;> with_reducible assumption)) (first
    | (go_at_call 81; go_split_ands; (with_reducible refine (mul_any A C ca cc la lc _ (ha1.only_blk hB2 nd0 (by assumption)) (hc1.only_blk hB2 nd0 (by assumption)) (by omega) (by omega)).mono ?_); rintro e w3 ⟨X, cx, x, rfl, nx, ix, mx, b3⟩; have ix' := Lib.hid ix; clear ix; have q4 := Blk3.keep (by assumption) b3; have b4 := (show Only w2 _ w1.heap.size by assumption).trans (Only.of_below b3 _); obtain ⟨f0, f1, f2, f3, f4, f5⟩ := hS _ b4)
    | (go_at_call 81; go_split_ands; (with_reducible refine (mul_any B D cb cd lb ld _ (hb1.only_blk hB2 nd0 (by assumption)) (hd1.only_blk hB2 nd0 (by assumption)) (by omega) (by omega)).mono ?_); rintro e w5 ⟨Y, cy, y, rfl, ny, iy, my, b5⟩; have iy' := Lib.hid iy; clear iy; have q6 := Blk3.keep (by assumption) b5; have b6 := (show Only w2 _ w1.heap.size by assumption).trans (Only.of_below b5 _); obtain ⟨g0, g1, g2, g3, g4, g5⟩ := hS _ b6)
    | (go_at_call 69; go_split_ands; (with_reducible refine (made_any (by first | exact nx.below b5 | exact nx) (by first | exact ny | exact ny.below b3) (by rw [iy'.out.val]; exact h0) (by omega) (by omega)).mono ?_); rintro e w7 ⟨v, rfl, ⟨m0, A1, c1, l1, B1, d1, m1, rfl, ma, mb, hQ⟩, b7⟩; rw [ix'.out.val, iy'.out.val] at hQ; have b8 := (show Only w2 _ w1.heap.size by assumption).trans (Only.of_below b7 _); obtain ⟨k0, k1, k2, k3, k4, k5⟩ := hS _ b8; have q8 := Blk3.keep (t := 50) (by assumption) b7; have q9 := q8.set m0 A1 l1.length c1 B1 m1.length d1; obtain ⟨qa, qb, qc, qd, qe, qf, qg, hB3⟩ := id q8; have b9 := ((b8.set 0 (.bool m0)).set 1 (.slice A1 l1.length c1)).set 2 (.slice B1 m1.length d1); obtain ⟨j0, j1, j2, j3, j4, j5⟩ := hS _ b9; have u0 := hB3.f0; have u1 := hB3.f1; have u2 := hB3.f2; have t0 := hB3.free 0; have t1 := hB3.free 1; have t2 := hB3.free 2))
  all_goals
    clear j0 j1 j2 j3 j4 j5 q9
    go_wp2
    obtain ⟨w9, hw9, hB9, o9⟩ := hB3.set3 (.bool m0) (.slice A1 l1.length c1) (.slice B1 m1.length d1)
    rw [hw9]
    have e0 := hB9.f0
    have e1 := hB9.f1
    have e2 := hB9.f2
    refine bodyPost_ret (v := fracV m0 A1 l1.length c1 B1 m1.length d1) (by simp [results, Try.results62, go_sem, e0, e1, e2]) rfl ?_
    have m1' := ma.only_blk hB3 (noDig3 _ _ _ _ _ _ _) o9
    have m2' := mb.only_blk hB3 (noDig3 _ _ _ _ _ _ _) o9
    have bT := (b8.trans o9).to_below b02 b01.size b02.size
    exact ⟨_, rfl, ⟨m0, A1, c1, l1, B1, d1, m1, rfl, m1', m2', by rw [← hq'.out]; exact hQ⟩, bT⟩
end Go.Proofs.Ytkjmliebkbbogaa
/- fraction.Dot: what the call does. -/
namespace Go.Proofs.Ytkjmliebkbbogaa
set_option linter.unusedVariables false
set_option linter.unusedSimpArgs false
open Go.RowKit Plain
attribute [local go_sem ↓] Go.wp_at_zero Go.wp_at_succ

def AllFV (w : World) (os : List FrD) : Prop := ∀ d ∈ os, FV w d.v d.q
/-- The round: the slice holds the first products. -/
def DotInv (ps : List Rat) (w : World) (base : Nat) (v i j : Value) (wr : World) : Prop :=
  ∃ (u : Value) (k : Nat) (os : List FrD), u = v ∧ k ≤ ps.length ∧ j = .int .i64 (k : Int) ∧ OwnQ wr base u os ∧ AllFV wr os ∧ os.length = k ∧ Hid (os.map FrD.q = ps.take k) ∧
    Blk wr w.heap.size 50 #[.bool false, .slice none 0 0, .slice none 0 0] ∧ base ≤ wr.heap.size ∧ Below w.heap.size w wr
theorem map_snoc {os : List FrD} {ps : List Rat} {k : Nat} {d : FrD} (h : os.map FrD.q = ps.take k) (hk : ps[k]? = some d.q) : (os ++ [d]).map FrD.q = ps.take (k + 1) := by
  rw [List.map_append, h, List.take_add_one, hk]; rfl
theorem allFV_snoc {w4 w6 : World} {base : Nat} {v : Value} {os ds : List FrD} {o : Obj} {d : FrD} (h1 : AllFV w4 os) (h2 : FV w4 d.v d.q) (hown : OwnQ (w4.alloc o) base v ds) (hg : (w4.alloc o).grownBy w6 v.ownBlock) : AllFV w6 (os ++ [d]) := fun x hx => by
  have hb : Below w4.heap.size w4 (w4.alloc o) := (Below.refl _ _).alloc (Nat.le_refl _) o
  rcases List.mem_append.1 hx with h | h
  · exact ((h1 x h).below hb).row hown hg
  · simp at h; subst h
    exact (h2.below hb).row hown hg

set_option maxRecDepth 100000 in
set_option maxHeartbeats 4000000 in
theorem dotF_any {A E : Option Addr} {c ce K : Nat} {ds es : List FrD} {w : World} (h : FL w A c ds) (he : FL w E ce es) (hf : ∀ d ∈ ds, Fits K d.q) (hfe : ∀ d ∈ es, Fits K d.q) (hK : 1 + (ds.length + 1) * (K + K + 1) < 400000000) :
    Calls Try.prog 41 #[.slice A ds.length c, .slice E es.length ce] w (RetQ (sumR (prods ds es)) w) := by
  obtain ⟨w0, hw0, bw0, hlt0, hB0⟩ := boxed w #[.bool false, .slice none 0 0, .slice none 0 0] 50
  have hl := h.len
  have hle := he.len
  have hqs := Lib.hid (prods_fits hf hfe)
  have hfh := Lib.hid hf
  have hfeh := Lib.hid hfe
  obtain ⟨ps, hps⟩ : ∃ ps, Hid (prods ds es = ps) := ⟨_, rfl⟩
  have hpl := Lib.hid (prods_len ds es)
  rw [hps.out] at hpl hqs
  clear hf hfe
  obtain ⟨r, hr⟩ : ∃ r, Hid (sumR ps = r) := ⟨_, rfl⟩
  rw [hps.out, hr.out]
  rcases Nat.lt_or_ge es.length ds.length with hm | hm
  · have hmn := Lib.hid (show min ds.length es.length = es.length by omega)
    go_enter Try.func41, Try.ntmps41
    go_wp2
    go_loopw [5, 6, 12] (fun v i j wr => DotInv ps w w0.heap.size v i j wr) (fun _ _ j _ => es.length - (intOf j).toNat)
    case atStart => exact ⟨_, 0, [], rfl, by omega, rfl, OwnQ.nil _ _, fun d hd => by simp at hd, rfl, rfl, hB0, Nat.le_refl _, bw0⟩
    case round =>
      obtain ⟨v, k, os, rfl, hk, rfl, hown, hall, hol, hmap, hRk, hbr, hbel⟩ := hrel
      have hall' := Lib.hid hall
      have hol' := Lib.hid hol
      rw [hpl.out, hmn.out] at hk
      clear hall hol
      by_cases hkm : k < es.length
      · have hkd : k < ds.length := by omega
        have hke : k < es.length := by omega
        obtain ⟨a, d, rfl, hab, hc0, hc1, hc2, hfd, hdk⟩ := h.at hkd
        obtain ⟨a', d', rfl, hab', hc0', hc1', hc2', hfe, hek'⟩ := he.at hke
        have hfd1 := Lib.hid (hfh.out d (List.mem_of_getElem? hdk.out))
        have hfe1 := Lib.hid (hfeh.out d' (List.mem_of_getElem? hek'.out))
        have hpk := Lib.hid (show ps[k]? = some (d.q * d'.q) by rw [← hps.out]; exact prods_get hdk.out hek'.out)
        have bD : Below w.heap.size w wr.drew := hbel.drew
        have hki : (k : Int) < (ds.length : Int) := by omega
        have hkie : (k : Int) < (es.length : Int) := by omega
        have hKK : K + K ≤ 400000000 := by rw [Nat.add_mul] at hK; omega
        have hos : os.length + 1 ≤ 1000000000000 := by
          have h1 := hol'.out
          have h2 := Nat.le_mul_of_pos_right (ds.length + 1) (show 0 < K + K + 1 by omega)
          omega
        have hS : ∀ w', Below w.heap.size w w' → w'.cell? (a.add (k * 3)) = some (.bool d.neg) ∧ w'.cell? ⟨(a.add (k * 3)).block, (a.add (k * 3)).off + 1, none⟩ = some (.slice d.a d.la.length d.ca) ∧ w'.cell? ⟨(a.add (k * 3)).block, (a.add (k * 3)).off + 2, none⟩ = some (.slice d.b d.lb.length d.cb) ∧ w'.cell? (a'.add (k * 3)) = some (.bool d'.neg) ∧ w'.cell? ⟨(a'.add (k * 3)).block, (a'.add (k * 3)).off + 1, none⟩ = some (.slice d'.a d'.la.length d'.ca) ∧ w'.cell? ⟨(a'.add (k * 3)).block, (a'.add (k * 3)).off + 2, none⟩ = some (.slice d'.b d'.lb.length d'.cb) ∧ Below w.heap.size w w' := by
          intro w' o
          refine ⟨(o.cell (by rw [block_add]; exact hab)).trans hc0, (o.cell (by show (a.add (k * 3)).block < _; rw [block_add]; exact hab)).trans hc1, (o.cell (by show (a.add (k * 3)).block < _; rw [block_add]; exact hab)).trans hc2, (o.cell (by rw [block_add]; exact hab')).trans hc0', (o.cell (by show (a'.add (k * 3)).block < _; rw [block_add]; exact hab')).trans hc1', (o.cell (by show (a'.add (k * 3)).block < _; rw [block_add]; exact hab')).trans hc2', o⟩
        have hownD : OwnQ wr.drew w0.heap.size v os := hown
        have hRD : Blk wr.drew w.heap.size 50 #[.bool false, .slice none 0 0, .slice none 0 0] := hRk
        have hbrD : w0.heap.size ≤ wr.drew.heap.size := hbr
        clear hc0 hc1 hc2 hc0' hc1' hc2'
        go_wp2_with fail
        go_region_held3 (fun w' => w'.cell? (a.add (k * 3)) = some (.bool d.neg) ∧ w'.cell? ⟨(a.add (k * 3)).block, (a.add (k * 3)).off + 1, none⟩ = some (.slice d.a d.la.length d.ca) ∧ w'.cell? ⟨(a.add (k * 3)).block, (a.add (k * 3)).off + 2, none⟩ = some (.slice d.b d.lb.length d.cb) ∧ w'.cell? (a'.add (k * 3)) = some (.bool d'.neg) ∧ w'.cell? ⟨(a'.add (k * 3)).block, (a'.add (k * 3)).off + 1, none⟩ = some (.slice d'.a d'.la.length d'.ca) ∧ w'.cell? ⟨(a'.add (k * 3)).block, (a'.add (k * 3)).off + 2, none⟩ = some (.slice d'.b d'.lb.length d'.cb) ∧ Below w.heap.size w w') (((try go_split_ands); (try dsimp only); exact hS _ (by first | assumption | exact Below.alloc (by assumption) (show Below w.heap.size w _ by assumption).size _))) (first
          | (go_at_call 62; go_split_ands; (with_reducible refine (mulF_any (hfd.below (by assumption)) (hfe.below (by assumption)) hfd1.out hfe1.out hKK).mono ?_); rintro e w4 ⟨v4, rfl, ⟨n4, A4, c4, l4, B4, d4, m4, rfl, na4, nb4, iq4⟩, b4⟩; have iq4' := Lib.hid iq4; clear iq4; have hmk := Lib.hid iq4'.out.mk; have o4 := (show Below w.heap.size w _ by assumption).trans (b4.mono (show Below w.heap.size w _ by assumption).size); have hown4 := hownD.below b4; have hR4 := hRD.keep b4; have hbr4 := Nat.le_trans hbrD b4.size)
          | (refine step_appQ rfl _ _ rfl rfl w0.heap.size v os rfl (hown4.below ((Below.refl _ _).alloc (Nat.le_refl _) _)) ⟨w4.heap.size, 0, none⟩ 1 ⟨n4, A4, c4, l4, B4, d4, m4⟩ rfl (World.news_of_block (heap_alloc_new w4 _)) hos (by rw [World.size_alloc]; omega) ?_; intro v6 w6 ho6 hg6; have o6 := (o4.alloc o4.size (.cells #[.bool n4, .slice A4 l4.length c4, .slice B4 m4.length d4] 50)).grown hg6 (Nat.le_trans o4.size (by simp)) (fun g hg => Nat.le_trans (Nat.le_of_lt hlt0) (hown4.block hg))))
        have hallD : AllFV w4 os := fun x hx => ((hall'.out x hx).below (Below.refl _ _).drew).below b4
        have fv4 : FV w4 (FrD.v ⟨n4, A4, c4, l4, B4, d4, m4⟩) (FrD.q ⟨n4, A4, c4, l4, B4, d4, m4⟩) := ⟨n4, A4, c4, l4, B4, d4, m4, rfl, na4, nb4, by have := iq4'.out; rw [hmk.out] at this; exact this⟩
        have hall6 := Lib.hid (allFV_snoc hallD fv4 (hown4.below ((Below.refl _ _).alloc (Nat.le_refl _) _)) hg6)
        have hmap6 := Lib.hid (map_snoc (d := ⟨n4, A4, c4, l4, B4, d4, m4⟩) hmap.out (by rw [hpk.out, hmk.out]; rfl))
        have hR6 : Blk w6 w.heap.size 50 #[.bool false, .slice none 0 0, .slice none 0 0] := (hg6.block _ (by rw [World.size_alloc]; have := hR4.lt; omega) (fun e => by have := hown4.block e.symm; omega)).trans (hR4.keep ((Below.refl _ _).alloc (Nat.le_refl _) _))
        have hbr6 : w0.heap.size ≤ w6.heap.size := Nat.le_trans hbr4 (Nat.le_trans (by simp) hg6.size)
        clear hallD
        go_wp2
        go_roundw
        case rel => exact ⟨_, k + 1, _, rfl, by rw [hpl.out, hmn.out]; omega, by go_num, ho6, hall6.out, by rw [List.length_append, hol'.out]; rfl, hmap6, hR6, hbr6, o6⟩
        case measure => simp [intOf]; omega
      · obtain rfl : k = es.length := by omega
        have hlt' : decide ((es.length : Int) < (es.length : Int)) = false := decide_eq_false (by omega)
        obtain ⟨B, cb, rfl, hfl⟩ := hown.fl hall'.out
        have hSr := Lib.hid (show sumR (os.map FrD.q) = r by rw [hmap.out, List.take_of_length_le (by rw [hpl.out, hmn.out]; exact Nat.le_refl _)]; exact hr.out)
        have hfo := Lib.hid (show ∀ d ∈ os, Fits (K + K) d.q from fun d hd => hqs.out _ (by
          have : d.q ∈ os.map FrD.q := List.mem_map.2 ⟨d, hd, rfl⟩
          rw [hmap.out] at this
          exact List.mem_of_mem_take this))
        have hbd : 1 + (os.length + 1) * (K + K + 1) < 400000000 := by
          have h1 : os.length ≤ ds.length := by rw [hol'.out]; omega
          have := Nat.mul_le_mul_right (K + K + 1) (show os.length + 1 ≤ ds.length + 1 by omega)
          omega
        go_wp2_with fail
        refine (sumF_any hfl hfo.out hbd).mono ?_
        rintro e w5 ⟨v5, rfl, ⟨n5, A5, c5, l5, B5, d5, m5, rfl, na5, nb5, iq5⟩, b5⟩
        rw [hSr.out] at iq5
        have iq5' := Lib.hid iq5
        clear iq5
        have hR5 := hRk.keep b5
        have b05 := hbel.trans (b5.mono hbel.size)
        have p0 := hR5.f0
        have p1 := hR5.f1
        have p2 := hR5.f2
        have q0 := hR5.free 0
        have q1 := hR5.free 1
        have q2 := hR5.free 2
        go_wp2
        obtain ⟨w9, hw9, hB9, o9⟩ := hR5.set3 (.bool n5) (.slice A5 l5.length c5) (.slice B5 m5.length d5)
        rw [hw9]
        have e0 := hB9.f0
        have e1 := hB9.f1
        have e2 := hB9.f2
        refine bodyPost_ret (v := fracV n5 A5 l5.length c5 B5 m5.length d5) (by simp [results, Try.results41, go_sem, e0, e1, e2]) rfl ?_
        exact ⟨_, rfl, ⟨n5, A5, c5, l5, B5, d5, m5, rfl, na5.only_blk hR5 (noDig3 _ _ _ _ _ _ _) o9, nb5.only_blk hR5 (noDig3 _ _ _ _ _ _ _) o9, iq5'.out⟩, o9.to_below b05 (Nat.le_refl _) b05.size⟩
  · have hmn := Lib.hid (show min ds.length es.length = ds.length by omega)
    go_enter Try.func41, Try.ntmps41
    go_wp2
    go_loopw [5, 6, 12] (fun v i j wr => DotInv ps w w0.heap.size v i j wr) (fun _ _ j _ => ds.length - (intOf j).toNat)
    case atStart => exact ⟨_, 0, [], rfl, by omega, rfl, OwnQ.nil _ _, fun d hd => by simp at hd, rfl, rfl, hB0, Nat.le_refl _, bw0⟩
    case round =>
      obtain ⟨v, k, os, rfl, hk, rfl, hown, hall, hol, hmap, hRk, hbr, hbel⟩ := hrel
      have hall' := Lib.hid hall
      have hol' := Lib.hid hol
      rw [hpl.out, hmn.out] at hk
      clear hall hol
      by_cases hkm : k < ds.length
      · have hkd : k < ds.length := by omega
        have hke : k < es.length := by omega
        obtain ⟨a, d, rfl, hab, hc0, hc1, hc2, hfd, hdk⟩ := h.at hkd
        obtain ⟨a', d', rfl, hab', hc0', hc1', hc2', hfe, hek'⟩ := he.at hke
        have hfd1 := Lib.hid (hfh.out d (List.mem_of_getElem? hdk.out))
        have hfe1 := Lib.hid (hfeh.out d' (List.mem_of_getElem? hek'.out))
        have hpk := Lib.hid (show ps[k]? = some (d.q * d'.q) by rw [← hps.out]; exact prods_get hdk.out hek'.out)
        have bD : Below w.heap.size w wr.drew := hbel.drew
        have hki : (k : Int) < (ds.length : Int) := by omega
        have hkie : (k : Int) < (es.length : Int) := by omega
        have hKK : K + K ≤ 400000000 := by rw [Nat.add_mul] at hK; omega
        have hos : os.length + 1 ≤ 1000000000000 := by
          have h1 := hol'.out
          have h2 := Nat.le_mul_of_pos_right (ds.length + 1) (show 0 < K + K + 1 by omega)
          omega
        have hS : ∀ w', Below w.heap.size w w' → w'.cell? (a.add (k * 3)) = some (.bool d.neg) ∧ w'.cell? ⟨(a.add (k * 3)).block, (a.add (k * 3)).off + 1, none⟩ = some (.slice d.a d.la.length d.ca) ∧ w'.cell? ⟨(a.add (k * 3)).block, (a.add (k * 3)).off + 2, none⟩ = some (.slice d.b d.lb.length d.cb) ∧ w'.cell? (a'.add (k * 3)) = some (.bool d'.neg) ∧ w'.cell? ⟨(a'.add (k * 3)).block, (a'.add (k * 3)).off + 1, none⟩ = some (.slice d'.a d'.la.length d'.ca) ∧ w'.cell? ⟨(a'.add (k * 3)).block, (a'.add (k * 3)).off + 2, none⟩ = some (.slice d'.b d'.lb.length d'.cb) ∧ Below w.heap.size w w' := by
          intro w' o
          refine ⟨(o.cell (by rw [block_add]; exact hab)).trans hc0, (o.cell (by show (a.add (k * 3)).block < _; rw [block_add]; exact hab)).trans hc1, (o.cell (by show (a.add (k * 3)).block < _; rw [block_add]; exact hab)).trans hc2, (o.cell (by rw [block_add]; exact hab')).trans hc0', (o.cell (by show (a'.add (k * 3)).block < _; rw [block_add]; exact hab')).trans hc1', (o.cell (by show (a'.add (k * 3)).block < _; rw [block_add]; exact hab')).trans hc2', o⟩
        have hownD : OwnQ wr.drew w0.heap.size v os := hown
        have hRD : Blk wr.drew w.heap.size 50 #[.bool false, .slice none 0 0, .slice none 0 0] := hRk
        have hbrD : w0.heap.size ≤ wr.drew.heap.size := hbr
        clear hc0 hc1 hc2 hc0' hc1' hc2'
        go_wp2_with fail
        go_region_held3 (fun w' => w'.cell? (a.add (k * 3)) = some (.bool d.neg) ∧ w'.cell? ⟨(a.add (k * 3)).block, (a.add (k * 3)).off + 1, none⟩ = some (.slice d.a d.la.length d.ca) ∧ w'.cell? ⟨(a.add (k * 3)).block, (a.add (k * 3)).off + 2, none⟩ = some (.slice d.b d.lb.length d.cb) ∧ w'.cell? (a'.add (k * 3)) = some (.bool d'.neg) ∧ w'.cell? ⟨(a'.add (k * 3)).block, (a'.add (k * 3)).off + 1, none⟩ = some (.slice d'.a d'.la.length d'.ca) ∧ w'.cell? ⟨(a'.add (k * 3)).block, (a'.add (k * 3)).off + 2, none⟩ = some (.slice d'.b d'.lb.length d'.cb) ∧ Below w.heap.size w w') (((try go_split_ands); (try dsimp only); exact hS _ (by first | assumption | exact Below.alloc (by assumption) (show Below w.heap.size w _ by assumption).size _))) (first
          | (go_at_call 62; go_split_ands; (with_reducible refine (mulF_any (hfd.below (by assumption)) (hfe.below (by assumption)) hfd1.out hfe1.out hKK).mono ?_); rintro e w4 ⟨v4, rfl, ⟨n4, A4, c4, l4, B4, d4, m4, rfl, na4, nb4, iq4⟩, b4⟩; have iq4' := Lib.hid iq4; clear iq4; have hmk := Lib.hid iq4'.out.mk; have o4 := (show Below w.heap.size w _ by assumption).trans (b4.mono (show Below w.heap.size w _ by assumption).size); have hown4 := hownD.below b4; have hR4 := hRD.keep b4; have hbr4 := Nat.le_trans hbrD b4.size)
          | (refine step_appQ rfl _ _ rfl rfl w0.heap.size v os rfl (hown4.below ((Below.refl _ _).alloc (Nat.le_refl _) _)) ⟨w4.heap.size, 0, none⟩ 1 ⟨n4, A4, c4, l4, B4, d4, m4⟩ rfl (World.news_of_block (heap_alloc_new w4 _)) hos (by rw [World.size_alloc]; omega) ?_; intro v6 w6 ho6 hg6; have o6 := (o4.alloc o4.size (.cells #[.bool n4, .slice A4 l4.length c4, .slice B4 m4.length d4] 50)).grown hg6 (Nat.le_trans o4.size (by simp)) (fun g hg => Nat.le_trans (Nat.le_of_lt hlt0) (hown4.block hg))))
        have hallD : AllFV w4 os := fun x hx => ((hall'.out x hx).below (Below.refl _ _).drew).below b4
        have fv4 : FV w4 (FrD.v ⟨n4, A4, c4, l4, B4, d4, m4⟩) (FrD.q ⟨n4, A4, c4, l4, B4, d4, m4⟩) := ⟨n4, A4, c4, l4, B4, d4, m4, rfl, na4, nb4, by have := iq4'.out; rw [hmk.out] at this; exact this⟩
        have hall6 := Lib.hid (allFV_snoc hallD fv4 (hown4.below ((Below.refl _ _).alloc (Nat.le_refl _) _)) hg6)
        have hmap6 := Lib.hid (map_snoc (d := ⟨n4, A4, c4, l4, B4, d4, m4⟩) hmap.out (by rw [hpk.out, hmk.out]; rfl))
        have hR6 : Blk w6 w.heap.size 50 #[.bool false, .slice none 0 0, .slice none 0 0] := (hg6.block _ (by rw [World.size_alloc]; have := hR4.lt; omega) (fun e => by have := hown4.block e.symm; omega)).trans (hR4.keep ((Below.refl _ _).alloc (Nat.le_refl _) _))
        have hbr6 : w0.heap.size ≤ w6.heap.size := Nat.le_trans hbr4 (Nat.le_trans (by simp) hg6.size)
        clear hallD
        go_wp2
        go_roundw
        case rel => exact ⟨_, k + 1, _, rfl, by rw [hpl.out, hmn.out]; omega, by go_num, ho6, hall6.out, by rw [List.length_append, hol'.out]; rfl, hmap6, hR6, hbr6, o6⟩
        case measure => simp [intOf]; omega
      · obtain rfl : k = ds.length := by omega
        have hlt' : decide ((ds.length : Int) < (ds.length : Int)) = false := decide_eq_false (by omega)
        obtain ⟨B, cb, rfl, hfl⟩ := hown.fl hall'.out
        have hSr := Lib.hid (show sumR (os.map FrD.q) = r by rw [hmap.out, List.take_of_length_le (by rw [hpl.out, hmn.out]; exact Nat.le_refl _)]; exact hr.out)
        have hfo := Lib.hid (show ∀ d ∈ os, Fits (K + K) d.q from fun d hd => hqs.out _ (by
          have : d.q ∈ os.map FrD.q := List.mem_map.2 ⟨d, hd, rfl⟩
          rw [hmap.out] at this
          exact List.mem_of_mem_take this))
        have hbd : 1 + (os.length + 1) * (K + K + 1) < 400000000 := by
          have h1 : os.length ≤ ds.length := by rw [hol'.out]; omega
          have := Nat.mul_le_mul_right (K + K + 1) (show os.length + 1 ≤ ds.length + 1 by omega)
          omega
        go_wp2_with fail
        refine (sumF_any hfl hfo.out hbd).mono ?_
        rintro e w5 ⟨v5, rfl, ⟨n5, A5, c5, l5, B5, d5, m5, rfl, na5, nb5, iq5⟩, b5⟩
        rw [hSr.out] at iq5
        have iq5' := Lib.hid iq5
        clear iq5
        have hR5 := hRk.keep b5
        have b05 := hbel.trans (b5.mono hbel.size)
        have p0 := hR5.f0
        have p1 := hR5.f1
        have p2 := hR5.f2
        have q0 := hR5.free 0
        have q1 := hR5.free 1
        have q2 := hR5.free 2
        go_wp2
        obtain ⟨w9, hw9, hB9, o9⟩ := hR5.set3 (.bool n5) (.slice A5 l5.length c5) (.slice B5 m5.length d5)
        rw [hw9]
        have e0 := hB9.f0
        have e1 := hB9.f1
        have e2 := hB9.f2
        refine bodyPost_ret (v := fracV n5 A5 l5.length c5 B5 m5.length d5) (by simp [results, Try.results41, go_sem, e0, e1, e2]) rfl ?_
        exact ⟨_, rfl, ⟨n5, A5, c5, l5, B5, d5, m5, rfl, na5.only_blk hR5 (noDig3 _ _ _ _ _ _ _) o9, nb5.only_blk hR5 (noDig3 _ _ _ _ _ _ _) o9, iq5'.out⟩, o9.to_below b05 (Nat.le_refl _) b05.size⟩
end Go.Proofs.Ytkjmliebkbbogaa
