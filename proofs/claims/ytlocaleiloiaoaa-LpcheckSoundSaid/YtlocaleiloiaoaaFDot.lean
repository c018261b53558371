/- fraction.Dot: what the call does. -/
import Derived.Test.YtlocaleiloiaoaaApF
import Derived.Test.YtlocaleiloiaoaaFSum
import Derived.Test.YtlocaleiloiaoaaGDot
import Derived.Test.YtlocaleiloiaoaaFMul
namespace Go.Proofs.Ytlocaleiloiaoaa
set_option linter.unusedVariables false
set_option linter.unusedSimpArgs false
open Go.RowKit Plain
attribute [local go_sem ↓] Go.wp_at_zero Go.wp_at_succ

def AllFV (w : World) (os : List FrD) : Prop := ∀ d ∈ os, FV w d.v d.q
/-- The round: the slice holds the first products. -/
def DotInv (ps : List Rat) (w : World) (base : Nat) (v i j : Value) (wr : World) : Prop :=
  ∃ (u : Value) (k : Nat) (os : List FrD), u = v ∧ k ≤ ps.length ∧ j = .int .i64 (k : Int) ∧ OwnQ wr base u os ∧ AllFV wr os ∧ os.length = k ∧ Hid (os.map FrD.q = ps.take k) ∧
    Blk wr w.heap.size 29 #[.bool false, .slice none 0 0, .slice none 0 0] ∧ base ≤ wr.heap.size ∧ Below w.heap.size w wr
theorem map_snoc {os : List FrD} {ps : List Rat} {k : Nat} {d : FrD} (h : os.map FrD.q = ps.take k) (hk : ps[k]? = some d.q) : (os ++ [d]).map FrD.q = ps.take (k + 1) := by
  rw [List.map_append, h, List.take_add_one, hk]; rfl
theorem allFV_snoc {w4 w6 : World} {base : Nat} {v : Value} {os ds : List FrD} {o : Obj} {d : FrD} (h1 : AllFV w4 os) (h2 : FV w4 d.v d.q) (hown : OwnQ (w4.alloc o) base v ds) (hg : (w4.alloc o).grownBy w6 v.ownBlock) : AllFV w6 (os ++ [d]) := fun x hx => by
  have hb : Below w4.heap.size w4 (w4.alloc o) := (Below.refl _ _).alloc (Nat.le_refl _) o
  rcases List.mem_append.1 hx with h | h
  · exact ((h1 x h).below hb).row hown hg
  · simp at h; subst h
    exact (h2.below hb).row hown hg

set_option maxRecDepth 100000 in
set_option maxHeartbeats 4000000 in
theorem dotF_any {A E : Option Addr} {c ce K : Nat} {ds es : List FrD} {w : World} (h : FL w A c ds) (he : FL w E ce es) (hf : ∀ d ∈ ds, Fits K d.q) (hfe : ∀ d ∈ es, Fits K d.q) (hK : 1 + (ds.length + 1) * (K + K + 1) < 400000000) :
    Calls Try.prog 46 #[.slice A ds.length c, .slice E es.length ce] w (RetQ (sumR (prods ds es)) w) := by
  obtain ⟨w0, hw0, bw0, hlt0, hB0⟩ := boxed w #[.bool false, .slice none 0 0, .slice none 0 0] 29
  have hl := h.len
  have hle := he.len
  have hqs := Lib.hid (prods_fits hf hfe)
  have hfh := Lib.hid hf
  have hfeh := Lib.hid hfe
  obtain ⟨ps, hps⟩ : ∃ ps, Hid (prods ds es = ps) := ⟨_, rfl⟩
  have hpl := Lib.hid (prods_len ds es)
  rw [hps.out] at hpl hqs
  clear hf hfe
  obtain ⟨r, hr⟩ : ∃ r, Hid (sumR ps = r) := ⟨_, rfl⟩
  rw [hps.out, hr.out]
  rcases Nat.lt_or_ge es.length ds.length with hm | hm
  · have hmn := Lib.hid (show min ds.length es.length = es.length by omega)
    go_enter Try.func46, Try.ntmps46
    go_wp2
    go_loopw [5, 6, 12] (fun v i j wr => DotInv ps w w0.heap.size v i j wr) (fun _ _ j _ => es.length - (intOf j).toNat)
    case atStart => exact ⟨_, 0, [], rfl, by omega, rfl, OwnQ.nil _ _, fun d hd => by simp at hd, rfl, rfl, hB0, Nat.le_refl _, bw0⟩
    case round =>
      obtain ⟨v, k, os, rfl, hk, rfl, hown, hall, hol, hmap, hRk, hbr, hbel⟩ := hrel
      have hall' := Lib.hid hall
      have hol' := Lib.hid hol
      rw [hpl.out, hmn.out] at hk
      clear hall hol
      by_cases hkm : k < es.length
      · have hkd : k < ds.length := by omega
        have hke : k < es.length := by omega
        obtain ⟨a, d, rfl, hab, hc0, hc1, hc2, hfd, hdk⟩ := h.at hkd
        obtain ⟨a', d', rfl, hab', hc0', hc1', hc2', hfe, hek'⟩ := he.at hke
        have hfd1 := Lib.hid (hfh.out d (List.mem_of_getElem? hdk.out))
        have hfe1 := Lib.hid (hfeh.out d' (List.mem_of_getElem? hek'.out))
        have hpk := Lib.hid (show ps[k]? = some (d.q * d'.q) by rw [← hps.out]; exact prods_get hdk.out hek'.out)
        have bD : Below w.heap.size w wr.drew := hbel.drew
        have hki : (k : Int) < (ds.length : Int) := by omega
        have hkie : (k : Int) < (es.length : Int) := by omega
        have hKK : K + K ≤ 400000000 := by rw [Nat.add_mul] at hK; omega
        have hos : os.length + 1 ≤ 1000000000000 := by
          have h1 := hol'.out
          have h2 := Nat.le_mul_of_pos_right (ds.length + 1) (show 0 < K + K + 1 by omega)
          omega
        have hS : ∀ w', Below w.heap.size w w' → w'.cell? (a.add (k * 3)) = some (.bool d.neg) ∧ w'.cell? ⟨(a.add (k * 3)).block, (a.add (k * 3)).off + 1, none⟩ = some (.slice d.a d.la.length d.ca) ∧ w'.cell? ⟨(a.add (k * 3)).block, (a.add (k * 3)).off + 2, none⟩ = some (.slice d.b d.lb.length d.cb) ∧ w'.cell? (a'.add (k * 3)) = some (.bool d'.neg) ∧ w'.cell? ⟨(a'.add (k * 3)).block, (a'.add (k * 3)).off + 1, none⟩ = some (.slice d'.a d'.la.length d'.ca) ∧ w'.cell? ⟨(a'.add (k * 3)).block, (a'.add (k * 3)).off + 2, none⟩ = some (.slice d'.b d'.lb.length d'.cb) ∧ Below w.heap.size w w' := by
          intro w' o
          refine ⟨(o.cell (by rw [block_add]; exact hab)).trans hc0, (o.cell (by show (a.add (k * 3)).block < _; rw [block_add]; exact hab)).trans hc1, (o.cell (by show (a.add (k * 3)).block < _; rw [block_add]; exact hab)).trans hc2, (o.cell (by rw [block_add]; exact hab')).trans hc0', (o.cell (by show (a'.add (k * 3)).block < _; rw [block_add]; exact hab')).trans hc1', (o.cell (by show (a'.add (k * 3)).block < _; rw [block_add]; exact hab')).trans hc2', o⟩
        have hownD : OwnQ wr.drew w0.heap.size v os := hown
        have hRD : Blk wr.drew w.heap.size 29 #[.bool false, .slice none 0 0, .slice none 0 0] := hRk
        have hbrD : w0.heap.size ≤ wr.drew.heap.size := hbr
        clear hc0 hc1 hc2 hc0' hc1' hc2'
        go_wp2_with fail
        go_region_held3 (fun w' => w'.cell? (a.add (k * 3)) = some (.bool d.neg) ∧ w'.cell? ⟨(a.add (k * 3)).block, (a.add (k * 3)).off + 1, none⟩ = some (.slice d.a d.la.length d.ca) ∧ w'.cell? ⟨(a.add (k * 3)).block, (a.add (k * 3)).off + 2, none⟩ = some (.slice d.b d.lb.length d.cb) ∧ w'.cell? (a'.add (k * 3)) = some (.bool d'.neg) ∧ w'.cell? ⟨(a'.add (k * 3)).block, (a'.add (k * 3)).off + 1, none⟩ = some (.slice d'.a d'.la.length d'.ca) ∧ w'.cell? ⟨(a'.add (k * 3)).block, (a'.add (k * 3)).off + 2, none⟩ = some (.slice d'.b d'.lb.length d'.cb) ∧ Below w.heap.size w w') (((try go_split_ands); (try dsimp only); exact hS _ (by first | assumption | exact Below.alloc (by assumption) (show Below w.heap.size w _ by assumption).size _))) (first
          | (go_at_call 67; go_split_ands; (with_reducible refine (mulF_any (hfd.below (by assumption)) (hfe.below (by assumption)) hfd1.out hfe1.out hKK).mono ?_); rintro e w4 ⟨v4, rfl, ⟨n4, A4, c4, l4, B4, d4, m4, rfl, na4, nb4, iq4⟩, b4⟩; have iq4' := Lib.hid iq4; clear iq4; have hmk := Lib.hid iq4'.out.mk; have o4 := (show Below w.heap.size w _ by assumption).trans (b4.mono (show Below w.heap.size w _ by assumption).size); have hown4 := hownD.below b4; have hR4 := hRD.keep b4; have hbr4 := Nat.le_trans hbrD b4.size)
          | (refine step_appQ rfl _ _ rfl rfl w0.heap.size v os rfl (hown4.below ((Below.refl _ _).alloc (Nat.le_refl _) _)) ⟨w4.heap.size, 0, none⟩ 1 ⟨n4, A4, c4, l4, B4, d4, m4⟩ rfl (World.news_of_block (heap_alloc_new w4 _)) hos (by rw [World.size_alloc]; omega) ?_; intro v6 w6 ho6 hg6; have o6 := (o4.alloc o4.size (.cells #[.bool n4, .slice A4 l4.length c4, .slice B4 m4.length d4] 29)).grown hg6 (Nat.le_trans o4.size (by simp)) (fun g hg => Nat.le_trans (Nat.le_of_lt hlt0) (hown4.block hg))))
        have hallD : AllFV w4 os := fun x hx => ((hall'.out x hx).below (Below.refl _ _).drew).below b4
        have fv4 : FV w4 (FrD.v ⟨n4, A4, c4, l4, B4, d4, m4⟩) (FrD.q ⟨n4, A4, c4, l4, B4, d4, m4⟩) := ⟨n4, A4, c4, l4, B4, d4, m4, rfl, na4, nb4, by have := iq4'.out; rw [hmk.out] at this; exact this⟩
        have hall6 := Lib.hid (allFV_snoc hallD fv4 (hown4.below ((Below.refl _ _).alloc (Nat.le_refl _) _)) hg6)
        have hmap6 := Lib.hid (map_snoc (d := ⟨n4, A4, c4, l4, B4, d4, m4⟩) hmap.out (by rw [hpk.out, hmk.out]; rfl))
        have hR6 : Blk w6 w.heap.size 29 #[.bool false, .slice none 0 0, .slice none 0 0] := (hg6.block _ (by rw [World.size_alloc]; have := hR4.lt; omega) (fun e => by have := hown4.block e.symm; omega)).trans (hR4.keep ((Below.refl _ _).alloc (Nat.le_refl _) _))
        have hbr6 : w0.heap.size ≤ w6.heap.size := Nat.le_trans hbr4 (Nat.le_trans (by simp) hg6.size)
        clear hallD
        go_wp2
        go_roundw
        case rel => exact ⟨_, k + 1, _, rfl, by rw [hpl.out, hmn.out]; omega, by go_num, ho6, hall6.out, by rw [List.length_append, hol'.out]; rfl, hmap6, hR6, hbr6, o6⟩
        case measure => simp [intOf]; omega
      · obtain rfl : k = es.length := by omega
        have hlt' : decide ((es.length : Int) < (es.length : Int)) = false := decide_eq_false (by omega)
        obtain ⟨B, cb, rfl, hfl⟩ := hown.fl hall'.out
        have hSr := Lib.hid (show sumR (os.map FrD.q) = r by rw [hmap.out, List.take_of_length_le (by rw [hpl.out, hmn.out]; exact Nat.le_refl _)]; exact hr.out)
        have hfo := Lib.hid (show ∀ d ∈ os, Fits (K + K) d.q from fun d hd => hqs.out _ (by
          have : d.q ∈ os.map FrD.q := List.mem_map.2 ⟨d, hd, rfl⟩
          rw [hmap.out] at this
          exact List.mem_of_mem_take this))
        have hbd : 1 + (os.length + 1) * (K + K + 1) < 400000000 := by
          have h1 : os.length ≤ ds.length := by rw [hol'.out]; omega
          have := Nat.mul_le_mul_right (K + K + 1) (show os.length + 1 ≤ ds.length + 1 by omega)
          omega
        go_wp2_with fail
        refine (sumF_any hfl hfo.out hbd).mono ?_
        rintro e w5 ⟨v5, rfl, ⟨n5, A5, c5, l5, B5, d5, m5, rfl, na5, nb5, iq5⟩, b5⟩
        rw [hSr.out] at iq5
        have iq5' := Lib.hid iq5
        clear iq5
        have hR5 := hRk.keep b5
        have b05 := hbel.trans (b5.mono hbel.size)
        have p0 := hR5.f0
        have p1 := hR5.f1
        have p2 := hR5.f2
        have q0 := hR5.free 0
        have q1 := hR5.free 1
        have q2 := hR5.free 2
        go_wp2
        obtain ⟨w9, hw9, hB9, o9⟩ := hR5.set3 (.bool n5) (.slice A5 l5.length c5) (.slice B5 m5.length d5)
        rw [hw9]
        have e0 := hB9.f0
        have e1 := hB9.f1
        have e2 := hB9.f2
        refine bodyPost_ret (v := fracV n5 A5 l5.length c5 B5 m5.length d5) (by simp [results, Try.results46, go_sem, e0, e1, e2]) rfl ?_
        exact ⟨_, rfl, ⟨n5, A5, c5, l5, B5, d5, m5, rfl, na5.only_blk hR5 (noDig3 _ _ _ _ _ _ _) o9, nb5.only_blk hR5 (noDig3 _ _ _ _ _ _ _) o9, iq5'.out⟩, o9.to_below b05 (Nat.le_refl _) b05.size⟩
  · have hmn := Lib.hid (show min ds.length es.length = ds.length by omega)
    go_enter Try.func46, Try.ntmps46
    go_wp2
    go_loopw [5, 6, 12] (fun v i j wr => DotInv ps w w0.heap.size v i j wr) (fun _ _ j _ => ds.length - (intOf j).toNat)
    case atStart => exact ⟨_, 0, [], rfl, by omega, rfl, OwnQ.nil _ _, fun d hd => by simp at hd, rfl, rfl, hB0, Nat.le_refl _, bw0⟩
    case round =>
      obtain ⟨v, k, os, rfl, hk, rfl, hown, hall, hol, hmap, hRk, hbr, hbel⟩ := hrel
      have hall' := Lib.hid hall
      have hol' := Lib.hid hol
      rw [hpl.out, hmn.out] at hk
      clear hall hol
      by_cases hkm : k < ds.length
      · have hkd : k < ds.length := by omega
        have hke : k < es.length := by omega
        obtain ⟨a, d, rfl, hab, hc0, hc1, hc2, hfd, hdk⟩ := h.at hkd
        obtain ⟨a', d', rfl, hab', hc0', hc1', hc2', hfe, hek'⟩ := he.at hke
        have hfd1 := Lib.hid (hfh.out d (List.mem_of_getElem? hdk.out))
        have hfe1 := Lib.hid (hfeh.out d' (List.mem_of_getElem? hek'.out))
        have hpk := Lib.hid (show ps[k]? = some (d.q * d'.q) by rw [← hps.out]; exact prods_get hdk.out hek'.out)
        have bD : Below w.heap.size w wr.drew := hbel.drew
        have hki : (k : Int) < (ds.length : Int) := by omega
        have hkie : (k : Int) < (es.length : Int) := by omega
        have hKK : K + K ≤ 400000000 := by rw [Nat.add_mul] at hK; omega
        have hos : os.length + 1 ≤ 1000000000000 := by
          have h1 := hol'.out
          have h2 := Nat.le_mul_of_pos_right (ds.length + 1) (show 0 < K + K + 1 by omega)
          omega
        have hS : ∀ w', Below w.heap.size w w' → w'.cell? (a.add (k * 3)) = some (.bool d.neg) ∧ w'.cell? ⟨(a.add (k * 3)).block, (a.add (k * 3)).off + 1, none⟩ = some (.slice d.a d.la.length d.ca) ∧ w'.cell? ⟨(a.add (k * 3)).block, (a.add (k * 3)).off + 2, none⟩ = some (.slice d.b d.lb.length d.cb) ∧ w'.cell? (a'.add (k * 3)) = some (.bool d'.neg) ∧ w'.cell? ⟨(a'.add (k * 3)).block, (a'.add (k * 3)).off + 1, none⟩ = some (.slice d'.a d'.la.length d'.ca) ∧ w'.cell? ⟨(a'.add (k * 3)).block, (a'.add (k * 3)).off + 2, none⟩ = some (.slice d'.b d'.lb.length d'.cb) ∧ Below w.heap.size w w' := by
          intro w' o
          refine ⟨(o.cell (by rw [block_add]; exact hab)).trans hc0, (o.cell (by show (a.add (k * 3)).block < _; rw [block_add]; exact hab)).trans hc1, (o.cell (by show (a.add (k * 3)).block < _; rw [block_add]; exact hab)).trans hc2, (o.cell (by rw [block_add]; exact hab')).trans hc0', (o.cell (by show (a'.add (k * 3)).block < _; rw [block_add]; exact hab')).trans hc1', (o.cell (by show (a'.add (k * 3)).block < _; rw [block_add]; exact hab')).trans hc2', o⟩
        have hownD : OwnQ wr.drew w0.heap.size v os := hown
        have hRD : Blk wr.drew w.heap.size 29 #[.bool false, .slice none 0 0, .slice none 0 0] := hRk
        have hbrD : w0.heap.size ≤ wr.drew.heap.size := hbr
        clear hc0 hc1 hc2 hc0' hc1' hc2'
        go_wp2_with fail
        go_region_held3 (fun w' => w'.cell? (a.add (k * 3)) = some (.bool d.neg) ∧ w'.cell? ⟨(a.add (k * 3)).block, (a.add (k * 3)).off + 1, none⟩ = some (.slice d.a d.la.length d.ca) ∧ w'.cell? ⟨(a.add (k * 3)).block, (a.add (k * 3)).off + 2, none⟩ = some (.slice d.b d.lb.length d.cb) ∧ w'.cell? (a'.add (k * 3)) = some (.bool d'.neg) ∧ w'.cell? ⟨(a'.add (k * 3)).block, (a'.add (k * 3)).off + 1, none⟩ = some (.slice d'.a d'.la.length d'.ca) ∧ w'.cell? ⟨(a'.add (k * 3)).block, (a'.add (k * 3)).off + 2, none⟩ = some (.slice d'.b d'.lb.length d'.cb) ∧ Below w.heap.size w w') (((try go_split_ands); (try dsimp only); exact hS _ (by first | assumption | exact Below.alloc (by assumption) (show Below w.heap.size w _ by assumption).size _))) (first
          | (go_at_call 67; go_split_ands; (with_reducible refine (mulF_any (hfd.below (by assumption)) (hfe.below (by assumption)) hfd1.out hfe1.out hKK).mono ?_); rintro e w4 ⟨v4, rfl, ⟨n4, A4, c4, l4, B4, d4, m4, rfl, na4, nb4, iq4⟩, b4⟩; have iq4' := Lib.hid iq4; clear iq4; have hmk := Lib.hid iq4'.out.mk; have o4 := (show Below w.heap.size w _ by assumption).trans (b4.mono (show Below w.heap.size w _ by assumption).size); have hown4 := hownD.below b4; have hR4 := hRD.keep b4; have hbr4 := Nat.le_trans hbrD b4.size)
          | (refine step_appQ rfl _ _ rfl rfl w0.heap.size v os rfl (hown4.below ((Below.refl _ _).alloc (Nat.le_refl _) _)) ⟨w4.heap.size, 0, none⟩ 1 ⟨n4, A4, c4, l4, B4, d4, m4⟩ rfl (World.news_of_block (heap_alloc_new w4 _)) hos (by rw [World.size_alloc]; omega) ?_; intro v6 w6 ho6 hg6; have o6 := (o4.alloc o4.size (.cells #[.bool n4, .slice A4 l4.length c4, .slice B4 m4.length d4] 29)).grown hg6 (Nat.le_trans o4.size (by simp)) (fun g hg => Nat.le_trans (Nat.le_of_lt hlt0) (hown4.block hg))))
        have hallD : AllFV w4 os := fun x hx => ((hall'.out x hx).below (Below.refl _ _).drew).below b4
        have fv4 : FV w4 (FrD.v ⟨n4, A4, c4, l4, B4, d4, m4⟩) (FrD.q ⟨n4, A4, c4, l4, B4, d4, m4⟩) := ⟨n4, A4, c4, l4, B4, d4, m4, rfl, na4, nb4, by have := iq4'.out; rw [hmk.out] at this; exact this⟩
        have hall6 := Lib.hid (allFV_snoc hallD fv4 (hown4.below ((Below.refl _ _).alloc (Nat.le_refl _) _)) hg6)
        have hmap6 := Lib.hid (map_snoc (d := ⟨n4, A4, c4, l4, B4, d4, m4⟩) hmap.out (by rw [hpk.out, hmk.out]; rfl))
        have hR6 : Blk w6 w.heap.size 29 #[.bool false, .slice none 0 0, .slice none 0 0] := (hg6.block _ (by rw [World.size_alloc]; have := hR4.lt; omega) (fun e => by have := hown4.block e.symm; omega)).trans (hR4.keep ((Below.refl _ _).alloc (Nat.le_refl _) _))
        have hbr6 : w0.heap.size ≤ w6.heap.size := Nat.le_trans hbr4 (Nat.le_trans (by simp) hg6.size)
        clear hallD
        go_wp2
        go_roundw
        case rel => exact ⟨_, k + 1, _, rfl, by rw [hpl.out, hmn.out]; omega, by go_num, ho6, hall6.out, by rw [List.length_append, hol'.out]; rfl, hmap6, hR6, hbr6, o6⟩
        case measure => simp [intOf]; omega
      · obtain rfl : k = ds.length := by omega
        have hlt' : decide ((ds.length : Int) < (ds.length : Int)) = false := decide_eq_false (by omega)
        obtain ⟨B, cb, rfl, hfl⟩ := hown.fl hall'.out
        have hSr := Lib.hid (show sumR (os.map FrD.q) = r by rw [hmap.out, List.take_of_length_le (by rw [hpl.out, hmn.out]; exact Nat.le_refl _)]; exact hr.out)
        have hfo := Lib.hid (show ∀ d ∈ os, Fits (K + K) d.q from fun d hd => hqs.out _ (by
          have : d.q ∈ os.map FrD.q := List.mem_map.2 ⟨d, hd, rfl⟩
          rw [hmap.out] at this
          exact List.mem_of_mem_take this))
        have hbd : 1 + (os.length + 1) * (K + K + 1) < 400000000 := by
          have h1 : os.length ≤ ds.length := by rw [hol'.out]; omega
          have := Nat.mul_le_mul_right (K + K + 1) (show os.length + 1 ≤ ds.length + 1 by omega)
          omega
        go_wp2_with fail
        refine (sumF_any hfl hfo.out hbd).mono ?_
        rintro e w5 ⟨v5, rfl, ⟨n5, A5, c5, l5, B5, d5, m5, rfl, na5, nb5, iq5⟩, b5⟩
        rw [hSr.out] at iq5
        have iq5' := Lib.hid iq5
        clear iq5
        have hR5 := hRk.keep b5
        have b05 := hbel.trans (b5.mono hbel.size)
        have p0 := hR5.f0
        have p1 := hR5.f1
        have p2 := hR5.f2
        have q0 := hR5.free 0
        have q1 := hR5.free 1
        have q2 := hR5.free 2
        go_wp2
        obtain ⟨w9, hw9, hB9, o9⟩ := hR5.set3 (.bool n5) (.slice A5 l5.length c5) (.slice B5 m5.length d5)
        rw [hw9]
        have e0 := hB9.f0
        have e1 := hB9.f1
        have e2 := hB9.f2
        refine bodyPost_ret (v := fracV n5 A5 l5.length c5 B5 m5.length d5) (by simp [results, Try.results46, go_sem, e0, e1, e2]) rfl ?_
        exact ⟨_, rfl, ⟨n5, A5, c5, l5, B5, d5, m5, rfl, na5.only_blk hR5 (noDig3 _ _ _ _ _ _ _) o9, nb5.only_blk hR5 (noDig3 _ _ _ _ _ _ _) o9, iq5'.out⟩, o9.to_below b05 (Nat.le_refl _) b05.size⟩
end Go.Proofs.Ytlocaleiloiaoaa
