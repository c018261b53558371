/- Contracts of functions, for the law. -/
import Derived.Test.YtjhkapjadfpimaaWTrim
import Derived.Test.YtjhkapjadfpimaaMSame
import Derived.Test.YtjhkapjadfpimaaFL
import Derived.Test.YtjhkapjadfpimaaMSmall
import Derived.Deep.RegionHeld3
namespace Go.Proofs.Ytjhkapjadfpimaa
set_option linter.unusedVariables false
set_option linter.unusedSimpArgs false
open Go.RowKit Plain
attribute [local go_sem ↓] Go.wp_at_zero Go.wp_at_succ
set_option maxRecDepth 100000 in
set_option maxHeartbeats 4000000 in
theorem sameL_any {A B:Option Addr} {ca cb:Nat} {ds es:List FrD} {w:World} (ha:FL w A ca ds) (hb:FL w B cb es) :
 Calls Try.prog 19 #[.slice A ds.length ca,.slice B es.length cb] w (RetB (decide (ds.map FrD.q=es.map FrD.q)) w):=by
 have g1:=ha.len;have g2:=hb.len;obtain ⟨v,hv⟩:∃ v,Hid (decide (ds.map FrD.q=es.map FrD.q)=v):=⟨_,rfl⟩;rw [hv.out]
 by_cases hl:ds.length=es.length
 · have hne:(((ds.length:Nat):Int) != ((es.length:Nat):Int))=false:=by rw [bne_eq_false_iff_eq];omega
   have hl':=Lib.hid hl;have hle:ds.length≤es.length:=by omega
   clear hl;go_enter Try.func19,Try.ntmps19;go_wp2
   go_loopw [5] (fun i wr=>PairInv (ds.map FrD.q) (es.map FrD.q) w i wr) (fun i _=>ds.length - (intOf i).toNat)
   case atStart=>exact ⟨0,by omega,rfl,rfl,Below.refl _ _⟩
   case round =>
    obtain ⟨k,hk,rfl,hdd,hbel⟩:=hrel;rw [List.length_map] at hk
    by_cases hkl:k < ds.length
    · obtain ⟨a,d,rfl,hab,hc0,hc1,hc2,fa,hdk⟩:=(ha.below hbel).at (k:=k) hkl;obtain ⟨b,f,rfl,hbb,hd0,hd1,hd2,fb,hek⟩:=(hb.below hbel).at (k:=k) (by omega);have hki:(k:Int) < (ds.length:Int):=by omega
      have hkj:(k:Int) < (es.length:Int):=by omega
      have x1:=Lib.hid (map_some (f:=FrD.q) hdk.out);have x2:=Lib.hid (map_some (f:=FrD.q) hek.out);obtain ⟨qb,hqb⟩:∃ b,Hid (decide (d.q=f.q)=b):=⟨_,rfl⟩;have bT:=Below.refl wr.heap.size wr
      have hS:∀ w',Below wr.heap.size wr w'→w'.cell? (a.add (k*3))=some (.bool d.neg)∧w'.cell? ⟨(a.add (k*3)).block,(a.add (k*3)).off+1,none⟩=some (.slice d.a d.la.length d.ca)∧w'.cell? ⟨(a.add (k*3)).block,(a.add (k*3)).off+2,none⟩=some (.slice d.b d.lb.length d.cb)∧w'.cell? (b.add (k*3))=some (.bool f.neg)∧w'.cell? ⟨(b.add (k*3)).block,(b.add (k*3)).off+1,none⟩=some (.slice f.a f.la.length f.ca)∧w'.cell? ⟨(b.add (k*3)).block,(b.add (k*3)).off+2,none⟩=some (.slice f.b f.lb.length f.cb)∧Below wr.heap.size wr w':=by
       intro w' o;exact ⟨(o.cell (by show (a.add (k*3)).block < _;rw [block_add];exact hab)).trans hc0,(o.cell (by show (a.add (k*3)).block < _;rw [block_add];exact hab)).trans hc1,(o.cell (by show (a.add (k*3)).block < _;rw [block_add];exact hab)).trans hc2,(o.cell (by show (b.add (k*3)).block < _;rw [block_add];exact hbb)).trans hd0,(o.cell (by show (b.add (k*3)).block < _;rw [block_add];exact hbb)).trans hd1,(o.cell (by show (b.add (k*3)).block < _;rw [block_add];exact hbb)).trans hd2,o⟩
      have bo:Below wr.heap.size wr wr:=Below.refl _ _;have dS:Below wr.heap.size wr wr.drew:=bo.drew;go_wp2_with fail;refine wp_region_noPanic ?_;refine wp_region_held_drew (S:=fun w'=>w'.cell? (a.add (k*3))=some (.bool d.neg)∧w'.cell? ⟨(a.add (k*3)).block,(a.add (k*3)).off+1,none⟩=some (.slice d.a d.la.length d.ca)∧w'.cell? ⟨(a.add (k*3)).block,(a.add (k*3)).off+2,none⟩=some (.slice d.b d.lb.length d.cb)∧w'.cell? (b.add (k*3))=some (.bool f.neg)∧w'.cell? ⟨(b.add (k*3)).block,(b.add (k*3)).off+1,none⟩=some (.slice f.a f.la.length f.ca)∧w'.cell? ⟨(b.add (k*3)).block,(b.add (k*3)).off+2,none⟩=some (.slice f.b f.lb.length f.cb)∧Below wr.heap.size wr w') (by kernel_rfl) (hS _ dS) (fun hHeld=>?_);refine tkH 0 rfl hHeld ?_;refine tkH 1 rfl hHeld ?_;refine tkH 2 rfl hHeld ?_;refine tkH 3 rfl hHeld ?_;refine tkH 4 rfl hHeld ?_;refine tkH 5 rfl hHeld ?_;refine tkH 6 rfl hHeld ?_;refine tkH 7 rfl hHeld ?_;refine rdH 8 rfl fun K hK=>?_;go_simp;have dw0:Below wr.heap.size wr wr.drew:=(Below.refl _ _).drew;replace fa:=fa.below dw0;replace fb:=fb.below dw0;replace bT:=bT.trans (dw0.mono bT.size);replace bo:=bo.trans (dw0.mono bo.size);go_at_call 20;refine (sameQ_any fa fb).mono ?_;rintro e u1 ⟨rfl,bu1⟩;replace fa:=fa.below bu1;replace fb:=fb.below bu1;replace bT:=bT.trans (bu1.mono bT.size);replace bo:=bo.trans (bu1.mono bo.size);rw [hqb.out]
      go_wp2_with fail;refine hK.out _ _ (hS _ bo) (fun hHeld=>?_);clear hK K;(try simp only [lay]);refine tkH 9 rfl hHeld ?_;refine wpAnyH_done (by kernel_rfl) ?_ _;refine NoPanic.normal ?_;(try go_simp);clear hHeld;clear hS dS bo
      rcases qb with _ | _
      · have hf:Hid (v=false):=by show v=false;rw [←hv.out];exact decide_eq_false (pair_no x1.out x2.out (of_decide_eq_false hqb.out))
        go_wp2;go_ret;exact ⟨by rw [hf.out];rfl,hbel.trans (bT.mono hbel.size)⟩
      · have hf:=Lib.hid (pair_take hdd.out x1.out (by rw [x2.out,of_decide_eq_true hqb.out]));go_wp2;go_roundw
        case rel=>exact ⟨k+1,by rw [List.length_map];omega,by go_num,hf,hbel.trans (bT.mono hbel.size)⟩
        case measure=>simp [intOf];omega
    · obtain rfl:k=ds.length:=by omega
      have hlt':decide ((ds.length:Int) < (ds.length:Int))=false:=decide_eq_false (by omega)
      have hf:Hid (v=true):=by
       show v=true
       rw [←hv.out,decide_eq_true_eq];have:=hdd.out;rw [List.take_of_length_le (by simp),List.take_of_length_le (by simp;have:=hl'.out;omega)] at this;exact this
      go_wp2;go_ret;exact ⟨by rw [hf.out];rfl,hbel⟩
 · have hne:(((ds.length:Nat):Int) != ((es.length:Nat):Int))=true:=by rw [bne_iff_ne];omega
   have hf:Hid (v=false):=by show v=false;rw [←hv.out];exact decide_eq_false fun e=>hl (by rw [←List.length_map (f:=FrD.q),e,List.length_map])
   clear hl;go_enter Try.func19,Try.ntmps19;go_wp2;go_ret;exact ⟨by rw [hf.out];rfl,Below.refl _ _⟩
end Go.Proofs.Ytjhkapjadfpimaa
