/- Contracts of functions, for the law. -/
import Derived.Test.YtjhkapjadfpimaaPLp
import Derived.Test.YtjhkapjadfpimaaFSum
import Derived.Test.YtjhkapjadfpimaaFMul
import Derived.Test.YtjhkapjadfpimaaMSmall
import Derived.Laws.MakeOwn
namespace Go.Proofs.Ytjhkapjadfpimaa
set_option linter.unusedVariables false
set_option linter.unusedSimpArgs false
open Go.RowKit Plain
attribute [local go_sem ↓] Go.wp_at_zero Go.wp_at_succ
def AllFV (w:World) (os:List FrD):Prop:=∀ d∈os,FV w d.v d.q
def DotInv (ps:List Rat) (w:World) (base:Nat) (v i j:Value) (wr:World):Prop :=
 ∃ (u:Value) (k:Nat) (os:List FrD),u=v∧k≤ps.length∧j=.int .i64 (k:Int)∧OwnQ wr base u os∧AllFV wr os∧os.length=k∧Hid (os.map FrD.q=ps.take k) ∧
  Blk wr w.heap.size 28 #[.bool false,.slice none 0 0,.slice none 0 0]∧base≤wr.heap.size∧Below w.heap.size w wr
theorem map_snoc {os:List FrD}{ps:List Rat}{k:Nat}{d:FrD}(h:os.map FrD.q=ps.take k) (hk:ps[k]?=some d.q):(os++[d]).map FrD.q=ps.take (k+1):=by
 rw[List.map_append,h,List.take_add_one,hk];rfl
theorem allFV_snoc {w4 w6:World}{base:Nat}{v:Value}{os ds:List FrD}{o:Obj}{d:FrD}(h1:AllFV w4 os) (h2:FV w4 d.v d.q) (hown:OwnQ (w4.alloc o) base v ds) (hg:(w4.alloc o).grownBy w6 v.ownBlock):AllFV w6 (os++[d]):=fun x hx=>by
 have hb:Below w4.heap.size w4 (w4.alloc o):=(Below.refl _ _).alloc (Nat.le_refl _) o
 rcases List.mem_append.1 hx with h | h
 · exact ((h1 x h).below hb).row hown hg
 · simp at h;subst h
   exact (h2.below hb).row hown hg
set_option maxRecDepth 100000 in
set_option maxHeartbeats 4000000 in
theorem dotF_any {A E:Option Addr}{c ce K:Nat}{ds es:List FrD}{w:World}(h:FL w A c ds) (he:FL w E ce es) (hf:∀ d∈ds,Fits K d.q) (hfe:∀ d∈es,Fits K d.q) (hK:1+(ds.length+1)*(K+K+1)<400000000) :
 Calls Try.prog 85 #[.slice A ds.length c,.slice E es.length ce] w (RetQ (sumR (prods ds es)) w):=by
 obtain⟨w0,hw0,bw0,hlt0,hB0⟩:=boxed w #[.bool false,.slice none 0 0,.slice none 0 0] 28;have hl:=h.len;have hle:=he.len;have hqs:=Lib.hid (prods_fits hf hfe);have hfh:=Lib.hid hf;have hfeh:=Lib.hid hfe;obtain⟨ps,hps⟩:∃ ps,Hid (prods ds es=ps):=⟨_,rfl⟩;have hpl:=Lib.hid (prods_len ds es);rw[hps.out] at hpl hqs;clear hf hfe;obtain⟨r,hr⟩:∃ r,Hid (sumR ps=r):=⟨_,rfl⟩;rw[hps.out,hr.out]
 rcases Nat.lt_or_ge es.length ds.length with hm | hm
 · have hmn:=Lib.hid (show min ds.length es.length=es.length by omega);go_enter Try.func85,Try.ntmps85;go_wp2
   go_loopw [5,6,12] (fun v i j wr=>DotInv ps w w0.heap.size v i j wr) (fun _ _ j _=>es.length-(intOf j).toNat)
   case atStart=>exact⟨_,0,[],rfl,by omega,rfl,OwnQ.nil _ _,fun d hd=>by simp at hd,rfl,rfl,hB0,Nat.le_refl _,bw0⟩
   case round =>
    obtain⟨v,k,os,rfl,hk,rfl,hown,hall,hol,hmap,hRk,hbr,hbel⟩:=hrel;have hall':=Lib.hid hall;have hol':=Lib.hid hol;rw[hpl.out,hmn.out] at hk;clear hall hol
    by_cases hkm:k<es.length
    · have hkd:k<ds.length:=by omega
      have hke:k<es.length:=by omega
      obtain⟨a,d,rfl,hab,hc0,hc1,hc2,hfd,hdk⟩:=h.at hkd;obtain⟨a',d',rfl,hab',hc0',hc1',hc2',hfe,hek'⟩:=he.at hke;have hfd1:=Lib.hid (hfh.out d (List.mem_of_getElem? hdk.out));have hfe1:=Lib.hid (hfeh.out d' (List.mem_of_getElem? hek'.out));have hpk:=Lib.hid (show ps[k]?=some (d.q*d'.q) by rw[←hps.out];exact prods_get hdk.out hek'.out);have bD:Below w.heap.size w wr.drew:=hbel.drew;have hki:(k:Int)<(ds.length:Int):=by omega
      have hkie:(k:Int)<(es.length:Int):=by omega
      have hKK:K+K≤400000000:=by rw[Nat.add_mul] at hK;omega
      have hos:os.length+1≤1000000000000:=by
       have h1:=hol'.out;have h2:=Nat.le_mul_of_pos_right (ds.length+1) (show 0<K+K+1 by omega);omega
      have hS:∀ w',Below w.heap.size w w'→w'.cell? (a.add (k*3))=some (.bool d.neg)∧w'.cell? ⟨(a.add (k*3)).block,(a.add (k*3)).off+1,none⟩=some (.slice d.a d.la.length d.ca)∧w'.cell? ⟨(a.add (k*3)).block,(a.add (k*3)).off+2,none⟩=some (.slice d.b d.lb.length d.cb)∧w'.cell? (a'.add (k*3))=some (.bool d'.neg)∧w'.cell? ⟨(a'.add (k*3)).block,(a'.add (k*3)).off+1,none⟩=some (.slice d'.a d'.la.length d'.ca)∧w'.cell? ⟨(a'.add (k*3)).block,(a'.add (k*3)).off+2,none⟩=some (.slice d'.b d'.lb.length d'.cb)∧Below w.heap.size w w':=by
       intro w' o;refine⟨(o.cell (by rw[block_add];exact hab)).trans hc0,(o.cell (by show (a.add (k*3)).block<_;rw[block_add];exact hab)).trans hc1,(o.cell (by show (a.add (k*3)).block<_;rw[block_add];exact hab)).trans hc2,(o.cell (by rw[block_add];exact hab')).trans hc0',(o.cell (by show (a'.add (k*3)).block<_;rw[block_add];exact hab')).trans hc1',(o.cell (by show (a'.add (k*3)).block<_;rw[block_add];exact hab')).trans hc2',o⟩
      have hownD:OwnQ wr.drew w0.heap.size v os:=hown;have hRD:Blk wr.drew w.heap.size 28 #[.bool false,.slice none 0 0,.slice none 0 0]:=hRk;have hbrD:w0.heap.size≤wr.drew.heap.size:=hbr;clear hc0 hc1 hc2 hc0' hc1' hc2';go_wp2_with fail
      go_region_held3 (fun w'=>w'.cell? (a.add (k*3))=some (.bool d.neg)∧w'.cell? ⟨(a.add (k*3)).block,(a.add (k*3)).off+1,none⟩=some (.slice d.a d.la.length d.ca)∧w'.cell? ⟨(a.add (k*3)).block,(a.add (k*3)).off+2,none⟩=some (.slice d.b d.lb.length d.cb)∧w'.cell? (a'.add (k*3))=some (.bool d'.neg)∧w'.cell? ⟨(a'.add (k*3)).block,(a'.add (k*3)).off+1,none⟩=some (.slice d'.a d'.la.length d'.ca)∧w'.cell? ⟨(a'.add (k*3)).block,(a'.add (k*3)).off+2,none⟩=some (.slice d'.b d'.lb.length d'.cb)∧Below w.heap.size w w') (((try go_split_ands);(try dsimp only);exact hS _ (by first | assumption | exact Below.alloc (by assumption) (show Below w.heap.size w _ by assumption).size _))) (first
       | (go_at_call 42;go_split_ands;(with_reducible refine (mulF_any (hfd.below (by assumption)) (hfe.below (by assumption)) hfd1.out hfe1.out hKK).mono ?_);rintro e w4 ⟨v4,rfl,⟨n4,A4,c4,l4,B4,d4,m4,rfl,na4,nb4,iq4⟩,b4⟩;have iq4':=Lib.hid iq4;clear iq4;have hmk:=Lib.hid iq4'.out.mk;have o4:=(show Below w.heap.size w _ by assumption).trans (b4.mono (show Below w.heap.size w _ by assumption).size);have hown4:=hownD.below b4;have hR4:=hRD.keep b4;have hbr4:=Nat.le_trans hbrD b4.size)
       | (refine step_appQ rfl _ _ rfl rfl w0.heap.size v os rfl (hown4.below ((Below.refl _ _).alloc (Nat.le_refl _) _)) ⟨w4.heap.size,0,none⟩ 1 ⟨n4,A4,c4,l4,B4,d4,m4⟩ rfl (World.news_of_block (heap_alloc_new w4 _)) hos (by rw[World.size_alloc];omega) ?_;intro v6 w6 ho6 hg6;have o6:=(o4.alloc o4.size (.cells #[.bool n4,.slice A4 l4.length c4,.slice B4 m4.length d4] 28)).grown hg6 (Nat.le_trans o4.size (by simp)) (fun g hg=>Nat.le_trans (Nat.le_of_lt hlt0) (hown4.block hg))))
      have hallD:AllFV w4 os:=fun x hx=>((hall'.out x hx).below (Below.refl _ _).drew).below b4;have fv4:FV w4 (FrD.v ⟨n4,A4,c4,l4,B4,d4,m4⟩) (FrD.q ⟨n4,A4,c4,l4,B4,d4,m4⟩):=⟨n4,A4,c4,l4,B4,d4,m4,rfl,na4,nb4,by have:=iq4'.out;rw[hmk.out] at this;exact this⟩;have hall6:=Lib.hid (allFV_snoc hallD fv4 (hown4.below ((Below.refl _ _).alloc (Nat.le_refl _) _)) hg6);have hmap6:=Lib.hid (map_snoc (d:=⟨n4,A4,c4,l4,B4,d4,m4⟩) hmap.out (by rw[hpk.out,hmk.out];rfl));have hR6:Blk w6 w.heap.size 28 #[.bool false,.slice none 0 0,.slice none 0 0]:=(hg6.block _ (by rw[World.size_alloc];have:=hR4.lt;omega) (fun e=>by have:=hown4.block e.symm;omega)).trans (hR4.keep ((Below.refl _ _).alloc (Nat.le_refl _) _));have hbr6:w0.heap.size≤w6.heap.size:=Nat.le_trans hbr4 (Nat.le_trans (by simp) hg6.size);clear hallD;go_wp2;go_roundw
      case rel=>exact⟨_,k+1,_,rfl,by rw[hpl.out,hmn.out];omega,by go_num,ho6,hall6.out,by rw[List.length_append,hol'.out];rfl,hmap6,hR6,hbr6,o6⟩
      case measure=>simp[intOf];omega
    · obtain rfl:k=es.length:=by omega
      have hlt':decide ((es.length:Int)<(es.length:Int))=false:=decide_eq_false (by omega);obtain⟨B,cb,rfl,hfl⟩:=hown.fl hall'.out;have hSr:=Lib.hid (show sumR (os.map FrD.q)=r by rw[hmap.out,List.take_of_length_le (by rw[hpl.out,hmn.out];exact Nat.le_refl _)];exact hr.out)
      have hfo:=Lib.hid (show ∀ d∈os,Fits (K+K) d.q from fun d hd=>hqs.out _ (by
       have:d.q∈os.map FrD.q:=List.mem_map.2 ⟨d,hd,rfl⟩;rw[hmap.out] at this;exact List.mem_of_mem_take this))
      have hbd:1+(os.length+1)*(K+K+1)<400000000:=by
       have h1:os.length≤ds.length:=by rw[hol'.out];omega
       have:=Nat.mul_le_mul_right (K+K+1) (show os.length+1≤ds.length+1 by omega);omega
      go_wp2_with fail;refine (sumF_any hfl hfo.out hbd).mono ?_;rintro e w5 ⟨v5,rfl,⟨n5,A5,c5,l5,B5,d5,m5,rfl,na5,nb5,iq5⟩,b5⟩;rw[hSr.out] at iq5;have iq5':=Lib.hid iq5;clear iq5;have hR5:=hRk.keep b5;have b05:=hbel.trans (b5.mono hbel.size);have p0:=hR5.f0;have p1:=hR5.f1;have p2:=hR5.f2;have q0:=hR5.free 0;have q1:=hR5.free 1;have q2:=hR5.free 2;go_wp2;obtain⟨w9,hw9,hB9,o9⟩:=hR5.set3 (.bool n5) (.slice A5 l5.length c5) (.slice B5 m5.length d5);rw[hw9];have e0:=hB9.f0;have e1:=hB9.f1;have e2:=hB9.f2;refine bodyPost_ret (v:=fracV n5 A5 l5.length c5 B5 m5.length d5) (by simp[results,Try.results85,go_sem,e0,e1,e2]) rfl ?_;exact⟨_,rfl,⟨n5,A5,c5,l5,B5,d5,m5,rfl,na5.only_blk hR5 (noDig3 _ _ _ _ _ _ _) o9,nb5.only_blk hR5 (noDig3 _ _ _ _ _ _ _) o9,iq5'.out⟩,o9.to_below b05 (Nat.le_refl _) b05.size⟩
 · have hmn:=Lib.hid (show min ds.length es.length=ds.length by omega);go_enter Try.func85,Try.ntmps85;go_wp2
   go_loopw [5,6,12] (fun v i j wr=>DotInv ps w w0.heap.size v i j wr) (fun _ _ j _=>ds.length-(intOf j).toNat)
   case atStart=>exact⟨_,0,[],rfl,by omega,rfl,OwnQ.nil _ _,fun d hd=>by simp at hd,rfl,rfl,hB0,Nat.le_refl _,bw0⟩
   case round =>
    obtain⟨v,k,os,rfl,hk,rfl,hown,hall,hol,hmap,hRk,hbr,hbel⟩:=hrel;have hall':=Lib.hid hall;have hol':=Lib.hid hol;rw[hpl.out,hmn.out] at hk;clear hall hol
    by_cases hkm:k<ds.length
    · have hkd:k<ds.length:=by omega
      have hke:k<es.length:=by omega
      obtain⟨a,d,rfl,hab,hc0,hc1,hc2,hfd,hdk⟩:=h.at hkd;obtain⟨a',d',rfl,hab',hc0',hc1',hc2',hfe,hek'⟩:=he.at hke;have hfd1:=Lib.hid (hfh.out d (List.mem_of_getElem? hdk.out));have hfe1:=Lib.hid (hfeh.out d' (List.mem_of_getElem? hek'.out));have hpk:=Lib.hid (show ps[k]?=some (d.q*d'.q) by rw[←hps.out];exact prods_get hdk.out hek'.out);have bD:Below w.heap.size w wr.drew:=hbel.drew;have hki:(k:Int)<(ds.length:Int):=by omega
      have hkie:(k:Int)<(es.length:Int):=by omega
      have hKK:K+K≤400000000:=by rw[Nat.add_mul] at hK;omega
      have hos:os.length+1≤1000000000000:=by
       have h1:=hol'.out;have h2:=Nat.le_mul_of_pos_right (ds.length+1) (show 0<K+K+1 by omega);omega
      have hS:∀ w',Below w.heap.size w w'→w'.cell? (a.add (k*3))=some (.bool d.neg)∧w'.cell? ⟨(a.add (k*3)).block,(a.add (k*3)).off+1,none⟩=some (.slice d.a d.la.length d.ca)∧w'.cell? ⟨(a.add (k*3)).block,(a.add (k*3)).off+2,none⟩=some (.slice d.b d.lb.length d.cb)∧w'.cell? (a'.add (k*3))=some (.bool d'.neg)∧w'.cell? ⟨(a'.add (k*3)).block,(a'.add (k*3)).off+1,none⟩=some (.slice d'.a d'.la.length d'.ca)∧w'.cell? ⟨(a'.add (k*3)).block,(a'.add (k*3)).off+2,none⟩=some (.slice d'.b d'.lb.length d'.cb)∧Below w.heap.size w w':=by
       intro w' o;refine⟨(o.cell (by rw[block_add];exact hab)).trans hc0,(o.cell (by show (a.add (k*3)).block<_;rw[block_add];exact hab)).trans hc1,(o.cell (by show (a.add (k*3)).block<_;rw[block_add];exact hab)).trans hc2,(o.cell (by rw[block_add];exact hab')).trans hc0',(o.cell (by show (a'.add (k*3)).block<_;rw[block_add];exact hab')).trans hc1',(o.cell (by show (a'.add (k*3)).block<_;rw[block_add];exact hab')).trans hc2',o⟩
      have hownD:OwnQ wr.drew w0.heap.size v os:=hown;have hRD:Blk wr.drew w.heap.size 28 #[.bool false,.slice none 0 0,.slice none 0 0]:=hRk;have hbrD:w0.heap.size≤wr.drew.heap.size:=hbr;clear hc0 hc1 hc2 hc0' hc1' hc2';go_wp2_with fail
      go_region_held3 (fun w'=>w'.cell? (a.add (k*3))=some (.bool d.neg)∧w'.cell? ⟨(a.add (k*3)).block,(a.add (k*3)).off+1,none⟩=some (.slice d.a d.la.length d.ca)∧w'.cell? ⟨(a.add (k*3)).block,(a.add (k*3)).off+2,none⟩=some (.slice d.b d.lb.length d.cb)∧w'.cell? (a'.add (k*3))=some (.bool d'.neg)∧w'.cell? ⟨(a'.add (k*3)).block,(a'.add (k*3)).off+1,none⟩=some (.slice d'.a d'.la.length d'.ca)∧w'.cell? ⟨(a'.add (k*3)).block,(a'.add (k*3)).off+2,none⟩=some (.slice d'.b d'.lb.length d'.cb)∧Below w.heap.size w w') (((try go_split_ands);(try dsimp only);exact hS _ (by first | assumption | exact Below.alloc (by assumption) (show Below w.heap.size w _ by assumption).size _))) (first
       | (go_at_call 42;go_split_ands;(with_reducible refine (mulF_any (hfd.below (by assumption)) (hfe.below (by assumption)) hfd1.out hfe1.out hKK).mono ?_);rintro e w4 ⟨v4,rfl,⟨n4,A4,c4,l4,B4,d4,m4,rfl,na4,nb4,iq4⟩,b4⟩;have iq4':=Lib.hid iq4;clear iq4;have hmk:=Lib.hid iq4'.out.mk;have o4:=(show Below w.heap.size w _ by assumption).trans (b4.mono (show Below w.heap.size w _ by assumption).size);have hown4:=hownD.below b4;have hR4:=hRD.keep b4;have hbr4:=Nat.le_trans hbrD b4.size)
       | (refine step_appQ rfl _ _ rfl rfl w0.heap.size v os rfl (hown4.below ((Below.refl _ _).alloc (Nat.le_refl _) _)) ⟨w4.heap.size,0,none⟩ 1 ⟨n4,A4,c4,l4,B4,d4,m4⟩ rfl (World.news_of_block (heap_alloc_new w4 _)) hos (by rw[World.size_alloc];omega) ?_;intro v6 w6 ho6 hg6;have o6:=(o4.alloc o4.size (.cells #[.bool n4,.slice A4 l4.length c4,.slice B4 m4.length d4] 28)).grown hg6 (Nat.le_trans o4.size (by simp)) (fun g hg=>Nat.le_trans (Nat.le_of_lt hlt0) (hown4.block hg))))
      have hallD:AllFV w4 os:=fun x hx=>((hall'.out x hx).below (Below.refl _ _).drew).below b4;have fv4:FV w4 (FrD.v ⟨n4,A4,c4,l4,B4,d4,m4⟩) (FrD.q ⟨n4,A4,c4,l4,B4,d4,m4⟩):=⟨n4,A4,c4,l4,B4,d4,m4,rfl,na4,nb4,by have:=iq4'.out;rw[hmk.out] at this;exact this⟩;have hall6:=Lib.hid (allFV_snoc hallD fv4 (hown4.below ((Below.refl _ _).alloc (Nat.le_refl _) _)) hg6);have hmap6:=Lib.hid (map_snoc (d:=⟨n4,A4,c4,l4,B4,d4,m4⟩) hmap.out (by rw[hpk.out,hmk.out];rfl));have hR6:Blk w6 w.heap.size 28 #[.bool false,.slice none 0 0,.slice none 0 0]:=(hg6.block _ (by rw[World.size_alloc];have:=hR4.lt;omega) (fun e=>by have:=hown4.block e.symm;omega)).trans (hR4.keep ((Below.refl _ _).alloc (Nat.le_refl _) _));have hbr6:w0.heap.size≤w6.heap.size:=Nat.le_trans hbr4 (Nat.le_trans (by simp) hg6.size);clear hallD;go_wp2;go_roundw
      case rel=>exact⟨_,k+1,_,rfl,by rw[hpl.out,hmn.out];omega,by go_num,ho6,hall6.out,by rw[List.length_append,hol'.out];rfl,hmap6,hR6,hbr6,o6⟩
      case measure=>simp[intOf];omega
    · obtain rfl:k=ds.length:=by omega
      have hlt':decide ((ds.length:Int)<(ds.length:Int))=false:=decide_eq_false (by omega);obtain⟨B,cb,rfl,hfl⟩:=hown.fl hall'.out;have hSr:=Lib.hid (show sumR (os.map FrD.q)=r by rw[hmap.out,List.take_of_length_le (by rw[hpl.out,hmn.out];exact Nat.le_refl _)];exact hr.out)
      have hfo:=Lib.hid (show ∀ d∈os,Fits (K+K) d.q from fun d hd=>hqs.out _ (by
       have:d.q∈os.map FrD.q:=List.mem_map.2 ⟨d,hd,rfl⟩;rw[hmap.out] at this;exact List.mem_of_mem_take this))
      have hbd:1+(os.length+1)*(K+K+1)<400000000:=by
       have h1:os.length≤ds.length:=by rw[hol'.out];omega
       have:=Nat.mul_le_mul_right (K+K+1) (show os.length+1≤ds.length+1 by omega);omega
      go_wp2_with fail;refine (sumF_any hfl hfo.out hbd).mono ?_;rintro e w5 ⟨v5,rfl,⟨n5,A5,c5,l5,B5,d5,m5,rfl,na5,nb5,iq5⟩,b5⟩;rw[hSr.out] at iq5;have iq5':=Lib.hid iq5;clear iq5;have hR5:=hRk.keep b5;have b05:=hbel.trans (b5.mono hbel.size);have p0:=hR5.f0;have p1:=hR5.f1;have p2:=hR5.f2;have q0:=hR5.free 0;have q1:=hR5.free 1;have q2:=hR5.free 2;go_wp2;obtain⟨w9,hw9,hB9,o9⟩:=hR5.set3 (.bool n5) (.slice A5 l5.length c5) (.slice B5 m5.length d5);rw[hw9];have e0:=hB9.f0;have e1:=hB9.f1;have e2:=hB9.f2;refine bodyPost_ret (v:=fracV n5 A5 l5.length c5 B5 m5.length d5) (by simp[results,Try.results85,go_sem,e0,e1,e2]) rfl ?_;exact⟨_,rfl,⟨n5,A5,c5,l5,B5,d5,m5,rfl,na5.only_blk hR5 (noDig3 _ _ _ _ _ _ _) o9,nb5.only_blk hR5 (noDig3 _ _ _ _ _ _ _) o9,iq5'.out⟩,o9.to_below b05 (Nat.le_refl _) b05.size⟩
end Go.Proofs.Ytjhkapjadfpimaa
namespace Go.Proofs.Ytjhkapjadfpimaa
set_option linter.unusedVariables false
set_option linter.unusedSimpArgs false
open Go.RowKit Plain
def LsAt (qs:List Rat) (root:World) (k:Nat) (v:Value) (wr:World):Prop :=
 ∃ os:List FrD,OwnQ wr root.heap.size v os∧AllFV wr os∧os.length=k∧os.map FrD.q=qs.take k∧Below root.heap.size root wr
theorem LsAt.nil (qs:List Rat) (root:World):LsAt qs root 0 (.slice none 0 0) root:=⟨[],OwnQ.nil _ _,fun d hd=>by simp at hd,rfl,rfl,Below.refl _ _⟩
theorem LsAt.below {qs:List Rat}{root:World}{k:Nat}{v:Value}{w w':World}(h:LsAt qs root k v w) (hb:Below w.heap.size w w'):LsAt qs root k v w':=by
 obtain⟨os,h1,h2,h3,h4,h5⟩:=h;exact⟨os,h1.below hb,fun d hd=>(h2 d hd).below hb,h3,h4,h5.trans (hb.mono h5.size)⟩
theorem LsAt.bel {qs:List Rat}{root:World}{k:Nat}{v:Value}{w:World}(h:LsAt qs root k v w):Below root.heap.size root w:=by
 obtain⟨os,h1,h2,h3,h4,h5⟩:=h;exact h5
theorem LsAt.app {qs:List Rat}{root:World}{k:Nat}{v:Value}{w:World}{n1:Bool}{A1 B1:Option Addr}{a1 c1:Nat}{l1 m1:List Nat}{q:Rat}(h:LsAt qs root k v w) (hk:k<1000000000000) (hq:qs[k]?=some q) (na:Nv w A1 a1 l1) (nb:Nv w B1 c1 m1) (iq:QIs n1 l1 m1 q) :
 ∃ os:List FrD,OwnQ (w.alloc (.cells #[.bool n1,.slice A1 l1.length a1,.slice B1 m1.length c1] 28)) root.heap.size v os∧os.length+1≤1000000000000∧root.heap.size≤(w.alloc (.cells #[.bool n1,.slice A1 l1.length a1,.slice B1 m1.length c1] 28)).heap.size ∧
  Hid (∀ v6 w6,OwnQ w6 root.heap.size v6 (os++[⟨n1,A1,a1,l1,B1,c1,m1⟩])→(w.alloc (.cells #[.bool n1,.slice A1 l1.length a1,.slice B1 m1.length c1] 28)).grownBy w6 v.ownBlock→LsAt qs root (k+1) v6 w6):=by
 obtain⟨os,h1,h2,h3,h4,h5⟩:=h;have ba:=(Below.refl w.heap.size w).alloc (Nat.le_refl _) (.cells #[.bool n1,.slice A1 l1.length a1,.slice B1 m1.length c1] 28);have ho:=h1.below ba;have e:=iq.mk;refine⟨os,ho,by omega,Nat.le_trans h5.size (by simp),fun v6 w6 g1 g2=>⟨_,g1,?_,by rw[List.length_append,h3];rfl,map_snoc h4 (by rw[hq,e];rfl),(h5.alloc h5.size _).grown g2 (Nat.le_trans h5.size (by simp)) fun g hg=>h1.block hg⟩⟩;refine allFV_snoc h2 ?_ ho g2;exact⟨n1,A1,a1,l1,B1,c1,m1,rfl,na,nb,by have:=iq;rw[e] at this;exact this⟩
theorem LsAt.done {qs:List Rat}{root:World}{k:Nat}{v:Value}{w:World}(h:LsAt qs root k v w) (hk:k=qs.length):∃ A c ds,v=.slice A ds.length c∧FL w A c ds∧Hid (ds.map FrD.q=qs):=by
 obtain⟨os,h1,h2,h3,h4,h5⟩:=h;obtain⟨A,c,e,hf⟩:=h1.fl h2;exact⟨A,c,os,e,hf,by show _=_;rw[h4,hk,List.take_length]⟩
def LsInv (qs:List Rat) (root:World) (v i:Value) (wr:World):Prop:=∃ k:Nat,k≤qs.length∧i=.int .i64 (k:Int)∧LsAt qs root k v wr
def MtAt (M:Mat) (root:World) (k:Nat) (v:Value) (wr:World):Prop :=
 ∃ rows:List RwD,OwnM wr root.heap.size v rows∧(∀ r∈rows,FL wr r.a r.c r.ds)∧rows.length=k∧qsM rows=M.take k∧Below root.heap.size root wr
theorem MtAt.start (M:Mat){root wr:World}(h:Below root.heap.size root wr):MtAt M root 0 (.slice none 0 0) wr:=⟨[],OwnM.nil _ _,fun d hd=>by simp at hd,rfl,rfl,h⟩
theorem MtAt.below {M:Mat}{root:World}{k:Nat}{v:Value}{w w':World}(h:MtAt M root k v w) (hb:Below w.heap.size w w'):MtAt M root k v w':=by
 obtain⟨os,h1,h2,h3,h4,h5⟩:=h;exact⟨os,h1.below hb,fun d hd=>(h2 d hd).below hb,h3,h4,h5.trans (hb.mono h5.size)⟩
theorem MtAt.bel {M:Mat}{root:World}{k:Nat}{v:Value}{w:World}(h:MtAt M root k v w):Below root.heap.size root w:=by
 obtain⟨os,h1,h2,h3,h4,h5⟩:=h;exact h5
theorem MtAt.app {M:Mat}{root:World}{k:Nat}{v:Value}{w:World}{r:RwD}(h:MtAt M root k v w) (hk:k<1000000000000) (hq:M[k]?=some r.qs) (hr:FL w r.a r.c r.ds) :
 ∃ rows:List RwD,OwnM (w.alloc (.cells #[.slice r.a r.ds.length r.c] 22)) root.heap.size v rows∧rows.length+1≤1000000000000∧root.heap.size≤(w.alloc (.cells #[.slice r.a r.ds.length r.c] 22)).heap.size ∧
  Hid (∀ v6 w6,OwnM w6 root.heap.size v6 (rows++[r])→(w.alloc (.cells #[.slice r.a r.ds.length r.c] 22)).grownBy w6 v.ownBlock→MtAt M root (k+1) v6 w6):=by
 obtain⟨os,h1,h2,h3,h4,h5⟩:=h;have ba:=(Below.refl w.heap.size w).alloc (Nat.le_refl _) (.cells #[.slice r.a r.ds.length r.c] 22);have ho:=h1.below ba;refine⟨os,ho,by omega,Nat.le_trans h5.size (by simp),fun v6 w6 g1 g2=>⟨_,g1,fun x hx=>?_,by rw[List.length_append,h3];rfl,?_,(h5.alloc h5.size _).grown g2 (Nat.le_trans h5.size (by simp)) fun g hg=>OwnG.block h1 hg⟩⟩
 · rcases List.mem_append.1 hx with h6 | h6
   · exact ((h2 x h6).below ba).ownM ho g2
   · simp at h6;subst h6;exact (hr.below ba).ownM ho g2
 · rw[List.take_add_one,hq,←h4]
   simp[qsM]
theorem MtAt.done {M:Mat}{root:World}{k:Nat}{v:Value}{w:World}(h:MtAt M root k v w) (hk:k=M.length):∃ A c rows,v=.slice A rows.length c∧ML w A c rows∧Hid (qsM rows=M):=by
 obtain⟨os,h1,h2,h3,h4,h5⟩:=h;obtain⟨A,c,e,hf⟩:=h1.ml h2;exact⟨A,c,os,e,hf,by show _=_;rw[h4,hk,List.take_length]⟩
def MtInv (M:Mat) (root:World) (v i:Value) (wr:World):Prop:=∃ k:Nat,k≤M.length∧i=.int .i64 (k:Int)∧MtAt M root k v wr
theorem row_cell (w:World) (r:RwD):(w.alloc (.cells #[.slice r.a r.ds.length r.c] 22)).cell? ⟨w.heap.size,0,none⟩=some r.v:=(Blk.new w 22 #[.slice r.a r.ds.length r.c]).cell 0
def zeroD:FrD:=⟨false,none,0,[],none,0,[]⟩
theorem made_flat (n:Nat):madeCells #[.bool false,.slice none 0 0,.slice none 0 0] (n*3)=((List.replicate n zeroD).flatMap FrD.cells).toArray:=by
 apply Array.ext'
 apply List.ext_getElem?
 intro i;rw[Array.getElem?_toList]
 show _=((List.replicate n zeroD).flatMap FrD.cells)[i]?
 by_cases hi:i<n*3
 · have h1:i / 3<(List.replicate n zeroD).length:=by rw[List.length_replicate];omega
   have h2:=flat3 (List.replicate n zeroD) (i / 3) (i % 3) h1 (by omega);rw[show i / 3*3+i % 3=i by omega] at h2;rw[h2,List.getElem_replicate];have hs:i<(madeCells #[Value.bool false,.slice none 0 0,.slice none 0 0] (n*3)).size:=by rw[size_madeCells];exact hi
   rw[Array.getElem?_eq_getElem hs]
   simp only[madeCells,Array.getElem_map,Array.getElem_range]
   have h3:i % 3=0∨i % 3=1∨i % 3=2:=by omega
   have hz:(#[Value.bool false,.slice none 0 0,.slice none 0 0]:Array Value).size=3:=rfl;rw[hz]
   rcases h3 with h | h | h <;> rw[h] <;> rfl
 · rw[Array.getElem?_eq_none (by rw[size_madeCells];omega),List.getElem?_eq_none (by rw[flat_len,List.length_replicate];omega)]
def ArrQ (w:World) (g:Nat) (ds:List FrD):Prop:=Blk w g 28 (ds.flatMap FrD.cells).toArray
theorem ArrQ.noDig (ds:List FrD):NoDig (ds.flatMap FrD.cells).toArray:=NoDigL.noDig (noDig_flat ds) rfl
theorem ArrQ.below {w w':World}{g:Nat}{ds:List FrD}(h:ArrQ w g ds) (hb:Below w.heap.size w w'):ArrQ w' g ds:=Blk.keep h hb
theorem ArrQ.fl {w:World}{g:Nat}{ds:List FrD}(h:ArrQ w g ds) (hv:∀ d∈ds,FV w d.v d.q) (hm:ds.length≤9223372036854775807):FL w (some ⟨g,0,none⟩) ds.length ds :=
 ⟨⟨Nat.le_refl _,hm,fun j hj=>⟨_,rfl,Blk.lt h,fun i u hu=>by
  have hi:i<3:=by
   have:=(List.getElem?_eq_some_iff.1 hu).1
   simpa [FrD.cells] using this
  rw[add_zero_,Blk.cell h (j*3+i),List.getElem?_toArray,flat3 ds j i hj hi];exact hu⟩⟩,hv⟩
theorem ArrQ.cell {w:World}{g j i:Nat}{ds:List FrD}{d:FrD}{u:Value}(h:ArrQ w g ds) (hj:ds[j]?=some d) (hu:d.cells[i]?=some u):w.cell? ⟨g,j*3+i,none⟩=some u:=by
 have hjl:=(List.getElem?_eq_some_iff.1 hj).1
 have hi:i<3:=by
  have:=(List.getElem?_eq_some_iff.1 hu).1
  simpa [FrD.cells] using this
 have e:=(List.getElem?_eq_some_iff.1 hj).2;rw[Blk.cell h,List.getElem?_toArray,flat3 ds j i hjl hi,e];exact hu
theorem flat_set {ds:List FrD}{j:Nat}{d:FrD}(hj:j<ds.length):(ds.set j d).flatMap FrD.cells=(((ds.flatMap FrD.cells).set (j*3) (.bool d.neg)).set (j*3+1) (.slice d.a d.la.length d.ca)).set (j*3+2) (.slice d.b d.lb.length d.cb):=by
 apply List.ext_getElem?
 intro i;have hl:(ds.set j d).length=ds.length:=by simp
 by_cases hi:i<ds.length*3
 · have h1:=flat3 (ds.set j d) (i / 3) (i % 3) (by rw[hl];omega) (by omega);have h2:=flat3 ds (i / 3) (i % 3) (by omega) (by omega);rw[show i / 3*3+i % 3=i by omega] at h1 h2;rw[h1,List.getElem_set];have hlf:i<(ds.flatMap FrD.cells).length:=by rw[flat_len];exact hi
   simp only[List.getElem?_set,List.length_set]
   by_cases e:j=i / 3
   · rw[if_pos e];have h3:i % 3=0∨i % 3=1∨i % 3=2:=by omega
     rcases h3 with h | h | h
     · rw[if_neg (by omega),if_neg (by omega),if_pos (by omega),if_pos (by omega),h];rfl
     · rw[if_neg (by omega),if_pos (by omega),if_pos (by omega),h];rfl
     · rw[if_pos (by omega),if_pos (by omega),h];rfl
   · rw[if_neg e,if_neg (by omega),if_neg (by omega),if_neg (by omega),h2]
 · rw[List.getElem?_eq_none (by rw[flat_len,hl];omega),List.getElem?_eq_none (by simp only[List.length_set];rw[flat_len];omega)]
theorem ArrQ.set {w:World}{g j:Nat}{ds:List FrD}(h:ArrQ w g ds) (hj:j<ds.length) (d:FrD) :
 ∃ w',((w.setCell ⟨g,j*3,none⟩ (.bool d.neg)).setCell ⟨g,j*3+1,none⟩ (.slice d.a d.la.length d.ca)).setCell ⟨g,j*3+2,none⟩ (.slice d.b d.lb.length d.cb)=w'∧ArrQ w' g (ds.set j d)∧Only w w' g:=by
 refine⟨_,rfl,?_,(((Only.refl w g).set _ _).set _ _).set _ _⟩;have h1:=((Blk.set h (j*3) (.bool d.neg)).set (j*3+1) (.slice d.a d.la.length d.ca)).set (j*3+2) (.slice d.b d.lb.length d.cb);unfold ArrQ;rw[flat_set hj]
 simpa using h1
set_option maxRecDepth 100000 in
theorem make_fr (w:World) (n:Nat) (hn:n≤100000000000) :
 (Instr.makeSlice 22 (.int .i64 (n:Int)) (.int .i64 (n:Int))).run Try.prog w=.ok (.slice (some ⟨w.heap.size,0,none⟩) n n) (w.alloc (.cells ((List.replicate n zeroD).flatMap FrD.cells).toArray 28)):=by
 obtain⟨i,hi,hz0,hz1,hz2⟩:=info_parts infoFrac;have hr:=run_make (P:=Try.prog) w 22 28 i _ Try.underlying22 hi hz0 .i64 .i64 n n (by omega) (by omega) (by rw[hz2];omega) (by omega);rw[hr,hz1,Int.toNat_natCast,←made_flat]
 rfl
set_option maxRecDepth 100000 in
/-- An empty slice with room. -/
theorem make_fr0 (w:World) (n:Nat) (hn:n≤100000000000) :
 (Instr.makeSlice 22 (.int .i64 0) (.int .i64 (n:Int))).run Try.prog w=.ok (.slice (some ⟨w.heap.size,0,none⟩) 0 n) (w.alloc (.cells ((List.replicate n zeroD).flatMap FrD.cells).toArray 28)):=by
 obtain⟨i,hi,hz0,hz1,hz2⟩:=info_parts infoFrac;have hr:=run_make (P:=Try.prog) w 22 28 i _ Try.underlying22 hi hz0 .i64 .i64 0 n (by omega) (by omega) (by rw[hz2];omega) (by omega);rw[hr,hz1,Int.toNat_natCast,←made_flat]
 rfl
set_option maxRecDepth 100000 in
theorem own_fr0 (w:World) (n:Nat) (hn:n≤100000000000){base:Nat}(hb:base≤w.heap.size):OwnQ (w.alloc (.cells ((List.replicate n zeroD).flatMap FrD.cells).toArray 28)) base (.slice (some ⟨w.heap.size,0,none⟩) 0 n) []:=by
 obtain⟨i,hi,hz0,hz1,hz2⟩:=info_parts infoFrac;have hmx:maxLen=9223372036854775807:=rfl;obtain⟨w',hr,h2,h3⟩:=run_make_own (P:=Try.prog) w base 22 28 i _ 3 Try.underlying22 hi hz0 hz1 .i64 .i64 n (by rw[hz2];omega) (by omega) hb;rw[make_fr0 w n hn] at hr
 injection hr with _ e
 subst e;refine⟨h2,fun g hg=>?_⟩
 simp[Value.ownBlock] at hg
 subst hg;exact⟨_,Blk.new w _ _,ArrQ.noDig _⟩
theorem LsAt.make {qs:List Rat}{root w:World}{n:Nat}(h:Below root.heap.size root w) (hn:n≤100000000000):LsAt qs root 0 (.slice (some ⟨w.heap.size,0,none⟩) 0 n) (w.alloc (.cells ((List.replicate n zeroD).flatMap FrD.cells).toArray 28)) :=
 ⟨[],own_fr0 w n hn h.size,fun d hd=>by simp at hd,rfl,rfl,h.alloc h.size _⟩
end Go.Proofs.Ytjhkapjadfpimaa
