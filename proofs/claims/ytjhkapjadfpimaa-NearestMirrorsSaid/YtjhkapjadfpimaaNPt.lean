/- Contracts of functions, for the law. -/
import Derived.Test.YtjhkapjadfpimaaNPaid
import Derived.Test.YtjhkapjadfpimaaFMul
import Derived.Test.YtjhkapjadfpimaaFSub
import Derived.Deep.RegionHeld3
import Derived.Test.YtjhkapjadfpimaaMSmall
namespace Go.Proofs.Ytjhkapjadfpimaa
set_option linter.unusedVariables false
set_option linter.unusedSimpArgs false
open Go.RowKit Plain
attribute [local go_sem ↓] Go.wp_at_zero Go.wp_at_succ
def dsq (a b:List Rat):List Rat:=(List.range (max a.length b.length)).map fun i=>(a.getD i 0-b.getD i 0)*(a.getD i 0-b.getD i 0)
theorem dsq_len (a b:List Rat):(dsq a b).length=max a.length b.length:=by simp[dsq]
theorem dsq_get {a b:List Rat}{k:Nat}(hk:k<max a.length b.length):(dsq a b)[k]?=some ((a.getD k 0-b.getD k 0)*(a.getD k 0-b.getD k 0)):=by
 unfold dsq;rw[List.getElem?_map,List.getElem?_range hk];rfl
theorem QFits.getD {K:Nat}{l:List Rat}(hK:0<K) (h:QFits K l) (k:Nat):Fits K (l.getD k 0):=by
 rcases Nat.lt_or_ge k l.length with hk | hk
 · exact h.get hk
 · rw[List.getD_eq_getElem?_getD,List.getElem?_eq_none hk];exact Fits.zero hK
theorem dsq_fits {K:Nat}{a b:List Rat}(hK:0<K) (ha:QFits K a) (hb:QFits K b):QFits ((K+K+1)+(K+K+1)) (dsq a b):=fun q hq=>by
 obtain⟨i,hi,rfl⟩:=List.mem_map.1 hq;have h:=(ha.getD hK i).sub (hb.getD hK i);exact h.mul h
set_option maxRecDepth 100000 in
set_option maxHeartbeats 4000000 in
theorem dist_any {K:Nat}{A B:Option Addr}{ca cb:Nat}{ds es:List FrD}{w:World}(h:FL w A ca ds) (he:FL w B cb es) (hf:QFits K (ds.map FrD.q)) (hfe:QFits K (es.map FrD.q)) (hK0:0<K) (hK:K≤6000000) (hl:ds.length≤12) (hle:es.length≤12) :
 Calls Try.prog 18 #[.slice A ds.length ca,.slice B es.length cb] w (RetQ (sumR (dsq (ds.map FrD.q) (es.map FrD.q))) w):=by
 have hlen:=h.len;have hlene:=he.len;obtain⟨ps,hps⟩:∃ ps,Hid (dsq (ds.map FrD.q) (es.map FrD.q)=ps):=⟨_,rfl⟩;obtain⟨m,hm⟩:∃ m,Hid (max ds.length es.length=m):=⟨_,rfl⟩;have hpl:=Lib.hid (show ps.length=m by rw[←hps.out,dsq_len,List.length_map,List.length_map,hm.out]);have hm12:m≤12:=by rw[←hm.out];omega
 have hpf:=Lib.hid (show QFits (4*K+2) ps by rw[←hps.out];have:=dsq_fits hK0 hf hfe;rwa [show (K+K+1)+(K+K+1)=4*K+2 by omega] at this);rw[hps.out];obtain⟨w1,hw1,b1,l1,B1⟩:=boxed w #[.bool false,.slice none 0 0,.slice none 0 0] 28;have hf':=Lib.hid hf;have hfe':=Lib.hid hfe;clear hf hfe
 rcases Nat.lt_or_ge ds.length es.length with hcs | hcs
 · have hmM:=Lib.hid (show m=es.length by rw[←hm.out];omega);have hO:ds.length≤es.length:=by omega
   go_enter Try.func18,Try.ntmps18;go_wp2_with fail;refine (fromInt_any 0 _ (by decide) (by decide)).mono ?_;rintro e w2 ⟨v1,rfl,hv1,b2⟩;obtain⟨z,rfl,hz,hzq⟩:=hv1.frd;clear hv1;obtain⟨wA,w3,eA,p0,p1,p2,r0,r1,r2,eB,hS3,b3,l3⟩:=new_var w2 z;have b12:=b1.trans (b2.mono b1.size);have b03:=b12.trans (b3.mono b12.size);have B3:=(Blk.keep B1 b2).keep b3;have hat:SumAt ps w2.heap.size w 0 w3:=⟨z,hS3,hz.below b3,by rw[hzq.out];simp[sumR_nil],b03⟩;have hgs:=Lib.hid (show w.heap.size≤w2.heap.size from b12.size);have hg2':=Lib.hid (show w.heap.size≠w2.heap.size by have:=b2.size;omega);go_wp2;clear p0 p1 p2 r0 r1 r2 eA eB
   go_loopw [15] (fun i wr=>∃ k:Nat,k≤es.length∧i=.int .i64 (k:Int)∧SumAt ps w2.heap.size w k wr∧Blk wr w.heap.size 28 #[.bool false,.slice none 0 0,.slice none 0 0]) (fun i _=>es.length-(intOf i).toNat)
   case atStart=>exact⟨0,by omega,rfl,hat,B3⟩
   case round =>
    clear hat B3 hS3;obtain⟨k,hk,rfl,hat,hB⟩:=hrel;have hbel:=hat.bel;obtain⟨s,hS,hs,hsq,-⟩:=hat;have hsq':=Lib.hid hsq;clear hsq
    by_cases hkl:k<es.length
    · have hki:(k:Int)<(es.length:Int):=by omega
      have hkb:k<1000000000000:=by omega
      go_wp2_with fail;refine (at_any (h.below hbel) hkb).mono ?_;rintro e w4 ⟨v4,rfl,hv4,b4⟩;have hbel4:=hbel.trans (b4.mono hbel.size);go_wp2_with fail;refine (at_any (he.below hbel4) hkb).mono ?_;rintro e w5 ⟨v5,rfl,hv5,b5⟩;have hbel5:=hbel4.trans (b5.mono hbel4.size);have hq:=Lib.hid (show ps[k]?=some (((ds.map FrD.q).getD k 0-(es.map FrD.q).getD k 0)*((ds.map FrD.q).getD k 0-(es.map FrD.q).getD k 0)) by rw[←hps.out];exact dsq_get (by rw[List.length_map,List.length_map];omega));have hsub:=subF_any (hv4.below b5) hv5 (hf'.out.getD hK0 k) (hfe'.out.getD hK0 k) (by omega);have hfd:=Lib.hid ((hf'.out.getD hK0 k).sub (hfe'.out.getD hK0 k));obtain⟨x,hx⟩:∃ x,Hid ((ds.map FrD.q).getD k 0-(es.map FrD.q).getD k 0=x):=⟨_,rfl⟩;rw[hx.out] at hq hsub hfd;go_wp2_with fail;refine hsub.mono ?_;rintro e w6 ⟨v6,rfl,hv6,b6⟩;clear hsub hv4 hv5;obtain⟨d,rfl,hd,hdq⟩:=hv6.frd;clear hv6;obtain⟨wA,w7,eA,p0,p1,p2,r0,r1,r2,eB,hD,b7,l7⟩:=new_var w6 d;have hbel6:=hbel5.trans (b6.mono hbel5.size);have hbel7:=hbel6.trans (b7.mono hbel6.size);have hS7:=(((hS.below b4).below b5).below b6).below b7;have hs7:=(((hs.below b4).below b5).below b6).below b7;have hB7:=(((Blk.keep hB b4).keep b5).keep b6).keep b7;have hd7:=hd.below b7;obtain⟨x0,x1,x2⟩:=hS7.cells;obtain⟨y0,y1,y2⟩:=hD.cells;have hsf:=Lib.hid (sum_fits (n:=12) hpf.out (by rw[hpl.out];exact hm12) k)
      have hdf:Fits (K+K+1) d.q:=by rw[hdq.out];exact hfd.out
      have hdf':=Lib.hid hdf;have hmf:=Lib.hid (show Fits (4*K+2) (d.q*d.q) by have:=hdf.mul hdf;rwa [show (K+K+1)+(K+K+1)=4*K+2 by omega] at this);have hsd7:FV w7.drew s.v s.q:=hs7.below (Below.refl _ _).drew;have hdd7:FV w7.drew d.v d.q:=hd7.below (Below.refl _ _).drew;have bD7:Below w.heap.size w w7.drew:=hbel7.drew;have hSD7:VarQ w7.drew w2.heap.size s:=hS7;have hDD7:VarQ w7.drew w6.heap.size d:=hD;have hBD7:Blk w7.drew w.heap.size 28 #[.bool false,.slice none 0 0,.slice none 0 0]:=hB7;clear hS hs hB hd hs7 hd7 hdf;go_wp2_with fail
      go_region_with (first
       | (go_at_call 42;refine (mulF_any hdd7 hdd7 hdf'.out hdf'.out (by omega)).mono ?_;rintro e w8 ⟨v8,rfl,hp8,b8⟩;have hs8:=hsd7.below b8;have hS8:=hSD7.below b8;have hB8:=Blk.keep hBD7 b8;have bD8:=bD7.trans (b8.mono bD7.size);obtain⟨s0,s1,s2⟩:=hS8.cells;obtain⟨t0,t1,t2⟩:=(hDD7.below b8).cells)
       | (go_at_call 29;refine (addF_any hs8 hp8 (by rw[hsq'.out];exact hsf.out) hmf.out (by omega)).mono ?_;rintro e w9 ⟨v9,rfl,hv9,b9⟩;obtain⟨t,rfl,ht,htq⟩:=hv9.frd;clear hv9;have hS9:=hS8.below b9;have hB9:=Blk.keep hB8 b9;have bD9:=bD8.trans (b9.mono bD8.size);obtain⟨wz,q0,q1,q2,f0,f1,f2,ez,hSz,oz⟩:=hS9.store t;have htz:=ht.onlyV hS9 oz;have hBz:=Blk.only hB9 oz hg2'.out;have bz:=oz.to_below bD9 hgs.out bD9.size;clear ht oz))
      all_goals go_wp2
      all_goals
       go_roundw
       case rel =>
        refine⟨k+1,by omega,by go_num,⟨t,hSz,htz,?_,bz⟩,hBz⟩;rw[htq.out,hsq'.out,sumR_takeL (q:=d.q*d.q) (by rw[hdq.out];exact hq.out)]
       case measure=>simp[intOf];omega
    · obtain rfl:k=es.length:=by omega
      have hlt':decide ((es.length:Int)<(es.length:Int))=false:=decide_eq_false (by omega);obtain⟨x0,x1,x2⟩:=hS.cells;obtain⟨w9,p0,p1,p2,r0,r1,r2,e9,h9,o9⟩:=zero_store hB s;obtain⟨y0,y1,y2⟩:=h9.cells;have hsq2:=Lib.hid (show s.q=sumR ps by rw[hsq'.out,List.take_of_length_le (by rw[hpl.out,hmM.out];exact Nat.le_refl _)]);have hs9:=hs.only_blk hB (noDig3 _ _ _ _ _ _ _) o9;have hbel9:=o9.to_below hbel (Nat.le_refl _) hbel.size;clear hs;go_wp2;refine bodyPost_ret (v:=fracV s.neg s.a s.la.length s.ca s.b s.lb.length s.cb) (by simp[results,Try.results18,go_sem,y0,y1,y2]) rfl ?_;exact⟨_,rfl,by rw[←hsq2.out];exact hs9,hbel9⟩
 · have hmM:=Lib.hid (show m=ds.length by rw[←hm.out];omega);have hO:es.length≤ds.length:=by omega
   go_enter Try.func18,Try.ntmps18;go_wp2_with fail;refine (fromInt_any 0 _ (by decide) (by decide)).mono ?_;rintro e w2 ⟨v1,rfl,hv1,b2⟩;obtain⟨z,rfl,hz,hzq⟩:=hv1.frd;clear hv1;obtain⟨wA,w3,eA,p0,p1,p2,r0,r1,r2,eB,hS3,b3,l3⟩:=new_var w2 z;have b12:=b1.trans (b2.mono b1.size);have b03:=b12.trans (b3.mono b12.size);have B3:=(Blk.keep B1 b2).keep b3;have hat:SumAt ps w2.heap.size w 0 w3:=⟨z,hS3,hz.below b3,by rw[hzq.out];simp[sumR_nil],b03⟩;have hgs:=Lib.hid (show w.heap.size≤w2.heap.size from b12.size);have hg2':=Lib.hid (show w.heap.size≠w2.heap.size by have:=b2.size;omega);go_wp2;clear p0 p1 p2 r0 r1 r2 eA eB
   go_loopw [15] (fun i wr=>∃ k:Nat,k≤ds.length∧i=.int .i64 (k:Int)∧SumAt ps w2.heap.size w k wr∧Blk wr w.heap.size 28 #[.bool false,.slice none 0 0,.slice none 0 0]) (fun i _=>ds.length-(intOf i).toNat)
   case atStart=>exact⟨0,by omega,rfl,hat,B3⟩
   case round =>
    clear hat B3 hS3;obtain⟨k,hk,rfl,hat,hB⟩:=hrel;have hbel:=hat.bel;obtain⟨s,hS,hs,hsq,-⟩:=hat;have hsq':=Lib.hid hsq;clear hsq
    by_cases hkl:k<ds.length
    · have hki:(k:Int)<(ds.length:Int):=by omega
      have hkb:k<1000000000000:=by omega
      go_wp2_with fail;refine (at_any (h.below hbel) hkb).mono ?_;rintro e w4 ⟨v4,rfl,hv4,b4⟩;have hbel4:=hbel.trans (b4.mono hbel.size);go_wp2_with fail;refine (at_any (he.below hbel4) hkb).mono ?_;rintro e w5 ⟨v5,rfl,hv5,b5⟩;have hbel5:=hbel4.trans (b5.mono hbel4.size);have hq:=Lib.hid (show ps[k]?=some (((ds.map FrD.q).getD k 0-(es.map FrD.q).getD k 0)*((ds.map FrD.q).getD k 0-(es.map FrD.q).getD k 0)) by rw[←hps.out];exact dsq_get (by rw[List.length_map,List.length_map];omega));have hsub:=subF_any (hv4.below b5) hv5 (hf'.out.getD hK0 k) (hfe'.out.getD hK0 k) (by omega);have hfd:=Lib.hid ((hf'.out.getD hK0 k).sub (hfe'.out.getD hK0 k));obtain⟨x,hx⟩:∃ x,Hid ((ds.map FrD.q).getD k 0-(es.map FrD.q).getD k 0=x):=⟨_,rfl⟩;rw[hx.out] at hq hsub hfd;go_wp2_with fail;refine hsub.mono ?_;rintro e w6 ⟨v6,rfl,hv6,b6⟩;clear hsub hv4 hv5;obtain⟨d,rfl,hd,hdq⟩:=hv6.frd;clear hv6;obtain⟨wA,w7,eA,p0,p1,p2,r0,r1,r2,eB,hD,b7,l7⟩:=new_var w6 d;have hbel6:=hbel5.trans (b6.mono hbel5.size);have hbel7:=hbel6.trans (b7.mono hbel6.size);have hS7:=(((hS.below b4).below b5).below b6).below b7;have hs7:=(((hs.below b4).below b5).below b6).below b7;have hB7:=(((Blk.keep hB b4).keep b5).keep b6).keep b7;have hd7:=hd.below b7;obtain⟨x0,x1,x2⟩:=hS7.cells;obtain⟨y0,y1,y2⟩:=hD.cells;have hsf:=Lib.hid (sum_fits (n:=12) hpf.out (by rw[hpl.out];exact hm12) k)
      have hdf:Fits (K+K+1) d.q:=by rw[hdq.out];exact hfd.out
      have hdf':=Lib.hid hdf;have hmf:=Lib.hid (show Fits (4*K+2) (d.q*d.q) by have:=hdf.mul hdf;rwa [show (K+K+1)+(K+K+1)=4*K+2 by omega] at this);have hsd7:FV w7.drew s.v s.q:=hs7.below (Below.refl _ _).drew;have hdd7:FV w7.drew d.v d.q:=hd7.below (Below.refl _ _).drew;have bD7:Below w.heap.size w w7.drew:=hbel7.drew;have hSD7:VarQ w7.drew w2.heap.size s:=hS7;have hDD7:VarQ w7.drew w6.heap.size d:=hD;have hBD7:Blk w7.drew w.heap.size 28 #[.bool false,.slice none 0 0,.slice none 0 0]:=hB7;clear hS hs hB hd hs7 hd7 hdf;go_wp2_with fail
      go_region_with (first
       | (go_at_call 42;refine (mulF_any hdd7 hdd7 hdf'.out hdf'.out (by omega)).mono ?_;rintro e w8 ⟨v8,rfl,hp8,b8⟩;have hs8:=hsd7.below b8;have hS8:=hSD7.below b8;have hB8:=Blk.keep hBD7 b8;have bD8:=bD7.trans (b8.mono bD7.size);obtain⟨s0,s1,s2⟩:=hS8.cells;obtain⟨t0,t1,t2⟩:=(hDD7.below b8).cells)
       | (go_at_call 29;refine (addF_any hs8 hp8 (by rw[hsq'.out];exact hsf.out) hmf.out (by omega)).mono ?_;rintro e w9 ⟨v9,rfl,hv9,b9⟩;obtain⟨t,rfl,ht,htq⟩:=hv9.frd;clear hv9;have hS9:=hS8.below b9;have hB9:=Blk.keep hB8 b9;have bD9:=bD8.trans (b9.mono bD8.size);obtain⟨wz,q0,q1,q2,f0,f1,f2,ez,hSz,oz⟩:=hS9.store t;have htz:=ht.onlyV hS9 oz;have hBz:=Blk.only hB9 oz hg2'.out;have bz:=oz.to_below bD9 hgs.out bD9.size;clear ht oz))
      all_goals go_wp2
      all_goals
       go_roundw
       case rel =>
        refine⟨k+1,by omega,by go_num,⟨t,hSz,htz,?_,bz⟩,hBz⟩;rw[htq.out,hsq'.out,sumR_takeL (q:=d.q*d.q) (by rw[hdq.out];exact hq.out)]
       case measure=>simp[intOf];omega
    · obtain rfl:k=ds.length:=by omega
      have hlt':decide ((ds.length:Int)<(ds.length:Int))=false:=decide_eq_false (by omega);obtain⟨x0,x1,x2⟩:=hS.cells;obtain⟨w9,p0,p1,p2,r0,r1,r2,e9,h9,o9⟩:=zero_store hB s;obtain⟨y0,y1,y2⟩:=h9.cells;have hsq2:=Lib.hid (show s.q=sumR ps by rw[hsq'.out,List.take_of_length_le (by rw[hpl.out,hmM.out];exact Nat.le_refl _)]);have hs9:=hs.only_blk hB (noDig3 _ _ _ _ _ _ _) o9;have hbel9:=o9.to_below hbel (Nat.le_refl _) hbel.size;clear hs;go_wp2;refine bodyPost_ret (v:=fracV s.neg s.a s.la.length s.ca s.b s.lb.length s.cb) (by simp[results,Try.results18,go_sem,y0,y1,y2]) rfl ?_;exact⟨_,rfl,by rw[←hsq2.out];exact hs9,hbel9⟩
def smF1 (d:FrD):Bool:=decide (d.la.length≤2)&&(decide (d.lb.length≤1)&&d.vld)
def smLs (ds:List FrD):Bool:=ds.all smF1
def smL1 (ds:List FrD):Bool:=smLs ds&&decide (ds.length≤12)
theorem smLs_fl {w:World}{A:Option Addr}{c:Nat}{ds:List FrD}(h:FOkM w A c ds) (hs:smLs ds=true):FL w A c ds∧QFits 2 (ds.map FrD.q):=by
 unfold smLs at hs;rw[List.all_eq_true] at hs
 have key:∀ d∈ds,FV w d.v d.q∧Fits 2 d.q:=fun d hd=>by
  have h1:=hs d hd;unfold smF1 at h1
  simp only[Bool.and_eq_true,decide_eq_true_eq] at h1
  exact FrD.few.fv (K:=2) ⟨(h.2 d hd).1.nv (by omega),(h.2 d hd).2.nv (by omega),h1.1,by omega⟩ h1.2.2
 exact⟨⟨h.1,fun d hd=>(key d hd).1⟩,QFits.of fun d hd=>(key d hd).2⟩
theorem smL1_fl {w:World}{A:Option Addr}{c:Nat}{ds:List FrD}(h:FOkM w A c ds) (hs:smL1 ds=true):FL w A c ds∧QFits 2 (ds.map FrD.q)∧ds.length≤12:=by
 unfold smL1 at hs
 simp only[Bool.and_eq_true,decide_eq_true_eq] at hs
 obtain⟨h1,h2⟩:=smLs_fl h hs.1;exact⟨h1,h2,hs.2⟩
theorem new_any (w:World) (d:FrD):∃ wA wB,w.alloc (.cells #[.bool false,.slice none 0 0,.slice none 0 0] 28)=wA∧wA.cell? ⟨w.heap.size,0,none⟩=some (.bool false)∧wA.cell? ⟨w.heap.size,1,none⟩=some (.slice none 0 0)∧wA.cell? ⟨w.heap.size,2,none⟩=some (.slice none 0 0)∧wA.frozen? ⟨w.heap.size,0,none⟩=false∧wA.frozen? ⟨w.heap.size,1,none⟩=false∧wA.frozen? ⟨w.heap.size,2,none⟩=false ∧
 ((wA.setCell ⟨w.heap.size,0,none⟩ (.bool d.neg)).setCell ⟨w.heap.size,1,none⟩ (.slice d.a d.la.length d.ca)).setCell ⟨w.heap.size,2,none⟩ (.slice d.b d.lb.length d.cb)=wB∧VarQ wB w.heap.size d∧Below w.heap.size w wB∧w.heap.size<wB.heap.size:=new_var w d
set_option maxRecDepth 100000 in
set_option maxHeartbeats 4000000 in
theorem small31_any {A:Option Addr}{c:Nat}{ds:List FrD}{w:World}(h:FOkM w A c ds) :
 Calls Try.prog 9 #[.slice A ds.length c] w (RetB (smL1 ds) w):=by
 have hl:=h.1.1;have hl2:=h.1.2.1;obtain⟨v,hv⟩:∃ v,Hid (smL1 ds=v):=⟨_,rfl⟩;rw[hv.out];go_enter Try.func9,Try.ntmps9;go_wp2
 go_loopw [7] (fun i wr=>EveryInv smF1 ds w i wr) (fun i _=>ds.length-(intOf i).toNat)
 case atStart=>exact⟨0,by omega,rfl,rfl,Below.refl _ _⟩
 case round =>
  obtain⟨k,hk,rfl,hall,hbel⟩:=hrel
  by_cases hkl:k<ds.length
  · obtain⟨a,d,rfl,hab,hc0,hc1,hc2,hok,hdk⟩:=(h.below hbel).at hkl;obtain⟨wA,w4,eA,p0,p1,p2,r0,r1,r2,eB,hD4,b4,l4⟩:=new_var wr d;have hok4:=hok.below b4;have hbel4:=hbel.trans (b4.mono hbel.size);obtain⟨x0,x1,x2⟩:=hD4.cells;have hki:(k:Int)<(ds.length:Int):=by omega
    have gA:=hok.1.big;have gB:=hok.2.big
    by_cases h1:d.la.length≤2
    · have f1:decide ((2:Int)<(d.la.length:Int))=false:=decide_eq_false (by omega)
      by_cases h2:d.lb.length≤1
      · have f2:decide ((1:Int)<(d.lb.length:Int))=false:=decide_eq_false (by omega);obtain⟨u,hu⟩:∃ u,Hid (vldF d.neg d.la d.lb=u):=⟨_,rfl⟩;have hsm:=Lib.hid (show smF1 d=u by unfold smF1 FrD.vld;rw[decide_eq_true h1,decide_eq_true h2,hu.out];rfl);go_wp2_with fail;refine (refValidF_any (neg:=d.neg) (hok4.1.nv (by omega)) (hok4.2.nv (by omega)) (by omega) (by omega)).mono ?_;rintro en wv ⟨rfl,bv⟩;rw[hu.out];have bT:=hbel4.trans (bv.mono hbel4.size)
        rcases u with _ | _
        · have hf:Hid (v=false):=by show v=false;rw[←hv.out];unfold smL1;rw[show smLs ds=false from every_no hdk.out hsm.out];rfl
          go_wp2;go_ret;exact⟨by rw[hf.out];rfl,bT⟩
        · have hf:=Lib.hid (every_take hall.out hdk.out hsm.out);go_wp2;go_roundw
          case rel=>exact⟨k+1,by omega,by go_num,hf,bT⟩
          case measure=>simp[intOf];omega
      · have f2:decide ((1:Int)<(d.lb.length:Int))=true:=decide_eq_true (by omega);have hf:Hid (v=false):=by show v=false;rw[←hv.out];unfold smL1;rw[show smLs ds=false from every_no hdk.out (by unfold smF1;rw[decide_eq_false h2];simp)];rfl
        clear h2;go_wp2;go_ret;exact⟨by rw[hf.out];rfl,hbel4⟩
    · have f1:decide ((2:Int)<(d.la.length:Int))=true:=decide_eq_true (by omega);have hf:Hid (v=false):=by show v=false;rw[←hv.out];unfold smL1;rw[show smLs ds=false from every_no hdk.out (by unfold smF1;rw[decide_eq_false h1];rfl)];rfl
      clear h1;go_wp2;go_ret;exact⟨by rw[hf.out];rfl,hbel4⟩
  · obtain rfl:k=ds.length:=by omega
    have hlt':decide ((ds.length:Int)<(ds.length:Int))=false:=decide_eq_false (by omega);obtain⟨z,hz⟩:∃ z,decide (ds.length≤12)=z:=⟨_,rfl⟩;have hz2:decide ((ds.length:Int)≤12)=z:=by rw[←hz];exact decide_eq_decide.2 (by omega)
    have hf:Hid (v=z):=by show v=z;rw[←hv.out];unfold smL1;have:=hall.out;rw[List.take_length] at this;rw[show smLs ds=true from this,hz];rfl
    clear hz;go_wp2;go_ret;exact⟨by rw[hf.out];rfl,hbel⟩
structure PtD where
 pay:RwD
 mults:RwD
 low:RwD
 high:RwD
 lev:FrD
abbrev PtD.v (x:PtD):Value:=.agg #[.slice x.pay.a x.pay.ds.length x.pay.c,.slice x.mults.a x.mults.ds.length x.mults.c,.slice x.low.a x.low.ds.length x.low.c,.slice x.high.a x.high.ds.length x.high.c,.bool x.lev.neg,.slice x.lev.a x.lev.la.length x.lev.ca,.slice x.lev.b x.lev.lb.length x.lev.cb]
structure PtL (w:World) (x:PtD):Prop where
 pay:FL w x.pay.a x.pay.c x.pay.ds
 mults:FL w x.mults.a x.mults.c x.mults.ds
 low:FL w x.low.a x.low.c x.low.ds
 high:FL w x.high.a x.high.c x.high.ds
 lev:FV w x.lev.v x.lev.q
structure PtF (K:Nat) (x:PtD):Prop where
 pay:QFits K x.pay.qs
 mults:QFits K x.mults.qs
 low:QFits K x.low.qs
 high:QFits K x.high.qs
 lev:Fits K x.lev.q
theorem PtL.below {w w':World}{x:PtD}(h:PtL w x) (hb:Below w.heap.size w w'):PtL w' x:=⟨h.pay.below hb,h.mults.below hb,h.low.below hb,h.high.below hb,h.lev.below hb⟩
def VarP (w:World) (g:Nat) (x:PtD):Prop:=Blk w g 38 #[.slice x.pay.a x.pay.ds.length x.pay.c,.slice x.mults.a x.mults.ds.length x.mults.c,.slice x.low.a x.low.ds.length x.low.c,.slice x.high.a x.high.ds.length x.high.c,.bool x.lev.neg,.slice x.lev.a x.lev.la.length x.lev.ca,.slice x.lev.b x.lev.lb.length x.lev.cb]
theorem VarP.below {w w':World}{g:Nat}{x:PtD}(h:VarP w g x) (hb:Below w.heap.size w w'):VarP w' g x:=Blk.keep h hb
theorem VarP.only {w w':World}{g g':Nat}{x:PtD}(h:VarP w g x) (ho:Only w w' g') (hne:g≠g'):VarP w' g x:=Blk.only h ho hne
theorem VarP.cells {w:World}{g:Nat}{x:PtD}(h:VarP w g x):w.cell? ⟨g,0,none⟩=some (.slice x.pay.a x.pay.ds.length x.pay.c)∧w.cell? ⟨g,1,none⟩=some (.slice x.mults.a x.mults.ds.length x.mults.c)∧w.cell? ⟨g,2,none⟩=some (.slice x.low.a x.low.ds.length x.low.c)∧w.cell? ⟨g,3,none⟩=some (.slice x.high.a x.high.ds.length x.high.c)∧w.cell? ⟨g,4,none⟩=some (.bool x.lev.neg)∧w.cell? ⟨g,5,none⟩=some (.slice x.lev.a x.lev.la.length x.lev.ca)∧w.cell? ⟨g,6,none⟩=some (.slice x.lev.b x.lev.lb.length x.lev.cb) :=
 ⟨Blk.cell h 0,Blk.cell h 1,Blk.cell h 2,Blk.cell h 3,Blk.cell h 4,Blk.cell h 5,Blk.cell h 6⟩
structure Ck (w:World) (gs gx:Nat) (s:FrD) (x:PtD):Prop where
 sum:VarQ w gs s
 pt:VarP w gx x
theorem Ck.below {w w':World}{gs gx:Nat}{s:FrD}{x:PtD}(h:Ck w gs gx s x) (hb:Below w.heap.size w w'):Ck w' gs gx s x:=⟨h.sum.below hb,h.pt.below hb⟩
theorem Ck.only {w w':World}{gs gx g:Nat}{s:FrD}{x:PtD}(h:Ck w gs gx s x) (ho:Only w w' g) (h1:gs≠g) (h2:gx≠g):Ck w' gs gx s x:=⟨h.sum.only ho h1,h.pt.only ho h2⟩
def certA (ms:List Int) (pay low high:List Rat) (i:Nat):Bool :=
 !(decide (pay.getD i 0<0))&&(!(decide (((ms.getD i 0:Int):Rat)<pay.getD i 0))&&(slackB (low.getD i 0) (decide (pay.getD i 0=0))&&slackB (high.getD i 0) (decide (pay.getD i 0=((ms.getD i 0:Int):Rat)))))
def pOf (ns:List NdD) (k:Nat):Nat:=(ns.getD k ⟨0,0⟩).p.toNat
def lOf (ns:List NdD) (k:Nat):Int:=(ns.getD k ⟨0,0⟩).l
def certN (ns:List NdD) (pay mults:List Rat) (k:Nat):Bool :=
 !(decide (sumR (paidL (pOf ns k) pay)<((lOf ns k:Int):Rat)))&&slackB (mults.getD k 0) (decide (sumR (paidL (pOf ns k) pay)=((lOf ns k:Int):Rat)))
def forceL (ns:List NdD) (mults:List Rat) (i:Nat):List Rat:=(List.range ns.length).map fun k=>if bitP (pOf ns k) i=true then mults.getD k 0 else 0
def certF (ns:List NdD) (tg pay mults low high:List Rat) (lev:Rat) (i:Nat):Bool :=
 decide (pay.getD i 0-tg.getD i 0=lev+low.getD i 0-high.getD i 0+sumR (forceL ns mults i))
def lensB (n m:Nat) (pay mults low high:List Rat):Bool:=decide (pay.length=n)&&(decide (low.length=n)&&(decide (high.length=n)&&decide (mults.length=m)))
def certB (tg:List Rat) (ns:List NdD) (ms:List Int) (sum:Rat) (pay mults low high:List Rat) (lev:Rat):Bool :=
 lensB ms.length ns.length pay mults low high&&((List.range ms.length).all (certA ms pay low high)&&(decide (sumR pay=sum)&&((List.range ns.length).all (certN ns pay mults)&&(List.range ms.length).all (certF ns tg pay mults low high lev))))
def checkS (tg:List Rat) (ns:List NdD) (ms:List Int) (sum:Rat) (pay mults low high:List Rat) (lev:Rat):Int :=
 if argsE tg.length ns ms≠0 then argsE tg.length ns ms else if certB tg ns ms sum pay mults low high lev=true then 0 else 13
theorem forceL_len (ns:List NdD) (mults:List Rat) (i:Nat):(forceL ns mults i).length=ns.length:=by simp[forceL]
theorem forceL_get {ns:List NdD}{mults:List Rat}{i k:Nat}(hk:k<ns.length):(forceL ns mults i)[k]?=some (if bitP (pOf ns k) i=true then mults.getD k 0 else 0):=by
 unfold forceL;rw[List.getElem?_map,List.getElem?_range hk];rfl
theorem forceL_fits {K i:Nat}{ns:List NdD}{mults:List Rat}(hK:0<K) (h:QFits K mults):QFits K (forceL ns mults i):=fun q hq=>by
 obtain⟨k,hk,rfl⟩:=List.mem_map.1 hq
 split
 · exact h.getD hK k
 · exact Fits.zero hK
theorem check_args {tg:List Rat}{ns:List NdD}{ms:List Int}{sum:Rat}{pay mults low high:List Rat}{lev:Rat}{e:Int}(h:argsE tg.length ns ms=e) (he:e≠0):checkS tg ns ms sum pay mults low high lev=e:=by
 unfold checkS;rw[h,if_pos he]
theorem check_cert {tg:List Rat}{ns:List NdD}{ms:List Int}{sum:Rat}{pay mults low high:List Rat}{lev:Rat}{b:Bool}(h:argsE tg.length ns ms=0) (hb:certB tg ns ms sum pay mults low high lev=b):checkS tg ns ms sum pay mults low high lev=if b=true then 0 else 13:=by
 unfold checkS;rw[h,if_neg (by simp),hb]
def AllI (f:Nat→Bool) (k:Nat):Prop:=∀ j,j<k→f j=true
theorem AllI.all {f:Nat→Bool}{k:Nat}(h:AllI f k):(List.range k).all f=true:=List.all_eq_true.2 fun j hj=>h j (List.mem_range.1 hj)
theorem AllI.step {f:Nat→Bool}{k:Nat}(h:AllI f k) (hk:f k=true):AllI f (k+1):=fun j hj=>by
 rcases Nat.lt_succ_iff_lt_or_eq.1 hj with h1 | rfl
 · exact h j h1
 · exact hk
theorem all_no {f:Nat→Bool}{n k:Nat}(hk:k<n) (h:f k=false):(List.range n).all f=false:=List.all_eq_false.2 ⟨k,List.mem_range.2 hk,by rw[h];decide⟩
theorem cert_lens {tg:List Rat}{ns:List NdD}{ms:List Int}{sum:Rat}{pay mults low high:List Rat}{lev:Rat}(h:lensB ms.length ns.length pay mults low high=false):certB tg ns ms sum pay mults low high lev=false:=by unfold certB;rw[h];rfl
theorem cert_A {tg:List Rat}{ns:List NdD}{ms:List Int}{sum:Rat}{pay mults low high:List Rat}{lev:Rat}{k:Nat}(hk:k<ms.length) (h:certA ms pay low high k=false):certB tg ns ms sum pay mults low high lev=false:=by unfold certB;rw[all_no hk h];simp
theorem cert_sum {tg:List Rat}{ns:List NdD}{ms:List Int}{sum:Rat}{pay mults low high:List Rat}{lev:Rat}(h:sumR pay≠sum):certB tg ns ms sum pay mults low high lev=false:=by unfold certB;rw[decide_eq_false h];simp
theorem cert_N {tg:List Rat}{ns:List NdD}{ms:List Int}{sum:Rat}{pay mults low high:List Rat}{lev:Rat}{k:Nat}(hk:k<ns.length) (h:certN ns pay mults k=false):certB tg ns ms sum pay mults low high lev=false:=by unfold certB;rw[all_no hk h];simp
theorem cert_F {tg:List Rat}{ns:List NdD}{ms:List Int}{sum:Rat}{pay mults low high:List Rat}{lev:Rat}{k:Nat}(hk:k<ms.length) (h:certF ns tg pay mults low high lev k=false):certB tg ns ms sum pay mults low high lev=false:=by unfold certB;rw[all_no hk h];simp
theorem cert_yes {tg:List Rat}{ns:List NdD}{ms:List Int}{sum:Rat}{pay mults low high:List Rat}{lev:Rat}(h1:lensB ms.length ns.length pay mults low high=true) (h2:AllI (certA ms pay low high) ms.length) (h3:sumR pay=sum) (h4:AllI (certN ns pay mults) ns.length) (h5:AllI (certF ns tg pay mults low high lev) ms.length):certB tg ns ms sum pay mults low high lev=true:=by
 unfold certB;rw[h1,h2.all,decide_eq_true h3,h4.all,h5.all];rfl
end Go.Proofs.Ytjhkapjadfpimaa
