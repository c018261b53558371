/- Contracts of functions, for the law. -/
import Derived.Test.YtjhkapjadfpimaaNAlg
import Derived.Test.YtjhkapjadfpimaaNRChk
import Derived.Deep.RegionHeld3
namespace Go.Proofs.Ytjhkapjadfpimaa
set_option linter.unusedVariables false
set_option linter.unusedSimpArgs false
open Go.RowKit Plain
attribute [local go_sem ↓] Go.wp_at_zero Go.wp_at_succ
theorem FL.oneL {w:World}{g:Nat}{t:TypeId}{d:FrD}(h:Blk w g t #[.bool d.neg,.slice d.a d.la.length d.ca,.slice d.b d.lb.length d.cb]) (hd:FV w d.v d.q):FL w (some ⟨g,0,none⟩) 1 [d] :=
 ⟨⟨by simp,by decide,fun j hj=>⟨_,rfl,Blk.lt h,fun i u hu=>by
  have hj2:j<1:=hj;obtain rfl:j=0:=by omega
  rcases i with _ | _ | _ | i
  · injection hu with hu;subst hu;exact Blk.cell h 0
  · injection hu with hu;subst hu;exact Blk.cell h 1
  · injection hu with hu;subst hu;exact Blk.cell h 2
  · simp[FrD.cells] at hu⟩⟩,fun f hf=>by simp at hf;subst hf;exact hd⟩
theorem ML.five {w:World}{g:Nat}{t:TypeId}{r0 r1 r2 r3 r4:RwD}(h:Blk w g t #[.slice r0.a r0.ds.length r0.c,.slice r1.a r1.ds.length r1.c,.slice r2.a r2.ds.length r2.c,.slice r3.a r3.ds.length r3.c,.slice r4.a r4.ds.length r4.c]) (h0:FL w r0.a r0.c r0.ds) (h1:FL w r1.a r1.c r1.ds) (h2:FL w r2.a r2.c r2.ds) (h3:FL w r3.a r3.c r3.ds) (h4:FL w r4.a r4.c r4.ds):ML w (some ⟨g,0,none⟩) 5 [r0,r1,r2,r3,r4] :=
 ⟨⟨by simp,by decide,fun j hj=>⟨_,rfl,Blk.lt h,fun i u hu=>by
  have hj2:j<5:=hj;have hi:i=0:=by have:=(List.getElem?_eq_some_iff.1 hu).1;simpa [RwD.cells] using this
  subst hi;have h5:j=0∨j=1∨j=2∨j=3∨j=4:=by omega
  rcases h5 with rfl | rfl | rfl | rfl | rfl
  · injection hu with hu;subst hu;exact Blk.cell h 0
  · injection hu with hu;subst hu;exact Blk.cell h 1
  · injection hu with hu;subst hu;exact Blk.cell h 2
  · injection hu with hu;subst hu;exact Blk.cell h 3
  · injection hu with hu;subst hu;exact Blk.cell h 4⟩⟩,fun r hr=>by
  simp only[List.mem_cons,List.not_mem_nil,or_false] at hr
  rcases hr with rfl | rfl | rfl | rfl | rfl
  · exact h0
  · exact h1
  · exact h2
  · exact h3
  · exact h4⟩
set_option maxRecDepth 100000 in
set_option maxHeartbeats 40000000 in
theorem proves31_any {K:Nat}{x:AgD}{y:PtD}{w:World}{n m:Int}(hF:FewP w x n m) (hn0:NL w x.na x.nc x.ns) (hm0:ZL w x.ma x.mc x.ms) (hy0:PtL w y) (hV:PtF 100000000 y) (hfp:QFits K y.pay.qs) (hfx:0<x.ms.length→PtF K y) (hK0:2≤K) (hK:K≤10000000) (hn20:x.ns.length≤20) :
 Calls Try.prog 16 #[x.v,y.v] w (RetB (decide (checkS (x.t.ds.map FrD.q) x.ns x.ms x.s.q y.pay.qs y.mults.qs y.low.qs y.high.qs y.lev.q=0)) w):=by
 obtain⟨r,hr⟩:∃ r,Hid (checkS (x.t.ds.map FrD.q) x.ns x.ms x.s.q y.pay.qs y.mults.qs y.low.qs y.high.qs y.lev.q=r):=⟨_,rfl⟩;rw[hr.out];obtain⟨b,hb⟩:∃ b,Hid (decide (r=0)=b):=⟨_,rfl⟩;rw[hb.out];have hrb:(r == 0)=b:=by rw[←hb.out];exact decide_beq Iff.rfl
 obtain⟨w0,hw0,b0,l0,B0⟩:=boxed w #[.slice x.t.a x.t.ds.length x.t.c,.slice x.na x.ns.length x.nc,.slice x.ma x.ms.length x.mc,.bool x.s.neg,.slice x.s.a x.s.la.length x.s.ca,.slice x.s.b x.s.lb.length x.s.cb] 30;obtain⟨w1,hw1,b1,l1,B1⟩:=boxed w0 #[.slice y.pay.a y.pay.ds.length y.pay.c,.slice y.mults.a y.mults.ds.length y.mults.c,.slice y.low.a y.low.ds.length y.low.c,.slice y.high.a y.high.ds.length y.high.c,.bool y.lev.neg,.slice y.lev.a y.lev.la.length y.lev.ca,.slice y.lev.b y.lev.lb.length y.lev.cb] 32;have b01:=b0.trans (b1.mono b0.size);have BA:=Blk.keep B0 b1;have c0:w1.cell? ⟨w0.heap.size,0,none⟩=some (.slice y.pay.a y.pay.ds.length y.pay.c):=Blk.cell B1 0;have c1:w1.cell? ⟨w0.heap.size,1,none⟩=some (.slice y.mults.a y.mults.ds.length y.mults.c):=Blk.cell B1 1;have c2:w1.cell? ⟨w0.heap.size,2,none⟩=some (.slice y.low.a y.low.ds.length y.low.c):=Blk.cell B1 2;have c3:w1.cell? ⟨w0.heap.size,3,none⟩=some (.slice y.high.a y.high.ds.length y.high.c):=Blk.cell B1 3;have c4:w1.cell? ⟨w0.heap.size,4,none⟩=some (.bool y.lev.neg):=Blk.cell B1 4;have c5:w1.cell? ⟨w0.heap.size,5,none⟩=some (.slice y.lev.a y.lev.la.length y.lev.ca):=Blk.cell B1 5;have c6:w1.cell? ⟨w0.heap.size,6,none⟩=some (.slice y.lev.b y.lev.lb.length y.lev.cb):=Blk.cell B1 6;obtain⟨y1,hy1,b2,l2,B2⟩:=boxed w1 #[.bool y.lev.neg,.slice y.lev.a y.lev.la.length y.lev.ca,.slice y.lev.b y.lev.lb.length y.lev.cb] 28
 obtain⟨y2,hy2,b3,l3,B3⟩:=boxed y1 #[.slice y.pay.a y.pay.ds.length y.pay.c,.slice y.mults.a y.mults.ds.length y.mults.c,.slice y.low.a y.low.ds.length y.low.c,.slice y.high.a y.high.ds.length y.high.c,.slice (some ⟨w1.heap.size,0,none⟩) 1 1] 22;have b12:=b2.trans (b3.mono b2.size);have b02:=b01.trans (b12.mono b01.size);have hyy:=hy0.below b02;obtain⟨rows,hrows⟩:∃ l:List RwD,Hid ([y.pay,y.mults,y.low,y.high,⟨some ⟨w1.heap.size,0,none⟩,1,[y.lev]⟩]=l):=⟨_,Lib.hid rfl⟩
 have hM:ML y2 (some ⟨y1.heap.size,0,none⟩) 5 rows:=by
  rw[←hrows.out];exact ML.five (r0:=y.pay) (r1:=y.mults) (r2:=y.low) (r3:=y.high) (r4:=⟨some ⟨w1.heap.size,0,none⟩,1,[y.lev]⟩) B3 hyy.pay hyy.mults hyy.low hyy.high (FL.oneL (Blk.keep B2 b3) hyy.lev)
 have hrl:=Lib.hid (show rows.length=5 by rw[←hrows.out];rfl)
 have hrf:=Lib.hid (show ∀ r∈rows,QFits 100000000 r.qs by
  rw[←hrows.out];intro r hr
  simp only[List.mem_cons,List.not_mem_nil,or_false] at hr
  rcases hr with rfl | rfl | rfl | rfl | rfl
  · exact hV.pay
  · exact hV.mults
  · exact hV.low
  · exact hV.high
  · intro q hq
    simp[RwD.qs] at hq
    subst hq;exact hV.lev)
 have hA2:=Blk.keep BA b12;have hX2:=Blk.keep B1 b12;have htf:=Lib.hid hF.tf;have hsf:=Lib.hid hF.sf;have ht:=hF.t.below b02;have hs:=hF.s.below b02;have hn:=hn0.below b02;have hm:=hm0.below b02;have hfp':=Lib.hid hfp;have hfx':=Lib.hid hfx;clear hF hn0 hm0 hy0 hV hfp hfx B0 B1 B2 B3 BA;go_enter Try.func16,Try.ntmps16;go_wp2;clear c0 c1 c2 c3 c4 c5 c6
 go_loopw [22] (fun i wr=>∃ k:Nat,k≤5∧i=.int .i64 (k:Int)∧Below y2.heap.size y2 wr) (fun i _=>5-(intOf i).toNat)
 case atStart=>exact⟨0,by omega,rfl,Below.refl _ _⟩
 case round =>
  obtain⟨k,hk,rfl,hbel⟩:=hrel
  by_cases hkl:k<5
  · have hki:(k:Int)<5:=by omega
    obtain⟨a,rw1,ea,hab,hc0,hfl,hrk⟩:=(hM.below hbel).at (k:=k) (by rw[hrl.out];exact hkl)
    cases ea
    rw[add_zero_] at hc0;have hrF:=Lib.hid (hrf.out rw1 (List.mem_of_getElem? hrk.out));have hll:=hfl.len;obtain⟨wo,hwo⟩:∃ wo:World,wo=wr:=⟨_,rfl⟩;subst hwo;go_wp2
    go_loopw [28] (fun i w'=>∃ l:Nat,l≤rw1.ds.length∧i=.int .i64 (l:Int)∧Below wo.heap.size wo w') (fun i _=>rw1.ds.length-(intOf i).toNat)
    case atStart=>exact⟨0,by omega,rfl,Below.refl _ _⟩
    case round =>
     obtain⟨l,hl,rfl,hb2⟩:=hrel
     by_cases hll2:l<rw1.ds.length
     · have hli:(l:Int)<(rw1.ds.length:Int):=by omega
       obtain⟨a2,d,ea2,hab2,e0,e1,e2,hfd,hdk⟩:=(hfl.below hb2).at hll2;have hdF:=Lib.hid (hrF.out.fr' d hdk.out);rw[ea2];obtain⟨wA,wB,eA,p0,p1,p2,r0,r1,r2,eB,hVd,bV,lV⟩:=new_any wr d;obtain⟨x0,x1,x2⟩:=hVd.cells;have hcl:=refValidQ_any (hfd.below bV) hdF.out (by omega);go_wp2_with fail;refine hcl.mono ?_;rintro e w6 ⟨rfl,b6⟩;clear hcl;have hb3:=hb2.trans ((bV.trans (b6.mono bV.size)).mono hb2.size);go_wp2;go_roundw
       case rel=>exact⟨l+1,by omega,by go_num,hb3⟩
       case measure=>simp[intOf];omega
     · obtain rfl:l=rw1.ds.length:=by omega
       have t1:decide ((rw1.ds.length:Int)<(rw1.ds.length:Int))=false:=decide_eq_false (by omega);have hb3:=hbel.trans (hb2.mono hbel.size);go_wp2;go_roundw
       case rel=>exact⟨k+1,by omega,by go_num,hb3⟩
       case measure=>simp[intOf];omega
  · obtain rfl:k=5:=by omega
    have hA:=Blk.keep hA2 hbel;have hX:=Blk.keep hX2 hbel;have a0:wr.cell? ⟨w.heap.size,0,none⟩=some (.slice x.t.a x.t.ds.length x.t.c):=Blk.cell hA 0;have a1:wr.cell? ⟨w.heap.size,1,none⟩=some (.slice x.na x.ns.length x.nc):=Blk.cell hA 1;have a2:wr.cell? ⟨w.heap.size,2,none⟩=some (.slice x.ma x.ms.length x.mc):=Blk.cell hA 2;have a3:wr.cell? ⟨w.heap.size,3,none⟩=some (.bool x.s.neg):=Blk.cell hA 3;have a4:wr.cell? ⟨w.heap.size,4,none⟩=some (.slice x.s.a x.s.la.length x.s.ca):=Blk.cell hA 4;have a5:wr.cell? ⟨w.heap.size,5,none⟩=some (.slice x.s.b x.s.lb.length x.s.cb):=Blk.cell hA 5;have c0:wr.cell? ⟨w0.heap.size,0,none⟩=some (.slice y.pay.a y.pay.ds.length y.pay.c):=Blk.cell hX 0;have c1:wr.cell? ⟨w0.heap.size,1,none⟩=some (.slice y.mults.a y.mults.ds.length y.mults.c):=Blk.cell hX 1;have c2:wr.cell? ⟨w0.heap.size,2,none⟩=some (.slice y.low.a y.low.ds.length y.low.c):=Blk.cell hX 2;have c3:wr.cell? ⟨w0.heap.size,3,none⟩=some (.slice y.high.a y.high.ds.length y.high.c):=Blk.cell hX 3;have c4:wr.cell? ⟨w0.heap.size,4,none⟩=some (.bool y.lev.neg):=Blk.cell hX 4;have c5:wr.cell? ⟨w0.heap.size,5,none⟩=some (.slice y.lev.a y.lev.la.length y.lev.ca):=Blk.cell hX 5;have c6:wr.cell? ⟨w0.heap.size,6,none⟩=some (.slice y.lev.b y.lev.lb.length y.lev.cb):=Blk.cell hX 6;have hcl:=refcheck_any (K:=K) (x:=y) (ht.below hbel) (hn.below hbel) (hm.below hbel) (hs.below hbel) (hyy.below hbel) (htf.out.mono hK0) (hsf.out.mono hK0) hfp'.out hfx'.out hK0 hK hn20
    rw[hr.out] at hcl;go_wp2_with fail;refine hcl.mono ?_;rintro e w6 ⟨rfl,b6⟩;clear hcl;go_wp2;go_ret;exact⟨rfl,b02.trans ((hbel.trans (b6.mono hbel.size)).mono b02.size)⟩
end Go.Proofs.Ytjhkapjadfpimaa
