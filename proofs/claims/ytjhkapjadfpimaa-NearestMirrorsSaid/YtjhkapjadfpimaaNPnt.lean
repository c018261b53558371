/- Contracts of functions, for the law. -/
import Derived.Test.YtjhkapjadfpimaaMAppQ
import Derived.Test.YtjhkapjadfpimaaNLim
import Derived.Test.YtjhkapjadfpimaaNSat
import Derived.Test.YtjhkapjadfpimaaFSum
import Derived.Test.YtjhkapjadfpimaaPLp
import Derived.Deep.DeepCutAuto
import Derived.Deep.RegionHeld3
namespace Go.Proofs.Ytjhkapjadfpimaa
set_option linter.unusedVariables false
set_option linter.unusedSimpArgs false
open Go.RowKit Plain
attribute [local go_sem ↓] Go.wp_at_zero Go.wp_at_succ
def RetPnt (S:Sv) (s:Sm) (W:World) (e:Ending) (w':World):Prop :=
 ∃ x:PtD,e=.returned x.v∧PtL w' x∧Hid (x.pay.qs=s.dx.map FrD.q∧x.mults.qs=(spread S.cs.length (s.ia.zip (s.dm.map FrD.q))).take S.m∧x.low.qs=((spread S.cs.length (s.ia.zip (s.dm.map FrD.q))).drop S.m).take S.n∧x.high.qs=(spread S.cs.length (s.ia.zip (s.dm.map FrD.q))).drop (S.m+S.n)∧x.lev.q=s.lv.q)∧Hid ((∀ a,x.pay.a=some a→a.block=S.gx)∧(∀ a,x.mults.a=some a→W.heap.size≤a.block∧a.block<w'.heap.size)∧(∀ a,x.low.a=some a→W.heap.size≤a.block∧a.block<w'.heap.size)∧(∀ a,x.high.a=some a→W.heap.size≤a.block∧a.block<w'.heap.size))∧Below W.heap.size W w'
set_option maxRecDepth 100000 in
set_option maxHeartbeats 40000000 in
theorem point_any {S:Sv}{s:Sm}{w:World}(h:SolM S s (.pointer none) w) (hL0:S.cs.length=S.m+S.n+S.n) (hm:S.m≤300) (hn:S.n≤8) (hA0:∀ a∈s.ia,a<S.cs.length) (hlm0:s.dm.length=s.ia.length) (hal:s.ia.length≤7) (hfm0:QFits KN (s.dm.map FrD.q)) :
 Calls Try.prog 50 #[.pointer (some ⟨S.gs,0,none⟩)] w (RetPnt S s w):=by
 obtain⟨L,hL⟩:∃ L,Hid (S.cs.length=L):=⟨_,rfl⟩;obtain⟨P,hP⟩:∃ P,Hid (s.ia.length=P):=⟨_,rfl⟩;obtain⟨M,hM⟩:∃ M,Hid (S.m=M):=⟨_,rfl⟩;obtain⟨N,hN⟩:∃ N,Hid (S.n=N):=⟨_,rfl⟩;have hL1:L=M+N+N:=by rw[←hL.out,←hM.out,←hN.out];exact hL0
 have hLs:L≤400:=by rw[hL1,←hM.out,←hN.out];omega
 have hP7:P≤7:=by rw[←hP.out];exact hal
 have hLe:=Lib.hid hL1;have hA:=Lib.hid hA0;have hPm:=Lib.hid (show s.dm.length=P by rw[hlm0,hP.out]);have hfm:=Lib.hid hfm0;obtain⟨ps,hps⟩:∃ ps,Hid (s.ia.zip (s.dm.map FrD.q)=ps):=⟨_,rfl⟩;have hpl:=Lib.hid (show ps.length=P by rw[←hps.out,List.length_zip,List.length_map,hlm0,hP.out,Nat.min_self])
 have hpf:=Lib.hid (show ∀ p∈ps,Fits KN p.2 from fun p hp=>by
  rw[←hps.out] at hp;exact hfm.out _ (List.of_mem_zip hp).2)
 obtain⟨w1,hw1,b1,l1,B1⟩:=boxed w #[.slice none 0 0,.slice none 0 0,.slice none 0 0,.slice none 0 0,.bool false,.slice none 0 0,.slice none 0 0] 38;have hS1:=h.below b1;obtain⟨s0,s1,s2,s3,s4,s5,s6,s7,s8,s9,s10,s11,s12⟩:=hS1.b.cells;rw[hL.out] at s2;have hmk:=make_fr w1 L (by omega);obtain⟨w2,hw2⟩:∃ w2,w1.alloc (.cells ((List.replicate L zeroD).flatMap FrD.cells).toArray 28)=w2:=⟨_,rfl⟩;obtain⟨T1,hT1⟩:∃ T,Hid (List.replicate L (0:Rat)=T):=⟨_,rfl⟩;have hT1l:=Lib.hid (show T1.length=L by rw[←hT1.out,List.length_replicate]);have hA1:FAt T1 w1.heap.size 0 w1 w2:=by rw[←hw2];exact FAt.new T1 hT1l.out w1
 rw[hw2] at hmk;have hallc:=hS1.b.all.len;rw[hL.out] at hallc;clear hL0 hA0 hlm0 hal hfm0 hL1;go_enter Try.func50,Try.ntmps50;go_wp2;clear s0 s1 s2 s3 s4 s5 s6 s7 s8 s9 s10 s11 s12 hmk
 go_loopw [16] (fun i wr=>∃ j:Nat,j≤L∧i=.int .i64 (j:Int)∧FAt T1 w1.heap.size j w1 wr) (fun i _=>L-(intOf i).toNat)
 case atStart=>exact⟨0,by omega,rfl,hA1⟩
 case round =>
  clear hA1;obtain⟨j,hj,rfl,hat⟩:=hrel
  by_cases hjl:j<L
  · have hji:(j:Int)<(L:Int):=by omega
    go_wp2_with fail;refine (fromInt_any 0 _ (by decide) (by decide)).mono ?_;rintro e w4 ⟨v1,rfl,hv1,b4⟩;obtain⟨zz,rfl,hz,hzq⟩:=hv1.frd;clear hv1;obtain⟨u0,u1,u2,w5,t0,t1,t2,f0,f1,f2,e5,hat5,hstep⟩:=(hat.below b4).put (by rw[hT1l.out];exact hjl) (Nat.le_refl _) hz;have hat6:=Lib.hid (hstep (by rw[←hT1.out,List.getElem?_replicate,if_pos hjl,hzq.out];rfl));clear hstep hat hz hat5;go_wp2;go_roundw
    case rel=>exact⟨j+1,by omega,by go_num,hat6.out⟩
    case measure=>simp[intOf];omega
  · obtain rfl:j=L:=by omega
    have hlt':decide ((j:Int)<(j:Int))=false:=decide_eq_false (by omega);rw[show FAt T1 w1.heap.size j w1 wr=FAt T1 w1.heap.size T1.length w1 wr by rw[hT1l.out]] at hat;have hbel0:=hat.bel;obtain⟨ds1,h1,h2,h3,h4⟩:=hat.done;have hd1l:=Lib.hid (h2.trans hT1l.out);obtain⟨g,hgd⟩:∃ g,w1.heap.size=g:=⟨_,rfl⟩;have hg':=Lib.hid (show w1.heap.size≤g by omega);have hgR:=Lib.hid (show w.heap.size≠g by omega);have hgw':=Lib.hid (show w.heap.size≤g by omega);have hgS:=Lib.hid (show S.gs≠g∧S.gx≠g from ⟨by have k1:=h.b.hs;have k2:=h.b.hR;omega,by have k1:=h.b.hx;have k2:=h.b.hR;omega⟩);have hX1:XO wr g j ds1:=by rw[←hgd,←hd1l.out];exact h1.xo (by rw[hd1l.out];omega)
    have hbel:Below w1.heap.size w1 wr:=hbel0;have hbelw:Below w.heap.size w wr:=b1.trans (hbel0.mono b1.size);rw[hgd];have hS2:=h.below hbelw;obtain⟨s0,s1,s2,s3,s4,s5,s6,s7,s8,s9,s10,s11,s12⟩:=hS2.b.cells;obtain⟨AI,cI,evI,-⟩:=h.act.il;rw[evI,hP.out] at s10
    have hIl:P≤cI∧cI≤9223372036854775807:=by
     obtain⟨AI2,cI2,e2,hI2⟩:=h.act.il;rw[evI] at e2;cases e2;exact⟨by rw[←hP.out];exact hI2.1,hI2.2.1⟩
    have evI':=Lib.hid evI;have hq1:=Lib.hid (show ds1.map FrD.q=spread j (ps.take 0) by rw[h4.out,←hT1.out];rfl);obtain⟨L',hL'⟩:∃ L',L'=j:=⟨_,rfl⟩;subst hL';clear h1 hat evI hS2 hbel0 hbelw hgd;go_wp2;clear s0 s1 s2 s3 s4 s5 s6 s7 s8 s9 s10 s11 s12
    go_loopw [29] (fun i wr=>∃ j:Nat,j≤P∧i=.int .i64 (j:Int)∧∃ ds,XO wr g L' ds∧AllFV wr ds∧Hid (ds.length=L')∧Hid (ds.map FrD.q=spread L' (ps.take j))∧Below w1.heap.size w1 wr) (fun i _=>P-(intOf i).toNat)
    case atStart=>exact⟨0,by omega,rfl,ds1,hX1,h3,hd1l.out,hq1.out,hbel⟩
    case round =>
     clear hX1 h3 hbel;obtain⟨j,hj,rfl,ds,hX,hV,hdl,hdq,hb⟩:=hrel
     by_cases hjl:j<P
     · have hji:(j:Int)<(P:Int):=by omega
       have hbw:Below w.heap.size w wr:=b1.trans (hb.mono b1.size);have hS:=h.below hbw;obtain⟨AI2,cI2,e2,hI⟩:=hS.act.il;rw[evI'.out] at e2
       cases e2
       obtain⟨x,hx⟩:∃ x,Hid (s.ia[j]?=some x):=⟨_,List.getElem?_eq_getElem (by rw[hP.out];exact hjl)⟩;obtain⟨aI,eaI,hbI,hcI⟩:=hI.2.2 j _ hx.out;have hxl:x<L':=by rw[←hL.out];exact hA.out _ (List.mem_of_getElem? hx.out)
       have hxi:(x:Int)<(L':Int):=by omega
       rw[eaI];obtain⟨w4,hw4⟩:∃ w4,w4=wr:=⟨_,rfl⟩;subst hw4;have hkd:=Lib.hid (show x<ds.length by rw[hdl.out];exact hxl);obtain⟨xk,hxk⟩:∃ xk,Hid (ds[x]?=some xk):=⟨_,List.getElem?_eq_getElem hkd.out⟩;obtain⟨dk,hdk⟩:∃ dk,Hid (s.dm[j]?=some dk):=⟨_,List.getElem?_eq_getElem (by rw[hPm.out];exact hjl)⟩;obtain⟨gm,cm,ev0⟩:=hS.vform (k:=j) (by rw[hPm.out];exact hjl);rw[hPm.out] at ev0;have hev:=Lib.hid ev0
       have hpj:=Lib.hid (show ps[j]?=some (x,dk.q) by
        rw[←hps.out,List.getElem?_zip_eq_some];exact⟨hx.out,by rw[List.getElem?_map,hdk.out];rfl⟩)
       have hsp:=Lib.hid (spread_fits (n:=L') hpf.out j (by rw[hpl.out];omega));have hxF:=Lib.hid (show Fits (1+7*(KN+1)) xk.q from (hsp.out _ (by rw[←hdq.out];exact List.mem_map.2 ⟨xk,List.mem_of_getElem? hxk.out,rfl⟩)).mono (by have:=Nat.mul_le_mul_right (KN+1) (show j≤7 by omega);omega));have hdF:=Lib.hid (show Fits KN dk.q from hpf.out _ (List.mem_of_getElem? hpj.out));have hJ:=Lib.hid (show 1+7*(KN+1)+KN<400000000 by decide)
       have hstep:∀ y:FrD,y.q=xk.q+dk.q→(ds.set x y).map FrD.q=spread L' (ps.take (j+1)):=fun y hy=>by
        rw[spread_step hpj.out,←hdq.out,List.map_set];unfold addAt;rw[hy,show (ds.map FrD.q).getD x 0=xk.q from gt_map hxk.out]
       replace hstep:=Lib.hid hstep;have hS4:=hS;have hX4:=hX;have hV4:=hV;have hb4:=hb;clear hS hI hX hV hb ev0 hbw;go_upto_region 10 with fail;have bT:=Below.refl w4.heap.size w4;have dw0:Below w4.heap.size w4 w4.drew:=(Below.refl _ _).drew;replace hS4:=hS4.below dw0;replace hX4:=hX4.below dw0;replace hV4:=hV4.below dw0;replace bT:=bT.trans (dw0.mono bT.size);clear dw0;go_wp2_with fail;refine wp_region_noPanic ?_;refine wp_region_wait (J:=[15]) (S:=fun w'=>w'.cell? ⟨g,x*3,none⟩=some (.bool xk.neg)∧w'.cell? ⟨g,x*3+1,none⟩=some (.slice xk.a xk.la.length xk.ca)∧w'.cell? ⟨g,x*3+2,none⟩=some (.slice xk.b xk.lb.length xk.cb)∧w'.cell? ⟨S.gs,11,none⟩=some (.slice (some ⟨gm,0,none⟩) P cm)∧w'.cell? ⟨gm,j*3,none⟩=some (.bool dk.neg)∧w'.cell? ⟨gm,j*3+1,none⟩=some (.slice dk.a dk.la.length dk.ca)∧w'.cell? ⟨gm,j*3+2,none⟩=some (.slice dk.b dk.lb.length dk.cb)) (by kernel_rfl) (⟨(hX4.cells hxk.out).1,(hX4.cells hxk.out).2.1,(hX4.cells hxk.out).2.2,hS4.c11 hPm.out hev.out,(hS4.mc hev.out hdk.out).1,(hS4.mc hev.out hdk.out).2.1,(hS4.mc hev.out hdk.out).2.2⟩) (fun hHeld=>?_);refine tkW 0 rfl hHeld ?_;refine tkW 1 rfl hHeld ?_;refine tkW 2 rfl hHeld ?_;refine tkW 3 rfl hHeld ?_;refine tkW 4 rfl hHeld ?_;refine tkW 5 rfl hHeld ?_;refine tkW 6 rfl hHeld ?_;refine tkW 7 rfl hHeld ?_;refine tkW 8 rfl hHeld ?_;refine tkW 9 rfl hHeld ?_
       refine tkW 10 rfl hHeld ?_;refine tkW 11 rfl hHeld ?_;refine tkW 12 rfl hHeld ?_;refine rdW 13 rfl fun K hK=>?_;go_simp;have hcl:=addF_any (hV4 _ (List.mem_of_getElem? hxk.out)) (hS4.mf _ (List.mem_of_getElem? hdk.out)) hxF.out hdF.out hJ.out;go_at_call 29;refine (hcl).mono ?_;rintro e u1 ⟨va,rfl,hva,bu1⟩;clear hcl;replace hS4:=hS4.below bu1;replace hX4:=hX4.below bu1;replace hV4:=hV4.below bu1;replace bT:=bT.trans (bu1.mono bT.size);obtain⟨y,rfl,hy,hyq⟩:=hva.frd;clear hva;obtain⟨w9,f0,f1,f2,e9,hX9,o9⟩:=hX4.store hkd.out y;have hV9:=XO.setFV (k:=x) hX4 hV4 hy o9;go_wp2_with fail;refine hK.out _ _ (⟨(hX4.cells hxk.out).1,(hX4.cells hxk.out).2.1,(hX4.cells hxk.out).2.2,hS4.c11 hPm.out hev.out,(hS4.mc hev.out hdk.out).1,(hS4.mc hev.out hdk.out).2.1,(hS4.mc hev.out hdk.out).2.2⟩) (fun hHeld=>?_);clear hK K;(try simp only[lay]);refine tkW 14 rfl hHeld ?_;refine wpAnyW_ready (rs:=[15]) (by kernel_rfl) (by simp) ?_;refine AllReadyW.last rfl (by decide) (fun K hK=>?_) AllReadyW.nil;go_simp;refine hK.out _ _ ?_;clear hK K;(try clear hHeld);(try simp only[lay]);refine wpAnyW_done (by kernel_rfl) ?_ _;refine NoPanic.normal ?_;(try go_simp);(try clear hHeld);have hb9:=o9.to_below (hb4.trans (bT.mono hb4.size)) hg'.out (Nat.le_trans hb4.size bT.size);have hres:=Lib.hid (hstep.out y hyq.out);clear hS4 hX4 hV4 hy o9 hstep;go_wp2;go_roundw
       case rel=>exact⟨j+1,by omega,by go_num,_,hX9,hV9,(by show (ds.set x y).length=_;rw[List.length_set];exact hdl.out),hres.out,hb9⟩
       case measure=>simp[intOf];omega
     · obtain rfl:j=P:=by omega
       have hlt2:decide ((j:Int)<(j:Int))=false:=decide_eq_false (by omega)
       have hfin:=Lib.hid (show ds.map FrD.q=spread S.cs.length (s.ia.zip (s.dm.map FrD.q)) by
        rw[hdq.out,hL.out,hps.out,List.take_of_length_le (by rw[hpl.out];exact Nat.le_refl _)])
       obtain⟨w5,hw5⟩:∃ w5,w5=wr:=⟨_,rfl⟩;subst hw5;have hR5:=Blk.keep B1 hb;have hb5:Below w.heap.size w w5:=b1.trans (hb.mono b1.size);have hS5:=h.below hb5;have c0:w5.cell? ⟨S.gs,0,none⟩=some (.int .i64 (N:Int)):=by rw[←hN.out];exact hS5.b.cells.1
       have c1:w5.cell? ⟨S.gs,1,none⟩=some (.int .i64 (M:Int)):=by rw[←hM.out];exact hS5.b.cells.2.1
       obtain⟨U,hU⟩:∃ U:Nat,Hid (U=M+N):=⟨_,rfl⟩;have hwr:IntKind.i64.wrap ((M:Int)+(N:Int))=(U:Int):=by have h1:=hU.out;have h2:=hLe.out;rw[IntKind.wrap_i64];omega
       have hUL:=Lib.hid (show L'=U+N by rw[hLe.out,hU.out]);have hgX:=Lib.hid (show S.gx≠w.heap.size by have k1:=h.b.hx;have k2:=h.b.hR;omega);have hdsl:=h.b.xo;have hxl:s.dx.length≤S.cx:=by obtain⟨cur,-,-,k3,-⟩:=h.b.xo;exact k3
       have hgw:w5.cell? ⟨S.gs,0,none⟩=some (.int .i64 (N:Int)):=c0;clear hdsl hxl;go_wp2
       go_region
       go_wp2;obtain⟨w6,hw6⟩:∃ w6,w5.drew=w6:=⟨_,rfl⟩;rw[hw6];have hb56:Below w5.heap.size w5 w6:=by rw[←hw6];exact (Below.refl _ _).drew
       have hb6:=hb5.trans (hb56.mono hb5.size);have hS6:=h.below hb6;have hR6:=Blk.keep hR5 hb56;have hX6:=hX.below hb56;have hV6:=AllFV.below hV hb56;clear hS5 hR5 hX hV c0 c1 hgw
       by_cases hN0:N=0
       · subst hN0;have hU2:M=U:=hU.out.symm;subst hU2;have hL2:M=L':=hUL.out.symm;subst hL2;have hMM:(0:Int)≤(M:Int):=by omega
         have bT:=Below.refl w6.heap.size w6;have dw0:Below w6.heap.size w6 w6.drew:=(Below.refl _ _).drew;replace hS6:=hS6.below dw0;replace hR6:=hR6.keep dw0;replace hX6:=hX6.below dw0;replace hV6:=hV6.below dw0;replace bT:=bT.trans (dw0.mono bT.size);clear dw0;go_wp2_with fail;refine wp_region_noPanic ?_;refine wp_region_wait (J:=[30]) (S:=fun w'=>w'.cell? ⟨S.gs,3,none⟩=some (.slice (some ⟨S.gx,0,none⟩) s.dx.length S.cx)∧w'.cell? ⟨S.gs,1,none⟩=some (.int .i64 (M:Int))∧w'.cell? ⟨S.gs,7,none⟩=some (.bool s.lv.neg)∧w'.cell? ⟨S.gs,8,none⟩=some (.slice s.lv.a s.lv.la.length s.lv.ca)∧w'.cell? ⟨S.gs,9,none⟩=some (.slice s.lv.b s.lv.lb.length s.lv.cb)) (by kernel_rfl) (⟨hS6.b.cells.2.2.2.1,by rw[←hM.out];exact hS6.b.cells.2.1,hS6.b.cells.2.2.2.2.2.2.2.1,hS6.b.cells.2.2.2.2.2.2.2.2.1,hS6.b.cells.2.2.2.2.2.2.2.2.2.1⟩) (fun hHeld=>?_);refine tkW 0 rfl hHeld ?_;refine tkW 1 rfl hHeld ?_;refine tkW 2 rfl hHeld ?_;refine tkW 3 rfl hHeld ?_;refine tkW 4 rfl hHeld ?_;refine tkW 5 rfl hHeld ?_;refine tkW 6 rfl hHeld ?_;refine tkW 7 rfl hHeld ?_;refine tkW 8 rfl hHeld ?_;refine tkW 9 rfl hHeld ?_;refine tkW 10 rfl hHeld ?_;refine tkW 11 rfl hHeld ?_;refine tkW 12 rfl hHeld ?_;refine tkW 13 rfl hHeld ?_;refine tkW 14 rfl hHeld ?_;refine tkW 15 rfl hHeld ?_;refine tkW 16 rfl hHeld ?_;refine tkW 17 rfl hHeld ?_;refine tkW 18 rfl hHeld ?_;refine tkW 19 rfl hHeld ?_;refine tkW 20 rfl hHeld ?_
         refine tkW 21 rfl hHeld ?_;refine tkW 22 rfl hHeld ?_;refine tkW 23 rfl hHeld ?_;refine tkW 24 rfl hHeld ?_;refine tkW 25 rfl hHeld ?_;refine tkW 26 rfl hHeld ?_;refine tkW 27 rfl hHeld ?_;refine tkW 28 rfl hHeld ?_;refine tkW 29 rfl hHeld ?_;refine wpAnyW_ready (rs:=[30]) (by kernel_rfl) (by simp) ?_;refine AllReadyW.last rfl (by decide) (fun K hK=>?_) AllReadyW.nil;have hl1:=Lib.hid (show ((ds.drop 0).take M).length=M by rw[List.length_take,List.length_drop,hdl.out];omega);have hl2:=Lib.hid (show ((ds.drop M).take (0)).length=0 by rw[List.length_take,List.length_drop,hdl.out];omega);have hl3:=Lib.hid (show ((ds.drop M).take (0)).length=0 by rw[List.length_take,List.length_drop,hdl.out];omega);obtain⟨wd,hwd⟩:∃ wd,wd=w6.drew:=⟨_,rfl⟩;rw[←hwd] at hS6 hR6 hX6 hV6 bT ⊢;clear hwd;obtain⟨x9,hx9⟩:∃ x9,Hid (x9=(⟨⟨some ⟨S.gx,0,none⟩,S.cx,s.dx⟩,⟨some ⟨g,0,none⟩,M,(ds.drop 0).take M⟩,⟨some ⟨g,0,none⟩,0,(ds.drop M).take (0)⟩,⟨some ⟨g,0,none⟩,0,(ds.drop M).take (0)⟩,s.lv⟩:PtD)):=⟨_,rfl⟩;obtain⟨w9,z0,z1,z2,z3,z4,z5,z6,f0,f1,f2,f3,f4,f5,f6,e9,h9,o9⟩:=zero_storeP hR6 x9;obtain⟨t0,t1,t2,t3,t4,t5,t6⟩:=h9.cells;rw[hx9.out] at e9 t0 t1 t2 t3 t4 t5 t6
         dsimp only at e9 t0 t1 t2 t3 t4 t5 t6
         try rw[hl1.out] at e9
         try rw[hl2.out] at e9
         try rw[hl3.out] at e9
         try rw[hl1.out] at t1
         try rw[hl2.out] at t2
         try rw[hl3.out] at t3
         go_simp;refine hK.out _ _ ?_;clear hK K;(try clear hHeld);(try simp only[lay]);refine wpAnyW_done (by kernel_rfl) ?_ _;refine NoPanic.normal ?_;(try go_simp);(try clear hHeld);have hg9:=Lib.hid (show g<w9.heap.size by obtain⟨cur,k1,-⟩:=hX6;exact Nat.lt_of_lt_of_le k1.lt o9.size);have hbF:=o9.to_below (hb6.trans (bT.mono hb6.size)) (Nat.le_refl _) (Nat.le_trans hb6.size bT.size);have hp1:FL w9 (some ⟨g,0,none⟩) M ((ds.drop 0).take M):=((hX6.seg hV6 (lo:=0) (n:=M) (k:=M) (by rw[hdl.out];omega) (by omega) (by omega))).far (fun a e=>by cases e;exact hgR.out.symm) hR6 noDigZ o9;have hpl:PtL w9 (⟨⟨some ⟨S.gx,0,none⟩,S.cx,s.dx⟩,⟨some ⟨g,0,none⟩,M,(ds.drop 0).take M⟩,⟨some ⟨g,0,none⟩,0,(ds.drop M).take (0)⟩,⟨some ⟨g,0,none⟩,0,(ds.drop M).take (0)⟩,s.lv⟩:PtD):=⟨(hS6.b.xo.fl hS6.b.xf).far (fun a e=>by cases e;exact hgX.out) hR6 noDigZ o9,hp1,(by have e:(ds.drop M).take 0=[]:=List.take_zero;rw[e];exact FL.none0 _ _ _ (show (0:Nat)≤9223372036854775807 by decide)),(by have e:(ds.drop M).take 0=[]:=List.take_zero;rw[e];exact FL.none0 _ _ _ (show (0:Nat)≤9223372036854775807 by decide)),hS6.b.lev.only_blk hR6 noDigZ o9⟩;go_wp2;refine bodyPost_ret (v:=.agg #[.slice (some ⟨S.gx,0,none⟩) s.dx.length S.cx,.slice (some ⟨g,0,none⟩) M M,.slice (some ⟨g,0,none⟩) (0) (0),.slice (some ⟨g,0,none⟩) (0) (0),.bool s.lv.neg,.slice s.lv.a s.lv.la.length s.lv.ca,.slice s.lv.b s.lv.lb.length s.lv.cb]) (by simp[results,Try.results50,go_sem,t0,t1,t2,t3,t4,t5,t6]) rfl ?_
         refine⟨(⟨⟨some ⟨S.gx,0,none⟩,S.cx,s.dx⟩,⟨some ⟨g,0,none⟩,M,(ds.drop 0).take M⟩,⟨some ⟨g,0,none⟩,0,(ds.drop M).take (0)⟩,⟨some ⟨g,0,none⟩,0,(ds.drop M).take (0)⟩,s.lv⟩:PtD),?_,hpl,?_,⟨fun a e=>by cases e;rfl,fun a e=>by cases e;exact⟨hgw'.out,hg9.out⟩,fun a e=>by cases e;exact⟨hgw'.out,hg9.out⟩,fun a e=>by cases e;exact⟨hgw'.out,hg9.out⟩⟩,hbF⟩
         · dsimp only [PtD.v]
           try rw[hl1.out]
           try rw[hl2.out]
           try rw[hl3.out]
           try rfl
         have hq:=hfin.out;refine⟨rfl,?_,?_,?_,rfl⟩
         · show ((ds.drop 0).take M).map FrD.q=_
           rw[List.map_take,List.map_drop,hq,hM.out];rfl
         · show ((ds.drop M).take (0)).map FrD.q=_
           rw[List.map_take,List.map_drop,hq,hM.out,hN.out]
           all_goals first
            | rfl
            | (congr 1;done)
            | (congr 1;have h1:=hU.out;omega)
         · show ((ds.drop M).take (0)).map FrD.q=_
           rw[List.map_take,List.map_drop,hq,hM.out,hN.out,←hU.out];rw[List.take_of_length_le];rw[List.length_drop,spread_len,hL.out]
           try omega
       · have hMi:(M:Int)≤(L':Int):=by have h1:=hU.out;have h2:=hUL.out;omega
         have hUi:(U:Int)≤(L':Int):=by have h1:=hU.out;have h2:=hUL.out;omega
         have hMU:(M:Int)≤(U:Int):=by have h1:=hU.out;omega
         have hMUn:M<U:=by have h1:=hU.out;omega
         have hUM:¬ U=M:=by omega
         have hUn:U<L':=by have h2:=hUL.out;omega
         have hLU:¬ L'=U:=by omega
         have bT:=Below.refl w6.heap.size w6;have dw0:Below w6.heap.size w6 w6.drew:=(Below.refl _ _).drew;replace hS6:=hS6.below dw0;replace hR6:=hR6.keep dw0;replace hX6:=hX6.below dw0;replace hV6:=hV6.below dw0;replace bT:=bT.trans (dw0.mono bT.size);clear dw0;go_wp2_with fail;refine wp_region_noPanic ?_;refine wp_region_wait (J:=[30]) (S:=fun w'=>w'.cell? ⟨S.gs,3,none⟩=some (.slice (some ⟨S.gx,0,none⟩) s.dx.length S.cx)∧w'.cell? ⟨S.gs,1,none⟩=some (.int .i64 (M:Int))∧w'.cell? ⟨S.gs,7,none⟩=some (.bool s.lv.neg)∧w'.cell? ⟨S.gs,8,none⟩=some (.slice s.lv.a s.lv.la.length s.lv.ca)∧w'.cell? ⟨S.gs,9,none⟩=some (.slice s.lv.b s.lv.lb.length s.lv.cb)) (by kernel_rfl) (⟨hS6.b.cells.2.2.2.1,by rw[←hM.out];exact hS6.b.cells.2.1,hS6.b.cells.2.2.2.2.2.2.2.1,hS6.b.cells.2.2.2.2.2.2.2.2.1,hS6.b.cells.2.2.2.2.2.2.2.2.2.1⟩) (fun hHeld=>?_);refine tkW 0 rfl hHeld ?_;refine tkW 1 rfl hHeld ?_;refine tkW 2 rfl hHeld ?_;refine tkW 3 rfl hHeld ?_;refine tkW 4 rfl hHeld ?_;refine tkW 5 rfl hHeld ?_;refine tkW 6 rfl hHeld ?_;refine tkW 7 rfl hHeld ?_;refine tkW 8 rfl hHeld ?_;refine tkW 9 rfl hHeld ?_;refine tkW 10 rfl hHeld ?_;refine tkW 11 rfl hHeld ?_;refine tkW 12 rfl hHeld ?_;refine tkW 13 rfl hHeld ?_;refine tkW 14 rfl hHeld ?_;refine tkW 15 rfl hHeld ?_;refine tkW 16 rfl hHeld ?_;refine tkW 17 rfl hHeld ?_;refine tkW 18 rfl hHeld ?_;refine tkW 19 rfl hHeld ?_;refine tkW 20 rfl hHeld ?_
         refine tkW 21 rfl hHeld ?_;refine tkW 22 rfl hHeld ?_;refine tkW 23 rfl hHeld ?_;refine tkW 24 rfl hHeld ?_;refine tkW 25 rfl hHeld ?_;refine tkW 26 rfl hHeld ?_;refine tkW 27 rfl hHeld ?_;refine tkW 28 rfl hHeld ?_;refine tkW 29 rfl hHeld ?_;refine wpAnyW_ready (rs:=[30]) (by kernel_rfl) (by simp) ?_;refine AllReadyW.last rfl (by decide) (fun K hK=>?_) AllReadyW.nil;have hl1:=Lib.hid (show ((ds.drop 0).take M).length=M by rw[List.length_take,List.length_drop,hdl.out];omega);have hl2:=Lib.hid (show ((ds.drop M).take (U-M)).length=U-M by rw[List.length_take,List.length_drop,hdl.out];omega);have hl3:=Lib.hid (show ((ds.drop U).take (L'-U)).length=L'-U by rw[List.length_take,List.length_drop,hdl.out];omega);obtain⟨wd,hwd⟩:∃ wd,wd=w6.drew:=⟨_,rfl⟩;rw[←hwd] at hS6 hR6 hX6 hV6 bT ⊢;clear hwd;obtain⟨x9,hx9⟩:∃ x9,Hid (x9=(⟨⟨some ⟨S.gx,0,none⟩,S.cx,s.dx⟩,⟨some ⟨g,0,none⟩,M,(ds.drop 0).take M⟩,⟨some ⟨g,M*3,none⟩,U-M,(ds.drop M).take (U-M)⟩,⟨some ⟨g,U*3,none⟩,L'-U,(ds.drop U).take (L'-U)⟩,s.lv⟩:PtD)):=⟨_,rfl⟩;obtain⟨w9,z0,z1,z2,z3,z4,z5,z6,f0,f1,f2,f3,f4,f5,f6,e9,h9,o9⟩:=zero_storeP hR6 x9;obtain⟨t0,t1,t2,t3,t4,t5,t6⟩:=h9.cells;rw[hx9.out] at e9 t0 t1 t2 t3 t4 t5 t6
         dsimp only at e9 t0 t1 t2 t3 t4 t5 t6
         try rw[hl1.out] at e9
         try rw[hl2.out] at e9
         try rw[hl3.out] at e9
         try rw[hl1.out] at t1
         try rw[hl2.out] at t2
         try rw[hl3.out] at t3
         go_simp;refine hK.out _ _ ?_;clear hK K;(try clear hHeld);(try simp only[lay]);refine wpAnyW_done (by kernel_rfl) ?_ _;refine NoPanic.normal ?_;(try go_simp);(try clear hHeld);have hg9:=Lib.hid (show g<w9.heap.size by obtain⟨cur,k1,-⟩:=hX6;exact Nat.lt_of_lt_of_le k1.lt o9.size);have hbF:=o9.to_below (hb6.trans (bT.mono hb6.size)) (Nat.le_refl _) (Nat.le_trans hb6.size bT.size);have hp1:FL w9 (some ⟨g,0,none⟩) M ((ds.drop 0).take M):=((hX6.seg hV6 (lo:=0) (n:=M) (k:=M) (by rw[hdl.out];omega) (by omega) (by omega))).far (fun a e=>by cases e;exact hgR.out.symm) hR6 noDigZ o9;have hpl:PtL w9 (⟨⟨some ⟨S.gx,0,none⟩,S.cx,s.dx⟩,⟨some ⟨g,0,none⟩,M,(ds.drop 0).take M⟩,⟨some ⟨g,M*3,none⟩,U-M,(ds.drop M).take (U-M)⟩,⟨some ⟨g,U*3,none⟩,L'-U,(ds.drop U).take (L'-U)⟩,s.lv⟩:PtD):=⟨(hS6.b.xo.fl hS6.b.xf).far (fun a e=>by cases e;exact hgX.out) hR6 noDigZ o9,hp1,(((hX6.seg hV6 (lo:=M) (n:=U-M) (k:=U-M) (by rw[hdl.out];omega) (by omega) (by omega))).far (fun a e=>by cases e;exact hgR.out.symm) hR6 noDigZ o9),(((hX6.seg hV6 (lo:=U) (n:=L'-U) (k:=L'-U) (by rw[hdl.out];omega) (by omega) (by omega))).far (fun a e=>by cases e;exact hgR.out.symm) hR6 noDigZ o9),hS6.b.lev.only_blk hR6 noDigZ o9⟩;go_wp2;refine bodyPost_ret (v:=.agg #[.slice (some ⟨S.gx,0,none⟩) s.dx.length S.cx,.slice (some ⟨g,0,none⟩) M M,.slice (some ⟨g,M*3,none⟩) (U-M) (U-M),.slice (some ⟨g,U*3,none⟩) (L'-U) (L'-U),.bool s.lv.neg,.slice s.lv.a s.lv.la.length s.lv.ca,.slice s.lv.b s.lv.lb.length s.lv.cb]) (by simp[results,Try.results50,go_sem,t0,t1,t2,t3,t4,t5,t6]) rfl ?_
         refine⟨(⟨⟨some ⟨S.gx,0,none⟩,S.cx,s.dx⟩,⟨some ⟨g,0,none⟩,M,(ds.drop 0).take M⟩,⟨some ⟨g,M*3,none⟩,U-M,(ds.drop M).take (U-M)⟩,⟨some ⟨g,U*3,none⟩,L'-U,(ds.drop U).take (L'-U)⟩,s.lv⟩:PtD),?_,hpl,?_,⟨fun a e=>by cases e;rfl,fun a e=>by cases e;exact⟨hgw'.out,hg9.out⟩,fun a e=>by cases e;exact⟨hgw'.out,hg9.out⟩,fun a e=>by cases e;exact⟨hgw'.out,hg9.out⟩⟩,hbF⟩
         · dsimp only [PtD.v]
           try rw[hl1.out]
           try rw[hl2.out]
           try rw[hl3.out]
           try rfl
         have hq:=hfin.out;refine⟨rfl,?_,?_,?_,rfl⟩
         · show ((ds.drop 0).take M).map FrD.q=_
           rw[List.map_take,List.map_drop,hq,hM.out];rfl
         · show ((ds.drop M).take (U-M)).map FrD.q=_
           rw[List.map_take,List.map_drop,hq,hM.out,hN.out]
           all_goals first
            | rfl
            | (congr 1;done)
            | (congr 1;have h1:=hU.out;omega)
         · show ((ds.drop U).take (L'-U)).map FrD.q=_
           rw[List.map_take,List.map_drop,hq,hM.out,hN.out,←hU.out];rw[List.take_of_length_le];rw[List.length_drop,spread_len,hL.out]
           try omega
end Go.Proofs.Ytjhkapjadfpimaa
