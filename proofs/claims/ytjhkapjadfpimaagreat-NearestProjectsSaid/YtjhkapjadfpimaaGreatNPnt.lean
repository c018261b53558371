/- Contracts of functions, for the law. -/
import Derived.Test.YtjhkapjadfpimaaGreatNSat
namespace Go.Proofs.YtjhkapjadfpimaaGreat
set_option linter.unusedVariables false
set_option linter.unusedSimpArgs false
open Go.RowKit Plain
attribute [local go_sem ↓] Go.wp_at_zero Go.wp_at_succ
set_option maxRecDepth 100000
set_option maxHeartbeats 40000000
def RetPnt (S:Sv) (s:Sm) (W:World) (e:Ending) (w':World):Prop :=
 ∃ x:PtD,e=.returned x.v∧PtL w' x∧Hid (x.pay.qs=s.dx.map FrD.q∧x.mults.qs=(G3 S.cs.length (s.ia.zip (s.dm.map FrD.q))).take S.m∧x.low.qs=((G3 S.cs.length (s.ia.zip (s.dm.map FrD.q))).drop S.m).take S.n∧x.high.qs=(G3 S.cs.length (s.ia.zip (s.dm.map FrD.q))).drop (S.m+S.n)∧x.lev.q=s.lv.q)∧Hid ((∀ a,x.pay.a=some a→a.block=S.gx)∧(∀ a,x.mults.a=some a→W.heap.size≤a.block∧a.block<w'.heap.size)∧(∀ a,x.low.a=some a→W.heap.size≤a.block∧a.block<w'.heap.size)∧(∀ a,x.high.a=some a→W.heap.size≤a.block∧a.block<w'.heap.size))∧Below W.heap.size W w'
theorem zQ {S:Sv}{s:Sm}{w:World}(h:SolM S s (.pointer none) w) (hL0:S.cs.length=S.m+S.n+S.n) (hm:S.m≤300) (hn:S.n≤8) (hA0:∀ a∈s.ia,a<S.cs.length) (hlm0:s.dm.length=s.ia.length) (hal:s.ia.length≤7) (hfm0:QFits KN (s.dm.map FrD.q)) :
 Calls Tryz.prog 25 #[.pointer (some ⟨S.gs,0,none⟩)] w (RetPnt S s w):=by
 obtain⟨L,hL⟩:∃ L,Hid (S.cs.length=L):=⟨_,rfl⟩;obtain⟨P,hP⟩:∃ P,Hid (s.ia.length=P):=⟨_,rfl⟩;obtain⟨M,hM⟩:∃ M,Hid (S.m=M):=⟨_,rfl⟩;obtain⟨N,hN⟩:∃ N,Hid (S.n=N):=⟨_,rfl⟩;have d8:L=M+N+N:=by rw[←hL.out,←hM.out,←hN.out];exact hL0
 have p0:L≤400:=by rw[d8,←hM.out,←hN.out];omega
 have p2:P≤7:=by rw[←hP.out];exact hal
 have g6:=a1k d8;have hA:=a1k hA0;have b6:=a1k (show s.dm.length=P by rw[hlm0,hP.out]);have l5:=a1k hfm0;obtain⟨ps,b9⟩:∃ ps,Hid (s.ia.zip (s.dm.map FrD.q)=ps):=⟨_,rfl⟩;have b0:=a1k (show ps.length=P by rw[←b9.out,List.length_zip,a1s,hlm0,hP.out,Nat.min_self])
 have k4:=a1k (show ∀ p∈ps,Fits KN p.2 from fun p hp=>by
  rw[←b9.out] at hp;exact l5.out _ (List.of_mem_zip hp).2)
 obtain⟨w1,p6,b1,l1,B1⟩:=f8 w #[.slice none 0 0,.slice none 0 0,.slice none 0 0,.slice none 0 0,.bool false,.slice none 0 0,.slice none 0 0] 46;have g3:=h.below b1;obtain⟨s0,s1,s2,s3,s4,s5,s6,s7,s8,s9,c2,d2,f9⟩:=g3.b.cells;rw[hL.out] at s2;have g5:=fP w1 L (by omega);obtain⟨w2,k5⟩:∃ w2,w1.alloc (.cells ((List.replicate L P3).flatMap FrD.cells).toArray 28)=w2:=⟨_,rfl⟩;obtain⟨T1,d1⟩:∃ T,Hid (List.replicate L (0:Rat)=T):=⟨_,rfl⟩;have X:=a1k (show T1.length=L by rw[←d1.out,a1p]);have k0:FAt T1 w1.heap.size 0 w1 w2:=by rw[←k5];exact FAt.new T1 X.out w1
 rw[k5] at g5;have d5:=g3.b.all.len;rw[hL.out] at d5;clear hL0 hA0 hlm0 hal hfm0 d8;go_enter Tryz.func25,Tryz.ntmps25;go_wp2;clear s0 s1 s2 s3 s4 s5 s6 s7 s8 s9 c2 d2 f9 g5
 go_loopw [16] (fun i wr=>∃ j:Nat,j≤L∧i=.int .i64 (j:Int)∧FAt T1 w1.heap.size j w1 wr) (fun i _=>L-(intOf i).toNat)
 case atStart=>exact⟨0,by omega,rfl,k0⟩
 case round =>
  clear k0;obtain⟨j,hj,rfl,Z⟩:=hrel
  by_cases hjl:j<L
  · have n1:(j:Int)<(L:Int):=by omega
    go_wp2_with fail;refine (r7 0 _ (by decide) (by decide)).mono ?_;rintro e w4 ⟨v1,rfl,h8,b4⟩;obtain⟨zz,rfl,hz,m4⟩:=h8.frd;clear h8;obtain⟨u0,u1,u2,w5,t0,t1,t2,f0,f1,f2,e5,l2,o⟩:=(Z.below b4).put (by rw[X.out];exact hjl) (a1u _) hz;have j0:=a1k (o (by rw[←d1.out,a2m,if_pos hjl,m4.out];rfl));clear o Z hz l2;go_wp2;go_roundw
    case rel=>exact⟨j+1,by omega,by go_num,j0.out⟩
    case measure=>simp[intOf];omega
  · obtain rfl:j=L:=by omega
    have n7:decide ((j:Int)<(j:Int))=false:=a1v (by omega);rw[show FAt T1 w1.heap.size j w1 wr=FAt T1 w1.heap.size T1.length w1 wr by rw[X.out]] at Z;have R:=Z.bel;obtain⟨g0,h1,h2,h3,h4⟩:=Z.done;have b3:=a1k (h2.trans X.out);obtain⟨g,d7⟩:∃ g,w1.heap.size=g:=⟨_,rfl⟩;have m5:=a1k (show w1.heap.size≤g by omega);have b8:=a1k (show w.heap.size≠g by omega);have C:=a1k (show w.heap.size≤g by omega);have h7:XO wr g j g0:=by rw[←d7,←b3.out];exact h1.xo (by rw[b3.out];omega)
    have c8:Below w1.heap.size w1 wr:=R;have b2:Below w.heap.size w wr:=a1j b1 R;rw[d7];have g9:=h.below b2;obtain⟨s0,s1,s2,s3,s4,s5,s6,s7,s8,s9,c2,d2,f9⟩:=g9.b.cells;obtain⟨AI,cI,c5,-⟩:=h.act.il;rw[c5,hP.out] at c2
    have q0:P≤cI∧cI≤9223372036854775807:=by
     obtain⟨n2,l7,e2,l0⟩:=h.act.il;rw[c5] at e2;cases e2;exact⟨by rw[←hP.out];exact l0.1,l0.2.1⟩
    have g2:=a1k c5;have m1:=a1k (show g0.map FrD.q=G3 j (ps.take 0) by rw[h4.out,←d1.out];rfl);obtain⟨L',n3⟩:∃ L',L'=j:=⟨_,rfl⟩;subst n3;clear h1 Z c5 g9 R b2 d7;go_wp2;clear s0 s1 s2 s3 s4 s5 s6 s7 s8 s9 c2 d2 f9
    go_loopw [29] (fun i wr=>∃ j:Nat,j≤P∧i=.int .i64 (j:Int)∧∃ ds,XO wr g L' ds∧AllFV wr ds∧Hid (ds.length=L')∧Hid (ds.map FrD.q=G3 L' (ps.take j))∧Below w1.heap.size w1 wr) (fun i _=>P-(intOf i).toNat)
    case atStart=>exact⟨0,by omega,rfl,g0,h7,h3,b3.out,m1.out,c8⟩
    case round =>
     clear h7 h3 c8;obtain⟨j,hj,rfl,ds,hX,hV,A,d6,hb⟩:=hrel
     by_cases hjl:j<P
     · have n1:(j:Int)<(P:Int):=by omega
       have h0:Below w.heap.size w wr:=a1j b1 hb;have hS:=h.below h0;obtain⟨n2,l7,e2,hI⟩:=hS.act.il;rw[g2.out] at e2
       cases e2
       obtain⟨x,hx⟩:∃ x,Hid (s.ia[j]?=some x):=⟨_,a1m (by rw[hP.out];exact hjl)⟩;obtain⟨aI,m2,q3,p3⟩:=hI.2.2 j _ hx.out;have g1:x<L':=by rw[←hL.out];exact hA.out _ (a1n hx.out)
       have p4:(x:Int)<(L':Int):=by omega
       rw[m2];obtain⟨w4,m0⟩:∃ w4,w4=wr:=⟨_,rfl⟩;subst m0;have l3:=a1k (show x<ds.length by rw[A.out];exact g1);obtain⟨xk,D⟩:∃ xk,Hid (ds[x]?=some xk):=⟨_,a1m l3.out⟩;obtain⟨dk,F⟩:∃ dk,Hid (s.dm[j]?=some dk):=⟨_,a1m (by rw[b6.out];exact hjl)⟩;obtain⟨gm,cm,d4⟩:=hS.vform (k:=j) (by rw[b6.out];exact hjl);rw[b6.out] at d4;have E:=a1k d4
       have k6:=a1k (show ps[j]?=some (x,dk.q) by
        rw[←b9.out,List.getElem?_zip_eq_some];exact⟨hx.out,by rw[a1r,F.out];rfl⟩)
       have m9:=a1k (rL (n:=L') k4.out j (by rw[b0.out];omega));have n5:=a1k (show Fits (1+7*(KN+1)) xk.q from (m9.out _ (by rw[←d6.out];exact a2v.2 ⟨xk,a1n D.out,rfl⟩)).mono (by have:=a1y (KN+1) (show j≤7 by omega);omega));have m8:=a1k (show Fits KN dk.q from k4.out _ (a1n k6.out));have hJ:=a1k (show 1+7*(KN+1)+KN<400000000 by decide)
       have o:∀ y:FrD,y.q=xk.q+dk.q→(ds.set x y).map FrD.q=G3 L' (ps.take (j+1)):=fun y hy=>by
        rw[V8 k6.out,←d6.out,List.map_set];unfold aX;rw[hy,show (ds.map FrD.q).getD x 0=xk.q from X2 D.out]
       replace o:=a1k o;have r:=hS;have t:=hX;have H:=hV;have h6:=hb;clear hS hI hX hV hb d4 h0;go_upto_region 10 with fail;have bT:=a3t w4.heap.size w4;have f:Below w4.heap.size w4 w4.drew:=(a3t _ _).drew;replace r:=r.below f;replace t:=t.below f;replace H:=H.below f;replace bT:=a1j bT f;clear f;go_wp2_with fail;refine a3u ?_;refine k9 (J:=[15]) (S:=fun w'=>w'.cell? ⟨g,x*3,none⟩=some (.bool xk.neg)∧w'.cell? ⟨g,x*3+1,none⟩=some (.slice xk.a xk.la.length xk.ca)∧w'.cell? ⟨g,x*3+2,none⟩=some (.slice xk.b xk.lb.length xk.cb)∧w'.cell? ⟨S.gs,11,none⟩=some (.slice (some ⟨gm,0,none⟩) P cm)∧w'.cell? ⟨gm,j*3,none⟩=some (.bool dk.neg)∧w'.cell? ⟨gm,j*3+1,none⟩=some (.slice dk.a dk.la.length dk.ca)∧w'.cell? ⟨gm,j*3+2,none⟩=some (.slice dk.b dk.lb.length dk.cb)) (by kernel_rfl) (⟨(t.cells D.out).1,(t.cells D.out).2.1,(t.cells D.out).2.2,r.c11 b6.out E.out,(r.mc E.out F.out).1,(r.mc E.out F.out).2.1,(r.mc E.out F.out).2.2⟩) (fun c=>?_);refine iK 0 1 2 3 4 5 6 7 c ?_;refine dU 8 9 c ?_
       refine dU 10 11 c ?_;refine dJ 12 rfl c ?_;refine I0 13 rfl fun K hK=>?_;go_simp;have g7:=J0 (H _ (a1n D.out)) (r.mf _ (a1n F.out)) n5.out m8.out hJ.out;go_at_call 27;refine (g7).mono ?_;rintro e u1 ⟨va,rfl,j2,c4⟩;clear g7;replace r:=r.below c4;replace t:=t.below c4;replace H:=H.below c4;replace bT:=a1j bT c4;obtain⟨y,rfl,hy,m3⟩:=j2.frd;clear j2;obtain⟨w9,f0,f1,f2,e9,n0,o9⟩:=t.store l3.out y;have n4:=XO.setFV (k:=x) t H hy o9;go_wp2_with fail;refine hK.out _ _ (⟨(t.cells D.out).1,(t.cells D.out).2.1,(t.cells D.out).2.2,r.c11 b6.out E.out,(r.mc E.out F.out).1,(r.mc E.out F.out).2.1,(r.mc E.out F.out).2.2⟩) (fun c=>?_);clear hK K;(try simp only[j9]);refine dJ 14 rfl c ?_;refine j6 (rs:=[15]) (by kernel_rfl) (by simp) ?_;refine a4j rfl (by decide) (fun K hK=>?_) a4i;go_simp;refine hK.out _ _ ?_;clear hK K;(try clear c);(try simp only[j9]);refine k8 (by kernel_rfl) ?_ _;refine a3w ?_;(try go_simp);(try clear c);have l8:=o9.to_below ((a1j h6 bT)) m5.out (a1t h6.size bT.size);have g8:=a1k (o.out y m3.out);clear r t H hy o9 o;go_wp2;go_roundw
       case rel=>exact⟨j+1,by omega,by go_num,_,n0,n4,(by show (ds.set x y).length=_;rw[a2i];exact A.out),g8.out,l8⟩
       case measure=>simp[intOf];omega
     · obtain rfl:j=P:=by omega
       have n6:decide ((j:Int)<(j:Int))=false:=a1v (by omega)
       have c7:=a1k (show ds.map FrD.q=G3 S.cs.length (s.ia.zip (s.dm.map FrD.q)) by
        rw[d6.out,hL.out,b9.out,a1q (by rw[b0.out];exact a1u _)])
       obtain⟨w5,l4⟩:∃ w5,w5=wr:=⟨_,rfl⟩;subst l4;have j5:=a4f B1 hb;have j4:Below w.heap.size w w5:=a1j b1 hb;have d9:=h.below j4;have c0:w5.cell? ⟨S.gs,0,none⟩=some (.int .i64 (N:Int)):=by rw[←hN.out];exact d9.b.cells.1
       have c1:w5.cell? ⟨S.gs,1,none⟩=some (.int .i64 (M:Int)):=by rw[←hM.out];exact d9.b.cells.2.1
       obtain⟨U,hU⟩:∃ U:Nat,Hid (U=M+N):=⟨_,rfl⟩;have q2:IntKind.i64.wrap ((M:Int)+(N:Int))=(U:Int):=by have h1:=hU.out;have h2:=g6.out;rw[IntKind.wrap_i64];omega
       have c3:=a1k (show L'=U+N by rw[g6.out,hU.out]);have j1:=a1k (show S.gx≠w.heap.size by have k1:=h.b.hx;have k2:=h.b.hR;omega);have g4:=h.b.xo;have g1:s.dx.length≤S.cx:=by obtain⟨h5,-,-,k3,-⟩:=h.b.xo;exact k3
       have l6:w5.cell? ⟨S.gs,0,none⟩=some (.int .i64 (N:Int)):=c0;clear g4 g1;go_wp2
       go_region
       go_wp2;obtain⟨w6,j3⟩:∃ w6,w5.drew=w6:=⟨_,rfl⟩;rw[j3];have Y:Below w5.heap.size w5 w6:=by rw[←j3];exact (a3t _ _).drew
       have b5:=a1j j4 Y;have d:=h.below b5;have l:=a4f j5 Y;have z:=hX.below Y;have B:=AllFV.below hV Y;clear d9 j5 hX hV c0 c1 l6
       by_cases hN0:N=0
       · subst hN0;have l9:M=U:=hU.out.symm;subst l9;have m6:M=L':=c3.out.symm;subst m6;have p5:(0:Int)≤(M:Int):=by omega
         have bT:=a3t w6.heap.size w6;have f:Below w6.heap.size w6 w6.drew:=(a3t _ _).drew;replace d:=d.below f;replace l:=l.keep f;replace z:=z.below f;replace B:=B.below f;replace bT:=a1j bT f;clear f;go_wp2_with fail;refine a3u ?_;refine k9 (J:=[30]) (S:=fun w'=>w'.cell? ⟨S.gs,3,none⟩=some (.slice (some ⟨S.gx,0,none⟩) s.dx.length S.cx)∧w'.cell? ⟨S.gs,1,none⟩=some (.int .i64 (M:Int))∧w'.cell? ⟨S.gs,7,none⟩=some (.bool s.lv.neg)∧w'.cell? ⟨S.gs,8,none⟩=some (.slice s.lv.a s.lv.la.length s.lv.ca)∧w'.cell? ⟨S.gs,9,none⟩=some (.slice s.lv.b s.lv.lb.length s.lv.cb)) (by kernel_rfl) (⟨d.b.cells.2.2.2.1,by rw[←hM.out];exact d.b.cells.2.1,d.b.cells.2.2.2.2.2.2.2.1,d.b.cells.2.2.2.2.2.2.2.2.1,d.b.cells.2.2.2.2.2.2.2.2.2.1⟩) (fun c=>?_);refine iK 0 1 2 3 4 5 6 7 c ?_;refine mR 8 9 10 11 c ?_;refine iK 12 13 14 15 16 17 18 19 c ?_;refine dJ 20 rfl c ?_
         refine iK 21 22 23 24 25 26 27 28 c ?_;refine dJ 29 rfl c ?_;refine j6 (rs:=[30]) (by kernel_rfl) (by simp) ?_;refine a4j rfl (by decide) (fun K hK=>?_) a4i;have G:=a1k (show ((ds.drop 0).take M).length=M by rw[a2c,a2d,A.out];omega);have I:=a1k (show ((ds.drop M).take (0)).length=0 by rw[a2c,a2d,A.out];omega);have O:=a1k (show ((ds.drop M).take (0)).length=0 by rw[a2c,a2d,A.out];omega);obtain⟨wd,b7⟩:∃ wd,wd=w6.drew:=⟨_,rfl⟩;rw[←b7] at d l z B bT ⊢;clear b7;obtain⟨x9,d0⟩:∃ x9,Hid (x9=(⟨⟨some ⟨S.gx,0,none⟩,S.cx,s.dx⟩,⟨some ⟨g,0,none⟩,M,(ds.drop 0).take M⟩,⟨some ⟨g,0,none⟩,0,(ds.drop M).take (0)⟩,⟨some ⟨g,0,none⟩,0,(ds.drop M).take (0)⟩,s.lv⟩:PtD)):=⟨_,rfl⟩;obtain⟨w9,z0,z1,z2,z3,z4,z5,z6,f0,f1,f2,f3,f4,f5,f6,e9,h9,o9⟩:=Q9 l x9;obtain⟨t0,t1,t2,t3,t4,t5,t6⟩:=h9.cells;rw[d0.out] at e9 t0 t1 t2 t3 t4 t5 t6
         dsimp only at e9 t0 t1 t2 t3 t4 t5 t6
         try rw[G.out] at e9
         try rw[I.out] at e9
         try rw[O.out] at e9
         try rw[G.out] at t1
         try rw[I.out] at t2
         try rw[O.out] at t3
         go_simp;refine hK.out _ _ ?_;clear hK K;(try clear c);(try simp only[j9]);refine k8 (by kernel_rfl) ?_ _;refine a3w ?_;(try go_simp);(try clear c);have V:=a1k (show g<w9.heap.size by obtain⟨h5,k1,-⟩:=z;exact a1o k1.lt o9.size);have c9:=o9.to_below ((a1j b5 bT)) (a1u _) (a1t b5.size bT.size);have d3:FL w9 (some ⟨g,0,none⟩) M ((ds.drop 0).take M):=((z.seg B (lo:=0) (n:=M) (k:=M) (by rw[A.out];omega) (by omega) (by omega))).far (fun a e=>by cases e;exact b8.out.symm) l I5 o9;have b0:PtL w9 (⟨⟨some ⟨S.gx,0,none⟩,S.cx,s.dx⟩,⟨some ⟨g,0,none⟩,M,(ds.drop 0).take M⟩,⟨some ⟨g,0,none⟩,0,(ds.drop M).take (0)⟩,⟨some ⟨g,0,none⟩,0,(ds.drop M).take (0)⟩,s.lv⟩:PtD):=⟨(d.b.xo.fl d.b.xf).far (fun a e=>by cases e;exact j1.out) l I5 o9,d3,(by have e:(ds.drop M).take 0=[]:=List.take_zero;rw[e];exact FL.none0 _ _ _ (show (0:Nat)≤9223372036854775807 by decide)),(by have e:(ds.drop M).take 0=[]:=List.take_zero;rw[e];exact FL.none0 _ _ _ (show (0:Nat)≤9223372036854775807 by decide)),d.b.lev.only_blk l I5 o9⟩;go_wp2;refine a3z (v:=.agg #[.slice (some ⟨S.gx,0,none⟩) s.dx.length S.cx,.slice (some ⟨g,0,none⟩) M M,.slice (some ⟨g,0,none⟩) (0) (0),.slice (some ⟨g,0,none⟩) (0) (0),.bool s.lv.neg,.slice s.lv.a s.lv.la.length s.lv.ca,.slice s.lv.b s.lv.lb.length s.lv.cb]) (by simp[results,Tryz.results25,go_sem,t0,t1,t2,t3,t4,t5,t6]) rfl ?_
         refine⟨(⟨⟨some ⟨S.gx,0,none⟩,S.cx,s.dx⟩,⟨some ⟨g,0,none⟩,M,(ds.drop 0).take M⟩,⟨some ⟨g,0,none⟩,0,(ds.drop M).take (0)⟩,⟨some ⟨g,0,none⟩,0,(ds.drop M).take (0)⟩,s.lv⟩:PtD),?_,b0,?_,⟨fun a e=>by cases e;rfl,fun a e=>by cases e;exact⟨C.out,V.out⟩,fun a e=>by cases e;exact⟨C.out,V.out⟩,fun a e=>by cases e;exact⟨C.out,V.out⟩⟩,c9⟩
         · dsimp only [PtD.v]
           try rw[G.out]
           try rw[I.out]
           try rw[O.out]
           try rfl
         have hq:=c7.out;refine⟨rfl,?_,?_,?_,rfl⟩
         · show ((ds.drop 0).take M).map FrD.q=_
           rw[a2f,a2g,hq,hM.out];rfl
         · show ((ds.drop M).take (0)).map FrD.q=_
           rw[a2f,a2g,hq,hM.out,hN.out]
           all_goals first
            | rfl
            | (congr 1;done)
            | (congr 1;have h1:=hU.out;omega)
         · show ((ds.drop M).take (0)).map FrD.q=_
           rw[a2f,a2g,hq,hM.out,hN.out,←hU.out];rw[a1q];rw[a2d,Z2,hL.out]
           try omega
       · have p1:(M:Int)≤(L':Int):=by have h1:=hU.out;have h2:=c3.out;omega
         have q6:(U:Int)≤(L':Int):=by have h1:=hU.out;have h2:=c3.out;omega
         have n9:(M:Int)≤(U:Int):=by have h1:=hU.out;omega
         have n8:M<U:=by have h1:=hU.out;omega
         have q4:¬ U=M:=by omega
         have q1:U<L':=by have h2:=c3.out;omega
         have q5:¬ L'=U:=by omega
         have bT:=a3t w6.heap.size w6;have f:Below w6.heap.size w6 w6.drew:=(a3t _ _).drew;replace d:=d.below f;replace l:=l.keep f;replace z:=z.below f;replace B:=B.below f;replace bT:=a1j bT f;clear f;go_wp2_with fail;refine a3u ?_;refine k9 (J:=[30]) (S:=fun w'=>w'.cell? ⟨S.gs,3,none⟩=some (.slice (some ⟨S.gx,0,none⟩) s.dx.length S.cx)∧w'.cell? ⟨S.gs,1,none⟩=some (.int .i64 (M:Int))∧w'.cell? ⟨S.gs,7,none⟩=some (.bool s.lv.neg)∧w'.cell? ⟨S.gs,8,none⟩=some (.slice s.lv.a s.lv.la.length s.lv.ca)∧w'.cell? ⟨S.gs,9,none⟩=some (.slice s.lv.b s.lv.lb.length s.lv.cb)) (by kernel_rfl) (⟨d.b.cells.2.2.2.1,by rw[←hM.out];exact d.b.cells.2.1,d.b.cells.2.2.2.2.2.2.2.1,d.b.cells.2.2.2.2.2.2.2.2.1,d.b.cells.2.2.2.2.2.2.2.2.2.1⟩) (fun c=>?_);refine iK 0 1 2 3 4 5 6 7 c ?_;refine mR 8 9 10 11 c ?_;refine iK 12 13 14 15 16 17 18 19 c ?_;refine dJ 20 rfl c ?_
         refine iK 21 22 23 24 25 26 27 28 c ?_;refine dJ 29 rfl c ?_;refine j6 (rs:=[30]) (by kernel_rfl) (by simp) ?_;refine a4j rfl (by decide) (fun K hK=>?_) a4i;have G:=a1k (show ((ds.drop 0).take M).length=M by rw[a2c,a2d,A.out];omega);have I:=a1k (show ((ds.drop M).take (U-M)).length=U-M by rw[a2c,a2d,A.out];omega);have O:=a1k (show ((ds.drop U).take (L'-U)).length=L'-U by rw[a2c,a2d,A.out];omega);obtain⟨wd,b7⟩:∃ wd,wd=w6.drew:=⟨_,rfl⟩;rw[←b7] at d l z B bT ⊢;clear b7;obtain⟨x9,d0⟩:∃ x9,Hid (x9=(⟨⟨some ⟨S.gx,0,none⟩,S.cx,s.dx⟩,⟨some ⟨g,0,none⟩,M,(ds.drop 0).take M⟩,⟨some ⟨g,M*3,none⟩,U-M,(ds.drop M).take (U-M)⟩,⟨some ⟨g,U*3,none⟩,L'-U,(ds.drop U).take (L'-U)⟩,s.lv⟩:PtD)):=⟨_,rfl⟩;obtain⟨w9,z0,z1,z2,z3,z4,z5,z6,f0,f1,f2,f3,f4,f5,f6,e9,h9,o9⟩:=Q9 l x9;obtain⟨t0,t1,t2,t3,t4,t5,t6⟩:=h9.cells;rw[d0.out] at e9 t0 t1 t2 t3 t4 t5 t6
         dsimp only at e9 t0 t1 t2 t3 t4 t5 t6
         try rw[G.out] at e9
         try rw[I.out] at e9
         try rw[O.out] at e9
         try rw[G.out] at t1
         try rw[I.out] at t2
         try rw[O.out] at t3
         go_simp;refine hK.out _ _ ?_;clear hK K;(try clear c);(try simp only[j9]);refine k8 (by kernel_rfl) ?_ _;refine a3w ?_;(try go_simp);(try clear c);have V:=a1k (show g<w9.heap.size by obtain⟨h5,k1,-⟩:=z;exact a1o k1.lt o9.size);have c9:=o9.to_below ((a1j b5 bT)) (a1u _) (a1t b5.size bT.size);have d3:FL w9 (some ⟨g,0,none⟩) M ((ds.drop 0).take M):=((z.seg B (lo:=0) (n:=M) (k:=M) (by rw[A.out];omega) (by omega) (by omega))).far (fun a e=>by cases e;exact b8.out.symm) l I5 o9;have b0:PtL w9 (⟨⟨some ⟨S.gx,0,none⟩,S.cx,s.dx⟩,⟨some ⟨g,0,none⟩,M,(ds.drop 0).take M⟩,⟨some ⟨g,M*3,none⟩,U-M,(ds.drop M).take (U-M)⟩,⟨some ⟨g,U*3,none⟩,L'-U,(ds.drop U).take (L'-U)⟩,s.lv⟩:PtD):=⟨(d.b.xo.fl d.b.xf).far (fun a e=>by cases e;exact j1.out) l I5 o9,d3,(((z.seg B (lo:=M) (n:=U-M) (k:=U-M) (by rw[A.out];omega) (by omega) (by omega))).far (fun a e=>by cases e;exact b8.out.symm) l I5 o9),(((z.seg B (lo:=U) (n:=L'-U) (k:=L'-U) (by rw[A.out];omega) (by omega) (by omega))).far (fun a e=>by cases e;exact b8.out.symm) l I5 o9),d.b.lev.only_blk l I5 o9⟩;go_wp2;refine a3z (v:=.agg #[.slice (some ⟨S.gx,0,none⟩) s.dx.length S.cx,.slice (some ⟨g,0,none⟩) M M,.slice (some ⟨g,M*3,none⟩) (U-M) (U-M),.slice (some ⟨g,U*3,none⟩) (L'-U) (L'-U),.bool s.lv.neg,.slice s.lv.a s.lv.la.length s.lv.ca,.slice s.lv.b s.lv.lb.length s.lv.cb]) (by simp[results,Tryz.results25,go_sem,t0,t1,t2,t3,t4,t5,t6]) rfl ?_
         refine⟨(⟨⟨some ⟨S.gx,0,none⟩,S.cx,s.dx⟩,⟨some ⟨g,0,none⟩,M,(ds.drop 0).take M⟩,⟨some ⟨g,M*3,none⟩,U-M,(ds.drop M).take (U-M)⟩,⟨some ⟨g,U*3,none⟩,L'-U,(ds.drop U).take (L'-U)⟩,s.lv⟩:PtD),?_,b0,?_,⟨fun a e=>by cases e;rfl,fun a e=>by cases e;exact⟨C.out,V.out⟩,fun a e=>by cases e;exact⟨C.out,V.out⟩,fun a e=>by cases e;exact⟨C.out,V.out⟩⟩,c9⟩
         · dsimp only [PtD.v]
           try rw[G.out]
           try rw[I.out]
           try rw[O.out]
           try rfl
         have hq:=c7.out;refine⟨rfl,?_,?_,?_,rfl⟩
         · show ((ds.drop 0).take M).map FrD.q=_
           rw[a2f,a2g,hq,hM.out];rfl
         · show ((ds.drop M).take (U-M)).map FrD.q=_
           rw[a2f,a2g,hq,hM.out,hN.out]
           all_goals first
            | rfl
            | (congr 1;done)
            | (congr 1;have h1:=hU.out;omega)
         · show ((ds.drop U).take (L'-U)).map FrD.q=_
           rw[a2f,a2g,hq,hM.out,hN.out,←hU.out];rw[a1q];rw[a2d,Z2,hL.out]
           try omega
end Go.Proofs.YtjhkapjadfpimaaGreat
