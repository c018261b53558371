/- Contracts of functions, for the law. -/
import Derived.Test.YtjhkapjadfpimaaGreatNSat
namespace Go.Proofs.YtjhkapjadfpimaaGreat
set_option linter.unusedVariables false
set_option linter.unusedSimpArgs false
open Go.RowKit Plain
attribute [local go_sem ↓] Go.wp_at_zero Go.wp_at_succ
set_option maxRecDepth 100000
set_option maxHeartbeats 40000000
def CG (S:Sv) (s:Sm) (W:World) (e:Ending) (w':World):Prop :=
 ∃ x:PtD,e=.returned x.v∧PtL w' x∧Hid (x.pay.qs=s.dx.map FrD.q∧x.mults.qs=(cJ S.cs.length (s.ia.zip (s.dm.map FrD.q))).take S.m∧x.low.qs=((cJ S.cs.length (s.ia.zip (s.dm.map FrD.q))).drop S.m).take S.n∧x.high.qs=(cJ S.cs.length (s.ia.zip (s.dm.map FrD.q))).drop (S.m+S.n)∧x.lev.q=s.lv.q)∧Hid ((∀ a,x.pay.a=some a→a.block=S.gx)∧(∀ a,x.mults.a=some a→W.heap.size≤a.block∧a.block<w'.heap.size)∧(∀ a,x.low.a=some a→W.heap.size≤a.block∧a.block<w'.heap.size)∧(∀ a,x.high.a=some a→W.heap.size≤a.block∧a.block<w'.heap.size))∧Below W.heap.size W w'
theorem xj {S:Sv}{s:Sm}{w:World}(h:SolM S s (.pointer none) w) (hL0:S.cs.length=S.m+S.n+S.n) (hm:S.m≤300) (hn:S.n≤8) (hA0:∀ a∈s.ia,a<S.cs.length) (hlm0:s.dm.length=s.ia.length) (hal:s.ia.length≤7) (hfm0:QFits KN (s.dm.map FrD.q)) :
 Calls Tryz.prog 25 #[.pointer (some ⟨S.gs,0,none⟩)] w (CG S s w):=by
 obtain⟨L,hL⟩:∃ L,Hid (S.cs.length=L):=⟨_,rfl⟩;obtain⟨P,hP⟩:∃ P,Hid (s.ia.length=P):=⟨_,rfl⟩;obtain⟨M,hM⟩:∃ M,Hid (S.m=M):=⟨_,rfl⟩;obtain⟨N,hN⟩:∃ N,Hid (S.n=N):=⟨_,rfl⟩;have bo:L=M+N+N:=by rw[←hL.out,←hM.out,←hN.out];exact hL0
 have gz:L≤400:=by rw[bo,←hM.out,←hN.out];omega
 have h8:P≤7:=by rw[←hP.out];exact hal
 have dr:=Dj bo;have hA:=Dj hA0;have b7:=Dj (show s.dm.length=P by rw[hlm0,hP.out]);have fz:=Dj hfm0;obtain⟨ps,bc⟩:∃ ps,Hid (s.ia.zip (s.dm.map FrD.q)=ps):=⟨_,rfl⟩;have Z:=Dj (show ps.length=P by rw[←bc.out,List.length_zip,Dr,hlm0,hP.out,Nat.min_self])
 have d3:=Dj (show ∀ p∈ps,Fits KN p.2 from fun p hp=>by
  rw[←bc.out] at hp;exact fz.out _ (List.of_mem_zip hp).2)
 obtain⟨w1,h0,b1,l1,B1⟩:=ag w #[.slice none 0 0,.slice none 0 0,.slice none 0 0,.slice none 0 0,.bool false,.slice none 0 0,.slice none 0 0] 46;have d7:=h.below b1;obtain⟨s0,s1,s2,s3,s4,s5,s6,s7,s8,s9,bb,bs,c2⟩:=d7.b.cells;rw[hL.out] at s2;have cz:=lH w1 L (by omega);obtain⟨w2,d0⟩:∃ w2,w1.alloc (.cells ((List.replicate L fB).flatMap FrD.cells).toArray 28)=w2:=⟨_,rfl⟩;obtain⟨T1,bn⟩:∃ T,Hid (List.replicate L (0:Rat)=T):=⟨_,rfl⟩;have X:=Dj (show T1.length=L by rw[←bn.out,Do]);have dp:FAt T1 w1.heap.size 0 w1 w2:=by rw[←d0];exact FAt.new T1 X.out w1
 rw[d0] at cz;have c9:=d7.b.all.len;rw[hL.out] at c9;clear hL0 hA0 hlm0 hal hfm0 bo;go_enter Tryz.func25,Tryz.ntmps25;go_wp2;clear s0 s1 s2 s3 s4 s5 s6 s7 s8 s9 bb bs c2 cz
 go_loopw [16] (fun i wr=>∃ j:Nat,j≤L∧i=.int .i64 (j:Int)∧FAt T1 w1.heap.size j w1 wr) (fun i _=>L-(intOf i).toNat)
 case atStart=>exact⟨0,by omega,rfl,dp⟩
 case round =>
  clear dp;obtain⟨j,hj,rfl,b0⟩:=hrel
  by_cases hjl:j<L
  · have gb:(j:Int)<(L:Int):=by omega
    go_wp2_with fail;refine (aH 0 _ (by decide) (by decide)).mono ?_;rintro e w4 ⟨v1,rfl,cq,b4⟩;obtain⟨zz,rfl,hz,g8⟩:=cq.frd;clear cq;obtain⟨u0,u1,u2,w5,t0,t1,t2,f0,f1,f2,e5,d1,o⟩:=(b0.below b4).put (by rw[X.out];exact hjl) (Dt _) hz;have d5:=Dj (o (by rw[←bn.out,DL,if_pos hjl,g8.out];rfl));clear o b0 hz d1;go_wp2;go_roundw
    case rel=>exact⟨j+1,by omega,by go_num,d5.out⟩
    case measure=>simp[intOf];omega
  · obtain rfl:j=L:=by omega
    have gq:decide ((j:Int)<(j:Int))=false:=Du (by omega);rw[show FAt T1 w1.heap.size j w1 wr=FAt T1 w1.heap.size T1.length w1 wr by rw[X.out]] at b0;have O:=b0.bel;obtain⟨bz,h1,h2,h3,h4⟩:=b0.done;have b2:=Dj (h2.trans X.out);obtain⟨g,bq⟩:∃ g,w1.heap.size=g:=⟨_,rfl⟩;have fq:=Dj (show w1.heap.size≤g by omega);have bd:=Dj (show w.heap.size≠g by omega);have C:=Dj (show w.heap.size≤g by omega);have ho:=Dj (show S.gs≠g∧S.gx≠g from ⟨by have k1:=h.b.hs;have k2:=h.b.hR;omega,by have k1:=h.b.hx;have k2:=h.b.hR;omega⟩);have dh:XO wr g j bz:=by rw[←bq,←b2.out];exact h1.xo (by rw[b2.out];omega)
    have bm:Below w1.heap.size w1 wr:=O;have b6:Below w.heap.size w wr:=Di b1 O;rw[bq];have d9:=h.below b6;obtain⟨s0,s1,s2,s3,s4,s5,s6,s7,s8,s9,bb,bs,c2⟩:=d9.b.cells;obtain⟨AI,cI,b9,-⟩:=h.act.il;rw[b9,hP.out] at bb
    have hk:P≤cI∧cI≤9223372036854775807:=by
     obtain⟨g0,fx,e2,db⟩:=h.act.il;rw[b9] at e2;cases e2;exact⟨by rw[←hP.out];exact db.1,db.2.1⟩
    have cr:=Dj b9;have g3:=Dj (show bz.map FrD.q=cJ j (ps.take 0) by rw[h4.out,←bn.out];rfl);obtain⟨L',g2⟩:∃ L',L'=j:=⟨_,rfl⟩;subst g2;clear h1 b0 b9 d9 O b6 bq;go_wp2;clear s0 s1 s2 s3 s4 s5 s6 s7 s8 s9 bb bs c2
    go_loopw [29] (fun i wr=>∃ j:Nat,j≤P∧i=.int .i64 (j:Int)∧∃ ds,XO wr g L' ds∧AllFV wr ds∧Hid (ds.length=L')∧Hid (ds.map FrD.q=cJ L' (ps.take j))∧Below w1.heap.size w1 wr) (fun i _=>P-(intOf i).toNat)
    case atStart=>exact⟨0,by omega,rfl,bz,dh,h3,b2.out,g3.out,bm⟩
    case round =>
     clear dh h3 bm;obtain⟨j,hj,rfl,ds,hX,hV,A,c8,hb⟩:=hrel
     by_cases hjl:j<P
     · have gb:(j:Int)<(P:Int):=by omega
       have cl:Below w.heap.size w wr:=Di b1 hb;have hS:=h.below cl;obtain⟨g0,fx,e2,hI⟩:=hS.act.il;rw[cr.out] at e2
       cases e2
       obtain⟨x,hx⟩:∃ x,Hid (s.ia[j]?=some x):=⟨_,Dl (by rw[hP.out];exact hjl)⟩;obtain⟨aI,g5,gr,gv⟩:=hI.2.2 j _ hx.out;have c5:x<L':=by rw[←hL.out];exact hA.out _ (Dm hx.out)
       have hc:(x:Int)<(L':Int):=by omega
       rw[g5];obtain⟨w4,g1⟩:∃ w4,w4=wr:=⟨_,rfl⟩;subst g1;have d4:=Dj (show x<ds.length by rw[A.out];exact c5);obtain⟨xk,D⟩:∃ xk,Hid (ds[x]?=some xk):=⟨_,Dl d4.out⟩;obtain⟨dk,E⟩:∃ dk,Hid (s.dm[j]?=some dk):=⟨_,Dl (by rw[b7.out];exact hjl)⟩;obtain⟨gm,cm,c7⟩:=hS.vform (k:=j) (by rw[b7.out];exact hjl);rw[b7.out] at c7;have F:=Dj c7
       have cy:=Dj (show ps[j]?=some (x,dk.q) by
        rw[←bc.out,List.getElem?_zip_eq_some];exact⟨hx.out,by rw[Dq,E.out];rfl⟩)
       have fm:=Dj (se (n:=L') d3.out j (by rw[Z.out];omega));have fb:=Dj (show Fits (1+7*(KN+1)) xk.q from (fm.out _ (by rw[←c8.out];exact DU.2 ⟨xk,Dm D.out,rfl⟩)).mono (by have:=Dx (KN+1) (show j≤7 by omega);omega));have g9:=Dj (show Fits KN dk.q from d3.out _ (Dm cy.out));have hJ:=Dj (show 1+7*(KN+1)+KN<400000000 by decide)
       have o:∀ y:FrD,y.q=xk.q+dk.q→(ds.set x y).map FrD.q=cJ L' (ps.take (j+1)):=fun y hy=>by
        rw[ij cy.out,←c8.out,List.map_set];unfold jz;rw[hy,show (ds.map FrD.q).getD x 0=xk.q from iI D.out]
       replace o:=Dj o;have r:=hS;have t:=hX;have V:=hV;have dq:=hb;clear hS hI hX hV hb c7 cl;go_upto_region 10 with fail;have bT:=DY w4.heap.size w4;have f:Below w4.heap.size w4 w4.drew:=(DY _ _).drew;replace r:=r.below f;replace t:=t.below f;replace V:=V.below f;replace bT:=Di bT f;clear f;go_wp2_with fail;refine DZ ?_;refine aw (J:=[15]) (S:=fun w'=>w'.cell? ⟨g,x*3,none⟩=some (.bool xk.neg)∧w'.cell? ⟨g,x*3+1,none⟩=some (.slice xk.a xk.la.length xk.ca)∧w'.cell? ⟨g,x*3+2,none⟩=some (.slice xk.b xk.lb.length xk.cb)∧w'.cell? ⟨S.gs,11,none⟩=some (.slice (some ⟨gm,0,none⟩) P cm)∧w'.cell? ⟨gm,j*3,none⟩=some (.bool dk.neg)∧w'.cell? ⟨gm,j*3+1,none⟩=some (.slice dk.a dk.la.length dk.ca)∧w'.cell? ⟨gm,j*3+2,none⟩=some (.slice dk.b dk.lb.length dk.cb)) (by kernel_rfl) (⟨(t.cells D.out).1,(t.cells D.out).2.1,(t.cells D.out).2.2,r.c11 b7.out F.out,(r.mc F.out E.out).1,(r.mc F.out E.out).2.1,(r.mc F.out E.out).2.2⟩) (fun c=>?_);refine mN 0 1 2 3 4 5 6 7 c ?_;refine kB 8 9 c ?_
       refine kB 10 11 c ?_;refine kr 12 rfl c ?_;refine dg 13 rfl fun K hK=>?_;go_simp;have cd:=dB (V _ (Dm D.out)) (r.mf _ (Dm E.out)) fb.out g9.out hJ.out;go_at_call 27;refine (cd).mono ?_;rintro e u1 ⟨va,rfl,dt,b8⟩;clear cd;replace r:=r.below b8;replace t:=t.below b8;replace V:=V.below b8;replace bT:=Di bT b8;obtain⟨y,rfl,hy,ft⟩:=dt.frd;clear dt;obtain⟨w9,f0,f1,f2,e9,g6,o9⟩:=t.store d4.out y;have gc:=XO.setFV (k:=x) t V hy o9;go_wp2_with fail;refine hK.out _ _ (⟨(t.cells D.out).1,(t.cells D.out).2.1,(t.cells D.out).2.2,r.c11 b7.out F.out,(r.mc F.out E.out).1,(r.mc F.out E.out).2.1,(r.mc F.out E.out).2.2⟩) (fun c=>?_);clear hK K;(try simp only[aq]);refine kr 14 rfl c ?_;refine aj (rs:=[15]) (by kernel_rfl) (by simp) ?_;refine Ee rfl (by decide) (fun K hK=>?_) Ed;go_simp;refine hK.out _ _ ?_;clear hK K;(try clear c);(try simp only[aq]);refine au (by kernel_rfl) ?_ _;refine D1 ?_;(try go_simp);(try clear c);have fs:=o9.to_below ((Di dq bT)) fq.out (Ds dq.size bT.size);have f9:=Dj (o.out y ft.out);clear r t V hy o9 o;go_wp2;go_roundw
       case rel=>exact⟨j+1,by omega,by go_num,_,g6,gc,(by show (ds.set x y).length=_;rw[DH];exact A.out),f9.out,fs⟩
       case measure=>simp[intOf];omega
     · obtain rfl:j=P:=by omega
       have gp:decide ((j:Int)<(j:Int))=false:=Du (by omega)
       have bg:=Dj (show ds.map FrD.q=cJ S.cs.length (s.ia.zip (s.dm.map FrD.q)) by
        rw[c8.out,hL.out,bc.out,Dp (by rw[Z.out];exact Dt _)])
       obtain⟨w5,fv⟩:∃ w5,w5=wr:=⟨_,rfl⟩;subst fv;have cg:=Ea B1 hb;have d8:Below w.heap.size w w5:=Di b1 hb;have bx:=h.below d8;have c0:w5.cell? ⟨S.gs,0,none⟩=some (.int .i64 (N:Int)):=by rw[←hN.out];exact bx.b.cells.1
       have c1:w5.cell? ⟨S.gs,1,none⟩=some (.int .i64 (M:Int)):=by rw[←hM.out];exact bx.b.cells.2.1
       obtain⟨U,hU⟩:∃ U:Nat,Hid (U=M+N):=⟨_,rfl⟩;have hr:IntKind.i64.wrap ((M:Int)+(N:Int))=(U:Int):=by have h1:=hU.out;have h2:=dr.out;rw[IntKind.wrap_i64];omega
       have bf:=Dj (show L'=U+N by rw[dr.out,hU.out]);have d6:=Dj (show S.gx≠w.heap.size by have k1:=h.b.hx;have k2:=h.b.hR;omega);have d2:=h.b.xo;have c5:s.dx.length≤S.cx:=by obtain⟨ch,-,-,k3,-⟩:=h.b.xo;exact k3
       have fr:w5.cell? ⟨S.gs,0,none⟩=some (.int .i64 (N:Int)):=c0;clear d2 c5;go_wp2
       go_region
       go_wp2;obtain⟨w6,cv⟩:∃ w6,w5.drew=w6:=⟨_,rfl⟩;rw[cv];have Y:Below w5.heap.size w5 w6:=by rw[←cv];exact (DY _ _).drew
       have b5:=Di d8 Y;have d:=h.below b5;have l:=Ea cg Y;have z:=hX.below Y;have B:=AllFV.below hV Y;clear bx cg hX hV c0 c1 fr
       by_cases hN0:N=0
       · subst hN0;have g4:M=U:=hU.out.symm;subst g4;have g7:M=L':=bf.out.symm;subst g7;have hf:(0:Int)≤(M:Int):=by omega
         have bT:=DY w6.heap.size w6;have f:Below w6.heap.size w6 w6.drew:=(DY _ _).drew;replace d:=d.below f;replace l:=l.keep f;replace z:=z.below f;replace B:=B.below f;replace bT:=Di bT f;clear f;go_wp2_with fail;refine DZ ?_;refine aw (J:=[30]) (S:=fun w'=>w'.cell? ⟨S.gs,3,none⟩=some (.slice (some ⟨S.gx,0,none⟩) s.dx.length S.cx)∧w'.cell? ⟨S.gs,1,none⟩=some (.int .i64 (M:Int))∧w'.cell? ⟨S.gs,7,none⟩=some (.bool s.lv.neg)∧w'.cell? ⟨S.gs,8,none⟩=some (.slice s.lv.a s.lv.la.length s.lv.ca)∧w'.cell? ⟨S.gs,9,none⟩=some (.slice s.lv.b s.lv.lb.length s.lv.cb)) (by kernel_rfl) (⟨d.b.cells.2.2.2.1,by rw[←hM.out];exact d.b.cells.2.1,d.b.cells.2.2.2.2.2.2.2.1,d.b.cells.2.2.2.2.2.2.2.2.1,d.b.cells.2.2.2.2.2.2.2.2.2.1⟩) (fun c=>?_);refine mN 0 1 2 3 4 5 6 7 c ?_;refine py 8 9 10 11 c ?_;refine mN 12 13 14 15 16 17 18 19 c ?_;refine kr 20 rfl c ?_
         refine mN 21 22 23 24 25 26 27 28 c ?_;refine kr 29 rfl c ?_;refine aj (rs:=[30]) (by kernel_rfl) (by simp) ?_;refine Ee rfl (by decide) (fun K hK=>?_) Ed;have I:=Dj (show ((ds.drop 0).take M).length=M by rw[DB,DC,A.out];omega);have G:=Dj (show ((ds.drop M).take (0)).length=0 by rw[DB,DC,A.out];omega);have R:=Dj (show ((ds.drop M).take (0)).length=0 by rw[DB,DC,A.out];omega);obtain⟨wd,b3⟩:∃ wd,wd=w6.drew:=⟨_,rfl⟩;rw[←b3] at d l z B bT ⊢;clear b3;obtain⟨x9,bv⟩:∃ x9,Hid (x9=(⟨⟨some ⟨S.gx,0,none⟩,S.cx,s.dx⟩,⟨some ⟨g,0,none⟩,M,(ds.drop 0).take M⟩,⟨some ⟨g,0,none⟩,0,(ds.drop M).take (0)⟩,⟨some ⟨g,0,none⟩,0,(ds.drop M).take (0)⟩,s.lv⟩:PtD)):=⟨_,rfl⟩;obtain⟨w9,z0,z1,z2,z3,z4,z5,z6,f0,f1,f2,f3,f4,f5,f6,e9,h9,o9⟩:=fS l x9;obtain⟨t0,t1,t2,t3,t4,t5,t6⟩:=h9.cells;rw[bv.out] at e9 t0 t1 t2 t3 t4 t5 t6
         dsimp only at e9 t0 t1 t2 t3 t4 t5 t6
         try rw[I.out] at e9
         try rw[G.out] at e9
         try rw[R.out] at e9
         try rw[I.out] at t1
         try rw[G.out] at t2
         try rw[R.out] at t3
         go_simp;refine hK.out _ _ ?_;clear hK K;(try clear c);(try simp only[aq]);refine au (by kernel_rfl) ?_ _;refine D1 ?_;(try go_simp);(try clear c);have H:=Dj (show g<w9.heap.size by obtain⟨ch,k1,-⟩:=z;exact Dn k1.lt o9.size);have c3:=o9.to_below ((Di b5 bT)) (Dt _) (Ds b5.size bT.size);have c4:FL w9 (some ⟨g,0,none⟩) M ((ds.drop 0).take M):=((z.seg B (lo:=0) (n:=M) (k:=M) (by rw[A.out];omega) (by omega) (by omega))).far (fun a e=>by cases e;exact bd.out.symm) l dv o9;have Z:PtL w9 (⟨⟨some ⟨S.gx,0,none⟩,S.cx,s.dx⟩,⟨some ⟨g,0,none⟩,M,(ds.drop 0).take M⟩,⟨some ⟨g,0,none⟩,0,(ds.drop M).take (0)⟩,⟨some ⟨g,0,none⟩,0,(ds.drop M).take (0)⟩,s.lv⟩:PtD):=⟨(d.b.xo.fl d.b.xf).far (fun a e=>by cases e;exact d6.out) l dv o9,c4,(by have e:(ds.drop M).take 0=[]:=List.take_zero;rw[e];exact FL.none0 _ _ _ (show (0:Nat)≤9223372036854775807 by decide)),(by have e:(ds.drop M).take 0=[]:=List.take_zero;rw[e];exact FL.none0 _ _ _ (show (0:Nat)≤9223372036854775807 by decide)),d.b.lev.only_blk l dv o9⟩;go_wp2;refine D4 (v:=.agg #[.slice (some ⟨S.gx,0,none⟩) s.dx.length S.cx,.slice (some ⟨g,0,none⟩) M M,.slice (some ⟨g,0,none⟩) (0) (0),.slice (some ⟨g,0,none⟩) (0) (0),.bool s.lv.neg,.slice s.lv.a s.lv.la.length s.lv.ca,.slice s.lv.b s.lv.lb.length s.lv.cb]) (by simp[results,Tryz.results25,go_sem,t0,t1,t2,t3,t4,t5,t6]) rfl ?_
         refine⟨(⟨⟨some ⟨S.gx,0,none⟩,S.cx,s.dx⟩,⟨some ⟨g,0,none⟩,M,(ds.drop 0).take M⟩,⟨some ⟨g,0,none⟩,0,(ds.drop M).take (0)⟩,⟨some ⟨g,0,none⟩,0,(ds.drop M).take (0)⟩,s.lv⟩:PtD),?_,Z,?_,⟨fun a e=>by cases e;rfl,fun a e=>by cases e;exact⟨C.out,H.out⟩,fun a e=>by cases e;exact⟨C.out,H.out⟩,fun a e=>by cases e;exact⟨C.out,H.out⟩⟩,c3⟩
         · dsimp only [PtD.v]
           try rw[I.out]
           try rw[G.out]
           try rw[R.out]
           try rfl
         have hq:=bg.out;refine⟨rfl,?_,?_,?_,rfl⟩
         · show ((ds.drop 0).take M).map FrD.q=_
           rw[DE,DF,hq,hM.out];rfl
         · show ((ds.drop M).take (0)).map FrD.q=_
           rw[DE,DF,hq,hM.out,hN.out]
           all_goals first
            | rfl
            | (congr 1;done)
            | (congr 1;have h1:=hU.out;omega)
         · show ((ds.drop M).take (0)).map FrD.q=_
           rw[DE,DF,hq,hM.out,hN.out,←hU.out];rw[Dp];rw[DC,jb,hL.out]
           try omega
       · have h6:(M:Int)≤(L':Int):=by have h1:=hU.out;have h2:=bf.out;omega
         have hl:(U:Int)≤(L':Int):=by have h1:=hU.out;have h2:=bf.out;omega
         have hg:(M:Int)≤(U:Int):=by have h1:=hU.out;omega
         have gk:M<U:=by have h1:=hU.out;omega
         have h5:¬ U=M:=by omega
         have h7:U<L':=by have h2:=bf.out;omega
         have hh:¬ L'=U:=by omega
         have bT:=DY w6.heap.size w6;have f:Below w6.heap.size w6 w6.drew:=(DY _ _).drew;replace d:=d.below f;replace l:=l.keep f;replace z:=z.below f;replace B:=B.below f;replace bT:=Di bT f;clear f;go_wp2_with fail;refine DZ ?_;refine aw (J:=[30]) (S:=fun w'=>w'.cell? ⟨S.gs,3,none⟩=some (.slice (some ⟨S.gx,0,none⟩) s.dx.length S.cx)∧w'.cell? ⟨S.gs,1,none⟩=some (.int .i64 (M:Int))∧w'.cell? ⟨S.gs,7,none⟩=some (.bool s.lv.neg)∧w'.cell? ⟨S.gs,8,none⟩=some (.slice s.lv.a s.lv.la.length s.lv.ca)∧w'.cell? ⟨S.gs,9,none⟩=some (.slice s.lv.b s.lv.lb.length s.lv.cb)) (by kernel_rfl) (⟨d.b.cells.2.2.2.1,by rw[←hM.out];exact d.b.cells.2.1,d.b.cells.2.2.2.2.2.2.2.1,d.b.cells.2.2.2.2.2.2.2.2.1,d.b.cells.2.2.2.2.2.2.2.2.2.1⟩) (fun c=>?_);refine mN 0 1 2 3 4 5 6 7 c ?_;refine py 8 9 10 11 c ?_;refine mN 12 13 14 15 16 17 18 19 c ?_;refine kr 20 rfl c ?_
         refine mN 21 22 23 24 25 26 27 28 c ?_;refine kr 29 rfl c ?_;refine aj (rs:=[30]) (by kernel_rfl) (by simp) ?_;refine Ee rfl (by decide) (fun K hK=>?_) Ed;have I:=Dj (show ((ds.drop 0).take M).length=M by rw[DB,DC,A.out];omega);have G:=Dj (show ((ds.drop M).take (U-M)).length=U-M by rw[DB,DC,A.out];omega);have R:=Dj (show ((ds.drop U).take (L'-U)).length=L'-U by rw[DB,DC,A.out];omega);obtain⟨wd,b3⟩:∃ wd,wd=w6.drew:=⟨_,rfl⟩;rw[←b3] at d l z B bT ⊢;clear b3;obtain⟨x9,bv⟩:∃ x9,Hid (x9=(⟨⟨some ⟨S.gx,0,none⟩,S.cx,s.dx⟩,⟨some ⟨g,0,none⟩,M,(ds.drop 0).take M⟩,⟨some ⟨g,M*3,none⟩,U-M,(ds.drop M).take (U-M)⟩,⟨some ⟨g,U*3,none⟩,L'-U,(ds.drop U).take (L'-U)⟩,s.lv⟩:PtD)):=⟨_,rfl⟩;obtain⟨w9,z0,z1,z2,z3,z4,z5,z6,f0,f1,f2,f3,f4,f5,f6,e9,h9,o9⟩:=fS l x9;obtain⟨t0,t1,t2,t3,t4,t5,t6⟩:=h9.cells;rw[bv.out] at e9 t0 t1 t2 t3 t4 t5 t6
         dsimp only at e9 t0 t1 t2 t3 t4 t5 t6
         try rw[I.out] at e9
         try rw[G.out] at e9
         try rw[R.out] at e9
         try rw[I.out] at t1
         try rw[G.out] at t2
         try rw[R.out] at t3
         go_simp;refine hK.out _ _ ?_;clear hK K;(try clear c);(try simp only[aq]);refine au (by kernel_rfl) ?_ _;refine D1 ?_;(try go_simp);(try clear c);have H:=Dj (show g<w9.heap.size by obtain⟨ch,k1,-⟩:=z;exact Dn k1.lt o9.size);have c3:=o9.to_below ((Di b5 bT)) (Dt _) (Ds b5.size bT.size);have c4:FL w9 (some ⟨g,0,none⟩) M ((ds.drop 0).take M):=((z.seg B (lo:=0) (n:=M) (k:=M) (by rw[A.out];omega) (by omega) (by omega))).far (fun a e=>by cases e;exact bd.out.symm) l dv o9;have Z:PtL w9 (⟨⟨some ⟨S.gx,0,none⟩,S.cx,s.dx⟩,⟨some ⟨g,0,none⟩,M,(ds.drop 0).take M⟩,⟨some ⟨g,M*3,none⟩,U-M,(ds.drop M).take (U-M)⟩,⟨some ⟨g,U*3,none⟩,L'-U,(ds.drop U).take (L'-U)⟩,s.lv⟩:PtD):=⟨(d.b.xo.fl d.b.xf).far (fun a e=>by cases e;exact d6.out) l dv o9,c4,(((z.seg B (lo:=M) (n:=U-M) (k:=U-M) (by rw[A.out];omega) (by omega) (by omega))).far (fun a e=>by cases e;exact bd.out.symm) l dv o9),(((z.seg B (lo:=U) (n:=L'-U) (k:=L'-U) (by rw[A.out];omega) (by omega) (by omega))).far (fun a e=>by cases e;exact bd.out.symm) l dv o9),d.b.lev.only_blk l dv o9⟩;go_wp2;refine D4 (v:=.agg #[.slice (some ⟨S.gx,0,none⟩) s.dx.length S.cx,.slice (some ⟨g,0,none⟩) M M,.slice (some ⟨g,M*3,none⟩) (U-M) (U-M),.slice (some ⟨g,U*3,none⟩) (L'-U) (L'-U),.bool s.lv.neg,.slice s.lv.a s.lv.la.length s.lv.ca,.slice s.lv.b s.lv.lb.length s.lv.cb]) (by simp[results,Tryz.results25,go_sem,t0,t1,t2,t3,t4,t5,t6]) rfl ?_
         refine⟨(⟨⟨some ⟨S.gx,0,none⟩,S.cx,s.dx⟩,⟨some ⟨g,0,none⟩,M,(ds.drop 0).take M⟩,⟨some ⟨g,M*3,none⟩,U-M,(ds.drop M).take (U-M)⟩,⟨some ⟨g,U*3,none⟩,L'-U,(ds.drop U).take (L'-U)⟩,s.lv⟩:PtD),?_,Z,?_,⟨fun a e=>by cases e;rfl,fun a e=>by cases e;exact⟨C.out,H.out⟩,fun a e=>by cases e;exact⟨C.out,H.out⟩,fun a e=>by cases e;exact⟨C.out,H.out⟩⟩,c3⟩
         · dsimp only [PtD.v]
           try rw[I.out]
           try rw[G.out]
           try rw[R.out]
           try rfl
         have hq:=bg.out;refine⟨rfl,?_,?_,?_,rfl⟩
         · show ((ds.drop 0).take M).map FrD.q=_
           rw[DE,DF,hq,hM.out];rfl
         · show ((ds.drop M).take (U-M)).map FrD.q=_
           rw[DE,DF,hq,hM.out,hN.out]
           all_goals first
            | rfl
            | (congr 1;done)
            | (congr 1;have h1:=hU.out;omega)
         · show ((ds.drop U).take (L'-U)).map FrD.q=_
           rw[DE,DF,hq,hM.out,hN.out,←hU.out];rw[Dp];rw[DC,jb,hL.out]
           try omega
end Go.Proofs.YtjhkapjadfpimaaGreat
