/- Contracts of functions, for the law. -/
import Derived.Test.YtjhkapjadfpimaaGreatFCmp
namespace Go.Proofs.YtjhkapjadfpimaaGreat
set_option linter.unusedVariables false
set_option linter.unusedSimpArgs false
open Go.RowKit Plain
attribute [local go_sem ↓] Go.wp_at_zero Go.wp_at_succ
set_option maxRecDepth 100000
set_option maxHeartbeats 40000000
theorem nW (all:List Con) (x:List Rat) (k:Nat):aP all x (k+1)=if 0<lst all k-cD (nrm all k) x∧((aP all x k).1=none∨(aP all x k).2<lst all k-cD (nrm all k) x) then (some k,lst all k-cD (nrm all k) x) else aP all x k:=rfl
theorem tx {n:Nat}{all:List Con}{x:List Rat}(hc:ConI n all) (hn:n≤8) (hx:QFits KN x):∀ k,k≤all.length→∀ j t,aP all x k=(some j,t)→Fits (2+(1+8*(KN+KN+1))+1) t:=by
 intro k
 induction k with
 | zero=>intro _ j t e;cases e
 | succ k ih =>
  intro hk j t e;rw[nW] at e
  split at e
  · injection e with e1 e2
    rw[←e2];exact (hc.lstk (by omega)).sub (iY (fun q hq=>((hc.nrmk (by omega) q hq).fits (by decide)).mono (by decide)) hx (by rw[hc.len.nrm (by omega)];exact hn))
  · exact ih (by omega) j t e
theorem iZ {S:Sv}{dx:List FrD}{lv:FrD}{va vm ent:Value}{w:World}(h:SolB S dx lv va vm ent w) (hc:ConI S.n (S.cs.map CoD.con)) (hl:dx.length=S.n) (hn:S.n≤8) (hf:QFits KN (dx.map FrD.q)) :
 Calls Tryz.prog 44 #[.pointer (some ⟨S.gs,0,none⟩)] w (pF (oi (aP (S.cs.map CoD.con) (dx.map FrD.q) S.cs.length).1) w):=by
 obtain⟨w1,gm,b1,l1,B1⟩:=ag w #[.bool false,.slice none 0 0,.slice none 0 0] 28;have g1:=h.below b1;obtain⟨s0,s1,s2,s3,s4,s5,s6,s7,s8,s9,fm,f4,fz⟩:=g1.cells;have dt:=h.all.len;obtain⟨L,hL⟩:∃ L,Hid (S.cs.length=L):=⟨_,rfl⟩;obtain⟨all,C⟩:∃ all,Hid (S.cs.map CoD.con=all):=⟨_,rfl⟩;obtain⟨x,hx⟩:∃ x,Hid (dx.map FrD.q=x):=⟨_,rfl⟩;have bx:=Dj hc;have g7:=Dj hl;have dp:=Dj (show ∀ d∈dx,Fits KN d.q from QFits.fr0 hf);have d5:=Dj (show QFits KN x by rw[←hx.out];exact hf);rw[C.out,hx.out];have M:MaybeQ w1 w.heap.size (aP all x 0).1 (aP all x 0).2:=MaybeQ.zero B1 _;clear hc hl hf B1;go_enter Tryz.func44,Tryz.ntmps44;go_wp2;rw[hL.out];rw[hL.out] at dt
 go_loopw [3,13] (fun v i wr=>∃ k:Nat,k≤L∧i=.int .i64 (k:Int)∧v=.int .i64 (oi (aP all x k).1)∧MaybeQ wr w.heap.size (aP all x k).1 (aP all x k).2∧Below w.heap.size w wr) (fun _ i _=>L-(intOf i).toNat)
 case atStart=>exact⟨0,by omega,rfl,rfl,M,b1⟩
 case round =>
  clear M s0 s1 s2 s3 s4 s5 s6 s7 s8 s9 fm f4 fz;obtain⟨k,hk,rfl,rfl,M,b0⟩:=hrel;obtain⟨o,t,bd⟩:∃ o t,Hid (aP all x k=(o,t)):=⟨_,_,rfl⟩;rw[bd.out] at M;rw[bd.out]
  dsimp only at M ⊢
  by_cases hkl:k<L
  · have gb:(k:Int)<(L:Int):=by omega
    have hb:=h.below b0;obtain⟨a,c,ea,gp,c0,c1,c2,c3,d9,d7,f5⟩:=hb.all.at (k:=k) (by rw[hL.out];exact hkl);rw[ea];obtain⟨wA,w4,eA,p0,p1,p2,p3,r0,r1,r2,r3,eB,b8,b4,l4⟩:=Bd wr c;have cv:=Di b0 b4;have bz:=hb.below b4;have c4:=M.below b4;have y:=d9.below b4;have p:=d7.below b4;have N:=Dj (show all[k]?=some c.con by rw[←C.out,Dq,f5.out];rfl);have z:FL w4 (some ⟨S.gx,0,none⟩) S.cx dx:=bz.xo.fl bz.xf;have bs:=Dj (show k<(S.cs.map CoD.con).length by rw[Dr,hL.out];exact hkl)
    have d4:=Dj (show c.r.ds.length=S.n by
     have h1:=bx.out.len.nrm bs.out;rw[C.out,fK N.out] at h1;have h2:(c.r.ds.map FrD.q).length=S.n:=h1;rw[Dr] at h2;exact h2)
    have d6:=Dj (show QFits 1 (c.r.ds.map FrD.q) from fun q hq=>by
     have h1:=bx.out.nrmk bs.out;rw[C.out,fK N.out] at h1;exact (h1 q hq).fits (by decide))
    have H:=Dj (show (∀ d∈c.r.ds,Fits KN d.q)∧Fits 2 c.l.q∧Fits (1+8*(KN+KN+1)) (cD (nrm all k) x) from
     ⟨fun d hd=>(QFits.fr0 d6.out d hd).mono (by decide),by
      have h1:=bx.out.lstk bs.out;rw[C.out,kS N.out] at h1;exact h1,iY (by rw[fK N.out];exact d6.out.mono (by decide)) d5.out (by rw[fK N.out];show (c.r.ds.map FrD.q).length≤8;rw[Dr,d4.out];exact hn)⟩)
    have f3:=Dj (show 1+(c.r.ds.length+1)*(KN+KN+1)<400000000 by rw[d4.out];have h1:=Dx (KN+KN+1) (show S.n+1≤9 by omega);show 1+(S.n+1)*20000001<400000000;have h2:(S.n+1)*20000001≤9*20000001:=h1;omega);have dr:=Dj (show aB (gP c.r.ds dx)=cD (nrm all k) x by rw[iL,fK N.out,←hx.out];rfl);have ft:=Dj (show Fits (2+(1+8*(KN+KN+1))+1) (c.l.q-cD (nrm all k) x) from H.out.2.1.sub H.out.2.2);clear hb d9 d7 M;go_upto_region 6 with fail;clear p0 p1 p2 p3 r0 r1 r2 r3 eA eB c0 c1 c2 c3
    go_cut [7] (fun v wx=>∃ g s,v=.pointer (some ⟨g,0,none⟩)∧VarQ wx g s∧FV wx s.v s.q∧Hid (s.q=c.l.q-cD (nrm all k) x)∧Below w4.heap.size w4 wx∧w4.heap.size≤g)
    case first =>
     have bT:=DY w4.heap.size w4
     have hS:∀ w',Below w4.heap.size w4 w'→w'.cell? ⟨wr.heap.size,0,none⟩=some (.slice c.r.a c.r.ds.length c.r.c)∧w'.cell? ⟨wr.heap.size,1,none⟩=some (.bool c.l.neg)∧w'.cell? ⟨wr.heap.size,2,none⟩=some (.slice c.l.a c.l.la.length c.l.ca)∧w'.cell? ⟨wr.heap.size,3,none⟩=some (.slice c.l.b c.l.lb.length c.l.cb)∧w'.cell? ⟨S.gs,3,none⟩=some (.slice (some ⟨S.gx,0,none⟩) dx.length S.cx)∧Below w4.heap.size w4 w':=by
      intro w' o;exact⟨(b8.below o).cells.1,(b8.below o).cells.2.1,(b8.below o).cells.2.2.1,(b8.below o).cells.2.2.2,(bz.below o).cells.2.2.2.1,o⟩
     have bo:Below w4.heap.size w4 w4:=DY _ _;have dS:Below w4.heap.size w4 w4.drew:=bo.drew;go_wp2_with fail;refine DZ ?_;refine D0 (S:=fun w'=>w'.cell? ⟨wr.heap.size,0,none⟩=some (.slice c.r.a c.r.ds.length c.r.c)∧w'.cell? ⟨wr.heap.size,1,none⟩=some (.bool c.l.neg)∧w'.cell? ⟨wr.heap.size,2,none⟩=some (.slice c.l.a c.l.la.length c.l.ca)∧w'.cell? ⟨wr.heap.size,3,none⟩=some (.slice c.l.b c.l.lb.length c.l.cb)∧w'.cell? ⟨S.gs,3,none⟩=some (.slice (some ⟨S.gx,0,none⟩) dx.length S.cx)∧Below w4.heap.size w4 w') (by kernel_rfl) (hS _ dS) (fun f=>?_);refine pE 0 1 2 3 4 5 6 7 f ?_;refine D6 (rs:=[8,10]) (by kernel_rfl) (by simp) ?_;refine D2 rfl (fun K hK=>?_) ?_
     · go_simp;have bc:Below w4.heap.size w4 w4.drew:=(DY _ _).drew;replace p:=p.below bc;replace y:=y.below bc;replace z:=z.below bc;replace bT:=Di bT bc;replace bo:=Di bo bc;have A:=gW (K:=KN) y z H.out.1 dp.out f3.out;rw[dr.out] at A;go_at_call 70;refine (A).mono ?_;rintro e u1 ⟨vd,rfl,G,Z⟩;replace p:=p.below Z;replace y:=y.below Z;replace z:=z.below Z;replace bT:=Di bT Z;replace bo:=Di bo Z;clear A;go_wp2_with fail;refine hK.out _ _ (hS _ bo) (fun f=>?_);clear hK K;(try simp only[aq]);refine D6 (rs:=[9,10]) (by kernel_rfl) (by simp) ?_;refine D2 rfl (fun K hK=>?_) ?_
       · go_simp;have A:=bI p G H.out.2.1 H.out.2.2 (by decide);go_at_call 32;refine (A).mono ?_;rintro e u2 ⟨vs,rfl,J,bv⟩;replace p:=p.below bv;replace G:=G.below bv;replace bT:=Di bT bv;replace bo:=Di bo bv;clear A;obtain⟨gs,rfl,B,bb⟩:=J.frd;clear J;go_wp2_with fail;refine hK.out _ _ (hS _ bo) (fun f=>?_);clear hK K;(try simp only[aq]);refine aV 10 rfl fun K hK=>?_;have bf:=bT.size;obtain⟨u3,g8,V,h3,dq⟩:=ag u2 #[.bool false,.slice none 0 0,.slice none 0 0] 28;replace p:=p.below V;replace G:=G.below V;replace B:=B.below V;replace bT:=Di bT V;replace bo:=Di bo V;have hA:=dq;clear dq;go_simp;refine hK.out _ _ (hS _ bo) (fun f=>?_);clear hK K;(try simp only[aq]);refine aV 11 rfl fun K hK=>?_;have D:=bf;obtain⟨u4,q0,q1,q2,f0,f1,f2,gv,fv,cl⟩:=aF hA gs;have bT:=cl.to_below bT D bT.size;have bo:=cl.to_below bo D bo.size;replace B:=B.only_blk hA (ar _ _ _ _ _ _ _) cl;go_simp;refine hK.out _ _ (hS _ bo) (fun f=>?_);clear hK K;(try simp only[aq]);refine D7 (by kernel_rfl) ?_ _;refine D1 ?_;(try go_simp);clear f;go_wp2_with fail
         go_meet;exact⟨_,gs,rfl,fv,B,bb,bT,D⟩
       refine D2 rfl (fun K hK=>?_) ?_
       · have bf:=bT.size;obtain⟨u5,gc,bq,gq,dm⟩:=ag u1 #[.bool false,.slice none 0 0,.slice none 0 0] 28;replace p:=p.below bq;replace G:=G.below bq;replace bT:=Di bT bq;replace bo:=Di bo bq;have hA:=dm;clear dm;go_simp;refine hK.out _ _ (hS _ bo) (fun f=>?_);clear hK K;(try simp only[aq]);refine aV 9 rfl fun K hK=>?_;go_simp;have A:=bI p G H.out.2.1 H.out.2.2 (by decide);go_at_call 32;refine (A).mono ?_;rintro e u6 ⟨vs,rfl,J,d2⟩;replace hA:=hA.keep d2;replace bT:=Di bT d2;replace bo:=Di bo d2;clear A;obtain⟨gs,rfl,B,bb⟩:=J.frd;clear J;go_wp2_with fail;refine hK.out _ _ (hS _ bo) (fun f=>?_);clear hK K;(try simp only[aq]);refine aV 11 rfl fun K hK=>?_;have D:=bf;obtain⟨u7,q0,q1,q2,f0,f1,f2,h4,fq,cd⟩:=aF hA gs;have bT:=cd.to_below bT D bT.size;have bo:=cd.to_below bo D bo.size;replace B:=B.only_blk hA (ar _ _ _ _ _ _ _) cd;go_simp;refine hK.out _ _ (hS _ bo) (fun f=>?_);clear hK K;(try simp only[aq]);refine D7 (by kernel_rfl) ?_ _;refine D1 ?_;(try go_simp);clear f;go_wp2_with fail
         go_meet;exact⟨_,gs,rfl,fq,B,bb,bT,D⟩
       exact D3
     refine D2 rfl (fun K hK=>?_) ?_
     · have bf:=bT.size;have X:Below w4.heap.size w4 w4.drew:=(DY _ _).drew;replace p:=p.below X;replace y:=y.below X;replace z:=z.below X;replace bT:=Di bT X;replace bo:=Di bo X;obtain⟨u8,gk,Y,h0,bm⟩:=ag w4.drew #[.bool false,.slice none 0 0,.slice none 0 0] 28;replace p:=p.below Y;replace y:=y.below Y;replace z:=z.below Y;replace bT:=Di bT Y;replace bo:=Di bo Y;replace bm:Blk u8 w4.heap.size 28 #[.bool false,.slice none 0 0,.slice none 0 0]:=bm;have hA:=bm;clear bm;go_simp;refine hK.out _ _ (hS _ bo) (fun f=>?_);clear hK K;(try simp only[aq]);refine aV 8 rfl fun K hK=>?_;go_simp;have A:=gW (K:=KN) y z H.out.1 dp.out f3.out;rw[dr.out] at A;go_at_call 70;refine (A).mono ?_;rintro e u9 ⟨vd,rfl,G,bg⟩;replace p:=p.below bg;replace hA:=hA.keep bg;replace bT:=Di bT bg;replace bo:=Di bo bg;clear A;go_wp2_with fail;refine hK.out _ _ (hS _ bo) (fun f=>?_);clear hK K;(try simp only[aq]);refine aV 9 rfl fun K hK=>?_;go_simp;have A:=bI p G H.out.2.1 H.out.2.2 (by decide);go_at_call 32;refine (A).mono ?_;rintro e gr ⟨vs,rfl,J,b2⟩
       replace hA:=hA.keep b2;replace bT:=Di bT b2;replace bo:=Di bo b2;clear A;obtain⟨gs,rfl,B,bb⟩:=J.frd;clear J;go_wp2_with fail;refine hK.out _ _ (hS _ bo) (fun f=>?_);clear hK K;(try simp only[aq]);refine aV 11 rfl fun K hK=>?_;have D:=bf;obtain⟨gz,q0,q1,q2,f0,f1,f2,g5,db,b9⟩:=aF hA gs;have bT:=b9.to_below bT D bT.size;have bo:=b9.to_below bo D bo.size;replace B:=B.only_blk hA (ar _ _ _ _ _ _ _) b9;go_simp;refine hK.out _ _ (hS _ bo) (fun f=>?_);clear hK K;(try simp only[aq]);refine D7 (by kernel_rfl) ?_ _;refine D1 ?_;(try go_simp);clear f;go_wp2_with fail;go_meet;exact⟨_,gs,rfl,db,B,bb,bT,D⟩
     exact D3
    case rest =>
     obtain⟨g,s,rfl,c9,d3,c8,b5,g9⟩:=hcut;obtain⟨w5,f9⟩:∃ w5,w5=wc:=⟨_,rfl⟩;subst f9;have cr:=Di cv b5;obtain⟨m,cq,c5⟩:=c4.below b5;clear bz b8 c4 y p z;have fb:=Dj (show lst all k=c.l.q by rw[kS N.out];rfl)
     have bn:=Dj (show aP all x (k+1)=if 0<s.q∧(o=none∨t<s.q) then (some k,s.q) else (o,t) by
      rw[nW,bd.out,fb.out,c8.out])
     have fx:=Dj (show Fits (2+(1+8*(KN+KN+1))+1) s.q by rw[c8.out];exact ft.out);obtain⟨y0,y1,y2⟩:=c9.cells;obtain⟨z0,z1,z2⟩:=cq.cells;have T:=Dj c5;clear c5;obtain⟨sg,cz⟩:∃ s',Hid (bH s.q 0=s'):=⟨_,rfl⟩;have d0:=ct d3;rw[cz.out] at d0;go_wp2_with fail;refine d0.mono ?_;rintro e w6 ⟨rfl,b6⟩;clear d0;have I:=Di cr b6;have cm:=c9.below b6;have O:=cq.below b6;have b3:=d3.below b6;clear y0 y1 y2 z0 z1 z2 c9 cq d3;obtain⟨y0,y1,y2⟩:=cm.cells;obtain⟨z0,z1,z2⟩:=O.cells
     by_cases hs0:0<sg
     · have g0:decide (0<sg)=true:=Dv hs0;have c7:=Dj (show 0<s.q from cmpR_pos.1 (by rw[cz.out];exact hs0));clear hs0
       cases o with
       | none =>
        have E:=Dj (show aP all x (k+1)=(some k,s.q) by rw[bn.out,if_pos ⟨c7.out,.inl rfl⟩]);obtain⟨w7,q0,q1,q2,f0,f1,f2,e7,U,o7⟩:=O.store s;have g2:=b3.onlyV O o7;have F:=o7.to_below I (Dt _) I.size;clear O b3 o7;go_wp2
        go_region
        go_wp2;go_roundw
        case rel=>exact⟨k+1,by omega,by go_num,by rw[E.out];rfl,by rw[E.out];exact⟨s,U,fun _=>⟨g2.below (DY _ _).drew,rfl⟩⟩,F.drew⟩
        case measure=>simp[intOf];omega
       | some j =>
        have d1:=(T.out (by simp)).1.below b6;have R:=Dj (T.out (by simp)).2
        have f6:Fits (2+(1+8*(KN+KN+1))+1) m.q:=by
         rw[R.out];exact tx (by rw[←C.out];exact bx.out) hn d5.out k (by have h9:=bs.out;rw[C.out] at h9;omega) j t bd.out
        obtain⟨cc,ch⟩:∃ s',Hid (bH s.q m.q=s'):=⟨_,rfl⟩;have cg:=dz b3 d1 fx.out f6 (by decide) (by decide);rw[ch.out] at cg;have h5:decide (oi (some j)<0)=false:=Du (by show ¬ ((j:Nat):Int)<0;omega);go_wp2_with fail;refine cg.mono ?_;rintro e w7 ⟨rfl,b7⟩;clear cg;have F:=Di I b7;have fs:=cm.below b7;have U:=O.below b7;have dh:=b3.below b7;have dk:=d1.below b7;clear y0 y1 y2 z0 z1 z2 cm O b3 d1;obtain⟨y0,y1,y2⟩:=fs.cells
        by_cases hc0:0<cc
        · have g3:decide (0<cc)=true:=Dv hc0
          have E:=Dj (show aP all x (k+1)=(some k,s.q) by
           rw[bn.out,if_pos ⟨c7.out,.inr (by rw[←R.out];exact cmpR_pos.1 (by rw[ch.out];exact hc0))⟩])
          clear hc0;obtain⟨w8,q0,q1,q2,f0,f1,f2,e8,g4,o8⟩:=U.store s;have fr:=dh.onlyV U o8;have cy:=o8.to_below F (Dt _) F.size;clear U dh o8 dk;go_wp2
          go_region
          go_wp2;go_roundw
          case rel=>exact⟨k+1,by omega,by go_num,by rw[E.out];rfl,by rw[E.out];exact⟨s,g4,fun _=>⟨fr.below (DY _ _).drew,rfl⟩⟩,cy.drew⟩
          case measure=>simp[intOf];omega
        · have g3:decide (0<cc)=false:=Du hc0
          have E:=Dj (show aP all x (k+1)=(some j,t) by
           rw[bn.out,if_neg fun hh=>hc0 (by
            rcases hh.2 with h9 | h9
            · cases h9
            · rw[←R.out] at h9;rw[←ch.out];exact cmpR_pos.2 h9)])
          clear hc0;go_wp2;go_roundw
          case rel=>exact⟨k+1,by omega,by go_num,by rw[E.out],by rw[E.out];exact⟨m,U,fun _=>⟨dk,R.out⟩⟩,F⟩
          case measure=>simp[intOf];omega
     · have g0:decide (0<sg)=false:=Du hs0
       have E:=Dj (show aP all x (k+1)=(o,t) by
        rw[bn.out,if_neg fun hh=>hs0 (by rw[←cz.out];exact cmpR_pos.2 hh.1)])
       clear hs0;go_wp2;go_roundw
       case rel=>exact⟨k+1,by omega,by go_num,by rw[E.out],by rw[E.out];exact⟨m,O,fun ho=>⟨(T.out ho).1.below b6,(T.out ho).2⟩⟩,I⟩
       case measure=>simp[intOf];omega
  · obtain rfl:k=L:=by omega
    have g6:decide ((k:Int)<(k:Int))=false:=Du (by omega);have d8:=Dj (show (aP all x S.cs.length).1=o by rw[hL.out,bd.out]);go_wp2;go_ret;exact⟨by rw[d8.out];rfl,b0⟩
end Go.Proofs.YtjhkapjadfpimaaGreat
