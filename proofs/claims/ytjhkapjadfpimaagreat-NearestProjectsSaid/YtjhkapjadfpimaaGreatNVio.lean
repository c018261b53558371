/- Contracts of functions, for the law. -/
import Derived.Test.YtjhkapjadfpimaaGreatFCmp
namespace Go.Proofs.YtjhkapjadfpimaaGreat
set_option linter.unusedVariables false
set_option linter.unusedSimpArgs false
open Go.RowKit Plain
attribute [local go_sem ↓] Go.wp_at_zero Go.wp_at_succ
set_option maxRecDepth 100000
set_option maxHeartbeats 40000000
theorem kE (all:List Con) (x:List Rat) (k:Nat):x5 all x (k+1)=if 0<lst all k-F8 (nrm all k) x∧((x5 all x k).1=none∨(x5 all x k).2<lst all k-F8 (nrm all k) x) then (some k,lst all k-F8 (nrm all k) x) else x5 all x k:=rfl
theorem tP {n:Nat}{all:List Con}{x:List Rat}(hc:ConI n all) (hn:n≤8) (hx:QFits KN x):∀ k,k≤all.length→∀ j t,x5 all x k=(some j,t)→Fits (2+(1+8*(KN+KN+1))+1) t:=by
 intro k
 induction k with
 | zero=>intro _ j t e;cases e
 | succ k ih =>
  intro hk j t e;rw[kE] at e
  split at e
  · injection e with e1 e2
    rw[←e2];exact (hc.lstk (by omega)).sub (Y9 (fun q hq=>((hc.nrmk (by omega) q hq).fits (by decide)).mono (by decide)) hx (by rw[hc.len.nrm (by omega)];exact hn))
  · exact ih (by omega) j t e
theorem Z0 {S:Sv}{dx:List FrD}{lv:FrD}{va vm ent:Value}{w:World}(h:SolB S dx lv va vm ent w) (hc:ConI S.n (S.cs.map CoD.con)) (hl:dx.length=S.n) (hn:S.n≤8) (hf:QFits KN (dx.map FrD.q)) :
 Calls Tryz.prog 44 #[.pointer (some ⟨S.gs,0,none⟩)] w (mY (oi (x5 (S.cs.map CoD.con) (dx.map FrD.q) S.cs.length).1) w):=by
 obtain⟨w1,n7,b1,l1,B1⟩:=f8 w #[.bool false,.slice none 0 0,.slice none 0 0] 28;have k5:=h.below b1;obtain⟨s0,s1,s2,s3,s4,s5,s6,s7,s8,s9,l5,l7,m3⟩:=k5.cells;have k0:=h.all.len;obtain⟨L,hL⟩:∃ L,Hid (S.cs.length=L):=⟨_,rfl⟩;obtain⟨all,E⟩:∃ all,Hid (S.cs.map CoD.con=all):=⟨_,rfl⟩;obtain⟨x,hx⟩:∃ x,Hid (dx.map FrD.q=x):=⟨_,rfl⟩;have d2:=a1k hc;have n3:=a1k hl;have j5:=a1k (show ∀ d∈dx,Fits KN d.q from QFits.fr0 hf);have k2:=a1k (show QFits KN x by rw[←hx.out];exact hf);rw[E.out,hx.out];have O:MaybeQ w1 w.heap.size (x5 all x 0).1 (x5 all x 0).2:=MaybeQ.zero B1 _;clear hc hl hf B1;go_enter Tryz.func44,Tryz.ntmps44;go_wp2;rw[hL.out];rw[hL.out] at k0
 go_loopw [3,13] (fun v i wr=>∃ k:Nat,k≤L∧i=.int .i64 (k:Int)∧v=.int .i64 (oi (x5 all x k).1)∧MaybeQ wr w.heap.size (x5 all x k).1 (x5 all x k).2∧Below w.heap.size w wr) (fun _ i _=>L-(intOf i).toNat)
 case atStart=>exact⟨0,by omega,rfl,rfl,O,b1⟩
 case round =>
  clear O s0 s1 s2 s3 s4 s5 s6 s7 s8 s9 l5 l7 m3;obtain⟨k,hk,rfl,rfl,O,b8⟩:=hrel;obtain⟨o,t,Z⟩:∃ o t,Hid (x5 all x k=(o,t)):=⟨_,_,rfl⟩;rw[Z.out] at O;rw[Z.out]
  dsimp only at O ⊢
  by_cases hkl:k<L
  · have p6:(k:Int)<(L:Int):=by omega
    have hb:=h.below b8;obtain⟨a,c,ea,n2,c0,c1,c2,c3,j0,h8,l2⟩:=hb.all.at (k:=k) (by rw[hL.out];exact hkl);rw[ea];obtain⟨wA,w4,eA,p0,p1,p2,p3,r0,r1,r2,r3,eB,b0,b4,l4⟩:=new_con wr c;have g6:=a1j b8 b4;have d1:=hb.below b4;have d9:=O.below b4;have z:=j0.below b4;have p:=h8.below b4;have M:=a1k (show all[k]?=some c.con by rw[←E.out,a1r,l2.out];rfl);have y:FL w4 (some ⟨S.gx,0,none⟩) S.cx dx:=d1.xo.fl d1.xf;have d0:=a1k (show k<(S.cs.map CoD.con).length by rw[a1s,hL.out];exact hkl)
    have j2:=a1k (show c.r.ds.length=S.n by
     have h1:=d2.out.len.nrm d0.out;rw[E.out,Q1 M.out] at h1;have h2:(c.r.ds.map FrD.q).length=S.n:=h1;rw[a1s] at h2;exact h2)
    have j1:=a1k (show QFits 1 (c.r.ds.map FrD.q) from fun q hq=>by
     have h1:=d2.out.nrmk d0.out;rw[E.out,Q1 M.out] at h1;exact (h1 q hq).fits (by decide))
    have H:=a1k (show (∀ d∈c.r.ds,Fits KN d.q)∧Fits 2 c.l.q∧Fits (1+8*(KN+KN+1)) (F8 (nrm all k) x) from
     ⟨fun d hd=>(QFits.fr0 j1.out d hd).mono (by decide),by
      have h1:=d2.out.lstk d0.out;rw[E.out,eR M.out] at h1;exact h1,Y9 (by rw[Q1 M.out];exact j1.out.mono (by decide)) k2.out (by rw[Q1 M.out];show (c.r.ds.map FrD.q).length≤8;rw[a1s,j2.out];exact hn)⟩)
    have j3:=a1k (show 1+(c.r.ds.length+1)*(KN+KN+1)<400000000 by rw[j2.out];have h1:=a1y (KN+KN+1) (show S.n+1≤9 by omega);show 1+(S.n+1)*20000001<400000000;have h2:(S.n+1)*20000001≤9*20000001:=h1;omega);have j4:=a1k (show o5 (U3 c.r.ds dx)=F8 (nrm all k) x by rw[X5,Q1 M.out,←hx.out];rfl);have k4:=a1k (show Fits (2+(1+8*(KN+KN+1))+1) (c.l.q-F8 (nrm all k) x) from H.out.2.1.sub H.out.2.2);clear hb j0 h8 O;go_upto_region 6 with fail;clear p0 p1 p2 p3 r0 r1 r2 r3 eA eB c0 c1 c2 c3
    go_cut [7] (fun v wx=>∃ g s,v=.pointer (some ⟨g,0,none⟩)∧VarQ wx g s∧FV wx s.v s.q∧Hid (s.q=c.l.q-F8 (nrm all k) x)∧Below w4.heap.size w4 wx∧w4.heap.size≤g)
    case first =>
     have bT:=a3t w4.heap.size w4
     have hS:∀ w',Below w4.heap.size w4 w'→w'.cell? ⟨wr.heap.size,0,none⟩=some (.slice c.r.a c.r.ds.length c.r.c)∧w'.cell? ⟨wr.heap.size,1,none⟩=some (.bool c.l.neg)∧w'.cell? ⟨wr.heap.size,2,none⟩=some (.slice c.l.a c.l.la.length c.l.ca)∧w'.cell? ⟨wr.heap.size,3,none⟩=some (.slice c.l.b c.l.lb.length c.l.cb)∧w'.cell? ⟨S.gs,3,none⟩=some (.slice (some ⟨S.gx,0,none⟩) dx.length S.cx)∧Below w4.heap.size w4 w':=by
      intro w' o;exact⟨(b0.below o).cells.1,(b0.below o).cells.2.1,(b0.below o).cells.2.2.1,(b0.below o).cells.2.2.2,(d1.below o).cells.2.2.2.1,o⟩
     have bo:Below w4.heap.size w4 w4:=a3t _ _;have dS:Below w4.heap.size w4 w4.drew:=bo.drew;go_wp2_with fail;refine a3u ?_;refine a3v (S:=fun w'=>w'.cell? ⟨wr.heap.size,0,none⟩=some (.slice c.r.a c.r.ds.length c.r.c)∧w'.cell? ⟨wr.heap.size,1,none⟩=some (.bool c.l.neg)∧w'.cell? ⟨wr.heap.size,2,none⟩=some (.slice c.l.a c.l.la.length c.l.ca)∧w'.cell? ⟨wr.heap.size,3,none⟩=some (.slice c.l.b c.l.lb.length c.l.cb)∧w'.cell? ⟨S.gs,3,none⟩=some (.slice (some ⟨S.gx,0,none⟩) dx.length S.cx)∧Below w4.heap.size w4 w') (by kernel_rfl) (hS _ dS) (fun f=>?_);refine mX 0 1 2 3 4 5 6 7 f ?_;refine a4b (rs:=[8,10]) (by kernel_rfl) (by simp) ?_;refine a3x rfl (fun K hK=>?_) ?_
     · go_simp;have V:Below w4.heap.size w4 w4.drew:=(a3t _ _).drew;replace p:=p.below V;replace z:=z.below V;replace y:=y.below V;replace bT:=a1j bT V;replace bo:=a1j bo V;have A:=V0 (K:=KN) z y H.out.1 j5.out j3.out;rw[j4.out] at A;go_at_call 70;refine (A).mono ?_;rintro e u1 ⟨vd,rfl,G,c7⟩;replace p:=p.below c7;replace z:=z.below c7;replace y:=y.below c7;replace bT:=a1j bT c7;replace bo:=a1j bo c7;clear A;go_wp2_with fail;refine hK.out _ _ (hS _ bo) (fun f=>?_);clear hK K;(try simp only[j9]);refine a4b (rs:=[9,10]) (by kernel_rfl) (by simp) ?_;refine a3x rfl (fun K hK=>?_) ?_
       · go_simp;have A:=D1 p G H.out.2.1 H.out.2.2 (by decide);go_at_call 32;refine (A).mono ?_;rintro e u2 ⟨vs,rfl,J,d4⟩;replace p:=p.below d4;replace G:=G.below d4;replace bT:=a1j bT d4;replace bo:=a1j bo d4;clear A;obtain⟨gs,rfl,B,c4⟩:=J.frd;clear J;go_wp2_with fail;refine hK.out _ _ (hS _ bo) (fun f=>?_);clear hK K;(try simp only[j9]);refine z8 10 rfl fun K hK=>?_;have X:=bT.size;obtain⟨u3,m9,b2,p4,h7⟩:=f8 u2 #[.bool false,.slice none 0 0,.slice none 0 0] 28;replace p:=p.below b2;replace G:=G.below b2;replace B:=B.below b2;replace bT:=a1j bT b2;replace bo:=a1j bo b2;have hA:=h7;clear h7;go_simp;refine hK.out _ _ (hS _ bo) (fun f=>?_);clear hK K;(try simp only[j9]);refine z8 11 rfl fun K hK=>?_;have D:=X;obtain⟨u4,q0,q1,q2,f0,f1,f2,p5,m0,g4⟩:=p9 hA gs;have bT:=g4.to_below bT D bT.size;have bo:=g4.to_below bo D bo.size;replace B:=B.only_blk hA (k7 _ _ _ _ _ _ _) g4;go_simp;refine hK.out _ _ (hS _ bo) (fun f=>?_);clear hK K;(try simp only[j9]);refine a4c (by kernel_rfl) ?_ _;refine a3w ?_;(try go_simp);clear f;go_wp2_with fail
         go_meet;exact⟨_,gs,rfl,m0,B,c4,bT,D⟩
       refine a3x rfl (fun K hK=>?_) ?_
       · have X:=bT.size;obtain⟨u5,n0,d5,n6,h5⟩:=f8 u1 #[.bool false,.slice none 0 0,.slice none 0 0] 28;replace p:=p.below d5;replace G:=G.below d5;replace bT:=a1j bT d5;replace bo:=a1j bo d5;have hA:=h5;clear h5;go_simp;refine hK.out _ _ (hS _ bo) (fun f=>?_);clear hK K;(try simp only[j9]);refine z8 9 rfl fun K hK=>?_;go_simp;have A:=D1 p G H.out.2.1 H.out.2.2 (by decide);go_at_call 32;refine (A).mono ?_;rintro e u6 ⟨vs,rfl,J,f6⟩;replace hA:=hA.keep f6;replace bT:=a1j bT f6;replace bo:=a1j bo f6;clear A;obtain⟨gs,rfl,B,c4⟩:=J.frd;clear J;go_wp2_with fail;refine hK.out _ _ (hS _ bo) (fun f=>?_);clear hK K;(try simp only[j9]);refine z8 11 rfl fun K hK=>?_;have D:=X;obtain⟨u7,q0,q1,q2,f0,f1,f2,n9,m1,f4⟩:=p9 hA gs;have bT:=f4.to_below bT D bT.size;have bo:=f4.to_below bo D bo.size;replace B:=B.only_blk hA (k7 _ _ _ _ _ _ _) f4;go_simp;refine hK.out _ _ (hS _ bo) (fun f=>?_);clear hK K;(try simp only[j9]);refine a4c (by kernel_rfl) ?_ _;refine a3w ?_;(try go_simp);clear f;go_wp2_with fail
         go_meet;exact⟨_,gs,rfl,m1,B,c4,bT,D⟩
       exact a3y
     refine a3x rfl (fun K hK=>?_) ?_
     · have X:=bT.size;have c8:Below w4.heap.size w4 w4.drew:=(a3t _ _).drew;replace p:=p.below c8;replace z:=z.below c8;replace y:=y.below c8;replace bT:=a1j bT c8;replace bo:=a1j bo c8;obtain⟨u8,n5,c5,n8,d6⟩:=f8 w4.drew #[.bool false,.slice none 0 0,.slice none 0 0] 28;replace p:=p.below c5;replace z:=z.below c5;replace y:=y.below c5;replace bT:=a1j bT c5;replace bo:=a1j bo c5;replace d6:Blk u8 w4.heap.size 28 #[.bool false,.slice none 0 0,.slice none 0 0]:=d6;have hA:=d6;clear d6;go_simp;refine hK.out _ _ (hS _ bo) (fun f=>?_);clear hK K;(try simp only[j9]);refine z8 8 rfl fun K hK=>?_;go_simp;have A:=V0 (K:=KN) z y H.out.1 j5.out j3.out;rw[j4.out] at A;go_at_call 70;refine (A).mono ?_;rintro e u9 ⟨vd,rfl,G,c9⟩;replace p:=p.below c9;replace hA:=hA.keep c9;replace bT:=a1j bT c9;replace bo:=a1j bo c9;clear A;go_wp2_with fail;refine hK.out _ _ (hS _ bo) (fun f=>?_);clear hK K;(try simp only[j9]);refine z8 9 rfl fun K hK=>?_;go_simp;have A:=D1 p G H.out.2.1 H.out.2.2 (by decide);go_at_call 32;refine (A).mono ?_;rintro e q3 ⟨vs,rfl,J,Y⟩
       replace hA:=hA.keep Y;replace bT:=a1j bT Y;replace bo:=a1j bo Y;clear A;obtain⟨gs,rfl,B,c4⟩:=J.frd;clear J;go_wp2_with fail;refine hK.out _ _ (hS _ bo) (fun f=>?_);clear hK K;(try simp only[j9]);refine z8 11 rfl fun K hK=>?_;have D:=X;obtain⟨n4,q0,q1,q2,f0,f1,f2,m8,h4,b3⟩:=p9 hA gs;have bT:=b3.to_below bT D bT.size;have bo:=b3.to_below bo D bo.size;replace B:=B.only_blk hA (k7 _ _ _ _ _ _ _) b3;go_simp;refine hK.out _ _ (hS _ bo) (fun f=>?_);clear hK K;(try simp only[j9]);refine a4c (by kernel_rfl) ?_ _;refine a3w ?_;(try go_simp);clear f;go_wp2_with fail;go_meet;exact⟨_,gs,rfl,h4,B,c4,bT,D⟩
     exact a3y
    case rest =>
     obtain⟨g,s,rfl,h0,f5,f3,b5,n1⟩:=hcut;obtain⟨w5,k3⟩:∃ w5,w5=wc:=⟨_,rfl⟩;subst k3;have g3:=a1j g6 b5;obtain⟨m,g1,d7⟩:=d9.below b5;clear d1 b0 d9 z p y;have l8:=a1k (show lst all k=c.l.q by rw[eR M.out];rfl)
     have d3:=a1k (show x5 all x (k+1)=if 0<s.q∧(o=none∨t<s.q) then (some k,s.q) else (o,t) by
      rw[kE,Z.out,l8.out,f3.out])
     have m5:=a1k (show Fits (2+(1+8*(KN+KN+1))+1) s.q by rw[f3.out];exact k4.out);obtain⟨y0,y1,y2⟩:=h0.cells;obtain⟨z0,z1,z2⟩:=g1.cells;have R:=a1k d7;clear d7;obtain⟨sg,g7⟩:∃ s',Hid (D0 s.q 0=s'):=⟨_,rfl⟩;have g8:=F4 f5;rw[g7.out] at g8;go_wp2_with fail;refine g8.mono ?_;rintro e w6 ⟨rfl,b6⟩;clear g8;have I:=a1j g3 b6;have g9:=h0.below b6;have N:=g1.below b6;have b9:=f5.below b6;clear y0 y1 y2 z0 z1 z2 h0 g1 f5;obtain⟨y0,y1,y2⟩:=g9.cells;obtain⟨z0,z1,z2⟩:=N.cells
     by_cases hs0:0<sg
     · have l3:decide (0<sg)=true:=a1w hs0;have d8:=a1k (show 0<s.q from cmpR_pos.1 (by rw[g7.out];exact hs0));clear hs0
       cases o with
       | none =>
        have F:=a1k (show x5 all x (k+1)=(some k,s.q) by rw[d3.out,if_pos ⟨d8.out,.inl rfl⟩]);obtain⟨w7,q0,q1,q2,f0,f1,f2,e7,U,o7⟩:=N.store s;have m2:=b9.onlyV N o7;have C:=o7.to_below I (a1u _) I.size;clear N b9 o7;go_wp2
        go_region
        go_wp2;go_roundw
        case rel=>exact⟨k+1,by omega,by go_num,by rw[F.out];rfl,by rw[F.out];exact⟨s,U,fun _=>⟨m2.below (a3t _ _).drew,rfl⟩⟩,C.drew⟩
        case measure=>simp[intOf];omega
       | some j =>
        have f9:=(R.out (by simp)).1.below b6;have T:=a1k (R.out (by simp)).2
        have k6:Fits (2+(1+8*(KN+KN+1))+1) m.q:=by
         rw[T.out];exact tP (by rw[←E.out];exact d2.out) hn k2.out k (by have h9:=d0.out;rw[E.out] at h9;omega) j t Z.out
        obtain⟨cc,g5⟩:∃ s',Hid (D0 s.q m.q=s'):=⟨_,rfl⟩;have g2:=I8 b9 f9 m5.out k6 (by decide) (by decide);rw[g5.out] at g2;have q4:decide (oi (some j)<0)=false:=a1v (by show ¬ ((j:Nat):Int)<0;omega);go_wp2_with fail;refine g2.mono ?_;rintro e w7 ⟨rfl,b7⟩;clear g2;have C:=a1j I b7;have l6:=g9.below b7;have U:=N.below b7;have k1:=b9.below b7;have h3:=f9.below b7;clear y0 y1 y2 z0 z1 z2 g9 N b9 f9;obtain⟨y0,y1,y2⟩:=l6.cells
        by_cases hc0:0<cc
        · have m4:decide (0<cc)=true:=a1w hc0
          have F:=a1k (show x5 all x (k+1)=(some k,s.q) by
           rw[d3.out,if_pos ⟨d8.out,.inr (by rw[←T.out];exact cmpR_pos.1 (by rw[g5.out];exact hc0))⟩])
          clear hc0;obtain⟨w8,q0,q1,q2,f0,f1,f2,e8,l9,o8⟩:=U.store s;have l0:=k1.onlyV U o8;have g0:=o8.to_below C (a1u _) C.size;clear U k1 o8 h3;go_wp2
          go_region
          go_wp2;go_roundw
          case rel=>exact⟨k+1,by omega,by go_num,by rw[F.out];rfl,by rw[F.out];exact⟨s,l9,fun _=>⟨l0.below (a3t _ _).drew,rfl⟩⟩,g0.drew⟩
          case measure=>simp[intOf];omega
        · have m4:decide (0<cc)=false:=a1v hc0
          have F:=a1k (show x5 all x (k+1)=(some j,t) by
           rw[d3.out,if_neg fun hh=>hc0 (by
            rcases hh.2 with h9 | h9
            · cases h9
            · rw[←T.out] at h9;rw[←g5.out];exact cmpR_pos.2 h9)])
          clear hc0;go_wp2;go_roundw
          case rel=>exact⟨k+1,by omega,by go_num,by rw[F.out],by rw[F.out];exact⟨m,U,fun _=>⟨h3,T.out⟩⟩,C⟩
          case measure=>simp[intOf];omega
     · have l3:decide (0<sg)=false:=a1v hs0
       have F:=a1k (show x5 all x (k+1)=(o,t) by
        rw[d3.out,if_neg fun hh=>hs0 (by rw[←g7.out];exact cmpR_pos.2 hh.1)])
       clear hs0;go_wp2;go_roundw
       case rel=>exact⟨k+1,by omega,by go_num,by rw[F.out],by rw[F.out];exact⟨m,N,fun ho=>⟨(R.out ho).1.below b6,(R.out ho).2⟩⟩,I⟩
       case measure=>simp[intOf];omega
  · obtain rfl:k=L:=by omega
    have m6:decide ((k:Int)<(k:Int))=false:=a1v (by omega);have h6:=a1k (show (x5 all x S.cs.length).1=o by rw[hL.out,Z.out]);go_wp2;go_ret;exact⟨by rw[h6.out];rfl,b8⟩
end Go.Proofs.YtjhkapjadfpimaaGreat
