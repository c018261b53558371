/- Contracts of functions, for the law. -/
import Derived.Test.YtjhkapjadfpimaaGreatNCut
import Derived.Test.YtjhkapjadfpimaaGreatNUnit
import Derived.Test.YtjhkapjadfpimaaGreatNVio
namespace Go.Proofs.YtjhkapjadfpimaaGreat
set_option linter.unusedVariables false
set_option linter.unusedSimpArgs false
open Go.RowKit Plain
attribute [local go_sem ↓] Go.wp_at_zero Go.wp_at_succ
set_option maxRecDepth 100000
set_option maxHeartbeats 40000000
theorem FL.cl3 {w:World}{a:Addr}{c:Nat}{ds:List FrD}(h:FL w (some a) c ds){k:Nat}{d:FrD}(hk:ds[k]?=some d):w.cell? (a.add (k*3))=some (.bool d.neg)∧w.cell? ⟨(a.add (k*3)).block,(a.add (k*3)).off+1,none⟩=some (.slice d.a d.la.length d.ca)∧w.cell? ⟨(a.add (k*3)).block,(a.add (k*3)).off+2,none⟩=some (.slice d.b d.lb.length d.cb):=by
 obtain⟨a2,d2,e,h1,h2,h3,h4,h5,h6⟩:=h.at (a2e.1 hk).1
 cases e
 have:d2=d:=by have:=h6.out;rw[hk] at this;injection this with this;exact this.symm
 subst this;exact⟨h2,h3,h4⟩
theorem XO.setFV {w w9:World}{g c k:Nat}{ds:List FrD}{d:FrD}(h:XO w g c ds) (hv:AllFV w ds) (hd:FV w d.v d.q) (o9:Only w w9 g):AllFV w9 (ds.set k d):=fun x hx=>by
 obtain⟨cur,hB,hn,-⟩:=h
 rcases List.mem_or_eq_of_mem_set hx with hx | rfl
 · exact (hv x hx).only_blk hB hn o9
 · exact hd.only_blk hB hn o9
def RetDir (z:List Rat) (lev:Rat) (rates:List Rat) (W:World) (e:Ending) (w':World):Prop :=
 ∃ Z cz zs R cr rs,∃ l:FrD,e=.returned (.tuple #[.slice Z zs.length cz,.agg #[.bool l.neg,.slice l.a l.la.length l.ca,.slice l.b l.lb.length l.cb],.slice R rs.length cr])∧FL w' Z cz zs∧FL w' R cr rs∧FV w' l.v l.q∧Hid (zs.map FrD.q=z∧l.q=lev∧rs.map FrD.q=rates)∧(∀ a,Z=some a→W.heap.size≤a.block)∧(∀ a,R=some a→W.heap.size≤a.block)∧Below W.heap.size W w'
theorem FL.drop1 {w:World}{a:Addr}{c:Nat}{d:FrD}{ds:List FrD}(h:FL w (some a) c (d::ds)):FL w (some (a.add 3)) (c-1) ds:=by
 have hl:=h.len
 simp only[a3r] at hl
 refine⟨⟨by omega,by omega,fun j hj=>?_⟩,fun x hx=>h.fv x (a2n _ hx)⟩;obtain⟨a2,e,h1,h2⟩:=h.row.2.2 (j+1) (by simp;omega)
 cases e
 refine⟨_,rfl,h1,fun i u hu=>?_⟩;have:=h2 i u (by simpa using hu);rw[add_add,←show (j+1)*3+i=3+(j*3+i) by omega];exact this
theorem zAt_fits {n:Nat}{M:C4}{r v:List Rat}(hr:E9 M n) (hv:v.length=n) (hvi:∀ q∈v,intQ 1 q) (hMi:∀ j i,j<M.length→intQ 1 (fn M j i)) (hrf:QFits 87381 r){j:Nat}(hj:j≤M.length) (h8:M.length≤8){i:Nat}(hi:i<n):Fits 699067 (gt (oX M r v j) i):=by
 rw[(dZ hr hv j hj).2 i hi];have h7:Fits (1+j*(87381+1+1)) (lc j (gt r) (fn M) i):=Z4 fun l hl=>(H4 (by decide) hrf l).mul ((hMi l i (by omega)).fits (by decide));exact (((cD hvi i).fits (by decide)).sub h7).mono (by omega)
theorem mH {S:Sv}{s:Sm}{k:Nat}{aS:Addr}{w:World}{z rates:List Rat}{lev:Rat}(h:SolM S s (.pointer (some (aS.add (k*4)))) w) (hSA:S.A=some aS) (hk0:k<S.cs.length) (hc0:ConI S.n (S.cs.map CoD.con)) (hn:S.n≤8) (hA0:∀ a∈s.ia,a<S.cs.length) (hal:s.ia.length+1≤8)
 (hd0:mJ S.n (S.cs.map CoD.con) s.ia k=some (z,lev,rates)) :
 Calls Tryz.prog 73 #[.pointer (some ⟨S.gs,0,none⟩)] w (RetDir z lev rates w):=by
 have hc:=a1k hc0;have hk':=a1k hk0;have hA:=a1k hA0;obtain⟨p,hp⟩:∃ p,Hid (s.ia.length+1=p):=⟨_,rfl⟩;have vA:p≤8:=by rw[←hp.out];exact hal
 obtain⟨Nm,R⟩:∃ M,Hid (j8 S.n (S.cs.map CoD.con) s.ia=M):=⟨_,rfl⟩;have N:=a1k (show (S.cs.map CoD.con).length=S.cs.length from a1s _);have g6:=a1k (show ∀ a∈s.ia,a<(S.cs.map CoD.con).length from fun a ha=>by rw[N.out];exact hA0 a ha);have g:=a1k (show Nm.length=p by rw[←R.out,t8,hp.out]);have b5:=a1k (show E9 Nm S.n by rw[←R.out];exact F9 hc0.len g6.out);have m1:=a1k (show ∀ r∈Nm,∀ q∈r,intQ 1 q by rw[←R.out];exact N8 hc0 g6.out);obtain⟨v,hv⟩:∃ v,Hid (nrm (S.cs.map CoD.con) k=v):=⟨_,rfl⟩;have h8:=a1k (show v.length=S.n by rw[←hv.out];exact hc0.len.nrm (by rw[N.out];exact hk0));have bB:=a1k (show ∀ q∈v,intQ 1 q by rw[←hv.out];exact hc0.nrmk (by rw[N.out];exact hk0))
 obtain⟨r,x4,vD⟩:∃ r,Hid (G6 (M2 Nm) (M4 Nm v)=some r)∧Hid (oX Nm r v p=z∧r.getD 0 0=lev∧r.drop 1=rates):=by
  unfold mJ at hd0;rw[R.out,hv.out] at hd0
  cases e:G6 (M2 Nm) (M4 Nm v) with
  | none=>rw[e] at hd0;cases hd0
  | some r =>
   rw[e] at hd0
   injection hd0 with hd0
   injection hd0 with e1 hd0
   injection hd0 with e2 e3
   exact⟨r,rfl,by rw[←g.out];exact e1,e2,e3⟩
 have zH:=a1k (show MFits 1 (M2 Nm) by rw[←R.out];exact iN hc0 g6.out hn);have y4:=a1k (show QFits 1 (M4 Nm v) by rw[←R.out,←hv.out];exact kS hc0 g6.out (by rw[N.out];exact hk0) hn);have cU:=a1k (show QFits 87381 r from kO (b:=M4 Nm v) hc0 g6.out hn hal y4.out (by rw[J6,g.out,hp.out]) (by rw[R.out];exact x4.out))
 have hrl:=a1k (show r.length=p by
  have hf:=Q0 (L6 Nm) (by rw[C8,g.out,←hp.out];omega);have h1:=(cL hf.1 (by rw[J6,C8]) x4.out).1;rw[h1,hf.2,g.out])
 obtain⟨c0,r8⟩:∃ c0,Hid (S.cs[k]?=some c0):=⟨_,a1m hk0⟩
 have l3:=a1k (show c0.r.ds.map FrD.q=v by
  rw[←hv.out,Q1 (c:=c0.con) (by rw[a1r,r8.out];rfl)];rfl)
 have q9:=a1k (show c0.r.ds.length=S.n by have h1:=congrArg List.length l3.out;rw[a1s,h8.out] at h1;exact h1);have lB:FL w c0.r.a c0.r.c c0.r.ds:=h.b.all.fl c0 (a1n r8.out);obtain⟨w1,hw1,b1,l1,B1⟩:=f8 w #[.bool false,.slice none 0 0,.slice none 0 0] 28;have k4:=h.below b1;have g4:=lB.below b1;obtain⟨s0,s1,s2,s3,s4,s5,s6,s7,s8,s9,l4,t4,x3⟩:=k4.b.cells;obtain⟨a9,d9,z0,hab9,g0,g1,g2,g3,hQ,hM,z4⟩:=k4.b.all.at hk0;rw[hSA] at z0
 cases z0
 have hd9:d9=c0:=by have h1:=z4.out;rw[r8.out] at h1;injection h1 with h1;exact h1.symm
 subst hd9;have y5:=fP w1 S.n (by omega);obtain⟨w2,hR⟩:∃ w2,w1.alloc (.cells ((List.replicate S.n P3).flatMap FrD.cells).toArray 28)=w2:=⟨_,rfl⟩;obtain⟨T1,r6⟩:∃ T,Hid (List.replicate S.n (1:Rat)=T):=⟨_,rfl⟩;have d3:=a1k (show T1.length=S.n by rw[←r6.out,a1p]);have hJ:FAt T1 w1.heap.size 0 w1 w2:=by rw[←hR];exact FAt.new T1 d3.out w1
 rw[hR] at y5;have hlt0:=a1k hk0;clear hQ hM hd0 hA0 hc0;go_enter Tryz.func73,Tryz.ntmps73;go_wp2;clear s0 s1 s2 s3 s4 s5 s6 s7 s8 s9 l4 t4 x3 g0 g1 g2 g3 y5
 go_loopw [37] (fun i wr=>∃ j:Nat,j≤S.n∧i=.int .i64 (j:Int)∧FAt T1 w1.heap.size j w1 wr) (fun i _=>S.n-(intOf i).toNat)
 case atStart=>exact⟨0,by omega,rfl,hJ⟩
 case round =>
  clear hJ;obtain⟨j,hj,rfl,B⟩:=hrel
  by_cases hjl:j<S.n
  · have hW:(j:Int)<(S.n:Int):=by omega
    go_wp2_with fail;refine (r7 1 _ (by decide) (by decide)).mono ?_;rintro e w4 ⟨v1,rfl,fL,b4⟩;obtain⟨zz,rfl,hz,hzq⟩:=fL.frd;clear fL;obtain⟨u0,u1,u2,w5,t0,t1,t2,f0,f1,f2,e5,lA,g9⟩:=(B.below b4).put (by rw[d3.out];exact hjl) (a1u _) hz;have Z:=a1k (g9 (by rw[←r6.out,a2m,if_pos hjl,hzq.out];rfl));clear g9 B hz lA;go_wp2;go_roundw
    case rel=>exact⟨j+1,by omega,by go_num,Z.out⟩
    case measure=>simp[intOf];omega
  · obtain rfl:j=S.n:=by omega
    have z5:decide ((S.n:Int)<(S.n:Int))=false:=a1v (by omega);rw[show FAt T1 w1.heap.size S.n w1 wr=FAt T1 w1.heap.size T1.length w1 wr by rw[d3.out]] at B;have yE:=B.bel;obtain⟨f3,h1,h2,h3,h4⟩:=B.done;have y9:f3.length=S.n:=h2.trans d3.out;have E:=yE;have n1:FL wr (some ⟨w1.heap.size,0,none⟩) S.n f3:=h1.fl h3 (by omega) |> fun hh=>by rw[←y9];exact hh
    have l5:=a1k (show Nm[0]?=some (RwD.qs ⟨some ⟨w1.heap.size,0,none⟩,S.n,f3⟩) by
     rw[←R.out]
     show some (List.replicate S.n 1)=some (f3.map FrD.q)
     rw[h4.out,r6.out])
    obtain⟨w6,hw6,b6,l6,B6⟩:=f8 wr #[.slice (some ⟨w1.heap.size,0,none⟩) S.n S.n] 22;have c5:=a1j E b6
    have hC:MtAt Nm w1 1 (.slice (some ⟨wr.heap.size,0,none⟩) 1 1) w6:=MtAt.one (r:=⟨some ⟨w1.heap.size,0,none⟩,S.n,f3⟩) (by
     show Blk w6 wr.heap.size _ #[.slice (some ⟨w1.heap.size,0,none⟩) f3.length S.n]
     rw[y9];exact B6) E.size (n1.below b6) l5.out c5
    have z3:=k4.below c5;obtain⟨s0,s1,s2,s3,s4,s5,s6,s7,s8,s9,l4,t4,x3⟩:=z3.b.cells;obtain⟨AI,cI,l8,-⟩:=h.act.il;rw[l8] at l4
    have hIl:s.ia.length≤cI∧cI≤9223372036854775807:=by
     obtain⟨AI2,cI2,e2,kN⟩:=h.act.il;rw[l8] at e2;cases e2;exact⟨kN.1,kN.2.1⟩
    have x9:=a1k l8;clear h1 h3 n1 B l8 z3;go_wp2;clear s0 s1 s2 s3 s4 s5 s6 s7 s8 s9 l4 t4 x3
    go_loopw [8,52] (fun v i wr=>∃ j:Nat,j≤s.ia.length∧i=.int .i64 (j:Int)∧MtAt Nm w1 (j+1) v wr) (fun _ i _=>s.ia.length-(intOf i).toNat)
    case atStart=>exact⟨0,by omega,rfl,hC⟩
    case round =>
     clear hC B6 c5 E;obtain⟨j,hj,rfl,B⟩:=hrel;have E:=B.bel
     by_cases hjl:j<s.ia.length
     · have hW:(j:Int)<(s.ia.length:Int):=by omega
       have hS:=k4.below E;obtain⟨AI2,cI2,e2,hI⟩:=hS.act.il;rw[x9.out] at e2
       cases e2
       obtain⟨aI,eaI,hbI,hcI⟩:=hI.2.2 j _ (a1m hjl);obtain⟨x,hL⟩:∃ x,s.ia[j]=x:=⟨_,rfl⟩;have hx:=a1k hL;clear hL;rw[hx.out] at hcI;have hxl:x<S.cs.length:=by rw[←hx.out];exact hA.out _ (a1z hjl)
       have hxi:(x:Int)<(S.cs.length:Int):=by omega
       obtain⟨s0,s1,s2,-⟩:=hS.b.cells;obtain⟨aC,dC,cM,habC,q0,q1,q2,q3,n5,y7,hU⟩:=hS.b.all.at hxl;rw[hSA] at cM
       cases cM
       rw[hSA] at s2;rw[eaI]
       have hq:=a1k (show Nm[j+1]?=some dC.r.qs by
        rw[←R.out]
        show (s.ia.map (nrm (S.cs.map CoD.con)))[j]?=_
        rw[a1r,a1m hjl,hx.out]
        show some (nrm (S.cs.map CoD.con) x)=_
        rw[Q1 (c:=dC.con) (by rw[a1r,hU.out];rfl)];rfl)
       obtain⟨os,ho,v2,x8,F⟩:=B.app (r:=dC.r) (by omega) hq.out n5;clear hS hI n5 y7 B
       go_wp2_with (at_builtin;refine J1 rfl Tryz.underlying56 rfl _ _ rfl _ _ os rfl ho ⟨wr.heap.size,0,none⟩ 1 dC.r rfl (M6 wr dC.r) v2 x8 ?_;intro v6 w7 k0 h6)
       have Z:=F.out v6 w7 k0 h6;clear F ho h6 k0;go_wp2;go_roundw
       case rel=>exact⟨j+1,by omega,by go_num,Z⟩
       case measure=>simp[intOf];omega
     · obtain rfl:j=s.ia.length:=by omega
       have z5:decide ((s.ia.length:Int)<(s.ia.length:Int))=false:=a1v (by omega);obtain⟨NA,nc,fT,rfl,b7,l0⟩:=B.done (by rw[g.out,←hp.out]);have m2:fT.length=p:=by rw[←g.out,←l0.out];simp[B9]
       have b3:=a1k m2;rw[m2];obtain⟨wN,hwN⟩:∃ wN,wN=wr:=⟨_,rfl⟩;subst hwN;have j0:=a1k E;have bS:=b7.len;rw[m2] at bS;obtain⟨G,hG⟩:∃ G,Hid (M2 Nm=G):=⟨_,rfl⟩;obtain⟨rt,m3⟩:∃ rt,Hid (M4 Nm v=rt):=⟨_,rfl⟩;have hF:=a1k (show G.length=p by rw[←hG.out,C8,g.out]);have sB:=a1k (show rt.length=p by rw[←m3.out,J6,g.out]);have O:GrAt G rt wN 0 0 (.slice none 0 0) (.slice none 0 0) wN:=GrAt.start (a3t _ _);clear B m2 E;go_wp2
       go_loopw [11,12,70] (fun vg vr i wr=>∃ j:Nat,j≤p∧i=.int .i64 (j:Int)∧GrAt G rt wN j j vg vr wr) (fun _ _ i _=>p-(intOf i).toNat)
       case atStart=>exact⟨0,by omega,rfl,O⟩
       case round =>
        clear O;obtain⟨j,hj,rfl,O⟩:=hrel;have U:=O.bel
        by_cases hjl:j<p
        · have hW:(j:Int)<(p:Int):=by omega
          obtain⟨aN,rj,m4,hO,hcN,hN,n0⟩:=(b7.below U).at (k:=j) (by rw[b3.out];exact hjl);rw[m4];have l7:=a1k (show Nm[j]?=some rj.qs by rw[←l0.out];unfold B9;rw[a1r,n0.out];rfl);have n6:=a1k (show ∀ d∈rj.ds,Fits 1 d.q from QFits.fr0 (fun q hq=>(m1.out rj.qs (a1n l7.out) q hq).fits (by decide)));have cA:=a1k (show rj.ds.length=S.n by have h1:=b5.out rj.qs (a1n l7.out);rw[a4l] at h1;exact h1);have hcf:=a1k (show ∀ d∈d9.r.ds,Fits 1 d.q from QFits.fr0 (fun q hq=>by rw[l3.out] at hq;exact (bB.out q hq).fits (by decide)));have hE:=a1k (show 1+(rj.ds.length+1)*(1+1+1)<400000000 by rw[cA.out];omega);obtain⟨c8,c3⟩:∃ T,Hid (Nm.map (F8 rj.qs)=T):=⟨_,rfl⟩;have kA:=a1k (show c8.length=p by rw[←c3.out,a1s,g.out]);obtain⟨wo,hwo⟩:∃ wo,wo=wr:=⟨_,rfl⟩;subst hwo;have V:LsAt c8 wo 0 (.slice none 0 0) wo:=LsAt.nil _ _;go_wp2
          go_loopw [15,76] (fun v i wr=>∃ l:Nat,l≤p∧i=.int .i64 (l:Int)∧LsAt c8 wo l v wr) (fun _ i _=>p-(intOf i).toNat)
          case atStart=>exact⟨0,by omega,rfl,V⟩
          case round =>
           clear V;obtain⟨l,hl,rfl,V⟩:=hrel;have t3:=V.bel;have z1:=a1j U t3
           by_cases hll:l<p
           · have hli:(l:Int)<(p:Int):=by omega
             obtain⟨aN2,rl,n8,habN2,hcN2,q4,bD⟩:=(b7.below z1).at (k:=l) (by rw[b3.out];exact hll);have eN:aN2=aN:=by rw[m4] at n8;injection n8 with e;exact e.symm
             subst eN;have j4:=a1k (show Nm[l]?=some rl.qs by rw[←l0.out];unfold B9;rw[a1r,bD.out];rfl);have gE:=a1k (show ∀ d∈rl.ds,Fits 1 d.q from QFits.fr0 (fun q hq=>(m1.out rl.qs (a1n j4.out) q hq).fits (by decide)));have hdq:=a1k (show o5 (U3 rj.ds rl.ds)=F8 rj.qs rl.qs from X5 _ _);have v7:=V0 (K:=1) (hN.below t3) q4 n6.out gE.out hE.out;rw[hdq.out] at v7;go_wp2_with fail;refine v7.mono ?_;rintro e w4 ⟨v4,rfl,hv4,b4⟩;clear v7;obtain⟨n4,A4,ca4,la4,B4,cb4,lb4,rfl,cY,lV,gC⟩:=hv4;have f5:=a1k (show c8[l]?=some (F8 rj.qs rl.qs) by rw[←c3.out,a1r,j4.out];rfl);obtain⟨os,ho,v2,x8,F⟩:=(V.below b4).app (by omega) f5.out cY lV gC;clear cY lV gC V q4
             go_wp2_with (at_builtin;refine G9 rfl rfl _ _ rfl _ _ os rfl ho ⟨w4.heap.size,0,none⟩ 1 ⟨n4,A4,ca4,la4,B4,cb4,lb4⟩ rfl (a4d (heap_alloc_new w4 _)) v2 x8 ?_;intro v6 w6 k0 h6)
             have Z:=F.out v6 w6 k0 h6;clear F ho h6 k0;go_wp2;go_roundw
             case rel=>exact⟨l+1,by omega,by go_num,Z⟩
             case measure=>simp[intOf];omega
           · obtain rfl:l=p:=by omega
             have y8:decide ((l:Int)<(l:Int))=false:=a1v (by omega);have p5:=O.own;obtain⟨RA,rc,g8,rfl,Y,l9,v3⟩:=V.done2 kA.out.symm
             have hGq:=a1k (show G[j]?=some (RwD.qs ⟨RA,rc,g8⟩) by
              show _=some (g8.map FrD.q)
              rw[l9.out,←c3.out,←hG.out];unfold M2;rw[a1r,l7.out];rfl)
             obtain⟨v6,w6,-,p3,f6⟩:=(O.below t3).appM (r:=⟨RA,rc,g8⟩) (by omega) hGq.out Y (fun a e=>⟨fun h9=>by have h10:=p5 _ h9;have h11:=(v3 a e).1;omega,(v3 a e).2⟩);have m9:=f6.bel;clear O V Y p5 v3
             go_wp2_with (at_builtin;refine D7 (T:=129) rfl rfl (.tmp 87) (.tmp 89) rfl rfl rfl p3 ?_)
             clear p3;obtain⟨aN7,x2,rA,-,-,f9,t6⟩:=(b7.below m9).at (k:=j) (by rw[b3.out];exact hjl);have e7:x2=rj:=by have h1:=t6.out;rw[n0.out] at h1;injection h1 with h1;exact h1.symm
             subst e7;have hY:=a1j j0.out m9;have k3:=V0 (K:=1) f9 (g4.below hY) n6.out hcf.out hE.out;rw[show o5 (U3 x2.ds d9.r.ds)=F8 x2.qs v by rw[X5,l3.out];rfl] at k3;go_wp2_with fail;refine k3.mono ?_;rintro e w8 ⟨v8,rfl,bV,b8⟩;obtain⟨d8,rfl,bA,gB⟩:=bV.frd;clear k3 bV f9 rA;have hrq:=a1k (show rt[j]?=some d8.q by rw[←m3.out,gB.out];unfold M4;rw[a1r,l7.out];rfl);obtain⟨v9,w9,g5,z9⟩:=(f6.below b8).appQ (by omega) hrq.out bA;clear f6 bA
             go_wp2_with (at_builtin;refine D7 (T:=22) rfl rfl (.tmp 91) (.tmp 95) rfl rfl rfl g5 ?_)
             clear g5;go_wp2;go_roundw
             case rel=>exact⟨j+1,by omega,by go_num,z9⟩
             case measure=>simp[intOf];omega
        · obtain rfl:j=p:=by omega
          have y8:decide ((j:Int)<(j:Int))=false:=a1v (by omega);obtain⟨GA,gc,k2,RA,rc,g8,rfl,q6,k1,rfl,Y,l9⟩:=O.done hF.out.symm sB.out.symm;have hgl:=a1k (show k2.length=j by rw[←hF.out,←k1.out];simp[B9]);have c4:=a1k (Q0 (L6 Nm) (by rw[C8,g.out,←hp.out];omega))
          have x1:=tY (K:=1) q6 Y (by rw[k1.out,←hG.out];exact zH.out) (by rw[l9.out,←m3.out];exact y4.out) (by
           rw[k1.out,←hG.out,c4.out.2,g.out];have h1:=W6 1 vA;rw[gK8] at h1;omega) (by rw[hgl.out];omega) (by rw[k1.out,←hG.out,c4.out.2,g.out];omega)
          rw[show J5 (B9 k2) (g8.map FrD.q)=(r,0) by
           rw[k1.out,l9.out,←hG.out,←m3.out];unfold J5;rw[if_pos ⟨c4.out.1,by rw[J6,C8]⟩,x4.out]] at x1
          have c2:=a1j j0.out U;clear q6 Y O;go_wp2_with fail;refine x1.mono ?_;rintro e b2 ⟨hB,cR,dR,rfl,d4,f5,d6,hP⟩;clear x1
          have c9:dR.length=j:=by
           have h9:dR.map FrD.q=r:=f5.out;rw[←hrl.out,←h9,a1s]
          rw[c9];have C:=a1j c2 d6;have j3:=b7.below ((a1j U d6));obtain⟨wE,hwE,bE,lE,BE⟩:=f8 b2 #[] 28;have x0:=a1j C bE;obtain⟨gz,cz,wZ,fE,hoz,gA,y6,q5,bZ⟩:=M0 BE (g4.below x0) (by rw[q9.out];omega);have v5:=a1k (show b2.heap.size≤gz from q5);have hT:Below b2.heap.size b2 wZ:=a1j bE bZ;have hZ:=j3.below bE;clear hoz q5
          go_wp2_with (at_builtin;refine D7 (T:=22) rfl rfl (.tmp 104) (.tmp 105) rfl rfl rfl fE ?_)
          clear fE;have m6:=a1k hP;have hzi:=a1k (show ∀ i,i<S.n→gt (d9.r.ds.map FrD.q) i=gt (oX Nm r v 0) i from fun i _=>by rw[l3.out];rfl);clear j3 hZ hP BE;rw[q9.out];go_wp2
          go_loopw [109] (fun i wr=>∃ q:Nat,q≤j∧i=.int .i64 (q:Int)∧∃ ds,XO wr gz cz ds∧AllFV wr ds∧Hid (ds.length=S.n)∧Hid (∀ i,i<S.n→gt (ds.map FrD.q) i=gt (oX Nm r v q) i)∧Below b2.heap.size b2 wr) (fun i _=>j-(intOf i).toNat)
          case atStart=>exact⟨0,by omega,rfl,_,gA,y6,q9.out,hzi.out,hT⟩
          case round =>
           clear gA y6 hT;obtain⟨q,hq,rfl,ds,hX,hV,b0,b9,hb⟩:=hrel
           by_cases j4:q<j
           · have hqi:(q:Int)<(j:Int):=by omega
             have f4:=((a1j U d6)).trans (hb.mono (a1t U.size d6.size));obtain⟨aN,nq,m4,hO,hcN,dS,n3⟩:=(b7.below f4).at (k:=q) (by rw[b3.out];exact j4);rw[m4];have v0:=a1k (show Nm[q]?=some nq.qs by rw[←l0.out];unfold B9;rw[a1r,n3.out];rfl);have g7:=a1k (show nq.ds.length=S.n by have h1:=b5.out nq.qs (a1n v0.out);rw[a4l] at h1;exact h1);obtain⟨rj,I⟩:∃ rj,Hid (dR[q]?=some rj):=⟨_,a1m (by omega)⟩;have p6:=a1k (show gt r q=rj.q by rw[←f5.out];exact X2 I.out)
             obtain⟨aR,k6⟩:∃ aR,Hid (hB=some aR):=by
              obtain⟨a2,d2,e2,-⟩:=d4.at (k:=q) (by omega);exact⟨a2,e2⟩
             have n2:0<nq.ds.length→∃ aA,nq.a=some aA:=fun h0=>by
              obtain⟨a2,d2,e2,-⟩:=dS.at (k:=0) h0;exact⟨a2,e2⟩
             have t5:=a1k n2;obtain⟨wi,hwi⟩:∃ wi,wi=wr:=⟨_,rfl⟩;subst hwi;have n9:=a1k (show ∀ i,i<S.n→gt (ds.map FrD.q) i=if i<0 then gt (oX Nm r v (q+1)) i else gt (oX Nm r v q) i from fun i hi=>by rw[if_neg (by omega)];exact b9.out i hi);clear n2;go_wp2
             go_loopw [116] (fun i wr=>∃ l:Nat,l≤S.n∧i=.int .i64 (l:Int)∧∃ ds,XO wr gz cz ds∧AllFV wr ds∧Hid (ds.length=S.n)∧Hid (∀ i,i<S.n→gt (ds.map FrD.q) i=if i<l then gt (oX Nm r v (q+1)) i else gt (oX Nm r v q) i)∧Below b2.heap.size b2 wr) (fun i _=>S.n-(intOf i).toNat)
             case atStart=>exact⟨0,by omega,rfl,ds,hX,hV,b0.out,n9.out,hb⟩
             case round =>
              clear hX hV hb b0 b9 n9 f4;obtain⟨l,hl,rfl,ds,f,L,b0,b9,h7⟩:=hrel
              by_cases hll:l<S.n
              · have hli:(l:Int)<(S.n:Int):=by omega
                have hln:(l:Int)<(nq.ds.length:Int):=by have:=g7.out;omega
                obtain⟨aA,eA⟩:=t5.out (by have:=g7.out;omega);rw[eA];rw[k6.out];have f4:=((a1j U d6)).trans (h7.mono (a1t U.size d6.size));obtain⟨w4,hw4⟩:∃ w4,w4=wr:=⟨_,rfl⟩;subst hw4;have m:FL w4 (some aR) cR dR:=by rw[←k6.out];exact d4.below h7
                obtain⟨aN9,d7,-,-,-,j1,r4⟩:=(b7.below f4).at (k:=q) (by rw[b3.out];exact j4);have e9:d7=nq:=by have h1:=r4.out;rw[n3.out] at h1;injection h1 with h1;exact h1.symm
                subst e9;have t:FL w4 (some aA) d7.c d7.ds:=by rw[←eA];exact j1
                have x7:=a1k (show l<ds.length by rw[b0.out];exact hll);obtain⟨xk,D⟩:∃ xk,Hid (ds[l]?=some xk):=⟨_,a1m x7.out⟩;obtain⟨nl,H⟩:∃ nl,Hid (d7.ds[l]?=some nl):=⟨_,a1m (by rw[g7.out];exact hll)⟩;have z6:=a1k (show xk.q=gt (oX Nm r v q) l by rw[←X2 D.out,b9.out l hll,if_neg (by omega)])
                have hfk:=a1k (show Fits 699067 xk.q by
                 rw[z6.out];exact zAt_fits b5.out h8.out bB.out (fun j i hj=>by rw[←gY hj];exact cD (m1.out _ (a1z hj)) i) cU.out (by rw[g.out];omega) (by rw[g.out];exact vA) hll)
                have z2:=a1k (show Fits 87381 rj.q by rw[←p6.out];exact H4 (by decide) cU.out q);have n7:=a1k (show gt d7.qs l=nl.q from X2 H.out);have vC:=a1k (show Fits 1 nl.q by rw[←n7.out];exact (cD (m1.out _ (a1n v0.out)) l).fits (by decide))
                have h5:∀ i,i<S.n→∀ y:FrD,y.q=xk.q-rj.q*nl.q→gt ((ds.set l y).map FrD.q) i=if i<l+1 then gt (oX Nm r v (q+1)) i else gt (oX Nm r v q) i:=fun i hi y hy=>by
                 rw[pG x7.out]
                 by_cases e:i=l
                 · subst e;rw[if_pos rfl,if_pos (by omega),hy,z6.out]
                   show _=gt (lU (oX Nm r v q) (r.getD q 0) (Nm.getD q [])) i
                   rw[nW (dZ b5.out h8.out q (by rw[g.out];omega)).1 (L4 b5.out (by rw[g.out];omega)) hi];have e1:Nm.getD q []=d7.qs:=by rw[a1l,v0.out];rfl
                   rw[e1,n7.out,show r.getD q 0=rj.q from p6.out]
                 · rw[if_neg e,b9.out i hi]
                   by_cases e2:i<l
                   · rw[if_pos e2,if_pos (by omega)]
                   · rw[if_neg e2,if_neg (by omega)]
                replace h5:=a1k h5;clear f4 j1;go_upto_region 36 with fail;have bT:=a3t w4.heap.size w4;have d5:Below w4.heap.size w4 w4.drew:=(a3t _ _).drew;replace f:=f.below d5;replace L:=L.below d5;replace m:=m.below d5;replace t:=t.below d5;replace bT:=a1j bT d5;clear d5;go_wp2_with fail;refine a3u ?_;refine k9 (J:=[17]) (S:=fun w'=>w'.cell? ⟨gz,l*3,none⟩=some (.bool xk.neg)∧w'.cell? ⟨gz,l*3+1,none⟩=some (.slice xk.a xk.la.length xk.ca)∧w'.cell? ⟨gz,l*3+2,none⟩=some (.slice xk.b xk.lb.length xk.cb)∧w'.cell? (aR.add (q*3))=some (.bool rj.neg)∧w'.cell? ⟨(aR.add (q*3)).block,(aR.add (q*3)).off+1,none⟩=some (.slice rj.a rj.la.length rj.ca)∧w'.cell? ⟨(aR.add (q*3)).block,(aR.add (q*3)).off+2,none⟩=some (.slice rj.b rj.lb.length rj.cb)∧w'.cell? (aA.add (l*3))=some (.bool nl.neg)∧w'.cell? ⟨(aA.add (l*3)).block,(aA.add (l*3)).off+1,none⟩=some (.slice nl.a nl.la.length nl.ca)∧w'.cell? ⟨(aA.add (l*3)).block,(aA.add (l*3)).off+2,none⟩=some (.slice nl.b nl.lb.length nl.cb)) (by kernel_rfl) (⟨(f.cells D.out).1,(f.cells D.out).2.1,(f.cells D.out).2.2,(m.cl3 I.out).1,(m.cl3 I.out).2.1,(m.cl3 I.out).2.2,(t.cl3 H.out).1,(t.cl3 H.out).2.1,(t.cl3 H.out).2.2⟩) (fun o=>?_);refine dU 0 1 o ?_
                refine iK 2 3 4 5 6 7 8 9 o ?_;refine mR 10 11 12 13 o ?_;refine I0 14 rfl fun K hK=>?_;go_simp;have N:=O7 (m.fv _ (a1n I.out)) (t.fv _ (a1n H.out)) z2.out vC.out (by decide);go_at_call 34;refine (N).mono ?_;rintro e u1 ⟨vm,rfl,vB,j2⟩;clear N;replace f:=f.below j2;replace L:=L.below j2;replace m:=m.below j2;replace t:=t.below j2;replace bT:=a1j bT j2;go_wp2_with fail;refine hK.out _ _ (⟨(f.cells D.out).1,(f.cells D.out).2.1,(f.cells D.out).2.2,(m.cl3 I.out).1,(m.cl3 I.out).2.1,(m.cl3 I.out).2.2,(t.cl3 H.out).1,(t.cl3 H.out).2.1,(t.cl3 H.out).2.2⟩) (fun o=>?_);clear hK K;(try simp only[j9]);refine I0 15 rfl fun K hK=>?_;go_simp;have N:=D1 (L _ (a1n D.out)) vB hfk.out (z2.out.mul vC.out) (by decide);go_at_call 32;refine (N).mono ?_;rintro e u2 ⟨va,rfl,hD,j5⟩;clear N;replace f:=f.below j5;replace L:=L.below j5;replace m:=m.below j5;replace t:=t.below j5;replace bT:=a1j bT j5;obtain⟨y,rfl,hy,hyq⟩:=hD.frd
                clear hD;obtain⟨w9,f0,f1,f2,e9,hX9,o9⟩:=f.store x7.out y;have hV9:=XO.setFV (k:=l) f L hy o9;go_wp2_with fail;refine hK.out _ _ (⟨(f.cells D.out).1,(f.cells D.out).2.1,(f.cells D.out).2.2,(m.cl3 I.out).1,(m.cl3 I.out).2.1,(m.cl3 I.out).2.2,(t.cl3 H.out).1,(t.cl3 H.out).2.1,(t.cl3 H.out).2.2⟩) (fun o=>?_);clear hK K;(try simp only[j9]);refine dJ 16 rfl o ?_;refine j6 (rs:=[17]) (by kernel_rfl) (by simp) ?_;refine a4j rfl (by decide) (fun K hK=>?_) a4i;go_simp;refine hK.out _ _ ?_;clear hK K;(try clear o);(try simp only[j9]);refine k8 (by kernel_rfl) ?_ _;refine a3w ?_;(try go_simp);(try clear o);have hb9:=o9.to_below ((a1j h7 bT)) v5.out (a1t h7.size bT.size);clear f L m t vB hy o9;go_wp2;go_roundw
                case rel =>
                 refine⟨l+1,by omega,by go_num,_,hX9,hV9,?_,?_,hb9⟩
                 · show (ds.set l y).length=_
                   rw[a2i];exact b0.out
                 · intro i hi;exact (h5 i hi y hyq.out)
                case measure=>simp[intOf];omega
              · obtain rfl:l=S.n:=by omega
                have bN:decide ((S.n:Int)<(S.n:Int))=false:=a1v (by omega);have bF:=a1k (show ∀ i,i<S.n→gt (ds.map FrD.q) i=gt (oX Nm r v (q+1)) i from fun i hi=>by rw[b9.out i hi,if_pos hi]);go_wp2;go_roundw
                case rel=>exact⟨q+1,by omega,by go_num,ds,f,L,b0.out,bF.out,h7⟩
                case measure=>simp[intOf];omega
           · obtain rfl:q=j:=by omega
             have bN:decide ((q:Int)<(q:Int))=false:=a1v (by omega)
             obtain⟨d0,dT,vM⟩:∃ d0 dT,dR=d0::dT:=by
              cases dR with
              | nil=>have:=hp.out;simp at c9;omega
              | cons d0 dT=>exact⟨d0,dT,rfl⟩
             subst vM
             obtain⟨aR,k6⟩:∃ aR,hB=some aR:=by
              obtain⟨a2,d2,e2,-⟩:=d4.at (k:=0) (by simp);exact⟨a2,e2⟩
             subst k6;have l2:=d4.below hb;obtain⟨y0,y1,y2⟩:=l2.cl3 (k:=0) (d:=d0) rfl;rw[show aR.add (0*3)=aR from by cases aR;rfl] at y0 y1 y2;have hq0:0<q:=by have:=hp.out;omega
             have y3:=a1j C hb;have hlr:=l2.len;rw[c9] at hlr;have r5:Blk wr w.heap.size 28 #[.bool false,.slice none 0 0,.slice none 0 0]:=a4f B1 y3;obtain⟨w9,p0,p1,p2,r0,r1,r2,e9,h9,o9⟩:=p9 r5 d0;obtain⟨t0,t1,t2⟩:=h9.cells;have hpi:(0:Int)<(q:Int):=by have:=hp.out;omega
             have hp1:(1:Int)≤(q:Int):=by omega
             have bP:Below w.heap.size w wr:=a1j b1 y3;have m8:Below w.heap.size w w9.drew:=(o9.to_below bP (a1u _) bP.size).drew;have r3:FL w9.drew (some ⟨gz,0,none⟩) cz ds:=((hX.only o9 (by have:=v5.out;have:=C.size;omega)).fl (fun x hx=>(hV x hx).only_blk r5 (k7 _ _ _ _ _ _ _) o9)).below (a3t _ _).drew;have m0:FL w9.drew (some aR) cR (d0::dT):=(l2.far (fun a e=>by cases e;have:=m6.out aR rfl;have:=c2.size;omega) r5 (k7 _ _ _ _ _ _ _) o9).below (a3t _ _).drew
             have m5:=a1k (show ds.map FrD.q=z∧d0.q=lev∧dT.map FrD.q=rates by
              obtain⟨e1,e2,e3⟩:=vD.out;have h9:(d0::dT).map FrD.q=r:=f5.out;refine⟨?_,by rw[←e2,←h9];rfl,by rw[←e3,←h9];rfl⟩;rw[←e1];refine R6 (by rw[a1s,b0.out,(dZ b5.out h8.out q (by rw[g.out];exact a1u _)).1]) fun i hi=>b9.out i (by rw[(dZ b5.out h8.out q (by rw[g.out];exact a1u _)).1] at hi;exact hi))
             have d1:ds.length=S.n:=b0.out;have k5:dT.length=q-1:=by simp at c9;omega
             have p4:w.heap.size≤gz:=by have:=v5.out;have:=C.size;have:=b1.size;omega
             have q8:w.heap.size≤aR.block:=by have:=m6.out aR rfl;have:=c2.size;have:=b1.size;omega
             replace d1:=a1k d1;replace k5:=a1k k5;clear hX hV l2
             have c7:∀ (X:Value),X=.slice (some (aR.add 3)) (q-1) (cR-1)∨(cR=1∧∃ A,X=.slice A (q-1) (cR-1)∧∀ a,A=some a→w.heap.size≤a.block)→RetDir z lev rates w (.returned (.tuple #[.slice (some ⟨gz,0,none⟩) S.n cz,.agg #[.bool d0.neg,.slice d0.a d0.la.length d0.ca,.slice d0.b d0.lb.length d0.cb],X])) w9.drew:=fun X hX=>by
              rcases hX with rfl | ⟨e1,A,rfl,hA⟩
              · exact⟨_,cz,ds,_,cR-1,dT,d0,by rw[d1.out,k5.out],r3,m0.drop1,m0.fv d0 a2o,m5.out,fun a e=>by cases e;exact p4,fun a e=>by cases e;exact q8,m8⟩
              · have l5:q=1:=by omega
                have hT0:dT=[]:=a2a (by rw[k5.out,l5]);subst hT0;exact⟨_,cz,ds,A,cR-1,[],d0,by rw[d1.out,l5];rfl,r3,⟨⟨by simp,by omega,fun j hj=>by simp at hj⟩,fun d hd=>by simp at hd⟩,m0.fv d0 a2o,m5.out,fun a e=>by cases e;exact p4,hA,m8⟩
             replace c7:=a1k c7;clear r3 m0
             by_cases hc1:cR=1
             · subst hc1;go_wp2
               go_region
               go_wp2;refine a3z (v:=.tuple #[.slice (some ⟨gz,0,none⟩) S.n cz,.agg #[.bool d0.neg,.slice d0.a d0.la.length d0.ca,.slice d0.b d0.lb.length d0.cb],_]) (by simp[results,Tryz.results73,go_sem,show w9.drew.cell? ⟨w.heap.size,0,none⟩=_ from t0,show w9.drew.cell? ⟨w.heap.size,1,none⟩=_ from t1,show w9.drew.cell? ⟨w.heap.size,2,none⟩=_ from t2];rfl) rfl ?_;exact c7.out _ (.inr ⟨by trivial,some aR,by rw[show q=1 by omega],fun a e=>by cases e;exact q8⟩)
             · go_wp2
               go_region
               all_goals go_wp2
               refine a3z (v:=.tuple #[.slice (some ⟨gz,0,none⟩) S.n cz,.agg #[.bool d0.neg,.slice d0.a d0.la.length d0.ca,.slice d0.b d0.lb.length d0.cb],_]) (by simp[results,Tryz.results73,go_sem,show w9.drew.cell? ⟨w.heap.size,0,none⟩=_ from t0,show w9.drew.cell? ⟨w.heap.size,1,none⟩=_ from t1,show w9.drew.cell? ⟨w.heap.size,2,none⟩=_ from t2];rfl) rfl ?_;exact c7.out _ (.inl rfl)
theorem ArrQ.xo {w:World}{g:Nat}{ds:List FrD}(h:ArrQ w g ds) (hm:ds.length≤1000000000000):XO w g ds.length ds :=
 ⟨_,h,ArrQ.noDig ds,a1u _,by omega,by
  rw[a1q];rw[F0];exact a1u _,by
  rw[List.size_toArray,F0];exact a1u _⟩
theorem XO.seg {w:World}{g c lo n k:Nat}{ds:List FrD}(h:XO w g c ds) (hv:AllFV w ds) (hlo:lo+n≤ds.length) (hn:n≤k) (hk:k≤9223372036854775807):FL w (some ⟨g,lo*3,none⟩) k ((ds.drop lo).take n):=by
 obtain⟨b,h1,h2,h3,h4,h5,h6⟩:=h;have hl:((ds.drop lo).take n).length=n:=by rw[a2c,a2d];omega
 refine⟨⟨by omega,hk,fun j hj=>⟨_,rfl,Blk.lt h1,fun i u hu=>?_⟩⟩,fun d hd=>hv d (a2l (a2k hd))⟩
 have e:((ds.drop lo).take n)[j]=ds[lo+j]'(by omega):=by
  rw[List.getElem_take,List.getElem_drop]
 rw[e] at hu;have:=XO.cellOf h1 h5 (k:=lo+j) (a1m (by omega)) hu;rw[a1g,←show (lo+j)*3+i=lo*3+(j*3+i) by omega];exact this
theorem FL.none0 (w:World) (A:Option Addr) (c:Nat) (hc:c≤9223372036854775807):FL w A c []:=⟨⟨by simp,hc,fun j hj=>by simp at hj⟩,fun d hd=>by simp at hd⟩
theorem Q9 {w:World}{g:Nat}(h:Blk w g 46 #[.slice none 0 0,.slice none 0 0,.slice none 0 0,.slice none 0 0,.bool false,.slice none 0 0,.slice none 0 0]) (x:PtD):∃ w9,w.cell? ⟨g,0,none⟩=some (.slice none 0 0)∧w.cell? ⟨g,1,none⟩=some (.slice none 0 0)∧w.cell? ⟨g,2,none⟩=some (.slice none 0 0)∧w.cell? ⟨g,3,none⟩=some (.slice none 0 0)∧w.cell? ⟨g,4,none⟩=some (.bool false)∧w.cell? ⟨g,5,none⟩=some (.slice none 0 0)∧w.cell? ⟨g,6,none⟩=some (.slice none 0 0)∧w.frozen? ⟨g,0,none⟩=false∧w.frozen? ⟨g,1,none⟩=false∧w.frozen? ⟨g,2,none⟩=false∧w.frozen? ⟨g,3,none⟩=false∧w.frozen? ⟨g,4,none⟩=false∧w.frozen? ⟨g,5,none⟩=false∧w.frozen? ⟨g,6,none⟩=false ∧
 (((((((w.setCell ⟨g,0,none⟩ (.slice x.pay.a x.pay.ds.length x.pay.c)).setCell ⟨g,1,none⟩ (.slice x.mults.a x.mults.ds.length x.mults.c)).setCell ⟨g,2,none⟩ (.slice x.low.a x.low.ds.length x.low.c)).setCell ⟨g,3,none⟩ (.slice x.high.a x.high.ds.length x.high.c)).setCell ⟨g,4,none⟩ (.bool x.lev.neg)).setCell ⟨g,5,none⟩ (.slice x.lev.a x.lev.la.length x.lev.ca)).setCell ⟨g,6,none⟩ (.slice x.lev.b x.lev.lb.length x.lev.cb))=w9∧VarP w9 g x∧Only w w9 g:=by
 have b9:=((((((h.set 0 (.slice x.pay.a x.pay.ds.length x.pay.c)).set 1 (.slice x.mults.a x.mults.ds.length x.mults.c)).set 2 (.slice x.low.a x.low.ds.length x.low.c)).set 3 (.slice x.high.a x.high.ds.length x.high.c)).set 4 (.bool x.lev.neg)).set 5 (.slice x.lev.a x.lev.la.length x.lev.ca)).set 6 (.slice x.lev.b x.lev.lb.length x.lev.cb);have o9:=(((((((a4m w g).set 0 (.slice x.pay.a x.pay.ds.length x.pay.c)).set 1 (.slice x.mults.a x.mults.ds.length x.mults.c)).set 2 (.slice x.low.a x.low.ds.length x.low.c)).set 3 (.slice x.high.a x.high.ds.length x.high.c)).set 4 (.bool x.lev.neg)).set 5 (.slice x.lev.a x.lev.la.length x.lev.ca)).set 6 (.slice x.lev.b x.lev.lb.length x.lev.cb);exact⟨_,a4e h 0,a4e h 1,a4e h 2,a4e h 3,a4e h 4,a4e h 5,a4e h 6,a4g h 0,a4g h 1,a4g h 2,a4g h 3,a4g h 4,a4g h 5,a4g h 6,rfl,b9,o9⟩
theorem lK (x:PtD):NoDig #[.slice x.pay.a x.pay.ds.length x.pay.c,.slice x.mults.a x.mults.ds.length x.mults.c,.slice x.low.a x.low.ds.length x.low.c,.slice x.high.a x.high.ds.length x.high.c,.bool x.lev.neg,.slice x.lev.a x.lev.la.length x.lev.ca,.slice x.lev.b x.lev.lb.length x.lev.cb]:=NoDigL.noDig (l:=[.slice x.pay.a x.pay.ds.length x.pay.c,.slice x.mults.a x.mults.ds.length x.mults.c,.slice x.low.a x.low.ds.length x.low.c,.slice x.high.a x.high.ds.length x.high.c,.bool x.lev.neg,.slice x.lev.a x.lev.la.length x.lev.ca,.slice x.lev.b x.lev.lb.length x.lev.cb]) (fun u hu y e=>by
 subst e
 simp only[a3i,List.not_mem_nil,or_false] at hu
 rcases hu with h | h | h | h | h | h | h <;> cases h) rfl
theorem I5:NoDig #[Value.slice none 0 0,.slice none 0 0,.slice none 0 0,.slice none 0 0,.bool false,.slice none 0 0,.slice none 0 0]:=NoDigL.noDig (l:=[Value.slice none 0 0,.slice none 0 0,.slice none 0 0,.slice none 0 0,.bool false,.slice none 0 0,.slice none 0 0]) (fun u hu y e=>by
 subst e
 simp only[a3i,List.not_mem_nil,or_false] at hu
 rcases hu with h | h | h | h | h | h | h <;> cases h) rfl
theorem mP {K J:Nat}{l:List Rat}{p:Nat × Rat}(hK:0<K) (hl:QFits K l) (hp:Fits J p.2):QFits (K+J+1) (aX l p):=fun q hq=>by
 rcases List.mem_or_eq_of_mem_set hq with h | rfl
 · exact (hl q h).mono (by omega)
 · exact (hl.getD hK _).add hp
theorem rL {n:Nat}{ps:List (Nat × Rat)}(h:∀ p∈ps,Fits KN p.2):∀ j,j≤ps.length→QFits (1+j*(KN+1)) (G3 n (ps.take j)):=by
 intro j
 induction j with
 | zero =>
  intro _ q hq
  have:q=0:=by
   have h1:G3 n (ps.take 0)=List.replicate n 0:=rfl;rw[h1] at hq;exact (a3q.1 hq).2
  subst this;exact Fits.zero (by decide)
 | succ j ih =>
  intro hj;rw[V8 (a1m (show j<ps.length by omega))];have h1:=mP (p:=ps[j]) (by omega) (ih (by omega)) (h _ (a1z _));have e:1+(j+1)*(KN+1)=1+j*(KN+1)+KN+1:=by rw[Nat.succ_mul];omega
  rw[e];exact h1
end Go.Proofs.YtjhkapjadfpimaaGreat
