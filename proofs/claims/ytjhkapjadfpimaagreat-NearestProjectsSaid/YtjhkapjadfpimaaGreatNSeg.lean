/- Contracts of functions, for the law. -/
import Derived.Test.YtjhkapjadfpimaaGreatNCut
import Derived.Test.YtjhkapjadfpimaaGreatNUnit
import Derived.Test.YtjhkapjadfpimaaGreatNVio
namespace Go.Proofs.YtjhkapjadfpimaaGreat
set_option linter.unusedVariables false
set_option linter.unusedSimpArgs false
open Go.RowKit Plain
attribute [local go_sem ↓] Go.wp_at_zero Go.wp_at_succ
set_option maxRecDepth 100000
set_option maxHeartbeats 40000000
theorem FL.cl3 {w:World}{a:Addr}{c:Nat}{ds:List FrD}(h:FL w (some a) c ds){k:Nat}{d:FrD}(hk:ds[k]?=some d):w.cell? (a.add (k*3))=some (.bool d.neg)∧w.cell? ⟨(a.add (k*3)).block,(a.add (k*3)).off+1,none⟩=some (.slice d.a d.la.length d.ca)∧w.cell? ⟨(a.add (k*3)).block,(a.add (k*3)).off+2,none⟩=some (.slice d.b d.lb.length d.cb):=by
 obtain⟨a2,d2,e,h1,h2,h3,h4,h5,h6⟩:=h.at (DD.1 hk).1
 cases e
 have:d2=d:=by have:=h6.out;rw[hk] at this;injection this with this;exact this.symm
 subst this;exact⟨h2,h3,h4⟩
theorem XO.setFV {w w9:World}{g c k:Nat}{ds:List FrD}{d:FrD}(h:XO w g c ds) (hv:AllFV w ds) (hd:FV w d.v d.q) (o9:Only w w9 g):AllFV w9 (ds.set k d):=fun x hx=>by
 obtain⟨cur,hB,hn,-⟩:=h
 rcases List.mem_or_eq_of_mem_set hx with hx | rfl
 · exact (hv x hx).only_blk hB hn o9
 · exact hd.only_blk hB hn o9
def Al (z:List Rat) (lev:Rat) (rates:List Rat) (W:World) (e:Ending) (w':World):Prop :=
 ∃ Z cz zs R cr rs,∃ l:FrD,e=.returned (.tuple #[.slice Z zs.length cz,.agg #[.bool l.neg,.slice l.a l.la.length l.ca,.slice l.b l.lb.length l.cb],.slice R rs.length cr])∧FL w' Z cz zs∧FL w' R cr rs∧FV w' l.v l.q∧Hid (zs.map FrD.q=z∧l.q=lev∧rs.map FrD.q=rates)∧(∀ a,Z=some a→W.heap.size≤a.block)∧(∀ a,R=some a→W.heap.size≤a.block)∧Below W.heap.size W w'
theorem FL.drop1 {w:World}{a:Addr}{c:Nat}{d:FrD}{ds:List FrD}(h:FL w (some a) c (d::ds)):FL w (some (a.add 3)) (c-1) ds:=by
 have hl:=h.len
 simp only[List.length_cons] at hl
 refine⟨⟨by omega,by omega,fun j hj=>?_⟩,fun x hx=>h.fv x (DM _ hx)⟩;obtain⟨a2,e,h1,h2⟩:=h.row.2.2 (j+1) (by simp;omega)
 cases e
 refine⟨_,rfl,h1,fun i u hu=>?_⟩;have:=h2 i u (by simpa using hu);rw[add_add,←show (j+1)*3+i=3+(j*3+i) by omega];exact this
theorem yf {n:Nat}{M:bp}{r v:List Rat}(hr:cj M n) (hv:v.length=n) (hvi:∀ q∈v,intQ 1 q) (hMi:∀ j i,j<M.length→intQ 1 (fn M j i)) (hrf:QFits 87381 r){j:Nat}(hj:j≤M.length) (h8:M.length≤8){i:Nat}(hi:i<n):Fits 699067 (gt (qJ M r v j) i):=by
 rw[(kG hr hv j hj).2 i hi];have h7:Fits (1+j*(87381+1+1)) (lc j (gt r) (fn M) i):=jd fun l hl=>(cX (by decide) hrf l).mul ((hMi l i (by omega)).fits (by decide));exact (((jS hvi i).fits (by decide)).sub h7).mono (by omega)
theorem pk {S:Sv}{s:Sm}{k:Nat}{aS:Addr}{w:World}{z rates:List Rat}{lev:Rat}(h:SolM S s (.pointer (some (aS.add (k*4)))) w) (hSA:S.A=some aS) (hk0:k<S.cs.length) (hc0:ConI S.n (S.cs.map CoD.con)) (hn:S.n≤8) (hA0:∀ a∈s.ia,a<S.cs.length) (hal:s.ia.length+1≤8)
 (hd0:pm S.n (S.cs.map CoD.con) s.ia k=some (z,lev,rates)) :
 Calls Tryz.prog 73 #[.pointer (some ⟨S.gs,0,none⟩)] w (Al z lev rates w):=by
 have hc:=Dj hc0;have rv:=Dj hk0;have hA:=Dj hA0;obtain⟨p,hp⟩:∃ p,Hid (s.ia.length+1=p):=⟨_,rfl⟩;have mm:p≤8:=by rw[←hp.out];exact hal
 obtain⟨Nm,O⟩:∃ M,Hid (ao S.n (S.cs.map CoD.con) s.ia=M):=⟨_,rfl⟩;have L:=Dj (show (S.cs.map CoD.con).length=S.cs.length from Dr _);have cm:=Dj (show ∀ a∈s.ia,a<(S.cs.map CoD.con).length from fun a ha=>by rw[L.out];exact hA0 a ha);have g:=Dj (show Nm.length=p by rw[←O.out,aM,hp.out]);have b5:=Dj (show cj Nm S.n by rw[←O.out];exact cE hc0.len cm.out);have dk:=Dj (show ∀ r∈Nm,∀ q∈r,intQ 1 q by rw[←O.out];exact fc hc0 cm.out);obtain⟨v,hv⟩:∃ v,Hid (nrm (S.cs.map CoD.con) k=v):=⟨_,rfl⟩;have d1:=Dj (show v.length=S.n by rw[←hv.out];exact hc0.len.nrm (by rw[L.out];exact hk0));have nx:=Dj (show ∀ q∈v,intQ 1 q by rw[←hv.out];exact hc0.nrmk (by rw[L.out];exact hk0))
 obtain⟨r,j2,oo⟩:∃ r,Hid (cN (eI Nm) (eK Nm v)=some r)∧Hid (qJ Nm r v p=z∧r.getD 0 0=lev∧r.drop 1=rates):=by
  unfold pm at hd0;rw[O.out,hv.out] at hd0
  cases e:cN (eI Nm) (eK Nm v) with
  | none=>rw[e] at hd0;cases hd0
  | some r =>
   rw[e] at hd0
   injection hd0 with hd0
   injection hd0 with e1 hd0
   injection hd0 with e2 e3
   exact⟨r,rfl,by rw[←g.out];exact e1,e2,e3⟩
 have p5:=Dj (show MFits 1 (eI Nm) by rw[←O.out];exact mQ hc0 cm.out hn);have n6:=Dj (show QFits 1 (eK Nm v) by rw[←O.out,←hv.out];exact ou hc0 cm.out (by rw[L.out];exact hk0) hn);have lv:=Dj (show QFits 87381 r from ol (b:=eK Nm v) hc0 cm.out hn hal n6.out (by rw[dI,g.out,hp.out]) (by rw[O.out];exact j2.out))
 have ps:=Dj (show r.length=p by
  have hf:=fJ (er Nm) (by rw[bC,g.out,←hp.out];omega);have h1:=(jZ hf.1 (by rw[dI,bC]) j2.out).1;rw[h1,hf.2,g.out])
 obtain⟨c0,hr⟩:∃ c0,Hid (S.cs[k]?=some c0):=⟨_,Dl hk0⟩
 have f9:=Dj (show c0.r.ds.map FrD.q=v by
  rw[←hv.out,fK (c:=c0.con) (by rw[Dq,hr.out];rfl)];rfl)
 have j4:=Dj (show c0.r.ds.length=S.n by have h1:=congrArg List.length f9.out;rw[Dr,d1.out] at h1;exact h1);have lf:FL w c0.r.a c0.r.c c0.r.ds:=h.b.all.fl c0 (Dm hr.out);obtain⟨w1,sd,b1,l1,B1⟩:=ag w #[.bool false,.slice none 0 0,.slice none 0 0] 28;have f6:=h.below b1;have c5:=lf.below b1;obtain⟨s0,s1,s2,s3,s4,s5,s6,s7,s8,s9,dt,hk,j5⟩:=f6.b.cells;obtain⟨a9,d9,mx,r3,g0,g1,g2,g3,m1,l9,lg⟩:=f6.b.all.at hk0;rw[hSA] at mx
 cases mx
 have on:d9=c0:=by have h1:=lg.out;rw[hr.out] at h1;injection h1 with h1;exact h1.symm
 subst on;have lm:=lH w1 S.n (by omega);obtain⟨w2,lo⟩:∃ w2,w1.alloc (.cells ((List.replicate S.n fB).flatMap FrD.cells).toArray 28)=w2:=⟨_,rfl⟩;obtain⟨T1,h8⟩:∃ T,Hid (List.replicate S.n (1:Rat)=T):=⟨_,rfl⟩;have bg:=Dj (show T1.length=S.n by rw[←h8.out,Do]);have n5:FAt T1 w1.heap.size 0 w1 w2:=by rw[←lo];exact FAt.new T1 bg.out w1
 rw[lo] at lm;have r4:=Dj hk0;clear m1 l9 hd0 hA0 hc0;go_enter Tryz.func73,Tryz.ntmps73;go_wp2;clear s0 s1 s2 s3 s4 s5 s6 s7 s8 s9 dt hk j5 g0 g1 g2 g3 lm
 go_loopw [37] (fun i wr=>∃ j:Nat,j≤S.n∧i=.int .i64 (j:Int)∧FAt T1 w1.heap.size j w1 wr) (fun i _=>S.n-(intOf i).toNat)
 case atStart=>exact⟨0,by omega,rfl,n5⟩
 case round =>
  clear n5;obtain⟨j,hj,rfl,B⟩:=hrel
  by_cases hjl:j<S.n
  · have nb:(j:Int)<(S.n:Int):=by omega
    go_wp2_with fail;refine (aH 1 _ (by decide) (by decide)).mono ?_;rintro e w4 ⟨v1,rfl,l7,b4⟩;obtain⟨zz,rfl,hz,q9⟩:=l7.frd;clear l7;obtain⟨u0,u1,u2,w5,t0,t1,t2,f0,f1,f2,e5,lr,cl⟩:=(B.below b4).put (by rw[bg.out];exact hjl) (Dt _) hz;have U:=Dj (cl (by rw[←h8.out,DL,if_pos hjl,q9.out];rfl));clear cl B hz lr;go_wp2;go_roundw
    case rel=>exact⟨j+1,by omega,by go_num,U.out⟩
    case measure=>simp[intOf];omega
  · obtain rfl:j=S.n:=by omega
    have nr:decide ((S.n:Int)<(S.n:Int))=false:=Du (by omega);rw[show FAt T1 w1.heap.size S.n w1 wr=FAt T1 w1.heap.size T1.length w1 wr by rw[bg.out]] at B;have o1:=B.bel;obtain⟨bx,h1,h2,h3,h4⟩:=B.done;have mp:bx.length=S.n:=h2.trans bg.out;have F:=o1;have gr:FL wr (some ⟨w1.heap.size,0,none⟩) S.n bx:=h1.fl h3 (by omega) |> fun hh=>by rw[←mp];exact hh
    have f4:=Dj (show Nm[0]?=some (RwD.qs ⟨some ⟨w1.heap.size,0,none⟩,S.n,bx⟩) by
     rw[←O.out]
     show some (List.replicate S.n 1)=some (bx.map FrD.q)
     rw[h4.out,h8.out])
    obtain⟨w6,rb,b6,l6,B6⟩:=ag wr #[.slice (some ⟨w1.heap.size,0,none⟩) S.n S.n] 22;have bc:=Di F b6
    have ng:MtAt Nm w1 1 (.slice (some ⟨wr.heap.size,0,none⟩) 1 1) w6:=MtAt.one (r:=⟨some ⟨w1.heap.size,0,none⟩,S.n,bx⟩) (by
     show Blk w6 wr.heap.size _ #[.slice (some ⟨w1.heap.size,0,none⟩) bx.length S.n]
     rw[mp];exact B6) F.size (gr.below b6) f4.out bc
    have m3:=f6.below bc;obtain⟨s0,s1,s2,s3,s4,s5,s6,s7,s8,s9,dt,hk,j5⟩:=m3.b.cells;obtain⟨AI,cI,dr,-⟩:=h.act.il;rw[dr] at dt
    have td:s.ia.length≤cI∧cI≤9223372036854775807:=by
     obtain⟨ok,od,e2,mt⟩:=h.act.il;rw[dr] at e2;cases e2;exact⟨mt.1,mt.2.1⟩
    have l8:=Dj dr;clear h1 h3 gr B dr m3;go_wp2;clear s0 s1 s2 s3 s4 s5 s6 s7 s8 s9 dt hk j5
    go_loopw [8,52] (fun v i wr=>∃ j:Nat,j≤s.ia.length∧i=.int .i64 (j:Int)∧MtAt Nm w1 (j+1) v wr) (fun _ i _=>s.ia.length-(intOf i).toNat)
    case atStart=>exact⟨0,by omega,rfl,ng⟩
    case round =>
     clear ng B6 bc F;obtain⟨j,hj,rfl,B⟩:=hrel;have F:=B.bel
     by_cases hjl:j<s.ia.length
     · have nb:(j:Int)<(s.ia.length:Int):=by omega
       have hS:=f6.below F;obtain⟨ok,od,e2,hI⟩:=hS.act.il;rw[l8.out] at e2
       cases e2
       obtain⟨aI,pt,r8,o2⟩:=hI.2.2 j _ (Dl hjl);obtain⟨x,md⟩:∃ x,s.ia[j]=x:=⟨_,rfl⟩;have hx:=Dj md;clear md;rw[hx.out] at o2;have pn:x<S.cs.length:=by rw[←hx.out];exact hA.out _ (Dy hjl)
       have t4:(x:Int)<(S.cs.length:Int):=by omega
       obtain⟨s0,s1,s2,-⟩:=hS.b.cells;obtain⟨aC,dC,n7,r6,q0,q1,q2,q3,fz,ml,l0⟩:=hS.b.all.at pn;rw[hSA] at n7
       cases n7
       rw[hSA] at s2;rw[pt]
       have hq:=Dj (show Nm[j+1]?=some dC.r.qs by
        rw[←O.out]
        show (s.ia.map (nrm (S.cs.map CoD.con)))[j]?=_
        rw[Dq,Dl hjl,hx.out]
        show some (nrm (S.cs.map CoD.con) x)=_
        rw[fK (c:=dC.con) (by rw[Dq,l0.out];rfl)];rfl)
       obtain⟨os,ho,k3,k2,I⟩:=B.app (r:=dC.r) (by omega) hq.out fz;clear hS hI fz ml B
       go_wp2_with (at_builtin;refine dD rfl Tryz.underlying56 rfl _ _ rfl _ _ os rfl ho ⟨wr.heap.size,0,none⟩ 1 dC.r rfl (eO wr dC.r) k3 k2 ?_;intro v6 w7 ch cq)
       have U:=I.out v6 w7 ch cq;clear I ho cq ch;go_wp2;go_roundw
       case rel=>exact⟨j+1,by omega,by go_num,U⟩
       case measure=>simp[intOf];omega
     · obtain rfl:j=s.ia.length:=by omega
       have nr:decide ((s.ia.length:Int)<(s.ia.length:Int))=false:=Du (by omega);obtain⟨NA,nc,m2,rfl,b9,fb⟩:=B.done (by rw[g.out,←hp.out]);have dx:m2.length=p:=by rw[←g.out,←fb.out];simp[bh]
       have V:=Dj dx;rw[dx];obtain⟨wN,qd⟩:∃ wN,wN=wr:=⟨_,rfl⟩;subst qd;have cy:=Dj F;have ns:=b9.len;rw[dx] at ns;obtain⟨G,hG⟩:∃ G,Hid (eI Nm=G):=⟨_,rfl⟩;obtain⟨rt,dp⟩:∃ rt,Hid (eK Nm v=rt):=⟨_,rfl⟩;have m5:=Dj (show G.length=p by rw[←hG.out,bC,g.out]);have n3:=Dj (show rt.length=p by rw[←dp.out,dI,g.out]);have R:GrAt G rt wN 0 0 (.slice none 0 0) (.slice none 0 0) wN:=GrAt.start (DY _ _);clear B dx F;go_wp2
       go_loopw [11,12,70] (fun vg vr i wr=>∃ j:Nat,j≤p∧i=.int .i64 (j:Int)∧GrAt G rt wN j j vg vr wr) (fun _ _ i _=>p-(intOf i).toNat)
       case atStart=>exact⟨0,by omega,rfl,R⟩
       case round =>
        clear R;obtain⟨j,hj,rfl,R⟩:=hrel;have b0:=R.bel
        by_cases hjl:j<p
        · have nb:(j:Int)<(p:Int):=by omega
          obtain⟨aN,rj,dq,l3,qk,ld,gx⟩:=(b9.below b0).at (k:=j) (by rw[V.out];exact hjl);rw[dq];have dm:=Dj (show Nm[j]?=some rj.qs by rw[←fb.out];unfold bh;rw[Dq,gx.out];rfl);have sv:=Dj (show j<Nm.length by rw[g.out];exact hjl);have g4:=Dj (show ∀ d∈rj.ds,Fits 1 d.q from QFits.fr0 (fun q hq=>(dk.out rj.qs (Dm dm.out) q hq).fits (by decide)));have kv:=Dj (show rj.ds.length=S.n by have h1:=b5.out rj.qs (Dm dm.out);rw[Eg] at h1;exact h1);have q5:=Dj (show ∀ d∈d9.r.ds,Fits 1 d.q from QFits.fr0 (fun q hq=>by rw[f9.out] at hq;exact (nx.out q hq).fits (by decide)));have nf:=Dj (show 1+(rj.ds.length+1)*(1+1+1)<400000000 by rw[kv.out];omega);obtain⟨bs,bb⟩:∃ T,Hid (Nm.map (cD rj.qs)=T):=⟨_,rfl⟩;have mb:=Dj (show bs.length=p by rw[←bb.out,Dr,g.out]);obtain⟨wo,ny⟩:∃ wo,wo=wr:=⟨_,rfl⟩;subst ny;have b3:LsAt bs wo 0 (.slice none 0 0) wo:=LsAt.nil _ _;go_wp2
          go_loopw [15,76] (fun v i wr=>∃ l:Nat,l≤p∧i=.int .i64 (l:Int)∧LsAt bs wo l v wr) (fun _ i _=>p-(intOf i).toNat)
          case atStart=>exact⟨0,by omega,rfl,b3⟩
          case round =>
           clear b3;obtain⟨l,hl,rfl,b3⟩:=hrel;have hs:=b3.bel;have ls:=Di b0 hs
           by_cases hll:l<p
           · have qg:(l:Int)<(p:Int):=by omega
             obtain⟨qx,rl,ft,p4,r5,g9,ms⟩:=(b9.below ls).at (k:=l) (by rw[V.out];exact hll);have eN:qx=aN:=by rw[dq] at ft;injection ft with e;exact e.symm
             subst eN;have d5:=Dj (show Nm[l]?=some rl.qs by rw[←fb.out];unfold bh;rw[Dq,ms.out];rfl);have n2:=Dj (show ∀ d∈rl.ds,Fits 1 d.q from QFits.fr0 (fun q hq=>(dk.out rl.qs (Dm d5.out) q hq).fits (by decide)));have qb:=Dj (show aB (gP rj.ds rl.ds)=cD rj.qs rl.qs from iL _ _);have j1:=gW (K:=1) (ld.below hs) g9 g4.out n2.out nf.out;rw[qb.out] at j1;go_wp2_with fail;refine j1.mono ?_;rintro e w4 ⟨v4,rfl,q6,b4⟩;clear j1;obtain⟨n4,A4,o3,p3,B4,qc,nz,rfl,lq,nd,ln⟩:=q6;have cr:=Dj (show bs[l]?=some (cD rj.qs rl.qs) by rw[←bb.out,Dq,d5.out];rfl);obtain⟨os,ho,k3,k2,I⟩:=(b3.below b4).app (by omega) cr.out lq nd ln;clear lq nd ln b3 g9
             go_wp2_with (at_builtin;refine cQ rfl rfl _ _ rfl _ _ os rfl ho ⟨w4.heap.size,0,none⟩ 1 ⟨n4,A4,o3,p3,B4,qc,nz⟩ rfl (World.news_of_block (heap_alloc_new w4 _)) k3 k2 ?_;intro v6 w6 ch cq)
             have U:=I.out v6 w6 ch cq;clear I ho cq ch;go_wp2;go_roundw
             case rel=>exact⟨l+1,by omega,by go_num,U⟩
             case measure=>simp[intOf];omega
           · obtain rfl:l=p:=by omega
             have nn:decide ((l:Int)<(l:Int))=false:=Du (by omega);have gm:=R.own;obtain⟨RA,rc,d3,rfl,Z,f3,hg⟩:=b3.done2 mb.out.symm
             have o6:=Dj (show G[j]?=some (RwD.qs ⟨RA,rc,d3⟩) by
              show _=some (d3.map FrD.q)
              rw[f3.out,←bb.out,←hG.out];unfold eI;rw[Dq,dm.out];rfl)
             obtain⟨v6,w6,-,g5,d4⟩:=(R.below hs).appM (r:=⟨RA,rc,d3⟩) (by omega) o6.out Z (fun a e=>⟨fun h9=>by have rd:=gm _ h9;have t3:=(hg a e).1;omega,(hg a e).2⟩);have h5:=d4.bel;clear R b3 Z gm hg
             go_wp2_with (at_builtin;refine bQ (T:=129) rfl rfl (.tmp 87) (.tmp 89) rfl rfl rfl g5 ?_)
             clear g5;obtain⟨st,k0,m0,-,-,c3,k6⟩:=(b9.below h5).at (k:=j) (by rw[V.out];exact hjl);have e7:k0=rj:=by have h1:=k6.out;rw[gx.out] at h1;injection h1 with h1;exact h1.symm
             subst e7;have l2:=Di cy.out h5;have c4:=gW (K:=1) c3 (c5.below l2) g4.out q5.out nf.out;rw[show aB (gP k0.ds d9.r.ds)=cD k0.qs v by rw[iL,f9.out];rfl] at c4;go_wp2_with fail;refine c4.mono ?_;rintro e w8 ⟨v8,rfl,lz,b8⟩;obtain⟨d8,rfl,my,n0⟩:=lz.frd;clear c4 lz c3 m0;have o7:=Dj (show rt[j]?=some d8.q by rw[←dp.out,n0.out];unfold eK;rw[Dq,dm.out];rfl);obtain⟨v9,w9,c8,n1⟩:=(d4.below b8).appQ (by omega) o7.out my;clear d4 my
             go_wp2_with (at_builtin;refine bQ (T:=22) rfl rfl (.tmp 91) (.tmp 95) rfl rfl rfl c8 ?_)
             clear c8;go_wp2;go_roundw
             case rel=>exact⟨j+1,by omega,by go_num,n1⟩
             case measure=>simp[intOf];omega
        · obtain rfl:j=p:=by omega
          have nn:decide ((j:Int)<(j:Int))=false:=Du (by omega);obtain⟨GA,gc,c9,RA,rc,d3,rfl,gk,cx,rfl,Z,f3⟩:=R.done m5.out.symm n3.out.symm;have oj:=Dj (show c9.length=j by rw[←m5.out,←cx.out];simp[bh]);have bd:=Dj (fJ (er Nm) (by rw[bC,g.out,←hp.out];omega))
          have k4:=tG (K:=1) gk Z (by rw[cx.out,←hG.out];exact p5.out) (by rw[f3.out,←dp.out];exact n6.out) (by
           rw[cx.out,←hG.out,bd.out.2,g.out];have h1:=iD 1 mm;rw[gK8] at h1;omega) (by rw[oj.out];omega) (by rw[cx.out,←hG.out,bd.out.2,g.out];omega)
          rw[show dH (bh c9) (d3.map FrD.q)=(r,0) by
           rw[cx.out,f3.out,←hG.out,←dp.out];unfold dH;rw[if_pos ⟨bd.out.1,by rw[dI,bC]⟩,j2.out]] at k4
          have b7:=Di cy.out b0;clear gk Z R;go_wp2_with fail;refine k4.mono ?_;rintro e Y ⟨n9,cR,dR,rfl,bn,cr,bz,kg⟩;clear k4
          have bq:dR.length=j:=by
           have h9:dR.map FrD.q=r:=cr.out;rw[←ps.out,←h9,Dr]
          rw[bq];have C:=Di b7 bz;have cg:=b9.below ((Di b0 bz));obtain⟨wE,tf,bE,lE,BE⟩:=ag Y #[] 28;have j0:=Di C bE;obtain⟨gz,cz,wZ,m4,qy,m9,n8,gv,bZ⟩:=eD BE (c5.below j0) (by rw[j4.out];omega);have hm:=Dj (show Y.heap.size≤gz from gv);have mz:Below Y.heap.size Y wZ:=Di bE bZ;have mg:=cg.below bE;clear qy gv
          go_wp2_with (at_builtin;refine bQ (T:=22) rfl rfl (.tmp 104) (.tmp 105) rfl rfl rfl m4 ?_)
          clear m4;have fx:=Dj kg;have op:=Dj (show ∀ i,i<S.n→gt (d9.r.ds.map FrD.q) i=gt (qJ Nm r v 0) i from fun i _=>by rw[f9.out];rfl);clear cg mg kg BE;rw[j4.out];go_wp2
          go_loopw [109] (fun i wr=>∃ q:Nat,q≤j∧i=.int .i64 (q:Int)∧∃ ds,XO wr gz cz ds∧AllFV wr ds∧Hid (ds.length=S.n)∧Hid (∀ i,i<S.n→gt (ds.map FrD.q) i=gt (qJ Nm r v q) i)∧Below Y.heap.size Y wr) (fun i _=>j-(intOf i).toNat)
          case atStart=>exact⟨0,by omega,rfl,_,m9,n8,j4.out,op.out,mz⟩
          case round =>
           clear m9 n8 mz;obtain⟨q,hq,rfl,ds,hX,hV,b2,bf,hb⟩:=hrel
           by_cases d5:q<j
           · have sf:(q:Int)<(j:Int):=by omega
             have db:=((Di b0 bz)).trans (hb.mono (Ds b0.size bz.size));obtain⟨aN,nq,dq,l3,qk,nv,g8⟩:=(b9.below db).at (k:=q) (by rw[V.out];exact d5);rw[dq];have k5:=Dj (show Nm[q]?=some nq.qs by rw[←fb.out];unfold bh;rw[Dq,g8.out];rfl);have dh:=Dj (show nq.ds.length=S.n by have h1:=b5.out nq.qs (Dm k5.out);rw[Eg] at h1;exact h1);obtain⟨rj,E⟩:∃ rj,Hid (dR[q]?=some rj):=⟨_,Dl (by omega)⟩;have gp:=Dj (show gt r q=rj.q by rw[←cr.out];exact iI E.out)
             obtain⟨aR,fr⟩:∃ aR,Hid (n9=some aR):=by
              obtain⟨a2,d2,e2,-⟩:=bn.at (k:=q) (by omega);exact⟨a2,e2⟩
             have gq:0<nq.ds.length→∃ aA,nq.a=some aA:=fun h0=>by
              obtain⟨a2,d2,e2,-⟩:=nv.at (k:=0) h0;exact⟨a2,e2⟩
             have k1:=Dj gq;obtain⟨wi,q8⟩:∃ wi,wi=wr:=⟨_,rfl⟩;subst q8;have fs:=Dj (show ∀ i,i<S.n→gt (ds.map FrD.q) i=if i<0 then gt (qJ Nm r v (q+1)) i else gt (qJ Nm r v q) i from fun i hi=>by rw[if_neg (by omega)];exact bf.out i hi);clear gq;go_wp2
             go_loopw [116] (fun i wr=>∃ l:Nat,l≤S.n∧i=.int .i64 (l:Int)∧∃ ds,XO wr gz cz ds∧AllFV wr ds∧Hid (ds.length=S.n)∧Hid (∀ i,i<S.n→gt (ds.map FrD.q) i=if i<l then gt (qJ Nm r v (q+1)) i else gt (qJ Nm r v q) i)∧Below Y.heap.size Y wr) (fun i _=>S.n-(intOf i).toNat)
             case atStart=>exact⟨0,by omega,rfl,ds,hX,hV,b2.out,fs.out,hb⟩
             case round =>
              clear hX hV hb b2 bf fs db;obtain⟨l,hl,rfl,ds,f,N,b2,bf,d7⟩:=hrel
              by_cases hll:l<S.n
              · have qg:(l:Int)<(S.n:Int):=by omega
                have t6:(l:Int)<(nq.ds.length:Int):=by have:=dh.out;omega
                obtain⟨aA,eA⟩:=k1.out (by have:=dh.out;omega);rw[eA];rw[fr.out];have db:=((Di b0 bz)).trans (d7.mono (Ds b0.size bz.size));obtain⟨w4,p6⟩:∃ w4,w4=wr:=⟨_,rfl⟩;subst p6;have t:FL w4 (some aR) cR dR:=by rw[←fr.out];exact bn.below d7
                obtain⟨sp,bv,-,-,-,cv,ht⟩:=(b9.below db).at (k:=q) (by rw[V.out];exact d5);have e9:bv=nq:=by have h1:=ht.out;rw[g8.out] at h1;injection h1 with h1;exact h1.symm
                subst e9;have o:FL w4 (some aA) bv.c bv.ds:=by rw[←eA];exact cv
                have j3:=Dj (show l<ds.length by rw[b2.out];exact hll);obtain⟨xk,H⟩:∃ xk,Hid (ds[l]?=some xk):=⟨_,Dl j3.out⟩;obtain⟨nl,D⟩:∃ nl,Hid (bv.ds[l]?=some nl):=⟨_,Dl (by rw[dh.out];exact hll)⟩;have m6:=Dj (show xk.q=gt (qJ Nm r v q) l by rw[←iI H.out,bf.out l hll,if_neg (by omega)])
                have qq:=Dj (show Fits 699067 xk.q by
                 rw[m6.out];exact yf b5.out d1.out nx.out (fun j i hj=>by rw[←mC hj];exact jS (dk.out _ (Dy hj)) i) lv.out (by rw[g.out];omega) (by rw[g.out];exact mm) hll)
                have l5:=Dj (show Fits 87381 rj.q by rw[←gp.out];exact cX (by decide) lv.out q);have gb:=Dj (show gt bv.qs l=nl.q from iI D.out);have kk:=Dj (show Fits 1 nl.q by rw[←gb.out];exact (jS (dk.out _ (Dm k5.out)) l).fits (by decide))
                have cd:∀ i,i<S.n→∀ y:FrD,y.q=xk.q-rj.q*nl.q→gt ((ds.set l y).map FrD.q) i=if i<l+1 then gt (qJ Nm r v (q+1)) i else gt (qJ Nm r v q) i:=fun i hi y hy=>by
                 rw[qS j3.out]
                 by_cases e:i=l
                 · subst e;rw[if_pos rfl,if_pos (by omega),hy,m6.out]
                   show _=gt (oZ (qJ Nm r v q) (r.getD q 0) (Nm.getD q [])) i
                   rw[qi (kG b5.out d1.out q (by rw[g.out];omega)).1 (ei b5.out (by rw[g.out];omega)) hi];have e1:Nm.getD q []=bv.qs:=by rw[Dk,k5.out];rfl
                   rw[e1,gb.out,show r.getD q 0=rj.q from gp.out]
                 · rw[if_neg e,bf.out i hi]
                   by_cases e2:i<l
                   · rw[if_pos e2,if_pos (by omega)]
                   · rw[if_neg e2,if_neg (by omega)]
                replace cd:=Dj cd;clear db cv;go_upto_region 36 with fail;have bT:=DY w4.heap.size w4;have c2:Below w4.heap.size w4 w4.drew:=(DY _ _).drew;replace f:=f.below c2;replace N:=N.below c2;replace t:=t.below c2;replace o:=o.below c2;replace bT:=Di bT c2;clear c2;go_wp2_with fail;refine DZ ?_;refine aw (J:=[17]) (S:=fun w'=>w'.cell? ⟨gz,l*3,none⟩=some (.bool xk.neg)∧w'.cell? ⟨gz,l*3+1,none⟩=some (.slice xk.a xk.la.length xk.ca)∧w'.cell? ⟨gz,l*3+2,none⟩=some (.slice xk.b xk.lb.length xk.cb)∧w'.cell? (aR.add (q*3))=some (.bool rj.neg)∧w'.cell? ⟨(aR.add (q*3)).block,(aR.add (q*3)).off+1,none⟩=some (.slice rj.a rj.la.length rj.ca)∧w'.cell? ⟨(aR.add (q*3)).block,(aR.add (q*3)).off+2,none⟩=some (.slice rj.b rj.lb.length rj.cb)∧w'.cell? (aA.add (l*3))=some (.bool nl.neg)∧w'.cell? ⟨(aA.add (l*3)).block,(aA.add (l*3)).off+1,none⟩=some (.slice nl.a nl.la.length nl.ca)∧w'.cell? ⟨(aA.add (l*3)).block,(aA.add (l*3)).off+2,none⟩=some (.slice nl.b nl.lb.length nl.cb)) (by kernel_rfl) (⟨(f.cells H.out).1,(f.cells H.out).2.1,(f.cells H.out).2.2,(t.cl3 E.out).1,(t.cl3 E.out).2.1,(t.cl3 E.out).2.2,(o.cl3 D.out).1,(o.cl3 D.out).2.1,(o.cl3 D.out).2.2⟩) (fun m=>?_);refine kB 0 1 m ?_
                refine mN 2 3 4 5 6 7 8 9 m ?_;refine py 10 11 12 13 m ?_;refine dg 14 rfl fun K hK=>?_;go_simp;have L:=fo (t.fv _ (Dm E.out)) (o.fv _ (Dm D.out)) l5.out kk.out (by decide);go_at_call 34;refine (L).mono ?_;rintro e u1 ⟨vm,rfl,lx,c7⟩;clear L;replace f:=f.below c7;replace N:=N.below c7;replace t:=t.below c7;replace o:=o.below c7;replace bT:=Di bT c7;go_wp2_with fail;refine hK.out _ _ (⟨(f.cells H.out).1,(f.cells H.out).2.1,(f.cells H.out).2.2,(t.cl3 E.out).1,(t.cl3 E.out).2.1,(t.cl3 E.out).2.2,(o.cl3 D.out).1,(o.cl3 D.out).2.1,(o.cl3 D.out).2.2⟩) (fun m=>?_);clear hK K;(try simp only[aq]);refine dg 15 rfl fun K hK=>?_;go_simp;have L:=bI (N _ (Dm H.out)) lx qq.out (l5.out.mul kk.out) (by decide);go_at_call 32;refine (L).mono ?_;rintro e u2 ⟨va,rfl,no,d6⟩;clear L;replace f:=f.below d6;replace N:=N.below d6;replace t:=t.below d6;replace o:=o.below d6;replace bT:=Di bT d6;obtain⟨y,rfl,hy,ob⟩:=no.frd
                clear no;obtain⟨w9,f0,f1,f2,e9,q4,o9⟩:=f.store j3.out y;have qf:=XO.setFV (k:=l) f N hy o9;go_wp2_with fail;refine hK.out _ _ (⟨(f.cells H.out).1,(f.cells H.out).2.1,(f.cells H.out).2.2,(t.cl3 E.out).1,(t.cl3 E.out).2.1,(t.cl3 E.out).2.2,(o.cl3 D.out).1,(o.cl3 D.out).2.1,(o.cl3 D.out).2.2⟩) (fun m=>?_);clear hK K;(try simp only[aq]);refine kr 16 rfl m ?_;refine aj (rs:=[17]) (by kernel_rfl) (by simp) ?_;refine Ee rfl (by decide) (fun K hK=>?_) Ed;go_simp;refine hK.out _ _ ?_;clear hK K;(try clear m);(try simp only[aq]);refine au (by kernel_rfl) ?_ _;refine D1 ?_;(try go_simp);(try clear m);have o8:=o9.to_below ((Di d7 bT)) hm.out (Ds d7.size bT.size);clear f N t o lx hy o9;go_wp2;go_roundw
                case rel =>
                 refine⟨l+1,by omega,by go_num,_,q4,qf,?_,?_,o8⟩
                 · show (ds.set l y).length=_
                   rw[DH];exact b2.out
                 · intro i hi;exact (cd i hi y ob.out)
                case measure=>simp[intOf];omega
              · obtain rfl:l=S.n:=by omega
                have m8:decide ((S.n:Int)<(S.n:Int))=false:=Du (by omega);have mc:=Dj (show ∀ i,i<S.n→gt (ds.map FrD.q) i=gt (qJ Nm r v (q+1)) i from fun i hi=>by rw[bf.out i hi,if_pos hi]);go_wp2;go_roundw
                case rel=>exact⟨q+1,by omega,by go_num,ds,f,N,b2.out,mc.out,d7⟩
                case measure=>simp[intOf];omega
           · obtain rfl:q=j:=by omega
             have m8:decide ((q:Int)<(q:Int))=false:=Du (by omega)
             obtain⟨d0,dT,pb⟩:∃ d0 dT,dR=d0::dT:=by
              cases dR with
              | nil=>have:=hp.out;simp at bq;omega
              | cons d0 dT=>exact⟨d0,dT,rfl⟩
             subst pb
             obtain⟨aR,fr⟩:∃ aR,n9=some aR:=by
              obtain⟨a2,d2,e2,-⟩:=bn.at (k:=0) (by simp);exact⟨a2,e2⟩
             subst fr;have fm:=bn.below hb;obtain⟨y0,y1,y2⟩:=fm.cl3 (k:=0) (d:=d0) rfl;rw[show aR.add (0*3)=aR from by cases aR;rfl] at y0 y1 y2;have sr:0<q:=by have:=hp.out;omega
             have mf:=Di C hb;have oz:=fm.len;rw[bq] at oz;have js:Blk wr w.heap.size 28 #[.bool false,.slice none 0 0,.slice none 0 0]:=Ea B1 mf;obtain⟨w9,p0,p1,p2,r0,r1,r2,e9,h9,o9⟩:=aF js d0;obtain⟨t0,t1,t2⟩:=h9.cells;have sq:(0:Int)<(q:Int):=by have:=hp.out;omega
             have t5:(1:Int)≤(q:Int):=by omega
             have l4:Below w.heap.size w wr:=Di b1 mf;have h7:Below w.heap.size w w9.drew:=(o9.to_below l4 (Dt _) l4.size).drew;have kf:FL w9.drew (some ⟨gz,0,none⟩) cz ds:=((hX.only o9 (by have:=hm.out;have:=C.size;omega)).fl (fun x hx=>(hV x hx).only_blk js (ar _ _ _ _ _ _ _) o9)).below (DY _ _).drew;have fq:FL w9.drew (some aR) cR (d0::dT):=(fm.far (fun a e=>by cases e;have:=fx.out aR rfl;have:=b7.size;omega) js (ar _ _ _ _ _ _ _) o9).below (DY _ _).drew
             have g7:=Dj (show ds.map FrD.q=z∧d0.q=lev∧dT.map FrD.q=rates by
              obtain⟨e1,e2,e3⟩:=oo.out;have h9:(d0::dT).map FrD.q=r:=cr.out;refine⟨?_,by rw[←e2,←h9];rfl,by rw[←e3,←h9];rfl⟩;rw[←e1];refine fY (by rw[Dr,b2.out,(kG b5.out d1.out q (by rw[g.out];exact Dt _)).1]) fun i hi=>bf.out i (by rw[(kG b5.out d1.out q (by rw[g.out];exact Dt _)).1] at hi;exact hi))
             have bo:ds.length=S.n:=b2.out;have f5:dT.length=q-1:=by simp at bq;omega
             have g6:w.heap.size≤gz:=by have:=hm.out;have:=C.size;have:=b1.size;omega
             have h6:w.heap.size≤aR.block:=by have:=fx.out aR rfl;have:=b7.size;have:=b1.size;omega
             replace bo:=Dj bo;replace f5:=Dj f5;clear hX hV fm
             have bm:∀ (X:Value),X=.slice (some (aR.add 3)) (q-1) (cR-1)∨(cR=1∧∃ A,X=.slice A (q-1) (cR-1)∧∀ a,A=some a→w.heap.size≤a.block)→Al z lev rates w (.returned (.tuple #[.slice (some ⟨gz,0,none⟩) S.n cz,.agg #[.bool d0.neg,.slice d0.a d0.la.length d0.ca,.slice d0.b d0.lb.length d0.cb],X])) w9.drew:=fun X hX=>by
              rcases hX with rfl | ⟨e1,A,rfl,hA⟩
              · exact⟨_,cz,ds,_,cR-1,dT,d0,by rw[bo.out,f5.out],kf,fq.drop1,fq.fv d0 DN,g7.out,fun a e=>by cases e;exact g6,fun a e=>by cases e;exact h6,h7⟩
              · have f4:q=1:=by omega
                have o4:dT=[]:=Dz (by rw[f5.out,f4]);subst o4;exact⟨_,cz,ds,A,cR-1,[],d0,by rw[bo.out,f4];rfl,kf,⟨⟨by simp,by omega,fun j hj=>by simp at hj⟩,fun d hd=>by simp at hd⟩,fq.fv d0 DN,g7.out,fun a e=>by cases e;exact g6,hA,h7⟩
             replace bm:=Dj bm;clear kf fq
             by_cases hc1:cR=1
             · subst hc1;go_wp2
               go_region
               go_wp2;refine D4 (v:=.tuple #[.slice (some ⟨gz,0,none⟩) S.n cz,.agg #[.bool d0.neg,.slice d0.a d0.la.length d0.ca,.slice d0.b d0.lb.length d0.cb],_]) (by simp[results,Tryz.results73,go_sem,show w9.drew.cell? ⟨w.heap.size,0,none⟩=_ from t0,show w9.drew.cell? ⟨w.heap.size,1,none⟩=_ from t1,show w9.drew.cell? ⟨w.heap.size,2,none⟩=_ from t2];rfl) rfl ?_;exact bm.out _ (.inr ⟨by trivial,some aR,by rw[show q=1 by omega],fun a e=>by cases e;exact h6⟩)
             · go_wp2
               go_region
               all_goals go_wp2
               refine D4 (v:=.tuple #[.slice (some ⟨gz,0,none⟩) S.n cz,.agg #[.bool d0.neg,.slice d0.a d0.la.length d0.ca,.slice d0.b d0.lb.length d0.cb],_]) (by simp[results,Tryz.results73,go_sem,show w9.drew.cell? ⟨w.heap.size,0,none⟩=_ from t0,show w9.drew.cell? ⟨w.heap.size,1,none⟩=_ from t1,show w9.drew.cell? ⟨w.heap.size,2,none⟩=_ from t2];rfl) rfl ?_;exact bm.out _ (.inl rfl)
theorem ArrQ.xo {w:World}{g:Nat}{ds:List FrD}(h:ArrQ w g ds) (hm:ds.length≤1000000000000):XO w g ds.length ds :=
 ⟨_,h,ArrQ.noDig ds,Dt _,by omega,by
  rw[Dp];rw[ck];exact Dt _,by
  rw[List.size_toArray,ck];exact Dt _⟩
theorem XO.seg {w:World}{g c lo n k:Nat}{ds:List FrD}(h:XO w g c ds) (hv:AllFV w ds) (hlo:lo+n≤ds.length) (hn:n≤k) (hk:k≤9223372036854775807):FL w (some ⟨g,lo*3,none⟩) k ((ds.drop lo).take n):=by
 obtain⟨b,h1,h2,h3,h4,h5,h6⟩:=h;have hl:((ds.drop lo).take n).length=n:=by rw[DB,DC];omega
 refine⟨⟨by omega,hk,fun j hj=>⟨_,rfl,Blk.lt h1,fun i u hu=>?_⟩⟩,fun d hd=>hv d (DK (DJ hd))⟩
 have e:((ds.drop lo).take n)[j]=ds[lo+j]'(by omega):=by
  rw[List.getElem_take,List.getElem_drop]
 rw[e] at hu;have:=XO.cellOf h1 h5 (k:=lo+j) (Dl (by omega)) hu;rw[yc,←show (lo+j)*3+i=lo*3+(j*3+i) by omega];exact this
theorem FL.none0 (w:World) (A:Option Addr) (c:Nat) (hc:c≤9223372036854775807):FL w A c []:=⟨⟨by simp,hc,fun j hj=>by simp at hj⟩,fun d hd=>by simp at hd⟩
theorem fS {w:World}{g:Nat}(h:Blk w g 46 #[.slice none 0 0,.slice none 0 0,.slice none 0 0,.slice none 0 0,.bool false,.slice none 0 0,.slice none 0 0]) (x:PtD):∃ w9,w.cell? ⟨g,0,none⟩=some (.slice none 0 0)∧w.cell? ⟨g,1,none⟩=some (.slice none 0 0)∧w.cell? ⟨g,2,none⟩=some (.slice none 0 0)∧w.cell? ⟨g,3,none⟩=some (.slice none 0 0)∧w.cell? ⟨g,4,none⟩=some (.bool false)∧w.cell? ⟨g,5,none⟩=some (.slice none 0 0)∧w.cell? ⟨g,6,none⟩=some (.slice none 0 0)∧w.frozen? ⟨g,0,none⟩=false∧w.frozen? ⟨g,1,none⟩=false∧w.frozen? ⟨g,2,none⟩=false∧w.frozen? ⟨g,3,none⟩=false∧w.frozen? ⟨g,4,none⟩=false∧w.frozen? ⟨g,5,none⟩=false∧w.frozen? ⟨g,6,none⟩=false ∧
 (((((((w.setCell ⟨g,0,none⟩ (.slice x.pay.a x.pay.ds.length x.pay.c)).setCell ⟨g,1,none⟩ (.slice x.mults.a x.mults.ds.length x.mults.c)).setCell ⟨g,2,none⟩ (.slice x.low.a x.low.ds.length x.low.c)).setCell ⟨g,3,none⟩ (.slice x.high.a x.high.ds.length x.high.c)).setCell ⟨g,4,none⟩ (.bool x.lev.neg)).setCell ⟨g,5,none⟩ (.slice x.lev.a x.lev.la.length x.lev.ca)).setCell ⟨g,6,none⟩ (.slice x.lev.b x.lev.lb.length x.lev.cb))=w9∧VarP w9 g x∧Only w w9 g:=by
 have b9:=((((((h.set 0 (.slice x.pay.a x.pay.ds.length x.pay.c)).set 1 (.slice x.mults.a x.mults.ds.length x.mults.c)).set 2 (.slice x.low.a x.low.ds.length x.low.c)).set 3 (.slice x.high.a x.high.ds.length x.high.c)).set 4 (.bool x.lev.neg)).set 5 (.slice x.lev.a x.lev.la.length x.lev.ca)).set 6 (.slice x.lev.b x.lev.lb.length x.lev.cb);have o9:=(((((((Eh w g).set 0 (.slice x.pay.a x.pay.ds.length x.pay.c)).set 1 (.slice x.mults.a x.mults.ds.length x.mults.c)).set 2 (.slice x.low.a x.low.ds.length x.low.c)).set 3 (.slice x.high.a x.high.ds.length x.high.c)).set 4 (.bool x.lev.neg)).set 5 (.slice x.lev.a x.lev.la.length x.lev.ca)).set 6 (.slice x.lev.b x.lev.lb.length x.lev.cb);exact⟨_,D9 h 0,D9 h 1,D9 h 2,D9 h 3,D9 h 4,D9 h 5,D9 h 6,Eb h 0,Eb h 1,Eb h 2,Eb h 3,Eb h 4,Eb h 5,Eb h 6,rfl,b9,o9⟩
theorem oP (x:PtD):NoDig #[.slice x.pay.a x.pay.ds.length x.pay.c,.slice x.mults.a x.mults.ds.length x.mults.c,.slice x.low.a x.low.ds.length x.low.c,.slice x.high.a x.high.ds.length x.high.c,.bool x.lev.neg,.slice x.lev.a x.lev.la.length x.lev.ca,.slice x.lev.b x.lev.lb.length x.lev.cb]:=NoDigL.noDig (l:=[.slice x.pay.a x.pay.ds.length x.pay.c,.slice x.mults.a x.mults.ds.length x.mults.c,.slice x.low.a x.low.ds.length x.low.c,.slice x.high.a x.high.ds.length x.high.c,.bool x.lev.neg,.slice x.lev.a x.lev.la.length x.lev.ca,.slice x.lev.b x.lev.lb.length x.lev.cb]) (fun u hu y e=>by
 subst e
 simp only[List.mem_cons,List.not_mem_nil,or_false] at hu
 rcases hu with h | h | h | h | h | h | h <;> cases h) rfl
theorem dv:NoDig #[Value.slice none 0 0,.slice none 0 0,.slice none 0 0,.slice none 0 0,.bool false,.slice none 0 0,.slice none 0 0]:=NoDigL.noDig (l:=[Value.slice none 0 0,.slice none 0 0,.slice none 0 0,.slice none 0 0,.bool false,.slice none 0 0,.slice none 0 0]) (fun u hu y e=>by
 subst e
 simp only[List.mem_cons,List.not_mem_nil,or_false] at hu
 rcases hu with h | h | h | h | h | h | h <;> cases h) rfl
theorem pv {K J:Nat}{l:List Rat}{p:Nat × Rat}(hK:0<K) (hl:QFits K l) (hp:Fits J p.2):QFits (K+J+1) (jz l p):=fun q hq=>by
 rcases List.mem_or_eq_of_mem_set hq with h | rfl
 · exact (hl q h).mono (by omega)
 · exact (hl.getD hK _).add hp
theorem se {n:Nat}{ps:List (Nat × Rat)}(h:∀ p∈ps,Fits KN p.2):∀ j,j≤ps.length→QFits (1+j*(KN+1)) (cJ n (ps.take j)):=by
 intro j
 induction j with
 | zero =>
  intro _ q hq
  have:q=0:=by
   have h1:cJ n (ps.take 0)=List.replicate n 0:=rfl;rw[h1] at hq;exact (List.mem_replicate.1 hq).2
  subst this;exact Fits.zero (by decide)
 | succ j ih =>
  intro hj;rw[ij (Dl (show j<ps.length by omega))];have h1:=pv (p:=ps[j]) (by omega) (ih (by omega)) (h _ (Dy _));have e:1+(j+1)*(KN+1)=1+j*(KN+1)+KN+1:=by rw[Nat.succ_mul];omega
  rw[e];exact h1
end Go.Proofs.YtjhkapjadfpimaaGreat
