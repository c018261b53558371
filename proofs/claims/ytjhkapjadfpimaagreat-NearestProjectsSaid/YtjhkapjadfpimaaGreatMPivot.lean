/- Contracts of functions, for the law. -/
import Derived.Test.YtjhkapjadfpimaaGreatMTrans
namespace Go.Proofs.YtjhkapjadfpimaaGreat
set_option linter.unusedVariables false
set_option linter.unusedSimpArgs false
open Go.RowKit Plain
attribute [local go_sem ↓] Go.wp_at_zero Go.wp_at_succ
set_option maxRecDepth 100000
set_option maxHeartbeats 40000000
theorem fw {v u:Value}{p q:Rat}{j k:Nat}{w:World}(hv:FV w v p) (hu:FV w u q) (hj:Fits j p) (hk:Fits k q) (hJ:j+k≤400000000) (hz:q≠0) :
 Calls Tryz.prog 45 #[v,u] w (tw (p / q) w):=by
 obtain⟨n1,A,ca,la,B,cb,lb,rfl,na,nb,iq⟩:=hv;obtain⟨n2,C,cc,lc,D,cd,ld,rfl,nc,nd,ir⟩:=hu;have hf:=El iq hj;have hg:=El ir hk;have h0:val lb*val lc≠0:=Nat.mul_ne_zero (QIs.den_ne iq) (fun e=>hz ((rf ir).1 ((QIs.natA ir).zero_iff.2 e)));have hq:=BV iq ir hz;obtain⟨r,hr⟩:∃ r,p / q=r:=⟨_,rfl⟩;rw[hr] at hq ⊢;have M:=Dj hq;clear iq ir hq hr;obtain⟨w0,bb,Z,n,b0⟩:=ag w #[.bool n1,.slice A la.length ca,.slice B lb.length cb] 28;obtain⟨w1,bc,F,E,I⟩:=ag w0 #[.bool n2,.slice C lc.length cc,.slice D ld.length cd] 28;obtain⟨w2,bd,l,b2,c⟩:=ag w1 #[.bool false,.slice none 0 0,.slice none 0 0] 28;have h:=(b0.keep F).keep l;have f:=I.keep l;have s:=Z.trans (F.mono (Nat.le_of_lt n));have d:=Di s l;have T:=na.below d;have L:=nb.below d;have V:=nc.below d;have R:=nd.below d;have x0:=h.f0;have x1:=h.f1;have x2:=h.f2;have y0:=f.f0;have y1:=f.f1;have y2:=f.f2;have z0:=c.f0;have z1:=c.f1;have z2:=c.f2;have b1:Blk3 w2 w1.heap.size 28:=c.b3;have z:Only w2 w2 w1.heap.size:=Eh _ _;have g:=ar false none 0 0 none 0 0;have N:w.heap.size<w1.heap.size:=by omega
 have hS:∀ w',Only w2 w' w1.heap.size→w'.cell? ⟨w.heap.size,0,none⟩=some (.bool n1)∧w'.cell? ⟨w.heap.size,1,none⟩=some (.slice A la.length ca)∧w'.cell? ⟨w.heap.size,2,none⟩=some (.slice B lb.length cb)∧w'.cell? ⟨w0.heap.size,0,none⟩=some (.bool n2)∧w'.cell? ⟨w0.heap.size,1,none⟩=some (.slice C lc.length cc)∧w'.cell? ⟨w0.heap.size,2,none⟩=some (.slice D ld.length cd):=fun w' o =>
  have p:=h.only o (Nat.ne_of_lt N);have q:=f.only o (Nat.ne_of_lt E);⟨p.f0,p.f1,p.f2,q.f0,q.f1,q.f2⟩
 obtain⟨d0,d1,d2,d3,d4,d5⟩:=hS _ z.drew;have d6:=z.drew;have d7:=b1.drew;clear na nb nc nd;go_enter Tryz.func45,Tryz.ntmps45;go_wp2_with fail
 go_region_held3 (fun w'=>w'.cell? ⟨w.heap.size,0,none⟩=some (.bool n1)∧w'.cell? ⟨w.heap.size,1,none⟩=some (.slice A la.length ca)∧w'.cell? ⟨w.heap.size,2,none⟩=some (.slice B lb.length cb)∧w'.cell? ⟨w0.heap.size,0,none⟩=some (.bool n2)∧w'.cell? ⟨w0.heap.size,1,none⟩=some (.slice C lc.length cc)∧w'.cell? ⟨w0.heap.size,2,none⟩=some (.slice D ld.length cd)∧Only w2 w' w1.heap.size∧Blk3 w' w1.heap.size 28) (((try go_split_ands);(try dsimp only);(repeat' with_reducible apply And.intro) <;> with_reducible assumption)) (first
  | (go_at_call 51;go_split_ands;(with_reducible refine (jm A D ca cd la ld _ (T.only_blk c g (by assumption)) (R.only_blk c g (by assumption)) (by omega) (by omega)).mono ?_);rintro e w3 ⟨X,cx,x,rfl,nx,ix,mx,b3⟩;have U:=Dj ix;clear ix;have q4:=Blk3.keep (by assumption) b3;have b4:=(show Only w2 _ w1.heap.size by assumption).trans (Ei b3 _);obtain⟨f0,f1,f2,f3,f4,f5⟩:=hS _ b4)
  | (go_at_call 51;go_split_ands;(with_reducible refine (jm B C cb cc lb lc _ (L.only_blk c g (by assumption)) (V.only_blk c g (by assumption)) (by omega) (by omega)).mono ?_);rintro e w5 ⟨Y,cy,y,rfl,ny,iy,my,b5⟩;have G:=Dj iy;clear iy;have q6:=Blk3.keep (by assumption) b5;have b6:=(show Only w2 _ w1.heap.size by assumption).trans (Ei b5 _);obtain⟨g0,g1,g2,g3,g4,g5⟩:=hS _ b6)
  | (go_at_call 71;go_split_ands;(with_reducible refine (sM (by first | exact nx.below b5 | exact nx) (by first | exact ny | exact ny.below b3) (by rw[G.out.val];exact h0) (by omega) (by omega)).mono ?_);rintro e w7 ⟨v,rfl,⟨m0,A1,c1,l1,B1,d1,m1,rfl,ma,mb,hQ⟩,b7⟩;rw[U.out.val,G.out.val] at hQ;have b8:=(show Only w2 _ w1.heap.size by assumption).trans (Ei b7 _);obtain⟨k0,k1,k2,k3,k4,k5⟩:=hS _ b8;have q8:=Blk3.keep (t:=28) (by assumption) b7;have q9:=q8.set m0 A1 l1.length c1 B1 m1.length d1;obtain⟨qa,qb,qc,qd,qe,qf,qg,b⟩:=id q8;have b9:=((b8.set 0 (.bool m0)).set 1 (.slice A1 l1.length c1)).set 2 (.slice B1 m1.length d1);obtain⟨j0,j1,j2,j3,j4,j5⟩:=hS _ b9;have u0:=b.f0;have u1:=b.f1;have u2:=b.f2;have t0:=b.free 0;have t1:=b.free 1;have t2:=b.free 2))
 all_goals
  clear j0 j1 j2 j3 j4 j5 q9;go_wp2;obtain⟨w9,H,m,o9⟩:=b.set3 (.bool m0) (.slice A1 l1.length c1) (.slice B1 m1.length d1);rw[H];have e0:=m.f0;have e1:=m.f1;have e2:=m.f2;refine D4 (v:=.tuple #[aZ m0 A1 l1.length c1 B1 m1.length d1,.int .i64 0]) (by simp[results,Tryz.results45,go_sem,e0,e1,e2]) rfl ?_;have J:=ma.only_blk b (ar _ _ _ _ _ _ _) o9;have O:=mb.only_blk b (ar _ _ _ _ _ _ _) o9;have bT:=(b8.trans o9).to_below d s.size d.size;exact⟨_,rfl,⟨m0,A1,c1,l1,B1,d1,m1,rfl,J,O,by rw[←M.out];exact hQ⟩,bT⟩
theorem zj {K gm gp gc p j:Nat}{t1 t2 t3:TypeId}{v:Value}{q:Rat}{A:Option Addr}{c:Nat}{rows:List RwD}{w:World}(hx:FV w v q) (hM:Blk w gm t1 #[.slice A rows.length c]) (hP:Blk w gp t2 #[.int .i64 (p:Int)]) (hJ:Blk w gc t3 #[.int .i64 (j:Int)])
 (h:ML w A c rows) (hp:p<rows.length) (hj:∀ r∈rows,j<r.ds.length) (hfx:Fits K q) (hfm:MFits K (bh rows)) (hnz:fn (bh rows) p j≠0) (hK:K+K≤400000000) :
 Calls Tryz.prog 107 #[v,.pointer (some ⟨gm,0,none⟩),.pointer (some ⟨gp,0,none⟩),.pointer (some ⟨gc,0,none⟩)] w (ie (q / fn (bh rows) p j) w):=by
 obtain⟨n0,X0,x0,l0,Y0,y0,m0,rfl,nx,ny,bf⟩:=id hx;clear nx ny bf;obtain⟨w0,c2,bq,D,b9⟩:=ag w #[.bool n0,.slice X0 l0.length x0,.slice Y0 m0.length y0] 28;obtain⟨w1,c5,b7,L,hR⟩:=ag w0 #[.bool false,.slice none 0 0,.slice none 0 0] 28;have m:=bq.trans (b7.mono (Nat.le_of_lt D));have bz:=b9.keep b7;have bd:=hM.below m hM.lt;have bb:=hP.below m hP.lt;have bc:=hJ.below m hJ.lt;have hl:=h.len;obtain⟨a,r,rfl,bg,J,M,X⟩:=(h.below m).at hp;have bs:=hj r (Dm X.out);have c7:=M.len;obtain⟨b,d,eb,Y,bm,bn,bv,he,b3⟩:=M.at bs
 have Z:=Dj (show fn (bh rows) p j=d.q by
  unfold fn bh;rw[Dk (l:=rows.map _),Dq,X.out]
  show (r.ds.map FrD.q).getD j 0=_
  rw[Dk,Dq,b3.out];rfl)
 have b2:=Dj (QFits.fr (hfm.row X.out) d (Dm b3.out));have b1:=Dj (show d.q≠0 by rw[←Z.out];exact hnz);rw[Z.out];rw[eb] at J;have cg:(p:Int)<(rows.length:Int):=by omega
 have c8:(j:Int)<(r.ds.length:Int):=by omega
 replace hx:=hx.below m;clear hfm hnz h M hj eb;go_enter Tryz.func107,Tryz.ntmps107;have bT:=m
 have hS:∀ w',Below w1.heap.size w1 w'→w'.cell? ⟨w.heap.size,0,none⟩=some (.bool n0)∧w'.cell? ⟨w.heap.size,1,none⟩=some (.slice X0 l0.length x0)∧w'.cell? ⟨w.heap.size,2,none⟩=some (.slice Y0 m0.length y0)∧w'.cell? ⟨gm,0,none⟩=some (.slice (some a) rows.length c)∧w'.cell? ⟨gp,0,none⟩=some (.int .i64 (p:Int))∧w'.cell? ⟨gc,0,none⟩=some (.int .i64 (j:Int))∧w'.cell? (a.add p)=some (.slice (some b) r.ds.length r.c)∧w'.cell? (b.add (j*3))=some (.bool d.neg)∧w'.cell? ⟨(b.add (j*3)).block,(b.add (j*3)).off+1,none⟩=some (.slice d.a d.la.length d.ca)∧w'.cell? ⟨(b.add (j*3)).block,(b.add (j*3)).off+2,none⟩=some (.slice d.b d.lb.length d.cb)∧Below w1.heap.size w1 w':=by
  intro w' o;have h1:=bz.keep o;have h2:=bd.keep o;have h3:=bb.keep o;have h4:=bc.keep o;exact⟨h1.f0,h1.f1,h1.f2,h2.v0,h3.v0,h4.v0,(o.cell (by show (a.add p).block<_;rw[ac];exact bg)).trans J,(o.cell (by show (b.add (j*3)).block<_;rw[ac];exact Y)).trans bm,(o.cell (by show (b.add (j*3)).block<_;rw[ac];exact Y)).trans bn,(o.cell (by show (b.add (j*3)).block<_;rw[ac];exact Y)).trans bv,o⟩
 have bo:Below w1.heap.size w1 w1:=DY _ _;have dS:Below w1.heap.size w1 w1.drew:=bo.drew;go_wp2_with fail;refine DZ ?_;refine D0 (S:=fun w'=>w'.cell? ⟨w.heap.size,0,none⟩=some (.bool n0)∧w'.cell? ⟨w.heap.size,1,none⟩=some (.slice X0 l0.length x0)∧w'.cell? ⟨w.heap.size,2,none⟩=some (.slice Y0 m0.length y0)∧w'.cell? ⟨gm,0,none⟩=some (.slice (some a) rows.length c)∧w'.cell? ⟨gp,0,none⟩=some (.int .i64 (p:Int))∧w'.cell? ⟨gc,0,none⟩=some (.int .i64 (j:Int))∧w'.cell? (a.add p)=some (.slice (some b) r.ds.length r.c)∧w'.cell? (b.add (j*3))=some (.bool d.neg)∧w'.cell? ⟨(b.add (j*3)).block,(b.add (j*3)).off+1,none⟩=some (.slice d.a d.la.length d.ca)∧w'.cell? ⟨(b.add (j*3)).block,(b.add (j*3)).off+2,none⟩=some (.slice d.b d.lb.length d.cb)∧Below w1.heap.size w1 w') (by kernel_rfl) (hS _ dS) (fun f=>?_);refine pE 0 1 2 3 4 5 6 7 f ?_;refine D6 (rs:=[8,12]) (by kernel_rfl) (by simp) ?_;refine D2 rfl (fun K hK=>?_) ?_
 · go_simp;have I:Below w1.heap.size w1 w1.drew:=(DY _ _).drew;replace hx:=hx.below I;replace he:=he.below I;replace hR:=hR.keep I;replace bo:=Di bo I;go_at_call 45;refine (fw hx he hfx b2.out (by omega) b1.out).mono ?_;rintro e u1 ⟨v1,rfl,⟨n1,A1,a1,l1,B1,c1,m1,rfl,na,nb,iq⟩,G⟩;replace hx:=hx.below G;replace he:=he.below G;replace hR:=hR.keep G;replace bo:=Di bo G;have E:=Dj iq;clear iq;go_wp2_with fail;refine hK.out _ _ (hS _ bo) (fun f=>?_);clear hK K;(try simp only[aq]);refine fA 9 10 f ?_;refine dQ 11 rfl f ?_;refine aV 12 rfl fun K hK=>?_;have b5:=bo.size;obtain⟨u2,c3,x,c9,b4⟩:=ag u1 #[.bool false,.slice none 0 0,.slice none 0 0] 28;replace hx:=hx.below x;replace he:=he.below x;replace hR:=hR.keep x;replace na:=na.below x;replace nb:=nb.below x;replace bo:=Di bo x;obtain⟨gz,t⟩:∃ g,g=u1.heap.size:=⟨_,rfl⟩;have F:w1.heap.size≤gz:=by rw[t];exact b5
   have Bz:Blk u2 gz 28 #[.bool false,.slice none 0 0,.slice none 0 0]:=by rw[t];exact b4
   clear b4;go_simp;refine hK.out _ _ (hS _ bo) (fun f=>?_);clear hK K;(try simp only[aq]);refine aV 13 rfl fun K hK=>?_;subst t;have q0:=Bz.free 0;have q1:=Bz.free 1;have q2:=Bz.free 2;have p0:=Bz.f0;have p1:=Bz.f1;have p2:=Bz.f2;go_simp;obtain⟨w9,T,s,o9⟩:=Bz.set3 (.bool n1) (.slice A1 l1.length a1) (.slice B1 m1.length c1);rw[T];replace bo:=o9.to_below bo F bo.size;clear q0 q1 q2 p0 p1 p2;have B:=na.only_blk Bz (ar _ _ _ _ _ _ _) o9;have C:=nb.only_blk Bz (ar _ _ _ _ _ _ _) o9;refine hK.out _ _ (hS _ bo) (fun f=>?_);clear hK K;(try simp only[aq]);refine dQ 14 rfl f ?_;refine D7 (by kernel_rfl) ?_ _;refine D1 ?_;(try go_simp);clear f;clear hS dS;have R:w0.heap.size≠_:=Nat.ne_of_lt (Dn L F);have O:=hR.only o9 R;have V:=Di m bo;have z0:=s.f0;have z1:=s.f1;have z2:=s.f2;have k:=O;have bx:=B;have c0:=C;have b6:=E;have y:=V;have p0:=k.f0;have p1:=k.f1;have p2:=k.f2;have q0:=k.free 0;have q1:=k.free 1;have q2:=k.free 2;go_wp2;obtain⟨w8,N,n,o8⟩:=k.set3 (.bool n1) (.slice A1 l1.length a1) (.slice B1 m1.length c1);rw[N];have e0:=n.f0;have e1:=n.f1;have e2:=n.f2;refine D4 (v:=aZ n1 A1 l1.length a1 B1 m1.length c1) (by simp[results,Tryz.results107,go_sem,e0,e1,e2]) rfl ?_
   exact⟨_,rfl,⟨n1,A1,a1,l1,B1,c1,m1,rfl,B.only_blk k (ar _ _ _ _ _ _ _) o8,C.only_blk k (ar _ _ _ _ _ _ _) o8,E.out⟩,o8.to_below y (Nat.le_of_lt D) y.size⟩
 refine D2 rfl (fun K hK=>?_) ?_
 · have b8:=bo.size;obtain⟨u3,c4,H,cd,b0⟩:=ag w1 #[.bool false,.slice none 0 0,.slice none 0 0] 28;replace hx:=hx.below H;replace he:=he.below H;replace hR:=hR.keep H;replace bo:=Di bo H;obtain⟨gz,t⟩:∃ g,g=w1.heap.size:=⟨_,rfl⟩;have F:w1.heap.size≤gz:=by rw[t];exact b8
   have Bz:Blk u3 gz 28 #[.bool false,.slice none 0 0,.slice none 0 0]:=by rw[t];exact b0
   clear b0;go_simp;refine hK.out _ _ (hS _ bo.drew) (fun f=>?_);clear hK K;(try simp only[aq]);refine aV 8 rfl fun K hK=>?_;go_simp;have z:Below u3.heap.size u3 u3.drew:=(DY _ _).drew;replace hx:=hx.below z;replace he:=he.below z;replace hR:=hR.keep z;replace Bz:=Bz.keep z;replace bo:=Di bo z;go_at_call 45;refine (fw hx he hfx b2.out (by omega) b1.out).mono ?_;rintro e u4 ⟨v1,rfl,⟨n1,A1,a1,l1,B1,c1,m1,rfl,na,nb,iq⟩,U⟩;replace hR:=hR.keep U;replace Bz:=Bz.keep U;replace bo:=Di bo U;have E:=Dj iq;clear iq;go_wp2_with fail;refine hK.out _ _ (hS _ bo) (fun f=>?_);clear hK K;(try simp only[aq]);refine fA 9 10 f ?_;refine dQ 11 rfl f ?_;refine aV 13 rfl fun K hK=>?_;subst t;have q0:=Bz.free 0;have q1:=Bz.free 1;have q2:=Bz.free 2;have p0:=Bz.f0;have p1:=Bz.f1;have p2:=Bz.f2;go_simp;obtain⟨w9,T,s,o9⟩:=Bz.set3 (.bool n1) (.slice A1 l1.length a1) (.slice B1 m1.length c1);rw[T];replace bo:=o9.to_below bo F bo.size;clear q0 q1 q2 p0 p1 p2;have B:=na.only_blk Bz (ar _ _ _ _ _ _ _) o9;have C:=nb.only_blk Bz (ar _ _ _ _ _ _ _) o9;refine hK.out _ _ (hS _ bo) (fun f=>?_);clear hK K
   (try simp only[aq]);refine dQ 14 rfl f ?_;refine D7 (by kernel_rfl) ?_ _;refine D1 ?_;(try go_simp);clear f;clear hS dS;have R:w0.heap.size≠_:=Nat.ne_of_lt (Dn L F);have O:=hR.only o9 R;have V:=Di m bo;have z0:=s.f0;have z1:=s.f1;have z2:=s.f2;have k:=O;have bx:=B;have c0:=C;have b6:=E;have y:=V;have p0:=k.f0;have p1:=k.f1;have p2:=k.f2;have q0:=k.free 0;have q1:=k.free 1;have q2:=k.free 2;go_wp2;obtain⟨w8,N,n,o8⟩:=k.set3 (.bool n1) (.slice A1 l1.length a1) (.slice B1 m1.length c1);rw[N];have e0:=n.f0;have e1:=n.f1;have e2:=n.f2;refine D4 (v:=aZ n1 A1 l1.length a1 B1 m1.length c1) (by simp[results,Tryz.results107,go_sem,e0,e1,e2]) rfl ?_;exact⟨_,rfl,⟨n1,A1,a1,l1,B1,c1,m1,rfl,B.only_blk k (ar _ _ _ _ _ _ _) o8,C.only_blk k (ar _ _ _ _ _ _ _) o8,E.out⟩,o8.to_below y (Nat.le_of_lt D) y.size⟩
 exact D3
theorem ud {K gm gp gc p j:Nat}{t1 t2 t3:TypeId}{A M:Option Addr}{c cm:Nat}{ds:List FrD}{rows:List RwD}{w:World}(h:FL w A c ds) (hM:Blk w gm t1 #[.slice M rows.length cm]) (hP:Blk w gp t2 #[.int .i64 (p:Int)]) (hJ:Blk w gc t3 #[.int .i64 (j:Int)])
 (hm:ML w M cm rows) (hp:p<rows.length) (hj:∀ r∈rows,j<r.ds.length) (hfx:QFits K (ds.map FrD.q)) (hfm:MFits K (bh rows)) (hnz:fn (bh rows) p j≠0) (hK:K+K≤400000000) (hrn:ds.length<1000000000000) :
 Calls Tryz.prog 106 #[.slice A ds.length c,.func (.func 107) #[] #[.pointer (some ⟨gm,0,none⟩),.pointer (some ⟨gp,0,none⟩),.pointer (some ⟨gc,0,none⟩)]] w (Cc ((ds.map FrD.q).map fun x=>x / fn (bh rows) p j) w):=by
 have hl:=h.len;obtain⟨qs,o⟩:∃ qs,Hid (((ds.map FrD.q).map fun x=>x / fn (bh rows) p j)=qs):=⟨_,rfl⟩;have s:=Dj (show qs.length=ds.length by rw[←o.out];simp);rw[o.out];have G:=Dj hfm;have E:=Dj hfx;have O:=Dj hj;have z:=Dj hnz;clear hfm hfx hj hnz;go_enter Tryz.func106,Tryz.ntmps106;go_wp2
 go_loopw [5,7,10] (fun v x i wr=>qI qs w v i wr) (fun _ _ i _=>ds.length-(intOf i).toNat)
 case atStart=>exact⟨0,by omega,rfl,LsAt.nil _ _⟩
 case round =>
  obtain⟨k,hk,rfl,f⟩:=hrel;rw[s.out] at hk;have g:=f.bel
  by_cases hkl:k<ds.length
  · have b2:(k:Int)<(ds.length:Int):=by omega
    obtain⟨a,d,rfl,X,Y,Z,b1,fa,C⟩:=(h.below g).at hkl;have I:=Dj (E.out.fr d (Dm C.out))
    have hq:Hid (qs[k]?=some (d.q / fn (bh rows) p j)):=by
     show _=_
     rw[←o.out,List.map_map,Dq,C.out];rfl
    have T:k<1000000000000:=by omega
    obtain⟨qk,H⟩:∃ q,Hid (d.q / fn (bh rows) p j=q):=⟨_,rfl⟩;rw[H.out] at hq;obtain⟨w3,b0,n,U,t⟩:=ag wr #[.bool d.neg,.slice d.a d.la.length d.ca,.slice d.b d.lb.length d.cb] 28;have m:=Di g n;have x0:=t.f0;have x1:=t.f1;have x2:=t.f2;go_wp2_with fail;refine (zj (fa.below n) (hM.keep m) (hP.keep m) (hJ.keep m) (hm.below m) hp O.out I.out G.out z.out hK).mono ?_;rintro e w4 ⟨v1,rfl,⟨n1,A1,a1,l1,B1,c1,m1,rfl,na,nb,iq⟩,b4⟩;rw[H.out] at iq;replace f:=(f.below n).below b4;obtain⟨os,ho,L,J,l⟩:=f.app T hq.out na nb iq;clear na nb iq
    go_wp2_with (at_builtin;refine cQ rfl rfl _ _ rfl _ _ os rfl ho ⟨w4.heap.size,0,none⟩ 1 ⟨n1,A1,a1,l1,B1,c1,m1⟩ rfl (World.news_of_block (heap_alloc_new w4 _)) L J ?_;intro v6 w6 D F)
    have y:=l.out v6 w6 D F;clear l ho F D f;go_wp2;go_roundw
    case rel=>exact⟨k+1,by rw[s.out];omega,by go_num,y⟩
    case measure=>simp[intOf];omega
  · obtain rfl:k=ds.length:=by omega
    have V:decide ((ds.length:Int)<(ds.length:Int))=false:=Du (by omega);obtain⟨B,cb,es,rfl,N,R⟩:=f.done s.out.symm;go_wp2;go_ret;exact⟨B,cb,es,rfl,N,R,g⟩
theorem Plain.Fits.inv {k:Nat}{q:Rat}(h:Fits k q):Fits k q⁻¹:=by
 have hp:=h.pos;rw[Rat.inv_def]
 by_cases hn:q.num<0
 · rw[←Rat.neg_divInt_neg,show -q.num=(q.num.natAbs:Int) by omega,Rat.divInt_ofNat];exact nR (by have:=h.2;omega) h.1
 · rw[show q.num=((q.num.natAbs:Nat):Int) by omega,Rat.divInt_ofNat];exact nR (by have:=h.2;omega) h.1
theorem Plain.Fits.div {j k:Nat}{p q:Rat}(hp:Fits j p) (hq:Fits k q):Fits (j+k) (p / q):=by
 rw[Rat.div_def];exact hp.mul hq.inv
theorem MFits.get {K:Nat}{M:bp}(h:MFits K M){i:Nat}(hi:i<M.length):QFits K (M.getD i []):=by
 rw[Dk,Dl hi];exact h _ (Dy hi)
theorem QFits.get {K:Nat}{l:List Rat}(h:QFits K l){k:Nat}(hk:k<l.length):Fits K (l.getD k 0):=by
 rw[Dk,Dl hk];exact h _ (Dy hk)
theorem MFits.fn {K n i k:Nat}{M:bp}(h:MFits K M) (hr:cj M n) (hi:i<M.length) (hk:k<n):Fits K (fn M i k):=(h.get hi).get (by rw[ei hr hi];exact hk)
theorem kV {K n p c:Nat}{M:bp}(h:MFits K M) (hr:cj M n) (hp:p<M.length) (hc:c<n):QFits (K+K) (gT M p c):=fun q hq=>by
 obtain⟨x,hx,rfl⟩:=DU.1 hq;exact (h.get hp x hx).div (h.fn hr hp hc)
theorem uf {J K L:Nat}{a b:List Rat}{f:Rat}(ha:QFits J a) (hf:Fits K f) (hb:QFits L b):QFits (J+(K+L)+1) (iw a f b):=fun q hq=>by
 unfold iw at hq;obtain⟨i,hi,rfl⟩:=List.getElem_of_mem hq;rw[List.getElem_zipWith];exact (ha _ (Dy _)).sub (hf.mul (hb _ (Dy _)))
theorem pY {K n p c:Nat}{M:bp}(h:MFits K M) (hr:cj M n) (hp:p<M.length) (hc:c<n):MFits (4*K+1) (fe M p c):=fun r hr'=>by
 have hh:=kV h hr hp hc;unfold fe at hr';obtain⟨i,hi,rfl⟩:=DU.1 hr';rw[DT] at hi
 split
 · exact hh.mono (by omega)
 · exact (uf (h.get hi) (h.fn hr hi hc) hh).mono (by omega)
theorem iu {K row t:Nat}{M:bp}(h:MFits K M) (ht:t<M.length):MFits K (cO M row t):=fun r hr=>by
 unfold cO at hr
 simp only[List.mem_append,List.mem_cons] at hr
 rcases hr with h3 | rfl | h3 | h3
 · exact h r (DJ h3)
 · exact h.get ht
 · exact h r (DK (DJ h3))
 · exact h r (DK h3)
def gK (K:Nat):Nat→Nat
 | 0=>K
 | n+1=>4*gK K n+1
theorem lL (K n:Nat):gK K (n+1)=4*gK K n+1:=rfl
theorem CY (K:Nat):∀ n,K≤gK K n:=by
 intro n
 induction n with
 | zero=>exact Dt _
 | succ n ih=>rw[lL];omega
theorem iD (K:Nat){m n:Nat}(h:m≤n):gK K m≤gK K n:=by
 induction h with
 | refl=>exact Dt _
 | step _ ih=>rw[lL];omega
theorem jh {K w:Nat}{M:bp}(h:MFits K M) (hr:cj M w):∀ n,n≤w→MFits (gK K n) (reduceL M n).1:=by
 intro n
 induction n with
 | zero=>exact fun _=>h
 | succ n ih =>
  intro hn;have h1:=ih (by omega);have h2:=eg hr n (by omega);rw[fj]
  generalize reduceL M n=S at *
  unfold ji
  split
  · rename_i hlt
    split
    · rename_i hat
      exact pY (iu h1 hat) (fX h2.rct hat) (by rw[cF (gU _ _ _) hat];exact hlt) (by omega)
    · exact h1.mono (by rw[lL];omega)
  · exact h1.mono (by rw[lL];omega)
theorem ov {K w:Nat}{M:bp}(h:MFits K M) (hr:cj M w):∀ n,n≤w→MFits (gK K n) (aQ M n).1:=by
 intro n
 induction n with
 | zero=>exact fun _=>h
 | succ n ih =>
  intro hn;have h1:=ih (by omega);have h2:=jf hr n (by omega);rw[gO]
  generalize aQ M n=S at *
  unfold ka
  cases hf:findFree S.1 S.2 n with
  | none=>exact h1.mono (by rw[lL];omega)
  | some i =>
   have h6:=List.mem_of_find?_eq_some hf;rw[DT] at h6;exact pY h1 h2.rct h6 (by omega)
theorem bI {v u:Value}{p q:Rat}{j k:Nat}{w:World}(hv:FV w v p) (hu:FV w u q) (hj:Fits j p) (hk:Fits k q) (hJ:j+k<400000000) :
 Calls Tryz.prog 32 #[v,u] w (ie (p-q) w):=by
 have r:=hv;have m:=hu;obtain⟨n1,A,ca,la,B,cb,lb,rfl,na,nb,iq⟩:=hv;obtain⟨n2,C,cc,lc,D,cd,ld,rfl,nc,nd,ir⟩:=hu;clear na nb iq nc nd ir;rw[Rat.sub_eq_add_neg];obtain⟨w0,U,N,n,O⟩:=ag w #[.bool n1,.slice A la.length ca,.slice B lb.length cb] 28;obtain⟨w1,V,z,y,G⟩:=ag w0 #[.bool n2,.slice C lc.length cc,.slice D ld.length cd] 28;obtain⟨w2,X,g,T,h⟩:=ag w1 #[.bool false,.slice none 0 0,.slice none 0 0] 28;have f:=(O.keep z).keep g;have c:=G.keep g;have s:=N.trans (z.mono (Nat.le_of_lt n));have d:=Di s g;have E:=r.below d;have H:=m.below d;have x0:=f.f0;have x1:=f.f1;have x2:=f.f2;have y0:=c.f0;have y1:=c.f1;have y2:=c.f2;have R:Blk3 w2 w1.heap.size 28:=h.b3;have x:Only w2 w2 w1.heap.size:=Eh _ _;have L:w.heap.size<w1.heap.size:=by omega
 have hS:∀ w',Only w2 w' w1.heap.size→w'.cell? ⟨w.heap.size,0,none⟩=some (.bool n1)∧w'.cell? ⟨w.heap.size,1,none⟩=some (.slice A la.length ca)∧w'.cell? ⟨w.heap.size,2,none⟩=some (.slice B lb.length cb)∧w'.cell? ⟨w0.heap.size,0,none⟩=some (.bool n2)∧w'.cell? ⟨w0.heap.size,1,none⟩=some (.slice C lc.length cc)∧w'.cell? ⟨w0.heap.size,2,none⟩=some (.slice D ld.length cd):=fun w' o =>
  have p:=f.only o (Nat.ne_of_lt L);have q:=c.only o (Nat.ne_of_lt y);⟨p.f0,p.f1,p.f2,q.f0,q.f1,q.f2⟩
 obtain⟨d0,d1,d2,d3,d4,d5⟩:=hS _ x.drew;have d6:=x.drew;have d7:=R.drew;clear r m;go_enter Tryz.func32,Tryz.ntmps32;go_wp2_with fail
 go_region_held3 (fun w'=>w'.cell? ⟨w.heap.size,0,none⟩=some (.bool n1)∧w'.cell? ⟨w.heap.size,1,none⟩=some (.slice A la.length ca)∧w'.cell? ⟨w.heap.size,2,none⟩=some (.slice B lb.length cb)∧w'.cell? ⟨w0.heap.size,0,none⟩=some (.bool n2)∧w'.cell? ⟨w0.heap.size,1,none⟩=some (.slice C lc.length cc)∧w'.cell? ⟨w0.heap.size,2,none⟩=some (.slice D ld.length cd)∧Only w2 w' w1.heap.size∧Blk3 w' w1.heap.size 28) (((try go_split_ands);(try dsimp only);(repeat' with_reducible apply And.intro) <;> with_reducible assumption)) (first
  | (go_at_call 55;go_split_ands;(with_reducible refine (Bg (H.only_blk h (ar _ _ _ _ _ _ _) (by assumption)) hk (by omega)).mono ?_);rintro e w3 ⟨v3,rfl,I,b3⟩;have q4:=Blk3.keep (by assumption) b3;have b4:=(show Only w2 _ w1.heap.size by assumption).trans (Ei b3 _);obtain⟨f0,f1,f2,f3,f4,f5⟩:=hS _ b4)
  | (go_at_call 27;go_split_ands;(with_reducible refine (dB (E.only_blk h (ar _ _ _ _ _ _ _) (by assumption)) I hj hk.neg hJ).mono ?_);rintro e w7 ⟨v,rfl,⟨m0,A1,c1,l1,B1,d1,m1,rfl,ma,mb,hQ⟩,b7⟩;have b8:=(show Only w2 _ w1.heap.size by assumption).trans (Ei b7 _);obtain⟨k0,k1,k2,k3,k4,k5⟩:=hS _ b8;have q8:=Blk3.keep (t:=28) (by assumption) b7;have q9:=q8.set m0 A1 l1.length c1 B1 m1.length d1;obtain⟨qa,qb,qc,qd,qe,qf,qg,b⟩:=id q8;have b9:=((b8.set 0 (.bool m0)).set 1 (.slice A1 l1.length c1)).set 2 (.slice B1 m1.length d1);obtain⟨j0,j1,j2,j3,j4,j5⟩:=hS _ b9;have u0:=b.f0;have u1:=b.f1;have u2:=b.f2;have t0:=b.free 0;have t1:=b.free 1;have t2:=b.free 2))
 clear j0 j1 j2 j3 j4 j5 q9;go_wp2;obtain⟨w9,F,l,o9⟩:=b.set3 (.bool m0) (.slice A1 l1.length c1) (.slice B1 m1.length d1);rw[F];have e0:=l.f0;have e1:=l.f1;have e2:=l.f2;refine D4 (v:=aZ m0 A1 l1.length c1 B1 m1.length d1) (by simp[results,Tryz.results32,go_sem,e0,e1,e2]) rfl ?_;have J:=ma.only_blk b (ar _ _ _ _ _ _ _) o9;have M:=mb.only_blk b (ar _ _ _ _ _ _ _) o9;have bT:=(b8.trans o9).to_below d s.size d.size;exact⟨_,rfl,⟨m0,A1,c1,l1,B1,d1,m1,rfl,J,M,hQ⟩,bT⟩
theorem mE {K p j n:Nat}{A:Option Addr}{c:Nat}{rows:List RwD}{w:World}(h:ML w A c rows) (hr:cj (bh rows) n) (hp:p<rows.length) (hj:j<n) (hfm:MFits K (bh rows)) (hnz:fn (bh rows) p j≠0) (hK:4*K+1<400000000) (hrn:rows.length<1000000000) (hnn:n<1000000000) :
 Calls Tryz.prog 105 #[.slice A rows.length c,.int .i64 (p:Int),.int .i64 (j:Int)] w (C9 (fe (bh rows) p j) w):=by
 obtain⟨w0,g5,f1,bx,fq⟩:=ag w #[.slice A rows.length c] 129;obtain⟨w1,g6,cr,g0,d6⟩:=ag w0 #[.int .i64 (p:Int)] 3;obtain⟨w2,gb,bc,g2,cg⟩:=ag w1 #[.int .i64 (j:Int)] 3;have b2:=(fq.keep cr).keep bc;have b5:=d6.keep bc;have fb:=f1.trans (cr.mono (Nat.le_of_lt bx));have b0:=Di fb bc;have hl:=h.len
 have bd:=Dj (show ∀ r∈rows,r.ds.length=n from fun r bf=>by
  have:=hr r.qs (DU.2 ⟨r,bf,rfl⟩);rw[Eg] at this;exact this)
 obtain⟨T,hT⟩:∃ T,Hid (fe (bh rows) p j=T):=⟨_,rfl⟩;have X:=Dj (show T.length=rows.length by rw[←hT.out,eZ,aE]);rw[hT.out];have F:=Dj hfm;have c2:=Dj hnz;have bf:=Dj hr;clear hfm hnz hr;have gc:(p:Int)<(rows.length:Int):=by omega
 obtain⟨a0,r0,rfl,fz,cq,bs,bq⟩:=(h.below b0).at hp;have g3:=bs.len;have cx:=bd.out r0 (Dm bq.out);have z0:w2.cell? ⟨w.heap.size,0,none⟩=some (.slice (some a0) rows.length c):=b2.v0;have z1:=b5.v0;have d0:=Dj (show ∀ r∈rows,j<r.ds.length from fun r hr=>by rw[bd.out r hr];exact hj);have c7:=Dj (F.out.row bq.out);have Z:=Dj cx;clear cx;go_enter Tryz.func105,Tryz.ntmps105;go_wp2_with fail;refine (ud bs b2 b5 cg (h.below b0) hp d0.out c7.out F.out c2.out (by omega) (by rw[Z.out];omega)).mono ?_;rintro e w3 ⟨H,ch,hs,rfl,V,b8,b3⟩;have d8:=Di b0 b3
 have t:=Dj (show hs.map FrD.q=gT (bh rows) p j by
  rw[b8.out];unfold gT;rw[Dk (l:=bh rows)];unfold bh;rw[Dq,bq.out];rfl)
 have Y:=Dj (show hs.length=n by rw[←Dr (f:=FrD.q),b8.out,Dr,Dr,Z.out]);have gq:=V.len;obtain⟨eH,zH,rfl,-⟩:=V.at (k:=0) (by rw[Y.out];omega);have cm:=Dj (show QFits (K+K) (hs.map FrD.q) by rw[t.out];exact kV F.out bf.out (by rw[aE];exact hp) hj);have dk:=b2.keep b3;have dm:=b5.keep b3;have d3:=cg.keep b3;clear z0 z1 b8 cq bs;have z0:=dk.v0;go_wp2
 go_loopw [8,21] (fun v i wr=>vX T w3 v i wr) (fun _ i _=>rows.length-(intOf i).toNat)
 case atStart=>exact⟨0,by omega,rfl,MtAt.start _ (DY _ _)⟩
 case round =>
  obtain⟨k,hk,rfl,d⟩:=hrel;rw[X.out] at hk;have E:=d.bel;have c0:=Di d8 E;have d9:=dm.keep E;have d5:=d3.keep E;have z1:=d9.v0;clear z0
  by_cases hkl:k<rows.length
  · obtain⟨a1,r,c4,g9,cz,b7,L⟩:=(h.below c0).at hkl;have ea:a1=a0:=by injection c4 with e;exact e.symm
    have g4:(k:Int)<(rows.length:Int):=by omega
    have R:k<1000000000000:=by omega
    have g7:=b7.len;rw[ea] at cz;clear ea c4
    by_cases hkp:k=p
    · have dt:((k:Int) == (p:Int))=true:=by rw[beq_iff_eq];omega
      have hq:Hid (T[k]?=some (RwD.qs ⟨some eH,ch,hs⟩)):=by
       show _=some (hs.map FrD.q)
       rw[←hT.out,t.out];unfold fe;rw[Dq,DS (by rw[aE];exact hkl)]
       simp[hkp]
      have J:=V.below E;clear hkp;obtain⟨os,ho,N,M,m⟩:=d.app (r:=⟨some eH,ch,hs⟩) R hq.out J
      go_wp2_with (at_builtin;go_loud (refine dD rfl Tryz.underlying129 rfl _ _ rfl _ _ os rfl ho ⟨wr.heap.size,0,none⟩ 1 ⟨some eH,ch,hs⟩ rfl (eO wr ⟨some eH,ch,hs⟩) N M ?_;intro v6 w6 D C))
      have s:=m.out v6 w6 D C;clear m ho C D d;go_wp2;go_roundw
      case rel=>exact⟨k+1,by rw[X.out];omega,by go_num,s⟩
      case measure=>simp[intOf];omega
    · have dt:((k:Int) == (p:Int))=false:=by rw[beq_eq_false_iff_ne];omega
      have G:=Dj (bd.out r (Dm L.out));have gm:r.ds.length<1000000000:=by rw[G.out];exact hnn
      have g8:=sL wr r.ds.length (by rw[G.out];omega);obtain⟨qs,bg⟩:∃ qs,Hid (iw (r.ds.map FrD.q) (fn (bh rows) k j) (gT (bh rows) p j)=qs):=⟨_,rfl⟩
      have hq:Hid (T[k]?=some qs):=by
       show _=_
       rw[←hT.out,←bg.out];unfold fe;rw[Dq,DS (by rw[aE];exact hkl)]
       show some (if k=p then _ else _)=_
       rw[if_neg hkp,Dk (l:=bh rows)];unfold bh;rw[Dq,L.out];rfl
      have bm:=Dj (show qs.length=r.ds.length by rw[←bg.out];unfold iw;rw[List.length_zipWith,←t.out,Dr,Dr,Y.out,G.out,Nat.min_self]);have c9:=Dj d;have cs:=hq;obtain⟨vM,dq⟩:∃ x:Value,x=x:=⟨.bool true,rfl⟩;clear hkp d hq dq vM;obtain⟨wo,bv⟩:∃ wo:World,wo=wr:=⟨_,rfl⟩;have c3:=LsAt.make (qs:=qs) (n:=r.ds.length) (DY wr.heap.size wr) (by rw[G.out];omega);rw[←bv] at c3;subst bv;have bz:=Dj (F.out.row L.out);have cl:=d0.out r (Dm L.out);obtain⟨b,y,eb,bb,dh,fl,fs,hy,cy⟩:=b7.at cl
      have dr:=Dj (show fn (bh rows) k j=y.q by
       unfold fn bh;rw[Dk (l:=rows.map _),Dq,L.out]
       show (r.ds.map FrD.q).getD j 0=_
       rw[Dk,Dq,cy.out];rfl)
      have c5:=Dj (bz.out.fr y (Dm cy.out));rw[eb] at cz;have f4:=hy;have gk:(j:Int)<(r.ds.length:Int):=by omega
      clear hy;go_wp2
      go_loopw [11,12,38] (fun v x i wr=>qI qs wo v i wr) (fun _ _ i _=>r.ds.length-(intOf i).toNat)
      case atStart=>exact⟨0,by omega,rfl,c3⟩
      case round =>
       obtain⟨kk,f9,rfl,d⟩:=hrel;rw[bm.out] at f9;have U:=d.bel
       by_cases hkkl:kk<r.ds.length
       · obtain⟨a,x,ea,b6,dx,ft,f0,hx,cd⟩:=b7.at hkkl;have dp:a=b:=by rw[eb] at ea;injection ea with e;exact e.symm
         subst dp;obtain⟨e,z,ee,b4,d4,f3,fv,hz,d1⟩:=(V.below E).at (k:=kk) (by rw[Y.out,←G.out];exact hkkl);have f6:e=eH:=by injection ee with e';exact e'.symm
         subst f6;clear ee;have fx:(kk:Int)<(r.ds.length:Int):=by omega
         have g1:(kk:Int)<(hs.length:Int):=by rw[Y.out,←G.out];omega
         have f2:=Dj (bz.out.fr x (Dm cd.out));have cv:=Dj (cm.out.fr z (Dm d1.out))
         have hq:Hid (qs[kk]?=some (x.q-y.q*z.q)):=by
          show _=_
          rw[←bg.out,dr.out,←t.out];unfold iw;rw[List.getElem?_zipWith,Dq,Dq,cd.out,d1.out];rfl
         obtain⟨qk,c8⟩:∃ q,Hid (x.q-y.q*z.q=q):=⟨_,rfl⟩;rw[c8.out] at hq;have R:kk<1000000000000:=by omega
         have db:=d5;have hy:=f4.below U;replace hx:=hx.below U;replace hz:=hz.below U;have bT:=d.bel
         have hS:∀ w',Below wo.heap.size wo w'→w'.cell? (a.add (kk*3))=some (.bool x.neg)∧w'.cell? ⟨(a.add (kk*3)).block,(a.add (kk*3)).off+1,none⟩=some (.slice x.a x.la.length x.ca)∧w'.cell? ⟨(a.add (kk*3)).block,(a.add (kk*3)).off+2,none⟩=some (.slice x.b x.lb.length x.cb)∧w'.cell? (a.add (j*3))=some (.bool y.neg)∧w'.cell? ⟨(a.add (j*3)).block,(a.add (j*3)).off+1,none⟩=some (.slice y.a y.la.length y.ca)∧w'.cell? ⟨(a.add (j*3)).block,(a.add (j*3)).off+2,none⟩=some (.slice y.b y.lb.length y.cb)∧w'.cell? (e.add (kk*3))=some (.bool z.neg)∧w'.cell? ⟨(e.add (kk*3)).block,(e.add (kk*3)).off+1,none⟩=some (.slice z.a z.la.length z.ca)∧w'.cell? ⟨(e.add (kk*3)).block,(e.add (kk*3)).off+2,none⟩=some (.slice z.b z.lb.length z.cb)∧w'.cell? ⟨w1.heap.size,0,none⟩=some (.int .i64 (j:Int))∧Below wo.heap.size wo w':=by
          intro w' o;have h4:=db.keep o;exact⟨(o.cell (by show (a.add (kk*3)).block<_;rw[ac];exact b6)).trans dx,(o.cell (by show (a.add (kk*3)).block<_;rw[ac];exact b6)).trans ft,(o.cell (by show (a.add (kk*3)).block<_;rw[ac];exact b6)).trans f0,(o.cell (by show (a.add (j*3)).block<_;rw[ac];exact bb)).trans dh,(o.cell (by show (a.add (j*3)).block<_;rw[ac];exact bb)).trans fl,(o.cell (by show (a.add (j*3)).block<_;rw[ac];exact bb)).trans fs,(o.cell (by show (e.add (kk*3)).block<_;rw[ac];exact b4)).trans d4,(o.cell (by show (e.add (kk*3)).block<_;rw[ac];exact b4)).trans f3,(o.cell (by show (e.add (kk*3)).block<_;rw[ac];exact b4)).trans fv,h4.v0,o⟩
         have bo:Below wo.heap.size wo wr:=d.bel;have dS:Below wo.heap.size wo wr.drew:=bo.drew;go_wp2_with fail;refine DZ ?_;refine D0 (S:=fun w'=>w'.cell? (a.add (kk*3))=some (.bool x.neg)∧w'.cell? ⟨(a.add (kk*3)).block,(a.add (kk*3)).off+1,none⟩=some (.slice x.a x.la.length x.ca)∧w'.cell? ⟨(a.add (kk*3)).block,(a.add (kk*3)).off+2,none⟩=some (.slice x.b x.lb.length x.cb)∧w'.cell? (a.add (j*3))=some (.bool y.neg)∧w'.cell? ⟨(a.add (j*3)).block,(a.add (j*3)).off+1,none⟩=some (.slice y.a y.la.length y.ca)∧w'.cell? ⟨(a.add (j*3)).block,(a.add (j*3)).off+2,none⟩=some (.slice y.b y.lb.length y.cb)∧w'.cell? (e.add (kk*3))=some (.bool z.neg)∧w'.cell? ⟨(e.add (kk*3)).block,(e.add (kk*3)).off+1,none⟩=some (.slice z.a z.la.length z.ca)∧w'.cell? ⟨(e.add (kk*3)).block,(e.add (kk*3)).off+2,none⟩=some (.slice z.b z.lb.length z.cb)∧w'.cell? ⟨w1.heap.size,0,none⟩=some (.int .i64 (j:Int))∧Below wo.heap.size wo w') (by kernel_rfl) (hS _ dS) (fun g=>?_);refine pE 0 1 2 3 4 5 6 7 g ?_;refine pz 8 9 10 11 g ?_;refine dQ 12 rfl g ?_;refine aV 13 rfl fun K hK=>?_
         go_simp;have I:Below wr.heap.size wr wr.drew:=(DY _ _).drew;replace hx:=hx.below I;replace hy:=hy.below I;replace hz:=hz.below I;replace d:=d.below I;replace bT:=Di bT I;replace bo:=Di bo I;go_at_call 34;refine (fo hy hz c5.out cv.out (by omega)).mono ?_;rintro e u1 ⟨v1,rfl,fm,O⟩;replace hx:=hx.below O;replace d:=d.below O;replace bT:=Di bT O;replace bo:=Di bo O;go_wp2_with fail;refine hK.out _ _ (hS _ bo) (fun g=>?_);clear hK K;(try simp only[aq]);refine aV 14 rfl fun K hK=>?_;go_simp;go_at_call 32;refine (bI hx fm f2.out (c5.out.mul cv.out) (by omega)).mono ?_;rintro e u2 ⟨v2,rfl,⟨n1,A1,a1,l1,B1,c1,m1,rfl,na,nb,iq⟩,bn⟩;replace d:=d.below bn;replace bT:=Di bT bn;replace bo:=Di bo bn;rw[c8.out] at iq;clear fm;go_wp2_with fail;refine hK.out _ _ (hS _ bo) (fun g=>?_);clear hK K;(try simp only[aq]);refine aV 15 rfl fun K hK=>?_;obtain⟨os,ho,N,M,m⟩:=d.app R hq.out na nb iq;clear na nb iq;have gp:=bT;obtain⟨u3,b1,d7,gr,f5⟩:=ag u2 #[.bool n1,.slice A1 l1.length a1,.slice B1 m1.length c1] 28
         replace bo:=Di bo d7;go_simp;refine hK.out _ _ (hS _ bo) (fun g=>?_);clear hK K;(try simp only[aq]);refine aV 16 rfl fun K hK=>?_;refine jY rfl _ _ rfl rfl wo.heap.size _ os rfl (by rw[←b1];exact ho) ⟨u2.heap.size,0,none⟩ 1 ⟨n1,A1,a1,l1,B1,c1,m1⟩ rfl (World.news_of_block f5) N (by rw[←b1];exact M) ?_;intro v6 w6 D C;rw[←b1] at C;have s:=m.out v6 w6 D C;replace bo:=s.bel;clear m ho C D;refine hK.out _ _ (hS _ bo) (fun g=>?_);clear hK K;(try simp only[aq]);refine dQ 17 rfl g ?_;refine D7 (by kernel_rfl) ?_ _;refine D1 ?_;(try go_simp);clear g;clear hS dS bo;go_wp2;go_roundw
         case rel=>exact⟨kk+1,by rw[bm.out];omega,by go_num,s⟩
         case measure=>simp[intOf];omega
       · obtain rfl:kk=r.ds.length:=by omega
         have d2:decide ((r.ds.length:Int)<(r.ds.length:Int))=false:=Du (by omega);obtain⟨B,cb,es,rfl,J,b9⟩:=d.done bm.out.symm
         have hq:Hid (T[k]?=some (RwD.qs ⟨B,cb,es⟩)):=by
          show _=some (es.map FrD.q)
          rw[cs.out,b9.out]
         clear d cs;have d:=c9.out.below U;clear c9;obtain⟨os,ho,N,M,m⟩:=d.app (r:=⟨B,cb,es⟩) R hq.out J
         go_wp2_with (at_builtin;go_loud (refine dD rfl Tryz.underlying129 rfl _ _ rfl _ _ os rfl ho ⟨wr.heap.size,0,none⟩ 1 ⟨B,cb,es⟩ rfl (eO wr ⟨B,cb,es⟩) N M ?_;intro v6 w6 D C))
         have s:=m.out v6 w6 D C;clear m ho C D d;go_wp2;go_roundw
         case rel=>exact⟨k+1,by rw[X.out];omega,by go_num,s⟩
         case measure=>simp[intOf];omega
  · obtain rfl:k=rows.length:=by omega
    have d2:decide ((rows.length:Int)<(rows.length:Int))=false:=Du (by omega);obtain⟨B,cb,es,rfl,J,b9⟩:=d.done X.out.symm;go_wp2;go_ret;exact⟨B,cb,es,rfl,J,b9,c0⟩
def oK (M:bp) (r c:Int):bp × Int :=
 if aW M=false then ([],2) else if r<0∨(M.length:Int)≤r∨c<0∨(colsL M:Int)≤c then ([],4) else if fn M r.toNat c.toNat=0 then ([],8) else (fe M r.toNat c.toNat,0)
def RetME (R:bp × Int) (W:World) (e:Ending) (w':World):Prop:=∃ A c rows,e=.returned (.tuple #[.slice A rows.length c,.int .i64 R.2])∧ML w' A c rows∧Hid (bh rows=R.1)∧Below W.heap.size W w'
theorem RetME.err {n:Int}{W:World}{e:Ending}{w':World}{R:bp × Int}(hR:R=([],n)) (he:e=.returned (.tuple #[.slice none 0 0,.int .i64 n])) (hb:Below W.heap.size W w'):RetME R W e w':=by
 subst hR;exact⟨none,0,[],he,ML.nil _,rfl,hb⟩
theorem xm {M:bp}{r c:Int}(h:aW M=false):oK M r c=([],2):=by unfold oK;rw[if_pos h]
theorem jk {M:bp}{r c:Int}(h:aW M=true) (h2:r<0∨(M.length:Int)≤r∨c<0∨(colsL M:Int)≤c):oK M r c=([],4):=by unfold oK;rw[if_neg (by rw[h];decide),if_pos h2]
theorem xl {M:bp}{p j:Nat}(h:aW M=true) (hp:p<M.length) (hj:j<colsL M) (h2:fn M p j=0):oK M p j=([],8):=by
 unfold oK;rw[if_neg (by rw[h];decide),if_neg (by omega),if_pos (by simpa using h2)]
theorem vc {M:bp}{p j:Nat}(h:aW M=true) (hp:p<M.length) (hj:j<colsL M) (h2:fn M p j≠0):oK M p j=(fe M p j,0):=by
 unfold oK;rw[if_neg (by rw[h];decide),if_neg (by omega),if_neg (by simpa using h2)];simp
end Go.Proofs.YtjhkapjadfpimaaGreat
