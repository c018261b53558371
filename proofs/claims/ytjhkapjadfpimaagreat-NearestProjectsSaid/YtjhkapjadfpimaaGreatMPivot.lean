/- Contracts of functions, for the law. -/
import Derived.Test.YtjhkapjadfpimaaGreatMTrans
namespace Go.Proofs.YtjhkapjadfpimaaGreat
set_option linter.unusedVariables false
set_option linter.unusedSimpArgs false
open Go.RowKit Plain
attribute [local go_sem ↓] Go.wp_at_zero Go.wp_at_succ
set_option maxRecDepth 100000
set_option maxHeartbeats 40000000
theorem P0 {v u:Value}{p q:Rat}{j k:Nat}{w:World}(hv:FV w v p) (hu:FV w u q) (hj:Fits j p) (hk:Fits k q) (hJ:j+k≤400000000) (hz:q≠0) :
 Calls Tryz.prog 45 #[v,u] w (tO (p / q) w):=by
 obtain⟨n1,A,ca,la,B,cb,lb,rfl,na,nb,iq⟩:=hv;obtain⟨n2,C,cc,lc,D,cd,ld,rfl,nc,nd,ir⟩:=hu;have hf:=a4q iq hj;have hg:=a4q ir hk;have h0:val lb*val lc≠0:=Nat.mul_ne_zero (QIs.den_ne iq) (fun e=>hz ((pR ir).1 ((QIs.natA ir).zero_iff.2 e)));have hq:=q_div iq ir hz;obtain⟨r,hr⟩:∃ r,p / q=r:=⟨_,rfl⟩;rw[hr] at hq ⊢;have T:=a1k hq;clear iq ir hq hr;obtain⟨w0,c2,O,s,I⟩:=f8 w #[.bool n1,.slice A la.length ca,.slice B lb.length cb] 28;obtain⟨w1,c3,E,n,L⟩:=f8 w0 #[.bool n2,.slice C lc.length cc,.slice D ld.length cd] 28;obtain⟨w2,c0,l,b2,c⟩:=f8 w1 #[.bool false,.slice none 0 0,.slice none 0 0] 28;have h:=(I.keep E).keep l;have g:=L.keep l;have z:=O.trans (E.mono (a3f s));have d:=a1j z l;have J:=na.below d;have Z:=nb.below d;have M:=nc.below d;have R:=nd.below d;have x0:=h.f0;have x1:=h.f1;have x2:=h.f2;have y0:=g.f0;have y1:=g.f1;have y2:=g.f2;have z0:=c.f0;have z1:=c.f1;have z2:=c.f2;have V:Blk3 w2 w1.heap.size 28:=c.b3;have G:Only w2 w2 w1.heap.size:=a4m _ _;have f:=k7 false none 0 0 none 0 0;have N:w.heap.size<w1.heap.size:=by omega
 have hS:∀ w',Only w2 w' w1.heap.size→w'.cell? ⟨w.heap.size,0,none⟩=some (.bool n1)∧w'.cell? ⟨w.heap.size,1,none⟩=some (.slice A la.length ca)∧w'.cell? ⟨w.heap.size,2,none⟩=some (.slice B lb.length cb)∧w'.cell? ⟨w0.heap.size,0,none⟩=some (.bool n2)∧w'.cell? ⟨w0.heap.size,1,none⟩=some (.slice C lc.length cc)∧w'.cell? ⟨w0.heap.size,2,none⟩=some (.slice D ld.length cd):=fun w' o =>
  have p:=h.only o (Nat.ne_of_lt N);have q:=g.only o (Nat.ne_of_lt n);⟨p.f0,p.f1,p.f2,q.f0,q.f1,q.f2⟩
 obtain⟨d0,d1,d2,d3,d4,d5⟩:=hS _ G.drew;have d6:=G.drew;have d7:=V.drew;clear na nb nc nd;go_enter Tryz.func45,Tryz.ntmps45;go_wp2_with fail
 go_region_held3 (fun w'=>w'.cell? ⟨w.heap.size,0,none⟩=some (.bool n1)∧w'.cell? ⟨w.heap.size,1,none⟩=some (.slice A la.length ca)∧w'.cell? ⟨w.heap.size,2,none⟩=some (.slice B lb.length cb)∧w'.cell? ⟨w0.heap.size,0,none⟩=some (.bool n2)∧w'.cell? ⟨w0.heap.size,1,none⟩=some (.slice C lc.length cc)∧w'.cell? ⟨w0.heap.size,2,none⟩=some (.slice D ld.length cd)∧Only w2 w' w1.heap.size∧Blk3 w' w1.heap.size 28) (((try go_split_ands);(try dsimp only);(repeat' with_reducible apply And.intro) <;> with_reducible assumption)) (first
  | (go_at_call 51;go_split_ands;(with_reducible refine (aF A D ca cd la ld _ (J.only_blk c f (by assumption)) (R.only_blk c f (by assumption)) (by omega) (by omega)).mono ?_);rintro e w3 ⟨X,cx,x,rfl,nx,ix,mx,b3⟩;have b1:=a1k ix;clear ix;have q4:=Blk3.keep (by assumption) b3;have b4:=(show Only w2 _ w1.heap.size by assumption).trans (a4n b3 _);obtain⟨f0,f1,f2,f3,f4,f5⟩:=hS _ b4)
  | (go_at_call 51;go_split_ands;(with_reducible refine (aF B C cb cc lb lc _ (Z.only_blk c f (by assumption)) (M.only_blk c f (by assumption)) (by omega) (by omega)).mono ?_);rintro e w5 ⟨Y,cy,y,rfl,ny,iy,my,b5⟩;have F:=a1k iy;clear iy;have q6:=Blk3.keep (by assumption) b5;have b6:=(show Only w2 _ w1.heap.size by assumption).trans (a4n b5 _);obtain⟨g0,g1,g2,g3,g4,g5⟩:=hS _ b6)
  | (go_at_call 71;go_split_ands;(with_reducible refine (sL (by first | exact nx.below b5 | exact nx) (by first | exact ny | exact ny.below b3) (by rw[F.out.val];exact h0) (by omega) (by omega)).mono ?_);rintro e w7 ⟨v,rfl,⟨m0,A1,c1,l1,B1,d1,m1,rfl,ma,mb,hQ⟩,b7⟩;rw[b1.out.val,F.out.val] at hQ;have b8:=(show Only w2 _ w1.heap.size by assumption).trans (a4n b7 _);obtain⟨k0,k1,k2,k3,k4,k5⟩:=hS _ b8;have q8:=Blk3.keep (t:=28) (by assumption) b7;have q9:=q8.set m0 A1 l1.length c1 B1 m1.length d1;obtain⟨qa,qb,qc,qd,qe,qf,qg,b⟩:=id q8;have b9:=((b8.set 0 (.bool m0)).set 1 (.slice A1 l1.length c1)).set 2 (.slice B1 m1.length d1);obtain⟨j0,j1,j2,j3,j4,j5⟩:=hS _ b9;have u0:=b.f0;have u1:=b.f1;have u2:=b.f2;have t0:=b.free 0;have t1:=b.free 1;have t2:=b.free 2))
 all_goals
  clear j0 j1 j2 j3 j4 j5 q9;go_wp2;obtain⟨w9,U,m,o9⟩:=b.set3 (.bool m0) (.slice A1 l1.length c1) (.slice B1 m1.length d1);rw[U];have e0:=m.f0;have e1:=m.f1;have e2:=m.f2;refine a3z (v:=.tuple #[B8 m0 A1 l1.length c1 B1 m1.length d1,.int .i64 0]) (by simp[results,Tryz.results45,go_sem,e0,e1,e2]) rfl ?_;have H:=ma.only_blk b (k7 _ _ _ _ _ _ _) o9;have b0:=mb.only_blk b (k7 _ _ _ _ _ _ _) o9;have bT:=(b8.trans o9).to_below d z.size d.size;exact⟨_,rfl,⟨m0,A1,c1,l1,B1,d1,m1,rfl,H,b0,by rw[←T.out];exact hQ⟩,bT⟩
theorem pivC_any {K gm gp gc p j:Nat}{t1 t2 t3:TypeId}{v:Value}{q:Rat}{A:Option Addr}{c:Nat}{rows:List RwD}{w:World}(hx:FV w v q) (hM:Blk w gm t1 #[.slice A rows.length c]) (hP:Blk w gp t2 #[.int .i64 (p:Int)]) (hJ:Blk w gc t3 #[.int .i64 (j:Int)])
 (h:ML w A c rows) (hp:p<rows.length) (hj:∀ r∈rows,j<r.ds.length) (hfx:Fits K q) (hfm:MFits K (B9 rows)) (hnz:fn (B9 rows) p j≠0) (hK:K+K≤400000000) :
 Calls Tryz.prog 107 #[v,.pointer (some ⟨gm,0,none⟩),.pointer (some ⟨gp,0,none⟩),.pointer (some ⟨gc,0,none⟩)] w (V6 (q / fn (B9 rows) p j) w):=by
 obtain⟨n0,X0,x0,l0,Y0,y0,m0,rfl,nx,ny,d2⟩:=id hx;clear nx ny d2;obtain⟨w0,f3,c7,B,c0⟩:=f8 w #[.bool n0,.slice X0 l0.length x0,.slice Y0 m0.length y0] 28;obtain⟨w1,f4,b1,J,hR⟩:=f8 w0 #[.bool false,.slice none 0 0,.slice none 0 0] 28;have m:=c7.trans (b1.mono (a3f B));have c9:=c0.keep b1;have d0:=hM.below m hM.lt;have b9:=hP.below m hP.lt;have c4:=hJ.below m hJ.lt;have hl:=h.len;obtain⟨a,r,rfl,d1,L,O,R⟩:=(h.below m).at hp;have d4:=hj r (a1n R.out);have d9:=O.len;obtain⟨b,d,eb,U,c5,c2,d3,he,b8⟩:=O.at d4
 have Z:=a1k (show fn (B9 rows) p j=d.q by
  unfold fn B9;rw[a1l (l:=rows.map _),a1r,R.out]
  show (r.ds.map FrD.q).getD j 0=_
  rw[a1l,a1r,b8.out];rfl)
 have b7:=a1k (QFits.fr (hfm.row R.out) d (a1n b8.out));have b6:=a1k (show d.q≠0 by rw[←Z.out];exact hnz);rw[Z.out];rw[eb] at L;have f6:(p:Int)<(rows.length:Int):=by omega
 have d8:(j:Int)<(r.ds.length:Int):=by omega
 replace hx:=hx.below m;clear hfm hnz h O hj eb;go_enter Tryz.func107,Tryz.ntmps107;have bT:=m
 have hS:∀ w',Below w1.heap.size w1 w'→w'.cell? ⟨w.heap.size,0,none⟩=some (.bool n0)∧w'.cell? ⟨w.heap.size,1,none⟩=some (.slice X0 l0.length x0)∧w'.cell? ⟨w.heap.size,2,none⟩=some (.slice Y0 m0.length y0)∧w'.cell? ⟨gm,0,none⟩=some (.slice (some a) rows.length c)∧w'.cell? ⟨gp,0,none⟩=some (.int .i64 (p:Int))∧w'.cell? ⟨gc,0,none⟩=some (.int .i64 (j:Int))∧w'.cell? (a.add p)=some (.slice (some b) r.ds.length r.c)∧w'.cell? (b.add (j*3))=some (.bool d.neg)∧w'.cell? ⟨(b.add (j*3)).block,(b.add (j*3)).off+1,none⟩=some (.slice d.a d.la.length d.ca)∧w'.cell? ⟨(b.add (j*3)).block,(b.add (j*3)).off+2,none⟩=some (.slice d.b d.lb.length d.cb)∧Below w1.heap.size w1 w':=by
  intro w' o;have h1:=c9.keep o;have h2:=d0.keep o;have h3:=b9.keep o;have h4:=c4.keep o;exact⟨h1.f0,h1.f1,h1.f2,h2.v0,h3.v0,h4.v0,(o.cell (by show (a.add p).block<_;rw[f7];exact d1)).trans L,(o.cell (by show (b.add (j*3)).block<_;rw[f7];exact U)).trans c5,(o.cell (by show (b.add (j*3)).block<_;rw[f7];exact U)).trans c2,(o.cell (by show (b.add (j*3)).block<_;rw[f7];exact U)).trans d3,o⟩
 have bo:Below w1.heap.size w1 w1:=a3t _ _;have dS:Below w1.heap.size w1 w1.drew:=bo.drew;go_wp2_with fail;refine a3u ?_;refine a3v (S:=fun w'=>w'.cell? ⟨w.heap.size,0,none⟩=some (.bool n0)∧w'.cell? ⟨w.heap.size,1,none⟩=some (.slice X0 l0.length x0)∧w'.cell? ⟨w.heap.size,2,none⟩=some (.slice Y0 m0.length y0)∧w'.cell? ⟨gm,0,none⟩=some (.slice (some a) rows.length c)∧w'.cell? ⟨gp,0,none⟩=some (.int .i64 (p:Int))∧w'.cell? ⟨gc,0,none⟩=some (.int .i64 (j:Int))∧w'.cell? (a.add p)=some (.slice (some b) r.ds.length r.c)∧w'.cell? (b.add (j*3))=some (.bool d.neg)∧w'.cell? ⟨(b.add (j*3)).block,(b.add (j*3)).off+1,none⟩=some (.slice d.a d.la.length d.ca)∧w'.cell? ⟨(b.add (j*3)).block,(b.add (j*3)).off+2,none⟩=some (.slice d.b d.lb.length d.cb)∧Below w1.heap.size w1 w') (by kernel_rfl) (hS _ dS) (fun f=>?_);refine mX 0 1 2 3 4 5 6 7 f ?_;refine a4b (rs:=[8,12]) (by kernel_rfl) (by simp) ?_;refine a3x rfl (fun K hK=>?_) ?_
 · go_simp;have G:Below w1.heap.size w1 w1.drew:=(a3t _ _).drew;replace hx:=hx.below G;replace he:=he.below G;replace hR:=hR.keep G;replace bo:=a1j bo G;go_at_call 45;refine (P0 hx he hfx b7.out (by omega) b6.out).mono ?_;rintro e u1 ⟨v1,rfl,⟨n1,A1,a1,l1,B1,c1,m1,rfl,na,nb,iq⟩,I⟩;replace hx:=hx.below I;replace he:=he.below I;replace hR:=hR.keep I;replace bo:=a1j bo I;have E:=a1k iq;clear iq;go_wp2_with fail;refine hK.out _ _ (hS _ bo) (fun f=>?_);clear hK K;(try simp only[j9]);refine P2 9 10 f ?_;refine K4 11 rfl f ?_;refine z8 12 rfl fun K hK=>?_;have b5:=bo.size;obtain⟨u2,d6,x,f5,b4⟩:=f8 u1 #[.bool false,.slice none 0 0,.slice none 0 0] 28;replace hx:=hx.below x;replace he:=he.below x;replace hR:=hR.keep x;replace na:=na.below x;replace nb:=nb.below x;replace bo:=a1j bo x;obtain⟨gz,t⟩:∃ g,g=u1.heap.size:=⟨_,rfl⟩;have F:w1.heap.size≤gz:=by rw[t];exact b5
   have Bz:Blk u2 gz 28 #[.bool false,.slice none 0 0,.slice none 0 0]:=by rw[t];exact b4
   clear b4;go_simp;refine hK.out _ _ (hS _ bo) (fun f=>?_);clear hK K;(try simp only[j9]);refine z8 13 rfl fun K hK=>?_;subst t;have q0:=Bz.free 0;have q1:=Bz.free 1;have q2:=Bz.free 2;have p0:=Bz.f0;have p1:=Bz.f1;have p2:=Bz.f2;go_simp;obtain⟨w9,N,s,o9⟩:=Bz.set3 (.bool n1) (.slice A1 l1.length a1) (.slice B1 m1.length c1);rw[N];replace bo:=o9.to_below bo F bo.size;clear q0 q1 q2 p0 p1 p2;have C:=na.only_blk Bz (k7 _ _ _ _ _ _ _) o9;have D:=nb.only_blk Bz (k7 _ _ _ _ _ _ _) o9;refine hK.out _ _ (hS _ bo) (fun f=>?_);clear hK K;(try simp only[j9]);refine K4 14 rfl f ?_;refine a4c (by kernel_rfl) ?_ _;refine a3w ?_;(try go_simp);clear f;clear hS dS;have Y:w0.heap.size≠_:=Nat.ne_of_lt (a1o J F);have M:=hR.only o9 Y;have X:=a1j m bo;have z0:=s.f0;have z1:=s.f1;have z2:=s.f2;have k:=M;have c3:=C;have c8:=D;have b0:=E;have y:=X;have p0:=k.f0;have p1:=k.f1;have p2:=k.f2;have q0:=k.free 0;have q1:=k.free 1;have q2:=k.free 2;go_wp2;obtain⟨w8,T,n,o8⟩:=k.set3 (.bool n1) (.slice A1 l1.length a1) (.slice B1 m1.length c1);rw[T];have e0:=n.f0;have e1:=n.f1;have e2:=n.f2;refine a3z (v:=B8 n1 A1 l1.length a1 B1 m1.length c1) (by simp[results,Tryz.results107,go_sem,e0,e1,e2]) rfl ?_
   exact⟨_,rfl,⟨n1,A1,a1,l1,B1,c1,m1,rfl,C.only_blk k (k7 _ _ _ _ _ _ _) o8,D.only_blk k (k7 _ _ _ _ _ _ _) o8,E.out⟩,o8.to_below y (a3f B) y.size⟩
 refine a3x rfl (fun K hK=>?_) ?_
 · have b3:=bo.size;obtain⟨u3,d5,H,d7,b2⟩:=f8 w1 #[.bool false,.slice none 0 0,.slice none 0 0] 28;replace hx:=hx.below H;replace he:=he.below H;replace hR:=hR.keep H;replace bo:=a1j bo H;obtain⟨gz,t⟩:∃ g,g=w1.heap.size:=⟨_,rfl⟩;have F:w1.heap.size≤gz:=by rw[t];exact b3
   have Bz:Blk u3 gz 28 #[.bool false,.slice none 0 0,.slice none 0 0]:=by rw[t];exact b2
   clear b2;go_simp;refine hK.out _ _ (hS _ bo.drew) (fun f=>?_);clear hK K;(try simp only[j9]);refine z8 8 rfl fun K hK=>?_;go_simp;have z:Below u3.heap.size u3 u3.drew:=(a3t _ _).drew;replace hx:=hx.below z;replace he:=he.below z;replace hR:=hR.keep z;replace Bz:=Bz.keep z;replace bo:=a1j bo z;go_at_call 45;refine (P0 hx he hfx b7.out (by omega) b6.out).mono ?_;rintro e u4 ⟨v1,rfl,⟨n1,A1,a1,l1,B1,c1,m1,rfl,na,nb,iq⟩,V⟩;replace hR:=hR.keep V;replace Bz:=Bz.keep V;replace bo:=a1j bo V;have E:=a1k iq;clear iq;go_wp2_with fail;refine hK.out _ _ (hS _ bo) (fun f=>?_);clear hK K;(try simp only[j9]);refine P2 9 10 f ?_;refine K4 11 rfl f ?_;refine z8 13 rfl fun K hK=>?_;subst t;have q0:=Bz.free 0;have q1:=Bz.free 1;have q2:=Bz.free 2;have p0:=Bz.f0;have p1:=Bz.f1;have p2:=Bz.f2;go_simp;obtain⟨w9,N,s,o9⟩:=Bz.set3 (.bool n1) (.slice A1 l1.length a1) (.slice B1 m1.length c1);rw[N];replace bo:=o9.to_below bo F bo.size;clear q0 q1 q2 p0 p1 p2;have C:=na.only_blk Bz (k7 _ _ _ _ _ _ _) o9;have D:=nb.only_blk Bz (k7 _ _ _ _ _ _ _) o9;refine hK.out _ _ (hS _ bo) (fun f=>?_);clear hK K
   (try simp only[j9]);refine K4 14 rfl f ?_;refine a4c (by kernel_rfl) ?_ _;refine a3w ?_;(try go_simp);clear f;clear hS dS;have Y:w0.heap.size≠_:=Nat.ne_of_lt (a1o J F);have M:=hR.only o9 Y;have X:=a1j m bo;have z0:=s.f0;have z1:=s.f1;have z2:=s.f2;have k:=M;have c3:=C;have c8:=D;have b0:=E;have y:=X;have p0:=k.f0;have p1:=k.f1;have p2:=k.f2;have q0:=k.free 0;have q1:=k.free 1;have q2:=k.free 2;go_wp2;obtain⟨w8,T,n,o8⟩:=k.set3 (.bool n1) (.slice A1 l1.length a1) (.slice B1 m1.length c1);rw[T];have e0:=n.f0;have e1:=n.f1;have e2:=n.f2;refine a3z (v:=B8 n1 A1 l1.length a1 B1 m1.length c1) (by simp[results,Tryz.results107,go_sem,e0,e1,e2]) rfl ?_;exact⟨_,rfl,⟨n1,A1,a1,l1,B1,c1,m1,rfl,C.only_blk k (k7 _ _ _ _ _ _ _) o8,D.only_blk k (k7 _ _ _ _ _ _ _) o8,E.out⟩,o8.to_below y (a3f B) y.size⟩
 exact a3y
theorem uX {K gm gp gc p j:Nat}{t1 t2 t3:TypeId}{A M:Option Addr}{c cm:Nat}{ds:List FrD}{rows:List RwD}{w:World}(h:FL w A c ds) (hM:Blk w gm t1 #[.slice M rows.length cm]) (hP:Blk w gp t2 #[.int .i64 (p:Int)]) (hJ:Blk w gc t3 #[.int .i64 (j:Int)])
 (hm:ML w M cm rows) (hp:p<rows.length) (hj:∀ r∈rows,j<r.ds.length) (hfx:QFits K (ds.map FrD.q)) (hfm:MFits K (B9 rows)) (hnz:fn (B9 rows) p j≠0) (hK:K+K≤400000000) (hrn:ds.length<1000000000000) :
 Calls Tryz.prog 106 #[.slice A ds.length c,.func (.func 107) #[] #[.pointer (some ⟨gm,0,none⟩),.pointer (some ⟨gp,0,none⟩),.pointer (some ⟨gc,0,none⟩)]] w (RetLs ((ds.map FrD.q).map fun x=>x / fn (B9 rows) p j) w):=by
 have hl:=h.len;obtain⟨qs,n⟩:∃ qs,Hid (((ds.map FrD.q).map fun x=>x / fn (B9 rows) p j)=qs):=⟨_,rfl⟩;have o:=a1k (show qs.length=ds.length by rw[←n.out];simp);rw[n.out];have F:=a1k hfm;have G:=a1k hfx;have N:=a1k hj;have y:=a1k hnz;clear hfm hfx hj hnz;go_enter Tryz.func106,Tryz.ntmps106;go_wp2
 go_loopw [5,7,10] (fun v x i wr=>oW qs w v i wr) (fun _ _ i _=>ds.length-(intOf i).toNat)
 case atStart=>exact⟨0,by omega,rfl,LsAt.nil _ _⟩
 case round =>
  obtain⟨k,hk,rfl,f⟩:=hrel;rw[o.out] at hk;have g:=f.bel
  by_cases hkl:k<ds.length
  · have b0:(k:Int)<(ds.length:Int):=by omega
    obtain⟨a,d,rfl,b1,Z,X,b2,fa,D⟩:=(h.below g).at hkl;have O:=a1k (G.out.fr d (a1n D.out))
    have hq:Hid (qs[k]?=some (d.q / fn (B9 rows) p j)):=by
     show _=_
     rw[←n.out,List.map_map,a1r,D.out];rfl
    have R:k<1000000000000:=by omega
    obtain⟨qk,E⟩:∃ q,Hid (d.q / fn (B9 rows) p j=q):=⟨_,rfl⟩;rw[E.out] at hq;obtain⟨w3,Y,s,U,t⟩:=f8 wr #[.bool d.neg,.slice d.a d.la.length d.ca,.slice d.b d.lb.length d.cb] 28;have m:=a1j g s;have x0:=t.f0;have x1:=t.f1;have x2:=t.f2;go_wp2_with fail;refine (pivC_any (fa.below s) (hM.keep m) (hP.keep m) (hJ.keep m) (hm.below m) hp N.out O.out F.out y.out hK).mono ?_;rintro e w4 ⟨v1,rfl,⟨n1,A1,a1,l1,B1,c1,m1,rfl,na,nb,iq⟩,b4⟩;rw[E.out] at iq;replace f:=(f.below s).below b4;obtain⟨os,ho,L,I,l⟩:=f.app R hq.out na nb iq;clear na nb iq
    go_wp2_with (at_builtin;refine G9 rfl rfl _ _ rfl _ _ os rfl ho ⟨w4.heap.size,0,none⟩ 1 ⟨n1,A1,a1,l1,B1,c1,m1⟩ rfl (a4d (heap_alloc_new w4 _)) L I ?_;intro v6 w6 z C)
    have H:=l.out v6 w6 z C;clear l ho C z f;go_wp2;go_roundw
    case rel=>exact⟨k+1,by rw[o.out];omega,by go_num,H⟩
    case measure=>simp[intOf];omega
  · obtain rfl:k=ds.length:=by omega
    have V:decide ((ds.length:Int)<(ds.length:Int))=false:=a1v (by omega);obtain⟨B,cb,es,rfl,T,J⟩:=f.done o.out.symm;go_wp2;go_ret;exact⟨B,cb,es,rfl,T,J,g⟩
theorem Plain.Fits.inv {k:Nat}{q:Rat}(h:Fits k q):Fits k q⁻¹:=by
 have hp:=h.pos;rw[Rat.inv_def]
 by_cases hn:q.num<0
 · rw[←Rat.neg_divInt_neg,show -q.num=(q.num.natAbs:Int) by omega,Rat.divInt_ofNat];exact jY (by have:=h.2;omega) h.1
 · rw[show q.num=((q.num.natAbs:Nat):Int) by omega,Rat.divInt_ofNat];exact jY (by have:=h.2;omega) h.1
theorem Plain.Fits.div {j k:Nat}{p q:Rat}(hp:Fits j p) (hq:Fits k q):Fits (j+k) (p / q):=by
 rw[Rat.div_def];exact hp.mul hq.inv
theorem MFits.get {K:Nat}{M:C4}(h:MFits K M){i:Nat}(hi:i<M.length):QFits K (M.getD i []):=by
 rw[a1l,a1m hi];exact h _ (a1z hi)
theorem QFits.get {K:Nat}{l:List Rat}(h:QFits K l){k:Nat}(hk:k<l.length):Fits K (l.getD k 0):=by
 rw[a1l,a1m hk];exact h _ (a1z hk)
theorem MFits.fn {K n i k:Nat}{M:C4}(h:MFits K M) (hr:E9 M n) (hi:i<M.length) (hk:k<n):Fits K (fn M i k):=(h.get hi).get (by rw[L4 hr hi];exact hk)
theorem eU {K n p c:Nat}{M:C4}(h:MFits K M) (hr:E9 M n) (hp:p<M.length) (hc:c<n):QFits (K+K) (U7 M p c):=fun q hq=>by
 obtain⟨x,hx,rfl⟩:=a2v.1 hq;exact (h.get hp x hx).div (h.fn hr hp hc)
theorem uZ {J K L:Nat}{a b:List Rat}{f:Rat}(ha:QFits J a) (hf:Fits K f) (hb:QFits L b):QFits (J+(K+L)+1) (W4 a f b):=fun q hq=>by
 unfold W4 at hq;obtain⟨i,hi,rfl⟩:=a3j hq;rw[List.getElem_zipWith];exact (ha _ (a1z _)).sub (hf.mul (hb _ (a1z _)))
theorem nQ {K n p c:Nat}{M:C4}(h:MFits K M) (hr:E9 M n) (hp:p<M.length) (hc:c<n):MFits (4*K+1) (O0 M p c):=fun r hr'=>by
 have hh:=eU h hr hp hc;unfold O0 at hr';obtain⟨i,hi,rfl⟩:=a2v.1 hr';rw[a2u] at hi
 split
 · exact hh.mono (by omega)
 · exact (uZ (h.get hi) (h.fn hr hi hc) hh).mono (by omega)
theorem W3 {K row t:Nat}{M:C4}(h:MFits K M) (ht:t<M.length):MFits K (G7 M row t):=fun r hr=>by
 unfold G7 at hr
 simp only[a3b,a3i] at hr
 rcases hr with h3 | rfl | h3 | h3
 · exact h r (a2k h3)
 · exact h.get ht
 · exact h r (a2l (a2k h3))
 · exact h r (a2l h3)
def gK (K:Nat):Nat→Nat
 | 0=>K
 | n+1=>4*gK K n+1
theorem fU (K n:Nat):gK K (n+1)=4*gK K n+1:=rfl
theorem gK_le (K:Nat):∀ n,K≤gK K n:=by
 intro n
 induction n with
 | zero=>exact a1u _
 | succ n ih=>rw[fU];omega
theorem W6 (K:Nat){m n:Nat}(h:m≤n):gK K m≤gK K n:=by
 induction h with
 | refl=>exact a1u _
 | step _ ih=>rw[fU];omega
theorem Z8 {K w:Nat}{M:C4}(h:MFits K M) (hr:E9 M w):∀ n,n≤w→MFits (gK K n) (reduceL M n).1:=by
 intro n
 induction n with
 | zero=>exact fun _=>h
 | succ n ih =>
  intro hn;have h1:=ih (by omega);have h2:=L3 hr n (by omega);rw[O5]
  generalize reduceL M n=S at *
  unfold Z9
  split
  · rename_i hlt
    split
    · rename_i hat
      exact nQ (W3 h1 hat) (R5 h2.rct hat) (by rw[G0 (U8 _ _ _) hat];exact hlt) (by omega)
    · exact h1.mono (by rw[fU];omega)
  · exact h1.mono (by rw[fU];omega)
theorem kT {K w:Nat}{M:C4}(h:MFits K M) (hr:E9 M w):∀ n,n≤w→MFits (gK K n) (x6 M n).1:=by
 intro n
 induction n with
 | zero=>exact fun _=>h
 | succ n ih =>
  intro hn;have h1:=ih (by omega);have h2:=Z6 hr n (by omega);rw[U2]
  generalize x6 M n=S at *
  unfold cS
  cases hf:findFree S.1 S.2 n with
  | none=>exact h1.mono (by rw[fU];omega)
  | some i =>
   have h6:=List.mem_of_find?_eq_some hf;rw[a2u] at h6;exact nQ h1 h2.rct h6 (by omega)
theorem D1 {v u:Value}{p q:Rat}{j k:Nat}{w:World}(hv:FV w v p) (hu:FV w u q) (hj:Fits j p) (hk:Fits k q) (hJ:j+k<400000000) :
 Calls Tryz.prog 32 #[v,u] w (V6 (p-q) w):=by
 have z:=hv;have r:=hu;obtain⟨n1,A,ca,la,B,cb,lb,rfl,na,nb,iq⟩:=hv;obtain⟨n2,C,cc,lc,D,cd,ld,rfl,nc,nd,ir⟩:=hu;clear na nb iq nc nd ir;rw[Rat.sub_eq_add_neg];obtain⟨w0,V,J,n,F⟩:=f8 w #[.bool n1,.slice A la.length ca,.slice B lb.length cb] 28;obtain⟨w1,X,x,m,H⟩:=f8 w0 #[.bool n2,.slice C lc.length cc,.slice D ld.length cd] 28;obtain⟨w2,U,g,T,l⟩:=f8 w1 #[.bool false,.slice none 0 0,.slice none 0 0] 28;have f:=(F.keep x).keep g;have d:=H.keep g;have s:=J.trans (x.mono (a3f n));have c:=a1j s g;have O:=z.below c;have G:=r.below c;have x0:=f.f0;have x1:=f.f1;have x2:=f.f2;have y0:=d.f0;have y1:=d.f1;have y2:=d.f2;have N:Blk3 w2 w1.heap.size 28:=l.b3;have y:Only w2 w2 w1.heap.size:=a4m _ _;have I:w.heap.size<w1.heap.size:=by omega
 have hS:∀ w',Only w2 w' w1.heap.size→w'.cell? ⟨w.heap.size,0,none⟩=some (.bool n1)∧w'.cell? ⟨w.heap.size,1,none⟩=some (.slice A la.length ca)∧w'.cell? ⟨w.heap.size,2,none⟩=some (.slice B lb.length cb)∧w'.cell? ⟨w0.heap.size,0,none⟩=some (.bool n2)∧w'.cell? ⟨w0.heap.size,1,none⟩=some (.slice C lc.length cc)∧w'.cell? ⟨w0.heap.size,2,none⟩=some (.slice D ld.length cd):=fun w' o =>
  have p:=f.only o (Nat.ne_of_lt I);have q:=d.only o (Nat.ne_of_lt m);⟨p.f0,p.f1,p.f2,q.f0,q.f1,q.f2⟩
 obtain⟨d0,d1,d2,d3,d4,d5⟩:=hS _ y.drew;have d6:=y.drew;have d7:=N.drew;clear z r;go_enter Tryz.func32,Tryz.ntmps32;go_wp2_with fail
 go_region_held3 (fun w'=>w'.cell? ⟨w.heap.size,0,none⟩=some (.bool n1)∧w'.cell? ⟨w.heap.size,1,none⟩=some (.slice A la.length ca)∧w'.cell? ⟨w.heap.size,2,none⟩=some (.slice B lb.length cb)∧w'.cell? ⟨w0.heap.size,0,none⟩=some (.bool n2)∧w'.cell? ⟨w0.heap.size,1,none⟩=some (.slice C lc.length cc)∧w'.cell? ⟨w0.heap.size,2,none⟩=some (.slice D ld.length cd)∧Only w2 w' w1.heap.size∧Blk3 w' w1.heap.size 28) (((try go_split_ands);(try dsimp only);(repeat' with_reducible apply And.intro) <;> with_reducible assumption)) (first
  | (go_at_call 55;go_split_ands;(with_reducible refine (neg_any (G.only_blk l (k7 _ _ _ _ _ _ _) (by assumption)) hk (by omega)).mono ?_);rintro e w3 ⟨v3,rfl,L,b3⟩;have q4:=Blk3.keep (by assumption) b3;have b4:=(show Only w2 _ w1.heap.size by assumption).trans (a4n b3 _);obtain⟨f0,f1,f2,f3,f4,f5⟩:=hS _ b4)
  | (go_at_call 27;go_split_ands;(with_reducible refine (J0 (O.only_blk l (k7 _ _ _ _ _ _ _) (by assumption)) L hj hk.neg hJ).mono ?_);rintro e w7 ⟨v,rfl,⟨m0,A1,c1,l1,B1,d1,m1,rfl,ma,mb,hQ⟩,b7⟩;have b8:=(show Only w2 _ w1.heap.size by assumption).trans (a4n b7 _);obtain⟨k0,k1,k2,k3,k4,k5⟩:=hS _ b8;have q8:=Blk3.keep (t:=28) (by assumption) b7;have q9:=q8.set m0 A1 l1.length c1 B1 m1.length d1;obtain⟨qa,qb,qc,qd,qe,qf,qg,b⟩:=id q8;have b9:=((b8.set 0 (.bool m0)).set 1 (.slice A1 l1.length c1)).set 2 (.slice B1 m1.length d1);obtain⟨j0,j1,j2,j3,j4,j5⟩:=hS _ b9;have u0:=b.f0;have u1:=b.f1;have u2:=b.f2;have t0:=b.free 0;have t1:=b.free 1;have t2:=b.free 2))
 clear j0 j1 j2 j3 j4 j5 q9;go_wp2;obtain⟨w9,M,h,o9⟩:=b.set3 (.bool m0) (.slice A1 l1.length c1) (.slice B1 m1.length d1);rw[M];have e0:=h.f0;have e1:=h.f1;have e2:=h.f2;refine a3z (v:=B8 m0 A1 l1.length c1 B1 m1.length d1) (by simp[results,Tryz.results32,go_sem,e0,e1,e2]) rfl ?_;have E:=ma.only_blk b (k7 _ _ _ _ _ _ _) o9;have R:=mb.only_blk b (k7 _ _ _ _ _ _ _) o9;have bT:=(b8.trans o9).to_below c s.size c.size;exact⟨_,rfl,⟨m0,A1,c1,l1,B1,d1,m1,rfl,E,R,hQ⟩,bT⟩
theorem hH {K p j n:Nat}{A:Option Addr}{c:Nat}{rows:List RwD}{w:World}(h:ML w A c rows) (hr:E9 (B9 rows) n) (hp:p<rows.length) (hj:j<n) (hfm:MFits K (B9 rows)) (hnz:fn (B9 rows) p j≠0) (hK:4*K+1<400000000) (hrn:rows.length<1000000000) (hnn:n<1000000000) :
 Calls Tryz.prog 105 #[.slice A rows.length c,.int .i64 (p:Int),.int .i64 (j:Int)] w (RetM (O0 (B9 rows) p j) w):=by
 obtain⟨w0,m5,j3,f2,l2⟩:=f8 w #[.slice A rows.length c] 129;obtain⟨w1,m8,g2,m0,k4⟩:=f8 w0 #[.int .i64 (p:Int)] 3;obtain⟨w2,n4,b0,l7,f0⟩:=f8 w1 #[.int .i64 (j:Int)] 3;have c3:=(l2.keep g2).keep b0;have b1:=k4.keep b0;have h9:=j3.trans (g2.mono (a3f f2));have c8:=a1j h9 b0;have hl:=h.len
 have c9:=a1k (show ∀ r∈rows,r.ds.length=n from fun r b6=>by
  have:=hr r.qs (a2v.2 ⟨r,b6,rfl⟩);rw[a4l] at this;exact this)
 obtain⟨T,hT⟩:∃ T,Hid (O0 (B9 rows) p j=T):=⟨_,rfl⟩;have V:=a1k (show T.length=rows.length by rw[←hT.out,N7,p8]);rw[hT.out];have F:=a1k hfm;have f1:=a1k hnz;have b6:=a1k hr;clear hfm hnz hr;have n7:(p:Int)<(rows.length:Int):=by omega
 obtain⟨a0,r0,rfl,m2,d1,c7,d0⟩:=(h.below c8).at hp;have n3:=c7.len;have f9:=c9.out r0 (a1n d0.out);have z0:w2.cell? ⟨w.heap.size,0,none⟩=some (.slice (some a0) rows.length c):=c3.v0;have z1:=b1.v0;have g7:=a1k (show ∀ r∈rows,j<r.ds.length from fun r hr=>by rw[c9.out r hr];exact hj);have f6:=a1k (F.out.row d0.out);have Z:=a1k f9;clear f9;go_enter Tryz.func105,Tryz.ntmps105;go_wp2_with fail;refine (uX c7 c3 b1 f0 (h.below c8) hp g7.out f6.out F.out f1.out (by omega) (by rw[Z.out];omega)).mono ?_;rintro e w3 ⟨H,ch,hs,rfl,U,c0,b3⟩;have g8:=a1j c8 b3
 have C:=a1k (show hs.map FrD.q=U7 (B9 rows) p j by
  rw[c0.out];unfold U7;rw[a1l (l:=B9 rows)];unfold B9;rw[a1r,d0.out];rfl)
 have O:=a1k (show hs.length=n by rw[←a1s (f:=FrD.q),c0.out,a1s,a1s,Z.out]);have n8:=U.len;obtain⟨eH,zH,rfl,-⟩:=U.at (k:=0) (by rw[O.out];omega);have d3:=a1k (show QFits (K+K) (hs.map FrD.q) by rw[C.out];exact eU F.out b6.out (by rw[p8];exact hp) hj);have h0:=c3.keep b3;have k0:=b1.keep b3;have k2:=f0.keep b3;clear z0 z1 c0 d1 c7;have z0:=h0.v0;go_wp2
 go_loopw [8,21] (fun v i wr=>yK T w3 v i wr) (fun _ i _=>rows.length-(intOf i).toNat)
 case atStart=>exact⟨0,by omega,rfl,MtAt.start _ (a3t _ _)⟩
 case round =>
  obtain⟨k,hk,rfl,d⟩:=hrel;rw[V.out] at hk;have D:=d.bel;have d7:=a1j g8 D;have h6:=k0.keep D;have g9:=k2.keep D;have z1:=h6.v0;clear z0
  by_cases hkl:k<rows.length
  · obtain⟨a1,r,f4,m6,d6,b5,J⟩:=(h.below d7).at hkl;have ea:a1=a0:=by injection f4 with e;exact e.symm
    have n6:(k:Int)<(rows.length:Int):=by omega
    have R:k<1000000000000:=by omega
    have n0:=b5.len;rw[ea] at d6;clear ea f4
    by_cases hkp:k=p
    · have k1:((k:Int) == (p:Int))=true:=by rw[beq_iff_eq];omega
      have hq:Hid (T[k]?=some (RwD.qs ⟨some eH,ch,hs⟩)):=by
       show _=some (hs.map FrD.q)
       rw[←hT.out,C.out];unfold O0;rw[a1r,a2t (by rw[p8];exact hkl)]
       simp[hkp]
      have L:=U.below D;clear hkp;obtain⟨os,ho,M,N,m⟩:=d.app (r:=⟨some eH,ch,hs⟩) R hq.out L
      go_wp2_with (at_builtin;go_loud (refine J1 rfl Tryz.underlying129 rfl _ _ rfl _ _ os rfl ho ⟨wr.heap.size,0,none⟩ 1 ⟨some eH,ch,hs⟩ rfl (M6 wr ⟨some eH,ch,hs⟩) M N ?_;intro v6 w6 E t))
      have s:=m.out v6 w6 E t;clear m ho t E d;go_wp2;go_roundw
      case rel=>exact⟨k+1,by rw[V.out];omega,by go_num,s⟩
      case measure=>simp[intOf];omega
    · have k1:((k:Int) == (p:Int))=false:=by rw[beq_eq_false_iff_ne];omega
      have I:=a1k (c9.out r (a1n J.out));have m3:r.ds.length<1000000000:=by rw[I.out];exact hnn
      have m4:=sK wr r.ds.length (by rw[I.out];omega);obtain⟨qs,b9⟩:∃ qs,Hid (W4 (r.ds.map FrD.q) (fn (B9 rows) k j) (U7 (B9 rows) p j)=qs):=⟨_,rfl⟩
      have hq:Hid (T[k]?=some qs):=by
       show _=_
       rw[←hT.out,←b9.out];unfold O0;rw[a1r,a2t (by rw[p8];exact hkl)]
       show some (if k=p then _ else _)=_
       rw[if_neg hkp,a1l (l:=B9 rows)];unfold B9;rw[a1r,J.out];rfl
      have c4:=a1k (show qs.length=r.ds.length by rw[←b9.out];unfold W4;rw[a3o,←C.out,a1s,a1s,O.out,I.out,Nat.min_self]);have f3:=a1k d;have d5:=hq;obtain⟨vM,l3⟩:∃ x:Value,x=x:=⟨.bool true,rfl⟩;clear hkp d hq l3 vM;obtain⟨wo,g1⟩:∃ wo:World,wo=wr:=⟨_,rfl⟩;have d9:=LsAt.make (qs:=qs) (n:=r.ds.length) (a3t wr.heap.size wr) (by rw[I.out];omega);rw[←g1] at d9;subst g1;have f5:=a1k (F.out.row J.out);have d8:=g7.out r (a1n J.out);obtain⟨b,y,eb,c2,h5,j2,k6,hy,g4⟩:=b5.at d8
      have l4:=a1k (show fn (B9 rows) k j=y.q by
       unfold fn B9;rw[a1l (l:=rows.map _),a1r,J.out]
       show (r.ds.map FrD.q).getD j 0=_
       rw[a1l,a1r,g4.out];rfl)
      have g0:=a1k (f5.out.fr y (a1n g4.out));rw[eb] at d6;have j1:=hy;have n5:(j:Int)<(r.ds.length:Int):=by omega
      clear hy;go_wp2
      go_loopw [11,12,38] (fun v x i wr=>oW qs wo v i wr) (fun _ _ i _=>r.ds.length-(intOf i).toNat)
      case atStart=>exact⟨0,by omega,rfl,d9⟩
      case round =>
       obtain⟨kk,h8,rfl,d⟩:=hrel;rw[c4.out] at h8;have X:=d.bel
       by_cases hkkl:kk<r.ds.length
       · obtain⟨a,x,ea,b7,j5,j4,l5,hx,d2⟩:=b5.at hkkl;have l6:a=b:=by rw[eb] at ea;injection ea with e;exact e.symm
         subst l6;obtain⟨e,z,ee,b4,h7,k5,k3,hz,g3⟩:=(U.below D).at (k:=kk) (by rw[O.out,←I.out];exact hkkl);have j0:e=eH:=by injection ee with e';exact e'.symm
         subst j0;clear ee;have l9:(kk:Int)<(r.ds.length:Int):=by omega
         have l8:(kk:Int)<(hs.length:Int):=by rw[O.out,←I.out];omega
         have l0:=a1k (f5.out.fr x (a1n d2.out));have g6:=a1k (d3.out.fr z (a1n g3.out))
         have hq:Hid (qs[kk]?=some (x.q-y.q*z.q)):=by
          show _=_
          rw[←b9.out,l4.out,←C.out];unfold W4;rw[List.getElem?_zipWith,a1r,a1r,d2.out,g3.out];rfl
         obtain⟨qk,g5⟩:∃ q,Hid (x.q-y.q*z.q=q):=⟨_,rfl⟩;rw[g5.out] at hq;have R:kk<1000000000000:=by omega
         have h1:=g9;have hy:=j1.below X;replace hx:=hx.below X;replace hz:=hz.below X;have bT:=d.bel
         have hS:∀ w',Below wo.heap.size wo w'→w'.cell? (a.add (kk*3))=some (.bool x.neg)∧w'.cell? ⟨(a.add (kk*3)).block,(a.add (kk*3)).off+1,none⟩=some (.slice x.a x.la.length x.ca)∧w'.cell? ⟨(a.add (kk*3)).block,(a.add (kk*3)).off+2,none⟩=some (.slice x.b x.lb.length x.cb)∧w'.cell? (a.add (j*3))=some (.bool y.neg)∧w'.cell? ⟨(a.add (j*3)).block,(a.add (j*3)).off+1,none⟩=some (.slice y.a y.la.length y.ca)∧w'.cell? ⟨(a.add (j*3)).block,(a.add (j*3)).off+2,none⟩=some (.slice y.b y.lb.length y.cb)∧w'.cell? (e.add (kk*3))=some (.bool z.neg)∧w'.cell? ⟨(e.add (kk*3)).block,(e.add (kk*3)).off+1,none⟩=some (.slice z.a z.la.length z.ca)∧w'.cell? ⟨(e.add (kk*3)).block,(e.add (kk*3)).off+2,none⟩=some (.slice z.b z.lb.length z.cb)∧w'.cell? ⟨w1.heap.size,0,none⟩=some (.int .i64 (j:Int))∧Below wo.heap.size wo w':=by
          intro w' o;have h4:=h1.keep o;exact⟨(o.cell (by show (a.add (kk*3)).block<_;rw[f7];exact b7)).trans j5,(o.cell (by show (a.add (kk*3)).block<_;rw[f7];exact b7)).trans j4,(o.cell (by show (a.add (kk*3)).block<_;rw[f7];exact b7)).trans l5,(o.cell (by show (a.add (j*3)).block<_;rw[f7];exact c2)).trans h5,(o.cell (by show (a.add (j*3)).block<_;rw[f7];exact c2)).trans j2,(o.cell (by show (a.add (j*3)).block<_;rw[f7];exact c2)).trans k6,(o.cell (by show (e.add (kk*3)).block<_;rw[f7];exact b4)).trans h7,(o.cell (by show (e.add (kk*3)).block<_;rw[f7];exact b4)).trans k5,(o.cell (by show (e.add (kk*3)).block<_;rw[f7];exact b4)).trans k3,h4.v0,o⟩
         have bo:Below wo.heap.size wo wr:=d.bel;have dS:Below wo.heap.size wo wr.drew:=bo.drew;go_wp2_with fail;refine a3u ?_;refine a3v (S:=fun w'=>w'.cell? (a.add (kk*3))=some (.bool x.neg)∧w'.cell? ⟨(a.add (kk*3)).block,(a.add (kk*3)).off+1,none⟩=some (.slice x.a x.la.length x.ca)∧w'.cell? ⟨(a.add (kk*3)).block,(a.add (kk*3)).off+2,none⟩=some (.slice x.b x.lb.length x.cb)∧w'.cell? (a.add (j*3))=some (.bool y.neg)∧w'.cell? ⟨(a.add (j*3)).block,(a.add (j*3)).off+1,none⟩=some (.slice y.a y.la.length y.ca)∧w'.cell? ⟨(a.add (j*3)).block,(a.add (j*3)).off+2,none⟩=some (.slice y.b y.lb.length y.cb)∧w'.cell? (e.add (kk*3))=some (.bool z.neg)∧w'.cell? ⟨(e.add (kk*3)).block,(e.add (kk*3)).off+1,none⟩=some (.slice z.a z.la.length z.ca)∧w'.cell? ⟨(e.add (kk*3)).block,(e.add (kk*3)).off+2,none⟩=some (.slice z.b z.lb.length z.cb)∧w'.cell? ⟨w1.heap.size,0,none⟩=some (.int .i64 (j:Int))∧Below wo.heap.size wo w') (by kernel_rfl) (hS _ dS) (fun g=>?_);refine mX 0 1 2 3 4 5 6 7 g ?_;refine mS 8 9 10 11 g ?_;refine K4 12 rfl g ?_;refine z8 13 rfl fun K hK=>?_
         go_simp;have G:Below wr.heap.size wr wr.drew:=(a3t _ _).drew;replace hx:=hx.below G;replace hy:=hy.below G;replace hz:=hz.below G;replace d:=d.below G;replace bT:=a1j bT G;replace bo:=a1j bo G;go_at_call 34;refine (O7 hy hz g0.out g6.out (by omega)).mono ?_;rintro e u1 ⟨v1,rfl,fm,Y⟩;replace hx:=hx.below Y;replace d:=d.below Y;replace bT:=a1j bT Y;replace bo:=a1j bo Y;go_wp2_with fail;refine hK.out _ _ (hS _ bo) (fun g=>?_);clear hK K;(try simp only[j9]);refine z8 14 rfl fun K hK=>?_;go_simp;go_at_call 32;refine (D1 hx fm l0.out (g0.out.mul g6.out) (by omega)).mono ?_;rintro e u2 ⟨v2,rfl,⟨n1,A1,a1,l1,B1,c1,m1,rfl,na,nb,iq⟩,c5⟩;replace d:=d.below c5;replace bT:=a1j bT c5;replace bo:=a1j bo c5;rw[g5.out] at iq;clear fm;go_wp2_with fail;refine hK.out _ _ (hS _ bo) (fun g=>?_);clear hK K;(try simp only[j9]);refine z8 15 rfl fun K hK=>?_;obtain⟨os,ho,M,N,m⟩:=d.app R hq.out na nb iq;clear na nb iq;have n2:=bT;obtain⟨u3,b2,h3,m9,h2⟩:=f8 u2 #[.bool n1,.slice A1 l1.length a1,.slice B1 m1.length c1] 28
         replace bo:=a1j bo h3;go_simp;refine hK.out _ _ (hS _ bo) (fun g=>?_);clear hK K;(try simp only[j9]);refine z8 16 rfl fun K hK=>?_;refine cK rfl _ _ rfl rfl wo.heap.size _ os rfl (by rw[←b2];exact ho) ⟨u2.heap.size,0,none⟩ 1 ⟨n1,A1,a1,l1,B1,c1,m1⟩ rfl (a4d h2) M (by rw[←b2];exact N) ?_;intro v6 w6 E t;rw[←b2] at t;have s:=m.out v6 w6 E t;replace bo:=s.bel;clear m ho t E;refine hK.out _ _ (hS _ bo) (fun g=>?_);clear hK K;(try simp only[j9]);refine K4 17 rfl g ?_;refine a4c (by kernel_rfl) ?_ _;refine a3w ?_;(try go_simp);clear g;clear hS dS bo;go_wp2;go_roundw
         case rel=>exact⟨kk+1,by rw[c4.out];omega,by go_num,s⟩
         case measure=>simp[intOf];omega
       · obtain rfl:kk=r.ds.length:=by omega
         have d4:decide ((r.ds.length:Int)<(r.ds.length:Int))=false:=a1v (by omega);obtain⟨B,cb,es,rfl,L,b8⟩:=d.done c4.out.symm
         have hq:Hid (T[k]?=some (RwD.qs ⟨B,cb,es⟩)):=by
          show _=some (es.map FrD.q)
          rw[d5.out,b8.out]
         clear d d5;have d:=f3.out.below X;clear f3;obtain⟨os,ho,M,N,m⟩:=d.app (r:=⟨B,cb,es⟩) R hq.out L
         go_wp2_with (at_builtin;go_loud (refine J1 rfl Tryz.underlying129 rfl _ _ rfl _ _ os rfl ho ⟨wr.heap.size,0,none⟩ 1 ⟨B,cb,es⟩ rfl (M6 wr ⟨B,cb,es⟩) M N ?_;intro v6 w6 E t))
         have s:=m.out v6 w6 E t;clear m ho t E d;go_wp2;go_roundw
         case rel=>exact⟨k+1,by rw[V.out];omega,by go_num,s⟩
         case measure=>simp[intOf];omega
  · obtain rfl:k=rows.length:=by omega
    have d4:decide ((rows.length:Int)<(rows.length:Int))=false:=a1v (by omega);obtain⟨B,cb,es,rfl,L,b8⟩:=d.done V.out.symm;go_wp2;go_ret;exact⟨B,cb,es,rfl,L,b8,d7⟩
def lF (M:C4) (r c:Int):C4 × Int :=
 if A0 M=false then ([],2) else if r<0∨(M.length:Int)≤r∨c<0∨(colsL M:Int)≤c then ([],4) else if fn M r.toNat c.toNat=0 then ([],8) else (O0 M r.toNat c.toNat,0)
def RetME (R:C4 × Int) (W:World) (e:Ending) (w':World):Prop:=∃ A c rows,e=.returned (.tuple #[.slice A rows.length c,.int .i64 R.2])∧ML w' A c rows∧Hid (B9 rows=R.1)∧Below W.heap.size W w'
theorem RetME.err {n:Int}{W:World}{e:Ending}{w':World}{R:C4 × Int}(hR:R=([],n)) (he:e=.returned (.tuple #[.slice none 0 0,.int .i64 n])) (hb:Below W.heap.size W w'):RetME R W e w':=by
 subst hR;exact⟨none,0,[],he,ML.nil _,rfl,hb⟩
theorem zS {M:C4}{r c:Int}(h:A0 M=false):lF M r c=([],2):=by unfold lF;rw[if_pos h]
theorem aD {M:C4}{r c:Int}(h:A0 M=true) (h2:r<0∨(M.length:Int)≤r∨c<0∨(colsL M:Int)≤c):lF M r c=([],4):=by unfold lF;rw[if_neg (by rw[h];decide),if_pos h2]
theorem zR {M:C4}{p j:Nat}(h:A0 M=true) (hp:p<M.length) (hj:j<colsL M) (h2:fn M p j=0):lF M p j=([],8):=by
 unfold lF;rw[if_neg (by rw[h];decide),if_neg (by omega),if_pos (by simpa using h2)]
theorem xF {M:C4}{p j:Nat}(h:A0 M=true) (hp:p<M.length) (hj:j<colsL M) (h2:fn M p j≠0):lF M p j=(O0 M p j,0):=by
 unfold lF;rw[if_neg (by rw[h];decide),if_neg (by omega),if_neg (by simpa using h2)];simp
end Go.Proofs.YtjhkapjadfpimaaGreat
