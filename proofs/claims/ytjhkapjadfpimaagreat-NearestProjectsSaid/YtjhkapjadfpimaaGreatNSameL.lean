/- Contracts of functions, for the law. -/
import Derived.Test.YtjhkapjadfpimaaGreatNPnt
import Derived.Test.YtjhkapjadfpimaaGreatNNew
namespace Go.Proofs.YtjhkapjadfpimaaGreat
set_option linter.unusedVariables false
set_option linter.unusedSimpArgs false
open Go.RowKit Plain
attribute [local go_sem ↓] Go.wp_at_zero Go.wp_at_succ
set_option maxRecDepth 100000
set_option maxHeartbeats 40000000
theorem dY {w:World}{g:Nat}(h:Blk w g 46 #[.slice none 0 0,.slice none 0 0,.slice none 0 0,.slice none 0 0,.bool false,.slice none 0 0,.slice none 0 0]):w.cell? ⟨g,0,none⟩=some (.slice none 0 0)∧w.cell? ⟨g,1,none⟩=some (.slice none 0 0)∧w.cell? ⟨g,2,none⟩=some (.slice none 0 0)∧w.cell? ⟨g,3,none⟩=some (.slice none 0 0)∧w.cell? ⟨g,4,none⟩=some (.bool false)∧w.cell? ⟨g,5,none⟩=some (.slice none 0 0)∧w.cell? ⟨g,6,none⟩=some (.slice none 0 0)∧w.frozen? ⟨g,0,none⟩=false∧w.frozen? ⟨g,1,none⟩=false∧w.frozen? ⟨g,2,none⟩=false∧w.frozen? ⟨g,3,none⟩=false∧w.frozen? ⟨g,4,none⟩=false∧w.frozen? ⟨g,5,none⟩=false∧w.frozen? ⟨g,6,none⟩=false ∧
 w.setCell ⟨g,0,none⟩ (.slice none 0 0)=w∧w.setCell ⟨g,1,none⟩ (.slice none 0 0)=w∧w.setCell ⟨g,2,none⟩ (.slice none 0 0)=w∧w.setCell ⟨g,3,none⟩ (.slice none 0 0)=w∧w.setCell ⟨g,4,none⟩ (.bool false)=w∧w.setCell ⟨g,5,none⟩ (.slice none 0 0)=w∧w.setCell ⟨g,6,none⟩ (.slice none 0 0)=w :=
 ⟨a4e h 0,a4e h 1,a4e h 2,a4e h 3,a4e h 4,a4e h 5,a4e h 6,a4g h 0,a4g h 1,a4g h 2,a4g h 3,a4g h 4,a4g h 5,a4g h 6,Blk.same h (i:=0) rfl,Blk.same h (i:=1) rfl,Blk.same h (i:=2) rfl,Blk.same h (i:=3) rfl,Blk.same h (i:=4) rfl,Blk.same h (i:=5) rfl,Blk.same h (i:=6) rfl⟩
theorem iM {n p:Nat}{v:Int}(hv:v.natAbs≤1):∀ q∈I2 n p (v:Rat),intQ 1 q:=fun q hq=>by
 obtain⟨i,hi,rfl⟩:=a2v.1 hq
 split
 · exact⟨v,rfl,hv⟩
 · exact⟨0,rfl,by decide⟩
theorem N9 {z:Int}(h:z.natAbs<18446744073709551616):Fits 2 (z:Rat):=by
 refine⟨?_,?_⟩
 · rw[Rat.num_intCast];have:pw 2=18446744073709551616:=rfl;omega
 · rw[Rat.den_intCast];decide
theorem dF {ns:List NdD}{ms:List Int}(h:ms.length≤8∧ns.length≤300∧(∀ m∈ms,0≤m∧m≤1000000)∧∀ d∈ns,0≤d.p∧d.p<2 ^ ms.length∧-1099511627776≤d.l∧d.l≤1099511627776):ConI ms.length (o0 ns ms):=by
 obtain⟨h1,h2,h3,h4⟩:=h
 have b:∀ c∈o0 ns ms,c.normal.length=ms.length∧(∀ q∈c.normal,intQ 1 q)∧Fits 2 c.least:=fun c hc=>by
  unfold o0 at hc
  rcases a3b.1 hc with hc | hc
  · rcases a3b.1 hc with hc | hc
    · obtain⟨d,hd,rfl⟩:=a2v.1 hc;have h5:=h4 d hd;exact⟨P6 _ _ _,iM (v:=1) (by decide),N9 (by omega)⟩
    · obtain⟨i,hi,rfl⟩:=a2v.1 hc;exact⟨P6 _ _ _,iM (v:=1) (by decide),Fits.zero (by decide)⟩
  · obtain⟨i,hi,rfl⟩:=a2v.1 hc;have f:=a2u.1 hi;refine⟨P6 _ _ _,iM (v:=-1) (by decide),N9 ?_⟩;have h5:=h3 (ms.getD i 0) (by rw[a1l,a1m f];exact a1z f);omega
 exact⟨fun c hc=>(b c hc).1,fun c hc=>(b c hc).2.1,fun c hc=>(b c hc).2.2⟩
def PtIn (x:PtD) (lo hi:Nat):Prop:=∀ a,(x.pay.a=some a∨x.mults.a=some a∨x.low.a=some a∨x.high.a=some a)→lo≤a.block∧a.block<hi
theorem PtIn.mono {x:PtD}{lo hi lo' hi':Nat}(h:PtIn x lo hi) (h1:lo'≤lo) (h2:hi≤hi'):PtIn x lo' hi':=fun a ha=>⟨a1t h1 (h a ha).1,a1o (h a ha).2 h2⟩
theorem PtL.farP {w w':World}{g:Nat}{t:TypeId}{cs:Array Value}{x:PtD}(h:PtL w x) (hne:∀ a,(x.pay.a=some a∨x.mults.a=some a∨x.low.a=some a∨x.high.a=some a)→a.block≠g) (hB:Blk w g t cs) (hd:NoDig cs) (ho:Only w w' g):PtL w' x :=
 ⟨h.pay.far (fun a e=>hne a (.inl e)) hB hd ho,h.mults.far (fun a e=>hne a (.inr (.inl e))) hB hd ho,h.low.far (fun a e=>hne a (.inr (.inr (.inl e)))) hB hd ho,h.high.far (fun a e=>hne a (.inr (.inr (.inr e)))) hB hd ho,h.lev.only_blk hB hd ho⟩
def D8 (ns:List NdD) (ms:List Int) (t:St):List Rat:=G3 (o0 ns ms).length (t.active.zip t.mults)
def PrjPost (tg:List FrD) (ns:List NdD) (ms:List Int) (sq:Rat) (lo:Nat) (e:Ending) (w':World):Prop :=
 (argsE tg.length ns ms≠0∧e=.returned (.tuple #[.agg #[.slice none 0 0,.slice none 0 0,.slice none 0 0,.slice none 0 0,.bool false,.slice none 0 0,.slice none 0 0],.int .i64 (argsE tg.length ns ms)])) ∨
 (argsE tg.length ns ms=0∧Infeas ms.length (o0 ns ms) sq∧e=.returned (.tuple #[.agg #[.slice none 0 0,.slice none 0 0,.slice none 0 0,.slice none 0 0,.bool false,.slice none 0 0,.slice none 0 0],.int .i64 6])) ∨
 (argsE tg.length ns ms=0∧∃ (t:St) (x:PtD),Best ms.length (o0 ns ms) (tg.map FrD.q) sq t∧e=.returned (.tuple #[x.v,.int .i64 0])∧PtL w' x∧PtIn x lo w'.heap.size∧x.pay.qs=t.x∧x.mults.qs=(D8 ns ms t).take ns.length∧x.low.qs=((D8 ns ms t).drop ns.length).take ms.length∧x.high.qs=(D8 ns ms t).drop (ns.length+ms.length)∧x.lev.q=t.level)
def wI (tg:List FrD) (ns:List NdD) (ms:List Int) (sq:Rat) (W:World) (e:Ending) (w':World):Prop:=Hid (PrjPost tg ns ms sq W.heap.size e w')∧Below W.heap.size W w'
theorem pX {A B C:Option Addr}{ca cb cc Kt:Nat}{tg:List FrD}{ns:List NdD}{ms:List Int}{v:Value}{sq:Rat}{w:World}(ht0:FL w A ca tg) (hn0:NL w B cb ns) (hm0:ZL w C cc ms) (hv0:FV w v sq) (hKt0:2≤Kt) (hKt:Kt≤6000000) (hft0:QFits Kt (tg.map FrD.q)) (hfs0:Fits 2 sq)
 (hrun0:argsE tg.length ns ms=0→∃ f,(fN KN (o0 ns ms) (tg.map FrD.q) sq ms.length f=some none∧Infeas ms.length (o0 ns ms) sq)∨∃ t,fN KN (o0 ns ms) (tg.map FrD.q) sq ms.length f=some (some t)∧Best ms.length (o0 ns ms) (tg.map FrD.q) sq t) :
 Calls Tryz.prog 12 #[.slice A tg.length ca,.slice B ns.length cb,.slice C ms.length cc,v] w (wI tg ns ms sq w):=by
 obtain⟨sv,rfl,d1,g5⟩:=hv0.frd;obtain⟨E,hE⟩:∃ E,Hid (argsE tg.length ns ms=E):=⟨_,rfl⟩;have d2:=a1k hft0;have d8:=a1k hrun0;have d0:=a1k hfs0;obtain⟨w0,j0,b0,l0,B0⟩:=f8 w #[.bool sv.neg,.slice sv.a sv.la.length sv.ca,.slice sv.b sv.lb.length sv.cb] 28;obtain⟨w1,j1,b1,l1,B1⟩:=f8 w0 #[.slice none 0 0,.slice none 0 0,.slice none 0 0,.slice none 0 0,.bool false,.slice none 0 0,.slice none 0 0] 46;have b7:=a1j b0 b1;have g2:VarQ w1 w.heap.size sv:=a4f B0 b1;have g8:=ht0.len;have X:=tL (A:=A) (w:=w1) (tl:=tg.length) (ca:=ca) g8 (hn0.below b7) (hm0.below b7);rw[hE.out] at X;clear hft0 hfs0 hrun0;go_enter Tryz.func12,Tryz.ntmps12;go_wp2_with fail;refine X.mono ?_;rintro e w2 ⟨rfl,b2⟩;clear X;have k:=a1j b7 b2;have g3:=g2.below b2;have H:Blk w2 w0.heap.size 46 #[.slice none 0 0,.slice none 0 0,.slice none 0 0,.slice none 0 0,.bool false,.slice none 0 0,.slice none 0 0]:=a4f B1 b2
 by_cases hE0:E=0
 · have h7:(E != 0)=false:=by rw[bne_eq_false_iff_eq];exact hE0
   have h:=a1k (show argsE tg.length ns ms=0 from hE.out.trans hE0);obtain⟨k1,k2,k3,k4,k5⟩:=K3 h.out;have D:=a1k (show ms.length≤8∧ns.length≤300∧(∀ m∈ms,0≤m∧m≤1000000)∧∀ d∈ns,0≤d.p∧d.p<2 ^ ms.length∧-1099511627776≤d.l∧d.l≤1099511627776 from ⟨k1,k2,k4,k5⟩);have b6:=a1k k3;have d5:=a1k (dF D.out);obtain⟨f,d3⟩:=d8.out h.out;have hf:=a1k d3;have g0:=mV (w:=w2) (ht0.below k) (hn0.below k) (hm0.below k) (d1.below k) D.out b6.out;obtain⟨x0,x1,x2⟩:=g3.cells;clear k1 k2 k3 k4 k5 d3 hE0;go_wp2_with fail;refine g0.mono ?_;rintro e w3 ⟨S,lv,rfl,R,d6,c,L,d9,c5,b3⟩;clear g0 x0 x1 x2;have d4:=a1k (show w0.heap.size<w2.heap.size from H.lt);have V:=a1k d9;have o:=a1k c5;have h8:=a1j k b3;have j2:=a4f H b3;have J:=a1k (show ConI S.n (S.cs.map CoD.con) by rw[L.out,c.out.1];exact d5.out);have Y:=a1k (show S.n≤8 by rw[c.out.1];exact D.out.1);have s:=a1k (show S.sum.q=sq by rw[c.out.2.2];exact g5.out);clear d9 c5
   rcases hf.out with ⟨G,U⟩ | ⟨t,G,F⟩
   · have b8:=a1k U;have I:=kL (Kt:=Kt) (B:=w2.heap.size) (f0:=f) (r:=none) hKt0 hKt R J.out Y.out (by rw[c.out.1];exact b6.out) ⟨d6.out,rfl,rfl⟩ d2.out (by rw[s.out];exact d0.out) (by rw[L.out,s.out,c.out.1];exact G) V.out o.out;clear G U R;go_wp2_with fail;refine I.mono ?_;rintro e w4 ⟨s4,rfl,-,-,b4⟩;clear I;have g7:(none:Option St).isSome=false:=rfl;have y:Below w2.heap.size w2 w4:=b3.trans b4;have Z:=a1j k y;have N:=a4f H y;obtain⟨z0,z1,z2,z3,z4,z5,z6,f0,f1,f2,f3,f4,f5,f6,s0,s1,s2,s3,s4,s5,s6⟩:=dY N;go_wp2;refine a3z (v:=.tuple #[.agg #[.slice none 0 0,.slice none 0 0,.slice none 0 0,.slice none 0 0,.bool false,.slice none 0 0,.slice none 0 0],.int .i64 6]) (by simp[results,Tryz.results12,go_sem,z0,z1,z2,z3,z4,z5,z6]) rfl ?_;exact⟨.inr (.inl ⟨h.out,b8.out,rfl⟩),Z⟩
   · have g:=a1k F;have I:=kL (Kt:=Kt) (B:=w2.heap.size) (f0:=f) (r:=some t) hKt0 hKt R J.out Y.out (by rw[c.out.1];exact b6.out) ⟨d6.out,rfl,rfl⟩ d2.out (by rw[s.out];exact d0.out) (by rw[L.out,s.out,c.out.1];exact G) V.out o.out;clear G F R;go_wp2_with fail;refine I.mono ?_;rintro e w4 ⟨s4,rfl,M,c3,b4⟩;clear I;have T:=a1k (c3.out t rfl);have g7:(some t).isSome=true:=rfl;have y:Below w2.heap.size w2 w4:=b3.trans b4;have Z:=a1j k y;have N:=a4f H y;have c2:=a1k (show S.cs.length=(o0 ns ms).length by rw[←L.out,a1s]);have O:=a1k (show s4.ia=t.active by rw[←T.out];rfl);have c0:=a1k (show s4.dm.map FrD.q=t.mults by rw[←T.out];rfl);have c4:=zQ M (by rw[c2.out,I9,c.out.1,c.out.2.1]) (by rw[c.out.2.1];exact D.out.2.1) Y.out (by rw[O.out,c2.out];exact g.out.hA) (by have h1:=g.out.lm;rw[←c0.out,a1s] at h1;rw[O.out];exact h1) (by rw[O.out];exact g.out.act D.out.1) (by rw[c0.out];exact g.out.fit.2.2);have c9:=a1k (show S.gx<w4.heap.size from a1o M.b.hx M.b.hR);clear M;go_wp2_with fail;refine c4.mono ?_;rintro e w5 ⟨x,rfl,hx,g9,j,b5⟩;clear c4;have c7:=a1j Z b5;have z:=a4f N b5
     obtain⟨w9,z0,z1,z2,z3,z4,z5,z6,f0,f1,f2,f3,f4,f5,f6,e9,h9,o9⟩:=Q9 z x;obtain⟨t0,t1,t2,t3,t4,t5,t6⟩:=h9.cells;have b9:=a1k (show w0.heap.size<w4.heap.size from N.lt);have g1:=a1k (show PtL w9 x from ⟨hx.pay.far (fun a e=>by have h1:=j.out.1 a e;have h2:=o.out;have h3:=d4.out;omega) z I5 o9,hx.mults.far (fun a e=>by have h1:=(j.out.2.1 a e).1;have h3:=b9.out;omega) z I5 o9,hx.low.far (fun a e=>by have h1:=(j.out.2.2.1 a e).1;have h3:=b9.out;omega) z I5 o9,hx.high.far (fun a e=>by have h1:=(j.out.2.2.2 a e).1;have h3:=b9.out;omega) z I5 o9,hx.lev.only_blk z I5 o9⟩);have d7:=a1k (show w2.heap.size≤w4.heap.size from y.size);have f9:=a1k (show w4.heap.size≤w5.heap.size from b5.size);have g4:=a1k (show w.heap.size<w0.heap.size from l0)
     have c8:=a1k (show PtIn x w.heap.size w9.heap.size from fun a ha=>by
      have h0:=o9.size;have h1:=o.out;have h2:=d4.out;have h3:=c9.out;have h4:=d7.out;have h5:=f9.out;have h6:=g4.out
      rcases ha with e | e | e | e
      · have h9:=j.out.1 a e;omega
      · have h9:=j.out.2.1 a e;omega
      · have h9:=j.out.2.2.1 a e;omega
      · have h9:=j.out.2.2.2 a e;omega)
     have g6:=o9.to_below c7 b0.size c7.size;go_wp2;refine a3z (v:=.tuple #[x.v,.int .i64 0]) (by simp[results,Tryz.results12,go_sem,t0,t1,t2,t3,t4,t5,t6]) rfl ?_;obtain⟨q1,q2,q3,q4,q5⟩:=g9.out;have e1:G3 S.cs.length (s4.ia.zip (s4.dm.map FrD.q))=D8 ns ms t:=by rw[c2.out,O.out,c0.out];rfl
     rw[e1,c.out.2.1] at q2;rw[e1,c.out.1,c.out.2.1] at q3;rw[e1,c.out.1,c.out.2.1] at q4;exact⟨.inr (.inr ⟨h.out,t,x,g.out,rfl,g1.out,c8.out,by rw[q1,←T.out];rfl,q2,q3,q4,by rw[q5,←T.out];rfl⟩),g6⟩
 · have h7:(E != 0)=true:=by rw[bne_iff_ne];exact hE0
   have h:=a1k (show argsE tg.length ns ms≠0 by rw[hE.out];exact hE0);obtain⟨z0,z1,z2,z3,z4,z5,z6,f0,f1,f2,f3,f4,f5,f6,s0,s1,s2,s3,s4,s5,s6⟩:=dY H;go_wp2;refine a3z (v:=.tuple #[.agg #[.slice none 0 0,.slice none 0 0,.slice none 0 0,.slice none 0 0,.bool false,.slice none 0 0,.slice none 0 0],.int .i64 E]) (by simp[results,Tryz.results12,go_sem,z0,z1,z2,z3,z4,z5,z6]) rfl ?_;exact⟨.inl ⟨h.out,by rw[hE.out]⟩,k⟩
theorem N6 {A B C:Option Addr}{ca cb cc:Nat}{tg:List FrD}{ns:List NdD}{ms:List Int}{v:Value}{sq:Rat}{w:World}(ht0:FL w A ca tg) (hn0:NL w B cb ns) (hm0:ZL w C cc ms) (hv0:FV w v sq) (hft0:QFits 2 (tg.map FrD.q)) (hfs0:Fits 2 sq) :
 Calls Tryz.prog 12 #[.slice A tg.length ca,.slice B ns.length cb,.slice C ms.length cc,v] w (wI tg ns ms sq w) :=
 pX (Kt:=2) ht0 hn0 hm0 hv0 (by decide) (by decide) hft0 hfs0 fun hE=>by
  obtain⟨k1,k2,k3,k4,k5⟩:=K3 hE;exact proj_ok (dF ⟨k1,k2,k4,k5⟩) k1 hft0 hfs0 (by rw[a1s];exact k3)
structure Poss (n:Nat) (all:List Con) (sum:Rat) (u:List Rat):Prop where
 len:u.length=n
 tot:ip n (fun _=>1) (gt u)=sum
 ok:∀ k,k<all.length→lst all k≤ip n (gt (nrm all k)) (gt u)
section
variable {n:Nat}{all:List Con}{tg:List Rat}{sum:Rat}{t t':St}{u:List Rat}
theorem Infeas.no (h:Infeas n all sum) (hu:Poss n all sum u):False:=h u hu.len hu.tot hu.ok
theorem xS (n:Nat) (all:List Con) (A:List Nat) (x:Nat→Rat):ip n (fn (j8 n all A) 0) x=ip n (fun _=>1) x :=
 D3 (a':=fun _=>1) (b':=x) (fun i hi=>S7 n all A hi) fun _ _=>rfl
theorem Best.poss (h:Best n all tg sum t):Poss n all sum t.x:=by
 refine⟨h.lx,?_,h.ok⟩;have h1:=h.pt.eqs 0 (by omega);rw[xS] at h1;exact h1
theorem Best.nearest (h:Best n all tg sum t) (hu:Poss n all sum u):R8 n tg t.x+R8 n t.x u≤R8 n tg u:=by
 refine h.pt.nearest (u:=gt u) (fun _=>?_) (fun j h0 hj=>?_) fun j h0 hj=>?_
 · rw[xS];exact hu.tot
 · obtain⟨i,rfl⟩:∃ i,j=i+1:=⟨j-1,by omega⟩;rw[I6];exact h.nn i (by have:=h.lm;omega)
 · obtain⟨i,rfl⟩:∃ i,j=i+1:=⟨j-1,by omega⟩;have hi:i<t.active.length:=by omega
   rw[eZ hi,Q4 hi];exact hu.ok _ (h.hA _ (a1z hi))
theorem dist_eq {x u:List Rat}(hx:x.length=n) (hu:u.length=n) (h:R8 n x u≤0):u=x:=by
 have h1:ip n (fun i=>gt u i-gt x i) (fun i=>gt u i-gt x i)=0:=Rat.le_antisymm h (jV n _);refine R6 (by omega) fun j hj=>?_;have h2:=S6 h1 j (by omega)
 grind
theorem Best.only (h:Best n all tg sum t) (hu:Poss n all sum u) (hd:R8 n tg u≤R8 n tg t.x):u=t.x:=by
 have h1:=h.nearest hu;exact dist_eq h.lx hu.len (by grind)
end
theorem fH (a b:Nat) (f:Nat→Rat):sm (a+b) f=sm a f+sm b (fun i=>f (a+i)):=by
 induction b with
 | zero=>show sm a f=sm a f+0;grind
 | succ b ih =>
  show sm (a+b) f+f (a+b)=sm a f+(sm b (fun i=>f (a+i))+f (a+b))
  rw[ih];grind
theorem gt_addAt {l:List Rat}{p:Nat × Rat}(hp:p.1<l.length) (k:Nat):gt (aX l p) k=gt l k+p.2*dl p.1 k:=by
 unfold aX gt dl
 by_cases e:p.1=k
 · subst e;rw[if_pos rfl,a1l,List.getElem?_set_self hp]
   show _+_=_+_*1
   rw[Rat.mul_one]
 · rw[if_neg e,a1l,List.getElem?_set_ne e,←a1l]
   grind
theorem nG {L:Nat}{ps:List (Nat × Rat)}(hp:∀ p∈ps,p.1<L) (f:Nat→Rat):∀ j,j≤ps.length→sm L (fun k=>gt (G3 L (ps.take j)) k*f k)=sm j (fun i=>(ps.getD i (0,0)).2*f (ps.getD i (0,0)).1):=by
 intro j
 induction j with
 | zero =>
  intro _;refine B7 fun k hk=>?_
  have:gt (G3 L (ps.take 0)) k=0:=by
   show (List.replicate L (0:Rat)).getD k 0=0
   rw[p7 0 (by simpa using hk)];simp
  rw[this];grind
 | succ j ih =>
  intro hj;have hg:ps[j]?=some (ps.getD j (0,0)):=by rw[a1l,a1m (show j<ps.length by omega)];rfl
  have b:(ps.getD j (0,0)).1<L:=hp _ (a1n hg);rw[V8 hg];rw[j7 (g:=fun k=>gt (G3 L (ps.take j)) k*f k+dl (ps.getD j (0,0)).1 k*((ps.getD j (0,0)).2*f k)) (fun k hk=>by rw[gt_addAt (by rw[Z2];exact b)];grind)];rw[bK,ih (by omega),K6 _ b];rfl
theorem nH {L k:Nat}{ps:List (Nat × Rat)}(hp:∀ p∈ps,p.1<L) (hk:k<L):gt (G3 L ps) k=sm ps.length (fun i=>(ps.getD i (0,0)).2*dl (ps.getD i (0,0)).1 k):=by
 have h:=nG hp (fun i=>dl i k) ps.length (a1u _);rw[a2z,M3 _ hk] at h;exact h
theorem dl_pos (i j:Nat):0≤dl i j:=by unfold dl;split <;> decide
section
variable {ns:List NdD}{ms:List Int}{tg:List Rat}{sum:Rat}{t:St}
theorem bit_two {k i:Nat}(hk:k<8) (hi:i<8):M8 (2 ^ k) i=decide (k=i):=by
 have c:∀ a b:Fin 8,M8 (2 ^ a.val) b.val=decide (a.val=b.val):=by decide +kernel
 exact c ⟨k,hk⟩ ⟨i,hi⟩
theorem fR {n p i:Nat}{v:Rat}(hi:i<n):gt (I2 n p v) i=if M8 p i=true then v else 0:=by
 unfold gt;rw[a1l,nB hi];rfl
theorem eW {n k i:Nat}{v:Rat}(hn:n≤8) (hk:k<n) (hi:i<n):gt (I2 n (2 ^ k) v) i=v*dl k i:=by
 rw[fR hi,bit_two (by omega) (by omega)];unfold dl
 by_cases e:k=i
 · rw[if_pos e,if_pos (by simpa using e),Rat.mul_one]
 · rw[if_neg e,if_neg (by simpa using e),Rat.mul_zero]
theorem M7 {k:Nat}(hk:k<ns.length):nrm (o0 ns ms) k=I2 ms.length (eO ns k) 1∧lst (o0 ns ms) k=((lOf ns k:Int):Rat):=by
 have h:=oT (ms:=ms) (a1m hk);have e:ns.getD k ⟨0,0⟩=ns[k]:=by rw[a1l,a1m hk];rfl
 refine⟨?_,?_⟩
 · rw[Q1 h];unfold eO;rw[e]
 · rw[eR h];unfold lOf;rw[e]
theorem Q7 {i:Nat}(hi:i<ms.length):nrm (o0 ns ms) (ns.length+i)=I2 ms.length (2 ^ i) 1∧lst (o0 ns ms) (ns.length+i)=0 :=
 ⟨Q1 (mO hi),eR (mO hi)⟩
theorem X1 {i:Nat}(hi:i<ms.length):nrm (o0 ns ms) (ns.length+ms.length+i)=I2 ms.length (2 ^ i) (-1)∧lst (o0 ns ms) (ns.length+ms.length+i)=((-(ms.getD i 0):Int):Rat):=by
 have h:ms[i]?=some (ms.getD i 0):=by rw[a1l,a1m hi];rfl
 exact⟨Q1 (qT h),eR (qT h)⟩
theorem iL {n k:Nat}{v:Rat}(hn:n≤8) (hk:k<n) (x:Nat→Rat):ip n (gt (I2 n (2 ^ k) v)) x=v*x k:=by
 unfold ip;rw[j7 (g:=fun i=>dl k i*(v*x i)) (fun i hi=>by rw[eW hn hk hi];grind),K6 _ hk]
theorem pZ {p:Nat}{pay:List Rat}{n:Nat}(hl:pay.length=n):o5 (K7 p pay)=ip n (gt (I2 n p 1)) (gt pay):=by
 rw[V7,X6,hl];unfold ip;refine j7 fun i hi=>?_;have b:i<pay.length:=by omega
 have:gt (K7 p pay) i=if M8 p i=true then gt pay i else 0:=by
  unfold gt;rw[a1l,iD (a1m b),p7 0 b];rfl
 rw[this,fR hi]
 by_cases e:M8 p i=true
 · rw[if_pos e,if_pos e,Rat.one_mul]
 · rw[if_neg e,if_neg e,Rat.zero_mul]
theorem O6 {u:List Rat}(hn:ms.length≤8):Poss ms.length (o0 ns ms) sum u ↔ u.length=ms.length∧o5 u=sum∧(∀ k,k<ns.length→((lOf ns k:Int):Rat)≤o5 (K7 (eO ns k) u))∧(∀ i,i<ms.length→0≤gt u i)∧∀ i,i<ms.length→gt u i≤((ms.getD i 0:Int):Rat):=by
 have ht:∀ hl:u.length=ms.length,o5 u=ip ms.length (fun _=>1) (gt u):=fun hl=>by
  rw[V7,hl];unfold ip;exact j7 fun i _=>by grind
 constructor
 · intro h;refine⟨h.len,by rw[ht h.len];exact h.tot,fun k hk=>?_,fun i hi=>?_,fun i hi=>?_⟩
   · have h1:=h.ok k (by rw[I9];omega);rw[(M7 hk).1,(M7 hk).2] at h1;rw[pZ h.len];exact h1
   · have h1:=h.ok (ns.length+i) (by rw[I9];omega);rw[(Q7 hi).1,(Q7 hi).2,iL hn hi] at h1
     grind
   · have h1:=h.ok (ns.length+ms.length+i) (by rw[I9];omega);rw[(X1 hi).1,(X1 hi).2,iL hn hi,Rat.intCast_neg] at h1
     grind
 · rintro ⟨h1,h2,h3,h4,h5⟩;refine⟨h1,by rw[←ht h1];exact h2,fun k hk=>?_⟩;rw[I9] at hk
   by_cases e1:k<ns.length
   · rw[(M7 e1).1,(M7 e1).2,←pZ h1];exact h3 k e1
   · by_cases e2:k<ns.length+ms.length
     · obtain⟨i,rfl⟩:∃ i,k=ns.length+i:=⟨k-ns.length,by omega⟩;have hi:i<ms.length:=by omega
       rw[(Q7 hi).1,(Q7 hi).2,iL hn hi];have:=h4 i hi;grind
     · obtain⟨i,rfl⟩:∃ i,k=ns.length+ms.length+i:=⟨k-(ns.length+ms.length),by omega⟩;have hi:i<ms.length:=by omega
       rw[(X1 hi).1,(X1 hi).2,iL hn hi,Rat.intCast_neg];have:=h5 i hi;grind
theorem fB {al:List Nat}{qs:List Rat}(h:qs.length=al.length){i:Nat}(hi:i<al.length):(al.zip qs).getD i (0,0)=(al.getD i 0,gt qs i):=by
 unfold gt;rw[p7 (0,0) (by rw[List.length_zip];omega),p7 0 hi,p7 0 (by omega),List.getElem_zip]
theorem Best.zipA (h:Best ms.length (o0 ns ms) tg sum t):∀ p∈t.active.zip t.mults,p.1<(o0 ns ms).length:=fun p hp=>h.hA _ (List.of_mem_zip hp).1
theorem Best.zipL (h:Best ms.length (o0 ns ms) tg sum t):(t.active.zip t.mults).length=t.active.length:=by rw[List.length_zip,h.lm,Nat.min_self]
theorem Best.sp_nn (h:Best ms.length (o0 ns ms) tg sum t){k:Nat}(hk:k<(o0 ns ms).length):0≤gt (D8 ns ms t) k:=by
 unfold D8;rw[nH h.zipA hk,h.zipL];refine cN fun i hi=>Rat.mul_nonneg ?_ (dl_pos _ _);rw[fB h.lm hi];exact h.nn i (by rw[h.lm];exact hi)
theorem Best.sp_tight (h:Best ms.length (o0 ns ms) tg sum t){k:Nat}(hk:k<(o0 ns ms).length) (hne:gt (D8 ns ms t) k≠0):ip ms.length (gt (nrm (o0 ns ms) k)) (gt t.x)=lst (o0 ns ms) k:=by
 by_cases e:∃ i,i<t.active.length∧t.active.getD i 0=k
 · obtain⟨i,hi,b⟩:=e;have h1:=h.pt.eqs (i+1) (by omega);rw[Q4 hi,eZ hi] at h1;rw[p7 0 hi] at b;rw[b] at h1;exact h1
 · exfalso;apply hne
   unfold D8;rw[nH h.zipA hk,h.zipL];refine B7 fun i hi=>?_;rw[fB h.lm hi];have:t.active.getD i 0≠k:=fun e'=>e ⟨i,hi,e'⟩;unfold dl;rw[if_neg this];grind
theorem Best.slack (h:Best ms.length (o0 ns ms) tg sum t){k:Nat}(hk:k<(o0 ns ms).length){b:Bool}(hb:ip ms.length (gt (nrm (o0 ns ms) k)) (gt t.x)=lst (o0 ns ms) k→b=true):D4 (gt (D8 ns ms t) k) b=true:=by
 unfold D4
 by_cases e:gt (D8 ns ms t) k=0
 · rw[a1w e];rfl
 · have h1:=h.sp_nn hk
   have h2:0<gt (D8 ns ms t) k:=by
    rcases Rat.le_iff_lt_or_eq.1 h1 with h3 | h3
    · exact h3
    · exact absurd h3.symm e
   rw[hb (h.sp_tight hk e),a1w h2];simp
theorem jW {l:List Rat}{m k:Nat}(hk:k<m):(l.take m).getD k 0=gt l k:=by
 unfold gt;rw[a1l,a2w,if_pos hk,←a1l]
theorem vG {l:List Rat}{m n i:Nat}(hi:i<n):((l.drop m).take n).getD i 0=gt l (m+i):=by
 rw[jW hi];unfold gt;rw[a1l,a2x,←a1l]
theorem qI {l:List Rat}{m i:Nat}:(l.drop m).getD i 0=gt l (m+i):=by
 unfold gt;rw[a1l,a2x,←a1l]
theorem Best.force (h:Best ms.length (o0 ns ms) tg sum t) (hn:ms.length≤8){i:Nat}(hi:i<ms.length) :
 gt t.x i-gt tg i=t.level+gt (D8 ns ms t) (ns.length+i)-gt (D8 ns ms t) (ns.length+ms.length+i)+o5 (F7 ns ((D8 ns ms t).take ns.length) i):=by
 have h1:=h.pt.kkt i hi
 have h2:lc (t.active.length+1) (gt (t.level::t.mults)) (fn (j8 ms.length (o0 ns ms) t.active)) i=t.level+sm t.active.length (fun j=>gt t.mults j*gt (nrm (o0 ns ms) (t.active.getD j 0)) i):=by
  unfold lc;rw[W0,S7 _ _ _ hi]
  congr 1
  · show t.level*1=_;rw[Rat.mul_one]
  · exact j7 fun j hj=>by rw[Q4 hj,I6,p7 0 hj]
 have h3:=nG h.zipA (fun k=>gt (nrm (o0 ns ms) k) i) _ (a1u _);rw[a2z,h.zipL] at h3
 have h4:sm t.active.length (fun j=>gt t.mults j*gt (nrm (o0 ns ms) (t.active.getD j 0)) i)=sm (o0 ns ms).length (fun k=>gt (D8 ns ms t) k*gt (nrm (o0 ns ms) k) i):=by
  unfold D8;rw[h3];exact j7 fun j hj=>by rw[fB h.lm hj]
 have h5:sm (o0 ns ms).length (fun k=>gt (D8 ns ms t) k*gt (nrm (o0 ns ms) k) i)=o5 (F7 ns ((D8 ns ms t).take ns.length) i)+gt (D8 ns ms t) (ns.length+i)-gt (D8 ns ms t) (ns.length+ms.length+i):=by
  rw[I9,fH,fH]
  have e1:sm ns.length (fun k=>gt (D8 ns ms t) k*gt (nrm (o0 ns ms) k) i)=o5 (F7 ns ((D8 ns ms t).take ns.length) i):=by
   rw[V7,Q3];refine j7 fun k hk=>?_;unfold gt;rw[a1l (l:=F7 _ _ _),aO hk]
   show _=if M8 (eO ns k) i=true then ((D8 ns ms t).take ns.length).getD k 0 else 0
   rw[jW hk,(M7 hk).1];have:=fR (p:=eO ns k) (v:=1) hi
   unfold gt at this ⊢
   rw[this]
   by_cases e:M8 (eO ns k) i=true
   · rw[if_pos e,if_pos e,Rat.mul_one]
   · rw[if_neg e,if_neg e,Rat.mul_zero]
  have e2:sm ms.length (fun k=>gt (D8 ns ms t) (ns.length+k)*gt (nrm (o0 ns ms) (ns.length+k)) i)=gt (D8 ns ms t) (ns.length+i):=by
   rw[j7 (g:=fun k=>gt (D8 ns ms t) (ns.length+k)*dl k i) (fun k hk=>by rw[(Q7 hk).1,eW hn hk hi,Rat.one_mul]),M3 (fun k=>gt (D8 ns ms t) (ns.length+k)) hi]
  have e3:sm ms.length (fun k=>gt (D8 ns ms t) (ns.length+ms.length+k)*gt (nrm (o0 ns ms) (ns.length+ms.length+k)) i)=- gt (D8 ns ms t) (ns.length+ms.length+i):=by
   rw[j7 (g:=fun k=>(-gt (D8 ns ms t) (ns.length+ms.length+k))*dl k i) (fun k hk=>by rw[(X1 hk).1,eW hn hk hi];grind),M3 (fun k=>-gt (D8 ns ms t) (ns.length+ms.length+k)) hi]
  rw[e1,e2,e3];grind
 rw[h2,h4,h5] at h1
 grind
theorem Best.cert (h:Best ms.length (o0 ns ms) tg sum t) (hn:ms.length≤8):P4 tg ns ms sum t.x ((D8 ns ms t).take ns.length) (((D8 ns ms t).drop ns.length).take ms.length) ((D8 ns ms t).drop (ns.length+ms.length)) t.level=true:=by
 have hL:(D8 ns ms t).length=ns.length+ms.length+ms.length:=by unfold D8;rw[Z2,I9]
 obtain⟨p1,p2,p3,p4,p5⟩:=(O6 hn).1 h.poss;refine tG ?_ (fun i hi=>?_) p2 (fun k hk=>?_) fun i hi=>?_
 · unfold cC;rw[a1w p1,a1w (by rw[a2c,a2d,hL];omega),a1w (by rw[a2d,hL];omega),a1w (by rw[a2c,hL];omega)];rfl
 · unfold dX;have a1:¬ t.x.getD i 0<0:=Rat.not_lt.2 (p4 i hi);have a2:¬ ((ms.getD i 0:Int):Rat)<t.x.getD i 0:=Rat.not_lt.2 (p5 i hi);rw[a1v a1,a1v a2,vG hi,qI]
   rw[h.slack (by rw[I9];omega) (fun e=>by
    rw[(Q7 hi).1,(Q7 hi).2,iL hn hi,Rat.one_mul] at e;exact a1w e)]
   rw[h.slack (by rw[I9];omega) (fun e=>by
    rw[(X1 hi).1,(X1 hi).2,iL hn hi,Rat.intCast_neg] at e;refine a1w ?_
    show gt t.x i=_
    grind)];rfl
 · unfold gH;have a1:¬ o5 (K7 (eO ns k) t.x)<((lOf ns k:Int):Rat):=Rat.not_lt.2 (p3 k hk);rw[a1v a1,jW hk]
   rw[h.slack (by rw[I9];omega) (fun e=>by
    rw[(M7 hk).1,(M7 hk).2,←pZ p1] at e;exact a1w e)];rfl
 · unfold V2;rw[vG hi,qI];exact a1w (h.force hn hi)
end
def K1 (zs:List Int):List Rat:=zs.map fun z:Int=>(z:Rat)
theorem tR {l:List Rat}(h:l.length=2):∃ a b,l=[a,b]:=by
 match l,h with
 | [a,b],_=>exact⟨a,b,rfl⟩
theorem gG (p q a b:Rat):R8 2 [p,q] [a,b]=(a-p)*(a-p)+(b-q)*(b-q):=by
 show 0+(a-p)*(a-p)+(b-q)*(b-q)=_
 grind
theorem pC (a b:Rat):o5 [a,b]=a+b:=by
 show 0+a+b=_
 grind
def V5:List NdD:=[⟨3,10⟩]
theorem tC:Poss 2 (o0 V5 [6,6]) 10 [5,5]:=(O6 (ns:=V5) (ms:=[6,6]) (by decide)).2 (by decide +kernel)
theorem tB:Poss 2 (o0 [] [10,2]) 6 [4,2]:=(O6 (ns:=[]) (ms:=[10,2]) (by decide)).2 (by decide +kernel)
theorem ex_x1 {t:St}(h:Best 2 (o0 V5 [6,6]) [4,4] 10 t):t.x=[5,5]:=by
 have hp:=(O6 (ns:=V5) (ms:=[6,6]) (by decide)).1 h.poss;obtain⟨a,b,e⟩:=tR hp.1;have hs:=hp.2.1;refine (h.only tC ?_).symm;rw[e] at hs ⊢;rw[pC] at hs;rw[gG,gG];have h1:=gT (a-5);have h2:b=10-a:=by grind
 subst h2
 grind
theorem ex_x2 {t:St}(h:Best 2 (o0 [] [10,2]) [1,1] 6 t):t.x=[4,2]:=by
 have hp:=(O6 (ns:=[]) (ms:=[10,2]) (by decide)).1 h.poss;obtain⟨a,b,e⟩:=tR hp.1;have hs:=hp.2.1;have hu:=hp.2.2.2.2 1 (by decide);refine (h.only tB ?_).symm;rw[e] at hs hu ⊢;rw[pC] at hs;have hb:b≤2:=hu;rw[gG,gG];have h1:0≤(2-b)*(4-b):=Rat.mul_nonneg (by grind) (by grind);have h2:a=6-b:=by grind
 subst h2
 grind
theorem ex_x3 {t:St}(h:Best 2 (o0 V5 [4,4]) [4,4] 10 t):False:=by
 have hp:=(O6 (ns:=V5) (ms:=[4,4]) (by decide)).1 h.poss;obtain⟨a,b,e⟩:=tR hp.1;have hs:=hp.2.1;have h0:=hp.2.2.2.2 0 (by decide);have h1:=hp.2.2.2.2 1 (by decide);rw[e] at hs h0 h1;rw[pC] at hs;have ha:a≤4:=h0;have hb:b≤4:=h1
 grind
theorem ex_a1 {t:St}(h:Best 2 (o0 V5 [6,6]) [4,4] 10 t):t.active=[]∧t.mults=[]∧t.level=1:=by
 have hx:=ex_x1 h
 have ha:t.active=[]:=by
  cases hA:t.active with
  | nil=>rfl
  | cons a A =>
   exfalso
   have h1:=h.pt.eqs 1 (by rw[hA];simp);have h2:=h.hA a (by rw[hA];exact a2o)
   have h3:fn (j8 2 (o0 V5 [6,6]) t.active) 1=gt (nrm (o0 V5 [6,6]) a):=by
    have:=Q4 (n:=2) (all:=o0 V5 [6,6]) (A:=t.active) (j:=0) (by rw[hA];simp);rw[this];simp[hA]
   have h4:gt (10::t.active.map (lst (o0 V5 [6,6]))) 1=lst (o0 V5 [6,6]) a:=by rw[hA];rfl
   rw[h3,h4,hx] at h1;have h5:(o0 V5 [6,6]).length=5:=by decide +kernel
   rw[h5] at h2;have f:∀ k:Fin 5,k.val≠0→ip 2 (gt (nrm (o0 V5 [6,6]) k.val)) (gt [5,5])≠lst (o0 V5 [6,6]) k.val:=by decide +kernel
   have d:a=0:=by
    by_cases e:a=0
    · exact e
    · exact absurd h1 (f ⟨a,h2⟩ e)
   subst d;have c:=h.li (by decide)
   have h6:=c (fun j=>if j=0 then 1 else if j=1 then -1 else 0) (fun i hi=>by
    unfold lc;rw[hA]
    show sm (A.length+1+1) _=0
    rw[W0,W0]
    rw[B7 (n:=A.length) fun k hk=>by
     show (if k+1+1=0 then (1:Rat) else if k+1+1=1 then -1 else 0)*_=0
     rw[if_neg (by omega),if_neg (by omega),Rat.zero_mul]]
    show (1:Rat)*fn (j8 2 (o0 V5 [6,6]) (0::A)) 0 i+((-1)*fn (j8 2 (o0 V5 [6,6]) (0::A)) 1 i+0)=0
    rw[S7 _ _ _ hi,Q4 (A:=0::A) (j:=0) (by simp)]
    show (1:Rat)*1+((-1)*gt (nrm (o0 V5 [6,6]) 0) i+0)=0
    have b:∀ i:Fin 2,gt (nrm (o0 V5 [6,6]) 0) i.val=1:=by decide +kernel
    rw[b ⟨i,hi⟩];grind) 0 (by omega)
   simp at h6
 have hm:t.mults=[]:=a2a (by rw[h.lm,ha];rfl);refine⟨ha,hm,?_⟩;have h1:=h.pt.kkt 0 (by decide);rw[hx,ha] at h1
 have h2:lc 1 (gt (t.level::t.mults)) (fn (j8 2 (o0 V5 [6,6]) [])) 0=t.level:=by
  show 0+t.level*fn (j8 2 (o0 V5 [6,6]) []) 0 0=_
  rw[S7 _ _ _ (by decide)];grind
 have h3:gt ([5,5]:List Rat) 0=gt ([4,4]:List Rat) 0+lc 1 (gt (t.level::t.mults)) (fn (j8 2 (o0 V5 [6,6]) [])) 0+0*0:=h1;rw[h2] at h3;have h4:(5:Rat)=4+t.level+0*0:=h3
 grind
theorem xE {tg:List FrD}{lo:Nat}{e:Ending}{w':World}(hq:tg.map FrD.q=K1 [4,4]) (h:PrjPost tg V5 [6,6] 10 lo e w') :
 ∃ x:PtD,e=.returned (.tuple #[x.v,.int .i64 0])∧PtL w' x∧PtIn x lo w'.heap.size∧x.pay.qs=K1 [5,5]∧x.mults.qs=K1 [0]∧x.low.qs=K1 [0,0]∧x.high.qs=K1 [0,0]∧x.lev.q=1:=by
 have hl:tg.length=2:=by have:=congrArg List.length hq;rw[a1s] at this;exact this
 have c:tg.map FrD.q=[4,4]:=hq.trans (by decide +kernel)
 rcases h with ⟨h1,-⟩ | ⟨-,h1,-⟩ | ⟨-,t,x,hb,he,hx,b,q1,q2,q3,q4,q5⟩
 · rw[hl] at h1;exact absurd (by decide +kernel) h1
 · exact (h1.no tC).elim
 · rw[c] at hb;obtain⟨a1,a2,a3⟩:=ex_a1 hb;have d:=ex_x1 hb;have hs:D8 V5 [6,6] t=[0,0,0,0,0]:=by unfold D8;rw[a1,a2];decide +kernel
   rw[hs] at q2 q3 q4;exact⟨x,he,hx,b,by rw[q1,d];decide +kernel,by rw[q2];decide +kernel,by rw[q3];decide +kernel,by rw[q4];decide +kernel,by rw[q5,a3]⟩
theorem prj_ex2 {tg:List FrD}{lo:Nat}{e:Ending}{w':World}(hq:tg.map FrD.q=K1 [1,1]) (h:PrjPost tg [] [10,2] 6 lo e w') :
 ∃ x:PtD,e=.returned (.tuple #[x.v,.int .i64 0])∧PtL w' x∧PtIn x lo w'.heap.size∧x.pay.qs=K1 [4,2]:=by
 have hl:tg.length=2:=by have:=congrArg List.length hq;rw[a1s] at this;exact this
 have c:tg.map FrD.q=[1,1]:=hq.trans (by decide +kernel)
 rcases h with ⟨h1,-⟩ | ⟨-,h1,-⟩ | ⟨-,t,x,hb,he,hx,b,q1,-⟩
 · rw[hl] at h1;exact absurd (by decide +kernel) h1
 · exact (h1.no tB).elim
 · rw[c] at hb;exact⟨x,he,hx,b,by rw[q1,ex_x2 hb];decide +kernel⟩
theorem xD {tg:List FrD}{lo:Nat}{e:Ending}{w':World}(hq:tg.map FrD.q=K1 [4,4]) (h:PrjPost tg V5 [4,4] 10 lo e w') :
 e=.returned (.tuple #[.agg #[.slice none 0 0,.slice none 0 0,.slice none 0 0,.slice none 0 0,.bool false,.slice none 0 0,.slice none 0 0],.int .i64 6]):=by
 have hl:tg.length=2:=by have:=congrArg List.length hq;rw[a1s] at this;exact this
 have b:tg.map FrD.q=[4,4]:=hq.trans (by decide +kernel)
 rcases h with ⟨h1,-⟩ | ⟨-,-,h1⟩ | ⟨-,t,x,hb,-⟩
 · rw[hl] at h1;exact absurd (by decide +kernel) h1
 · exact h1
 · rw[b] at hb;exact (ex_x3 hb).elim
theorem qQ:G8 (K1 [4,4]) V5 [6,6] 10 (K1 [5,5]) (K1 [0]) (K1 [0,0]) (K1 [0,0]) 1=0:=by decide +kernel
theorem qP:G8 (K1 [4,4]) V5 [6,6] 10 (K1 [4,6]) (K1 [0]) (K1 [0,0]) (K1 [0,0]) 1=13:=by decide +kernel
theorem vN:o5 (dsq (K1 [1,2]) (K1 [4]))=13:=by decide +kernel
def RetLs2 (qs:List Rat) (W:World) (e:Ending) (w':World):Prop:=∃ A c ds,e=.returned (.slice A ds.length c)∧FL w' A c ds∧Hid (ds.map FrD.q=qs)∧Below W.heap.size W w'∧∀ a,A=some a→W.heap.size≤a.block∧a.block<w'.heap.size
theorem r9 {A:Option Addr}{c:Nat}{zs:List Int}{w:World}(h:IL w A zs) (hb:∀ z∈zs,-9223372036854775808≤z∧z≤9223372036854775807) (hl:zs.length≤1000000) (hc:c≤9223372036854775807) (hlc:zs.length≤c) :
 Calls Tryz.prog 13 #[.slice A zs.length c] w (RetLs2 (zs.map (fun z:Int=>(z:Rat))) w):=by
 obtain⟨qs,j⟩:∃ qs,Hid (zs.map (fun z:Int=>(z:Rat))=qs):=⟨_,rfl⟩;have m:=a1k (show qs.length=zs.length by rw[←j.out,a1s]);have D:=a1k hb;clear hb;rw[j.out];go_enter Tryz.func13,Tryz.ntmps13;go_wp2
 go_loopw [3,8] (fun v i wr=>oW qs w v i wr) (fun _ i _=>zs.length-(intOf i).toNat)
 case atStart=>exact⟨0,by omega,rfl,LsAt.nil _ _⟩
 case round =>
  obtain⟨k,hk,rfl,b⟩:=hrel;rw[m.out] at hk;have g:=b.bel
  by_cases hkl:k<zs.length
  · obtain⟨a,rfl,G,t⟩:=(h.below g).at hkl;obtain⟨z,hz⟩:∃ z,Hid (zs.getD k 0=z):=⟨_,rfl⟩
    have p:-9223372036854775808≤z∧z≤9223372036854775807:=by
     rw[←hz.out];exact D.out _ (by rw[a1l,a1m hkl];exact a1z hkl)
    rw[hz.out] at t;have hq:=a1k (show qs[k]?=some ((fun z:Int=>(z:Rat)) z) by rw[←j.out,←hz.out];exact ints_get hkl);have F:(k:Int)<(zs.length:Int):=by omega
    have y:k<1000000000000:=by omega
    go_wp2_with fail;refine (t9 z _ p.1 p.2).mono ?_;rintro e w4 ⟨v1,rfl,⟨n1,A1,a1,l1,B1,c1,m1,rfl,na,nb,iq⟩,b1⟩;replace b:=b.below b1;obtain⟨os,ho,x,r,d⟩:=b.app y hq.out na nb iq;clear na nb iq
    go_wp2_with (at_builtin;refine G9 rfl rfl _ _ rfl _ _ os rfl ho ⟨w4.heap.size,0,none⟩ 1 ⟨n1,A1,a1,l1,B1,c1,m1⟩ rfl (a4d (heap_alloc_new w4 _)) x r ?_;intro v6 w6 n o)
    have q:=d.out v6 w6 n o;clear d ho o n b;go_wp2;go_roundw
    case rel=>exact⟨k+1,by rw[m.out];omega,by go_num,q⟩
    case measure=>simp[intOf];omega
  · obtain rfl:k=zs.length:=by omega
    have E:decide ((zs.length:Int)<(zs.length:Int))=false:=a1v (by omega);obtain⟨B,cb,es,rfl,C,s,f⟩:=b.done2 m.out.symm;have l:=a1k f;clear f;go_wp2;go_ret;exact⟨B,cb,es,rfl,C,s,g,l.out⟩
theorem gV {A B:Option Addr}{ca cb:Nat}{ds es:List FrD}{w:World}(ha:FL w A ca ds) (hb:FL w B cb es) :
 Calls Tryz.prog 9 #[.slice A ds.length ca,.slice B es.length cb] w (gJ (decide (ds.map FrD.q=es.map FrD.q)) w):=by
 have g1:=ha.len;have g2:=hb.len;obtain⟨v,hv⟩:∃ v,Hid (decide (ds.map FrD.q=es.map FrD.q)=v):=⟨_,rfl⟩;rw[hv.out]
 by_cases hl:ds.length=es.length
 · have z:(((ds.length:Nat):Int) != ((es.length:Nat):Int))=false:=by rw[bne_eq_false_iff_eq];omega
   have E:=a1k hl;have J:ds.length≤es.length:=by omega
   clear hl;go_enter Tryz.func9,Tryz.ntmps9;go_wp2
   go_loopw [5] (fun i wr=>PairInv (ds.map FrD.q) (es.map FrD.q) w i wr) (fun i _=>ds.length-(intOf i).toNat)
   case atStart=>exact⟨0,by omega,rfl,rfl,a3t _ _⟩
   case round =>
    obtain⟨k,hk,rfl,n,g⟩:=hrel;rw[a1s] at hk
    by_cases hkl:k<ds.length
    · obtain⟨a,d,rfl,m,x,s,D,fa,C⟩:=(ha.below g).at (k:=k) hkl;obtain⟨b,f,rfl,l,t,y,F,fb,r⟩:=(hb.below g).at (k:=k) (by omega);have I:(k:Int)<(ds.length:Int):=by omega
      have H:(k:Int)<(es.length:Int):=by omega
      have x1:=a1k (map_some (f:=FrD.q) C.out);have x2:=a1k (map_some (f:=FrD.q) r.out);obtain⟨qb,j⟩:∃ b,Hid (decide (d.q=f.q)=b):=⟨_,rfl⟩;have bT:=a3t wr.heap.size wr
      have hS:∀ w',Below wr.heap.size wr w'→w'.cell? (a.add (k*3))=some (.bool d.neg)∧w'.cell? ⟨(a.add (k*3)).block,(a.add (k*3)).off+1,none⟩=some (.slice d.a d.la.length d.ca)∧w'.cell? ⟨(a.add (k*3)).block,(a.add (k*3)).off+2,none⟩=some (.slice d.b d.lb.length d.cb)∧w'.cell? (b.add (k*3))=some (.bool f.neg)∧w'.cell? ⟨(b.add (k*3)).block,(b.add (k*3)).off+1,none⟩=some (.slice f.a f.la.length f.ca)∧w'.cell? ⟨(b.add (k*3)).block,(b.add (k*3)).off+2,none⟩=some (.slice f.b f.lb.length f.cb)∧Below wr.heap.size wr w':=by
       intro w' o;exact⟨(o.cell (by show (a.add (k*3)).block<_;rw[f7];exact m)).trans x,(o.cell (by show (a.add (k*3)).block<_;rw[f7];exact m)).trans s,(o.cell (by show (a.add (k*3)).block<_;rw[f7];exact m)).trans D,(o.cell (by show (b.add (k*3)).block<_;rw[f7];exact l)).trans t,(o.cell (by show (b.add (k*3)).block<_;rw[f7];exact l)).trans y,(o.cell (by show (b.add (k*3)).block<_;rw[f7];exact l)).trans F,o⟩
      have bo:Below wr.heap.size wr wr:=a3t _ _;have dS:Below wr.heap.size wr wr.drew:=bo.drew;go_wp2_with fail;refine a3u ?_;refine a3v (S:=fun w'=>w'.cell? (a.add (k*3))=some (.bool d.neg)∧w'.cell? ⟨(a.add (k*3)).block,(a.add (k*3)).off+1,none⟩=some (.slice d.a d.la.length d.ca)∧w'.cell? ⟨(a.add (k*3)).block,(a.add (k*3)).off+2,none⟩=some (.slice d.b d.lb.length d.cb)∧w'.cell? (b.add (k*3))=some (.bool f.neg)∧w'.cell? ⟨(b.add (k*3)).block,(b.add (k*3)).off+1,none⟩=some (.slice f.a f.la.length f.ca)∧w'.cell? ⟨(b.add (k*3)).block,(b.add (k*3)).off+2,none⟩=some (.slice f.b f.lb.length f.cb)∧Below wr.heap.size wr w') (by kernel_rfl) (hS _ dS) (fun c=>?_);refine mX 0 1 2 3 4 5 6 7 c ?_;refine z8 8 rfl fun K hK=>?_;go_simp;have h:Below wr.heap.size wr wr.drew:=(a3t _ _).drew;replace fa:=fa.below h;replace fb:=fb.below h;replace bT:=a1j bT h;replace bo:=a1j bo h;go_at_call 15;refine (cO fa fb).mono ?_;rintro e u1 ⟨rfl,p⟩;replace bT:=a1j bT p;replace bo:=a1j bo p;rw[j.out]
      go_wp2_with fail;refine hK.out _ _ (hS _ bo) (fun c=>?_);clear hK K;(try simp only[j9]);refine K4 9 rfl c ?_;refine a4c (by kernel_rfl) ?_ _;refine a3w ?_;(try go_simp);clear c;clear hS dS bo
      rcases qb with _ | _
      · have hf:Hid (v=false):=by show v=false;rw[←hv.out];exact a1v (pair_no x1.out x2.out (of_decide_eq_false j.out))
        go_wp2;go_ret;exact⟨by rw[hf.out];rfl,(a1j g bT)⟩
      · have hf:=a1k (zU n.out x1.out (by rw[x2.out,of_decide_eq_true j.out]));go_wp2;go_roundw
        case rel=>exact⟨k+1,by rw[a1s];omega,by go_num,hf,(a1j g bT)⟩
        case measure=>simp[intOf];omega
    · obtain rfl:k=ds.length:=by omega
      have G:decide ((ds.length:Int)<(ds.length:Int))=false:=a1v (by omega)
      have hf:Hid (v=true):=by
       show v=true
       rw[←hv.out,decide_eq_true_eq];have:=n.out;rw[a1q (by simp),a1q (by simp;have:=E.out;omega)] at this;exact this
      go_wp2;go_ret;exact⟨by rw[hf.out];rfl,g⟩
 · have z:(((ds.length:Nat):Int) != ((es.length:Nat):Int))=true:=by rw[bne_iff_ne];omega
   have hf:Hid (v=false):=by show v=false;rw[←hv.out];exact a1v fun e=>hl (by rw[←a1s (f:=FrD.q),e,a1s])
   clear hl;go_enter Tryz.func9,Tryz.ntmps9;go_wp2;go_ret;exact⟨by rw[hf.out];rfl,a3t _ _⟩
end Go.Proofs.YtjhkapjadfpimaaGreat
