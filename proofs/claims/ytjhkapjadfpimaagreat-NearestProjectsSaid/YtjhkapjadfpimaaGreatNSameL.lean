/- Contracts of functions, for the law. -/
import Derived.Test.YtjhkapjadfpimaaGreatNPnt
import Derived.Test.YtjhkapjadfpimaaGreatNNew
namespace Go.Proofs.YtjhkapjadfpimaaGreat
set_option linter.unusedVariables false
set_option linter.unusedSimpArgs false
open Go.RowKit Plain
attribute [local go_sem ↓] Go.wp_at_zero Go.wp_at_succ
set_option maxRecDepth 100000
set_option maxHeartbeats 40000000
theorem kF {w:World}{g:Nat}(h:Blk w g 46 #[.slice none 0 0,.slice none 0 0,.slice none 0 0,.slice none 0 0,.bool false,.slice none 0 0,.slice none 0 0]):w.cell? ⟨g,0,none⟩=some (.slice none 0 0)∧w.cell? ⟨g,1,none⟩=some (.slice none 0 0)∧w.cell? ⟨g,2,none⟩=some (.slice none 0 0)∧w.cell? ⟨g,3,none⟩=some (.slice none 0 0)∧w.cell? ⟨g,4,none⟩=some (.bool false)∧w.cell? ⟨g,5,none⟩=some (.slice none 0 0)∧w.cell? ⟨g,6,none⟩=some (.slice none 0 0)∧w.frozen? ⟨g,0,none⟩=false∧w.frozen? ⟨g,1,none⟩=false∧w.frozen? ⟨g,2,none⟩=false∧w.frozen? ⟨g,3,none⟩=false∧w.frozen? ⟨g,4,none⟩=false∧w.frozen? ⟨g,5,none⟩=false∧w.frozen? ⟨g,6,none⟩=false ∧
 w.setCell ⟨g,0,none⟩ (.slice none 0 0)=w∧w.setCell ⟨g,1,none⟩ (.slice none 0 0)=w∧w.setCell ⟨g,2,none⟩ (.slice none 0 0)=w∧w.setCell ⟨g,3,none⟩ (.slice none 0 0)=w∧w.setCell ⟨g,4,none⟩ (.bool false)=w∧w.setCell ⟨g,5,none⟩ (.slice none 0 0)=w∧w.setCell ⟨g,6,none⟩ (.slice none 0 0)=w :=
 ⟨D9 h 0,D9 h 1,D9 h 2,D9 h 3,D9 h 4,D9 h 5,D9 h 6,Eb h 0,Eb h 1,Eb h 2,Eb h 3,Eb h 4,Eb h 5,Eb h 6,Blk.same h (i:=0) rfl,Blk.same h (i:=1) rfl,Blk.same h (i:=2) rfl,Blk.same h (i:=3) rfl,Blk.same h (i:=4) rfl,Blk.same h (i:=5) rfl,Blk.same h (i:=6) rfl⟩
theorem mP {n p:Nat}{v:Int}(hv:v.natAbs≤1):∀ q∈dj n p (v:Rat),intQ 1 q:=fun q hq=>by
 obtain⟨i,hi,rfl⟩:=DU.1 hq
 split
 · exact⟨v,rfl,hv⟩
 · exact⟨0,rfl,by decide⟩
theorem fd {z:Int}(h:z.natAbs<18446744073709551616):Fits 2 (z:Rat):=by
 refine⟨?_,?_⟩
 · rw[Rat.num_intCast];have:pw 2=18446744073709551616:=rfl;omega
 · rw[Rat.den_intCast];decide
theorem kn {ns:List NdD}{ms:List Int}(h:ms.length≤8∧ns.length≤300∧(∀ m∈ms,0≤m∧m≤1000000)∧∀ d∈ns,0≤d.p∧d.p<2 ^ ms.length∧-1099511627776≤d.l∧d.l≤1099511627776):ConI ms.length (ay ns ms):=by
 obtain⟨h1,h2,h3,h4⟩:=h
 have b:∀ c∈ay ns ms,c.normal.length=ms.length∧(∀ q∈c.normal,intQ 1 q)∧Fits 2 c.least:=fun c hc=>by
  unfold ay at hc
  rcases List.mem_append.1 hc with hc | hc
  · rcases List.mem_append.1 hc with hc | hc
    · obtain⟨d,hd,rfl⟩:=DU.1 hc;have h5:=h4 d hd;exact⟨fF _ _ _,mP (v:=1) (by decide),fd (by omega)⟩
    · obtain⟨i,hi,rfl⟩:=DU.1 hc;exact⟨fF _ _ _,mP (v:=1) (by decide),Fits.zero (by decide)⟩
  · obtain⟨i,hi,rfl⟩:=DU.1 hc;have f:=DT.1 hi;refine⟨fF _ _ _,mP (v:=-1) (by decide),fd ?_⟩;have h5:=h3 (ms.getD i 0) (by rw[Dk,Dl f];exact Dy f);omega
 exact⟨fun c hc=>(b c hc).1,fun c hc=>(b c hc).2.1,fun c hc=>(b c hc).2.2⟩
def PtIn (x:PtD) (lo hi:Nat):Prop:=∀ a,(x.pay.a=some a∨x.mults.a=some a∨x.low.a=some a∨x.high.a=some a)→lo≤a.block∧a.block<hi
theorem PtIn.mono {x:PtD}{lo hi lo' hi':Nat}(h:PtIn x lo hi) (h1:lo'≤lo) (h2:hi≤hi'):PtIn x lo' hi':=fun a ha=>⟨Ds h1 (h a ha).1,Dn (h a ha).2 h2⟩
theorem PtL.farP {w w':World}{g:Nat}{t:TypeId}{cs:Array Value}{x:PtD}(h:PtL w x) (hne:∀ a,(x.pay.a=some a∨x.mults.a=some a∨x.low.a=some a∨x.high.a=some a)→a.block≠g) (hB:Blk w g t cs) (hd:NoDig cs) (ho:Only w w' g):PtL w' x :=
 ⟨h.pay.far (fun a e=>hne a (.inl e)) hB hd ho,h.mults.far (fun a e=>hne a (.inr (.inl e))) hB hd ho,h.low.far (fun a e=>hne a (.inr (.inr (.inl e)))) hB hd ho,h.high.far (fun a e=>hne a (.inr (.inr (.inr e)))) hB hd ho,h.lev.only_blk hB hd ho⟩
def bR (ns:List NdD) (ms:List Int) (t:St):List Rat:=cJ (ay ns ms).length (t.active.zip t.mults)
def PrjPost (tg:List FrD) (ns:List NdD) (ms:List Int) (sq:Rat) (lo:Nat) (e:Ending) (w':World):Prop :=
 (argsE tg.length ns ms≠0∧e=.returned (.tuple #[.agg #[.slice none 0 0,.slice none 0 0,.slice none 0 0,.slice none 0 0,.bool false,.slice none 0 0,.slice none 0 0],.int .i64 (argsE tg.length ns ms)])) ∨
 (argsE tg.length ns ms=0∧Infeas ms.length (ay ns ms) sq∧e=.returned (.tuple #[.agg #[.slice none 0 0,.slice none 0 0,.slice none 0 0,.slice none 0 0,.bool false,.slice none 0 0,.slice none 0 0],.int .i64 6])) ∨
 (argsE tg.length ns ms=0∧∃ (t:St) (x:PtD),Best ms.length (ay ns ms) (tg.map FrD.q) sq t∧e=.returned (.tuple #[x.v,.int .i64 0])∧PtL w' x∧PtIn x lo w'.heap.size∧x.pay.qs=t.x∧x.mults.qs=(bR ns ms t).take ns.length∧x.low.qs=((bR ns ms t).drop ns.length).take ms.length∧x.high.qs=(bR ns ms t).drop (ns.length+ms.length)∧x.lev.q=t.level)
def uH (tg:List FrD) (ns:List NdD) (ms:List Int) (sq:Rat) (W:World) (e:Ending) (w':World):Prop:=Hid (PrjPost tg ns ms sq W.heap.size e w')∧Below W.heap.size W w'
theorem rn {A B C:Option Addr}{ca cb cc Kt:Nat}{tg:List FrD}{ns:List NdD}{ms:List Int}{v:Value}{sq:Rat}{w:World}(ht0:FL w A ca tg) (hn0:NL w B cb ns) (hm0:ZL w C cc ms) (hv0:FV w v sq) (hKt0:2≤Kt) (hKt:Kt≤6000000) (hft0:QFits Kt (tg.map FrD.q)) (hfs0:Fits 2 sq)
 (hrun0:argsE tg.length ns ms=0→∃ f,(lF KN (ay ns ms) (tg.map FrD.q) sq ms.length f=some none∧Infeas ms.length (ay ns ms) sq)∨∃ t,lF KN (ay ns ms) (tg.map FrD.q) sq ms.length f=some (some t)∧Best ms.length (ay ns ms) (tg.map FrD.q) sq t) :
 Calls Tryz.prog 12 #[.slice A tg.length ca,.slice B ns.length cb,.slice C ms.length cc,v] w (uH tg ns ms sq w):=by
 obtain⟨sv,rfl,c0,cr⟩:=hv0.frd;obtain⟨E,hE⟩:∃ E,Hid (argsE tg.length ns ms=E):=⟨_,rfl⟩;have c4:=Dj hft0;have bd:=Dj hrun0;have bg:=Dj hfs0;obtain⟨w0,cy,b0,l0,B0⟩:=ag w #[.bool sv.neg,.slice sv.a sv.la.length sv.ca,.slice sv.b sv.lb.length sv.cb] 28;obtain⟨w1,d0,b1,l1,B1⟩:=ag w0 #[.slice none 0 0,.slice none 0 0,.slice none 0 0,.slice none 0 0,.bool false,.slice none 0 0,.slice none 0 0] 46;have Z:=Di b0 b1;have ch:VarQ w1 w.heap.size sv:=Ea B0 b1;have cl:=ht0.len;have b7:=ts (A:=A) (w:=w1) (tl:=tg.length) (ca:=ca) cl (hn0.below Z) (hm0.below Z);rw[hE.out] at b7;clear hft0 hfs0 hrun0;go_enter Tryz.func12,Tryz.ntmps12;go_wp2_with fail;refine b7.mono ?_;rintro e w2 ⟨rfl,b2⟩;clear b7;have j:=Di Z b2;have cv:=ch.below b2;have H:Blk w2 w0.heap.size 46 #[.slice none 0 0,.slice none 0 0,.slice none 0 0,.slice none 0 0,.bool false,.slice none 0 0,.slice none 0 0]:=Ea B1 b2
 by_cases hE0:E=0
 · have cx:(E != 0)=false:=by rw[bne_eq_false_iff_eq];exact hE0
   have h:=Dj (show argsE tg.length ns ms=0 from hE.out.trans hE0);obtain⟨k1,k2,k3,k4,k5⟩:=dP h.out;have I:=Dj (show ms.length≤8∧ns.length≤300∧(∀ m∈ms,0≤m∧m≤1000000)∧∀ d∈ns,0≤d.p∧d.p<2 ^ ms.length∧-1099511627776≤d.l∧d.l≤1099511627776 from ⟨k1,k2,k4,k5⟩);have X:=Dj k3;have bf:=Dj (kn I.out);obtain⟨f,c7⟩:=bd.out h.out;have hf:=Dj c7;have c5:=pC (w:=w2) (ht0.below j) (hn0.below j) (hm0.below j) (c0.below j) I.out X.out;obtain⟨x0,x1,x2⟩:=cv.cells;clear k1 k2 k3 k4 k5 c7 hE0;go_wp2_with fail;refine c5.mono ?_;rintro e w3 ⟨S,lv,rfl,L,bx,c,M,c8,bs,b3⟩;clear c5 x0 x1 x2;have bn:=Dj (show w0.heap.size<w2.heap.size from H.lt);have V:=Dj c8;have o:=Dj bs;have d1:=Di j b3;have cz:=Ea H b3;have G:=Dj (show ConI S.n (S.cs.map CoD.con) by rw[M.out,c.out.1];exact bf.out);have b8:=Dj (show S.n≤8 by rw[c.out.1];exact I.out.1);have s:=Dj (show S.sum.q=sq by rw[c.out.2.2];exact cr.out);clear c8 bs
   rcases hf.out with ⟨J,U⟩ | ⟨t,J,D⟩
   · have b9:=Dj U;have F:=og (Kt:=Kt) (B:=w2.heap.size) (f0:=f) (r:=none) hKt0 hKt L G.out b8.out (by rw[c.out.1];exact X.out) ⟨bx.out,rfl,rfl⟩ c4.out (by rw[s.out];exact bg.out) (by rw[M.out,s.out,c.out.1];exact J) V.out o.out;clear J U L;go_wp2_with fail;refine F.mono ?_;rintro e w4 ⟨s4,rfl,-,-,b4⟩;clear F;have cg:(none:Option St).isSome=false:=rfl;have y:Below w2.heap.size w2 w4:=b3.trans b4;have bb:=Di j y;have T:=Ea H y;obtain⟨z0,z1,z2,z3,z4,z5,z6,f0,f1,f2,f3,f4,f5,f6,s0,s1,s2,s3,s4,s5,s6⟩:=kF T;go_wp2;refine D4 (v:=.tuple #[.agg #[.slice none 0 0,.slice none 0 0,.slice none 0 0,.slice none 0 0,.bool false,.slice none 0 0,.slice none 0 0],.int .i64 6]) (by simp[results,Tryz.results12,go_sem,z0,z1,z2,z3,z4,z5,z6]) rfl ?_;exact⟨.inr (.inl ⟨h.out,b9.out,rfl⟩),bb⟩
   · have g:=Dj D;have F:=og (Kt:=Kt) (B:=w2.heap.size) (f0:=f) (r:=some t) hKt0 hKt L G.out b8.out (by rw[c.out.1];exact X.out) ⟨bx.out,rfl,rfl⟩ c4.out (by rw[s.out];exact bg.out) (by rw[M.out,s.out,c.out.1];exact J) V.out o.out;clear J D L;go_wp2_with fail;refine F.mono ?_;rintro e w4 ⟨s4,rfl,O,c9,b4⟩;clear F;have N:=Dj (c9.out t rfl);have cg:(some t).isSome=true:=rfl;have y:Below w2.heap.size w2 w4:=b3.trans b4;have bb:=Di j y;have T:=Ea H y;have b6:=Dj (show S.cs.length=(ay ns ms).length by rw[←M.out,Dr]);have R:=Dj (show s4.ia=t.active by rw[←N.out];rfl);have bc:=Dj (show s4.dm.map FrD.q=t.mults by rw[←N.out];rfl);have bv:=xj O (by rw[b6.out,dA,c.out.1,c.out.2.1]) (by rw[c.out.2.1];exact I.out.2.1) b8.out (by rw[R.out,b6.out];exact g.out.hA) (by have h1:=g.out.lm;rw[←bc.out,Dr] at h1;rw[R.out];exact h1) (by rw[R.out];exact g.out.act I.out.1) (by rw[bc.out];exact g.out.fit.2.2);have bz:=Dj (show S.gx<w4.heap.size from Dn O.b.hx O.b.hR);clear O;go_wp2_with fail;refine bv.mono ?_;rintro e w5 ⟨x,rfl,hx,cd,k,b5⟩;clear bv;have bm:=Di bb b5;have z:=Ea T b5
     obtain⟨w9,z0,z1,z2,z3,z4,z5,z6,f0,f1,f2,f3,f4,f5,f6,e9,h9,o9⟩:=fS z x;obtain⟨t0,t1,t2,t3,t4,t5,t6⟩:=h9.cells;have Y:=Dj (show w0.heap.size<w4.heap.size from T.lt);have c3:=Dj (show PtL w9 x from ⟨hx.pay.far (fun a e=>by have h1:=k.out.1 a e;have h2:=o.out;have h3:=bn.out;omega) z dv o9,hx.mults.far (fun a e=>by have h1:=(k.out.2.1 a e).1;have h3:=Y.out;omega) z dv o9,hx.low.far (fun a e=>by have h1:=(k.out.2.2.1 a e).1;have h3:=Y.out;omega) z dv o9,hx.high.far (fun a e=>by have h1:=(k.out.2.2.2 a e).1;have h3:=Y.out;omega) z dv o9,hx.lev.only_blk z dv o9⟩);have c2:=Dj (show w2.heap.size≤w4.heap.size from y.size);have bq:=Dj (show w4.heap.size≤w5.heap.size from b5.size);have cm:=Dj (show w.heap.size<w0.heap.size from l0)
     have bo:=Dj (show PtIn x w.heap.size w9.heap.size from fun a ha=>by
      have h0:=o9.size;have h1:=o.out;have h2:=bn.out;have h3:=bz.out;have h4:=c2.out;have h5:=bq.out;have h6:=cm.out
      rcases ha with e | e | e | e
      · have h9:=k.out.1 a e;omega
      · have h9:=k.out.2.1 a e;omega
      · have h9:=k.out.2.2.1 a e;omega
      · have h9:=k.out.2.2.2 a e;omega)
     have cq:=o9.to_below bm b0.size bm.size;go_wp2;refine D4 (v:=.tuple #[x.v,.int .i64 0]) (by simp[results,Tryz.results12,go_sem,t0,t1,t2,t3,t4,t5,t6]) rfl ?_;obtain⟨q1,q2,q3,q4,q5⟩:=cd.out;have e1:cJ S.cs.length (s4.ia.zip (s4.dm.map FrD.q))=bR ns ms t:=by rw[b6.out,R.out,bc.out];rfl
     rw[e1,c.out.2.1] at q2;rw[e1,c.out.1,c.out.2.1] at q3;rw[e1,c.out.1,c.out.2.1] at q4;exact⟨.inr (.inr ⟨h.out,t,x,g.out,rfl,c3.out,bo.out,by rw[q1,←N.out];rfl,q2,q3,q4,by rw[q5,←N.out];rfl⟩),cq⟩
 · have cx:(E != 0)=true:=by rw[bne_iff_ne];exact hE0
   have h:=Dj (show argsE tg.length ns ms≠0 by rw[hE.out];exact hE0);obtain⟨z0,z1,z2,z3,z4,z5,z6,f0,f1,f2,f3,f4,f5,f6,s0,s1,s2,s3,s4,s5,s6⟩:=kF H;go_wp2;refine D4 (v:=.tuple #[.agg #[.slice none 0 0,.slice none 0 0,.slice none 0 0,.slice none 0 0,.bool false,.slice none 0 0,.slice none 0 0],.int .i64 E]) (by simp[results,Tryz.results12,go_sem,z0,z1,z2,z3,z4,z5,z6]) rfl ?_;exact⟨.inl ⟨h.out,by rw[hE.out]⟩,j⟩
theorem eY {A B C:Option Addr}{ca cb cc:Nat}{tg:List FrD}{ns:List NdD}{ms:List Int}{v:Value}{sq:Rat}{w:World}(ht0:FL w A ca tg) (hn0:NL w B cb ns) (hm0:ZL w C cc ms) (hv0:FV w v sq) (hft0:QFits 2 (tg.map FrD.q)) (hfs0:Fits 2 sq) :
 Calls Tryz.prog 12 #[.slice A tg.length ca,.slice B ns.length cb,.slice C ms.length cc,v] w (uH tg ns ms sq w) :=
 rn (Kt:=2) ht0 hn0 hm0 hv0 (by decide) (by decide) hft0 hfs0 fun hE=>by
  obtain⟨k1,k2,k3,k4,k5⟩:=dP hE;exact AX (kn ⟨k1,k2,k4,k5⟩) k1 hft0 hfs0 (by rw[Dr];exact k3)
structure Poss (n:Nat) (all:List Con) (sum:Rat) (u:List Rat):Prop where
 len:u.length=n
 tot:ip n (fun _=>1) (gt u)=sum
 ok:∀ k,k<all.length→lst all k≤ip n (gt (nrm all k)) (gt u)
section
variable {n:Nat}{all:List Con}{tg:List Rat}{sum:Rat}{t t':St}{u:List Rat}
theorem Infeas.no (h:Infeas n all sum) (hu:Poss n all sum u):False:=h u hu.len hu.tot hu.ok
theorem vF (n:Nat) (all:List Con) (A:List Nat) (x:Nat→Rat):ip n (fn (ao n all A) 0) x=ip n (fun _=>1) x :=
 bK (a':=fun _=>1) (b':=x) (fun i hi=>gj n all A hi) fun _ _=>rfl
theorem Best.poss (h:Best n all tg sum t):Poss n all sum t.x:=by
 refine⟨h.lx,?_,h.ok⟩;have h1:=h.pt.eqs 0 (by omega);rw[vF] at h1;exact h1
theorem Best.nearest (h:Best n all tg sum t) (hu:Poss n all sum u):f7 n tg t.x+f7 n t.x u≤f7 n tg u:=by
 refine h.pt.nearest (u:=gt u) (fun _=>?_) (fun j h0 hj=>?_) fun j h0 hj=>?_
 · rw[vF];exact hu.tot
 · obtain⟨i,rfl⟩:∃ i,j=i+1:=⟨j-1,by omega⟩;rw[dw];exact h.nn i (by have:=h.lm;omega)
 · obtain⟨i,rfl⟩:∃ i,j=i+1:=⟨j-1,by omega⟩;have hi:i<t.active.length:=by omega
   rw[k7 hi,fN hi];exact hu.ok _ (h.hA _ (Dy hi))
theorem Bx {x u:List Rat}(hx:x.length=n) (hu:u.length=n) (h:f7 n x u≤0):u=x:=by
 have h1:ip n (fun i=>gt u i-gt x i) (fun i=>gt u i-gt x i)=0:=Rat.le_antisymm h (nO n _);refine fY (by omega) fun j hj=>?_;have h2:=gi h1 j (by omega)
 grind
theorem Best.only (h:Best n all tg sum t) (hu:Poss n all sum u) (hd:f7 n tg u≤f7 n tg t.x):u=t.x:=by
 have h1:=h.nearest hu;exact Bx h.lx hu.len (by grind)
end
theorem lp (a b:Nat) (f:Nat→Rat):sm (a+b) f=sm a f+sm b (fun i=>f (a+i)):=by
 induction b with
 | zero=>show sm a f=sm a f+0;grind
 | succ b ih =>
  show sm (a+b) f+f (a+b)=sm a f+(sm b (fun i=>f (a+i))+f (a+b))
  rw[ih];grind
theorem zL {l:List Rat}{p:Nat × Rat}(hp:p.1<l.length) (k:Nat):gt (jz l p) k=gt l k+p.2*dl p.1 k:=by
 unfold jz gt dl
 by_cases e:p.1=k
 · subst e;rw[if_pos rfl,Dk,List.getElem?_set_self hp]
   show _+_=_+_*1
   rw[Rat.mul_one]
 · rw[if_neg e,Dk,List.getElem?_set_ne e,←Dk]
   grind
theorem pO {L:Nat}{ps:List (Nat × Rat)}(hp:∀ p∈ps,p.1<L) (f:Nat→Rat):∀ j,j≤ps.length→sm L (fun k=>gt (cJ L (ps.take j)) k*f k)=sm j (fun i=>(ps.getD i (0,0)).2*f (ps.getD i (0,0)).1):=by
 intro j
 induction j with
 | zero =>
  intro _;refine aX fun k hk=>?_
  have:gt (cJ L (ps.take 0)) k=0:=by
   show (List.replicate L (0:Rat)).getD k 0=0
   rw[aD 0 (by simpa using hk)];simp
  rw[this];grind
 | succ j ih =>
  intro hj;have hg:ps[j]?=some (ps.getD j (0,0)):=by rw[Dk,Dl (show j<ps.length by omega)];rfl
  have b:(ps.getD j (0,0)).1<L:=hp _ (Dm hg);rw[ij hg];rw[ak (g:=fun k=>gt (cJ L (ps.take j)) k*f k+dl (ps.getD j (0,0)).1 k*((ps.getD j (0,0)).2*f k)) (fun k hk=>by rw[zL (by rw[jb];exact b)];grind)];rw[jG,ih (by omega),dV _ b];rfl
theorem pP {L k:Nat}{ps:List (Nat × Rat)}(hp:∀ p∈ps,p.1<L) (hk:k<L):gt (cJ L ps) k=sm ps.length (fun i=>(ps.getD i (0,0)).2*dl (ps.getD i (0,0)).1 k):=by
 have h:=pO hp (fun i=>dl i k) ps.length (Dt _);rw[List.take_length,eJ _ hk] at h;exact h
theorem CA (i j:Nat):0≤dl i j:=by unfold dl;split <;> decide
section
variable {ns:List NdD}{ms:List Int}{tg:List Rat}{sum:Rat}{t:St}
theorem BC {k i:Nat}(hk:k<8) (hi:i<8):eQ (2 ^ k) i=decide (k=i):=by
 have c:∀ a b:Fin 8,eQ (2 ^ a.val) b.val=decide (a.val=b.val):=by decide +kernel
 exact c ⟨k,hk⟩ ⟨i,hi⟩
theorem lJ {n p i:Nat}{v:Rat}(hi:i<n):gt (dj n p v) i=if eQ p i=true then v else 0:=by
 unfold gt;rw[Dk,pJ hi];rfl
theorem kX {n k i:Nat}{v:Rat}(hn:n≤8) (hk:k<n) (hi:i<n):gt (dj n (2 ^ k) v) i=v*dl k i:=by
 rw[lJ hi,BC (by omega) (by omega)];unfold dl
 by_cases e:k=i
 · rw[if_pos e,if_pos (by simpa using e),Rat.mul_one]
 · rw[if_neg e,if_neg (by simpa using e),Rat.mul_zero]
theorem eP {k:Nat}(hk:k<ns.length):nrm (ay ns ms) k=dj ms.length (kP ns k) 1∧lst (ay ns ms) k=((lOf ns k:Int):Rat):=by
 have h:=qF (ms:=ms) (Dl hk);have e:ns.getD k ⟨0,0⟩=ns[k]:=by rw[Dk,Dl hk];rfl
 refine⟨?_,?_⟩
 · rw[fK h];unfold kP;rw[e]
 · rw[kS h];unfold lOf;rw[e]
theorem fQ {i:Nat}(hi:i<ms.length):nrm (ay ns ms) (ns.length+i)=dj ms.length (2 ^ i) 1∧lst (ay ns ms) (ns.length+i)=0 :=
 ⟨fK (pu hi),kS (pu hi)⟩
theorem iH {i:Nat}(hi:i<ms.length):nrm (ay ns ms) (ns.length+ms.length+i)=dj ms.length (2 ^ i) (-1)∧lst (ay ns ms) (ns.length+ms.length+i)=((-(ms.getD i 0):Int):Rat):=by
 have h:ms[i]?=some (ms.getD i 0):=by rw[Dk,Dl hi];rfl
 exact⟨fK (rO h),kS (rO h)⟩
theorem mO {n k:Nat}{v:Rat}(hn:n≤8) (hk:k<n) (x:Nat→Rat):ip n (gt (dj n (2 ^ k) v)) x=v*x k:=by
 unfold ip;rw[ak (g:=fun i=>dl k i*(v*x i)) (fun i hi=>by rw[kX hn hk hi];grind),dV _ hk]
theorem rp {p:Nat}{pay:List Rat}{n:Nat}(hl:pay.length=n):aB (dW p pay)=ip n (gt (dj n p 1)) (gt pay):=by
 rw[ii,iM,hl];unfold ip;refine ak fun i hi=>?_;have b:i<pay.length:=by omega
 have:gt (dW p pay) i=if eQ p i=true then gt pay i else 0:=by
  unfold gt;rw[Dk,mG (Dl b),aD 0 b];rfl
 rw[this,lJ hi]
 by_cases e:eQ p i=true
 · rw[if_pos e,if_pos e,Rat.one_mul]
 · rw[if_neg e,if_neg e,Rat.zero_mul]
theorem fk {u:List Rat}(hn:ms.length≤8):Poss ms.length (ay ns ms) sum u ↔ u.length=ms.length∧aB u=sum∧(∀ k,k<ns.length→((lOf ns k:Int):Rat)≤aB (dW (kP ns k) u))∧(∀ i,i<ms.length→0≤gt u i)∧∀ i,i<ms.length→gt u i≤((ms.getD i 0:Int):Rat):=by
 have ht:∀ hl:u.length=ms.length,aB u=ip ms.length (fun _=>1) (gt u):=fun hl=>by
  rw[ii,hl];unfold ip;exact ak fun i _=>by grind
 constructor
 · intro h;refine⟨h.len,by rw[ht h.len];exact h.tot,fun k hk=>?_,fun i hi=>?_,fun i hi=>?_⟩
   · have h1:=h.ok k (by rw[dA];omega);rw[(eP hk).1,(eP hk).2] at h1;rw[rp h.len];exact h1
   · have h1:=h.ok (ns.length+i) (by rw[dA];omega);rw[(fQ hi).1,(fQ hi).2,mO hn hi] at h1
     grind
   · have h1:=h.ok (ns.length+ms.length+i) (by rw[dA];omega);rw[(iH hi).1,(iH hi).2,mO hn hi,Rat.intCast_neg] at h1
     grind
 · rintro ⟨h1,h2,h3,h4,h5⟩;refine⟨h1,by rw[←ht h1];exact h2,fun k hk=>?_⟩;rw[dA] at hk
   by_cases e1:k<ns.length
   · rw[(eP e1).1,(eP e1).2,←rp h1];exact h3 k e1
   · by_cases e2:k<ns.length+ms.length
     · obtain⟨i,rfl⟩:∃ i,k=ns.length+i:=⟨k-ns.length,by omega⟩;have hi:i<ms.length:=by omega
       rw[(fQ hi).1,(fQ hi).2,mO hn hi];have:=h4 i hi;grind
     · obtain⟨i,rfl⟩:∃ i,k=ns.length+ms.length+i:=⟨k-(ns.length+ms.length),by omega⟩;have hi:i<ms.length:=by omega
       rw[(iH hi).1,(iH hi).2,mO hn hi,Rat.intCast_neg];have:=h5 i hi;grind
theorem k9 {al:List Nat}{qs:List Rat}(h:qs.length=al.length){i:Nat}(hi:i<al.length):(al.zip qs).getD i (0,0)=(al.getD i 0,gt qs i):=by
 unfold gt;rw[aD (0,0) (by rw[List.length_zip];omega),aD 0 hi,aD 0 (by omega),List.getElem_zip]
theorem Best.zipA (h:Best ms.length (ay ns ms) tg sum t):∀ p∈t.active.zip t.mults,p.1<(ay ns ms).length:=fun p hp=>h.hA _ (List.of_mem_zip hp).1
theorem Best.zipL (h:Best ms.length (ay ns ms) tg sum t):(t.active.zip t.mults).length=t.active.length:=by rw[List.length_zip,h.lm,Nat.min_self]
theorem Best.sp_nn (h:Best ms.length (ay ns ms) tg sum t){k:Nat}(hk:k<(ay ns ms).length):0≤gt (bR ns ms t) k:=by
 unfold bR;rw[pP h.zipA hk,h.zipL];refine j6 fun i hi=>Rat.mul_nonneg ?_ (CA _ _);rw[k9 h.lm hi];exact h.nn i (by rw[h.lm];exact hi)
theorem Best.sp_tight (h:Best ms.length (ay ns ms) tg sum t){k:Nat}(hk:k<(ay ns ms).length) (hne:gt (bR ns ms t) k≠0):ip ms.length (gt (nrm (ay ns ms) k)) (gt t.x)=lst (ay ns ms) k:=by
 by_cases e:∃ i,i<t.active.length∧t.active.getD i 0=k
 · obtain⟨i,hi,b⟩:=e;have h1:=h.pt.eqs (i+1) (by omega);rw[fN hi,k7 hi] at h1;rw[aD 0 hi] at b;rw[b] at h1;exact h1
 · exfalso;apply hne
   unfold bR;rw[pP h.zipA hk,h.zipL];refine aX fun i hi=>?_;rw[k9 h.lm hi];have:t.active.getD i 0≠k:=fun e'=>e ⟨i,hi,e'⟩;unfold dl;rw[if_neg this];grind
theorem Best.slack (h:Best ms.length (ay ns ms) tg sum t){k:Nat}(hk:k<(ay ns ms).length){b:Bool}(hb:ip ms.length (gt (nrm (ay ns ms) k)) (gt t.x)=lst (ay ns ms) k→b=true):bL (gt (bR ns ms t) k) b=true:=by
 unfold bL
 by_cases e:gt (bR ns ms t) k=0
 · rw[Dv e];rfl
 · have h1:=h.sp_nn hk
   have h2:0<gt (bR ns ms t) k:=by
    rcases Rat.le_iff_lt_or_eq.1 h1 with h3 | h3
    · exact h3
    · exact absurd h3.symm e
   rw[hb (h.sp_tight hk e),Dv h2];simp
theorem nP {l:List Rat}{m k:Nat}(hk:k<m):(l.take m).getD k 0=gt l k:=by
 unfold gt;rw[Dk,DW,if_pos hk,←Dk]
theorem ui {l:List Rat}{m n i:Nat}(hi:i<n):((l.drop m).take n).getD i 0=gt l (m+i):=by
 rw[nP hi];unfold gt;rw[Dk,DX,←Dk]
theorem rD {l:List Rat}{m i:Nat}:(l.drop m).getD i 0=gt l (m+i):=by
 unfold gt;rw[Dk,DX,←Dk]
theorem Best.force (h:Best ms.length (ay ns ms) tg sum t) (hn:ms.length≤8){i:Nat}(hi:i<ms.length) :
 gt t.x i-gt tg i=t.level+gt (bR ns ms t) (ns.length+i)-gt (bR ns ms t) (ns.length+ms.length+i)+aB (cC ns ((bR ns ms t).take ns.length) i):=by
 have h1:=h.pt.kkt i hi
 have h2:lc (t.active.length+1) (gt (t.level::t.mults)) (fn (ao ms.length (ay ns ms) t.active)) i=t.level+sm t.active.length (fun j=>gt t.mults j*gt (nrm (ay ns ms) (t.active.getD j 0)) i):=by
  unfold lc;rw[im,gj _ _ _ hi]
  congr 1
  · show t.level*1=_;rw[Rat.mul_one]
  · exact ak fun j hj=>by rw[fN hj,dw,aD 0 hj]
 have h3:=pO h.zipA (fun k=>gt (nrm (ay ns ms) k) i) _ (Dt _);rw[List.take_length,h.zipL] at h3
 have h4:sm t.active.length (fun j=>gt t.mults j*gt (nrm (ay ns ms) (t.active.getD j 0)) i)=sm (ay ns ms).length (fun k=>gt (bR ns ms t) k*gt (nrm (ay ns ms) k) i):=by
  unfold bR;rw[h3];exact ak fun j hj=>by rw[k9 h.lm hj]
 have h5:sm (ay ns ms).length (fun k=>gt (bR ns ms t) k*gt (nrm (ay ns ms) k) i)=aB (cC ns ((bR ns ms t).take ns.length) i)+gt (bR ns ms t) (ns.length+i)-gt (bR ns ms t) (ns.length+ms.length+i):=by
  rw[dA,lp,lp]
  have e1:sm ns.length (fun k=>gt (bR ns ms t) k*gt (nrm (ay ns ms) k) i)=aB (cC ns ((bR ns ms t).take ns.length) i):=by
   rw[ii,fM];refine ak fun k hk=>?_;unfold gt;rw[Dk (l:=cC _ _ _),jt hk]
   show _=if eQ (kP ns k) i=true then ((bR ns ms t).take ns.length).getD k 0 else 0
   rw[nP hk,(eP hk).1];have:=lJ (p:=kP ns k) (v:=1) hi
   unfold gt at this ⊢
   rw[this]
   by_cases e:eQ (kP ns k) i=true
   · rw[if_pos e,if_pos e,Rat.mul_one]
   · rw[if_neg e,if_neg e,Rat.mul_zero]
  have e2:sm ms.length (fun k=>gt (bR ns ms t) (ns.length+k)*gt (nrm (ay ns ms) (ns.length+k)) i)=gt (bR ns ms t) (ns.length+i):=by
   rw[ak (g:=fun k=>gt (bR ns ms t) (ns.length+k)*dl k i) (fun k hk=>by rw[(fQ hk).1,kX hn hk hi,Rat.one_mul]),eJ (fun k=>gt (bR ns ms t) (ns.length+k)) hi]
  have e3:sm ms.length (fun k=>gt (bR ns ms t) (ns.length+ms.length+k)*gt (nrm (ay ns ms) (ns.length+ms.length+k)) i)=- gt (bR ns ms t) (ns.length+ms.length+i):=by
   rw[ak (g:=fun k=>(-gt (bR ns ms t) (ns.length+ms.length+k))*dl k i) (fun k hk=>by rw[(iH hk).1,kX hn hk hi];grind),eJ (fun k=>-gt (bR ns ms t) (ns.length+ms.length+k)) hi]
  rw[e1,e2,e3];grind
 rw[h2,h4,h5] at h1
 grind
theorem Best.cert (h:Best ms.length (ay ns ms) tg sum t) (hn:ms.length≤8):fC tg ns ms sum t.x ((bR ns ms t).take ns.length) (((bR ns ms t).drop ns.length).take ms.length) ((bR ns ms t).drop (ns.length+ms.length)) t.level=true:=by
 have hL:(bR ns ms t).length=ns.length+ms.length+ms.length:=by unfold bR;rw[jb,dA]
 obtain⟨p1,p2,p3,p4,p5⟩:=(fk hn).1 h.poss;refine tm ?_ (fun i hi=>?_) p2 (fun k hk=>?_) fun i hi=>?_
 · unfold jR;rw[Dv p1,Dv (by rw[DB,DC,hL];omega),Dv (by rw[DC,hL];omega),Dv (by rw[DB,hL];omega)];rfl
 · unfold kE;have a1:¬ t.x.getD i 0<0:=Rat.not_lt.2 (p4 i hi);have a2:¬ ((ms.getD i 0:Int):Rat)<t.x.getD i 0:=Rat.not_lt.2 (p5 i hi);rw[Du a1,Du a2,ui hi,rD]
   rw[h.slack (by rw[dA];omega) (fun e=>by
    rw[(fQ hi).1,(fQ hi).2,mO hn hi,Rat.one_mul] at e;exact Dv e)]
   rw[h.slack (by rw[dA];omega) (fun e=>by
    rw[(iH hi).1,(iH hi).2,mO hn hi,Rat.intCast_neg] at e;refine Dv ?_
    show gt t.x i=_
    grind)];rfl
 · unfold lU;have a1:¬ aB (dW (kP ns k) t.x)<((lOf ns k:Int):Rat):=Rat.not_lt.2 (p3 k hk);rw[Du a1,nP hk]
   rw[h.slack (by rw[dA];omega) (fun e=>by
    rw[(eP hk).1,(eP hk).2,←rp p1] at e;exact Dv e)];rfl
 · unfold gY;rw[ui hi,rD];exact Dv (h.force hn hi)
end
def dN (zs:List Int):List Rat:=zs.map fun z:Int=>(z:Rat)
theorem tz {l:List Rat}(h:l.length=2):∃ a b,l=[a,b]:=by
 match l,h with
 | [a,b],_=>exact⟨a,b,rfl⟩
theorem lT (p q a b:Rat):f7 2 [p,q] [a,b]=(a-p)*(a-p)+(b-q)*(b-q):=by
 show 0+(a-p)*(a-p)+(b-q)*(b-q)=_
 grind
theorem qO (a b:Rat):aB [a,b]=a+b:=by
 show 0+a+b=_
 grind
def ic:List NdD:=[⟨3,10⟩]
theorem te:Poss 2 (ay ic [6,6]) 10 [5,5]:=(fk (ns:=ic) (ms:=[6,6]) (by decide)).2 (by decide +kernel)
theorem tc:Poss 2 (ay [] [10,2]) 6 [4,2]:=(fk (ns:=[]) (ms:=[10,2]) (by decide)).2 (by decide +kernel)
theorem B8 {t:St}(h:Best 2 (ay ic [6,6]) [4,4] 10 t):t.x=[5,5]:=by
 have hp:=(fk (ns:=ic) (ms:=[6,6]) (by decide)).1 h.poss;obtain⟨a,b,e⟩:=tz hp.1;have hs:=hp.2.1;refine (h.only te ?_).symm;rw[e] at hs ⊢;rw[qO] at hs;rw[lT,lT];have h1:=mr (a-5);have h2:b=10-a:=by grind
 subst h2
 grind
theorem C1 {t:St}(h:Best 2 (ay [] [10,2]) [1,1] 6 t):t.x=[4,2]:=by
 have hp:=(fk (ns:=[]) (ms:=[10,2]) (by decide)).1 h.poss;obtain⟨a,b,e⟩:=tz hp.1;have hs:=hp.2.1;have hu:=hp.2.2.2.2 1 (by decide);refine (h.only tc ?_).symm;rw[e] at hs hu ⊢;rw[qO] at hs;have hb:b≤2:=hu;rw[lT,lT];have h1:0≤(2-b)*(4-b):=Rat.mul_nonneg (by grind) (by grind);have h2:a=6-b:=by grind
 subst h2
 grind
theorem C0 {t:St}(h:Best 2 (ay ic [4,4]) [4,4] 10 t):False:=by
 have hp:=(fk (ns:=ic) (ms:=[4,4]) (by decide)).1 h.poss;obtain⟨a,b,e⟩:=tz hp.1;have hs:=hp.2.1;have h0:=hp.2.2.2.2 0 (by decide);have h1:=hp.2.2.2.2 1 (by decide);rw[e] at hs h0 h1;rw[qO] at hs;have ha:a≤4:=h0;have hb:b≤4:=h1
 grind
theorem C2 {t:St}(h:Best 2 (ay ic [6,6]) [4,4] 10 t):t.active=[]∧t.mults=[]∧t.level=1:=by
 have hx:=B8 h
 have ha:t.active=[]:=by
  cases hA:t.active with
  | nil=>rfl
  | cons a A =>
   exfalso
   have h1:=h.pt.eqs 1 (by rw[hA];simp);have h2:=h.hA a (by rw[hA];exact DN)
   have h3:fn (ao 2 (ay ic [6,6]) t.active) 1=gt (nrm (ay ic [6,6]) a):=by
    have:=fN (n:=2) (all:=ay ic [6,6]) (A:=t.active) (j:=0) (by rw[hA];simp);rw[this];simp[hA]
   have h4:gt (10::t.active.map (lst (ay ic [6,6]))) 1=lst (ay ic [6,6]) a:=by rw[hA];rfl
   rw[h3,h4,hx] at h1;have h5:(ay ic [6,6]).length=5:=by decide +kernel
   rw[h5] at h2;have c:∀ k:Fin 5,k.val≠0→ip 2 (gt (nrm (ay ic [6,6]) k.val)) (gt [5,5])≠lst (ay ic [6,6]) k.val:=by decide +kernel
   have d:a=0:=by
    by_cases e:a=0
    · exact e
    · exact absurd h1 (c ⟨a,h2⟩ e)
   subst d;have f:=h.li (by decide)
   have h6:=f (fun j=>if j=0 then 1 else if j=1 then -1 else 0) (fun i hi=>by
    unfold lc;rw[hA]
    show sm (A.length+1+1) _=0
    rw[im,im]
    rw[aX (n:=A.length) fun k hk=>by
     show (if k+1+1=0 then (1:Rat) else if k+1+1=1 then -1 else 0)*_=0
     rw[if_neg (by omega),if_neg (by omega),Rat.zero_mul]]
    show (1:Rat)*fn (ao 2 (ay ic [6,6]) (0::A)) 0 i+((-1)*fn (ao 2 (ay ic [6,6]) (0::A)) 1 i+0)=0
    rw[gj _ _ _ hi,fN (A:=0::A) (j:=0) (by simp)]
    show (1:Rat)*1+((-1)*gt (nrm (ay ic [6,6]) 0) i+0)=0
    have b:∀ i:Fin 2,gt (nrm (ay ic [6,6]) 0) i.val=1:=by decide +kernel
    rw[b ⟨i,hi⟩];grind) 0 (by omega)
   simp at h6
 have hm:t.mults=[]:=Dz (by rw[h.lm,ha];rfl);refine⟨ha,hm,?_⟩;have h1:=h.pt.kkt 0 (by decide);rw[hx,ha] at h1
 have h2:lc 1 (gt (t.level::t.mults)) (fn (ao 2 (ay ic [6,6]) [])) 0=t.level:=by
  show 0+t.level*fn (ao 2 (ay ic [6,6]) []) 0 0=_
  rw[gj _ _ _ (by decide)];grind
 have h3:gt ([5,5]:List Rat) 0=gt ([4,4]:List Rat) 0+lc 1 (gt (t.level::t.mults)) (fn (ao 2 (ay ic [6,6]) [])) 0+0*0:=h1;rw[h2] at h3;have h4:(5:Rat)=4+t.level+0*0:=h3
 grind
theorem vb {tg:List FrD}{lo:Nat}{e:Ending}{w':World}(hq:tg.map FrD.q=dN [4,4]) (h:PrjPost tg ic [6,6] 10 lo e w') :
 ∃ x:PtD,e=.returned (.tuple #[x.v,.int .i64 0])∧PtL w' x∧PtIn x lo w'.heap.size∧x.pay.qs=dN [5,5]∧x.mults.qs=dN [0]∧x.low.qs=dN [0,0]∧x.high.qs=dN [0,0]∧x.lev.q=1:=by
 have hl:tg.length=2:=by have:=congrArg List.length hq;rw[Dr] at this;exact this
 have b:tg.map FrD.q=[4,4]:=hq.trans (by decide +kernel)
 rcases h with ⟨h1,-⟩ | ⟨-,h1,-⟩ | ⟨-,t,x,hb,he,hx,d,q1,q2,q3,q4,q5⟩
 · rw[hl] at h1;exact absurd (by decide +kernel) h1
 · exact (h1.no te).elim
 · rw[b] at hb;obtain⟨a1,a2,a3⟩:=C2 hb;have c:=B8 hb;have hs:bR ic [6,6] t=[0,0,0,0,0]:=by unfold bR;rw[a1,a2];decide +kernel
   rw[hs] at q2 q3 q4;exact⟨x,he,hx,d,by rw[q1,c];decide +kernel,by rw[q2];decide +kernel,by rw[q3];decide +kernel,by rw[q4];decide +kernel,by rw[q5,a3]⟩
theorem AZ {tg:List FrD}{lo:Nat}{e:Ending}{w':World}(hq:tg.map FrD.q=dN [1,1]) (h:PrjPost tg [] [10,2] 6 lo e w') :
 ∃ x:PtD,e=.returned (.tuple #[x.v,.int .i64 0])∧PtL w' x∧PtIn x lo w'.heap.size∧x.pay.qs=dN [4,2]:=by
 have hl:tg.length=2:=by have:=congrArg List.length hq;rw[Dr] at this;exact this
 have b:tg.map FrD.q=[1,1]:=hq.trans (by decide +kernel)
 rcases h with ⟨h1,-⟩ | ⟨-,h1,-⟩ | ⟨-,t,x,hb,he,hx,c,q1,-⟩
 · rw[hl] at h1;exact absurd (by decide +kernel) h1
 · exact (h1.no tc).elim
 · rw[b] at hb;exact⟨x,he,hx,c,by rw[q1,C1 hb];decide +kernel⟩
theorem uZ {tg:List FrD}{lo:Nat}{e:Ending}{w':World}(hq:tg.map FrD.q=dN [4,4]) (h:PrjPost tg ic [4,4] 10 lo e w') :
 e=.returned (.tuple #[.agg #[.slice none 0 0,.slice none 0 0,.slice none 0 0,.slice none 0 0,.bool false,.slice none 0 0,.slice none 0 0],.int .i64 6]):=by
 have hl:tg.length=2:=by have:=congrArg List.length hq;rw[Dr] at this;exact this
 have b:tg.map FrD.q=[4,4]:=hq.trans (by decide +kernel)
 rcases h with ⟨h1,-⟩ | ⟨-,-,h1⟩ | ⟨-,t,x,hb,-⟩
 · rw[hl] at h1;exact absurd (by decide +kernel) h1
 · exact h1
 · rw[b] at hb;exact (C0 hb).elim
theorem rL:cP (dN [4,4]) ic [6,6] 10 (dN [5,5]) (dN [0]) (dN [0,0]) (dN [0,0]) 1=0:=by decide +kernel
theorem rK:cP (dN [4,4]) ic [6,6] 10 (dN [4,6]) (dN [0]) (dN [0,0]) (dN [0,0]) 1=13:=by decide +kernel
theorem ur:aB (zR (dN [1,2]) (dN [4]))=13:=by decide +kernel
def CJ (qs:List Rat) (W:World) (e:Ending) (w':World):Prop:=∃ A c ds,e=.returned (.slice A ds.length c)∧FL w' A c ds∧Hid (ds.map FrD.q=qs)∧Below W.heap.size W w'∧∀ a,A=some a→W.heap.size≤a.block∧a.block<w'.heap.size
theorem aJ {A:Option Addr}{c:Nat}{zs:List Int}{w:World}(h:IL w A zs) (hb:∀ z∈zs,-9223372036854775808≤z∧z≤9223372036854775807) (hl:zs.length≤1000000) (hc:c≤9223372036854775807) (hlc:zs.length≤c) :
 Calls Tryz.prog 13 #[.slice A zs.length c] w (CJ (zs.map (fun z:Int=>(z:Rat))) w):=by
 obtain⟨qs,l⟩:∃ qs,Hid (zs.map (fun z:Int=>(z:Rat))=qs):=⟨_,rfl⟩;have m:=Dj (show qs.length=zs.length by rw[←l.out,Dr]);have y:=Dj hb;clear hb;rw[l.out];go_enter Tryz.func13,Tryz.ntmps13;go_wp2
 go_loopw [3,8] (fun v i wr=>qI qs w v i wr) (fun _ i _=>zs.length-(intOf i).toNat)
 case atStart=>exact⟨0,by omega,rfl,LsAt.nil _ _⟩
 case round =>
  obtain⟨k,hk,rfl,b⟩:=hrel;rw[m.out] at hk;have f:=b.bel
  by_cases hkl:k<zs.length
  · obtain⟨a,rfl,F,x⟩:=(h.below f).at hkl;obtain⟨z,hz⟩:∃ z,Hid (zs.getD k 0=z):=⟨_,rfl⟩
    have q:-9223372036854775808≤z∧z≤9223372036854775807:=by
     rw[←hz.out];exact y.out _ (by rw[Dk,Dl hkl];exact Dy hkl)
    rw[hz.out] at x;have hq:=Dj (show qs[k]?=some ((fun z:Int=>(z:Rat)) z) by rw[←l.out,←hz.out];exact zD hkl);have G:(k:Int)<(zs.length:Int):=by omega
    have D:k<1000000000000:=by omega
    go_wp2_with fail;refine (aO z _ q.1 q.2).mono ?_;rintro e w4 ⟨v1,rfl,⟨n1,A1,a1,l1,B1,c1,m1,rfl,na,nb,iq⟩,b1⟩;replace b:=b.below b1;obtain⟨os,ho,s,r,d⟩:=b.app D hq.out na nb iq;clear na nb iq
    go_wp2_with (at_builtin;refine cQ rfl rfl _ _ rfl _ _ os rfl ho ⟨w4.heap.size,0,none⟩ 1 ⟨n1,A1,a1,l1,B1,c1,m1⟩ rfl (World.news_of_block (heap_alloc_new w4 _)) s r ?_;intro v6 w6 o p)
    have n:=d.out v6 w6 o p;clear d ho p o b;go_wp2;go_roundw
    case rel=>exact⟨k+1,by rw[m.out];omega,by go_num,n⟩
    case measure=>simp[intOf];omega
  · obtain rfl:k=zs.length:=by omega
    have E:decide ((zs.length:Int)<(zs.length:Int))=false:=Du (by omega);obtain⟨B,cb,es,rfl,t,C,g⟩:=b.done2 m.out.symm;have j:=Dj g;clear g;go_wp2;go_ret;exact⟨B,cb,es,rfl,t,C,f,j.out⟩
theorem mw {A B:Option Addr}{ca cb:Nat}{ds es:List FrD}{w:World}(ha:FL w A ca ds) (hb:FL w B cb es) :
 Calls Tryz.prog 9 #[.slice A ds.length ca,.slice B es.length cb] w (lX (decide (ds.map FrD.q=es.map FrD.q)) w):=by
 have g1:=ha.len;have g2:=hb.len;obtain⟨v,hv⟩:∃ v,Hid (decide (ds.map FrD.q=es.map FrD.q)=v):=⟨_,rfl⟩;rw[hv.out]
 by_cases hl:ds.length=es.length
 · have s:(((ds.length:Nat):Int) != ((es.length:Nat):Int))=false:=by rw[bne_eq_false_iff_eq];omega
   have r:=Dj hl;have H:ds.length≤es.length:=by omega
   clear hl;go_enter Tryz.func9,Tryz.ntmps9;go_wp2
   go_loopw [5] (fun i wr=>BM (ds.map FrD.q) (es.map FrD.q) w i wr) (fun i _=>ds.length-(intOf i).toNat)
   case atStart=>exact⟨0,by omega,rfl,rfl,DY _ _⟩
   case round =>
    obtain⟨k,hk,rfl,p,g⟩:=hrel;rw[Dr] at hk
    by_cases hkl:k<ds.length
    · obtain⟨a,d,rfl,l,z,C,E,fa,x⟩:=(ha.below g).at (k:=k) hkl;obtain⟨b,f,rfl,m,F,y,D,fb,t⟩:=(hb.below g).at (k:=k) (by omega);have J:(k:Int)<(ds.length:Int):=by omega
      have I:(k:Int)<(es.length:Int):=by omega
      have x1:=Dj (map_some (f:=FrD.q) x.out);have x2:=Dj (map_some (f:=FrD.q) t.out);obtain⟨qb,j⟩:∃ b,Hid (decide (d.q=f.q)=b):=⟨_,rfl⟩;have bT:=DY wr.heap.size wr
      have hS:∀ w',Below wr.heap.size wr w'→w'.cell? (a.add (k*3))=some (.bool d.neg)∧w'.cell? ⟨(a.add (k*3)).block,(a.add (k*3)).off+1,none⟩=some (.slice d.a d.la.length d.ca)∧w'.cell? ⟨(a.add (k*3)).block,(a.add (k*3)).off+2,none⟩=some (.slice d.b d.lb.length d.cb)∧w'.cell? (b.add (k*3))=some (.bool f.neg)∧w'.cell? ⟨(b.add (k*3)).block,(b.add (k*3)).off+1,none⟩=some (.slice f.a f.la.length f.ca)∧w'.cell? ⟨(b.add (k*3)).block,(b.add (k*3)).off+2,none⟩=some (.slice f.b f.lb.length f.cb)∧Below wr.heap.size wr w':=by
       intro w' o;exact⟨(o.cell (by show (a.add (k*3)).block<_;rw[ac];exact l)).trans z,(o.cell (by show (a.add (k*3)).block<_;rw[ac];exact l)).trans C,(o.cell (by show (a.add (k*3)).block<_;rw[ac];exact l)).trans E,(o.cell (by show (b.add (k*3)).block<_;rw[ac];exact m)).trans F,(o.cell (by show (b.add (k*3)).block<_;rw[ac];exact m)).trans y,(o.cell (by show (b.add (k*3)).block<_;rw[ac];exact m)).trans D,o⟩
      have bo:Below wr.heap.size wr wr:=DY _ _;have dS:Below wr.heap.size wr wr.drew:=bo.drew;go_wp2_with fail;refine DZ ?_;refine D0 (S:=fun w'=>w'.cell? (a.add (k*3))=some (.bool d.neg)∧w'.cell? ⟨(a.add (k*3)).block,(a.add (k*3)).off+1,none⟩=some (.slice d.a d.la.length d.ca)∧w'.cell? ⟨(a.add (k*3)).block,(a.add (k*3)).off+2,none⟩=some (.slice d.b d.lb.length d.cb)∧w'.cell? (b.add (k*3))=some (.bool f.neg)∧w'.cell? ⟨(b.add (k*3)).block,(b.add (k*3)).off+1,none⟩=some (.slice f.a f.la.length f.ca)∧w'.cell? ⟨(b.add (k*3)).block,(b.add (k*3)).off+2,none⟩=some (.slice f.b f.lb.length f.cb)∧Below wr.heap.size wr w') (by kernel_rfl) (hS _ dS) (fun c=>?_);refine pE 0 1 2 3 4 5 6 7 c ?_;refine aV 8 rfl fun K hK=>?_;go_simp;have h:Below wr.heap.size wr wr.drew:=(DY _ _).drew;replace fa:=fa.below h;replace fb:=fb.below h;replace bT:=Di bT h;replace bo:=Di bo h;go_at_call 15;refine (j7 fa fb).mono ?_;rintro e u1 ⟨rfl,n⟩;replace bT:=Di bT n;replace bo:=Di bo n;rw[j.out]
      go_wp2_with fail;refine hK.out _ _ (hS _ bo) (fun c=>?_);clear hK K;(try simp only[aq]);refine dQ 9 rfl c ?_;refine D7 (by kernel_rfl) ?_ _;refine D1 ?_;(try go_simp);clear c;clear hS dS bo
      rcases qb with _ | _
      · have hf:Hid (v=false):=by show v=false;rw[←hv.out];exact Du (Ba x1.out x2.out (of_decide_eq_false j.out))
        go_wp2;go_ret;exact⟨by rw[hf.out];rfl,(Di g bT)⟩
      · have hf:=Dj (xp p.out x1.out (by rw[x2.out,of_decide_eq_true j.out]));go_wp2;go_roundw
        case rel=>exact⟨k+1,by rw[Dr];omega,by go_num,hf,(Di g bT)⟩
        case measure=>simp[intOf];omega
    · obtain rfl:k=ds.length:=by omega
      have G:decide ((ds.length:Int)<(ds.length:Int))=false:=Du (by omega)
      have hf:Hid (v=true):=by
       show v=true
       rw[←hv.out,decide_eq_true_eq];have:=p.out;rw[Dp (by simp),Dp (by simp;have:=r.out;omega)] at this;exact this
      go_wp2;go_ret;exact⟨by rw[hf.out];rfl,g⟩
 · have s:(((ds.length:Nat):Int) != ((es.length:Nat):Int))=true:=by rw[bne_iff_ne];omega
   have hf:Hid (v=false):=by show v=false;rw[←hv.out];exact Du fun e=>hl (by rw[←Dr (f:=FrD.q),e,Dr])
   clear hl;go_enter Tryz.func9,Tryz.ntmps9;go_wp2;go_ret;exact⟨by rw[hf.out];rfl,DY _ _⟩
end Go.Proofs.YtjhkapjadfpimaaGreat
