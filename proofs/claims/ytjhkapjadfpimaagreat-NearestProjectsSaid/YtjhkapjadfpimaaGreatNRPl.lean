/- Contracts of functions, for the law. -/
import Derived.Test.YtjhkapjadfpimaaGreatNSameL
import Derived.Test.YtjhkapjadfpimaaGreatNCheck
namespace Go.Proofs.YtjhkapjadfpimaaGreat
set_option linter.unusedVariables false
set_option linter.unusedSimpArgs false
open Go.RowKit Plain
attribute [local go_sem ↓] Go.wp_at_zero Go.wp_at_succ
set_option maxRecDepth 100000
set_option maxHeartbeats 40000000
theorem F6 {zs:List Int}(h:zs.all (fun z=>decide (-9223372036854775808≤z)&&decide (z≤9223372036854775807))=true):∀ z∈zs,-9223372036854775808≤z∧z≤9223372036854775807:=fun z hz=>by
 have:=List.all_eq_true.1 h z hz
 simpa using this
theorem F2 {K:Nat}{zs:List Int}(hK:2≤K) (h:zs.all (fun z=>decide (z.natAbs<1000))=true):QFits K (K1 zs):=fun q hq=>by
 obtain⟨z,hz,rfl⟩:=a2v.1 hq;have:=List.all_eq_true.1 h z hz
 simp at this
 exact (N9 (by omega)).mono hK
theorem Y7 {q:Rat}{z:Int}(h:q=(z:Rat)) (hz:z.natAbs<1000):Fits 2 q:=by rw[h];exact N9 (by omega)
theorem c1:(1:Rat)=((1:Int):Rat):=by decide +kernel
theorem c6:(6:Rat)=((6:Int):Rat):=by decide +kernel
theorem vX:(10:Rat)=((10:Int):Rat):=by decide +kernel
theorem ZL.one {w:World}{g:Nat}{t:TypeId}{a b:Int}(h:Blk w g t #[.int .i64 a,.int .i64 b]):ZL w (some ⟨g,0,none⟩) 2 [a,b] :=
 ⟨by simp,by decide,fun j hj=>⟨_,rfl,h.lt,fun i u hu=>by
  have hj3:j<2:=hj
  rcases j with _ | _ | j
  · rcases i with _ | i
    · injection hu with hu;subst hu;exact a4e h 0
    · simp at hu
  · rcases i with _ | i
    · injection hu with hu;subst hu;exact a4e h 1
    · simp at hu
  · omega⟩⟩
theorem NL.one {w:World}{g:Nat}{t:TypeId}(h:Blk w g t #[.int .i64 3,.int .i64 10]):NL w (some ⟨g,0,none⟩) 1 V5 :=
 ⟨by decide,by decide,fun j hj=>⟨_,rfl,h.lt,fun i u hu=>by
  have hj3:j<1:=hj
  rcases j with _ | j
  · rcases i with _ | _ | i
    · injection hu with hu;subst hu;exact a4e h 0
    · injection hu with hu;subst hu;exact a4e h 1
    · simp[NdD.cells,V5] at hu
  · omega⟩⟩
theorem NL.nil (w:World):NL w none 0 []:=⟨by simp,by decide,fun j hj=>by simp at hj⟩
theorem PtIn.up {w w':World}{x:PtD}{lo:Nat}(h:PtIn x lo w.heap.size) (b:Below w.heap.size w w'):PtIn x lo w'.heap.size:=h.mono (a1u _) b.size
theorem lL (w:World) (x:PtD):∃ wA wB,w.alloc (.cells #[.slice none 0 0,.slice none 0 0,.slice none 0 0,.slice none 0 0,.bool false,.slice none 0 0,.slice none 0 0] 46)=wA∧wA.cell? ⟨w.heap.size,0,none⟩=some (.slice none 0 0)∧wA.cell? ⟨w.heap.size,1,none⟩=some (.slice none 0 0)∧wA.cell? ⟨w.heap.size,2,none⟩=some (.slice none 0 0)∧wA.cell? ⟨w.heap.size,3,none⟩=some (.slice none 0 0)∧wA.cell? ⟨w.heap.size,4,none⟩=some (.bool false)∧wA.cell? ⟨w.heap.size,5,none⟩=some (.slice none 0 0)∧wA.cell? ⟨w.heap.size,6,none⟩=some (.slice none 0 0)∧wA.frozen? ⟨w.heap.size,0,none⟩=false∧wA.frozen? ⟨w.heap.size,1,none⟩=false∧wA.frozen? ⟨w.heap.size,2,none⟩=false∧wA.frozen? ⟨w.heap.size,3,none⟩=false∧wA.frozen? ⟨w.heap.size,4,none⟩=false∧wA.frozen? ⟨w.heap.size,5,none⟩=false∧wA.frozen? ⟨w.heap.size,6,none⟩=false ∧
 (((((((wA.setCell ⟨w.heap.size,0,none⟩ (.slice x.pay.a x.pay.ds.length x.pay.c)).setCell ⟨w.heap.size,1,none⟩ (.slice x.mults.a x.mults.ds.length x.mults.c)).setCell ⟨w.heap.size,2,none⟩ (.slice x.low.a x.low.ds.length x.low.c)).setCell ⟨w.heap.size,3,none⟩ (.slice x.high.a x.high.ds.length x.high.c)).setCell ⟨w.heap.size,4,none⟩ (.bool x.lev.neg)).setCell ⟨w.heap.size,5,none⟩ (.slice x.lev.a x.lev.la.length x.lev.ca)).setCell ⟨w.heap.size,6,none⟩ (.slice x.lev.b x.lev.lb.length x.lev.cb))=wB∧VarP wB w.heap.size x∧Below w.heap.size w wB∧w.heap.size<wB.heap.size:=by
 obtain⟨wA,eA,bA,lA,BA⟩:=f8 w #[.slice none 0 0,.slice none 0 0,.slice none 0 0,.slice none 0 0,.bool false,.slice none 0 0,.slice none 0 0] 46;obtain⟨wB,z0,z1,z2,z3,z4,z5,z6,f0,f1,f2,f3,f4,f5,f6,eB,hB,oB⟩:=Q9 BA x;exact⟨wA,wB,eA,z0,z1,z2,z3,z4,z5,z6,f0,f1,f2,f3,f4,f5,f6,eB,hB,oB.to_below bA (a1u _) bA.size,a1o lA oB.size⟩
theorem VarP.lt9 {w:World}{g:Nat}{x:PtD}(h:VarP w g x):g<w.heap.size:=Blk.lt h
theorem VarP.setPay {w:World}{g:Nat}{x:PtD}(h:VarP w g x) (r:RwD):∃ w9,w.cell? ⟨g,0,none⟩=some (.slice x.pay.a x.pay.ds.length x.pay.c)∧w.frozen? ⟨g,0,none⟩=false∧w.setCell ⟨g,0,none⟩ (.slice r.a r.ds.length r.c)=w9∧VarP w9 g { x with pay:=r }∧Only w w9 g :=
 ⟨_,a4e h 0,a4g h 0,rfl,Blk.set h 0 _,(a4m w g).set 0 _⟩
section
variable {P:Program}{md:Region.Mode}{ops:Array Oper}{Q:Exit→Act→World→Prop}{S:World→Prop}{fuel:Nat}{listed l':Array Bool}{a a':Act}{w:World}
def C2 (l:Array Bool):List Nat→Array Bool
 | []=>l
 | i::r=>C2 (l.setIfInBounds i true) r
def C1 (a:Act):List Nat→List Value→Act
 | d::ds,u::us=>C1 (a.put (some d) u) ds us
 | _,_=>a
theorem H8 (m:Nat) (L D:List Nat) (J:List Value→World→Prop) (htl:∀ us w',J us w'→S w'→wpAnyH P md ops Q S m (C2 listed L) (C1 a D us) w')
 (hwk:(∀ us w',J us w'→S w'→wpAnyH P md ops Q S m (C2 listed L) (C1 a D us) w')→wpAnyH P md ops Q S fuel listed a w):wpAnyH P md ops Q S fuel listed a w:=hwk htl
end
theorem C6 {t:TypeId}{w:World}{g:Nat}(h:Blk w g t #[.slice none 0 0,.slice none 0 0,.slice none 0 0,.slice none 0 0,.bool false,.slice none 0 0,.slice none 0 0]) (x:PtD):∃ w9,w.cell? ⟨g,0,none⟩=some (.slice none 0 0)∧w.cell? ⟨g,1,none⟩=some (.slice none 0 0)∧w.cell? ⟨g,2,none⟩=some (.slice none 0 0)∧w.cell? ⟨g,3,none⟩=some (.slice none 0 0)∧w.cell? ⟨g,4,none⟩=some (.bool false)∧w.cell? ⟨g,5,none⟩=some (.slice none 0 0)∧w.cell? ⟨g,6,none⟩=some (.slice none 0 0)∧w.frozen? ⟨g,0,none⟩=false∧w.frozen? ⟨g,1,none⟩=false∧w.frozen? ⟨g,2,none⟩=false∧w.frozen? ⟨g,3,none⟩=false∧w.frozen? ⟨g,4,none⟩=false∧w.frozen? ⟨g,5,none⟩=false∧w.frozen? ⟨g,6,none⟩=false ∧
 (((((((w.setCell ⟨g,0,none⟩ (.slice x.pay.a x.pay.ds.length x.pay.c)).setCell ⟨g,1,none⟩ (.slice x.mults.a x.mults.ds.length x.mults.c)).setCell ⟨g,2,none⟩ (.slice x.low.a x.low.ds.length x.low.c)).setCell ⟨g,3,none⟩ (.slice x.high.a x.high.ds.length x.high.c)).setCell ⟨g,4,none⟩ (.bool x.lev.neg)).setCell ⟨g,5,none⟩ (.slice x.lev.a x.lev.la.length x.lev.ca)).setCell ⟨g,6,none⟩ (.slice x.lev.b x.lev.lb.length x.lev.cb))=w9∧Blk w9 g t #[.slice x.pay.a x.pay.ds.length x.pay.c,.slice x.mults.a x.mults.ds.length x.mults.c,.slice x.low.a x.low.ds.length x.low.c,.slice x.high.a x.high.ds.length x.high.c,.bool x.lev.neg,.slice x.lev.a x.lev.la.length x.lev.ca,.slice x.lev.b x.lev.lb.length x.lev.cb]∧Only w w9 g:=by
 have b9:=((((((h.set 0 (.slice x.pay.a x.pay.ds.length x.pay.c)).set 1 (.slice x.mults.a x.mults.ds.length x.mults.c)).set 2 (.slice x.low.a x.low.ds.length x.low.c)).set 3 (.slice x.high.a x.high.ds.length x.high.c)).set 4 (.bool x.lev.neg)).set 5 (.slice x.lev.a x.lev.la.length x.lev.ca)).set 6 (.slice x.lev.b x.lev.lb.length x.lev.cb);have o9:=(((((((a4m w g).set 0 (.slice x.pay.a x.pay.ds.length x.pay.c)).set 1 (.slice x.mults.a x.mults.ds.length x.mults.c)).set 2 (.slice x.low.a x.low.ds.length x.low.c)).set 3 (.slice x.high.a x.high.ds.length x.high.c)).set 4 (.bool x.lev.neg)).set 5 (.slice x.lev.a x.lev.la.length x.lev.ca)).set 6 (.slice x.lev.b x.lev.lb.length x.lev.cb);exact⟨_,a4e h 0,a4e h 1,a4e h 2,a4e h 3,a4e h 4,a4e h 5,a4e h 6,a4g h 0,a4g h 1,a4g h 2,a4g h 3,a4g h 4,a4g h 5,a4g h 6,rfl,b9,o9⟩
def zeroP:PtD:=⟨⟨none,0,[]⟩,⟨none,0,[]⟩,⟨none,0,[]⟩,⟨none,0,[]⟩,P3⟩
def PjR (tg:List FrD) (ns:List NdD) (ms:List Int) (sq:Rat) (lo:Nat) (y:PtD) (k:Int) (w':World):Prop :=
 (argsE tg.length ns ms≠0∧y=zeroP∧k=argsE tg.length ns ms)∨(argsE tg.length ns ms=0∧Infeas ms.length (o0 ns ms) sq∧y=zeroP∧k=6) ∨
 (argsE tg.length ns ms=0∧k=0∧∃ t:St,Best ms.length (o0 ns ms) (tg.map FrD.q) sq t∧PtL w' y∧PtIn y lo w'.heap.size∧y.pay.qs=t.x∧y.mults.qs=(D8 ns ms t).take ns.length∧y.low.qs=((D8 ns ms t).drop ns.length).take ms.length∧y.high.qs=(D8 ns ms t).drop (ns.length+ms.length)∧y.lev.q=t.level)
theorem PrjPost.shape {tg:List FrD}{ns:List NdD}{ms:List Int}{sq:Rat}{lo:Nat}{e:Ending}{w':World}(h:PrjPost tg ns ms sq lo e w'):∃ y k,e=.returned (.tuple #[y.v,.int .i64 k])∧PjR tg ns ms sq lo y k w':=by
 rcases h with ⟨h1,h2⟩ | ⟨h1,h2,h3⟩ | ⟨h1,t,x,hb,h2,hr⟩
 · exact⟨zeroP,_,h2,.inl ⟨h1,rfl,rfl⟩⟩
 · exact⟨zeroP,_,h3,.inr (.inl ⟨h1,h2,rfl,rfl⟩)⟩
 · exact⟨x,_,h2,.inr (.inr ⟨h1,rfl,t,hb,hr⟩)⟩
theorem PjR.move {tg:List FrD}{ns:List NdD}{ms:List Int}{sq:Rat}{lo lo':Nat}{y:PtD}{k:Int}{w1 w2:World}(h:PjR tg ns ms sq lo y k w1) (hm:PtL w1 y→PtIn y lo w1.heap.size→PtL w2 y) (hl:lo'≤lo) (hs:w1.heap.size≤w2.heap.size):PjR tg ns ms sq lo' y k w2:=by
 rcases h with h | h | ⟨h1,h2,t,hb,hp,hi,hr⟩
 · exact .inl h
 · exact .inr (.inl h)
 · exact .inr (.inr ⟨h1,h2,t,hb,hm hp hi,hi.mono hl hs,hr⟩)
def RetPj (tg:List FrD) (ns:List NdD) (ms:List Int) (sq:Rat) (W:World) (e:Ending) (w':World):Prop:=∃ y k,e=.returned (.tuple #[y.v,.int .i64 k])∧Hid (PjR tg ns ms sq W.heap.size y k w')∧Below W.heap.size W w'
theorem pW {x:AgD}{w:World}(hpr:∀ w',Below w.heap.size w w'→Calls Tryz.prog 12 #[.slice x.t.a x.t.ds.length x.t.c,.slice x.na x.ns.length x.nc,.slice x.ma x.ms.length x.mc,x.s.v] w' (wI x.t.ds x.ns x.ms x.s.q w')):Calls Tryz.prog 6 #[x.v] w (RetPj x.t.ds x.ns x.ms x.s.q w):=by
 obtain⟨w0,n,b0,l0,B0⟩:=f8 w #[.slice x.t.a x.t.ds.length x.t.c,.slice x.na x.ns.length x.nc,.slice x.ma x.ms.length x.mc,.bool x.s.neg,.slice x.s.a x.s.la.length x.s.ca,.slice x.s.b x.s.lb.length x.s.cb] 30;obtain⟨w1,o,b1,l1,B1⟩:=f8 w0 #[.slice none 0 0,.slice none 0 0,.slice none 0 0,.slice none 0 0,.bool false,.slice none 0 0,.slice none 0 0] 34;have d:=a1j b0 b1;have BA:=a4f B0 b1;have a0:w1.cell? ⟨w.heap.size,0,none⟩=some (.slice x.t.a x.t.ds.length x.t.c):=a4e BA 0;have a1:w1.cell? ⟨w.heap.size,1,none⟩=some (.slice x.na x.ns.length x.nc):=a4e BA 1;have a2:w1.cell? ⟨w.heap.size,2,none⟩=some (.slice x.ma x.ms.length x.mc):=a4e BA 2;have a3:w1.cell? ⟨w.heap.size,3,none⟩=some (.bool x.s.neg):=a4e BA 3;have a4:w1.cell? ⟨w.heap.size,4,none⟩=some (.slice x.s.a x.s.la.length x.s.ca):=a4e BA 4;have a5:w1.cell? ⟨w.heap.size,5,none⟩=some (.slice x.s.b x.s.lb.length x.s.cb):=a4e BA 5;have f:=hpr w1 d;clear hpr;go_enter Tryz.func6,Tryz.ntmps6;go_wp2_with fail;refine f.mono ?_;rintro e y1 ⟨hp,l⟩;clear f;obtain⟨y,k,rfl,h⟩:=hp.out.shape;have hy:=a1k h;clear hp h;obtain⟨wA,wB,eA,p0,p1,p2,p3,p4,p5,p6,r0,r1,r2,r3,r4,r5,r6,eB,hV,bV,lV⟩:=lL y1 y;obtain⟨t0,t1,t2,t3,t4,t5,t6⟩:=hV.cells;have hR:=a4f (a4f B1 l) bV
 obtain⟨w9,z0,z1,z2,z3,z4,z5,z6,f0,f1,f2,f3,f4,f5,f6,e9,h9,o9⟩:=C6 hR y;have c0:w9.cell? ⟨w0.heap.size,0,none⟩=some (.slice y.pay.a y.pay.ds.length y.pay.c):=a4e h9 0;have c1:w9.cell? ⟨w0.heap.size,1,none⟩=some (.slice y.mults.a y.mults.ds.length y.mults.c):=a4e h9 1;have c2:w9.cell? ⟨w0.heap.size,2,none⟩=some (.slice y.low.a y.low.ds.length y.low.c):=a4e h9 2;have c3:w9.cell? ⟨w0.heap.size,3,none⟩=some (.slice y.high.a y.high.ds.length y.high.c):=a4e h9 3;have c4:w9.cell? ⟨w0.heap.size,4,none⟩=some (.bool y.lev.neg):=a4e h9 4;have c5:w9.cell? ⟨w0.heap.size,5,none⟩=some (.slice y.lev.a y.lev.la.length y.lev.ca):=a4e h9 5;have c6:w9.cell? ⟨w0.heap.size,6,none⟩=some (.slice y.lev.b y.lev.lb.length y.lev.cb):=a4e h9 6;have m:=a1j l bV;have bB:=a1j d m;have b9:=o9.to_below bB b0.size bB.size;have g:=a1k (show w0.heap.size<w1.heap.size from l1);have j:=a1k (hy.out.move (w2:=w9) (lo':=w.heap.size) (fun hp hi=>(hp.below bV).farP (fun a ha=>by have h1:=(hi a ha).1;have h2:=g.out;omega) hR I5 o9) d.size (a1t bV.size o9.size));clear hR h9 hV BA B0 B1;go_wp2;refine a3z (v:=.tuple #[y.v,.int .i64 k]) (by simp[results,Tryz.results6,go_sem,c0,c1,c2,c3,c4,c5,c6]) rfl ?_;exact⟨y,k,rfl,j,b9⟩
theorem mU {x:AgD}{w:World}{n m:Int}(hF:FewP w x n m) (hn0:NL w x.na x.nc x.ns) (hm0:ZL w x.ma x.mc x.ms):Calls Tryz.prog 6 #[x.v] w (RetPj x.t.ds x.ns x.ms x.s.q w) :=
 pW fun w' b=>N6 (ns:=x.ns) (ms:=x.ms) (hF.t.below b) (hn0.below b) (hm0.below b) (hF.s.below b) hF.tf hF.sf
theorem xV:(Tryz.prog.info? 2).map (fun i=>(i.zero,i.size,i.bytes))=some (some (.int .i64 0),1,8):=by kernel_rfl
def gP (zs:List Int):List Value:=zs.map (Value.int .i64)
theorem a0d (zs:List Int):AllPL IsZ (gP zs):=fun u hu=>by
 obtain⟨z,_,rfl⟩:=a2v.1 hu;exact⟨z,rfl⟩
def OwnZ (w:World) (base:Nat) (v:Value) (zs:List Int):Prop:=OwnG 2 1 IsZ w base v zs.length (gP zs)
theorem OwnZ.nil (w:World) (base:Nat):OwnZ w base (.slice none 0 0) []:=OwnG.nil w base
theorem OwnZ.below {w w':World}{base:Nat}{v:Value}{zs:List Int}(h:OwnZ w base v zs) (hb:Below w.heap.size w w'):OwnZ w' base v zs:=OwnG.below h hb
theorem run_appZ (w:World) (base:Nat) (v:Value) (zs:List Int) (hown:OwnZ w base v zs) (ad:Addr) (c:Nat) (z:Int) (hnews:w.cell? ad=some (.int .i64 z)) (h63:zs.length+1≤1000000000000) (hbase:base≤w.heap.size) :
 ∃ v' w',(Builtin.append_ #[24,24] 24 #[v,.slice (some ad) 1 c]).run Tryz.prog w=.ok v' w'∧OwnZ w' base v' (zs++[z])∧w.grownBy w' v.ownBlock:=by
 obtain⟨v',w',h1,h2,h3⟩:=X4 (P:=IsZ) w base v zs.length _ Tryz.underlying24 xV rfl (by decide) (fun i u hi=>by
  match i with
  | 0=>injection hi with hi;exact⟨_,hi.symm⟩
  | i+1=>simp[Value.cells] at hi) (by decide) hown ad 1 c [.int .i64 z] (by decide) rfl (fun j u hj=>by
  match j with
  | 0=>injection hj with hj;subst hj;simpa [Addr.add] using hnews
  | j+1=>simp at hj) (fun u hu=>by simp at hu;subst hu;rfl) (fun u hu=>by simp at hu;exact⟨_,hu⟩) h63 hbase (a0d zs)
 refine⟨v',w',h1,?_,h3⟩;unfold OwnZ gP;rw[a1x,a2r]
 simpa [gP] using h2
def ZT (w:World) (A:Option Addr) (c:Nat) (zs:List Int):Prop:=ZL w A c zs∧∀ a,A=some a→∃ cur,Blk w a.block 2 cur
section
variable {w w':World}{A:Option Addr}{c:Nat}{zs:List Int}
theorem ZT.below (h:ZT w A c zs) (hb:Below w.heap.size w w'):ZT w' A c zs:=⟨h.1.below hb,fun a e=>by obtain⟨cur,k⟩:=h.2 a e;exact⟨cur,k.keep hb⟩⟩
theorem ZT.far {g:Nat}(h:ZT w A c zs) (hne:∀ a,A=some a→a.block≠g) (ho:Only w w' g):ZT w' A c zs:=⟨Srow.far h.1 hne ho,fun a e=>by obtain⟨cur,k⟩:=h.2 a e;exact⟨cur,k.only ho (hne a e)⟩⟩
theorem ZT.other {g:Nat}{t:TypeId}{cs:Array Value}(h:ZT w A c zs) (hB:Blk w g t cs) (ht:2≠t) (ho:Only w w' g):ZT w' A c zs:=h.far (fun a e=>by obtain⟨cur,k⟩:=h.2 a e;exact k.ne_type hB ht) ho
theorem OwnZ.zt {base:Nat}{v:Value}(h:OwnZ w base v zs):∃ A c,v=.slice A zs.length c∧ZT w A c zs:=by
 have f:maxLen=9223372036854775807:=rfl
 rcases h.1.2 with ⟨rfl,h0⟩ | ⟨g,cap,b,rfl,hb,hg,hn,hm,hs,ht⟩
 · have:zs=[]:=a2a h0;subst this;exact⟨none,0,rfl,⟨by simp,by omega,fun j hj=>by simp at hj⟩,fun a e=>by cases e⟩
 · have hB:Blk w g 2 b:=hg;refine⟨_,cap,rfl,⟨hn,by omega,fun j hj=>⟨_,rfl,hB.lt,fun i u hu=>?_⟩⟩,fun a e=>by cases e;exact⟨b,hB⟩⟩;have hi:i=0:=by have:=(a2e.1 hu).1;simpa using this
   subst hi;have d:some (Value.int .i64 zs[j])=some u:=hu;rw[←d,D6,World.ownsRow.cellAt (n:=zs.length) (base:=base) (e:=2) (size:=1) (cap:=cap) h.1 (j*1+0) (by omega)]
   show (gP zs)[j*1+0]?=_
   unfold gP;rw[Nat.mul_one,Nat.add_zero,a1r,a1m hj];rfl
end
def ZA (w:World) (g:Nat) (zs:List Int):Prop:=Blk w g 2 (zs.map (Value.int .i64)).toArray
theorem ZA.below {w w':World}{g:Nat}{zs:List Int}(h:ZA w g zs) (hb:Below w.heap.size w w'):ZA w' g zs:=a4f h hb
theorem ZA.free {w:World}{g:Nat}{zs:List Int}(h:ZA w g zs) (j:Nat):w.frozen? ⟨g,j,none⟩=false:=a4g h j
theorem ZA.cell {w:World}{g:Nat}{zs:List Int}{j:Nat}{z:Int}(h:ZA w g zs) (hj:zs[j]?=some z):w.cell? ⟨g,j,none⟩=some (.int .i64 z):=by
 rw[a4e h,List.getElem?_toArray,a1r,hj];rfl
theorem ZA.set {w:World}{g:Nat}{zs:List Int}(h:ZA w g zs) (j:Nat) (z:Int):∃ w',w.setCell ⟨g,j,none⟩ (.int .i64 z)=w'∧ZA w' g (zs.set j z)∧Only w w' g:=by
 refine⟨_,rfl,?_,(a4m w g).set _ _⟩;have h1:=Blk.set h j (.int .i64 z);unfold ZA;rw[List.map_set]
 simpa using h1
theorem ZA.zt {w:World}{g:Nat}{zs:List Int}(h:ZA w g zs) (hl:zs.length≤1000000000000):ZT w (some ⟨g,0,none⟩) zs.length zs :=
 ⟨⟨a1u _,by omega,fun j hj=>⟨_,rfl,Blk.lt h,fun i u hu=>by
  have hi:i=0:=by have:=(a2e.1 hu).1;simpa using this
  subst hi;have b:some (Value.int .i64 zs[j])=some u:=hu;rw[←b,D6,Nat.mul_one,Nat.add_zero];exact h.cell (a1m hj)⟩⟩,fun a e=>by cases e;exact⟨_,h⟩⟩
theorem cW (w:World) (n:Nat) (hn:n≤100000000000) :
 ∃ w',(Instr.makeSlice 24 (.int .i64 (n:Int)) (.int .i64 (n:Int))).run Tryz.prog w=.ok (.slice (some ⟨w.heap.size,0,none⟩) n n) w'∧ZA w' w.heap.size (List.replicate n 0)∧Below w.heap.size w w'∧w.heap.size<w'.heap.size:=by
 obtain⟨i,hi,d,c,b⟩:=info_parts xV;have hr:=run_make (P:=Tryz.prog) w 24 2 i _ Tryz.underlying24 hi d .i64 .i64 n n (by omega) (by omega) (by rw[b];omega) (by omega);refine⟨w.alloc (.cells ((List.replicate n (0:Int)).map (Value.int .i64)).toArray 2),?_,a4h w _ _,(a3t _ _).alloc (a1u _) _,by simp⟩;rw[hr,c,Int.toNat_natCast,List.map_replicate,←lP]
 rfl
structure LmD where
 a:Option Addr
 c:Nat
 zs:List Int
 b:Int
def LmD.cells (l:LmD):List Value:=[.slice l.a l.zs.length l.c,.int .i64 l.b]
def LmD.p (l:LmD):List Int × Int:=(l.zs,l.b)
theorem xL (l:LmD):∀ u∈l.cells,iU u:=fun u hu x e=>by
 subst e
 simp[LmD.cells] at hu
theorem notU_lms (ls:List LmD):AllPL iU (ls.flatMap LmD.cells):=fun u hu=>by
 obtain⟨d,_,hd⟩:=List.mem_flatMap.1 hu;exact xL d u hd
theorem lm2:∀ (ds:List LmD) (j i:Nat) (hj:j<ds.length),i<2→(ds.flatMap LmD.cells)[j*2+i]?=(ds[j]).cells[i]?
 | d::ds,0,i,_,hi=>by
  rw[List.flatMap_cons,a2q (by simp[LmD.cells];omega)]
  simp
 | d::ds,j+1,i,hj,hi=>by
  rw[List.flatMap_cons,a2b (by simp[LmD.cells];omega)];have e:(j+1)*2+i-d.cells.length=j*2+i:=by simp[LmD.cells];omega
  rw[e,lm2 ds j i (by simpa using hj) hi]
  rfl
theorem infoLm:(Tryz.prog.info? 103).map (fun i=>(i.zero,i.size,i.bytes))=some (some (.agg #[.slice none 0 0,.int .i64 0]),2,32):=by kernel_rfl
def OwnL (w:World) (base:Nat) (v:Value) (ls:List LmD):Prop:=OwnG 103 2 iU w base v ls.length (ls.flatMap LmD.cells)
theorem rR (w:World) (base:Nat) (v:Value) (cs:List LmD) (hown:OwnL w base v cs) (ad:Addr) (c:Nat) (d:LmD) (hnews:∀ j u,d.cells[j]?=some u→w.cell? (ad.add j)=some u) (h63:cs.length+1≤1000000000000) (hbase:base≤w.heap.size) :
 ∃ v' w',(Builtin.append_ #[99,99] 99 #[v,.slice (some ad) 1 c]).run Tryz.prog w=.ok v' w'∧OwnL w' base v' (cs++[d])∧w.grownBy w' v.ownBlock:=by
 obtain⟨v',w',h1,h2,h3⟩:=X4 (P:=iU) w base v cs.length _ Tryz.underlying99 infoLm rfl (by decide) (fun i u hi x e=>by
  subst e
  match i with
  | 0=>injection hi with hi;cases hi
  | 1=>injection hi with hi;cases hi
  | i+2=>simp[Value.cells] at hi) (by decide) hown ad 1 c d.cells (by decide) rfl hnews (fun u hu=>by
   simp only[LmD.cells,a3i,List.not_mem_nil,or_false] at hu
   rcases hu with rfl | rfl <;> rfl) (xL d) h63 hbase (notU_lms cs)
 refine⟨v',w',h1,?_,h3⟩;unfold OwnL;rw[a1x,List.flatMap_append]
 simpa using h2
def LmL (w:World) (A:Option Addr) (c:Nat) (ls:List LmD):Prop:=Srow w 2 LmD.cells A c ls∧∀ l∈ls,ZL w l.a l.c l.zs
theorem LmL.below {w w':World}{A:Option Addr}{c:Nat}{ls:List LmD}(h:LmL w A c ls) (hb:Below w.heap.size w w'):LmL w' A c ls:=⟨h.1.below hb,fun l hl=>(h.2 l hl).below hb⟩
theorem LmL.at {w:World}{A:Option Addr}{c:Nat}{ls:List LmD}(h:LmL w A c ls){k:Nat}(hk:k<ls.length) :
 ∃ a l,A=some a∧a.block<w.heap.size∧w.cell? (a.add (k*2))=some (.slice l.a l.zs.length l.c)∧w.cell? ⟨(a.add (k*2)).block,(a.add (k*2)).off+1,none⟩=some (.int .i64 l.b)∧ZL w l.a l.c l.zs∧Hid (ls[k]?=some l):=by
 obtain⟨a,e,h1,h2⟩:=h.1.2.2 k hk;have h3:=h2 0 _ rfl;rw[Nat.add_zero] at h3;exact⟨a,ls[k],e,h1,h3,gI (a:=a.add (k*2)) (by rw[add_add];exact h2 1 _ rfl) (by decide),h.2 _ (a1z hk),a1m hk⟩
theorem OwnL.srow {w:World}{base:Nat}{v:Value}{cs:List LmD}(h:OwnL w base v cs):∃ A c,v=.slice A cs.length c∧Srow w 2 LmD.cells A c cs:=by
 have d:maxLen=9223372036854775807:=rfl
 rcases h.1.2 with ⟨rfl,h0⟩ | ⟨g,cap,b,rfl,hb,hg,hn,hm,hs,ht⟩
 · have:cs=[]:=a2a h0;subst this;exact⟨none,0,rfl,⟨by simp,by omega,fun j hj=>by simp at hj⟩⟩
 · have hB:Blk w g 103 b:=hg;refine⟨_,cap,rfl,⟨hn,by omega,fun j hj=>⟨_,rfl,hB.lt,fun i u hu=>?_⟩⟩⟩
   have hi:i<2:=by
    have:=(a2e.1 hu).1
    simpa [LmD.cells] using this
   rw[D6,World.ownsRow.cellAt (n:=cs.length) (base:=base) (e:=103) (size:=2) (cap:=cap) h.1 (j*2+i) (by omega),lm2 cs j i hj hi];exact hu
def LmAt (L:List (List Int × Int)) (root:World) (k:Nat) (v:Value) (w:World):Prop :=
 ∃ ls:List LmD,OwnL w root.heap.size v ls∧(∀ l∈ls,ZT w l.a l.c l.zs)∧ls.length=k∧ls.map LmD.p=L.take k∧Below root.heap.size root w
section
variable {L:List (List Int × Int)}{root w w':World}{k:Nat}{v:Value}
theorem LmAt.nil (L:List (List Int × Int)) (w:World):LmAt L w 0 (.slice none 0 0) w:=⟨[],OwnG.nil _ _,fun l hl=>by simp at hl,rfl,rfl,a3t _ _⟩
theorem LmAt.below (h:LmAt L root k v w) (hb:Below w.heap.size w w'):LmAt L root k v w':=by
 obtain⟨ls,h1,h2,h3,h4,h5⟩:=h;exact⟨ls,OwnG.below h1 hb,fun l hl=>(h2 l hl).below hb,h3,h4,(a1j h5 hb)⟩
theorem LmAt.bel (h:LmAt L root k v w):Below root.heap.size root w:=by obtain⟨ls,h1,h2,h3,h4,h5⟩:=h;exact h5
theorem LmAt.app (h:LmAt L root k v w) (hk:k<1000000000){l:LmD}(hq:L[k]?=some l.p) (hr:ZT w l.a l.c l.zs) :
 ∃ v6 w6,(Builtin.append_ #[99,99] 99 #[v,.slice (some ⟨w.heap.size,0,none⟩) 1 1]).run Tryz.prog (w.alloc (.cells #[.slice l.a l.zs.length l.c,.int .i64 l.b] 103))=.ok v6 w6∧LmAt L root (k+1) v6 w6:=by
 obtain⟨ls,h1,h2,h3,h4,h5⟩:=h;have ba:=(a3t w.heap.size w).alloc (a1u _) (.cells #[.slice l.a l.zs.length l.c,.int .i64 l.b] 103);have hB:=a4h w 103 #[.slice l.a l.zs.length l.c,.int .i64 l.b];have ho:=OwnG.below h1 ba
 obtain⟨v6,w6,d,g1,g2⟩:=rR _ root.heap.size v ls ho ⟨w.heap.size,0,none⟩ 1 l (fun j u hj=>by
  rw[D6,a4e hB];have:(#[Value.slice l.a l.zs.length l.c,.int .i64 l.b]:Array Value)[j]?=l.cells[j]?:=by rw[←Array.getElem?_toList];rfl
  rw[this];exact hj) (by omega) (a1t h5.size ba.size)
 refine⟨v6,w6,d,ls++[l],g1,fun x hx=>?_,by rw[a1x,h3];rfl,?_,?_⟩
 · have f:ZT (w.alloc (.cells #[.slice l.a l.zs.length l.c,.int .i64 l.b] 103)) x.a x.c x.zs:=by
    rcases a3b.1 hx with hx | hx
    · exact (h2 x hx).below ba
    · simp at hx;subst hx;exact hr.below ba
   cases hv:v.ownBlock with
   | none=>rw[hv] at g2;exact f.below ⟨g2.os,g2.tape,g2.output,g2.size,fun i hi=>g2.block i hi (by simp)⟩
   | some g =>
    rw[hv] at g2;obtain⟨m,k1,k2⟩:=ho.2 g hv;exact f.other k1 (by decide) g2
 · rw[a2r,h4,a3e,hq];rfl
 · exact ((a1j h5 ba)).grown g2 (a1t h5.size ba.size) fun g hg=>a4o ho hg
theorem LmAt.done (h:LmAt L root k v w) (hk:k=L.length):∃ A c ls,v=.slice A ls.length c∧LmL w A c ls∧Hid (ls.map LmD.p=L):=by
 obtain⟨ls,h1,h2,h3,h4,h5⟩:=h;obtain⟨A,c,e,hs⟩:=h1.srow;exact⟨A,c,ls,e,⟨hs,fun l hl=>(h2 l hl).1⟩,by show _=_;rw[h4,hk,a2z]⟩
end
structure InAt (root:World) (g:Nat) (b:Int) (zs:List Int) (A:Option Addr) (c:Nat) (w:World):Prop where
 blk:Blk w g 103 #[.slice A zs.length c,.int .i64 b]
 own:OwnZ w root.heap.size (.slice A zs.length c) zs
 bel:Below root.heap.size root w
section
variable {root w w':World}{g c:Nat}{b z:Int}{zs:List Int}{A:Option Addr}
theorem InAt.below (h:InAt root g b zs A c w) (hb:Below w.heap.size w w'):InAt root g b zs A c w':=⟨h.blk.keep hb,h.own.below hb,h.bel.trans (hb.mono h.bel.size)⟩
theorem InAt.c0 (h:InAt root g b zs A c w):w.cell? ⟨g,0,none⟩=some (.slice A zs.length c):=a4e h.blk 0
theorem InAt.c1 (h:InAt root g b zs A c w):w.cell? ⟨g,1,none⟩=some (.int .i64 b):=a4e h.blk 1
theorem InAt.app (h:InAt root g b zs A c w) (hg:root.heap.size≤g){ad:Addr}{c':Nat}(hnews:w.cell? ad=some (.int .i64 z)) (h63:zs.length<1000000000) :
 ∃ A' c2 w6 w9,(Builtin.append_ #[24,24] 24 #[.slice A zs.length c,.slice (some ad) 1 c']).run Tryz.prog w=.ok (.slice A' (zs.length+1) c2) w6∧w6.cell? ⟨g,0,none⟩=some (.slice A zs.length c)∧w6.frozen? ⟨g,0,none⟩=false ∧
  w6.setCell ⟨g,0,none⟩ (.slice A' (zs.length+1) c2)=w9∧InAt root g b (zs++[z]) A' c2 w9∧Below root.heap.size root w6:=by
 obtain⟨v',w6,h1,h2,h3⟩:=run_appZ w root.heap.size _ zs h.own ad c' z hnews (by omega) h.bel.size;obtain⟨A',c2,rfl,-⟩:=h2.zt;rw[show (zs++[z]).length=zs.length+1 by simp] at h1 h2
 have f:Blk w6 g 103 #[.slice A zs.length c,.int .i64 b]:=by
  cases hv:(Value.slice A zs.length c).ownBlock with
  | none=>rw[hv] at h3;exact h.blk.keep ⟨h3.os,h3.tape,h3.output,h3.size,fun i hi=>h3.block i hi (by simp)⟩
  | some g' =>
   rw[hv] at h3;obtain⟨j,k1,k2⟩:=h.own.2 g' hv;exact h.blk.only h3 (h.blk.ne_type k1 (by decide))
 have d:Below root.heap.size root w6:=h.bel.grown h3 h.bel.size fun g' p=>a4o h.own p;have o9:=(a4m w6 g).set 0 (.slice A' (zs.length+1) c2);refine⟨A',c2,w6,_,h1,a4e f 0,a4g f 0,rfl,⟨by rw[show (zs++[z]).length=zs.length+1 by simp];exact f.set 0 _,?_,o9.to_below d hg d.size⟩,d⟩;rw[show (zs++[z]).length=zs.length+1 by simp]
 rcases h2.1.2 with ⟨e0,h0⟩ | ⟨g',m,j,e,hb,n,hn,hm,hs,ht⟩
 · simp at h0
 · have hB:Blk w6 g' 2 j:=n;have l:g'≠g:=hB.ne_type f (by decide);refine⟨⟨h2.1.1,.inr ⟨g',m,j,e,hb,hB.only o9 l,hn,hm,hs,ht⟩⟩,fun g2 o=>?_⟩;obtain⟨k,k1,k2⟩:=h2.2 g2 o;exact⟨k,k1.only o9 (k1.ne_type f (by decide)),k2⟩
theorem InAt.zt (h:InAt root g b zs A c w):ZT w A c zs:=by
 obtain⟨A',c',e,hz⟩:=h.own.zt
 injection e with e1 _ e3
 subst e1 e3;exact hz
theorem sM (h:Blk w g 103 #[.slice none 0 0,.int .i64 0]) (A:Option Addr) (n c:Nat) (b:Int):∃ w9,w.cell? ⟨g,0,none⟩=some (.slice none 0 0)∧w.cell? ⟨g,1,none⟩=some (.int .i64 0)∧w.frozen? ⟨g,0,none⟩=false∧w.frozen? ⟨g,1,none⟩=false ∧
 (w.setCell ⟨g,0,none⟩ (.slice A n c)).setCell ⟨g,1,none⟩ (.int .i64 b)=w9∧Blk w9 g 103 #[.slice A n c,.int .i64 b]∧Only w w9 g :=
 ⟨_,a4e h 0,a4e h 1,a4g h 0,a4g h 1,rfl,(h.set 0 _).set 1 _,((a4m w g).set 0 _).set 1 _⟩
theorem new_lm (w:World) (A:Option Addr) (n c:Nat) (b:Int):∃ wA wB,w.alloc (.cells #[.slice none 0 0,.int .i64 0] 103)=wA∧wA.cell? ⟨w.heap.size,0,none⟩=some (.slice none 0 0)∧wA.cell? ⟨w.heap.size,1,none⟩=some (.int .i64 0)∧wA.frozen? ⟨w.heap.size,0,none⟩=false∧wA.frozen? ⟨w.heap.size,1,none⟩=false ∧
 (wA.setCell ⟨w.heap.size,0,none⟩ (.slice A n c)).setCell ⟨w.heap.size,1,none⟩ (.int .i64 b)=wB∧Blk wB w.heap.size 103 #[.slice A n c,.int .i64 b]∧Below w.heap.size w wB∧w.heap.size<wB.heap.size:=by
 obtain⟨wA,eA,bA,lA,BA⟩:=f8 w #[.slice none 0 0,.int .i64 0] 103;have o9:=((a4m wA w.heap.size).set 0 (.slice A n c)).set 1 (.int .i64 b);exact⟨wA,_,eA,a4e BA 0,a4e BA 1,a4g BA 0,a4g BA 1,rfl,(BA.set 0 (.slice A n c)).set 1 (.int .i64 b),o9.to_below bA (a1u _) bA.size,a1o lA o9.size⟩
end
def jR (p k:Nat):Int:=if M8 p k=true then 1 else 0
def S3 (n p:Nat):List Int:=(List.range n).map (jR p)
def J2 (n i:Nat) (v:Int):List Int:=(List.replicate n 0).set i v
def C5 (ns:List NdD) (ms:List Int):List (List Int × Int) :=
 ns.map (fun d=>(S3 ms.length d.p.toNat,d.l))++((List.range ms.length).map (fun i=>(J2 ms.length i 1,0))++(List.range ms.length).map (fun i=>(J2 ms.length i (-1),-(ms.getD i 0))))
def I7 (c:List Int) (qs:List Rat):List Rat:=List.zipWith (fun (z:Int) q=>(z:Rat)*q) c qs
theorem X7 (n p:Nat):(S3 n p).length=n:=by simp[S3]
theorem I4 (n i:Nat) (v:Int):(J2 n i v).length=n:=by simp[J2]
theorem G5 (ns:List NdD) (ms:List Int):(C5 ns ms).length=ns.length+(ms.length+ms.length):=by simp[C5]
theorem a0p {n p:Nat}{qs:List Rat}(h:qs.length=n):I7 (S3 n p) qs=K7 p qs:=by
 refine List.ext_getElem (by rw[X6];simp[I7,S3,h]) fun i h1 h2=>?_;have hi:i<qs.length:=by rw[X6] at h2;exact h2
 have e:=iD (p:=p) (a1m hi);rw[a1m h2] at e
 injection e with e
 rw[e]
 simp only[I7,S3,List.getElem_zipWith,List.getElem_map,List.getElem_range,jR]
 by_cases c:M8 p i=true
 · rw[if_pos c,if_pos c];show ((1:Int):Rat)*_=_;rw[show ((1:Int):Rat)=1 from rfl,Rat.one_mul]
 · rw[if_neg c,if_neg c];show ((0:Int):Rat)*_=_;rw[show ((0:Int):Rat)=0 from rfl,Rat.zero_mul]
theorem gF {c:List Int}{qs:List Rat}(h:c.length=qs.length):(I7 c qs).length=qs.length:=by simp[I7,h]
theorem qL {c:List Int}{qs:List Rat}{k:Nat}(hc:k<c.length) (hq:k<qs.length):(I7 c qs)[k]?=some (((c.getD k 0:Int):Rat)*qs.getD k 0):=by
 unfold I7;rw[List.getElem?_zipWith,a1m hc,a1m hq,p7 0 hc,p7 0 hq]
theorem kI {n i k:Nat}{v:Int}(hi:i<n) (hk:k<n):((J2 n i v).getD k 0:Int)=if i=k then v else 0:=by
 unfold J2
 by_cases e:i=k
 · subst e;rw[if_pos rfl,a1l,List.getElem?_set_self (by simpa using hi)];rfl
 · rw[if_neg e,a1l,List.getElem?_set_ne e,←a1l,p7 0 (by simpa using hk)]
   simp
theorem oO {n i:Nat}{v:Int}{qs:List Rat}(h:qs.length=n) (hi:i<n):o5 (I7 (J2 n i v) qs)=(v:Rat)*gt qs i:=by
 rw[V7,gF (by rw[I4,h]),h];rw[j7 (g:=fun k=>dl i k*((v:Rat)*gt qs k)) (fun k hk=>?_),K6 _ hi];have e:=qL (c:=J2 n i v) (qs:=qs) (k:=k) (by rw[I4];exact hk) (by omega);unfold gt;rw[a1l (l:=I7 _ _),e]
 show ((_:Int):Rat)*_=_
 rw[kI hi hk];unfold dl
 by_cases c:i=k
 · rw[if_pos c,if_pos c,Rat.one_mul]
 · rw[if_neg c,if_neg c,Rat.zero_mul];show ((0:Int):Rat)*_=_;rw[show ((0:Int):Rat)=0 from rfl,Rat.zero_mul]
theorem a0o (qs:List Rat):I7 (List.replicate qs.length 1) qs=qs:=by
 refine List.ext_getElem (by simp[I7]) fun i h1 h2=>?_
 simp only[I7,List.getElem_zipWith,List.getElem_replicate]
 rw[show ((1:Int):Rat)=1 from rfl,Rat.one_mul]
def iH (pay:List Rat) (l:List Int × Int):Bool:=!(decide (o5 (I7 l.1 pay)<(l.2:Rat)))
def bU (ns:List NdD) (ms:List Int) (sum:Rat) (pay:List Rat):Bool :=
 decide (pay.length=ms.length)&&(decide (o5 pay=sum)&&(C5 ns ms).all (iH pay))
section
variable {ns:List NdD}{ms:List Int}{sum:Rat}{pay:List Rat}
theorem Y2 {k:Nat}(hk:k<ns.length):(C5 ns ms).getD k ([],0)=(S3 ms.length (eO ns k),lOf ns k):=by
 unfold C5;rw[a1l,a2q (by simpa using hk),a1r,a1m hk];have e:ns.getD k ⟨0,0⟩=ns[k]:=by rw[a1l,a1m hk];rfl
 unfold eO lOf;rw[e];rfl
theorem cB {i:Nat}(hi:i<ms.length):(C5 ns ms).getD (ns.length+i) ([],0)=(J2 ms.length i 1,0):=by
 unfold C5;rw[a1l,a2b (by simp),a2q (by simp;omega),a1r,a2t (by simp;omega)]
 simp
theorem fQ {i:Nat}(hi:i<ms.length):(C5 ns ms).getD (ns.length+ms.length+i) ([],0)=(J2 ms.length i (-1),-(ms.getD i 0)):=by
 unfold C5;rw[a1l,a2b (by simp;omega),a2b (by simp;omega),a1r,a2t (by simp;omega)]
 simp only[a1s,List.length_range,Option.map_some,Option.getD_some]
 rw[show ns.length+ms.length+i-ns.length-ms.length=i by omega]
theorem nT {P:Nat→Prop}:(∀ k,k<(C5 ns ms).length→P k) ↔ (∀ k,k<ns.length→P k)∧(∀ i,i<ms.length→P (ns.length+i))∧∀ i,i<ms.length→P (ns.length+ms.length+i):=by
 rw[G5]
 constructor
 · exact fun h=>⟨fun k hk=>h k (by omega),fun i hi=>h _ (by omega),fun i hi=>h _ (by omega)⟩
 · rintro ⟨h1,h2,h3⟩ k hk
   by_cases e1:k<ns.length
   · exact h1 k e1
   · by_cases e2:k<ns.length+ms.length
     · have:=h2 (k-ns.length) (by omega)
       rwa [show ns.length+(k-ns.length)=k by omega] at this
     · have:=h3 (k-(ns.length+ms.length)) (by omega)
       rwa [show ns.length+ms.length+(k-(ns.length+ms.length))=k by omega] at this
theorem all_idx {α:Type}{f:α→Bool}{l:List α}(d:α):l.all f=true ↔ ∀ k,k<l.length→f (l.getD k d)=true:=by
 rw[List.all_eq_true]
 constructor
 · exact fun h k hk=>h _ (by rw[p7 d hk];exact a1z hk)
 · intro h x hx;obtain⟨k,hk,rfl⟩:=a3j hx;have:=h k hk
   rwa [p7 d hk] at this
theorem R7 {k:Nat}(hl:pay.length=ms.length) (hk:k<ns.length):o5 (I7 ((C5 ns ms).getD k ([],0)).1 pay)=o5 (K7 (eO ns k) pay)∧((C5 ns ms).getD k ([],0)).2=lOf ns k:=by
 rw[Y2 hk];exact⟨by rw[a0p hl],rfl⟩
theorem W8 {i:Nat}(hl:pay.length=ms.length) (hi:i<ms.length):o5 (I7 ((C5 ns ms).getD (ns.length+i) ([],0)).1 pay)=gt pay i∧((C5 ns ms).getD (ns.length+i) ([],0)).2=0:=by
 rw[cB hi];exact⟨by rw[oO hl hi];show ((1:Int):Rat)*_=_;rw[show ((1:Int):Rat)=1 from rfl,Rat.one_mul],rfl⟩
theorem cF {i:Nat}(hl:pay.length=ms.length) (hi:i<ms.length):o5 (I7 ((C5 ns ms).getD (ns.length+ms.length+i) ([],0)).1 pay)=- gt pay i∧((C5 ns ms).getD (ns.length+ms.length+i) ([],0)).2=-(ms.getD i 0):=by
 rw[fQ hi];exact⟨by rw[oO hl hi,Rat.intCast_neg];show-((1:Int):Rat)*_=_;rw[show ((1:Int):Rat)=1 from rfl];grind,rfl⟩
theorem T0 (hn:ms.length≤8):bU ns ms sum pay=true ↔ Poss ms.length (o0 ns ms) sum pay:=by
 rw[O6 hn];unfold bU;rw[a3m,a3m,decide_eq_true_eq,decide_eq_true_eq,all_idx ([],0),nT]
 constructor
 · rintro ⟨h1,h2,h3,h4,h5⟩;refine⟨h1,h2,fun k hk=>?_,fun i hi=>?_,fun i hi=>?_⟩
   · have h:=h3 k hk;unfold iH at h;rw[(R7 h1 hk).1,(R7 h1 hk).2,Bool.not_eq_true',decide_eq_false_iff_not,Rat.not_lt] at h;exact h
   · have h:=h4 i hi;unfold iH at h;rw[(W8 h1 hi).1,(W8 h1 hi).2,Bool.not_eq_true',decide_eq_false_iff_not,Rat.not_lt] at h;exact h
   · have h:=h5 i hi;unfold iH at h;rw[(cF h1 hi).1,(cF h1 hi).2,Bool.not_eq_true',decide_eq_false_iff_not,Rat.not_lt,Rat.intCast_neg] at h
     grind
 · rintro ⟨h1,h2,h3,h4,h5⟩;refine⟨h1,h2,fun k hk=>?_,fun i hi=>?_,fun i hi=>?_⟩
   · unfold iH;rw[(R7 h1 hk).1,(R7 h1 hk).2,Bool.not_eq_true',decide_eq_false_iff_not,Rat.not_lt];exact h3 k hk
   · unfold iH;rw[(W8 h1 hi).1,(W8 h1 hi).2,Bool.not_eq_true',decide_eq_false_iff_not,Rat.not_lt];exact h4 i hi
   · unfold iH;rw[(cF h1 hi).1,(cF h1 hi).2,Bool.not_eq_true',decide_eq_false_iff_not,Rat.not_lt,Rat.intCast_neg];have:=h5 i hi
     grind
def eI (ns:List NdD) (ms:List Int) (pay mu:List Rat) (k:Nat):Bool:=D4 (mu.getD k 0) (decide (o5 (I7 ((C5 ns ms).getD k ([],0)).1 pay)=((((C5 ns ms).getD k ([],0)).2:Int):Rat)))
def O4 (tg:List Rat) (ns:List NdD) (ms:List Int) (sum:Rat) (pay mults low high:List Rat) (lev:Rat):Bool :=
 decide (low.length=ms.length)&&(decide (high.length=ms.length)&&(decide (mults.length=ns.length)&&(bU ns ms sum pay&&((List.range (C5 ns ms).length).all (eI ns ms pay (mults++(low++high)))&&(List.range ms.length).all (V2 ns tg pay mults low high lev)))))
theorem gZ {f:Nat→Bool}{n:Nat}:(List.range n).all f=true ↔ ∀ k,k<n→f k=true:=by
 rw[List.all_eq_true];exact⟨fun h k hk=>h k (a2u.2 hk),fun h k hk=>h k (a2u.1 hk)⟩
theorem tI {a b:Bool}(h:a=true ↔ b=true):a=b:=by cases a <;> cases b <;> simp_all
theorem xM {mults low high:List Rat}{k:Nat}(hk:k<mults.length):(mults++(low++high)).getD k 0=mults.getD k 0:=by
 rw[a1l,a2q hk,←a1l]
theorem uW {mults low high:List Rat}{i:Nat}(hi:i<low.length):(mults++(low++high)).getD (mults.length+i) 0=low.getD i 0:=by
 rw[a1l,a2b (by omega),a2q (by omega),←a1l,Nat.add_sub_cancel_left]
theorem mu_up {mults low high:List Rat}{i:Nat}:(mults++(low++high)).getD (mults.length+low.length+i) 0=high.getD i 0:=by
 rw[a1l,a2b (by omega),a2b (by omega),←a1l]
 congr 1;omega
theorem rU {tg mults low high:List Rat}{lev:Rat}(hn:ms.length≤8):O4 tg ns ms sum pay mults low high lev=P4 tg ns ms sum pay mults low high lev:=by
 apply tI
 unfold O4 P4 cC
 simp only[a3m,decide_eq_true_eq,gZ]
 rw[nT]
 constructor
 · rintro ⟨h1,h2,h3,hp,⟨s1,s2,s3⟩,hf⟩;obtain⟨p1,p2,p3,p4,p5⟩:=(O6 hn).1 ((T0 hn).1 hp);refine⟨⟨p1,h1,h2,h3⟩,fun i hi=>?_,p2,fun k hk=>?_,hf⟩
   · unfold dX;have a1:¬ pay.getD i 0<0:=Rat.not_lt.2 (p4 i hi);have a2:¬ ((ms.getD i 0:Int):Rat)<pay.getD i 0:=Rat.not_lt.2 (p5 i hi);have b1:=s2 i hi;have b2:=s3 i hi;unfold eI at b1 b2;rw[(W8 p1 hi).1,(W8 p1 hi).2,←h3,uW (by omega)] at b1;rw[(cF p1 hi).1,(cF p1 hi).2,←h3,←h1,mu_up] at b2;rw[a1v a1,a1v a2];rw[show decide (pay.getD i 0=0)=decide (gt pay i=((0:Int):Rat)) from rfl,b1]
     rw[show decide (pay.getD i 0=((ms.getD i 0:Int):Rat))=decide (- gt pay i=((-(ms.getD i 0):Int):Rat)) from decide_eq_decide.2 (by
      rw[Rat.intCast_neg]
      show gt pay i=_ ↔ _
      constructor <;> intro h <;> grind),b2];rfl
   · unfold gH;have a1:¬ o5 (K7 (eO ns k) pay)<((lOf ns k:Int):Rat):=Rat.not_lt.2 (p3 k hk);have b1:=s1 k hk;unfold eI at b1;rw[(R7 p1 hk).1,(R7 p1 hk).2,xM (by omega)] at b1;rw[a1v a1,b1];rfl
 · rintro ⟨⟨p1,h1,h2,h3⟩,hA,p2,hN,hf⟩
   have kA:∀ i,i<ms.length→0≤gt pay i∧gt pay i≤((ms.getD i 0:Int):Rat)∧D4 (low.getD i 0) (decide (pay.getD i 0=0))=true∧D4 (high.getD i 0) (decide (pay.getD i 0=((ms.getD i 0:Int):Rat)))=true:=fun i hi=>by
    have h:=hA i hi;unfold dX at h;rw[a3m,a3m,a3m,Bool.not_eq_true',Bool.not_eq_true',decide_eq_false_iff_not,decide_eq_false_iff_not,Rat.not_lt,Rat.not_lt] at h;exact h
   have kN:∀ k,k<ns.length→((lOf ns k:Int):Rat)≤o5 (K7 (eO ns k) pay)∧D4 (mults.getD k 0) (decide (o5 (K7 (eO ns k) pay)=((lOf ns k:Int):Rat)))=true:=fun k hk=>by
    have h:=hN k hk;unfold gH at h;rw[a3m,Bool.not_eq_true',decide_eq_false_iff_not,Rat.not_lt] at h;exact h
   refine⟨h1,h2,h3,(T0 hn).2 ((O6 hn).2 ⟨p1,p2,fun k hk=>(kN k hk).1,fun i hi=>(kA i hi).1,fun i hi=>(kA i hi).2.1⟩),⟨fun k hk=>?_,fun i hi=>?_,fun i hi=>?_⟩,hf⟩
   · unfold eI;rw[(R7 p1 hk).1,(R7 p1 hk).2,xM (by omega)];exact (kN k hk).2
   · unfold eI;rw[(W8 p1 hi).1,(W8 p1 hi).2,←h3,uW (by omega)];exact (kA i hi).2.2.1
   · unfold eI;rw[(cF p1 hi).1,(cF p1 hi).2,←h3,←h1,mu_up]
     rw[show decide (- gt pay i=((-(ms.getD i 0):Int):Rat))=decide (pay.getD i 0=((ms.getD i 0:Int):Rat)) from decide_eq_decide.2 (by
      rw[Rat.intCast_neg]
      show _ ↔ gt pay i=_
      constructor <;> intro h <;> grind)]
     exact (kA i hi).2.2.2
end
end Go.Proofs.YtjhkapjadfpimaaGreat
