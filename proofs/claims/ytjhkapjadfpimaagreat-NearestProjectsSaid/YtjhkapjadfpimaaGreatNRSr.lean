/- Contracts of functions, for the law. -/
import Derived.Test.YtjhkapjadfpimaaGreatNRNr
namespace Go.Proofs.YtjhkapjadfpimaaGreat
set_option linter.unusedVariables false
set_option linter.unusedSimpArgs false
open Go.RowKit Plain
attribute [local go_sem ↓] Go.wp_at_zero Go.wp_at_succ
set_option maxRecDepth 100000
set_option maxHeartbeats 40000000
def NrP (tg:List Rat) (ns:List NdD) (ms:List Int) (sq:Rat) (b:Bool) (lo:Nat) (x:PtD) (w:World):Prop :=
 b=true→PtL w x∧PtIn x lo w.heap.size∧fi tg ns ms sq x.pay.qs x.mults.qs x.low.qs x.high.qs x.lev.q=true
section
variable {tg:List Rat}{ns:List NdD}{ms:List Int}{sq:Rat}{b:Bool}{lo lo' g:Nat}{x:PtD}{w w':World}
theorem NrP.below (h:NrP tg ns ms sq b lo x w) (hb:Below w.heap.size w w'):NrP tg ns ms sq b lo x w':=fun e =>
 ⟨(h e).1.below hb,(h e).2.1.mono (Dt _) hb.size,(h e).2.2⟩
theorem NrP.mono (h:NrP tg ns ms sq b lo x w) (hl:lo'≤lo):NrP tg ns ms sq b lo' x w:=fun e =>
 ⟨(h e).1,(h e).2.1.mono hl (Dt _),(h e).2.2⟩
theorem NrP.far {t:TypeId}{cs:Array Value}(h:NrP tg ns ms sq b lo x w) (hne:b=true→∀ a,(x.pay.a=some a∨x.mults.a=some a∨x.low.a=some a∨x.high.a=some a)→a.block≠g) (hB:Blk w g t cs) (hd:NoDig cs) (ho:Only w w' g):NrP tg ns ms sq b lo x w':=fun e =>
 ⟨(h e).1.farP (hne e) hB hd ho,(h e).2.1.mono (Dt _) ho.size,(h e).2.2⟩
theorem NrP.ofF:NrP tg ns ms sq false lo x w:=fun e=>by cases e
end
def Ca (tg:List Rat) (ns:List NdD) (ms:List Int) (sq:Rat) (b:Bool) (W:World) (e:Ending) (w':World):Prop :=
 ∃ x:PtD,e=.returned (.tuple #[x.v,.bool b])∧NrP tg ns ms sq b W.heap.size x w'∧Below W.heap.size W w'
theorem RetNr.sr {tg:List Rat}{ns:List NdD}{ms:List Int}{sq:Rat}{b:Bool}{W:World}{e:Ending}{w':World}(h:RetNr tg ns ms sq b W e w'):Ca tg ns ms sq b W e w':=by
 obtain⟨x,h1,h2,h3⟩:=h;exact⟨x,h1,h2.out,h3⟩
theorem sH (w:World) (x:PtD):∃ wA wB,w.alloc (.cells #[.slice none 0 0,.slice none 0 0,.slice none 0 0,.slice none 0 0,.bool false,.slice none 0 0,.slice none 0 0] 34)=wA∧wA.cell? ⟨w.heap.size,0,none⟩=some (.slice none 0 0)∧wA.cell? ⟨w.heap.size,1,none⟩=some (.slice none 0 0)∧wA.cell? ⟨w.heap.size,2,none⟩=some (.slice none 0 0)∧wA.cell? ⟨w.heap.size,3,none⟩=some (.slice none 0 0)∧wA.cell? ⟨w.heap.size,4,none⟩=some (.bool false)∧wA.cell? ⟨w.heap.size,5,none⟩=some (.slice none 0 0)∧wA.cell? ⟨w.heap.size,6,none⟩=some (.slice none 0 0)∧wA.frozen? ⟨w.heap.size,0,none⟩=false∧wA.frozen? ⟨w.heap.size,1,none⟩=false∧wA.frozen? ⟨w.heap.size,2,none⟩=false∧wA.frozen? ⟨w.heap.size,3,none⟩=false∧wA.frozen? ⟨w.heap.size,4,none⟩=false∧wA.frozen? ⟨w.heap.size,5,none⟩=false∧wA.frozen? ⟨w.heap.size,6,none⟩=false ∧
 (((((((wA.setCell ⟨w.heap.size,0,none⟩ (.slice x.pay.a x.pay.ds.length x.pay.c)).setCell ⟨w.heap.size,1,none⟩ (.slice x.mults.a x.mults.ds.length x.mults.c)).setCell ⟨w.heap.size,2,none⟩ (.slice x.low.a x.low.ds.length x.low.c)).setCell ⟨w.heap.size,3,none⟩ (.slice x.high.a x.high.ds.length x.high.c)).setCell ⟨w.heap.size,4,none⟩ (.bool x.lev.neg)).setCell ⟨w.heap.size,5,none⟩ (.slice x.lev.a x.lev.la.length x.lev.ca)).setCell ⟨w.heap.size,6,none⟩ (.slice x.lev.b x.lev.lb.length x.lev.cb))=wB∧Blk wB w.heap.size 34 #[.slice x.pay.a x.pay.ds.length x.pay.c,.slice x.mults.a x.mults.ds.length x.mults.c,.slice x.low.a x.low.ds.length x.low.c,.slice x.high.a x.high.ds.length x.high.c,.bool x.lev.neg,.slice x.lev.a x.lev.la.length x.lev.ca,.slice x.lev.b x.lev.lb.length x.lev.cb]∧Below w.heap.size w wB∧w.heap.size<wB.heap.size:=by
 obtain⟨wA,eA,bA,lA,BA⟩:=ag w #[.slice none 0 0,.slice none 0 0,.slice none 0 0,.slice none 0 0,.bool false,.slice none 0 0,.slice none 0 0] 34;obtain⟨wB,z0,z1,z2,z3,z4,z5,z6,f0,f1,f2,f3,f4,f5,f6,eB,hB,oB⟩:=bt BA x;exact⟨wA,wB,eA,z0,z1,z2,z3,z4,z5,z6,f0,f1,f2,f3,f4,f5,f6,eB,hB,oB.to_below bA (Dt _) bA.size,Dn lA oB.size⟩
theorem tP (w:World) (g c:Nat):(Builtin.append_ #[72,72] 72 #[.slice (some ⟨g,0,none⟩) 0 0,.slice none 0 c]).run Tryz.prog w=.ok (.slice (some ⟨g,0,none⟩) 0 0) w:=by
 obtain⟨i,hi,f,d,b⟩:=info_parts rC
 simp[Builtin.append_,run_underlying Tryz.underlying72,sizeOf,typeInfo,hi,Builtin.lenOf,Builtin.firstCells,loadCells,loadCellsFrom,storeCells]
theorem ILs.cells {w:World}{ad:Addr}{c:Nat}{is:List Nat}(h:ILs w (some ad) c is) (j:Nat) (u:Value) (hj:(dJ is)[j]?=some u):w.cell? (ad.add j)=some u:=by
 unfold dJ at hj;rw[Dq] at hj
 cases hk:is[j]? with
 | none=>rw[hk] at hj;cases hj
 | some x =>
  rw[hk] at hj
  injection hj with hj
  obtain⟨a,e,h1,h2⟩:=h.2.2 j x hk
  cases e
  rw[h2,←hj]
theorem j8 {w:World}{base g cd:Nat}{D:Option Addr}{ch:List Nat}(hE:OwnI w base (.slice (some ⟨g,0,none⟩) 0 0) []) (hI:ILs w D cd ch) (hl:ch.length≤1000) (hb:base≤w.heap.size) :
 ∃ v6 w6,(Builtin.append_ #[72,72] 72 #[.slice (some ⟨g,0,none⟩) 0 0,.slice D ch.length cd]).run Tryz.prog w=.ok v6 w6∧OwnI w6 base v6 ch∧Only w w6 g:=by
 cases D with
 | none =>
  have h0:ch=[]:=by
   cases ch with
   | nil=>rfl
   | cons x l =>
    obtain⟨a,e,-⟩:=hI.2.2 0 x rfl
    cases e
  subst h0;exact⟨_,w,tP w g cd,hE,Eh w g⟩
 | some ad =>
  obtain⟨v6,w6,h1,h2,h3⟩:=mA Tryz.underlying72 w base _ [] hE ad cd ch hI.cells (by simp;omega) hb;exact⟨v6,w6,h1,h2,h3⟩
theorem OwnI.keepB {w w':World}{base g:Nat}{v:Value}{is:List Nat}{t:TypeId}{cs:Array Value}(h:OwnI w base v is) (hg:w.grownBy w' v.ownBlock) (hB:Blk w g t cs) (ht:3≠t):Blk w' g t cs:=by
 cases hv:v.ownBlock with
 | none=>rw[hv] at hg;exact hB.keep ⟨hg.os,hg.tape,hg.output,hg.size,fun i hi=>hg.block i hi (by simp)⟩
 | some g' =>
  rw[hv] at hg;obtain⟨b,k1,k2⟩:=h.2 g' hv;exact hB.only hg (Ek k1 hB ht).symm
theorem OwnI.lt {w:World}{base g:Nat}{is:List Nat}{v:Value}(h:OwnI w base v is) (hv:v.ownBlock=some g):g<w.heap.size:=by
 obtain⟨b,k1,-⟩:=h.2 g hv;exact Blk.lt k1
def rP (m:Nat):Prop:=∀ (mi:Int) (A B C D:Option Addr) (ca cb cc cd fr:Nat) (tg:List FrD) (ns:List NdD) (ms:List Int) (ch:List Nat) (v:Value) (sq:Rat) (w:World),argsE tg.length ns ms=0→FL w A ca tg→NL w B cb ns→ZL w C cc ms→FV w v sq→ILs w D cd ch→QFits 2 (tg.map FrD.q)→Fits 2 sq→ms.length≤4→ns.length≤5→(∀ a∈ch,a<(br ns ms).length)→ch.length+m≤3→mi.toNat=m→-1≤mi→fr≤100 →
 Calls Tryz.prog 18 #[.slice A tg.length ca,.slice B ns.length cb,.slice C ms.length cc,v,.slice D ch.length cd,.int .i64 (fr:Int),.int .i64 mi] w (Ca (tg.map FrD.q) ns ms sq (cV ns ms (tg.map FrD.q) sq m ch fr) w)
section
variable {ns:List NdD}{ms:List Int}{tg:List Rat}{sum:Rat}
def NoB (ns:List NdD) (ms:List Int) (tg:List Rat) (sum:Rat) (m fr i:Nat) (ch:List Nat):Prop:=∀ k,fr≤k→k<i→∀ m',m=m'+1→cV ns ms tg sum m' (ch++[k]) (k+1)=false
theorem NoB.zero (m fr:Nat) (ch:List Nat):NoB ns ms tg sum m fr fr ch:=fun k h1 h2=>by omega
theorem NoB.step {m fr i m1:Nat}{ch:List Nat}(h:NoB ns ms tg sum m fr i ch) (hm:m=m1+1) (hs:cV ns ms tg sum m1 (ch++[i]) (i+1)=false):NoB ns ms tg sum m fr (i+1) ch:=fun k h1 h2 m' e=>by
 by_cases hk:k=i
 · subst hk;have:m'=m1:=by omega
   subst this;exact hs
 · exact h k h1 (by omega) m' e
theorem ni {m fr i:Nat}{ch:List Nat}(hh:iU ns ms tg sum ch=false) (h:NoB ns ms tg sum m fr i ch) (hi:m=0∨(br ns ms).length≤i):cV ns ms tg sum m ch fr=false:=by
 cases m with
 | zero=>exact hh
 | succ m =>
  refine wO hh fun k h1 h2=>h k h1 ?_ m rfl
  rcases hi with h | h
  · omega
  · omega
end
theorem kx {m:Nat}(hIH0:∀ m',m=m'+1→rP m'):rP m:=by
 intro mi A B C D ca cb cc cd fr tg ns ms ch v sq w hE gq gs gx hn cx bs bd gc g9 cg ny g0 n8 l9;have m0:=Dj hIH0;obtain⟨sv,rfl,hv,l5⟩:=hn.frd;obtain⟨BB,bm⟩:∃ b,Hid (cV ns ms (tg.map FrD.q) sq m ch fr=b):=⟨_,rfl⟩;rw[bm.out];obtain⟨h0,cr⟩:∃ b,Hid (iU ns ms (tg.map FrD.q) sq ch=b):=⟨_,rfl⟩;have l2:=Dj hE;have hf:=Dj bs;have j5:=Dj bd;have ln:=Dj cg;have gb:=Dj g0;have o7:mi≤3:=by omega
 have s:=Dj (show ch.length≤1000 by omega);obtain⟨w0,o2,b0,l0,lo⟩:=ag w #[.bool sv.neg,.slice sv.a sv.la.length sv.ca,.slice sv.b sv.lb.length sv.cb] 28;obtain⟨w1,o3,b1,l1,cq⟩:=ag w0 #[.slice none 0 0,.slice none 0 0,.slice none 0 0,.slice none 0 0,.bool false,.slice none 0 0,.slice none 0 0] 34;have N:=Di b0 b1;have cz:VarQ w1 w.heap.size sv:=Ea lo b1;obtain⟨p0,p1,p2⟩:=cz.cells;have js:=Dj (show w0.heap.size<w1.heap.size from l1);have o8:=gq.len;have nz:=gs.len;have on:=gx.len;have oo:ch.length≤cd∧cd≤9223372036854775807:=⟨cx.1,cx.2.1⟩;have d1:FV w1 sv.v sq:=by rw[←l5.out];exact hv.below N
 have H:=pD hE (gq.below N) (gs.below N) (gx.below N) d1 (cx.below N) bs bd gc g9 cg (by omega);rw[cr.out] at H;clear bs bd cg hE hn hIH0 g0;go_enter Tryz.func18,Tryz.ntmps18;go_wp2_with fail;refine H.mono ?_;rintro e w2 hr;obtain⟨x,rfl,hx,b2⟩:=hr.sr;clear H hr p0 p1 p2;obtain⟨wA,wB,eA,p0,p1,p2,p3,p4,p5,p6,r0,r1,r2,r3,r4,r5,r6,eB,hV,bV,lV⟩:=sH w2 x;have cl:=Di b2 bV;have hR:=Ea cq cl
 cases h0 with
 | true =>
  have t0:wB.cell? ⟨w2.heap.size,0,none⟩=some (.slice x.pay.a x.pay.ds.length x.pay.c):=D9 hV 0;have t1:wB.cell? ⟨w2.heap.size,1,none⟩=some (.slice x.mults.a x.mults.ds.length x.mults.c):=D9 hV 1;have t2:wB.cell? ⟨w2.heap.size,2,none⟩=some (.slice x.low.a x.low.ds.length x.low.c):=D9 hV 2;have t3:wB.cell? ⟨w2.heap.size,3,none⟩=some (.slice x.high.a x.high.ds.length x.high.c):=D9 hV 3;have t4:wB.cell? ⟨w2.heap.size,4,none⟩=some (.bool x.lev.neg):=D9 hV 4;have t5:wB.cell? ⟨w2.heap.size,5,none⟩=some (.slice x.lev.a x.lev.la.length x.lev.ca):=D9 hV 5;have t6:wB.cell? ⟨w2.heap.size,6,none⟩=some (.slice x.lev.b x.lev.lb.length x.lev.cb):=D9 hV 6;have G:=Dj (show BB=true by rw[←bm.out];exact ot cr.out);obtain⟨wF,z0,z1,z2,z3,z4,z5,z6,f0,f1,f2,f3,f4,f5,f6,eF,hF,oF⟩:=bt hR x;have bB:=Di N cl;have g2:=(hx.below bV).far (fun e a ha=>by have h1:=((hx e).2.1 a ha).1;have h2:=js.out;omega) hR dv oF;have bF:=oF.to_below bB b0.size bB.size;have c0:wF.cell? ⟨w0.heap.size,0,none⟩=some (.slice x.pay.a x.pay.ds.length x.pay.c):=D9 hF 0;have c1:wF.cell? ⟨w0.heap.size,1,none⟩=some (.slice x.mults.a x.mults.ds.length x.mults.c):=D9 hF 1;have c2:wF.cell? ⟨w0.heap.size,2,none⟩=some (.slice x.low.a x.low.ds.length x.low.c):=D9 hF 2
  have c3:wF.cell? ⟨w0.heap.size,3,none⟩=some (.slice x.high.a x.high.ds.length x.high.c):=D9 hF 3;have c4:wF.cell? ⟨w0.heap.size,4,none⟩=some (.bool x.lev.neg):=D9 hF 4;have c5:wF.cell? ⟨w0.heap.size,5,none⟩=some (.slice x.lev.a x.lev.la.length x.lev.ca):=D9 hF 5;have c6:wF.cell? ⟨w0.heap.size,6,none⟩=some (.slice x.lev.b x.lev.lb.length x.lev.cb):=D9 hF 6;clear hV hR hF hx;go_wp2_with fail;refine D4 (v:=.tuple #[x.v,.bool true]) (by simp[results,Tryz.results18,go_sem,c0,c1,c2,c3,c4,c5,c6]) rfl ?_;exact⟨x,by rw[G.out],fun _=>(g2.mono N.size) rfl,bF⟩
 | false =>
  clear hx;go_wp2_with fail;clear hV hR p0 p1 p2 p3 p4 p5 p6 r0 r1 r2 r3 r4 r5 r6 eA
  go_loopw [18] (fun iv wr=>∃ i:Nat,fr≤i∧iv=.int .i64 (i:Int)∧i≤100∧Hid (NoB ns ms (tg.map FrD.q) sq m fr i ch)∧Below w1.heap.size w1 wr) (fun iv _=>200-(intOf iv).toNat)
  case atStart=>exact⟨fr,Dt _,rfl,l9,Dj (NoB.zero _ _ _),cl⟩
  case round =>
   clear cl;obtain⟨i,lr,rfl,m5,gv,M⟩:=hrel
   by_cases hiL:i<ns.length+2*ms.length
   · by_cases hm0':0<mi
     · have ft:(i:Int)<(ns.length:Int)+2*(ms.length:Int):=by omega
       obtain⟨m1,b8⟩:∃ m',Hid (m=m'+1):=⟨m-1,Dj (by have:=gb.out;omega)⟩;have dp:=m0.out m1 b8.out;obtain⟨t,O⟩:∃ l,Hid (ch++[i]=l):=⟨_,rfl⟩;obtain⟨bb,cy⟩:∃ b,Hid (cV ns ms (tg.map FrD.q) sq m1 t (i+1)=b):=⟨_,rfl⟩;obtain⟨bz,bc⟩:∃ k:Int,Hid (mi-1=k):=⟨_,rfl⟩;have fv:=Dj (show bz.toNat=m1 by have h1:=gb.out;have h2:=b8.out;have h3:=bc.out;omega);have dm:=Dj (show -1≤bz by have h3:=bc.out;omega);have ok:IntKind.i64.wrap (mi-1)=bz:=by have h3:=bc.out;rw[IntKind.wrap_i64];omega
       have oj:IntKind.i64.wrap ((i:Int)+1)=(i:Int)+1:=by rw[IntKind.wrap_i64];omega
       have d0:=Dj (show t.length+m1≤3 by rw[←O.out,Dw];have h2:=b8.out;simp;omega)
       have dt:=Dj (show ∀ a∈t,a<(br ns ms).length by
        rw[←O.out];intro a ha
        rcases List.mem_append.1 ha with h | h
        · exact ln.out a h
        · simp at h;subst h;rw[cL];omega)
       obtain⟨y,hy⟩:∃ y,y=wr:=⟨_,rfl⟩;subst hy;have R:=Di N M;have hh:=Dj R;have lg:=Dj (show w0.heap.size<y.heap.size from Dn l1 M.size);have hc:=gq.below R;have hj:=gs.below R;have h7:=gx.below R;have cs:=cx.below R;have j4:=d1.below M;have bf:=cz.below M;have m8:=Ea cq M;have bT:=DY y.heap.size y;clear R;go_upto_region 7 with fail
       have hS:∀ w',Below y.heap.size y w'→w'.cell? ⟨w.heap.size,0,none⟩=some (.bool sv.neg)∧w'.cell? ⟨w.heap.size,1,none⟩=some (.slice sv.a sv.la.length sv.ca)∧w'.cell? ⟨w.heap.size,2,none⟩=some (.slice sv.b sv.lb.length sv.cb)∧Below y.heap.size y w':=by
        intro w' o;exact⟨(bf.below o).cells.1,(bf.below o).cells.2.1,(bf.below o).cells.2.2,o⟩
       have dS:Below y.heap.size y y.drew:=bT.drew;go_wp2_with fail;refine DZ ?_;refine D0 (S:=fun w'=>w'.cell? ⟨w.heap.size,0,none⟩=some (.bool sv.neg)∧w'.cell? ⟨w.heap.size,1,none⟩=some (.slice sv.a sv.la.length sv.ca)∧w'.cell? ⟨w.heap.size,2,none⟩=some (.slice sv.b sv.lb.length sv.cb)∧Below y.heap.size y w') (by kernel_rfl) (hS _ dS) (fun d=>?_);obtain⟨u1,lf,lm⟩:∃ x,y.drew=x∧Below y.heap.size y x:=⟨_,rfl,dS⟩;rw[lf] at d ⊢;replace bT:=Di bT lm;refine pE 0 1 2 3 5 7 10 11 d ?_;refine fA 12 13 d ?_;refine de 2 [4,6,8,9,14,15,16,17,18] [52,54,56,57,62,47,63,64,19] (fun us w'=>∃ (s4:Value) (s8:Value) (s6:Value) (s9:Value) (x:PtD) (j:Nat),us=[s4,s6,s8,s9,.tuple #[x.v,.bool bb],.tuple #[x.v,.bool bb],x.v,.bool bb,.pointer (some ⟨j,0,none⟩)]∧(NrP (tg.map FrD.q) ns ms sq bb y.heap.size x w')∧(Blk w' j 34 #[.slice none 0 0,.slice none 0 0,.slice none 0 0,.slice none 0 0,.bool false,.slice none 0 0,.slice none 0 0])∧(y.heap.size≤j)∧(bb=true→∀ a,(x.pay.a=some a∨x.mults.a=some a∨x.low.a=some a∨x.high.a=some a)→a.block≠j)∧Below y.heap.size y w') ?_ (fun r=>?_)
       · clear bT;rintro us u2 ⟨s4,s8,s6,s9,x,j,rfl,hx,f,g,z,bT⟩ d
         simp only[bk,bj,aq]
         refine aV 19 rfl fun K hK=>?_;obtain⟨u3,z0,z1,z2,z3,z4,z5,z6,f0,f1,f2,f3,f4,f5,f6,ob,T,j3⟩:=bt f x;replace bT:=j3.to_below bT g bT.size;replace hx:=hx.far z f dv j3;go_simp;refine hK.out _ _ (hS _ bT) (fun d=>?_);clear hK K;(try simp only[aq]);refine dQ 20 rfl d ?_;refine D7 (by kernel_rfl) ?_ _;refine D1 ?_;(try go_simp);clear d;have g6:=bT
         cases bb with
         | false =>
          have hg:=Dj (gv.out.step b8.out (by rw[O.out];exact cy.out));have hp:=Di M g6;clear f T hx bT z;go_wp2_with fail;go_roundw
          case rel=>exact⟨i+1,by omega,by go_num,by omega,hg,hp⟩
          case measure=>simp[intOf];omega
         | true =>
          have G:=Dj (show BB=true by rw[←bm.out,b8.out];exact wP (by rw[cL];omega) lr (by rw[O.out];exact cy.out));have g3:=Ea m8 g6;have t0:u3.cell? ⟨j,0,none⟩=some (.slice x.pay.a x.pay.ds.length x.pay.c):=D9 T 0;have t1:u3.cell? ⟨j,1,none⟩=some (.slice x.mults.a x.mults.ds.length x.mults.c):=D9 T 1;have t2:u3.cell? ⟨j,2,none⟩=some (.slice x.low.a x.low.ds.length x.low.c):=D9 T 2;have t3:u3.cell? ⟨j,3,none⟩=some (.slice x.high.a x.high.ds.length x.high.c):=D9 T 3;have t4:u3.cell? ⟨j,4,none⟩=some (.bool x.lev.neg):=D9 T 4;have t5:u3.cell? ⟨j,5,none⟩=some (.slice x.lev.a x.lev.la.length x.lev.ca):=D9 T 5;have t6:u3.cell? ⟨j,6,none⟩=some (.slice x.lev.b x.lev.lb.length x.lev.cb):=D9 T 6;obtain⟨wF,y0,y1,y2,y3,y4,y5,y6,k0,k1,k2,k3,k4,k5,k6,eF,hF,oF⟩:=bt g3 x;have hl:=Di hh.out g6;have g2:=hx.far (fun e a ha=>by have h1:=((hx e).2.1 a ha).1;have h2:=lg.out;omega) g3 dv oF;have bF:=oF.to_below hl b0.size hl.size;have c0:wF.cell? ⟨w0.heap.size,0,none⟩=some (.slice x.pay.a x.pay.ds.length x.pay.c):=D9 hF 0;have c1:wF.cell? ⟨w0.heap.size,1,none⟩=some (.slice x.mults.a x.mults.ds.length x.mults.c):=D9 hF 1;have c2:wF.cell? ⟨w0.heap.size,2,none⟩=some (.slice x.low.a x.low.ds.length x.low.c):=D9 hF 2
          have c3:wF.cell? ⟨w0.heap.size,3,none⟩=some (.slice x.high.a x.high.ds.length x.high.c):=D9 hF 3;have c4:wF.cell? ⟨w0.heap.size,4,none⟩=some (.bool x.lev.neg):=D9 hF 4;have c5:wF.cell? ⟨w0.heap.size,5,none⟩=some (.slice x.lev.a x.lev.la.length x.lev.ca):=D9 hF 5;have c6:wF.cell? ⟨w0.heap.size,6,none⟩=some (.slice x.lev.b x.lev.lb.length x.lev.cb):=D9 hF 6;clear f T hx bT z hF g3;go_wp2_with fail;refine D4 (v:=.tuple #[x.v,.bool true]) (by simp[results,Tryz.results18,go_sem,c0,c1,c2,c3,c4,c5,c6]) rfl ?_;exact⟨x,by rw[G.out],fun _=>(g2.mono hh.out.size) rfl,bF⟩
       refine de 3 [4,6,8,9,14,15,16,17] [52,54,56,57,62,47,63,64] (fun us w'=>∃ (s4:Value) (s8:Value) (s6:Value) (s9:Value) (x:PtD),us=[s4,s6,s8,s9,.tuple #[x.v,.bool bb],.tuple #[x.v,.bool bb],x.v,.bool bb]∧(NrP (tg.map FrD.q) ns ms sq bb y.heap.size x w')∧Below y.heap.size y w') ?_ (fun U=>?_)
       · clear bT;rintro us u4 ⟨s4,s8,s6,s9,x,rfl,hx,bT⟩ d
         simp only[bk,bj,aq]
         refine aV 18 rfl fun K hK=>?_;have g:=bT.size;have m2:=hx;obtain⟨u5,o1,kg,o6,ht⟩:=ag u4 #[.slice none 0 0,.slice none 0 0,.slice none 0 0,.slice none 0 0,.bool false,.slice none 0 0,.slice none 0 0] 34;replace hx:=hx.below kg;replace bT:=Di bT kg;have f:=ht;clear ht;have z:bb=true→∀ a,(x.pay.a=some a∨x.mults.a=some a∨x.low.a=some a∨x.high.a=some a)→a.block≠u4.heap.size:=fun e a ha=>by have h1:=((m2 e).2.1 a ha).2;omega
         go_simp;refine hK.out _ _ (hS _ bT) (fun d=>?_);clear hK K;(try simp only[aq]);refine Eq.mp ?_ (r [s4,s6,s8,s9,.tuple #[x.v,.bool bb],.tuple #[x.v,.bool bb],x.v,.bool bb,.pointer (some ⟨u4.heap.size,0,none⟩)] u5 ⟨s4,s8,s6,s9,x,u4.heap.size,rfl,hx,f,g,z,bT⟩ d)
         kernel_rfl
       refine de 6 [4,6,8,9,18] [52,54,56,57,19] (fun us w'=>∃ (s4:Value) (s8:Value) (s6:Value) (A9:Option Addr) (c9:Nat) (j:Nat),us=[s4,s6,s8,.slice A9 t.length c9,.pointer (some ⟨j,0,none⟩)]∧(ILs w' A9 c9 t)∧(Blk w' j 34 #[.slice none 0 0,.slice none 0 0,.slice none 0 0,.slice none 0 0,.bool false,.slice none 0 0,.slice none 0 0])∧(y.heap.size≤j)∧Below y.heap.size y w') ?_ (fun F=>?_)
       · clear bT;rintro us u6 ⟨s4,s8,s6,A9,c9,j,rfl,hI,f,g,bT⟩ d
         simp only[bk,bj,aq]
         refine aV 14 rfl fun K hK=>?_;go_simp;have bS:=bT.size;have nx:=f.lt;have H:=dp bz A B C A9 ca cb cc c9 (i+1) tg ns ms t sv.v sq u6 l2.out (hc.below bT) (hj.below bT) (h7.below bT) (j4.below bT) hI hf.out j5.out gc g9 dt.out d0.out fv.out dm.out (by omega);rw[cy.out,show ((i+1:Nat):Int)=(i:Int)+1 from rfl] at H;go_at_call 18;refine H.mono ?_;rintro e u7 ⟨x,rfl,b6,ho⟩;clear H;have z:bb=true→∀ a,(x.pay.a=some a∨x.mults.a=some a∨x.low.a=some a∨x.high.a=some a)→a.block≠j:=fun e a ha=>by have h1:=((b6 e).2.1 a ha).1;omega
         replace f:=f.keep ho;replace bT:=Di bT ho;have hx:=b6.mono bS;clear b6 hI bS;go_wp2_with fail;refine hK.out _ _ (hS _ bT) (fun d=>?_);clear hK K;(try simp only[aq]);refine fA 15 16 d ?_;refine dQ 17 rfl d ?_;refine Eq.mp ?_ (r [s4,s6,s8,.slice A9 t.length c9,.tuple #[x.v,.bool bb],.tuple #[x.v,.bool bb],x.v,.bool bb,.pointer (some ⟨j,0,none⟩)] u7 ⟨s4,s8,s6,.slice A9 t.length c9,x,j,rfl,hx,f,g,z,bT⟩ d)
         kernel_rfl
       refine de 7 [4,6,8,9] [52,54,56,57] (fun us w'=>∃ (s4:Value) (s8:Value) (s6:Value) (A9:Option Addr) (c9:Nat),us=[s4,s6,s8,.slice A9 t.length c9]∧(ILs w' A9 c9 t)∧Below y.heap.size y w') ?_ (fun b5=>?_)
       · clear bT;rintro us u8 ⟨s4,s8,s6,A9,c9,rfl,hI,bT⟩ d
         simp only[bk,bj,aq]
         refine D6 (rs:=[14,18]) (by kernel_rfl) (by simp) ?_;refine D2 rfl (fun K hK=>?_) ?_
         · go_simp;have bS:=bT.size;have H:=dp bz A B C A9 ca cb cc c9 (i+1) tg ns ms t sv.v sq u8 l2.out (hc.below bT) (hj.below bT) (h7.below bT) (j4.below bT) hI hf.out j5.out gc g9 dt.out d0.out fv.out dm.out (by omega);rw[cy.out,show ((i+1:Nat):Int)=(i:Int)+1 from rfl] at H;go_at_call 18;refine H.mono ?_;rintro e u9 ⟨x,rfl,b6,hb⟩;clear H;replace hI:=hI.below hb;replace bT:=Di bT hb;have hx:=b6.mono bS;clear b6 hI bS;go_wp2_with fail;refine hK.out _ _ (hS _ bT) (fun d=>?_);clear hK K;(try simp only[aq]);refine fA 15 16 d ?_;refine dQ 17 rfl d ?_;refine Eq.mp ?_ (U [s4,s6,s8,.slice A9 t.length c9,.tuple #[x.v,.bool bb],.tuple #[x.v,.bool bb],x.v,.bool bb] u9 ⟨s4,s8,s6,.slice A9 t.length c9,x,rfl,hx,bT⟩ d)
           kernel_rfl
         refine D2 rfl (fun K hK=>?_) D3;have g:=bT.size;obtain⟨lx,mz,db,n0,dx⟩:=ag u8 #[.slice none 0 0,.slice none 0 0,.slice none 0 0,.slice none 0 0,.bool false,.slice none 0 0,.slice none 0 0] 34;replace hI:=hI.below db;replace bT:=Di bT db;have f:=dx;clear dx;go_simp;refine hK.out _ _ (hS _ bT) (fun d=>?_);clear hK K;(try simp only[aq]);refine Eq.mp ?_ (F [s4,s6,s8,.slice A9 t.length c9,.pointer (some ⟨u8.heap.size,0,none⟩)] lx ⟨s4,s8,s6,A9,c9,u8.heap.size,rfl,hI,f,g,bT⟩ d)
         kernel_rfl
       refine de 7 [4,6,8,18] [52,54,56,19] (fun us w'=>∃ (s4:Value) (g8:Nat) (v6:Value) (j:Nat),us=[s4,v6,.slice (some ⟨g8,0,none⟩) 1 1,.pointer (some ⟨j,0,none⟩)]∧(Blk w' g8 3 #[.int .i64 (i:Int)])∧(OwnI w' y.heap.size v6 ch)∧(Blk w' j 34 #[.slice none 0 0,.slice none 0 0,.slice none 0 0,.slice none 0 0,.bool false,.slice none 0 0,.slice none 0 0])∧(y.heap.size≤j)∧Below y.heap.size y w') ?_ (fun E=>?_)
       · clear bT;rintro us od ⟨s4,g8,v6,j,rfl,n,hV,f,g,bT⟩ d
         simp only[bk,bj,aq]
         refine aV 9 rfl fun K hK=>?_;obtain⟨v9,w9,bv,Z,cm⟩:=lD Tryz.underlying72 _ y.heap.size v6 ch hV ⟨g8,0,none⟩ 1 i (D9 n 0) (by have:=s.out;omega) bT.size;refine aG rfl _ _ rfl rfl rfl rfl bv ?_;rw[O.out] at Z;obtain⟨A9,c9,rfl,hI⟩:=Z.il;replace f:=OwnI.keepB hV cm f (by decide);replace bT:=bT.grown cm bT.size (fun k hk=>Ej hV hk);clear hV n Z bv;refine hK.out _ _ (hS _ bT) (fun d=>?_);clear hK K;(try simp only[aq]);refine Eq.mp ?_ (F [s4,v6,.slice (some ⟨g8,0,none⟩) 1 1,.slice A9 t.length c9,.pointer (some ⟨j,0,none⟩)] w9 ⟨s4,.slice (some ⟨g8,0,none⟩) 1 1,v6,A9,c9,j,rfl,hI,f,g,bT⟩ d)
         kernel_rfl
       refine de 8 [4,6,8] [52,54,56] (fun us w'=>∃ (s4:Value) (g8:Nat) (v6:Value),us=[s4,v6,.slice (some ⟨g8,0,none⟩) 1 1]∧(Blk w' g8 3 #[.int .i64 (i:Int)])∧(OwnI w' y.heap.size v6 ch)∧Below y.heap.size y w') ?_ (fun b4=>?_)
       · clear bT;rintro us gr ⟨s4,g8,v6,rfl,n,hV,bT⟩ d
         simp only[bk,bj,aq]
         refine D6 (rs:=[9,18]) (by kernel_rfl) (by simp) ?_;refine D2 rfl (fun K hK=>?_) ?_
         · obtain⟨v9,w9,bv,Z,cm⟩:=lD Tryz.underlying72 _ y.heap.size v6 ch hV ⟨g8,0,none⟩ 1 i (D9 n 0) (by have:=s.out;omega) bT.size;refine aG rfl _ _ rfl rfl rfl rfl bv ?_;rw[O.out] at Z;obtain⟨A9,c9,rfl,hI⟩:=Z.il;replace bT:=bT.grown cm bT.size (fun k hk=>Ej hV hk);clear hV n Z bv;refine hK.out _ _ (hS _ bT) (fun d=>?_);clear hK K;(try simp only[aq]);refine Eq.mp ?_ (b5 [s4,v6,.slice (some ⟨g8,0,none⟩) 1 1,.slice A9 t.length c9] w9 ⟨s4,.slice (some ⟨g8,0,none⟩) 1 1,v6,A9,c9,rfl,hI,bT⟩ d)
           kernel_rfl
         refine D2 rfl (fun K hK=>?_) D3;have g:=bT.size;obtain⟨lq,ng,bn,n7,d4⟩:=ag gr #[.slice none 0 0,.slice none 0 0,.slice none 0 0,.slice none 0 0,.bool false,.slice none 0 0,.slice none 0 0] 34;replace n:=n.keep bn;replace hV:=hV.below bn;replace bT:=Di bT bn;have f:=d4;clear d4;go_simp;refine hK.out _ _ (hS _ bT) (fun d=>?_);clear hK K;(try simp only[aq]);refine Eq.mp ?_ (E [s4,v6,.slice (some ⟨g8,0,none⟩) 1 1,.pointer (some ⟨gr.heap.size,0,none⟩)] lq ⟨s4,g8,v6,gr.heap.size,rfl,n,hV,f,g,bT⟩ d)
         kernel_rfl
       refine de 8 [4,6,18] [52,54,19] (fun us w'=>∃ (s4:Value) (v6:Value) (j:Nat),us=[s4,v6,.pointer (some ⟨j,0,none⟩)]∧(OwnI w' y.heap.size v6 ch)∧(Blk w' j 34 #[.slice none 0 0,.slice none 0 0,.slice none 0 0,.slice none 0 0,.bool false,.slice none 0 0,.slice none 0 0])∧(y.heap.size≤j)∧Below y.heap.size y w') ?_ (fun X=>?_)
       · clear bT;rintro us g5 ⟨s4,v6,j,rfl,hV,f,g,bT⟩ d
         simp only[bk,bj,aq]
         refine aV 8 rfl fun K hK=>?_;obtain⟨lz,n5,bg,nl,d3⟩:=ag g5 #[.int .i64 (i:Int)] 3;replace hV:=hV.below bg;replace f:=f.keep bg;replace bT:=Di bT bg;have n:=d3;clear d3;go_simp;refine hK.out _ _ (hS _ bT) (fun d=>?_);clear hK K;(try simp only[aq]);refine Eq.mp ?_ (E [s4,v6,.slice (some ⟨g5.heap.size,0,none⟩) 1 1,.pointer (some ⟨j,0,none⟩)] lz ⟨s4,g5.heap.size,v6,j,rfl,n,hV,f,g,bT⟩ d)
         kernel_rfl
       refine de 8 [4,8,18] [52,56,19] (fun us w'=>∃ (g4:Nat) (g8:Nat) (j:Nat),us=[.slice (some ⟨g4,0,none⟩) 0 0,.slice (some ⟨g8,0,none⟩) 1 1,.pointer (some ⟨j,0,none⟩)]∧(OwnI w' y.heap.size (.slice (some ⟨g4,0,none⟩) 0 0) [])∧(Blk w' g8 3 #[.int .i64 (i:Int)])∧(g8≠g4)∧(Blk w' j 34 #[.slice none 0 0,.slice none 0 0,.slice none 0 0,.slice none 0 0,.bool false,.slice none 0 0,.slice none 0 0])∧(y.heap.size≤j)∧Below y.heap.size y w') ?_ (fun J=>?_)
       · clear bT;rintro us o9 ⟨g4,g8,j,rfl,hE,n,p,f,g,bT⟩ d
         simp only[bk,bj,aq]
         refine aV 6 rfl fun K hK=>?_;obtain⟨v6,w6,L,hV,I⟩:=j8 hE (cs.below bT) s.out bT.size;refine aG rfl _ _ rfl rfl rfl rfl L ?_;replace n:=n.only I p;replace f:=OwnI.keepB hE I f (by decide);replace bT:=bT.grown I bT.size (fun k hk=>Ej hE hk);clear hE L;refine hK.out _ _ (hS _ bT) (fun d=>?_);clear hK K;(try simp only[aq]);refine Eq.mp ?_ (E [.slice (some ⟨g4,0,none⟩) 0 0,v6,.slice (some ⟨g8,0,none⟩) 1 1,.pointer (some ⟨j,0,none⟩)] w6 ⟨.slice (some ⟨g4,0,none⟩) 0 0,g8,v6,j,rfl,n,hV,f,g,bT⟩ d)
         kernel_rfl
       refine de 9 [4,6] [52,54] (fun us w'=>∃ (s4:Value) (v6:Value),us=[s4,v6]∧(OwnI w' y.heap.size v6 ch)∧Below y.heap.size y w') ?_ (fun h9=>?_)
       · clear bT;rintro us b7 ⟨s4,v6,rfl,hV,bT⟩ d
         simp only[bk,bj,aq]
         refine D6 (rs:=[8,18]) (by kernel_rfl) (by simp) ?_;refine D2 rfl (fun K hK=>?_) ?_
         · obtain⟨m9,n1,d2,ml,d9⟩:=ag b7 #[.int .i64 (i:Int)] 3;replace hV:=hV.below d2;replace bT:=Di bT d2;have n:=d9;clear d9;go_simp;refine hK.out _ _ (hS _ bT) (fun d=>?_);clear hK K;(try simp only[aq]);refine Eq.mp ?_ (b4 [s4,v6,.slice (some ⟨b7.heap.size,0,none⟩) 1 1] m9 ⟨s4,b7.heap.size,v6,rfl,n,hV,bT⟩ d)
           kernel_rfl
         refine D2 rfl (fun K hK=>?_) D3;have g:=bT.size;obtain⟨ls,mx,fx,n2,d5⟩:=ag b7 #[.slice none 0 0,.slice none 0 0,.slice none 0 0,.slice none 0 0,.bool false,.slice none 0 0,.slice none 0 0] 34;replace hV:=hV.below fx;replace bT:=Di bT fx;have f:=d5;clear d5;go_simp;refine hK.out _ _ (hS _ bT) (fun d=>?_);clear hK K;(try simp only[aq]);refine Eq.mp ?_ (X [s4,v6,.pointer (some ⟨b7.heap.size,0,none⟩)] ls ⟨s4,v6,b7.heap.size,rfl,hV,f,g,bT⟩ d)
         kernel_rfl
       refine de 9 [4,8] [52,56] (fun us w'=>∃ (g4:Nat) (g8:Nat),us=[.slice (some ⟨g4,0,none⟩) 0 0,.slice (some ⟨g8,0,none⟩) 1 1]∧(OwnI w' y.heap.size (.slice (some ⟨g4,0,none⟩) 0 0) [])∧(Blk w' g8 3 #[.int .i64 (i:Int)])∧(g8≠g4)∧Below y.heap.size y w') ?_ (fun fz=>?_)
       · clear bT;rintro us gm ⟨g4,g8,rfl,hE,n,p,bT⟩ d
         simp only[bk,bj,aq]
         refine D6 (rs:=[6,18]) (by kernel_rfl) (by simp) ?_;refine D2 rfl (fun K hK=>?_) ?_
         · obtain⟨v6,w6,L,hV,I⟩:=j8 hE (cs.below bT) s.out bT.size;refine aG rfl _ _ rfl rfl rfl rfl L ?_;replace n:=n.only I p;replace bT:=bT.grown I bT.size (fun k hk=>Ej hE hk);clear hE L;refine hK.out _ _ (hS _ bT) (fun d=>?_);clear hK K;(try simp only[aq]);refine Eq.mp ?_ (b4 [.slice (some ⟨g4,0,none⟩) 0 0,v6,.slice (some ⟨g8,0,none⟩) 1 1] w6 ⟨.slice (some ⟨g4,0,none⟩) 0 0,g8,v6,rfl,n,hV,bT⟩ d)
           kernel_rfl
         refine D2 rfl (fun K hK=>?_) D3;have g:=bT.size;obtain⟨l8,no,c8,n6,dr⟩:=ag gm #[.slice none 0 0,.slice none 0 0,.slice none 0 0,.slice none 0 0,.bool false,.slice none 0 0,.slice none 0 0] 34;replace hE:=hE.below c8;replace n:=n.keep c8;replace bT:=Di bT c8;have f:=dr;clear dr;go_simp;refine hK.out _ _ (hS _ bT) (fun d=>?_);clear hK K;(try simp only[aq]);refine Eq.mp ?_ (J [.slice (some ⟨g4,0,none⟩) 0 0,.slice (some ⟨g8,0,none⟩) 1 1,.pointer (some ⟨gm.heap.size,0,none⟩)] l8 ⟨g4,g8,gm.heap.size,rfl,hE,n,p,f,g,bT⟩ d)
         kernel_rfl
       refine de 9 [4,18] [52,19] (fun us w'=>∃ (g4:Nat) (j:Nat),us=[.slice (some ⟨g4,0,none⟩) 0 0,.pointer (some ⟨j,0,none⟩)]∧(OwnI w' y.heap.size (.slice (some ⟨g4,0,none⟩) 0 0) [])∧(Blk w' j 34 #[.slice none 0 0,.slice none 0 0,.slice none 0 0,.slice none 0 0,.bool false,.slice none 0 0,.slice none 0 0])∧(y.heap.size≤j)∧Below y.heap.size y w') ?_ (fun c7=>?_)
       · clear bT;rintro us cv ⟨g4,j,rfl,hE,f,g,bT⟩ d
         simp only[bk,bj,aq]
         refine D6 (rs:=[6,8]) (by kernel_rfl) (by simp) ?_;refine D2 rfl (fun K hK=>?_) ?_
         · obtain⟨v6,w6,L,hV,I⟩:=j8 hE (cs.below bT) s.out bT.size;refine aG rfl _ _ rfl rfl rfl rfl L ?_;replace f:=OwnI.keepB hE I f (by decide);replace bT:=bT.grown I bT.size (fun k hk=>Ej hE hk);clear hE L;refine hK.out _ _ (hS _ bT) (fun d=>?_);clear hK K;(try simp only[aq]);refine Eq.mp ?_ (X [.slice (some ⟨g4,0,none⟩) 0 0,v6,.pointer (some ⟨j,0,none⟩)] w6 ⟨.slice (some ⟨g4,0,none⟩) 0 0,v6,j,rfl,hV,f,g,bT⟩ d)
           kernel_rfl
         refine D2 rfl (fun K hK=>?_) D3;have g7:=hE.lt rfl;obtain⟨mb,nv,bq,nr,fb⟩:=ag cv #[.int .i64 (i:Int)] 3;replace hE:=hE.below bq;replace f:=f.keep bq;replace bT:=Di bT bq;have n:=fb;clear fb;have p:cv.heap.size≠g4:=(Nat.ne_of_lt g7).symm;go_simp;refine hK.out _ _ (hS _ bT) (fun d=>?_);clear hK K;(try simp only[aq]);refine Eq.mp ?_ (J [.slice (some ⟨g4,0,none⟩) 0 0,.slice (some ⟨cv.heap.size,0,none⟩) 1 1,.pointer (some ⟨j,0,none⟩)] mb ⟨g4,cv.heap.size,j,rfl,hE,n,p,f,g,bT⟩ d)
         kernel_rfl
       refine de 9 [8,18] [56,19] (fun us w'=>∃ (g8:Nat) (j:Nat),us=[.slice (some ⟨g8,0,none⟩) 1 1,.pointer (some ⟨j,0,none⟩)]∧(Blk w' g8 3 #[.int .i64 (i:Int)])∧(Blk w' j 34 #[.slice none 0 0,.slice none 0 0,.slice none 0 0,.slice none 0 0,.bool false,.slice none 0 0,.slice none 0 0])∧(y.heap.size≤j)∧Below y.heap.size y w') ?_ (fun b9=>?_)
       · clear bT;rintro us bx ⟨g8,j,rfl,n,f,g,bT⟩ d
         simp only[bk,bj,aq]
         refine aV 4 rfl fun K hK=>?_;have bS:=bT.size;have gp:=n.lt;obtain⟨kv,h6,bo,n4,hz⟩:=ag bx #[] 3;replace n:=n.keep bo;replace f:=f.keep bo;replace bT:=Di bT bo;have hE:OwnI kv y.heap.size (.slice (some ⟨bx.heap.size,0,none⟩) 0 0) []:=by rw[←h6];exact OwnI.empty _ bS
         have p:g8≠bx.heap.size:=Nat.ne_of_lt gp;clear hz bS;go_simp;refine hK.out _ _ (hS _ bT) (fun d=>?_);clear hK K;(try simp only[aq]);refine Eq.mp ?_ (J [.slice (some ⟨bx.heap.size,0,none⟩) 0 0,.slice (some ⟨g8,0,none⟩) 1 1,.pointer (some ⟨j,0,none⟩)] kv ⟨bx.heap.size,g8,j,rfl,hE,n,p,f,g,bT⟩ d)
         kernel_rfl
       refine de 10 [4] [52] (fun us w'=>∃ (g4:Nat),us=[.slice (some ⟨g4,0,none⟩) 0 0]∧(OwnI w' y.heap.size (.slice (some ⟨g4,0,none⟩) 0 0) [])∧Below y.heap.size y w') ?_ (fun h4=>?_)
       · clear bT;rintro us Y ⟨g4,rfl,hE,bT⟩ d
         simp only[bk,bj,aq]
         refine D6 (rs:=[6,8,18]) (by kernel_rfl) (by simp) ?_;refine D2 rfl (fun K hK=>?_) ?_
         · obtain⟨v6,w6,L,hV,I⟩:=j8 hE (cs.below bT) s.out bT.size;refine aG rfl _ _ rfl rfl rfl rfl L ?_;replace bT:=bT.grown I bT.size (fun k hk=>Ej hE hk);clear hE L;refine hK.out _ _ (hS _ bT) (fun d=>?_);clear hK K;(try simp only[aq]);refine Eq.mp ?_ (h9 [.slice (some ⟨g4,0,none⟩) 0 0,v6] w6 ⟨.slice (some ⟨g4,0,none⟩) 0 0,v6,rfl,hV,bT⟩ d)
           kernel_rfl
         refine D2 rfl (fun K hK=>?_) ?_
         · have g7:=hE.lt rfl;obtain⟨m6,n3,d7,mg,fq⟩:=ag Y #[.int .i64 (i:Int)] 3;replace hE:=hE.below d7;replace bT:=Di bT d7;have n:=fq;clear fq;have p:Y.heap.size≠g4:=(Nat.ne_of_lt g7).symm;go_simp;refine hK.out _ _ (hS _ bT) (fun d=>?_);clear hK K;(try simp only[aq]);refine Eq.mp ?_ (fz [.slice (some ⟨g4,0,none⟩) 0 0,.slice (some ⟨Y.heap.size,0,none⟩) 1 1] m6 ⟨g4,Y.heap.size,rfl,hE,n,p,bT⟩ d)
           kernel_rfl
         refine D2 rfl (fun K hK=>?_) D3;have g:=bT.size;obtain⟨m3,mc,dq,nf,fl⟩:=ag Y #[.slice none 0 0,.slice none 0 0,.slice none 0 0,.slice none 0 0,.bool false,.slice none 0 0,.slice none 0 0] 34;replace hE:=hE.below dq;replace bT:=Di bT dq;have f:=fl;clear fl;go_simp;refine hK.out _ _ (hS _ bT) (fun d=>?_);clear hK K;(try simp only[aq]);refine Eq.mp ?_ (c7 [.slice (some ⟨g4,0,none⟩) 0 0,.pointer (some ⟨Y.heap.size,0,none⟩)] m3 ⟨g4,Y.heap.size,rfl,hE,f,g,bT⟩ d)
         kernel_rfl
       refine de 10 [8] [56] (fun us w'=>∃ (g8:Nat),us=[.slice (some ⟨g8,0,none⟩) 1 1]∧(Blk w' g8 3 #[.int .i64 (i:Int)])∧Below y.heap.size y w') ?_ (fun h8=>?_)
       · clear bT;rintro us V ⟨g8,rfl,n,bT⟩ d
         simp only[bk,bj,aq]
         refine D6 (rs:=[4,18]) (by kernel_rfl) (by simp) ?_;refine D2 rfl (fun K hK=>?_) ?_
         · have bS:=bT.size;have gp:=n.lt;obtain⟨gz,l4,g1,nb,hs⟩:=ag V #[] 3;replace n:=n.keep g1;replace bT:=Di bT g1;have hE:OwnI gz y.heap.size (.slice (some ⟨V.heap.size,0,none⟩) 0 0) []:=by rw[←l4];exact OwnI.empty _ bS
           have p:g8≠V.heap.size:=Nat.ne_of_lt gp;clear hs bS;go_simp;refine hK.out _ _ (hS _ bT) (fun d=>?_);clear hK K;(try simp only[aq]);refine Eq.mp ?_ (fz [.slice (some ⟨V.heap.size,0,none⟩) 0 0,.slice (some ⟨g8,0,none⟩) 1 1] gz ⟨V.heap.size,g8,rfl,hE,n,p,bT⟩ d)
           kernel_rfl
         refine D2 rfl (fun K hK=>?_) D3;have g:=bT.size;obtain⟨lv,my,f9,n9,fs⟩:=ag V #[.slice none 0 0,.slice none 0 0,.slice none 0 0,.slice none 0 0,.bool false,.slice none 0 0,.slice none 0 0] 34;replace n:=n.keep f9;replace bT:=Di bT f9;have f:=fs;clear fs;go_simp;refine hK.out _ _ (hS _ bT) (fun d=>?_);clear hK K;(try simp only[aq]);refine Eq.mp ?_ (b9 [.slice (some ⟨g8,0,none⟩) 1 1,.pointer (some ⟨V.heap.size,0,none⟩)] lv ⟨g8,V.heap.size,rfl,n,f,g,bT⟩ d)
         kernel_rfl
       refine de 10 [18] [19] (fun us w'=>∃ (j:Nat),us=[.pointer (some ⟨j,0,none⟩)]∧(Blk w' j 34 #[.slice none 0 0,.slice none 0 0,.slice none 0 0,.slice none 0 0,.bool false,.slice none 0 0,.slice none 0 0])∧(y.heap.size≤j)∧Below y.heap.size y w') ?_ (fun l6=>?_)
       · clear bT;rintro us b3 ⟨j,rfl,f,g,bT⟩ d
         simp only[bk,bj,aq]
         refine D6 (rs:=[4,8]) (by kernel_rfl) (by simp) ?_;refine D2 rfl (fun K hK=>?_) ?_
         · have bS:=bT.size;obtain⟨h5,hm,d6,nc,kk⟩:=ag b3 #[] 3;replace f:=f.keep d6;replace bT:=Di bT d6;have hE:OwnI h5 y.heap.size (.slice (some ⟨b3.heap.size,0,none⟩) 0 0) []:=by rw[←hm];exact OwnI.empty _ bS
           clear kk bS;go_simp;refine hK.out _ _ (hS _ bT) (fun d=>?_);clear hK K;(try simp only[aq]);refine Eq.mp ?_ (c7 [.slice (some ⟨b3.heap.size,0,none⟩) 0 0,.pointer (some ⟨j,0,none⟩)] h5 ⟨b3.heap.size,j,rfl,hE,f,g,bT⟩ d)
           kernel_rfl
         refine D2 rfl (fun K hK=>?_) D3;obtain⟨l7,nn,fm,mf,d8⟩:=ag b3 #[.int .i64 (i:Int)] 3;replace f:=f.keep fm;replace bT:=Di bT fm;have n:=d8;clear d8;go_simp;refine hK.out _ _ (hS _ bT) (fun d=>?_);clear hK K;(try simp only[aq]);refine Eq.mp ?_ (b9 [.slice (some ⟨b3.heap.size,0,none⟩) 1 1,.pointer (some ⟨j,0,none⟩)] l7 ⟨b3.heap.size,j,rfl,n,f,g,bT⟩ d)
         kernel_rfl
       refine D6 (rs:=[4,8,18]) (by kernel_rfl) (by simp) ?_;refine D2 rfl (fun K hK=>?_) ?_
       · have bS:=bT.size;obtain⟨j1,hq,l3,nd,j2⟩:=ag u1 #[] 3;replace bT:=Di bT l3;have hE:OwnI j1 y.heap.size (.slice (some ⟨u1.heap.size,0,none⟩) 0 0) []:=by rw[←hq];exact OwnI.empty _ bS
         clear j2 bS;go_simp;refine hK.out _ _ (hS _ bT) (fun d=>?_);clear hK K;(try simp only[aq]);refine Eq.mp ?_ (h4 [.slice (some ⟨u1.heap.size,0,none⟩) 0 0] j1 ⟨u1.heap.size,rfl,hE,bT⟩ d)
         kernel_rfl
       refine D2 rfl (fun K hK=>?_) ?_
       · obtain⟨ld,mt,j0,mm,dh⟩:=ag u1 #[.int .i64 (i:Int)] 3;replace bT:=Di bT j0;have n:=dh;clear dh;go_simp;refine hK.out _ _ (hS _ bT) (fun d=>?_);clear hK K;(try simp only[aq]);refine Eq.mp ?_ (h8 [.slice (some ⟨u1.heap.size,0,none⟩) 1 1] ld ⟨u1.heap.size,rfl,n,bT⟩ d)
         kernel_rfl
       refine D2 rfl (fun K hK=>?_) D3;have g:=bT.size;obtain⟨m4,md,kf,nq,dk⟩:=ag u1 #[.slice none 0 0,.slice none 0 0,.slice none 0 0,.slice none 0 0,.bool false,.slice none 0 0,.slice none 0 0] 34;replace bT:=Di bT kf;have f:=dk;clear dk;go_simp;refine hK.out _ _ (hS _ bT) (fun d=>?_);clear hK K;(try simp only[aq]);refine Eq.mp ?_ (l6 [.pointer (some ⟨u1.heap.size,0,none⟩)] m4 ⟨u1.heap.size,rfl,f,g,bT⟩ d)
       kernel_rfl
     · have o4:decide (0<mi)=false:=Du hm0';have ft:decide ((i:Int)<(ns.length:Int)+2*(ms.length:Int))=true:=Dv (by omega);have G:=Dj (show BB=false by rw[←bm.out];exact ni cr.out gv.out (.inl (by have:=gb.out;omega)));have gk:=Ea cq M;obtain⟨z0,z1,z2,z3,z4,z5,z6,f0,f1,f2,f3,f4,f5,f6,s0,s1,s2,s3,s4,s5,s6⟩:=gD gk;have bF:=Di N M;go_wp2_with fail;refine D4 (v:=.tuple #[.agg #[.slice none 0 0,.slice none 0 0,.slice none 0 0,.slice none 0 0,.bool false,.slice none 0 0,.slice none 0 0],.bool false]) (by simp[results,Tryz.results18,go_sem,z0,z1,z2,z3,z4,z5,z6]) rfl ?_;exact⟨zeroP,by rw[G.out];rfl,by rw[G.out];exact NrP.ofF,bF⟩
   · have ft:decide ((i:Int)<(ns.length:Int)+2*(ms.length:Int))=false:=Du (by omega);have G:=Dj (show BB=false by rw[←bm.out];exact ni cr.out gv.out (.inr (by rw[cL];omega)));have gk:=Ea cq M;obtain⟨z0,z1,z2,z3,z4,z5,z6,f0,f1,f2,f3,f4,f5,f6,s0,s1,s2,s3,s4,s5,s6⟩:=gD gk;have bF:=Di N M;go_wp2_with fail;refine D4 (v:=.tuple #[.agg #[.slice none 0 0,.slice none 0 0,.slice none 0 0,.slice none 0 0,.bool false,.slice none 0 0,.slice none 0 0],.bool false]) (by simp[results,Tryz.results18,go_sem,z0,z1,z2,z3,z4,z5,z6]) rfl ?_;exact⟨zeroP,by rw[G.out];rfl,by rw[G.out];exact NrP.ofF,bF⟩
theorem ly:∀ m,rP m
 | 0=>kx fun m' h=>by omega
 | m+1=>kx fun m' h=>by
  obtain rfl:m=m':=by omega
  exact ly m
end Go.Proofs.YtjhkapjadfpimaaGreat
