/- Contracts of functions, for the law. -/
import Derived.Test.YtjhkapjadfpimaaGreatNRNr
namespace Go.Proofs.YtjhkapjadfpimaaGreat
set_option linter.unusedVariables false
set_option linter.unusedSimpArgs false
open Go.RowKit Plain
attribute [local go_sem ↓] Go.wp_at_zero Go.wp_at_succ
set_option maxRecDepth 100000
set_option maxHeartbeats 40000000
def NrP (tg:List Rat) (ns:List NdD) (ms:List Int) (sq:Rat) (b:Bool) (lo:Nat) (x:PtD) (w:World):Prop :=
 b=true→PtL w x∧PtIn x lo w.heap.size∧O4 tg ns ms sq x.pay.qs x.mults.qs x.low.qs x.high.qs x.lev.q=true
section
variable {tg:List Rat}{ns:List NdD}{ms:List Int}{sq:Rat}{b:Bool}{lo lo' g:Nat}{x:PtD}{w w':World}
theorem NrP.below (h:NrP tg ns ms sq b lo x w) (hb:Below w.heap.size w w'):NrP tg ns ms sq b lo x w':=fun e =>
 ⟨(h e).1.below hb,(h e).2.1.mono (a1u _) hb.size,(h e).2.2⟩
theorem NrP.mono (h:NrP tg ns ms sq b lo x w) (hl:lo'≤lo):NrP tg ns ms sq b lo' x w:=fun e =>
 ⟨(h e).1,(h e).2.1.mono hl (a1u _),(h e).2.2⟩
theorem NrP.far {t:TypeId}{cs:Array Value}(h:NrP tg ns ms sq b lo x w) (hne:b=true→∀ a,(x.pay.a=some a∨x.mults.a=some a∨x.low.a=some a∨x.high.a=some a)→a.block≠g) (hB:Blk w g t cs) (hd:NoDig cs) (ho:Only w w' g):NrP tg ns ms sq b lo x w':=fun e =>
 ⟨(h e).1.farP (hne e) hB hd ho,(h e).2.1.mono (a1u _) ho.size,(h e).2.2⟩
theorem NrP.ofF:NrP tg ns ms sq false lo x w:=fun e=>by cases e
end
def RetSr (tg:List Rat) (ns:List NdD) (ms:List Int) (sq:Rat) (b:Bool) (W:World) (e:Ending) (w':World):Prop :=
 ∃ x:PtD,e=.returned (.tuple #[x.v,.bool b])∧NrP tg ns ms sq b W.heap.size x w'∧Below W.heap.size W w'
theorem RetNr.sr {tg:List Rat}{ns:List NdD}{ms:List Int}{sq:Rat}{b:Bool}{W:World}{e:Ending}{w':World}(h:RetNr tg ns ms sq b W e w'):RetSr tg ns ms sq b W e w':=by
 obtain⟨x,h1,h2,h3⟩:=h;exact⟨x,h1,h2.out,h3⟩
theorem sG (w:World) (x:PtD):∃ wA wB,w.alloc (.cells #[.slice none 0 0,.slice none 0 0,.slice none 0 0,.slice none 0 0,.bool false,.slice none 0 0,.slice none 0 0] 34)=wA∧wA.cell? ⟨w.heap.size,0,none⟩=some (.slice none 0 0)∧wA.cell? ⟨w.heap.size,1,none⟩=some (.slice none 0 0)∧wA.cell? ⟨w.heap.size,2,none⟩=some (.slice none 0 0)∧wA.cell? ⟨w.heap.size,3,none⟩=some (.slice none 0 0)∧wA.cell? ⟨w.heap.size,4,none⟩=some (.bool false)∧wA.cell? ⟨w.heap.size,5,none⟩=some (.slice none 0 0)∧wA.cell? ⟨w.heap.size,6,none⟩=some (.slice none 0 0)∧wA.frozen? ⟨w.heap.size,0,none⟩=false∧wA.frozen? ⟨w.heap.size,1,none⟩=false∧wA.frozen? ⟨w.heap.size,2,none⟩=false∧wA.frozen? ⟨w.heap.size,3,none⟩=false∧wA.frozen? ⟨w.heap.size,4,none⟩=false∧wA.frozen? ⟨w.heap.size,5,none⟩=false∧wA.frozen? ⟨w.heap.size,6,none⟩=false ∧
 (((((((wA.setCell ⟨w.heap.size,0,none⟩ (.slice x.pay.a x.pay.ds.length x.pay.c)).setCell ⟨w.heap.size,1,none⟩ (.slice x.mults.a x.mults.ds.length x.mults.c)).setCell ⟨w.heap.size,2,none⟩ (.slice x.low.a x.low.ds.length x.low.c)).setCell ⟨w.heap.size,3,none⟩ (.slice x.high.a x.high.ds.length x.high.c)).setCell ⟨w.heap.size,4,none⟩ (.bool x.lev.neg)).setCell ⟨w.heap.size,5,none⟩ (.slice x.lev.a x.lev.la.length x.lev.ca)).setCell ⟨w.heap.size,6,none⟩ (.slice x.lev.b x.lev.lb.length x.lev.cb))=wB∧Blk wB w.heap.size 34 #[.slice x.pay.a x.pay.ds.length x.pay.c,.slice x.mults.a x.mults.ds.length x.mults.c,.slice x.low.a x.low.ds.length x.low.c,.slice x.high.a x.high.ds.length x.high.c,.bool x.lev.neg,.slice x.lev.a x.lev.la.length x.lev.ca,.slice x.lev.b x.lev.lb.length x.lev.cb]∧Below w.heap.size w wB∧w.heap.size<wB.heap.size:=by
 obtain⟨wA,eA,bA,lA,BA⟩:=f8 w #[.slice none 0 0,.slice none 0 0,.slice none 0 0,.slice none 0 0,.bool false,.slice none 0 0,.slice none 0 0] 34;obtain⟨wB,z0,z1,z2,z3,z4,z5,z6,f0,f1,f2,f3,f4,f5,f6,eB,hB,oB⟩:=C6 BA x;exact⟨wA,wB,eA,z0,z1,z2,z3,z4,z5,z6,f0,f1,f2,f3,f4,f5,f6,eB,hB,oB.to_below bA (a1u _) bA.size,a1o lA oB.size⟩
theorem uH (w:World) (g c:Nat):(Builtin.append_ #[72,72] 72 #[.slice (some ⟨g,0,none⟩) 0 0,.slice none 0 c]).run Tryz.prog w=.ok (.slice (some ⟨g,0,none⟩) 0 0) w:=by
 obtain⟨i,hi,f,d,b⟩:=info_parts qH
 simp[Builtin.append_,run_underlying Tryz.underlying72,sizeOf,typeInfo,hi,Builtin.lenOf,Builtin.firstCells,loadCells,loadCellsFrom,storeCells]
theorem ILs.cells {w:World}{ad:Addr}{c:Nat}{is:List Nat}(h:ILs w (some ad) c is) (j:Nat) (u:Value) (hj:(J7 is)[j]?=some u):w.cell? (ad.add j)=some u:=by
 unfold J7 at hj;rw[a1r] at hj
 cases hk:is[j]? with
 | none=>rw[hk] at hj;cases hj
 | some x =>
  rw[hk] at hj
  injection hj with hj
  obtain⟨a,e,h1,h2⟩:=h.2.2 j x hk
  cases e
  rw[h2,←hj]
theorem cP {w:World}{base g cd:Nat}{D:Option Addr}{ch:List Nat}(hE:OwnI w base (.slice (some ⟨g,0,none⟩) 0 0) []) (hI:ILs w D cd ch) (hl:ch.length≤1000) (hb:base≤w.heap.size) :
 ∃ v6 w6,(Builtin.append_ #[72,72] 72 #[.slice (some ⟨g,0,none⟩) 0 0,.slice D ch.length cd]).run Tryz.prog w=.ok v6 w6∧OwnI w6 base v6 ch∧Only w w6 g:=by
 cases D with
 | none =>
  have h0:ch=[]:=by
   cases ch with
   | nil=>rfl
   | cons x l =>
    obtain⟨a,e,-⟩:=hI.2.2 0 x rfl
    cases e
  subst h0;exact⟨_,w,uH w g cd,hE,a4m w g⟩
 | some ad =>
  obtain⟨v6,w6,h1,h2,h3⟩:=gW Tryz.underlying72 w base _ [] hE ad cd ch hI.cells (by simp;omega) hb;exact⟨v6,w6,h1,h2,h3⟩
theorem OwnI.keepB {w w':World}{base g:Nat}{v:Value}{is:List Nat}{t:TypeId}{cs:Array Value}(h:OwnI w base v is) (hg:w.grownBy w' v.ownBlock) (hB:Blk w g t cs) (ht:3≠t):Blk w' g t cs:=by
 cases hv:v.ownBlock with
 | none=>rw[hv] at hg;exact hB.keep ⟨hg.os,hg.tape,hg.output,hg.size,fun i hi=>hg.block i hi (by simp)⟩
 | some g' =>
  rw[hv] at hg;obtain⟨b,k1,k2⟩:=h.2 g' hv;exact hB.only hg (a4p k1 hB ht).symm
theorem OwnI.lt {w:World}{base g:Nat}{is:List Nat}{v:Value}(h:OwnI w base v is) (hv:v.ownBlock=some g):g<w.heap.size:=by
 obtain⟨b,k1,-⟩:=h.2 g hv;exact Blk.lt k1
def qU (m:Nat):Prop:=∀ (mi:Int) (A B C D:Option Addr) (ca cb cc cd fr:Nat) (tg:List FrD) (ns:List NdD) (ms:List Int) (ch:List Nat) (v:Value) (sq:Rat) (w:World),argsE tg.length ns ms=0→FL w A ca tg→NL w B cb ns→ZL w C cc ms→FV w v sq→ILs w D cd ch→QFits 2 (tg.map FrD.q)→Fits 2 sq→ms.length≤4→ns.length≤5→(∀ a∈ch,a<(C5 ns ms).length)→ch.length+m≤3→mi.toNat=m→-1≤mi→fr≤100 →
 Calls Tryz.prog 18 #[.slice A tg.length ca,.slice B ns.length cb,.slice C ms.length cc,v,.slice D ch.length cd,.int .i64 (fr:Int),.int .i64 mi] w (RetSr (tg.map FrD.q) ns ms sq (H2 ns ms (tg.map FrD.q) sq m ch fr) w)
section
variable {ns:List NdD}{ms:List Int}{tg:List Rat}{sum:Rat}
def NoB (ns:List NdD) (ms:List Int) (tg:List Rat) (sum:Rat) (m fr i:Nat) (ch:List Nat):Prop:=∀ k,fr≤k→k<i→∀ m',m=m'+1→H2 ns ms tg sum m' (ch++[k]) (k+1)=false
theorem NoB.zero (m fr:Nat) (ch:List Nat):NoB ns ms tg sum m fr fr ch:=fun k h1 h2=>by omega
theorem NoB.step {m fr i m1:Nat}{ch:List Nat}(h:NoB ns ms tg sum m fr i ch) (hm:m=m1+1) (hs:H2 ns ms tg sum m1 (ch++[i]) (i+1)=false):NoB ns ms tg sum m fr (i+1) ch:=fun k h1 h2 m' e=>by
 by_cases hk:k=i
 · subst hk;have:m'=m1:=by omega
   subst this;exact hs
 · exact h k h1 (by omega) m' e
theorem iZ {m fr i:Nat}{ch:List Nat}(hh:Y5 ns ms tg sum ch=false) (h:NoB ns ms tg sum m fr i ch) (hi:m=0∨(C5 ns ms).length≤i):H2 ns ms tg sum m ch fr=false:=by
 cases m with
 | zero=>exact hh
 | succ m =>
  refine zA hh fun k h1 h2=>h k h1 ?_ m rfl
  rcases hi with h | h
  · omega
  · omega
end
theorem dO {m:Nat}(hIH0:∀ m',m=m'+1→qU m'):qU m:=by
 intro mi A B C D ca cb cc cd fr tg ns ms ch v sq w hE s7 q5 q0 bE g5 d3 d5 q2 n9 c7 hcm h9 hmi1 gC;have hW:=a1k hIH0;obtain⟨sv,rfl,cY,v8⟩:=bE.frd;obtain⟨BB,g1⟩:∃ b,Hid (H2 ns ms (tg.map FrD.q) sq m ch fr=b):=⟨_,rfl⟩;rw[g1.out];obtain⟨h0,g9⟩:∃ b,Hid (Y5 ns ms (tg.map FrD.q) sq ch=b):=⟨_,rfl⟩;have cR:=a1k hE;have cI:=a1k d3;have v4:=a1k d5;have gE:=a1k c7;have n8:=a1k h9;have hm3:mi≤3:=by omega
 have s:=a1k (show ch.length≤1000 by omega);obtain⟨w0,hw0,b0,l0,hG⟩:=f8 w #[.bool sv.neg,.slice sv.a sv.la.length sv.ca,.slice sv.b sv.lb.length sv.cb] 28;obtain⟨w1,hw1,b1,l1,g6⟩:=f8 w0 #[.slice none 0 0,.slice none 0 0,.slice none 0 0,.slice none 0 0,.bool false,.slice none 0 0,.slice none 0 0] 34;have N:=a1j b0 b1;have m5:VarQ w1 w.heap.size sv:=a4f hG b1;obtain⟨p0,p1,p2⟩:=m5.cells;have x4:=a1k (show w0.heap.size<w1.heap.size from l1);have lt0:=s7.len;have ln0:=q5.len;have lm0:=q0.len;have lc0:ch.length≤cd∧cd≤9223372036854775807:=⟨g5.1,g5.2.1⟩;have l5:FV w1 sv.v sq:=by rw[←v8.out];exact cY.below N
 have H:=mW hE (s7.below N) (q5.below N) (q0.below N) l5 (g5.below N) d3 d5 q2 n9 c7 (by omega);rw[g9.out] at H;clear d3 d5 c7 hE bE hIH0 h9;go_enter Tryz.func18,Tryz.ntmps18;go_wp2_with fail;refine H.mono ?_;rintro e w2 hr;obtain⟨x,rfl,hx,b2⟩:=hr.sr;clear H hr p0 p1 p2;obtain⟨wA,wB,eA,p0,p1,p2,p3,p4,p5,p6,r0,r1,r2,r3,r4,r5,r6,eB,hV,bV,lV⟩:=sG w2 x;have h6:=a1j b2 bV;have hR:=a4f g6 h6
 cases h0 with
 | true =>
  have t0:wB.cell? ⟨w2.heap.size,0,none⟩=some (.slice x.pay.a x.pay.ds.length x.pay.c):=a4e hV 0;have t1:wB.cell? ⟨w2.heap.size,1,none⟩=some (.slice x.mults.a x.mults.ds.length x.mults.c):=a4e hV 1;have t2:wB.cell? ⟨w2.heap.size,2,none⟩=some (.slice x.low.a x.low.ds.length x.low.c):=a4e hV 2;have t3:wB.cell? ⟨w2.heap.size,3,none⟩=some (.slice x.high.a x.high.ds.length x.high.c):=a4e hV 3;have t4:wB.cell? ⟨w2.heap.size,4,none⟩=some (.bool x.lev.neg):=a4e hV 4;have t5:wB.cell? ⟨w2.heap.size,5,none⟩=some (.slice x.lev.a x.lev.la.length x.lev.ca):=a4e hV 5;have t6:wB.cell? ⟨w2.heap.size,6,none⟩=some (.slice x.lev.b x.lev.lb.length x.lev.cb):=a4e hV 6;have F:=a1k (show BB=true by rw[←g1.out];exact kR g9.out);obtain⟨wF,z0,z1,z2,z3,z4,z5,z6,f0,f1,f2,f3,f4,f5,f6,eF,hF,oF⟩:=C6 hR x;have bB:=a1j N h6;have v2:=(hx.below bV).far (fun e a ha=>by have h1:=((hx e).2.1 a ha).1;have h2:=x4.out;omega) hR I5 oF;have bF:=oF.to_below bB b0.size bB.size;have c0:wF.cell? ⟨w0.heap.size,0,none⟩=some (.slice x.pay.a x.pay.ds.length x.pay.c):=a4e hF 0;have c1:wF.cell? ⟨w0.heap.size,1,none⟩=some (.slice x.mults.a x.mults.ds.length x.mults.c):=a4e hF 1;have c2:wF.cell? ⟨w0.heap.size,2,none⟩=some (.slice x.low.a x.low.ds.length x.low.c):=a4e hF 2
  have c3:wF.cell? ⟨w0.heap.size,3,none⟩=some (.slice x.high.a x.high.ds.length x.high.c):=a4e hF 3;have c4:wF.cell? ⟨w0.heap.size,4,none⟩=some (.bool x.lev.neg):=a4e hF 4;have c5:wF.cell? ⟨w0.heap.size,5,none⟩=some (.slice x.lev.a x.lev.la.length x.lev.ca):=a4e hF 5;have c6:wF.cell? ⟨w0.heap.size,6,none⟩=some (.slice x.lev.b x.lev.lb.length x.lev.cb):=a4e hF 6;clear hV hR hF hx;go_wp2_with fail;refine a3z (v:=.tuple #[x.v,.bool true]) (by simp[results,Tryz.results18,go_sem,c0,c1,c2,c3,c4,c5,c6]) rfl ?_;exact⟨x,by rw[F.out],fun _=>(v2.mono N.size) rfl,bF⟩
 | false =>
  clear hx;go_wp2_with fail;clear hV hR p0 p1 p2 p3 p4 p5 p6 r0 r1 r2 r3 r4 r5 r6 eA
  go_loopw [18] (fun iv wr=>∃ i:Nat,fr≤i∧iv=.int .i64 (i:Int)∧i≤100∧Hid (NoB ns ms (tg.map FrD.q) sq m fr i ch)∧Below w1.heap.size w1 wr) (fun iv _=>200-(intOf iv).toNat)
  case atStart=>exact⟨fr,a1u _,rfl,gC,a1k (NoB.zero _ _ _),h6⟩
  case round =>
   clear h6;obtain⟨i,hL,rfl,hQ,q6,M⟩:=hrel
   by_cases hiL:i<ns.length+2*ms.length
   · by_cases hm0':0<mi
     · have m8:(i:Int)<(ns.length:Int)+2*(ms.length:Int):=by omega
       obtain⟨m1,d6⟩:∃ m',Hid (m=m'+1):=⟨m-1,a1k (by have:=n8.out;omega)⟩;have n4:=hW.out m1 d6.out;obtain⟨t,O⟩:∃ l,Hid (ch++[i]=l):=⟨_,rfl⟩;obtain⟨bb,g7⟩:∃ b,Hid (H2 ns ms (tg.map FrD.q) sq m1 t (i+1)=b):=⟨_,rfl⟩;obtain⟨c8,d7⟩:∃ k:Int,Hid (mi-1=k):=⟨_,rfl⟩;have l6:=a1k (show c8.toNat=m1 by have h1:=n8.out;have h2:=d6.out;have h3:=d7.out;omega);have m4:=a1k (show -1≤c8 by have h3:=d7.out;omega);have hwm:IntKind.i64.wrap (mi-1)=c8:=by have h3:=d7.out;rw[IntKind.wrap_i64];omega
       have hwi:IntKind.i64.wrap ((i:Int)+1)=(i:Int)+1:=by rw[IntKind.wrap_i64];omega
       have l3:=a1k (show t.length+m1≤3 by rw[←O.out,a1x];have h2:=d6.out;simp;omega)
       have m6:=a1k (show ∀ a∈t,a<(C5 ns ms).length by
        rw[←O.out];intro a ha
        rcases a3b.1 ha with h | h
        · exact gE.out a h
        · simp at h;subst h;rw[G5];omega)
       obtain⟨y,hy⟩:∃ y,y=wr:=⟨_,rfl⟩;subst hy;have R:=a1j N M;have z9:=a1k R;have hM:=a1k (show w0.heap.size<y.heap.size from a1o l1 M.size);have x2:=s7.below R;have x8:=q5.below R;have fE:=q0.below R;have g3:=g5.below R;have cM:=l5.below M;have b9:=m5.below M;have lA:=a4f g6 M;have bT:=a3t y.heap.size y;clear R;go_upto_region 7 with fail
       have hS:∀ w',Below y.heap.size y w'→w'.cell? ⟨w.heap.size,0,none⟩=some (.bool sv.neg)∧w'.cell? ⟨w.heap.size,1,none⟩=some (.slice sv.a sv.la.length sv.ca)∧w'.cell? ⟨w.heap.size,2,none⟩=some (.slice sv.b sv.lb.length sv.cb)∧Below y.heap.size y w':=by
        intro w' o;exact⟨(b9.below o).cells.1,(b9.below o).cells.2.1,(b9.below o).cells.2.2,o⟩
       have dS:Below y.heap.size y y.drew:=bT.drew;go_wp2_with fail;refine a3u ?_;refine a3v (S:=fun w'=>w'.cell? ⟨w.heap.size,0,none⟩=some (.bool sv.neg)∧w'.cell? ⟨w.heap.size,1,none⟩=some (.slice sv.a sv.la.length sv.ca)∧w'.cell? ⟨w.heap.size,2,none⟩=some (.slice sv.b sv.lb.length sv.cb)∧Below y.heap.size y w') (by kernel_rfl) (hS _ dS) (fun d=>?_);obtain⟨u1,hO,hT⟩:∃ x,y.drew=x∧Below y.heap.size y x:=⟨_,rfl,dS⟩;rw[hO] at d ⊢;replace bT:=a1j bT hT;refine mX 0 1 2 3 5 7 10 11 d ?_;refine P2 12 13 d ?_;refine H8 2 [4,6,8,9,14,15,16,17,18] [52,54,56,57,62,47,63,64,19] (fun us w'=>∃ (s4:Value) (s8:Value) (s6:Value) (s9:Value) (x:PtD) (j:Nat),us=[s4,s6,s8,s9,.tuple #[x.v,.bool bb],.tuple #[x.v,.bool bb],x.v,.bool bb,.pointer (some ⟨j,0,none⟩)]∧(NrP (tg.map FrD.q) ns ms sq bb y.heap.size x w')∧(Blk w' j 34 #[.slice none 0 0,.slice none 0 0,.slice none 0 0,.slice none 0 0,.bool false,.slice none 0 0,.slice none 0 0])∧(y.heap.size≤j)∧(bb=true→∀ a,(x.pay.a=some a∨x.mults.a=some a∨x.low.a=some a∨x.high.a=some a)→a.block≠j)∧Below y.heap.size y w') ?_ (fun r=>?_)
       · clear bT;rintro us u2 ⟨s4,s8,s6,s9,x,j,rfl,hx,f,g,z,bT⟩ d
         simp only[C2,C1,j9]
         refine z8 19 rfl fun K hK=>?_;obtain⟨u3,z0,z1,z2,z3,z4,z5,z6,f0,f1,f2,f3,f4,f5,f6,eu3,U,cU⟩:=C6 f x;replace bT:=cU.to_below bT g bT.size;replace hx:=hx.far z f I5 cU;go_simp;refine hK.out _ _ (hS _ bT) (fun d=>?_);clear hK K;(try simp only[j9]);refine K4 20 rfl d ?_;refine a4c (by kernel_rfl) ?_ _;refine a3w ?_;(try go_simp);clear d;have v1:=bT
         cases bb with
         | false =>
          have y8:=a1k (q6.out.step d6.out (by rw[O.out];exact g7.out));have bD:=a1j M v1;clear f U hx bT z;go_wp2_with fail;go_roundw
          case rel=>exact⟨i+1,by omega,by go_num,by omega,y8,bD⟩
          case measure=>simp[intOf];omega
         | true =>
          have F:=a1k (show BB=true by rw[←g1.out,d6.out];exact zB (by rw[G5];omega) hL (by rw[O.out];exact g7.out));have q4:=a4f lA v1;have t0:u3.cell? ⟨j,0,none⟩=some (.slice x.pay.a x.pay.ds.length x.pay.c):=a4e U 0;have t1:u3.cell? ⟨j,1,none⟩=some (.slice x.mults.a x.mults.ds.length x.mults.c):=a4e U 1;have t2:u3.cell? ⟨j,2,none⟩=some (.slice x.low.a x.low.ds.length x.low.c):=a4e U 2;have t3:u3.cell? ⟨j,3,none⟩=some (.slice x.high.a x.high.ds.length x.high.c):=a4e U 3;have t4:u3.cell? ⟨j,4,none⟩=some (.bool x.lev.neg):=a4e U 4;have t5:u3.cell? ⟨j,5,none⟩=some (.slice x.lev.a x.lev.la.length x.lev.ca):=a4e U 5;have t6:u3.cell? ⟨j,6,none⟩=some (.slice x.lev.b x.lev.lb.length x.lev.cb):=a4e U 6;obtain⟨wF,y0,y1,y2,y3,y4,y5,y6,k0,k1,k2,k3,k4,k5,k6,eF,hF,oF⟩:=C6 q4 x;have v3:=a1j z9.out v1;have v2:=hx.far (fun e a ha=>by have h1:=((hx e).2.1 a ha).1;have h2:=hM.out;omega) q4 I5 oF;have bF:=oF.to_below v3 b0.size v3.size;have c0:wF.cell? ⟨w0.heap.size,0,none⟩=some (.slice x.pay.a x.pay.ds.length x.pay.c):=a4e hF 0;have c1:wF.cell? ⟨w0.heap.size,1,none⟩=some (.slice x.mults.a x.mults.ds.length x.mults.c):=a4e hF 1;have c2:wF.cell? ⟨w0.heap.size,2,none⟩=some (.slice x.low.a x.low.ds.length x.low.c):=a4e hF 2
          have c3:wF.cell? ⟨w0.heap.size,3,none⟩=some (.slice x.high.a x.high.ds.length x.high.c):=a4e hF 3;have c4:wF.cell? ⟨w0.heap.size,4,none⟩=some (.bool x.lev.neg):=a4e hF 4;have c5:wF.cell? ⟨w0.heap.size,5,none⟩=some (.slice x.lev.a x.lev.la.length x.lev.ca):=a4e hF 5;have c6:wF.cell? ⟨w0.heap.size,6,none⟩=some (.slice x.lev.b x.lev.lb.length x.lev.cb):=a4e hF 6;clear f U hx bT z hF q4;go_wp2_with fail;refine a3z (v:=.tuple #[x.v,.bool true]) (by simp[results,Tryz.results18,go_sem,c0,c1,c2,c3,c4,c5,c6]) rfl ?_;exact⟨x,by rw[F.out],fun _=>(v2.mono z9.out.size) rfl,bF⟩
       refine H8 3 [4,6,8,9,14,15,16,17] [52,54,56,57,62,47,63,64] (fun us w'=>∃ (s4:Value) (s8:Value) (s6:Value) (s9:Value) (x:PtD),us=[s4,s6,s8,s9,.tuple #[x.v,.bool bb],.tuple #[x.v,.bool bb],x.v,.bool bb]∧(NrP (tg.map FrD.q) ns ms sq bb y.heap.size x w')∧Below y.heap.size y w') ?_ (fun T=>?_)
       · clear bT;rintro us u4 ⟨s4,s8,s6,s9,x,rfl,hx,bT⟩ d
         simp only[C2,C1,j9]
         refine z8 18 rfl fun K hK=>?_;have g:=bT.size;have hU:=hx;obtain⟨u5,hu5,gA,lu5,y9⟩:=f8 u4 #[.slice none 0 0,.slice none 0 0,.slice none 0 0,.slice none 0 0,.bool false,.slice none 0 0,.slice none 0 0] 34;replace hx:=hx.below gA;replace bT:=a1j bT gA;have f:=y9;clear y9;have z:bb=true→∀ a,(x.pay.a=some a∨x.mults.a=some a∨x.low.a=some a∨x.high.a=some a)→a.block≠u4.heap.size:=fun e a ha=>by have h1:=((hU e).2.1 a ha).2;omega
         go_simp;refine hK.out _ _ (hS _ bT) (fun d=>?_);clear hK K;(try simp only[j9]);refine Eq.mp ?_ (r [s4,s6,s8,s9,.tuple #[x.v,.bool bb],.tuple #[x.v,.bool bb],x.v,.bool bb,.pointer (some ⟨u4.heap.size,0,none⟩)] u5 ⟨s4,s8,s6,s9,x,u4.heap.size,rfl,hx,f,g,z,bT⟩ d)
         kernel_rfl
       refine H8 6 [4,6,8,9,18] [52,54,56,57,19] (fun us w'=>∃ (s4:Value) (s8:Value) (s6:Value) (A9:Option Addr) (c9:Nat) (j:Nat),us=[s4,s6,s8,.slice A9 t.length c9,.pointer (some ⟨j,0,none⟩)]∧(ILs w' A9 c9 t)∧(Blk w' j 34 #[.slice none 0 0,.slice none 0 0,.slice none 0 0,.slice none 0 0,.bool false,.slice none 0 0,.slice none 0 0])∧(y.heap.size≤j)∧Below y.heap.size y w') ?_ (fun G=>?_)
       · clear bT;rintro us u6 ⟨s4,s8,s6,A9,c9,j,rfl,hI,f,g,bT⟩ d
         simp only[C2,C1,j9]
         refine z8 14 rfl fun K hK=>?_;go_simp;have bS:=bT.size;have hl18:=f.lt;have H:=n4 c8 A B C A9 ca cb cc c9 (i+1) tg ns ms t sv.v sq u6 cR.out (x2.below bT) (x8.below bT) (fE.below bT) (cM.below bT) hI cI.out v4.out q2 n9 m6.out l3.out l6.out m4.out (by omega);rw[g7.out,show ((i+1:Nat):Int)=(i:Int)+1 from rfl] at H;go_at_call 18;refine H.mono ?_;rintro e u7 ⟨x,rfl,b6,bA⟩;clear H;have z:bb=true→∀ a,(x.pay.a=some a∨x.mults.a=some a∨x.low.a=some a∨x.high.a=some a)→a.block≠j:=fun e a ha=>by have h1:=((b6 e).2.1 a ha).1;omega
         replace f:=f.keep bA;replace bT:=a1j bT bA;have hx:=b6.mono bS;clear b6 hI bS;go_wp2_with fail;refine hK.out _ _ (hS _ bT) (fun d=>?_);clear hK K;(try simp only[j9]);refine P2 15 16 d ?_;refine K4 17 rfl d ?_;refine Eq.mp ?_ (r [s4,s6,s8,.slice A9 t.length c9,.tuple #[x.v,.bool bb],.tuple #[x.v,.bool bb],x.v,.bool bb,.pointer (some ⟨j,0,none⟩)] u7 ⟨s4,s8,s6,.slice A9 t.length c9,x,j,rfl,hx,f,g,z,bT⟩ d)
         kernel_rfl
       refine H8 7 [4,6,8,9] [52,54,56,57] (fun us w'=>∃ (s4:Value) (s8:Value) (s6:Value) (A9:Option Addr) (c9:Nat),us=[s4,s6,s8,.slice A9 t.length c9]∧(ILs w' A9 c9 t)∧Below y.heap.size y w') ?_ (fun b7=>?_)
       · clear bT;rintro us u8 ⟨s4,s8,s6,A9,c9,rfl,hI,bT⟩ d
         simp only[C2,C1,j9]
         refine a4b (rs:=[14,18]) (by kernel_rfl) (by simp) ?_;refine a3x rfl (fun K hK=>?_) ?_
         · go_simp;have bS:=bT.size;have H:=n4 c8 A B C A9 ca cb cc c9 (i+1) tg ns ms t sv.v sq u8 cR.out (x2.below bT) (x8.below bT) (fE.below bT) (cM.below bT) hI cI.out v4.out q2 n9 m6.out l3.out l6.out m4.out (by omega);rw[g7.out,show ((i+1:Nat):Int)=(i:Int)+1 from rfl] at H;go_at_call 18;refine H.mono ?_;rintro e u9 ⟨x,rfl,b6,x0⟩;clear H;replace hI:=hI.below x0;replace bT:=a1j bT x0;have hx:=b6.mono bS;clear b6 hI bS;go_wp2_with fail;refine hK.out _ _ (hS _ bT) (fun d=>?_);clear hK K;(try simp only[j9]);refine P2 15 16 d ?_;refine K4 17 rfl d ?_;refine Eq.mp ?_ (T [s4,s6,s8,.slice A9 t.length c9,.tuple #[x.v,.bool bb],.tuple #[x.v,.bool bb],x.v,.bool bb] u9 ⟨s4,s8,s6,.slice A9 t.length c9,x,rfl,hx,bT⟩ d)
           kernel_rfl
         refine a3x rfl (fun K hK=>?_) a3y;have g:=bT.size;obtain⟨hX,hu10,j2,lu10,m2⟩:=f8 u8 #[.slice none 0 0,.slice none 0 0,.slice none 0 0,.slice none 0 0,.bool false,.slice none 0 0,.slice none 0 0] 34;replace hI:=hI.below j2;replace bT:=a1j bT j2;have f:=m2;clear m2;go_simp;refine hK.out _ _ (hS _ bT) (fun d=>?_);clear hK K;(try simp only[j9]);refine Eq.mp ?_ (G [s4,s6,s8,.slice A9 t.length c9,.pointer (some ⟨u8.heap.size,0,none⟩)] hX ⟨s4,s8,s6,A9,c9,u8.heap.size,rfl,hI,f,g,bT⟩ d)
         kernel_rfl
       refine H8 7 [4,6,8,18] [52,54,56,19] (fun us w'=>∃ (s4:Value) (g8:Nat) (v6:Value) (j:Nat),us=[s4,v6,.slice (some ⟨g8,0,none⟩) 1 1,.pointer (some ⟨j,0,none⟩)]∧(Blk w' g8 3 #[.int .i64 (i:Int)])∧(OwnI w' y.heap.size v6 ch)∧(Blk w' j 34 #[.slice none 0 0,.slice none 0 0,.slice none 0 0,.slice none 0 0,.bool false,.slice none 0 0,.slice none 0 0])∧(y.heap.size≤j)∧Below y.heap.size y w') ?_ (fun E=>?_)
       · clear bT;rintro us u11 ⟨s4,g8,v6,j,rfl,n,hV,f,g,bT⟩ d
         simp only[C2,C1,j9]
         refine z8 9 rfl fun K hK=>?_;obtain⟨v9,w9,d8,Y,h5⟩:=fM Tryz.underlying72 _ y.heap.size v6 ch hV ⟨g8,0,none⟩ 1 i (a4e n 0) (by have:=s.out;omega) bT.size;refine q7 rfl _ _ rfl rfl rfl rfl d8 ?_;rw[O.out] at Y;obtain⟨A9,c9,rfl,hI⟩:=Y.il;replace f:=OwnI.keepB hV h5 f (by decide);replace bT:=bT.grown h5 bT.size (fun k hk=>a4o hV hk);clear hV n Y d8;refine hK.out _ _ (hS _ bT) (fun d=>?_);clear hK K;(try simp only[j9]);refine Eq.mp ?_ (G [s4,v6,.slice (some ⟨g8,0,none⟩) 1 1,.slice A9 t.length c9,.pointer (some ⟨j,0,none⟩)] w9 ⟨s4,.slice (some ⟨g8,0,none⟩) 1 1,v6,A9,c9,j,rfl,hI,f,g,bT⟩ d)
         kernel_rfl
       refine H8 8 [4,6,8] [52,54,56] (fun us w'=>∃ (s4:Value) (g8:Nat) (v6:Value),us=[s4,v6,.slice (some ⟨g8,0,none⟩) 1 1]∧(Blk w' g8 3 #[.int .i64 (i:Int)])∧(OwnI w' y.heap.size v6 ch)∧Below y.heap.size y w') ?_ (fun b4=>?_)
       · clear bT;rintro us q3 ⟨s4,g8,v6,rfl,n,hV,bT⟩ d
         simp only[C2,C1,j9]
         refine a4b (rs:=[9,18]) (by kernel_rfl) (by simp) ?_;refine a3x rfl (fun K hK=>?_) ?_
         · obtain⟨v9,w9,d8,Y,h5⟩:=fM Tryz.underlying72 _ y.heap.size v6 ch hV ⟨g8,0,none⟩ 1 i (a4e n 0) (by have:=s.out;omega) bT.size;refine q7 rfl _ _ rfl rfl rfl rfl d8 ?_;rw[O.out] at Y;obtain⟨A9,c9,rfl,hI⟩:=Y.il;replace bT:=bT.grown h5 bT.size (fun k hk=>a4o hV hk);clear hV n Y d8;refine hK.out _ _ (hS _ bT) (fun d=>?_);clear hK K;(try simp only[j9]);refine Eq.mp ?_ (b7 [s4,v6,.slice (some ⟨g8,0,none⟩) 1 1,.slice A9 t.length c9] w9 ⟨s4,.slice (some ⟨g8,0,none⟩) 1 1,v6,A9,c9,rfl,hI,bT⟩ d)
           kernel_rfl
         refine a3x rfl (fun K hK=>?_) a3y;have g:=bT.size;obtain⟨hY,hu13,d0,lu13,j0⟩:=f8 q3 #[.slice none 0 0,.slice none 0 0,.slice none 0 0,.slice none 0 0,.bool false,.slice none 0 0,.slice none 0 0] 34;replace n:=n.keep d0;replace hV:=hV.below d0;replace bT:=a1j bT d0;have f:=j0;clear j0;go_simp;refine hK.out _ _ (hS _ bT) (fun d=>?_);clear hK K;(try simp only[j9]);refine Eq.mp ?_ (E [s4,v6,.slice (some ⟨g8,0,none⟩) 1 1,.pointer (some ⟨q3.heap.size,0,none⟩)] hY ⟨s4,g8,v6,q3.heap.size,rfl,n,hV,f,g,bT⟩ d)
         kernel_rfl
       refine H8 8 [4,6,18] [52,54,19] (fun us w'=>∃ (s4:Value) (v6:Value) (j:Nat),us=[s4,v6,.pointer (some ⟨j,0,none⟩)]∧(OwnI w' y.heap.size v6 ch)∧(Blk w' j 34 #[.slice none 0 0,.slice none 0 0,.slice none 0 0,.slice none 0 0,.bool false,.slice none 0 0,.slice none 0 0])∧(y.heap.size≤j)∧Below y.heap.size y w') ?_ (fun X=>?_)
       · clear bT;rintro us q1 ⟨s4,v6,j,rfl,hV,f,g,bT⟩ d
         simp only[C2,C1,j9]
         refine z8 8 rfl fun K hK=>?_;obtain⟨gB,hu15,d4,sB,n5⟩:=f8 q1 #[.int .i64 (i:Int)] 3;replace hV:=hV.below d4;replace f:=f.keep d4;replace bT:=a1j bT d4;have n:=n5;clear n5;go_simp;refine hK.out _ _ (hS _ bT) (fun d=>?_);clear hK K;(try simp only[j9]);refine Eq.mp ?_ (E [s4,v6,.slice (some ⟨q1.heap.size,0,none⟩) 1 1,.pointer (some ⟨j,0,none⟩)] gB ⟨s4,q1.heap.size,v6,j,rfl,n,hV,f,g,bT⟩ d)
         kernel_rfl
       refine H8 8 [4,8,18] [52,56,19] (fun us w'=>∃ (g4:Nat) (g8:Nat) (j:Nat),us=[.slice (some ⟨g4,0,none⟩) 0 0,.slice (some ⟨g8,0,none⟩) 1 1,.pointer (some ⟨j,0,none⟩)]∧(OwnI w' y.heap.size (.slice (some ⟨g4,0,none⟩) 0 0) [])∧(Blk w' g8 3 #[.int .i64 (i:Int)])∧(g8≠g4)∧(Blk w' j 34 #[.slice none 0 0,.slice none 0 0,.slice none 0 0,.slice none 0 0,.bool false,.slice none 0 0,.slice none 0 0])∧(y.heap.size≤j)∧Below y.heap.size y w') ?_ (fun J=>?_)
       · clear bT;rintro us u16 ⟨g4,g8,j,rfl,hE,n,p,f,g,bT⟩ d
         simp only[C2,C1,j9]
         refine z8 6 rfl fun K hK=>?_;obtain⟨v6,w6,L,hV,I⟩:=cP hE (g3.below bT) s.out bT.size;refine q7 rfl _ _ rfl rfl rfl rfl L ?_;replace n:=n.only I p;replace f:=OwnI.keepB hE I f (by decide);replace bT:=bT.grown I bT.size (fun k hk=>a4o hE hk);clear hE L;refine hK.out _ _ (hS _ bT) (fun d=>?_);clear hK K;(try simp only[j9]);refine Eq.mp ?_ (E [.slice (some ⟨g4,0,none⟩) 0 0,v6,.slice (some ⟨g8,0,none⟩) 1 1,.pointer (some ⟨j,0,none⟩)] w6 ⟨.slice (some ⟨g4,0,none⟩) 0 0,g8,v6,j,rfl,n,hV,f,g,bT⟩ d)
         kernel_rfl
       refine H8 9 [4,6] [52,54] (fun us w'=>∃ (s4:Value) (v6:Value),us=[s4,v6]∧(OwnI w' y.heap.size v6 ch)∧Below y.heap.size y w') ?_ (fun v5=>?_)
       · clear bT;rintro us b5 ⟨s4,v6,rfl,hV,bT⟩ d
         simp only[C2,C1,j9]
         refine a4b (rs:=[8,18]) (by kernel_rfl) (by simp) ?_;refine a3x rfl (fun K hK=>?_) ?_
         · obtain⟨kA,vD,j4,vA,n3⟩:=f8 b5 #[.int .i64 (i:Int)] 3;replace hV:=hV.below j4;replace bT:=a1j bT j4;have n:=n3;clear n3;go_simp;refine hK.out _ _ (hS _ bT) (fun d=>?_);clear hK K;(try simp only[j9]);refine Eq.mp ?_ (b4 [s4,v6,.slice (some ⟨b5.heap.size,0,none⟩) 1 1] kA ⟨s4,b5.heap.size,v6,rfl,n,hV,bT⟩ d)
           kernel_rfl
         refine a3x rfl (fun K hK=>?_) a3y;have g:=bT.size;obtain⟨hJ,yE,l9,lu19,m3⟩:=f8 b5 #[.slice none 0 0,.slice none 0 0,.slice none 0 0,.slice none 0 0,.bool false,.slice none 0 0,.slice none 0 0] 34;replace hV:=hV.below l9;replace bT:=a1j bT l9;have f:=m3;clear m3;go_simp;refine hK.out _ _ (hS _ bT) (fun d=>?_);clear hK K;(try simp only[j9]);refine Eq.mp ?_ (X [s4,v6,.pointer (some ⟨b5.heap.size,0,none⟩)] hJ ⟨s4,v6,b5.heap.size,rfl,hV,f,g,bT⟩ d)
         kernel_rfl
       refine H8 9 [4,8] [52,56] (fun us w'=>∃ (g4:Nat) (g8:Nat),us=[.slice (some ⟨g4,0,none⟩) 0 0,.slice (some ⟨g8,0,none⟩) 1 1]∧(OwnI w' y.heap.size (.slice (some ⟨g4,0,none⟩) 0 0) [])∧(Blk w' g8 3 #[.int .i64 (i:Int)])∧(g8≠g4)∧Below y.heap.size y w') ?_ (fun h7=>?_)
       · clear bT;rintro us r8 ⟨g4,g8,rfl,hE,n,p,bT⟩ d
         simp only[C2,C1,j9]
         refine a4b (rs:=[6,18]) (by kernel_rfl) (by simp) ?_;refine a3x rfl (fun K hK=>?_) ?_
         · obtain⟨v6,w6,L,hV,I⟩:=cP hE (g3.below bT) s.out bT.size;refine q7 rfl _ _ rfl rfl rfl rfl L ?_;replace n:=n.only I p;replace bT:=bT.grown I bT.size (fun k hk=>a4o hE hk);clear hE L;refine hK.out _ _ (hS _ bT) (fun d=>?_);clear hK K;(try simp only[j9]);refine Eq.mp ?_ (b4 [.slice (some ⟨g4,0,none⟩) 0 0,v6,.slice (some ⟨g8,0,none⟩) 1 1] w6 ⟨.slice (some ⟨g4,0,none⟩) 0 0,g8,v6,rfl,n,hV,bT⟩ d)
           kernel_rfl
         refine a3x rfl (fun K hK=>?_) a3y;have g:=bT.size;obtain⟨lB,hu21,d1,lu21,l2⟩:=f8 r8 #[.slice none 0 0,.slice none 0 0,.slice none 0 0,.slice none 0 0,.bool false,.slice none 0 0,.slice none 0 0] 34;replace hE:=hE.below d1;replace n:=n.keep d1;replace bT:=a1j bT d1;have f:=l2;clear l2;go_simp;refine hK.out _ _ (hS _ bT) (fun d=>?_);clear hK K;(try simp only[j9]);refine Eq.mp ?_ (J [.slice (some ⟨g4,0,none⟩) 0 0,.slice (some ⟨g8,0,none⟩) 1 1,.pointer (some ⟨r8.heap.size,0,none⟩)] lB ⟨g4,g8,r8.heap.size,rfl,hE,n,p,f,g,bT⟩ d)
         kernel_rfl
       refine H8 9 [4,18] [52,19] (fun us w'=>∃ (g4:Nat) (j:Nat),us=[.slice (some ⟨g4,0,none⟩) 0 0,.pointer (some ⟨j,0,none⟩)]∧(OwnI w' y.heap.size (.slice (some ⟨g4,0,none⟩) 0 0) [])∧(Blk w' j 34 #[.slice none 0 0,.slice none 0 0,.slice none 0 0,.slice none 0 0,.bool false,.slice none 0 0,.slice none 0 0])∧(y.heap.size≤j)∧Below y.heap.size y w') ?_ (fun f9=>?_)
       · clear bT;rintro us g2 ⟨g4,j,rfl,hE,f,g,bT⟩ d
         simp only[C2,C1,j9]
         refine a4b (rs:=[6,8]) (by kernel_rfl) (by simp) ?_;refine a3x rfl (fun K hK=>?_) ?_
         · obtain⟨v6,w6,L,hV,I⟩:=cP hE (g3.below bT) s.out bT.size;refine q7 rfl _ _ rfl rfl rfl rfl L ?_;replace f:=OwnI.keepB hE I f (by decide);replace bT:=bT.grown I bT.size (fun k hk=>a4o hE hk);clear hE L;refine hK.out _ _ (hS _ bT) (fun d=>?_);clear hK K;(try simp only[j9]);refine Eq.mp ?_ (X [.slice (some ⟨g4,0,none⟩) 0 0,v6,.pointer (some ⟨j,0,none⟩)] w6 ⟨.slice (some ⟨g4,0,none⟩) 0 0,v6,j,rfl,hV,f,g,bT⟩ d)
           kernel_rfl
         refine a3x rfl (fun K hK=>?_) a3y;have q8:=hE.lt rfl;obtain⟨hZ,hu23,g0,vM,l8⟩:=f8 g2 #[.int .i64 (i:Int)] 3;replace hE:=hE.below g0;replace f:=f.keep g0;replace bT:=a1j bT g0;have n:=l8;clear l8;have p:g2.heap.size≠g4:=(Nat.ne_of_lt q8).symm;go_simp;refine hK.out _ _ (hS _ bT) (fun d=>?_);clear hK K;(try simp only[j9]);refine Eq.mp ?_ (J [.slice (some ⟨g4,0,none⟩) 0 0,.slice (some ⟨g2.heap.size,0,none⟩) 1 1,.pointer (some ⟨j,0,none⟩)] hZ ⟨g4,g2.heap.size,j,rfl,hE,n,p,f,g,bT⟩ d)
         kernel_rfl
       refine H8 9 [8,18] [56,19] (fun us w'=>∃ (g8:Nat) (j:Nat),us=[.slice (some ⟨g8,0,none⟩) 1 1,.pointer (some ⟨j,0,none⟩)]∧(Blk w' g8 3 #[.int .i64 (i:Int)])∧(Blk w' j 34 #[.slice none 0 0,.slice none 0 0,.slice none 0 0,.slice none 0 0,.bool false,.slice none 0 0,.slice none 0 0])∧(y.heap.size≤j)∧Below y.heap.size y w') ?_ (fun d2=>?_)
       · clear bT;rintro us b8 ⟨g8,j,rfl,n,f,g,bT⟩ d
         simp only[C2,C1,j9]
         refine z8 4 rfl fun K hK=>?_;have bS:=bT.size;have q9:=n.lt;obtain⟨x1,bZ,d9,zH,x9⟩:=f8 b8 #[] 3;replace n:=n.keep d9;replace f:=f.keep d9;replace bT:=a1j bT d9;have hE:OwnI x1 y.heap.size (.slice (some ⟨b8.heap.size,0,none⟩) 0 0) []:=by rw[←bZ];exact OwnI.empty _ bS
         have p:g8≠b8.heap.size:=Nat.ne_of_lt q9;clear x9 bS;go_simp;refine hK.out _ _ (hS _ bT) (fun d=>?_);clear hK K;(try simp only[j9]);refine Eq.mp ?_ (J [.slice (some ⟨b8.heap.size,0,none⟩) 0 0,.slice (some ⟨g8,0,none⟩) 1 1,.pointer (some ⟨j,0,none⟩)] x1 ⟨b8.heap.size,g8,j,rfl,hE,n,p,f,g,bT⟩ d)
         kernel_rfl
       refine H8 10 [4] [52] (fun us w'=>∃ (g4:Nat),us=[.slice (some ⟨g4,0,none⟩) 0 0]∧(OwnI w' y.heap.size (.slice (some ⟨g4,0,none⟩) 0 0) [])∧Below y.heap.size y w') ?_ (fun h4=>?_)
       · clear bT;rintro us Z ⟨g4,rfl,hE,bT⟩ d
         simp only[C2,C1,j9]
         refine a4b (rs:=[6,8,18]) (by kernel_rfl) (by simp) ?_;refine a3x rfl (fun K hK=>?_) ?_
         · obtain⟨v6,w6,L,hV,I⟩:=cP hE (g3.below bT) s.out bT.size;refine q7 rfl _ _ rfl rfl rfl rfl L ?_;replace bT:=bT.grown I bT.size (fun k hk=>a4o hE hk);clear hE L;refine hK.out _ _ (hS _ bT) (fun d=>?_);clear hK K;(try simp only[j9]);refine Eq.mp ?_ (v5 [.slice (some ⟨g4,0,none⟩) 0 0,v6] w6 ⟨.slice (some ⟨g4,0,none⟩) 0 0,v6,rfl,hV,bT⟩ d)
           kernel_rfl
         refine a3x rfl (fun K hK=>?_) ?_
         · have q8:=hE.lt rfl;obtain⟨hN,hu27,n6,lu27,j1⟩:=f8 Z #[.int .i64 (i:Int)] 3;replace hE:=hE.below n6;replace bT:=a1j bT n6;have n:=j1;clear j1;have p:Z.heap.size≠g4:=(Nat.ne_of_lt q8).symm;go_simp;refine hK.out _ _ (hS _ bT) (fun d=>?_);clear hK K;(try simp only[j9]);refine Eq.mp ?_ (h7 [.slice (some ⟨g4,0,none⟩) 0 0,.slice (some ⟨Z.heap.size,0,none⟩) 1 1] hN ⟨g4,Z.heap.size,rfl,hE,n,p,bT⟩ d)
           kernel_rfl
         refine a3x rfl (fun K hK=>?_) a3y;have g:=bT.size;obtain⟨hB,lE,j5,lu28,j3⟩:=f8 Z #[.slice none 0 0,.slice none 0 0,.slice none 0 0,.slice none 0 0,.bool false,.slice none 0 0,.slice none 0 0] 34;replace hE:=hE.below j5;replace bT:=a1j bT j5;have f:=j3;clear j3;go_simp;refine hK.out _ _ (hS _ bT) (fun d=>?_);clear hK K;(try simp only[j9]);refine Eq.mp ?_ (f9 [.slice (some ⟨g4,0,none⟩) 0 0,.pointer (some ⟨Z.heap.size,0,none⟩)] hB ⟨g4,Z.heap.size,rfl,hE,f,g,bT⟩ d)
         kernel_rfl
       refine H8 10 [8] [56] (fun us w'=>∃ (g8:Nat),us=[.slice (some ⟨g8,0,none⟩) 1 1]∧(Blk w' g8 3 #[.int .i64 (i:Int)])∧Below y.heap.size y w') ?_ (fun h8=>?_)
       · clear bT;rintro us V ⟨g8,rfl,n,bT⟩ d
         simp only[C2,C1,j9]
         refine a4b (rs:=[4,18]) (by kernel_rfl) (by simp) ?_;refine a3x rfl (fun K hK=>?_) ?_
         · have bS:=bT.size;have q9:=n.lt;obtain⟨dR,cA,n1,lu30,y7⟩:=f8 V #[] 3;replace n:=n.keep n1;replace bT:=a1j bT n1;have hE:OwnI dR y.heap.size (.slice (some ⟨V.heap.size,0,none⟩) 0 0) []:=by rw[←cA];exact OwnI.empty _ bS
           have p:g8≠V.heap.size:=Nat.ne_of_lt q9;clear y7 bS;go_simp;refine hK.out _ _ (hS _ bT) (fun d=>?_);clear hK K;(try simp only[j9]);refine Eq.mp ?_ (h7 [.slice (some ⟨V.heap.size,0,none⟩) 0 0,.slice (some ⟨g8,0,none⟩) 1 1] dR ⟨V.heap.size,g8,rfl,hE,n,p,bT⟩ d)
           kernel_rfl
         refine a3x rfl (fun K hK=>?_) a3y;have g:=bT.size;obtain⟨hC,hu31,n0,vB,l4⟩:=f8 V #[.slice none 0 0,.slice none 0 0,.slice none 0 0,.slice none 0 0,.bool false,.slice none 0 0,.slice none 0 0] 34;replace n:=n.keep n0;replace bT:=a1j bT n0;have f:=l4;clear l4;go_simp;refine hK.out _ _ (hS _ bT) (fun d=>?_);clear hK K;(try simp only[j9]);refine Eq.mp ?_ (d2 [.slice (some ⟨g8,0,none⟩) 1 1,.pointer (some ⟨V.heap.size,0,none⟩)] hC ⟨g8,V.heap.size,rfl,n,f,g,bT⟩ d)
         kernel_rfl
       refine H8 10 [18] [19] (fun us w'=>∃ (j:Nat),us=[.pointer (some ⟨j,0,none⟩)]∧(Blk w' j 34 #[.slice none 0 0,.slice none 0 0,.slice none 0 0,.slice none 0 0,.bool false,.slice none 0 0,.slice none 0 0])∧(y.heap.size≤j)∧Below y.heap.size y w') ?_ (fun hD=>?_)
       · clear bT;rintro us b3 ⟨j,rfl,f,g,bT⟩ d
         simp only[C2,C1,j9]
         refine a4b (rs:=[4,8]) (by kernel_rfl) (by simp) ?_;refine a3x rfl (fun K hK=>?_) ?_
         · have bS:=bT.size;obtain⟨x3,fT,l7,lu33,v7⟩:=f8 b3 #[] 3;replace f:=f.keep l7;replace bT:=a1j bT l7;have hE:OwnI x3 y.heap.size (.slice (some ⟨b3.heap.size,0,none⟩) 0 0) []:=by rw[←fT];exact OwnI.empty _ bS
           clear v7 bS;go_simp;refine hK.out _ _ (hS _ bT) (fun d=>?_);clear hK K;(try simp only[j9]);refine Eq.mp ?_ (f9 [.slice (some ⟨b3.heap.size,0,none⟩) 0 0,.pointer (some ⟨j,0,none⟩)] x3 ⟨b3.heap.size,j,rfl,hE,f,g,bT⟩ d)
           kernel_rfl
         refine a3x rfl (fun K hK=>?_) a3y;obtain⟨hP,hu34,m9,lu34,n2⟩:=f8 b3 #[.int .i64 (i:Int)] 3;replace f:=f.keep m9;replace bT:=a1j bT m9;have n:=n2;clear n2;go_simp;refine hK.out _ _ (hS _ bT) (fun d=>?_);clear hK K;(try simp only[j9]);refine Eq.mp ?_ (d2 [.slice (some ⟨b3.heap.size,0,none⟩) 1 1,.pointer (some ⟨j,0,none⟩)] hP ⟨b3.heap.size,j,rfl,n,f,g,bT⟩ d)
         kernel_rfl
       refine a4b (rs:=[4,8,18]) (by kernel_rfl) (by simp) ?_;refine a3x rfl (fun K hK=>?_) ?_
       · have bS:=bT.size;obtain⟨dC,bP,bN,lu35,x7⟩:=f8 u1 #[] 3;replace bT:=a1j bT bN;have hE:OwnI dC y.heap.size (.slice (some ⟨u1.heap.size,0,none⟩) 0 0) []:=by rw[←bP];exact OwnI.empty _ bS
         clear x7 bS;go_simp;refine hK.out _ _ (hS _ bT) (fun d=>?_);clear hK K;(try simp only[j9]);refine Eq.mp ?_ (h4 [.slice (some ⟨u1.heap.size,0,none⟩) 0 0] dC ⟨u1.heap.size,rfl,hE,bT⟩ d)
         kernel_rfl
       refine a3x rfl (fun K hK=>?_) ?_
       · obtain⟨kN,hu36,fL,rA,m0⟩:=f8 u1 #[.int .i64 (i:Int)] 3;replace bT:=a1j bT fL;have n:=m0;clear m0;go_simp;refine hK.out _ _ (hS _ bT) (fun d=>?_);clear hK K;(try simp only[j9]);refine Eq.mp ?_ (h8 [.slice (some ⟨u1.heap.size,0,none⟩) 1 1] kN ⟨u1.heap.size,rfl,n,bT⟩ d)
         kernel_rfl
       refine a3x rfl (fun K hK=>?_) a3y;have g:=bT.size;obtain⟨hA,vC,dT,lu37,n7⟩:=f8 u1 #[.slice none 0 0,.slice none 0 0,.slice none 0 0,.slice none 0 0,.bool false,.slice none 0 0,.slice none 0 0] 34;replace bT:=a1j bT dT;have f:=n7;clear n7;go_simp;refine hK.out _ _ (hS _ bT) (fun d=>?_);clear hK K;(try simp only[j9]);refine Eq.mp ?_ (hD [.pointer (some ⟨u1.heap.size,0,none⟩)] hA ⟨u1.heap.size,rfl,f,g,bT⟩ d)
       kernel_rfl
     · have hmf:decide (0<mi)=false:=a1v hm0';have m8:decide ((i:Int)<(ns.length:Int)+2*(ms.length:Int))=true:=a1w (by omega);have F:=a1k (show BB=false by rw[←g1.out];exact iZ g9.out q6.out (.inl (by have:=n8.out;omega)));have v0:=a4f g6 M;obtain⟨z0,z1,z2,z3,z4,z5,z6,f0,f1,f2,f3,f4,f5,f6,s0,s1,s2,s3,s4,s5,s6⟩:=T3 v0;have bF:=a1j N M;go_wp2_with fail;refine a3z (v:=.tuple #[.agg #[.slice none 0 0,.slice none 0 0,.slice none 0 0,.slice none 0 0,.bool false,.slice none 0 0,.slice none 0 0],.bool false]) (by simp[results,Tryz.results18,go_sem,z0,z1,z2,z3,z4,z5,z6]) rfl ?_;exact⟨zeroP,by rw[F.out];rfl,by rw[F.out];exact NrP.ofF,bF⟩
   · have m8:decide ((i:Int)<(ns.length:Int)+2*(ms.length:Int))=false:=a1v (by omega);have F:=a1k (show BB=false by rw[←g1.out];exact iZ g9.out q6.out (.inr (by rw[G5];omega)));have v0:=a4f g6 M;obtain⟨z0,z1,z2,z3,z4,z5,z6,f0,f1,f2,f3,f4,f5,f6,s0,s1,s2,s3,s4,s5,s6⟩:=T3 v0;have bF:=a1j N M;go_wp2_with fail;refine a3z (v:=.tuple #[.agg #[.slice none 0 0,.slice none 0 0,.slice none 0 0,.slice none 0 0,.bool false,.slice none 0 0,.slice none 0 0],.bool false]) (by simp[results,Tryz.results18,go_sem,z0,z1,z2,z3,z4,z5,z6]) rfl ?_;exact⟨zeroP,by rw[F.out];rfl,by rw[F.out];exact NrP.ofF,bF⟩
theorem fJ:∀ m,qU m
 | 0=>dO fun m' h=>by omega
 | m+1=>dO fun m' h=>by
  obtain rfl:m=m':=by omega
  exact fJ m
end Go.Proofs.YtjhkapjadfpimaaGreat
