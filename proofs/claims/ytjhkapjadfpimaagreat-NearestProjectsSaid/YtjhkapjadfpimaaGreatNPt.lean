/- Contracts of functions, for the law. -/
import Derived.Test.YtjhkapjadfpimaaGreatNNeed
namespace Go.Proofs.YtjhkapjadfpimaaGreat
set_option linter.unusedVariables false
set_option linter.unusedSimpArgs false
open Go.RowKit Plain
attribute [local go_sem ↓] Go.wp_at_zero Go.wp_at_succ
set_option maxRecDepth 100000
set_option maxHeartbeats 40000000
def kD {α:Type}(f:α→Bool) (l:List α) (root:World) (i:Value) (wr:World):Prop:=∃ k:Nat,k≤l.length∧i=.int .i64 (k:Int)∧Hid ((l.take k).any f=false)∧Below root.heap.size root wr
theorem cV {α:Type}{f:α→Bool}{l:List α}{k:Nat}{x:α}(h:(l.take k).any f=false) (hk:l[k]?=some x) (hx:f x=false):(l.take (k+1)).any f=false:=by
 rw[a3e,hk,List.any_append,h];simp[hx]
theorem qZ {n:Nat}(h:n≤8):IntKind.i64.wrap (2 ^ n)=(2:Int) ^ n:=by
 have h9:n=0∨n=1∨n=2∨n=3∨n=4∨n=5∨n=6∨n=7∨n=8:=by omega
 rcases h9 with rfl | rfl | rfl | rfl | rfl | rfl | rfl | rfl | rfl <;> decide
theorem Below.drewN {B:Nat}{a w:World}(h:Below B a w) (n:Nat):Below B a (w.drewN n):=⟨h.os,h.tape,h.output,h.size,h.block⟩
theorem K2 {α:Type}{f:α→Bool}{l:List α}{k:Nat}{x:α}(hk:l[k]?=some x) (h:f x=true):l.any f=true:=List.any_eq_true.2 ⟨x,a1n hk,h⟩
theorem tL {A B C:Option Addr}{ca cb cc tl:Nat}{ns:List NdD}{ms:List Int}{w:World}(ht:tl≤ca∧ca≤9223372036854775807) (hn:NL w B cb ns) (hm:ZL w C cc ms) :
 Calls Tryz.prog 22 #[.slice A tl ca,.slice B ns.length cb,.slice C ms.length cc] w (mY (argsE tl ns ms) w):=by
 obtain⟨r,hr⟩:∃ r,Hid (argsE tl ns ms=r):=⟨_,rfl⟩;rw[hr.out];have ln:=hn.len;have lm:=hm.len;have bT:=a3t w.heap.size w
 by_cases h1:8<ms.length
 · have t1:decide ((8:Int)<(ms.length:Int))=true:=a1w (by omega);have hf:=a1k (show r=3 by rw[←hr.out];unfold argsE;rw[if_pos (.inl h1)]);go_enter Tryz.func22,Tryz.ntmps22;go_wp2;go_ret;exact⟨by rw[hf.out];rfl,bT⟩
 have t1:decide ((8:Int)<(ms.length:Int))=false:=a1v (by omega)
 by_cases h2:300<ns.length
 · have t2:decide ((300:Int)<(ns.length:Int))=true:=a1w (by omega);have hf:=a1k (show r=3 by rw[←hr.out];unfold argsE;rw[if_pos (.inr h2)]);go_enter Tryz.func22,Tryz.ntmps22;go_wp2;go_ret;exact⟨by rw[hf.out];rfl,bT⟩
 have t2:decide ((300:Int)<(ns.length:Int))=false:=a1v (by omega)
 by_cases h3:¬ tl=ms.length
 · have t3:((tl:Int) != (ms.length:Int))=true:=by rw[bne_iff_ne];omega
   have hf:=a1k (show r=2 by rw[←hr.out];unfold argsE;rw[if_neg (by omega),if_pos h3]);go_enter Tryz.func22,Tryz.ntmps22;go_wp2;go_ret;exact⟨by rw[hf.out];rfl,bT⟩
 have n:=a1k (a3s.1 h3);have t3:((tl:Int) != (ms.length:Int))=false:=by rw[bne_eq_false_iff_eq];have:=n.out;omega
 clear h3;have o:ms.length≤8:=by omega
 have f:=a1k (show r=if ms.any dG=true∨ns.any (bC ms.length)=true then 4 else 0 by rw[←hr.out];unfold argsE;rw[if_neg (by omega),if_neg (by have:=n.out;omega)]);go_enter Tryz.func22,Tryz.ntmps22;go_wp2
 go_loopw [26] (fun i wr=>kD dG ms w i wr) (fun i _=>ms.length-(intOf i).toNat)
 case atStart=>exact⟨0,by omega,rfl,rfl,bT⟩
 case round =>
  obtain⟨k,hk,rfl,b,hb⟩:=hrel
  by_cases hkl:k<ms.length
  · have v:(k:Int)<(ms.length:Int):=by omega
    obtain⟨a,z,rfl,q,s,j⟩:=(hm.below hb).at hkl
    by_cases c1:z<0
    · have d1:decide (z<0)=true:=a1w c1;have hf:=a1k (show r=4 by rw[f.out,if_pos (.inl (K2 j.out (by unfold dG;rw[d1];rfl)))]);clear c1;go_wp2;go_ret;exact⟨by rw[hf.out];rfl,hb⟩
    have d1:decide (z<0)=false:=a1v c1
    by_cases c2:1000000<z
    · have d2:decide (1000000<z)=true:=a1w c2;have hf:=a1k (show r=4 by rw[f.out,if_pos (.inl (K2 j.out (by unfold dG;rw[d1,d2];rfl)))]);clear c1 c2;go_wp2;go_ret;exact⟨by rw[hf.out];rfl,hb⟩
    have d2:decide (1000000<z)=false:=a1v c2;have c:=a1k (cV b.out j.out (by unfold dG;rw[d1,d2];rfl));clear c1 c2;go_wp2;go_roundw
    case rel=>exact⟨k+1,by omega,by go_num,c,hb⟩
    case measure=>simp[intOf];omega
  · obtain rfl:k=ms.length:=by omega
    have x:decide ((ms.length:Int)<(ms.length:Int))=false:=a1v (by omega);have m:=a1k (show ms.any dG=false by have:=b.out;rwa [a2z] at this);obtain⟨wo,t⟩:∃ wo:World,wo=wr:=⟨_,rfl⟩;subst t;have E:((1:Int)*2 ^ min ms.length 64)=2 ^ ms.length:=by rw[Nat.min_eq_left (by omega),Int.one_mul]
    go_wp2
    go_loopw [39] (fun i wr=>kD (bC ms.length) ns w i wr) (fun i _=>ns.length-(intOf i).toNat)
    case atStart=>exact⟨0,by omega,rfl,rfl,hb⟩
    case round =>
     obtain⟨k,hk,rfl,b,hb⟩:=hrel
     by_cases hkl:k<ns.length
     · have v:(k:Int)<(ns.length:Int):=by omega
       obtain⟨a,d,ea,q,s,D,h⟩:=(hn.below hb).at hkl;rw[ea];obtain⟨wA,wB,eA,p0,p1,r0,r1,eB,hV,bV,lV⟩:=fO wr d;obtain⟨x0,x1⟩:=hV.cells;have g:=a1j hb bV;obtain⟨P,hP⟩:∃ P:Int,P=(2:Int) ^ ms.length:=⟨_,rfl⟩
       by_cases c1:d.p<0
       · have d1:decide (d.p<0)=true:=a1w c1;have hf:=a1k (show r=4 by rw[f.out,if_pos (.inr (K2 h.out (by unfold bC;rw[d1];rfl)))]);clear c1;go_wp2_with fail
         go_quiet (fail)
         go_wp2;go_ret;exact⟨by rw[hf.out];rfl,Below.drewN g _⟩
       have d1:decide (d.p<0)=false:=a1v c1
       by_cases c2:(2:Int) ^ ms.length≤d.p
       · have d2:decide (IntKind.i64.wrap (2 ^ ms.length)≤d.p)=true:=by rw[qZ o];exact a1w c2
         have hf:=a1k (show r=4 by rw[f.out,if_pos (.inr (K2 h.out (by unfold bC;rw[d1,a1w c2];rfl)))]);clear c1 c2;go_wp2_with fail
         go_quiet (fail)
         go_wp2;go_ret;exact⟨by rw[hf.out];rfl,Below.drewN g _⟩
       have d2:decide (IntKind.i64.wrap (2 ^ ms.length)≤d.p)=false:=by rw[qZ o];exact a1v c2
       by_cases c3:d.l < -1099511627776
       · have d3:decide (d.l < -1099511627776)=true:=a1w c3;have hf:=a1k (show r=4 by rw[f.out,if_pos (.inr (K2 h.out (by unfold bC;rw[d1,a1v c2,d3];rfl)))]);clear c1 c2 c3;go_wp2_with fail
         go_quiet (fail)
         go_wp2;go_ret;exact⟨by rw[hf.out];rfl,Below.drewN g _⟩
       have d3:decide (d.l < -1099511627776)=false:=a1v c3
       by_cases c4:1099511627776<d.l
       · have d4:decide (1099511627776<d.l)=true:=a1w c4;have hf:=a1k (show r=4 by rw[f.out,if_pos (.inr (K2 h.out (by unfold bC;rw[d1,a1v c2,d3,d4];rfl)))]);clear c1 c2 c3 c4;go_wp2_with fail
         go_quiet (fail)
         go_wp2;go_ret;exact⟨by rw[hf.out];rfl,Below.drewN g _⟩
       have d4:decide (1099511627776<d.l)=false:=a1v c4;have c:=a1k (cV b.out h.out (by unfold bC;rw[d1,a1v c2,d3,d4];rfl));clear c1 c2 c3 c4;go_wp2_with fail
       go_quiet (fail)
       go_wp2;go_roundw
       case rel=>exact⟨k+1,by omega,by go_num,c,Below.drewN g _⟩
       case measure=>simp[intOf];omega
     · obtain rfl:k=ns.length:=by omega
       have y:decide ((ns.length:Int)<(ns.length:Int))=false:=a1v (by omega);have hf:=a1k (show r=0 by rw[f.out,if_neg];rw[m.out];have:=b.out;rw[a2z] at this;rw[this];simp);go_wp2;go_ret;exact⟨by rw[hf.out];rfl,hb⟩
def D4 (q:Rat) (t:Bool):Bool:=decide (q=0) || (t&&decide (0<q))
theorem P8 {v:Value}{q:Rat}{t:Bool}{w:World}(hv:FV w v q) :
 Calls Tryz.prog 30 #[v,.bool t] w (gJ (D4 q t) w):=by
 obtain⟨d,rfl,hd,hq⟩:=hv.frd;obtain⟨w0,k,b0,l0,B0⟩:=f8 w #[.bool d.neg,.slice d.a d.la.length d.ca,.slice d.b d.lb.length d.cb] 28;obtain⟨x0,x1,x2⟩:=VarQ.cells B0;obtain⟨s,hs⟩:∃ s,Hid (D0 q 0=s):=⟨_,rfl⟩;obtain⟨r,hr⟩:∃ r,Hid (D4 q t=r):=⟨_,rfl⟩;rw[hr.out];have hc:=F4 (hd.below b0);rw[hq.out,hs.out] at hc;have j:=yB q 0;rw[hs.out] at j;go_enter Tryz.func30,Tryz.ntmps30;go_wp2_with fail;refine hc.mono ?_;rintro e w1 ⟨rfl,b1⟩;have f:=a1j b0 b1
 by_cases h0:s=0
 · have hz:(s == 0)=true:=by rw[beq_iff_eq];exact h0
   have c:=a1k (show r=true by rw[←hr.out];unfold D4;rw[a1w (cmpR_zero.1 (by rw[hs.out];exact h0))];rfl);clear hc h0;go_wp2;go_ret;exact⟨by rw[c.out];rfl,f⟩
 · have hz:(s == 0)=false:=by rw[beq_eq_false_iff_ne];exact h0
   have hn:=a1k (show ¬ q=0 from fun e=>h0 (by rw[←hs.out];exact cmpR_zero.2 e))
   cases t with
   | false =>
    have c:=a1k (show r=false by rw[←hr.out];unfold D4;rw[a1v hn.out];rfl);clear hc h0;go_wp2;go_ret;exact⟨by rw[c.out];rfl,f⟩
   | true =>
    obtain⟨y0,y1,y2⟩:=VarQ.cells (VarQ.below B0 b1);have g:=F4 ((hd.below b0).below b1);rw[hq.out,hs.out] at g
    have c:=a1k (show decide ((0:Int)<s)=r by
     rw[←hr.out];unfold D4;rw[a1v hn.out,Bool.false_or,Bool.true_and,←hs.out];exact decide_eq_decide.2 cmpR_pos)
    clear hc;go_wp2_with fail;refine g.mono ?_;rintro e w2 ⟨rfl,b2⟩;clear g
    by_cases h9:(0:Int)<s
    · have h:decide ((0:Int)<s)=true:=a1w h9;go_wp2;go_ret;exact⟨by rw[←c.out,h];rfl,(a1j f b2)⟩
    · have h:decide ((0:Int)<s)=false:=a1v h9;go_wp2;go_ret;exact⟨by rw[←c.out,h];rfl,(a1j f b2)⟩
theorem qS {A:Option Addr}{c i:Nat}{ds:List FrD}{w:World}(h:FL w A c ds) (hi:i<1000000000000) :
 Calls Tryz.prog 33 #[.slice A ds.length c,.int .i64 (i:Int)] w (V6 ((ds.map FrD.q).getD i 0) w):=by
 obtain⟨w0,s,b0,l0,B0⟩:=f8 w #[.bool false,.slice none 0 0,.slice none 0 0] 28;have hl:=h.len;obtain⟨q,hq⟩:∃ q,Hid ((ds.map FrD.q).getD i 0=q):=⟨_,rfl⟩;rw[hq.out];go_enter Tryz.func33,Tryz.ntmps33
 by_cases hil:i<ds.length
 · have m:(i:Int)<(ds.length:Int):=by omega
   obtain⟨a,d,rfl,n,o,r,p,hd,l⟩:=(h.below b0).at hil;have f:=a1k (show d.q=q by rw[←hq.out,a1l,a1r,l.out];rfl);obtain⟨w9,p0,p1,p2,r0,r1,r2,e9,h9,o9⟩:=p9 B0 d;obtain⟨x0,x1,x2⟩:=VarQ.cells h9;go_wp2;refine a3z (v:=B8 d.neg d.a d.la.length d.ca d.b d.lb.length d.cb) (by simp[results,Tryz.results33,go_sem,x0,x1,x2]) rfl ?_;exact⟨_,rfl,by rw[←f.out];exact hd.only_blk B0 (k7 _ _ _ _ _ _ _) o9,o9.to_below b0 (a1u _) b0.size⟩
 · have m:decide ((i:Int)<(ds.length:Int))=false:=a1v (by omega);go_wp2_with fail;refine (r7 0 _ (by decide) (by decide)).mono ?_;rintro e w1 ⟨v1,rfl,g,b1⟩;obtain⟨d,rfl,hd,f⟩:=g.frd;have B1:=a4f B0 b1;obtain⟨w9,p0,p1,p2,r0,r1,r2,e9,h9,o9⟩:=p9 B1 d;obtain⟨x0,x1,x2⟩:=VarQ.cells h9;have j:=a1j b0 b1;have k:=a1k (show d.q=q by rw[f.out,←hq.out,a1l,a2j (by rw[a1s];omega)];rfl);clear g;go_wp2;refine a3z (v:=B8 d.neg d.a d.la.length d.ca d.b d.lb.length d.cb) (by simp[results,Tryz.results33,go_sem,x0,x1,x2]) rfl ?_;exact⟨_,rfl,by rw[←k.out];exact hd.only_blk B1 (k7 _ _ _ _ _ _ _) o9,o9.to_below j (a1u _) j.size⟩
def M8 (p i:Nat):Bool:=p / 2 ^ i % 2 == 1
theorem mL {p i:Nat}(hp:p<256) (hi:i<8):(bits BinOp.and IntKind.i64 ((p:Int) / 2 ^ i) 1 == 1)=M8 p i:=by
 have b:∀ q:Fin 256,∀ j:Fin 8,(bits BinOp.and IntKind.i64 ((q.val:Int) / 2 ^ j.val) 1 == 1)=M8 q.val j.val:=by decide +kernel
 exact b ⟨p,hp⟩ ⟨i,hi⟩
def K7 (p:Nat) (qs:List Rat):List Rat:=(List.range qs.length).map fun i=>if M8 p i=true then qs.getD i 0 else 0
theorem X6 (p:Nat) (qs:List Rat):(K7 p qs).length=qs.length:=by simp[K7]
theorem iD {p:Nat}{qs:List Rat}{k:Nat}{q:Rat}(h:qs[k]?=some q):(K7 p qs)[k]?=some (if M8 p k=true then q else 0):=by
 have hk:=(a2e.1 h).1;unfold K7;rw[a1r,a2t hk]
 show some (if M8 p k=true then qs.getD k 0 else 0)=_
 rw[a1l,h];rfl
theorem lG {K:Nat}{p:Nat}{qs:List Rat}(hK:0<K) (h:QFits K qs):QFits K (K7 p qs):=fun q hq=>by
 obtain⟨i,hi,rfl⟩:=a2v.1 hq
 split
 · exact h.get (a2u.1 hi)
 · exact Fits.zero hK
def SumAt (ps:List Rat) (g:Nat) (root:World) (k:Nat) (wr:World):Prop:=∃ d:FrD,VarQ wr g d∧FV wr d.v d.q∧d.q=o5 (ps.take k)∧Below root.heap.size root wr
theorem SumAt.below {ps:List Rat}{g:Nat}{root:World}{k:Nat}{w w':World}(h:SumAt ps g root k w) (hb:Below w.heap.size w w'):SumAt ps g root k w':=by
 obtain⟨d,h1,h2,h3,h4⟩:=h;exact⟨d,h1.below hb,h2.below hb,h3,(a1j h4 hb)⟩
theorem SumAt.bel {ps:List Rat}{g:Nat}{root:World}{k:Nat}{w:World}(h:SumAt ps g root k w):Below root.heap.size root w:=by obtain⟨d,h1,h2,h3,h4⟩:=h;exact h4
theorem SumAt.skip {ps:List Rat}{g:Nat}{root:World}{k:Nat}{w:World}(h:SumAt ps g root k w) (hk:ps[k]?=some 0):SumAt ps g root (k+1) w:=by
 obtain⟨d,h1,h2,h3,h4⟩:=h;exact⟨d,h1,h2,by rw[J4 hk,h3,Rat.add_zero],h4⟩
theorem H1 {K n:Nat}{ps:List Rat}(h:QFits K ps) (hn:ps.length≤n) (k:Nat):Fits (1+n*(K+1)) (o5 (ps.take k)):=by
 refine (fX (k:=K) (fun q hq=>h q (a2k hq))).mono ?_;have h1:(ps.take k).length≤n:=by rw[a2c];omega
 have:=a1y (K+1) h1;omega
theorem paid_any {K p:Nat}{l:Int}{A:Option Addr}{c:Nat}{ds:List FrD}{w:World}(h:FL w A c ds) (hf:QFits K (ds.map FrD.q)) (hK0:0<K) (hK:1+8*(K+1)+K<400000000) (hp:p<256) (hl:ds.length≤8) :
 Calls Tryz.prog 31 #[.agg #[.int .i64 (p:Int),.int .i64 l],.slice A ds.length c] w (V6 (o5 (K7 p (ds.map FrD.q))) w):=by
 have d8:=h.len;obtain⟨ps,D⟩:∃ ps,Hid (K7 p (ds.map FrD.q)=ps):=⟨_,rfl⟩;have X:=a1k (show ps.length=ds.length by rw[←D.out,X6,a1s]);have d5:=a1k (show QFits K ps by rw[←D.out];exact lG hK0 hf);rw[D.out];obtain⟨w0,f6,b0,l0,B0⟩:=f8 w #[.int .i64 (p:Int),.int .i64 l] 45;obtain⟨w1,f9,b1,l1,B1⟩:=f8 w0 #[.bool false,.slice none 0 0,.slice none 0 0] 28;have c5:=a1j b0 b1;have d1:VarN w1 w.heap.size ⟨p,l⟩:=a4f B0 b1;have c3:=a1k hf;clear hf;go_enter Tryz.func31,Tryz.ntmps31;go_wp2_with fail;refine (r7 0 _ (by decide) (by decide)).mono ?_;rintro e w2 ⟨v1,rfl,b7,b2⟩;obtain⟨z,rfl,hz,d6⟩:=b7.frd;clear b7;obtain⟨wA,w3,eA,p0,p1,p2,r0,r1,r2,eB,U,b3,l3⟩:=D5 w2 z;have M:=a1j c5 b2;have T:=a1j M b3;have O:=(d1.below b2).below b3;have B3:=(a4f B1 b2).keep b3;have m:SumAt ps w2.heap.size w 0 w3:=⟨z,U,hz.below b3,by rw[d6.out];simp[T6],T⟩;have c0:=h.below T;have d4:=a1k (show w.heap.size≤w2.heap.size from M.size);have Z:w.heap.size≠w2.heap.size:=by have:=b2.size;have:=b1.size;omega
 have L:w0.heap.size≠w2.heap.size:=by have:=b2.size;omega
 have b9:=a1k Z;have b8:=a1k L;have N:=a1k (show w.heap.size≤w0.heap.size from b0.size);go_wp2;clear p0 p1 p2 r0 r1 r2 eA eB Z L
 go_loopw [11] (fun i wr=>∃ k:Nat,k≤ds.length∧i=.int .i64 (k:Int)∧SumAt ps w2.heap.size w k wr∧VarN wr w.heap.size ⟨p,l⟩∧Blk wr w0.heap.size 28 #[.bool false,.slice none 0 0,.slice none 0 0]) (fun i _=>ds.length-(intOf i).toNat)
 case atStart=>exact⟨0,by omega,rfl,m,O,B3⟩
 case round =>
  clear m O B3 U c0;obtain⟨k,hk,rfl,m,hV,hB⟩:=hrel;have g:=m.bel;obtain⟨s,hS,hs,C,-⟩:=m
  by_cases hkl:k<ds.length
  · have g0:(k:Int)<(ds.length:Int):=by omega
    have c9:k<8:=by omega
    obtain⟨a,d,ea,g1,f5,f4,g2,hd,b6⟩:=(h.below g).at hkl;rw[ea];obtain⟨wA,w4,eA,p0,p1,p2,r0,r1,r2,eB,hD,b4,l4⟩:=D5 wr d;have y:=a1j g b4;have x:=hS.below b4;have F:=hs.below b4;have R:=hd.below b4;have B:=hV.below b4;have G:=a4f hB b4;obtain⟨x0,x1,x2⟩:=x.cells;obtain⟨y0,y1,y2⟩:=hD.cells;obtain⟨n0,n1⟩:=B.cells;have H:=a1k (iD (p:=p) (show (ds.map FrD.q)[k]?=some d.q by rw[a1r,b6.out];rfl));rw[D.out] at H;obtain⟨b,hb⟩:∃ b,Hid (M8 p k=b):=⟨_,rfl⟩;have d9:(bits BinOp.and IntKind.i64 ((p:Int) / 2 ^ k) 1 == 1)=b:=by rw[mL hp c9];exact hb.out
    have f:=a1k C;clear C hS hs hd hV hB ea
    cases b with
    | false =>
     have r:=a1k (show ps[k]?=some 0 by rw[H.out,hb.out];rfl);go_wp2;go_roundw
     case rel=>exact⟨k+1,by omega,by go_num,SumAt.skip ⟨s,x,F,f.out,y⟩ r.out,B,G⟩
     case measure=>simp[intOf];omega
    | true =>
     have r:=a1k (show ps[k]?=some d.q by rw[H.out,hb.out];rfl);have c7:=a1k (H1 (n:=8) d5.out (by rw[X.out];exact hl) k);have c2:=a1k (c3.out.fr d (a1n b6.out));have E:=J0 F R (j:=1+8*(K+1)) (k:=K) (by rw[f.out];exact c7.out) c2.out hK;go_wp2_with fail;refine E.mono ?_;rintro e w5 ⟨v5,rfl,V,b5⟩;clear E;obtain⟨t,rfl,ht,c8⟩:=V.frd;clear V;obtain⟨w6,q0,q1,q2,f0,f1,f2,e6,d0,o6⟩:=(x.below b5).store t;have o:=a1j y b5;have I:=o6.to_below o d4.out o.size;have d7:=ht.onlyV (x.below b5) o6;have d3:=(B.below b5).only o6 b9.out;have d2:=Blk.only (a4f G b5) o6 b8.out;have Y:=a1k (show t.q=o5 (ps.take (k+1)) by rw[c8.out,f.out,J4 r.out]);clear ht o6 x F R B G;go_wp2;go_roundw
     case rel=>exact⟨k+1,by omega,by go_num,⟨t,d0,d7,Y.out,I⟩,d3,d2⟩
     case measure=>simp[intOf];omega
  · obtain rfl:k=ds.length:=by omega
    have f3:decide ((ds.length:Int)<(ds.length:Int))=false:=a1v (by omega);obtain⟨x0,x1,x2⟩:=hS.cells;obtain⟨w9,p0,p1,p2,r0,r1,r2,e9,h9,o9⟩:=p9 hB s;obtain⟨y0,y1,y2⟩:=h9.cells;have f:=a1k (show s.q=o5 ps by rw[C,a1q (by rw[X.out];exact a1u _)]);have c4:=hs.only_blk hB (k7 _ _ _ _ _ _ _) o9;have J:=o9.to_below g N.out g.size;clear C hs hV;go_wp2;refine a3z (v:=B8 s.neg s.a s.la.length s.ca s.b s.lb.length s.cb) (by simp[results,Tryz.results31,go_sem,y0,y1,y2]) rfl ?_;exact⟨_,rfl,by rw[←f.out];exact c4,J⟩
def dsq (a b:List Rat):List Rat:=(List.range (max a.length b.length)).map fun i=>(a.getD i 0-b.getD i 0)*(a.getD i 0-b.getD i 0)
theorem dsq_len (a b:List Rat):(dsq a b).length=max a.length b.length:=by simp[dsq]
theorem xW {a b:List Rat}{k:Nat}(hk:k<max a.length b.length):(dsq a b)[k]?=some ((a.getD k 0-b.getD k 0)*(a.getD k 0-b.getD k 0)):=by
 unfold dsq;rw[a1r,a2t hk];rfl
theorem QFits.getD {K:Nat}{l:List Rat}(hK:0<K) (h:QFits K l) (k:Nat):Fits K (l.getD k 0):=by
 rcases a3h k l.length with hk | hk
 · exact h.get hk
 · rw[a1l,a2j hk];exact Fits.zero hK
theorem dsq_fits {K:Nat}{a b:List Rat}(hK:0<K) (ha:QFits K a) (hb:QFits K b):QFits ((K+K+1)+(K+K+1)) (dsq a b):=fun q hq=>by
 obtain⟨i,hi,rfl⟩:=a2v.1 hq;have h:=(ha.getD hK i).sub (hb.getD hK i);exact h.mul h
theorem mG {K:Nat}{A B:Option Addr}{ca cb:Nat}{ds es:List FrD}{w:World}(h:FL w A ca ds) (he:FL w B cb es) (hf:QFits K (ds.map FrD.q)) (hfe:QFits K (es.map FrD.q)) (hK0:0<K) (hK:K≤6000000) (hl:ds.length≤12) (hle:es.length≤12) :
 Calls Tryz.prog 16 #[.slice A ds.length ca,.slice B es.length cb] w (V6 (o5 (dsq (ds.map FrD.q) (es.map FrD.q))) w):=by
 have h0:=h.len;have g8:=he.len;obtain⟨ps,c2⟩:∃ ps,Hid (dsq (ds.map FrD.q) (es.map FrD.q)=ps):=⟨_,rfl⟩;obtain⟨m,hm⟩:∃ m,Hid (max ds.length es.length=m):=⟨_,rfl⟩;have d1:=a1k (show ps.length=m by rw[←c2.out,dsq_len,a1s,a1s,hm.out]);have d2:m≤12:=by rw[←hm.out];omega
 have g6:=a1k (show QFits (4*K+2) ps by rw[←c2.out];have:=dsq_fits hK0 hf hfe;rwa [show (K+K+1)+(K+K+1)=4*K+2 by omega] at this);rw[c2.out];obtain⟨w1,h1,b1,l1,B1⟩:=f8 w #[.bool false,.slice none 0 0,.slice none 0 0] 28;have d0:=a1k hf;have F:=a1k hfe;clear hf hfe
 rcases a3h ds.length es.length with hcs | hcs
 · have g1:=a1k (show m=es.length by rw[←hm.out];omega);have hO:ds.length≤es.length:=by omega
   go_enter Tryz.func16,Tryz.ntmps16;go_wp2_with fail;refine (r7 0 _ (by decide) (by decide)).mono ?_;rintro e w2 ⟨v1,rfl,c3,b2⟩;obtain⟨z,rfl,hz,g4⟩:=c3.frd;clear c3;obtain⟨wA,w3,eA,p0,p1,p2,r0,r1,r2,eB,R,b3,l3⟩:=D5 w2 z;have G:=a1j b1 b2;have f3:=a1j G b3;have B3:=(a4f B1 b2).keep b3;have f:SumAt ps w2.heap.size w 0 w3:=⟨z,R,hz.below b3,by rw[g4.out];simp[T6],f3⟩;have g3:=a1k (show w.heap.size≤w2.heap.size from G.size);have c4:=a1k (show w.heap.size≠w2.heap.size by have:=b2.size;omega);go_wp2;clear p0 p1 p2 r0 r1 r2 eA eB
   go_loopw [15] (fun i wr=>∃ k:Nat,k≤es.length∧i=.int .i64 (k:Int)∧SumAt ps w2.heap.size w k wr∧Blk wr w.heap.size 28 #[.bool false,.slice none 0 0,.slice none 0 0]) (fun i _=>es.length-(intOf i).toNat)
   case atStart=>exact⟨0,by omega,rfl,f,B3⟩
   case round =>
    clear f B3 R;obtain⟨k,hk,rfl,f,hB⟩:=hrel;have c:=f.bel;obtain⟨s,hS,hs,V,-⟩:=f;have g:=a1k V;clear V
    by_cases hkl:k<es.length
    · have g9:(k:Int)<(es.length:Int):=by omega
      have b0:k<1000000000000:=by omega
      go_wp2_with fail;refine (qS (h.below c) b0).mono ?_;rintro e w4 ⟨v4,rfl,c0,b4⟩;have j:=a1j c b4;go_wp2_with fail;refine (qS (he.below j) b0).mono ?_;rintro e w5 ⟨v5,rfl,T,b5⟩;have E:=a1j j b5;have hq:=a1k (show ps[k]?=some (((ds.map FrD.q).getD k 0-(es.map FrD.q).getD k 0)*((ds.map FrD.q).getD k 0-(es.map FrD.q).getD k 0)) by rw[←c2.out];exact xW (by rw[a1s,a1s];omega));have l:=D1 (c0.below b5) T (d0.out.getD hK0 k) (F.out.getD hK0 k) (by omega);have H:=a1k ((d0.out.getD hK0 k).sub (F.out.getD hK0 k));obtain⟨x,hx⟩:∃ x,Hid ((ds.map FrD.q).getD k 0-(es.map FrD.q).getD k 0=x):=⟨_,rfl⟩;rw[hx.out] at hq l H;go_wp2_with fail;refine l.mono ?_;rintro e w6 ⟨v6,rfl,c5,b6⟩;clear l c0 T;obtain⟨d,rfl,hd,c8⟩:=c5.frd;clear c5;obtain⟨wA,w7,eA,p0,p1,p2,r0,r1,r2,eB,hD,b7,l7⟩:=D5 w6 d;have y:=a1j E b6;have D:=a1j y b7;have L:=(((hS.below b4).below b5).below b6).below b7;have O:=(((hs.below b4).below b5).below b6).below b7;have g0:=(((a4f hB b4).keep b5).keep b6).keep b7;have U:=hd.below b7;obtain⟨x0,x1,x2⟩:=L.cells;obtain⟨y0,y1,y2⟩:=hD.cells;have f4:=a1k (H1 (n:=12) g6.out (by rw[d1.out];exact d2) k)
      have o:Fits (K+K+1) d.q:=by rw[c8.out];exact H.out
      have p:=a1k o;have d5:=a1k (show Fits (4*K+2) (d.q*d.q) by have:=o.mul o;rwa [show (K+K+1)+(K+K+1)=4*K+2 by omega] at this);have Z:FV w7.drew s.v s.q:=O.below (a3t _ _).drew;have r:FV w7.drew d.v d.q:=U.below (a3t _ _).drew;have d8:Below w.heap.size w w7.drew:=D.drew;have M:VarQ w7.drew w2.heap.size s:=L;have J:VarQ w7.drew w6.heap.size d:=hD;have c9:Blk w7.drew w.heap.size 28 #[.bool false,.slice none 0 0,.slice none 0 0]:=g0;clear hS hs hB hd O U o;go_wp2_with fail
      go_region_with (first
       | (go_at_call 34;refine (O7 r r p.out p.out (by omega)).mono ?_;rintro e w8 ⟨v8,rfl,g2,b8⟩;have d3:=Z.below b8;have I:=M.below b8;have d9:=a4f c9 b8;have f9:=a1j d8 b8;obtain⟨s0,s1,s2⟩:=I.cells;obtain⟨t0,t1,t2⟩:=(J.below b8).cells)
       | (go_at_call 27;refine (J0 d3 g2 (by rw[g.out];exact f4.out) d5.out (by omega)).mono ?_;rintro e w9 ⟨v9,rfl,Y,b9⟩;obtain⟨t,rfl,ht,f5⟩:=Y.frd;clear Y;have c7:=I.below b9;have f6:=a4f d9 b9;have N:=a1j f9 b9;obtain⟨wz,q0,q1,q2,f0,f1,f2,ez,g5,oz⟩:=c7.store t;have d6:=ht.onlyV c7 oz;have d4:=Blk.only f6 oz c4.out;have bz:=oz.to_below N g3.out N.size;clear ht oz))
      all_goals go_wp2
      all_goals
       go_roundw
       case rel =>
        refine⟨k+1,by omega,by go_num,⟨t,g5,d6,?_,bz⟩,d4⟩;rw[f5.out,g.out,J4 (q:=d.q*d.q) (by rw[c8.out];exact hq.out)]
       case measure=>simp[intOf];omega
    · obtain rfl:k=es.length:=by omega
      have g7:decide ((es.length:Int)<(es.length:Int))=false:=a1v (by omega);obtain⟨x0,x1,x2⟩:=hS.cells;obtain⟨w9,p0,p1,p2,r0,r1,r2,e9,h9,o9⟩:=p9 hB s;obtain⟨y0,y1,y2⟩:=h9.cells;have X:=a1k (show s.q=o5 ps by rw[g.out,a1q (by rw[d1.out,g1.out];exact a1u _)]);have d7:=hs.only_blk hB (k7 _ _ _ _ _ _ _) o9;have C:=o9.to_below c (a1u _) c.size;clear hs;go_wp2;refine a3z (v:=B8 s.neg s.a s.la.length s.ca s.b s.lb.length s.cb) (by simp[results,Tryz.results16,go_sem,y0,y1,y2]) rfl ?_;exact⟨_,rfl,by rw[←X.out];exact d7,C⟩
 · have g1:=a1k (show m=ds.length by rw[←hm.out];omega);have hO:es.length≤ds.length:=by omega
   go_enter Tryz.func16,Tryz.ntmps16;go_wp2_with fail;refine (r7 0 _ (by decide) (by decide)).mono ?_;rintro e w2 ⟨v1,rfl,c3,b2⟩;obtain⟨z,rfl,hz,g4⟩:=c3.frd;clear c3;obtain⟨wA,w3,eA,p0,p1,p2,r0,r1,r2,eB,R,b3,l3⟩:=D5 w2 z;have G:=a1j b1 b2;have f3:=a1j G b3;have B3:=(a4f B1 b2).keep b3;have f:SumAt ps w2.heap.size w 0 w3:=⟨z,R,hz.below b3,by rw[g4.out];simp[T6],f3⟩;have g3:=a1k (show w.heap.size≤w2.heap.size from G.size);have c4:=a1k (show w.heap.size≠w2.heap.size by have:=b2.size;omega);go_wp2;clear p0 p1 p2 r0 r1 r2 eA eB
   go_loopw [15] (fun i wr=>∃ k:Nat,k≤ds.length∧i=.int .i64 (k:Int)∧SumAt ps w2.heap.size w k wr∧Blk wr w.heap.size 28 #[.bool false,.slice none 0 0,.slice none 0 0]) (fun i _=>ds.length-(intOf i).toNat)
   case atStart=>exact⟨0,by omega,rfl,f,B3⟩
   case round =>
    clear f B3 R;obtain⟨k,hk,rfl,f,hB⟩:=hrel;have c:=f.bel;obtain⟨s,hS,hs,V,-⟩:=f;have g:=a1k V;clear V
    by_cases hkl:k<ds.length
    · have g9:(k:Int)<(ds.length:Int):=by omega
      have b0:k<1000000000000:=by omega
      go_wp2_with fail;refine (qS (h.below c) b0).mono ?_;rintro e w4 ⟨v4,rfl,c0,b4⟩;have j:=a1j c b4;go_wp2_with fail;refine (qS (he.below j) b0).mono ?_;rintro e w5 ⟨v5,rfl,T,b5⟩;have E:=a1j j b5;have hq:=a1k (show ps[k]?=some (((ds.map FrD.q).getD k 0-(es.map FrD.q).getD k 0)*((ds.map FrD.q).getD k 0-(es.map FrD.q).getD k 0)) by rw[←c2.out];exact xW (by rw[a1s,a1s];omega));have l:=D1 (c0.below b5) T (d0.out.getD hK0 k) (F.out.getD hK0 k) (by omega);have H:=a1k ((d0.out.getD hK0 k).sub (F.out.getD hK0 k));obtain⟨x,hx⟩:∃ x,Hid ((ds.map FrD.q).getD k 0-(es.map FrD.q).getD k 0=x):=⟨_,rfl⟩;rw[hx.out] at hq l H;go_wp2_with fail;refine l.mono ?_;rintro e w6 ⟨v6,rfl,c5,b6⟩;clear l c0 T;obtain⟨d,rfl,hd,c8⟩:=c5.frd;clear c5;obtain⟨wA,w7,eA,p0,p1,p2,r0,r1,r2,eB,hD,b7,l7⟩:=D5 w6 d;have y:=a1j E b6;have D:=a1j y b7;have L:=(((hS.below b4).below b5).below b6).below b7;have O:=(((hs.below b4).below b5).below b6).below b7;have g0:=(((a4f hB b4).keep b5).keep b6).keep b7;have U:=hd.below b7;obtain⟨x0,x1,x2⟩:=L.cells;obtain⟨y0,y1,y2⟩:=hD.cells;have f4:=a1k (H1 (n:=12) g6.out (by rw[d1.out];exact d2) k)
      have o:Fits (K+K+1) d.q:=by rw[c8.out];exact H.out
      have p:=a1k o;have d5:=a1k (show Fits (4*K+2) (d.q*d.q) by have:=o.mul o;rwa [show (K+K+1)+(K+K+1)=4*K+2 by omega] at this);have Z:FV w7.drew s.v s.q:=O.below (a3t _ _).drew;have r:FV w7.drew d.v d.q:=U.below (a3t _ _).drew;have d8:Below w.heap.size w w7.drew:=D.drew;have M:VarQ w7.drew w2.heap.size s:=L;have J:VarQ w7.drew w6.heap.size d:=hD;have c9:Blk w7.drew w.heap.size 28 #[.bool false,.slice none 0 0,.slice none 0 0]:=g0;clear hS hs hB hd O U o;go_wp2_with fail
      go_region_with (first
       | (go_at_call 34;refine (O7 r r p.out p.out (by omega)).mono ?_;rintro e w8 ⟨v8,rfl,g2,b8⟩;have d3:=Z.below b8;have I:=M.below b8;have d9:=a4f c9 b8;have f9:=a1j d8 b8;obtain⟨s0,s1,s2⟩:=I.cells;obtain⟨t0,t1,t2⟩:=(J.below b8).cells)
       | (go_at_call 27;refine (J0 d3 g2 (by rw[g.out];exact f4.out) d5.out (by omega)).mono ?_;rintro e w9 ⟨v9,rfl,Y,b9⟩;obtain⟨t,rfl,ht,f5⟩:=Y.frd;clear Y;have c7:=I.below b9;have f6:=a4f d9 b9;have N:=a1j f9 b9;obtain⟨wz,q0,q1,q2,f0,f1,f2,ez,g5,oz⟩:=c7.store t;have d6:=ht.onlyV c7 oz;have d4:=Blk.only f6 oz c4.out;have bz:=oz.to_below N g3.out N.size;clear ht oz))
      all_goals go_wp2
      all_goals
       go_roundw
       case rel =>
        refine⟨k+1,by omega,by go_num,⟨t,g5,d6,?_,bz⟩,d4⟩;rw[f5.out,g.out,J4 (q:=d.q*d.q) (by rw[c8.out];exact hq.out)]
       case measure=>simp[intOf];omega
    · obtain rfl:k=ds.length:=by omega
      have g7:decide ((ds.length:Int)<(ds.length:Int))=false:=a1v (by omega);obtain⟨x0,x1,x2⟩:=hS.cells;obtain⟨w9,p0,p1,p2,r0,r1,r2,e9,h9,o9⟩:=p9 hB s;obtain⟨y0,y1,y2⟩:=h9.cells;have X:=a1k (show s.q=o5 ps by rw[g.out,a1q (by rw[d1.out,g1.out];exact a1u _)]);have d7:=hs.only_blk hB (k7 _ _ _ _ _ _ _) o9;have C:=o9.to_below c (a1u _) c.size;clear hs;go_wp2;refine a3z (v:=B8 s.neg s.a s.la.length s.ca s.b s.lb.length s.cb) (by simp[results,Tryz.results16,go_sem,y0,y1,y2]) rfl ?_;exact⟨_,rfl,by rw[←X.out];exact d7,C⟩
def rO (d:FrD):Bool:=decide (d.la.length≤2)&&(decide (d.lb.length≤1)&&d.vld)
def rN (ds:List FrD):Bool:=ds.all rO
def fI (ds:List FrD):Bool:=rN ds&&decide (ds.length≤12)
theorem smLs_fl {w:World}{A:Option Addr}{c:Nat}{ds:List FrD}(h:FOkM w A c ds) (hs:rN ds=true):FL w A c ds∧QFits 2 (ds.map FrD.q):=by
 unfold rN at hs;rw[List.all_eq_true] at hs
 have b:∀ d∈ds,FV w d.v d.q∧Fits 2 d.q:=fun d hd=>by
  have h1:=hs d hd;unfold rO at h1
  simp only[a3m,decide_eq_true_eq] at h1
  exact FrD.few.fv (K:=2) ⟨(h.2 d hd).1.nv (by omega),(h.2 d hd).2.nv (by omega),h1.1,by omega⟩ h1.2.2
 exact⟨⟨h.1,fun d hd=>(b d hd).1⟩,QFits.of fun d hd=>(b d hd).2⟩
theorem smL1_fl {w:World}{A:Option Addr}{c:Nat}{ds:List FrD}(h:FOkM w A c ds) (hs:fI ds=true):FL w A c ds∧QFits 2 (ds.map FrD.q)∧ds.length≤12:=by
 unfold fI at hs
 simp only[a3m,decide_eq_true_eq] at hs
 obtain⟨h1,h2⟩:=smLs_fl h hs.1;exact⟨h1,h2,hs.2⟩
theorem new_any (w:World) (d:FrD):∃ wA wB,w.alloc (.cells #[.bool false,.slice none 0 0,.slice none 0 0] 28)=wA∧wA.cell? ⟨w.heap.size,0,none⟩=some (.bool false)∧wA.cell? ⟨w.heap.size,1,none⟩=some (.slice none 0 0)∧wA.cell? ⟨w.heap.size,2,none⟩=some (.slice none 0 0)∧wA.frozen? ⟨w.heap.size,0,none⟩=false∧wA.frozen? ⟨w.heap.size,1,none⟩=false∧wA.frozen? ⟨w.heap.size,2,none⟩=false ∧
 ((wA.setCell ⟨w.heap.size,0,none⟩ (.bool d.neg)).setCell ⟨w.heap.size,1,none⟩ (.slice d.a d.la.length d.ca)).setCell ⟨w.heap.size,2,none⟩ (.slice d.b d.lb.length d.cb)=wB∧VarQ wB w.heap.size d∧Below w.heap.size w wB∧w.heap.size<wB.heap.size:=D5 w d
theorem iX {A:Option Addr}{c:Nat}{ds:List FrD}{w:World}(h:FOkM w A c ds) :
 Calls Tryz.prog 10 #[.slice A ds.length c] w (gJ (fI ds) w):=by
 have hl:=h.1.1;have t:=h.1.2.1;obtain⟨v,hv⟩:∃ v,Hid (fI ds=v):=⟨_,rfl⟩;rw[hv.out];go_enter Tryz.func10,Tryz.ntmps10;go_wp2
 go_loopw [7] (fun i wr=>gL rO ds w i wr) (fun i _=>ds.length-(intOf i).toNat)
 case atStart=>exact⟨0,by omega,rfl,rfl,a3t _ _⟩
 case round =>
  obtain⟨k,hk,rfl,l,f⟩:=hrel
  by_cases hkl:k<ds.length
  · obtain⟨a,d,rfl,r,s,y,x,m,g⟩:=(h.below f).at hkl;obtain⟨wA,w4,eA,p0,p1,p2,r0,r1,r2,eB,o,b4,l4⟩:=D5 wr d;have j:=m.below b4;have b:=a1j f b4;obtain⟨x0,x1,x2⟩:=o.cells;have B:(k:Int)<(ds.length:Int):=by omega
    have gA:=m.1.big;have gB:=m.2.big
    by_cases h1:d.la.length≤2
    · have f1:decide ((2:Int)<(d.la.length:Int))=false:=a1v (by omega)
      by_cases h2:d.lb.length≤1
      · have f2:decide ((1:Int)<(d.lb.length:Int))=false:=a1v (by omega);obtain⟨u,hu⟩:∃ u,Hid (bI d.neg d.la d.lb=u):=⟨_,rfl⟩;have n:=a1k (show rO d=u by unfold rO FrD.vld;rw[a1w h1,a1w h2,hu.out];rfl);go_wp2_with fail;refine (dQ (neg:=d.neg) (j.1.nv (by omega)) (j.2.nv (by omega)) (by omega) (by omega)).mono ?_;rintro en wv ⟨rfl,bv⟩;rw[hu.out];have bT:=a1j b bv
        rcases u with _ | _
        · have hf:Hid (v=false):=by show v=false;rw[←hv.out];unfold fI;rw[show rN ds=false from Y8 g.out n.out];rfl
          go_wp2;go_ret;exact⟨by rw[hf.out];rfl,bT⟩
        · have hf:=a1k (aP l.out g.out n.out);go_wp2;go_roundw
          case rel=>exact⟨k+1,by omega,by go_num,hf,bT⟩
          case measure=>simp[intOf];omega
      · have f2:decide ((1:Int)<(d.lb.length:Int))=true:=a1w (by omega);have hf:Hid (v=false):=by show v=false;rw[←hv.out];unfold fI;rw[show rN ds=false from Y8 g.out (by unfold rO;rw[a1v h2];simp)];rfl
        clear h2;go_wp2;go_ret;exact⟨by rw[hf.out];rfl,b⟩
    · have f1:decide ((2:Int)<(d.la.length:Int))=true:=a1w (by omega);have hf:Hid (v=false):=by show v=false;rw[←hv.out];unfold fI;rw[show rN ds=false from Y8 g.out (by unfold rO;rw[a1v h1];rfl)];rfl
      clear h1;go_wp2;go_ret;exact⟨by rw[hf.out];rfl,b⟩
  · obtain rfl:k=ds.length:=by omega
    have p:decide ((ds.length:Int)<(ds.length:Int))=false:=a1v (by omega);obtain⟨z,hz⟩:∃ z,decide (ds.length≤12)=z:=⟨_,rfl⟩;have q:decide ((ds.length:Int)≤12)=z:=by rw[←hz];exact decide_eq_decide.2 (by omega)
    have hf:Hid (v=z):=by show v=z;rw[←hv.out];unfold fI;have:=l.out;rw[a2z] at this;rw[show rN ds=true from this,hz];rfl
    clear hz;go_wp2;go_ret;exact⟨by rw[hf.out];rfl,f⟩
structure PtD where
 pay:RwD
 mults:RwD
 low:RwD
 high:RwD
 lev:FrD
abbrev PtD.v (x:PtD):Value:=.agg #[.slice x.pay.a x.pay.ds.length x.pay.c,.slice x.mults.a x.mults.ds.length x.mults.c,.slice x.low.a x.low.ds.length x.low.c,.slice x.high.a x.high.ds.length x.high.c,.bool x.lev.neg,.slice x.lev.a x.lev.la.length x.lev.ca,.slice x.lev.b x.lev.lb.length x.lev.cb]
structure PtL (w:World) (x:PtD):Prop where
 pay:FL w x.pay.a x.pay.c x.pay.ds
 mults:FL w x.mults.a x.mults.c x.mults.ds
 low:FL w x.low.a x.low.c x.low.ds
 high:FL w x.high.a x.high.c x.high.ds
 lev:FV w x.lev.v x.lev.q
structure PtF (K:Nat) (x:PtD):Prop where
 pay:QFits K x.pay.qs
 mults:QFits K x.mults.qs
 low:QFits K x.low.qs
 high:QFits K x.high.qs
 lev:Fits K x.lev.q
theorem PtL.below {w w':World}{x:PtD}(h:PtL w x) (hb:Below w.heap.size w w'):PtL w' x:=⟨h.pay.below hb,h.mults.below hb,h.low.below hb,h.high.below hb,h.lev.below hb⟩
def VarP (w:World) (g:Nat) (x:PtD):Prop:=Blk w g 46 #[.slice x.pay.a x.pay.ds.length x.pay.c,.slice x.mults.a x.mults.ds.length x.mults.c,.slice x.low.a x.low.ds.length x.low.c,.slice x.high.a x.high.ds.length x.high.c,.bool x.lev.neg,.slice x.lev.a x.lev.la.length x.lev.ca,.slice x.lev.b x.lev.lb.length x.lev.cb]
theorem VarP.below {w w':World}{g:Nat}{x:PtD}(h:VarP w g x) (hb:Below w.heap.size w w'):VarP w' g x:=a4f h hb
theorem VarP.only {w w':World}{g g':Nat}{x:PtD}(h:VarP w g x) (ho:Only w w' g') (hne:g≠g'):VarP w' g x:=Blk.only h ho hne
theorem VarP.cells {w:World}{g:Nat}{x:PtD}(h:VarP w g x):w.cell? ⟨g,0,none⟩=some (.slice x.pay.a x.pay.ds.length x.pay.c)∧w.cell? ⟨g,1,none⟩=some (.slice x.mults.a x.mults.ds.length x.mults.c)∧w.cell? ⟨g,2,none⟩=some (.slice x.low.a x.low.ds.length x.low.c)∧w.cell? ⟨g,3,none⟩=some (.slice x.high.a x.high.ds.length x.high.c)∧w.cell? ⟨g,4,none⟩=some (.bool x.lev.neg)∧w.cell? ⟨g,5,none⟩=some (.slice x.lev.a x.lev.la.length x.lev.ca)∧w.cell? ⟨g,6,none⟩=some (.slice x.lev.b x.lev.lb.length x.lev.cb) :=
 ⟨a4e h 0,a4e h 1,a4e h 2,a4e h 3,a4e h 4,a4e h 5,a4e h 6⟩
structure Ck (w:World) (gs gx:Nat) (s:FrD) (x:PtD):Prop where
 sum:VarQ w gs s
 pt:VarP w gx x
theorem Ck.below {w w':World}{gs gx:Nat}{s:FrD}{x:PtD}(h:Ck w gs gx s x) (hb:Below w.heap.size w w'):Ck w' gs gx s x:=⟨h.sum.below hb,h.pt.below hb⟩
theorem Ck.only {w w':World}{gs gx g:Nat}{s:FrD}{x:PtD}(h:Ck w gs gx s x) (ho:Only w w' g) (h1:gs≠g) (h2:gx≠g):Ck w' gs gx s x:=⟨h.sum.only ho h1,h.pt.only ho h2⟩
def dX (ms:List Int) (pay low high:List Rat) (i:Nat):Bool :=
 !(decide (pay.getD i 0<0))&&(!(decide (((ms.getD i 0:Int):Rat)<pay.getD i 0))&&(D4 (low.getD i 0) (decide (pay.getD i 0=0))&&D4 (high.getD i 0) (decide (pay.getD i 0=((ms.getD i 0:Int):Rat)))))
def eO (ns:List NdD) (k:Nat):Nat:=(ns.getD k ⟨0,0⟩).p.toNat
def lOf (ns:List NdD) (k:Nat):Int:=(ns.getD k ⟨0,0⟩).l
def gH (ns:List NdD) (pay mults:List Rat) (k:Nat):Bool :=
 !(decide (o5 (K7 (eO ns k) pay)<((lOf ns k:Int):Rat)))&&D4 (mults.getD k 0) (decide (o5 (K7 (eO ns k) pay)=((lOf ns k:Int):Rat)))
def F7 (ns:List NdD) (mults:List Rat) (i:Nat):List Rat:=(List.range ns.length).map fun k=>if M8 (eO ns k) i=true then mults.getD k 0 else 0
def V2 (ns:List NdD) (tg pay mults low high:List Rat) (lev:Rat) (i:Nat):Bool :=
 decide (pay.getD i 0-tg.getD i 0=lev+low.getD i 0-high.getD i 0+o5 (F7 ns mults i))
def cC (n m:Nat) (pay mults low high:List Rat):Bool:=decide (pay.length=n)&&(decide (low.length=n)&&(decide (high.length=n)&&decide (mults.length=m)))
def P4 (tg:List Rat) (ns:List NdD) (ms:List Int) (sum:Rat) (pay mults low high:List Rat) (lev:Rat):Bool :=
 cC ms.length ns.length pay mults low high&&((List.range ms.length).all (dX ms pay low high)&&(decide (o5 pay=sum)&&((List.range ns.length).all (gH ns pay mults)&&(List.range ms.length).all (V2 ns tg pay mults low high lev))))
def G8 (tg:List Rat) (ns:List NdD) (ms:List Int) (sum:Rat) (pay mults low high:List Rat) (lev:Rat):Int :=
 if argsE tg.length ns ms≠0 then argsE tg.length ns ms else if P4 tg ns ms sum pay mults low high lev=true then 0 else 13
theorem Q3 (ns:List NdD) (mults:List Rat) (i:Nat):(F7 ns mults i).length=ns.length:=by simp[F7]
theorem aO {ns:List NdD}{mults:List Rat}{i k:Nat}(hk:k<ns.length):(F7 ns mults i)[k]?=some (if M8 (eO ns k) i=true then mults.getD k 0 else 0):=by
 unfold F7;rw[a1r,a2t hk];rfl
theorem W7 {K i:Nat}{ns:List NdD}{mults:List Rat}(hK:0<K) (h:QFits K mults):QFits K (F7 ns mults i):=fun q hq=>by
 obtain⟨k,hk,rfl⟩:=a2v.1 hq
 split
 · exact h.getD hK k
 · exact Fits.zero hK
theorem vU {tg:List Rat}{ns:List NdD}{ms:List Int}{sum:Rat}{pay mults low high:List Rat}{lev:Rat}{e:Int}(h:argsE tg.length ns ms=e) (he:e≠0):G8 tg ns ms sum pay mults low high lev=e:=by
 unfold G8;rw[h,if_pos he]
theorem vT {tg:List Rat}{ns:List NdD}{ms:List Int}{sum:Rat}{pay mults low high:List Rat}{lev:Rat}{b:Bool}(h:argsE tg.length ns ms=0) (hb:P4 tg ns ms sum pay mults low high lev=b):G8 tg ns ms sum pay mults low high lev=if b=true then 0 else 13:=by
 unfold G8;rw[h,if_neg (by simp),hb]
def AllI (f:Nat→Bool) (k:Nat):Prop:=∀ j,j<k→f j=true
theorem AllI.all {f:Nat→Bool}{k:Nat}(h:AllI f k):(List.range k).all f=true:=List.all_eq_true.2 fun j hj=>h j (a2u.1 hj)
theorem AllI.step {f:Nat→Bool}{k:Nat}(h:AllI f k) (hk:f k=true):AllI f (k+1):=fun j hj=>by
 rcases Nat.lt_succ_iff_lt_or_eq.1 hj with h1 | rfl
 · exact h j h1
 · exact hk
theorem vZ {f:Nat→Bool}{n k:Nat}(hk:k<n) (h:f k=false):(List.range n).all f=false:=List.all_eq_false.2 ⟨k,a2u.2 hk,by rw[h];decide⟩
theorem dD {tg:List Rat}{ns:List NdD}{ms:List Int}{sum:Rat}{pay mults low high:List Rat}{lev:Rat}(h:cC ms.length ns.length pay mults low high=false):P4 tg ns ms sum pay mults low high lev=false:=by unfold P4;rw[h];rfl
theorem qR {tg:List Rat}{ns:List NdD}{ms:List Int}{sum:Rat}{pay mults low high:List Rat}{lev:Rat}{k:Nat}(hk:k<ms.length) (h:dX ms pay low high k=false):P4 tg ns ms sum pay mults low high lev=false:=by unfold P4;rw[vZ hk h];simp
theorem cert_sum {tg:List Rat}{ns:List NdD}{ms:List Int}{sum:Rat}{pay mults low high:List Rat}{lev:Rat}(h:o5 pay≠sum):P4 tg ns ms sum pay mults low high lev=false:=by unfold P4;rw[a1v h];simp
theorem cert_N {tg:List Rat}{ns:List NdD}{ms:List Int}{sum:Rat}{pay mults low high:List Rat}{lev:Rat}{k:Nat}(hk:k<ns.length) (h:gH ns pay mults k=false):P4 tg ns ms sum pay mults low high lev=false:=by unfold P4;rw[vZ hk h];simp
theorem cert_F {tg:List Rat}{ns:List NdD}{ms:List Int}{sum:Rat}{pay mults low high:List Rat}{lev:Rat}{k:Nat}(hk:k<ms.length) (h:V2 ns tg pay mults low high lev k=false):P4 tg ns ms sum pay mults low high lev=false:=by unfold P4;rw[vZ hk h];simp
theorem tG {tg:List Rat}{ns:List NdD}{ms:List Int}{sum:Rat}{pay mults low high:List Rat}{lev:Rat}(h1:cC ms.length ns.length pay mults low high=true) (h2:AllI (dX ms pay low high) ms.length) (h3:o5 pay=sum) (h4:AllI (gH ns pay mults) ns.length) (h5:AllI (V2 ns tg pay mults low high lev) ms.length):P4 tg ns ms sum pay mults low high lev=true:=by
 unfold P4;rw[h1,h2.all,a1w h3,h4.all,h5.all];rfl
abbrev a4r:=@VarP.below
end Go.Proofs.YtjhkapjadfpimaaGreat
