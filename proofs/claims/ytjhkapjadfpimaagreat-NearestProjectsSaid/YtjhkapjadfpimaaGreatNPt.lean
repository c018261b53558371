/- Contracts of functions, for the law. -/
import Derived.Test.YtjhkapjadfpimaaGreatNNeed
namespace Go.Proofs.YtjhkapjadfpimaaGreat
set_option linter.unusedVariables false
set_option linter.unusedSimpArgs false
open Go.RowKit Plain
attribute [local go_sem ↓] Go.wp_at_zero Go.wp_at_succ
set_option maxRecDepth 100000
set_option maxHeartbeats 40000000
def nV {α:Type}(f:α→Bool) (l:List α) (root:World) (i:Value) (wr:World):Prop:=∃ k:Nat,k≤l.length∧i=.int .i64 (k:Int)∧Hid ((l.take k).any f=false)∧Below root.heap.size root wr
theorem kc {α:Type}{f:α→Bool}{l:List α}{k:Nat}{x:α}(h:(l.take k).any f=false) (hk:l[k]?=some x) (hx:f x=false):(l.take (k+1)).any f=false:=by
 rw[List.take_add_one,hk,List.any_append,h];simp[hx]
theorem rU {n:Nat}(h:n≤8):IntKind.i64.wrap (2 ^ n)=(2:Int) ^ n:=by
 have h9:n=0∨n=1∨n=2∨n=3∨n=4∨n=5∨n=6∨n=7∨n=8:=by omega
 rcases h9 with rfl | rfl | rfl | rfl | rfl | rfl | rfl | rfl | rfl <;> decide
theorem Below.drewN {B:Nat}{a w:World}(h:Below B a w) (n:Nat):Below B a (w.drewN n):=⟨h.os,h.tape,h.output,h.size,h.block⟩
theorem dO {α:Type}{f:α→Bool}{l:List α}{k:Nat}{x:α}(hk:l[k]?=some x) (h:f x=true):l.any f=true:=List.any_eq_true.2 ⟨x,Dm hk,h⟩
theorem ts {A B C:Option Addr}{ca cb cc tl:Nat}{ns:List NdD}{ms:List Int}{w:World}(ht:tl≤ca∧ca≤9223372036854775807) (hn:NL w B cb ns) (hm:ZL w C cc ms) :
 Calls Tryz.prog 22 #[.slice A tl ca,.slice B ns.length cb,.slice C ms.length cc] w (pF (argsE tl ns ms) w):=by
 obtain⟨r,hr⟩:∃ r,Hid (argsE tl ns ms=r):=⟨_,rfl⟩;rw[hr.out];have ln:=hn.len;have lm:=hm.len;have bT:=DY w.heap.size w
 by_cases h1:8<ms.length
 · have t1:decide ((8:Int)<(ms.length:Int))=true:=Dv (by omega);have hf:=Dj (show r=3 by rw[←hr.out];unfold argsE;rw[if_pos (.inl h1)]);go_enter Tryz.func22,Tryz.ntmps22;go_wp2;go_ret;exact⟨by rw[hf.out];rfl,bT⟩
 have t1:decide ((8:Int)<(ms.length:Int))=false:=Du (by omega)
 by_cases h2:300<ns.length
 · have t2:decide ((300:Int)<(ns.length:Int))=true:=Dv (by omega);have hf:=Dj (show r=3 by rw[←hr.out];unfold argsE;rw[if_pos (.inr h2)]);go_enter Tryz.func22,Tryz.ntmps22;go_wp2;go_ret;exact⟨by rw[hf.out];rfl,bT⟩
 have t2:decide ((300:Int)<(ns.length:Int))=false:=Du (by omega)
 by_cases h3:¬ tl=ms.length
 · have t3:((tl:Int) != (ms.length:Int))=true:=by rw[bne_iff_ne];omega
   have hf:=Dj (show r=2 by rw[←hr.out];unfold argsE;rw[if_neg (by omega),if_pos h3]);go_enter Tryz.func22,Tryz.ntmps22;go_wp2;go_ret;exact⟨by rw[hf.out];rfl,bT⟩
 have n:=Dj (Decidable.not_not.1 h3);have t3:((tl:Int) != (ms.length:Int))=false:=by rw[bne_eq_false_iff_eq];have:=n.out;omega
 clear h3;have o:ms.length≤8:=by omega
 have f:=Dj (show r=if ms.any ko=true∨ns.any (jB ms.length)=true then 4 else 0 by rw[←hr.out];unfold argsE;rw[if_neg (by omega),if_neg (by have:=n.out;omega)]);go_enter Tryz.func22,Tryz.ntmps22;go_wp2
 go_loopw [26] (fun i wr=>nV ko ms w i wr) (fun i _=>ms.length-(intOf i).toNat)
 case atStart=>exact⟨0,by omega,rfl,rfl,bT⟩
 case round =>
  obtain⟨k,hk,rfl,b,hb⟩:=hrel
  by_cases hkl:k<ms.length
  · have t:(k:Int)<(ms.length:Int):=by omega
    obtain⟨a,z,rfl,q,s,m⟩:=(hm.below hb).at hkl
    by_cases c1:z<0
    · have d1:decide (z<0)=true:=Dv c1;have hf:=Dj (show r=4 by rw[f.out,if_pos (.inl (dO m.out (by unfold ko;rw[d1];rfl)))]);clear c1;go_wp2;go_ret;exact⟨by rw[hf.out];rfl,hb⟩
    have d1:decide (z<0)=false:=Du c1
    by_cases c2:1000000<z
    · have d2:decide (1000000<z)=true:=Dv c2;have hf:=Dj (show r=4 by rw[f.out,if_pos (.inl (dO m.out (by unfold ko;rw[d1,d2];rfl)))]);clear c1 c2;go_wp2;go_ret;exact⟨by rw[hf.out];rfl,hb⟩
    have d2:decide (1000000<z)=false:=Du c2;have c:=Dj (kc b.out m.out (by unfold ko;rw[d1,d2];rfl));clear c1 c2;go_wp2;go_roundw
    case rel=>exact⟨k+1,by omega,by go_num,c,hb⟩
    case measure=>simp[intOf];omega
  · obtain rfl:k=ms.length:=by omega
    have x:decide ((ms.length:Int)<(ms.length:Int))=false:=Du (by omega);have j:=Dj (show ms.any ko=false by have:=b.out;rwa [List.take_length] at this);obtain⟨wo,v⟩:∃ wo:World,wo=wr:=⟨_,rfl⟩;subst v;have E:((1:Int)*2 ^ min ms.length 64)=2 ^ ms.length:=by rw[Nat.min_eq_left (by omega),Int.one_mul]
    go_wp2
    go_loopw [39] (fun i wr=>nV (jB ms.length) ns w i wr) (fun i _=>ns.length-(intOf i).toNat)
    case atStart=>exact⟨0,by omega,rfl,rfl,hb⟩
    case round =>
     obtain⟨k,hk,rfl,b,hb⟩:=hrel
     by_cases hkl:k<ns.length
     · have t:(k:Int)<(ns.length:Int):=by omega
       obtain⟨a,d,ea,q,s,D,h⟩:=(hn.below hb).at hkl;rw[ea];obtain⟨wA,wB,eA,p0,p1,r0,r1,eB,hV,bV,lV⟩:=lG wr d;obtain⟨x0,x1⟩:=hV.cells;have g:=Di hb bV;obtain⟨P,hP⟩:∃ P:Int,P=(2:Int) ^ ms.length:=⟨_,rfl⟩
       by_cases c1:d.p<0
       · have d1:decide (d.p<0)=true:=Dv c1;have hf:=Dj (show r=4 by rw[f.out,if_pos (.inr (dO h.out (by unfold jB;rw[d1];rfl)))]);clear c1;go_wp2_with fail
         go_quiet (fail)
         go_wp2;go_ret;exact⟨by rw[hf.out];rfl,Below.drewN g _⟩
       have d1:decide (d.p<0)=false:=Du c1
       by_cases c2:(2:Int) ^ ms.length≤d.p
       · have d2:decide (IntKind.i64.wrap (2 ^ ms.length)≤d.p)=true:=by rw[rU o];exact Dv c2
         have hf:=Dj (show r=4 by rw[f.out,if_pos (.inr (dO h.out (by unfold jB;rw[d1,Dv c2];rfl)))]);clear c1 c2;go_wp2_with fail
         go_quiet (fail)
         go_wp2;go_ret;exact⟨by rw[hf.out];rfl,Below.drewN g _⟩
       have d2:decide (IntKind.i64.wrap (2 ^ ms.length)≤d.p)=false:=by rw[rU o];exact Du c2
       by_cases c3:d.l < -1099511627776
       · have d3:decide (d.l < -1099511627776)=true:=Dv c3;have hf:=Dj (show r=4 by rw[f.out,if_pos (.inr (dO h.out (by unfold jB;rw[d1,Du c2,d3];rfl)))]);clear c1 c2 c3;go_wp2_with fail
         go_quiet (fail)
         go_wp2;go_ret;exact⟨by rw[hf.out];rfl,Below.drewN g _⟩
       have d3:decide (d.l < -1099511627776)=false:=Du c3
       by_cases c4:1099511627776<d.l
       · have d4:decide (1099511627776<d.l)=true:=Dv c4;have hf:=Dj (show r=4 by rw[f.out,if_pos (.inr (dO h.out (by unfold jB;rw[d1,Du c2,d3,d4];rfl)))]);clear c1 c2 c3 c4;go_wp2_with fail
         go_quiet (fail)
         go_wp2;go_ret;exact⟨by rw[hf.out];rfl,Below.drewN g _⟩
       have d4:decide (1099511627776<d.l)=false:=Du c4;have c:=Dj (kc b.out h.out (by unfold jB;rw[d1,Du c2,d3,d4];rfl));clear c1 c2 c3 c4;go_wp2_with fail
       go_quiet (fail)
       go_wp2;go_roundw
       case rel=>exact⟨k+1,by omega,by go_num,c,Below.drewN g _⟩
       case measure=>simp[intOf];omega
     · obtain rfl:k=ns.length:=by omega
       have y:decide ((ns.length:Int)<(ns.length:Int))=false:=Du (by omega);have hf:=Dj (show r=0 by rw[f.out,if_neg];rw[j.out];have:=b.out;rw[List.take_length] at this;rw[this];simp);go_wp2;go_ret;exact⟨by rw[hf.out];rfl,hb⟩
def bL (q:Rat) (t:Bool):Bool:=decide (q=0) || (t&&decide (0<q))
theorem fH {v:Value}{q:Rat}{t:Bool}{w:World}(hv:FV w v q) :
 Calls Tryz.prog 30 #[v,.bool t] w (lX (bL q t) w):=by
 obtain⟨d,rfl,hd,hq⟩:=hv.frd;obtain⟨w0,k,b0,l0,B0⟩:=ag w #[.bool d.neg,.slice d.a d.la.length d.ca,.slice d.b d.lb.length d.cb] 28;obtain⟨x0,x1,x2⟩:=VarQ.cells B0;obtain⟨s,hs⟩:∃ s,Hid (bH q 0=s):=⟨_,rfl⟩;obtain⟨r,hr⟩:∃ r,Hid (bL q t=r):=⟨_,rfl⟩;rw[hr.out];have hc:=ct (hd.below b0);rw[hq.out,hs.out] at hc;have j:=vP q 0;rw[hs.out] at j;go_enter Tryz.func30,Tryz.ntmps30;go_wp2_with fail;refine hc.mono ?_;rintro e w1 ⟨rfl,b1⟩;have f:=Di b0 b1
 by_cases h0:s=0
 · have hz:(s == 0)=true:=by rw[beq_iff_eq];exact h0
   have c:=Dj (show r=true by rw[←hr.out];unfold bL;rw[Dv (cmpR_zero.1 (by rw[hs.out];exact h0))];rfl);clear hc h0;go_wp2;go_ret;exact⟨by rw[c.out];rfl,f⟩
 · have hz:(s == 0)=false:=by rw[beq_eq_false_iff_ne];exact h0
   have hn:=Dj (show ¬ q=0 from fun e=>h0 (by rw[←hs.out];exact cmpR_zero.2 e))
   cases t with
   | false =>
    have c:=Dj (show r=false by rw[←hr.out];unfold bL;rw[Du hn.out];rfl);clear hc h0;go_wp2;go_ret;exact⟨by rw[c.out];rfl,f⟩
   | true =>
    obtain⟨y0,y1,y2⟩:=VarQ.cells (VarQ.below B0 b1);have g:=ct ((hd.below b0).below b1);rw[hq.out,hs.out] at g
    have c:=Dj (show decide ((0:Int)<s)=r by
     rw[←hr.out];unfold bL;rw[Du hn.out,Bool.false_or,Bool.true_and,←hs.out];exact decide_eq_decide.2 cmpR_pos)
    clear hc;go_wp2_with fail;refine g.mono ?_;rintro e w2 ⟨rfl,b2⟩;clear g
    by_cases h9:(0:Int)<s
    · have h:decide ((0:Int)<s)=true:=Dv h9;go_wp2;go_ret;exact⟨by rw[←c.out,h];rfl,(Di f b2)⟩
    · have h:decide ((0:Int)<s)=false:=Du h9;go_wp2;go_ret;exact⟨by rw[←c.out,h];rfl,(Di f b2)⟩
theorem rN {A:Option Addr}{c i:Nat}{ds:List FrD}{w:World}(h:FL w A c ds) (hi:i<1000000000000) :
 Calls Tryz.prog 33 #[.slice A ds.length c,.int .i64 (i:Int)] w (ie ((ds.map FrD.q).getD i 0) w):=by
 obtain⟨w0,s,b0,l0,B0⟩:=ag w #[.bool false,.slice none 0 0,.slice none 0 0] 28;have hl:=h.len;obtain⟨q,hq⟩:∃ q,Hid ((ds.map FrD.q).getD i 0=q):=⟨_,rfl⟩;rw[hq.out];go_enter Tryz.func33,Tryz.ntmps33
 by_cases hil:i<ds.length
 · have l:(i:Int)<(ds.length:Int):=by omega
   obtain⟨a,d,rfl,o,p,r,n,hd,m⟩:=(h.below b0).at hil;have f:=Dj (show d.q=q by rw[←hq.out,Dk,Dq,m.out];rfl);obtain⟨w9,p0,p1,p2,r0,r1,r2,e9,h9,o9⟩:=aF B0 d;obtain⟨x0,x1,x2⟩:=VarQ.cells h9;go_wp2;refine D4 (v:=aZ d.neg d.a d.la.length d.ca d.b d.lb.length d.cb) (by simp[results,Tryz.results33,go_sem,x0,x1,x2]) rfl ?_;exact⟨_,rfl,by rw[←f.out];exact hd.only_blk B0 (ar _ _ _ _ _ _ _) o9,o9.to_below b0 (Dt _) b0.size⟩
 · have l:decide ((i:Int)<(ds.length:Int))=false:=Du (by omega);go_wp2_with fail;refine (aH 0 _ (by decide) (by decide)).mono ?_;rintro e w1 ⟨v1,rfl,g,b1⟩;obtain⟨d,rfl,hd,f⟩:=g.frd;have B1:=Ea B0 b1;obtain⟨w9,p0,p1,p2,r0,r1,r2,e9,h9,o9⟩:=aF B1 d;obtain⟨x0,x1,x2⟩:=VarQ.cells h9;have j:=Di b0 b1;have k:=Dj (show d.q=q by rw[f.out,←hq.out,Dk,DI (by rw[Dr];omega)];rfl);clear g;go_wp2;refine D4 (v:=aZ d.neg d.a d.la.length d.ca d.b d.lb.length d.cb) (by simp[results,Tryz.results33,go_sem,x0,x1,x2]) rfl ?_;exact⟨_,rfl,by rw[←k.out];exact hd.only_blk B1 (ar _ _ _ _ _ _ _) o9,o9.to_below j (Dt _) j.size⟩
def eQ (p i:Nat):Bool:=p / 2 ^ i % 2 == 1
theorem pp {p i:Nat}(hp:p<256) (hi:i<8):(bits BinOp.and IntKind.i64 ((p:Int) / 2 ^ i) 1 == 1)=eQ p i:=by
 have b:∀ q:Fin 256,∀ j:Fin 8,(bits BinOp.and IntKind.i64 ((q.val:Int) / 2 ^ j.val) 1 == 1)=eQ q.val j.val:=by decide +kernel
 exact b ⟨p,hp⟩ ⟨i,hi⟩
def dW (p:Nat) (qs:List Rat):List Rat:=(List.range qs.length).map fun i=>if eQ p i=true then qs.getD i 0 else 0
theorem iM (p:Nat) (qs:List Rat):(dW p qs).length=qs.length:=by simp[dW]
theorem mG {p:Nat}{qs:List Rat}{k:Nat}{q:Rat}(h:qs[k]?=some q):(dW p qs)[k]?=some (if eQ p k=true then q else 0):=by
 have hk:=(DD.1 h).1;unfold dW;rw[Dq,DS hk]
 show some (if eQ p k=true then qs.getD k 0 else 0)=_
 rw[Dk,h];rfl
theorem oL {K:Nat}{p:Nat}{qs:List Rat}(hK:0<K) (h:QFits K qs):QFits K (dW p qs):=fun q hq=>by
 obtain⟨i,hi,rfl⟩:=DU.1 hq
 split
 · exact h.get (DT.1 hi)
 · exact Fits.zero hK
def SumAt (ps:List Rat) (g:Nat) (root:World) (k:Nat) (wr:World):Prop:=∃ d:FrD,VarQ wr g d∧FV wr d.v d.q∧d.q=aB (ps.take k)∧Below root.heap.size root wr
theorem SumAt.below {ps:List Rat}{g:Nat}{root:World}{k:Nat}{w w':World}(h:SumAt ps g root k w) (hb:Below w.heap.size w w'):SumAt ps g root k w':=by
 obtain⟨d,h1,h2,h3,h4⟩:=h;exact⟨d,h1.below hb,h2.below hb,h3,(Di h4 hb)⟩
theorem SumAt.bel {ps:List Rat}{g:Nat}{root:World}{k:Nat}{w:World}(h:SumAt ps g root k w):Below root.heap.size root w:=by obtain⟨d,h1,h2,h3,h4⟩:=h;exact h4
theorem SumAt.skip {ps:List Rat}{g:Nat}{root:World}{k:Nat}{w:World}(h:SumAt ps g root k w) (hk:ps[k]?=some 0):SumAt ps g root (k+1) w:=by
 obtain⟨d,h1,h2,h3,h4⟩:=h;exact⟨d,h1,h2,by rw[dG hk,h3,Rat.add_zero],h4⟩
theorem cT {K n:Nat}{ps:List Rat}(h:QFits K ps) (hn:ps.length≤n) (k:Nat):Fits (1+n*(K+1)) (aB (ps.take k)):=by
 refine (lO (k:=K) (fun q hq=>h q (DJ hq))).mono ?_;have h1:(ps.take k).length≤n:=by rw[DB];omega
 have:=Dx (K+1) h1;omega
theorem zk {K p:Nat}{l:Int}{A:Option Addr}{c:Nat}{ds:List FrD}{w:World}(h:FL w A c ds) (hf:QFits K (ds.map FrD.q)) (hK0:0<K) (hK:1+8*(K+1)+K<400000000) (hp:p<256) (hl:ds.length≤8) :
 Calls Tryz.prog 31 #[.agg #[.int .i64 (p:Int),.int .i64 l],.slice A ds.length c] w (ie (aB (dW p (ds.map FrD.q))) w):=by
 have c5:=h.len;obtain⟨ps,C⟩:∃ ps,Hid (dW p (ds.map FrD.q)=ps):=⟨_,rfl⟩;have b7:=Dj (show ps.length=ds.length by rw[←C.out,iM,Dr]);have bx:=Dj (show QFits K ps by rw[←C.out];exact oL hK0 hf);rw[C.out];obtain⟨w0,c8,b0,l0,B0⟩:=ag w #[.int .i64 (p:Int),.int .i64 l] 45;obtain⟨w1,c9,b1,l1,B1⟩:=ag w0 #[.bool false,.slice none 0 0,.slice none 0 0] 28;have bo:=Di b0 b1;have bq:VarN w1 w.heap.size ⟨p,l⟩:=Ea B0 b1;have bm:=Dj hf;clear hf;go_enter Tryz.func31,Tryz.ntmps31;go_wp2_with fail;refine (aH 0 _ (by decide) (by decide)).mono ?_;rintro e w2 ⟨v1,rfl,L,b2⟩;obtain⟨z,rfl,hz,bd⟩:=L.frd;clear L;obtain⟨wA,w3,eA,p0,p1,p2,r0,r1,r2,eB,b8,b3,l3⟩:=bM w2 z;have N:=Di bo b2;have Y:=Di N b3;have R:=(bq.below b2).below b3;have B3:=(Ea B1 b2).keep b3;have o:SumAt ps w2.heap.size w 0 w3:=⟨z,b8,hz.below b3,by rw[bd.out];simp[gH],Y⟩;have b9:=h.below Y;have bf:=Dj (show w.heap.size≤w2.heap.size from N.size);have bb:w.heap.size≠w2.heap.size:=by have:=b2.size;have:=b1.size;omega
 have V:w0.heap.size≠w2.heap.size:=by have:=b2.size;omega
 have O:=Dj bb;have b6:=Dj V;have M:=Dj (show w.heap.size≤w0.heap.size from b0.size);go_wp2;clear p0 p1 p2 r0 r1 r2 eA eB bb V
 go_loopw [11] (fun i wr=>∃ k:Nat,k≤ds.length∧i=.int .i64 (k:Int)∧SumAt ps w2.heap.size w k wr∧VarN wr w.heap.size ⟨p,l⟩∧Blk wr w0.heap.size 28 #[.bool false,.slice none 0 0,.slice none 0 0]) (fun i _=>ds.length-(intOf i).toNat)
 case atStart=>exact⟨0,by omega,rfl,o,R,B3⟩
 case round =>
  clear o R B3 b8 b9;obtain⟨k,hk,rfl,o,hV,hB⟩:=hrel;have g:=o.bel;obtain⟨s,hS,hs,B,-⟩:=o
  by_cases hkl:k<ds.length
  · have cm:(k:Int)<(ds.length:Int):=by omega
    have bz:k<8:=by omega
    obtain⟨a,d,ea,cd,cg,ch,cl,hd,U⟩:=(h.below g).at hkl;rw[ea];obtain⟨wA,w4,eA,p0,p1,p2,r0,r1,r2,eB,hD,b4,l4⟩:=bM wr d;have x:=Di g b4;have m:=hS.below b4;have H:=hs.below b4;have Z:=hd.below b4;have D:=hV.below b4;have J:=Ea hB b4;obtain⟨x0,x1,x2⟩:=m.cells;obtain⟨y0,y1,y2⟩:=hD.cells;obtain⟨n0,n1⟩:=D.cells;have I:=Dj (mG (p:=p) (show (ds.map FrD.q)[k]?=some d.q by rw[Dq,U.out];rfl));rw[C.out] at I;obtain⟨b,hb⟩:∃ b,Hid (eQ p k=b):=⟨_,rfl⟩;have c4:(bits BinOp.and IntKind.i64 ((p:Int) / 2 ^ k) 1 == 1)=b:=by rw[pp hp bz];exact hb.out
    have f:=Dj B;clear B hS hs hd hV hB ea
    cases b with
    | false =>
     have y:=Dj (show ps[k]?=some 0 by rw[I.out,hb.out];rfl);go_wp2;go_roundw
     case rel=>exact⟨k+1,by omega,by go_num,SumAt.skip ⟨s,m,H,f.out,x⟩ y.out,D,J⟩
     case measure=>simp[intOf];omega
    | true =>
     have y:=Dj (show ps[k]?=some d.q by rw[I.out,hb.out];rfl);have bc:=Dj (cT (n:=8) bx.out (by rw[b7.out];exact hl) k);have c3:=Dj (bm.out.fr d (Dm U.out));have E:=dB H Z (j:=1+8*(K+1)) (k:=K) (by rw[f.out];exact bc.out) c3.out hK;go_wp2_with fail;refine E.mono ?_;rintro e w5 ⟨v5,rfl,T,b5⟩;clear E;obtain⟨t,rfl,ht,bg⟩:=T.frd;clear T;obtain⟨w6,q0,q1,q2,f0,f1,f2,e6,c0,o6⟩:=(m.below b5).store t;have r:=Di x b5;have F:=o6.to_below r bf.out r.size;have bv:=ht.onlyV (m.below b5) o6;have bn:=(D.below b5).only o6 O.out;have c2:=Blk.only (Ea J b5) o6 b6.out;have X:=Dj (show t.q=aB (ps.take (k+1)) by rw[bg.out,f.out,dG y.out]);clear ht o6 m H Z D J;go_wp2;go_roundw
     case rel=>exact⟨k+1,by omega,by go_num,⟨t,c0,bv,X.out,F⟩,bn,c2⟩
     case measure=>simp[intOf];omega
  · obtain rfl:k=ds.length:=by omega
    have c7:decide ((ds.length:Int)<(ds.length:Int))=false:=Du (by omega);obtain⟨x0,x1,x2⟩:=hS.cells;obtain⟨w9,p0,p1,p2,r0,r1,r2,e9,h9,o9⟩:=aF hB s;obtain⟨y0,y1,y2⟩:=h9.cells;have f:=Dj (show s.q=aB ps by rw[B,Dp (by rw[b7.out];exact Dt _)]);have bs:=hs.only_blk hB (ar _ _ _ _ _ _ _) o9;have G:=o9.to_below g M.out g.size;clear B hs hV;go_wp2;refine D4 (v:=aZ s.neg s.a s.la.length s.ca s.b s.lb.length s.cb) (by simp[results,Tryz.results31,go_sem,y0,y1,y2]) rfl ?_;exact⟨_,rfl,by rw[←f.out];exact bs,G⟩
def zR (a b:List Rat):List Rat:=(List.range (max a.length b.length)).map fun i=>(a.getD i 0-b.getD i 0)*(a.getD i 0-b.getD i 0)
theorem Bu (a b:List Rat):(zR a b).length=max a.length b.length:=by simp[zR]
theorem vJ {a b:List Rat}{k:Nat}(hk:k<max a.length b.length):(zR a b)[k]?=some ((a.getD k 0-b.getD k 0)*(a.getD k 0-b.getD k 0)):=by
 unfold zR;rw[Dq,DS hk];rfl
theorem QFits.getD {K:Nat}{l:List Rat}(hK:0<K) (h:QFits K l) (k:Nat):Fits K (l.getD k 0):=by
 rcases Nat.lt_or_ge k l.length with hk | hk
 · exact h.get hk
 · rw[Dk,DI hk];exact Fits.zero hK
theorem zQ {K:Nat}{a b:List Rat}(hK:0<K) (ha:QFits K a) (hb:QFits K b):QFits ((K+K+1)+(K+K+1)) (zR a b):=fun q hq=>by
 obtain⟨i,hi,rfl⟩:=DU.1 hq;have h:=(ha.getD hK i).sub (hb.getD hK i);exact h.mul h
theorem pj {K:Nat}{A B:Option Addr}{ca cb:Nat}{ds es:List FrD}{w:World}(h:FL w A ca ds) (he:FL w B cb es) (hf:QFits K (ds.map FrD.q)) (hfe:QFits K (es.map FrD.q)) (hK0:0<K) (hK:K≤6000000) (hl:ds.length≤12) (hle:es.length≤12) :
 Calls Tryz.prog 16 #[.slice A ds.length ca,.slice B es.length cb] w (ie (aB (zR (ds.map FrD.q) (es.map FrD.q))) w):=by
 have d1:=h.len;have cz:=he.len;obtain⟨ps,bb⟩:∃ ps,Hid (zR (ds.map FrD.q) (es.map FrD.q)=ps):=⟨_,rfl⟩;obtain⟨m,hm⟩:∃ m,Hid (max ds.length es.length=m):=⟨_,rfl⟩;have bs:=Dj (show ps.length=m by rw[←bb.out,Bu,Dr,Dr,hm.out]);have bv:m≤12:=by rw[←hm.out];omega
 have cy:=Dj (show QFits (4*K+2) ps by rw[←bb.out];have:=zQ hK0 hf hfe;rwa [show (K+K+1)+(K+K+1)=4*K+2 by omega] at this);rw[bb.out];obtain⟨w1,d2,b1,l1,B1⟩:=ag w #[.bool false,.slice none 0 0,.slice none 0 0] 28;have bq:=Dj hf;have F:=Dj hfe;clear hf hfe
 rcases Nat.lt_or_ge ds.length es.length with hcs | hcs
 · have c9:=Dj (show m=es.length by rw[←hm.out];omega);have hO:ds.length≤es.length:=by omega
   go_enter Tryz.func16,Tryz.ntmps16;go_wp2_with fail;refine (aH 0 _ (by decide) (by decide)).mono ?_;rintro e w2 ⟨v1,rfl,H,b2⟩;obtain⟨z,rfl,hz,bx⟩:=H.frd;clear H;obtain⟨wA,w3,eA,p0,p1,p2,r0,r1,r2,eB,bf,b3,l3⟩:=bM w2 z;have M:=Di b1 b2;have ch:=Di M b3;have B3:=(Ea B1 b2).keep b3;have f:SumAt ps w2.heap.size w 0 w3:=⟨z,bf,hz.below b3,by rw[bx.out];simp[gH],ch⟩;have c2:=Dj (show w.heap.size≤w2.heap.size from M.size);have bc:=Dj (show w.heap.size≠w2.heap.size by have:=b2.size;omega);go_wp2;clear p0 p1 p2 r0 r1 r2 eA eB
   go_loopw [15] (fun i wr=>∃ k:Nat,k≤es.length∧i=.int .i64 (k:Int)∧SumAt ps w2.heap.size w k wr∧Blk wr w.heap.size 28 #[.bool false,.slice none 0 0,.slice none 0 0]) (fun i _=>es.length-(intOf i).toNat)
   case atStart=>exact⟨0,by omega,rfl,f,B3⟩
   case round =>
    clear f B3 bf;obtain⟨k,hk,rfl,f,hB⟩:=hrel;have c:=f.bel;obtain⟨s,hS,hs,b0,-⟩:=f;have j:=Dj b0;clear b0
    by_cases hkl:k<es.length
    · have d0:(k:Int)<(es.length:Int):=by omega
      have bd:k<1000000000000:=by omega
      go_wp2_with fail;refine (rN (h.below c) bd).mono ?_;rintro e w4 ⟨v4,rfl,bn,b4⟩;have l:=Di c b4;go_wp2_with fail;refine (rN (he.below l) bd).mono ?_;rintro e w5 ⟨v5,rfl,R,b5⟩;have D:=Di l b5;have hq:=Dj (show ps[k]?=some (((ds.map FrD.q).getD k 0-(es.map FrD.q).getD k 0)*((ds.map FrD.q).getD k 0-(es.map FrD.q).getD k 0)) by rw[←bb.out];exact vJ (by rw[Dr,Dr];omega));have g:=bI (bn.below b5) R (bq.out.getD hK0 k) (F.out.getD hK0 k) (by omega);have bo:=Dj ((bq.out.getD hK0 k).sub (F.out.getD hK0 k));obtain⟨x,hx⟩:∃ x,Hid ((ds.map FrD.q).getD k 0-(es.map FrD.q).getD k 0=x):=⟨_,rfl⟩;rw[hx.out] at hq g bo;go_wp2_with fail;refine g.mono ?_;rintro e w6 ⟨v6,rfl,V,b6⟩;clear g bn R;obtain⟨d,rfl,hd,N⟩:=V.frd;clear V;obtain⟨wA,w7,eA,p0,p1,p2,r0,r1,r2,eB,hD,b7,l7⟩:=bM w6 d;have y:=Di D b6;have E:=Di y b7;have T:=(((hS.below b4).below b5).below b6).below b7;have X:=(((hs.below b4).below b5).below b6).below b7;have cs:=(((Ea hB b4).keep b5).keep b6).keep b7;have bm:=hd.below b7;obtain⟨x0,x1,x2⟩:=T.cells;obtain⟨y0,y1,y2⟩:=hD.cells;have cv:=Dj (cT (n:=12) cy.out (by rw[bs.out];exact bv) k)
      have o:Fits (K+K+1) d.q:=by rw[N.out];exact bo.out
      have p:=Dj o;have cq:=Dj (show Fits (4*K+2) (d.q*d.q) by have:=o.mul o;rwa [show (K+K+1)+(K+K+1)=4*K+2 by omega] at this);have O:FV w7.drew s.v s.q:=X.below (DY _ _).drew;have r:FV w7.drew d.v d.q:=bm.below (DY _ _).drew;have c8:Below w.heap.size w w7.drew:=E.drew;have G:VarQ w7.drew w2.heap.size s:=T;have bg:VarQ w7.drew w6.heap.size d:=hD;have L:Blk w7.drew w.heap.size 28 #[.bool false,.slice none 0 0,.slice none 0 0]:=cs;clear hS hs hB hd X bm o;go_wp2_with fail
      go_region_with (first
       | (go_at_call 34;refine (fo r r p.out p.out (by omega)).mono ?_;rintro e w8 ⟨v8,rfl,cr,b8⟩;have cd:=O.below b8;have Z:=G.below b8;have c7:=Ea L b8;have c4:=Di c8 b8;obtain⟨s0,s1,s2⟩:=Z.cells;obtain⟨t0,t1,t2⟩:=(bg.below b8).cells)
       | (go_at_call 27;refine (dB cd cr (by rw[j.out];exact cv.out) cq.out (by omega)).mono ?_;rintro e w9 ⟨v9,rfl,J,b9⟩;obtain⟨t,rfl,ht,c3⟩:=J.frd;clear J;have U:=Z.below b9;have cl:=Ea c7 b9;have Y:=Di c4 b9;obtain⟨wz,q0,q1,q2,f0,f1,f2,ez,c0,oz⟩:=U.store t;have c5:=ht.onlyV U oz;have cg:=Blk.only cl oz bc.out;have bz:=oz.to_below Y c2.out Y.size;clear ht oz))
      all_goals go_wp2
      all_goals
       go_roundw
       case rel =>
        refine⟨k+1,by omega,by go_num,⟨t,c0,c5,?_,bz⟩,cg⟩;rw[c3.out,j.out,dG (q:=d.q*d.q) (by rw[N.out];exact hq.out)]
       case measure=>simp[intOf];omega
    · obtain rfl:k=es.length:=by omega
      have cx:decide ((es.length:Int)<(es.length:Int))=false:=Du (by omega);obtain⟨x0,x1,x2⟩:=hS.cells;obtain⟨w9,p0,p1,p2,r0,r1,r2,e9,h9,o9⟩:=aF hB s;obtain⟨y0,y1,y2⟩:=h9.cells;have I:=Dj (show s.q=aB ps by rw[j.out,Dp (by rw[bs.out,c9.out];exact Dt _)]);have cm:=hs.only_blk hB (ar _ _ _ _ _ _ _) o9;have C:=o9.to_below c (Dt _) c.size;clear hs;go_wp2;refine D4 (v:=aZ s.neg s.a s.la.length s.ca s.b s.lb.length s.cb) (by simp[results,Tryz.results16,go_sem,y0,y1,y2]) rfl ?_;exact⟨_,rfl,by rw[←I.out];exact cm,C⟩
 · have c9:=Dj (show m=ds.length by rw[←hm.out];omega);have hO:es.length≤ds.length:=by omega
   go_enter Tryz.func16,Tryz.ntmps16;go_wp2_with fail;refine (aH 0 _ (by decide) (by decide)).mono ?_;rintro e w2 ⟨v1,rfl,H,b2⟩;obtain⟨z,rfl,hz,bx⟩:=H.frd;clear H;obtain⟨wA,w3,eA,p0,p1,p2,r0,r1,r2,eB,bf,b3,l3⟩:=bM w2 z;have M:=Di b1 b2;have ch:=Di M b3;have B3:=(Ea B1 b2).keep b3;have f:SumAt ps w2.heap.size w 0 w3:=⟨z,bf,hz.below b3,by rw[bx.out];simp[gH],ch⟩;have c2:=Dj (show w.heap.size≤w2.heap.size from M.size);have bc:=Dj (show w.heap.size≠w2.heap.size by have:=b2.size;omega);go_wp2;clear p0 p1 p2 r0 r1 r2 eA eB
   go_loopw [15] (fun i wr=>∃ k:Nat,k≤ds.length∧i=.int .i64 (k:Int)∧SumAt ps w2.heap.size w k wr∧Blk wr w.heap.size 28 #[.bool false,.slice none 0 0,.slice none 0 0]) (fun i _=>ds.length-(intOf i).toNat)
   case atStart=>exact⟨0,by omega,rfl,f,B3⟩
   case round =>
    clear f B3 bf;obtain⟨k,hk,rfl,f,hB⟩:=hrel;have c:=f.bel;obtain⟨s,hS,hs,b0,-⟩:=f;have j:=Dj b0;clear b0
    by_cases hkl:k<ds.length
    · have d0:(k:Int)<(ds.length:Int):=by omega
      have bd:k<1000000000000:=by omega
      go_wp2_with fail;refine (rN (h.below c) bd).mono ?_;rintro e w4 ⟨v4,rfl,bn,b4⟩;have l:=Di c b4;go_wp2_with fail;refine (rN (he.below l) bd).mono ?_;rintro e w5 ⟨v5,rfl,R,b5⟩;have D:=Di l b5;have hq:=Dj (show ps[k]?=some (((ds.map FrD.q).getD k 0-(es.map FrD.q).getD k 0)*((ds.map FrD.q).getD k 0-(es.map FrD.q).getD k 0)) by rw[←bb.out];exact vJ (by rw[Dr,Dr];omega));have g:=bI (bn.below b5) R (bq.out.getD hK0 k) (F.out.getD hK0 k) (by omega);have bo:=Dj ((bq.out.getD hK0 k).sub (F.out.getD hK0 k));obtain⟨x,hx⟩:∃ x,Hid ((ds.map FrD.q).getD k 0-(es.map FrD.q).getD k 0=x):=⟨_,rfl⟩;rw[hx.out] at hq g bo;go_wp2_with fail;refine g.mono ?_;rintro e w6 ⟨v6,rfl,V,b6⟩;clear g bn R;obtain⟨d,rfl,hd,N⟩:=V.frd;clear V;obtain⟨wA,w7,eA,p0,p1,p2,r0,r1,r2,eB,hD,b7,l7⟩:=bM w6 d;have y:=Di D b6;have E:=Di y b7;have T:=(((hS.below b4).below b5).below b6).below b7;have X:=(((hs.below b4).below b5).below b6).below b7;have cs:=(((Ea hB b4).keep b5).keep b6).keep b7;have bm:=hd.below b7;obtain⟨x0,x1,x2⟩:=T.cells;obtain⟨y0,y1,y2⟩:=hD.cells;have cv:=Dj (cT (n:=12) cy.out (by rw[bs.out];exact bv) k)
      have o:Fits (K+K+1) d.q:=by rw[N.out];exact bo.out
      have p:=Dj o;have cq:=Dj (show Fits (4*K+2) (d.q*d.q) by have:=o.mul o;rwa [show (K+K+1)+(K+K+1)=4*K+2 by omega] at this);have O:FV w7.drew s.v s.q:=X.below (DY _ _).drew;have r:FV w7.drew d.v d.q:=bm.below (DY _ _).drew;have c8:Below w.heap.size w w7.drew:=E.drew;have G:VarQ w7.drew w2.heap.size s:=T;have bg:VarQ w7.drew w6.heap.size d:=hD;have L:Blk w7.drew w.heap.size 28 #[.bool false,.slice none 0 0,.slice none 0 0]:=cs;clear hS hs hB hd X bm o;go_wp2_with fail
      go_region_with (first
       | (go_at_call 34;refine (fo r r p.out p.out (by omega)).mono ?_;rintro e w8 ⟨v8,rfl,cr,b8⟩;have cd:=O.below b8;have Z:=G.below b8;have c7:=Ea L b8;have c4:=Di c8 b8;obtain⟨s0,s1,s2⟩:=Z.cells;obtain⟨t0,t1,t2⟩:=(bg.below b8).cells)
       | (go_at_call 27;refine (dB cd cr (by rw[j.out];exact cv.out) cq.out (by omega)).mono ?_;rintro e w9 ⟨v9,rfl,J,b9⟩;obtain⟨t,rfl,ht,c3⟩:=J.frd;clear J;have U:=Z.below b9;have cl:=Ea c7 b9;have Y:=Di c4 b9;obtain⟨wz,q0,q1,q2,f0,f1,f2,ez,c0,oz⟩:=U.store t;have c5:=ht.onlyV U oz;have cg:=Blk.only cl oz bc.out;have bz:=oz.to_below Y c2.out Y.size;clear ht oz))
      all_goals go_wp2
      all_goals
       go_roundw
       case rel =>
        refine⟨k+1,by omega,by go_num,⟨t,c0,c5,?_,bz⟩,cg⟩;rw[c3.out,j.out,dG (q:=d.q*d.q) (by rw[N.out];exact hq.out)]
       case measure=>simp[intOf];omega
    · obtain rfl:k=ds.length:=by omega
      have cx:decide ((ds.length:Int)<(ds.length:Int))=false:=Du (by omega);obtain⟨x0,x1,x2⟩:=hS.cells;obtain⟨w9,p0,p1,p2,r0,r1,r2,e9,h9,o9⟩:=aF hB s;obtain⟨y0,y1,y2⟩:=h9.cells;have I:=Dj (show s.q=aB ps by rw[j.out,Dp (by rw[bs.out,c9.out];exact Dt _)]);have cm:=hs.only_blk hB (ar _ _ _ _ _ _ _) o9;have C:=o9.to_below c (Dt _) c.size;clear hs;go_wp2;refine D4 (v:=aZ s.neg s.a s.la.length s.ca s.b s.lb.length s.cb) (by simp[results,Tryz.results16,go_sem,y0,y1,y2]) rfl ?_;exact⟨_,rfl,by rw[←I.out];exact cm,C⟩
def sj (d:FrD):Bool:=decide (d.la.length≤2)&&(decide (d.lb.length≤1)&&d.vld)
def si (ds:List FrD):Bool:=ds.all sj
def lw (ds:List FrD):Bool:=si ds&&decide (ds.length≤12)
theorem AF {w:World}{A:Option Addr}{c:Nat}{ds:List FrD}(h:FOkM w A c ds) (hs:si ds=true):FL w A c ds∧QFits 2 (ds.map FrD.q):=by
 unfold si at hs;rw[List.all_eq_true] at hs
 have b:∀ d∈ds,FV w d.v d.q∧Fits 2 d.q:=fun d hd=>by
  have h1:=hs d hd;unfold sj at h1
  simp only[Bool.and_eq_true,decide_eq_true_eq] at h1
  exact FrD.few.fv (K:=2) ⟨(h.2 d hd).1.nv (by omega),(h.2 d hd).2.nv (by omega),h1.1,by omega⟩ h1.2.2
 exact⟨⟨h.1,fun d hd=>(b d hd).1⟩,QFits.of fun d hd=>(b d hd).2⟩
theorem AH {w:World}{A:Option Addr}{c:Nat}{ds:List FrD}(h:FOkM w A c ds) (hs:lw ds=true):FL w A c ds∧QFits 2 (ds.map FrD.q)∧ds.length≤12:=by
 unfold lw at hs
 simp only[Bool.and_eq_true,decide_eq_true_eq] at hs
 obtain⟨h1,h2⟩:=AF h hs.1;exact⟨h1,h2,hs.2⟩
theorem Be (w:World) (d:FrD):∃ wA wB,w.alloc (.cells #[.bool false,.slice none 0 0,.slice none 0 0] 28)=wA∧wA.cell? ⟨w.heap.size,0,none⟩=some (.bool false)∧wA.cell? ⟨w.heap.size,1,none⟩=some (.slice none 0 0)∧wA.cell? ⟨w.heap.size,2,none⟩=some (.slice none 0 0)∧wA.frozen? ⟨w.heap.size,0,none⟩=false∧wA.frozen? ⟨w.heap.size,1,none⟩=false∧wA.frozen? ⟨w.heap.size,2,none⟩=false ∧
 ((wA.setCell ⟨w.heap.size,0,none⟩ (.bool d.neg)).setCell ⟨w.heap.size,1,none⟩ (.slice d.a d.la.length d.ca)).setCell ⟨w.heap.size,2,none⟩ (.slice d.b d.lb.length d.cb)=wB∧VarQ wB w.heap.size d∧Below w.heap.size w wB∧w.heap.size<wB.heap.size:=bM w d
theorem m7 {A:Option Addr}{c:Nat}{ds:List FrD}{w:World}(h:FOkM w A c ds) :
 Calls Tryz.prog 10 #[.slice A ds.length c] w (lX (lw ds) w):=by
 have hl:=h.1.1;have B:=h.1.2.1;obtain⟨v,hv⟩:∃ v,Hid (lw ds=v):=⟨_,rfl⟩;rw[hv.out];go_enter Tryz.func10,Tryz.ntmps10;go_wp2
 go_loopw [7] (fun i wr=>lY sj ds w i wr) (fun i _=>ds.length-(intOf i).toNat)
 case atStart=>exact⟨0,by omega,rfl,rfl,DY _ _⟩
 case round =>
  obtain⟨k,hk,rfl,j,f⟩:=hrel
  by_cases hkl:k<ds.length
  · obtain⟨a,d,rfl,q,s,x,r,m,g⟩:=(h.below f).at hkl;obtain⟨wA,w4,eA,p0,p1,p2,r0,r1,r2,eB,o,b4,l4⟩:=bM wr d;have l:=m.below b4;have b:=Di f b4;obtain⟨x0,x1,x2⟩:=o.cells;have t:(k:Int)<(ds.length:Int):=by omega
    have gA:=m.1.big;have gB:=m.2.big
    by_cases h1:d.la.length≤2
    · have f1:decide ((2:Int)<(d.la.length:Int))=false:=Du (by omega)
      by_cases h2:d.lb.length≤1
      · have f2:decide ((1:Int)<(d.lb.length:Int))=false:=Du (by omega);obtain⟨u,hu⟩:∃ u,Hid (jE d.neg d.la d.lb=u):=⟨_,rfl⟩;have n:=Dj (show sj d=u by unfold sj FrD.vld;rw[Dv h1,Dv h2,hu.out];rfl);go_wp2_with fail;refine (kz (neg:=d.neg) (l.1.nv (by omega)) (l.2.nv (by omega)) (by omega) (by omega)).mono ?_;rintro en wv ⟨rfl,bv⟩;rw[hu.out];have bT:=Di b bv
        rcases u with _ | _
        · have hf:Hid (v=false):=by show v=false;rw[←hv.out];unfold lw;rw[show si ds=false from iX g.out n.out];rfl
          go_wp2;go_ret;exact⟨by rw[hf.out];rfl,bT⟩
        · have hf:=Dj (ju j.out g.out n.out);go_wp2;go_roundw
          case rel=>exact⟨k+1,by omega,by go_num,hf,bT⟩
          case measure=>simp[intOf];omega
      · have f2:decide ((1:Int)<(d.lb.length:Int))=true:=Dv (by omega);have hf:Hid (v=false):=by show v=false;rw[←hv.out];unfold lw;rw[show si ds=false from iX g.out (by unfold sj;rw[Du h2];simp)];rfl
        clear h2;go_wp2;go_ret;exact⟨by rw[hf.out];rfl,b⟩
    · have f1:decide ((2:Int)<(d.la.length:Int))=true:=Dv (by omega);have hf:Hid (v=false):=by show v=false;rw[←hv.out];unfold lw;rw[show si ds=false from iX g.out (by unfold sj;rw[Du h1];rfl)];rfl
      clear h1;go_wp2;go_ret;exact⟨by rw[hf.out];rfl,b⟩
  · obtain rfl:k=ds.length:=by omega
    have p:decide ((ds.length:Int)<(ds.length:Int))=false:=Du (by omega);obtain⟨z,hz⟩:∃ z,decide (ds.length≤12)=z:=⟨_,rfl⟩;have y:decide ((ds.length:Int)≤12)=z:=by rw[←hz];exact decide_eq_decide.2 (by omega)
    have hf:Hid (v=z):=by show v=z;rw[←hv.out];unfold lw;have:=j.out;rw[List.take_length] at this;rw[show si ds=true from this,hz];rfl
    clear hz;go_wp2;go_ret;exact⟨by rw[hf.out];rfl,f⟩
structure PtD where
 pay:RwD
 mults:RwD
 low:RwD
 high:RwD
 lev:FrD
abbrev PtD.v (x:PtD):Value:=.agg #[.slice x.pay.a x.pay.ds.length x.pay.c,.slice x.mults.a x.mults.ds.length x.mults.c,.slice x.low.a x.low.ds.length x.low.c,.slice x.high.a x.high.ds.length x.high.c,.bool x.lev.neg,.slice x.lev.a x.lev.la.length x.lev.ca,.slice x.lev.b x.lev.lb.length x.lev.cb]
structure PtL (w:World) (x:PtD):Prop where
 pay:FL w x.pay.a x.pay.c x.pay.ds
 mults:FL w x.mults.a x.mults.c x.mults.ds
 low:FL w x.low.a x.low.c x.low.ds
 high:FL w x.high.a x.high.c x.high.ds
 lev:FV w x.lev.v x.lev.q
structure PtF (K:Nat) (x:PtD):Prop where
 pay:QFits K x.pay.qs
 mults:QFits K x.mults.qs
 low:QFits K x.low.qs
 high:QFits K x.high.qs
 lev:Fits K x.lev.q
theorem PtL.below {w w':World}{x:PtD}(h:PtL w x) (hb:Below w.heap.size w w'):PtL w' x:=⟨h.pay.below hb,h.mults.below hb,h.low.below hb,h.high.below hb,h.lev.below hb⟩
def VarP (w:World) (g:Nat) (x:PtD):Prop:=Blk w g 46 #[.slice x.pay.a x.pay.ds.length x.pay.c,.slice x.mults.a x.mults.ds.length x.mults.c,.slice x.low.a x.low.ds.length x.low.c,.slice x.high.a x.high.ds.length x.high.c,.bool x.lev.neg,.slice x.lev.a x.lev.la.length x.lev.ca,.slice x.lev.b x.lev.lb.length x.lev.cb]
theorem VarP.below {w w':World}{g:Nat}{x:PtD}(h:VarP w g x) (hb:Below w.heap.size w w'):VarP w' g x:=Ea h hb
theorem VarP.only {w w':World}{g g':Nat}{x:PtD}(h:VarP w g x) (ho:Only w w' g') (hne:g≠g'):VarP w' g x:=Blk.only h ho hne
theorem VarP.cells {w:World}{g:Nat}{x:PtD}(h:VarP w g x):w.cell? ⟨g,0,none⟩=some (.slice x.pay.a x.pay.ds.length x.pay.c)∧w.cell? ⟨g,1,none⟩=some (.slice x.mults.a x.mults.ds.length x.mults.c)∧w.cell? ⟨g,2,none⟩=some (.slice x.low.a x.low.ds.length x.low.c)∧w.cell? ⟨g,3,none⟩=some (.slice x.high.a x.high.ds.length x.high.c)∧w.cell? ⟨g,4,none⟩=some (.bool x.lev.neg)∧w.cell? ⟨g,5,none⟩=some (.slice x.lev.a x.lev.la.length x.lev.ca)∧w.cell? ⟨g,6,none⟩=some (.slice x.lev.b x.lev.lb.length x.lev.cb) :=
 ⟨D9 h 0,D9 h 1,D9 h 2,D9 h 3,D9 h 4,D9 h 5,D9 h 6⟩
structure Ck (w:World) (gs gx:Nat) (s:FrD) (x:PtD):Prop where
 sum:VarQ w gs s
 pt:VarP w gx x
theorem Ck.below {w w':World}{gs gx:Nat}{s:FrD}{x:PtD}(h:Ck w gs gx s x) (hb:Below w.heap.size w w'):Ck w' gs gx s x:=⟨h.sum.below hb,h.pt.below hb⟩
theorem Ck.only {w w':World}{gs gx g:Nat}{s:FrD}{x:PtD}(h:Ck w gs gx s x) (ho:Only w w' g) (h1:gs≠g) (h2:gx≠g):Ck w' gs gx s x:=⟨h.sum.only ho h1,h.pt.only ho h2⟩
def kE (ms:List Int) (pay low high:List Rat) (i:Nat):Bool :=
 !(decide (pay.getD i 0<0))&&(!(decide (((ms.getD i 0:Int):Rat)<pay.getD i 0))&&(bL (low.getD i 0) (decide (pay.getD i 0=0))&&bL (high.getD i 0) (decide (pay.getD i 0=((ms.getD i 0:Int):Rat)))))
def kP (ns:List NdD) (k:Nat):Nat:=(ns.getD k ⟨0,0⟩).p.toNat
def lOf (ns:List NdD) (k:Nat):Int:=(ns.getD k ⟨0,0⟩).l
def lU (ns:List NdD) (pay mults:List Rat) (k:Nat):Bool :=
 !(decide (aB (dW (kP ns k) pay)<((lOf ns k:Int):Rat)))&&bL (mults.getD k 0) (decide (aB (dW (kP ns k) pay)=((lOf ns k:Int):Rat)))
def cC (ns:List NdD) (mults:List Rat) (i:Nat):List Rat:=(List.range ns.length).map fun k=>if eQ (kP ns k) i=true then mults.getD k 0 else 0
def gY (ns:List NdD) (tg pay mults low high:List Rat) (lev:Rat) (i:Nat):Bool :=
 decide (pay.getD i 0-tg.getD i 0=lev+low.getD i 0-high.getD i 0+aB (cC ns mults i))
def jR (n m:Nat) (pay mults low high:List Rat):Bool:=decide (pay.length=n)&&(decide (low.length=n)&&(decide (high.length=n)&&decide (mults.length=m)))
def fC (tg:List Rat) (ns:List NdD) (ms:List Int) (sum:Rat) (pay mults low high:List Rat) (lev:Rat):Bool :=
 jR ms.length ns.length pay mults low high&&((List.range ms.length).all (kE ms pay low high)&&(decide (aB pay=sum)&&((List.range ns.length).all (lU ns pay mults)&&(List.range ms.length).all (gY ns tg pay mults low high lev))))
def cP (tg:List Rat) (ns:List NdD) (ms:List Int) (sum:Rat) (pay mults low high:List Rat) (lev:Rat):Int :=
 if argsE tg.length ns ms≠0 then argsE tg.length ns ms else if fC tg ns ms sum pay mults low high lev=true then 0 else 13
theorem fM (ns:List NdD) (mults:List Rat) (i:Nat):(cC ns mults i).length=ns.length:=by simp[cC]
theorem jt {ns:List NdD}{mults:List Rat}{i k:Nat}(hk:k<ns.length):(cC ns mults i)[k]?=some (if eQ (kP ns k) i=true then mults.getD k 0 else 0):=by
 unfold cC;rw[Dq,DS hk];rfl
theorem iE {K i:Nat}{ns:List NdD}{mults:List Rat}(hK:0<K) (h:QFits K mults):QFits K (cC ns mults i):=fun q hq=>by
 obtain⟨k,hk,rfl⟩:=DU.1 hq
 split
 · exact h.getD hK k
 · exact Fits.zero hK
theorem uz {tg:List Rat}{ns:List NdD}{ms:List Int}{sum:Rat}{pay mults low high:List Rat}{lev:Rat}{e:Int}(h:argsE tg.length ns ms=e) (he:e≠0):cP tg ns ms sum pay mults low high lev=e:=by
 unfold cP;rw[h,if_pos he]
theorem uy {tg:List Rat}{ns:List NdD}{ms:List Int}{sum:Rat}{pay mults low high:List Rat}{lev:Rat}{b:Bool}(h:argsE tg.length ns ms=0) (hb:fC tg ns ms sum pay mults low high lev=b):cP tg ns ms sum pay mults low high lev=if b=true then 0 else 13:=by
 unfold cP;rw[h,if_neg (by simp),hb]
def AllI (f:Nat→Bool) (k:Nat):Prop:=∀ j,j<k→f j=true
theorem AllI.all {f:Nat→Bool}{k:Nat}(h:AllI f k):(List.range k).all f=true:=List.all_eq_true.2 fun j hj=>h j (DT.1 hj)
theorem AllI.step {f:Nat→Bool}{k:Nat}(h:AllI f k) (hk:f k=true):AllI f (k+1):=fun j hj=>by
 rcases Nat.lt_succ_iff_lt_or_eq.1 hj with h1 | rfl
 · exact h j h1
 · exact hk
theorem uE {f:Nat→Bool}{n k:Nat}(hk:k<n) (h:f k=false):(List.range n).all f=false:=List.all_eq_false.2 ⟨k,DT.2 hk,by rw[h];decide⟩
theorem kl {tg:List Rat}{ns:List NdD}{ms:List Int}{sum:Rat}{pay mults low high:List Rat}{lev:Rat}(h:jR ms.length ns.length pay mults low high=false):fC tg ns ms sum pay mults low high lev=false:=by unfold fC;rw[h];rfl
theorem rM {tg:List Rat}{ns:List NdD}{ms:List Int}{sum:Rat}{pay mults low high:List Rat}{lev:Rat}{k:Nat}(hk:k<ms.length) (h:kE ms pay low high k=false):fC tg ns ms sum pay mults low high lev=false:=by unfold fC;rw[uE hk h];simp
theorem zY {tg:List Rat}{ns:List NdD}{ms:List Int}{sum:Rat}{pay mults low high:List Rat}{lev:Rat}(h:aB pay≠sum):fC tg ns ms sum pay mults low high lev=false:=by unfold fC;rw[Du h];simp
theorem zZ {tg:List Rat}{ns:List NdD}{ms:List Int}{sum:Rat}{pay mults low high:List Rat}{lev:Rat}{k:Nat}(hk:k<ns.length) (h:lU ns pay mults k=false):fC tg ns ms sum pay mults low high lev=false:=by unfold fC;rw[uE hk h];simp
theorem CC {tg:List Rat}{ns:List NdD}{ms:List Int}{sum:Rat}{pay mults low high:List Rat}{lev:Rat}{k:Nat}(hk:k<ms.length) (h:gY ns tg pay mults low high lev k=false):fC tg ns ms sum pay mults low high lev=false:=by unfold fC;rw[uE hk h];simp
theorem tm {tg:List Rat}{ns:List NdD}{ms:List Int}{sum:Rat}{pay mults low high:List Rat}{lev:Rat}(h1:jR ms.length ns.length pay mults low high=true) (h2:AllI (kE ms pay low high) ms.length) (h3:aB pay=sum) (h4:AllI (lU ns pay mults) ns.length) (h5:AllI (gY ns tg pay mults low high lev) ms.length):fC tg ns ms sum pay mults low high lev=true:=by
 unfold fC;rw[h1,h2.all,Dv h3,h4.all,h5.all];rfl
abbrev Em:=@VarP.below
end Go.Proofs.YtjhkapjadfpimaaGreat
