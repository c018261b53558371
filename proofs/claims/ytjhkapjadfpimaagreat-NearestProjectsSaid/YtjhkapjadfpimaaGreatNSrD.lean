/- Contracts of functions, for the law. -/
import Derived.Test.YtjhkapjadfpimaaGreatNUq
namespace Go.Proofs.YtjhkapjadfpimaaGreat
set_option linter.unusedVariables false
set_option linter.unusedSimpArgs false
open Go.RowKit Plain
def pI (a b:List Int):Nat→Int
 | 0=>0
 | k+1=>pI a b k+a.getD k 0*b.getD k 0
def prodI (a b:List Int):Int:=pI a b a.length
def P1 (c:List Int):List Rat:=c.map fun (z:Int)=>(z:Rat)
theorem iT (c:List Int):(P1 c).length=c.length:=by simp[P1]
theorem jX (c:List Int) (i:Nat):gt (P1 c) i=((c.getD i 0:Int):Rat):=by
 unfold gt P1;rw[a1l,a1r,a1l]
 cases c[i]? <;> rfl
theorem xH (a b:List Int):∀ k,((pI a b k:Int):Rat)=sm k fun i=>gt (P1 a) i*gt (P1 b) i
 | 0=>rfl
 | k+1=>by
  show ((pI a b k+a.getD k 0*b.getD k 0:Int):Rat)=sm k _+gt (P1 a) k*gt (P1 b) k
  rw[Rat.intCast_add,Rat.intCast_mul,xH a b k,jX,jX]
theorem zP {a b:List Int}{n:Nat}(ha:a.length=n) (hb:b.length=n):((prodI a b:Int):Rat)=F8 (P1 a) (P1 b):=by
 rw[O9 (n:=n) (by rw[iT,ha]) (by rw[iT,hb])];unfold prodI;rw[xH,ha];rfl
def ceC (ns:List NdD) (ms:List Int) (c:Nat):List Int × Int:=(C5 ns ms).getD c ([],0)
def H3 (ns:List NdD) (ms:List Int) (ch:List Nat):List (List Int × Int):=(List.replicate ms.length 1,0)::ch.map (ceC ns ms)
def W5 (L:List (List Int × Int)):C4:=L.map fun a=>L.map fun b=>((prodI a.1 b.1:Int):Rat)
def jP (sum:Rat) (tg:List Rat) (L:List (List Int × Int)):List Rat:=L.zipIdx.map fun p=>(if p.2=0 then sum else ((p.1.2:Int):Rat))-o5 (I7 p.1.1 tg)
def lC (len:Nat) (ps:List (Nat × Rat)):List Rat:=ps.foldl (fun l p=>l.set p.1 p.2) (List.replicate len 0)
def sC (tg:List Rat) (ns:List NdD) (n:Nat) (mults low high:List Rat) (lev:Rat):List Rat :=
 (List.range n).map fun i=>tg.getD i 0+(lev+low.getD i 0-high.getD i 0+o5 (F7 ns mults i))
theorem putC_len (len:Nat) (ps:List (Nat × Rat)):(lC len ps).length=len:=by
 have b:∀ (ps:List (Nat × Rat)) (l:List Rat),(ps.foldl (fun l p=>l.set p.1 p.2) l).length=l.length:=fun ps=>by
  induction ps with
  | nil=>exact fun _=>rfl
  | cons p ps ih=>intro l;rw[List.foldl_cons,ih,a2i]
 unfold lC;rw[b,a1p]
theorem zL {n j:Nat}{ps:List (Nat × Rat)}{p:Nat × Rat}(h:ps[j]?=some p):lC n (ps.take (j+1))=(lC n (ps.take j)).set p.1 p.2:=by
 unfold lC;rw[a3e,h,List.foldl_append];rfl
theorem sA (tg:List Rat) (ns:List NdD) (n:Nat) (mults low high:List Rat) (lev:Rat):(sC tg ns n mults low high lev).length=n:=by simp[sC]
theorem xG {tg:List Rat}{ns:List NdD}{n:Nat}{mults low high:List Rat}{lev:Rat}{i:Nat}(hi:i<n):(sC tg ns n mults low high lev)[i]?=some (tg.getD i 0+(lev+low.getD i 0-high.getD i 0+o5 (F7 ns mults i))):=by
 unfold sC;rw[a1r,a2t hi];rfl
def eG (ns:List NdD) (ms:List Int) (tg:List Rat) (sum:Rat) (ch:List Nat):List Rat × Int:=J5 (W5 (H3 ns ms ch)) (jP sum tg (H3 ns ms ch))
def muC (ns:List NdD) (ms:List Int) (ch:List Nat) (y:List Rat):List Rat:=lC (C5 ns ms).length (ch.zip (y.drop 1))
def okC (ns:List NdD) (ms:List Int) (tg:List Rat) (sum:Rat) (mu:List Rat) (lev:Rat):Bool :=
 O4 tg ns ms sum (sC tg ns ms.length (mu.take ns.length) ((mu.drop ns.length).take ms.length) (mu.drop (ns.length+ms.length)) lev) (mu.take ns.length) ((mu.drop ns.length).take ms.length) (mu.drop (ns.length+ms.length)) lev
def Y5 (ns:List NdD) (ms:List Int) (tg:List Rat) (sum:Rat) (ch:List Nat):Bool :=
 decide ((eG ns ms tg sum ch).2=0)&&okC ns ms tg sum (muC ns ms ch (eG ns ms tg sum ch).1) ((eG ns ms tg sum ch).1.getD 0 0)
def H2 (ns:List NdD) (ms:List Int) (tg:List Rat) (sum:Rat):Nat→List Nat→Nat→Bool
 | 0,ch,_=>Y5 ns ms tg sum ch
 | many+1,ch,fr=>Y5 ns ms tg sum ch || (List.range (C5 ns ms).length).any fun i=>decide (fr≤i)&&H2 ns ms tg sum many (ch++[i]) (i+1)
section
variable {ns:List NdD}{ms:List Int}{tg:List Rat}{sum:Rat}
theorem kQ:∀ (l:List Nat) (many:Nat) (ch:List Nat) (fr:Nat),l.Pairwise (· < ·)→(∀ a∈l,fr≤a∧a<(C5 ns ms).length)→l.length≤many→Y5 ns ms tg sum (ch++l)=true→H2 ns ms tg sum many ch fr=true
 | [],many,ch,fr,_,_,_,h=>by
  rw[List.append_nil] at h
  cases many with
  | zero=>exact h
  | succ m=>show (Y5 ns ms tg sum ch || _)=true;rw[h];rfl
 | a::l,0,ch,fr,_,_,hl,_=>by simp at hl
 | a::l,m+1,ch,fr,hp,hr,hl,h=>by
  show (Y5 ns ms tg sum ch || _)=true
  rw[Bool.or_eq_true];refine .inr (List.any_eq_true.2 ⟨a,a2u.2 (hr a a2o).2,?_⟩);rw[a3m];obtain⟨h1,h2⟩:=List.pairwise_cons.1 hp;refine⟨a1w (hr a a2o).1,kQ l m (ch++[a]) (a+1) h2 (fun b hb=>⟨h1 b hb,(hr b (a2n _ hb)).2⟩) (by simpa using hl) ?_⟩;rw[List.append_assoc];exact h
theorem kR {many:Nat}{ch:List Nat}{fr:Nat}(h:Y5 ns ms tg sum ch=true):H2 ns ms tg sum many ch fr=true:=by
 cases many with
 | zero=>exact h
 | succ m=>show (Y5 ns ms tg sum ch || _)=true;rw[h];rfl
theorem zB {m:Nat}{ch:List Nat}{fr i:Nat}(hi:i<(C5 ns ms).length) (hf:fr≤i) (h:H2 ns ms tg sum m (ch++[i]) (i+1)=true):H2 ns ms tg sum (m+1) ch fr=true:=by
 show (Y5 ns ms tg sum ch || _)=true
 rw[Bool.or_eq_true];exact .inr (List.any_eq_true.2 ⟨i,a2u.2 hi,by rw[a3m];exact⟨a1w hf,h⟩⟩)
theorem zA {m:Nat}{ch:List Nat}{fr:Nat}(h:Y5 ns ms tg sum ch=false) (hn:∀ i,fr≤i→i<(C5 ns ms).length→H2 ns ms tg sum m (ch++[i]) (i+1)=false):H2 ns ms tg sum (m+1) ch fr=false:=by
 show (Y5 ns ms tg sum ch || _)=false
 rw[Bool.or_eq_false_iff];refine⟨h,List.any_eq_false.2 fun i hi=>?_⟩;rw[a2u] at hi
 by_cases e:fr≤i
 · rw[hn i e hi];simp
 · rw[a1v e];simp
theorem Y3:(C5 ns ms).length=(o0 ns ms).length:=by rw[G5,I9];omega
theorem yF (hn:ms.length≤8){k:Nat}(hk:k<(C5 ns ms).length):(ceC ns ms k).1.length=ms.length∧P1 (ceC ns ms k).1=nrm (o0 ns ms) k∧(((ceC ns ms k).2:Int):Rat)=lst (o0 ns ms) k:=by
 have b:∀ (c:List Int) (r:List Rat),c.length=ms.length→r.length=ms.length→(∀ i,i<ms.length→((c.getD i 0:Int):Rat)=gt r i)→P1 c=r:=fun c r h1 h2 h3 =>
  R6 (by rw[iT,h1,h2]) fun i hi=>by rw[jX];exact h3 i (by rw[←h2];exact hi)
 have hz:((0:Int):Rat)=0:=rfl;have ho:((1:Int):Rat)=1:=rfl;have hm:((-1:Int):Rat)=-1:=rfl;rw[G5] at hk;unfold ceC
 by_cases e1:k<ns.length
 · rw[Y2 e1,(M7 e1).1,(M7 e1).2];refine⟨X7 _ _,b _ _ (X7 _ _) (P6 _ _ _) fun i hi=>?_,rfl⟩;rw[fR hi];unfold S3 jR;rw[a1l,a1r,a2t hi]
   show (((if M8 (eO ns k) i=true then 1 else 0:Int)):Rat)=_
   by_cases e:M8 (eO ns k) i=true
   · rw[if_pos e,if_pos e,ho]
   · rw[if_neg e,if_neg e,hz]
 · by_cases e2:k<ns.length+ms.length
   · obtain⟨i,rfl⟩:∃ i,k=ns.length+i:=⟨k-ns.length,by omega⟩;have hi:i<ms.length:=by omega
     rw[cB hi,(Q7 hi).1,(Q7 hi).2];refine⟨I4 _ _ _,b _ _ (I4 _ _ _) (P6 _ _ _) fun j hj=>?_,rfl⟩;rw[eW hn hi hj]
     show ((_:Int):Rat)=_
     rw[kI hi hj];unfold dl
     by_cases e:i=j
     · rw[if_pos e,if_pos e,ho,Rat.mul_one]
     · rw[if_neg e,if_neg e,hz,Rat.mul_zero]
   · obtain⟨i,rfl⟩:∃ i,k=ns.length+ms.length+i:=⟨k-(ns.length+ms.length),by omega⟩;have hi:i<ms.length:=by omega
     rw[fQ hi,(X1 hi).1,(X1 hi).2];refine⟨I4 _ _ _,b _ _ (I4 _ _ _) (P6 _ _ _) fun j hj=>?_,rfl⟩;rw[eW hn hi hj]
     show ((_:Int):Rat)=_
     rw[kI hi hj];unfold dl
     by_cases e:i=j
     · rw[if_pos e,if_pos e,hm,Rat.mul_one]
     · rw[if_neg e,if_neg e,hz,Rat.mul_zero]
theorem bO (ch:List Nat):(H3 ns ms ch).length=ch.length+1:=by simp[H3]
theorem jS (hn:ms.length≤8){ch:List Nat}(hc:∀ a∈ch,a<(C5 ns ms).length):∀ p∈H3 ns ms ch,p.1.length=ms.length:=fun p hp=>by
 unfold H3 at hp
 rcases a3i.1 hp with rfl | hp
 · simp
 · obtain⟨a,ha,rfl⟩:=a2v.1 hp;exact (yF hn (hc a ha)).1
theorem nL (hn:ms.length≤8){ch:List Nat}(hc:∀ a∈ch,a<(C5 ns ms).length):(H3 ns ms ch).map (fun p=>P1 p.1)=j8 ms.length (o0 ns ms) ch:=by
 unfold H3 j8;rw[List.map_cons,List.map_map]
 congr 1
 · show P1 (List.replicate ms.length 1)=_
   unfold P1;rw[List.map_replicate];rfl
 · exact List.map_congr_left fun a ha=>(yF hn (hc a ha)).2.1
theorem qJ (hn:ms.length≤8){ch:List Nat}(hc:∀ a∈ch,a<(C5 ns ms).length):W5 (H3 ns ms ch)=M2 (j8 ms.length (o0 ns ms) ch):=by
 rw[←nL hn hc];unfold W5 M2;rw[List.map_map];refine List.map_congr_left fun a ha=>?_
 show _=((H3 ns ms ch).map fun p=>P1 p.1).map (F8 (P1 a.1))
 rw[List.map_map];exact List.map_congr_left fun b hb=>zP (jS hn hc a ha) (jS hn hc b hb)
theorem xY {n:Nat}{c:List Int}{qs:List Rat}(hc:c.length=n) (hq:qs.length=n):o5 (I7 c qs)=ip n (gt (P1 c)) (gt qs):=by
 rw[V7,gF (by rw[hc,hq]),hq];unfold ip;refine j7 fun i hi=>?_;have e:=qL (c:=c) (qs:=qs) (k:=i) (by omega) (by omega);rw[jX];unfold gt;rw[a1l (l:=I7 c qs),e];rfl
theorem bQ (L:List (List Int × Int)):(jP sum tg L).length=L.length:=by simp[jP]
theorem xA {L:List (List Int × Int)}{j:Nat}{p:List Int × Int}(h:L[j]?=some p):(jP sum tg L)[j]?=some ((if j=0 then sum else ((p.2:Int):Rat))-o5 (I7 p.1 tg)):=by
 unfold jP;rw[a1r,List.getElem?_zipIdx,h]
 simp
theorem gramC_at {L:List (List Int × Int)}{j:Nat}{p:List Int × Int}(h:L[j]?=some p):(W5 L)[j]?=some (L.map fun b=>((prodI p.1 b.1:Int):Rat)):=by
 unfold W5;rw[a1r,h];rfl
theorem wY (hn:ms.length≤8) (ht:tg.length=ms.length){ch:List Nat}(hc:∀ a∈ch,a<(C5 ns ms).length){j:Nat}(hj:j<ch.length+1) :
 gt (jP sum tg (H3 ns ms ch)) j=gt (sum::ch.map (lst (o0 ns ms))) j-ip ms.length (fn (j8 ms.length (o0 ns ms) ch) j) (gt tg):=by
 obtain⟨p,hp⟩:∃ p,(H3 ns ms ch)[j]?=some p:=⟨_,a1m (by rw[bO];exact hj)⟩;unfold gt;rw[a1l,xA hp]
 show (if j=0 then sum else ((p.2:Int):Rat))-_=_
 have hN:fn (j8 ms.length (o0 ns ms) ch) j=gt (P1 p.1):=by
  funext i
  unfold fn gt;rw[←nL hn hc,a1l (l:=(H3 ns ms ch).map _),a1r,hp];rfl
 rw[hN,xY (jS hn hc p (a1n hp)) ht]
 congr 1
 cases j with
 | zero=>rfl
 | succ j =>
  rw[if_neg (by omega)];have h1:(ch.map (ceC ns ms))[j]?=some p:=hp;rw[a1r] at h1
  cases hk:ch[j]? with
  | none=>rw[hk] at h1;cases h1
  | some k =>
   rw[hk] at h1
   injection h1 with h1
   have h2:(sum::ch.map (lst (o0 ns ms))).getD (j+1) 0=lst (o0 ns ms) k:=by
    show (ch.map (lst (o0 ns ms))).getD j 0=_
    rw[a1l,a1r,hk];rfl
   rw[h2,←(yF hn (hc k (a1n hk))).2.2,h1]
end
attribute [local go_sem ↓] Go.wp_at_zero Go.wp_at_succ
set_option maxRecDepth 100000
set_option maxHeartbeats 40000000
theorem lI {x y:Int}(hx:x.natAbs≤1) (hy:y.natAbs≤1):(x*y).natAbs≤1:=by
 rw[Int.natAbs_mul];exact a1t (Nat.mul_le_mul hx hy) (by decide)
theorem pI_le {a b:List Int}(ha:∀ z∈a,z.natAbs≤1) (hb:∀ z∈b,z.natAbs≤1):∀ k,(pI a b k).natAbs≤k
 | 0=>by simp[pI]
 | k+1=>by
  have g:∀ (l:List Int),(∀ z∈l,z.natAbs≤1)→(l.getD k 0).natAbs≤1:=fun l hl=>by
   rw[a1l]
   cases e:l[k]? with
   | none=>decide
   | some z=>exact hl z (a1n e)
  have h1:=pI_le ha hb k;have h2:=lI (g a ha) (g b hb)
  show (pI a b k+a.getD k 0*b.getD k 0).natAbs≤k+1
  omega
theorem rY {C D:Option Addr}{cc cd:Nat}{xs ys:List Int}{w:World}(ha0:ZL w C cc xs) (hb0:ZL w D cd ys) (ha:∀ z∈xs,z.natAbs≤1) (hb:∀ z∈ys,z.natAbs≤1) (hl:xs.length=ys.length) (hl12:ys.length≤12) :
 Calls Tryz.prog 58 #[.slice C xs.length cc,.slice D ys.length cd] w (V6 ((prodI xs ys:Int):Rat) w):=by
 have d:=a1k ha;have f:=a1k hb;have y:=a1k hl;obtain⟨m,hm⟩:∃ m,Hid (ys.length=m):=⟨_,rfl⟩;have E:m≤12:=by rw[←hm.out];exact hl12
 have r:=ha0.len;have x:=hb0.len;rw[hl,hm.out] at r;rw[hm.out] at x;obtain⟨w1,G,b1,l1,B1⟩:=f8 w #[.bool false,.slice none 0 0,.slice none 0 0] 28;have p:=a1k (show prodI xs ys=pI xs ys m by unfold prodI;rw[hl,hm.out]);rw[p.out];rw[hl,hm.out];clear ha hb hl;go_enter Tryz.func58,Tryz.ntmps58;go_wp2
 go_loopw [5,6] (fun v i wr=>∃ k:Nat,k≤m∧i=.int .i64 (k:Int)∧v=.int .i64 (pI xs ys k)∧Below w1.heap.size w1 wr) (fun _ i _=>m-(intOf i).toNat)
 case atStart=>exact⟨0,by omega,rfl,rfl,a3t _ _⟩
 case round =>
  obtain⟨k,hk,rfl,rfl,c⟩:=hrel
  by_cases hkl:k<m
  · have H:(k:Int)<(m:Int):=by omega
    have g:=a1j b1 c;obtain⟨aa,za,eA,L,I,n⟩:=(ha0.below g).at (k:=k) (by rw[y.out,hm.out];exact hkl);obtain⟨ab,zb,eB,J,F,h⟩:=(hb0.below g).at (k:=k) (by rw[hm.out];exact hkl);rw[eA,eB];have h1:=lI (d.out za (a1n n.out)) (f.out zb (a1n h.out));have h2:=pI_le d.out f.out k
    have hs:pI xs ys (k+1)=pI xs ys k+za*zb:=by
     show pI xs ys k+xs.getD k 0*ys.getD k 0=_
     rw[a1l,n.out,a1l,h.out];rfl
    have B:IntKind.i64.wrap (za*zb)=za*zb:=by rw[IntKind.wrap_i64];omega
    have A:IntKind.i64.wrap (pI xs ys k+za*zb)=pI xs ys (k+1):=by rw[IntKind.wrap_i64,hs];omega
    clear h1 h2 hs;go_wp2
    go_region
    go_wp2;go_roundw
    case rel=>exact⟨k+1,by omega,by go_num,rfl,c.trans ((a3t _ _).drew.mono c.size)⟩
    case measure=>simp[intOf];omega
  · obtain rfl:k=m:=by omega
    have t1:decide ((k:Int)<(k:Int))=false:=a1v (by omega);have h2:=pI_le d.out f.out k;have l:=t9 (pI xs ys k) wr (by omega) (by omega);clear h2;go_wp2_with fail;refine l.mono ?_;rintro e w2 ⟨v1,rfl,j,b2⟩;clear l;obtain⟨s,rfl,hs,t⟩:=j.frd;clear j;have hB:=(a4f B1 c).keep b2;obtain⟨w9,p0,p1,p2,r0,r1,r2,e9,h9,o9⟩:=p9 hB s;obtain⟨y0,y1,y2⟩:=h9.cells;have o:=hs.only_blk hB (k7 _ _ _ _ _ _ _) o9;have q:=o9.to_below (b1.trans (((a1j c b2)).mono b1.size)) (a1u _) (a1t b1.size (a1t c.size b2.size));clear hB hs;go_wp2;refine a3z (v:=B8 s.neg s.a s.la.length s.ca s.b s.lb.length s.cb) (by simp[results,Tryz.results58,go_sem,y0,y1,y2]) rfl ?_;exact⟨_,rfl,by rw[←t];exact o,q⟩
theorem rZ {α:Type}{A B:List Nat}(h:A.Perm B):∀ M:List α,M.length=A.length→∃ K:List α,K.length=B.length∧(A.zip M).Perm (B.zip K):=by
 induction h with
 | nil=>exact fun M hM=>⟨[],rfl,by simp⟩
 | cons a h ih =>
  intro M hM
  cases M with
  | nil=>simp at hM
  | cons m M =>
   obtain⟨K,h1,h2⟩:=ih M (by simpa using hM);exact⟨m::K,by simp[h1],h2.cons (a,m)⟩
 | swap a b l =>
  intro M hM
  match M,hM with
  | m1::m2::M,hM=>exact⟨m2::m1::M,by simpa using hM,by simpa using List.Perm.swap _ _ _⟩
 | trans h1 h2 ih1 ih2 =>
  intro M hM;obtain⟨K,k1,k2⟩:=ih1 M hM;obtain⟨J,j1,j2⟩:=ih2 K k1;exact⟨J,j1,k2.trans j2⟩
def rJ:List Rat→Rat
 | []=>0
 | a::l=>a+rJ l
theorem nD {a b:List Rat}(h:a.Perm b):rJ a=rJ b:=by
 induction h with
 | nil=>rfl
 | cons a h ih=>show a+_=a+_;rw[ih]
 | swap a b l=>show b+(a+_)=a+(b+_);grind
 | trans _ _ h1 h2=>exact h1.trans h2
theorem wQ:∀ l:List Rat,rJ l=sm l.length (gt l)
 | []=>rfl
 | a::l=>by
  show a+rJ l=sm (l.length+1) _
  rw[W0,wQ l];rfl
theorem sm_pairs {α:Type}(d:α) (ps:List α) (f:α→Rat):sm ps.length (fun j=>f (ps.getD j d))=rJ (ps.map f):=by
 rw[wQ,a1s];refine j7 fun j hj=>?_;unfold gt;rw[p7 d hj,p7 0 (by simpa using hj),List.getElem_map]
theorem sm_zip {A:List Nat}{M:List Rat}(h:M.length=A.length) (f:Nat→Rat):sm A.length (fun j=>gt M j*f (A.getD j 0))=rJ ((A.zip M).map fun p=>p.2*f p.1):=by
 rw[←sm_pairs (0,0),List.length_zip,h,Nat.min_self];exact j7 fun j hj=>by rw[fB h hj]
section
variable {n:Nat}{all:List Con}{tg:List Rat}{sum:Rat}{t:St}
theorem qE {A:List Nat}{M:List Rat}{c:Rat}(h:M.length=A.length){i:Nat}(hi:i<n):lc (A.length+1) (gt (c::M)) (fn (j8 n all A)) i=c+rJ ((A.zip M).map fun p=>p.2*gt (nrm all p.1) i):=by
 unfold lc;rw[W0,S7 _ _ _ hi,←sm_zip h (fun k=>gt (nrm all k) i)]
 show c*1+_=_
 rw[Rat.mul_one]
 congr 1
 exact j7 fun j hj=>by rw[Q4 hj,I6,p7 0 hj]
theorem LI.perm {A B:List Nat}(h:LI (A.length+1) n (fn (j8 n all A))) (hp:B.Perm A):LI (B.length+1) n (fn (j8 n all B)):=fun c hc=>by
 obtain⟨M,hM⟩:∃ M:List Rat,M=(List.range B.length).map fun j=>c (j+1):=⟨_,rfl⟩;have hMl:M.length=B.length:=by rw[hM];simp
 have d:∀ j,j<B.length→gt M j=c (j+1):=fun j hj=>by
  unfold gt;rw[hM,a1l,a1r,a2t hj];rfl
 have hg:∀ j,j<B.length+1→gt (c 0::M) j=c j:=fun j hj=>by
  cases j with
  | zero=>rfl
  | succ j=>rw[I6];exact d j (by omega)
 obtain⟨K,hK,b⟩:=rZ hp M hMl
 have h0:=h (gt (c 0::K)) fun i hi=>by
  rw[qE hK hi,←nD (b.map _),←qE hMl hi,←hc i hi];unfold lc;exact j7 fun j hj=>by rw[hg j hj]
 have hz:∀ q∈K,q=0:=fun q hq=>by
  obtain⟨j,hj,rfl⟩:=a3j hq;have h1:=h0 (j+1) (by omega);rw[I6] at h1;unfold gt at h1
  rwa [p7 0 hj] at h1
 intro j hj
 cases j with
 | zero=>exact h0 0 (by omega)
 | succ j =>
  have f:j<B.length:=by omega
  rw[←d j f];unfold gt;have g:j<(B.zip M).length:=by rw[List.length_zip];omega
  rw[p7 0 (by omega)];have h1:(B.zip M)[j]∈A.zip K:=b.mem_iff.1 (a1z g);rw[List.getElem_zip] at h1;exact hz _ (List.of_mem_zip h1).2
theorem Best.perm (h:Best n all tg sum t){B:List Nat}(hp:B.Perm t.active):∃ M,Best n all tg sum { t with active:=B,mults:=M }:=by
 obtain⟨M,hM,hz⟩:=rZ hp.symm t.mults h.lm
 have b:∀ j,j<M.length→∃ i,i<t.mults.length∧gt t.mults i=gt M j∧t.active.getD i 0=B.getD j 0:=fun j hj=>by
  have d:j<(B.zip M).length:=by rw[List.length_zip];omega
  have h1:(B.zip M)[j]∈t.active.zip t.mults:=hz.mem_iff.2 (a1z d);obtain⟨i,hi,e⟩:=a3j h1;rw[List.length_zip] at hi;rw[List.getElem_zip,List.getElem_zip] at e
  injection e with e1 e2
  refine⟨i,by omega,?_,?_⟩
  · unfold gt;rw[p7 0 (by omega),p7 0 hj];exact e2
  · rw[p7 0 (by omega),p7 0 (by omega)];exact e1
 refine⟨M,⟨fun a ha=>h.hA a (hp.mem_iff.1 ha),h.lx,hM,fun h0=>LI.perm (h.li h0) hp,⟨fun i hi=>?_,fun j hj=>?_⟩,fun j hj=>?_,h.ok,fun hn=>by have:=h.act hn;rw[←hp.length_eq] at this;exact this,h.fit.1,h.fit.2.1,fun q hq=>?_⟩⟩
 · rw[qE hM hi,←nD (hz.map _),←qE h.lm hi];exact h.pt.kkt i hi
 · cases j with
   | zero=>exact h.pt.eqs 0 (by omega)
   | succ j =>
    have c:j<B.length:=by show j<B.length;have:j+1<B.length+1:=hj;omega
    rw[Q4 c,eZ c];obtain⟨i,hi,e⟩:=a3j (hp.mem_iff.1 (a1z c));have h1:=h.pt.eqs (i+1) (by omega);rw[Q4 hi,eZ hi,e] at h1;exact h1
 · obtain⟨i,hi,e,-⟩:=b j hj
   show 0≤gt M j
   rw[←e];exact h.nn i hi
 · obtain⟨j,hj,rfl⟩:=a3j hq;obtain⟨i,hi,e,-⟩:=b j hj;unfold gt at e;rw[p7 0 hi,p7 0 hj] at e;rw[←e];exact h.fit.2.2 _ (a1z hi)
theorem LI.nodup {A:List Nat}(h:LI (A.length+1) n (fn (j8 n all A))):A.Nodup:=by
 unfold List.Nodup
 rw[List.pairwise_iff_getElem];intro i j hi hj b e
 have h1:=h (fun k=>dl (i+1) k-dl (j+1) k) fun q hq=>by
  unfold lc;rw[j7 (g:=fun k=>dl (i+1) k*fn (j8 n all A) k q-dl (j+1) k*fn (j8 n all A) k q) (fun k _=>by grind),Z3,K6 _ (by omega),K6 _ (by omega),Q4 hi,Q4 hj,e]
  grind
 have h2:=h1 (i+1) (by omega);unfold dl at h2;rw[if_pos rfl,if_neg (by omega)] at h2
 grind
theorem yV {A:List Nat}(h:A.Nodup):∃ B:List Nat,B.Perm A∧B.Pairwise (· < ·):=by
 refine⟨A.mergeSort (fun a b=>decide (a≤b)),List.mergeSort_perm _ _,?_⟩;have h1:=List.pairwise_mergeSort (le:=fun a b:Nat=>decide (a≤b)) (fun a b c h1 h2=>by simp at *;omega) (fun a b=>by simp;omega) A;have h2:(A.mergeSort (fun a b=>decide (a≤b))).Nodup:=(List.mergeSort_perm _ _).nodup_iff.2 h
 unfold List.Nodup at h2
 exact (h1.and h2).imp fun ⟨x,y⟩=>by simp at x;omega
end
theorem kZ:∀ (ps:List (Nat × Rat)) (l:List Rat),(ps.map Prod.fst).Nodup→(∀ p∈ps,l.getD p.1 0=0)→ps.foldl (fun l p=>l.set p.1 p.2) l=ps.foldl aX l
 | [],_,_,_=>rfl
 | p::ps,l,hn,hz=>by
  rw[List.foldl_cons,List.foldl_cons];have e:aX l p=l.set p.1 p.2:=by unfold aX;rw[hz p a2o];congr 1;grind
  rw[e];rw[List.map_cons,List.nodup_cons] at hn;refine kZ ps _ hn.2 fun q hq=>?_;have b:p.1≠q.1:=fun h=>hn.1 (a2v.2 ⟨q,hq,h.symm⟩);rw[a1l,List.getElem?_set_ne b,←a1l];exact hz q (a2n _ hq)
theorem rX {L:Nat}{A:List Nat}{M:List Rat}(hn:A.Nodup) (hl:M.length=A.length):lC L (A.zip M)=G3 L (A.zip M) :=
 kZ _ _ (by rw[List.map_fst_zip (by omega)];exact hn) fun p _=>by
  rw[a1l,a2m]
  split <;> rfl
section
variable {ns:List NdD}{ms:List Int}{tg:List Rat}{sum:Rat}{t:St}
theorem a0h (hn:ms.length≤8) (mu:List Rat){i:Nat}(hi:i<ms.length) :
 sm (o0 ns ms).length (fun k=>gt mu k*gt (nrm (o0 ns ms) k) i)=o5 (F7 ns (mu.take ns.length) i)+gt mu (ns.length+i)-gt mu (ns.length+ms.length+i):=by
 rw[I9,fH,fH]
 have e1:sm ns.length (fun k=>gt mu k*gt (nrm (o0 ns ms) k) i)=o5 (F7 ns (mu.take ns.length) i):=by
  rw[V7,Q3];refine j7 fun k hk=>?_;unfold gt;rw[a1l (l:=F7 _ _ _),aO hk]
  show _=if M8 (eO ns k) i=true then (mu.take ns.length).getD k 0 else 0
  rw[jW hk,(M7 hk).1];have:=fR (p:=eO ns k) (v:=1) hi
  unfold gt at this ⊢
  rw[this]
  by_cases e:M8 (eO ns k) i=true
  · rw[if_pos e,if_pos e,Rat.mul_one]
  · rw[if_neg e,if_neg e,Rat.mul_zero]
 have e2:sm ms.length (fun k=>gt mu (ns.length+k)*gt (nrm (o0 ns ms) (ns.length+k)) i)=gt mu (ns.length+i):=by
  rw[j7 (g:=fun k=>gt mu (ns.length+k)*dl k i) (fun k hk=>by rw[(Q7 hk).1,eW hn hk hi,Rat.one_mul]),M3 (fun k=>gt mu (ns.length+k)) hi]
 have e3:sm ms.length (fun k=>gt mu (ns.length+ms.length+k)*gt (nrm (o0 ns ms) (ns.length+ms.length+k)) i)=- gt mu (ns.length+ms.length+i):=by
  rw[j7 (g:=fun k=>(-gt mu (ns.length+ms.length+k))*dl k i) (fun k hk=>by rw[(X1 hk).1,eW hn hk hi];grind),M3 (fun k=>-gt mu (ns.length+ms.length+k)) hi]
 rw[e1,e2,e3];grind
theorem ref_same {pay mults low high:List Rat}{lev:Rat}(h:Best ms.length (o0 ns ms) tg sum t) (hn:ms.length≤8) (ht:tg.length=ms.length) (hr:O4 tg ns ms sum pay mults low high lev=true):pay=t.x:=by
 unfold O4 at hr
 simp only[a3m,decide_eq_true_eq,gZ] at hr
 obtain⟨h1,h2,h3,hp,hs,hf⟩:=hr;have hP:=(T0 hn).1 hp;obtain⟨mu,b⟩:∃ mu,mu=mults++(low++high):=⟨_,rfl⟩;rw[←b] at hs;have hl:=hP.len
 have c:∀ k,k<(o0 ns ms).length→gt mu k=0∨(0<gt mu k∧ip ms.length (gt (nrm (o0 ns ms) k)) (gt pay)=lst (o0 ns ms) k):=fun k hk=>by
  rw[←Y3] at hk;have k1:=hs k hk;obtain⟨c1,c2,c3⟩:=yF hn hk;unfold eI D4 at k1
  have c4:o5 (I7 ((C5 ns ms).getD k ([],0)).1 pay)=ip ms.length (gt (nrm (o0 ns ms) k)) (gt pay):=by
   rw[←c2];exact xY c1 hl
  rw[c4,show ((((C5 ns ms).getD k ([],0)).2:Int):Rat)=lst (o0 ns ms) k from c3] at k1
  simp only[Bool.or_eq_true,a3m,decide_eq_true_eq] at k1
  rcases k1 with k1 | k1
  · exact .inl k1
  · exact .inr ⟨k1.2,k1.1⟩
 have d:Pt ((o0 ns ms).length+1) ms.length (fun j i=>match j with | 0=>1 | k+1=>if gt mu k=0 then 0 else gt (nrm (o0 ns ms) k) i) (fun j=>match j with | 0=>sum | k+1=>if gt mu k=0 then 0 else lst (o0 ns ms) k) (gt tg) (gt (lev::mu)) (gt pay) (fun _=>0) 0:=by
  refine⟨fun i hi=>?_,fun j hj=>?_⟩
  · unfold lc;rw[W0]
    rw[j7 (n:=(o0 ns ms).length) (g:=fun k=>gt mu k*gt (nrm (o0 ns ms) k) i) (fun k hk=>by
     show gt (lev::mu) (k+1)*(if gt mu k=0 then 0 else gt (nrm (o0 ns ms) k) i)=_
     rw[I6]
     by_cases e:gt mu k=0
     · rw[if_pos e,e];grind
     · rw[if_neg e])]
    rw[a0h hn mu hi];have k1:=hf i hi;unfold V2 at k1;have k2:=of_decide_eq_true k1;have e1:mu.take ns.length=mults:=by rw[b,←h3,List.take_left]
    have e2:gt mu (ns.length+i)=low.getD i 0:=by unfold gt;rw[b,←h3];exact uW (by omega)
    have e3:gt mu (ns.length+ms.length+i)=high.getD i 0:=by unfold gt;rw[b,←h3,←h1];exact mu_up
    rw[e1,e2,e3]
    show gt pay i=gt tg i+(lev*1+_)+0*0
    have k3:gt pay i-gt tg i=_:=k2
    grind
  · cases j with
    | zero=>exact hP.tot
    | succ k =>
     show ip ms.length (fun i=>if gt mu k=0 then 0 else gt (nrm (o0 ns ms) k) i) (gt pay)=if gt mu k=0 then 0 else lst (o0 ns ms) k
     by_cases e:gt mu k=0
     · rw[if_pos e];refine B7 fun i _=>?_
       show (if gt mu k=0 then 0 else gt (nrm (o0 ns ms) k) i)*_=0
       rw[if_pos e];grind
     · rw[if_neg e]
       rcases c k (by omega) with k1 | k1
       · exact absurd k1 e
       · rw[←k1.2];exact D3 (fun i _=>if_neg e) fun _ _=>rfl
 have hx:=h.poss
 have hd:=d.nearest (u:=gt t.x) (fun _=>hx.tot) (fun j h0 hj=>by
  obtain⟨k,rfl⟩:∃ k,j=k+1:=⟨j-1,by omega⟩;rw[I6]
  rcases c k (by omega) with k1 | k1
  · rw[k1];exact Rat.le_refl
  · exact Rat.le_of_lt k1.1) fun j h0 hj=>by
  obtain⟨k,rfl⟩:∃ k,j=k+1:=⟨j-1,by omega⟩
  show (if gt mu k=0 then 0 else lst (o0 ns ms) k)≤ip ms.length (fun i=>if gt mu k=0 then 0 else gt (nrm (o0 ns ms) k) i) (gt t.x)
  by_cases e:gt mu k=0
  · rw[if_pos e];rw[show ip ms.length (fun i=>if gt mu k=0 then 0 else gt (nrm (o0 ns ms) k) i) (gt t.x)=0 from B7 fun i _=>by show (if gt mu k=0 then 0 else gt (nrm (o0 ns ms) k) i)*_=0;rw[if_pos e];grind];exact Rat.le_refl
  · rw[if_neg e,D3 (a':=gt (nrm (o0 ns ms) k)) (b':=gt t.x) (fun i _=>if_neg e) fun _ _=>rfl];exact hx.ok k (by omega)
 refine h.only hP ?_;have h9:0≤ip ms.length (fun i=>gt t.x i-gt pay i) fun i=>gt t.x i-gt pay i:=jV _ _
 show ip _ _ _≤ip _ _ _
 grind
theorem hit_best (h:Best ms.length (o0 ns ms) tg sum t) (hI:ConI ms.length (o0 ns ms)) (hn:ms.length≤8) (h0:0<ms.length) (ht:tg.length=ms.length) (hs:t.active.Nodup):Y5 ns ms tg sum t.active=true:=by
 have hc:∀ a∈t.active,a<(C5 ns ms).length:=fun a ha=>by rw[Y3];exact h.hA a ha
 have c:=h.li h0;have hr:=F9 (n:=ms.length) (all:=o0 ns ms) (A:=t.active) hI.len h.hA;obtain⟨r,q,f,k⟩:=lZ hr (by rw[t8];omega) (by rw[t8];exact c) (b:=jP sum tg (H3 ns ms t.active)) (by rw[bQ,bO,t8]);rw[t8] at f k
 have hp:Pt (t.active.length+1) ms.length (fn (j8 ms.length (o0 ns ms) t.active)) (gt (sum::t.active.map (lst (o0 ns ms)))) (gt tg) (gt r) (fun i=>gt tg i+lc (t.active.length+1) (gt r) (fn (j8 ms.length (o0 ns ms) t.active)) i) (fun _=>0) 0:=by
  refine⟨fun i _=>by grind,fun j hj=>?_⟩;rw[Q8,D9 _ _ (lc _ _ _),Y4];have h1:=k j hj;rw[wY hn ht hc hj] at h1;rw[j7 (g:=fun l=>ip ms.length (fn (j8 ms.length (o0 ns ms) t.active) j) (fn (j8 ms.length (o0 ns ms) t.active) l)*gt r l) (fun l _=>by rw[D9 ms.length (fn _ l) (fn _ j)];grind)]
  grind
 have hu:=(Pt.unique c h.pt hp).2;have m:r=t.level::t.mults:=(R6 (by rw[f,a3r,h.lm]) fun j hj=>(hu j (by rw[a3r,h.lm] at hj;exact hj)).symm)
 have p:eG ns ms tg sum t.active=(t.level::t.mults,0):=by
  have hf:=Q0 (L6 (j8 ms.length (o0 ns ms) t.active)) (by rw[C8,t8];omega);unfold eG J5;rw[qJ hn hc,if_pos ⟨hf.1,by rw[bQ,bO,C8,t8]⟩,q,m]
 have o:muC ns ms t.active (t.level::t.mults)=D8 ns ms t:=by
  unfold muC D8;rw[Y3];exact rX hs h.lm
 unfold Y5;rw[p]
 show (decide ((0:Int)=0)&&okC ns ms tg sum (muC ns ms t.active (t.level::t.mults)) t.level)=true
 rw[o,a1w rfl,Bool.true_and];unfold okC
 have d:sC tg ns ms.length ((D8 ns ms t).take ns.length) (((D8 ns ms t).drop ns.length).take ms.length) ((D8 ns ms t).drop (ns.length+ms.length)) t.level=t.x:=by
  refine R6 (by rw[sA,h.lx]) fun i hi=>?_;rw[h.lx] at hi;unfold gt;rw[a1l,xG hi]
  show tg.getD i 0+(_+_-_+_)=_
  rw[vG hi,qI];have h1:=h.force hn hi
  unfold gt at h1 ⊢
  grind
 rw[d,rU hn];exact h.cert hn
theorem hit_none (h:Best ms.length (o0 ns ms) tg sum t) (h0:ms.length=0) (ht:tg.length=ms.length):Y5 ns ms tg sum []=true:=by
 have f:ms=[]:=a2a h0;have g:tg=[]:=a2a (by omega);have hx:t.x=[]:=a2a (by rw[h.lx,h0]);have hP:=h.poss;subst f g;have c:sum=0:=hP.tot.symm;subst c;rw[hx] at hP
 have j:(eG ns [] [] 0 []).2=0:=by
  have hG:W5 (H3 ns [] [])=[[(0:Rat)]]:=rfl;have hR:jP 0 [] (H3 ns [] [])=[(0:Rat)-o5 []]:=rfl;unfold eG J5;rw[hG,hR,if_pos ⟨by decide,rfl⟩];have d:=dM (M:=[[(0:Rat)]]) (b:=[(0:Rat)-o5 []]) (x:=[0]) (by decide) rfl (by decide +kernel)
  show ((match G6 [[(0:Rat)]] _ with | some x=>(x,0) | none=>([],6):List Rat × Int)).2=0
  cases e:G6 [[(0:Rat)]] [(0:Rat)-o5 []] with
  | none=>exact absurd e d
  | some x=>rfl
 unfold Y5;rw[j,a1w rfl,Bool.true_and];unfold okC;have hz:muC ns [] [] (eG ns [] [] 0 []).1=List.replicate (C5 ns []).length 0:=rfl;rw[hz]
 generalize (eG ns [] [] 0 []).1.getD 0 0=lev
 have hL:(C5 ns []).length=ns.length:=by rw[G5];rfl
 unfold O4
 simp only[a3m,decide_eq_true_eq,gZ]
 refine⟨by simp,by rw[a2d,a1p,hL];simp,by rw[a2c,a1p,hL,Nat.min_self],(T0 (by decide)).2 hP,fun k hk=>?_,fun i hi=>by simp at hi⟩;unfold eI D4;rw[Bool.or_eq_true];refine .inl (a1w ?_);rw[a1l]
 cases e:(List.take ns.length (List.replicate (C5 ns []).length (0:Rat))++((List.take ([]:List Int).length (List.drop ns.length (List.replicate (C5 ns []).length 0)))++List.drop (ns.length+([]:List Int).length) (List.replicate (C5 ns []).length 0)))[k]? with
 | none=>rfl
 | some x =>
  have hx:=a1n e
  simp only[a3b] at hx
  rcases hx with hx | hx | hx
  · exact (a3q.1 (a2k hx)).2
  · exact (a3q.1 (a2l (a2k hx))).2
  · exact (a3q.1 (a2l hx)).2
end
section
variable {ns:List NdD}{ms:List Int}{tg:List Rat}{sum:Rat}{t:St}
theorem rP (h:Best ms.length (o0 ns ms) tg sum t) (hI:ConI ms.length (o0 ns ms)) (hn:ms.length≤8) (ht:tg.length=ms.length):H2 ns ms tg sum (ms.length-1) [] 0=true:=by
 rcases a3a ms.length with h0 | h0
 · exact kR (hit_none h h0 ht)
 · obtain⟨B,hB,hs⟩:=yV (LI.nodup (h.li h0));obtain⟨M,hM⟩:=h.perm hB;have b:B.Nodup:=hB.nodup_iff.2 (LI.nodup (h.li h0));have h1:=hit_best hM hI hn h0 ht b;have h2:=(h.li h0).le;refine kQ B _ [] 0 hs (fun a ha=>⟨Nat.zero_le _,?_⟩) ?_ h1
   · rw[Y3];exact h.hA a (hB.mem_iff.1 ha)
   · rw[hB.length_eq];omega
theorem okC_poss {mu:List Rat}{lev:Rat}(hn:ms.length≤8){pay mults low high:List Rat}(h:O4 tg ns ms sum pay mults low high lev=true):Poss ms.length (o0 ns ms) sum pay:=by
 unfold O4 at h
 simp only[a3m,decide_eq_true_eq] at h
 exact (T0 hn).1 h.2.2.2.1
theorem mB (hI:ConI ms.length (o0 ns ms)) (hn:ms.length≤8){ch:List Nat}(hc:∀ a∈ch,a<(C5 ns ms).length):MFits 40 (W5 (H3 ns ms ch)):=by
 rw[qJ hn hc];exact (iN hI (fun a ha=>by rw[←Y3];exact hc a ha) hn).mono (by decide)
theorem nM (hI:ConI ms.length (o0 ns ms)) (hn:ms.length≤8) (ht:tg.length=ms.length) (hft:QFits 2 tg) (hfs:Fits 2 sum){ch:List Nat}(hc:∀ a∈ch,a<(C5 ns ms).length):QFits 40 (jP sum tg (H3 ns ms ch)):=by
 have hA:∀ a∈ch,a<(o0 ns ms).length:=fun a ha=>by rw[←Y3];exact hc a ha
 refine kW fun j hj=>?_;rw[bQ,bO] at hj;rw[wY hn ht hc hj]
 have h1:Fits 2 (gt (sum::ch.map (lst (o0 ns ms))) j):=by
  refine H4 (by decide) (fun q hq=>?_) j
  rcases a3i.1 hq with rfl | hq
  · exact hfs
  · obtain⟨a,ha,rfl⟩:=a2v.1 hq;unfold lst;rw[a1m (hA a ha)];exact hI.lst _ (a1z _)
 have h2:Fits (1+ms.length*(1+2+1)) (ip ms.length (fn (j8 ms.length (o0 ns ms) ch) j) (gt tg)):=by
  unfold ip;refine Z4 fun i hi=>?_;refine Fits.mul ?_ (H4 (by decide) hft i);have hl:j<(j8 ms.length (o0 ns ms) ch).length:=by rw[t8];exact hj
  rw[←gY hl];exact (cD (N8 hI hA _ (a1z hl)) i).fits (by decide)
 exact (h1.sub h2).mono (by omega)
theorem mA (hn:ms.length≤8){ch:List Nat}(hc:∀ a∈ch,a<(C5 ns ms).length):A0 (W5 (H3 ns ms ch))=true∧colsL (W5 (H3 ns ms ch))=ch.length+1:=by
 rw[qJ hn hc];have hf:=Q0 (L6 (j8 ms.length (o0 ns ms) ch)) (by rw[C8,t8];omega);rw[t8] at hf;exact hf
theorem oJ (L:List (List Int × Int)):(W5 L).length=L.length:=by simp[W5]
theorem gK40:gK 40 4=10325:=by decide
theorem yX (hI:ConI ms.length (o0 ns ms)) (hn:ms.length≤8) (ht:tg.length=ms.length) (hft:QFits 2 tg) (hfs:Fits 2 sum){ch:List Nat}(hc:∀ a∈ch,a<(C5 ns ms).length) (hl:ch.length+1≤4) (h0:(eG ns ms tg sum ch).2=0) :
 QFits 10325 (eG ns ms tg sum ch).1∧(eG ns ms tg sum ch).1.length=ch.length+1:=by
 have hf:=mA (ns:=ns) hn hc;have hb:=nM (ns:=ns) hI hn ht hft hfs hc;have b:(jP sum tg (H3 ns ms ch)).length=(W5 (H3 ns ms ch)).length:=by rw[bQ,oJ]
 unfold eG J5 at h0 ⊢
 rw[if_pos ⟨hf.1,b⟩] at h0 ⊢
 cases e:G6 (W5 (H3 ns ms ch)) (jP sum tg (H3 ns ms ch)) with
 | none=>rw[e] at h0;cases h0
 | some x =>
  refine⟨?_,?_⟩
  · have h1:=kM (K:=40) (by decide) hf.1 (mB hI hn hc) hb b e;rw[hf.2] at h1;exact h1.mono (by rw[←gK40];exact W6 40 hl)
  · have h1:=(cL hf.1 b e).1;rw[hf.2] at h1;exact h1
theorem zM {K:Nat}{len:Nat}:∀ (ps:List (Nat × Rat)),(∀ p∈ps,Fits K p.2)→0<K→QFits K (lC len ps):=by
 have b:∀ (ps:List (Nat × Rat)) (l:List Rat),(∀ p∈ps,Fits K p.2)→QFits K l→QFits K (ps.foldl (fun l p=>l.set p.1 p.2) l):=fun ps=>by
  induction ps with
  | nil=>exact fun l _ h=>h
  | cons p ps ih =>
   intro l hp hl;rw[List.foldl_cons];refine ih _ (fun q hq=>hp q (a2n _ hq)) fun q hq=>?_
   rcases List.mem_or_eq_of_mem_set hq with h | rfl
   · exact hl q h
   · exact hp p a2o
 exact fun ps hp hK=>b ps _ hp fun q hq=>by rw[(a3q.1 hq).2];exact Fits.zero hK
theorem muC_fits {ch:List Nat}{y:List Rat}(hy:QFits 10325 y):QFits 10325 (muC ns ms ch y) :=
 zM _ (fun p hp=>hy _ (a2l (List.of_mem_zip hp).2)) (by decide)
theorem mC {mults low high:List Rat}{lev:Rat}(hm:QFits 10325 mults) (hl:QFits 10325 low) (hh:QFits 10325 high) (hv:Fits 10325 lev) (hns:ns.length≤5) (i:Nat):Fits 90000 (lev+low.getD i 0-high.getD i 0+o5 (F7 ns mults i)):=by
 have h1:Fits (1+ns.length*(10325+1)) (o5 (F7 ns mults i)):=by
  rw[V7,Q3];exact Z4 fun k _=>H4 (by decide) (W7 (by decide) hm) k
 exact ((((hv.add (H4 (by decide) hl i)).sub (H4 (by decide) hh i)).add h1)).mono (by omega)
theorem zT {mults low high:List Rat}{lev:Rat}{n:Nat}(hft:QFits 2 tg) (hm:QFits 10325 mults) (hl:QFits 10325 low) (hh:QFits 10325 high) (hv:Fits 10325 lev) (hns:ns.length≤5):QFits 100000 (sC tg ns n mults low high lev):=fun q hq=>by
 obtain⟨i,_,rfl⟩:=a2v.1 hq;exact ((H4 (by decide) hft i).add (mC hm hl hh hv hns i)).mono (by decide)
end
end Go.Proofs.YtjhkapjadfpimaaGreat
