/- Contracts of functions, for the law. -/
import Derived.Test.YtjhkapjadfpimaaGreatNUq
namespace Go.Proofs.YtjhkapjadfpimaaGreat
set_option linter.unusedVariables false
set_option linter.unusedSimpArgs false
open Go.RowKit Plain
def pI (a b:List Int):Nat→Int
 | 0=>0
 | k+1=>pI a b k+a.getD k 0*b.getD k 0
def prodI (a b:List Int):Int:=pI a b a.length
def fy (c:List Int):List Rat:=c.map fun (z:Int)=>(z:Rat)
theorem mW (c:List Int):(fy c).length=c.length:=by simp[fy]
theorem nQ (c:List Int) (i:Nat):gt (fy c) i=((c.getD i 0:Int):Rat):=by
 unfold gt fy;rw[Dk,Dq,Dk]
 cases c[i]? <;> rfl
theorem vh (a b:List Int):∀ k,((pI a b k:Int):Rat)=sm k fun i=>gt (fy a) i*gt (fy b) i
 | 0=>rfl
 | k+1=>by
  show ((pI a b k+a.getD k 0*b.getD k 0:Int):Rat)=sm k _+gt (fy a) k*gt (fy b) k
  rw[Rat.intCast_add,Rat.intCast_mul,vh a b k,nQ,nQ]
theorem xh {a b:List Int}{n:Nat}(ha:a.length=n) (hb:b.length=n):((prodI a b:Int):Rat)=cD (fy a) (fy b):=by
 rw[fu (n:=n) (by rw[mW,ha]) (by rw[mW,hb])];unfold prodI;rw[vh,ha];rfl
def ye (ns:List NdD) (ms:List Int) (c:Nat):List Int × Int:=(br ns ms).getD c ([],0)
def cW (ns:List NdD) (ms:List Int) (ch:List Nat):List (List Int × Int):=(List.replicate ms.length 1,0)::ch.map (ye ns ms)
def iC (L:List (List Int × Int)):bp:=L.map fun a=>L.map fun b=>((prodI a.1 b.1:Int):Rat)
def nI (sum:Rat) (tg:List Rat) (L:List (List Int × Int)):List Rat:=L.zipIdx.map fun p=>(if p.2=0 then sum else ((p.1.2:Int):Rat))-aB (dy p.1.1 tg)
def oI (len:Nat) (ps:List (Nat × Rat)):List Rat:=ps.foldl (fun l p=>l.set p.1 p.2) (List.replicate len 0)
def sD (tg:List Rat) (ns:List NdD) (n:Nat) (mults low high:List Rat) (lev:Rat):List Rat :=
 (List.range n).map fun i=>tg.getD i 0+(lev+low.getD i 0-high.getD i 0+aB (cC ns mults i))
theorem zh (len:Nat) (ps:List (Nat × Rat)):(oI len ps).length=len:=by
 have b:∀ (ps:List (Nat × Rat)) (l:List Rat),(ps.foldl (fun l p=>l.set p.1 p.2) l).length=l.length:=fun ps=>by
  induction ps with
  | nil=>exact fun _=>rfl
  | cons p ps ih=>intro l;rw[List.foldl_cons,ih,DH]
 unfold oI;rw[b,Do]
theorem xa {n j:Nat}{ps:List (Nat × Rat)}{p:Nat × Rat}(h:ps[j]?=some p):oI n (ps.take (j+1))=(oI n (ps.take j)).set p.1 p.2:=by
 unfold oI;rw[List.take_add_one,h,List.foldl_append];rfl
theorem sC (tg:List Rat) (ns:List NdD) (n:Nat) (mults low high:List Rat) (lev:Rat):(sD tg ns n mults low high lev).length=n:=by simp[sD]
theorem ve {tg:List Rat}{ns:List NdD}{n:Nat}{mults low high:List Rat}{lev:Rat}{i:Nat}(hi:i<n):(sD tg ns n mults low high lev)[i]?=some (tg.getD i 0+(lev+low.getD i 0-high.getD i 0+aB (cC ns mults i))):=by
 unfold sD;rw[Dq,DS hi];rfl
def kJ (ns:List NdD) (ms:List Int) (tg:List Rat) (sum:Rat) (ch:List Nat):List Rat × Int:=dH (iC (cW ns ms ch)) (nI sum tg (cW ns ms ch))
def Bh (ns:List NdD) (ms:List Int) (ch:List Nat) (y:List Rat):List Rat:=oI (br ns ms).length (ch.zip (y.drop 1))
def CV (ns:List NdD) (ms:List Int) (tg:List Rat) (sum:Rat) (mu:List Rat) (lev:Rat):Bool :=
 fi tg ns ms sum (sD tg ns ms.length (mu.take ns.length) ((mu.drop ns.length).take ms.length) (mu.drop (ns.length+ms.length)) lev) (mu.take ns.length) ((mu.drop ns.length).take ms.length) (mu.drop (ns.length+ms.length)) lev
def iU (ns:List NdD) (ms:List Int) (tg:List Rat) (sum:Rat) (ch:List Nat):Bool :=
 decide ((kJ ns ms tg sum ch).2=0)&&CV ns ms tg sum (Bh ns ms ch (kJ ns ms tg sum ch).1) ((kJ ns ms tg sum ch).1.getD 0 0)
def cV (ns:List NdD) (ms:List Int) (tg:List Rat) (sum:Rat):Nat→List Nat→Nat→Bool
 | 0,ch,_=>iU ns ms tg sum ch
 | many+1,ch,fr=>iU ns ms tg sum ch || (List.range (br ns ms).length).any fun i=>decide (fr≤i)&&cV ns ms tg sum many (ch++[i]) (i+1)
section
variable {ns:List NdD}{ms:List Int}{tg:List Rat}{sum:Rat}
theorem oq:∀ (l:List Nat) (many:Nat) (ch:List Nat) (fr:Nat),l.Pairwise (· < ·)→(∀ a∈l,fr≤a∧a<(br ns ms).length)→l.length≤many→iU ns ms tg sum (ch++l)=true→cV ns ms tg sum many ch fr=true
 | [],many,ch,fr,_,_,_,h=>by
  rw[List.append_nil] at h
  cases many with
  | zero=>exact h
  | succ m=>show (iU ns ms tg sum ch || _)=true;rw[h];rfl
 | a::l,0,ch,fr,_,_,hl,_=>by simp at hl
 | a::l,m+1,ch,fr,hp,hr,hl,h=>by
  show (iU ns ms tg sum ch || _)=true
  rw[Bool.or_eq_true];refine .inr (List.any_eq_true.2 ⟨a,DT.2 (hr a DN).2,?_⟩);rw[Bool.and_eq_true];obtain⟨h1,h2⟩:=List.pairwise_cons.1 hp;refine⟨Dv (hr a DN).1,oq l m (ch++[a]) (a+1) h2 (fun b hb=>⟨h1 b hb,(hr b (DM _ hb)).2⟩) (by simpa using hl) ?_⟩;rw[List.append_assoc];exact h
theorem ot {many:Nat}{ch:List Nat}{fr:Nat}(h:iU ns ms tg sum ch=true):cV ns ms tg sum many ch fr=true:=by
 cases many with
 | zero=>exact h
 | succ m=>show (iU ns ms tg sum ch || _)=true;rw[h];rfl
theorem wP {m:Nat}{ch:List Nat}{fr i:Nat}(hi:i<(br ns ms).length) (hf:fr≤i) (h:cV ns ms tg sum m (ch++[i]) (i+1)=true):cV ns ms tg sum (m+1) ch fr=true:=by
 show (iU ns ms tg sum ch || _)=true
 rw[Bool.or_eq_true];exact .inr (List.any_eq_true.2 ⟨i,DT.2 hi,by rw[Bool.and_eq_true];exact⟨Dv hf,h⟩⟩)
theorem wO {m:Nat}{ch:List Nat}{fr:Nat}(h:iU ns ms tg sum ch=false) (hn:∀ i,fr≤i→i<(br ns ms).length→cV ns ms tg sum m (ch++[i]) (i+1)=false):cV ns ms tg sum (m+1) ch fr=false:=by
 show (iU ns ms tg sum ch || _)=false
 rw[Bool.or_eq_false_iff];refine⟨h,List.any_eq_false.2 fun i hi=>?_⟩;rw[DT] at hi
 by_cases e:fr≤i
 · rw[hn i e hi];simp
 · rw[Du e];simp
theorem iS:(br ns ms).length=(ay ns ms).length:=by rw[cL,dA];omega
theorem vS (hn:ms.length≤8){k:Nat}(hk:k<(br ns ms).length):(ye ns ms k).1.length=ms.length∧fy (ye ns ms k).1=nrm (ay ns ms) k∧(((ye ns ms k).2:Int):Rat)=lst (ay ns ms) k:=by
 have b:∀ (c:List Int) (r:List Rat),c.length=ms.length→r.length=ms.length→(∀ i,i<ms.length→((c.getD i 0:Int):Rat)=gt r i)→fy c=r:=fun c r h1 h2 h3 =>
  fY (by rw[mW,h1,h2]) fun i hi=>by rw[nQ];exact h3 i (by rw[←h2];exact hi)
 have hz:((0:Int):Rat)=0:=rfl;have ho:((1:Int):Rat)=1:=rfl;have hm:((-1:Int):Rat)=-1:=rfl;rw[cL] at hk;unfold ye
 by_cases e1:k<ns.length
 · rw[iR e1,(eP e1).1,(eP e1).2];refine⟨iN _ _,b _ _ (iN _ _) (fF _ _ _) fun i hi=>?_,rfl⟩;rw[lJ hi];unfold gf nK;rw[Dk,Dq,DS hi]
   show (((if eQ (kP ns k) i=true then 1 else 0:Int)):Rat)=_
   by_cases e:eQ (kP ns k) i=true
   · rw[if_pos e,if_pos e,ho]
   · rw[if_neg e,if_neg e,hz]
 · by_cases e2:k<ns.length+ms.length
   · obtain⟨i,rfl⟩:∃ i,k=ns.length+i:=⟨k-ns.length,by omega⟩;have hi:i<ms.length:=by omega
     rw[jQ hi,(fQ hi).1,(fQ hi).2];refine⟨du _ _ _,b _ _ (du _ _ _) (fF _ _ _) fun j hj=>?_,rfl⟩;rw[kX hn hi hj]
     show ((_:Int):Rat)=_
     rw[oa hi hj];unfold dl
     by_cases e:i=j
     · rw[if_pos e,if_pos e,ho,Rat.mul_one]
     · rw[if_neg e,if_neg e,hz,Rat.mul_zero]
   · obtain⟨i,rfl⟩:∃ i,k=ns.length+ms.length+i:=⟨k-(ns.length+ms.length),by omega⟩;have hi:i<ms.length:=by omega
     rw[lI hi,(iH hi).1,(iH hi).2];refine⟨du _ _ _,b _ _ (du _ _ _) (fF _ _ _) fun j hj=>?_,rfl⟩;rw[kX hn hi hj]
     show ((_:Int):Rat)=_
     rw[oa hi hj];unfold dl
     by_cases e:i=j
     · rw[if_pos e,if_pos e,hm,Rat.mul_one]
     · rw[if_neg e,if_neg e,hz,Rat.mul_zero]
theorem jJ (ch:List Nat):(cW ns ms ch).length=ch.length+1:=by simp[cW]
theorem nL (hn:ms.length≤8){ch:List Nat}(hc:∀ a∈ch,a<(br ns ms).length):∀ p∈cW ns ms ch,p.1.length=ms.length:=fun p hp=>by
 unfold cW at hp
 rcases List.mem_cons.1 hp with rfl | hp
 · simp
 · obtain⟨a,ha,rfl⟩:=DU.1 hp;exact (vS hn (hc a ha)).1
theorem pT (hn:ms.length≤8){ch:List Nat}(hc:∀ a∈ch,a<(br ns ms).length):(cW ns ms ch).map (fun p=>fy p.1)=ao ms.length (ay ns ms) ch:=by
 unfold cW ao;rw[List.map_cons,List.map_map]
 congr 1
 · show fy (List.replicate ms.length 1)=_
   unfold fy;rw[List.map_replicate];rfl
 · exact List.map_congr_left fun a ha=>(vS hn (hc a ha)).2.1
theorem rE (hn:ms.length≤8){ch:List Nat}(hc:∀ a∈ch,a<(br ns ms).length):iC (cW ns ms ch)=eI (ao ms.length (ay ns ms) ch):=by
 rw[←pT hn hc];unfold iC eI;rw[List.map_map];refine List.map_congr_left fun a ha=>?_
 show _=((cW ns ms ch).map fun p=>fy p.1).map (cD (fy a.1))
 rw[List.map_map];exact List.map_congr_left fun b hb=>xh (nL hn hc a ha) (nL hn hc b hb)
theorem vL {n:Nat}{c:List Int}{qs:List Rat}(hc:c.length=n) (hq:qs.length=n):aB (dy c qs)=ip n (gt (fy c)) (gt qs):=by
 rw[ii,lS (by rw[hc,hq]),hq];unfold ip;refine ak fun i hi=>?_;have e:=rG (c:=c) (qs:=qs) (k:=i) (by omega) (by omega);rw[nQ];unfold gt;rw[Dk (l:=dy c qs),e];rfl
theorem jK (L:List (List Int × Int)):(nI sum tg L).length=L.length:=by simp[nI]
theorem uW {L:List (List Int × Int)}{j:Nat}{p:List Int × Int}(h:L[j]?=some p):(nI sum tg L)[j]?=some ((if j=0 then sum else ((p.2:Int):Rat))-aB (dy p.1 tg)):=by
 unfold nI;rw[Dq,List.getElem?_zipIdx,h]
 simp
theorem zO {L:List (List Int × Int)}{j:Nat}{p:List Int × Int}(h:L[j]?=some p):(iC L)[j]?=some (L.map fun b=>((prodI p.1 b.1:Int):Rat)):=by
 unfold iC;rw[Dq,h];rfl
theorem uV (hn:ms.length≤8) (ht:tg.length=ms.length){ch:List Nat}(hc:∀ a∈ch,a<(br ns ms).length){j:Nat}(hj:j<ch.length+1) :
 gt (nI sum tg (cW ns ms ch)) j=gt (sum::ch.map (lst (ay ns ms))) j-ip ms.length (fn (ao ms.length (ay ns ms) ch) j) (gt tg):=by
 obtain⟨p,hp⟩:∃ p,(cW ns ms ch)[j]?=some p:=⟨_,Dl (by rw[jJ];exact hj)⟩;unfold gt;rw[Dk,uW hp]
 show (if j=0 then sum else ((p.2:Int):Rat))-_=_
 have hN:fn (ao ms.length (ay ns ms) ch) j=gt (fy p.1):=by
  funext i
  unfold fn gt;rw[←pT hn hc,Dk (l:=(cW ns ms ch).map _),Dq,hp];rfl
 rw[hN,vL (nL hn hc p (Dm hp)) ht]
 congr 1
 cases j with
 | zero=>rfl
 | succ j =>
  rw[if_neg (by omega)];have h1:(ch.map (ye ns ms))[j]?=some p:=hp;rw[Dq] at h1
  cases hk:ch[j]? with
  | none=>rw[hk] at h1;cases h1
  | some k =>
   rw[hk] at h1
   injection h1 with h1
   have h2:(sum::ch.map (lst (ay ns ms))).getD (j+1) 0=lst (ay ns ms) k:=by
    show (ch.map (lst (ay ns ms))).getD j 0=_
    rw[Dk,Dq,hk];rfl
   rw[h2,←(vS hn (hc k (Dm hk))).2.2,h1]
end
attribute [local go_sem ↓] Go.wp_at_zero Go.wp_at_succ
set_option maxRecDepth 100000
set_option maxHeartbeats 40000000
theorem oN {x y:Int}(hx:x.natAbs≤1) (hy:y.natAbs≤1):(x*y).natAbs≤1:=by
 rw[Int.natAbs_mul];exact Ds (Nat.mul_le_mul hx hy) (by decide)
theorem zl {a b:List Int}(ha:∀ z∈a,z.natAbs≤1) (hb:∀ z∈b,z.natAbs≤1):∀ k,(pI a b k).natAbs≤k
 | 0=>by simp[pI]
 | k+1=>by
  have g:∀ (l:List Int),(∀ z∈l,z.natAbs≤1)→(l.getD k 0).natAbs≤1:=fun l hl=>by
   rw[Dk]
   cases e:l[k]? with
   | none=>decide
   | some z=>exact hl z (Dm e)
  have h1:=zl ha hb k;have h2:=oN (g a ha) (g b hb)
  show (pI a b k+a.getD k 0*b.getD k 0).natAbs≤k+1
  omega
theorem sz {C D:Option Addr}{cc cd:Nat}{xs ys:List Int}{w:World}(ha0:ZL w C cc xs) (hb0:ZL w D cd ys) (ha:∀ z∈xs,z.natAbs≤1) (hb:∀ z∈ys,z.natAbs≤1) (hl:xs.length=ys.length) (hl12:ys.length≤12) :
 Calls Tryz.prog 58 #[.slice C xs.length cc,.slice D ys.length cd] w (ie ((prodI xs ys:Int):Rat) w):=by
 have d:=Dj ha;have f:=Dj hb;have p:=Dj hl;obtain⟨m,hm⟩:∃ m,Hid (ys.length=m):=⟨_,rfl⟩;have A:m≤12:=by rw[←hm.out];exact hl12
 have q:=ha0.len;have y:=hb0.len;rw[hl,hm.out] at q;rw[hm.out] at y;obtain⟨w1,G,b1,l1,B1⟩:=ag w #[.bool false,.slice none 0 0,.slice none 0 0] 28;have x:=Dj (show prodI xs ys=pI xs ys m by unfold prodI;rw[hl,hm.out]);rw[x.out];rw[hl,hm.out];clear ha hb hl;go_enter Tryz.func58,Tryz.ntmps58;go_wp2
 go_loopw [5,6] (fun v i wr=>∃ k:Nat,k≤m∧i=.int .i64 (k:Int)∧v=.int .i64 (pI xs ys k)∧Below w1.heap.size w1 wr) (fun _ i _=>m-(intOf i).toNat)
 case atStart=>exact⟨0,by omega,rfl,rfl,DY _ _⟩
 case round =>
  obtain⟨k,hk,rfl,rfl,c⟩:=hrel
  by_cases hkl:k<m
  · have J:(k:Int)<(m:Int):=by omega
    have n:=Di b1 c;obtain⟨aa,za,eA,H,I,l⟩:=(ha0.below n).at (k:=k) (by rw[p.out,hm.out];exact hkl);obtain⟨ab,zb,eB,L,F,j⟩:=(hb0.below n).at (k:=k) (by rw[hm.out];exact hkl);rw[eA,eB];have h1:=oN (d.out za (Dm l.out)) (f.out zb (Dm j.out));have h2:=zl d.out f.out k
    have hs:pI xs ys (k+1)=pI xs ys k+za*zb:=by
     show pI xs ys k+xs.getD k 0*ys.getD k 0=_
     rw[Dk,l.out,Dk,j.out];rfl
    have B:IntKind.i64.wrap (za*zb)=za*zb:=by rw[IntKind.wrap_i64];omega
    have E:IntKind.i64.wrap (pI xs ys k+za*zb)=pI xs ys (k+1):=by rw[IntKind.wrap_i64,hs];omega
    clear h1 h2 hs;go_wp2
    go_region
    go_wp2;go_roundw
    case rel=>exact⟨k+1,by omega,by go_num,rfl,c.trans ((DY _ _).drew.mono c.size)⟩
    case measure=>simp[intOf];omega
  · obtain rfl:k=m:=by omega
    have t1:decide ((k:Int)<(k:Int))=false:=Du (by omega);have h2:=zl d.out f.out k;have h:=aO (pI xs ys k) wr (by omega) (by omega);clear h2;go_wp2_with fail;refine h.mono ?_;rintro e w2 ⟨v1,rfl,g,b2⟩;clear h;obtain⟨s,rfl,hs,t⟩:=g.frd;clear g;have hB:=(Ea B1 c).keep b2;obtain⟨w9,p0,p1,p2,r0,r1,r2,e9,h9,o9⟩:=aF hB s;obtain⟨y0,y1,y2⟩:=h9.cells;have r:=hs.only_blk hB (ar _ _ _ _ _ _ _) o9;have o:=o9.to_below (b1.trans (((Di c b2)).mono b1.size)) (Dt _) (Ds b1.size (Ds c.size b2.size));clear hB hs;go_wp2;refine D4 (v:=aZ s.neg s.a s.la.length s.ca s.b s.lb.length s.cb) (by simp[results,Tryz.results58,go_sem,y0,y1,y2]) rfl ?_;exact⟨_,rfl,by rw[←t];exact r,o⟩
theorem sA {α:Type}{A B:List Nat}(h:A.Perm B):∀ M:List α,M.length=A.length→∃ K:List α,K.length=B.length∧(A.zip M).Perm (B.zip K):=by
 induction h with
 | nil=>exact fun M hM=>⟨[],rfl,by simp⟩
 | cons a h ih =>
  intro M hM
  cases M with
  | nil=>simp at hM
  | cons m M =>
   obtain⟨K,h1,h2⟩:=ih M (by simpa using hM);exact⟨m::K,by simp[h1],h2.cons (a,m)⟩
 | swap a b l =>
  intro M hM
  match M,hM with
  | m1::m2::M,hM=>exact⟨m2::m1::M,by simpa using hM,by simpa using List.Perm.swap _ _ _⟩
 | trans h1 h2 ih1 ih2 =>
  intro M hM;obtain⟨K,k1,k2⟩:=ih1 M hM;obtain⟨J,j1,j2⟩:=ih2 K k1;exact⟨J,j1,k2.trans j2⟩
def sb:List Rat→Rat
 | []=>0
 | a::l=>a+sb l
theorem pL {a b:List Rat}(h:a.Perm b):sb a=sb b:=by
 induction h with
 | nil=>rfl
 | cons a h ih=>show a+_=a+_;rw[ih]
 | swap a b l=>show b+(a+_)=a+(b+_);grind
 | trans _ _ h1 h2=>exact h1.trans h2
theorem uO:∀ l:List Rat,sb l=sm l.length (gt l)
 | []=>rfl
 | a::l=>by
  show a+sb l=sm (l.length+1) _
  rw[im,uO l];rfl
theorem yy {α:Type}(d:α) (ps:List α) (f:α→Rat):sm ps.length (fun j=>f (ps.getD j d))=sb (ps.map f):=by
 rw[uO,Dr];refine ak fun j hj=>?_;unfold gt;rw[aD d hj,aD 0 (by simpa using hj),List.getElem_map]
theorem Cn {A:List Nat}{M:List Rat}(h:M.length=A.length) (f:Nat→Rat):sm A.length (fun j=>gt M j*f (A.getD j 0))=sb ((A.zip M).map fun p=>p.2*f p.1):=by
 rw[←yy (0,0),List.length_zip,h,Nat.min_self];exact ak fun j hj=>by rw[k9 h hj]
section
variable {n:Nat}{all:List Con}{tg:List Rat}{sum:Rat}{t:St}
theorem ry {A:List Nat}{M:List Rat}{c:Rat}(h:M.length=A.length){i:Nat}(hi:i<n):lc (A.length+1) (gt (c::M)) (fn (ao n all A)) i=c+sb ((A.zip M).map fun p=>p.2*gt (nrm all p.1) i):=by
 unfold lc;rw[im,gj _ _ _ hi,←Cn h (fun k=>gt (nrm all k) i)]
 show c*1+_=_
 rw[Rat.mul_one]
 congr 1
 exact ak fun j hj=>by rw[fN hj,dw,aD 0 hj]
theorem LI.perm {A B:List Nat}(h:LI (A.length+1) n (fn (ao n all A))) (hp:B.Perm A):LI (B.length+1) n (fn (ao n all B)):=fun c hc=>by
 obtain⟨M,hM⟩:∃ M:List Rat,M=(List.range B.length).map fun j=>c (j+1):=⟨_,rfl⟩;have hMl:M.length=B.length:=by rw[hM];simp
 have d:∀ j,j<B.length→gt M j=c (j+1):=fun j hj=>by
  unfold gt;rw[hM,Dk,Dq,DS hj];rfl
 have hg:∀ j,j<B.length+1→gt (c 0::M) j=c j:=fun j hj=>by
  cases j with
  | zero=>rfl
  | succ j=>rw[dw];exact d j (by omega)
 obtain⟨K,hK,b⟩:=sA hp M hMl
 have h0:=h (gt (c 0::K)) fun i hi=>by
  rw[ry hK hi,←pL (b.map _),←ry hMl hi,←hc i hi];unfold lc;exact ak fun j hj=>by rw[hg j hj]
 have hz:∀ q∈K,q=0:=fun q hq=>by
  obtain⟨j,hj,rfl⟩:=List.getElem_of_mem hq;have h1:=h0 (j+1) (by omega);rw[dw] at h1;unfold gt at h1
  rwa [aD 0 hj] at h1
 intro j hj
 cases j with
 | zero=>exact h0 0 (by omega)
 | succ j =>
  have f:j<B.length:=by omega
  rw[←d j f];unfold gt;have g:j<(B.zip M).length:=by rw[List.length_zip];omega
  rw[aD 0 (by omega)];have h1:(B.zip M)[j]∈A.zip K:=b.mem_iff.1 (Dy g);rw[List.getElem_zip] at h1;exact hz _ (List.of_mem_zip h1).2
theorem Best.perm (h:Best n all tg sum t){B:List Nat}(hp:B.Perm t.active):∃ M,Best n all tg sum { t with active:=B,mults:=M }:=by
 obtain⟨M,hM,hz⟩:=sA hp.symm t.mults h.lm
 have b:∀ j,j<M.length→∃ i,i<t.mults.length∧gt t.mults i=gt M j∧t.active.getD i 0=B.getD j 0:=fun j hj=>by
  have d:j<(B.zip M).length:=by rw[List.length_zip];omega
  have h1:(B.zip M)[j]∈t.active.zip t.mults:=hz.mem_iff.2 (Dy d);obtain⟨i,hi,e⟩:=List.getElem_of_mem h1;rw[List.length_zip] at hi;rw[List.getElem_zip,List.getElem_zip] at e
  injection e with e1 e2
  refine⟨i,by omega,?_,?_⟩
  · unfold gt;rw[aD 0 (by omega),aD 0 hj];exact e2
  · rw[aD 0 (by omega),aD 0 (by omega)];exact e1
 refine⟨M,⟨fun a ha=>h.hA a (hp.mem_iff.1 ha),h.lx,hM,fun h0=>LI.perm (h.li h0) hp,⟨fun i hi=>?_,fun j hj=>?_⟩,fun j hj=>?_,h.ok,fun hn=>by have:=h.act hn;rw[←hp.length_eq] at this;exact this,h.fit.1,h.fit.2.1,fun q hq=>?_⟩⟩
 · rw[ry hM hi,←pL (hz.map _),←ry h.lm hi];exact h.pt.kkt i hi
 · cases j with
   | zero=>exact h.pt.eqs 0 (by omega)
   | succ j =>
    have c:j<B.length:=by show j<B.length;have:j+1<B.length+1:=hj;omega
    rw[fN c,k7 c];obtain⟨i,hi,e⟩:=List.getElem_of_mem (hp.mem_iff.1 (Dy c));have h1:=h.pt.eqs (i+1) (by omega);rw[fN hi,k7 hi,e] at h1;exact h1
 · obtain⟨i,hi,e,-⟩:=b j hj
   show 0≤gt M j
   rw[←e];exact h.nn i hi
 · obtain⟨j,hj,rfl⟩:=List.getElem_of_mem hq;obtain⟨i,hi,e,-⟩:=b j hj;unfold gt at e;rw[aD 0 hi,aD 0 hj] at e;rw[←e];exact h.fit.2.2 _ (Dy hi)
theorem LI.nodup {A:List Nat}(h:LI (A.length+1) n (fn (ao n all A))):A.Nodup:=by
 unfold List.Nodup
 rw[List.pairwise_iff_getElem];intro i j hi hj b e
 have h1:=h (fun k=>dl (i+1) k-dl (j+1) k) fun q hq=>by
  unfold lc;rw[ak (g:=fun k=>dl (i+1) k*fn (ao n all A) k q-dl (j+1) k*fn (ao n all A) k q) (fun k _=>by grind),jc,dV _ (by omega),dV _ (by omega),fN hi,fN hj,e]
  grind
 have h2:=h1 (i+1) (by omega);unfold dl at h2;rw[if_pos rfl,if_neg (by omega)] at h2
 grind
theorem wI {A:List Nat}(h:A.Nodup):∃ B:List Nat,B.Perm A∧B.Pairwise (· < ·):=by
 refine⟨A.mergeSort (fun a b=>decide (a≤b)),List.mergeSort_perm _ _,?_⟩;have h1:=List.pairwise_mergeSort (le:=fun a b:Nat=>decide (a≤b)) (fun a b c h1 h2=>by simp at *;omega) (fun a b=>by simp;omega) A;have h2:(A.mergeSort (fun a b=>decide (a≤b))).Nodup:=(List.mergeSort_perm _ _).nodup_iff.2 h
 unfold List.Nodup at h2
 exact (h1.and h2).imp fun ⟨x,y⟩=>by simp at x;omega
end
theorem oH:∀ (ps:List (Nat × Rat)) (l:List Rat),(ps.map Prod.fst).Nodup→(∀ p∈ps,l.getD p.1 0=0)→ps.foldl (fun l p=>l.set p.1 p.2) l=ps.foldl jz l
 | [],_,_,_=>rfl
 | p::ps,l,hn,hz=>by
  rw[List.foldl_cons,List.foldl_cons];have e:jz l p=l.set p.1 p.2:=by unfold jz;rw[hz p DN];congr 1;grind
  rw[e];rw[List.map_cons,List.nodup_cons] at hn;refine oH ps _ hn.2 fun q hq=>?_;have b:p.1≠q.1:=fun h=>hn.1 (DU.2 ⟨q,hq,h.symm⟩);rw[Dk,List.getElem?_set_ne b,←Dk];exact hz q (DM _ hq)
theorem sy {L:Nat}{A:List Nat}{M:List Rat}(hn:A.Nodup) (hl:M.length=A.length):oI L (A.zip M)=cJ L (A.zip M) :=
 oH _ _ (by rw[List.map_fst_zip (by omega)];exact hn) fun p _=>by
  rw[Dk,DL]
  split <;> rfl
section
variable {ns:List NdD}{ms:List Int}{tg:List Rat}{sum:Rat}{t:St}
theorem xF (hn:ms.length≤8) (mu:List Rat){i:Nat}(hi:i<ms.length) :
 sm (ay ns ms).length (fun k=>gt mu k*gt (nrm (ay ns ms) k) i)=aB (cC ns (mu.take ns.length) i)+gt mu (ns.length+i)-gt mu (ns.length+ms.length+i):=by
 rw[dA,lp,lp]
 have e1:sm ns.length (fun k=>gt mu k*gt (nrm (ay ns ms) k) i)=aB (cC ns (mu.take ns.length) i):=by
  rw[ii,fM];refine ak fun k hk=>?_;unfold gt;rw[Dk (l:=cC _ _ _),jt hk]
  show _=if eQ (kP ns k) i=true then (mu.take ns.length).getD k 0 else 0
  rw[nP hk,(eP hk).1];have:=lJ (p:=kP ns k) (v:=1) hi
  unfold gt at this ⊢
  rw[this]
  by_cases e:eQ (kP ns k) i=true
  · rw[if_pos e,if_pos e,Rat.mul_one]
  · rw[if_neg e,if_neg e,Rat.mul_zero]
 have e2:sm ms.length (fun k=>gt mu (ns.length+k)*gt (nrm (ay ns ms) (ns.length+k)) i)=gt mu (ns.length+i):=by
  rw[ak (g:=fun k=>gt mu (ns.length+k)*dl k i) (fun k hk=>by rw[(fQ hk).1,kX hn hk hi,Rat.one_mul]),eJ (fun k=>gt mu (ns.length+k)) hi]
 have e3:sm ms.length (fun k=>gt mu (ns.length+ms.length+k)*gt (nrm (ay ns ms) (ns.length+ms.length+k)) i)=- gt mu (ns.length+ms.length+i):=by
  rw[ak (g:=fun k=>(-gt mu (ns.length+ms.length+k))*dl k i) (fun k hk=>by rw[(iH hk).1,kX hn hk hi];grind),eJ (fun k=>-gt mu (ns.length+ms.length+k)) hi]
 rw[e1,e2,e3];grind
theorem yS {pay mults low high:List Rat}{lev:Rat}(h:Best ms.length (ay ns ms) tg sum t) (hn:ms.length≤8) (ht:tg.length=ms.length) (hr:fi tg ns ms sum pay mults low high lev=true):pay=t.x:=by
 unfold fi at hr
 simp only[Bool.and_eq_true,decide_eq_true_eq,mD] at hr
 obtain⟨h1,h2,h3,hp,hs,hf⟩:=hr;have hP:=(go hn).1 hp;obtain⟨mu,b⟩:∃ mu,mu=mults++(low++high):=⟨_,rfl⟩;rw[←b] at hs;have hl:=hP.len
 have c:∀ k,k<(ay ns ms).length→gt mu k=0∨(0<gt mu k∧ip ms.length (gt (nrm (ay ns ms) k)) (gt pay)=lst (ay ns ms) k):=fun k hk=>by
  rw[←iS] at hk;have k1:=hs k hk;obtain⟨c1,c2,c3⟩:=vS hn hk;unfold kK bL at k1
  have c4:aB (dy ((br ns ms).getD k ([],0)).1 pay)=ip ms.length (gt (nrm (ay ns ms) k)) (gt pay):=by
   rw[←c2];exact vL c1 hl
  rw[c4,show ((((br ns ms).getD k ([],0)).2:Int):Rat)=lst (ay ns ms) k from c3] at k1
  simp only[Bool.or_eq_true,Bool.and_eq_true,decide_eq_true_eq] at k1
  rcases k1 with k1 | k1
  · exact .inl k1
  · exact .inr ⟨k1.2,k1.1⟩
 have d:Pt ((ay ns ms).length+1) ms.length (fun j i=>match j with | 0=>1 | k+1=>if gt mu k=0 then 0 else gt (nrm (ay ns ms) k) i) (fun j=>match j with | 0=>sum | k+1=>if gt mu k=0 then 0 else lst (ay ns ms) k) (gt tg) (gt (lev::mu)) (gt pay) (fun _=>0) 0:=by
  refine⟨fun i hi=>?_,fun j hj=>?_⟩
  · unfold lc;rw[im]
    rw[ak (n:=(ay ns ms).length) (g:=fun k=>gt mu k*gt (nrm (ay ns ms) k) i) (fun k hk=>by
     show gt (lev::mu) (k+1)*(if gt mu k=0 then 0 else gt (nrm (ay ns ms) k) i)=_
     rw[dw]
     by_cases e:gt mu k=0
     · rw[if_pos e,e];grind
     · rw[if_neg e])]
    rw[xF hn mu hi];have k1:=hf i hi;unfold gY at k1;have k2:=of_decide_eq_true k1;have e1:mu.take ns.length=mults:=by rw[b,←h3,List.take_left]
    have e2:gt mu (ns.length+i)=low.getD i 0:=by unfold gt;rw[b,←h3];exact uc (by omega)
    have e3:gt mu (ns.length+ms.length+i)=high.getD i 0:=by unfold gt;rw[b,←h3,←h1];exact zx
    rw[e1,e2,e3]
    show gt pay i=gt tg i+(lev*1+_)+0*0
    have k3:gt pay i-gt tg i=_:=k2
    grind
  · cases j with
    | zero=>exact hP.tot
    | succ k =>
     show ip ms.length (fun i=>if gt mu k=0 then 0 else gt (nrm (ay ns ms) k) i) (gt pay)=if gt mu k=0 then 0 else lst (ay ns ms) k
     by_cases e:gt mu k=0
     · rw[if_pos e];refine aX fun i _=>?_
       show (if gt mu k=0 then 0 else gt (nrm (ay ns ms) k) i)*_=0
       rw[if_pos e];grind
     · rw[if_neg e]
       rcases c k (by omega) with k1 | k1
       · exact absurd k1 e
       · rw[←k1.2];exact bK (fun i _=>if_neg e) fun _ _=>rfl
 have hx:=h.poss
 have hd:=d.nearest (u:=gt t.x) (fun _=>hx.tot) (fun j h0 hj=>by
  obtain⟨k,rfl⟩:∃ k,j=k+1:=⟨j-1,by omega⟩;rw[dw]
  rcases c k (by omega) with k1 | k1
  · rw[k1];exact Rat.le_refl
  · exact Rat.le_of_lt k1.1) fun j h0 hj=>by
  obtain⟨k,rfl⟩:∃ k,j=k+1:=⟨j-1,by omega⟩
  show (if gt mu k=0 then 0 else lst (ay ns ms) k)≤ip ms.length (fun i=>if gt mu k=0 then 0 else gt (nrm (ay ns ms) k) i) (gt t.x)
  by_cases e:gt mu k=0
  · rw[if_pos e];rw[show ip ms.length (fun i=>if gt mu k=0 then 0 else gt (nrm (ay ns ms) k) i) (gt t.x)=0 from aX fun i _=>by show (if gt mu k=0 then 0 else gt (nrm (ay ns ms) k) i)*_=0;rw[if_pos e];grind];exact Rat.le_refl
  · rw[if_neg e,bK (a':=gt (nrm (ay ns ms) k)) (b':=gt t.x) (fun i _=>if_neg e) fun _ _=>rfl];exact hx.ok k (by omega)
 refine h.only hP ?_;have h9:0≤ip ms.length (fun i=>gt t.x i-gt pay i) fun i=>gt t.x i-gt pay i:=nO _ _
 show ip _ _ _≤ip _ _ _
 grind
theorem zJ (h:Best ms.length (ay ns ms) tg sum t) (hI:ConI ms.length (ay ns ms)) (hn:ms.length≤8) (h0:0<ms.length) (ht:tg.length=ms.length) (hs:t.active.Nodup):iU ns ms tg sum t.active=true:=by
 have hc:∀ a∈t.active,a<(br ns ms).length:=fun a ha=>by rw[iS];exact h.hA a ha
 have c:=h.li h0;have hr:=cE (n:=ms.length) (all:=ay ns ms) (A:=t.active) hI.len h.hA;obtain⟨r,p,k,d⟩:=pc hr (by rw[aM];omega) (by rw[aM];exact c) (b:=nI sum tg (cW ns ms t.active)) (by rw[jK,jJ,aM]);rw[aM] at k d
 have hp:Pt (t.active.length+1) ms.length (fn (ao ms.length (ay ns ms) t.active)) (gt (sum::t.active.map (lst (ay ns ms)))) (gt tg) (gt r) (fun i=>gt tg i+lc (t.active.length+1) (gt r) (fn (ao ms.length (ay ns ms) t.active)) i) (fun _=>0) 0:=by
  refine⟨fun i _=>by grind,fun j hj=>?_⟩;rw[fR,bU _ _ (lc _ _ _),iT];have h1:=d j hj;rw[uV hn ht hc hj] at h1;rw[ak (g:=fun l=>ip ms.length (fn (ao ms.length (ay ns ms) t.active) j) (fn (ao ms.length (ay ns ms) t.active) l)*gt r l) (fun l _=>by rw[bU ms.length (fn _ l) (fn _ j)];grind)]
  grind
 have hu:=(Pt.unique c h.pt hp).2;have m:r=t.level::t.mults:=(fY (by rw[k,List.length_cons,h.lm]) fun j hj=>(hu j (by rw[List.length_cons,h.lm] at hj;exact hj)).symm)
 have o:kJ ns ms tg sum t.active=(t.level::t.mults,0):=by
  have hf:=fJ (er (ao ms.length (ay ns ms) t.active)) (by rw[bC,aM];omega);unfold kJ dH;rw[rE hn hc,if_pos ⟨hf.1,by rw[jK,jJ,bC,aM]⟩,p,m]
 have q:Bh ns ms t.active (t.level::t.mults)=bR ns ms t:=by
  unfold Bh bR;rw[iS];exact sy hs h.lm
 unfold iU;rw[o]
 show (decide ((0:Int)=0)&&CV ns ms tg sum (Bh ns ms t.active (t.level::t.mults)) t.level)=true
 rw[q,Dv rfl,Bool.true_and];unfold CV
 have f:sD tg ns ms.length ((bR ns ms t).take ns.length) (((bR ns ms t).drop ns.length).take ms.length) ((bR ns ms t).drop (ns.length+ms.length)) t.level=t.x:=by
  refine fY (by rw[sC,h.lx]) fun i hi=>?_;rw[h.lx] at hi;unfold gt;rw[Dk,ve hi]
  show tg.getD i 0+(_+_-_+_)=_
  rw[ui hi,rD];have h1:=h.force hn hi
  unfold gt at h1 ⊢
  grind
 rw[f,su hn];exact h.cert hn
theorem zI (h:Best ms.length (ay ns ms) tg sum t) (h0:ms.length=0) (ht:tg.length=ms.length):iU ns ms tg sum []=true:=by
 have g:ms=[]:=Dz h0;have f:tg=[]:=Dz (by omega);have hx:t.x=[]:=Dz (by rw[h.lx,h0]);have hP:=h.poss;subst g f;have c:sum=0:=hP.tot.symm;subst c;rw[hx] at hP
 have d:(kJ ns [] [] 0 []).2=0:=by
  have hG:iC (cW ns [] [])=[[(0:Rat)]]:=rfl;have hR:nI 0 [] (cW ns [] [])=[(0:Rat)-aB []]:=rfl;unfold kJ dH;rw[hG,hR,if_pos ⟨by decide,rfl⟩];have j:=ku (M:=[[(0:Rat)]]) (b:=[(0:Rat)-aB []]) (x:=[0]) (by decide) rfl (by decide +kernel)
  show ((match cN [[(0:Rat)]] _ with | some x=>(x,0) | none=>([],6):List Rat × Int)).2=0
  cases e:cN [[(0:Rat)]] [(0:Rat)-aB []] with
  | none=>exact absurd e j
  | some x=>rfl
 unfold iU;rw[d,Dv rfl,Bool.true_and];unfold CV;have hz:Bh ns [] [] (kJ ns [] [] 0 []).1=List.replicate (br ns []).length 0:=rfl;rw[hz]
 generalize (kJ ns [] [] 0 []).1.getD 0 0=lev
 have hL:(br ns []).length=ns.length:=by rw[cL];rfl
 unfold fi
 simp only[Bool.and_eq_true,decide_eq_true_eq,mD]
 refine⟨by simp,by rw[DC,Do,hL];simp,by rw[DB,Do,hL,Nat.min_self],(go (by decide)).2 hP,fun k hk=>?_,fun i hi=>by simp at hi⟩;unfold kK bL;rw[Bool.or_eq_true];refine .inl (Dv ?_);rw[Dk]
 cases e:(List.take ns.length (List.replicate (br ns []).length (0:Rat))++((List.take ([]:List Int).length (List.drop ns.length (List.replicate (br ns []).length 0)))++List.drop (ns.length+([]:List Int).length) (List.replicate (br ns []).length 0)))[k]? with
 | none=>rfl
 | some x =>
  have hx:=Dm e
  simp only[List.mem_append] at hx
  rcases hx with hx | hx | hx
  · exact (List.mem_replicate.1 (DJ hx)).2
  · exact (List.mem_replicate.1 (DK (DJ hx))).2
  · exact (List.mem_replicate.1 (DK hx)).2
end
section
variable {ns:List NdD}{ms:List Int}{tg:List Rat}{sum:Rat}{t:St}
theorem sk (h:Best ms.length (ay ns ms) tg sum t) (hI:ConI ms.length (ay ns ms)) (hn:ms.length≤8) (ht:tg.length=ms.length):cV ns ms tg sum (ms.length-1) [] 0=true:=by
 rcases Nat.eq_zero_or_pos ms.length with h0 | h0
 · exact ot (zI h h0 ht)
 · obtain⟨B,hB,hs⟩:=wI (LI.nodup (h.li h0));obtain⟨M,hM⟩:=h.perm hB;have b:B.Nodup:=hB.nodup_iff.2 (LI.nodup (h.li h0));have h1:=zJ hM hI hn h0 ht b;have h2:=(h.li h0).le;refine oq B _ [] 0 hs (fun a ha=>⟨D8 _,?_⟩) ?_ h1
   · rw[iS];exact h.hA a (hB.mem_iff.1 ha)
   · rw[hB.length_eq];omega
theorem zm {mu:List Rat}{lev:Rat}(hn:ms.length≤8){pay mults low high:List Rat}(h:fi tg ns ms sum pay mults low high lev=true):Poss ms.length (ay ns ms) sum pay:=by
 unfold fi at h
 simp only[Bool.and_eq_true,decide_eq_true_eq] at h
 exact (go hn).1 h.2.2.2.1
theorem pe (hI:ConI ms.length (ay ns ms)) (hn:ms.length≤8){ch:List Nat}(hc:∀ a∈ch,a<(br ns ms).length):MFits 40 (iC (cW ns ms ch)):=by
 rw[rE hn hc];exact (mQ hI (fun a ha=>by rw[←iS];exact hc a ha) hn).mono (by decide)
theorem pU (hI:ConI ms.length (ay ns ms)) (hn:ms.length≤8) (ht:tg.length=ms.length) (hft:QFits 2 tg) (hfs:Fits 2 sum){ch:List Nat}(hc:∀ a∈ch,a<(br ns ms).length):QFits 40 (nI sum tg (cW ns ms ch)):=by
 have hA:∀ a∈ch,a<(ay ns ms).length:=fun a ha=>by rw[←iS];exact hc a ha
 refine oy fun j hj=>?_;rw[jK,jJ] at hj;rw[uV hn ht hc hj]
 have h1:Fits 2 (gt (sum::ch.map (lst (ay ns ms))) j):=by
  refine cX (by decide) (fun q hq=>?_) j
  rcases List.mem_cons.1 hq with rfl | hq
  · exact hfs
  · obtain⟨a,ha,rfl⟩:=DU.1 hq;unfold lst;rw[Dl (hA a ha)];exact hI.lst _ (Dy _)
 have h2:Fits (1+ms.length*(1+2+1)) (ip ms.length (fn (ao ms.length (ay ns ms) ch) j) (gt tg)):=by
  unfold ip;refine jd fun i hi=>?_;refine Fits.mul ?_ (cX (by decide) hft i);have hl:j<(ao ms.length (ay ns ms) ch).length:=by rw[aM];exact hj
  rw[←mC hl];exact (jS (fc hI hA _ (Dy hl)) i).fits (by decide)
 exact (h1.sub h2).mono (by omega)
theorem pd (hn:ms.length≤8){ch:List Nat}(hc:∀ a∈ch,a<(br ns ms).length):aW (iC (cW ns ms ch))=true∧colsL (iC (cW ns ms ch))=ch.length+1:=by
 rw[rE hn hc];have hf:=fJ (er (ao ms.length (ay ns ms) ch)) (by rw[bC,aM];omega);rw[aM] at hf;exact hf
theorem qt (L:List (List Int × Int)):(iC L).length=L.length:=by simp[iC]
theorem CZ:gK 40 4=10325:=by decide
theorem wK (hI:ConI ms.length (ay ns ms)) (hn:ms.length≤8) (ht:tg.length=ms.length) (hft:QFits 2 tg) (hfs:Fits 2 sum){ch:List Nat}(hc:∀ a∈ch,a<(br ns ms).length) (hl:ch.length+1≤4) (h0:(kJ ns ms tg sum ch).2=0) :
 QFits 10325 (kJ ns ms tg sum ch).1∧(kJ ns ms tg sum ch).1.length=ch.length+1:=by
 have hf:=pd (ns:=ns) hn hc;have hb:=pU (ns:=ns) hI hn ht hft hfs hc;have b:(nI sum tg (cW ns ms ch)).length=(iC (cW ns ms ch)).length:=by rw[jK,qt]
 unfold kJ dH at h0 ⊢
 rw[if_pos ⟨hf.1,b⟩] at h0 ⊢
 cases e:cN (iC (cW ns ms ch)) (nI sum tg (cW ns ms ch)) with
 | none=>rw[e] at h0;cases h0
 | some x =>
  refine⟨?_,?_⟩
  · have h1:=oh (K:=40) (by decide) hf.1 (pe hI hn hc) hb b e;rw[hf.2] at h1;exact h1.mono (by rw[←CZ];exact iD 40 hl)
  · have h1:=(jZ hf.1 b e).1;rw[hf.2] at h1;exact h1
theorem xd {K:Nat}{len:Nat}:∀ (ps:List (Nat × Rat)),(∀ p∈ps,Fits K p.2)→0<K→QFits K (oI len ps):=by
 have b:∀ (ps:List (Nat × Rat)) (l:List Rat),(∀ p∈ps,Fits K p.2)→QFits K l→QFits K (ps.foldl (fun l p=>l.set p.1 p.2) l):=fun ps=>by
  induction ps with
  | nil=>exact fun l _ h=>h
  | cons p ps ih =>
   intro l hp hl;rw[List.foldl_cons];refine ih _ (fun q hq=>hp q (DM _ hq)) fun q hq=>?_
   rcases List.mem_or_eq_of_mem_set hq with h | rfl
   · exact hl q h
   · exact hp p DN
 exact fun ps hp hK=>b ps _ hp fun q hq=>by rw[(List.mem_replicate.1 hq).2];exact Fits.zero hK
theorem zy {ch:List Nat}{y:List Rat}(hy:QFits 10325 y):QFits 10325 (Bh ns ms ch y) :=
 xd _ (fun p hp=>hy _ (DK (List.of_mem_zip hp).2)) (by decide)
theorem pf {mults low high:List Rat}{lev:Rat}(hm:QFits 10325 mults) (hl:QFits 10325 low) (hh:QFits 10325 high) (hv:Fits 10325 lev) (hns:ns.length≤5) (i:Nat):Fits 90000 (lev+low.getD i 0-high.getD i 0+aB (cC ns mults i)):=by
 have h1:Fits (1+ns.length*(10325+1)) (aB (cC ns mults i)):=by
  rw[ii,fM];exact jd fun k _=>cX (by decide) (iE (by decide) hm) k
 exact ((((hv.add (cX (by decide) hl i)).sub (cX (by decide) hh i)).add h1)).mono (by omega)
theorem xn {mults low high:List Rat}{lev:Rat}{n:Nat}(hft:QFits 2 tg) (hm:QFits 10325 mults) (hl:QFits 10325 low) (hh:QFits 10325 high) (hv:Fits 10325 lev) (hns:ns.length≤5):QFits 100000 (sD tg ns n mults low high lev):=fun q hq=>by
 obtain⟨i,_,rfl⟩:=DU.1 hq;exact ((cX (by decide) hft i).add (pf hm hl hh hv hns i)).mono (by decide)
end
end Go.Proofs.YtjhkapjadfpimaaGreat
