/- Contracts of functions, for the law. -/
import Derived.Test.YtjhkapjadfpimaaGreatNNext
import Derived.Test.YtjhkapjadfpimaaGreatNApp
namespace Go.Proofs.YtjhkapjadfpimaaGreat
set_option linter.unusedVariables false
set_option linter.unusedSimpArgs false
open Go.RowKit Plain
def intQ (B:Nat) (q:Rat):Prop:=∃ z:Int,q=(z:Rat)∧z.natAbs≤B
theorem intQ.fits {B:Nat}{q:Rat}(h:intQ B q) (hB:B<1000):Fits 1 q:=by
 obtain⟨z,rfl,hz⟩:=h;have e:pw 1=4294967296:=by decide
 refine⟨?_,?_⟩
 · rw[Rat.num_intCast,e];omega
 · rw[Rat.den_intCast,e];omega
theorem intQ.mul {q r:Rat}(h:intQ 1 q) (h':intQ 1 r):intQ 1 (q*r):=by
 obtain⟨z,rfl,hz⟩:=h;obtain⟨y,rfl,hy⟩:=h';refine⟨z*y,by rw[Rat.intCast_mul],?_⟩;rw[Int.natAbs_mul];have:=Nat.mul_le_mul hz hy;omega
theorem AE {n:Nat}{f:Nat→Rat}(h:∀ i,i<n→intQ 1 (f i)):intQ n (sm n f):=by
 induction n with
 | zero=>exact⟨0,rfl,by decide⟩
 | succ n ih =>
  obtain⟨z,e1,hz⟩:=ih fun i hi=>h i (by omega);obtain⟨y,e2,hy⟩:=h n (by omega);refine⟨z+y,?_,by omega⟩
  show sm n f+f n=_
  rw[e1,e2,Rat.intCast_add]
theorem jd {n K:Nat}{f:Nat→Rat}(h:∀ i,i<n→Fits K (f i)):Fits (1+n*(K+1)) (sm n f):=by
 induction n with
 | zero=>exact Fits.zero (by omega)
 | succ n ih =>
  have h1:=ih fun i hi=>h i (by omega);refine (h1.add (h n (by omega))).mono ?_;rw[Nat.succ_mul];omega
structure ConI (n:Nat) (all:List Con):Prop where
 len:ConN n all
 nrm:∀ c∈all,∀ q∈c.normal,intQ 1 q
 lst:∀ c∈all,Fits 2 c.least
section
variable {n k:Nat}{all:List Con}{tg:List Rat}{sum m:Rat}{s:St}{A:List Nat}
theorem ConI.lstk (h:ConI n all) (hk:k<all.length):Fits 2 (Go.Proofs.YtjhkapjadfpimaaGreat.lst all k):=by
 rw[kS (Dl hk)];exact h.lst _ (Dy hk)
theorem ConI.nrmk (h:ConI n all) (hk:k<all.length):∀ q∈Go.Proofs.YtjhkapjadfpimaaGreat.nrm all k,intQ 1 q:=by
 rw[fK (Dl hk)];exact h.nrm _ (Dy hk)
theorem jS {l:List Rat}(h:∀ q∈l,intQ 1 q) (i:Nat):intQ 1 (gt l i):=by
 unfold gt;rw[Dk]
 by_cases hi:i<l.length
 · rw[Dl hi];exact h _ (Dy hi)
 · rw[DI (by omega)];exact⟨0,rfl,by decide⟩
theorem cX {K:Nat}{l:List Rat}(hK:0<K) (h:QFits K l) (i:Nat):Fits K (gt l i):=by
 unfold gt;rw[Dk]
 by_cases hi:i<l.length
 · rw[Dl hi];exact h _ (Dy hi)
 · rw[DI (by omega)];exact Fits.zero hK
theorem fc (h:ConI n all) (hA:∀ a∈A,a<all.length):∀ r∈ao n all A,∀ q∈r,intQ 1 q:=fun r hr q hq=>by
 unfold ao at hr
 rcases List.mem_cons.1 hr with rfl | hr
 · rw[(List.mem_replicate.1 hq).2];exact⟨1,rfl,by decide⟩
 · obtain⟨a,ha,rfl⟩:=DU.1 hr;exact h.nrmk (hA a ha) q hq
theorem um (h:ConI n all) (hA:∀ a∈A,a<all.length){j:Nat}(hj:j<A.length+1) (i:Nat):intQ 1 (fn (ao n all A) j i):=by
 have b:j<(ao n all A).length:=by rw[aM];exact hj
 rw[←mC b];exact jS (fc h hA _ (Dy b)) i
theorem vK {a b:List Rat}(ha:a.length=n) (hb:b.length=n) (h1:∀ q∈a,intQ 1 q) (h2:∀ q∈b,intQ 1 q):intQ n (cD a b):=by
 rw[fu ha hb];exact AE fun i _=>(jS h1 i).mul (jS h2 i)
theorem mQ (h:ConI n all) (hA:∀ a∈A,a<all.length) (hn:n≤8):MFits 1 (eI (ao n all A)):=fun r hr q hq=>by
 obtain⟨a,ha,rfl⟩:=DU.1 hr;obtain⟨b,hb,rfl⟩:=DU.1 hq;have hR:=cE (n:=n) h.len hA;exact (vK (hR a ha) (hR b hb) (fc h hA a ha) (fc h hA b hb)).fits (by omega)
theorem ou (h:ConI n all) (hA:∀ a∈A,a<all.length) (hk:k<all.length) (hn:n≤8):QFits 1 (eK (ao n all A) (nrm all k)):=fun q hq=>by
 obtain⟨a,ha,rfl⟩:=DU.1 hq;have hR:=cE (n:=n) h.len hA;exact (vK (hR a ha) (h.len.nrm hk) (fc h hA a ha) (h.nrmk hk)).fits (by omega)
theorem gK8:gK 1 8=87381:=by decide
theorem ol {b r:List Rat}(h:ConI n all) (hA:∀ a∈A,a<all.length) (hn:n≤8) (hp:A.length+1≤8) (hb:QFits 1 b) (hbl:b.length=A.length+1) (hs:cN (eI (ao n all A)) b=some r):QFits 87381 r:=by
 have hf:=fJ (er (ao n all A)) (by rw[bC,aM];omega);have h1:=oh (K:=1) (by decide) hf.1 (mQ h hA hn) hb (by rw[bC,aM];exact hbl) hs;rw[hf.2,aM] at h1;exact h1.mono (by rw[←gK8];exact iD 1 hp)
theorem pl {z rates:List Rat}{lev:Rat}(h:ConI n all) (hA:∀ a∈A,a<all.length) (hk:k<all.length) (hn:n≤8) (hp:A.length+1≤8) (hd:pm n all A k=some (z,lev,rates)):QFits 87381 (lev::rates)∧QFits 699067 z:=by
 have hM:=aM n all A;have hr:=cE (n:=n) h.len hA;unfold pm at hd
 cases e:cN (eI (ao n all A)) (eK (ao n all A) (nrm all k)) with
 | none=>rw[e] at hd;cases hd
 | some r =>
  rw[e] at hd
  injection hd with hd
  injection hd with h1 hd
  injection hd with h2 h3
  have b:=ol h hA hn hp (ou h hA hk hn) (by rw[dI,hM]) e;obtain⟨h4,h5⟩:=kG (r:=r) hr (h.len.nrm hk) (ao n all A).length (Dt _);refine⟨fun q hq=>?_,fun q hq=>?_⟩
  · rcases List.mem_cons.1 hq with rfl | hq
    · rw[←h2];exact cX (by decide) b 0
    · rw[←h3] at hq;exact b q (DK hq)
  · rw[←h1] at hq;obtain⟨i,hi,rfl⟩:=List.mem_iff_getElem.1 hq;have h6:=h5 i (by rw[h4] at hi;exact hi);unfold gt at h6;rw[aD 0 hi] at h6;rw[h6];have h7:Fits (1+(ao n all A).length*(87381+1+1)) (lc (ao n all A).length (gt r) (fn (ao n all A)) i):=jd fun j hj=>(cX (by decide) b j).mul ((um h hA (by rw[hM] at hj;exact hj) i).fits (by decide));refine (((jS (h.nrmk hk) i).fits (by decide)).sub h7).mono ?_;rw[hM];omega
theorem rh {y x v:Nat→Rat}(h:ConI n all) (hA:∀ a∈A,a<all.length) (hn:n≤8) (ht:QFits 2 tg) (hs:Fits 2 sum) (hl:LI (A.length+1) n (fn (ao n all A))) (hp:Pt (A.length+1) n (fn (ao n all A)) (gt (sum::A.map (lst all))) (gt tg) y x v 0) :
 (∀ j,j<A.length+1→Fits 699345 (y j))∧∀ i,i<n→Fits 5594780 (x i):=by
 have m:A.length+1≤8:=Ds hl.le hn;have hM:=aM n all A;have hr:=cE (n:=n) h.len hA
 have hg:∀ l,∃ r:List Rat,QFits 87381 r∧∀ j,j<A.length+1→sm (A.length+1) (fun t=>ip n (fn (ao n all A) j) (fn (ao n all A) t)*gt r t)=dl l j:=fun l=>by
  obtain⟨r,h1,h2,h3⟩:=pc (b:=(List.range (A.length+1)).map fun j=>dl l j) hr (by omega) (by rw[hM];exact hl) (by simp[hM]);refine⟨r,ol h hA hn m (fun q hq=>?_) (by simp) h1,fun j hj=>?_⟩
  · obtain⟨j,_,rfl⟩:=DU.1 hq;unfold dl
    split
    · exact intQ.fits (B:=1) ⟨1,rfl,by decide⟩ (by decide)
    · exact intQ.fits (B:=1) ⟨0,rfl,by decide⟩ (by decide)
  · rw[hM] at h3;rw[h3 j hj];unfold gt;rw[jj hj]
 obtain⟨b',d⟩:∃ b':Nat→Rat,∀ l,b' l=gt (sum::A.map (lst all)) l-ip n (fn (ao n all A) l) (gt tg):=⟨_,fun _=>rfl⟩;obtain⟨g,hg⟩:∃ g:Nat→List Rat,∀ l,QFits 87381 (g l)∧∀ j,j<A.length+1→sm (A.length+1) (fun t=>ip n (fn (ao n all A) j) (fn (ao n all A) t)*gt (g l) t)=dl l j:=⟨fun l=>Classical.choose (hg l),fun l=>Classical.choose_spec (hg l)⟩;obtain⟨ys,c⟩:∃ ys:Nat→Rat,∀ j,ys j=sm (A.length+1) (fun l=>b' l*gt (g l) j):=⟨_,fun _=>rfl⟩
 have hq:Pt (A.length+1) n (fn (ao n all A)) (gt (sum::A.map (lst all))) (gt tg) ys (fun i=>gt tg i+lc (A.length+1) ys (fn (ao n all A)) i) v 0:=by
  refine⟨fun i hi=>by grind,fun j hj=>?_⟩;rw[fR,bU n _ (lc _ ys _),iT]
  have e1:sm (A.length+1) (fun t=>ys t*ip n (fn (ao n all A) t) (fn (ao n all A) j))=sm (A.length+1) (fun l=>b' l*sm (A.length+1) (fun t=>gt (g l) t*ip n (fn (ao n all A) t) (fn (ao n all A) j))):=by
   rw[cp];exact ak fun t _=>by rw[c t]
  rw[e1,ak (g:=fun l=>b' l*dl l j) (fun l _=>by
   rw[←(hg l).2 j hj]
   congr 1
   exact ak fun t _=>by rw[bU n (fn (ao n all A) t)];grind),eJ b' hj,d j]
  grind
 obtain⟨ex,ey⟩:=hp.unique hl hq
 have k:∀ l,l<A.length+1→Fits 36 (b' l):=fun l hl=>by
  rw[d l]
  have h1:Fits 2 (gt (sum::A.map (lst all)) l):=by
   refine cX (by decide) (fun q hq=>?_) l
   rcases List.mem_cons.1 hq with rfl | hq
   · exact hs
   · obtain⟨a,ha,rfl⟩:=DU.1 hq;exact h.lstk (hA a ha)
  have h2:Fits (1+n*(1+2+1)) (ip n (fn (ao n all A) l) (gt tg)):=jd fun i _=>((um h hA hl i).fits (by decide)).mul (cX (by decide) ht i);exact (h1.sub h2).mono (by omega)
 have f:∀ j,j<A.length+1→Fits 699345 (ys j):=fun j hj=>by
  rw[c j];have h1:Fits (1+(A.length+1)*(36+87381+1)) (sm (A.length+1) (fun l=>b' l*gt (g l) j)):=jd fun l hl=>(k l hl).mul (cX (by decide) (hg l).1 j);exact h1.mono (by omega)
 refine⟨fun j hj=>by rw[ey j hj];exact f j hj,fun i hi=>?_⟩;rw[ex i hi];have h1:Fits (1+(A.length+1)*(699345+1+1)) (lc (A.length+1) ys (fn (ao n all A)) i):=jd fun j hj=>(f j hj).mul ((um h hA hj i).fits (by decide));exact ((cX (by decide) ht i).add h1).mono (by omega)
abbrev KN:Nat:=10000000
theorem Okk.fits {z rates:List Rat}{lev:Rat}(h:ConI n all) (hk:k<all.length) (hn:n≤8) (ht:QFits 2 tg) (hs:Fits 2 sum) (ok:Okk n all tg sum s k m) (hm:Fits 786726 m) (hd:Dir n all s.active k z lev rates) :
 (∀ j,j<s.active.length+1→Fits 699345 (gt (s.level::s.mults) j+m*gt (lev::rates) j)∧Fits 1573453 (gt (s.level::s.mults) j))∧∀ i,i<n→Fits 7080574 (gt s.x i):=by
 have b:s.active.length+1≤8:=Ds ok.li.le hn;obtain⟨h1,h2⟩:=rh h ok.hA hn ht hs ok.li (ok.pt.back hd.zz hd.or);obtain⟨h3,h4⟩:=pl h ok.hA hk hn b hd.is;refine⟨fun j hj=>⟨h1 j hj,?_⟩,fun i hi=>?_⟩
 · have e:gt (s.level::s.mults) j=(gt (s.level::s.mults) j+m*gt (lev::rates) j)-m*gt (lev::rates) j:=by grind
   rw[e];exact ((h1 j hj).sub (hm.mul (cX (by decide) h3 j))).mono (by omega)
 · have e:gt s.x i=(gt s.x i-m*gt z i)+m*gt z i:=by grind
   rw[e];exact ((h2 i hi).add (hm.mul (cX (by decide) h4 i))).mono (by omega)
theorem QFits.of_gt {K N:Nat}{l:List Rat}(hl:l.length≤N) (h:∀ i,i<N→Fits K (gt l i)):QFits K l:=fun q hq=>by
 obtain⟨i,hi,rfl⟩:=List.mem_iff_getElem.1 hq;have h1:=h i (by omega);unfold gt at h1;rw[aD 0 hi] at h1;exact h1
theorem Okk.oks {z rates:List Rat}{lev:Rat}(h:ConI n all) (hk:k<all.length) (hn:n≤8) (ht:QFits 2 tg) (hs:Fits 2 sum) (ok:Okk n all tg sum s k m) (hm:Fits 786726 m) (hd:Dir n all s.active k z lev rates):vo KN n all s=true:=by
 obtain⟨h1,h2⟩:=ok.fits h hk hn ht hs hm hd;have b:s.active.length+1≤8:=Ds ok.li.le hn;refine okS_iff.2 ⟨QFits.of_gt (N:=n) (by rw[ok.lx];exact Dt _) fun i hi=>(h2 i hi).mono (by decide),(h1 0 (by omega)).2.mono (by decide),QFits.of_gt (N:=s.active.length) (by rw[ok.lm];exact Dt _) fun i hi=>(h1 (i+1) (by omega)).2.mono (by decide),ok.lx,ok.lm,by omega,ok.hA⟩
theorem yH (h:ConI n all) (hk:k<all.length) (hn:n≤8) (ht:QFits 2 tg) (hs:Fits 2 sum):∀ (q f:Nat) (s:St) (m:Rat),s.active.length≤q→q<f→Okk n all tg sum s k m→0≤m→Fits 786726 m→ip n (gt (nrm all k)) (gt s.x)<lst all k →
 (jA KN n all k f s m=some none∧Infeas n all sum)∨∃ t,jA KN n all k f s m=some (some t)∧(∀ k',Okk n all tg sum t k' 0)∧DV n all tg s k m<f7 n tg t.x:=by
 intro q
 induction q with
 | zero =>
  intro f s m ha hf ok d hm hx;obtain⟨f,rfl⟩:∃ g,f=g+1:=⟨f-1,by omega⟩;obtain⟨z,c,b,hd⟩:=uu h.len ok.hA hk ok.li;have ho:=ok.oks h hk hn ht hs hm hd;have l:jy KN m=true:=fitsB_iff.2 (hm.mono (by decide))
  have e:jA KN n all k (f+1) s m=match kt n all k s m with
   | none=>none
   | some none=>some none
   | some (some (true,t,m'))=>some (some ⟨t.x,t.level,t.active++[k],t.mults++[m']⟩)
   | some (some (false,t,m'))=>jA KN n all k f t m':=by
   show (if vo KN n all s=true∧jy KN m=true then _ else none)=_
   rw[if_pos ⟨ho,l⟩];rfl
  rw[e]
  cases ok.next h.len hk d hx with
  | none h1 h2=>rw[h1];exact .inl ⟨rfl,h2⟩
  | full t m' h1 h2 h3=>rw[h1];exact .inr ⟨_,rfl,h2,h3⟩
  | drop j z b c T hd hq hr hT h1 h2 h3 h4 h5 h6=>omega
 | succ q ih =>
  intro f s m ha hf ok d hm hx;obtain⟨f,rfl⟩:∃ g,f=g+1:=⟨f-1,by omega⟩;obtain⟨z,c,b,hd⟩:=uu h.len ok.hA hk ok.li;have ho:=ok.oks h hk hn ht hs hm hd;have l:jy KN m=true:=fitsB_iff.2 (hm.mono (by decide))
  have e:jA KN n all k (f+1) s m=match kt n all k s m with
   | none=>none
   | some none=>some none
   | some (some (true,t,m'))=>some (some ⟨t.x,t.level,t.active++[k],t.mults++[m']⟩)
   | some (some (false,t,m'))=>jA KN n all k f t m':=by
   show (if vo KN n all s=true∧jy KN m=true then _ else none)=_
   rw[if_pos ⟨ho,l⟩];rfl
  rw[e]
  cases ok.next h.len hk d hx with
  | none h1 h2=>rw[h1];exact .inl ⟨rfl,h2⟩
  | full t m' h1 h2 h3=>rw[h1];exact .inr ⟨_,rfl,h2,h3⟩
  | drop j z b c T hd hq hr hT h1 h2 h3 h4 h5 h6 =>
   rw[h1];obtain⟨h7,h8⟩:=ok.fits h hk hn ht hs hm hd
   have v:m+T=(gt (s.level::s.mults) (j+1)+m*gt (c::b) (j+1)) / gt b j:=by
    rw[hT,dw,dw];have:gt b j≠0:=by grind
    grind
   have r:s.active.length+1≤8:=Ds ok.li.le hn;have p:=(pl h ok.hA hk hn r hd.is).1
   have o:Fits 786726 (m+T):=by
    rw[v];exact ((h7 (j+1) (by omega)).1.div (cX (by decide) p (j+1))).mono (by omega)
   rcases ih f _ (m+T) (by omega) (by omega) h2 h4 o h5 with h9 | ⟨t,h9,h10,h11⟩
   · exact .inl h9
   · exact .inr ⟨t,h9,h10,by grind⟩
end
attribute [local go_sem ↓] Go.wp_at_zero Go.wp_at_succ
set_option maxRecDepth 100000
set_option maxHeartbeats 40000000
section
variable {S:Sv}{s:Sm}{ent:Value}{w:World}
theorem SolM.c3 (h:SolM S s ent w){n:Nat}(hl:s.dx.length=n):w.cell? ⟨S.gs,3,none⟩=some (.slice (some ⟨S.gx,0,none⟩) n S.cx):=by
 subst hl;exact h.b.cells.2.2.2.1
theorem SolM.xc (h:SolM S s ent w){k:Nat}{d:FrD}(hk:s.dx[k]?=some d):w.cell? ⟨S.gx,k*3,none⟩=some (.bool d.neg)∧w.cell? ⟨S.gx,k*3+1,none⟩=some (.slice d.a d.la.length d.ca)∧w.cell? ⟨S.gx,k*3+2,none⟩=some (.slice d.b d.lb.length d.cb):=h.b.xo.cells hk
theorem SolM.c11 (h:SolM S s ent w){n gm cm:Nat}(hl:s.dm.length=n) (hev:s.vm=.slice (some ⟨gm,0,none⟩) n cm):w.cell? ⟨S.gs,11,none⟩=some (.slice (some ⟨gm,0,none⟩) n cm):=by
 rw[←hev];exact h.b.cells.2.2.2.2.2.2.2.2.2.2.2.1
theorem SolM.mc (h:SolM S s ent w){n gm cm:Nat}(hev:s.vm=.slice (some ⟨gm,0,none⟩) n cm){k:Nat}{d:FrD}(hk:s.dm[k]?=some d):w.cell? ⟨gm,k*3,none⟩=some (.bool d.neg)∧w.cell? ⟨gm,k*3+1,none⟩=some (.slice d.a d.la.length d.ca)∧w.cell? ⟨gm,k*3+2,none⟩=some (.slice d.b d.lb.length d.cb):=by
 have hm:=h.mul;rw[hev] at hm;exact hm.xo.2.2.cells hk
theorem SolM.setM2 (h:SolM S s ent w){n gm cm:Nat}(hev:s.vm=.slice (some ⟨gm,0,none⟩) n cm){k:Nat}(hk:k<s.dm.length){d:FrD}(hd:FV w d.v d.q) :
 ∃ w9,w.frozen? ⟨gm,k*3,none⟩=false∧w.frozen? ⟨gm,k*3+1,none⟩=false∧w.frozen? ⟨gm,k*3+2,none⟩=false ∧
  ((w.setCell ⟨gm,k*3,none⟩ (.bool d.neg)).setCell ⟨gm,k*3+1,none⟩ (.slice d.a d.la.length d.ca)).setCell ⟨gm,k*3+2,none⟩ (.slice d.b d.lb.length d.cb)=w9∧SolM S { s with dm:=s.dm.set k d } ent w9∧Only w w9 gm:=by
 obtain⟨g,c,w9,ev,f0,f1,f2,e9,h9,o9,-⟩:=h.setM hk hd;rw[hev] at ev
 cases ev
 exact⟨w9,f0,f1,f2,e9,h9,o9⟩
theorem SolM.vform (h:SolM S s ent w){k:Nat}(hk:k<s.dm.length):∃ gm cm,s.vm=.slice (some ⟨gm,0,none⟩) s.dm.length cm:=by
 obtain⟨A,c,e,hf⟩:=h.mul.fl h.mf;exact h.mul.some_of (fun e2=>by rw[e] at e2;injection e2 with _ e3 _;omega)
end
def CI (S:Sv) (s:Sm) (ent:Value) (r:St) (W:World) (e:Ending) (w':World):Prop :=
 ∃ s':Sm,e=.returned (.tuple #[])∧SolM S s' ent w'∧Hid (s'.st=r)∧Hid (s'.va=s.va∧s'.ia=s.ia∧s'.vm=s.vm)∧Trn (S.W s.vm) W w'
theorem qS {l:List FrD}{k:Nat}{y:FrD}(hk:k<l.length) (j:Nat):gt ((l.set k y).map FrD.q) j=if j=k then y.q else gt (l.map FrD.q) j:=by
 unfold gt;rw[List.map_set]
 by_cases e:j=k
 · subst e;rw[if_pos rfl,Dk,List.getElem?_set_self (by simpa using hk)];rfl
 · rw[if_neg e,Dk,List.getElem?_set_ne (by omega),←Dk]
theorem iI {l:List FrD}{k:Nat}{d:FrD}(h:l[k]?=some d):gt (l.map FrD.q) k=d.q:=by
 unfold gt;rw[Dk,Dq,h];rfl
theorem fY {a b:List Rat}(hl:a.length=b.length) (h:∀ j,j<b.length→gt a j=gt b j):a=b:=by
 refine List.ext_getElem hl fun j h1 h2=>?_;have:=h j h2;unfold gt at this
 rwa [aD 0 h1,aD 0 h2] at this
theorem zA {S:Sv}{s:Sm}{ent:Value}{Z R:Option Addr}{cz cr:Nat}{zs rs:List FrD}{l t:FrD}{w:World}(h:SolM S s ent w) (he0:∀ x,ent≠.int .u32 x) (hz:FL w Z cz zs) (hzW:∀ a,Z=some a→¬ S.W s.vm a.block) (hlz:zs.length=s.dx.length) (hr:FL w R cr rs) (hrW:∀ a,R=some a→¬ S.W s.vm a.block) (hlr:rs.length=s.dm.length)
 (hl:FV w l.v l.q) (ht:FV w t.v t.q) (fx:QFits KN (s.dx.map FrD.q)) (fz:QFits 699067 (zs.map FrD.q)) (fl:Fits KN s.lv.q) (fL:Fits 87381 l.q) (fT:Fits 190000000 t.q) (fm:QFits KN (s.dm.map FrD.q)) (fr:QFits 87381 (rs.map FrD.q)) :
 Calls Tryz.prog 75 #[.pointer (some ⟨S.gs,0,none⟩),.slice Z zs.length cz,.agg #[.bool l.neg,.slice l.a l.la.length l.ca,.slice l.b l.lb.length l.cb],.slice R rs.length cr,.agg #[.bool t.neg,.slice t.a t.la.length t.ca,.slice t.b t.lb.length t.cb]] w (CI S s ent (cK s.st (zs.map FrD.q) l.q (rs.map FrD.q) t.q) w):=by
 obtain⟨w0,gk,b0,l0,B0⟩:=ag w #[.bool l.neg,.slice l.a l.la.length l.ca,.slice l.b l.lb.length l.cb] 28;obtain⟨w1,gp,b1,l1,B1⟩:=ag w0 #[.bool t.neg,.slice t.a t.la.length t.ca,.slice t.b t.lb.length t.cb] 28;have ds:=Di b0 b1;have cs:VarQ w1 w.heap.size l:=Ea B0 b1;have cq:VarQ w1 w0.heap.size t:=B1;have he:=Dj he0;have g2:=hz.len;have g0:=hr.len;have c7:Trn (S.W s.vm) w w1:=Trn.of_below ds (h.nd he0);have db:=h.below ds;have d9:=h.b.hs;have d3:=h.b.hx;have f3:=h.b.hR;have cy:=Dj (show w0.heap.size≠S.gx by omega);have dk:=Dj (show w.heap.size≠S.gx by omega);have dt:=Dj (show w0.heap.size≠S.gs by omega);have d7:=Dj hzW;have d5:=Dj hrW;have bc:=Dj fT;have g8:=Dj fL;have dr:=Dj (fT.mul fL);have bm:=Dj fl;have g1:=Dj fx;have g4:=Dj fz;have fq:=Dj fm;have f9:=Dj fr;have d6:=Dj h.wlt;have V:=Dj hlz;have X:=Dj hlr;clear hzW hrW fT fL fl fx fz fm fr B0 B1 he0 d9 d3 f3 hlz hlr;go_enter Tryz.func75,Tryz.ntmps75;go_wp2
 go_loopw [16] (fun i wr=>∃ k:Nat,k≤zs.length∧i=.int .i64 (k:Int)∧∃ s1:Sm,SolM S s1 ent wr∧Hid (s1.dx.length=s.dx.length)∧Hid (∀ j,gt (s1.dx.map FrD.q) j=if j<k then gt (s.dx.map FrD.q) j+t.q*gt (zs.map FrD.q) j else gt (s.dx.map FrD.q) j)∧Hid (s1.lv=s.lv∧s1.va=s.va∧s1.ia=s.ia∧s1.vm=s.vm∧s1.dm=s.dm)∧VarQ wr w.heap.size l∧VarQ wr w0.heap.size t∧Trn (S.W s.vm) w wr) (fun i _=>zs.length-(intOf i).toNat)
 case atStart=>exact⟨0,by omega,rfl,s,db,rfl,fun j=>by rw[if_neg (by omega)],⟨rfl,rfl,rfl,rfl,rfl⟩,cs,cq,c7⟩
 case round =>
  clear db cs cq c7;obtain⟨k,hk,rfl,s1,hS,C,b3,O,bs,b6,I⟩:=hrel
  by_cases hkl:k<zs.length
  · have f6:(k:Int)<(zs.length:Int):=by omega
    obtain⟨a,d,ea,fv,c0,c1,c2,hd,bb⟩:=(hz.trn I d7.out).at hkl;rw[ea];obtain⟨wA,w4,eA,p0,p1,p2,r0,r1,r2,eB,m,b4,l4⟩:=bM wr d;have b2:=I.next b4;have f:=hS.below b4;have U:=bs.below b4;have g:=b6.below b4;have L:=hd.below b4;have N:FV w4 t.v t.q:=ht.trn b2;have T:=Dj (show k<s1.dx.length by rw[C.out,←V.out];exact hkl);obtain⟨xk,o⟩:∃ xk,Hid (s1.dx[k]?=some xk):=⟨_,Dl T.out⟩;have F:FV w4 xk.v xk.q:=f.b.xf xk (Dm o.out);have g5:(k:Int)<(s.dx.length:Int):=by have:=V.out;omega
    have bg:=Dj (show xk.q=gt (s.dx.map FrD.q) k by rw[←iI o.out,b3.out,if_neg (by omega)]);have cl:=Dj (show Fits KN xk.q by rw[bg.out];exact g1.out.getD (by decide) k);have bq:=Dj (show Fits 699067 d.q from g4.out.fr0 d (Dm bb.out));have bn:=Dj (show Fits (190000000+699067) (t.q*d.q) from bc.out.mul bq.out);have ch:=Dj (show gt (zs.map FrD.q) k=d.q from iI bb.out)
    have H:∀ j (y:FrD),y.q=xk.q+t.q*d.q→gt ((s1.dx.set k y).map FrD.q) j=if j<k+1 then gt (s.dx.map FrD.q) j+t.q*gt (zs.map FrD.q) j else gt (s.dx.map FrD.q) j:=fun j y hy=>by
     rw[qS T.out]
     by_cases e:j=k
     · subst e;rw[if_pos rfl,if_pos (by omega),hy,bg.out,ch.out]
     · rw[if_neg e,b3.out]
       by_cases e2:j<k
       · rw[if_pos e2,if_pos (by omega)]
       · rw[if_neg e2,if_neg (by omega)]
    replace H:=Dj H;clear hS bs b6 hd;go_upto_region 4 with fail;clear p0 p1 p2 r0 r1 r2 eA eB c0 c1 c2;have bT:=DY w4.heap.size w4;have n:Below w4.heap.size w4 w4.drew:=(DY _ _).drew;replace f:=f.below n;replace g:=g.below n;replace m:=m.below n;replace N:=N.below n;replace L:=L.below n;replace F:=F.below n;replace U:=U.below n;replace bT:=Di bT n;clear n;go_wp2_with fail;refine DZ ?_;refine aw (J:=[17]) (S:=fun w'=>w'.cell? ⟨S.gs,3,none⟩=some (.slice (some ⟨S.gx,0,none⟩) s.dx.length S.cx)∧w'.cell? ⟨S.gx,k*3,none⟩=some (.bool xk.neg)∧w'.cell? ⟨S.gx,k*3+1,none⟩=some (.slice xk.a xk.la.length xk.ca)∧w'.cell? ⟨S.gx,k*3+2,none⟩=some (.slice xk.b xk.lb.length xk.cb)∧w'.cell? ⟨w0.heap.size,0,none⟩=some (.bool t.neg)∧w'.cell? ⟨w0.heap.size,1,none⟩=some (.slice t.a t.la.length t.ca)∧w'.cell? ⟨w0.heap.size,2,none⟩=some (.slice t.b t.lb.length t.cb)∧w'.cell? ⟨wr.heap.size,0,none⟩=some (.bool d.neg)∧w'.cell? ⟨wr.heap.size,1,none⟩=some (.slice d.a d.la.length d.ca)∧w'.cell? ⟨wr.heap.size,2,none⟩=some (.slice d.b d.lb.length d.cb)) (by kernel_rfl) (⟨f.c3 C.out,(f.xc o.out).1,(f.xc o.out).2.1,(f.xc o.out).2.2,g.cells.1,g.cells.2.1,g.cells.2.2,m.cells.1,m.cells.2.1,m.cells.2.2⟩) (fun c=>?_)
    refine mN 0 1 2 3 4 5 6 7 c ?_;refine py 8 9 10 11 c ?_;refine kB 12 13 c ?_;refine dg 14 rfl fun K hK=>?_;go_simp;have z:=fo N L bc.out bq.out (by decide);go_at_call 34;refine (z).mono ?_;rintro e u1 ⟨vm,rfl,b9,A⟩;clear z;replace f:=f.below A;replace g:=g.below A;replace m:=m.below A;replace F:=F.below A;replace U:=U.below A;replace bT:=Di bT A;go_wp2_with fail;refine hK.out _ _ (⟨f.c3 C.out,(f.xc o.out).1,(f.xc o.out).2.1,(f.xc o.out).2.2,g.cells.1,g.cells.2.1,g.cells.2.2,m.cells.1,m.cells.2.1,m.cells.2.2⟩) (fun c=>?_);clear hK K;(try simp only[aq]);refine dg 15 rfl fun K hK=>?_;go_simp;have z:=dB F b9 cl.out bn.out (by decide);go_at_call 27;refine (z).mono ?_;rintro e u2 ⟨va,rfl,b5,D⟩;clear z;replace f:=f.below D;replace g:=g.below D;replace m:=m.below D;replace U:=U.below D
    replace bT:=Di bT D;obtain⟨y,rfl,hy,b8⟩:=b5.frd;clear b5;obtain⟨w9,f0,f1,f2,e9,bd,o9⟩:=f.setX T.out hy;go_wp2_with fail;refine hK.out _ _ (⟨f.c3 C.out,(f.xc o.out).1,(f.xc o.out).2.1,(f.xc o.out).2.2,g.cells.1,g.cells.2.1,g.cells.2.2,m.cells.1,m.cells.2.1,m.cells.2.2⟩) (fun c=>?_);clear hK K;(try simp only[aq]);refine kr 16 rfl c ?_;refine aj (rs:=[17]) (by kernel_rfl) (by simp) ?_;refine Ee rfl (by decide) (fun K hK=>?_) Ed;go_simp;refine hK.out _ _ ?_;clear hK K;(try clear c);(try simp only[aq]);refine au (by kernel_rfl) ?_ _;refine D1 ?_;(try go_simp);(try clear c);have bo:=g.only o9 cy.out;have g3:=U.only o9 dk.out;have Y:=(b2.next bT).only o9 (.inr (.inl rfl));clear f g m N L F U b9 hy o9;go_wp2;go_roundw
    case rel =>
     refine⟨k+1,by omega,by go_num,_,bd,?_,?_,O.out,g3,bo,Y⟩
     · show (s1.dx.set k y).length=_
       rw[DH];exact C.out
     · intro j;exact (H j y b8.out)
    case measure=>simp[intOf];omega
  · obtain rfl:k=zs.length:=by omega
    have gb:decide ((zs.length:Int)<(zs.length:Int))=false:=Du (by omega);obtain⟨w5,fb⟩:∃ w5,w5=wr:=⟨_,rfl⟩;subst fb;have p:=hS;have B:=bs;have r:=b6;have c4:=I;have bx:FV w5 t.v t.q:=ht.trn I;have bv:FV w5 l.v l.q:=hl.trn I;obtain⟨u1,u2,u3,u4,u5⟩:=O.out;have bf:Fits KN s1.lv.q:=by rw[u1];exact bm.out
    replace bm:=Dj bf;have fs:=Dj u1;have g6:=Dj u2;have cv:=Dj u3;have g7:=Dj u4;have d1:=Dj u5;clear u1 u2 u3 u4 u5 hS bs b6 I bf O;go_upto_region 6 with fail
    go_cut [] (fun wx=>∃ y:FrD,Hid (y.q=s1.lv.q-t.q*l.q)∧SolM S { s1 with lv:=y } ent wx∧VarQ wx w0.heap.size t∧Trn (S.W s.vm) w wx)
    case first =>
     have bT:=DY w5.heap.size w5;have n:Below w5.heap.size w5 w5.drew:=(DY _ _).drew;replace p:=p.below n;replace r:=r.below n;replace B:=B.below n;replace bx:=bx.below n;replace bv:=bv.below n;replace bT:=Di bT n;clear n;go_wp2_with fail;refine DZ ?_;refine aw (J:=[11]) (S:=fun w'=>w'.cell? ⟨S.gs,7,none⟩=some (.bool s1.lv.neg)∧w'.cell? ⟨S.gs,8,none⟩=some (.slice s1.lv.a s1.lv.la.length s1.lv.ca)∧w'.cell? ⟨S.gs,9,none⟩=some (.slice s1.lv.b s1.lv.lb.length s1.lv.cb)∧w'.cell? ⟨w0.heap.size,0,none⟩=some (.bool t.neg)∧w'.cell? ⟨w0.heap.size,1,none⟩=some (.slice t.a t.la.length t.ca)∧w'.cell? ⟨w0.heap.size,2,none⟩=some (.slice t.b t.lb.length t.cb)∧w'.cell? ⟨w.heap.size,0,none⟩=some (.bool l.neg)∧w'.cell? ⟨w.heap.size,1,none⟩=some (.slice l.a l.la.length l.ca)∧w'.cell? ⟨w.heap.size,2,none⟩=some (.slice l.b l.lb.length l.cb)) (by kernel_rfl) (⟨p.b.cells.2.2.2.2.2.2.2.1,p.b.cells.2.2.2.2.2.2.2.2.1,p.b.cells.2.2.2.2.2.2.2.2.2.1,r.cells.1,r.cells.2.1,r.cells.2.2,B.cells.1,B.cells.2.1,B.cells.2.2⟩) (fun c=>?_);refine py 0 1 2 3 c ?_;refine kB 4 5 c ?_;refine kr 6 rfl c ?_;refine dg 7 rfl fun K hK=>?_
     go_simp;have z:=fo bx bv bc.out g8.out (by decide);go_at_call 34;refine (z).mono ?_;rintro e u1 ⟨vm,rfl,b9,A⟩;clear z;replace p:=p.below A;replace r:=r.below A;replace B:=B.below A;replace bT:=Di bT A;go_wp2_with fail;refine hK.out _ _ (⟨p.b.cells.2.2.2.2.2.2.2.1,p.b.cells.2.2.2.2.2.2.2.2.1,p.b.cells.2.2.2.2.2.2.2.2.2.1,r.cells.1,r.cells.2.1,r.cells.2.2,B.cells.1,B.cells.2.1,B.cells.2.2⟩) (fun c=>?_);clear hK K;(try simp only[aq]);refine dg 8 rfl fun K hK=>?_;go_simp;have z:=bI p.b.lev b9 bm.out dr.out (by decide);go_at_call 32;refine (z).mono ?_;rintro e u2 ⟨va,rfl,b5,D⟩;clear z;replace p:=p.below D;replace r:=r.below D;replace B:=B.below D;replace bT:=Di bT D;obtain⟨y,rfl,hy,b8⟩:=b5.frd;clear b5;obtain⟨w9,f0,f1,f2,e9,bd,o9⟩:=p.setLev he.out hy;go_wp2_with fail;refine hK.out _ _ (⟨p.b.cells.2.2.2.2.2.2.2.1,p.b.cells.2.2.2.2.2.2.2.2.1,p.b.cells.2.2.2.2.2.2.2.2.2.1,r.cells.1,r.cells.2.1,r.cells.2.2,B.cells.1,B.cells.2.1,B.cells.2.2⟩) (fun c=>?_);clear hK K;(try simp only[aq]);refine kB 9 10 c ?_;refine aj (rs:=[11]) (by kernel_rfl) (by simp) ?_
     refine Ee rfl (by decide) (fun K hK=>?_) Ed;go_simp;refine hK.out _ _ ?_;clear hK K;(try clear c);(try simp only[aq]);refine au (by kernel_rfl) ?_ _;refine D1 ?_;(try go_simp);(try clear c);have bo:=r.only o9 dt.out;have Y:=(c4.next bT).only o9 (.inl rfl);go_wp2_with fail;go_meet;exact⟨y,b8,bd,bo,Y⟩
    case rest =>
     obtain⟨y,b8,cg,d8,c8⟩:=hcut;obtain⟨s2,M⟩:∃ s2:Sm,Hid (s2={ s1 with lv:=y }):=⟨_,rfl⟩;rw[←M.out] at cg;have f5:=Dj (show s2.dm.map FrD.q=s.dm.map FrD.q by rw[M.out];show s1.dm.map FrD.q=_;rw[d1.out]);have f4:=Dj (show s2.dm.length=s.dm.length by rw[M.out];show s1.dm.length=_;rw[d1.out]);have d4:=Dj (show s2.vm=s.vm by rw[M.out];exact g7.out);obtain⟨w6,ft⟩:∃ w6,w6=wc:=⟨_,rfl⟩;subst ft;clear p B r c4 bx bv;go_wp2
     go_loopw [52] (fun i wr=>∃ k:Nat,k≤rs.length∧i=.int .i64 (k:Int)∧∃ s1:Sm,SolM S s1 ent wr∧Hid (s1.dm.length=s.dm.length)∧Hid (∀ j,gt (s1.dm.map FrD.q) j=if j<k then gt (s.dm.map FrD.q) j-t.q*gt (rs.map FrD.q) j else gt (s.dm.map FrD.q) j)∧Hid (s1.lv=s2.lv∧s1.va=s2.va∧s1.ia=s2.ia∧s1.vm=s2.vm∧s1.dx=s2.dx)∧VarQ wr w0.heap.size t∧Trn (S.W s.vm) w wr) (fun i _=>rs.length-(intOf i).toNat)
     case atStart=>exact⟨0,by omega,rfl,s2,cg,f4.out,fun j=>by rw[if_neg (by omega),f5.out],⟨rfl,rfl,rfl,rfl,rfl⟩,d8,c8⟩
     case round =>
      clear cg d8 c8;obtain⟨k,hk,rfl,s3,hS,c9,bz,c5,b6,I⟩:=hrel;obtain⟨sB,gc⟩:∃ sB:Sm,Hid (sB=s1):=⟨_,rfl⟩;have dh:=C;have d0:=b3;clear C b3;obtain⟨G,d2⟩:∃ G,G=s3:=⟨_,rfl⟩;subst d2;have C:=c9;have b3:=bz;have O:=c5;clear c9 bz c5
      by_cases hkl:k<rs.length
      · have f6:(k:Int)<(rs.length:Int):=by omega
        obtain⟨a,d,ea,fv,c0,c1,c2,hd,bb⟩:=(hr.trn I d5.out).at hkl;rw[ea];obtain⟨wA,w4,eA,p0,p1,p2,r0,r1,r2,eB,m,b4,l4⟩:=bM wr d;have b2:=I.next b4;have f:=hS.below b4;have g:=b6.below b4;have L:=hd.below b4;have N:FV w4 t.v t.q:=ht.trn b2;have T:=Dj (show k<G.dm.length by rw[C.out,←X.out];exact hkl);obtain⟨xk,o⟩:∃ xk,Hid (G.dm[k]?=some xk):=⟨_,Dl T.out⟩;have F:FV w4 xk.v xk.q:=f.mf xk (Dm o.out);have g5:(k:Int)<(s.dm.length:Int):=by have:=X.out;omega
        have bg:=Dj (show xk.q=gt (s.dm.map FrD.q) k by rw[←iI o.out,b3.out,if_neg (by omega)]);have cl:=Dj (show Fits KN xk.q by rw[bg.out];exact fq.out.getD (by decide) k);have bq:=Dj (show Fits 87381 d.q from f9.out.fr0 d (Dm bb.out));have bn:=Dj (show Fits (190000000+87381) (t.q*d.q) from bc.out.mul bq.out);have ch:=Dj (show gt (rs.map FrD.q) k=d.q from iI bb.out);obtain⟨gm,cm,dq⟩:=f.vform T.out;have E:=Dj (show G.vm=.slice (some ⟨gm,0,none⟩) s.dm.length cm by rw[←C.out];exact dq);have cd:=Dj (show S.W s.vm gm from .inr (.inr (by rw[←d4.out,←O.out.2.2.2.1,E.out];rfl)));have dp:=Dj (show w0.heap.size≠gm by have:=d6.out gm cd.out;omega)
        have H:∀ j (y:FrD),y.q=xk.q-t.q*d.q→gt ((G.dm.set k y).map FrD.q) j=if j<k+1 then gt (s.dm.map FrD.q) j-t.q*gt (rs.map FrD.q) j else gt (s.dm.map FrD.q) j:=fun j y hy=>by
         rw[qS T.out]
         by_cases e:j=k
         · subst e;rw[if_pos rfl,if_pos (by omega),hy,bg.out,ch.out]
         · rw[if_neg e,b3.out]
           by_cases e2:j<k
           · rw[if_pos e2,if_pos (by omega)]
           · rw[if_neg e2,if_neg (by omega)]
        replace H:=Dj H;clear hS b6 hd dq;go_upto_region 10 with fail;clear p0 p1 p2 r0 r1 r2 eA eB c0 c1 c2;have bT:=DY w4.heap.size w4;have n:Below w4.heap.size w4 w4.drew:=(DY _ _).drew;replace f:=f.below n;replace g:=g.below n;replace m:=m.below n;replace N:=N.below n;replace L:=L.below n;replace F:=F.below n;replace bT:=Di bT n;clear n;go_wp2_with fail;refine DZ ?_;refine aw (J:=[17]) (S:=fun w'=>w'.cell? ⟨S.gs,11,none⟩=some (.slice (some ⟨gm,0,none⟩) s.dm.length cm)∧w'.cell? ⟨gm,k*3,none⟩=some (.bool xk.neg)∧w'.cell? ⟨gm,k*3+1,none⟩=some (.slice xk.a xk.la.length xk.ca)∧w'.cell? ⟨gm,k*3+2,none⟩=some (.slice xk.b xk.lb.length xk.cb)∧w'.cell? ⟨w0.heap.size,0,none⟩=some (.bool t.neg)∧w'.cell? ⟨w0.heap.size,1,none⟩=some (.slice t.a t.la.length t.ca)∧w'.cell? ⟨w0.heap.size,2,none⟩=some (.slice t.b t.lb.length t.cb)∧w'.cell? ⟨wr.heap.size,0,none⟩=some (.bool d.neg)∧w'.cell? ⟨wr.heap.size,1,none⟩=some (.slice d.a d.la.length d.ca)∧w'.cell? ⟨wr.heap.size,2,none⟩=some (.slice d.b d.lb.length d.cb)) (by kernel_rfl) (⟨f.c11 C.out E.out,(f.mc E.out o.out).1,(f.mc E.out o.out).2.1,(f.mc E.out o.out).2.2,g.cells.1,g.cells.2.1,g.cells.2.2,m.cells.1,m.cells.2.1,m.cells.2.2⟩) (fun c=>?_)
        refine mN 0 1 2 3 4 5 6 7 c ?_;refine py 8 9 10 11 c ?_;refine kB 12 13 c ?_;refine dg 14 rfl fun K hK=>?_;go_simp;have z:=fo N L bc.out bq.out (by decide);go_at_call 34;refine (z).mono ?_;rintro e u1 ⟨vm,rfl,b9,A⟩;clear z;replace f:=f.below A;replace g:=g.below A;replace m:=m.below A;replace F:=F.below A;replace bT:=Di bT A;go_wp2_with fail;refine hK.out _ _ (⟨f.c11 C.out E.out,(f.mc E.out o.out).1,(f.mc E.out o.out).2.1,(f.mc E.out o.out).2.2,g.cells.1,g.cells.2.1,g.cells.2.2,m.cells.1,m.cells.2.1,m.cells.2.2⟩) (fun c=>?_);clear hK K;(try simp only[aq]);refine dg 15 rfl fun K hK=>?_;go_simp;have z:=bI F b9 cl.out bn.out (by decide);go_at_call 32;refine (z).mono ?_;rintro e u2 ⟨va,rfl,b5,D⟩;clear z;replace f:=f.below D;replace g:=g.below D;replace m:=m.below D;replace bT:=Di bT D
        obtain⟨y,rfl,hy,b8⟩:=b5.frd;clear b5;obtain⟨w9,f0,f1,f2,e9,bd,o9⟩:=f.setM2 E.out T.out hy;go_wp2_with fail;refine hK.out _ _ (⟨f.c11 C.out E.out,(f.mc E.out o.out).1,(f.mc E.out o.out).2.1,(f.mc E.out o.out).2.2,g.cells.1,g.cells.2.1,g.cells.2.2,m.cells.1,m.cells.2.1,m.cells.2.2⟩) (fun c=>?_);clear hK K;(try simp only[aq]);refine kr 16 rfl c ?_;refine aj (rs:=[17]) (by kernel_rfl) (by simp) ?_;refine Ee rfl (by decide) (fun K hK=>?_) Ed;go_simp;refine hK.out _ _ ?_;clear hK K;(try clear c);(try simp only[aq]);refine au (by kernel_rfl) ?_ _;refine D1 ?_;(try go_simp);(try clear c);have bo:=g.only o9 dp.out;have Y:=(b2.next bT).only o9 cd.out;clear f g m N L F b9 hy o9;go_wp2;go_roundw
        case rel =>
         refine⟨k+1,by omega,by go_num,_,bd,?_,?_,O.out,bo,Y⟩
         · show (G.dm.set k y).length=_
           rw[DH];exact C.out
         · intro j;exact (H j y b8.out)
        case measure=>simp[intOf];omega
      · obtain rfl:k=rs.length:=by omega
        have g9:decide ((rs.length:Int)<(rs.length:Int))=false:=Du (by omega);go_wp2
        go_end0
        refine⟨G,rfl,hS,?_,?_,I⟩
        · obtain⟨v1,v2,v3,v4,v5⟩:=O.out
          show G.st=cK s.st _ _ _ _
          unfold Sm.st cK
          have e1:G.dx=s1.dx:=by rw[v5,M.out]
          have e2:G.lv=y:=by rw[v1,M.out]
          have e3:G.ia=s.ia:=by rw[v3,M.out];exact cv.out
          rw[e1,e2,e3,b8.out,fs.out]
          congr 1
          · refine fY (by simp[dh.out,V.out]) fun j hj=>?_;have b7:j<s.dx.length:=by simp at hj;omega
            rw[d0.out,if_pos (by rw[V.out];exact b7),kW (by simpa using b7) (by simp[V.out];exact b7)]
          · refine fY (by simp[C.out,X.out]) fun j hj=>?_;have b7:j<s.dm.length:=by simp at hj;omega
            rw[b3.out,if_pos (by rw[X.out];exact b7),kW (by simpa using b7) (by simp[X.out];exact b7)]
        · obtain⟨v1,v2,v3,v4,v5⟩:=O.out;exact⟨by rw[v2,M.out];exact g6.out,by rw[v3,M.out];exact cv.out,by rw[v4,d4.out]⟩
theorem dz {v u:Value}{p q:Rat}{j k:Nat}{w:World}(hv:FV w v p) (hu:FV w u q) (hj:Fits j p) (hk:Fits k q) (hJ:j≤400000000) (hK:k≤400000000) :
 Calls Tryz.prog 29 #[v,u] w (pF (bH p q) w):=by
 obtain⟨n1,A,ca,la,B,cb,lb,rfl,na,nb,iq⟩:=hv;obtain⟨n2,C,cc,lc,D,cd,ld,rfl,nc,nd,ir⟩:=hu;have hf:=El iq hj;have hg:=El ir hk;have d:=Dj iq;have f:=Dj ir;clear iq ir;obtain⟨r,hr⟩:∃ r,Hid (bH p q=r):=⟨_,rfl⟩;rw[hr.out];obtain⟨w0,t,n,m,o⟩:=ag w #[.bool n1,.slice A la.length ca,.slice B lb.length cb] 28;obtain⟨w1,z,l,s,h⟩:=ag w0 #[.bool n2,.slice C lc.length cc,.slice D ld.length cd] 28;have c:=o.keep l;have b:=n.trans (l.mono (Nat.le_of_lt m));have x0:=c.f0;have x1:=c.f1;have x2:=c.f2;have y0:=h.f0;have y1:=h.f1;have y2:=h.f2
 by_cases hne:n1=n2
 · subst hne
   rcases n1 with _ | _
   · go_enter Tryz.func29,Tryz.ntmps29;go_wp2_with fail;refine (mU (n1:=false) (n2:=false) (na.below b) (nb.below b) (nc.below b) (nd.below b) (by omega) (by omega) (by omega) (by omega)).mono ?_;rintro e w2 ⟨X,cx,x,Y,cy,y,rfl,nx,ny,ix,iy,mx,my,b2⟩;have hc:=Dj (show ff (val x) (val y)=r by rw[ix.val,iy.val,wV d.out f.out rfl rfl];exact hr.out);clear ix iy;have g:=c.keep b2;have x0:=g.f0;go_wp2_with fail;refine (nT nx ny).mono ?_;rintro e w3 ⟨rfl,b3⟩;rw[hc.out];go_wp2;go_ret;exact⟨rfl,(b.trans (b2.mono (by omega))).trans (b3.mono (Ds b.size b2.size))⟩
   · go_enter Tryz.func29,Tryz.ntmps29;go_wp2_with fail;refine (mU (n1:=true) (n2:=true) (na.below b) (nb.below b) (nc.below b) (nd.below b) (by omega) (by omega) (by omega) (by omega)).mono ?_;rintro e w2 ⟨X,cx,x,Y,cy,y,rfl,nx,ny,ix,iy,mx,my,b2⟩;have hc:=Dj (show ff (val y) (val x)=r by rw[ix.val,iy.val,wW d.out f.out rfl rfl];exact hr.out);clear ix iy;have g:=c.keep b2;have x0:=g.f0;go_wp2_with fail;refine (nT ny nx).mono ?_;rintro e w3 ⟨rfl,b3⟩;rw[hc.out];go_wp2;go_ret;exact⟨rfl,(b.trans (b2.mono (by omega))).trans (b3.mono (Ds b.size b2.size))⟩
 · rcases n1 with _ | _ <;> rcases n2 with _ | _
   · exact absurd rfl hne
   · obtain rfl:(1:Int)=r:=by rw[←hr.out,zd d.out f.out rfl rfl]
     go_enter Tryz.func29,Tryz.ntmps29;go_wp2;go_ret;exact⟨rfl,b⟩
   · obtain rfl:(-1:Int)=r:=by rw[←hr.out,ze d.out f.out rfl rfl]
     go_enter Tryz.func29,Tryz.ntmps29;go_wp2;go_ret;exact⟨rfl,b⟩
   · exact absurd rfl hne
end Go.Proofs.YtjhkapjadfpimaaGreat
