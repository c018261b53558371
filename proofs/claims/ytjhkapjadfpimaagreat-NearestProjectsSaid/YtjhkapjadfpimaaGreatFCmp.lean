/- Contracts of functions, for the law. -/
import Derived.Test.YtjhkapjadfpimaaGreatNNext
import Derived.Test.YtjhkapjadfpimaaGreatNApp
namespace Go.Proofs.YtjhkapjadfpimaaGreat
set_option linter.unusedVariables false
set_option linter.unusedSimpArgs false
open Go.RowKit Plain
def intQ (B:Nat) (q:Rat):Prop:=∃ z:Int,q=(z:Rat)∧z.natAbs≤B
theorem intQ.fits {B:Nat}{q:Rat}(h:intQ B q) (hB:B<1000):Fits 1 q:=by
 obtain⟨z,rfl,hz⟩:=h;have e:pw 1=4294967296:=by decide
 refine⟨?_,?_⟩
 · rw[Rat.num_intCast,e];omega
 · rw[Rat.den_intCast,e];omega
theorem intQ.mul {q r:Rat}(h:intQ 1 q) (h':intQ 1 r):intQ 1 (q*r):=by
 obtain⟨z,rfl,hz⟩:=h;obtain⟨y,rfl,hy⟩:=h';refine⟨z*y,by rw[Rat.intCast_mul],?_⟩;rw[Int.natAbs_mul];have:=Nat.mul_le_mul hz hy;omega
theorem sm_intQ {n:Nat}{f:Nat→Rat}(h:∀ i,i<n→intQ 1 (f i)):intQ n (sm n f):=by
 induction n with
 | zero=>exact⟨0,rfl,by decide⟩
 | succ n ih =>
  obtain⟨z,e1,hz⟩:=ih fun i hi=>h i (by omega);obtain⟨y,e2,hy⟩:=h n (by omega);refine⟨z+y,?_,by omega⟩
  show sm n f+f n=_
  rw[e1,e2,Rat.intCast_add]
theorem Z4 {n K:Nat}{f:Nat→Rat}(h:∀ i,i<n→Fits K (f i)):Fits (1+n*(K+1)) (sm n f):=by
 induction n with
 | zero=>exact Fits.zero (by omega)
 | succ n ih =>
  have h1:=ih fun i hi=>h i (by omega);refine (h1.add (h n (by omega))).mono ?_;rw[Nat.succ_mul];omega
structure ConI (n:Nat) (all:List Con):Prop where
 len:ConN n all
 nrm:∀ c∈all,∀ q∈c.normal,intQ 1 q
 lst:∀ c∈all,Fits 2 c.least
section
variable {n k:Nat}{all:List Con}{tg:List Rat}{sum m:Rat}{s:St}{A:List Nat}
theorem ConI.lstk (h:ConI n all) (hk:k<all.length):Fits 2 (Go.Proofs.YtjhkapjadfpimaaGreat.lst all k):=by
 rw[eR (a1m hk)];exact h.lst _ (a1z hk)
theorem ConI.nrmk (h:ConI n all) (hk:k<all.length):∀ q∈Go.Proofs.YtjhkapjadfpimaaGreat.nrm all k,intQ 1 q:=by
 rw[Q1 (a1m hk)];exact h.nrm _ (a1z hk)
theorem cD {l:List Rat}(h:∀ q∈l,intQ 1 q) (i:Nat):intQ 1 (gt l i):=by
 unfold gt;rw[a1l]
 by_cases hi:i<l.length
 · rw[a1m hi];exact h _ (a1z hi)
 · rw[a2j (by omega)];exact⟨0,rfl,by decide⟩
theorem H4 {K:Nat}{l:List Rat}(hK:0<K) (h:QFits K l) (i:Nat):Fits K (gt l i):=by
 unfold gt;rw[a1l]
 by_cases hi:i<l.length
 · rw[a1m hi];exact h _ (a1z hi)
 · rw[a2j (by omega)];exact Fits.zero hK
theorem N8 (h:ConI n all) (hA:∀ a∈A,a<all.length):∀ r∈j8 n all A,∀ q∈r,intQ 1 q:=fun r hr q hq=>by
 unfold j8 at hr
 rcases a3i.1 hr with rfl | hr
 · rw[(a3q.1 hq).2];exact⟨1,rfl,by decide⟩
 · obtain⟨a,ha,rfl⟩:=a2v.1 hr;exact h.nrmk (hA a ha) q hq
theorem vJ (h:ConI n all) (hA:∀ a∈A,a<all.length){j:Nat}(hj:j<A.length+1) (i:Nat):intQ 1 (fn (j8 n all A) j i):=by
 have b:j<(j8 n all A).length:=by rw[t8];exact hj
 rw[←gY b];exact cD (N8 h hA _ (a1z b)) i
theorem xX {a b:List Rat}(ha:a.length=n) (hb:b.length=n) (h1:∀ q∈a,intQ 1 q) (h2:∀ q∈b,intQ 1 q):intQ n (F8 a b):=by
 rw[O9 ha hb];exact sm_intQ fun i _=>(cD h1 i).mul (cD h2 i)
theorem iN (h:ConI n all) (hA:∀ a∈A,a<all.length) (hn:n≤8):MFits 1 (M2 (j8 n all A)):=fun r hr q hq=>by
 obtain⟨a,ha,rfl⟩:=a2v.1 hr;obtain⟨b,hb,rfl⟩:=a2v.1 hq;have hR:=F9 (n:=n) h.len hA;exact (xX (hR a ha) (hR b hb) (N8 h hA a ha) (N8 h hA b hb)).fits (by omega)
theorem kS (h:ConI n all) (hA:∀ a∈A,a<all.length) (hk:k<all.length) (hn:n≤8):QFits 1 (M4 (j8 n all A) (nrm all k)):=fun q hq=>by
 obtain⟨a,ha,rfl⟩:=a2v.1 hq;have hR:=F9 (n:=n) h.len hA;exact (xX (hR a ha) (h.len.nrm hk) (N8 h hA a ha) (h.nrmk hk)).fits (by omega)
theorem gK8:gK 1 8=87381:=by decide
theorem kO {b r:List Rat}(h:ConI n all) (hA:∀ a∈A,a<all.length) (hn:n≤8) (hp:A.length+1≤8) (hb:QFits 1 b) (hbl:b.length=A.length+1) (hs:G6 (M2 (j8 n all A)) b=some r):QFits 87381 r:=by
 have hf:=Q0 (L6 (j8 n all A)) (by rw[C8,t8];omega);have h1:=kM (K:=1) (by decide) hf.1 (iN h hA hn) hb (by rw[C8,t8];exact hbl) hs;rw[hf.2,t8] at h1;exact h1.mono (by rw[←gK8];exact W6 1 hp)
theorem mI {z rates:List Rat}{lev:Rat}(h:ConI n all) (hA:∀ a∈A,a<all.length) (hk:k<all.length) (hn:n≤8) (hp:A.length+1≤8) (hd:mJ n all A k=some (z,lev,rates)):QFits 87381 (lev::rates)∧QFits 699067 z:=by
 have hM:=t8 n all A;have hr:=F9 (n:=n) h.len hA;unfold mJ at hd
 cases e:G6 (M2 (j8 n all A)) (M4 (j8 n all A) (nrm all k)) with
 | none=>rw[e] at hd;cases hd
 | some r =>
  rw[e] at hd
  injection hd with hd
  injection hd with h1 hd
  injection hd with h2 h3
  have b:=kO h hA hn hp (kS h hA hk hn) (by rw[J6,hM]) e;obtain⟨h4,h5⟩:=dZ (r:=r) hr (h.len.nrm hk) (j8 n all A).length (a1u _);refine⟨fun q hq=>?_,fun q hq=>?_⟩
  · rcases a3i.1 hq with rfl | hq
    · rw[←h2];exact H4 (by decide) b 0
    · rw[←h3] at hq;exact b q (a2l hq)
  · rw[←h1] at hq;obtain⟨i,hi,rfl⟩:=List.mem_iff_getElem.1 hq;have h6:=h5 i (by rw[h4] at hi;exact hi);unfold gt at h6;rw[p7 0 hi] at h6;rw[h6];have h7:Fits (1+(j8 n all A).length*(87381+1+1)) (lc (j8 n all A).length (gt r) (fn (j8 n all A)) i):=Z4 fun j hj=>(H4 (by decide) b j).mul ((vJ h hA (by rw[hM] at hj;exact hj) i).fits (by decide));refine (((cD (h.nrmk hk) i).fits (by decide)).sub h7).mono ?_;rw[hM];omega
theorem pT {y x v:Nat→Rat}(h:ConI n all) (hA:∀ a∈A,a<all.length) (hn:n≤8) (ht:QFits 2 tg) (hs:Fits 2 sum) (hl:LI (A.length+1) n (fn (j8 n all A))) (hp:Pt (A.length+1) n (fn (j8 n all A)) (gt (sum::A.map (lst all))) (gt tg) y x v 0) :
 (∀ j,j<A.length+1→Fits 699345 (y j))∧∀ i,i<n→Fits 5594780 (x i):=by
 have m:A.length+1≤8:=a1t hl.le hn;have hM:=t8 n all A;have hr:=F9 (n:=n) h.len hA
 have hg:∀ l,∃ r:List Rat,QFits 87381 r∧∀ j,j<A.length+1→sm (A.length+1) (fun t=>ip n (fn (j8 n all A) j) (fn (j8 n all A) t)*gt r t)=dl l j:=fun l=>by
  obtain⟨r,h1,h2,h3⟩:=lZ (b:=(List.range (A.length+1)).map fun j=>dl l j) hr (by omega) (by rw[hM];exact hl) (by simp[hM]);refine⟨r,kO h hA hn m (fun q hq=>?_) (by simp) h1,fun j hj=>?_⟩
  · obtain⟨j,_,rfl⟩:=a2v.1 hq;unfold dl
    split
    · exact intQ.fits (B:=1) ⟨1,rfl,by decide⟩ (by decide)
    · exact intQ.fits (B:=1) ⟨0,rfl,by decide⟩ (by decide)
  · rw[hM] at h3;rw[h3 j hj];unfold gt;rw[aB hj]
 obtain⟨b',d⟩:∃ b':Nat→Rat,∀ l,b' l=gt (sum::A.map (lst all)) l-ip n (fn (j8 n all A) l) (gt tg):=⟨_,fun _=>rfl⟩;obtain⟨g,hg⟩:∃ g:Nat→List Rat,∀ l,QFits 87381 (g l)∧∀ j,j<A.length+1→sm (A.length+1) (fun t=>ip n (fn (j8 n all A) j) (fn (j8 n all A) t)*gt (g l) t)=dl l j:=⟨fun l=>Classical.choose (hg l),fun l=>Classical.choose_spec (hg l)⟩;obtain⟨ys,f⟩:∃ ys:Nat→Rat,∀ j,ys j=sm (A.length+1) (fun l=>b' l*gt (g l) j):=⟨_,fun _=>rfl⟩
 have hq:Pt (A.length+1) n (fn (j8 n all A)) (gt (sum::A.map (lst all))) (gt tg) ys (fun i=>gt tg i+lc (A.length+1) ys (fn (j8 n all A)) i) v 0:=by
  refine⟨fun i hi=>by grind,fun j hj=>?_⟩;rw[Q8,D9 n _ (lc _ ys _),Y4]
  have e1:sm (A.length+1) (fun t=>ys t*ip n (fn (j8 n all A) t) (fn (j8 n all A) j))=sm (A.length+1) (fun l=>b' l*sm (A.length+1) (fun t=>gt (g l) t*ip n (fn (j8 n all A) t) (fn (j8 n all A) j))):=by
   rw[F3];exact j7 fun t _=>by rw[f t]
  rw[e1,j7 (g:=fun l=>b' l*dl l j) (fun l _=>by
   rw[←(hg l).2 j hj]
   congr 1
   exact j7 fun t _=>by rw[D9 n (fn (j8 n all A) t)];grind),M3 b' hj,d j]
  grind
 obtain⟨ex,ey⟩:=hp.unique hl hq
 have k:∀ l,l<A.length+1→Fits 36 (b' l):=fun l hl=>by
  rw[d l]
  have h1:Fits 2 (gt (sum::A.map (lst all)) l):=by
   refine H4 (by decide) (fun q hq=>?_) l
   rcases a3i.1 hq with rfl | hq
   · exact hs
   · obtain⟨a,ha,rfl⟩:=a2v.1 hq;exact h.lstk (hA a ha)
  have h2:Fits (1+n*(1+2+1)) (ip n (fn (j8 n all A) l) (gt tg)):=Z4 fun i _=>((vJ h hA hl i).fits (by decide)).mul (H4 (by decide) ht i);exact (h1.sub h2).mono (by omega)
 have c:∀ j,j<A.length+1→Fits 699345 (ys j):=fun j hj=>by
  rw[f j];have h1:Fits (1+(A.length+1)*(36+87381+1)) (sm (A.length+1) (fun l=>b' l*gt (g l) j)):=Z4 fun l hl=>(k l hl).mul (H4 (by decide) (hg l).1 j);exact h1.mono (by omega)
 refine⟨fun j hj=>by rw[ey j hj];exact c j hj,fun i hi=>?_⟩;rw[ex i hi];have h1:Fits (1+(A.length+1)*(699345+1+1)) (lc (A.length+1) ys (fn (j8 n all A)) i):=Z4 fun j hj=>(c j hj).mul ((vJ h hA hj i).fits (by decide));exact ((H4 (by decide) ht i).add h1).mono (by omega)
abbrev KN:Nat:=10000000
theorem Okk.fits {z rates:List Rat}{lev:Rat}(h:ConI n all) (hk:k<all.length) (hn:n≤8) (ht:QFits 2 tg) (hs:Fits 2 sum) (ok:Okk n all tg sum s k m) (hm:Fits 786726 m) (hd:Dir n all s.active k z lev rates) :
 (∀ j,j<s.active.length+1→Fits 699345 (gt (s.level::s.mults) j+m*gt (lev::rates) j)∧Fits 1573453 (gt (s.level::s.mults) j))∧∀ i,i<n→Fits 7080574 (gt s.x i):=by
 have b:s.active.length+1≤8:=a1t ok.li.le hn;obtain⟨h1,h2⟩:=pT h ok.hA hn ht hs ok.li (ok.pt.back hd.zz hd.or);obtain⟨h3,h4⟩:=mI h ok.hA hk hn b hd.is;refine⟨fun j hj=>⟨h1 j hj,?_⟩,fun i hi=>?_⟩
 · have e:gt (s.level::s.mults) j=(gt (s.level::s.mults) j+m*gt (lev::rates) j)-m*gt (lev::rates) j:=by grind
   rw[e];exact ((h1 j hj).sub (hm.mul (H4 (by decide) h3 j))).mono (by omega)
 · have e:gt s.x i=(gt s.x i-m*gt z i)+m*gt z i:=by grind
   rw[e];exact ((h2 i hi).add (hm.mul (H4 (by decide) h4 i))).mono (by omega)
theorem QFits.of_gt {K N:Nat}{l:List Rat}(hl:l.length≤N) (h:∀ i,i<N→Fits K (gt l i)):QFits K l:=fun q hq=>by
 obtain⟨i,hi,rfl⟩:=List.mem_iff_getElem.1 hq;have h1:=h i (by omega);unfold gt at h1;rw[p7 0 hi] at h1;exact h1
theorem Okk.oks {z rates:List Rat}{lev:Rat}(h:ConI n all) (hk:k<all.length) (hn:n≤8) (ht:QFits 2 tg) (hs:Fits 2 sum) (ok:Okk n all tg sum s k m) (hm:Fits 786726 m) (hd:Dir n all s.active k z lev rates):xK KN n all s=true:=by
 obtain⟨h1,h2⟩:=ok.fits h hk hn ht hs hm hd;have b:s.active.length+1≤8:=a1t ok.li.le hn;refine okS_iff.2 ⟨QFits.of_gt (N:=n) (by rw[ok.lx];exact a1u _) fun i hi=>(h2 i hi).mono (by decide),(h1 0 (by omega)).2.mono (by decide),QFits.of_gt (N:=s.active.length) (by rw[ok.lm];exact a1u _) fun i hi=>(h1 (i+1) (by omega)).2.mono (by decide),ok.lx,ok.lm,by omega,ok.hA⟩
theorem sat_ok (h:ConI n all) (hk:k<all.length) (hn:n≤8) (ht:QFits 2 tg) (hs:Fits 2 sum):∀ (q f:Nat) (s:St) (m:Rat),s.active.length≤q→q<f→Okk n all tg sum s k m→0≤m→Fits 786726 m→ip n (gt (nrm all k)) (gt s.x)<lst all k →
 (aZ KN n all k f s m=some none∧Infeas n all sum)∨∃ t,aZ KN n all k f s m=some (some t)∧(∀ k',Okk n all tg sum t k' 0)∧DV n all tg s k m<R8 n tg t.x:=by
 intro q
 induction q with
 | zero =>
  intro f s m ha hf ok l hm hx;obtain⟨f,rfl⟩:∃ g,f=g+1:=⟨f-1,by omega⟩;obtain⟨z,c,b,hd⟩:=vP h.len ok.hA hk ok.li;have ho:=ok.oks h hk hn ht hs hm hd;have d:aW KN m=true:=fitsB_iff.2 (hm.mono (by decide))
  have e:aZ KN n all k (f+1) s m=match dL n all k s m with
   | none=>none
   | some none=>some none
   | some (some (true,t,m'))=>some (some ⟨t.x,t.level,t.active++[k],t.mults++[m']⟩)
   | some (some (false,t,m'))=>aZ KN n all k f t m':=by
   show (if xK KN n all s=true∧aW KN m=true then _ else none)=_
   rw[if_pos ⟨ho,d⟩];rfl
  rw[e]
  cases ok.next h.len hk l hx with
  | none h1 h2=>rw[h1];exact .inl ⟨rfl,h2⟩
  | full t m' h1 h2 h3=>rw[h1];exact .inr ⟨_,rfl,h2,h3⟩
  | drop j z b c T hd hq hr hT h1 h2 h3 h4 h5 h6=>omega
 | succ q ih =>
  intro f s m ha hf ok l hm hx;obtain⟨f,rfl⟩:∃ g,f=g+1:=⟨f-1,by omega⟩;obtain⟨z,c,b,hd⟩:=vP h.len ok.hA hk ok.li;have ho:=ok.oks h hk hn ht hs hm hd;have d:aW KN m=true:=fitsB_iff.2 (hm.mono (by decide))
  have e:aZ KN n all k (f+1) s m=match dL n all k s m with
   | none=>none
   | some none=>some none
   | some (some (true,t,m'))=>some (some ⟨t.x,t.level,t.active++[k],t.mults++[m']⟩)
   | some (some (false,t,m'))=>aZ KN n all k f t m':=by
   show (if xK KN n all s=true∧aW KN m=true then _ else none)=_
   rw[if_pos ⟨ho,d⟩];rfl
  rw[e]
  cases ok.next h.len hk l hx with
  | none h1 h2=>rw[h1];exact .inl ⟨rfl,h2⟩
  | full t m' h1 h2 h3=>rw[h1];exact .inr ⟨_,rfl,h2,h3⟩
  | drop j z b c T hd hq hr hT h1 h2 h3 h4 h5 h6 =>
   rw[h1];obtain⟨h7,h8⟩:=ok.fits h hk hn ht hs hm hd
   have p:m+T=(gt (s.level::s.mults) (j+1)+m*gt (c::b) (j+1)) / gt b j:=by
    rw[hT,I6,I6];have:gt b j≠0:=by grind
    grind
   have v:s.active.length+1≤8:=a1t ok.li.le hn;have r:=(mI h ok.hA hk hn v hd.is).1
   have o:Fits 786726 (m+T):=by
    rw[p];exact ((h7 (j+1) (by omega)).1.div (H4 (by decide) r (j+1))).mono (by omega)
   rcases ih f _ (m+T) (by omega) (by omega) h2 h4 o h5 with h9 | ⟨t,h9,h10,h11⟩
   · exact .inl h9
   · exact .inr ⟨t,h9,h10,by grind⟩
end
attribute [local go_sem ↓] Go.wp_at_zero Go.wp_at_succ
set_option maxRecDepth 100000
set_option maxHeartbeats 40000000
section
variable {S:Sv}{s:Sm}{ent:Value}{w:World}
theorem SolM.c3 (h:SolM S s ent w){n:Nat}(hl:s.dx.length=n):w.cell? ⟨S.gs,3,none⟩=some (.slice (some ⟨S.gx,0,none⟩) n S.cx):=by
 subst hl;exact h.b.cells.2.2.2.1
theorem SolM.xc (h:SolM S s ent w){k:Nat}{d:FrD}(hk:s.dx[k]?=some d):w.cell? ⟨S.gx,k*3,none⟩=some (.bool d.neg)∧w.cell? ⟨S.gx,k*3+1,none⟩=some (.slice d.a d.la.length d.ca)∧w.cell? ⟨S.gx,k*3+2,none⟩=some (.slice d.b d.lb.length d.cb):=h.b.xo.cells hk
theorem SolM.c11 (h:SolM S s ent w){n gm cm:Nat}(hl:s.dm.length=n) (hev:s.vm=.slice (some ⟨gm,0,none⟩) n cm):w.cell? ⟨S.gs,11,none⟩=some (.slice (some ⟨gm,0,none⟩) n cm):=by
 rw[←hev];exact h.b.cells.2.2.2.2.2.2.2.2.2.2.2.1
theorem SolM.mc (h:SolM S s ent w){n gm cm:Nat}(hev:s.vm=.slice (some ⟨gm,0,none⟩) n cm){k:Nat}{d:FrD}(hk:s.dm[k]?=some d):w.cell? ⟨gm,k*3,none⟩=some (.bool d.neg)∧w.cell? ⟨gm,k*3+1,none⟩=some (.slice d.a d.la.length d.ca)∧w.cell? ⟨gm,k*3+2,none⟩=some (.slice d.b d.lb.length d.cb):=by
 have hm:=h.mul;rw[hev] at hm;exact hm.xo.2.2.cells hk
theorem SolM.setM2 (h:SolM S s ent w){n gm cm:Nat}(hev:s.vm=.slice (some ⟨gm,0,none⟩) n cm){k:Nat}(hk:k<s.dm.length){d:FrD}(hd:FV w d.v d.q) :
 ∃ w9,w.frozen? ⟨gm,k*3,none⟩=false∧w.frozen? ⟨gm,k*3+1,none⟩=false∧w.frozen? ⟨gm,k*3+2,none⟩=false ∧
  ((w.setCell ⟨gm,k*3,none⟩ (.bool d.neg)).setCell ⟨gm,k*3+1,none⟩ (.slice d.a d.la.length d.ca)).setCell ⟨gm,k*3+2,none⟩ (.slice d.b d.lb.length d.cb)=w9∧SolM S { s with dm:=s.dm.set k d } ent w9∧Only w w9 gm:=by
 obtain⟨g,c,w9,ev,f0,f1,f2,e9,h9,o9,-⟩:=h.setM hk hd;rw[hev] at ev
 cases ev
 exact⟨w9,f0,f1,f2,e9,h9,o9⟩
theorem SolM.vform (h:SolM S s ent w){k:Nat}(hk:k<s.dm.length):∃ gm cm,s.vm=.slice (some ⟨gm,0,none⟩) s.dm.length cm:=by
 obtain⟨A,c,e,hf⟩:=h.mul.fl h.mf;exact h.mul.some_of (fun e2=>by rw[e] at e2;injection e2 with _ e3 _;omega)
end
def RetMov (S:Sv) (s:Sm) (ent:Value) (r:St) (W:World) (e:Ending) (w':World):Prop :=
 ∃ s':Sm,e=.returned (.tuple #[])∧SolM S s' ent w'∧Hid (s'.st=r)∧Hid (s'.va=s.va∧s'.ia=s.ia∧s'.vm=s.vm)∧Trn (S.W s.vm) W w'
theorem pG {l:List FrD}{k:Nat}{y:FrD}(hk:k<l.length) (j:Nat):gt ((l.set k y).map FrD.q) j=if j=k then y.q else gt (l.map FrD.q) j:=by
 unfold gt;rw[List.map_set]
 by_cases e:j=k
 · subst e;rw[if_pos rfl,a1l,List.getElem?_set_self (by simpa using hk)];rfl
 · rw[if_neg e,a1l,List.getElem?_set_ne (by omega),←a1l]
theorem X2 {l:List FrD}{k:Nat}{d:FrD}(h:l[k]?=some d):gt (l.map FrD.q) k=d.q:=by
 unfold gt;rw[a1l,a1r,h];rfl
theorem R6 {a b:List Rat}(hl:a.length=b.length) (h:∀ j,j<b.length→gt a j=gt b j):a=b:=by
 refine List.ext_getElem hl fun j h1 h2=>?_;have:=h j h2;unfold gt at this
 rwa [p7 0 h1,p7 0 h2] at this
theorem move_any {S:Sv}{s:Sm}{ent:Value}{Z R:Option Addr}{cz cr:Nat}{zs rs:List FrD}{l t:FrD}{w:World}(h:SolM S s ent w) (he0:∀ x,ent≠.int .u32 x) (hz:FL w Z cz zs) (hzW:∀ a,Z=some a→¬ S.W s.vm a.block) (hlz:zs.length=s.dx.length) (hr:FL w R cr rs) (hrW:∀ a,R=some a→¬ S.W s.vm a.block) (hlr:rs.length=s.dm.length)
 (hl:FV w l.v l.q) (ht:FV w t.v t.q) (fx:QFits KN (s.dx.map FrD.q)) (fz:QFits 699067 (zs.map FrD.q)) (fl:Fits KN s.lv.q) (fL:Fits 87381 l.q) (fT:Fits 190000000 t.q) (fm:QFits KN (s.dm.map FrD.q)) (fr:QFits 87381 (rs.map FrD.q)) :
 Calls Tryz.prog 75 #[.pointer (some ⟨S.gs,0,none⟩),.slice Z zs.length cz,.agg #[.bool l.neg,.slice l.a l.la.length l.ca,.slice l.b l.lb.length l.cb],.slice R rs.length cr,.agg #[.bool t.neg,.slice t.a t.la.length t.ca,.slice t.b t.lb.length t.cb]] w (RetMov S s ent (G4 s.st (zs.map FrD.q) l.q (rs.map FrD.q) t.q) w):=by
 obtain⟨w0,m5,b0,l0,B0⟩:=f8 w #[.bool l.neg,.slice l.a l.la.length l.ca,.slice l.b l.lb.length l.cb] 28;obtain⟨w1,m8,b1,l1,B1⟩:=f8 w0 #[.bool t.neg,.slice t.a t.la.length t.ca,.slice t.b t.lb.length t.cb] 28;have h6:=a1j b0 b1;have h8:VarQ w1 w.heap.size l:=a4f B0 b1;have g5:VarQ w1 w0.heap.size t:=B1;have he:=a1k he0;have m2:=hz.len;have k6:=hr.len;have d8:Trn (S.W s.vm) w w1:=Trn.of_below h6 (h.nd he0);have g3:=h.below h6;have h2:=h.b.hs;have g9:=h.b.hx;have l3:=h.b.hR;have h4:=a1k (show w0.heap.size≠S.gx by omega);have j2:=a1k (show w.heap.size≠S.gx by omega);have g4:=a1k (show w0.heap.size≠S.gs by omega);have g7:=a1k hzW;have g8:=a1k hrW;have d0:=a1k fT;have k4:=a1k fL;have j1:=a1k (fT.mul fL);have c5:=a1k fl;have k5:=a1k fx;have l7:=a1k fz;have k1:=a1k fm;have k0:=a1k fr;have h1:=a1k h.wlt;have b2:=a1k hlz;have Y:=a1k hlr;clear hzW hrW fT fL fl fx fz fm fr B0 B1 he0 h2 g9 l3 hlz hlr;go_enter Tryz.func75,Tryz.ntmps75;go_wp2
 go_loopw [16] (fun i wr=>∃ k:Nat,k≤zs.length∧i=.int .i64 (k:Int)∧∃ s1:Sm,SolM S s1 ent wr∧Hid (s1.dx.length=s.dx.length)∧Hid (∀ j,gt (s1.dx.map FrD.q) j=if j<k then gt (s.dx.map FrD.q) j+t.q*gt (zs.map FrD.q) j else gt (s.dx.map FrD.q) j)∧Hid (s1.lv=s.lv∧s1.va=s.va∧s1.ia=s.ia∧s1.vm=s.vm∧s1.dm=s.dm)∧VarQ wr w.heap.size l∧VarQ wr w0.heap.size t∧Trn (S.W s.vm) w wr) (fun i _=>zs.length-(intOf i).toNat)
 case atStart=>exact⟨0,by omega,rfl,s,g3,rfl,fun j=>by rw[if_neg (by omega)],⟨rfl,rfl,rfl,rfl,rfl⟩,h8,g5,d8⟩
 case round =>
  clear g3 h8 g5 d8;obtain⟨k,hk,rfl,s1,hS,C,T,U,d6,b8,I⟩:=hrel
  by_cases hkl:k<zs.length
  · have m0:(k:Int)<(zs.length:Int):=by omega
    obtain⟨a,d,ea,k2,c0,c1,c2,hd,c4⟩:=(hz.trn I g7.out).at hkl;rw[ea];obtain⟨wA,w4,eA,p0,p1,p2,r0,r1,r2,eB,m,b4,l4⟩:=D5 wr d;have X:=I.next b4;have f:=hS.below b4;have O:=d6.below b4;have g:=b8.below b4;have M:=hd.below b4;have L:FV w4 t.v t.q:=ht.trn X;have b5:=a1k (show k<s1.dx.length by rw[C.out,←b2.out];exact hkl);obtain⟨xk,o⟩:∃ xk,Hid (s1.dx[k]?=some xk):=⟨_,a1m b5.out⟩;have F:FV w4 xk.v xk.q:=f.b.xf xk (a1n o.out);have l9:(k:Int)<(s.dx.length:Int):=by have:=b2.out;omega
    have c7:=a1k (show xk.q=gt (s.dx.map FrD.q) k by rw[←X2 o.out,T.out,if_neg (by omega)]);have g1:=a1k (show Fits KN xk.q by rw[c7.out];exact k5.out.getD (by decide) k);have c9:=a1k (show Fits 699067 d.q from l7.out.fr0 d (a1n c4.out));have d3:=a1k (show Fits (190000000+699067) (t.q*d.q) from d0.out.mul c9.out);have g0:=a1k (show gt (zs.map FrD.q) k=d.q from X2 c4.out)
    have H:∀ j (y:FrD),y.q=xk.q+t.q*d.q→gt ((s1.dx.set k y).map FrD.q) j=if j<k+1 then gt (s.dx.map FrD.q) j+t.q*gt (zs.map FrD.q) j else gt (s.dx.map FrD.q) j:=fun j y hy=>by
     rw[pG b5.out]
     by_cases e:j=k
     · subst e;rw[if_pos rfl,if_pos (by omega),hy,c7.out,g0.out]
     · rw[if_neg e,T.out]
       by_cases e2:j<k
       · rw[if_pos e2,if_pos (by omega)]
       · rw[if_neg e2,if_neg (by omega)]
    replace H:=a1k H;clear hS d6 b8 hd;go_upto_region 4 with fail;clear p0 p1 p2 r0 r1 r2 eA eB c0 c1 c2;have bT:=a3t w4.heap.size w4;have n:Below w4.heap.size w4 w4.drew:=(a3t _ _).drew;replace f:=f.below n;replace g:=g.below n;replace m:=m.below n;replace L:=L.below n;replace M:=M.below n;replace F:=F.below n;replace O:=O.below n;replace bT:=a1j bT n;clear n;go_wp2_with fail;refine a3u ?_;refine k9 (J:=[17]) (S:=fun w'=>w'.cell? ⟨S.gs,3,none⟩=some (.slice (some ⟨S.gx,0,none⟩) s.dx.length S.cx)∧w'.cell? ⟨S.gx,k*3,none⟩=some (.bool xk.neg)∧w'.cell? ⟨S.gx,k*3+1,none⟩=some (.slice xk.a xk.la.length xk.ca)∧w'.cell? ⟨S.gx,k*3+2,none⟩=some (.slice xk.b xk.lb.length xk.cb)∧w'.cell? ⟨w0.heap.size,0,none⟩=some (.bool t.neg)∧w'.cell? ⟨w0.heap.size,1,none⟩=some (.slice t.a t.la.length t.ca)∧w'.cell? ⟨w0.heap.size,2,none⟩=some (.slice t.b t.lb.length t.cb)∧w'.cell? ⟨wr.heap.size,0,none⟩=some (.bool d.neg)∧w'.cell? ⟨wr.heap.size,1,none⟩=some (.slice d.a d.la.length d.ca)∧w'.cell? ⟨wr.heap.size,2,none⟩=some (.slice d.b d.lb.length d.cb)) (by kernel_rfl) (⟨f.c3 C.out,(f.xc o.out).1,(f.xc o.out).2.1,(f.xc o.out).2.2,g.cells.1,g.cells.2.1,g.cells.2.2,m.cells.1,m.cells.2.1,m.cells.2.2⟩) (fun c=>?_)
    refine iK 0 1 2 3 4 5 6 7 c ?_;refine mR 8 9 10 11 c ?_;refine dU 12 13 c ?_;refine I0 14 rfl fun K hK=>?_;go_simp;have r:=O7 L M d0.out c9.out (by decide);go_at_call 34;refine (r).mono ?_;rintro e u1 ⟨vm,rfl,b9,z⟩;clear r;replace f:=f.below z;replace g:=g.below z;replace m:=m.below z;replace F:=F.below z;replace O:=O.below z;replace bT:=a1j bT z;go_wp2_with fail;refine hK.out _ _ (⟨f.c3 C.out,(f.xc o.out).1,(f.xc o.out).2.1,(f.xc o.out).2.2,g.cells.1,g.cells.2.1,g.cells.2.2,m.cells.1,m.cells.2.1,m.cells.2.2⟩) (fun c=>?_);clear hK K;(try simp only[j9]);refine I0 15 rfl fun K hK=>?_;go_simp;have r:=J0 F b9 g1.out d3.out (by decide);go_at_call 27;refine (r).mono ?_;rintro e u2 ⟨va,rfl,V,D⟩;clear r;replace f:=f.below D;replace g:=g.below D;replace m:=m.below D;replace O:=O.below D
    replace bT:=a1j bT D;obtain⟨y,rfl,hy,b6⟩:=V.frd;clear V;obtain⟨w9,f0,f1,f2,e9,d2,o9⟩:=f.setX b5.out hy;go_wp2_with fail;refine hK.out _ _ (⟨f.c3 C.out,(f.xc o.out).1,(f.xc o.out).2.1,(f.xc o.out).2.2,g.cells.1,g.cells.2.1,g.cells.2.2,m.cells.1,m.cells.2.1,m.cells.2.2⟩) (fun c=>?_);clear hK K;(try simp only[j9]);refine dJ 16 rfl c ?_;refine j6 (rs:=[17]) (by kernel_rfl) (by simp) ?_;refine a4j rfl (by decide) (fun K hK=>?_) a4i;go_simp;refine hK.out _ _ ?_;clear hK K;(try clear c);(try simp only[j9]);refine k8 (by kernel_rfl) ?_ _;refine a3w ?_;(try go_simp);(try clear c);have c8:=g.only o9 h4.out;have l5:=O.only o9 j2.out;have b3:=(X.next bT).only o9 (.inr (.inl rfl));clear f g m L M F O b9 hy o9;go_wp2;go_roundw
    case rel =>
     refine⟨k+1,by omega,by go_num,_,d2,?_,?_,U.out,l5,c8,b3⟩
     · show (s1.dx.set k y).length=_
       rw[a2i];exact C.out
     · intro j;exact (H j y b6.out)
    case measure=>simp[intOf];omega
  · obtain rfl:k=zs.length:=by omega
    have m4:decide ((zs.length:Int)<(zs.length:Int))=false:=a1v (by omega);obtain⟨w5,j4⟩:∃ w5,w5=wr:=⟨_,rfl⟩;subst j4;have p:=hS;have B:=d6;have A:=b8;have f5:=I;have d4:FV w5 t.v t.q:=ht.trn I;have d5:FV w5 l.v l.q:=hl.trn I;obtain⟨u1,u2,u3,u4,u5⟩:=U.out;have d1:Fits KN s1.lv.q:=by rw[u1];exact c5.out
    replace c5:=a1k d1;have l2:=a1k u1;have k3:=a1k u2;have g2:=a1k u3;have m1:=a1k u4;have g6:=a1k u5;clear u1 u2 u3 u4 u5 hS d6 b8 I d1 U;go_upto_region 6 with fail
    go_cut [] (fun wx=>∃ y:FrD,Hid (y.q=s1.lv.q-t.q*l.q)∧SolM S { s1 with lv:=y } ent wx∧VarQ wx w0.heap.size t∧Trn (S.W s.vm) w wx)
    case first =>
     have bT:=a3t w5.heap.size w5;have n:Below w5.heap.size w5 w5.drew:=(a3t _ _).drew;replace p:=p.below n;replace A:=A.below n;replace B:=B.below n;replace d4:=d4.below n;replace d5:=d5.below n;replace bT:=a1j bT n;clear n;go_wp2_with fail;refine a3u ?_;refine k9 (J:=[11]) (S:=fun w'=>w'.cell? ⟨S.gs,7,none⟩=some (.bool s1.lv.neg)∧w'.cell? ⟨S.gs,8,none⟩=some (.slice s1.lv.a s1.lv.la.length s1.lv.ca)∧w'.cell? ⟨S.gs,9,none⟩=some (.slice s1.lv.b s1.lv.lb.length s1.lv.cb)∧w'.cell? ⟨w0.heap.size,0,none⟩=some (.bool t.neg)∧w'.cell? ⟨w0.heap.size,1,none⟩=some (.slice t.a t.la.length t.ca)∧w'.cell? ⟨w0.heap.size,2,none⟩=some (.slice t.b t.lb.length t.cb)∧w'.cell? ⟨w.heap.size,0,none⟩=some (.bool l.neg)∧w'.cell? ⟨w.heap.size,1,none⟩=some (.slice l.a l.la.length l.ca)∧w'.cell? ⟨w.heap.size,2,none⟩=some (.slice l.b l.lb.length l.cb)) (by kernel_rfl) (⟨p.b.cells.2.2.2.2.2.2.2.1,p.b.cells.2.2.2.2.2.2.2.2.1,p.b.cells.2.2.2.2.2.2.2.2.2.1,A.cells.1,A.cells.2.1,A.cells.2.2,B.cells.1,B.cells.2.1,B.cells.2.2⟩) (fun c=>?_);refine mR 0 1 2 3 c ?_;refine dU 4 5 c ?_;refine dJ 6 rfl c ?_;refine I0 7 rfl fun K hK=>?_
     go_simp;have r:=O7 d4 d5 d0.out k4.out (by decide);go_at_call 34;refine (r).mono ?_;rintro e u1 ⟨vm,rfl,b9,z⟩;clear r;replace p:=p.below z;replace A:=A.below z;replace B:=B.below z;replace bT:=a1j bT z;go_wp2_with fail;refine hK.out _ _ (⟨p.b.cells.2.2.2.2.2.2.2.1,p.b.cells.2.2.2.2.2.2.2.2.1,p.b.cells.2.2.2.2.2.2.2.2.2.1,A.cells.1,A.cells.2.1,A.cells.2.2,B.cells.1,B.cells.2.1,B.cells.2.2⟩) (fun c=>?_);clear hK K;(try simp only[j9]);refine I0 8 rfl fun K hK=>?_;go_simp;have r:=D1 p.b.lev b9 c5.out j1.out (by decide);go_at_call 32;refine (r).mono ?_;rintro e u2 ⟨va,rfl,V,D⟩;clear r;replace p:=p.below D;replace A:=A.below D;replace B:=B.below D;replace bT:=a1j bT D;obtain⟨y,rfl,hy,b6⟩:=V.frd;clear V;obtain⟨w9,f0,f1,f2,e9,d2,o9⟩:=p.setLev he.out hy;go_wp2_with fail;refine hK.out _ _ (⟨p.b.cells.2.2.2.2.2.2.2.1,p.b.cells.2.2.2.2.2.2.2.2.1,p.b.cells.2.2.2.2.2.2.2.2.2.1,A.cells.1,A.cells.2.1,A.cells.2.2,B.cells.1,B.cells.2.1,B.cells.2.2⟩) (fun c=>?_);clear hK K;(try simp only[j9]);refine dU 9 10 c ?_;refine j6 (rs:=[11]) (by kernel_rfl) (by simp) ?_
     refine a4j rfl (by decide) (fun K hK=>?_) a4i;go_simp;refine hK.out _ _ ?_;clear hK K;(try clear c);(try simp only[j9]);refine k8 (by kernel_rfl) ?_ _;refine a3w ?_;(try go_simp);(try clear c);have c8:=A.only o9 g4.out;have b3:=(f5.next bT).only o9 (.inl rfl);go_wp2_with fail;go_meet;exact⟨y,b6,d2,c8,b3⟩
    case rest =>
     obtain⟨y,b6,f9,h9,f6⟩:=hcut;obtain⟨s2,N⟩:∃ s2:Sm,Hid (s2={ s1 with lv:=y }):=⟨_,rfl⟩;rw[←N.out] at f9;have l8:=a1k (show s2.dm.map FrD.q=s.dm.map FrD.q by rw[N.out];show s1.dm.map FrD.q=_;rw[g6.out]);have j5:=a1k (show s2.dm.length=s.dm.length by rw[N.out];show s1.dm.length=_;rw[g6.out]);have j3:=a1k (show s2.vm=s.vm by rw[N.out];exact m1.out);obtain⟨w6,l6⟩:∃ w6,w6=wc:=⟨_,rfl⟩;subst l6;clear p B A f5 d4 d5;go_wp2
     go_loopw [52] (fun i wr=>∃ k:Nat,k≤rs.length∧i=.int .i64 (k:Int)∧∃ s1:Sm,SolM S s1 ent wr∧Hid (s1.dm.length=s.dm.length)∧Hid (∀ j,gt (s1.dm.map FrD.q) j=if j<k then gt (s.dm.map FrD.q) j-t.q*gt (rs.map FrD.q) j else gt (s.dm.map FrD.q) j)∧Hid (s1.lv=s2.lv∧s1.va=s2.va∧s1.ia=s2.ia∧s1.vm=s2.vm∧s1.dx=s2.dx)∧VarQ wr w0.heap.size t∧Trn (S.W s.vm) w wr) (fun i _=>rs.length-(intOf i).toNat)
     case atStart=>exact⟨0,by omega,rfl,s2,f9,j5.out,fun j=>by rw[if_neg (by omega),l8.out],⟨rfl,rfl,rfl,rfl,rfl⟩,h9,f6⟩
     case round =>
      clear f9 h9 f6;obtain⟨k,hk,rfl,s3,hS,f3,d7,f4,b8,I⟩:=hrel;obtain⟨sB,m6⟩:∃ sB:Sm,Hid (sB=s1):=⟨_,rfl⟩;have j0:=C;have h0:=T;clear C T;obtain⟨G,h7⟩:∃ G,G=s3:=⟨_,rfl⟩;subst h7;have C:=f3;have T:=d7;have U:=f4;clear f3 d7 f4
      by_cases hkl:k<rs.length
      · have m0:(k:Int)<(rs.length:Int):=by omega
        obtain⟨a,d,ea,k2,c0,c1,c2,hd,c4⟩:=(hr.trn I g8.out).at hkl;rw[ea];obtain⟨wA,w4,eA,p0,p1,p2,r0,r1,r2,eB,m,b4,l4⟩:=D5 wr d;have X:=I.next b4;have f:=hS.below b4;have g:=b8.below b4;have M:=hd.below b4;have L:FV w4 t.v t.q:=ht.trn X;have b5:=a1k (show k<G.dm.length by rw[C.out,←Y.out];exact hkl);obtain⟨xk,o⟩:∃ xk,Hid (G.dm[k]?=some xk):=⟨_,a1m b5.out⟩;have F:FV w4 xk.v xk.q:=f.mf xk (a1n o.out);have l9:(k:Int)<(s.dm.length:Int):=by have:=Y.out;omega
        have c7:=a1k (show xk.q=gt (s.dm.map FrD.q) k by rw[←X2 o.out,T.out,if_neg (by omega)]);have g1:=a1k (show Fits KN xk.q by rw[c7.out];exact k1.out.getD (by decide) k);have c9:=a1k (show Fits 87381 d.q from k0.out.fr0 d (a1n c4.out));have d3:=a1k (show Fits (190000000+87381) (t.q*d.q) from d0.out.mul c9.out);have g0:=a1k (show gt (rs.map FrD.q) k=d.q from X2 c4.out);obtain⟨gm,cm,h3⟩:=f.vform b5.out;have E:=a1k (show G.vm=.slice (some ⟨gm,0,none⟩) s.dm.length cm by rw[←C.out];exact h3);have d9:=a1k (show S.W s.vm gm from .inr (.inr (by rw[←j3.out,←U.out.2.2.2.1,E.out];rfl)));have h5:=a1k (show w0.heap.size≠gm by have:=h1.out gm d9.out;omega)
        have H:∀ j (y:FrD),y.q=xk.q-t.q*d.q→gt ((G.dm.set k y).map FrD.q) j=if j<k+1 then gt (s.dm.map FrD.q) j-t.q*gt (rs.map FrD.q) j else gt (s.dm.map FrD.q) j:=fun j y hy=>by
         rw[pG b5.out]
         by_cases e:j=k
         · subst e;rw[if_pos rfl,if_pos (by omega),hy,c7.out,g0.out]
         · rw[if_neg e,T.out]
           by_cases e2:j<k
           · rw[if_pos e2,if_pos (by omega)]
           · rw[if_neg e2,if_neg (by omega)]
        replace H:=a1k H;clear hS b8 hd h3;go_upto_region 10 with fail;clear p0 p1 p2 r0 r1 r2 eA eB c0 c1 c2;have bT:=a3t w4.heap.size w4;have n:Below w4.heap.size w4 w4.drew:=(a3t _ _).drew;replace f:=f.below n;replace g:=g.below n;replace m:=m.below n;replace L:=L.below n;replace M:=M.below n;replace F:=F.below n;replace bT:=a1j bT n;clear n;go_wp2_with fail;refine a3u ?_;refine k9 (J:=[17]) (S:=fun w'=>w'.cell? ⟨S.gs,11,none⟩=some (.slice (some ⟨gm,0,none⟩) s.dm.length cm)∧w'.cell? ⟨gm,k*3,none⟩=some (.bool xk.neg)∧w'.cell? ⟨gm,k*3+1,none⟩=some (.slice xk.a xk.la.length xk.ca)∧w'.cell? ⟨gm,k*3+2,none⟩=some (.slice xk.b xk.lb.length xk.cb)∧w'.cell? ⟨w0.heap.size,0,none⟩=some (.bool t.neg)∧w'.cell? ⟨w0.heap.size,1,none⟩=some (.slice t.a t.la.length t.ca)∧w'.cell? ⟨w0.heap.size,2,none⟩=some (.slice t.b t.lb.length t.cb)∧w'.cell? ⟨wr.heap.size,0,none⟩=some (.bool d.neg)∧w'.cell? ⟨wr.heap.size,1,none⟩=some (.slice d.a d.la.length d.ca)∧w'.cell? ⟨wr.heap.size,2,none⟩=some (.slice d.b d.lb.length d.cb)) (by kernel_rfl) (⟨f.c11 C.out E.out,(f.mc E.out o.out).1,(f.mc E.out o.out).2.1,(f.mc E.out o.out).2.2,g.cells.1,g.cells.2.1,g.cells.2.2,m.cells.1,m.cells.2.1,m.cells.2.2⟩) (fun c=>?_)
        refine iK 0 1 2 3 4 5 6 7 c ?_;refine mR 8 9 10 11 c ?_;refine dU 12 13 c ?_;refine I0 14 rfl fun K hK=>?_;go_simp;have r:=O7 L M d0.out c9.out (by decide);go_at_call 34;refine (r).mono ?_;rintro e u1 ⟨vm,rfl,b9,z⟩;clear r;replace f:=f.below z;replace g:=g.below z;replace m:=m.below z;replace F:=F.below z;replace bT:=a1j bT z;go_wp2_with fail;refine hK.out _ _ (⟨f.c11 C.out E.out,(f.mc E.out o.out).1,(f.mc E.out o.out).2.1,(f.mc E.out o.out).2.2,g.cells.1,g.cells.2.1,g.cells.2.2,m.cells.1,m.cells.2.1,m.cells.2.2⟩) (fun c=>?_);clear hK K;(try simp only[j9]);refine I0 15 rfl fun K hK=>?_;go_simp;have r:=D1 F b9 g1.out d3.out (by decide);go_at_call 32;refine (r).mono ?_;rintro e u2 ⟨va,rfl,V,D⟩;clear r;replace f:=f.below D;replace g:=g.below D;replace m:=m.below D;replace bT:=a1j bT D
        obtain⟨y,rfl,hy,b6⟩:=V.frd;clear V;obtain⟨w9,f0,f1,f2,e9,d2,o9⟩:=f.setM2 E.out b5.out hy;go_wp2_with fail;refine hK.out _ _ (⟨f.c11 C.out E.out,(f.mc E.out o.out).1,(f.mc E.out o.out).2.1,(f.mc E.out o.out).2.2,g.cells.1,g.cells.2.1,g.cells.2.2,m.cells.1,m.cells.2.1,m.cells.2.2⟩) (fun c=>?_);clear hK K;(try simp only[j9]);refine dJ 16 rfl c ?_;refine j6 (rs:=[17]) (by kernel_rfl) (by simp) ?_;refine a4j rfl (by decide) (fun K hK=>?_) a4i;go_simp;refine hK.out _ _ ?_;clear hK K;(try clear c);(try simp only[j9]);refine k8 (by kernel_rfl) ?_ _;refine a3w ?_;(try go_simp);(try clear c);have c8:=g.only o9 h5.out;have b3:=(X.next bT).only o9 d9.out;clear f g m L M F b9 hy o9;go_wp2;go_roundw
        case rel =>
         refine⟨k+1,by omega,by go_num,_,d2,?_,?_,U.out,c8,b3⟩
         · show (G.dm.set k y).length=_
           rw[a2i];exact C.out
         · intro j;exact (H j y b6.out)
        case measure=>simp[intOf];omega
      · obtain rfl:k=rs.length:=by omega
        have m3:decide ((rs.length:Int)<(rs.length:Int))=false:=a1v (by omega);go_wp2
        go_end0
        refine⟨G,rfl,hS,?_,?_,I⟩
        · obtain⟨v1,v2,v3,v4,v5⟩:=U.out
          show G.st=G4 s.st _ _ _ _
          unfold Sm.st G4
          have e1:G.dx=s1.dx:=by rw[v5,N.out]
          have e2:G.lv=y:=by rw[v1,N.out]
          have e3:G.ia=s.ia:=by rw[v3,N.out];exact g2.out
          rw[e1,e2,e3,b6.out,l2.out]
          congr 1
          · refine R6 (by simp[j0.out,b2.out]) fun j hj=>?_;have b7:j<s.dx.length:=by simp at hj;omega
            rw[h0.out,if_pos (by rw[b2.out];exact b7),eV (by simpa using b7) (by simp[b2.out];exact b7)]
          · refine R6 (by simp[C.out,Y.out]) fun j hj=>?_;have b7:j<s.dm.length:=by simp at hj;omega
            rw[T.out,if_pos (by rw[Y.out];exact b7),eV (by simpa using b7) (by simp[Y.out];exact b7)]
        · obtain⟨v1,v2,v3,v4,v5⟩:=U.out;exact⟨by rw[v2,N.out];exact k3.out,by rw[v3,N.out];exact g2.out,by rw[v4,j3.out]⟩
theorem I8 {v u:Value}{p q:Rat}{j k:Nat}{w:World}(hv:FV w v p) (hu:FV w u q) (hj:Fits j p) (hk:Fits k q) (hJ:j≤400000000) (hK:k≤400000000) :
 Calls Tryz.prog 29 #[v,u] w (mY (D0 p q) w):=by
 obtain⟨n1,A,ca,la,B,cb,lb,rfl,na,nb,iq⟩:=hv;obtain⟨n2,C,cc,lc,D,cd,ld,rfl,nc,nd,ir⟩:=hu;have hf:=a4q iq hj;have hg:=a4q ir hk;have d:=a1k iq;have f:=a1k ir;clear iq ir;obtain⟨r,hr⟩:∃ r,Hid (D0 p q=r):=⟨_,rfl⟩;rw[hr.out];obtain⟨w0,t,o,m,n⟩:=f8 w #[.bool n1,.slice A la.length ca,.slice B lb.length cb] 28;obtain⟨w1,z,l,s,h⟩:=f8 w0 #[.bool n2,.slice C lc.length cc,.slice D ld.length cd] 28;have c:=n.keep l;have b:=o.trans (l.mono (a3f m));have x0:=c.f0;have x1:=c.f1;have x2:=c.f2;have y0:=h.f0;have y1:=h.f1;have y2:=h.f2
 by_cases hne:n1=n2
 · subst hne
   rcases n1 with _ | _
   · go_enter Tryz.func29,Tryz.ntmps29;go_wp2_with fail;refine (iR (n1:=false) (n2:=false) (na.below b) (nb.below b) (nc.below b) (nd.below b) (by omega) (by omega) (by omega) (by omega)).mono ?_;rintro e w2 ⟨X,cx,x,Y,cy,y,rfl,nx,ny,ix,iy,mx,my,b2⟩;have hc:=a1k (show O1 (val x) (val y)=r by rw[ix.val,iy.val,zI d.out f.out rfl rfl];exact hr.out);clear ix iy;have g:=c.keep b2;have x0:=g.f0;go_wp2_with fail;refine (kB nx ny).mono ?_;rintro e w3 ⟨rfl,b3⟩;rw[hc.out];go_wp2;go_ret;exact⟨rfl,(b.trans (b2.mono (by omega))).trans (b3.mono (a1t b.size b2.size))⟩
   · go_enter Tryz.func29,Tryz.ntmps29;go_wp2_with fail;refine (iR (n1:=true) (n2:=true) (na.below b) (nb.below b) (nc.below b) (nd.below b) (by omega) (by omega) (by omega) (by omega)).mono ?_;rintro e w2 ⟨X,cx,x,Y,cy,y,rfl,nx,ny,ix,iy,mx,my,b2⟩;have hc:=a1k (show O1 (val y) (val x)=r by rw[ix.val,iy.val,zJ d.out f.out rfl rfl];exact hr.out);clear ix iy;have g:=c.keep b2;have x0:=g.f0;go_wp2_with fail;refine (kB ny nx).mono ?_;rintro e w3 ⟨rfl,b3⟩;rw[hc.out];go_wp2;go_ret;exact⟨rfl,(b.trans (b2.mono (by omega))).trans (b3.mono (a1t b.size b2.size))⟩
 · rcases n1 with _ | _ <;> rcases n2 with _ | _
   · exact absurd rfl hne
   · obtain rfl:(1:Int)=r:=by rw[←hr.out,q_cmp_pn d.out f.out rfl rfl]
     go_enter Tryz.func29,Tryz.ntmps29;go_wp2;go_ret;exact⟨rfl,b⟩
   · obtain rfl:(-1:Int)=r:=by rw[←hr.out,q_cmp_np d.out f.out rfl rfl]
     go_enter Tryz.func29,Tryz.ntmps29;go_wp2;go_ret;exact⟨rfl,b⟩
   · exact absurd rfl hne
end Go.Proofs.YtjhkapjadfpimaaGreat
