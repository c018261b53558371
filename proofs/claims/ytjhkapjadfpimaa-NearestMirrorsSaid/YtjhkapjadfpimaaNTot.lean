/- Contracts of functions, for the law. -/
import Derived.Test.YtjhkapjadfpimaaNNext
namespace Go.Proofs.Ytjhkapjadfpimaa
set_option linter.unusedVariables false
set_option linter.unusedSimpArgs false
open Go.RowKit Plain
def intQ (B:Nat) (q:Rat):Prop:=∃ z:Int,q=(z:Rat)∧z.natAbs≤B
theorem intQ.fits {B:Nat}{q:Rat}(h:intQ B q) (hB:B<1000):Fits 1 q:=by
 obtain⟨z,rfl,hz⟩:=h;have e:pw 1=4294967296:=by decide
 refine⟨?_,?_⟩
 · rw[Rat.num_intCast,e];omega
 · rw[Rat.den_intCast,e];omega
theorem intQ.mul {q r:Rat}(h:intQ 1 q) (h':intQ 1 r):intQ 1 (q*r):=by
 obtain⟨z,rfl,hz⟩:=h;obtain⟨y,rfl,hy⟩:=h';refine⟨z*y,by rw[Rat.intCast_mul],?_⟩;rw[Int.natAbs_mul];have:=Nat.mul_le_mul hz hy;omega
theorem sm_intQ {n:Nat}{f:Nat→Rat}(h:∀ i,i<n→intQ 1 (f i)):intQ n (sm n f):=by
 induction n with
 | zero=>exact⟨0,rfl,by decide⟩
 | succ n ih =>
  obtain⟨z,e1,hz⟩:=ih fun i hi=>h i (by omega);obtain⟨y,e2,hy⟩:=h n (by omega);refine⟨z+y,?_,by omega⟩
  show sm n f+f n=_
  rw[e1,e2,Rat.intCast_add]
theorem sm_fits {n K:Nat}{f:Nat→Rat}(h:∀ i,i<n→Fits K (f i)):Fits (1+n*(K+1)) (sm n f):=by
 induction n with
 | zero=>exact Fits.zero (by omega)
 | succ n ih =>
  have h1:=ih fun i hi=>h i (by omega);refine (h1.add (h n (by omega))).mono ?_;rw[Nat.succ_mul];omega
structure ConI (n:Nat) (all:List Con):Prop where
 len:ConN n all
 nrm:∀ c∈all,∀ q∈c.normal,intQ 1 q
 lst:∀ c∈all,Fits 2 c.least
section
variable {n k:Nat}{all:List Con}{tg:List Rat}{sum m:Rat}{s:St}{A:List Nat}
theorem ConI.lstk (h:ConI n all) (hk:k<all.length):Fits 2 (Go.Proofs.Ytjhkapjadfpimaa.lst all k):=by
 rw[lst_of (List.getElem?_eq_getElem hk)];exact h.lst _ (List.getElem_mem hk)
theorem ConI.nrmk (h:ConI n all) (hk:k<all.length):∀ q∈Go.Proofs.Ytjhkapjadfpimaa.nrm all k,intQ 1 q:=by
 rw[nrm_of (List.getElem?_eq_getElem hk)];exact h.nrm _ (List.getElem_mem hk)
theorem gt_int {l:List Rat}(h:∀ q∈l,intQ 1 q) (i:Nat):intQ 1 (gt l i):=by
 unfold gt;rw[List.getD_eq_getElem?_getD]
 by_cases hi:i<l.length
 · rw[List.getElem?_eq_getElem hi];exact h _ (List.getElem_mem hi)
 · rw[List.getElem?_eq_none (by omega)];exact⟨0,rfl,by decide⟩
theorem gt_fits {K:Nat}{l:List Rat}(hK:0<K) (h:QFits K l) (i:Nat):Fits K (gt l i):=by
 unfold gt;rw[List.getD_eq_getElem?_getD]
 by_cases hi:i<l.length
 · rw[List.getElem?_eq_getElem hi];exact h _ (List.getElem_mem hi)
 · rw[List.getElem?_eq_none (by omega)];exact Fits.zero hK
theorem normals_int (h:ConI n all) (hA:∀ a∈A,a<all.length):∀ r∈normalsS n all A,∀ q∈r,intQ 1 q:=fun r hr q hq=>by
 unfold normalsS at hr
 rcases List.mem_cons.1 hr with rfl | hr
 · rw[(List.mem_replicate.1 hq).2];exact⟨1,rfl,by decide⟩
 · obtain⟨a,ha,rfl⟩:=List.mem_map.1 hr;exact h.nrmk (hA a ha) q hq
theorem fn_int (h:ConI n all) (hA:∀ a∈A,a<all.length){j:Nat}(hj:j<A.length+1) (i:Nat):intQ 1 (fn (normalsS n all A) j i):=by
 have hj2:j<(normalsS n all A).length:=by rw[normalsS_len];exact hj
 rw[←row_fn hj2];exact gt_int (normals_int h hA _ (List.getElem_mem hj2)) i
theorem dot_int {a b:List Rat}(ha:a.length=n) (hb:b.length=n) (h1:∀ q∈a,intQ 1 q) (h2:∀ q∈b,intQ 1 q):intQ n (dotR a b):=by
 rw[dotR_ip ha hb];exact sm_intQ fun i _=>(gt_int h1 i).mul (gt_int h2 i)
theorem gram_fits (h:ConI n all) (hA:∀ a∈A,a<all.length) (hn:n≤8):MFits 1 (gramS (normalsS n all A)):=fun r hr q hq=>by
 obtain⟨a,ha,rfl⟩:=List.mem_map.1 hr;obtain⟨b,hb,rfl⟩:=List.mem_map.1 hq;have hR:=normalsS_rect (n:=n) h.len hA;exact (dot_int (hR a ha) (hR b hb) (normals_int h hA a ha) (normals_int h hA b hb)).fits (by omega)
theorem right_fits (h:ConI n all) (hA:∀ a∈A,a<all.length) (hk:k<all.length) (hn:n≤8):QFits 1 (rightS (normalsS n all A) (nrm all k)):=fun q hq=>by
 obtain⟨a,ha,rfl⟩:=List.mem_map.1 hq;have hR:=normalsS_rect (n:=n) h.len hA;exact (dot_int (hR a ha) (h.len.nrm hk) (normals_int h hA a ha) (h.nrmk hk)).fits (by omega)
theorem gK8:gK 1 8=87381:=by decide
theorem sol_fits {b r:List Rat}(h:ConI n all) (hA:∀ a∈A,a<all.length) (hn:n≤8) (hp:A.length+1≤8) (hb:QFits 1 b) (hbl:b.length=A.length+1) (hs:solveL (gramS (normalsS n all A)) b=some r):QFits 87381 r:=by
 have hf:=rect_form (gramS_rect (normalsS n all A)) (by rw[gramS_len,normalsS_len];omega);have h1:=solve_fits (K:=1) (by decide) hf.1 (gram_fits h hA hn) hb (by rw[gramS_len,normalsS_len];exact hbl) hs;rw[hf.2,normalsS_len] at h1;exact h1.mono (by rw[←gK8];exact gK_mono 1 hp)
theorem dir_fits {z rates:List Rat}{lev:Rat}(h:ConI n all) (hA:∀ a∈A,a<all.length) (hk:k<all.length) (hn:n≤8) (hp:A.length+1≤8) (hd:dirS n all A k=some (z,lev,rates)):QFits 87381 (lev::rates)∧QFits 699067 z:=by
 have hM:=normalsS_len n all A;have hr:=normalsS_rect (n:=n) h.len hA;unfold dirS at hd
 cases e:solveL (gramS (normalsS n all A)) (rightS (normalsS n all A) (nrm all k)) with
 | none=>rw[e] at hd;cases hd
 | some r =>
  rw[e] at hd
  injection hd with hd
  injection hd with h1 hd
  injection hd with h2 h3
  have hrf:=sol_fits h hA hn hp (right_fits h hA hk hn) (by rw[rightS_len,hM]) e;obtain⟨h4,h5⟩:=zAt_ok (r:=r) hr (h.len.nrm hk) (normalsS n all A).length (Nat.le_refl _);refine⟨fun q hq=>?_,fun q hq=>?_⟩
  · rcases List.mem_cons.1 hq with rfl | hq
    · rw[←h2];exact gt_fits (by decide) hrf 0
    · rw[←h3] at hq;exact hrf q (List.mem_of_mem_drop hq)
  · rw[←h1] at hq;obtain⟨i,hi,rfl⟩:=List.mem_iff_getElem.1 hq;have h6:=h5 i (by rw[h4] at hi;exact hi);unfold gt at h6;rw[getD_of 0 hi] at h6;rw[h6];have h7:Fits (1+(normalsS n all A).length*(87381+1+1)) (lc (normalsS n all A).length (gt r) (fn (normalsS n all A)) i):=sm_fits fun j hj=>(gt_fits (by decide) hrf j).mul ((fn_int h hA (by rw[hM] at hj;exact hj) i).fits (by decide));refine (((gt_int (h.nrmk hk) i).fits (by decide)).sub h7).mono ?_;rw[hM];omega
theorem pt_fits {y x v:Nat→Rat}(h:ConI n all) (hA:∀ a∈A,a<all.length) (hn:n≤8) (ht:QFits 2 tg) (hs:Fits 2 sum) (hl:LI (A.length+1) n (fn (normalsS n all A))) (hp:Pt (A.length+1) n (fn (normalsS n all A)) (gt (sum::A.map (lst all))) (gt tg) y x v 0) :
 (∀ j,j<A.length+1→Fits 699345 (y j))∧∀ i,i<n→Fits 5594780 (x i):=by
 have hp8:A.length+1≤8:=Nat.le_trans hl.le hn;have hM:=normalsS_len n all A;have hr:=normalsS_rect (n:=n) h.len hA
 have hg:∀ l,∃ r:List Rat,QFits 87381 r∧∀ j,j<A.length+1→sm (A.length+1) (fun t=>ip n (fn (normalsS n all A) j) (fn (normalsS n all A) t)*gt r t)=dl l j:=fun l=>by
  obtain⟨r,h1,h2,h3⟩:=gram_sol (b:=(List.range (A.length+1)).map fun j=>dl l j) hr (by omega) (by rw[hM];exact hl) (by simp[hM]);refine⟨r,sol_fits h hA hn hp8 (fun q hq=>?_) (by simp) h1,fun j hj=>?_⟩
  · obtain⟨j,_,rfl⟩:=List.mem_map.1 hq;unfold dl
    split
    · exact intQ.fits (B:=1) ⟨1,rfl,by decide⟩ (by decide)
    · exact intQ.fits (B:=1) ⟨0,rfl,by decide⟩ (by decide)
  · rw[hM] at h3;rw[h3 j hj];unfold gt;rw[range_getD hj]
 obtain⟨b',hb'⟩:∃ b':Nat→Rat,∀ l,b' l=gt (sum::A.map (lst all)) l-ip n (fn (normalsS n all A) l) (gt tg):=⟨_,fun _=>rfl⟩;obtain⟨g,hg⟩:∃ g:Nat→List Rat,∀ l,QFits 87381 (g l)∧∀ j,j<A.length+1→sm (A.length+1) (fun t=>ip n (fn (normalsS n all A) j) (fn (normalsS n all A) t)*gt (g l) t)=dl l j:=⟨fun l=>Classical.choose (hg l),fun l=>Classical.choose_spec (hg l)⟩;obtain⟨ys,hys⟩:∃ ys:Nat→Rat,∀ j,ys j=sm (A.length+1) (fun l=>b' l*gt (g l) j):=⟨_,fun _=>rfl⟩
 have hq:Pt (A.length+1) n (fn (normalsS n all A)) (gt (sum::A.map (lst all))) (gt tg) ys (fun i=>gt tg i+lc (A.length+1) ys (fn (normalsS n all A)) i) v 0:=by
  refine⟨fun i hi=>by grind,fun j hj=>?_⟩;rw[ip_addr,ip_comm n _ (lc _ ys _),ip_lc]
  have e1:sm (A.length+1) (fun t=>ys t*ip n (fn (normalsS n all A) t) (fn (normalsS n all A) j))=sm (A.length+1) (fun l=>b' l*sm (A.length+1) (fun t=>gt (g l) t*ip n (fn (normalsS n all A) t) (fn (normalsS n all A) j))):=by
   rw[sm_assoc];exact sm_congr fun t _=>by rw[hys t]
  rw[e1,sm_congr (g:=fun l=>b' l*dl l j) (fun l _=>by
   rw[←(hg l).2 j hj]
   congr 1
   exact sm_congr fun t _=>by rw[ip_comm n (fn (normalsS n all A) t)];grind),sm_dl' b' hj,hb' j]
  grind
 obtain⟨ex,ey⟩:=hp.unique hl hq
 have hbf:∀ l,l<A.length+1→Fits 36 (b' l):=fun l hl=>by
  rw[hb' l]
  have h1:Fits 2 (gt (sum::A.map (lst all)) l):=by
   refine gt_fits (by decide) (fun q hq=>?_) l
   rcases List.mem_cons.1 hq with rfl | hq
   · exact hs
   · obtain⟨a,ha,rfl⟩:=List.mem_map.1 hq;exact h.lstk (hA a ha)
  have h2:Fits (1+n*(1+2+1)) (ip n (fn (normalsS n all A) l) (gt tg)):=sm_fits fun i _=>((fn_int h hA hl i).fits (by decide)).mul (gt_fits (by decide) ht i);exact (h1.sub h2).mono (by omega)
 have hyf:∀ j,j<A.length+1→Fits 699345 (ys j):=fun j hj=>by
  rw[hys j];have h1:Fits (1+(A.length+1)*(36+87381+1)) (sm (A.length+1) (fun l=>b' l*gt (g l) j)):=sm_fits fun l hl=>(hbf l hl).mul (gt_fits (by decide) (hg l).1 j);exact h1.mono (by omega)
 refine⟨fun j hj=>by rw[ey j hj];exact hyf j hj,fun i hi=>?_⟩;rw[ex i hi];have h1:Fits (1+(A.length+1)*(699345+1+1)) (lc (A.length+1) ys (fn (normalsS n all A)) i):=sm_fits fun j hj=>(hyf j hj).mul ((fn_int h hA hj i).fits (by decide));exact ((gt_fits (by decide) ht i).add h1).mono (by omega)
abbrev KN:Nat:=10000000
theorem Okk.fits {z rates:List Rat}{lev:Rat}(h:ConI n all) (hk:k<all.length) (hn:n≤8) (ht:QFits 2 tg) (hs:Fits 2 sum) (ok:Okk n all tg sum s k m) (hm:Fits 786726 m) (hd:Dir n all s.active k z lev rates) :
 (∀ j,j<s.active.length+1→Fits 699345 (gt (s.level::s.mults) j+m*gt (lev::rates) j)∧Fits 1573453 (gt (s.level::s.mults) j))∧∀ i,i<n→Fits 7080574 (gt s.x i):=by
 have hp8:s.active.length+1≤8:=Nat.le_trans ok.li.le hn;obtain⟨h1,h2⟩:=pt_fits h ok.hA hn ht hs ok.li (ok.pt.back hd.zz hd.or);obtain⟨h3,h4⟩:=dir_fits h ok.hA hk hn hp8 hd.is;refine⟨fun j hj=>⟨h1 j hj,?_⟩,fun i hi=>?_⟩
 · have e:gt (s.level::s.mults) j=(gt (s.level::s.mults) j+m*gt (lev::rates) j)-m*gt (lev::rates) j:=by grind
   rw[e];exact ((h1 j hj).sub (hm.mul (gt_fits (by decide) h3 j))).mono (by omega)
 · have e:gt s.x i=(gt s.x i-m*gt z i)+m*gt z i:=by grind
   rw[e];exact ((h2 i hi).add (hm.mul (gt_fits (by decide) h4 i))).mono (by omega)
theorem QFits.of_gt {K N:Nat}{l:List Rat}(hl:l.length≤N) (h:∀ i,i<N→Fits K (gt l i)):QFits K l:=fun q hq=>by
 obtain⟨i,hi,rfl⟩:=List.mem_iff_getElem.1 hq;have h1:=h i (by omega);unfold gt at h1;rw[getD_of 0 hi] at h1;exact h1
theorem Okk.oks {z rates:List Rat}{lev:Rat}(h:ConI n all) (hk:k<all.length) (hn:n≤8) (ht:QFits 2 tg) (hs:Fits 2 sum) (ok:Okk n all tg sum s k m) (hm:Fits 786726 m) (hd:Dir n all s.active k z lev rates):okS KN n all s=true:=by
 obtain⟨h1,h2⟩:=ok.fits h hk hn ht hs hm hd;have hp8:s.active.length+1≤8:=Nat.le_trans ok.li.le hn;refine okS_iff.2 ⟨QFits.of_gt (N:=n) (by rw[ok.lx];exact Nat.le_refl _) fun i hi=>(h2 i hi).mono (by decide),(h1 0 (by omega)).2.mono (by decide),QFits.of_gt (N:=s.active.length) (by rw[ok.lm];exact Nat.le_refl _) fun i hi=>(h1 (i+1) (by omega)).2.mono (by decide),ok.lx,ok.lm,by omega,ok.hA⟩
theorem sat_ok (h:ConI n all) (hk:k<all.length) (hn:n≤8) (ht:QFits 2 tg) (hs:Fits 2 sum):∀ (q f:Nat) (s:St) (m:Rat),s.active.length≤q→q<f→Okk n all tg sum s k m→0≤m→Fits 786726 m→ip n (gt (nrm all k)) (gt s.x)<lst all k →
 (satR KN n all k f s m=some none∧Infeas n all sum)∨∃ t,satR KN n all k f s m=some (some t)∧(∀ k',Okk n all tg sum t k' 0)∧DV n all tg s k m<distV n tg t.x:=by
 intro q
 induction q with
 | zero =>
  intro f s m ha hf ok hm0 hm hx;obtain⟨f,rfl⟩:∃ g,f=g+1:=⟨f-1,by omega⟩;obtain⟨z,lev,rates,hd⟩:=dir_ok h.len ok.hA hk ok.li;have ho:=ok.oks h hk hn ht hs hm hd;have hmf:fitsB KN m=true:=fitsB_iff.2 (hm.mono (by decide))
  have e:satR KN n all k (f+1) s m=match stepS n all k s m with
   | none=>none
   | some none=>some none
   | some (some (true,t,m'))=>some (some ⟨t.x,t.level,t.active++[k],t.mults++[m']⟩)
   | some (some (false,t,m'))=>satR KN n all k f t m':=by
   show (if okS KN n all s=true∧fitsB KN m=true then _ else none)=_
   rw[if_pos ⟨ho,hmf⟩];rfl
  rw[e]
  cases ok.next h.len hk hm0 hx with
  | none h1 h2=>rw[h1];exact .inl ⟨rfl,h2⟩
  | full t m' h1 h2 h3=>rw[h1];exact .inr ⟨_,rfl,h2,h3⟩
  | drop j z rates lev T hd hq hr hT h1 h2 h3 h4 h5 h6=>omega
 | succ q ih =>
  intro f s m ha hf ok hm0 hm hx;obtain⟨f,rfl⟩:∃ g,f=g+1:=⟨f-1,by omega⟩;obtain⟨z,lev,rates,hd⟩:=dir_ok h.len ok.hA hk ok.li;have ho:=ok.oks h hk hn ht hs hm hd;have hmf:fitsB KN m=true:=fitsB_iff.2 (hm.mono (by decide))
  have e:satR KN n all k (f+1) s m=match stepS n all k s m with
   | none=>none
   | some none=>some none
   | some (some (true,t,m'))=>some (some ⟨t.x,t.level,t.active++[k],t.mults++[m']⟩)
   | some (some (false,t,m'))=>satR KN n all k f t m':=by
   show (if okS KN n all s=true∧fitsB KN m=true then _ else none)=_
   rw[if_pos ⟨ho,hmf⟩];rfl
  rw[e]
  cases ok.next h.len hk hm0 hx with
  | none h1 h2=>rw[h1];exact .inl ⟨rfl,h2⟩
  | full t m' h1 h2 h3=>rw[h1];exact .inr ⟨_,rfl,h2,h3⟩
  | drop j z rates lev T hd hq hr hT h1 h2 h3 h4 h5 h6 =>
   rw[h1];obtain⟨h7,h8⟩:=ok.fits h hk hn ht hs hm hd
   have hT2:m+T=(gt (s.level::s.mults) (j+1)+m*gt (lev::rates) (j+1)) / gt rates j:=by
    rw[hT,gt_cons1,gt_cons1];have:gt rates j≠0:=by grind
    grind
   have hp8:s.active.length+1≤8:=Nat.le_trans ok.li.le hn;have hrf:=(dir_fits h ok.hA hk hn hp8 hd.is).1
   have hmf2:Fits 786726 (m+T):=by
    rw[hT2];exact ((h7 (j+1) (by omega)).1.div (gt_fits (by decide) hrf (j+1))).mono (by omega)
   rcases ih f _ (m+T) (by omega) (by omega) h2 h4 hmf2 h5 with h9 | ⟨t,h9,h10,h11⟩
   · exact .inl h9
   · exact .inr ⟨t,h9,h10,by grind⟩
end
end Go.Proofs.Ytjhkapjadfpimaa
