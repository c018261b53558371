/- Contracts of functions, for the law. -/
import Derived.Test.YtjhkapjadfpimaaNAlg
import Derived.Test.YtjhkapjadfpimaaMLin
namespace Go.Proofs.Ytjhkapjadfpimaa
set_option linter.unusedVariables false
set_option linter.unusedSimpArgs false
open Go.RowKit Plain
def gt (l:List Rat) (i:Nat):Rat:=l.getD i 0
theorem dotR_ip {n:Nat}{a b:List Rat}(ha:a.length=n) (hb:b.length=n):dotR a b=ip n (gt a) (gt b):=dotL_sm ha hb
theorem rect_form {M:Mat}{n:Nat}(h:rect M n) (hl:0<M.length):formedL M=true∧colsL M=n:=by
 cases M with
 | nil=>simp at hl
 | cons r T =>
  have h1:colsL (r::T)=n:=h r List.mem_cons_self;refine⟨?_,h1⟩;unfold formedL;rw[List.all_eq_true];intro x hx;rw[h1];exact decide_eq_true (h x hx)
def ConN (n:Nat) (all:List Con):Prop:=∀ c∈all,c.normal.length=n
theorem ConN.nrm {n k:Nat}{all:List Con}(h:ConN n all) (hk:k<all.length):(nrm all k).length=n:=by
 rw[nrm_of (List.getElem?_eq_getElem hk)];exact h _ (List.getElem_mem hk)
section
variable {n k:Nat}{all:List Con}{A:List Nat}
theorem normalsS_len (n:Nat) (all:List Con) (A:List Nat):(normalsS n all A).length=A.length+1:=by simp[normalsS]
theorem normalsS_rect (h:ConN n all) (hA:∀ a∈A,a<all.length):rect (normalsS n all A) n:=fun r hr=>by
 unfold normalsS at hr
 rcases List.mem_cons.1 hr with rfl | hr
 · exact List.length_replicate
 · obtain⟨a,ha,rfl⟩:=List.mem_map.1 hr;exact h.nrm (hA a ha)
theorem gramS_len (M:Mat):(gramS M).length=M.length:=by simp[gramS]
theorem gramS_rect (M:Mat):rect (gramS M) M.length:=fun r hr=>by
 obtain⟨a,ha,rfl⟩:=List.mem_map.1 hr
 simp
theorem rightS_len (M:Mat) (v:List Rat):(rightS M v).length=M.length:=by simp[rightS]
theorem getD_of {α:Type}{l:List α}{j:Nat}(d:α) (hj:j<l.length):l.getD j d=l[j]:=by rw[List.getD_eq_getElem?_getD,List.getElem?_eq_getElem hj];rfl
theorem row_fn {M:Mat}{j:Nat}(hj:j<M.length):gt M[j]=fn M j:=by
 funext i;unfold gt fn;rw[getD_of [] hj]
theorem gramS_fn {M:Mat}{j l:Nat}(hr:rect M n) (hj:j<M.length) (hl:l<M.length):fn (gramS M) j l=ip n (fn M j) (fn M l):=by
 unfold fn;rw[getD_of [] (by rw[gramS_len];exact hj)];have e:(gramS M)[j]'(by rw[gramS_len];exact hj)=M.map (dotR M[j]):=by simp[gramS]
 rw[e,getD_of 0 (by simpa using hl),List.getElem_map,dotR_ip (hr _ (List.getElem_mem hj)) (hr _ (List.getElem_mem hl)),row_fn hj,row_fn hl];rfl
theorem rightS_get {M:Mat}{v:List Rat}{j:Nat}(hr:rect M n) (hv:v.length=n) (hj:j<M.length):(rightS M v).getD j 0=ip n (fn M j) (gt v):=by
 rw[getD_of 0 (by rw[rightS_len];exact hj)];have e:(rightS M v)[j]'(by rw[rightS_len];exact hj)=dotR M[j] v:=by simp[rightS]
 rw[e,dotR_ip (hr _ (List.getElem_mem hj)) hv,row_fn hj]
theorem gram_sol {M:Mat}{b:List Rat}(hr:rect M n) (h0:0<M.length) (hl:LI M.length n (fn M)) (hb:b.length=M.length) :
 ∃ r,solveL (gramS M) b=some r∧r.length=M.length∧∀ j,j<M.length→sm M.length (fun l=>ip n (fn M j) (fn M l)*gt r l)=gt b j:=by
 obtain⟨c,hc⟩:=gram_solve hl (gt b);have hf:=rect_form (gramS_rect M) (by rw[gramS_len];exact h0)
 have ht:∀ x:List Rat,x.length=M.length→∀ j,j<M.length→(timesL (gramS M) x).getD j 0=sm M.length fun l=>ip n (fn M j) (fn M l)*gt x l:=fun x hx j hj=>by
  have hj2:j<(gramS M).length:=by rw[gramS_len];exact hj
  rw[getD_of 0 (by rw[timesL_length];exact hj2),timesL_get hj2,dotL_sm (n:=M.length) (gramS_rect M _ (List.getElem_mem hj2)) hx];refine sm_congr fun l hl=>?_;rw[←gramS_fn hr hj hl];unfold fn gt;rw[getD_of [] hj2]
 have hne:solveL (gramS M) b≠none:=by
  refine solve_some_of (x:=(List.range M.length).map c) hf.1 (by rw[hf.2];simp) (List.ext_getElem (by rw[timesL_length,gramS_len,hb]) fun j h1 h2=>?_);have hj:j<M.length:=by rw[hb] at h2;exact h2
  have h3:=ht ((List.range M.length).map c) (by simp) j hj;rw[getD_of 0 h1] at h3;rw[h3,←getD_of 0 h2];have h4:=hc j hj;unfold gt at h4;rw[←h4];refine sm_congr fun l hl=>?_;unfold gt;rw[range_getD hl]
 obtain⟨r,hr2⟩:=Option.ne_none_iff_exists'.1 hne;have hs:=solve_sol hf.1 (by rw[gramS_len];exact hb) hr2;have hrl:r.length=M.length:=by rw[hs.1,hf.2]
 refine⟨r,hr2,hrl,fun j hj=>?_⟩;rw[←ht r hrl j hj,hs.2.1];rfl
theorem lessZ_len {z a:List Rat}{c:Rat}(hz:z.length=n) (ha:a.length=n):(lessZ z c a).length=n:=by unfold lessZ;rw[List.length_zipWith,hz,ha,Nat.min_self]
theorem lessZ_get {z a:List Rat}{c:Rat}{i:Nat}(hz:z.length=n) (ha:a.length=n) (hi:i<n):gt (lessZ z c a) i=gt z i-c*gt a i:=by
 unfold gt;rw[getD_of 0 (by rw[lessZ_len hz ha];exact hi),getD_of 0 (by rw[hz];exact hi),getD_of 0 (by rw[ha];exact hi)]
 simp[lessZ]
theorem zAt_ok {M:Mat}{r v:List Rat}(hr:rect M n) (hv:v.length=n):∀ j,j≤M.length→(zAt M r v j).length=n∧∀ i,i<n→gt (zAt M r v j) i=gt v i-lc j (gt r) (fn M) i:=by
 intro j
 induction j with
 | zero=>exact fun _=>⟨hv,fun i hi=>by show gt v i=gt v i-0;grind⟩
 | succ j ih =>
  intro hj;obtain⟨h1,h2⟩:=ih (by omega);have h3:(M.getD j []).length=n:=rect_row hr (by omega);refine⟨lessZ_len h1 h3,fun i hi=>?_⟩
  show gt (lessZ (zAt M r v j) (r.getD j 0) (M.getD j [])) i=gt v i-(lc j (gt r) (fn M) i+gt r j*fn M j i)
  rw[lessZ_get h1 h3 hi,h2 i hi]
  show gt v i-lc j (gt r) (fn M) i-gt r j*fn M j i=_
  grind
structure Dir (n:Nat) (all:List Con) (A:List Nat) (k:Nat) (z:List Rat) (lev:Rat) (rates:List Rat):Prop where
 is:dirS n all A k=some (z,lev,rates)
 lz:z.length=n
 lr:rates.length=A.length
 zz:∀ i,i<n→gt z i=gt (nrm all k) i-lc (A.length+1) (gt (lev::rates)) (fn (normalsS n all A)) i
 or:∀ j,j<A.length+1→ip n (fn (normalsS n all A) j) (gt z)=0
theorem dir_ok (h:ConN n all) (hA:∀ a∈A,a<all.length) (hk:k<all.length) (hl:LI (A.length+1) n (fn (normalsS n all A))):∃ z lev rates,Dir n all A k z lev rates:=by
 have hM:=normalsS_len n all A;have hr:=normalsS_rect (n:=n) h hA;have hv:=h.nrm hk;rw[←hM] at hl;obtain⟨r,h1,h2,h3⟩:=gram_sol (b:=rightS (normalsS n all A) (nrm all k)) hr (by omega) hl (rightS_len _ _);obtain⟨h4,h5⟩:=zAt_ok (r:=r) hr hv (normalsS n all A).length (Nat.le_refl _)
 cases r with
 | nil=>simp at h2;omega
 | cons lev rates =>
  refine⟨zAt (normalsS n all A) (lev::rates) (nrm all k) (normalsS n all A).length,lev,rates,?_,h4,by simp at h2;omega,by rw[←hM];exact h5,by
   rw[←hM];exact dir_orth h5 fun j hj=>by rw[h3 j hj];exact rightS_get hr hv hj⟩
  unfold dirS;rw[h1];rfl
def LimP (mults rates:List Rat) (j:Nat):Option Nat × Rat→Prop
 | (none,_)=>∀ l,l<j→gt rates l≤0
 | (some q,t)=>q<j∧0<gt rates q∧t=gt mults q / gt rates q∧∀ l,l<j→0<gt rates l→t≤gt mults l / gt rates l
theorem limK_ok (mults rates:List Rat):∀ j,LimP mults rates j (limK mults rates j):=by
 intro j
 induction j with
 | zero=>exact fun l hl=>by omega
 | succ j ih =>
  have e:limK mults rates (j+1)=if 0<gt rates j∧((limK mults rates j).1=none∨gt mults j / gt rates j<(limK mults rates j).2) then (some j,gt mults j / gt rates j) else limK mults rates j:=rfl
  rw[e];obtain⟨o,t,ho⟩:∃ o t,limK mults rates j=(o,t):=⟨_,_,rfl⟩;rw[ho] at ih ⊢
  by_cases hc:0<gt rates j∧(o=none∨gt mults j / gt rates j<t)
  · rw[if_pos hc];refine⟨by omega,hc.1,rfl,fun l hl hp=>?_⟩
    rcases Nat.lt_succ_iff_lt_or_eq.1 hl with h1 | rfl
    · cases o with
      | none=>have h2:gt rates l≤0:=ih l h1;exact absurd hp (by grind)
      | some q =>
       rcases hc.2 with h2 | h2
       · cases h2
       · have h3:=ih.2.2.2 l h1 hp
         grind
    · exact Rat.le_refl
  · rw[if_neg hc]
    cases o with
    | none =>
     intro l hl
     rcases Nat.lt_succ_iff_lt_or_eq.1 hl with h1 | rfl
     · exact ih l h1
     · by_cases hp:0<gt rates l
       · exact absurd ⟨hp,.inl rfl⟩ hc
       · exact Rat.not_lt.1 hp
    | some q =>
     refine⟨Nat.lt_succ_of_lt ih.1,ih.2.1,ih.2.2.1,fun l hl hp=>?_⟩
     rcases Nat.lt_succ_iff_lt_or_eq.1 hl with h1 | rfl
     · exact ih.2.2.2 l h1 hp
     · exact Rat.not_lt.1 fun h2=>hc ⟨hp,.inr h2⟩
def WorP (all:List Con) (x:List Rat) (j:Nat):Option Nat × Rat→Prop
 | (none,_)=>∀ l,l<j→lst all l≤dotR (nrm all l) x
 | (some q,t)=>q<j∧dotR (nrm all q) x<lst all q
theorem worst_ok (all:List Con) (x:List Rat):∀ j,WorP all x j (worstK all x j):=by
 intro j
 induction j with
 | zero=>exact fun l hl=>by omega
 | succ j ih =>
  have e:worstK all x (j+1)=if 0<lst all j-dotR (nrm all j) x∧((worstK all x j).1=none∨(worstK all x j).2<lst all j-dotR (nrm all j) x) then (some j,lst all j-dotR (nrm all j) x) else worstK all x j:=rfl
  rw[e];obtain⟨o,t,ho⟩:∃ o t,worstK all x j=(o,t):=⟨_,_,rfl⟩;rw[ho] at ih ⊢
  by_cases hc:0<lst all j-dotR (nrm all j) x∧(o=none∨t<lst all j-dotR (nrm all j) x)
  · rw[if_pos hc];exact⟨by omega,by have:=hc.1;grind⟩
  · rw[if_neg hc]
    cases o with
    | none =>
     intro l hl
     rcases Nat.lt_succ_iff_lt_or_eq.1 hl with h1 | rfl
     · exact ih l h1
     · by_cases hp:0<lst all l-dotR (nrm all l) x
       · exact absurd ⟨hp,.inl rfl⟩ hc
       · have:=Rat.not_lt.1 hp;grind
    | some q=>exact⟨Nat.lt_succ_of_lt ih.1,ih.2⟩
end
theorem gt_cons1 (a:Rat) (l:List Rat) (j:Nat):gt (a::l) (j+1)=gt l j:=rfl
theorem gt_zip {f:Rat→Rat→Rat}{a b:List Rat}{i:Nat}(ha:i<a.length) (hb:i<b.length):gt (List.zipWith f a b) i=f (gt a i) (gt b i):=by
 unfold gt;rw[getD_of 0 (by rw[List.length_zipWith];omega),getD_of 0 ha,getD_of 0 hb,List.getElem_zipWith]
theorem erase_getD {α:Type}(l:List α) (q i:Nat) (d:α):(l.take q++l.drop (q+1)).getD i d=l.getD (if i<q then i else i+1) d:=by
 simp only[List.getD_eq_getElem?_getD]
 congr 1
 by_cases hq:q<l.length
 · by_cases h:i<q
   · rw[if_pos h,List.getElem?_append_left (by rw[List.length_take];omega),List.getElem?_take,if_pos h]
   · rw[if_neg h,List.getElem?_append_right (by rw[List.length_take];omega),List.getElem?_drop,List.length_take]
     congr 1;omega
 · rw[List.drop_of_length_le (by omega),List.append_nil,List.take_of_length_le (by omega)]
   by_cases h:i<q
   · rw[if_pos h]
   · rw[if_neg h,List.getElem?_eq_none (by omega),List.getElem?_eq_none (by omega)]
theorem erase_len {α:Type}{l:List α}{q:Nat}(hq:q<l.length):(l.take q++l.drop (q+1)).length=l.length-1:=by
 rw[List.length_append,List.length_take,List.length_drop];omega
theorem erase_cons {α:Type}(a:α) (l:List α) (q:Nat):a::(l.take q++l.drop (q+1))=(a::l).take (q+1)++(a::l).drop (q+1+1):=rfl
theorem erase_map {α β:Type}(f:α→β) (l:List α) (q:Nat):(l.take q++l.drop (q+1)).map f=(l.map f).take q++(l.map f).drop (q+1):=by
 rw[List.map_append,List.map_take,List.map_drop]
theorem erase_mem {α:Type}{l:List α}{q:Nat}{a:α}(h:a∈l.take q++l.drop (q+1)):a∈l:=by
 rcases List.mem_append.1 h with h | h
 · exact List.mem_of_mem_take h
 · exact List.mem_of_mem_drop h
theorem divmul {a b:Rat}(hb:0<b):a / b*b=a:=by
 have:b≠0:=by grind
 grind
structure Okk (n:Nat) (all:List Con) (tg:List Rat) (sum:Rat) (s:St) (k:Nat) (m:Rat):Prop where
 hA:∀ a∈s.active,a<all.length
 lx:s.x.length=n
 lm:s.mults.length=s.active.length
 li:LI (s.active.length+1) n (fn (normalsS n all s.active))
 pt:Pt (s.active.length+1) n (fn (normalsS n all s.active)) (gt (sum::s.active.map (lst all))) (gt tg) (gt (s.level::s.mults)) (gt s.x) (gt (nrm all k)) m
 nn:∀ j,j<s.mults.length→0≤gt s.mults j
def distV (n:Nat) (tg x:List Rat):Rat:=ip n (fun i=>gt x i-gt tg i) (fun i=>gt x i-gt tg i)
def Infeas (n:Nat) (all:List Con) (sum:Rat):Prop:=∀ u:List Rat,u.length=n→ip n (fun _=>1) (gt u)=sum→(∀ k,k<all.length→lst all k≤ip n (gt (nrm all k)) (gt u))→False
section
variable {n k:Nat}{all:List Con}{tg:List Rat}{sum m:Rat}{s:St}
theorem fn_ones (n:Nat) (all:List Con) (A:List Nat){i:Nat}(hi:i<n):fn (normalsS n all A) 0 i=1:=by
 show (List.replicate n (1:Rat)).getD i 0=1
 rw[getD_of 0 (by simpa using hi)];simp
theorem fn_act {A:List Nat}{j:Nat}(hj:j<A.length):fn (normalsS n all A) (j+1)=gt (nrm all A[j]):=by
 funext i
 show ((A.map (nrm all)).getD j []).getD i 0=_
 rw[getD_of [] (by simpa using hj),List.getElem_map];rfl
theorem bv_act {A:List Nat}{j:Nat}(hj:j<A.length):gt (sum::A.map (lst all)) (j+1)=lst all A[j]:=by
 show (A.map (lst all)).getD j 0=_
 rw[getD_of 0 (by simpa using hj),List.getElem_map]
theorem Okk.move {z rates:List Rat}{lev:Rat}(h:Okk n all tg sum s k m) (hd:Dir n all s.active k z lev rates) (t:Rat) (hn:∀ j,j<s.mults.length→0≤gt s.mults j-t*gt rates j):Okk n all tg sum (moveS s z lev rates t) k (m+t) where
 hA:=h.hA
 lx:=by show (List.zipWith _ _ _).length=n;rw[List.length_zipWith,h.lx,hd.lz,Nat.min_self]
 lm:=by show (List.zipWith _ _ _).length=_;rw[List.length_zipWith,h.lm,hd.lr,Nat.min_self];rfl
 li:=h.li
 pt:=(Pt.step t h.pt hd.zz hd.or).congr (fun _ _ _ _=>rfl) (fun _ _=>rfl) (fun j hj=>by
  cases j with
  | zero=>rfl
  | succ j=>exact gt_zip (by rw[h.lm];show j<s.active.length;have:j+1<s.active.length+1:=hj;omega) (by rw[hd.lr];have:j+1<s.active.length+1:=hj;omega)) (fun i hi=>gt_zip (by rw[h.lx];exact hi) (by rw[hd.lz];exact hi)) fun _ _=>rfl
 nn:=fun j hj=>by
  have hj2:j<s.mults.length:=by
   have:j<(List.zipWith (fun a b=>a-t*b) s.mults rates).length:=hj;rw[List.length_zipWith] at this;omega
  show 0≤gt (List.zipWith (fun a b=>a-t*b) s.mults rates) j
  rw[gt_zip hj2 (by rw[hd.lr,←h.lm];exact hj2)];exact hn j hj2
theorem Okk.drop {q:Nat}(h:Okk n all tg sum s k m) (hq:q<s.active.length) (hz:gt s.mults q=0):Okk n all tg sum (dropS s q) k m∧(dropS s q).active.length+1=s.active.length:=by
 have hl:(dropS s q).active.length+1=s.active.length:=by
  show (s.active.take q++s.active.drop (q+1)).length+1=_
  rw[erase_len hq];omega
 have hN:∀ l i,fn (normalsS n all (dropS s q).active) l i=fn (normalsS n all s.active) (if l<q+1 then l else l+1) i:=fun l i=>by
  have e:normalsS n all (dropS s q).active=(normalsS n all s.active).take (q+1)++(normalsS n all s.active).drop (q+1+1):=by
   show List.replicate n 1::(s.active.take q++s.active.drop (q+1)).map (nrm all)=_
   rw[erase_map,erase_cons];rfl
  unfold fn;rw[e,erase_getD]
 have hli:=h.li;have hpt:=h.pt;rw[←hl] at hli hpt;refine⟨⟨fun a ha=>h.hA a (erase_mem ha),h.lx,?_,?_,?_,fun j hj=>?_⟩,hl⟩
 · show (s.mults.take q++s.mults.drop (q+1)).length=_
   rw[erase_len (by rw[h.lm];exact hq),h.lm];omega
 · exact (hli.drop (t:=q+1) (by omega)).congr fun j i _ _=>hN j i
 · refine (hpt.drop (t:=q+1) (by omega) (by rw[gt_cons1];exact hz)).congr (fun j i _ _=>hN j i) (fun j _=>?_) (fun j _=>?_) (fun _ _=>rfl) fun _ _=>rfl
   · have e:sum::(dropS s q).active.map (lst all)=(sum::s.active.map (lst all)).take (q+1)++(sum::s.active.map (lst all)).drop (q+1+1):=by
      show sum::(s.active.take q++s.active.drop (q+1)).map (lst all)=_
      rw[erase_map,erase_cons]
     unfold gt;rw[e,erase_getD]
   · show gt (s.level::(s.mults.take q++s.mults.drop (q+1))) j=_
     unfold gt;rw[erase_cons,erase_getD]
 · show 0≤gt (s.mults.take q++s.mults.drop (q+1)) j
   have hj2:j<(s.mults.take q++s.mults.drop (q+1)).length:=hj;rw[erase_len (by rw[h.lm];exact hq)] at hj2;unfold gt;rw[erase_getD]
   split
   · exact h.nn j (by omega)
   · exact h.nn (j+1) (by omega)
theorem Okk.enter {z rates:List Rat}{lev:Rat}(h:Okk n all tg sum s k m) (hk:k<all.length) (hd:Dir n all s.active k z lev rates) (hp:ip n (gt z) (gt (nrm all k))≠0) (hm:0≤m) (hx:ip n (gt (nrm all k)) (gt s.x)=lst all k) (k':Nat) :
 Okk n all tg sum ⟨s.x,s.level,s.active++[k],s.mults++[m]⟩ k' 0:=by
 have hN:∀ j,j<s.active.length+1+1→fn (normalsS n all (s.active++[k])) j=if j<s.active.length+1 then fn (normalsS n all s.active) j else gt (nrm all k):=fun j hj=>by
  cases j with
  | zero=>rw[if_pos (by omega)];rfl
  | succ j =>
   rw[fn_act (by simp;omega)]
   by_cases e:j<s.active.length
   · rw[if_pos (by omega),fn_act e,List.getElem_append_left e]
   · rw[if_neg (by omega),List.getElem_append_right (by omega)];simp
 have hl:(s.active++[k]).length=s.active.length+1:=by simp
 refine⟨fun a ha=>?_,h.lx,by simp[h.lm],?_,?_,fun j hj=>?_⟩
 · rcases List.mem_append.1 ha with ha | ha
   · exact h.hA a ha
   · rw[List.mem_singleton.1 ha];exact hk
 · show LI ((s.active++[k]).length+1) n (fn (normalsS n all (s.active++[k])))
   rw[hl];exact (h.li.snoc hd.zz hd.or (by rw[←dir_speed hd.zz hd.or];exact hp)).congr fun j i hj hi=>by rw[hN j hj]
 · show Pt ((s.active++[k]).length+1) n (fn (normalsS n all (s.active++[k]))) (gt (sum::(s.active++[k]).map (lst all))) (gt tg) (gt (s.level::(s.mults++[m]))) (gt s.x) (gt (nrm all k')) 0
   rw[hl];refine (h.pt.enter hx).congr (fun j i hj hi=>by rw[hN j hj]) (fun j hj=>?_) (fun j hj=>?_) (fun _ _=>rfl) fun _ _=>rfl
   · cases j with
     | zero=>rw[if_pos (by omega)];rfl
     | succ j =>
      rw[bv_act (by simp;omega)]
      by_cases e:j<s.active.length
      · rw[if_pos (by omega),bv_act e,List.getElem_append_left e]
      · rw[if_neg (by omega),List.getElem_append_right (by omega)];simp
   · cases j with
     | zero=>rw[if_pos (by omega)];rfl
     | succ j =>
      rw[gt_cons1];unfold gt
      by_cases e:j<s.active.length
      · rw[if_pos (by omega),List.getD_eq_getElem?_getD,List.getElem?_append_left (by rw[h.lm];exact e),←List.getD_eq_getElem?_getD];rfl
      · rw[if_neg (by omega),List.getD_eq_getElem?_getD,List.getElem?_append_right (by rw[h.lm];omega),h.lm,show j-s.active.length=0 by omega];rfl
 · show 0≤gt (s.mults++[m]) j
   have hj2:j<s.mults.length+1:=by simpa using hj
   unfold gt
   by_cases e:j<s.mults.length
   · rw[List.getD_eq_getElem?_getD,List.getElem?_append_left e,←List.getD_eq_getElem?_getD];exact h.nn j e
   · rw[List.getD_eq_getElem?_getD,List.getElem?_append_right (by omega),show j-s.mults.length=0 by omega];exact hm
def DV (n:Nat) (all:List Con) (tg:List Rat) (s:St) (k:Nat) (m:Rat):Rat:=dualV n (gt s.x) (gt tg) (gt (nrm all k)) m (lst all k)
theorem DV_zero (n:Nat) (all:List Con) (tg:List Rat) (s:St) (k:Nat):DV n all tg s k 0=distV n tg s.x:=by unfold DV dualV distV;grind
theorem gt_move_x {z rates:List Rat}{lev t:Rat}(h:s.x.length=n) (hz:z.length=n):∀ i,i<n→gt (moveS s z lev rates t).x i=gt s.x i+t*gt z i:=fun i hi=>gt_zip (by rw[h];exact hi) (by rw[hz];exact hi)
theorem ip_move {z rates:List Rat}{lev t:Rat}(h:s.x.length=n) (hz:z.length=n) (v:Nat→Rat):ip n v (gt (moveS s z lev rates t).x)=ip n v (gt s.x)+t*ip n (gt z) v:=by
 rw[ip_congr (a':=v) (fun _ _=>rfl) (gt_move_x h hz),ip_addr,ip_smulr,ip_comm n v (gt z)]
theorem DV_move {z rates:List Rat}{lev:Rat}(h:Okk n all tg sum s k m) (hd:Dir n all s.active k z lev rates) (t:Rat) :
 DV n all tg (moveS s z lev rates t) k (m+t)=DV n all tg s k m+t*(2*(lst all k-ip n (gt (nrm all k)) (gt s.x))-t*ip n (gt z) (gt (nrm all k))):=by
 have e:DV n all tg (moveS s z lev rates t) k (m+t)=dualV n (fun i=>gt s.x i+t*gt z i) (gt tg) (gt (nrm all k)) (m+t) (lst all k):=by
  unfold DV dualV
  rw[ip_congr (a:=fun i=>gt (moveS s z lev rates t).x i-gt tg i) (b:=fun i=>gt (moveS s z lev rates t).x i-gt tg i) (a':=fun i=>gt s.x i+t*gt z i-gt tg i) (b':=fun i=>gt s.x i+t*gt z i-gt tg i) (fun i hi=>by rw[gt_move_x h.lx hd.lz i hi]) (fun i hi=>by rw[gt_move_x h.lx hd.lz i hi]),
   ip_congr (b:=gt (moveS s z lev rates t).x) (fun _ _=>rfl) (gt_move_x h.lx hd.lz)]
 rw[e];exact Pt.dual t h.pt hd.zz hd.or
inductive Next (n:Nat) (all:List Con) (tg:List Rat) (sum:Rat) (s:St) (k:Nat) (m:Rat):Prop where
 | none (h:stepS n all k s m=some none) (hi:Infeas n all sum)
 | full (t:St) (m':Rat) (h:stepS n all k s m=some (some (true,t,m'))) (ok:∀ k',Okk n all tg sum ⟨t.x,t.level,t.active++[k],t.mults++[m']⟩ k' 0) (hd:DV n all tg s k m<distV n tg t.x)
 | drop (q:Nat) (z rates:List Rat) (lev T:Rat) (hd:Dir n all s.active k z lev rates) (hq:q<s.active.length) (hr:0<gt rates q) (hT:T=gt s.mults q / gt rates q) (h:stepS n all k s m=some (some (false,dropS (moveS s z lev rates T) q,m+T)))
  (ok:Okk n all tg sum (dropS (moveS s z lev rates T) q) k (m+T)) (hl:(dropS (moveS s z lev rates T) q).active.length+1=s.active.length) (h0:0≤m+T) (hx:ip n (gt (nrm all k)) (gt (dropS (moveS s z lev rates T) q).x)<lst all k) (hv:DV n all tg s k m≤DV n all tg (dropS (moveS s z lev rates T) q) k (m+T))
theorem Okk.next (hc:ConN n all) (h:Okk n all tg sum s k m) (hk:k<all.length) (hm:0≤m) (hx:ip n (gt (nrm all k)) (gt s.x)<lst all k):Next n all tg sum s k m:=by
 obtain⟨z,lev,rates,hd⟩:=dir_ok hc h.hA hk h.li;have hlim:=limK_ok s.mults rates rates.length;have hsp:dotR z (nrm all k)=ip n (gt z) (gt (nrm all k)):=dotR_ip hd.lz (hc.nrm hk);have hvx:dotR (nrm all k) s.x=ip n (gt (nrm all k)) (gt s.x):=dotR_ip (hc.nrm hk) h.lx;have hs0:0≤ip n (gt z) (gt (nrm all k)):=by rw[dir_speed hd.zz hd.or];exact ip_self _ _
 have hstep:stepS n all k s m=if 0<dotR z (nrm all k)∧((limK s.mults rates rates.length).1=none∨fullT all k s.x z≤(limK s.mults rates rates.length).2) then
  some (some (true,moveS s z lev rates (fullT all k s.x z),m+fullT all k s.x z))
  else match (limK s.mults rates rates.length).1 with
   | none=>some none
   | some j=>some (some (false,dropS (moveS s z lev rates (limK s.mults rates rates.length).2) j,m+(limK s.mults rates rates.length).2)):=by
  unfold stepS;rw[hd.is];rfl
 obtain⟨o,T,ho⟩:∃ o T,limK s.mults rates rates.length=(o,T):=⟨_,_,rfl⟩;rw[ho] at hlim hstep;dsimp only at hstep
 by_cases hf:0<dotR z (nrm all k)∧(o=none∨fullT all k s.x z≤T)
 · rw[if_pos hf] at hstep;have hF:fullT all k s.x z=(lst all k-ip n (gt (nrm all k)) (gt s.x)) / ip n (gt z) (gt (nrm all k)):=by unfold fullT;rw[hsp,hvx]
   rw[hsp] at hf;obtain⟨t,ht⟩:∃ t,fullT all k s.x z=t:=⟨_,rfl⟩;rw[ht] at hstep hF hf;have hts:t*ip n (gt z) (gt (nrm all k))=lst all k-ip n (gt (nrm all k)) (gt s.x):=by rw[hF];exact divmul hf.1
   have ht0:0<t:=by
    refine Rat.not_le.1 fun hle=>?_;have:=mul_le_l hle hs0
    grind
   have hmv:=h.move hd t fun j hj=>by
    by_cases hr:0<gt rates j
    · cases o with
      | none=>have h1:gt rates j≤0:=hlim j (by rw[hd.lr,←h.lm];exact hj);exact absurd hr (by grind)
      | some q =>
       rcases hf.2 with h2 | h2
       · cases h2
       · have h3:=hlim.2.2.2 j (by rw[hd.lr,←h.lm];exact hj) hr;have h4:t≤gt s.mults j / gt rates j:=by grind
         have h5:=mul_le_l h4 (show (0:Rat)≤gt rates j by grind);rw[divmul hr] at h5
         grind
    · have h1:gt rates j≤0:=Rat.not_lt.1 hr;have h2:=h.nn j hj;have h3:=mul_le_r h1 (show (0:Rat)≤t by grind)
      grind
   refine .full _ _ hstep (fun k'=>hmv.enter hk hd (by grind) (by grind) ?_ k') ?_
   · rw[ip_move h.lx hd.lz,hts];grind
   · have h1:=DV_move h hd t
     have h2:DV n all tg (moveS s z lev rates t) k (m+t)=distV n tg (moveS s z lev rates t).x:=by
      unfold DV dualV distV;rw[ip_move h.lx hd.lz,hts];grind
     rw[←h2,h1,hts];have h3:=Rat.mul_pos ht0 (show (0:Rat)<lst all k-ip n (gt (nrm all k)) (gt s.x) by grind)
     grind
 · rw[if_neg hf] at hstep
   cases o with
   | none =>
    refine .none hstep fun u hu h1 h2=>?_;have hsp0:ip n (gt z) (gt (nrm all k))≤0:=by rw[←hsp];exact Rat.not_lt.1 fun hh=>hf ⟨hh,.inl rfl⟩
    have h3:=no_point (u:=gt u) (l:=lst all k) hd.zz hd.or hsp0 h.pt.eqs (fun _=>by
     rw[ip_congr (a':=fun _=>1) (b':=gt u) (fun i hi=>fn_ones n all s.active hi) (fun _ _=>rfl)];exact h1) (fun j hj0 hj=>by
      cases j with
      | zero=>omega
      | succ j=>rw[gt_cons1];exact hlim j (by rw[hd.lr];omega)) (fun j hj0 hj=>by
      cases j with
      | zero=>omega
      | succ j =>
       have hj2:j<s.active.length:=by omega
       rw[bv_act hj2,fn_act hj2];exact h2 _ (h.hA _ (List.getElem_mem hj2))) hx
    have h4:=h2 k hk
    grind
   | some q =>
    dsimp only at hstep;obtain⟨hq,hr,hT,hmin⟩:=hlim;have hqa:q<s.active.length:=by rw[←hd.lr];exact hq
    have hqm:q<s.mults.length:=by rw[h.lm];exact hqa
    have hTr:T*gt rates q=gt s.mults q:=by rw[hT];exact divmul hr
    have hT0:0≤T:=Rat.not_lt.1 fun hlt=>by
     have h1:=Rat.mul_pos hr (show (0:Rat) < -T by grind);have h2:=h.nn q hqm
     grind
    have hmv:=h.move hd T fun j hj=>by
     by_cases hr2:0<gt rates j
     · have h3:=hmin j (by rw[hd.lr,←h.lm];exact hj) hr2;have h5:=mul_le_l h3 (show (0:Rat)≤gt rates j by grind);rw[divmul hr2] at h5
       grind
     · have h1:gt rates j≤0:=Rat.not_lt.1 hr2;have h2:=h.nn j hj;have h3:=mul_le_r h1 hT0
       grind
    have hz:gt (moveS s z lev rates T).mults q=0:=by
     show gt (List.zipWith (fun a b=>a-T*b) s.mults rates) q=0
     rw[gt_zip hqm hq];grind
    obtain⟨hdr,hl⟩:=hmv.drop hqa hz
    have hTs:T*ip n (gt z) (gt (nrm all k))<lst all k-ip n (gt (nrm all k)) (gt s.x):=by
     by_cases hsp0:0<ip n (gt z) (gt (nrm all k))
     · have h1:T<fullT all k s.x z:=Rat.not_le.1 fun hle=>hf ⟨by rw[hsp];exact hsp0,.inr hle⟩;have hF:fullT all k s.x z*ip n (gt z) (gt (nrm all k))=lst all k-ip n (gt (nrm all k)) (gt s.x):=by unfold fullT;rw[hsp,hvx];exact divmul hsp0
       have h2:=Rat.mul_pos hsp0 (show (0:Rat)<fullT all k s.x z-T by grind)
       grind
     · have h1:ip n (gt z) (gt (nrm all k))=0:=by have:=Rat.not_lt.1 hsp0;grind
       rw[h1];grind
    refine .drop q z rates lev T hd hqa hr hT hstep hdr hl (by grind) ?_ ?_
    · show ip n (gt (nrm all k)) (gt (moveS s z lev rates T).x)<_
      rw[ip_move h.lx hd.lz];grind
    · show _≤DV n all tg (moveS s z lev rates T) k (m+T)
      rw[DV_move h hd T];have h3:=Rat.mul_nonneg hT0 (show (0:Rat)≤2*(lst all k-ip n (gt (nrm all k)) (gt s.x))-T*ip n (gt z) (gt (nrm all k)) by grind)
      grind
end
end Go.Proofs.Ytjhkapjadfpimaa
