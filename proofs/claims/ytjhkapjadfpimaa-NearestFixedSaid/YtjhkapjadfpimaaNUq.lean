/- Contracts of functions, for the law. -/
import Derived.Test.YtjhkapjadfpimaaNBest
import Derived.Test.YtjhkapjadfpimaaNRPl
import Derived.Test.YtjhkapjadfpimaaNPj
namespace Go.Proofs.Ytjhkapjadfpimaa
set_option linter.unusedVariables false
set_option linter.unusedSimpArgs false
open Go.RowKit Plain
theorem spread_fitsK {K n:Nat}{ps:List (Nat × Rat)}(h:∀ p∈ps,Fits K p.2):∀ j,j≤ps.length→QFits (1+j*(K+1)) (spread n (ps.take j)):=by
 intro j
 induction j with
 | zero =>
  intro _ q hq
  have:q=0:=by
   have h1:spread n (ps.take 0)=List.replicate n 0:=rfl;rw[h1] at hq;exact (List.mem_replicate.1 hq).2
  subst this;exact Fits.zero (by omega)
 | succ j ih =>
  intro hj;rw[spread_step (List.getElem?_eq_getElem (show j<ps.length by omega))];have h1:=addAt_fits (p:=ps[j]) (by omega) (ih (by omega)) (h _ (List.getElem_mem _));have e:1+(j+1)*(K+1)=1+j*(K+1)+K+1:=by rw[Nat.succ_mul];omega
  rw[e];exact h1
theorem qfits_gt {K:Nat}{l:List Rat}(h:∀ i,i<l.length→Fits K (gt l i)):QFits K l:=fun q hq=>by
 obtain⟨i,hi,rfl⟩:=List.getElem_of_mem hq;have h1:=h i hi;unfold gt at h1
 rwa [getD_of 0 hi] at h1
section
variable {ns:List NdD}{ms:List Int}{tg:List Rat}{sum:Rat}{t:St}
theorem Best.small (h:Best ms.length (allS ns ms) tg sum t) (hc:ConI ms.length (allS ns ms)) (hn:ms.length≤8) (ht:QFits 2 tg) (hs:Fits 2 sum) (h0:0<ms.length):QFits 5594780 t.x∧Fits 699345 t.level∧QFits 699345 t.mults:=by
 obtain⟨k1,k2⟩:=pt_fits hc h.hA hn ht hs (h.li h0) h.pt;refine⟨qfits_gt fun i hi=>k2 i (by rw[←h.lx];exact hi),k1 0 (by omega),qfits_gt fun i hi=>?_⟩;have h1:=k1 (i+1) (by rw[h.lm] at hi;omega)
 rwa [gt_cons1] at h1
theorem Best.spK {K:Nat}(h:Best ms.length (allS ns ms) tg sum t) (hn:ms.length≤8) (hm:QFits K t.mults):QFits (1+7*(K+1)) (sprd ns ms t):=by
 have h1:=spread_fitsK (n:=(allS ns ms).length) (ps:=t.active.zip t.mults) (K:=K) (fun p hp=>hm _ (List.of_mem_zip hp).2) _ (Nat.le_refl _);rw[List.take_length,h.zipL] at h1;have h2:=Nat.mul_le_mul_right (K+1) (h.act hn);exact h1.mono (by omega)
theorem Best.payF (h:Best ms.length (allS ns ms) tg sum t) (hc:ConI ms.length (allS ns ms)) (hn:ms.length≤8) (ht:QFits 2 tg) (hs:Fits 2 sum):QFits 6000000 t.x:=by
 rcases Nat.eq_zero_or_pos ms.length with h0 | h0
 · have e:t.x=[]:=List.eq_nil_of_length_eq_zero (by rw[h.lx,h0]);rw[e];intro q hq;simp at hq
 · exact (h.small hc hn ht hs h0).1.mono (by decide)
theorem Best.ptF {y:PtD}(h:Best ms.length (allS ns ms) tg sum t) (hc:ConI ms.length (allS ns ms)) (hn:ms.length≤8) (ht:QFits 2 tg) (hs:Fits 2 sum) (q1:y.pay.qs=t.x) (q2:y.mults.qs=(sprd ns ms t).take ns.length) (q3:y.low.qs=((sprd ns ms t).drop ns.length).take ms.length) (q4:y.high.qs=(sprd ns ms t).drop (ns.length+ms.length)) (q5:y.lev.q=t.level) :
 PtF 100000000 y∧(0<ms.length→PtF 6000000 y):=by
 have part:∀ K,QFits K (sprd ns ms t)→QFits K y.mults.qs∧QFits K y.low.qs∧QFits K y.high.qs:=fun K hK=>by
  rw[q2,q3,q4];exact⟨fun q hq=>hK q (List.mem_of_mem_take hq),fun q hq=>hK q (List.mem_of_mem_drop (List.mem_of_mem_take hq)),fun q hq=>hK q (List.mem_of_mem_drop hq)⟩
 constructor
 · obtain⟨p1,p2,p3⟩:=part _ ((h.spK hn h.fit.2.2).mono (show 1+7*(KN+1)≤100000000 by decide));exact⟨by rw[q1];exact h.fit.1.mono (by decide),p1,p2,p3,by rw[q5];exact h.fit.2.1.mono (by decide)⟩
 · intro h0;obtain⟨k1,k2,k3⟩:=h.small hc hn ht hs h0;obtain⟨p1,p2,p3⟩:=part _ ((h.spK hn k3).mono (show 1+7*(699345+1)≤6000000 by decide));exact⟨by rw[q1];exact k1.mono (by decide),p1,p2,p3,by rw[q5];exact k2.mono (by decide)⟩
theorem Best.checks {y:PtD}(h:Best ms.length (allS ns ms) tg sum t) (hE:argsE tg.length ns ms=0) (q1:y.pay.qs=t.x) (q2:y.mults.qs=(sprd ns ms t).take ns.length) (q3:y.low.qs=((sprd ns ms t).drop ns.length).take ms.length) (q4:y.high.qs=(sprd ns ms t).drop (ns.length+ms.length)) (q5:y.lev.q=t.level) :
 checkS tg ns ms sum y.pay.qs y.mults.qs y.low.qs y.high.qs y.lev.q=0:=by
 unfold checkS;rw[if_neg (by rw[hE];simp),q1,q2,q3,q4,q5,if_pos (h.cert (argsE_ok hE).1)]
end
theorem dsq_dist {n:Nat}{a b:List Rat}(ha:a.length=n) (hb:b.length=n):sumR (dsq a b)=distV n a b:=by
 rw[sumR_sm,dsq_len,ha,hb,Nat.max_self];unfold distV ip;refine sm_congr fun i hi=>?_;have e:=dsq_get (a:=a) (b:=b) (k:=i) (by omega);unfold gt;rw[List.getD_eq_getElem?_getD (l:=dsq a b),e]
 show (_-_)*(_-_)=_
 grind
section
variable {ns:List NdD}{ms:List Int}{tg u:List Rat}{sum:Rat}{t:St}
theorem Best.far (h:Best ms.length (allS ns ms) tg sum t) (ht:tg.length=ms.length) (hu:Poss ms.length (allS ns ms) sum u):cmpR (sumR (dsq tg t.x)) (sumR (dsq tg u))=-1∨(cmpR (sumR (dsq tg t.x)) (sumR (dsq tg u))=0∧u=t.x):=by
 rw[dsq_dist ht h.lx,dsq_dist ht hu.len];have h1:=h.nearest hu;have h2:0≤distV ms.length t.x u:=ip_self _ _;have hb:=cmpR_bd (distV ms.length tg t.x) (distV ms.length tg u)
 by_cases e:distV ms.length tg t.x=distV ms.length tg u
 · exact .inr ⟨cmpR_zero.2 e,h.only hu (by rw[e];exact Rat.le_refl)⟩
 · have h3:distV ms.length tg t.x<distV ms.length tg u:=by grind
   have h4:=cmpR_neg.2 h3;exact .inl (by omega)
end
end Go.Proofs.Ytjhkapjadfpimaa
