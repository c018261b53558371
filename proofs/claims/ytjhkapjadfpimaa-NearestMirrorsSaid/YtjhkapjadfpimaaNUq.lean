/- Contracts of functions, for the law. -/
import Derived.Test.YtjhkapjadfpimaaNPaid
import Derived.Test.YtjhkapjadfpimaaMSmall
import Derived.Deep.RegionHeld3
import Derived.Deep.QuietTactic
import Derived.BigQuiet
import Derived.Test.YtjhkapjadfpimaaNBest
import Derived.Test.YtjhkapjadfpimaaNRPl
import Derived.Test.YtjhkapjadfpimaaNPj
namespace Go.Proofs.Ytjhkapjadfpimaa
set_option linter.unusedVariables false
set_option linter.unusedSimpArgs false
open Go.RowKit Plain
attribute [local go_sem ↓] Go.wp_at_zero Go.wp_at_succ
theorem wrap_two {k n:Nat}(hk:k<n) (h:n≤8):wrap64 (2*2 ^ k)=(2:Int) ^ (k+1):=by
 have h9:k=0∨k=1∨k=2∨k=3∨k=4∨k=5∨k=6∨k=7:=by omega
 rcases h9 with rfl | rfl | rfl | rfl | rfl | rfl | rfl | rfl <;> exact IntWalk.wrap64_in _ (by decide)
theorem sets_any {n:Nat}(hn:n≤8) (w:World):Calls Try.prog 36 #[.int .i64 (n:Int)] w fun e w'=>e=.returned (.int .i64 ((2:Int) ^ n))∧w'=w:=by
 go_enter Try.func36,Try.ntmps36;go_wp2
 go_loopw [3,4] (fun v i wr=>∃ k:Nat,k≤n∧v=.int .i64 ((2:Int) ^ k)∧i=.int .i64 (k:Int)∧wr=w) (fun _ i _=>n-(intOf i).toNat)
 case atStart=>exact⟨0,by omega,rfl,rfl,rfl⟩
 case round =>
  obtain⟨k,hk,rfl,rfl,rfl⟩:=hrel
  by_cases hkl:k<n
  · have hki:(k:Int)<(n:Int):=by omega
    have hw2:=Lib.hid (wrap_two hkl hn);go_wp2;go_roundw
    case rel=>exact⟨k+1,by omega,congrArg (Value.int .i64) hw2.out,by go_num,trivial⟩
    case measure=>simp[intOf];omega
  · obtain rfl:k=n:=by omega
    have hlt':decide ((k:Int)<(k:Int))=false:=decide_eq_false (by omega);go_wp2;go_ret;exact⟨rfl,rfl⟩
theorem half_at (p k:Nat):p / 2 ^ k / 2=p / 2 ^ (k+1):=by rw[Nat.div_div_eq_div_mul,Nat.pow_succ]
theorem bit_any {p n:Nat}(hp:p<256) (w:World) (hn:n≤8):Calls Try.prog 61 #[.int .i64 (p:Int),.int .i64 (n:Int)] w fun e w'=>e=.returned (.int .i64 (if bitP p n=true then 1 else 0))∧w'=w:=by
 obtain⟨r,hr⟩:∃ r:Int,Hid ((if bitP p n=true then (1:Int) else 0)=r):=⟨_,rfl⟩;rw[hr.out];go_enter Try.func61,Try.ntmps61;go_wp2
 go_loopw [0,5] (fun v i wr=>∃ k:Nat,k≤n∧v=.int .i64 ((p / 2 ^ k:Nat):Int)∧i=.int .i64 (k:Int)∧wr=w) (fun _ i _=>n-(intOf i).toNat)
 case atStart=>exact⟨0,by omega,by simp,rfl,rfl⟩
 case round =>
  obtain⟨k,hk,rfl,rfl,rfl⟩:=hrel;obtain⟨x,hx⟩:∃ x,Hid (p / 2 ^ k=x):=⟨_,rfl⟩;have hx2:x<256:=by rw[←hx.out];exact Nat.lt_of_le_of_lt (Nat.div_le_self _ _) hp
  rw[hx.out]
  by_cases hkl:k<n
  · have hki:(k:Int)<(n:Int):=by omega
    obtain⟨y,hy⟩:∃ y,Hid (x / 2=y):=⟨_,rfl⟩;have hy2:y<256:=by rw[←hy.out];omega
    have hyq:=Lib.hid (show p / 2 ^ (k+1)=y by rw[←half_at,hx.out,hy.out]);have hw2:IntKind.i64.wrap ((x:Int) / 2)=(y:Int):=by rw[show (x:Int) / 2=((x / 2:Nat):Int) by omega,hy.out];simp[IntKind.wrap,IntKind.bits,IntKind.signed];omega
    go_wp2;go_roundw
    case rel=>exact⟨k+1,by omega,by rw[hyq.out],by go_num,trivial⟩
    case measure=>simp[intOf];omega
  · obtain rfl:k=n:=by omega
    have hlt':decide ((k:Int)<(k:Int))=false:=decide_eq_false (by omega)
    have hb:=Lib.hid (show r=(x:Int) % 2 by
     rw[←hr.out];unfold bitP;rw[hx.out];have h2:x % 2=0∨x % 2=1:=by omega
     have h3:(x:Int) % 2=((x % 2:Nat):Int):=by omega
     rw[h3]
     rcases h2 with h2 | h2 <;> rw[h2] <;> rfl)
    have hm:(x:Int).tmod 2=((x % 2:Nat):Int):=by rw[Int.tmod_eq_emod_of_nonneg (by omega)];omega
    go_wp2;go_ret;exact⟨by rw[hb.out];rfl,rfl⟩
set_option maxRecDepth 100000 in
set_option maxHeartbeats 4000000 in
theorem fault_any {A B C:Option Addr}{ca cb cc tl:Nat}{ns:List NdD}{ms:List Int}{w:World}(ht:tl≤ca∧ca≤9223372036854775807) (hn:NL w B cb ns) (hm:ZL w C cc ms) :
 Calls Try.prog 14 #[.slice A tl ca,.slice B ns.length cb,.slice C ms.length cc] w (RetI (argsE tl ns ms) w):=by
 obtain⟨r,hr⟩:∃ r,Hid (argsE tl ns ms=r):=⟨_,rfl⟩;rw[hr.out];have ln:=hn.len;have lm:=hm.len;have bT:=Below.refl w.heap.size w
 by_cases h1:8<ms.length
 · have t1:decide ((8:Int)<(ms.length:Int))=true:=decide_eq_true (by omega);have hf:=Lib.hid (show r=3 by rw[←hr.out];unfold argsE;rw[if_pos (.inl h1)]);go_enter Try.func14,Try.ntmps14;go_wp2;go_ret;exact⟨by rw[hf.out];rfl,bT⟩
 have t1:decide ((8:Int)<(ms.length:Int))=false:=decide_eq_false (by omega)
 by_cases h2:300<ns.length
 · have t2:decide ((300:Int)<(ns.length:Int))=true:=decide_eq_true (by omega);have hf:=Lib.hid (show r=3 by rw[←hr.out];unfold argsE;rw[if_pos (.inr h2)]);go_enter Try.func14,Try.ntmps14;go_wp2;go_ret;exact⟨by rw[hf.out];rfl,bT⟩
 have t2:decide ((300:Int)<(ns.length:Int))=false:=decide_eq_false (by omega)
 by_cases h3:¬ tl=ms.length
 · have t3:((tl:Int) != (ms.length:Int))=true:=by rw[bne_iff_ne];omega
   have hf:=Lib.hid (show r=2 by rw[←hr.out];unfold argsE;rw[if_neg (by omega),if_pos h3]);go_enter Try.func14,Try.ntmps14;go_wp2;go_ret;exact⟨by rw[hf.out];rfl,bT⟩
 have h3':=Lib.hid (Decidable.not_not.1 h3);have t3:((tl:Int) != (ms.length:Int))=false:=by rw[bne_eq_false_iff_eq];have:=h3'.out;omega
 clear h3;have hm8:ms.length≤8:=by omega
 have hr2:=Lib.hid (show r=if ms.any badM=true∨ns.any (badN ms.length)=true then 4 else 0 by rw[←hr.out];unfold argsE;rw[if_neg (by omega),if_neg (by have:=h3'.out;omega)]);go_enter Try.func14,Try.ntmps14;go_wp2
 go_loopw [7] (fun i wr=>NoneInv badM ms w i wr) (fun i _=>ms.length-(intOf i).toNat)
 case atStart=>exact⟨0,by omega,rfl,rfl,bT⟩
 case round =>
  obtain⟨k,hk,rfl,hall,hb⟩:=hrel
  by_cases hkl:k<ms.length
  · have hki:(k:Int)<(ms.length:Int):=by omega
    obtain⟨a,z,rfl,hab,hc0,hzk⟩:=(hm.below hb).at hkl
    by_cases c1:z<0
    · have d1:decide (z<0)=true:=decide_eq_true c1;have hf:=Lib.hid (show r=4 by rw[hr2.out,if_pos (.inl (none_yes hzk.out (by unfold badM;rw[d1];rfl)))]);clear c1;go_wp2;go_ret;exact⟨by rw[hf.out];rfl,hb⟩
    have d1:decide (z<0)=false:=decide_eq_false c1
    by_cases c2:1000000<z
    · have d2:decide (1000000<z)=true:=decide_eq_true c2;have hf:=Lib.hid (show r=4 by rw[hr2.out,if_pos (.inl (none_yes hzk.out (by unfold badM;rw[d1,d2];rfl)))]);clear c1 c2;go_wp2;go_ret;exact⟨by rw[hf.out];rfl,hb⟩
    have d2:decide (1000000<z)=false:=decide_eq_false c2;have hall2:=Lib.hid (none_take hall.out hzk.out (by unfold badM;rw[d1,d2];rfl));clear c1 c2;go_wp2;go_roundw
    case rel=>exact⟨k+1,by omega,by go_num,hall2,hb⟩
    case measure=>simp[intOf];omega
  · obtain rfl:k=ms.length:=by omega
    have hlt':decide ((ms.length:Int)<(ms.length:Int))=false:=decide_eq_false (by omega);have hall':=Lib.hid (show ms.any badM=false by have:=hall.out;rwa [List.take_length] at this);obtain⟨wo,hwo⟩:∃ wo:World,wo=wr:=⟨_,rfl⟩;subst hwo;go_wp2
    go_loopw [8] (fun i wr=>NoneInv (badN ms.length) ns w i wr) (fun i _=>ns.length-(intOf i).toNat)
    case atStart=>exact⟨0,by omega,rfl,rfl,hb⟩
    case round =>
     obtain⟨k,hk,rfl,hall,hb⟩:=hrel
     by_cases hkl:k<ns.length
     · have hki:(k:Int)<(ns.length:Int):=by omega
       obtain⟨a,d,ea,hab,hc0,hc1,hdk⟩:=(hn.below hb).at hkl;rw[ea];have hb2:=hb;obtain⟨P,hP⟩:∃ P:Int,P=(2:Int) ^ ms.length:=⟨_,rfl⟩
       by_cases c1:d.p<0
       · have d1:decide (d.p<0)=true:=decide_eq_true c1;have hf:=Lib.hid (show r=4 by rw[hr2.out,if_pos (.inr (none_yes hdk.out (by unfold badN;rw[d1];rfl)))]);clear c1;go_wp2_with fail
         go_quiet ((go_at_call 36;refine Calls.quiet_of_same (sets_any hm8 _)))
         go_wp2;go_ret;exact⟨by rw[hf.out];rfl,Below.drewN hb2 _⟩
       have d1:decide (d.p<0)=false:=decide_eq_false c1
       by_cases c2:(2:Int) ^ ms.length≤d.p
       · have d2:decide ((2:Int) ^ ms.length≤d.p)=true:=decide_eq_true c2;have hf:=Lib.hid (show r=4 by rw[hr2.out,if_pos (.inr (none_yes hdk.out (by unfold badN;rw[d1,decide_eq_true c2];rfl)))]);clear c1 c2;go_wp2_with fail
         go_quiet ((go_at_call 36;refine Calls.quiet_of_same (sets_any hm8 _)))
         go_wp2;go_ret;exact⟨by rw[hf.out];rfl,Below.drewN hb2 _⟩
       have d2:decide ((2:Int) ^ ms.length≤d.p)=false:=decide_eq_false c2
       by_cases c3:d.l < -1099511627776
       · have d3:decide (d.l < -1099511627776)=true:=decide_eq_true c3;have hf:=Lib.hid (show r=4 by rw[hr2.out,if_pos (.inr (none_yes hdk.out (by unfold badN;rw[d1,decide_eq_false c2,d3];rfl)))]);clear c1 c2 c3;go_wp2_with fail
         go_quiet ((go_at_call 36;refine Calls.quiet_of_same (sets_any hm8 _)))
         go_wp2;go_ret;exact⟨by rw[hf.out];rfl,Below.drewN hb2 _⟩
       have d3:decide (d.l < -1099511627776)=false:=decide_eq_false c3
       by_cases c4:1099511627776<d.l
       · have d4:decide (1099511627776<d.l)=true:=decide_eq_true c4;have hf:=Lib.hid (show r=4 by rw[hr2.out,if_pos (.inr (none_yes hdk.out (by unfold badN;rw[d1,decide_eq_false c2,d3,d4];rfl)))]);clear c1 c2 c3 c4;go_wp2_with fail
         go_quiet ((go_at_call 36;refine Calls.quiet_of_same (sets_any hm8 _)))
         go_wp2;go_ret;exact⟨by rw[hf.out];rfl,Below.drewN hb2 _⟩
       have d4:decide (1099511627776<d.l)=false:=decide_eq_false c4;have hall2:=Lib.hid (none_take hall.out hdk.out (by unfold badN;rw[d1,decide_eq_false c2,d3,d4];rfl));clear c1 c2 c3 c4;go_wp2_with fail
       go_quiet ((go_at_call 36;refine Calls.quiet_of_same (sets_any hm8 _)))
       go_wp2;go_roundw
       case rel=>exact⟨k+1,by omega,by go_num,hall2,Below.drewN hb2 _⟩
       case measure=>simp[intOf];omega
     · obtain rfl:k=ns.length:=by omega
       have hlt2:decide ((ns.length:Int)<(ns.length:Int))=false:=decide_eq_false (by omega);have hf:=Lib.hid (show r=0 by rw[hr2.out,if_neg];rw[hall'.out];have:=hall.out;rw[List.take_length] at this;rw[this];simp);go_wp2;go_ret;exact⟨by rw[hf.out];rfl,hb⟩
end Go.Proofs.Ytjhkapjadfpimaa
namespace Go.Proofs.Ytjhkapjadfpimaa
set_option linter.unusedVariables false
set_option linter.unusedSimpArgs false
open Go.RowKit Plain
theorem spread_fitsK {K n:Nat}{ps:List (Nat × Rat)}(h:∀ p∈ps,Fits K p.2):∀ j,j≤ps.length→QFits (1+j*(K+1)) (spread n (ps.take j)):=by
 intro j
 induction j with
 | zero =>
  intro _ q hq
  have:q=0:=by
   have h1:spread n (ps.take 0)=List.replicate n 0:=rfl;rw[h1] at hq;exact (List.mem_replicate.1 hq).2
  subst this;exact Fits.zero (by omega)
 | succ j ih =>
  intro hj;rw[spread_step (List.getElem?_eq_getElem (show j<ps.length by omega))];have h1:=addAt_fits (p:=ps[j]) (by omega) (ih (by omega)) (h _ (List.getElem_mem _));have e:1+(j+1)*(K+1)=1+j*(K+1)+K+1:=by rw[Nat.succ_mul];omega
  rw[e];exact h1
theorem qfits_gt {K:Nat}{l:List Rat}(h:∀ i,i<l.length→Fits K (gt l i)):QFits K l:=fun q hq=>by
 obtain⟨i,hi,rfl⟩:=List.getElem_of_mem hq;have h1:=h i hi;unfold gt at h1
 rwa [getD_of 0 hi] at h1
section
variable {ns:List NdD}{ms:List Int}{tg:List Rat}{sum:Rat}{t:St}
theorem Best.small (h:Best ms.length (allS ns ms) tg sum t) (hc:ConI ms.length (allS ns ms)) (hn:ms.length≤8) (ht:QFits 2 tg) (hs:Fits 2 sum) (h0:0<ms.length):QFits 5594780 t.x∧Fits 699345 t.level∧QFits 699345 t.mults:=by
 obtain⟨k1,k2⟩:=pt_fits hc h.hA hn ht hs (h.li h0) h.pt;refine⟨qfits_gt fun i hi=>k2 i (by rw[←h.lx];exact hi),k1 0 (by omega),qfits_gt fun i hi=>?_⟩;have h1:=k1 (i+1) (by rw[h.lm] at hi;omega)
 rwa [gt_cons1] at h1
theorem Best.spK {K:Nat}(h:Best ms.length (allS ns ms) tg sum t) (hn:ms.length≤8) (hm:QFits K t.mults):QFits (1+7*(K+1)) (sprd ns ms t):=by
 have h1:=spread_fitsK (n:=(allS ns ms).length) (ps:=t.active.zip t.mults) (K:=K) (fun p hp=>hm _ (List.of_mem_zip hp).2) _ (Nat.le_refl _);rw[List.take_length,h.zipL] at h1;have h2:=Nat.mul_le_mul_right (K+1) (h.act hn);exact h1.mono (by omega)
theorem Best.payF (h:Best ms.length (allS ns ms) tg sum t) (hc:ConI ms.length (allS ns ms)) (hn:ms.length≤8) (ht:QFits 2 tg) (hs:Fits 2 sum):QFits 6000000 t.x:=by
 rcases Nat.eq_zero_or_pos ms.length with h0 | h0
 · have e:t.x=[]:=List.eq_nil_of_length_eq_zero (by rw[h.lx,h0]);rw[e];intro q hq;simp at hq
 · exact (h.small hc hn ht hs h0).1.mono (by decide)
theorem Best.ptF {y:PtD}(h:Best ms.length (allS ns ms) tg sum t) (hc:ConI ms.length (allS ns ms)) (hn:ms.length≤8) (ht:QFits 2 tg) (hs:Fits 2 sum) (q1:y.pay.qs=t.x) (q2:y.mults.qs=(sprd ns ms t).take ns.length) (q3:y.low.qs=((sprd ns ms t).drop ns.length).take ms.length) (q4:y.high.qs=(sprd ns ms t).drop (ns.length+ms.length)) (q5:y.lev.q=t.level) :
 PtF 100000000 y∧(0<ms.length→PtF 6000000 y):=by
 have part:∀ K,QFits K (sprd ns ms t)→QFits K y.mults.qs∧QFits K y.low.qs∧QFits K y.high.qs:=fun K hK=>by
  rw[q2,q3,q4];exact⟨fun q hq=>hK q (List.mem_of_mem_take hq),fun q hq=>hK q (List.mem_of_mem_drop (List.mem_of_mem_take hq)),fun q hq=>hK q (List.mem_of_mem_drop hq)⟩
 constructor
 · obtain⟨p1,p2,p3⟩:=part _ ((h.spK hn h.fit.2.2).mono (show 1+7*(KN+1)≤100000000 by decide));exact⟨by rw[q1];exact h.fit.1.mono (by decide),p1,p2,p3,by rw[q5];exact h.fit.2.1.mono (by decide)⟩
 · intro h0;obtain⟨k1,k2,k3⟩:=h.small hc hn ht hs h0;obtain⟨p1,p2,p3⟩:=part _ ((h.spK hn k3).mono (show 1+7*(699345+1)≤6000000 by decide));exact⟨by rw[q1];exact k1.mono (by decide),p1,p2,p3,by rw[q5];exact k2.mono (by decide)⟩
theorem Best.checks {y:PtD}(h:Best ms.length (allS ns ms) tg sum t) (hE:argsE tg.length ns ms=0) (q1:y.pay.qs=t.x) (q2:y.mults.qs=(sprd ns ms t).take ns.length) (q3:y.low.qs=((sprd ns ms t).drop ns.length).take ms.length) (q4:y.high.qs=(sprd ns ms t).drop (ns.length+ms.length)) (q5:y.lev.q=t.level) :
 checkS tg ns ms sum y.pay.qs y.mults.qs y.low.qs y.high.qs y.lev.q=0:=by
 unfold checkS;rw[if_neg (by rw[hE];simp),q1,q2,q3,q4,q5,if_pos (h.cert (argsE_ok hE).1)]
end
theorem dsq_dist {n:Nat}{a b:List Rat}(ha:a.length=n) (hb:b.length=n):sumR (dsq a b)=distV n a b:=by
 rw[sumR_sm,dsq_len,ha,hb,Nat.max_self];unfold distV ip;refine sm_congr fun i hi=>?_;have e:=dsq_get (a:=a) (b:=b) (k:=i) (by omega);unfold gt;rw[List.getD_eq_getElem?_getD (l:=dsq a b),e]
 show (_-_)*(_-_)=_
 grind
section
variable {ns:List NdD}{ms:List Int}{tg u:List Rat}{sum:Rat}{t:St}
theorem Best.far (h:Best ms.length (allS ns ms) tg sum t) (ht:tg.length=ms.length) (hu:Poss ms.length (allS ns ms) sum u):cmpR (sumR (dsq tg t.x)) (sumR (dsq tg u))=-1∨(cmpR (sumR (dsq tg t.x)) (sumR (dsq tg u))=0∧u=t.x):=by
 rw[dsq_dist ht h.lx,dsq_dist ht hu.len];have h1:=h.nearest hu;have h2:0≤distV ms.length t.x u:=ip_self _ _;have hb:=cmpR_bd (distV ms.length tg t.x) (distV ms.length tg u)
 by_cases e:distV ms.length tg t.x=distV ms.length tg u
 · exact .inr ⟨cmpR_zero.2 e,h.only hu (by rw[e];exact Rat.le_refl)⟩
 · have h3:distV ms.length tg t.x<distV ms.length tg u:=by grind
   have h4:=cmpR_neg.2 h3;exact .inl (by omega)
end
end Go.Proofs.Ytjhkapjadfpimaa
