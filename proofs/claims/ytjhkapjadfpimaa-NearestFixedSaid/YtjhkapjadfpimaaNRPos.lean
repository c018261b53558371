/- Contracts of functions, for the law. -/
import Derived.Test.YtjhkapjadfpimaaNPaid
import Derived.Test.YtjhkapjadfpimaaNRLim
import Derived.Deep.QuietTactic
import Derived.BigQuiet
import Derived.Deep.RegionHeld3
import Derived.Test.YtjhkapjadfpimaaFMul
import Derived.Test.YtjhkapjadfpimaaMSmall
import Derived.Test.YtjhkapjadfpimaaWTrim
import Derived.Test.YtjhkapjadfpimaaNCheck
import Derived.Test.YtjhkapjadfpimaaNPt
import Derived.Deep.DeepCutAuto
namespace Go.Proofs.Ytjhkapjadfpimaa
set_option linter.unusedVariables false
set_option linter.unusedSimpArgs false
open Go.RowKit Plain
attribute [local go_sem ↓] Go.wp_at_zero Go.wp_at_succ
set_option maxRecDepth 100000 in
set_option maxHeartbeats 4000000 in
theorem fault_any {A B C:Option Addr}{ca cb cc tl:Nat}{ns:List NdD}{ms:List Int}{w:World}(ht:tl≤ca∧ca≤9223372036854775807) (hn:NL w B cb ns) (hm:ZL w C cc ms) :
 Calls Try.prog 14 #[.slice A tl ca,.slice B ns.length cb,.slice C ms.length cc] w (RetI (argsE tl ns ms) w):=by
 obtain⟨r,hr⟩:∃ r,Hid (argsE tl ns ms=r):=⟨_,rfl⟩;rw[hr.out];have ln:=hn.len;have lm:=hm.len;have bT:=Below.refl w.heap.size w
 by_cases h1:8<ms.length
 · have t1:decide ((8:Int)<(ms.length:Int))=true:=decide_eq_true (by omega);have hf:=Lib.hid (show r=3 by rw[←hr.out];unfold argsE;rw[if_pos (.inl h1)]);go_enter Try.func14,Try.ntmps14;go_wp2;go_ret;exact⟨by rw[hf.out];rfl,bT⟩
 have t1:decide ((8:Int)<(ms.length:Int))=false:=decide_eq_false (by omega)
 by_cases h2:300<ns.length
 · have t2:decide ((300:Int)<(ns.length:Int))=true:=decide_eq_true (by omega);have hf:=Lib.hid (show r=3 by rw[←hr.out];unfold argsE;rw[if_pos (.inr h2)]);go_enter Try.func14,Try.ntmps14;go_wp2;go_ret;exact⟨by rw[hf.out];rfl,bT⟩
 have t2:decide ((300:Int)<(ns.length:Int))=false:=decide_eq_false (by omega)
 by_cases h3:¬ tl=ms.length
 · have t3:((tl:Int) != (ms.length:Int))=true:=by rw[bne_iff_ne];omega
   have hf:=Lib.hid (show r=2 by rw[←hr.out];unfold argsE;rw[if_neg (by omega),if_pos h3]);go_enter Try.func14,Try.ntmps14;go_wp2;go_ret;exact⟨by rw[hf.out];rfl,bT⟩
 have h3':=Lib.hid (Decidable.not_not.1 h3);have t3:((tl:Int) != (ms.length:Int))=false:=by rw[bne_eq_false_iff_eq];have:=h3'.out;omega
 clear h3;have hm8:ms.length≤8:=by omega
 have hr2:=Lib.hid (show r=if ms.any badM=true∨ns.any (badN ms.length)=true then 4 else 0 by rw[←hr.out];unfold argsE;rw[if_neg (by omega),if_neg (by have:=h3'.out;omega)]);go_enter Try.func14,Try.ntmps14;go_wp2
 go_loopw [7] (fun i wr=>NoneInv badM ms w i wr) (fun i _=>ms.length-(intOf i).toNat)
 case atStart=>exact⟨0,by omega,rfl,rfl,bT⟩
 case round =>
  obtain⟨k,hk,rfl,hall,hb⟩:=hrel
  by_cases hkl:k<ms.length
  · have hki:(k:Int)<(ms.length:Int):=by omega
    obtain⟨a,z,rfl,hab,hc0,hzk⟩:=(hm.below hb).at hkl
    by_cases c1:z<0
    · have d1:decide (z<0)=true:=decide_eq_true c1;have hf:=Lib.hid (show r=4 by rw[hr2.out,if_pos (.inl (none_yes hzk.out (by unfold badM;rw[d1];rfl)))]);clear c1;go_wp2;go_ret;exact⟨by rw[hf.out];rfl,hb⟩
    have d1:decide (z<0)=false:=decide_eq_false c1
    by_cases c2:1000000<z
    · have d2:decide (1000000<z)=true:=decide_eq_true c2;have hf:=Lib.hid (show r=4 by rw[hr2.out,if_pos (.inl (none_yes hzk.out (by unfold badM;rw[d1,d2];rfl)))]);clear c1 c2;go_wp2;go_ret;exact⟨by rw[hf.out];rfl,hb⟩
    have d2:decide (1000000<z)=false:=decide_eq_false c2;have hall2:=Lib.hid (none_take hall.out hzk.out (by unfold badM;rw[d1,d2];rfl));clear c1 c2;go_wp2;go_roundw
    case rel=>exact⟨k+1,by omega,by go_num,hall2,hb⟩
    case measure=>simp[intOf];omega
  · obtain rfl:k=ms.length:=by omega
    have hlt':decide ((ms.length:Int)<(ms.length:Int))=false:=decide_eq_false (by omega);have hall':=Lib.hid (show ms.any badM=false by have:=hall.out;rwa [List.take_length] at this);obtain⟨wo,hwo⟩:∃ wo:World,wo=wr:=⟨_,rfl⟩;subst hwo;go_wp2
    go_loopw [8] (fun i wr=>NoneInv (badN ms.length) ns w i wr) (fun i _=>ns.length-(intOf i).toNat)
    case atStart=>exact⟨0,by omega,rfl,rfl,hb⟩
    case round =>
     obtain⟨k,hk,rfl,hall,hb⟩:=hrel
     by_cases hkl:k<ns.length
     · have hki:(k:Int)<(ns.length:Int):=by omega
       obtain⟨a,d,ea,hab,hc0,hc1,hdk⟩:=(hn.below hb).at hkl;rw[ea];have hb2:=hb;obtain⟨P,hP⟩:∃ P:Int,P=(2:Int) ^ ms.length:=⟨_,rfl⟩
       by_cases c1:d.p<0
       · have d1:decide (d.p<0)=true:=decide_eq_true c1;have hf:=Lib.hid (show r=4 by rw[hr2.out,if_pos (.inr (none_yes hdk.out (by unfold badN;rw[d1];rfl)))]);clear c1;go_wp2_with fail
         go_quiet ((go_at_call 36;refine Calls.quiet_of_same (sets_any hm8 _)))
         go_wp2;go_ret;exact⟨by rw[hf.out];rfl,Below.drewN hb2 _⟩
       have d1:decide (d.p<0)=false:=decide_eq_false c1
       by_cases c2:(2:Int) ^ ms.length≤d.p
       · have d2:decide ((2:Int) ^ ms.length≤d.p)=true:=decide_eq_true c2;have hf:=Lib.hid (show r=4 by rw[hr2.out,if_pos (.inr (none_yes hdk.out (by unfold badN;rw[d1,decide_eq_true c2];rfl)))]);clear c1 c2;go_wp2_with fail
         go_quiet ((go_at_call 36;refine Calls.quiet_of_same (sets_any hm8 _)))
         go_wp2;go_ret;exact⟨by rw[hf.out];rfl,Below.drewN hb2 _⟩
       have d2:decide ((2:Int) ^ ms.length≤d.p)=false:=decide_eq_false c2
       by_cases c3:d.l < -1099511627776
       · have d3:decide (d.l < -1099511627776)=true:=decide_eq_true c3;have hf:=Lib.hid (show r=4 by rw[hr2.out,if_pos (.inr (none_yes hdk.out (by unfold badN;rw[d1,decide_eq_false c2,d3];rfl)))]);clear c1 c2 c3;go_wp2_with fail
         go_quiet ((go_at_call 36;refine Calls.quiet_of_same (sets_any hm8 _)))
         go_wp2;go_ret;exact⟨by rw[hf.out];rfl,Below.drewN hb2 _⟩
       have d3:decide (d.l < -1099511627776)=false:=decide_eq_false c3
       by_cases c4:1099511627776<d.l
       · have d4:decide (1099511627776<d.l)=true:=decide_eq_true c4;have hf:=Lib.hid (show r=4 by rw[hr2.out,if_pos (.inr (none_yes hdk.out (by unfold badN;rw[d1,decide_eq_false c2,d3,d4];rfl)))]);clear c1 c2 c3 c4;go_wp2_with fail
         go_quiet ((go_at_call 36;refine Calls.quiet_of_same (sets_any hm8 _)))
         go_wp2;go_ret;exact⟨by rw[hf.out];rfl,Below.drewN hb2 _⟩
       have d4:decide (1099511627776<d.l)=false:=decide_eq_false c4;have hall2:=Lib.hid (none_take hall.out hdk.out (by unfold badN;rw[d1,decide_eq_false c2,d3,d4];rfl));clear c1 c2 c3 c4;go_wp2_with fail
       go_quiet ((go_at_call 36;refine Calls.quiet_of_same (sets_any hm8 _)))
       go_wp2;go_roundw
       case rel=>exact⟨k+1,by omega,by go_num,hall2,Below.drewN hb2 _⟩
       case measure=>simp[intOf];omega
     · obtain rfl:k=ns.length:=by omega
       have hlt2:decide ((ns.length:Int)<(ns.length:Int))=false:=decide_eq_false (by omega);have hf:=Lib.hid (show r=0 by rw[hr2.out,if_neg];rw[hall'.out];have:=hall.out;rw[List.take_length] at this;rw[this];simp);go_wp2;go_ret;exact⟨by rw[hf.out];rfl,hb⟩
set_option maxRecDepth 100000 in
set_option maxHeartbeats 4000000 in
theorem refSubF_any {v u:Value}{p q:Rat}{j k:Nat}{w:World}(hv:FV w v p) (hu:FV w u q) (hj:Fits j p) (hk:Fits k q) (hJ:j+k<400000000) :
 Calls Try.prog 40 #[v,u] w (RetQ (p-q) w):=by
 have hv0:=hv;have hu0:=hu;obtain⟨n1,A,ca,la,B,cb,lb,rfl,na,nb,iq⟩:=hv;obtain⟨n2,C,cc,lc,D,cd,ld,rfl,nc,nd,ir⟩:=hu;clear na nb iq nc nd ir;rw[Rat.sub_eq_add_neg];obtain⟨w0,hw0,bw0,hlt0,hB0⟩:=boxed w #[.bool n1,.slice A la.length ca,.slice B lb.length cb] 28;obtain⟨w1,hw1,bw1,hlt1,hB1⟩:=boxed w0 #[.bool n2,.slice C lc.length cc,.slice D ld.length cd] 28;obtain⟨w2,hw2,bw2,hlt2,hB2⟩:=boxed w1 #[.bool false,.slice none 0 0,.slice none 0 0] 28;have hA2:=(hB0.keep bw1).keep bw2;have hC2:=hB1.keep bw2;have b01:=bw0.trans (bw1.mono (Nat.le_of_lt hlt0));have b02:=b01.trans (bw2.mono b01.size);have hv1:=hv0.below b02;have hu1:=hu0.below b02;have x0:=hA2.f0;have x1:=hA2.f1;have x2:=hA2.f2;have y0:=hC2.f0;have y1:=hC2.f1;have y2:=hC2.f2;have h3f:Blk3 w2 w1.heap.size 28:=hB2.b3;have hrf:Only w2 w2 w1.heap.size:=Only.refl _ _;have hl1:w.heap.size<w1.heap.size:=by omega
 have hS:∀ w',Only w2 w' w1.heap.size→w'.cell? ⟨w.heap.size,0,none⟩=some (.bool n1)∧w'.cell? ⟨w.heap.size,1,none⟩=some (.slice A la.length ca)∧w'.cell? ⟨w.heap.size,2,none⟩=some (.slice B lb.length cb)∧w'.cell? ⟨w0.heap.size,0,none⟩=some (.bool n2)∧w'.cell? ⟨w0.heap.size,1,none⟩=some (.slice C lc.length cc)∧w'.cell? ⟨w0.heap.size,2,none⟩=some (.slice D ld.length cd):=fun w' o =>
  have p:=hA2.only o (Nat.ne_of_lt hl1);have q:=hC2.only o (Nat.ne_of_lt hlt1);⟨p.f0,p.f1,p.f2,q.f0,q.f1,q.f2⟩
 obtain⟨d0,d1,d2,d3,d4,d5⟩:=hS _ hrf.drew;have d6:=hrf.drew;have d7:=h3f.drew;clear hv0 hu0;go_enter Try.func40,Try.ntmps40;go_wp2_with fail
 go_region_held3 (fun w'=>w'.cell? ⟨w.heap.size,0,none⟩=some (.bool n1)∧w'.cell? ⟨w.heap.size,1,none⟩=some (.slice A la.length ca)∧w'.cell? ⟨w.heap.size,2,none⟩=some (.slice B lb.length cb)∧w'.cell? ⟨w0.heap.size,0,none⟩=some (.bool n2)∧w'.cell? ⟨w0.heap.size,1,none⟩=some (.slice C lc.length cc)∧w'.cell? ⟨w0.heap.size,2,none⟩=some (.slice D ld.length cd)∧Only w2 w' w1.heap.size∧Blk3 w' w1.heap.size 28) (((try go_split_ands);(try dsimp only);(repeat' with_reducible apply And.intro) <;> with_reducible assumption)) (first
  | (go_at_call 62;go_split_ands;(with_reducible refine (refNeg_any (hu1.only_blk hB2 (noDig3 _ _ _ _ _ _ _) (by assumption))).mono ?_);rintro e w3 ⟨v3,rfl,hv3,b3⟩;have q4:=Blk3.keep (by assumption) b3;have b4:=(show Only w2 _ w1.heap.size by assumption).trans (Only.of_below b3 _);obtain⟨f0,f1,f2,f3,f4,f5⟩:=hS _ b4)
  | (go_at_call 43;go_split_ands;(with_reducible refine (refAddF_any (hv1.only_blk hB2 (noDig3 _ _ _ _ _ _ _) (by assumption)) hv3 hj hk.neg hJ).mono ?_);rintro e w7 ⟨v,rfl,⟨m0,A1,c1,l1,B1,d1,m1,rfl,ma,mb,hQ⟩,b7⟩;have b8:=(show Only w2 _ w1.heap.size by assumption).trans (Only.of_below b7 _);obtain⟨k0,k1,k2,k3,k4,k5⟩:=hS _ b8;have q8:=Blk3.keep (t:=28) (by assumption) b7;have q9:=q8.set m0 A1 l1.length c1 B1 m1.length d1;obtain⟨qa,qb,qc,qd,qe,qf,qg,hB3⟩:=id q8;have b9:=((b8.set 0 (.bool m0)).set 1 (.slice A1 l1.length c1)).set 2 (.slice B1 m1.length d1);obtain⟨j0,j1,j2,j3,j4,j5⟩:=hS _ b9;have u0:=hB3.f0;have u1:=hB3.f1;have u2:=hB3.f2;have t0:=hB3.free 0;have t1:=hB3.free 1;have t2:=hB3.free 2))
 clear j0 j1 j2 j3 j4 j5 q9;go_wp2;obtain⟨w9,hw9,hB9,o9⟩:=hB3.set3 (.bool m0) (.slice A1 l1.length c1) (.slice B1 m1.length d1);rw[hw9];have e0:=hB9.f0;have e1:=hB9.f1;have e2:=hB9.f2;refine bodyPost_ret (v:=fracV m0 A1 l1.length c1 B1 m1.length d1) (by simp[results,Try.results40,go_sem,e0,e1,e2]) rfl ?_;have m1':=ma.only_blk hB3 (noDig3 _ _ _ _ _ _ _) o9;have m2':=mb.only_blk hB3 (noDig3 _ _ _ _ _ _ _) o9;have bT:=(b8.trans o9).to_below b02 b01.size b02.size;exact⟨_,rfl,⟨m0,A1,c1,l1,B1,d1,m1,rfl,m1',m2',hQ⟩,bT⟩
set_option maxRecDepth 100000 in
set_option maxHeartbeats 1000000 in
theorem refSign_any {v:Value}{q:Rat}{w:World}(hv:FV w v q) :
 Calls Try.prog 22 #[v] w (RetI (cmpR q 0) w):=by
 obtain⟨neg,A,ca,la,B,cb,lb,rfl,na,nb,iq⟩:=hv;have hbg:=na.big;have hc:=q_sign iq;have hsg:=Lib.hid (QIs.sign iq);clear iq;obtain⟨w0,hw0,bw0,hlt0,hB0⟩:=boxed w #[.bool neg,.slice A la.length ca,.slice B lb.length cb] 28;have x0:=hB0.f0;have x1:=hB0.f1;have x2:=hB0.f2;rw[hc]
 rcases la with _ | ⟨a,la⟩
 · rw[if_pos rfl];obtain rfl:neg=false:=by cases neg with | false=>rfl | true=>exact absurd ⟨rfl,rfl⟩ hsg.out
   go_enter Try.func22,Try.ntmps22;go_wp2;go_ret;exact⟨rfl,by first | exact bw0 | (subst hw0;exact bw0)⟩
 · have hlen:((((a::la).length:Nat):Int) == 0)=false:=by rw[beq_eq_false_iff_ne,List.length_cons];omega
   rw[if_neg (by simp)]
   generalize (a::la).length=n at *
   rcases neg with _ | _
   · go_enter Try.func22,Try.ntmps22;go_wp2;go_ret;exact⟨rfl,bw0⟩
   · go_enter Try.func22,Try.ntmps22;go_wp2;go_ret;exact⟨rfl,bw0⟩
set_option maxRecDepth 100000 in
set_option maxHeartbeats 1000000 in
theorem refCmpF_any {v u:Value}{p q:Rat}{j k:Nat}{w:World}(hv:FV w v p) (hu:FV w u q) (hj:Fits j p) (hk:Fits k q) (hJ:j+k<400000000) :
 Calls Try.prog 17 #[v,u] w (RetI (cmpR p q) w):=by
 have hv0:=hv;have hu0:=hu;obtain⟨n1,A,ca,la,B,cb,lb,rfl,na,nb,iq⟩:=hv;obtain⟨n2,C,cc,lc,D,cd,ld,rfl,nc,nd,ir⟩:=hu;clear na nb iq nc nd ir;rw[←cmpR_sub];obtain⟨c,hc⟩:∃ c,Hid (cmpR (p-q) 0=c):=⟨_,rfl⟩;rw[hc.out];obtain⟨w0,hw0,bw0,hlt0,hB0⟩:=boxed w #[.bool n1,.slice A la.length ca,.slice B lb.length cb] 28;obtain⟨w1,hw1,bw1,hlt1,hB1⟩:=boxed w0 #[.bool n2,.slice C lc.length cc,.slice D ld.length cd] 28;have hA1:=hB0.keep bw1;have b01:=bw0.trans (bw1.mono (Nat.le_of_lt hlt0));have x0:=hA1.f0;have x1:=hA1.f1;have x2:=hA1.f2;have y0:=hB1.f0;have y1:=hB1.f1;have y2:=hB1.f2;go_enter Try.func17,Try.ntmps17;go_wp2_with fail;refine (refSubF_any (hv0.below b01) (hu0.below b01) hj hk hJ).mono ?_;rintro e w2 ⟨v2,rfl,hv2,b2⟩;have b02:=b01.trans (b2.mono b01.size);go_wp2_with fail;refine (refSign_any hv2).mono ?_;rintro e w3 ⟨rfl,b3⟩;rw[hc.out];go_wp2;go_ret;exact⟨rfl,b02.trans (b3.mono b02.size)⟩
theorem dot_ones {K:Nat}{C A:Option Addr}{cc ca:Nat}{ds:List FrD}{w:World}(hz:ZL w C cc (List.replicate ds.length 1)) (h:FL w A ca ds) (hf:QFits K (ds.map FrD.q)) (hK:K≤10000000) (hl12:ds.length≤12) :
 Calls Try.prog 37 #[.slice C ds.length cc,.slice A ds.length ca] w (RetQ (sumR (ds.map FrD.q)) w):=by
 have h1:=dot_any hz h hf (fun z hz=>by rw[(List.mem_replicate.1 hz).2];decide) hK (by simp) hl12;have e:dotI (List.replicate ds.length 1) (ds.map FrD.q)=ds.map FrD.q:=by have:=dotI_ones (ds.map FrD.q);rwa [List.length_map] at this
 rwa [e,List.length_replicate] at h1
theorem dot_sum_fits {K:Nat}{zs:List Int}{qs:List Rat}(hz:∀ z∈zs,z.natAbs≤1) (hf:QFits K qs) (hl:zs.length≤12):Fits (1+12*(2+K+1)) (sumR (dotI zs qs)):=by
 have h1:=sum_fits (n:=12) (dotI_fits hz hf) (by unfold dotI;rw[List.length_zipWith];omega) (dotI zs qs).length
 rwa [List.take_length] at h1
theorem limits_of {tl:Nat}{B C:Option Addr}{cb cc:Nat}{ns:List NdD}{ms:List Int}{w:World}(hE:argsE tl ns ms=0) (hn:NL w B cb ns) (hm:ZL w C cc ms) :
 Calls Try.prog 39 #[.slice B ns.length cb,.slice C ms.length cc] w (RetLm (limL ns ms) w):=by
 obtain⟨h1,h2,h3,h4,h5⟩:=argsE_ok hE;exact limits_any hn hm h1 (by omega) (fun d hd=>⟨(h5 d hd).1,by have:=(h5 d hd).2.1;have:=pow_le h1;omega⟩) h4
theorem unit_bound {n i:Nat}{v:Int}(hv:v.natAbs≤1):∀ z∈unitC n i v,z.natAbs≤1:=fun z hz=>by
 unfold unitC at hz
 rcases List.mem_or_eq_of_mem_set hz with h | h
 · rw[(List.mem_replicate.1 h).2];decide
 · rw[h];exact hv
theorem lim_bound {tl:Nat}{ns:List NdD}{ms:List Int}{p:List Int × Int}(hE:argsE tl ns ms=0) (h:p∈limL ns ms):p.1.length=ms.length∧(-1099511627776≤p.2∧p.2≤1099511627776)∧∀ z∈p.1,z.natAbs≤1:=by
 obtain⟨h1,h2,h3,h4,h5⟩:=argsE_ok hE;unfold limL at h
 rcases List.mem_append.1 h with h | h
 · obtain⟨d,hd,rfl⟩:=List.mem_map.1 h;refine⟨needC_len _ _,(h5 d hd).2.2,fun z hz=>?_⟩;obtain⟨k,_,rfl⟩:=List.mem_map.1 hz
   unfold bitZ;split <;> decide
 · rcases List.mem_append.1 h with h | h
   · obtain⟨i,hi,rfl⟩:=List.mem_map.1 h;exact⟨unitC_len _ _ _,(by show (-1099511627776:Int)≤0∧(0:Int)≤1099511627776;omega),unit_bound (by decide)⟩
   · obtain⟨i,hi,rfl⟩:=List.mem_map.1 h;have hi2:=List.mem_range.1 hi;have:=h4 (ms.getD i 0) (by rw[List.getD_eq_getElem?_getD,List.getElem?_eq_getElem hi2];exact List.getElem_mem hi2);exact⟨unitC_len _ _ _,by show -1099511627776≤-(ms.getD i 0)∧-(ms.getD i 0)≤1099511627776;omega,unit_bound (by decide)⟩
set_option maxRecDepth 100000 in
set_option maxHeartbeats 40000000 in
theorem possible_any {K tl:Nat}{A B C:Option Addr}{ca cb cc:Nat}{ds:List FrD}{ns:List NdD}{ms:List Int}{v:Value}{sq:Rat}{w:World}(hE:argsE tl ns ms=0) (hn0:NL w B cb ns) (hm0:ZL w C cc ms) (hv0:FV w v sq) (h0:FL w A ca ds)
 (hf:QFits K (ds.map FrD.q)) (hfs:Fits K sq) (hK0:2≤K) (hK:K≤10000000) :
 Calls Try.prog 15 #[.slice B ns.length cb,.slice C ms.length cc,v,.slice A ds.length ca] w (RetB (possB ns ms sq (ds.map FrD.q)) w):=by
 obtain⟨r,hr⟩:∃ r,Hid (possB ns ms sq (ds.map FrD.q)=r):=⟨_,rfl⟩;rw[hr.out];obtain⟨sv,rfl,hsv0,hsq⟩:=hv0.frd;obtain⟨w0,hw0,b0,l0,hB⟩:=boxed w #[.bool sv.neg,.slice sv.a sv.la.length sv.ca,.slice sv.b sv.lb.length sv.cb] 28;have hn:=hn0.below b0;have hm:=hm0.below b0;have hv:=hv0.below b0;have h:=h0.below b0;clear hn0 hm0 hv0 h0 hsv0;have lnn:=hn.len;have lmm:=hm.len;have lds:=h.len;obtain⟨E1,E2,-⟩:=argsE_ok hE;have hf':=Lib.hid hf;have hfs':=Lib.hid hfs;clear hf hfs;obtain⟨qs,hqs⟩:∃ qs,Hid (ds.map FrD.q=qs):=⟨_,rfl⟩
 by_cases hlm0:ds.length=ms.length
 · have hlm:=Lib.hid hlm0;have h5:((ds.length:Int) != (ms.length:Int))=false:=by rw[bne_eq_false_iff_eq];omega
   clear hlm0;have h8:ds.length≤12:=by have:=hlm.out;omega
   have hsF:=Lib.hid (show Fits (1+12*(K+1)) (sumR (ds.map FrD.q)) by
    have h1:=sum_fits (n:=12) hf'.out (by rw[List.length_map];exact h8) (ds.map FrD.q).length
    rwa [List.take_length] at h1)
   obtain⟨c,hc⟩:∃ c,Hid (cmpR (sumR (ds.map FrD.q)) sq=c):=⟨_,rfl⟩;obtain⟨b,hb⟩:∃ b,Hid (decide (sumR (ds.map FrD.q)=sq)=b):=⟨_,rfl⟩
   have hcb:(c != 0)=!b:=by
    rw[←hb.out,←hc.out]
    by_cases e:sumR (ds.map FrD.q)=sq
    · rw[decide_eq_true e,cmpR_zero.2 e];rfl
    · rw[decide_eq_false e]
      show _=true
      rw[bne_iff_ne];exact fun h=>e (cmpR_zero.1 h)
   have hno:=Lib.hid (show b=false→r=false by intro e;rw[←hr.out];unfold possB;rw[hb.out,e];simp)
   have hyes:=Lib.hid (show b=true→r=(limL ns ms).all (limB qs) by
    intro e;rw[←hr.out];unfold possB;rw[hb.out,e,hqs.out,decide_eq_true (by rw[←hqs.out,List.length_map];exact hlm.out)];rfl)
   go_enter Try.func15,Try.ntmps15;go_upto_region 1 with fail;have bT:=b0
   have hS:∀ w',Below w0.heap.size w0 w'→w'.cell? ⟨w.heap.size,0,none⟩=some (.bool sv.neg)∧w'.cell? ⟨w.heap.size,1,none⟩=some (.slice sv.a sv.la.length sv.ca)∧w'.cell? ⟨w.heap.size,2,none⟩=some (.slice sv.b sv.lb.length sv.cb)∧Below w0.heap.size w0 w':=by
    intro w' o;have hBo:=Blk.keep hB o;exact⟨hBo.f0,hBo.f1,hBo.f2,o⟩
   have bo:Below w0.heap.size w0 w0:=Below.refl _ _;have dS:Below w0.heap.size w0 w0.drew:=bo.drew;go_wp2_with fail;refine wp_region_noPanic ?_;refine wp_region_held_drew (S:=fun w'=>w'.cell? ⟨w.heap.size,0,none⟩=some (.bool sv.neg)∧w'.cell? ⟨w.heap.size,1,none⟩=some (.slice sv.a sv.la.length sv.ca)∧w'.cell? ⟨w.heap.size,2,none⟩=some (.slice sv.b sv.lb.length sv.cb)∧Below w0.heap.size w0 w') (by kernel_rfl) (hS _ dS) (fun hHeld=>?_);refine tkH 0 rfl hHeld ?_;refine tkH 1 rfl hHeld ?_;refine tkH 2 rfl hHeld ?_;refine tkH 3 rfl hHeld ?_;refine tkH 4 rfl hHeld ?_;refine tkH 5 rfl hHeld ?_;refine tkH 6 rfl hHeld ?_;refine tkH 7 rfl hHeld ?_;refine tkH 9 rfl hHeld ?_;refine tkH 11 rfl hHeld ?_;refine rdH 8 rfl fun K hK=>?_;go_simp;have dw0:Below w0.heap.size w0 w0.drew:=(Below.refl _ _).drew;replace hn:=hn.below dw0;replace hm:=hm.below dw0;replace h:=h.below dw0;replace hv:=hv.below dw0;replace hB:=hB.keep dw0;replace bT:=bT.trans (dw0.mono bT.size);replace bo:=bo.trans (dw0.mono bo.size);have hcl:=ones_any (n:=ds.length) (w:=w0.drew) (by omega);go_at_call 38;refine (hcl).mono ?_;rintro e u1 ⟨A1,c1,rfl,hz1,bu1⟩;replace hn:=hn.below bu1;replace hm:=hm.below bu1;replace h:=h.below bu1;replace hv:=hv.below bu1;replace hB:=hB.keep bu1;replace bT:=bT.trans (bu1.mono bT.size);replace bo:=bo.trans (bu1.mono bo.size);clear hcl;go_wp2_with fail;refine hK.out _ _ (hS _ bo) (fun hHeld=>?_)
   clear hK K;(try simp only[lay]);refine rdH 10 rfl fun K hK=>?_;go_simp;have hcl:=dot_ones hz1 h hf'.out (by omega) (by omega);go_at_call 37;refine (hcl).mono ?_;rintro e u2 ⟨vd,rfl,hvd,bu2⟩;replace hn:=hn.below bu2;replace hm:=hm.below bu2;replace h:=h.below bu2;replace hv:=hv.below bu2;replace hB:=hB.keep bu2;replace hz1:=hz1.below bu2;replace bT:=bT.trans (bu2.mono bT.size);replace bo:=bo.trans (bu2.mono bo.size);clear hcl;clear hz1;go_wp2_with fail;refine hK.out _ _ (hS _ bo) (fun hHeld=>?_);clear hK K;(try simp only[lay]);refine rdH 12 rfl fun K hK=>?_;go_simp;have hcl:=refCmpF_any hvd hv hsF.out hfs'.out (by omega);rw[hc.out] at hcl;go_at_call 17;refine (hcl).mono ?_;rintro e u3 ⟨rfl,bu3⟩;replace hn:=hn.below bu3;replace hm:=hm.below bu3;replace h:=h.below bu3;replace hv:=hv.below bu3;replace hB:=hB.keep bu3;replace hvd:=hvd.below bu3;replace bT:=bT.trans (bu3.mono bT.size);replace bo:=bo.trans (bu3.mono bo.size);clear hcl;clear hvd;go_wp2_with fail;refine hK.out _ _ (hS _ bo) (fun hHeld=>?_);clear hK K;(try simp only[lay]);refine tkH 13 rfl hHeld ?_;refine tkH 14 rfl hHeld ?_;refine wpAnyH_done (by kernel_rfl) ?_ _;refine NoPanic.normal ?_;(try go_simp);clear hHeld;clear hS dS bo
   rcases b with _ | _
   · have hno2:=Lib.hid (hno.out rfl);go_wp2;go_ret;exact⟨by rw[hno2.out];rfl,bT⟩
   have hyes2:=Lib.hid (hyes.out rfl);clear hB;go_wp2_with fail;refine (limits_of hE hn hm).mono ?_;rintro e u4 ⟨A2,c2,ls,rfl,hls,hlp,bu4⟩;replace hn:=hn.below bu4;replace hm:=hm.below bu4;replace h:=h.below bu4;replace hv:=hv.below bu4;replace bT:=bT.trans (bu4.mono bT.size);obtain⟨wo,hwo⟩:∃ wo:World,wo=u4:=⟨_,rfl⟩;subst hwo;have hlen2:=hls.1.1;have hlen3:=hls.1.2.1;have hal:=Lib.hid (show (limL ns ms).all (limB qs)=ls.all (fun l=>limB qs l.p) by rw[←hlp.out,List.all_map];rfl);have hb0:=bT;clear bT;go_wp2
   go_loopw [10] (fun i wr=>EveryInv (fun l:LmD=>limB qs l.p) ls wo i wr) (fun i _=>ls.length-(intOf i).toNat)
   case atStart=>exact⟨0,by omega,rfl,rfl,Below.refl _ _⟩
   case round =>
    obtain⟨k,hk,rfl,hall,hbel⟩:=hrel
    by_cases hkl:k<ls.length
    · have hki:(k:Int)<(ls.length:Int):=by omega
      obtain⟨a,l,rfl,hab,hc0,hc1,hzl,hlk⟩:=(hls.below hbel).at hkl;have hpl:=Lib.hid (show (l.zs,l.b)∈limL ns ms by rw[←hlp.out];exact List.mem_map.2 ⟨l,List.mem_of_getElem? hlk.out,rfl⟩);have hlb:=Lib.hid (lim_bound hE hpl.out);have hab2:=Lib.hid (show (a.add (k*2)).block<wr.heap.size by rw[block_add];exact hab);have hsq:=Lib.hid (show Fits (1+12*(2+K+1)) (sumR (dotI l.zs qs)) by rw[←hqs.out];exact dot_sum_fits hlb.out.2.2 hf'.out (by have:=hlb.out.1;dsimp only at this;omega));have hbF:=Lib.hid (show Fits 2 (l.b:Rat) from fits_int2 (by have:=hlb.out.2.1;omega));obtain⟨c,hc2⟩:∃ c,Hid (cmpR (sumR (dotI l.zs qs)) (l.b:Rat)=c):=⟨_,rfl⟩;obtain⟨u,hu⟩:∃ u,Hid (limB qs l.p=u):=⟨_,rfl⟩
      have hcu:decide (c<0)=!u:=by
       rw[←hu.out,←hc2.out];unfold limB LmD.p;rw[Bool.not_not];exact decide_eq_decide.2 cmpR_neg
      have hF:=h.below hbel;go_upto_region 7 with fail;have bT:=Below.refl wr.heap.size wr
      have hS:∀ w',Below wr.heap.size wr w'→w'.cell? (a.add (k*2))=some (.slice l.a l.zs.length l.c)∧w'.cell? ⟨(a.add (k*2)).block,(a.add (k*2)).off+1,none⟩=some (.int .i64 l.b)∧Below wr.heap.size wr w':=by
       intro w' o;exact⟨(o.cell hab2.out).trans hc0,(o.cell (by exact hab2.out)).trans hc1,o⟩
      have bo:Below wr.heap.size wr wr:=Below.refl _ _;have dS:Below wr.heap.size wr wr.drew:=bo.drew;go_wp2_with fail;refine wp_region_noPanic ?_;refine wp_region_held_drew (S:=fun w'=>w'.cell? (a.add (k*2))=some (.slice l.a l.zs.length l.c)∧w'.cell? ⟨(a.add (k*2)).block,(a.add (k*2)).off+1,none⟩=some (.int .i64 l.b)∧Below wr.heap.size wr w') (by kernel_rfl) (hS _ dS) (fun hHeld=>?_);refine tkH 0 rfl hHeld ?_;refine tkH 1 rfl hHeld ?_;refine tkH 2 rfl hHeld ?_;refine tkH 3 rfl hHeld ?_;refine tkH 4 rfl hHeld ?_;refine tkH 5 rfl hHeld ?_;refine tkH 7 rfl hHeld ?_;refine tkH 8 rfl hHeld ?_;refine tkH 9 rfl hHeld ?_;refine tkH 10 rfl hHeld ?_;refine tkH 11 rfl hHeld ?_;refine rdH 6 rfl fun K hK=>?_;go_simp;have dw0:Below wr.heap.size wr wr.drew:=(Below.refl _ _).drew;replace hzl:=hzl.below dw0;replace hF:=hF.below dw0;replace bT:=bT.trans (dw0.mono bT.size);replace bo:=bo.trans (dw0.mono bo.size);have hcl:=dot_any hzl hF hf'.out hlb.out.2.2 (by omega) (by have:=hlb.out.1;have:=hlm.out;omega) (by omega);rw[hqs.out] at hcl;go_at_call 37;refine (hcl).mono ?_;rintro e m1 ⟨vd,rfl,hvd,bm1⟩;replace hzl:=hzl.below bm1;replace hF:=hF.below bm1;replace bT:=bT.trans (bm1.mono bT.size);replace bo:=bo.trans (bm1.mono bo.size);clear hcl;go_wp2_with fail;refine hK.out _ _ (hS _ bo) (fun hHeld=>?_);clear hK K;(try simp only[lay]);refine rdH 12 rfl fun K hK=>?_;go_simp;have hcl:=refFromInt_any l.b (m1) (by have:=hlb.out.2.1;omega) (by have:=hlb.out.2.1;omega)
      go_at_call 24;refine (hcl).mono ?_;rintro e m2 ⟨vk,rfl,hvk,bm2⟩;replace hzl:=hzl.below bm2;replace hF:=hF.below bm2;replace hvd:=hvd.below bm2;replace bT:=bT.trans (bm2.mono bT.size);replace bo:=bo.trans (bm2.mono bo.size);clear hcl;go_wp2_with fail;refine hK.out _ _ (hS _ bo) (fun hHeld=>?_);clear hK K;(try simp only[lay]);refine rdH 13 rfl fun K hK=>?_;go_simp;have hcl:=refCmpF_any hvd hvk hsq.out hbF.out (by omega);rw[hc2.out] at hcl;go_at_call 17;refine (hcl).mono ?_;rintro e m3 ⟨rfl,bm3⟩;replace hzl:=hzl.below bm3;replace hF:=hF.below bm3;replace hvd:=hvd.below bm3;replace hvk:=hvk.below bm3;replace bT:=bT.trans (bm3.mono bT.size);replace bo:=bo.trans (bm3.mono bo.size);clear hcl;go_wp2_with fail;refine hK.out _ _ (hS _ bo) (fun hHeld=>?_);clear hK K;(try simp only[lay]);refine tkH 14 rfl hHeld ?_;refine wpAnyH_done (by kernel_rfl) ?_ _;refine NoPanic.normal ?_;(try go_simp);clear hHeld;clear hS dS bo
      rcases u with _ | _
      · have hcu2:decide (c<0)=true:=hcu;have hr:=Lib.hid (show r=false by rw[hyes2.out,hal.out];exact every_no hlk.out hu.out);go_wp2;go_ret;exact⟨by rw[hr.out];rfl,hb0.trans ((hbel.trans (bT.mono hbel.size)).mono hb0.size)⟩
      have hcu2:decide (c<0)=false:=hcu;have hall2:=Lib.hid (every_take hall.out hlk.out hu.out);have hbe2:=hbel.trans (bT.mono hbel.size);go_wp2;go_roundw
      case rel=>exact⟨k+1,by omega,by go_num,hall2,hbe2⟩
      case measure=>simp[intOf];omega
    · obtain rfl:k=ls.length:=by omega
      have hlt':decide ((ls.length:Int)<(ls.length:Int))=false:=decide_eq_false (by omega);have hr:=Lib.hid (show r=true by rw[hyes2.out,hal.out];have:=hall.out;rwa [List.take_length] at this);go_wp2;go_ret;exact⟨by rw[hr.out];rfl,hb0.trans (hbel.mono hb0.size)⟩
 · have h5:((ds.length:Int) != (ms.length:Int))=true:=by rw[bne_iff_ne];omega
   have hf0:=Lib.hid (show r=false by rw[←hr.out];unfold possB;rw[decide_eq_false (by rw[List.length_map];exact hlm0)];rfl);clear hlm0;have f0:=hB.f0;have f1:=hB.f1;have f2:=hB.f2;go_enter Try.func15,Try.ntmps15;go_upto_region 1 with fail
   go_quiet (fail)
   go_wp2;go_ret;exact⟨by rw[hf0.out];rfl,Below.drewN b0 _⟩
end Go.Proofs.Ytjhkapjadfpimaa
