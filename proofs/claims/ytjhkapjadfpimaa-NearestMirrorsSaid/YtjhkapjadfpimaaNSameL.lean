/- Contracts of functions, for the law. -/
import Derived.Test.YtjhkapjadfpimaaNBest
import Derived.Test.YtjhkapjadfpimaaMMake
import Derived.Test.YtjhkapjadfpimaaNDr
import Derived.Test.YtjhkapjadfpimaaPLp
import Derived.Deep.RegionHeld3
import Derived.Test.YtjhkapjadfpimaaMSmall
import Derived.Test.YtjhkapjadfpimaaFL
import Derived.Test.YtjhkapjadfpimaaWTrim
namespace Go.Proofs.Ytjhkapjadfpimaa
set_option linter.unusedVariables false
set_option linter.unusedSimpArgs false
open Go.RowKit Plain
def ofI (zs:List Int):List Rat:=zs.map fun z:Int=>(z:Rat)
theorem two_of {l:List Rat}(h:l.length=2):∃ a b,l=[a,b]:=by
 match l,h with
 | [a,b],_=>exact⟨a,b,rfl⟩
theorem dist_two (p q a b:Rat):distV 2 [p,q] [a,b]=(a-p)*(a-p)+(b-q)*(b-q):=by
 show 0+(a-p)*(a-p)+(b-q)*(b-q)=_
 grind
theorem sum_two (a b:Rat):sumR [a,b]=a+b:=by
 show 0+a+b=_
 grind
def exN:List NdD:=[⟨3,10⟩]
theorem ex_poss1:Poss 2 (allS exN [6,6]) 10 [5,5]:=(poss_iff (ns:=exN) (ms:=[6,6]) (by decide)).2 (by decide +kernel)
theorem ex_poss2:Poss 2 (allS [] [10,2]) 6 [4,2]:=(poss_iff (ns:=[]) (ms:=[10,2]) (by decide)).2 (by decide +kernel)
theorem ex_x1 {t:St}(h:Best 2 (allS exN [6,6]) [4,4] 10 t):t.x=[5,5]:=by
 have hp:=(poss_iff (ns:=exN) (ms:=[6,6]) (by decide)).1 h.poss;obtain⟨a,b,e⟩:=two_of hp.1;have hs:=hp.2.1;refine (h.only ex_poss1 ?_).symm;rw[e] at hs ⊢;rw[sum_two] at hs;rw[dist_two,dist_two];have h1:=sq_nonneg (a-5);have h2:b=10-a:=by grind
 subst h2
 grind
theorem ex_x2 {t:St}(h:Best 2 (allS [] [10,2]) [1,1] 6 t):t.x=[4,2]:=by
 have hp:=(poss_iff (ns:=[]) (ms:=[10,2]) (by decide)).1 h.poss;obtain⟨a,b,e⟩:=two_of hp.1;have hs:=hp.2.1;have hu:=hp.2.2.2.2 1 (by decide);refine (h.only ex_poss2 ?_).symm;rw[e] at hs hu ⊢;rw[sum_two] at hs;have hb:b≤2:=hu;rw[dist_two,dist_two];have h1:0≤(2-b)*(4-b):=Rat.mul_nonneg (by grind) (by grind);have h2:a=6-b:=by grind
 subst h2
 grind
theorem ex_x3 {t:St}(h:Best 2 (allS exN [4,4]) [4,4] 10 t):False:=by
 have hp:=(poss_iff (ns:=exN) (ms:=[4,4]) (by decide)).1 h.poss;obtain⟨a,b,e⟩:=two_of hp.1;have hs:=hp.2.1;have h0:=hp.2.2.2.2 0 (by decide);have h1:=hp.2.2.2.2 1 (by decide);rw[e] at hs h0 h1;rw[sum_two] at hs;have ha:a≤4:=h0;have hb:b≤4:=h1
 grind
theorem ex_a1 {t:St}(h:Best 2 (allS exN [6,6]) [4,4] 10 t):t.active=[]∧t.mults=[]∧t.level=1:=by
 have hx:=ex_x1 h
 have ha:t.active=[]:=by
  cases hA:t.active with
  | nil=>rfl
  | cons a A =>
   exfalso
   have h1:=h.pt.eqs 1 (by rw[hA];simp);have h2:=h.hA a (by rw[hA];exact List.mem_cons_self)
   have h3:fn (normalsS 2 (allS exN [6,6]) t.active) 1=gt (nrm (allS exN [6,6]) a):=by
    have:=fn_act (n:=2) (all:=allS exN [6,6]) (A:=t.active) (j:=0) (by rw[hA];simp);rw[this];simp[hA]
   have h4:gt (10::t.active.map (lst (allS exN [6,6]))) 1=lst (allS exN [6,6]) a:=by rw[hA];rfl
   rw[h3,h4,hx] at h1;have h5:(allS exN [6,6]).length=5:=by decide +kernel
   rw[h5] at h2;have key:∀ k:Fin 5,k.val≠0→ip 2 (gt (nrm (allS exN [6,6]) k.val)) (gt [5,5])≠lst (allS exN [6,6]) k.val:=by decide +kernel
   have ha0:a=0:=by
    by_cases e:a=0
    · exact e
    · exact absurd h1 (key ⟨a,h2⟩ e)
   subst ha0;have hli:=h.li (by decide)
   have h6:=hli (fun j=>if j=0 then 1 else if j=1 then -1 else 0) (fun i hi=>by
    unfold lc;rw[hA]
    show sm (A.length+1+1) _=0
    rw[sm_head,sm_head]
    rw[sm_zeroOf (n:=A.length) fun k hk=>by
     show (if k+1+1=0 then (1:Rat) else if k+1+1=1 then -1 else 0)*_=0
     rw[if_neg (by omega),if_neg (by omega),Rat.zero_mul]]
    show (1:Rat)*fn (normalsS 2 (allS exN [6,6]) (0::A)) 0 i+((-1)*fn (normalsS 2 (allS exN [6,6]) (0::A)) 1 i+0)=0
    rw[fn_ones _ _ _ hi,fn_act (A:=0::A) (j:=0) (by simp)]
    show (1:Rat)*1+((-1)*gt (nrm (allS exN [6,6]) 0) i+0)=0
    have key2:∀ i:Fin 2,gt (nrm (allS exN [6,6]) 0) i.val=1:=by decide +kernel
    rw[key2 ⟨i,hi⟩];grind) 0 (by omega)
   simp at h6
 have hm:t.mults=[]:=List.eq_nil_of_length_eq_zero (by rw[h.lm,ha];rfl);refine⟨ha,hm,?_⟩;have h1:=h.pt.kkt 0 (by decide);rw[hx,ha] at h1
 have h2:lc 1 (gt (t.level::t.mults)) (fn (normalsS 2 (allS exN [6,6]) [])) 0=t.level:=by
  show 0+t.level*fn (normalsS 2 (allS exN [6,6]) []) 0 0=_
  rw[fn_ones _ _ _ (by decide)];grind
 have h3:gt ([5,5]:List Rat) 0=gt ([4,4]:List Rat) 0+lc 1 (gt (t.level::t.mults)) (fn (normalsS 2 (allS exN [6,6]) [])) 0+0*0:=h1;rw[h2] at h3;have h4:(5:Rat)=4+t.level+0*0:=h3
 grind
theorem prj_ex1 {tg:List FrD}{lo:Nat}{e:Ending}{w':World}(hq:tg.map FrD.q=ofI [4,4]) (h:PrjPost tg exN [6,6] 10 lo e w') :
 ∃ x:PtD,e=.returned (.tuple #[x.v,.int .i64 0])∧PtL w' x∧PtIn x lo w'.heap.size∧x.pay.qs=ofI [5,5]∧x.mults.qs=ofI [0]∧x.low.qs=ofI [0,0]∧x.high.qs=ofI [0,0]∧x.lev.q=1:=by
 have hl:tg.length=2:=by have:=congrArg List.length hq;rw[List.length_map] at this;exact this
 have hq2:tg.map FrD.q=[4,4]:=hq.trans (by decide +kernel)
 rcases h with ⟨h1,-⟩ | ⟨-,h1,-⟩ | ⟨-,t,x,hb,he,hx,hin,q1,q2,q3,q4,q5⟩
 · rw[hl] at h1;exact absurd (by decide +kernel) h1
 · exact (h1.no ex_poss1).elim
 · rw[hq2] at hb;obtain⟨a1,a2,a3⟩:=ex_a1 hb;have hx1:=ex_x1 hb;have hs:sprd exN [6,6] t=[0,0,0,0,0]:=by unfold sprd;rw[a1,a2];decide +kernel
   rw[hs] at q2 q3 q4;exact⟨x,he,hx,hin,by rw[q1,hx1];decide +kernel,by rw[q2];decide +kernel,by rw[q3];decide +kernel,by rw[q4];decide +kernel,by rw[q5,a3]⟩
theorem prj_ex2 {tg:List FrD}{lo:Nat}{e:Ending}{w':World}(hq:tg.map FrD.q=ofI [1,1]) (h:PrjPost tg [] [10,2] 6 lo e w') :
 ∃ x:PtD,e=.returned (.tuple #[x.v,.int .i64 0])∧PtL w' x∧PtIn x lo w'.heap.size∧x.pay.qs=ofI [4,2]:=by
 have hl:tg.length=2:=by have:=congrArg List.length hq;rw[List.length_map] at this;exact this
 have hq2:tg.map FrD.q=[1,1]:=hq.trans (by decide +kernel)
 rcases h with ⟨h1,-⟩ | ⟨-,h1,-⟩ | ⟨-,t,x,hb,he,hx,hin,q1,-⟩
 · rw[hl] at h1;exact absurd (by decide +kernel) h1
 · exact (h1.no ex_poss2).elim
 · rw[hq2] at hb;exact⟨x,he,hx,hin,by rw[q1,ex_x2 hb];decide +kernel⟩
theorem prj_ex3 {tg:List FrD}{lo:Nat}{e:Ending}{w':World}(hq:tg.map FrD.q=ofI [4,4]) (h:PrjPost tg exN [4,4] 10 lo e w') :
 e=.returned (.tuple #[.agg #[.slice none 0 0,.slice none 0 0,.slice none 0 0,.slice none 0 0,.bool false,.slice none 0 0,.slice none 0 0],.int .i64 6]):=by
 have hl:tg.length=2:=by have:=congrArg List.length hq;rw[List.length_map] at this;exact this
 have hq2:tg.map FrD.q=[4,4]:=hq.trans (by decide +kernel)
 rcases h with ⟨h1,-⟩ | ⟨-,-,h1⟩ | ⟨-,t,x,hb,-⟩
 · rw[hl] at h1;exact absurd (by decide +kernel) h1
 · exact h1
 · rw[hq2] at hb;exact (ex_x3 hb).elim
theorem chk_ex1:checkS (ofI [4,4]) exN [6,6] 10 (ofI [5,5]) (ofI [0]) (ofI [0,0]) (ofI [0,0]) 1=0:=by decide +kernel
theorem chk_ex2:checkS (ofI [4,4]) exN [6,6] 10 (ofI [4,6]) (ofI [0]) (ofI [0,0]) (ofI [0,0]) 1=13:=by decide +kernel
theorem dst_ex:sumR (dsq (ofI [1,2]) (ofI [4]))=13:=by decide +kernel
end Go.Proofs.Ytjhkapjadfpimaa
namespace Go.Proofs.Ytjhkapjadfpimaa
set_option linter.unusedVariables false
set_option linter.unusedSimpArgs false
open Go.RowKit Plain
attribute [local go_sem ↓] Go.wp_at_zero Go.wp_at_succ
def RetLs2 (qs:List Rat) (W:World) (e:Ending) (w':World):Prop:=∃ A c ds,e=.returned (.slice A ds.length c)∧FL w' A c ds∧Hid (ds.map FrD.q=qs)∧Below W.heap.size W w'∧∀ a,A=some a→W.heap.size≤a.block∧a.block<w'.heap.size
set_option maxRecDepth 100000 in
set_option maxHeartbeats 4000000 in
theorem ints31_any {A:Option Addr}{c:Nat}{zs:List Int}{w:World}(h:IL w A zs) (hb:∀ z∈zs,-9223372036854775808≤z∧z≤9223372036854775807) (hl:zs.length≤1000000) (hc:c≤9223372036854775807) (hlc:zs.length≤c) :
 Calls Try.prog 26 #[.slice A zs.length c] w (RetLs2 (zs.map (fun z:Int=>(z:Rat))) w):=by
 obtain⟨qs,hqs⟩:∃ qs,Hid (zs.map (fun z:Int=>(z:Rat))=qs):=⟨_,rfl⟩;have hql:=Lib.hid (show qs.length=zs.length by rw[←hqs.out,List.length_map]);have hb':=Lib.hid hb;clear hb;rw[hqs.out];go_enter Try.func26,Try.ntmps26;go_wp2
 go_loopw [3,8] (fun v i wr=>LsInv qs w v i wr) (fun _ i _=>zs.length-(intOf i).toNat)
 case atStart=>exact⟨0,by omega,rfl,LsAt.nil _ _⟩
 case round =>
  obtain⟨k,hk,rfl,hat⟩:=hrel;rw[hql.out] at hk;have hbel:=hat.bel
  by_cases hkl:k<zs.length
  · obtain⟨a,rfl,hab,hc0⟩:=(h.below hbel).at hkl;obtain⟨z,hz⟩:∃ z,Hid (zs.getD k 0=z):=⟨_,rfl⟩
    have hzb:-9223372036854775808≤z∧z≤9223372036854775807:=by
     rw[←hz.out];exact hb'.out _ (by rw[List.getD_eq_getElem?_getD,List.getElem?_eq_getElem hkl];exact List.getElem_mem hkl)
    rw[hz.out] at hc0;have hq:=Lib.hid (show qs[k]?=some ((fun z:Int=>(z:Rat)) z) by rw[←hqs.out,←hz.out];exact ints_get hkl);have hki:(k:Int)<(zs.length:Int):=by omega
    have hkb:k<1000000000000:=by omega
    go_wp2_with fail;refine (refFromInt_any z _ hzb.1 hzb.2).mono ?_;rintro e w4 ⟨v1,rfl,⟨n1,A1,a1,l1,B1,c1,m1,rfl,na,nb,iq⟩,b1⟩;replace hat:=hat.below b1;obtain⟨os,ho,h63,hbs,hnext⟩:=hat.app hkb hq.out na nb iq;clear na nb iq
    go_wp2_with (at_builtin;refine wpList_appQ rfl rfl _ _ rfl _ _ os rfl ho ⟨w4.heap.size,0,none⟩ 1 ⟨n1,A1,a1,l1,B1,c1,m1⟩ rfl (World.news_of_block (heap_alloc_new w4 _)) h63 hbs ?_;intro v6 w6 ho6 hg6)
    have hat6:=hnext.out v6 w6 ho6 hg6;clear hnext ho hg6 ho6 hat;go_wp2;go_roundw
    case rel=>exact⟨k+1,by rw[hql.out];omega,by go_num,hat6⟩
    case measure=>simp[intOf];omega
  · obtain rfl:k=zs.length:=by omega
    have hlt':decide ((zs.length:Int)<(zs.length:Int))=false:=decide_eq_false (by omega);obtain⟨B,cb,es,rfl,hfl,hqe,hadr⟩:=hat.done2 hql.out.symm;have hadr':=Lib.hid hadr;clear hadr;go_wp2;go_ret;exact⟨B,cb,es,rfl,hfl,hqe,hbel,hadr'.out⟩
set_option maxRecDepth 100000 in
set_option maxHeartbeats 4000000 in
theorem sameL_any {A B:Option Addr}{ca cb:Nat}{ds es:List FrD}{w:World}(ha:FL w A ca ds) (hb:FL w B cb es) :
 Calls Try.prog 19 #[.slice A ds.length ca,.slice B es.length cb] w (RetB (decide (ds.map FrD.q=es.map FrD.q)) w):=by
 have g1:=ha.len;have g2:=hb.len;obtain⟨v,hv⟩:∃ v,Hid (decide (ds.map FrD.q=es.map FrD.q)=v):=⟨_,rfl⟩;rw[hv.out]
 by_cases hl:ds.length=es.length
 · have hne:(((ds.length:Nat):Int) != ((es.length:Nat):Int))=false:=by rw[bne_eq_false_iff_eq];omega
   have hl':=Lib.hid hl;have hle:ds.length≤es.length:=by omega
   clear hl;go_enter Try.func19,Try.ntmps19;go_wp2
   go_loopw [5] (fun i wr=>PairInv (ds.map FrD.q) (es.map FrD.q) w i wr) (fun i _=>ds.length-(intOf i).toNat)
   case atStart=>exact⟨0,by omega,rfl,rfl,Below.refl _ _⟩
   case round =>
    obtain⟨k,hk,rfl,hdd,hbel⟩:=hrel;rw[List.length_map] at hk
    by_cases hkl:k<ds.length
    · obtain⟨a,d,rfl,hab,hc0,hc1,hc2,fa,hdk⟩:=(ha.below hbel).at (k:=k) hkl;obtain⟨b,f,rfl,hbb,hd0,hd1,hd2,fb,hek⟩:=(hb.below hbel).at (k:=k) (by omega);have hki:(k:Int)<(ds.length:Int):=by omega
      have hkj:(k:Int)<(es.length:Int):=by omega
      have x1:=Lib.hid (map_some (f:=FrD.q) hdk.out);have x2:=Lib.hid (map_some (f:=FrD.q) hek.out);obtain⟨qb,hqb⟩:∃ b,Hid (decide (d.q=f.q)=b):=⟨_,rfl⟩;have bT:=Below.refl wr.heap.size wr
      have hS:∀ w',Below wr.heap.size wr w'→w'.cell? (a.add (k*3))=some (.bool d.neg)∧w'.cell? ⟨(a.add (k*3)).block,(a.add (k*3)).off+1,none⟩=some (.slice d.a d.la.length d.ca)∧w'.cell? ⟨(a.add (k*3)).block,(a.add (k*3)).off+2,none⟩=some (.slice d.b d.lb.length d.cb)∧w'.cell? (b.add (k*3))=some (.bool f.neg)∧w'.cell? ⟨(b.add (k*3)).block,(b.add (k*3)).off+1,none⟩=some (.slice f.a f.la.length f.ca)∧w'.cell? ⟨(b.add (k*3)).block,(b.add (k*3)).off+2,none⟩=some (.slice f.b f.lb.length f.cb)∧Below wr.heap.size wr w':=by
       intro w' o;exact⟨(o.cell (by show (a.add (k*3)).block<_;rw[block_add];exact hab)).trans hc0,(o.cell (by show (a.add (k*3)).block<_;rw[block_add];exact hab)).trans hc1,(o.cell (by show (a.add (k*3)).block<_;rw[block_add];exact hab)).trans hc2,(o.cell (by show (b.add (k*3)).block<_;rw[block_add];exact hbb)).trans hd0,(o.cell (by show (b.add (k*3)).block<_;rw[block_add];exact hbb)).trans hd1,(o.cell (by show (b.add (k*3)).block<_;rw[block_add];exact hbb)).trans hd2,o⟩
      have bo:Below wr.heap.size wr wr:=Below.refl _ _;have dS:Below wr.heap.size wr wr.drew:=bo.drew;go_wp2_with fail;refine wp_region_noPanic ?_;refine wp_region_held_drew (S:=fun w'=>w'.cell? (a.add (k*3))=some (.bool d.neg)∧w'.cell? ⟨(a.add (k*3)).block,(a.add (k*3)).off+1,none⟩=some (.slice d.a d.la.length d.ca)∧w'.cell? ⟨(a.add (k*3)).block,(a.add (k*3)).off+2,none⟩=some (.slice d.b d.lb.length d.cb)∧w'.cell? (b.add (k*3))=some (.bool f.neg)∧w'.cell? ⟨(b.add (k*3)).block,(b.add (k*3)).off+1,none⟩=some (.slice f.a f.la.length f.ca)∧w'.cell? ⟨(b.add (k*3)).block,(b.add (k*3)).off+2,none⟩=some (.slice f.b f.lb.length f.cb)∧Below wr.heap.size wr w') (by kernel_rfl) (hS _ dS) (fun hHeld=>?_);refine tkH 0 rfl hHeld ?_;refine tkH 1 rfl hHeld ?_;refine tkH 2 rfl hHeld ?_;refine tkH 3 rfl hHeld ?_;refine tkH 4 rfl hHeld ?_;refine tkH 5 rfl hHeld ?_;refine tkH 6 rfl hHeld ?_;refine tkH 7 rfl hHeld ?_;refine rdH 8 rfl fun K hK=>?_;go_simp;have dw0:Below wr.heap.size wr wr.drew:=(Below.refl _ _).drew;replace fa:=fa.below dw0;replace fb:=fb.below dw0;replace bT:=bT.trans (dw0.mono bT.size);replace bo:=bo.trans (dw0.mono bo.size);go_at_call 20;refine (sameQ_any fa fb).mono ?_;rintro e u1 ⟨rfl,bu1⟩;replace fa:=fa.below bu1;replace fb:=fb.below bu1;replace bT:=bT.trans (bu1.mono bT.size);replace bo:=bo.trans (bu1.mono bo.size);rw[hqb.out]
      go_wp2_with fail;refine hK.out _ _ (hS _ bo) (fun hHeld=>?_);clear hK K;(try simp only[lay]);refine tkH 9 rfl hHeld ?_;refine wpAnyH_done (by kernel_rfl) ?_ _;refine NoPanic.normal ?_;(try go_simp);clear hHeld;clear hS dS bo
      rcases qb with _ | _
      · have hf:Hid (v=false):=by show v=false;rw[←hv.out];exact decide_eq_false (pair_no x1.out x2.out (of_decide_eq_false hqb.out))
        go_wp2;go_ret;exact⟨by rw[hf.out];rfl,hbel.trans (bT.mono hbel.size)⟩
      · have hf:=Lib.hid (pair_take hdd.out x1.out (by rw[x2.out,of_decide_eq_true hqb.out]));go_wp2;go_roundw
        case rel=>exact⟨k+1,by rw[List.length_map];omega,by go_num,hf,hbel.trans (bT.mono hbel.size)⟩
        case measure=>simp[intOf];omega
    · obtain rfl:k=ds.length:=by omega
      have hlt':decide ((ds.length:Int)<(ds.length:Int))=false:=decide_eq_false (by omega)
      have hf:Hid (v=true):=by
       show v=true
       rw[←hv.out,decide_eq_true_eq];have:=hdd.out;rw[List.take_of_length_le (by simp),List.take_of_length_le (by simp;have:=hl'.out;omega)] at this;exact this
      go_wp2;go_ret;exact⟨by rw[hf.out];rfl,hbel⟩
 · have hne:(((ds.length:Nat):Int) != ((es.length:Nat):Int))=true:=by rw[bne_iff_ne];omega
   have hf:Hid (v=false):=by show v=false;rw[←hv.out];exact decide_eq_false fun e=>hl (by rw[←List.length_map (f:=FrD.q),e,List.length_map])
   clear hl;go_enter Try.func19,Try.ntmps19;go_wp2;go_ret;exact⟨by rw[hf.out];rfl,Below.refl _ _⟩
end Go.Proofs.Ytjhkapjadfpimaa
