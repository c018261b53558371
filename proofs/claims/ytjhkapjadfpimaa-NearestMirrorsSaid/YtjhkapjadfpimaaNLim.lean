/- Contracts of functions, for the law. -/
import Derived.Test.YtjhkapjadfpimaaNCut
import Derived.Test.YtjhkapjadfpimaaNPt
import Derived.Test.YtjhkapjadfpimaaNDir
import Derived.Deep.RegionHeld3
import Derived.Test.YtjhkapjadfpimaaWTrim
import Derived.Test.YtjhkapjadfpimaaNVio
import Derived.Test.YtjhkapjadfpimaaFDiv
import Derived.Deep.DeepCutAuto
namespace Go.Proofs.Ytjhkapjadfpimaa
set_option linter.unusedVariables false
set_option linter.unusedSimpArgs false
open Go.RowKit Plain
attribute [local go_sem ↓] Go.wp_at_zero Go.wp_at_succ
theorem ArrQ.xo {w:World}{g:Nat}{ds:List FrD}(h:ArrQ w g ds) (hm:ds.length≤1000000000000):XO w g ds.length ds :=
 ⟨_,h,ArrQ.noDig ds,Nat.le_refl _,by omega,by
  rw[List.take_of_length_le];rw[flat_len];exact Nat.le_refl _,by
  rw[List.size_toArray,flat_len];exact Nat.le_refl _⟩
theorem XO.seg {w:World}{g c lo n k:Nat}{ds:List FrD}(h:XO w g c ds) (hv:AllFV w ds) (hlo:lo+n≤ds.length) (hn:n≤k) (hk:k≤9223372036854775807):FL w (some ⟨g,lo*3,none⟩) k ((ds.drop lo).take n):=by
 obtain⟨cur,h1,h2,h3,h4,h5,h6⟩:=h;have hl:((ds.drop lo).take n).length=n:=by rw[List.length_take,List.length_drop];omega
 refine⟨⟨by omega,hk,fun j hj=>⟨_,rfl,Blk.lt h1,fun i u hu=>?_⟩⟩,fun d hd=>hv d (List.mem_of_mem_drop (List.mem_of_mem_take hd))⟩
 have e:((ds.drop lo).take n)[j]=ds[lo+j]'(by omega):=by
  rw[List.getElem_take,List.getElem_drop]
 rw[e] at hu;have:=XO.cellOf h1 h5 (k:=lo+j) (List.getElem?_eq_getElem (by omega)) hu;rw[addN,←show (lo+j)*3+i=lo*3+(j*3+i) by omega];exact this
theorem FL.none0 (w:World) (A:Option Addr) (c:Nat) (hc:c≤9223372036854775807):FL w A c []:=⟨⟨by simp,hc,fun j hj=>by simp at hj⟩,fun d hd=>by simp at hd⟩
theorem zero_storeP {w:World}{g:Nat}(h:Blk w g 38 #[.slice none 0 0,.slice none 0 0,.slice none 0 0,.slice none 0 0,.bool false,.slice none 0 0,.slice none 0 0]) (x:PtD):∃ w9,w.cell? ⟨g,0,none⟩=some (.slice none 0 0)∧w.cell? ⟨g,1,none⟩=some (.slice none 0 0)∧w.cell? ⟨g,2,none⟩=some (.slice none 0 0)∧w.cell? ⟨g,3,none⟩=some (.slice none 0 0)∧w.cell? ⟨g,4,none⟩=some (.bool false)∧w.cell? ⟨g,5,none⟩=some (.slice none 0 0)∧w.cell? ⟨g,6,none⟩=some (.slice none 0 0)∧w.frozen? ⟨g,0,none⟩=false∧w.frozen? ⟨g,1,none⟩=false∧w.frozen? ⟨g,2,none⟩=false∧w.frozen? ⟨g,3,none⟩=false∧w.frozen? ⟨g,4,none⟩=false∧w.frozen? ⟨g,5,none⟩=false∧w.frozen? ⟨g,6,none⟩=false ∧
 (((((((w.setCell ⟨g,0,none⟩ (.slice x.pay.a x.pay.ds.length x.pay.c)).setCell ⟨g,1,none⟩ (.slice x.mults.a x.mults.ds.length x.mults.c)).setCell ⟨g,2,none⟩ (.slice x.low.a x.low.ds.length x.low.c)).setCell ⟨g,3,none⟩ (.slice x.high.a x.high.ds.length x.high.c)).setCell ⟨g,4,none⟩ (.bool x.lev.neg)).setCell ⟨g,5,none⟩ (.slice x.lev.a x.lev.la.length x.lev.ca)).setCell ⟨g,6,none⟩ (.slice x.lev.b x.lev.lb.length x.lev.cb))=w9∧VarP w9 g x∧Only w w9 g:=by
 have b9:=((((((h.set 0 (.slice x.pay.a x.pay.ds.length x.pay.c)).set 1 (.slice x.mults.a x.mults.ds.length x.mults.c)).set 2 (.slice x.low.a x.low.ds.length x.low.c)).set 3 (.slice x.high.a x.high.ds.length x.high.c)).set 4 (.bool x.lev.neg)).set 5 (.slice x.lev.a x.lev.la.length x.lev.ca)).set 6 (.slice x.lev.b x.lev.lb.length x.lev.cb);have o9:=(((((((Only.refl w g).set 0 (.slice x.pay.a x.pay.ds.length x.pay.c)).set 1 (.slice x.mults.a x.mults.ds.length x.mults.c)).set 2 (.slice x.low.a x.low.ds.length x.low.c)).set 3 (.slice x.high.a x.high.ds.length x.high.c)).set 4 (.bool x.lev.neg)).set 5 (.slice x.lev.a x.lev.la.length x.lev.ca)).set 6 (.slice x.lev.b x.lev.lb.length x.lev.cb);exact⟨_,Blk.cell h 0,Blk.cell h 1,Blk.cell h 2,Blk.cell h 3,Blk.cell h 4,Blk.cell h 5,Blk.cell h 6,Blk.free h 0,Blk.free h 1,Blk.free h 2,Blk.free h 3,Blk.free h 4,Blk.free h 5,Blk.free h 6,rfl,b9,o9⟩
theorem noDigP (x:PtD):NoDig #[.slice x.pay.a x.pay.ds.length x.pay.c,.slice x.mults.a x.mults.ds.length x.mults.c,.slice x.low.a x.low.ds.length x.low.c,.slice x.high.a x.high.ds.length x.high.c,.bool x.lev.neg,.slice x.lev.a x.lev.la.length x.lev.ca,.slice x.lev.b x.lev.lb.length x.lev.cb]:=NoDigL.noDig (l:=[.slice x.pay.a x.pay.ds.length x.pay.c,.slice x.mults.a x.mults.ds.length x.mults.c,.slice x.low.a x.low.ds.length x.low.c,.slice x.high.a x.high.ds.length x.high.c,.bool x.lev.neg,.slice x.lev.a x.lev.la.length x.lev.ca,.slice x.lev.b x.lev.lb.length x.lev.cb]) (fun u hu y e=>by
 subst e
 simp only[List.mem_cons,List.not_mem_nil,or_false] at hu
 rcases hu with h | h | h | h | h | h | h <;> cases h) rfl
theorem noDigZ:NoDig #[Value.slice none 0 0,.slice none 0 0,.slice none 0 0,.slice none 0 0,.bool false,.slice none 0 0,.slice none 0 0]:=NoDigL.noDig (l:=[Value.slice none 0 0,.slice none 0 0,.slice none 0 0,.slice none 0 0,.bool false,.slice none 0 0,.slice none 0 0]) (fun u hu y e=>by
 subst e
 simp only[List.mem_cons,List.not_mem_nil,or_false] at hu
 rcases hu with h | h | h | h | h | h | h <;> cases h) rfl
theorem addAt_fits {K J:Nat}{l:List Rat}{p:Nat × Rat}(hK:0<K) (hl:QFits K l) (hp:Fits J p.2):QFits (K+J+1) (addAt l p):=fun q hq=>by
 rcases List.mem_or_eq_of_mem_set hq with h | rfl
 · exact (hl q h).mono (by omega)
 · exact (hl.getD hK _).add hp
theorem spread_fits {n:Nat}{ps:List (Nat × Rat)}(h:∀ p∈ps,Fits KN p.2):∀ j,j≤ps.length→QFits (1+j*(KN+1)) (spread n (ps.take j)):=by
 intro j
 induction j with
 | zero =>
  intro _ q hq
  have:q=0:=by
   have h1:spread n (ps.take 0)=List.replicate n 0:=rfl;rw[h1] at hq;exact (List.mem_replicate.1 hq).2
  subst this;exact Fits.zero (by decide)
 | succ j ih =>
  intro hj;rw[spread_step (List.getElem?_eq_getElem (show j<ps.length by omega))];have h1:=addAt_fits (p:=ps[j]) (by omega) (ih (by omega)) (h _ (List.getElem_mem _));have e:1+(j+1)*(KN+1)=1+j*(KN+1)+KN+1:=by rw[Nat.succ_mul];omega
  rw[e];exact h1
def RetLim (r:Option Nat × Rat) (W:World) (e:Ending) (w':World):Prop:=∃ d:FrD,e=.returned (.tuple #[.int .i64 (oi r.1),fracV d.neg d.a d.la.length d.ca d.b d.lb.length d.cb])∧Hid (r.1≠none→FV w' d.v d.q∧d.q=r.2)∧Below W.heap.size W w'
theorem limK_succ (mults rates:List Rat) (j:Nat):limK mults rates (j+1)=if 0<rates.getD j 0∧((limK mults rates j).1=none∨mults.getD j 0 / rates.getD j 0<(limK mults rates j).2) then (some j,mults.getD j 0 / rates.getD j 0) else limK mults rates j:=rfl
theorem lim_fits {J K:Nat}{mults rates:List Rat}(hJ:0<J) (hK:0<K) (hm:QFits J mults) (hr:QFits K rates):∀ k j t,limK mults rates k=(some j,t)→Fits (J+K) t:=by
 intro k
 induction k with
 | zero=>intro j t e;cases e
 | succ k ih =>
  intro j t e;rw[limK_succ] at e
  split at e
  · injection e with e1 e2
    rw[←e2];exact (hm.getD hJ k).div (hr.getD hK k)
  · exact ih j t e
set_option maxRecDepth 100000 in
set_option maxHeartbeats 4000000 in
theorem limit_any {S:Sv}{s:Sm}{ent:Value}{R:Option Addr}{cr:Nat}{rs:List FrD}{w:World}(h:SolM S s ent w) (hr:FL w R cr rs) (hl:s.dm.length=rs.length) (hfm:QFits KN (s.dm.map FrD.q)) (hfr:QFits 87381 (rs.map FrD.q)) :
 Calls Try.prog 88 #[.pointer (some ⟨S.gs,0,none⟩),.slice R rs.length cr] w (RetLim (limK (s.dm.map FrD.q) (rs.map FrD.q) rs.length) w):=by
 obtain⟨w0,hw0,b0,l0,B0⟩:=boxed w #[.bool false,.slice none 0 0,.slice none 0 0] 28;obtain⟨w1,hw1,b1,l1,B1⟩:=boxed w0 #[.bool false,.slice none 0 0,.slice none 0 0] 28;have b01:=b0.trans (b1.mono b0.size);have B01:=Blk.keep B0 b1;have hlen:=hr.len;obtain⟨mu,hmu⟩:∃ mu,Hid (s.dm.map FrD.q=mu):=⟨_,rfl⟩;obtain⟨ra,hra⟩:∃ ra,Hid (rs.map FrD.q=ra):=⟨_,rfl⟩;have hl':=Lib.hid hl;have hfm':=Lib.hid (show QFits KN mu by rw[←hmu.out];exact hfm);have hfr':=Lib.hid (show QFits 87381 ra by rw[←hra.out];exact hfr);rw[hmu.out,hra.out];have hmq:MaybeQ w1 w0.heap.size (limK mu ra 0).1 (limK mu ra 0).2:=MaybeQ.zero B1 _;have hg01:=Lib.hid (show w.heap.size≠w0.heap.size by omega);have hg01':=Lib.hid (show w.heap.size≤w0.heap.size by omega);clear hl hfm hfr B1 B0;go_enter Try.func88,Try.ntmps88;go_wp2
 go_loopw [6,14] (fun v i wr=>∃ k:Nat,k≤rs.length∧i=.int .i64 (k:Int)∧v=.int .i64 (oi (limK mu ra k).1)∧MaybeQ wr w0.heap.size (limK mu ra k).1 (limK mu ra k).2∧Blk wr w.heap.size 28 #[.bool false,.slice none 0 0,.slice none 0 0]∧Below w.heap.size w wr) (fun _ i _=>rs.length-(intOf i).toNat)
 case atStart=>exact⟨0,by omega,rfl,rfl,hmq,B01,b01⟩
 case round =>
  clear hmq B01;obtain⟨k,hk,rfl,rfl,hmq,hB,hbel⟩:=hrel;obtain⟨o,t,hot⟩:∃ o t,Hid (limK mu ra k=(o,t)):=⟨_,_,rfl⟩;rw[hot.out] at hmq;rw[hot.out]
  dsimp only at hmq ⊢
  by_cases hkl:k<rs.length
  · have hki:(k:Int)<(rs.length:Int):=by omega
    obtain⟨a,d,ea,hab,c0,c1,c2,hd,hdk⟩:=(hr.below hbel).at hkl;rw[ea];obtain⟨wA,w4,eA,p0,p1,p2,r0,r1,r2,eB,hD4,b4,l4⟩:=new_var wr d;have hbel4:=hbel.trans (b4.mono hbel.size);have hmq4:=hmq.below b4;have hB4:=Blk.keep hB b4;have hd4:=hd.below b4;have hgt:=Lib.hid (show ra.getD k 0=d.q by rw[←hra.out,List.getD_eq_getElem?_getD,List.getElem?_map,hdk.out];rfl);obtain⟨x0,x1,x2⟩:=hD4.cells;obtain⟨sg,hsg⟩:∃ s',Hid (cmpR d.q 0=s'):=⟨_,rfl⟩;have hcs:=sign_any hd4;rw[hsg.out] at hcs;go_wp2_with fail;refine hcs.mono ?_;rintro e w5 ⟨rfl,b5⟩;clear hcs p0 p1 p2 r0 r1 r2 eA eB c0 c1 c2 x0 x1 x2 hd hmq hB;have hbel5:=hbel4.trans (b5.mono hbel4.size);have hmq5:=hmq4.below b5;have hB5:=Blk.keep hB4 b5;have hD5:=hD4.below b5;have hd5:=hd4.below b5;clear hmq4 hB4 hD4 hd4
    by_cases hs0:sg≤0
    · have hd0:decide (sg≤0)=true:=decide_eq_true hs0
      have hw2:=Lib.hid (show limK mu ra (k+1)=(o,t) by
       rw[limK_succ,hgt.out,if_neg fun hh=>by have h9:=cmpR_pos.2 hh.1;rw[hsg.out] at h9;omega,hot.out])
      clear hs0;go_wp2;go_roundw
      case rel=>exact⟨k+1,by omega,by go_num,by rw[hw2.out],by rw[hw2.out];exact hmq5,hB5,hbel5⟩
      case measure=>simp[intOf];omega
    · have hd0:decide (sg≤0)=false:=decide_eq_false hs0;have hpos:=Lib.hid (show 0<d.q from cmpR_pos.1 (by rw[hsg.out];omega));have hne:=Lib.hid (show d.q≠0 from fun e=>by have h9:=hpos.out;rw[e] at h9;exact Rat.lt_irrefl h9);clear hs0;have hM:=h.below hbel5;obtain⟨AM,c2,ev,hflm⟩:=hM.mul.fl hM.mf;obtain⟨am,dm1,em,hmb,hm0,hm1,hm2,hfm5,hmk⟩:=hflm.at (k:=k) (by rw[hl'.out];exact hkl);have hgm:=Lib.hid (show mu.getD k 0=dm1.q by rw[←hmu.out,List.getD_eq_getElem?_getD,List.getElem?_map,hmk.out];rfl);have em':=Lib.hid (show s.vm=.slice (some am) s.dm.length c2 by rw[ev,em]);have hlm:(k:Int)<(s.dm.length:Int):=by have:=hl'.out;omega
      have hmF:=Lib.hid (show Fits KN dm1.q by rw[←hgm.out];exact hfm'.out.getD (by decide) k);have hrF:=Lib.hid (show Fits 87381 d.q by rw[←hgt.out];exact hfr'.out.getD (by decide) k);have htF:=Lib.hid (show Fits (KN+87381) (dm1.q / d.q) from hmF.out.div hrF.out);obtain⟨w6,hw6⟩:∃ w6,w6=w5:=⟨_,rfl⟩;subst hw6;have hb6:=hM.b;have hD6:=hD5;have hd6:=hd5;have hfm6:=hfm5;clear hM ev em hflm hD5 hd5 hfm5;go_upto_region 7 with fail
      go_cut [10] (fun v wx=>∃ g t,v=.pointer (some ⟨g,0,none⟩)∧VarQ wx g t∧FV wx t.v t.q∧Hid (t.q=dm1.q / d.q)∧Below w6.heap.size w6 wx∧w6.heap.size≤g)
      case first =>
       have bT:=Below.refl w6.heap.size w6
       have hS:∀ w',Below w6.heap.size w6 w'→w'.cell? ⟨wr.heap.size,0,none⟩=some (.bool d.neg)∧w'.cell? ⟨wr.heap.size,1,none⟩=some (.slice d.a d.la.length d.ca)∧w'.cell? ⟨wr.heap.size,2,none⟩=some (.slice d.b d.lb.length d.cb)∧w'.cell? ⟨S.gs,11,none⟩=some (.slice (some am) s.dm.length c2)∧w'.cell? (am.add (k*3))=some (.bool dm1.neg)∧w'.cell? ⟨(am.add (k*3)).block,(am.add (k*3)).off+1,none⟩=some (.slice dm1.a dm1.la.length dm1.ca)∧w'.cell? ⟨(am.add (k*3)).block,(am.add (k*3)).off+2,none⟩=some (.slice dm1.b dm1.lb.length dm1.cb)∧Below w6.heap.size w6 w':=by
        intro w' o;exact⟨(hD6.below o).cells.1,(hD6.below o).cells.2.1,(hD6.below o).cells.2.2,by rw[←em'.out];exact (hb6.below o).cells.2.2.2.2.2.2.2.2.2.2.2.1,(o.cell (by show (am.add (k*3)).block<_;rw[block_add];exact hmb)).trans hm0,(o.cell (by show (am.add (k*3)).block<_;rw[block_add];exact hmb)).trans hm1,(o.cell (by show (am.add (k*3)).block<_;rw[block_add];exact hmb)).trans hm2,o⟩
       have bo:Below w6.heap.size w6 w6:=Below.refl _ _;have dS:Below w6.heap.size w6 w6.drew:=bo.drew;go_wp2_with fail;refine wp_region_noPanic ?_;refine wp_region_held_drew (S:=fun w'=>w'.cell? ⟨wr.heap.size,0,none⟩=some (.bool d.neg)∧w'.cell? ⟨wr.heap.size,1,none⟩=some (.slice d.a d.la.length d.ca)∧w'.cell? ⟨wr.heap.size,2,none⟩=some (.slice d.b d.lb.length d.cb)∧w'.cell? ⟨S.gs,11,none⟩=some (.slice (some am) s.dm.length c2)∧w'.cell? (am.add (k*3))=some (.bool dm1.neg)∧w'.cell? ⟨(am.add (k*3)).block,(am.add (k*3)).off+1,none⟩=some (.slice dm1.a dm1.la.length dm1.ca)∧w'.cell? ⟨(am.add (k*3)).block,(am.add (k*3)).off+2,none⟩=some (.slice dm1.b dm1.lb.length dm1.cb)∧Below w6.heap.size w6 w') (by kernel_rfl) (hS _ dS) (fun hHeld=>?_);refine tkH 0 rfl hHeld ?_;refine tkH 1 rfl hHeld ?_;refine tkH 2 rfl hHeld ?_;refine tkH 3 rfl hHeld ?_;refine tkH 4 rfl hHeld ?_;refine tkH 5 rfl hHeld ?_;refine tkH 6 rfl hHeld ?_;refine tkH 7 rfl hHeld ?_;refine wpAnyH_ready (rs:=[8,12]) (by kernel_rfl) (by simp) ?_;refine AllReadyH.cons rfl (fun K hK=>?_) ?_
       · go_simp;have dw0:Below w6.heap.size w6 w6.drew:=(Below.refl _ _).drew;replace hfm6:=hfm6.below dw0;replace hd6:=hd6.below dw0;replace bT:=bT.trans (dw0.mono bT.size);replace bo:=bo.trans (dw0.mono bo.size);have hcl:=divF_any hfm6 hd6 hmF.out hrF.out (by decide) hne.out;go_at_call 73;refine (hcl).mono ?_;rintro e u1 ⟨vs,rfl,hvs,bu1⟩;replace hfm6:=hfm6.below bu1;replace hd6:=hd6.below bu1;replace bT:=bT.trans (bu1.mono bT.size);replace bo:=bo.trans (bu1.mono bo.size);clear hcl;obtain⟨gq,rfl,hgq0,hgq⟩:=hvs.frd;clear hvs;go_wp2_with fail;refine hK.out _ _ (hS _ bo) (fun hHeld=>?_);clear hK K;(try simp only[lay]);refine tkH 9 rfl hHeld ?_;refine tkH 10 rfl hHeld ?_;refine tkH 11 rfl hHeld ?_;refine rdH 12 rfl fun K hK=>?_;have hBl:=bT.size;obtain⟨u2,hu2,bu2,lu2,Bu2⟩:=boxed u1 #[.bool false,.slice none 0 0,.slice none 0 0] 28;replace hfm6:=hfm6.below bu2;replace hd6:=hd6.below bu2;replace hgq0:=hgq0.below bu2;replace bT:=bT.trans (bu2.mono bT.size);replace bo:=bo.trans (bu2.mono bo.size);have hA:=Bu2;clear Bu2;go_simp;refine hK.out _ _ (hS _ bo) (fun hHeld=>?_);clear hK K;(try simp only[lay]);refine rdH 13 rfl fun K hK=>?_;have hge:=hBl;have hgs0:=hgq0;obtain⟨u3,q0,q1,q2,f0,f1,f2,eu3,Su3,ou3⟩:=zero_store hA gq;have bT:=ou3.to_below bT hge bT.size;have bo:=ou3.to_below bo hge bo.size;have hgq1:=hgq0.only_blk hA (noDig3 _ _ _ _ _ _ _) ou3;go_simp
         refine hK.out _ _ (hS _ bo) (fun hHeld=>?_);clear hK K;(try simp only[lay]);refine tkH 14 rfl hHeld ?_;refine wpAnyH_done (by kernel_rfl) ?_ _;refine NoPanic.normal ?_;(try go_simp);clear hHeld;go_wp2_with fail;go_meet;exact⟨_,gq,rfl,Su3,hgq1,hgq,bT,hge⟩
       refine AllReadyH.cons rfl (fun K hK=>?_) ?_
       · have hBl:=bT.size;have dw3:Below w6.heap.size w6 w6.drew:=(Below.refl _ _).drew;replace hfm6:=hfm6.below dw3;replace hd6:=hd6.below dw3;replace bT:=bT.trans (dw3.mono bT.size);replace bo:=bo.trans (dw3.mono bo.size);obtain⟨u4,hu4,bu4,lu4,Bu4⟩:=boxed w6.drew #[.bool false,.slice none 0 0,.slice none 0 0] 28;replace hfm6:=hfm6.below bu4;replace hd6:=hd6.below bu4;replace bT:=bT.trans (bu4.mono bT.size);replace bo:=bo.trans (bu4.mono bo.size);replace Bu4:Blk u4 w6.heap.size 28 #[.bool false,.slice none 0 0,.slice none 0 0]:=Bu4;have hA:=Bu4;clear Bu4;go_simp;refine hK.out _ _ (hS _ bo) (fun hHeld=>?_);clear hK K;(try simp only[lay]);refine rdH 8 rfl fun K hK=>?_;go_simp;have hcl:=divF_any hfm6 hd6 hmF.out hrF.out (by decide) hne.out;go_at_call 73;refine (hcl).mono ?_;rintro e u5 ⟨vs,rfl,hvs,bu5⟩;replace hfm6:=hfm6.below bu5;replace hd6:=hd6.below bu5;replace hA:=hA.keep bu5;replace bT:=bT.trans (bu5.mono bT.size);replace bo:=bo.trans (bu5.mono bo.size);clear hcl;obtain⟨gq,rfl,hgq0,hgq⟩:=hvs.frd;clear hvs;go_wp2_with fail;refine hK.out _ _ (hS _ bo) (fun hHeld=>?_);clear hK K;(try simp only[lay]);refine tkH 9 rfl hHeld ?_;refine tkH 10 rfl hHeld ?_;refine tkH 11 rfl hHeld ?_;refine rdH 13 rfl fun K hK=>?_;have hge:=hBl;have hgs0:=hgq0;obtain⟨u6,q0,q1,q2,f0,f1,f2,eu6,Su6,ou6⟩:=zero_store hA gq;have bT:=ou6.to_below bT hge bT.size;have bo:=ou6.to_below bo hge bo.size
         have hgq1:=hgq0.only_blk hA (noDig3 _ _ _ _ _ _ _) ou6;go_simp;refine hK.out _ _ (hS _ bo) (fun hHeld=>?_);clear hK K;(try simp only[lay]);refine tkH 14 rfl hHeld ?_;refine wpAnyH_done (by kernel_rfl) ?_ _;refine NoPanic.normal ?_;(try go_simp);clear hHeld;go_wp2_with fail;go_meet;exact⟨_,gq,rfl,Su6,hgq1,hgq,bT,hge⟩
       exact AllReadyH.nil
      case rest =>
       obtain⟨g,s1,rfl,hT7,ht7,htq7,b7,hgw⟩:=hcut;obtain⟨w7,hw7⟩:∃ w7,w7=wc:=⟨_,rfl⟩;subst hw7;have hbel7:=hbel5.trans (b7.mono hbel5.size);obtain⟨m,hM7,hmv7⟩:=hmq5.below b7;have hB7:=Blk.keep hB5 b7;clear hmq5 hB5 hb6 hD6 hd6 hfm6 hm0 hm1 hm2;have hmv':=Lib.hid hmv7;clear hmv7
       have hws:=Lib.hid (show limK mu ra (k+1)=if 0<d.q∧(o=none∨s1.q<t) then (some k,s1.q) else (o,t) by
        rw[limK_succ,hgt.out,hgm.out,hot.out,htq7.out])
       have hsF:=Lib.hid (show Fits (KN+87381) s1.q by rw[htq7.out];exact htF.out);obtain⟨y0,y1,y2⟩:=hT7.cells;obtain⟨z0,z1,z2⟩:=hM7.cells
       cases o with
       | none =>
        have hw2:=Lib.hid (show limK mu ra (k+1)=(some k,s1.q) by rw[hws.out,if_pos ⟨hpos.out,.inl rfl⟩]);obtain⟨w8,q0,q1,q2,f0,f1,f2,e8,hM8,o8⟩:=hM7.store s1;have hs8:=ht7.onlyV hM7 o8;have hB8:=Blk.only hB7 o8 hg01.out;have hbel8:=o8.to_below hbel7 hg01'.out hbel7.size;clear hM7 ht7 o8 hB7;go_wp2
        go_region
        go_wp2;go_roundw
        case rel=>exact⟨k+1,by omega,by go_num,by rw[hw2.out];rfl,by rw[hw2.out];exact⟨s1,hM8,fun _=>⟨hs8.below (Below.refl _ _).drew,rfl⟩⟩,hB8,hbel8.drew⟩
        case measure=>simp[intOf];omega
       | some j =>
        have hm7:=(hmv'.out (by simp)).1;have hmq7:=Lib.hid (hmv'.out (by simp)).2
        have hmF7:Fits (KN+87381) m.q:=by
         rw[hmq7.out];exact lim_fits (by decide) (by decide) hfm'.out hfr'.out k j t hot.out
        obtain⟨cc,hcc⟩:∃ s',Hid (cmpR s1.q m.q=s'):=⟨_,rfl⟩;have hcm:=cmpF_any ht7 hm7 hsF.out hmF7 (by decide) (by decide);rw[hcc.out] at hcm;have hoi:decide (oi (some j)<0)=false:=decide_eq_false (by show ¬ ((j:Nat):Int)<0;omega);clear hmF7;go_wp2_with fail;refine hcm.mono ?_;rintro e w8 ⟨rfl,b8⟩;clear hcm;have hbel8:=hbel7.trans (b8.mono hbel7.size);have hT8:=hT7.below b8;have hM8:=hM7.below b8;have ht8:=ht7.below b8;have hm8:=hm7.below b8;have hB8:=Blk.keep hB7 b8;clear y0 y1 y2 z0 z1 z2 hT7 hM7 ht7 hm7 hB7;obtain⟨y0,y1,y2⟩:=hT8.cells
        by_cases hc0:cc<0
        · have hd1:decide (cc<0)=true:=decide_eq_true hc0
          have hw2:=Lib.hid (show limK mu ra (k+1)=(some k,s1.q) by
           rw[hws.out,if_pos ⟨hpos.out,.inr (by rw[←hmq7.out];exact cmpR_neg.1 (by rw[hcc.out];exact hc0))⟩])
          clear hc0;obtain⟨w9,q0,q1,q2,f0,f1,f2,e9,hM9,o9⟩:=hM8.store s1;have hs9:=ht8.onlyV hM8 o9;have hB9:=Blk.only hB8 o9 hg01.out;have hbel9:=o9.to_below hbel8 hg01'.out hbel8.size;clear hM8 ht8 o9 hm8 hB8;go_wp2
          go_region
          go_wp2;go_roundw
          case rel=>exact⟨k+1,by omega,by go_num,by rw[hw2.out];rfl,by rw[hw2.out];exact⟨s1,hM9,fun _=>⟨hs9.below (Below.refl _ _).drew,rfl⟩⟩,hB9,hbel9.drew⟩
          case measure=>simp[intOf];omega
        · have hd1:decide (cc<0)=false:=decide_eq_false hc0
          have hw2:=Lib.hid (show limK mu ra (k+1)=(some j,t) by
           rw[hws.out,if_neg fun hh=>hc0 (by
            rcases hh.2 with h9 | h9
            · cases h9
            · rw[←hmq7.out] at h9;rw[←hcc.out];exact cmpR_neg.2 h9)])
          clear hc0;go_wp2;go_roundw
          case rel=>exact⟨k+1,by omega,by go_num,by rw[hw2.out],by rw[hw2.out];exact⟨m,hM8,fun _=>⟨hm8,hmq7.out⟩⟩,hB8,hbel8⟩
          case measure=>simp[intOf];omega
  · obtain rfl:k=rs.length:=by omega
    have hlt':decide ((rs.length:Int)<(rs.length:Int))=false:=decide_eq_false (by omega);obtain⟨m,hM,hmv⟩:=hmq;have hmv':=Lib.hid hmv;clear hmv;obtain⟨x0,x1,x2⟩:=hM.cells;obtain⟨w9,p0,p1,p2,r0,r1,r2,e9,h9,o9⟩:=zero_store hB m;obtain⟨y0,y1,y2⟩:=h9.cells;have hs9:=Lib.hid (show o≠none→FV w9 m.v m.q∧m.q=t from fun ho=>⟨(hmv'.out ho).1.only_blk hB (noDig3 _ _ _ _ _ _ _) o9,(hmv'.out ho).2⟩);have hbel9:=o9.to_below hbel (Nat.le_refl _) hbel.size;clear hM hB;go_wp2
    go_region
    go_wp2;refine bodyPost_ret (v:=.tuple #[.int .i64 (oi o),fracV m.neg m.a m.la.length m.ca m.b m.lb.length m.cb]) (by simp[results,Try.results88,go_sem,show w9.drew.cell? ⟨w.heap.size,0,none⟩=_ from y0,show w9.drew.cell? ⟨w.heap.size,1,none⟩=_ from y1,show w9.drew.cell? ⟨w.heap.size,2,none⟩=_ from y2]) rfl ?_;exact⟨m,by rw[hot.out],fun ho=>by rw[hot.out] at ho ⊢;exact⟨(hs9.out ho).1.below (Below.refl _ _).drew,(hs9.out ho).2⟩,hbel9.drew⟩
end Go.Proofs.Ytjhkapjadfpimaa
