/- Contracts of functions, for the law. -/
import Derived.Test.YtjhkapjadfpimaaWTrim
import Derived.Test.YtjhkapjadfpimaaNVio
import Derived.Test.YtjhkapjadfpimaaFDiv
import Derived.Deep.DeepCutAuto
import Derived.Deep.RegionHeld3
import Derived.Test.YtjhkapjadfpimaaNTot
namespace Go.Proofs.Ytjhkapjadfpimaa
set_option linter.unusedVariables false
set_option linter.unusedSimpArgs false
open Go.RowKit Plain
attribute [local go_sem ↓] Go.wp_at_zero Go.wp_at_succ
def RetLim (r:Option Nat × Rat) (W:World) (e:Ending) (w':World):Prop:=∃ d:FrD,e=.returned (.tuple #[.int .i64 (oi r.1),fracV d.neg d.a d.la.length d.ca d.b d.lb.length d.cb])∧Hid (r.1≠none→FV w' d.v d.q∧d.q=r.2)∧Below W.heap.size W w'
theorem limK_succ (mults rates:List Rat) (j:Nat):limK mults rates (j+1)=if 0 < rates.getD j 0∧((limK mults rates j).1=none∨mults.getD j 0 / rates.getD j 0 < (limK mults rates j).2) then (some j,mults.getD j 0 / rates.getD j 0) else limK mults rates j:=rfl
theorem lim_fits {J K:Nat} {mults rates:List Rat} (hJ:0 < J) (hK:0 < K) (hm:QFits J mults) (hr:QFits K rates):∀ k j t,limK mults rates k=(some j,t)→Fits (J+K) t:=by
 intro k
 induction k with
 | zero=>intro j t e;cases e
 | succ k ih =>
  intro j t e;rw [limK_succ] at e
  split at e
  · injection e with e1 e2
    rw [←e2];exact (hm.getD hJ k).div (hr.getD hK k)
  · exact ih j t e
set_option maxRecDepth 100000 in
set_option maxHeartbeats 4000000 in
theorem limit_any {S:Sv} {s:Sm} {ent:Value} {R:Option Addr} {cr:Nat} {rs:List FrD} {w:World} (h:SolM S s ent w) (hr:FL w R cr rs) (hl:s.dm.length=rs.length) (hfm:QFits KN (s.dm.map FrD.q)) (hfr:QFits 87381 (rs.map FrD.q)) :
 Calls Try.prog 88 #[.pointer (some ⟨S.gs,0,none⟩),.slice R rs.length cr] w (RetLim (limK (s.dm.map FrD.q) (rs.map FrD.q) rs.length) w):=by
 obtain ⟨w0,hw0,b0,l0,B0⟩:=boxed w #[.bool false,.slice none 0 0,.slice none 0 0] 28;obtain ⟨w1,hw1,b1,l1,B1⟩:=boxed w0 #[.bool false,.slice none 0 0,.slice none 0 0] 28;have b01:=b0.trans (b1.mono b0.size);have B01:=Blk.keep B0 b1;have hlen:=hr.len;obtain ⟨mu,hmu⟩:∃ mu,Hid (s.dm.map FrD.q=mu):=⟨_,rfl⟩;obtain ⟨ra,hra⟩:∃ ra,Hid (rs.map FrD.q=ra):=⟨_,rfl⟩;have hl':=Lib.hid hl;have hfm':=Lib.hid (show QFits KN mu by rw [←hmu.out];exact hfm);have hfr':=Lib.hid (show QFits 87381 ra by rw [←hra.out];exact hfr);rw [hmu.out,hra.out];have hmq:MaybeQ w1 w0.heap.size (limK mu ra 0).1 (limK mu ra 0).2:=MaybeQ.zero B1 _;have hg01:=Lib.hid (show w.heap.size≠w0.heap.size by omega);have hg01':=Lib.hid (show w.heap.size≤w0.heap.size by omega);clear hl hfm hfr B1 B0;go_enter Try.func88,Try.ntmps88;go_wp2
 go_loopw [6,14] (fun v i wr=>∃ k:Nat,k≤rs.length∧i=.int .i64 (k:Int)∧v=.int .i64 (oi (limK mu ra k).1)∧MaybeQ wr w0.heap.size (limK mu ra k).1 (limK mu ra k).2∧Blk wr w.heap.size 28 #[.bool false,.slice none 0 0,.slice none 0 0]∧Below w.heap.size w wr) (fun _ i _=>rs.length - (intOf i).toNat)
 case atStart=>exact ⟨0,by omega,rfl,rfl,hmq,B01,b01⟩
 case round =>
  clear hmq B01;obtain ⟨k,hk,rfl,rfl,hmq,hB,hbel⟩:=hrel;obtain ⟨o,t,hot⟩:∃ o t,Hid (limK mu ra k=(o,t)):=⟨_,_,rfl⟩;rw [hot.out] at hmq;rw [hot.out]
  dsimp only at hmq ⊢
  by_cases hkl:k < rs.length
  · have hki:(k:Int) < (rs.length:Int):=by omega
    obtain ⟨a,d,ea,hab,c0,c1,c2,hd,hdk⟩:=(hr.below hbel).at hkl;rw [ea];obtain ⟨wA,w4,eA,p0,p1,p2,r0,r1,r2,eB,hD4,b4,l4⟩:=new_var wr d;have hbel4:=hbel.trans (b4.mono hbel.size);have hmq4:=hmq.below b4;have hB4:=Blk.keep hB b4;have hd4:=hd.below b4;have hgt:=Lib.hid (show ra.getD k 0=d.q by rw [←hra.out,List.getD_eq_getElem?_getD,List.getElem?_map,hdk.out];rfl);obtain ⟨x0,x1,x2⟩:=hD4.cells;obtain ⟨sg,hsg⟩:∃ s',Hid (cmpR d.q 0=s'):=⟨_,rfl⟩;have hcs:=sign_any hd4;rw [hsg.out] at hcs;go_wp2_with fail;refine hcs.mono ?_;rintro e w5 ⟨rfl,b5⟩;clear hcs p0 p1 p2 r0 r1 r2 eA eB c0 c1 c2 x0 x1 x2 hd hmq hB;have hbel5:=hbel4.trans (b5.mono hbel4.size);have hmq5:=hmq4.below b5;have hB5:=Blk.keep hB4 b5;have hD5:=hD4.below b5;have hd5:=hd4.below b5;clear hmq4 hB4 hD4 hd4
    by_cases hs0:sg≤0
    · have hd0:decide (sg≤0)=true:=decide_eq_true hs0
      have hw2:=Lib.hid (show limK mu ra (k+1)=(o,t) by
       rw [limK_succ,hgt.out,if_neg fun hh=>by have h9:=cmpR_pos.2 hh.1;rw [hsg.out] at h9;omega,hot.out])
      clear hs0;go_wp2;go_roundw
      case rel=>exact ⟨k+1,by omega,by go_num,by rw [hw2.out],by rw [hw2.out];exact hmq5,hB5,hbel5⟩
      case measure=>simp [intOf];omega
    · have hd0:decide (sg≤0)=false:=decide_eq_false hs0;have hpos:=Lib.hid (show 0 < d.q from cmpR_pos.1 (by rw [hsg.out];omega));have hne:=Lib.hid (show d.q≠0 from fun e=>by have h9:=hpos.out;rw [e] at h9;exact Rat.lt_irrefl h9);clear hs0;have hM:=h.below hbel5;obtain ⟨AM,c2,ev,hflm⟩:=hM.mul.fl hM.mf;obtain ⟨am,dm1,em,hmb,hm0,hm1,hm2,hfm5,hmk⟩:=hflm.at (k:=k) (by rw [hl'.out];exact hkl);have hgm:=Lib.hid (show mu.getD k 0=dm1.q by rw [←hmu.out,List.getD_eq_getElem?_getD,List.getElem?_map,hmk.out];rfl);have em':=Lib.hid (show s.vm=.slice (some am) s.dm.length c2 by rw [ev,em]);have hlm:(k:Int) < (s.dm.length:Int):=by have:=hl'.out;omega
      have hmF:=Lib.hid (show Fits KN dm1.q by rw [←hgm.out];exact hfm'.out.getD (by decide) k);have hrF:=Lib.hid (show Fits 87381 d.q by rw [←hgt.out];exact hfr'.out.getD (by decide) k);have htF:=Lib.hid (show Fits (KN+87381) (dm1.q / d.q) from hmF.out.div hrF.out);obtain ⟨w6,hw6⟩:∃ w6,w6=w5:=⟨_,rfl⟩;subst hw6;have hb6:=hM.b;have hD6:=hD5;have hd6:=hd5;have hfm6:=hfm5;clear hM ev em hflm hD5 hd5 hfm5;go_upto_region 7 with fail
      go_cut [10] (fun v wx=>∃ g t,v=.pointer (some ⟨g,0,none⟩)∧VarQ wx g t∧FV wx t.v t.q∧Hid (t.q=dm1.q / d.q)∧Below w6.heap.size w6 wx∧w6.heap.size≤g)
      case first =>
       have bT:=Below.refl w6.heap.size w6
       have hS:∀ w',Below w6.heap.size w6 w'→w'.cell? ⟨wr.heap.size,0,none⟩=some (.bool d.neg)∧w'.cell? ⟨wr.heap.size,1,none⟩=some (.slice d.a d.la.length d.ca)∧w'.cell? ⟨wr.heap.size,2,none⟩=some (.slice d.b d.lb.length d.cb)∧w'.cell? ⟨S.gs,11,none⟩=some (.slice (some am) s.dm.length c2)∧w'.cell? (am.add (k*3))=some (.bool dm1.neg)∧w'.cell? ⟨(am.add (k*3)).block,(am.add (k*3)).off+1,none⟩=some (.slice dm1.a dm1.la.length dm1.ca)∧w'.cell? ⟨(am.add (k*3)).block,(am.add (k*3)).off+2,none⟩=some (.slice dm1.b dm1.lb.length dm1.cb)∧Below w6.heap.size w6 w':=by
        intro w' o;exact ⟨(hD6.below o).cells.1,(hD6.below o).cells.2.1,(hD6.below o).cells.2.2,by rw [←em'.out];exact (hb6.below o).cells.2.2.2.2.2.2.2.2.2.2.2.1,(o.cell (by show (am.add (k*3)).block < _;rw [block_add];exact hmb)).trans hm0,(o.cell (by show (am.add (k*3)).block < _;rw [block_add];exact hmb)).trans hm1,(o.cell (by show (am.add (k*3)).block < _;rw [block_add];exact hmb)).trans hm2,o⟩
       have bo:Below w6.heap.size w6 w6:=Below.refl _ _;have dS:Below w6.heap.size w6 w6.drew:=bo.drew;go_wp2_with fail;refine wp_region_noPanic ?_;refine wp_region_held_drew (S:=fun w'=>w'.cell? ⟨wr.heap.size,0,none⟩=some (.bool d.neg)∧w'.cell? ⟨wr.heap.size,1,none⟩=some (.slice d.a d.la.length d.ca)∧w'.cell? ⟨wr.heap.size,2,none⟩=some (.slice d.b d.lb.length d.cb)∧w'.cell? ⟨S.gs,11,none⟩=some (.slice (some am) s.dm.length c2)∧w'.cell? (am.add (k*3))=some (.bool dm1.neg)∧w'.cell? ⟨(am.add (k*3)).block,(am.add (k*3)).off+1,none⟩=some (.slice dm1.a dm1.la.length dm1.ca)∧w'.cell? ⟨(am.add (k*3)).block,(am.add (k*3)).off+2,none⟩=some (.slice dm1.b dm1.lb.length dm1.cb)∧Below w6.heap.size w6 w') (by kernel_rfl) (hS _ dS) (fun hHeld=>?_);refine tkH 0 rfl hHeld ?_;refine tkH 1 rfl hHeld ?_;refine tkH 2 rfl hHeld ?_;refine tkH 3 rfl hHeld ?_;refine tkH 4 rfl hHeld ?_;refine tkH 5 rfl hHeld ?_;refine tkH 6 rfl hHeld ?_;refine tkH 7 rfl hHeld ?_;refine wpAnyH_ready (rs:=[8,12]) (by kernel_rfl) (by simp) ?_;refine AllReadyH.cons rfl (fun K hK=>?_) ?_
       · go_simp;have dw0:Below w6.heap.size w6 w6.drew:=(Below.refl _ _).drew;replace hfm6:=hfm6.below dw0;replace hd6:=hd6.below dw0;replace bT:=bT.trans (dw0.mono bT.size);replace bo:=bo.trans (dw0.mono bo.size);have hcl:=divF_any hfm6 hd6 hmF.out hrF.out (by decide) hne.out;go_at_call 73;refine (hcl).mono ?_;rintro e u1 ⟨vs,rfl,hvs,bu1⟩;replace hfm6:=hfm6.below bu1;replace hd6:=hd6.below bu1;replace bT:=bT.trans (bu1.mono bT.size);replace bo:=bo.trans (bu1.mono bo.size);clear hcl;obtain ⟨gq,rfl,hgq0,hgq⟩:=hvs.frd;clear hvs;go_wp2_with fail;refine hK.out _ _ (hS _ bo) (fun hHeld=>?_);clear hK K;(try simp only [lay]);refine tkH 9 rfl hHeld ?_;refine tkH 10 rfl hHeld ?_;refine tkH 11 rfl hHeld ?_;refine rdH 12 rfl fun K hK=>?_;have hBl:=bT.size;obtain ⟨u2,hu2,bu2,lu2,Bu2⟩:=boxed u1 #[.bool false,.slice none 0 0,.slice none 0 0] 28;replace hfm6:=hfm6.below bu2;replace hd6:=hd6.below bu2;replace hgq0:=hgq0.below bu2;replace bT:=bT.trans (bu2.mono bT.size);replace bo:=bo.trans (bu2.mono bo.size);have hA:=Bu2;clear Bu2;go_simp;refine hK.out _ _ (hS _ bo) (fun hHeld=>?_);clear hK K;(try simp only [lay]);refine rdH 13 rfl fun K hK=>?_;have hge:=hBl;have hgs0:=hgq0;obtain ⟨u3,q0,q1,q2,f0,f1,f2,eu3,Su3,ou3⟩:=zero_store hA gq;have bT:=ou3.to_below bT hge bT.size;have bo:=ou3.to_below bo hge bo.size;have hgq1:=hgq0.only_blk hA (noDig3 _ _ _ _ _ _ _) ou3;go_simp
         refine hK.out _ _ (hS _ bo) (fun hHeld=>?_);clear hK K;(try simp only [lay]);refine tkH 14 rfl hHeld ?_;refine wpAnyH_done (by kernel_rfl) ?_ _;refine NoPanic.normal ?_;(try go_simp);clear hHeld;go_wp2_with fail;go_meet;exact ⟨_,gq,rfl,Su3,hgq1,hgq,bT,hge⟩
       refine AllReadyH.cons rfl (fun K hK=>?_) ?_
       · have hBl:=bT.size;have dw3:Below w6.heap.size w6 w6.drew:=(Below.refl _ _).drew;replace hfm6:=hfm6.below dw3;replace hd6:=hd6.below dw3;replace bT:=bT.trans (dw3.mono bT.size);replace bo:=bo.trans (dw3.mono bo.size);obtain ⟨u4,hu4,bu4,lu4,Bu4⟩:=boxed w6.drew #[.bool false,.slice none 0 0,.slice none 0 0] 28;replace hfm6:=hfm6.below bu4;replace hd6:=hd6.below bu4;replace bT:=bT.trans (bu4.mono bT.size);replace bo:=bo.trans (bu4.mono bo.size);replace Bu4:Blk u4 w6.heap.size 28 #[.bool false,.slice none 0 0,.slice none 0 0]:=Bu4;have hA:=Bu4;clear Bu4;go_simp;refine hK.out _ _ (hS _ bo) (fun hHeld=>?_);clear hK K;(try simp only [lay]);refine rdH 8 rfl fun K hK=>?_;go_simp;have hcl:=divF_any hfm6 hd6 hmF.out hrF.out (by decide) hne.out;go_at_call 73;refine (hcl).mono ?_;rintro e u5 ⟨vs,rfl,hvs,bu5⟩;replace hfm6:=hfm6.below bu5;replace hd6:=hd6.below bu5;replace hA:=hA.keep bu5;replace bT:=bT.trans (bu5.mono bT.size);replace bo:=bo.trans (bu5.mono bo.size);clear hcl;obtain ⟨gq,rfl,hgq0,hgq⟩:=hvs.frd;clear hvs;go_wp2_with fail;refine hK.out _ _ (hS _ bo) (fun hHeld=>?_);clear hK K;(try simp only [lay]);refine tkH 9 rfl hHeld ?_;refine tkH 10 rfl hHeld ?_;refine tkH 11 rfl hHeld ?_;refine rdH 13 rfl fun K hK=>?_;have hge:=hBl;have hgs0:=hgq0;obtain ⟨u6,q0,q1,q2,f0,f1,f2,eu6,Su6,ou6⟩:=zero_store hA gq;have bT:=ou6.to_below bT hge bT.size;have bo:=ou6.to_below bo hge bo.size
         have hgq1:=hgq0.only_blk hA (noDig3 _ _ _ _ _ _ _) ou6;go_simp;refine hK.out _ _ (hS _ bo) (fun hHeld=>?_);clear hK K;(try simp only [lay]);refine tkH 14 rfl hHeld ?_;refine wpAnyH_done (by kernel_rfl) ?_ _;refine NoPanic.normal ?_;(try go_simp);clear hHeld;go_wp2_with fail;go_meet;exact ⟨_,gq,rfl,Su6,hgq1,hgq,bT,hge⟩
       exact AllReadyH.nil
      case rest =>
       obtain ⟨g,s1,rfl,hT7,ht7,htq7,b7,hgw⟩:=hcut;obtain ⟨w7,hw7⟩:∃ w7,w7=wc:=⟨_,rfl⟩;subst hw7;have hbel7:=hbel5.trans (b7.mono hbel5.size);obtain ⟨m,hM7,hmv7⟩:=hmq5.below b7;have hB7:=Blk.keep hB5 b7;clear hmq5 hB5 hb6 hD6 hd6 hfm6 hm0 hm1 hm2;have hmv':=Lib.hid hmv7;clear hmv7
       have hws:=Lib.hid (show limK mu ra (k+1)=if 0 < d.q∧(o=none∨s1.q < t) then (some k,s1.q) else (o,t) by
        rw [limK_succ,hgt.out,hgm.out,hot.out,htq7.out])
       have hsF:=Lib.hid (show Fits (KN+87381) s1.q by rw [htq7.out];exact htF.out);obtain ⟨y0,y1,y2⟩:=hT7.cells;obtain ⟨z0,z1,z2⟩:=hM7.cells
       cases o with
       | none =>
        have hw2:=Lib.hid (show limK mu ra (k+1)=(some k,s1.q) by rw [hws.out,if_pos ⟨hpos.out,.inl rfl⟩]);obtain ⟨w8,q0,q1,q2,f0,f1,f2,e8,hM8,o8⟩:=hM7.store s1;have hs8:=ht7.onlyV hM7 o8;have hB8:=Blk.only hB7 o8 hg01.out;have hbel8:=o8.to_below hbel7 hg01'.out hbel7.size;clear hM7 ht7 o8 hB7;go_wp2
        go_region
        go_wp2;go_roundw
        case rel=>exact ⟨k+1,by omega,by go_num,by rw [hw2.out];rfl,by rw [hw2.out];exact ⟨s1,hM8,fun _=>⟨hs8.below (Below.refl _ _).drew,rfl⟩⟩,hB8,hbel8.drew⟩
        case measure=>simp [intOf];omega
       | some j =>
        have hm7:=(hmv'.out (by simp)).1;have hmq7:=Lib.hid (hmv'.out (by simp)).2
        have hmF7:Fits (KN+87381) m.q:=by
         rw [hmq7.out];exact lim_fits (by decide) (by decide) hfm'.out hfr'.out k j t hot.out
        obtain ⟨cc,hcc⟩:∃ s',Hid (cmpR s1.q m.q=s'):=⟨_,rfl⟩;have hcm:=cmpF_any ht7 hm7 hsF.out hmF7 (by decide) (by decide);rw [hcc.out] at hcm;have hoi:decide (oi (some j) < 0)=false:=decide_eq_false (by show ¬ ((j:Nat):Int) < 0;omega);clear hmF7;go_wp2_with fail;refine hcm.mono ?_;rintro e w8 ⟨rfl,b8⟩;clear hcm;have hbel8:=hbel7.trans (b8.mono hbel7.size);have hT8:=hT7.below b8;have hM8:=hM7.below b8;have ht8:=ht7.below b8;have hm8:=hm7.below b8;have hB8:=Blk.keep hB7 b8;clear y0 y1 y2 z0 z1 z2 hT7 hM7 ht7 hm7 hB7;obtain ⟨y0,y1,y2⟩:=hT8.cells
        by_cases hc0:cc < 0
        · have hd1:decide (cc < 0)=true:=decide_eq_true hc0
          have hw2:=Lib.hid (show limK mu ra (k+1)=(some k,s1.q) by
           rw [hws.out,if_pos ⟨hpos.out,.inr (by rw [←hmq7.out];exact cmpR_neg.1 (by rw [hcc.out];exact hc0))⟩])
          clear hc0;obtain ⟨w9,q0,q1,q2,f0,f1,f2,e9,hM9,o9⟩:=hM8.store s1;have hs9:=ht8.onlyV hM8 o9;have hB9:=Blk.only hB8 o9 hg01.out;have hbel9:=o9.to_below hbel8 hg01'.out hbel8.size;clear hM8 ht8 o9 hm8 hB8;go_wp2
          go_region
          go_wp2;go_roundw
          case rel=>exact ⟨k+1,by omega,by go_num,by rw [hw2.out];rfl,by rw [hw2.out];exact ⟨s1,hM9,fun _=>⟨hs9.below (Below.refl _ _).drew,rfl⟩⟩,hB9,hbel9.drew⟩
          case measure=>simp [intOf];omega
        · have hd1:decide (cc < 0)=false:=decide_eq_false hc0
          have hw2:=Lib.hid (show limK mu ra (k+1)=(some j,t) by
           rw [hws.out,if_neg fun hh=>hc0 (by
            rcases hh.2 with h9 | h9
            · cases h9
            · rw [←hmq7.out] at h9;rw [←hcc.out];exact cmpR_neg.2 h9)])
          clear hc0;go_wp2;go_roundw
          case rel=>exact ⟨k+1,by omega,by go_num,by rw [hw2.out],by rw [hw2.out];exact ⟨m,hM8,fun _=>⟨hm8,hmq7.out⟩⟩,hB8,hbel8⟩
          case measure=>simp [intOf];omega
  · obtain rfl:k=rs.length:=by omega
    have hlt':decide ((rs.length:Int) < (rs.length:Int))=false:=decide_eq_false (by omega);obtain ⟨m,hM,hmv⟩:=hmq;have hmv':=Lib.hid hmv;clear hmv;obtain ⟨x0,x1,x2⟩:=hM.cells;obtain ⟨w9,p0,p1,p2,r0,r1,r2,e9,h9,o9⟩:=zero_store hB m;obtain ⟨y0,y1,y2⟩:=h9.cells;have hs9:=Lib.hid (show o≠none→FV w9 m.v m.q∧m.q=t from fun ho=>⟨(hmv'.out ho).1.only_blk hB (noDig3 _ _ _ _ _ _ _) o9,(hmv'.out ho).2⟩);have hbel9:=o9.to_below hbel (Nat.le_refl _) hbel.size;clear hM hB;go_wp2
    go_region
    go_wp2;refine bodyPost_ret (v:=.tuple #[.int .i64 (oi o),fracV m.neg m.a m.la.length m.ca m.b m.lb.length m.cb]) (by simp [results,Try.results88,go_sem,show w9.drew.cell? ⟨w.heap.size,0,none⟩=_ from y0,show w9.drew.cell? ⟨w.heap.size,1,none⟩=_ from y1,show w9.drew.cell? ⟨w.heap.size,2,none⟩=_ from y2]) rfl ?_;exact ⟨m,by rw [hot.out],fun ho=>by rw [hot.out] at ho ⊢;exact ⟨(hs9.out ho).1.below (Below.refl _ _).drew,(hs9.out ho).2⟩,hbel9.drew⟩
end Go.Proofs.Ytjhkapjadfpimaa
namespace Go.Proofs.Ytjhkapjadfpimaa
set_option linter.unusedVariables false
set_option linter.unusedSimpArgs false
open Go.RowKit Plain
def listsN (L:Nat):Nat→List (List Nat)
 | 0=>[[]]
 | n+1=>[] :: (listsN L n).flatMap fun l=>(List.range L).map fun a=>a :: l
theorem listsN_nil (L n:Nat):[] ∈ listsN L n:=by cases n <;> simp [listsN]
theorem mem_listsN {L:Nat}:∀ {n:Nat} {l:List Nat},l.length≤n→(∀ a ∈ l,a < L)→l ∈ listsN L n:=by
 intro n
 induction n with
 | zero =>
  intro l h1 h2;have:l=[]:=List.eq_nil_of_length_eq_zero (by omega);subst this;exact listsN_nil _ _
 | succ n ih =>
  intro l h1 h2
  cases l with
  | nil=>exact listsN_nil _ _
  | cons a l =>
   refine List.mem_cons_of_mem _ (List.mem_flatMap.2 ⟨l,ih (by simp at h1;omega) fun b hb=>h2 b (List.mem_cons_of_mem _ hb),List.mem_map.2 ⟨a,List.mem_range.2 (h2 a List.mem_cons_self),rfl⟩⟩)
theorem countP_le' {α:Type} {p q:α→Bool}:∀ {l:List α},(∀ a ∈ l,p a=true→q a=true)→l.countP p≤l.countP q:=fun {l} h=>by
 induction l with
 | nil=>exact Nat.le_refl _
 | cons a l ih =>
  rw [List.countP_cons,List.countP_cons];have h1:=ih fun b hb=>h b (List.mem_cons_of_mem _ hb);have h2:=h a List.mem_cons_self
  cases hp:p a with
  | false=>simp;omega
  | true=>rw [h2 hp];simp;omega
theorem countP_lt {α:Type} {p q:α→Bool} {b:α}:∀ {l:List α},(∀ a ∈ l,p a=true→q a=true)→b ∈ l→p b=false→q b=true→l.countP p < l.countP q:=fun {l} h hb h1 h2=>by
 induction l with
 | nil=>cases hb
 | cons a l ih =>
  rw [List.countP_cons,List.countP_cons]
  rcases List.mem_cons.1 hb with rfl | hb
  · have h3:=countP_le' (l:=l) fun c hc=>h c (List.mem_cons_of_mem _ hc);rw [h1,h2];simp;omega
  · have h3:=ih (fun c hc=>h c (List.mem_cons_of_mem _ hc)) hb;have h4:=h a List.mem_cons_self
    cases hp:p a with
    | false=>simp;omega
    | true=>rw [h4 hp];simp;omega
section
variable {n k:Nat} {all:List Con} {tg:List Rat} {sum m:Rat} {s:St}
def FinV (n:Nat) (all:List Con) (tg:List Rat) (sum:Rat) (A:List Nat) (D:Rat):Prop:=∃ s:St,s.active=A∧(∃ k,Okk n all tg sum s k 0)∧distV n tg s.x=D
theorem FinV.unique {A:List Nat} {D D':Rat} (h:FinV n all tg sum A D) (h':FinV n all tg sum A D'):D=D':=by
 obtain ⟨s,rfl,⟨k,hk⟩,rfl⟩:=h;obtain ⟨s',e,⟨k',hk'⟩,rfl⟩:=h';have hp:=hk'.pt;rw [e] at hp;have hu:=(Pt.unique hk.li hk.pt hp).1;unfold distV;exact ip_congr (fun i hi=>by rw [hu i hi]) fun i hi=>by rw [hu i hi]
open Classical in
noncomputable def cntV (n:Nat) (all:List Con) (tg:List Rat) (sum:Rat) (D:Rat):Nat:=(listsN all.length 8).countP fun A=>decide (∃ D',FinV n all tg sum A D'∧D < D')
theorem cntV_lt {D D':Rat} {A:List Nat} (hA:A ∈ listsN all.length 8) (h:FinV n all tg sum A D') (hD:D < D'):cntV n all tg sum D' < cntV n all tg sum D:=by
 classical
 unfold cntV;refine countP_lt (b:=A) (fun B _ hB=>?_) hA ?_ ?_
 · have hB:=of_decide_eq_true hB;obtain ⟨E,h1,h2⟩:=hB;exact decide_eq_true ⟨E,h1,by grind⟩
 · refine decide_eq_false fun ⟨E,h1,h2⟩=>?_;rw [h.unique h1] at h2;exact Rat.lt_irrefl h2
 · exact decide_eq_true ⟨D',h,hD⟩
structure Best (n:Nat) (all:List Con) (tg:List Rat) (sum:Rat) (s:St):Prop where
 hA:∀ a ∈ s.active,a < all.length
 lx:s.x.length=n
 lm:s.mults.length=s.active.length
 li:0 < n→LI (s.active.length+1) n (fn (normalsS n all s.active))
 pt:Pt (s.active.length+1) n (fn (normalsS n all s.active)) (gt (sum :: s.active.map (lst all))) (gt tg) (gt (s.level :: s.mults)) (gt s.x) (fun _=>0) 0
 nn:∀ j,j < s.mults.length→0≤gt s.mults j
 ok:∀ k,k < all.length→lst all k≤ip n (gt (nrm all k)) (gt s.x)
 act:n≤8→s.active.length≤7
 fit:QFits KN s.x∧Fits KN s.level∧QFits KN s.mults
theorem Okk.entering (h:Okk n all tg sum s k 0) (k':Nat):Okk n all tg sum s k' 0 :=
 ⟨h.hA,h.lx,h.lm,h.li,⟨fun i hi=>by rw [h.pt.kkt i hi];grind,h.pt.eqs⟩,h.nn⟩
theorem Okk.best (h:Okk n all tg sum s k 0) (hf:OkS KN n all s) (ok:∀ k,k < all.length→lst all k≤ip n (gt (nrm all k)) (gt s.x)):Best n all tg sum s :=
 ⟨h.hA,h.lx,h.lm,fun _=>h.li,⟨fun i hi=>by rw [h.pt.kkt i hi];grind,h.pt.eqs⟩,h.nn,ok,fun _=>hf.la,hf.x,hf.lev,hf.mults⟩
theorem Okk.oks0 (h:ConI n all) (hn:n≤8) (ht:QFits 2 tg) (hs:Fits 2 sum) (ok:Okk n all tg sum s k 0):okS KN n all s=true:=by
 obtain ⟨h1,h2⟩:=pt_fits (y:=gt (s.level :: s.mults)) (x:=gt s.x) (v:=fun _=>0) h ok.hA hn ht hs ok.li ⟨fun i hi=>by rw [ok.pt.kkt i hi];grind,ok.pt.eqs⟩;have hp8:s.active.length+1≤8:=Nat.le_trans ok.li.le hn;refine okS_iff.2 ⟨QFits.of_gt (N:=n) (by rw [ok.lx];exact Nat.le_refl _) fun i hi=>(h2 i hi).mono (by decide),(h1 0 (by omega)).mono (by decide),QFits.of_gt (N:=s.active.length) (by rw [ok.lm];exact Nat.le_refl _) fun i hi=>(h1 (i+1) (by omega)).mono (by decide),ok.lx,ok.lm,by omega,ok.hA⟩
theorem runS_eq {f : Nat} (ho : okS KN n all s = true) : runS KN n all (f + 1) s = match (worstK all s.x all.length).1 with
      | none => some (some s)
      | some k => match satR KN n all k f s 0 with
        | none => none
        | some none => some none
        | some (some t) => runS KN n all f t := by
  show (if okS KN n all s = true then _ else none) = _
  rw [if_pos ho]; rfl
theorem run_ok (h:ConI n all) (hn:n≤8) (ht:QFits 2 tg) (hs:Fits 2 sum):∀ (c f:Nat) (s:St),Okk n all tg sum s 0 0→cntV n all tg sum (distV n tg s.x)≤c→c+10≤f →
 (runS KN n all f s=some none∧Infeas n all sum)∨∃ t,runS KN n all f s=some (some t)∧Best n all tg sum t:=by
 intro c
 induction c with
 | zero =>
  intro f s ok hc hf;obtain ⟨f,rfl⟩:∃ g,f=g+1:=⟨f - 1,by omega⟩;have ho:=ok.oks0 h hn ht hs;rw [runS_eq ho];have hw:=worst_ok all s.x all.length;obtain ⟨o,D,hoD⟩:∃ o D,worstK all s.x all.length=(o,D):=⟨_,_,rfl⟩;rw [hoD] at hw ⊢
  cases o with
  | none=>exact .inr ⟨s,rfl,ok.best (okS_iff.1 ho) fun k hk=>by rw [←dotR_ip (h.len.nrm hk) ok.lx];exact hw k hk⟩
  | some k =>
   have hp8:s.active.length+1≤8:=Nat.le_trans ok.li.le hn;have hx:ip n (gt (nrm all k)) (gt s.x) < lst all k:=by rw [←dotR_ip (h.len.nrm hw.1) ok.lx];exact hw.2
   rcases sat_ok h hw.1 hn ht hs 8 f s 0 (by omega) (by omega) (ok.entering k) Rat.le_refl (Fits.zero (by decide)) hx with ⟨h1,h2⟩ | ⟨t,h1,h2,h3⟩
   · dsimp only;rw [h1];exact .inl ⟨rfl,h2⟩
   · exfalso
     rw [DV_zero] at h3;have hpt:t.active.length+1≤8:=Nat.le_trans (h2 0).li.le hn;have:=cntV_lt (mem_listsN (by omega) (h2 0).hA) ⟨t,rfl,⟨0,h2 0⟩,rfl⟩ h3;omega
 | succ c ih =>
  intro f s ok hc hf;obtain ⟨f,rfl⟩:∃ g,f=g+1:=⟨f - 1,by omega⟩;have ho:=ok.oks0 h hn ht hs;rw [runS_eq ho];have hw:=worst_ok all s.x all.length;obtain ⟨o,D,hoD⟩:∃ o D,worstK all s.x all.length=(o,D):=⟨_,_,rfl⟩;rw [hoD] at hw ⊢
  cases o with
  | none=>exact .inr ⟨s,rfl,ok.best (okS_iff.1 ho) fun k hk=>by rw [←dotR_ip (h.len.nrm hk) ok.lx];exact hw k hk⟩
  | some k =>
   have hp8:s.active.length+1≤8:=Nat.le_trans ok.li.le hn;have hx:ip n (gt (nrm all k)) (gt s.x) < lst all k:=by rw [←dotR_ip (h.len.nrm hw.1) ok.lx];exact hw.2
   rcases sat_ok h hw.1 hn ht hs 8 f s 0 (by omega) (by omega) (ok.entering k) Rat.le_refl (Fits.zero (by decide)) hx with ⟨h1,h2⟩ | ⟨t,h1,h2,h3⟩
   · dsimp only;rw [h1];exact .inl ⟨rfl,h2⟩
   · dsimp only;rw [h1]
     rw [DV_zero] at h3;have hpt:t.active.length+1≤8:=Nat.le_trans (h2 0).li.le hn;have h4:=cntV_lt (mem_listsN (by omega) (h2 0).hA) ⟨t,rfl,⟨0,h2 0⟩,rfl⟩ h3;exact ih f t (h2 0) (by omega) (by omega)
theorem sm_const (n:Nat) (c:Rat):sm n (fun _=>c)=(n:Rat)*c:=by
 induction n with
 | zero=>show (0:Rat)=_;simp
 | succ n ih =>
  show sm n (fun _=>c)+c=_
  rw [ih,Rat.natCast_add]
  grind
theorem sumR_sm (l:List Rat):sumR l=sm l.length (gt l):=foldl_sm l
theorem start_ok (hn0:0 < n) (hl:tg.length=n):Okk n all tg sum (startS tg sum n) 0 0:=by
 have hnq:(n:Rat)≠0:=by
  intro e;have:(n:Rat)=((0:Nat):Rat):=by rw [e];rfl
  have:=Rat.natCast_inj.1 this;omega
 have hx:∀ i,i < n→gt (startS tg sum n).x i=gt tg i+(sum - sumR tg) / (n:Rat):=fun i hi=>by
  show gt (tg.map fun q=>q+(sum - sumR tg) / (n:Rat)) i=_
  unfold gt;rw [getD_of 0 (by simpa [hl] using hi),getD_of 0 (by omega),List.getElem_map]
 refine ⟨fun a ha=>(by cases ha),(by show (tg.map _).length=n;rw [List.length_map,hl]),rfl,?_,⟨fun i hi=>?_,fun j hj=>?_⟩,fun j hj=>(by cases hj)⟩
 · intro c hc j hj;have hj0:j=0:=by have:j < 0+1:=hj;omega
   subst hj0;have h1:=hc 0 hn0;have h2:(0:Rat)+c 0*fn (normalsS n all []) 0 0=0:=h1;rw [fn_ones n all [] hn0] at h2
   grind
 · rw [hx i hi];have h2:lc ((startS tg sum n).active.length+1) (gt ((startS tg sum n).level :: (startS tg sum n).mults)) (fn (normalsS n all (startS tg sum n).active)) i=0+(sum - sumR tg) / (n:Rat)*fn (normalsS n all []) 0 i:=rfl;rw [h2,fn_ones n all [] hi];grind
 · have hj0:j=0:=by have:j < 0+1:=hj;omega
   subst hj0
   show ip n (fn (normalsS n all []) 0) (gt (startS tg sum n).x)=sum
   rw [ip_congr (a':=fun _=>1) (b':=fun i=>gt tg i+(sum - sumR tg) / (n:Rat)) (fun i hi=>fn_ones n all [] hi) hx];unfold ip;rw [sm_congr (g:=fun i=>gt tg i+(sum - sumR tg) / (n:Rat)) (fun i _=>by grind),sm_add,sm_const,←hl,←sumR_sm,hl]
   grind
theorem proj_ok (h:ConI n all) (hn:n≤8) (ht:QFits 2 tg) (hs:Fits 2 sum) (hl:tg.length=n):∃ f,(projS KN all tg sum n f=some none∧Infeas n all sum)∨∃ t,projS KN all tg sum n f=some (some t)∧Best n all tg sum t:=by
 by_cases h0:n=0
 · subst h0;have htg:tg=[]:=List.eq_nil_of_length_eq_zero hl;subst htg;refine ⟨0,?_⟩;unfold projS;rw [if_pos rfl];have hw:=worst_ok all [] all.length;obtain ⟨o,D,hoD⟩:∃ o D,worstK all [] all.length=(o,D):=⟨_,_,rfl⟩;rw [hoD] at hw ⊢;have hsum:sumR ([]:List Rat)=0:=rfl;have hdot:∀ k,k < all.length→dotR (nrm all k) []=0:=fun k hk=>by rw [dotR_ip (n:=0) (h.len.nrm hk) rfl];rfl
   cases o with
   | none =>
    by_cases hz:sum - sumR ([]:List Rat)=0
    · rw [if_pos ⟨hz,rfl⟩];refine .inr ⟨_,rfl,⟨fun a ha=>(by cases ha),rfl,rfl,fun h=>(by omega),⟨fun i hi=>(by omega),fun j hj=>?_⟩,fun j hj=>(by cases hj),fun k hk=>?_,fun _=>(by decide:(0:Nat)≤7),fun q hq=>(by cases hq),Fits.zero (by decide),fun q hq=>(by cases hq)⟩⟩
      · have hj0:j=0:=by have:j < 0+1:=hj;omega
        subst hj0
        show (0:Rat)=sum
        rw [hsum] at hz;grind
      · have:=hw k hk;rw [hdot k hk] at this;exact this
    · rw [if_neg fun hh=>hz hh.1];refine .inl ⟨rfl,fun u hu h1 _=>hz ?_⟩;have h2:(0:Rat)=sum:=h1;rw [hsum];grind
   | some k =>
    rw [if_neg fun hh=>by cases hh.2];refine .inl ⟨rfl,fun u hu _ h2=>?_⟩;have h3:=h2 k hw.1;have h4:=hw.2;rw [hdot k hw.1] at h4;have h5:lst all k≤0:=h3
    grind
 · have hok:=start_ok (all:=all) (sum:=sum) (show 0 < n by omega) hl;refine ⟨cntV n all tg sum (distV n tg (startS tg sum n).x)+10,?_⟩;unfold projS;rw [if_neg h0];exact run_ok h hn ht hs _ _ _ hok (Nat.le_refl _) (Nat.le_refl _)
end
end Go.Proofs.Ytjhkapjadfpimaa
