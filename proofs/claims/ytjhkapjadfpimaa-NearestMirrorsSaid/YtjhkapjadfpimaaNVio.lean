/- Contracts of functions, for the law. -/
import Derived.Test.YtjhkapjadfpimaaWTrim
import Derived.Test.YtjhkapjadfpimaaNTrn
import Derived.Test.YtjhkapjadfpimaaNTot
import Derived.Test.YtjhkapjadfpimaaFSub
import Derived.Test.YtjhkapjadfpimaaFCmp
import Derived.Test.YtjhkapjadfpimaaMSmall
import Derived.Deep.DeepCutAuto
import Derived.Deep.RegionHeld3
namespace Go.Proofs.Ytjhkapjadfpimaa
set_option linter.unusedVariables false
set_option linter.unusedSimpArgs false
open Go.RowKit Plain
attribute [local go_sem ↓] Go.wp_at_zero Go.wp_at_succ
theorem worst_succ (all:List Con) (x:List Rat) (k:Nat):worstK all x (k+1)=if 0<lst all k-dotR (nrm all k) x∧((worstK all x k).1=none∨(worstK all x k).2<lst all k-dotR (nrm all k) x) then (some k,lst all k-dotR (nrm all k) x) else worstK all x k:=rfl
theorem worst_fits {n:Nat}{all:List Con}{x:List Rat}(hc:ConI n all) (hn:n≤8) (hx:QFits KN x):∀ k,k≤all.length→∀ j t,worstK all x k=(some j,t)→Fits (2+(1+8*(KN+KN+1))+1) t:=by
 intro k
 induction k with
 | zero=>intro _ j t e;cases e
 | succ k ih =>
  intro hk j t e;rw[worst_succ] at e
  split at e
  · injection e with e1 e2
    rw[←e2];exact (hc.lstk (by omega)).sub (dot_fits (fun q hq=>((hc.nrmk (by omega) q hq).fits (by decide)).mono (by decide)) hx (by rw[hc.len.nrm (by omega)];exact hn))
  · exact ih (by omega) j t e
set_option maxRecDepth 100000 in
set_option maxHeartbeats 4000000 in
theorem violated_any {S:Sv}{dx:List FrD}{lv:FrD}{va vm ent:Value}{w:World}(h:SolB S dx lv va vm ent w) (hc:ConI S.n (S.cs.map CoD.con)) (hl:dx.length=S.n) (hn:S.n≤8) (hf:QFits KN (dx.map FrD.q)) :
 Calls Try.prog 72 #[.pointer (some ⟨S.gs,0,none⟩)] w (RetI (oi (worstK (S.cs.map CoD.con) (dx.map FrD.q) S.cs.length).1) w):=by
 obtain⟨w1,hw1,b1,l1,B1⟩:=boxed w #[.bool false,.slice none 0 0,.slice none 0 0] 28;have hb1:=h.below b1;obtain⟨s0,s1,s2,s3,s4,s5,s6,s7,s8,s9,s10,s11,s12⟩:=hb1.cells;have hlen:=h.all.len;obtain⟨L,hL⟩:∃ L,Hid (S.cs.length=L):=⟨_,rfl⟩;obtain⟨all,hall⟩:∃ all,Hid (S.cs.map CoD.con=all):=⟨_,rfl⟩;obtain⟨x,hx⟩:∃ x,Hid (dx.map FrD.q=x):=⟨_,rfl⟩;have hc':=Lib.hid hc;have hl':=Lib.hid hl;have hxf:=Lib.hid (show ∀ d∈dx,Fits KN d.q from QFits.fr0 hf);have hxF:=Lib.hid (show QFits KN x by rw[←hx.out];exact hf);rw[hall.out,hx.out];have hmq:MaybeQ w1 w.heap.size (worstK all x 0).1 (worstK all x 0).2:=MaybeQ.zero B1 _;clear hc hl hf B1;go_enter Try.func72,Try.ntmps72;go_wp2;rw[hL.out];rw[hL.out] at hlen
 go_loopw [3,13] (fun v i wr=>∃ k:Nat,k≤L∧i=.int .i64 (k:Int)∧v=.int .i64 (oi (worstK all x k).1)∧MaybeQ wr w.heap.size (worstK all x k).1 (worstK all x k).2∧Below w.heap.size w wr) (fun _ i _=>L-(intOf i).toNat)
 case atStart=>exact⟨0,by omega,rfl,rfl,hmq,b1⟩
 case round =>
  clear hmq s0 s1 s2 s3 s4 s5 s6 s7 s8 s9 s10 s11 s12;obtain⟨k,hk,rfl,rfl,hmq,hbel⟩:=hrel;obtain⟨o,t,hot⟩:∃ o t,Hid (worstK all x k=(o,t)):=⟨_,_,rfl⟩;rw[hot.out] at hmq;rw[hot.out]
  dsimp only at hmq ⊢
  by_cases hkl:k<L
  · have hki:(k:Int)<(L:Int):=by omega
    have hb:=h.below hbel;obtain⟨a,c,ea,hab,c0,c1,c2,c3,hfl,hfv,hck⟩:=hb.all.at (k:=k) (by rw[hL.out];exact hkl);rw[ea];obtain⟨wA,w4,eA,p0,p1,p2,p3,r0,r1,r2,r3,eB,hV4,b4,l4⟩:=new_con wr c;have hbel4:=hbel.trans (b4.mono hbel.size);have hb4:=hb.below b4;have hmq4:=hmq.below b4;have hfl4:=hfl.below b4;have hfv4:=hfv.below b4;have hkk:=Lib.hid (show all[k]?=some c.con by rw[←hall.out,List.getElem?_map,hck.out];rfl);have hxl4:FL w4 (some ⟨S.gx,0,none⟩) S.cx dx:=hb4.xo.fl hb4.xf;have hkL:=Lib.hid (show k<(S.cs.map CoD.con).length by rw[List.length_map,hL.out];exact hkl)
    have hnl:=Lib.hid (show c.r.ds.length=S.n by
     have h1:=hc'.out.len.nrm hkL.out;rw[hall.out,nrm_of hkk.out] at h1;have h2:(c.r.ds.map FrD.q).length=S.n:=h1;rw[List.length_map] at h2;exact h2)
    have hni:=Lib.hid (show QFits 1 (c.r.ds.map FrD.q) from fun q hq=>by
     have h1:=hc'.out.nrmk hkL.out;rw[hall.out,nrm_of hkk.out] at h1;exact (h1 q hq).fits (by decide))
    have hcf:=Lib.hid (show (∀ d∈c.r.ds,Fits KN d.q)∧Fits 2 c.l.q∧Fits (1+8*(KN+KN+1)) (dotR (nrm all k) x) from
     ⟨fun d hd=>(QFits.fr0 hni.out d hd).mono (by decide),by
      have h1:=hc'.out.lstk hkL.out;rw[hall.out,lst_of hkk.out] at h1;exact h1,dot_fits (by rw[nrm_of hkk.out];exact hni.out.mono (by decide)) hxF.out (by rw[nrm_of hkk.out];show (c.r.ds.map FrD.q).length≤8;rw[List.length_map,hnl.out];exact hn)⟩)
    have hdb:=Lib.hid (show 1+(c.r.ds.length+1)*(KN+KN+1)<400000000 by rw[hnl.out];have h1:=Nat.mul_le_mul_right (KN+KN+1) (show S.n+1≤9 by omega);show 1+(S.n+1)*20000001<400000000;have h2:(S.n+1)*20000001≤9*20000001:=h1;omega);have hdq:=Lib.hid (show sumR (prods c.r.ds dx)=dotR (nrm all k) x by rw[prods_dot,nrm_of hkk.out,←hx.out];rfl);have hsf:=Lib.hid (show Fits (2+(1+8*(KN+KN+1))+1) (c.l.q-dotR (nrm all k) x) from hcf.out.2.1.sub hcf.out.2.2);clear hb hfl hfv hmq;go_upto_region 6 with fail;clear p0 p1 p2 p3 r0 r1 r2 r3 eA eB c0 c1 c2 c3
    go_cut [7] (fun v wx=>∃ g s,v=.pointer (some ⟨g,0,none⟩)∧VarQ wx g s∧FV wx s.v s.q∧Hid (s.q=c.l.q-dotR (nrm all k) x)∧Below w4.heap.size w4 wx∧w4.heap.size≤g)
    case first =>
     have bT:=Below.refl w4.heap.size w4
     have hS:∀ w',Below w4.heap.size w4 w'→w'.cell? ⟨wr.heap.size,0,none⟩=some (.slice c.r.a c.r.ds.length c.r.c)∧w'.cell? ⟨wr.heap.size,1,none⟩=some (.bool c.l.neg)∧w'.cell? ⟨wr.heap.size,2,none⟩=some (.slice c.l.a c.l.la.length c.l.ca)∧w'.cell? ⟨wr.heap.size,3,none⟩=some (.slice c.l.b c.l.lb.length c.l.cb)∧w'.cell? ⟨S.gs,3,none⟩=some (.slice (some ⟨S.gx,0,none⟩) dx.length S.cx)∧Below w4.heap.size w4 w':=by
      intro w' o;exact⟨(hV4.below o).cells.1,(hV4.below o).cells.2.1,(hV4.below o).cells.2.2.1,(hV4.below o).cells.2.2.2,(hb4.below o).cells.2.2.2.1,o⟩
     have bo:Below w4.heap.size w4 w4:=Below.refl _ _;have dS:Below w4.heap.size w4 w4.drew:=bo.drew;go_wp2_with fail;refine wp_region_noPanic ?_;refine wp_region_held_drew (S:=fun w'=>w'.cell? ⟨wr.heap.size,0,none⟩=some (.slice c.r.a c.r.ds.length c.r.c)∧w'.cell? ⟨wr.heap.size,1,none⟩=some (.bool c.l.neg)∧w'.cell? ⟨wr.heap.size,2,none⟩=some (.slice c.l.a c.l.la.length c.l.ca)∧w'.cell? ⟨wr.heap.size,3,none⟩=some (.slice c.l.b c.l.lb.length c.l.cb)∧w'.cell? ⟨S.gs,3,none⟩=some (.slice (some ⟨S.gx,0,none⟩) dx.length S.cx)∧Below w4.heap.size w4 w') (by kernel_rfl) (hS _ dS) (fun hHeld=>?_);refine tkH 0 rfl hHeld ?_;refine tkH 1 rfl hHeld ?_;refine tkH 2 rfl hHeld ?_;refine tkH 3 rfl hHeld ?_;refine tkH 4 rfl hHeld ?_;refine tkH 5 rfl hHeld ?_;refine tkH 6 rfl hHeld ?_;refine tkH 7 rfl hHeld ?_;refine wpAnyH_ready (rs:=[8,10]) (by kernel_rfl) (by simp) ?_;refine AllReadyH.cons rfl (fun K hK=>?_) ?_
     · go_simp;have dw0:Below w4.heap.size w4 w4.drew:=(Below.refl _ _).drew;replace hfv4:=hfv4.below dw0;replace hfl4:=hfl4.below dw0;replace hxl4:=hxl4.below dw0;replace bT:=bT.trans (dw0.mono bT.size);replace bo:=bo.trans (dw0.mono bo.size);have hcl:=dotF_any (K:=KN) hfl4 hxl4 hcf.out.1 hxf.out hdb.out;rw[hdq.out] at hcl;go_at_call 85;refine (hcl).mono ?_;rintro e u1 ⟨vd,rfl,hvd,bu1⟩;replace hfv4:=hfv4.below bu1;replace hfl4:=hfl4.below bu1;replace hxl4:=hxl4.below bu1;replace bT:=bT.trans (bu1.mono bT.size);replace bo:=bo.trans (bu1.mono bo.size);clear hcl;go_wp2_with fail;refine hK.out _ _ (hS _ bo) (fun hHeld=>?_);clear hK K;(try simp only[lay]);refine wpAnyH_ready (rs:=[9,10]) (by kernel_rfl) (by simp) ?_;refine AllReadyH.cons rfl (fun K hK=>?_) ?_
       · go_simp;have hcl:=subF_any hfv4 hvd hcf.out.2.1 hcf.out.2.2 (by decide);go_at_call 34;refine (hcl).mono ?_;rintro e u2 ⟨vs,rfl,hvs,bu2⟩;replace hfv4:=hfv4.below bu2;replace hfl4:=hfl4.below bu2;replace hxl4:=hxl4.below bu2;replace hvd:=hvd.below bu2;replace bT:=bT.trans (bu2.mono bT.size);replace bo:=bo.trans (bu2.mono bo.size);clear hcl;obtain⟨gs,rfl,hgs,hgq⟩:=hvs.frd;clear hvs;go_wp2_with fail;refine hK.out _ _ (hS _ bo) (fun hHeld=>?_);clear hK K;(try simp only[lay]);refine rdH 10 rfl fun K hK=>?_;have hBl:=bT.size;obtain⟨u3,hu3,bu3,lu3,Bu3⟩:=boxed u2 #[.bool false,.slice none 0 0,.slice none 0 0] 28;replace hfv4:=hfv4.below bu3;replace hfl4:=hfl4.below bu3;replace hxl4:=hxl4.below bu3;replace hvd:=hvd.below bu3;replace hgs:=hgs.below bu3;replace bT:=bT.trans (bu3.mono bT.size);replace bo:=bo.trans (bu3.mono bo.size);have hA:=Bu3;clear Bu3;go_simp;refine hK.out _ _ (hS _ bo) (fun hHeld=>?_);clear hK K;(try simp only[lay]);refine rdH 11 rfl fun K hK=>?_;have hge:=hBl;obtain⟨u4,q0,q1,q2,f0,f1,f2,eu4,Su4,ou4⟩:=zero_store hA gs;have bT:=ou4.to_below bT hge bT.size;have bo:=ou4.to_below bo hge bo.size;replace hgs:=hgs.only_blk hA (noDig3 _ _ _ _ _ _ _) ou4;go_simp;refine hK.out _ _ (hS _ bo) (fun hHeld=>?_);clear hK K;(try simp only[lay]);refine wpAnyH_done (by kernel_rfl) ?_ _;refine NoPanic.normal ?_;(try go_simp);clear hHeld;go_wp2_with fail
         go_meet;exact⟨_,gs,rfl,Su4,hgs,hgq,bT,hge⟩
       refine AllReadyH.cons rfl (fun K hK=>?_) ?_
       · have hBl:=bT.size;obtain⟨u5,hu5,bu5,lu5,Bu5⟩:=boxed u1 #[.bool false,.slice none 0 0,.slice none 0 0] 28;replace hfv4:=hfv4.below bu5;replace hfl4:=hfl4.below bu5;replace hxl4:=hxl4.below bu5;replace hvd:=hvd.below bu5;replace bT:=bT.trans (bu5.mono bT.size);replace bo:=bo.trans (bu5.mono bo.size);have hA:=Bu5;clear Bu5;go_simp;refine hK.out _ _ (hS _ bo) (fun hHeld=>?_);clear hK K;(try simp only[lay]);refine rdH 9 rfl fun K hK=>?_;go_simp;have hcl:=subF_any hfv4 hvd hcf.out.2.1 hcf.out.2.2 (by decide);go_at_call 34;refine (hcl).mono ?_;rintro e u6 ⟨vs,rfl,hvs,bu6⟩;replace hfv4:=hfv4.below bu6;replace hfl4:=hfl4.below bu6;replace hxl4:=hxl4.below bu6;replace hvd:=hvd.below bu6;replace hA:=hA.keep bu6;replace bT:=bT.trans (bu6.mono bT.size);replace bo:=bo.trans (bu6.mono bo.size);clear hcl;obtain⟨gs,rfl,hgs,hgq⟩:=hvs.frd;clear hvs;go_wp2_with fail;refine hK.out _ _ (hS _ bo) (fun hHeld=>?_);clear hK K;(try simp only[lay]);refine rdH 11 rfl fun K hK=>?_;have hge:=hBl;obtain⟨u7,q0,q1,q2,f0,f1,f2,eu7,Su7,ou7⟩:=zero_store hA gs;have bT:=ou7.to_below bT hge bT.size;have bo:=ou7.to_below bo hge bo.size;replace hgs:=hgs.only_blk hA (noDig3 _ _ _ _ _ _ _) ou7;go_simp;refine hK.out _ _ (hS _ bo) (fun hHeld=>?_);clear hK K;(try simp only[lay]);refine wpAnyH_done (by kernel_rfl) ?_ _;refine NoPanic.normal ?_;(try go_simp);clear hHeld;go_wp2_with fail
         go_meet;exact⟨_,gs,rfl,Su7,hgs,hgq,bT,hge⟩
       exact AllReadyH.nil
     refine AllReadyH.cons rfl (fun K hK=>?_) ?_
     · have hBl:=bT.size;have dw7:Below w4.heap.size w4 w4.drew:=(Below.refl _ _).drew;replace hfv4:=hfv4.below dw7;replace hfl4:=hfl4.below dw7;replace hxl4:=hxl4.below dw7;replace bT:=bT.trans (dw7.mono bT.size);replace bo:=bo.trans (dw7.mono bo.size);obtain⟨u8,hu8,bu8,lu8,Bu8⟩:=boxed w4.drew #[.bool false,.slice none 0 0,.slice none 0 0] 28;replace hfv4:=hfv4.below bu8;replace hfl4:=hfl4.below bu8;replace hxl4:=hxl4.below bu8;replace bT:=bT.trans (bu8.mono bT.size);replace bo:=bo.trans (bu8.mono bo.size);replace Bu8:Blk u8 w4.heap.size 28 #[.bool false,.slice none 0 0,.slice none 0 0]:=Bu8;have hA:=Bu8;clear Bu8;go_simp;refine hK.out _ _ (hS _ bo) (fun hHeld=>?_);clear hK K;(try simp only[lay]);refine rdH 8 rfl fun K hK=>?_;go_simp;have hcl:=dotF_any (K:=KN) hfl4 hxl4 hcf.out.1 hxf.out hdb.out;rw[hdq.out] at hcl;go_at_call 85;refine (hcl).mono ?_;rintro e u9 ⟨vd,rfl,hvd,bu9⟩;replace hfv4:=hfv4.below bu9;replace hfl4:=hfl4.below bu9;replace hxl4:=hxl4.below bu9;replace hA:=hA.keep bu9;replace bT:=bT.trans (bu9.mono bT.size);replace bo:=bo.trans (bu9.mono bo.size);clear hcl;go_wp2_with fail;refine hK.out _ _ (hS _ bo) (fun hHeld=>?_);clear hK K;(try simp only[lay]);refine rdH 9 rfl fun K hK=>?_;go_simp;have hcl:=subF_any hfv4 hvd hcf.out.2.1 hcf.out.2.2 (by decide);go_at_call 34;refine (hcl).mono ?_;rintro e u10 ⟨vs,rfl,hvs,bu10⟩;replace hfv4:=hfv4.below bu10
       replace hfl4:=hfl4.below bu10;replace hxl4:=hxl4.below bu10;replace hA:=hA.keep bu10;replace hvd:=hvd.below bu10;replace bT:=bT.trans (bu10.mono bT.size);replace bo:=bo.trans (bu10.mono bo.size);clear hcl;obtain⟨gs,rfl,hgs,hgq⟩:=hvs.frd;clear hvs;go_wp2_with fail;refine hK.out _ _ (hS _ bo) (fun hHeld=>?_);clear hK K;(try simp only[lay]);refine rdH 11 rfl fun K hK=>?_;have hge:=hBl;obtain⟨u11,q0,q1,q2,f0,f1,f2,eu11,Su11,ou11⟩:=zero_store hA gs;have bT:=ou11.to_below bT hge bT.size;have bo:=ou11.to_below bo hge bo.size;replace hgs:=hgs.only_blk hA (noDig3 _ _ _ _ _ _ _) ou11;go_simp;refine hK.out _ _ (hS _ bo) (fun hHeld=>?_);clear hK K;(try simp only[lay]);refine wpAnyH_done (by kernel_rfl) ?_ _;refine NoPanic.normal ?_;(try go_simp);clear hHeld;go_wp2_with fail;go_meet;exact⟨_,gs,rfl,Su11,hgs,hgq,bT,hge⟩
     exact AllReadyH.nil
    case rest =>
     obtain⟨g,s,rfl,hT5,ht5,htq5,b5,hgw⟩:=hcut;obtain⟨w5,hw5⟩:∃ w5,w5=wc:=⟨_,rfl⟩;subst hw5;have hbel5:=hbel4.trans (b5.mono hbel4.size);obtain⟨m,hM5,hmv5⟩:=hmq4.below b5;clear hb4 hV4 hmq4 hfl4 hfv4 hxl4;have hle:=Lib.hid (show lst all k=c.l.q by rw[lst_of hkk.out];rfl)
     have hws:=Lib.hid (show worstK all x (k+1)=if 0<s.q∧(o=none∨t<s.q) then (some k,s.q) else (o,t) by
      rw[worst_succ,hot.out,hle.out,htq5.out])
     have hsF:=Lib.hid (show Fits (2+(1+8*(KN+KN+1))+1) s.q by rw[htq5.out];exact hsf.out);obtain⟨y0,y1,y2⟩:=hT5.cells;obtain⟨z0,z1,z2⟩:=hM5.cells;have hmv':=Lib.hid hmv5;clear hmv5;obtain⟨sg,hsg⟩:∃ s',Hid (cmpR s.q 0=s'):=⟨_,rfl⟩;have hcs:=sign_any ht5;rw[hsg.out] at hcs;go_wp2_with fail;refine hcs.mono ?_;rintro e w6 ⟨rfl,b6⟩;clear hcs;have hbel6:=hbel5.trans (b6.mono hbel5.size);have hT6:=hT5.below b6;have hM6:=hM5.below b6;have ht6:=ht5.below b6;clear y0 y1 y2 z0 z1 z2 hT5 hM5 ht5;obtain⟨y0,y1,y2⟩:=hT6.cells;obtain⟨z0,z1,z2⟩:=hM6.cells
     by_cases hs0:0<sg
     · have hd0:decide (0<sg)=true:=decide_eq_true hs0;have hpos:=Lib.hid (show 0<s.q from cmpR_pos.1 (by rw[hsg.out];exact hs0));clear hs0
       cases o with
       | none =>
        have hw2:=Lib.hid (show worstK all x (k+1)=(some k,s.q) by rw[hws.out,if_pos ⟨hpos.out,.inl rfl⟩]);obtain⟨w7,q0,q1,q2,f0,f1,f2,e7,hM7,o7⟩:=hM6.store s;have hs7:=ht6.onlyV hM6 o7;have hbel7:=o7.to_below hbel6 (Nat.le_refl _) hbel6.size;clear hM6 ht6 o7;go_wp2
        go_region
        go_wp2;go_roundw
        case rel=>exact⟨k+1,by omega,by go_num,by rw[hw2.out];rfl,by rw[hw2.out];exact⟨s,hM7,fun _=>⟨hs7.below (Below.refl _ _).drew,rfl⟩⟩,hbel7.drew⟩
        case measure=>simp[intOf];omega
       | some j =>
        have hm6:=(hmv'.out (by simp)).1.below b6;have hmq6:=Lib.hid (hmv'.out (by simp)).2
        have hmF:Fits (2+(1+8*(KN+KN+1))+1) m.q:=by
         rw[hmq6.out];exact worst_fits (by rw[←hall.out];exact hc'.out) hn hxF.out k (by have h9:=hkL.out;rw[hall.out] at h9;omega) j t hot.out
        obtain⟨cc,hcc⟩:∃ s',Hid (cmpR s.q m.q=s'):=⟨_,rfl⟩;have hcm:=cmpF_any ht6 hm6 hsF.out hmF (by decide) (by decide);rw[hcc.out] at hcm;have hoi:decide (oi (some j)<0)=false:=decide_eq_false (by show ¬ ((j:Nat):Int)<0;omega);go_wp2_with fail;refine hcm.mono ?_;rintro e w7 ⟨rfl,b7⟩;clear hcm;have hbel7:=hbel6.trans (b7.mono hbel6.size);have hT7:=hT6.below b7;have hM7:=hM6.below b7;have ht7:=ht6.below b7;have hm7:=hm6.below b7;clear y0 y1 y2 z0 z1 z2 hT6 hM6 ht6 hm6;obtain⟨y0,y1,y2⟩:=hT7.cells
        by_cases hc0:0<cc
        · have hd1:decide (0<cc)=true:=decide_eq_true hc0
          have hw2:=Lib.hid (show worstK all x (k+1)=(some k,s.q) by
           rw[hws.out,if_pos ⟨hpos.out,.inr (by rw[←hmq6.out];exact cmpR_pos.1 (by rw[hcc.out];exact hc0))⟩])
          clear hc0;obtain⟨w8,q0,q1,q2,f0,f1,f2,e8,hM8,o8⟩:=hM7.store s;have hs8:=ht7.onlyV hM7 o8;have hbel8:=o8.to_below hbel7 (Nat.le_refl _) hbel7.size;clear hM7 ht7 o8 hm7;go_wp2
          go_region
          go_wp2;go_roundw
          case rel=>exact⟨k+1,by omega,by go_num,by rw[hw2.out];rfl,by rw[hw2.out];exact⟨s,hM8,fun _=>⟨hs8.below (Below.refl _ _).drew,rfl⟩⟩,hbel8.drew⟩
          case measure=>simp[intOf];omega
        · have hd1:decide (0<cc)=false:=decide_eq_false hc0
          have hw2:=Lib.hid (show worstK all x (k+1)=(some j,t) by
           rw[hws.out,if_neg fun hh=>hc0 (by
            rcases hh.2 with h9 | h9
            · cases h9
            · rw[←hmq6.out] at h9;rw[←hcc.out];exact cmpR_pos.2 h9)])
          clear hc0;go_wp2;go_roundw
          case rel=>exact⟨k+1,by omega,by go_num,by rw[hw2.out],by rw[hw2.out];exact⟨m,hM7,fun _=>⟨hm7,hmq6.out⟩⟩,hbel7⟩
          case measure=>simp[intOf];omega
     · have hd0:decide (0<sg)=false:=decide_eq_false hs0
       have hw2:=Lib.hid (show worstK all x (k+1)=(o,t) by
        rw[hws.out,if_neg fun hh=>hs0 (by rw[←hsg.out];exact cmpR_pos.2 hh.1)])
       clear hs0;go_wp2;go_roundw
       case rel=>exact⟨k+1,by omega,by go_num,by rw[hw2.out],by rw[hw2.out];exact⟨m,hM6,fun ho=>⟨(hmv'.out ho).1.below b6,(hmv'.out ho).2⟩⟩,hbel6⟩
       case measure=>simp[intOf];omega
  · obtain rfl:k=L:=by omega
    have hlt':decide ((k:Int)<(k:Int))=false:=decide_eq_false (by omega);have hfin:=Lib.hid (show (worstK all x S.cs.length).1=o by rw[hL.out,hot.out]);go_wp2;go_ret;exact⟨by rw[hfin.out];rfl,hbel⟩
end Go.Proofs.Ytjhkapjadfpimaa
