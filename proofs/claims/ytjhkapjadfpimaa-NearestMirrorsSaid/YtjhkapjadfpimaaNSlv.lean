/- Contracts of functions, for the law. -/
import Derived.Test.YtjhkapjadfpimaaMAppQ
import Derived.Test.YtjhkapjadfpimaaNSat
import Derived.Test.YtjhkapjadfpimaaNVio
import Derived.Test.YtjhkapjadfpimaaFSum
import Derived.Test.YtjhkapjadfpimaaFDiv
import Derived.Test.YtjhkapjadfpimaaFSub
import Derived.Test.YtjhkapjadfpimaaMSmall
import Derived.Test.YtjhkapjadfpimaaPLp
import Derived.Deep.DeepCutAuto
import Derived.Deep.RegionHeld3
namespace Go.Proofs.Ytjhkapjadfpimaa
set_option linter.unusedVariables false
set_option linter.unusedSimpArgs false
open Go.RowKit Plain
attribute [local go_sem ↓] Go.wp_at_zero Go.wp_at_succ
theorem OkS.lx' {K n:Nat}{all:List Con}{s:Sm}(h:OkS K n all s.st):s.dx.length=n:=by
 have h1:(s.dx.map FrD.q).length=n:=h.lx;rw[List.length_map] at h1;exact h1
theorem SolM.lv8 {S:Sv}{s:Sm}{ent:Value}{w:World}(h:SolM S s ent w){y:FrD}(hy:s.lv=y):w.cell? ⟨S.gs,7,none⟩=some (.bool y.neg)∧w.cell? ⟨S.gs,8,none⟩=some (.slice y.a y.la.length y.ca)∧w.cell? ⟨S.gs,9,none⟩=some (.slice y.b y.lb.length y.cb):=by
 subst hy;exact⟨h.b.cells.2.2.2.2.2.2.2.1,h.b.cells.2.2.2.2.2.2.2.2.1,h.b.cells.2.2.2.2.2.2.2.2.2.1⟩
theorem SolM.lvF {S:Sv}{s:Sm}{ent:Value}{w:World}(h:SolM S s ent w){y:FrD}(hy:s.lv=y):FV w y.v y.q:=by
 subst hy;exact h.b.lev
theorem run_unfold {K n f:Nat}{all:List Con}{s:St}{r:Option St}(h:runS K n all f s=some r):∃ g,f=g+1∧OkS K n all s ∧
 ((worstK all s.x all.length).1=none∧r=some s∨∃ k q,(worstK all s.x all.length).1=some k∧k<all.length∧satR K n all k g s 0=some q∧(q=none∧r=none∨∃ t,q=some t∧runS K n all g t=some r)):=by
 cases f with
 | zero=>cases h
 | succ g =>
  have h0:(if okS K n all s=true then
   match (worstK all s.x all.length).1 with
   | none=>some (some s)
   | some k=>match satR K n all k g s 0 with
    | none=>none
    | some none=>some none
    | some (some t)=>runS K n all g t
   else none)=some r:=h
  by_cases hc:okS K n all s=true
  · rw[if_pos hc] at h0;refine⟨g,rfl,okS_iff.1 hc,?_⟩;have hw:=worst_ok all s.x all.length;obtain⟨o,D,hoD⟩:∃ o D,worstK all s.x all.length=(o,D):=⟨_,_,rfl⟩;rw[hoD] at h0 hw ⊢
    cases o with
    | none=>injection h0 with h0;exact .inl ⟨rfl,h0.symm⟩
    | some k =>
     dsimp only at h0
     cases e:satR K n all k g s 0 with
     | none=>rw[e] at h0;cases h0
     | some q =>
      rw[e] at h0;refine .inr ⟨k,q,rfl,hw.1,e,?_⟩
      cases q with
      | none=>injection h0 with h0;exact .inl ⟨rfl,h0.symm⟩
      | some t=>exact .inr ⟨t,rfl,h0⟩
  · rw[if_neg hc] at h0;cases h0
def RunRel (S:Sv) (B:Nat) (root:World) (r:Option St) (f:Nat) (v:Value) (w:World):Prop:=∃ s:Sm,SolM S s (.pointer none) w∧Below B root w∧v=.int .i64 (oi (worstK (S.cs.map CoD.con) s.st.x S.cs.length).1)∧runS KN S.n (S.cs.map CoD.con) f s.st=some r
set_option maxRecDepth 100000 in
set_option maxHeartbeats 40000000 in
theorem solver_any {S:Sv}{s:Sm}{f0 B Kt:Nat}{r:Option St}{w:World}(hKt0:2≤Kt) (hKt:Kt≤6000000) (h:SolM S s (.pointer none) w) (hc0:ConI S.n (S.cs.map CoD.con)) (hn:S.n≤8) (hl0:s.dx.length=S.n) (hi0:s.lv.q=0∧s.ia=[]∧s.dm=[]) (ht0:QFits Kt (s.dx.map FrD.q)) (hs0:Fits 2 S.sum.q) (hr0:projS KN (S.cs.map CoD.con) (s.dx.map FrD.q) S.sum.q S.n f0=some r) (hB1:B≤S.gs) (hB2:B≤S.gx) :
 Calls Try.prog 49 #[.pointer (some ⟨S.gs,0,none⟩)] w (RetSat S r B w):=by
 have hc:=Lib.hid hc0;have hl:=Lib.hid hl0;have hi:=Lib.hid hi0;have ht:=Lib.hid ht0;have hs:=Lib.hid hs0;have hr:=Lib.hid hr0;have hB1':=Lib.hid hB1;have hB2':=Lib.hid hB2;obtain⟨sm0,hsq⟩:∃ q,Hid (sumR (s.dx.map FrD.q)=q):=⟨_,rfl⟩;obtain⟨ms,hms⟩:∃ q,Hid (S.sum.q-sm0=q):=⟨_,rfl⟩
 have hsF:=Lib.hid (show Fits (1+8*(Kt+1)) sm0 by
  rw[←hsq.out];refine (fits_sum (k:=Kt) ht0).mono ?_;rw[List.length_map,hl0];have:=Nat.mul_le_mul_right (Kt+1) hn
  omega)
 have hmF:=Lib.hid (show Fits (2+(1+8*(Kt+1))+1) ms by rw[←hms.out];exact hs0.sub hsF.out)
 have hsb:=Lib.hid (show 1+(s.dx.length+1)*(Kt+1)<400000000 by
  rw[hl0];have:=Nat.mul_le_mul_right (Kt+1) (show S.n+1≤9 by omega)
  omega)
 have hxf:=Lib.hid (show ∀ d∈s.dx,Fits Kt d.q from QFits.fr0 ht0);have hKx:=Lib.hid (show QFits KN (s.dx.map FrD.q) from fun q hq=>(ht0 q hq).mono (show Kt≤10000000 by omega));have hxl:FL w (some ⟨S.gx,0,none⟩) S.cx s.dx:=h.b.xo.fl h.b.xf;have hsv:FV w S.sum.v S.sum.q:=h.b.sum;have hBw:=Lib.hid (show B≤w.heap.size by have h1:=h.b.hs;have h2:=h.b.hR;omega);obtain⟨N,hN⟩:∃ N,Hid (S.n=N):=⟨_,rfl⟩;have hcm:=Lib.hid (show (S.cs.map CoD.con).length=S.cs.length from List.length_map _);clear hc0 hl0 hi0 ht0 hs0 hr0;go_enter Try.func49,Try.ntmps49;go_upto_region 1 with fail
 go_cut [3] (fun v wx=>∃ g t,v=.pointer (some ⟨g,0,none⟩)∧VarQ wx g t∧FV wx t.v t.q∧Hid (t.q=ms)∧Below w.heap.size w wx∧w.heap.size≤g)
 case first =>
  have bT:=Below.refl w.heap.size w
  have hS:∀ w',Below w.heap.size w w'→w'.cell? ⟨S.gs,3,none⟩=some (.slice (some ⟨S.gx,0,none⟩) s.dx.length S.cx)∧w'.cell? ⟨S.gs,4,none⟩=some (.bool S.sum.neg)∧w'.cell? ⟨S.gs,5,none⟩=some (.slice S.sum.a S.sum.la.length S.sum.ca)∧w'.cell? ⟨S.gs,6,none⟩=some (.slice S.sum.b S.sum.lb.length S.sum.cb)∧Below w.heap.size w w':=by
   intro w' o;exact⟨(h.below o).b.cells.2.2.2.1,(h.below o).b.cells.2.2.2.2.1,(h.below o).b.cells.2.2.2.2.2.1,(h.below o).b.cells.2.2.2.2.2.2.1,o⟩
  have bo:Below w.heap.size w w:=Below.refl _ _;have dS:Below w.heap.size w w.drew:=bo.drew;go_wp2_with fail;refine wp_region_noPanic ?_;refine wp_region_held_drew (S:=fun w'=>w'.cell? ⟨S.gs,3,none⟩=some (.slice (some ⟨S.gx,0,none⟩) s.dx.length S.cx)∧w'.cell? ⟨S.gs,4,none⟩=some (.bool S.sum.neg)∧w'.cell? ⟨S.gs,5,none⟩=some (.slice S.sum.a S.sum.la.length S.sum.ca)∧w'.cell? ⟨S.gs,6,none⟩=some (.slice S.sum.b S.sum.lb.length S.sum.cb)∧Below w.heap.size w w') (by kernel_rfl) (hS _ dS) (fun hHeld=>?_);refine tkH 0 rfl hHeld ?_;refine tkH 1 rfl hHeld ?_;refine tkH 2 rfl hHeld ?_;refine tkH 3 rfl hHeld ?_;refine tkH 4 rfl hHeld ?_;refine tkH 5 rfl hHeld ?_;refine tkH 6 rfl hHeld ?_;refine tkH 7 rfl hHeld ?_;refine wpAnyH_ready (rs:=[8,10]) (by kernel_rfl) (by simp) ?_;refine AllReadyH.cons rfl (fun K hK=>?_) ?_
  · go_simp;have dw0:Below w.heap.size w w.drew:=(Below.refl _ _).drew;replace hxl:=hxl.below dw0;replace hsv:=hsv.below dw0;replace bT:=bT.trans (dw0.mono bT.size);replace bo:=bo.trans (dw0.mono bo.size);have hcl:=sumF_any (K:=Kt) hxl hxf.out hsb.out;rw[hsq.out] at hcl;go_at_call 71;refine (hcl).mono ?_;rintro e u1 ⟨vd,rfl,hvd,bu1⟩;replace hxl:=hxl.below bu1;replace hsv:=hsv.below bu1;replace bT:=bT.trans (bu1.mono bT.size);replace bo:=bo.trans (bu1.mono bo.size);clear hcl;go_wp2_with fail;refine hK.out _ _ (hS _ bo) (fun hHeld=>?_);clear hK K;(try simp only[lay]);refine wpAnyH_ready (rs:=[9,10]) (by kernel_rfl) (by simp) ?_;refine AllReadyH.cons rfl (fun K hK=>?_) ?_
    · go_simp;have hcl:=subF_any hsv hvd hs.out hsF.out (by omega);go_at_call 34;refine (hcl).mono ?_;rintro e u2 ⟨vs,rfl,hvs,bu2⟩;replace hxl:=hxl.below bu2;replace hsv:=hsv.below bu2;replace hvd:=hvd.below bu2;replace bT:=bT.trans (bu2.mono bT.size);replace bo:=bo.trans (bu2.mono bo.size);clear hcl;obtain⟨gs,rfl,hgs,hgq⟩:=hvs.frd;clear hvs;go_wp2_with fail;refine hK.out _ _ (hS _ bo) (fun hHeld=>?_);clear hK K;(try simp only[lay]);refine rdH 10 rfl fun K hK=>?_;have hBl:=bT.size;obtain⟨u3,hu3,bu3,lu3,Bu3⟩:=boxed u2 #[.bool false,.slice none 0 0,.slice none 0 0] 28;replace hxl:=hxl.below bu3;replace hsv:=hsv.below bu3;replace hvd:=hvd.below bu3;replace hgs:=hgs.below bu3;replace bT:=bT.trans (bu3.mono bT.size);replace bo:=bo.trans (bu3.mono bo.size);have hA:=Bu3;clear Bu3;go_simp;refine hK.out _ _ (hS _ bo) (fun hHeld=>?_);clear hK K;(try simp only[lay]);refine rdH 11 rfl fun K hK=>?_;have hge:=hBl;obtain⟨u4,q0,q1,q2,f0,f1,f2,eu4,Su4,ou4⟩:=zero_store hA gs;have bT:=ou4.to_below bT hge bT.size;have bo:=ou4.to_below bo hge bo.size;replace hgs:=hgs.only_blk hA (noDig3 _ _ _ _ _ _ _) ou4;go_simp;refine hK.out _ _ (hS _ bo) (fun hHeld=>?_);clear hK K;(try simp only[lay]);refine wpAnyH_done (by kernel_rfl) ?_ _;refine NoPanic.normal ?_;(try go_simp);clear hHeld;go_wp2_with fail;go_meet;exact⟨_,gs,rfl,Su4,hgs,hgq.out.trans hms.out,bT,hge⟩
    refine AllReadyH.cons rfl (fun K hK=>?_) ?_
    · have hBl:=bT.size;obtain⟨u5,hu5,bu5,lu5,Bu5⟩:=boxed u1 #[.bool false,.slice none 0 0,.slice none 0 0] 28;replace hxl:=hxl.below bu5;replace hsv:=hsv.below bu5;replace hvd:=hvd.below bu5;replace bT:=bT.trans (bu5.mono bT.size);replace bo:=bo.trans (bu5.mono bo.size);have hA:=Bu5;clear Bu5;go_simp;refine hK.out _ _ (hS _ bo) (fun hHeld=>?_);clear hK K;(try simp only[lay]);refine rdH 9 rfl fun K hK=>?_;go_simp;have hcl:=subF_any hsv hvd hs.out hsF.out (by omega);go_at_call 34;refine (hcl).mono ?_;rintro e u6 ⟨vs,rfl,hvs,bu6⟩;replace hxl:=hxl.below bu6;replace hsv:=hsv.below bu6;replace hvd:=hvd.below bu6;replace hA:=hA.keep bu6;replace bT:=bT.trans (bu6.mono bT.size);replace bo:=bo.trans (bu6.mono bo.size);clear hcl;obtain⟨gs,rfl,hgs,hgq⟩:=hvs.frd;clear hvs;go_wp2_with fail;refine hK.out _ _ (hS _ bo) (fun hHeld=>?_);clear hK K;(try simp only[lay]);refine rdH 11 rfl fun K hK=>?_;have hge:=hBl;obtain⟨u7,q0,q1,q2,f0,f1,f2,eu7,Su7,ou7⟩:=zero_store hA gs;have bT:=ou7.to_below bT hge bT.size;have bo:=ou7.to_below bo hge bo.size;replace hgs:=hgs.only_blk hA (noDig3 _ _ _ _ _ _ _) ou7;go_simp;refine hK.out _ _ (hS _ bo) (fun hHeld=>?_);clear hK K;(try simp only[lay]);refine wpAnyH_done (by kernel_rfl) ?_ _;refine NoPanic.normal ?_;(try go_simp);clear hHeld;go_wp2_with fail;go_meet;exact⟨_,gs,rfl,Su7,hgs,hgq.out.trans hms.out,bT,hge⟩
    exact AllReadyH.nil
  refine AllReadyH.cons rfl (fun K hK=>?_) ?_
  · have hBl:=bT.size;have dw7:Below w.heap.size w w.drew:=(Below.refl _ _).drew;replace hxl:=hxl.below dw7;replace hsv:=hsv.below dw7;replace bT:=bT.trans (dw7.mono bT.size);replace bo:=bo.trans (dw7.mono bo.size);obtain⟨u8,hu8,bu8,lu8,Bu8⟩:=boxed w.drew #[.bool false,.slice none 0 0,.slice none 0 0] 28;replace hxl:=hxl.below bu8;replace hsv:=hsv.below bu8;replace bT:=bT.trans (bu8.mono bT.size);replace bo:=bo.trans (bu8.mono bo.size);replace Bu8:Blk u8 w.heap.size 28 #[.bool false,.slice none 0 0,.slice none 0 0]:=Bu8;have hA:=Bu8;clear Bu8;go_simp;refine hK.out _ _ (hS _ bo) (fun hHeld=>?_);clear hK K;(try simp only[lay]);refine rdH 8 rfl fun K hK=>?_;go_simp;have hcl:=sumF_any (K:=Kt) hxl hxf.out hsb.out;rw[hsq.out] at hcl;go_at_call 71;refine (hcl).mono ?_;rintro e u9 ⟨vd,rfl,hvd,bu9⟩;replace hxl:=hxl.below bu9;replace hsv:=hsv.below bu9;replace hA:=hA.keep bu9;replace bT:=bT.trans (bu9.mono bT.size);replace bo:=bo.trans (bu9.mono bo.size);clear hcl;go_wp2_with fail;refine hK.out _ _ (hS _ bo) (fun hHeld=>?_);clear hK K;(try simp only[lay]);refine rdH 9 rfl fun K hK=>?_;go_simp;have hcl:=subF_any hsv hvd hs.out hsF.out (by omega);go_at_call 34;refine (hcl).mono ?_;rintro e u10 ⟨vs,rfl,hvs,bu10⟩;replace hxl:=hxl.below bu10;replace hsv:=hsv.below bu10;replace hA:=hA.keep bu10;replace hvd:=hvd.below bu10;replace bT:=bT.trans (bu10.mono bT.size)
    replace bo:=bo.trans (bu10.mono bo.size);clear hcl;obtain⟨gs,rfl,hgs,hgq⟩:=hvs.frd;clear hvs;go_wp2_with fail;refine hK.out _ _ (hS _ bo) (fun hHeld=>?_);clear hK K;(try simp only[lay]);refine rdH 11 rfl fun K hK=>?_;have hge:=hBl;obtain⟨u11,q0,q1,q2,f0,f1,f2,eu11,Su11,ou11⟩:=zero_store hA gs;have bT:=ou11.to_below bT hge bT.size;have bo:=ou11.to_below bo hge bo.size;replace hgs:=hgs.only_blk hA (noDig3 _ _ _ _ _ _ _) ou11;go_simp;refine hK.out _ _ (hS _ bo) (fun hHeld=>?_);clear hK K;(try simp only[lay]);refine wpAnyH_done (by kernel_rfl) ?_ _;refine NoPanic.normal ?_;(try go_simp);clear hHeld;go_wp2_with fail;go_meet;exact⟨_,gs,rfl,Su11,hgs,hgq.out.trans hms.out,bT,hge⟩
  exact AllReadyH.nil
 case rest =>
  obtain⟨g,mt,rfl,hT1,hmt1,hmq,b1,hg0⟩:=hcut;obtain⟨w1,hw1⟩:∃ w1,w1=wc:=⟨_,rfl⟩;subst hw1;have hS1:=h.below b1;have hbel1:Below B w w1:=b1.mono hBw.out;have hgS:=Lib.hid (show g≠S.gs by have h1:=h.b.hs;have h2:=h.b.hR;omega);clear hxl hsv hg0;have hc0:w1.cell? ⟨S.gs,0,none⟩=some (.int .i64 (N:Int)):=by rw[←hN.out];exact hS1.b.cells.1
  by_cases h0:N=0
  · subst h0;have hc00:w1.cell? ⟨S.gs,0,none⟩=some (.int .i64 0):=hc0;obtain⟨x0,x1,x2⟩:=hT1.cells;obtain⟨o,ho⟩:∃ o,Hid ((worstK (S.cs.map CoD.con) (s.dx.map FrD.q) S.cs.length).1=o):=⟨_,rfl⟩
    have hprj:=Lib.hid (show r=if ms=0∧o=none then some ⟨s.dx.map FrD.q,0,[],[]⟩ else none by
     have h1:=hr.out;unfold projS at h1;rw[if_pos hN.out,hsq.out,hms.out,hcm.out,ho.out] at h1
     split at h1 <;> rename_i hh
     · rw[if_pos hh];injection h1 with h1;exact h1.symm
     · rw[if_neg hh];injection h1 with h1;exact h1.symm)
    have hst:=Lib.hid (show s.st=⟨s.dx.map FrD.q,0,[],[]⟩ by unfold Sm.st;rw[hi.out.1,hi.out.2.1,hi.out.2.2];rfl);obtain⟨sg,hsg⟩:∃ s',Hid (cmpR ms 0=s'):=⟨_,rfl⟩;have hcs:=sign_any hmt1;rw[hmq.out,hsg.out] at hcs;clear hc0;go_wp2_with fail;refine hcs.mono ?_;rintro e w2 ⟨rfl,b2⟩;clear hcs hc00 x0 x1 x2;have hS2:=hS1.below b2;have hbel2:=hbel1.trans (b2.mono (Nat.le_trans hBw.out hbel1.size))
    by_cases hs0:sg=0
    · have hz:(sg == 0)=true:=by rw[beq_iff_eq];exact hs0
      have hm0:=Lib.hid (show ms=0 from cmpR_zero.1 (by rw[hsg.out];exact hs0));have hvi:=violated_any hS2.b hc.out hl.out hn hKx.out;rw[ho.out] at hvi;go_wp2_with fail;refine hvi.mono ?_;rintro e w3 ⟨rfl,b3⟩;clear hvi;have hS3:=hS2.below b3;have hbel3:=hbel2.trans (b3.mono (Nat.le_trans hBw.out hbel2.size))
      cases o with
      | none =>
       have hr2:=Lib.hid (show r=some ⟨s.dx.map FrD.q,0,[],[]⟩ by rw[hprj.out,if_pos ⟨hm0.out,rfl⟩]);have hoi:decide (oi none<0)=true:=by decide
       go_wp2;go_ret;exact⟨s,by rw[hr2.out];rfl,hS3,fun t e=>(by rw[hr2.out] at e;injection e with e;rw[←e];exact hst.out),hbel3⟩
      | some k =>
       have hr2:=Lib.hid (show r=none by rw[hprj.out,if_neg (fun hh=>by cases hh.2)]);have hoi:decide (oi (some k)<0)=false:=decide_eq_false (by show ¬ ((k:Nat):Int)<0;omega);go_wp2;go_ret;exact⟨s,by rw[hr2.out];rfl,hS3,fun t e=>(by rw[hr2.out] at e;cases e),hbel3⟩
    · have hz:(sg == 0)=false:=by rw[beq_eq_false_iff_ne];exact hs0
      have hm0:=Lib.hid (show ¬ ms=0 from fun e=>hs0 (by rw[←hsg.out];exact cmpR_zero.2 e));have hr2:=Lib.hid (show r=none by rw[hprj.out,if_neg (fun hh=>hm0.out hh.1)]);go_wp2;go_ret;exact⟨s,by rw[hr2.out];rfl,hS2,fun t e=>(by rw[hr2.out] at e;cases e),hbel2⟩
  · have hz:((N:Int) == 0)=false:=by rw[beq_eq_false_iff_ne];omega
    have hz2:decide ((N:Int)=0)=false:=decide_eq_false (by omega);have hN1:-9223372036854775808≤(N:Int):=by omega
    have hN8:N≤8:=by rw[←hN.out];exact hn
    have hN2:(N:Int)≤9223372036854775807:=by omega
    have hnF:=Lib.hid (show Fits 1 (((N:Nat):Int):Rat) by
     refine⟨?_,?_⟩
     · rw[Rat.num_intCast];show N<pw 1;have:pw 1=4294967296:=rfl;omega
     · rw[Rat.den_intCast];decide)
    have hmtF:=Lib.hid (show Fits (2+(1+8*(Kt+1))+1) mt.q by rw[hmq.out];exact hmF.out);have hcast:=Lib.hid (show (((N:Nat):Int):Rat)=((N:Nat):Rat) from rfl)
    have hnq:=Lib.hid (show (((N:Nat):Int):Rat)≠0 by
     intro e;have:(((N:Nat):Int):Rat)=((0:Int):Rat):=by rw[e];rfl
     have:=Rat.intCast_inj.1 this
     omega)
    have he:=Lib.hid (show ∀ x,(Value.pointer none)≠.int .u32 x from fun x e=>by cases e);go_upto_region 4 with fail
    go_cut [] (fun wx=>∃ y:FrD,Hid (y.q=ms / (((N:Nat):Int):Rat))∧SolM S { s with lv:=y } (.pointer none) wx∧Below B w wx)
    case first =>
     clear hc0;have bT:=Below.refl w1.heap.size w1;have dw0:Below w1.heap.size w1 w1.drew:=(Below.refl _ _).drew;replace hS1:=hS1.below dw0;replace hT1:=hT1.below dw0;replace hmt1:=hmt1.below dw0;replace bT:=bT.trans (dw0.mono bT.size);clear dw0;go_wp2_with fail;refine wp_region_noPanic ?_;refine wp_region_wait (J:=[]) (S:=fun w'=>w'.cell? ⟨S.gs,0,none⟩=some (.int .i64 (N:Int))∧w'.cell? ⟨g,0,none⟩=some (.bool mt.neg)∧w'.cell? ⟨g,1,none⟩=some (.slice mt.a mt.la.length mt.ca)∧w'.cell? ⟨g,2,none⟩=some (.slice mt.b mt.lb.length mt.cb)) (by kernel_rfl) (⟨by rw[←hN.out];exact hS1.b.cells.1,hT1.cells.1,hT1.cells.2.1,hT1.cells.2.2⟩) (fun hHeld=>?_);refine tkW 0 rfl hHeld ?_;refine tkW 1 rfl hHeld ?_;refine tkW 2 rfl hHeld ?_;refine tkW 3 rfl hHeld ?_;refine tkW 4 rfl hHeld ?_;refine tkW 5 rfl hHeld ?_;refine rdW 6 rfl fun K hK=>?_;go_simp;have hcl:=fromInt_any (N:Int) (w1.drew) hN1 hN2;go_at_call 28;refine (hcl).mono ?_;rintro e u1 ⟨vn,rfl,hvn,bu1⟩;clear hcl;replace hS1:=hS1.below bu1;replace hT1:=hT1.below bu1;replace hmt1:=hmt1.below bu1;replace bT:=bT.trans (bu1.mono bT.size);go_wp2_with fail;refine hK.out _ _ (⟨by rw[←hN.out];exact hS1.b.cells.1,hT1.cells.1,hT1.cells.2.1,hT1.cells.2.2⟩) (fun hHeld=>?_);clear hK K;(try simp only[lay]);refine rdW 7 rfl fun K hK=>?_;go_simp;have hcl:=divF_any hmt1 hvn hmtF.out hnF.out (by omega) hnq.out
     go_at_call 73;refine (hcl).mono ?_;rintro e u2 ⟨va,rfl,hva,bu2⟩;clear hcl;replace hS1:=hS1.below bu2;replace hT1:=hT1.below bu2;replace hmt1:=hmt1.below bu2;replace hvn:=hvn.below bu2;replace bT:=bT.trans (bu2.mono bT.size);obtain⟨y,rfl,hy,hyq⟩:=hva.frd;clear hva;go_wp2_with fail;refine hK.out _ _ (⟨by rw[←hN.out];exact hS1.b.cells.1,hT1.cells.1,hT1.cells.2.1,hT1.cells.2.2⟩) (fun hHeld=>?_);clear hK K;(try simp only[lay]);refine tkW 8 rfl hHeld ?_;refine tkW 9 rfl hHeld ?_;refine tkW 10 rfl hHeld ?_;refine tkW 11 rfl hHeld ?_;refine tkW 12 rfl hHeld ?_;refine rdW 13 rfl fun K hK=>?_;obtain⟨x7,x8,x9⟩:=hS1.lv8 rfl;obtain⟨w9,f0,f1,f2,e9,hS9,o9⟩:=hS1.setLev he.out hy;have hT9:=hT1.only o9 hgS.out;have bel9:=o9.to_below (hbel1.trans (bT.mono (Nat.le_trans hBw.out hbel1.size))) hB1'.out (Nat.le_trans (Nat.le_trans hBw.out hbel1.size) bT.size);go_simp;refine hK.out _ _ (⟨by rw[←hN.out];exact hS9.b.cells.1,hT9.cells.1,hT9.cells.2.1,hT9.cells.2.2⟩) (fun hHeld=>?_);clear hK K;(try simp only[lay]);refine wpAnyW_done (by kernel_rfl) ?_ _;refine NoPanic.normal ?_;(try go_simp);(try clear hHeld);go_wp2_with fail;go_meet;exact⟨y,hyq.out.trans (by rw[hmq.out]),hS9,bel9⟩
    case rest =>
     obtain⟨y,hyq,hS2,hbel2⟩:=hcut;obtain⟨s2,hs2⟩:∃ s2:Sm,Hid (s2={ s with lv:=y }):=⟨_,rfl⟩;rw[←hs2.out] at hS2;have hlv2:=Lib.hid (show s2.lv=y by rw[hs2.out]);have hdx2:=Lib.hid (show s2.dx=s.dx by rw[hs2.out]);have hun2:=Lib.hid (show s2.ia=[]∧s2.dm=[] by rw[hs2.out];exact hi.out.2);obtain⟨w2,hw2⟩:∃ w2,w2=wc:=⟨_,rfl⟩;subst hw2;obtain⟨L,hL⟩:∃ L,Hid (s.dx.length=L):=⟨_,rfl⟩;have hL8:L≤8:=by rw[←hL.out,hl.out];exact hn
     have hln2:=Lib.hid (show s2.dx.length=L by rw[hdx2.out,hL.out]);have hc3:=hS2.c3 hln2.out;have hyF:=Lib.hid (show Fits (2+(1+8*(Kt+1))+1+1) y.q by rw[hyq.out];exact hmF.out.div hnF.out);clear hS1 hT1 hmt1 hc0 hbel1;go_wp2
     go_loopw [48] (fun i wr=>∃ k:Nat,k≤L∧i=.int .i64 (k:Int)∧∃ s1:Sm,SolM S s1 (.pointer none) wr∧Hid (s1.dx.length=L)∧Hid (∀ j,gt (s1.dx.map FrD.q) j=if j<k then gt (s.dx.map FrD.q) j+y.q else gt (s.dx.map FrD.q) j)∧Hid (s1.lv=y)∧Hid (s1.ia=[]∧s1.dm=[])∧Below B w wr) (fun i _=>L-(intOf i).toNat)
     case atStart=>exact⟨0,by omega,rfl,s2,hS2,hln2.out,fun j=>by rw[if_neg (by omega),hdx2.out],hlv2.out,hun2.out,hbel2⟩
     case round =>
      clear hS2 hc3 hbel2 hlv2 hdx2 hun2 hln2;obtain⟨k,hk,rfl,s1,hS,hln,hpt,hlv,hun,hbel⟩:=hrel
      by_cases hkl:k<L
      · have hki:(k:Int)<(L:Int):=by omega
        have hkd:=Lib.hid (show k<s1.dx.length by rw[hln.out];exact hkl);obtain⟨xk,hxk⟩:∃ xk,Hid (s1.dx[k]?=some xk):=⟨_,List.getElem?_eq_getElem hkd.out⟩;obtain⟨c0,c1,c2⟩:=hS.xc hxk.out;obtain⟨wA,w4,eA,p0,p1,p2,r0,r1,r2,eB,hD4,b4,l4⟩:=new_var wr xk;have hS4:=hS.below b4;have hb4:=hbel.trans (b4.mono (Nat.le_trans hBw.out hbel.size));have hx4:FV w4 xk.v xk.q:=hS4.b.xf xk (List.mem_of_getElem? hxk.out);have hxq:=Lib.hid (show xk.q=gt (s.dx.map FrD.q) k by rw[←gt_map hxk.out,hpt.out,if_neg (by omega)]);have hfk:=Lib.hid (show Fits Kt xk.q by rw[hxq.out];exact ht.out.getD (by omega) k)
        have hpt':∀ j (z:FrD),z.q=xk.q+y.q→gt ((s1.dx.set k z).map FrD.q) j=if j<k+1 then gt (s.dx.map FrD.q) j+y.q else gt (s.dx.map FrD.q) j:=fun j z hz=>by
         rw[set_gt hkd.out]
         by_cases e:j=k
         · subst e;rw[if_pos rfl,if_pos (by omega),hz,hxq.out]
         · rw[if_neg e,hpt.out]
           by_cases e2:j<k
           · rw[if_pos e2,if_pos (by omega)]
           · rw[if_neg e2,if_neg (by omega)]
        replace hpt':=Lib.hid hpt';clear hS hbel;go_upto_region 8 with fail;clear p0 p1 p2 r0 r1 r2 eA eB c0 c1 c2;have bT:=Below.refl w4.heap.size w4;have dw0:Below w4.heap.size w4 w4.drew:=(Below.refl _ _).drew;replace hS4:=hS4.below dw0;replace hD4:=hD4.below dw0;replace hx4:=hx4.below dw0;replace bT:=bT.trans (dw0.mono bT.size);clear dw0;go_wp2_with fail;refine wp_region_noPanic ?_;refine wp_region_wait (J:=[12]) (S:=fun w'=>w'.cell? ⟨S.gs,3,none⟩=some (.slice (some ⟨S.gx,0,none⟩) L S.cx)∧w'.cell? ⟨S.gx,k*3,none⟩=some (.bool xk.neg)∧w'.cell? ⟨S.gx,k*3+1,none⟩=some (.slice xk.a xk.la.length xk.ca)∧w'.cell? ⟨S.gx,k*3+2,none⟩=some (.slice xk.b xk.lb.length xk.cb)∧w'.cell? ⟨S.gs,7,none⟩=some (.bool y.neg)∧w'.cell? ⟨S.gs,8,none⟩=some (.slice y.a y.la.length y.ca)∧w'.cell? ⟨S.gs,9,none⟩=some (.slice y.b y.lb.length y.cb)∧w'.cell? ⟨wr.heap.size,0,none⟩=some (.bool xk.neg)∧w'.cell? ⟨wr.heap.size,1,none⟩=some (.slice xk.a xk.la.length xk.ca)∧w'.cell? ⟨wr.heap.size,2,none⟩=some (.slice xk.b xk.lb.length xk.cb)) (by kernel_rfl) (⟨hS4.c3 hln.out,(hS4.xc hxk.out).1,(hS4.xc hxk.out).2.1,(hS4.xc hxk.out).2.2,(hS4.lv8 hlv.out).1,(hS4.lv8 hlv.out).2.1,(hS4.lv8 hlv.out).2.2,hD4.cells.1,hD4.cells.2.1,hD4.cells.2.2⟩) (fun hHeld=>?_);refine tkW 0 rfl hHeld ?_;refine tkW 1 rfl hHeld ?_;refine tkW 2 rfl hHeld ?_;refine tkW 3 rfl hHeld ?_
        refine tkW 4 rfl hHeld ?_;refine tkW 5 rfl hHeld ?_;refine tkW 6 rfl hHeld ?_;refine tkW 7 rfl hHeld ?_;refine tkW 8 rfl hHeld ?_;refine tkW 9 rfl hHeld ?_;refine rdW 10 rfl fun K hK=>?_;go_simp;have hcl:=addF_any hx4 (hS4.lvF hlv.out) hfk.out hyF.out (by omega);go_at_call 29;refine (hcl).mono ?_;rintro e u1 ⟨va,rfl,hva,bu1⟩;clear hcl;replace hS4:=hS4.below bu1;replace hD4:=hD4.below bu1;replace hx4:=hx4.below bu1;replace bT:=bT.trans (bu1.mono bT.size);obtain⟨z,rfl,hz,hzq⟩:=hva.frd;clear hva;obtain⟨w9,f0,f1,f2,e9,hS9,o9⟩:=hS4.setX hkd.out hz;go_wp2_with fail;refine hK.out _ _ (⟨hS4.c3 hln.out,(hS4.xc hxk.out).1,(hS4.xc hxk.out).2.1,(hS4.xc hxk.out).2.2,(hS4.lv8 hlv.out).1,(hS4.lv8 hlv.out).2.1,(hS4.lv8 hlv.out).2.2,hD4.cells.1,hD4.cells.2.1,hD4.cells.2.2⟩) (fun hHeld=>?_);clear hK K;(try simp only[lay]);refine tkW 11 rfl hHeld ?_;refine wpAnyW_ready (rs:=[12]) (by kernel_rfl) (by simp) ?_;refine AllReadyW.last rfl (by decide) (fun K hK=>?_) AllReadyW.nil;go_simp;refine hK.out _ _ ?_;clear hK K;(try clear hHeld);(try simp only[lay]);refine wpAnyW_done (by kernel_rfl) ?_ _;refine NoPanic.normal ?_;(try go_simp);(try clear hHeld);have hb9:=o9.to_below (hb4.trans (bT.mono (Nat.le_trans hBw.out hb4.size))) hB2'.out (Nat.le_trans (Nat.le_trans hBw.out hb4.size) bT.size);clear hS4 hD4 hx4 hz o9;go_wp2;go_roundw
        case rel =>
         refine⟨k+1,by omega,by go_num,_,hS9,?_,?_,hlv.out,hun.out,hb9⟩
         · show (s1.dx.set k z).length=_
           rw[List.length_set];exact hln.out
         · intro j;exact (hpt' j z hzq.out)
        case measure=>simp[intOf];omega
      · obtain rfl:k=L:=by omega
        have hlt':decide ((k:Int)<(k:Int))=false:=decide_eq_false (by omega)
        have hst:=Lib.hid (show s1.st=startS (s.dx.map FrD.q) S.sum.q S.n by
         unfold Sm.st startS
         have e1:s1.dx.map FrD.q=(s.dx.map FrD.q).map (fun q=>q+(S.sum.q-sumR (s.dx.map FrD.q)) / (S.n:Rat)):=by
          refine eq_of_gt (by simp[hln.out,hL.out]) fun j hj=>?_;have hj2:j<s.dx.length:=by simpa using hj
          rw[hpt.out,if_pos (by rw[←hL.out];exact hj2),hyq.out,hcast.out,←hms.out,←hsq.out,←hN.out];unfold gt;rw[getD_of 0 (by simpa using hj2),getD_of 0 (by simpa using hj2)]
          simp only[List.getElem_map]
         rw[e1,hlv.out,hun.out.1,hun.out.2,hyq.out,hcast.out,←hms.out,←hsq.out,←hN.out];rfl)
        have hrun:=Lib.hid (show runS KN S.n (S.cs.map CoD.con) f0 s1.st=some r by
         have h1:=hr.out;unfold projS at h1;rw[if_neg (by rw[hN.out];exact h0)] at h1;rw[hst.out];exact h1)
        obtain⟨g0,hg0,hok0,-⟩:=run_unfold hrun.out;have hok:=Lib.hid hok0;obtain⟨o,ho⟩:∃ o,Hid ((worstK (S.cs.map CoD.con) s1.st.x S.cs.length).1=o):=⟨_,rfl⟩;have hvi:=violated_any hS.b hc.out hok0.lx' hn hok0.x;rw[show (worstK (S.cs.map CoD.con) (s1.dx.map FrD.q) S.cs.length).1=o from ho.out] at hvi;clear hg0 hok0;go_wp2_with fail;refine hvi.mono ?_;rintro e w5 ⟨rfl,b5⟩;clear hvi;have hS5:=hS.below b5;have hbel5:=hbel.trans (b5.mono (Nat.le_trans hBw.out hbel.size));have hst5:RunRel S B w r f0 (.int .i64 (oi o)) w5:=⟨s1,hS5,hbel5,by rw[ho.out],hrun.out⟩;clear hS hbel hS5 hbel5;go_wp2
        go_loopw [6] (fun v wr=>∃ f,RunRel S B w r f v wr) (fun v wr=>leastN fun f=>RunRel S B w r f v wr)
        case atStart=>exact⟨f0,hst5⟩
        case round =>
         clear hst5;have key:∀ v wq,(∃ f,RunRel S B w r f v wq)→∃ f,Hid (leastN (fun f=>RunRel S B w r f v wq)=f)∧RunRel S B w r f v wq:=fun v wq hv=>⟨_,rfl,leastN_is hv⟩;obtain⟨f,hf,s3,hS,hbel,rfl,hrun3⟩:=key _ _ hrel;clear key hrel;obtain⟨f1,rfl,hok3,hcase⟩:=run_unfold hrun3;have hokh:=Lib.hid hok3;rw[hcm.out] at hcase;clear hrun3 hok3
         rcases hcase with ⟨ho3,hr3⟩ | ⟨k3,q3,ho3,hk3,hsat3,hq3⟩
         · rw[ho3] at hf ⊢;have hr3':=Lib.hid hr3;have hoi:decide (0≤oi none)=false:=by decide
           clear hr3 ho3;go_wp2;go_ret;exact⟨s3,by rw[hr3'.out];rfl,hS,fun t e=>(by rw[hr3'.out] at e;injection e),hbel⟩
         · rw[ho3] at hf ⊢;have hk3':=Lib.hid hk3;have hoi:decide (0≤((k3:Nat):Int))=true:=decide_eq_true (by omega);have hsy:=satisfy_any hS hk3 hc.out hn hsat3 hB1'.out hB2'.out;have hq3':=Lib.hid hq3;rw[show oi (some k3)=((k3:Nat):Int) from rfl] at hf ⊢;clear hk3 ho3 hsat3 hq3;go_wp2_with fail;refine hsy.mono ?_;rintro e w6 ⟨s6,rfl,hS6,hst6,b6⟩;clear hsy;have hbel6:=hbel.trans b6;clear hS hbel b6
           cases q3 with
           | none =>
            have hr3:=Lib.hid (show r=none by
             rcases hq3'.out with ⟨-,h9⟩ | ⟨t,h9,-⟩
             · exact h9
             · cases h9)
            have his:(none:Option St).isSome=false:=rfl;go_wp2;go_ret;exact⟨s6,by rw[hr3.out];rfl,hS6,fun t e=>(by rw[hr3.out] at e;cases e),hbel6⟩
           | some t3 =>
            have hrun6:=Lib.hid (show runS KN S.n (S.cs.map CoD.con) f1 s6.st=some r by
             rcases hq3'.out with ⟨h9,-⟩ | ⟨t,h9,h8⟩
             · cases h9
             · cases h9;rw[hst6.out _ rfl];exact h8)
            obtain⟨g0,hg0,hok6,-⟩:=run_unfold hrun6.out;have his:(some t3).isSome=true:=rfl;obtain⟨o6,ho6⟩:∃ o,Hid ((worstK (S.cs.map CoD.con) s6.st.x S.cs.length).1=o):=⟨_,rfl⟩;have hvi:=violated_any hS6.b hc.out hok6.lx' hn hok6.x;rw[show (worstK (S.cs.map CoD.con) (s6.dx.map FrD.q) S.cs.length).1=o6 from ho6.out] at hvi;clear hg0 hok6;go_wp2_with fail;refine hvi.mono ?_;rintro e w7 ⟨rfl,b7⟩;clear hvi;have hS7:=hS6.below b7;have hbel7:=hbel6.trans (b7.mono (Nat.le_trans hBw.out hbel6.size));have hst7:=Lib.hid (show RunRel S B w r f1 (.int .i64 (oi o6)) w7 from ⟨s6,hS7,hbel7,by rw[ho6.out],hrun6.out⟩);clear hS6 hbel6 hS7 hbel7;go_wp2;go_roundw
            case rel=>exact⟨f1,hst7.out⟩
            case measure=>rw[hf.out];exact Nat.lt_succ_of_le (leastN_le hst7.out)
end Go.Proofs.Ytjhkapjadfpimaa
