/- Contracts of functions, for the law. -/
import Derived.Test.YtjhkapjadfpimaaMAppQ
import Derived.Test.YtjhkapjadfpimaaNTrn
import Derived.Test.YtjhkapjadfpimaaNDr
import Derived.Test.YtjhkapjadfpimaaNNext
import Derived.Test.YtjhkapjadfpimaaNTot
import Derived.Test.YtjhkapjadfpimaaFMul
import Derived.Test.YtjhkapjadfpimaaFSum
import Derived.Test.YtjhkapjadfpimaaFSub
import Derived.Deep.DeepCutAuto
import Derived.Deep.RegionHeld3
import Derived.Test.YtjhkapjadfpimaaMSmall
import Derived.Test.YtjhkapjadfpimaaWRef2
import Derived.Test.YtjhkapjadfpimaaQ
namespace Go.Proofs.Ytjhkapjadfpimaa
set_option linter.unusedVariables false
set_option linter.unusedSimpArgs false
open Go.RowKit Plain
attribute [local go_sem ↓] Go.wp_at_zero Go.wp_at_succ
section
variable {S:Sv}{s:Sm}{ent:Value}{w:World}
theorem SolM.c3 (h:SolM S s ent w){n:Nat}(hl:s.dx.length=n):w.cell? ⟨S.gs,3,none⟩=some (.slice (some ⟨S.gx,0,none⟩) n S.cx):=by
 subst hl;exact h.b.cells.2.2.2.1
theorem SolM.xc (h:SolM S s ent w){k:Nat}{d:FrD}(hk:s.dx[k]?=some d):w.cell? ⟨S.gx,k*3,none⟩=some (.bool d.neg)∧w.cell? ⟨S.gx,k*3+1,none⟩=some (.slice d.a d.la.length d.ca)∧w.cell? ⟨S.gx,k*3+2,none⟩=some (.slice d.b d.lb.length d.cb):=h.b.xo.cells hk
theorem SolM.c11 (h:SolM S s ent w){n gm cm:Nat}(hl:s.dm.length=n) (hev:s.vm=.slice (some ⟨gm,0,none⟩) n cm):w.cell? ⟨S.gs,11,none⟩=some (.slice (some ⟨gm,0,none⟩) n cm):=by
 rw[←hev];exact h.b.cells.2.2.2.2.2.2.2.2.2.2.2.1
theorem SolM.mc (h:SolM S s ent w){n gm cm:Nat}(hev:s.vm=.slice (some ⟨gm,0,none⟩) n cm){k:Nat}{d:FrD}(hk:s.dm[k]?=some d):w.cell? ⟨gm,k*3,none⟩=some (.bool d.neg)∧w.cell? ⟨gm,k*3+1,none⟩=some (.slice d.a d.la.length d.ca)∧w.cell? ⟨gm,k*3+2,none⟩=some (.slice d.b d.lb.length d.cb):=by
 have hm:=h.mul;rw[hev] at hm;exact hm.xo.2.2.cells hk
theorem SolM.setM2 (h:SolM S s ent w){n gm cm:Nat}(hev:s.vm=.slice (some ⟨gm,0,none⟩) n cm){k:Nat}(hk:k<s.dm.length){d:FrD}(hd:FV w d.v d.q) :
 ∃ w9,w.frozen? ⟨gm,k*3,none⟩=false∧w.frozen? ⟨gm,k*3+1,none⟩=false∧w.frozen? ⟨gm,k*3+2,none⟩=false ∧
  ((w.setCell ⟨gm,k*3,none⟩ (.bool d.neg)).setCell ⟨gm,k*3+1,none⟩ (.slice d.a d.la.length d.ca)).setCell ⟨gm,k*3+2,none⟩ (.slice d.b d.lb.length d.cb)=w9∧SolM S { s with dm:=s.dm.set k d } ent w9∧Only w w9 gm:=by
 obtain⟨g,c,w9,ev,f0,f1,f2,e9,h9,o9,-⟩:=h.setM hk hd;rw[hev] at ev
 cases ev
 exact⟨w9,f0,f1,f2,e9,h9,o9⟩
theorem SolM.vform (h:SolM S s ent w){k:Nat}(hk:k<s.dm.length):∃ gm cm,s.vm=.slice (some ⟨gm,0,none⟩) s.dm.length cm:=by
 obtain⟨A,c,e,hf⟩:=h.mul.fl h.mf;exact h.mul.some_of (fun e2=>by rw[e] at e2;injection e2 with _ e3 _;omega)
end
def RetMov (S:Sv) (s:Sm) (ent:Value) (r:St) (W:World) (e:Ending) (w':World):Prop :=
 ∃ s':Sm,e=.returned (.tuple #[])∧SolM S s' ent w'∧Hid (s'.st=r)∧Hid (s'.va=s.va∧s'.ia=s.ia∧s'.vm=s.vm)∧Trn (S.W s.vm) W w'
theorem set_gt {l:List FrD}{k:Nat}{y:FrD}(hk:k<l.length) (j:Nat):gt ((l.set k y).map FrD.q) j=if j=k then y.q else gt (l.map FrD.q) j:=by
 unfold gt;rw[List.map_set]
 by_cases e:j=k
 · subst e;rw[if_pos rfl,List.getD_eq_getElem?_getD,List.getElem?_set_self (by simpa using hk)];rfl
 · rw[if_neg e,List.getD_eq_getElem?_getD,List.getElem?_set_ne (by omega),←List.getD_eq_getElem?_getD]
theorem gt_map {l:List FrD}{k:Nat}{d:FrD}(h:l[k]?=some d):gt (l.map FrD.q) k=d.q:=by
 unfold gt;rw[List.getD_eq_getElem?_getD,List.getElem?_map,h];rfl
theorem eq_of_gt {a b:List Rat}(hl:a.length=b.length) (h:∀ j,j<b.length→gt a j=gt b j):a=b:=by
 refine List.ext_getElem hl fun j h1 h2=>?_;have:=h j h2;unfold gt at this
 rwa [getD_of 0 h1,getD_of 0 h2] at this
set_option maxRecDepth 100000 in
set_option maxHeartbeats 40000000 in
theorem move_any {S:Sv}{s:Sm}{ent:Value}{Z R:Option Addr}{cz cr:Nat}{zs rs:List FrD}{l t:FrD}{w:World}(h:SolM S s ent w) (he0:∀ x,ent≠.int .u32 x) (hz:FL w Z cz zs) (hzW:∀ a,Z=some a→¬ S.W s.vm a.block) (hlz:zs.length=s.dx.length) (hr:FL w R cr rs) (hrW:∀ a,R=some a→¬ S.W s.vm a.block) (hlr:rs.length=s.dm.length)
 (hl:FV w l.v l.q) (ht:FV w t.v t.q) (fx:QFits KN (s.dx.map FrD.q)) (fz:QFits 699067 (zs.map FrD.q)) (fl:Fits KN s.lv.q) (fL:Fits 87381 l.q) (fT:Fits 190000000 t.q) (fm:QFits KN (s.dm.map FrD.q)) (fr:QFits 87381 (rs.map FrD.q)) :
 Calls Try.prog 89 #[.pointer (some ⟨S.gs,0,none⟩),.slice Z zs.length cz,.agg #[.bool l.neg,.slice l.a l.la.length l.ca,.slice l.b l.lb.length l.cb],.slice R rs.length cr,.agg #[.bool t.neg,.slice t.a t.la.length t.ca,.slice t.b t.lb.length t.cb]] w (RetMov S s ent (moveS s.st (zs.map FrD.q) l.q (rs.map FrD.q) t.q) w):=by
 obtain⟨w0,hw0,b0,l0,B0⟩:=boxed w #[.bool l.neg,.slice l.a l.la.length l.ca,.slice l.b l.lb.length l.cb] 28;obtain⟨w1,hw1,b1,l1,B1⟩:=boxed w0 #[.bool t.neg,.slice t.a t.la.length t.ca,.slice t.b t.lb.length t.cb] 28;have b01:=b0.trans (b1.mono b0.size);have hL1:VarQ w1 w.heap.size l:=Blk.keep B0 b1;have hT1:VarQ w1 w0.heap.size t:=B1;have he:=Lib.hid he0;have hlenz:=hz.len;have hlenr:=hr.len;have htr1:Trn (S.W s.vm) w w1:=Trn.of_below b01 (h.nd he0);have hS1:=h.below b01;have hgsW:=h.b.hs;have hgxW:=h.b.hx;have hRW:=h.b.hR;have hgxT:=Lib.hid (show w0.heap.size≠S.gx by omega);have hgxL:=Lib.hid (show w.heap.size≠S.gx by omega);have hgsT:=Lib.hid (show w0.heap.size≠S.gs by omega);have hzW':=Lib.hid hzW;have hrW':=Lib.hid hrW;have hft:=Lib.hid fT;have hfL:=Lib.hid fL;have hfL2:=Lib.hid (fT.mul fL);have hfl1:=Lib.hid fl;have hfx:=Lib.hid fx;have hfz:=Lib.hid fz;have hfm:=Lib.hid fm;have hfr:=Lib.hid fr;have hwlt:=Lib.hid h.wlt;have hlz':=Lib.hid hlz;have hlr':=Lib.hid hlr;clear hzW hrW fT fL fl fx fz fm fr B0 B1 he0 hgsW hgxW hRW hlz hlr;go_enter Try.func89,Try.ntmps89;go_wp2
 go_loopw [16] (fun i wr=>∃ k:Nat,k≤zs.length∧i=.int .i64 (k:Int)∧∃ s1:Sm,SolM S s1 ent wr∧Hid (s1.dx.length=s.dx.length)∧Hid (∀ j,gt (s1.dx.map FrD.q) j=if j<k then gt (s.dx.map FrD.q) j+t.q*gt (zs.map FrD.q) j else gt (s.dx.map FrD.q) j)∧Hid (s1.lv=s.lv∧s1.va=s.va∧s1.ia=s.ia∧s1.vm=s.vm∧s1.dm=s.dm)∧VarQ wr w.heap.size l∧VarQ wr w0.heap.size t∧Trn (S.W s.vm) w wr) (fun i _=>zs.length-(intOf i).toNat)
 case atStart=>exact⟨0,by omega,rfl,s,hS1,rfl,fun j=>by rw[if_neg (by omega)],⟨rfl,rfl,rfl,rfl,rfl⟩,hL1,hT1,htr1⟩
 case round =>
  clear hS1 hL1 hT1 htr1;obtain⟨k,hk,rfl,s1,hS,hln,hpt,hun,hLv,hTv,htr⟩:=hrel
  by_cases hkl:k<zs.length
  · have hki:(k:Int)<(zs.length:Int):=by omega
    obtain⟨a,d,ea,hab,c0,c1,c2,hd,hdk⟩:=(hz.trn htr hzW'.out).at hkl;rw[ea];obtain⟨wA,w4,eA,p0,p1,p2,r0,r1,r2,eB,hD4,b4,l4⟩:=new_var wr d;have htr4:=htr.next b4;have hS4:=hS.below b4;have hL4:=hLv.below b4;have hT4:=hTv.below b4;have hd4:=hd.below b4;have ht4:FV w4 t.v t.q:=ht.trn htr4;have hkd:=Lib.hid (show k<s1.dx.length by rw[hln.out,←hlz'.out];exact hkl);obtain⟨xk,hxk⟩:∃ xk,Hid (s1.dx[k]?=some xk):=⟨_,List.getElem?_eq_getElem hkd.out⟩;have hx4:FV w4 xk.v xk.q:=hS4.b.xf xk (List.mem_of_getElem? hxk.out);have hkx:(k:Int)<(s.dx.length:Int):=by have:=hlz'.out;omega
    have hxq:=Lib.hid (show xk.q=gt (s.dx.map FrD.q) k by rw[←gt_map hxk.out,hpt.out,if_neg (by omega)]);have hfk:=Lib.hid (show Fits KN xk.q by rw[hxq.out];exact hfx.out.getD (by decide) k);have hfd:=Lib.hid (show Fits 699067 d.q from hfz.out.fr0 d (List.mem_of_getElem? hdk.out));have hfm2:=Lib.hid (show Fits (190000000+699067) (t.q*d.q) from hft.out.mul hfd.out);have hzq:=Lib.hid (show gt (zs.map FrD.q) k=d.q from gt_map hdk.out)
    have hpt':∀ j (y:FrD),y.q=xk.q+t.q*d.q→gt ((s1.dx.set k y).map FrD.q) j=if j<k+1 then gt (s.dx.map FrD.q) j+t.q*gt (zs.map FrD.q) j else gt (s.dx.map FrD.q) j:=fun j y hy=>by
     rw[set_gt hkd.out]
     by_cases e:j=k
     · subst e;rw[if_pos rfl,if_pos (by omega),hy,hxq.out,hzq.out]
     · rw[if_neg e,hpt.out]
       by_cases e2:j<k
       · rw[if_pos e2,if_pos (by omega)]
       · rw[if_neg e2,if_neg (by omega)]
    replace hpt':=Lib.hid hpt';clear hS hLv hTv hd;go_upto_region 4 with fail;clear p0 p1 p2 r0 r1 r2 eA eB c0 c1 c2;have bT:=Below.refl w4.heap.size w4;have dw0:Below w4.heap.size w4 w4.drew:=(Below.refl _ _).drew;replace hS4:=hS4.below dw0;replace hT4:=hT4.below dw0;replace hD4:=hD4.below dw0;replace ht4:=ht4.below dw0;replace hd4:=hd4.below dw0;replace hx4:=hx4.below dw0;replace hL4:=hL4.below dw0;replace bT:=bT.trans (dw0.mono bT.size);clear dw0;go_wp2_with fail;refine wp_region_noPanic ?_;refine wp_region_wait (J:=[17]) (S:=fun w'=>w'.cell? ⟨S.gs,3,none⟩=some (.slice (some ⟨S.gx,0,none⟩) s.dx.length S.cx)∧w'.cell? ⟨S.gx,k*3,none⟩=some (.bool xk.neg)∧w'.cell? ⟨S.gx,k*3+1,none⟩=some (.slice xk.a xk.la.length xk.ca)∧w'.cell? ⟨S.gx,k*3+2,none⟩=some (.slice xk.b xk.lb.length xk.cb)∧w'.cell? ⟨w0.heap.size,0,none⟩=some (.bool t.neg)∧w'.cell? ⟨w0.heap.size,1,none⟩=some (.slice t.a t.la.length t.ca)∧w'.cell? ⟨w0.heap.size,2,none⟩=some (.slice t.b t.lb.length t.cb)∧w'.cell? ⟨wr.heap.size,0,none⟩=some (.bool d.neg)∧w'.cell? ⟨wr.heap.size,1,none⟩=some (.slice d.a d.la.length d.ca)∧w'.cell? ⟨wr.heap.size,2,none⟩=some (.slice d.b d.lb.length d.cb)) (by kernel_rfl) (⟨hS4.c3 hln.out,(hS4.xc hxk.out).1,(hS4.xc hxk.out).2.1,(hS4.xc hxk.out).2.2,hT4.cells.1,hT4.cells.2.1,hT4.cells.2.2,hD4.cells.1,hD4.cells.2.1,hD4.cells.2.2⟩) (fun hHeld=>?_)
    refine tkW 0 rfl hHeld ?_;refine tkW 1 rfl hHeld ?_;refine tkW 2 rfl hHeld ?_;refine tkW 3 rfl hHeld ?_;refine tkW 4 rfl hHeld ?_;refine tkW 5 rfl hHeld ?_;refine tkW 6 rfl hHeld ?_;refine tkW 7 rfl hHeld ?_;refine tkW 8 rfl hHeld ?_;refine tkW 9 rfl hHeld ?_;refine tkW 10 rfl hHeld ?_;refine tkW 11 rfl hHeld ?_;refine tkW 12 rfl hHeld ?_;refine tkW 13 rfl hHeld ?_;refine rdW 14 rfl fun K hK=>?_;go_simp;have hcl:=mulF_any ht4 hd4 hft.out hfd.out (by decide);go_at_call 42;refine (hcl).mono ?_;rintro e u1 ⟨vm,rfl,hvm,bu1⟩;clear hcl;replace hS4:=hS4.below bu1;replace hT4:=hT4.below bu1;replace hD4:=hD4.below bu1;replace ht4:=ht4.below bu1;replace hd4:=hd4.below bu1;replace hx4:=hx4.below bu1;replace hL4:=hL4.below bu1;replace bT:=bT.trans (bu1.mono bT.size);go_wp2_with fail;refine hK.out _ _ (⟨hS4.c3 hln.out,(hS4.xc hxk.out).1,(hS4.xc hxk.out).2.1,(hS4.xc hxk.out).2.2,hT4.cells.1,hT4.cells.2.1,hT4.cells.2.2,hD4.cells.1,hD4.cells.2.1,hD4.cells.2.2⟩) (fun hHeld=>?_);clear hK K;(try simp only[lay]);refine rdW 15 rfl fun K hK=>?_;go_simp;have hcl:=addF_any hx4 hvm hfk.out hfm2.out (by decide);go_at_call 29;refine (hcl).mono ?_;rintro e u2 ⟨va,rfl,hva,bu2⟩;clear hcl;replace hS4:=hS4.below bu2;replace hT4:=hT4.below bu2;replace hD4:=hD4.below bu2;replace ht4:=ht4.below bu2;replace hd4:=hd4.below bu2;replace hx4:=hx4.below bu2;replace hL4:=hL4.below bu2;replace hvm:=hvm.below bu2
    replace bT:=bT.trans (bu2.mono bT.size);obtain⟨y,rfl,hy,hyq⟩:=hva.frd;clear hva;obtain⟨w9,f0,f1,f2,e9,hS9,o9⟩:=hS4.setX hkd.out hy;go_wp2_with fail;refine hK.out _ _ (⟨hS4.c3 hln.out,(hS4.xc hxk.out).1,(hS4.xc hxk.out).2.1,(hS4.xc hxk.out).2.2,hT4.cells.1,hT4.cells.2.1,hT4.cells.2.2,hD4.cells.1,hD4.cells.2.1,hD4.cells.2.2⟩) (fun hHeld=>?_);clear hK K;(try simp only[lay]);refine tkW 16 rfl hHeld ?_;refine wpAnyW_ready (rs:=[17]) (by kernel_rfl) (by simp) ?_;refine AllReadyW.last rfl (by decide) (fun K hK=>?_) AllReadyW.nil;go_simp;refine hK.out _ _ ?_;clear hK K;(try clear hHeld);(try simp only[lay]);refine wpAnyW_done (by kernel_rfl) ?_ _;refine NoPanic.normal ?_;(try go_simp);(try clear hHeld);have hT9:=hT4.only o9 hgxT.out;have hL9:=hL4.only o9 hgxL.out;have htr9:=(htr4.next bT).only o9 (.inr (.inl rfl));clear hS4 hT4 hD4 ht4 hd4 hx4 hL4 hvm hy o9;go_wp2;go_roundw
    case rel =>
     refine⟨k+1,by omega,by go_num,_,hS9,?_,?_,hun.out,hL9,hT9,htr9⟩
     · show (s1.dx.set k y).length=_
       rw[List.length_set];exact hln.out
     · intro j;exact (hpt' j y hyq.out)
    case measure=>simp[intOf];omega
  · obtain rfl:k=zs.length:=by omega
    have hlt':decide ((zs.length:Int)<(zs.length:Int))=false:=decide_eq_false (by omega);obtain⟨w5,hw5⟩:∃ w5,w5=wr:=⟨_,rfl⟩;subst hw5;have hS5:=hS;have hL5:=hLv;have hT5:=hTv;have htr5:=htr;have ht5:FV w5 t.v t.q:=ht.trn htr;have hl5:FV w5 l.v l.q:=hl.trn htr;obtain⟨u1,u2,u3,u4,u5⟩:=hun.out;have hfl1':Fits KN s1.lv.q:=by rw[u1];exact hfl1.out
    replace hfl1:=Lib.hid hfl1';have hu1:=Lib.hid u1;have hu2:=Lib.hid u2;have hu3:=Lib.hid u3;have hu4:=Lib.hid u4;have hu5:=Lib.hid u5;clear u1 u2 u3 u4 u5 hS hLv hTv htr hfl1' hun;go_upto_region 6 with fail
    go_cut [] (fun wx=>∃ y:FrD,Hid (y.q=s1.lv.q-t.q*l.q)∧SolM S { s1 with lv:=y } ent wx∧VarQ wx w0.heap.size t∧Trn (S.W s.vm) w wx)
    case first =>
     have bT:=Below.refl w5.heap.size w5;have dw0:Below w5.heap.size w5 w5.drew:=(Below.refl _ _).drew;replace hS5:=hS5.below dw0;replace hT5:=hT5.below dw0;replace hL5:=hL5.below dw0;replace ht5:=ht5.below dw0;replace hl5:=hl5.below dw0;replace bT:=bT.trans (dw0.mono bT.size);clear dw0;go_wp2_with fail;refine wp_region_noPanic ?_;refine wp_region_wait (J:=[11]) (S:=fun w'=>w'.cell? ⟨S.gs,7,none⟩=some (.bool s1.lv.neg)∧w'.cell? ⟨S.gs,8,none⟩=some (.slice s1.lv.a s1.lv.la.length s1.lv.ca)∧w'.cell? ⟨S.gs,9,none⟩=some (.slice s1.lv.b s1.lv.lb.length s1.lv.cb)∧w'.cell? ⟨w0.heap.size,0,none⟩=some (.bool t.neg)∧w'.cell? ⟨w0.heap.size,1,none⟩=some (.slice t.a t.la.length t.ca)∧w'.cell? ⟨w0.heap.size,2,none⟩=some (.slice t.b t.lb.length t.cb)∧w'.cell? ⟨w.heap.size,0,none⟩=some (.bool l.neg)∧w'.cell? ⟨w.heap.size,1,none⟩=some (.slice l.a l.la.length l.ca)∧w'.cell? ⟨w.heap.size,2,none⟩=some (.slice l.b l.lb.length l.cb)) (by kernel_rfl) (⟨hS5.b.cells.2.2.2.2.2.2.2.1,hS5.b.cells.2.2.2.2.2.2.2.2.1,hS5.b.cells.2.2.2.2.2.2.2.2.2.1,hT5.cells.1,hT5.cells.2.1,hT5.cells.2.2,hL5.cells.1,hL5.cells.2.1,hL5.cells.2.2⟩) (fun hHeld=>?_);refine tkW 0 rfl hHeld ?_;refine tkW 1 rfl hHeld ?_;refine tkW 2 rfl hHeld ?_;refine tkW 3 rfl hHeld ?_;refine tkW 4 rfl hHeld ?_;refine tkW 5 rfl hHeld ?_;refine tkW 6 rfl hHeld ?_;refine rdW 7 rfl fun K hK=>?_
     go_simp;have hcl:=mulF_any ht5 hl5 hft.out hfL.out (by decide);go_at_call 42;refine (hcl).mono ?_;rintro e u1 ⟨vm,rfl,hvm,bu1⟩;clear hcl;replace hS5:=hS5.below bu1;replace hT5:=hT5.below bu1;replace hL5:=hL5.below bu1;replace ht5:=ht5.below bu1;replace hl5:=hl5.below bu1;replace bT:=bT.trans (bu1.mono bT.size);go_wp2_with fail;refine hK.out _ _ (⟨hS5.b.cells.2.2.2.2.2.2.2.1,hS5.b.cells.2.2.2.2.2.2.2.2.1,hS5.b.cells.2.2.2.2.2.2.2.2.2.1,hT5.cells.1,hT5.cells.2.1,hT5.cells.2.2,hL5.cells.1,hL5.cells.2.1,hL5.cells.2.2⟩) (fun hHeld=>?_);clear hK K;(try simp only[lay]);refine rdW 8 rfl fun K hK=>?_;go_simp;have hcl:=subF_any hS5.b.lev hvm hfl1.out hfL2.out (by decide);go_at_call 34;refine (hcl).mono ?_;rintro e u2 ⟨va,rfl,hva,bu2⟩;clear hcl;replace hS5:=hS5.below bu2;replace hT5:=hT5.below bu2;replace hL5:=hL5.below bu2;replace ht5:=ht5.below bu2;replace hl5:=hl5.below bu2;replace hvm:=hvm.below bu2;replace bT:=bT.trans (bu2.mono bT.size);obtain⟨y,rfl,hy,hyq⟩:=hva.frd;clear hva;obtain⟨w9,f0,f1,f2,e9,hS9,o9⟩:=hS5.setLev he.out hy;go_wp2_with fail;refine hK.out _ _ (⟨hS5.b.cells.2.2.2.2.2.2.2.1,hS5.b.cells.2.2.2.2.2.2.2.2.1,hS5.b.cells.2.2.2.2.2.2.2.2.2.1,hT5.cells.1,hT5.cells.2.1,hT5.cells.2.2,hL5.cells.1,hL5.cells.2.1,hL5.cells.2.2⟩) (fun hHeld=>?_);clear hK K;(try simp only[lay]);refine tkW 9 rfl hHeld ?_;refine tkW 10 rfl hHeld ?_;refine wpAnyW_ready (rs:=[11]) (by kernel_rfl) (by simp) ?_
     refine AllReadyW.last rfl (by decide) (fun K hK=>?_) AllReadyW.nil;go_simp;refine hK.out _ _ ?_;clear hK K;(try clear hHeld);(try simp only[lay]);refine wpAnyW_done (by kernel_rfl) ?_ _;refine NoPanic.normal ?_;(try go_simp);(try clear hHeld);have hT9:=hT5.only o9 hgsT.out;have htr9:=(htr5.next bT).only o9 (.inl rfl);go_wp2_with fail;go_meet;exact⟨y,hyq,hS9,hT9,htr9⟩
    case rest =>
     obtain⟨y,hyq,hS6,hT6,htr6⟩:=hcut;obtain⟨s2,hs2⟩:∃ s2:Sm,Hid (s2={ s1 with lv:=y }):=⟨_,rfl⟩;rw[←hs2.out] at hS6;have hd2:=Lib.hid (show s2.dm.map FrD.q=s.dm.map FrD.q by rw[hs2.out];show s1.dm.map FrD.q=_;rw[hu5.out]);have hl2:=Lib.hid (show s2.dm.length=s.dm.length by rw[hs2.out];show s1.dm.length=_;rw[hu5.out]);have hv2:=Lib.hid (show s2.vm=s.vm by rw[hs2.out];exact hu4.out);obtain⟨w6,hw6⟩:∃ w6,w6=wc:=⟨_,rfl⟩;subst hw6;clear hS5 hL5 hT5 htr5 ht5 hl5;go_wp2
     go_loopw [52] (fun i wr=>∃ k:Nat,k≤rs.length∧i=.int .i64 (k:Int)∧∃ s1:Sm,SolM S s1 ent wr∧Hid (s1.dm.length=s.dm.length)∧Hid (∀ j,gt (s1.dm.map FrD.q) j=if j<k then gt (s.dm.map FrD.q) j-t.q*gt (rs.map FrD.q) j else gt (s.dm.map FrD.q) j)∧Hid (s1.lv=s2.lv∧s1.va=s2.va∧s1.ia=s2.ia∧s1.vm=s2.vm∧s1.dx=s2.dx)∧VarQ wr w0.heap.size t∧Trn (S.W s.vm) w wr) (fun i _=>rs.length-(intOf i).toNat)
     case atStart=>exact⟨0,by omega,rfl,s2,hS6,hl2.out,fun j=>by rw[if_neg (by omega),hd2.out],⟨rfl,rfl,rfl,rfl,rfl⟩,hT6,htr6⟩
     case round =>
      clear hS6 hT6 htr6;obtain⟨k,hk,rfl,s3,hS,hln3,hpt3,hun3,hTv,htr⟩:=hrel;obtain⟨sB,hsB⟩:∃ sB:Sm,Hid (sB=s1):=⟨_,rfl⟩;have hlnB:=hln;have hptB:=hpt;clear hln hpt;obtain⟨s1',hs1'⟩:∃ s1',s1'=s3:=⟨_,rfl⟩;subst hs1';have hln:=hln3;have hpt:=hpt3;have hun:=hun3;clear hln3 hpt3 hun3
      by_cases hkl:k<rs.length
      · have hki:(k:Int)<(rs.length:Int):=by omega
        obtain⟨a,d,ea,hab,c0,c1,c2,hd,hdk⟩:=(hr.trn htr hrW'.out).at hkl;rw[ea];obtain⟨wA,w4,eA,p0,p1,p2,r0,r1,r2,eB,hD4,b4,l4⟩:=new_var wr d;have htr4:=htr.next b4;have hS4:=hS.below b4;have hT4:=hTv.below b4;have hd4:=hd.below b4;have ht4:FV w4 t.v t.q:=ht.trn htr4;have hkd:=Lib.hid (show k<s1'.dm.length by rw[hln.out,←hlr'.out];exact hkl);obtain⟨xk,hxk⟩:∃ xk,Hid (s1'.dm[k]?=some xk):=⟨_,List.getElem?_eq_getElem hkd.out⟩;have hx4:FV w4 xk.v xk.q:=hS4.mf xk (List.mem_of_getElem? hxk.out);have hkx:(k:Int)<(s.dm.length:Int):=by have:=hlr'.out;omega
        have hxq:=Lib.hid (show xk.q=gt (s.dm.map FrD.q) k by rw[←gt_map hxk.out,hpt.out,if_neg (by omega)]);have hfk:=Lib.hid (show Fits KN xk.q by rw[hxq.out];exact hfm.out.getD (by decide) k);have hfd:=Lib.hid (show Fits 87381 d.q from hfr.out.fr0 d (List.mem_of_getElem? hdk.out));have hfm2:=Lib.hid (show Fits (190000000+87381) (t.q*d.q) from hft.out.mul hfd.out);have hzq:=Lib.hid (show gt (rs.map FrD.q) k=d.q from gt_map hdk.out);obtain⟨gm,cm,ev0⟩:=hS4.vform hkd.out;have hev:=Lib.hid (show s1'.vm=.slice (some ⟨gm,0,none⟩) s.dm.length cm by rw[←hln.out];exact ev0);have hgmW:=Lib.hid (show S.W s.vm gm from .inr (.inr (by rw[←hv2.out,←hun.out.2.2.2.1,hev.out];rfl)));have hgmT:=Lib.hid (show w0.heap.size≠gm by have:=hwlt.out gm hgmW.out;omega)
        have hpt':∀ j (y:FrD),y.q=xk.q-t.q*d.q→gt ((s1'.dm.set k y).map FrD.q) j=if j<k+1 then gt (s.dm.map FrD.q) j-t.q*gt (rs.map FrD.q) j else gt (s.dm.map FrD.q) j:=fun j y hy=>by
         rw[set_gt hkd.out]
         by_cases e:j=k
         · subst e;rw[if_pos rfl,if_pos (by omega),hy,hxq.out,hzq.out]
         · rw[if_neg e,hpt.out]
           by_cases e2:j<k
           · rw[if_pos e2,if_pos (by omega)]
           · rw[if_neg e2,if_neg (by omega)]
        replace hpt':=Lib.hid hpt';clear hS hTv hd ev0;go_upto_region 10 with fail;clear p0 p1 p2 r0 r1 r2 eA eB c0 c1 c2;have bT:=Below.refl w4.heap.size w4;have dw0:Below w4.heap.size w4 w4.drew:=(Below.refl _ _).drew;replace hS4:=hS4.below dw0;replace hT4:=hT4.below dw0;replace hD4:=hD4.below dw0;replace ht4:=ht4.below dw0;replace hd4:=hd4.below dw0;replace hx4:=hx4.below dw0;replace bT:=bT.trans (dw0.mono bT.size);clear dw0;go_wp2_with fail;refine wp_region_noPanic ?_;refine wp_region_wait (J:=[17]) (S:=fun w'=>w'.cell? ⟨S.gs,11,none⟩=some (.slice (some ⟨gm,0,none⟩) s.dm.length cm)∧w'.cell? ⟨gm,k*3,none⟩=some (.bool xk.neg)∧w'.cell? ⟨gm,k*3+1,none⟩=some (.slice xk.a xk.la.length xk.ca)∧w'.cell? ⟨gm,k*3+2,none⟩=some (.slice xk.b xk.lb.length xk.cb)∧w'.cell? ⟨w0.heap.size,0,none⟩=some (.bool t.neg)∧w'.cell? ⟨w0.heap.size,1,none⟩=some (.slice t.a t.la.length t.ca)∧w'.cell? ⟨w0.heap.size,2,none⟩=some (.slice t.b t.lb.length t.cb)∧w'.cell? ⟨wr.heap.size,0,none⟩=some (.bool d.neg)∧w'.cell? ⟨wr.heap.size,1,none⟩=some (.slice d.a d.la.length d.ca)∧w'.cell? ⟨wr.heap.size,2,none⟩=some (.slice d.b d.lb.length d.cb)) (by kernel_rfl) (⟨hS4.c11 hln.out hev.out,(hS4.mc hev.out hxk.out).1,(hS4.mc hev.out hxk.out).2.1,(hS4.mc hev.out hxk.out).2.2,hT4.cells.1,hT4.cells.2.1,hT4.cells.2.2,hD4.cells.1,hD4.cells.2.1,hD4.cells.2.2⟩) (fun hHeld=>?_)
        refine tkW 0 rfl hHeld ?_;refine tkW 1 rfl hHeld ?_;refine tkW 2 rfl hHeld ?_;refine tkW 3 rfl hHeld ?_;refine tkW 4 rfl hHeld ?_;refine tkW 5 rfl hHeld ?_;refine tkW 6 rfl hHeld ?_;refine tkW 7 rfl hHeld ?_;refine tkW 8 rfl hHeld ?_;refine tkW 9 rfl hHeld ?_;refine tkW 10 rfl hHeld ?_;refine tkW 11 rfl hHeld ?_;refine tkW 12 rfl hHeld ?_;refine tkW 13 rfl hHeld ?_;refine rdW 14 rfl fun K hK=>?_;go_simp;have hcl:=mulF_any ht4 hd4 hft.out hfd.out (by decide);go_at_call 42;refine (hcl).mono ?_;rintro e u1 ⟨vm,rfl,hvm,bu1⟩;clear hcl;replace hS4:=hS4.below bu1;replace hT4:=hT4.below bu1;replace hD4:=hD4.below bu1;replace ht4:=ht4.below bu1;replace hd4:=hd4.below bu1;replace hx4:=hx4.below bu1;replace bT:=bT.trans (bu1.mono bT.size);go_wp2_with fail;refine hK.out _ _ (⟨hS4.c11 hln.out hev.out,(hS4.mc hev.out hxk.out).1,(hS4.mc hev.out hxk.out).2.1,(hS4.mc hev.out hxk.out).2.2,hT4.cells.1,hT4.cells.2.1,hT4.cells.2.2,hD4.cells.1,hD4.cells.2.1,hD4.cells.2.2⟩) (fun hHeld=>?_);clear hK K;(try simp only[lay]);refine rdW 15 rfl fun K hK=>?_;go_simp;have hcl:=subF_any hx4 hvm hfk.out hfm2.out (by decide);go_at_call 34;refine (hcl).mono ?_;rintro e u2 ⟨va,rfl,hva,bu2⟩;clear hcl;replace hS4:=hS4.below bu2;replace hT4:=hT4.below bu2;replace hD4:=hD4.below bu2;replace ht4:=ht4.below bu2;replace hd4:=hd4.below bu2;replace hx4:=hx4.below bu2;replace hvm:=hvm.below bu2;replace bT:=bT.trans (bu2.mono bT.size)
        obtain⟨y,rfl,hy,hyq⟩:=hva.frd;clear hva;obtain⟨w9,f0,f1,f2,e9,hS9,o9⟩:=hS4.setM2 hev.out hkd.out hy;go_wp2_with fail;refine hK.out _ _ (⟨hS4.c11 hln.out hev.out,(hS4.mc hev.out hxk.out).1,(hS4.mc hev.out hxk.out).2.1,(hS4.mc hev.out hxk.out).2.2,hT4.cells.1,hT4.cells.2.1,hT4.cells.2.2,hD4.cells.1,hD4.cells.2.1,hD4.cells.2.2⟩) (fun hHeld=>?_);clear hK K;(try simp only[lay]);refine tkW 16 rfl hHeld ?_;refine wpAnyW_ready (rs:=[17]) (by kernel_rfl) (by simp) ?_;refine AllReadyW.last rfl (by decide) (fun K hK=>?_) AllReadyW.nil;go_simp;refine hK.out _ _ ?_;clear hK K;(try clear hHeld);(try simp only[lay]);refine wpAnyW_done (by kernel_rfl) ?_ _;refine NoPanic.normal ?_;(try go_simp);(try clear hHeld);have hT9:=hT4.only o9 hgmT.out;have htr9:=(htr4.next bT).only o9 hgmW.out;clear hS4 hT4 hD4 ht4 hd4 hx4 hvm hy o9;go_wp2;go_roundw
        case rel =>
         refine⟨k+1,by omega,by go_num,_,hS9,?_,?_,hun.out,hT9,htr9⟩
         · show (s1'.dm.set k y).length=_
           rw[List.length_set];exact hln.out
         · intro j;exact (hpt' j y hyq.out)
        case measure=>simp[intOf];omega
      · obtain rfl:k=rs.length:=by omega
        have hlt2:decide ((rs.length:Int)<(rs.length:Int))=false:=decide_eq_false (by omega);go_wp2
        go_end0
        refine⟨s1',rfl,hS,?_,?_,htr⟩
        · obtain⟨v1,v2,v3,v4,v5⟩:=hun.out
          show s1'.st=moveS s.st _ _ _ _
          unfold Sm.st moveS
          have e1:s1'.dx=s1.dx:=by rw[v5,hs2.out]
          have e2:s1'.lv=y:=by rw[v1,hs2.out]
          have e3:s1'.ia=s.ia:=by rw[v3,hs2.out];exact hu3.out
          rw[e1,e2,e3,hyq.out,hu1.out]
          congr 1
          · refine eq_of_gt (by simp[hlnB.out,hlz'.out]) fun j hj=>?_;have hj2:j<s.dx.length:=by simp at hj;omega
            rw[hptB.out,if_pos (by rw[hlz'.out];exact hj2),gt_zip (by simpa using hj2) (by simp[hlz'.out];exact hj2)]
          · refine eq_of_gt (by simp[hln.out,hlr'.out]) fun j hj=>?_;have hj2:j<s.dm.length:=by simp at hj;omega
            rw[hpt.out,if_pos (by rw[hlr'.out];exact hj2),gt_zip (by simpa using hj2) (by simp[hlr'.out];exact hj2)]
        · obtain⟨v1,v2,v3,v4,v5⟩:=hun.out;exact⟨by rw[v2,hs2.out];exact hu2.out,by rw[v3,hs2.out];exact hu3.out,by rw[v4,hv2.out]⟩
set_option maxRecDepth 100000 in
set_option maxHeartbeats 1000000 in
theorem cmpF_any {v u:Value}{p q:Rat}{j k:Nat}{w:World}(hv:FV w v p) (hu:FV w u q) (hj:Fits j p) (hk:Fits k q) (hJ:j≤400000000) (hK:k≤400000000) :
 Calls Try.prog 31 #[v,u] w (RetI (cmpR p q) w):=by
 obtain⟨n1,A,ca,la,B,cb,lb,rfl,na,nb,iq⟩:=hv;obtain⟨n2,C,cc,lc,D,cd,ld,rfl,nc,nd,ir⟩:=hu;have hf:=QIs.fits iq hj;have hg:=QIs.fits ir hk;have iq':=Lib.hid iq;have ir':=Lib.hid ir;clear iq ir;obtain⟨r,hr⟩:∃ r,Hid (cmpR p q=r):=⟨_,rfl⟩;rw[hr.out];obtain⟨w0,hw0,bw0,hlt0,hB0⟩:=boxed w #[.bool n1,.slice A la.length ca,.slice B lb.length cb] 28;obtain⟨w1,hw1,bw1,hlt1,hB1⟩:=boxed w0 #[.bool n2,.slice C lc.length cc,.slice D ld.length cd] 28;have hA1:=hB0.keep bw1;have b01:=bw0.trans (bw1.mono (Nat.le_of_lt hlt0));have x0:=hA1.f0;have x1:=hA1.f1;have x2:=hA1.f2;have y0:=hB1.f0;have y1:=hB1.f1;have y2:=hB1.f2
 by_cases hne:n1=n2
 · subst hne
   rcases n1 with _ | _
   · go_enter Try.func31,Try.ntmps31;go_wp2_with fail;refine (cross_any (n1:=false) (n2:=false) (na.below b01) (nb.below b01) (nc.below b01) (nd.below b01) (by omega) (by omega) (by omega) (by omega)).mono ?_;rintro e w2 ⟨X,cx,x,Y,cy,y,rfl,nx,ny,ix,iy,mx,my,b2⟩;have hc:=Lib.hid (show cmpI (val x) (val y)=r by rw[ix.val,iy.val,q_cmp_pos iq'.out ir'.out rfl rfl];exact hr.out);clear ix iy;have hA2:=hA1.keep b2;have x0:=hA2.f0;go_wp2_with fail;refine (cmp_any nx ny).mono ?_;rintro e w3 ⟨rfl,b3⟩;rw[hc.out];go_wp2;go_ret;exact⟨rfl,(b01.trans (b2.mono (by omega))).trans (b3.mono (Nat.le_trans b01.size b2.size))⟩
   · go_enter Try.func31,Try.ntmps31;go_wp2_with fail;refine (cross_any (n1:=true) (n2:=true) (na.below b01) (nb.below b01) (nc.below b01) (nd.below b01) (by omega) (by omega) (by omega) (by omega)).mono ?_;rintro e w2 ⟨X,cx,x,Y,cy,y,rfl,nx,ny,ix,iy,mx,my,b2⟩;have hc:=Lib.hid (show cmpI (val y) (val x)=r by rw[ix.val,iy.val,q_cmp_neg iq'.out ir'.out rfl rfl];exact hr.out);clear ix iy;have hA2:=hA1.keep b2;have x0:=hA2.f0;go_wp2_with fail;refine (cmp_any ny nx).mono ?_;rintro e w3 ⟨rfl,b3⟩;rw[hc.out];go_wp2;go_ret;exact⟨rfl,(b01.trans (b2.mono (by omega))).trans (b3.mono (Nat.le_trans b01.size b2.size))⟩
 · rcases n1 with _ | _ <;> rcases n2 with _ | _
   · exact absurd rfl hne
   · obtain rfl:(1:Int)=r:=by rw[←hr.out,q_cmp_pn iq'.out ir'.out rfl rfl]
     go_enter Try.func31,Try.ntmps31;go_wp2;go_ret;exact⟨rfl,b01⟩
   · obtain rfl:(-1:Int)=r:=by rw[←hr.out,q_cmp_np iq'.out ir'.out rfl rfl]
     go_enter Try.func31,Try.ntmps31;go_wp2;go_ret;exact⟨rfl,b01⟩
   · exact absurd rfl hne
end Go.Proofs.Ytjhkapjadfpimaa
