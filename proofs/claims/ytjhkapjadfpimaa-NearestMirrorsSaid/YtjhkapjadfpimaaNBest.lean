/- Contracts of functions, for the law. -/
import Derived.Test.YtjhkapjadfpimaaNPnt
import Derived.Test.YtjhkapjadfpimaaNSlv
import Derived.Test.YtjhkapjadfpimaaNNew
import Derived.Test.YtjhkapjadfpimaaNPaid
import Derived.Deep.DeepCutAuto
import Derived.Deep.RegionHeld3
namespace Go.Proofs.Ytjhkapjadfpimaa
set_option linter.unusedVariables false
set_option linter.unusedSimpArgs false
open Go.RowKit Plain
attribute [local go_sem ↓] Go.wp_at_zero Go.wp_at_succ
theorem zero_sameP {w:World}{g:Nat}(h:Blk w g 38 #[.slice none 0 0,.slice none 0 0,.slice none 0 0,.slice none 0 0,.bool false,.slice none 0 0,.slice none 0 0]):w.cell? ⟨g,0,none⟩=some (.slice none 0 0)∧w.cell? ⟨g,1,none⟩=some (.slice none 0 0)∧w.cell? ⟨g,2,none⟩=some (.slice none 0 0)∧w.cell? ⟨g,3,none⟩=some (.slice none 0 0)∧w.cell? ⟨g,4,none⟩=some (.bool false)∧w.cell? ⟨g,5,none⟩=some (.slice none 0 0)∧w.cell? ⟨g,6,none⟩=some (.slice none 0 0)∧w.frozen? ⟨g,0,none⟩=false∧w.frozen? ⟨g,1,none⟩=false∧w.frozen? ⟨g,2,none⟩=false∧w.frozen? ⟨g,3,none⟩=false∧w.frozen? ⟨g,4,none⟩=false∧w.frozen? ⟨g,5,none⟩=false∧w.frozen? ⟨g,6,none⟩=false ∧
 w.setCell ⟨g,0,none⟩ (.slice none 0 0)=w∧w.setCell ⟨g,1,none⟩ (.slice none 0 0)=w∧w.setCell ⟨g,2,none⟩ (.slice none 0 0)=w∧w.setCell ⟨g,3,none⟩ (.slice none 0 0)=w∧w.setCell ⟨g,4,none⟩ (.bool false)=w∧w.setCell ⟨g,5,none⟩ (.slice none 0 0)=w∧w.setCell ⟨g,6,none⟩ (.slice none 0 0)=w :=
 ⟨Blk.cell h 0,Blk.cell h 1,Blk.cell h 2,Blk.cell h 3,Blk.cell h 4,Blk.cell h 5,Blk.cell h 6,Blk.free h 0,Blk.free h 1,Blk.free h 2,Blk.free h 3,Blk.free h 4,Blk.free h 5,Blk.free h 6,Blk.same h (i:=0) rfl,Blk.same h (i:=1) rfl,Blk.same h (i:=2) rfl,Blk.same h (i:=3) rfl,Blk.same h (i:=4) rfl,Blk.same h (i:=5) rfl,Blk.same h (i:=6) rfl⟩
theorem intQ_unit {n p:Nat}{v:Int}(hv:v.natAbs≤1):∀ q∈unitL n p (v:Rat),intQ 1 q:=fun q hq=>by
 obtain⟨i,hi,rfl⟩:=List.mem_map.1 hq
 split
 · exact⟨v,rfl,hv⟩
 · exact⟨0,rfl,by decide⟩
theorem fits_int2 {z:Int}(h:z.natAbs<18446744073709551616):Fits 2 (z:Rat):=by
 refine⟨?_,?_⟩
 · rw[Rat.num_intCast];have:pw 2=18446744073709551616:=rfl;omega
 · rw[Rat.den_intCast];decide
theorem allS_conI {ns:List NdD}{ms:List Int}(h:ms.length≤8∧ns.length≤300∧(∀ m∈ms,0≤m∧m≤1000000)∧∀ d∈ns,0≤d.p∧d.p<2 ^ ms.length∧-1099511627776≤d.l∧d.l≤1099511627776):ConI ms.length (allS ns ms):=by
 obtain⟨h1,h2,h3,h4⟩:=h
 have key:∀ c∈allS ns ms,c.normal.length=ms.length∧(∀ q∈c.normal,intQ 1 q)∧Fits 2 c.least:=fun c hc=>by
  unfold allS at hc
  rcases List.mem_append.1 hc with hc | hc
  · rcases List.mem_append.1 hc with hc | hc
    · obtain⟨d,hd,rfl⟩:=List.mem_map.1 hc;have h5:=h4 d hd;exact⟨unitL_len _ _ _,intQ_unit (v:=1) (by decide),fits_int2 (by omega)⟩
    · obtain⟨i,hi,rfl⟩:=List.mem_map.1 hc;exact⟨unitL_len _ _ _,intQ_unit (v:=1) (by decide),Fits.zero (by decide)⟩
  · obtain⟨i,hi,rfl⟩:=List.mem_map.1 hc;have hi2:=List.mem_range.1 hi;refine⟨unitL_len _ _ _,intQ_unit (v:=-1) (by decide),fits_int2 ?_⟩;have h5:=h3 (ms.getD i 0) (by rw[List.getD_eq_getElem?_getD,List.getElem?_eq_getElem hi2];exact List.getElem_mem hi2);omega
 exact⟨fun c hc=>(key c hc).1,fun c hc=>(key c hc).2.1,fun c hc=>(key c hc).2.2⟩
def PtIn (x:PtD) (lo hi:Nat):Prop:=∀ a,(x.pay.a=some a∨x.mults.a=some a∨x.low.a=some a∨x.high.a=some a)→lo≤a.block∧a.block<hi
theorem PtIn.mono {x:PtD}{lo hi lo' hi':Nat}(h:PtIn x lo hi) (h1:lo'≤lo) (h2:hi≤hi'):PtIn x lo' hi':=fun a ha=>⟨Nat.le_trans h1 (h a ha).1,Nat.lt_of_lt_of_le (h a ha).2 h2⟩
theorem PtL.farP {w w':World}{g:Nat}{t:TypeId}{cs:Array Value}{x:PtD}(h:PtL w x) (hne:∀ a,(x.pay.a=some a∨x.mults.a=some a∨x.low.a=some a∨x.high.a=some a)→a.block≠g) (hB:Blk w g t cs) (hd:NoDig cs) (ho:Only w w' g):PtL w' x :=
 ⟨h.pay.far (fun a e=>hne a (.inl e)) hB hd ho,h.mults.far (fun a e=>hne a (.inr (.inl e))) hB hd ho,h.low.far (fun a e=>hne a (.inr (.inr (.inl e)))) hB hd ho,h.high.far (fun a e=>hne a (.inr (.inr (.inr e)))) hB hd ho,h.lev.only_blk hB hd ho⟩
def sprd (ns:List NdD) (ms:List Int) (t:St):List Rat:=spread (allS ns ms).length (t.active.zip t.mults)
def PrjPost (tg:List FrD) (ns:List NdD) (ms:List Int) (sq:Rat) (lo:Nat) (e:Ending) (w':World):Prop :=
 (argsE tg.length ns ms≠0∧e=.returned (.tuple #[.agg #[.slice none 0 0,.slice none 0 0,.slice none 0 0,.slice none 0 0,.bool false,.slice none 0 0,.slice none 0 0],.int .i64 (argsE tg.length ns ms)])) ∨
 (argsE tg.length ns ms=0∧Infeas ms.length (allS ns ms) sq∧e=.returned (.tuple #[.agg #[.slice none 0 0,.slice none 0 0,.slice none 0 0,.slice none 0 0,.bool false,.slice none 0 0,.slice none 0 0],.int .i64 6])) ∨
 (argsE tg.length ns ms=0∧∃ (t:St) (x:PtD),Best ms.length (allS ns ms) (tg.map FrD.q) sq t∧e=.returned (.tuple #[x.v,.int .i64 0])∧PtL w' x∧PtIn x lo w'.heap.size∧x.pay.qs=t.x∧x.mults.qs=(sprd ns ms t).take ns.length∧x.low.qs=((sprd ns ms t).drop ns.length).take ms.length∧x.high.qs=(sprd ns ms t).drop (ns.length+ms.length)∧x.lev.q=t.level)
def RetPrj (tg:List FrD) (ns:List NdD) (ms:List Int) (sq:Rat) (W:World) (e:Ending) (w':World):Prop:=Hid (PrjPost tg ns ms sq W.heap.size e w')∧Below W.heap.size W w'
set_option maxRecDepth 100000 in
set_option maxHeartbeats 40000000 in
theorem project2_any {A B C:Option Addr}{ca cb cc Kt:Nat}{tg:List FrD}{ns:List NdD}{ms:List Int}{v:Value}{sq:Rat}{w:World}(ht0:FL w A ca tg) (hn0:NL w B cb ns) (hm0:ZL w C cc ms) (hv0:FV w v sq) (hKt0:2≤Kt) (hKt:Kt≤6000000) (hft0:QFits Kt (tg.map FrD.q)) (hfs0:Fits 2 sq)
 (hrun0:argsE tg.length ns ms=0→∃ f,(projS KN (allS ns ms) (tg.map FrD.q) sq ms.length f=some none∧Infeas ms.length (allS ns ms) sq)∨∃ t,projS KN (allS ns ms) (tg.map FrD.q) sq ms.length f=some (some t)∧Best ms.length (allS ns ms) (tg.map FrD.q) sq t) :
 Calls Try.prog 25 #[.slice A tg.length ca,.slice B ns.length cb,.slice C ms.length cc,v] w (RetPrj tg ns ms sq w):=by
 obtain⟨sv,rfl,hsv0,hsq⟩:=hv0.frd;obtain⟨E,hE⟩:∃ E,Hid (argsE tg.length ns ms=E):=⟨_,rfl⟩;have hft:=Lib.hid hft0;have hrun:=Lib.hid hrun0;have hfs:=Lib.hid hfs0;obtain⟨w0,hw0,b0,l0,B0⟩:=boxed w #[.bool sv.neg,.slice sv.a sv.la.length sv.ca,.slice sv.b sv.lb.length sv.cb] 28;obtain⟨w1,hw1,b1,l1,B1⟩:=boxed w0 #[.slice none 0 0,.slice none 0 0,.slice none 0 0,.slice none 0 0,.bool false,.slice none 0 0,.slice none 0 0] 38;have b01:=b0.trans (b1.mono b0.size);have hS1:VarQ w1 w.heap.size sv:=Blk.keep B0 b1;have hlt:=ht0.len;have har:=args_any (A:=A) (w:=w1) (tl:=tg.length) (ca:=ca) hlt (hn0.below b01) (hm0.below b01);rw[hE.out] at har;clear hft0 hfs0 hrun0;go_enter Try.func25,Try.ntmps25;go_wp2_with fail;refine har.mono ?_;rintro e w2 ⟨rfl,b2⟩;clear har;have b02:=b01.trans (b2.mono b01.size);have hS2:=hS1.below b2;have hR2:Blk w2 w0.heap.size 38 #[.slice none 0 0,.slice none 0 0,.slice none 0 0,.slice none 0 0,.bool false,.slice none 0 0,.slice none 0 0]:=Blk.keep B1 b2
 by_cases hE0:E=0
 · have hEz:(E != 0)=false:=by rw[bne_eq_false_iff_eq];exact hE0
   have hE0':=Lib.hid (show argsE tg.length ns ms=0 from hE.out.trans hE0);obtain⟨k1,k2,k3,k4,k5⟩:=argsE_ok hE0'.out;have hok:=Lib.hid (show ms.length≤8∧ns.length≤300∧(∀ m∈ms,0≤m∧m≤1000000)∧∀ d∈ns,0≤d.p∧d.p<2 ^ ms.length∧-1099511627776≤d.l∧d.l≤1099511627776 from ⟨k1,k2,k4,k5⟩);have htl:=Lib.hid k3;have hcon:=Lib.hid (allS_conI hok.out);obtain⟨f,hf0⟩:=hrun.out hE0'.out;have hf:=Lib.hid hf0;have hnw:=newSolver_any (w:=w2) (ht0.below b02) (hn0.below b02) (hm0.below b02) (hsv0.below b02) hok.out htl.out;obtain⟨x0,x1,x2⟩:=hS2.cells;clear k1 k2 k3 k4 k5 hf0 hE0;go_wp2_with fail;refine hnw.mono ?_;rintro e w3 ⟨S,lv,rfl,hM3,hlv,hnm,hcs,hg1,hg2,b3⟩;clear hnw x0 x1 x2;have hwR:=Lib.hid (show w0.heap.size<w2.heap.size from hR2.lt);have hgs1:=Lib.hid hg1;have hgx1:=Lib.hid hg2;have b03:=b02.trans (b3.mono b02.size);have hR3:=Blk.keep hR2 b3;have hcon2:=Lib.hid (show ConI S.n (S.cs.map CoD.con) by rw[hcs.out,hnm.out.1];exact hcon.out);have hn8:=Lib.hid (show S.n≤8 by rw[hnm.out.1];exact hok.out.1);have hsq2:=Lib.hid (show S.sum.q=sq by rw[hnm.out.2.2];exact hsq.out);clear hg1 hg2
   rcases hf.out with ⟨hpr,hinf⟩ | ⟨t,hpr,hbest⟩
   · have hinf':=Lib.hid hinf;have hsl:=solver_any (Kt:=Kt) (B:=w2.heap.size) (f0:=f) (r:=none) hKt0 hKt hM3 hcon2.out hn8.out (by rw[hnm.out.1];exact htl.out) ⟨hlv.out,rfl,rfl⟩ hft.out (by rw[hsq2.out];exact hfs.out) (by rw[hcs.out,hsq2.out,hnm.out.1];exact hpr) hgs1.out hgx1.out;clear hpr hinf hM3;go_wp2_with fail;refine hsl.mono ?_;rintro e w4 ⟨s4,rfl,-,-,b4⟩;clear hsl;have his:(none:Option St).isSome=false:=rfl;have b24:Below w2.heap.size w2 w4:=b3.trans b4;have b04:=b02.trans (b24.mono b02.size);have hR4:=Blk.keep hR2 b24;obtain⟨z0,z1,z2,z3,z4,z5,z6,f0,f1,f2,f3,f4,f5,f6,s0,s1,s2,s3,s4,s5,s6⟩:=zero_sameP hR4;go_wp2;refine bodyPost_ret (v:=.tuple #[.agg #[.slice none 0 0,.slice none 0 0,.slice none 0 0,.slice none 0 0,.bool false,.slice none 0 0,.slice none 0 0],.int .i64 6]) (by simp[results,Try.results25,go_sem,z0,z1,z2,z3,z4,z5,z6]) rfl ?_;exact⟨.inr (.inl ⟨hE0'.out,hinf'.out,rfl⟩),b04⟩
   · have hbest':=Lib.hid hbest;have hsl:=solver_any (Kt:=Kt) (B:=w2.heap.size) (f0:=f) (r:=some t) hKt0 hKt hM3 hcon2.out hn8.out (by rw[hnm.out.1];exact htl.out) ⟨hlv.out,rfl,rfl⟩ hft.out (by rw[hsq2.out];exact hfs.out) (by rw[hcs.out,hsq2.out,hnm.out.1];exact hpr) hgs1.out hgx1.out;clear hpr hbest hM3;go_wp2_with fail;refine hsl.mono ?_;rintro e w4 ⟨s4,rfl,hM4,hst4,b4⟩;clear hsl;have hst:=Lib.hid (hst4.out t rfl);have his:(some t).isSome=true:=rfl;have b24:Below w2.heap.size w2 w4:=b3.trans b4;have b04:=b02.trans (b24.mono b02.size);have hR4:=Blk.keep hR2 b24;have hcl:=Lib.hid (show S.cs.length=(allS ns ms).length by rw[←hcs.out,List.length_map]);have hia:=Lib.hid (show s4.ia=t.active by rw[←hst.out];rfl);have hdm:=Lib.hid (show s4.dm.map FrD.q=t.mults by rw[←hst.out];rfl);have hpt:=point_any hM4 (by rw[hcl.out,allS_len,hnm.out.1,hnm.out.2.1]) (by rw[hnm.out.2.1];exact hok.out.2.1) hn8.out (by rw[hia.out,hcl.out];exact hbest'.out.hA) (by have h1:=hbest'.out.lm;rw[←hdm.out,List.length_map] at h1;rw[hia.out];exact h1) (by rw[hia.out];exact hbest'.out.act hok.out.1) (by rw[hdm.out];exact hbest'.out.fit.2.2);have hgx4:=Lib.hid (show S.gx<w4.heap.size from Nat.lt_of_lt_of_le hM4.b.hx hM4.b.hR);clear hM4;go_wp2_with fail;refine hpt.mono ?_;rintro e w5 ⟨x,rfl,hx,hxq,hxa,b5⟩;clear hpt;have b05:=b04.trans (b5.mono b04.size);have hR5:=Blk.keep hR4 b5
     obtain⟨w9,z0,z1,z2,z3,z4,z5,z6,f0,f1,f2,f3,f4,f5,f6,e9,h9,o9⟩:=zero_storeP hR5 x;obtain⟨t0,t1,t2,t3,t4,t5,t6⟩:=h9.cells;have hw4:=Lib.hid (show w0.heap.size<w4.heap.size from hR4.lt);have hres:=Lib.hid (show PtL w9 x from ⟨hx.pay.far (fun a e=>by have h1:=hxa.out.1 a e;have h2:=hgx1.out;have h3:=hwR.out;omega) hR5 noDigZ o9,hx.mults.far (fun a e=>by have h1:=(hxa.out.2.1 a e).1;have h3:=hw4.out;omega) hR5 noDigZ o9,hx.low.far (fun a e=>by have h1:=(hxa.out.2.2.1 a e).1;have h3:=hw4.out;omega) hR5 noDigZ o9,hx.high.far (fun a e=>by have h1:=(hxa.out.2.2.2 a e).1;have h3:=hw4.out;omega) hR5 noDigZ o9,hx.lev.only_blk hR5 noDigZ o9⟩);have hw24:=Lib.hid (show w2.heap.size≤w4.heap.size from b24.size);have hw45:=Lib.hid (show w4.heap.size≤w5.heap.size from b5.size);have hww:=Lib.hid (show w.heap.size<w0.heap.size from l0)
     have hpin:=Lib.hid (show PtIn x w.heap.size w9.heap.size from fun a ha=>by
      have h0:=o9.size;have h1:=hgx1.out;have h2:=hwR.out;have h3:=hgx4.out;have h4:=hw24.out;have h5:=hw45.out;have h6:=hww.out
      rcases ha with e | e | e | e
      · have h9:=hxa.out.1 a e;omega
      · have h9:=hxa.out.2.1 a e;omega
      · have h9:=hxa.out.2.2.1 a e;omega
      · have h9:=hxa.out.2.2.2 a e;omega)
     have b09:=o9.to_below b05 b0.size b05.size;go_wp2;refine bodyPost_ret (v:=.tuple #[x.v,.int .i64 0]) (by simp[results,Try.results25,go_sem,t0,t1,t2,t3,t4,t5,t6]) rfl ?_;obtain⟨q1,q2,q3,q4,q5⟩:=hxq.out;have e1:spread S.cs.length (s4.ia.zip (s4.dm.map FrD.q))=sprd ns ms t:=by rw[hcl.out,hia.out,hdm.out];rfl
     rw[e1,hnm.out.2.1] at q2;rw[e1,hnm.out.1,hnm.out.2.1] at q3;rw[e1,hnm.out.1,hnm.out.2.1] at q4;exact⟨.inr (.inr ⟨hE0'.out,t,x,hbest'.out,rfl,hres.out,hpin.out,by rw[q1,←hst.out];rfl,q2,q3,q4,by rw[q5,←hst.out];rfl⟩),b09⟩
 · have hEz:(E != 0)=true:=by rw[bne_iff_ne];exact hE0
   have hE0':=Lib.hid (show argsE tg.length ns ms≠0 by rw[hE.out];exact hE0);obtain⟨z0,z1,z2,z3,z4,z5,z6,f0,f1,f2,f3,f4,f5,f6,s0,s1,s2,s3,s4,s5,s6⟩:=zero_sameP hR2;go_wp2;refine bodyPost_ret (v:=.tuple #[.agg #[.slice none 0 0,.slice none 0 0,.slice none 0 0,.slice none 0 0,.bool false,.slice none 0 0,.slice none 0 0],.int .i64 E]) (by simp[results,Try.results25,go_sem,z0,z1,z2,z3,z4,z5,z6]) rfl ?_;exact⟨.inl ⟨hE0'.out,by rw[hE.out]⟩,b02⟩
theorem project_any {A B C:Option Addr}{ca cb cc:Nat}{tg:List FrD}{ns:List NdD}{ms:List Int}{v:Value}{sq:Rat}{w:World}(ht0:FL w A ca tg) (hn0:NL w B cb ns) (hm0:ZL w C cc ms) (hv0:FV w v sq) (hft0:QFits 2 (tg.map FrD.q)) (hfs0:Fits 2 sq) :
 Calls Try.prog 25 #[.slice A tg.length ca,.slice B ns.length cb,.slice C ms.length cc,v] w (RetPrj tg ns ms sq w) :=
 project2_any (Kt:=2) ht0 hn0 hm0 hv0 (by decide) (by decide) hft0 hfs0 fun hE=>by
  obtain⟨k1,k2,k3,k4,k5⟩:=argsE_ok hE;exact proj_ok (allS_conI ⟨k1,k2,k4,k5⟩) k1 hft0 hfs0 (by rw[List.length_map];exact k3)
theorem poss_run {n:Nat}{all:List Con}{tg:List Rat}{sum:Rat}(h:ConI n all) (hn:n≤8) (ht:QFits 6000000 tg) (hl:tg.length=n) (htot:ip n (fun _=>1) (gt tg)=sum) (hok:∀ k,k<all.length→lst all k≤ip n (gt (nrm all k)) (gt tg)) :
 ∃ f t,projS KN all tg sum n f=some (some t)∧Best n all tg sum t∧t.x=tg:=by
 have hsm:sumR tg=sum:=by
  rw[←htot,sumR_sm,hl];unfold ip;exact sm_congr fun i _=>by grind
 have hw:(worstK all tg all.length).1=none:=by
  have hw:=worst_ok all tg all.length;obtain⟨o,D,hoD⟩:∃ o D,worstK all tg all.length=(o,D):=⟨_,_,rfl⟩;rw[hoD] at hw ⊢
  cases o with
  | none=>rfl
  | some k =>
   exfalso
   have h1:=hw.2;rw[dotR_ip (n:=n) (h.len.nrm hw.1) hl] at h1;exact absurd (hok k hw.1) (Rat.not_le.2 h1)
 by_cases h0:n=0
 · subst h0;have htg:tg=[]:=List.eq_nil_of_length_eq_zero hl;refine⟨0,⟨tg,0,[],[]⟩,?_,⟨fun a ha=>(by cases ha),hl,rfl,fun h=>(by omega),⟨fun i hi=>(by omega),fun j hj=>?_⟩,fun j hj=>(by cases hj),hok,fun _=>(by decide:(0:Nat)≤7),ht.mono (by decide),Fits.zero (by decide),fun q hq=>(by cases hq)⟩,rfl⟩
   · unfold projS;rw[if_pos rfl,if_pos ⟨by rw[hsm];grind,hw⟩]
   · have hj0:j=0:=by have:j<0+1:=hj;omega
     subst hj0
     show (0:Rat)=sum
     rw[←htot];rfl
 · have hs0:startS tg sum n=⟨tg,0,[],[]⟩:=by
    have e:(sum-sumR tg) / (n:Rat)=0:=by rw[hsm];grind
    unfold startS;rw[e]
    have e2:tg.map (fun q=>q+0)=tg:=by
     rw[show (fun q:Rat=>q+0)=id from funext fun q=>by show q+0=q;grind];exact List.map_id tg
    rw[e2]
   have hst:=start_ok (all:=all) (sum:=sum) (show 0<n by omega) hl;rw[hs0] at hst;have hO:OkS KN n all ⟨tg,0,[],[]⟩:=⟨ht.mono (by decide),Fits.zero (by decide),fun q hq=>(by cases hq),hl,rfl,(by decide:(0:Nat)≤7),fun k hk=>(by cases hk)⟩;refine⟨1,⟨tg,0,[],[]⟩,?_,hst.best hO hok,rfl⟩;unfold projS;rw[if_neg h0,hs0];unfold runS;rw[if_pos (okS_iff.2 hO)]
   show (match (worstK all tg all.length).1 with
    | none=>some (some _)
    | some k=>_)=_
   rw[hw]
end Go.Proofs.Ytjhkapjadfpimaa
namespace Go.Proofs.Ytjhkapjadfpimaa
set_option linter.unusedVariables false
set_option linter.unusedSimpArgs false
open Go.RowKit Plain
structure Poss (n:Nat) (all:List Con) (sum:Rat) (u:List Rat):Prop where
 len:u.length=n
 tot:ip n (fun _=>1) (gt u)=sum
 ok:∀ k,k<all.length→lst all k≤ip n (gt (nrm all k)) (gt u)
section
variable {n:Nat}{all:List Con}{tg:List Rat}{sum:Rat}{t t':St}{u:List Rat}
theorem Infeas.no (h:Infeas n all sum) (hu:Poss n all sum u):False:=h u hu.len hu.tot hu.ok
theorem ip_ones (n:Nat) (all:List Con) (A:List Nat) (x:Nat→Rat):ip n (fn (normalsS n all A) 0) x=ip n (fun _=>1) x :=
 ip_congr (a':=fun _=>1) (b':=x) (fun i hi=>fn_ones n all A hi) fun _ _=>rfl
theorem Best.poss (h:Best n all tg sum t):Poss n all sum t.x:=by
 refine⟨h.lx,?_,h.ok⟩;have h1:=h.pt.eqs 0 (by omega);rw[ip_ones] at h1;exact h1
theorem Best.nearest (h:Best n all tg sum t) (hu:Poss n all sum u):distV n tg t.x+distV n t.x u≤distV n tg u:=by
 refine h.pt.nearest (u:=gt u) (fun _=>?_) (fun j h0 hj=>?_) fun j h0 hj=>?_
 · rw[ip_ones];exact hu.tot
 · obtain⟨i,rfl⟩:∃ i,j=i+1:=⟨j-1,by omega⟩;rw[gt_cons1];exact h.nn i (by have:=h.lm;omega)
 · obtain⟨i,rfl⟩:∃ i,j=i+1:=⟨j-1,by omega⟩;have hi:i<t.active.length:=by omega
   rw[bv_act hi,fn_act hi];exact hu.ok _ (h.hA _ (List.getElem_mem hi))
theorem dist_eq {x u:List Rat}(hx:x.length=n) (hu:u.length=n) (h:distV n x u≤0):u=x:=by
 have h1:ip n (fun i=>gt u i-gt x i) (fun i=>gt u i-gt x i)=0:=Rat.le_antisymm h (ip_self n _);refine eq_of_gt (by omega) fun j hj=>?_;have h2:=ip_self_zero h1 j (by omega)
 grind
theorem Best.only (h:Best n all tg sum t) (hu:Poss n all sum u) (hd:distV n tg u≤distV n tg t.x):u=t.x:=by
 have h1:=h.nearest hu;exact dist_eq h.lx hu.len (by grind)
end
theorem sm_parts (a b:Nat) (f:Nat→Rat):sm (a+b) f=sm a f+sm b (fun i=>f (a+i)):=by
 induction b with
 | zero=>show sm a f=sm a f+0;grind
 | succ b ih =>
  show sm (a+b) f+f (a+b)=sm a f+(sm b (fun i=>f (a+i))+f (a+b))
  rw[ih];grind
theorem gt_addAt {l:List Rat}{p:Nat × Rat}(hp:p.1<l.length) (k:Nat):gt (addAt l p) k=gt l k+p.2*dl p.1 k:=by
 unfold addAt gt dl
 by_cases e:p.1=k
 · subst e;rw[if_pos rfl,List.getD_eq_getElem?_getD,List.getElem?_set_self hp]
   show _+_=_+_*1
   rw[Rat.mul_one]
 · rw[if_neg e,List.getD_eq_getElem?_getD,List.getElem?_set_ne e,←List.getD_eq_getElem?_getD]
   grind
theorem spread_sm {L:Nat}{ps:List (Nat × Rat)}(hp:∀ p∈ps,p.1<L) (f:Nat→Rat):∀ j,j≤ps.length→sm L (fun k=>gt (spread L (ps.take j)) k*f k)=sm j (fun i=>(ps.getD i (0,0)).2*f (ps.getD i (0,0)).1):=by
 intro j
 induction j with
 | zero =>
  intro _;refine sm_zeroOf fun k hk=>?_
  have:gt (spread L (ps.take 0)) k=0:=by
   show (List.replicate L (0:Rat)).getD k 0=0
   rw[getD_of 0 (by simpa using hk)];simp
  rw[this];grind
 | succ j ih =>
  intro hj;have hg:ps[j]?=some (ps.getD j (0,0)):=by rw[List.getD_eq_getElem?_getD,List.getElem?_eq_getElem (show j<ps.length by omega)];rfl
  have hpj:(ps.getD j (0,0)).1<L:=hp _ (List.mem_of_getElem? hg);rw[spread_step hg];rw[sm_congr (g:=fun k=>gt (spread L (ps.take j)) k*f k+dl (ps.getD j (0,0)).1 k*((ps.getD j (0,0)).2*f k)) (fun k hk=>by rw[gt_addAt (by rw[spread_len];exact hpj)];grind)];rw[sm_add,ih (by omega),sm_dl _ hpj];rfl
theorem spread_at {L k:Nat}{ps:List (Nat × Rat)}(hp:∀ p∈ps,p.1<L) (hk:k<L):gt (spread L ps) k=sm ps.length (fun i=>(ps.getD i (0,0)).2*dl (ps.getD i (0,0)).1 k):=by
 have h:=spread_sm hp (fun i=>dl i k) ps.length (Nat.le_refl _);rw[List.take_length,sm_dl' _ hk] at h;exact h
theorem dl_pos (i j:Nat):0≤dl i j:=by unfold dl;split <;> decide
section
variable {ns:List NdD}{ms:List Int}{tg:List Rat}{sum:Rat}{t:St}
theorem bit_two {k i:Nat}(hk:k<8) (hi:i<8):bitP (2 ^ k) i=decide (k=i):=by
 have key:∀ a b:Fin 8,bitP (2 ^ a.val) b.val=decide (a.val=b.val):=by decide +kernel
 exact key ⟨k,hk⟩ ⟨i,hi⟩
theorem gt_unit {n p i:Nat}{v:Rat}(hi:i<n):gt (unitL n p v) i=if bitP p i=true then v else 0:=by
 unfold gt;rw[List.getD_eq_getElem?_getD,unitL_get hi];rfl
theorem gt_two {n k i:Nat}{v:Rat}(hn:n≤8) (hk:k<n) (hi:i<n):gt (unitL n (2 ^ k) v) i=v*dl k i:=by
 rw[gt_unit hi,bit_two (by omega) (by omega)];unfold dl
 by_cases e:k=i
 · rw[if_pos e,if_pos (by simpa using e),Rat.mul_one]
 · rw[if_neg e,if_neg (by simpa using e),Rat.mul_zero]
theorem nrm_need {k:Nat}(hk:k<ns.length):nrm (allS ns ms) k=unitL ms.length (pOf ns k) 1∧lst (allS ns ms) k=((lOf ns k:Int):Rat):=by
 have h:=allS_need (ms:=ms) (List.getElem?_eq_getElem hk);have e:ns.getD k ⟨0,0⟩=ns[k]:=by rw[List.getD_eq_getElem?_getD,List.getElem?_eq_getElem hk];rfl
 refine⟨?_,?_⟩
 · rw[nrm_of h];unfold pOf;rw[e]
 · rw[lst_of h];unfold lOf;rw[e]
theorem nrm_low {i:Nat}(hi:i<ms.length):nrm (allS ns ms) (ns.length+i)=unitL ms.length (2 ^ i) 1∧lst (allS ns ms) (ns.length+i)=0 :=
 ⟨nrm_of (allS_low hi),lst_of (allS_low hi)⟩
theorem nrm_up {i:Nat}(hi:i<ms.length):nrm (allS ns ms) (ns.length+ms.length+i)=unitL ms.length (2 ^ i) (-1)∧lst (allS ns ms) (ns.length+ms.length+i)=((-(ms.getD i 0):Int):Rat):=by
 have h:ms[i]?=some (ms.getD i 0):=by rw[List.getD_eq_getElem?_getD,List.getElem?_eq_getElem hi];rfl
 exact⟨nrm_of (allS_up h),lst_of (allS_up h)⟩
theorem ip_two {n k:Nat}{v:Rat}(hn:n≤8) (hk:k<n) (x:Nat→Rat):ip n (gt (unitL n (2 ^ k) v)) x=v*x k:=by
 unfold ip;rw[sm_congr (g:=fun i=>dl k i*(v*x i)) (fun i hi=>by rw[gt_two hn hk hi];grind),sm_dl _ hk]
theorem paid_ip {p:Nat}{pay:List Rat}{n:Nat}(hl:pay.length=n):sumR (paidL p pay)=ip n (gt (unitL n p 1)) (gt pay):=by
 rw[sumR_sm,paidL_len,hl];unfold ip;refine sm_congr fun i hi=>?_;have hi2:i<pay.length:=by omega
 have:gt (paidL p pay) i=if bitP p i=true then gt pay i else 0:=by
  unfold gt;rw[List.getD_eq_getElem?_getD,paidL_get (List.getElem?_eq_getElem hi2),getD_of 0 hi2];rfl
 rw[this,gt_unit hi]
 by_cases e:bitP p i=true
 · rw[if_pos e,if_pos e,Rat.one_mul]
 · rw[if_neg e,if_neg e,Rat.zero_mul]
theorem poss_iff {u:List Rat}(hn:ms.length≤8):Poss ms.length (allS ns ms) sum u ↔ u.length=ms.length∧sumR u=sum∧(∀ k,k<ns.length→((lOf ns k:Int):Rat)≤sumR (paidL (pOf ns k) u))∧(∀ i,i<ms.length→0≤gt u i)∧∀ i,i<ms.length→gt u i≤((ms.getD i 0:Int):Rat):=by
 have ht:∀ hl:u.length=ms.length,sumR u=ip ms.length (fun _=>1) (gt u):=fun hl=>by
  rw[sumR_sm,hl];unfold ip;exact sm_congr fun i _=>by grind
 constructor
 · intro h;refine⟨h.len,by rw[ht h.len];exact h.tot,fun k hk=>?_,fun i hi=>?_,fun i hi=>?_⟩
   · have h1:=h.ok k (by rw[allS_len];omega);rw[(nrm_need hk).1,(nrm_need hk).2] at h1;rw[paid_ip h.len];exact h1
   · have h1:=h.ok (ns.length+i) (by rw[allS_len];omega);rw[(nrm_low hi).1,(nrm_low hi).2,ip_two hn hi] at h1
     grind
   · have h1:=h.ok (ns.length+ms.length+i) (by rw[allS_len];omega);rw[(nrm_up hi).1,(nrm_up hi).2,ip_two hn hi,Rat.intCast_neg] at h1
     grind
 · rintro ⟨h1,h2,h3,h4,h5⟩;refine⟨h1,by rw[←ht h1];exact h2,fun k hk=>?_⟩;rw[allS_len] at hk
   by_cases e1:k<ns.length
   · rw[(nrm_need e1).1,(nrm_need e1).2,←paid_ip h1];exact h3 k e1
   · by_cases e2:k<ns.length+ms.length
     · obtain⟨i,rfl⟩:∃ i,k=ns.length+i:=⟨k-ns.length,by omega⟩;have hi:i<ms.length:=by omega
       rw[(nrm_low hi).1,(nrm_low hi).2,ip_two hn hi];have:=h4 i hi;grind
     · obtain⟨i,rfl⟩:∃ i,k=ns.length+ms.length+i:=⟨k-(ns.length+ms.length),by omega⟩;have hi:i<ms.length:=by omega
       rw[(nrm_up hi).1,(nrm_up hi).2,ip_two hn hi,Rat.intCast_neg];have:=h5 i hi;grind
theorem zip_getD {al:List Nat}{qs:List Rat}(h:qs.length=al.length){i:Nat}(hi:i<al.length):(al.zip qs).getD i (0,0)=(al.getD i 0,gt qs i):=by
 unfold gt;rw[getD_of (0,0) (by rw[List.length_zip];omega),getD_of 0 hi,getD_of 0 (by omega),List.getElem_zip]
theorem Best.zipA (h:Best ms.length (allS ns ms) tg sum t):∀ p∈t.active.zip t.mults,p.1<(allS ns ms).length:=fun p hp=>h.hA _ (List.of_mem_zip hp).1
theorem Best.zipL (h:Best ms.length (allS ns ms) tg sum t):(t.active.zip t.mults).length=t.active.length:=by rw[List.length_zip,h.lm,Nat.min_self]
theorem Best.sp_nn (h:Best ms.length (allS ns ms) tg sum t){k:Nat}(hk:k<(allS ns ms).length):0≤gt (sprd ns ms t) k:=by
 unfold sprd;rw[spread_at h.zipA hk,h.zipL];refine sm_nonneg fun i hi=>Rat.mul_nonneg ?_ (dl_pos _ _);rw[zip_getD h.lm hi];exact h.nn i (by rw[h.lm];exact hi)
theorem Best.sp_tight (h:Best ms.length (allS ns ms) tg sum t){k:Nat}(hk:k<(allS ns ms).length) (hne:gt (sprd ns ms t) k≠0):ip ms.length (gt (nrm (allS ns ms) k)) (gt t.x)=lst (allS ns ms) k:=by
 by_cases e:∃ i,i<t.active.length∧t.active.getD i 0=k
 · obtain⟨i,hi,hik⟩:=e;have h1:=h.pt.eqs (i+1) (by omega);rw[fn_act hi,bv_act hi] at h1;rw[getD_of 0 hi] at hik;rw[hik] at h1;exact h1
 · exfalso;apply hne
   unfold sprd;rw[spread_at h.zipA hk,h.zipL];refine sm_zeroOf fun i hi=>?_;rw[zip_getD h.lm hi];have:t.active.getD i 0≠k:=fun e'=>e ⟨i,hi,e'⟩;unfold dl;rw[if_neg this];grind
theorem Best.slack (h:Best ms.length (allS ns ms) tg sum t){k:Nat}(hk:k<(allS ns ms).length){b:Bool}(hb:ip ms.length (gt (nrm (allS ns ms) k)) (gt t.x)=lst (allS ns ms) k→b=true):slackB (gt (sprd ns ms t) k) b=true:=by
 unfold slackB
 by_cases e:gt (sprd ns ms t) k=0
 · rw[decide_eq_true e];rfl
 · have h1:=h.sp_nn hk
   have h2:0<gt (sprd ns ms t) k:=by
    rcases Rat.le_iff_lt_or_eq.1 h1 with h3 | h3
    · exact h3
    · exact absurd h3.symm e
   rw[hb (h.sp_tight hk e),decide_eq_true h2];simp
theorem gt_take {l:List Rat}{m k:Nat}(hk:k<m):(l.take m).getD k 0=gt l k:=by
 unfold gt;rw[List.getD_eq_getElem?_getD,List.getElem?_take,if_pos hk,←List.getD_eq_getElem?_getD]
theorem gt_seg {l:List Rat}{m n i:Nat}(hi:i<n):((l.drop m).take n).getD i 0=gt l (m+i):=by
 rw[gt_take hi];unfold gt;rw[List.getD_eq_getElem?_getD,List.getElem?_drop,←List.getD_eq_getElem?_getD]
theorem gt_tail {l:List Rat}{m i:Nat}:(l.drop m).getD i 0=gt l (m+i):=by
 unfold gt;rw[List.getD_eq_getElem?_getD,List.getElem?_drop,←List.getD_eq_getElem?_getD]
theorem Best.force (h:Best ms.length (allS ns ms) tg sum t) (hn:ms.length≤8){i:Nat}(hi:i<ms.length) :
 gt t.x i-gt tg i=t.level+gt (sprd ns ms t) (ns.length+i)-gt (sprd ns ms t) (ns.length+ms.length+i)+sumR (forceL ns ((sprd ns ms t).take ns.length) i):=by
 have h1:=h.pt.kkt i hi
 have h2:lc (t.active.length+1) (gt (t.level::t.mults)) (fn (normalsS ms.length (allS ns ms) t.active)) i=t.level+sm t.active.length (fun j=>gt t.mults j*gt (nrm (allS ns ms) (t.active.getD j 0)) i):=by
  unfold lc;rw[sm_head,fn_ones _ _ _ hi]
  congr 1
  · show t.level*1=_;rw[Rat.mul_one]
  · exact sm_congr fun j hj=>by rw[fn_act hj,gt_cons1,getD_of 0 hj]
 have h3:=spread_sm h.zipA (fun k=>gt (nrm (allS ns ms) k) i) _ (Nat.le_refl _);rw[List.take_length,h.zipL] at h3
 have h4:sm t.active.length (fun j=>gt t.mults j*gt (nrm (allS ns ms) (t.active.getD j 0)) i)=sm (allS ns ms).length (fun k=>gt (sprd ns ms t) k*gt (nrm (allS ns ms) k) i):=by
  unfold sprd;rw[h3];exact sm_congr fun j hj=>by rw[zip_getD h.lm hj]
 have h5:sm (allS ns ms).length (fun k=>gt (sprd ns ms t) k*gt (nrm (allS ns ms) k) i)=sumR (forceL ns ((sprd ns ms t).take ns.length) i)+gt (sprd ns ms t) (ns.length+i)-gt (sprd ns ms t) (ns.length+ms.length+i):=by
  rw[allS_len,sm_parts,sm_parts]
  have e1:sm ns.length (fun k=>gt (sprd ns ms t) k*gt (nrm (allS ns ms) k) i)=sumR (forceL ns ((sprd ns ms t).take ns.length) i):=by
   rw[sumR_sm,forceL_len];refine sm_congr fun k hk=>?_;unfold gt;rw[List.getD_eq_getElem?_getD (l:=forceL _ _ _),forceL_get hk]
   show _=if bitP (pOf ns k) i=true then ((sprd ns ms t).take ns.length).getD k 0 else 0
   rw[gt_take hk,(nrm_need hk).1];have:=gt_unit (p:=pOf ns k) (v:=1) hi
   unfold gt at this ⊢
   rw[this]
   by_cases e:bitP (pOf ns k) i=true
   · rw[if_pos e,if_pos e,Rat.mul_one]
   · rw[if_neg e,if_neg e,Rat.mul_zero]
  have e2:sm ms.length (fun k=>gt (sprd ns ms t) (ns.length+k)*gt (nrm (allS ns ms) (ns.length+k)) i)=gt (sprd ns ms t) (ns.length+i):=by
   rw[sm_congr (g:=fun k=>gt (sprd ns ms t) (ns.length+k)*dl k i) (fun k hk=>by rw[(nrm_low hk).1,gt_two hn hk hi,Rat.one_mul]),sm_dl' (fun k=>gt (sprd ns ms t) (ns.length+k)) hi]
  have e3:sm ms.length (fun k=>gt (sprd ns ms t) (ns.length+ms.length+k)*gt (nrm (allS ns ms) (ns.length+ms.length+k)) i)=- gt (sprd ns ms t) (ns.length+ms.length+i):=by
   rw[sm_congr (g:=fun k=>(-gt (sprd ns ms t) (ns.length+ms.length+k))*dl k i) (fun k hk=>by rw[(nrm_up hk).1,gt_two hn hk hi];grind),sm_dl' (fun k=>-gt (sprd ns ms t) (ns.length+ms.length+k)) hi]
  rw[e1,e2,e3];grind
 rw[h2,h4,h5] at h1
 grind
theorem Best.cert (h:Best ms.length (allS ns ms) tg sum t) (hn:ms.length≤8):certB tg ns ms sum t.x ((sprd ns ms t).take ns.length) (((sprd ns ms t).drop ns.length).take ms.length) ((sprd ns ms t).drop (ns.length+ms.length)) t.level=true:=by
 have hL:(sprd ns ms t).length=ns.length+ms.length+ms.length:=by unfold sprd;rw[spread_len,allS_len]
 obtain⟨p1,p2,p3,p4,p5⟩:=(poss_iff hn).1 h.poss;refine cert_yes ?_ (fun i hi=>?_) p2 (fun k hk=>?_) fun i hi=>?_
 · unfold lensB;rw[decide_eq_true p1,decide_eq_true (by rw[List.length_take,List.length_drop,hL];omega),decide_eq_true (by rw[List.length_drop,hL];omega),decide_eq_true (by rw[List.length_take,hL];omega)];rfl
 · unfold certA;have a1:¬ t.x.getD i 0<0:=Rat.not_lt.2 (p4 i hi);have a2:¬ ((ms.getD i 0:Int):Rat)<t.x.getD i 0:=Rat.not_lt.2 (p5 i hi);rw[decide_eq_false a1,decide_eq_false a2,gt_seg hi,gt_tail]
   rw[h.slack (by rw[allS_len];omega) (fun e=>by
    rw[(nrm_low hi).1,(nrm_low hi).2,ip_two hn hi,Rat.one_mul] at e;exact decide_eq_true e)]
   rw[h.slack (by rw[allS_len];omega) (fun e=>by
    rw[(nrm_up hi).1,(nrm_up hi).2,ip_two hn hi,Rat.intCast_neg] at e;refine decide_eq_true ?_
    show gt t.x i=_
    grind)];rfl
 · unfold certN;have a1:¬ sumR (paidL (pOf ns k) t.x)<((lOf ns k:Int):Rat):=Rat.not_lt.2 (p3 k hk);rw[decide_eq_false a1,gt_take hk]
   rw[h.slack (by rw[allS_len];omega) (fun e=>by
    rw[(nrm_need hk).1,(nrm_need hk).2,←paid_ip p1] at e;exact decide_eq_true e)];rfl
 · unfold certF;rw[gt_seg hi,gt_tail];exact decide_eq_true (h.force hn hi)
end
end Go.Proofs.Ytjhkapjadfpimaa
