/- Contracts of functions, for the law. -/
import Derived.Test.YtjhkapjadfpimaaNPnt
import Derived.Test.YtjhkapjadfpimaaNSlv
import Derived.Test.YtjhkapjadfpimaaNNew
import Derived.Test.YtjhkapjadfpimaaNPaid
import Derived.Deep.DeepCutAuto
import Derived.Deep.RegionHeld3
import Derived.Test.YtjhkapjadfpimaaMMake
import Derived.Test.YtjhkapjadfpimaaNDr
import Derived.Test.YtjhkapjadfpimaaPLp
import Derived.Test.YtjhkapjadfpimaaMSmall
import Derived.Test.YtjhkapjadfpimaaFL
namespace Go.Proofs.Ytjhkapjadfpimaa
set_option linter.unusedVariables false
set_option linter.unusedSimpArgs false
open Go.RowKit Plain
attribute [local go_sem ↓] Go.wp_at_zero Go.wp_at_succ
theorem zero_sameP {w:World} {g:Nat} (h:Blk w g 38 #[.slice none 0 0,.slice none 0 0,.slice none 0 0,.slice none 0 0,.bool false,.slice none 0 0,.slice none 0 0]):w.cell? ⟨g,0,none⟩=some (.slice none 0 0)∧w.cell? ⟨g,1,none⟩=some (.slice none 0 0)∧w.cell? ⟨g,2,none⟩=some (.slice none 0 0)∧w.cell? ⟨g,3,none⟩=some (.slice none 0 0)∧w.cell? ⟨g,4,none⟩=some (.bool false)∧w.cell? ⟨g,5,none⟩=some (.slice none 0 0)∧w.cell? ⟨g,6,none⟩=some (.slice none 0 0)∧w.frozen? ⟨g,0,none⟩=false∧w.frozen? ⟨g,1,none⟩=false∧w.frozen? ⟨g,2,none⟩=false∧w.frozen? ⟨g,3,none⟩=false∧w.frozen? ⟨g,4,none⟩=false∧w.frozen? ⟨g,5,none⟩=false∧w.frozen? ⟨g,6,none⟩=false ∧
 w.setCell ⟨g,0,none⟩ (.slice none 0 0)=w∧w.setCell ⟨g,1,none⟩ (.slice none 0 0)=w∧w.setCell ⟨g,2,none⟩ (.slice none 0 0)=w∧w.setCell ⟨g,3,none⟩ (.slice none 0 0)=w∧w.setCell ⟨g,4,none⟩ (.bool false)=w∧w.setCell ⟨g,5,none⟩ (.slice none 0 0)=w∧w.setCell ⟨g,6,none⟩ (.slice none 0 0)=w :=
 ⟨Blk.cell h 0,Blk.cell h 1,Blk.cell h 2,Blk.cell h 3,Blk.cell h 4,Blk.cell h 5,Blk.cell h 6,Blk.free h 0,Blk.free h 1,Blk.free h 2,Blk.free h 3,Blk.free h 4,Blk.free h 5,Blk.free h 6,Blk.same h (i:=0) rfl,Blk.same h (i:=1) rfl,Blk.same h (i:=2) rfl,Blk.same h (i:=3) rfl,Blk.same h (i:=4) rfl,Blk.same h (i:=5) rfl,Blk.same h (i:=6) rfl⟩
theorem intQ_unit {n p:Nat} {v:Int} (hv:v.natAbs≤1):∀ q ∈ unitL n p (v:Rat),intQ 1 q:=fun q hq=>by
 obtain ⟨i,hi,rfl⟩:=List.mem_map.1 hq
 split
 · exact ⟨v,rfl,hv⟩
 · exact ⟨0,rfl,by decide⟩
theorem fits_int2 {z:Int} (h:z.natAbs < 18446744073709551616):Fits 2 (z:Rat):=by
 refine ⟨?_,?_⟩
 · rw [Rat.num_intCast];have:pw 2=18446744073709551616:=rfl;omega
 · rw [Rat.den_intCast];decide
theorem allS_conI {ns:List NdD} {ms:List Int} (h:ms.length≤8∧ns.length≤300∧(∀ m ∈ ms,0≤m∧m≤1000000)∧∀ d ∈ ns,0≤d.p∧d.p < 2 ^ ms.length∧-1099511627776≤d.l∧d.l≤1099511627776):ConI ms.length (allS ns ms):=by
 obtain ⟨h1,h2,h3,h4⟩:=h
 have key:∀ c ∈ allS ns ms,c.normal.length=ms.length∧(∀ q ∈ c.normal,intQ 1 q)∧Fits 2 c.least:=fun c hc=>by
  unfold allS at hc
  rcases List.mem_append.1 hc with hc | hc
  · rcases List.mem_append.1 hc with hc | hc
    · obtain ⟨d,hd,rfl⟩:=List.mem_map.1 hc;have h5:=h4 d hd;exact ⟨unitL_len _ _ _,intQ_unit (v:=1) (by decide),fits_int2 (by omega)⟩
    · obtain ⟨i,hi,rfl⟩:=List.mem_map.1 hc;exact ⟨unitL_len _ _ _,intQ_unit (v:=1) (by decide),Fits.zero (by decide)⟩
  · obtain ⟨i,hi,rfl⟩:=List.mem_map.1 hc;have hi2:=List.mem_range.1 hi;refine ⟨unitL_len _ _ _,intQ_unit (v:=-1) (by decide),fits_int2 ?_⟩;have h5:=h3 (ms.getD i 0) (by rw [List.getD_eq_getElem?_getD,List.getElem?_eq_getElem hi2];exact List.getElem_mem hi2);omega
 exact ⟨fun c hc=>(key c hc).1,fun c hc=>(key c hc).2.1,fun c hc=>(key c hc).2.2⟩
def PtIn (x:PtD) (lo hi:Nat):Prop:=∀ a,(x.pay.a=some a∨x.mults.a=some a∨x.low.a=some a∨x.high.a=some a)→lo≤a.block∧a.block < hi
theorem PtIn.mono {x:PtD} {lo hi lo' hi':Nat} (h:PtIn x lo hi) (h1:lo'≤lo) (h2:hi≤hi'):PtIn x lo' hi':=fun a ha=>⟨Nat.le_trans h1 (h a ha).1,Nat.lt_of_lt_of_le (h a ha).2 h2⟩
theorem PtL.farP {w w':World} {g:Nat} {t:TypeId} {cs:Array Value} {x:PtD} (h:PtL w x) (hne:∀ a,(x.pay.a=some a∨x.mults.a=some a∨x.low.a=some a∨x.high.a=some a)→a.block≠g) (hB:Blk w g t cs) (hd:NoDig cs) (ho:Only w w' g):PtL w' x :=
 ⟨h.pay.far (fun a e=>hne a (.inl e)) hB hd ho,h.mults.far (fun a e=>hne a (.inr (.inl e))) hB hd ho,h.low.far (fun a e=>hne a (.inr (.inr (.inl e)))) hB hd ho,h.high.far (fun a e=>hne a (.inr (.inr (.inr e)))) hB hd ho,h.lev.only_blk hB hd ho⟩
def sprd (ns:List NdD) (ms:List Int) (t:St):List Rat:=spread (allS ns ms).length (t.active.zip t.mults)
def PrjPost (tg:List FrD) (ns:List NdD) (ms:List Int) (sq:Rat) (lo:Nat) (e:Ending) (w':World):Prop :=
 (argsE tg.length ns ms≠0∧e=.returned (.tuple #[.agg #[.slice none 0 0,.slice none 0 0,.slice none 0 0,.slice none 0 0,.bool false,.slice none 0 0,.slice none 0 0],.int .i64 (argsE tg.length ns ms)])) ∨
 (argsE tg.length ns ms=0∧Infeas ms.length (allS ns ms) sq∧e=.returned (.tuple #[.agg #[.slice none 0 0,.slice none 0 0,.slice none 0 0,.slice none 0 0,.bool false,.slice none 0 0,.slice none 0 0],.int .i64 6])) ∨
 (argsE tg.length ns ms=0∧∃ (t:St) (x:PtD),Best ms.length (allS ns ms) (tg.map FrD.q) sq t∧e=.returned (.tuple #[x.v,.int .i64 0])∧PtL w' x∧PtIn x lo w'.heap.size∧x.pay.qs=t.x∧x.mults.qs=(sprd ns ms t).take ns.length∧x.low.qs=((sprd ns ms t).drop ns.length).take ms.length∧x.high.qs=(sprd ns ms t).drop (ns.length+ms.length)∧x.lev.q=t.level)
def RetPrj (tg:List FrD) (ns:List NdD) (ms:List Int) (sq:Rat) (W:World) (e:Ending) (w':World):Prop:=Hid (PrjPost tg ns ms sq W.heap.size e w')∧Below W.heap.size W w'
set_option maxRecDepth 100000 in
set_option maxHeartbeats 40000000 in
theorem project_any {A B C:Option Addr} {ca cb cc:Nat} {tg:List FrD} {ns:List NdD} {ms:List Int} {v:Value} {sq:Rat} {w:World} (ht0:FL w A ca tg) (hn0:NL w B cb ns) (hm0:ZL w C cc ms) (hv0:FV w v sq) (hft0:QFits 2 (tg.map FrD.q)) (hfs0:Fits 2 sq) :
 Calls Try.prog 25 #[.slice A tg.length ca,.slice B ns.length cb,.slice C ms.length cc,v] w (RetPrj tg ns ms sq w):=by
 obtain ⟨sv,rfl,hsv0,hsq⟩:=hv0.frd;obtain ⟨E,hE⟩:∃ E,Hid (argsE tg.length ns ms=E):=⟨_,rfl⟩;have hft:=Lib.hid hft0;have hfs:=Lib.hid hfs0;obtain ⟨w0,hw0,b0,l0,B0⟩:=boxed w #[.bool sv.neg,.slice sv.a sv.la.length sv.ca,.slice sv.b sv.lb.length sv.cb] 28;obtain ⟨w1,hw1,b1,l1,B1⟩:=boxed w0 #[.slice none 0 0,.slice none 0 0,.slice none 0 0,.slice none 0 0,.bool false,.slice none 0 0,.slice none 0 0] 38;have b01:=b0.trans (b1.mono b0.size);have hS1:VarQ w1 w.heap.size sv:=Blk.keep B0 b1;have hlt:=ht0.len;have har:=args_any (A:=A) (w:=w1) (tl:=tg.length) (ca:=ca) hlt (hn0.below b01) (hm0.below b01);rw [hE.out] at har;clear hft0 hfs0;go_enter Try.func25,Try.ntmps25;go_wp2_with fail;refine har.mono ?_;rintro e w2 ⟨rfl,b2⟩;clear har;have b02:=b01.trans (b2.mono b01.size);have hS2:=hS1.below b2;have hR2:Blk w2 w0.heap.size 38 #[.slice none 0 0,.slice none 0 0,.slice none 0 0,.slice none 0 0,.bool false,.slice none 0 0,.slice none 0 0]:=Blk.keep B1 b2
 by_cases hE0:E=0
 · have hEz:(E != 0)=false:=by rw [bne_eq_false_iff_eq];exact hE0
   have hE0':=Lib.hid (show argsE tg.length ns ms=0 from hE.out.trans hE0);obtain ⟨k1,k2,k3,k4,k5⟩:=argsE_ok hE0'.out;have hok:=Lib.hid (show ms.length≤8∧ns.length≤300∧(∀ m ∈ ms,0≤m∧m≤1000000)∧∀ d ∈ ns,0≤d.p∧d.p < 2 ^ ms.length∧-1099511627776≤d.l∧d.l≤1099511627776 from ⟨k1,k2,k4,k5⟩);have htl:=Lib.hid k3;have hcon:=Lib.hid (allS_conI hok.out);obtain ⟨f,hf0⟩:=proj_ok hcon.out k1 hft.out hfs.out (by rw [List.length_map];exact k3);have hf:=Lib.hid hf0;have hnw:=newSolver_any (w:=w2) (ht0.below b02) (hn0.below b02) (hm0.below b02) (hsv0.below b02) hok.out htl.out;obtain ⟨x0,x1,x2⟩:=hS2.cells;clear k1 k2 k3 k4 k5 hf0 hE0;go_wp2_with fail;refine hnw.mono ?_;rintro e w3 ⟨S,lv,rfl,hM3,hlv,hnm,hcs,hg1,hg2,b3⟩;clear hnw x0 x1 x2;have hwR:=Lib.hid (show w0.heap.size < w2.heap.size from hR2.lt);have hgs1:=Lib.hid hg1;have hgx1:=Lib.hid hg2;have b03:=b02.trans (b3.mono b02.size);have hR3:=Blk.keep hR2 b3;have hcon2:=Lib.hid (show ConI S.n (S.cs.map CoD.con) by rw [hcs.out,hnm.out.1];exact hcon.out);have hn8:=Lib.hid (show S.n≤8 by rw [hnm.out.1];exact hok.out.1);have hsq2:=Lib.hid (show S.sum.q=sq by rw [hnm.out.2.2];exact hsq.out);clear hg1 hg2
   rcases hf.out with ⟨hpr,hinf⟩ | ⟨t,hpr,hbest⟩
   · have hinf':=Lib.hid hinf;have hsl:=solver_any (B:=w2.heap.size) (f0:=f) (r:=none) hM3 hcon2.out hn8.out (by rw [hnm.out.1];exact htl.out) ⟨hlv.out,rfl,rfl⟩ hft.out (by rw [hsq2.out];exact hfs.out) (by rw [hcs.out,hsq2.out,hnm.out.1];exact hpr) hgs1.out hgx1.out;clear hpr hinf hM3;go_wp2_with fail;refine hsl.mono ?_;rintro e w4 ⟨s4,rfl,-,-,b4⟩;clear hsl;have his:(none:Option St).isSome=false:=rfl;have b24:Below w2.heap.size w2 w4:=b3.trans b4;have b04:=b02.trans (b24.mono b02.size);have hR4:=Blk.keep hR2 b24;obtain ⟨z0,z1,z2,z3,z4,z5,z6,f0,f1,f2,f3,f4,f5,f6,s0,s1,s2,s3,s4,s5,s6⟩:=zero_sameP hR4;go_wp2;refine bodyPost_ret (v:=.tuple #[.agg #[.slice none 0 0,.slice none 0 0,.slice none 0 0,.slice none 0 0,.bool false,.slice none 0 0,.slice none 0 0],.int .i64 6]) (by simp [results,Try.results25,go_sem,z0,z1,z2,z3,z4,z5,z6]) rfl ?_;exact ⟨.inr (.inl ⟨hE0'.out,hinf'.out,rfl⟩),b04⟩
   · have hbest':=Lib.hid hbest;have hsl:=solver_any (B:=w2.heap.size) (f0:=f) (r:=some t) hM3 hcon2.out hn8.out (by rw [hnm.out.1];exact htl.out) ⟨hlv.out,rfl,rfl⟩ hft.out (by rw [hsq2.out];exact hfs.out) (by rw [hcs.out,hsq2.out,hnm.out.1];exact hpr) hgs1.out hgx1.out;clear hpr hbest hM3;go_wp2_with fail;refine hsl.mono ?_;rintro e w4 ⟨s4,rfl,hM4,hst4,b4⟩;clear hsl;have hst:=Lib.hid (hst4.out t rfl);have his:(some t).isSome=true:=rfl;have b24:Below w2.heap.size w2 w4:=b3.trans b4;have b04:=b02.trans (b24.mono b02.size);have hR4:=Blk.keep hR2 b24;have hcl:=Lib.hid (show S.cs.length=(allS ns ms).length by rw [←hcs.out,List.length_map]);have hia:=Lib.hid (show s4.ia=t.active by rw [←hst.out];rfl);have hdm:=Lib.hid (show s4.dm.map FrD.q=t.mults by rw [←hst.out];rfl);have hpt:=point_any hM4 (by rw [hcl.out,allS_len,hnm.out.1,hnm.out.2.1]) (by rw [hnm.out.2.1];exact hok.out.2.1) hn8.out (by rw [hia.out,hcl.out];exact hbest'.out.hA) (by have h1:=hbest'.out.lm;rw [←hdm.out,List.length_map] at h1;rw [hia.out];exact h1) (by rw [hia.out];exact hbest'.out.act hok.out.1) (by rw [hdm.out];exact hbest'.out.fit.2.2);have hgx4:=Lib.hid (show S.gx < w4.heap.size from Nat.lt_of_lt_of_le hM4.b.hx hM4.b.hR);clear hM4;go_wp2_with fail;refine hpt.mono ?_;rintro e w5 ⟨x,rfl,hx,hxq,hxa,b5⟩;clear hpt;have b05:=b04.trans (b5.mono b04.size);have hR5:=Blk.keep hR4 b5;obtain ⟨w9,z0,z1,z2,z3,z4,z5,z6,f0,f1,f2,f3,f4,f5,f6,e9,h9,o9⟩:=zero_storeP hR5 x
     obtain ⟨t0,t1,t2,t3,t4,t5,t6⟩:=h9.cells;have hw4:=Lib.hid (show w0.heap.size < w4.heap.size from hR4.lt);have hres:=Lib.hid (show PtL w9 x from ⟨hx.pay.far (fun a e=>by have h1:=hxa.out.1 a e;have h2:=hgx1.out;have h3:=hwR.out;omega) hR5 noDigZ o9,hx.mults.far (fun a e=>by have h1:=(hxa.out.2.1 a e).1;have h3:=hw4.out;omega) hR5 noDigZ o9,hx.low.far (fun a e=>by have h1:=(hxa.out.2.2.1 a e).1;have h3:=hw4.out;omega) hR5 noDigZ o9,hx.high.far (fun a e=>by have h1:=(hxa.out.2.2.2 a e).1;have h3:=hw4.out;omega) hR5 noDigZ o9,hx.lev.only_blk hR5 noDigZ o9⟩);have hw24:=Lib.hid (show w2.heap.size≤w4.heap.size from b24.size);have hw45:=Lib.hid (show w4.heap.size≤w5.heap.size from b5.size);have hww:=Lib.hid (show w.heap.size < w0.heap.size from l0)
     have hpin:=Lib.hid (show PtIn x w.heap.size w9.heap.size from fun a ha=>by
      have h0:=o9.size;have h1:=hgx1.out;have h2:=hwR.out;have h3:=hgx4.out;have h4:=hw24.out;have h5:=hw45.out;have h6:=hww.out
      rcases ha with e | e | e | e
      · have h9:=hxa.out.1 a e;omega
      · have h9:=hxa.out.2.1 a e;omega
      · have h9:=hxa.out.2.2.1 a e;omega
      · have h9:=hxa.out.2.2.2 a e;omega)
     have b09:=o9.to_below b05 b0.size b05.size;go_wp2;refine bodyPost_ret (v:=.tuple #[x.v,.int .i64 0]) (by simp [results,Try.results25,go_sem,t0,t1,t2,t3,t4,t5,t6]) rfl ?_;obtain ⟨q1,q2,q3,q4,q5⟩:=hxq.out;have e1:spread S.cs.length (s4.ia.zip (s4.dm.map FrD.q))=sprd ns ms t:=by rw [hcl.out,hia.out,hdm.out];rfl
     rw [e1,hnm.out.2.1] at q2;rw [e1,hnm.out.1,hnm.out.2.1] at q3;rw [e1,hnm.out.1,hnm.out.2.1] at q4;exact ⟨.inr (.inr ⟨hE0'.out,t,x,hbest'.out,rfl,hres.out,hpin.out,by rw [q1,←hst.out];rfl,q2,q3,q4,by rw [q5,←hst.out];rfl⟩),b09⟩
 · have hEz:(E != 0)=true:=by rw [bne_iff_ne];exact hE0
   have hE0':=Lib.hid (show argsE tg.length ns ms≠0 by rw [hE.out];exact hE0);obtain ⟨z0,z1,z2,z3,z4,z5,z6,f0,f1,f2,f3,f4,f5,f6,s0,s1,s2,s3,s4,s5,s6⟩:=zero_sameP hR2;go_wp2;refine bodyPost_ret (v:=.tuple #[.agg #[.slice none 0 0,.slice none 0 0,.slice none 0 0,.slice none 0 0,.bool false,.slice none 0 0,.slice none 0 0],.int .i64 E]) (by simp [results,Try.results25,go_sem,z0,z1,z2,z3,z4,z5,z6]) rfl ?_;exact ⟨.inl ⟨hE0'.out,by rw [hE.out]⟩,b02⟩
end Go.Proofs.Ytjhkapjadfpimaa
namespace Go.Proofs.Ytjhkapjadfpimaa
set_option linter.unusedVariables false
set_option linter.unusedSimpArgs false
open Go.RowKit Plain
structure Poss (n:Nat) (all:List Con) (sum:Rat) (u:List Rat):Prop where
 len:u.length=n
 tot:ip n (fun _=>1) (gt u)=sum
 ok:∀ k,k < all.length→lst all k≤ip n (gt (nrm all k)) (gt u)
section
variable {n:Nat} {all:List Con} {tg:List Rat} {sum:Rat} {t t':St} {u:List Rat}
theorem Infeas.no (h:Infeas n all sum) (hu:Poss n all sum u):False:=h u hu.len hu.tot hu.ok
theorem ip_ones (n:Nat) (all:List Con) (A:List Nat) (x:Nat→Rat):ip n (fn (normalsS n all A) 0) x=ip n (fun _=>1) x :=
 ip_congr (a':=fun _=>1) (b':=x) (fun i hi=>fn_ones n all A hi) fun _ _=>rfl
theorem Best.poss (h:Best n all tg sum t):Poss n all sum t.x:=by
 refine ⟨h.lx,?_,h.ok⟩;have h1:=h.pt.eqs 0 (by omega);rw [ip_ones] at h1;exact h1
theorem Best.nearest (h:Best n all tg sum t) (hu:Poss n all sum u):distV n tg t.x+distV n t.x u≤distV n tg u:=by
 refine h.pt.nearest (u:=gt u) (fun _=>?_) (fun j h0 hj=>?_) fun j h0 hj=>?_
 · rw [ip_ones];exact hu.tot
 · obtain ⟨i,rfl⟩:∃ i,j=i+1:=⟨j - 1,by omega⟩;rw [gt_cons1];exact h.nn i (by have:=h.lm;omega)
 · obtain ⟨i,rfl⟩:∃ i,j=i+1:=⟨j - 1,by omega⟩;have hi:i < t.active.length:=by omega
   rw [bv_act hi,fn_act hi];exact hu.ok _ (h.hA _ (List.getElem_mem hi))
theorem dist_eq {x u:List Rat} (hx:x.length=n) (hu:u.length=n) (h:distV n x u≤0):u=x:=by
 have h1:ip n (fun i=>gt u i - gt x i) (fun i=>gt u i - gt x i)=0:=Rat.le_antisymm h (ip_self n _);refine eq_of_gt (by omega) fun j hj=>?_;have h2:=ip_self_zero h1 j (by omega)
 grind
theorem Best.only (h:Best n all tg sum t) (hu:Poss n all sum u) (hd:distV n tg u≤distV n tg t.x):u=t.x:=by
 have h1:=h.nearest hu;exact dist_eq h.lx hu.len (by grind)
end
section
variable {ns:List NdD} {ms:List Int} {tg:List Rat} {sum:Rat} {t:St}
theorem bit_two {k i:Nat} (hk:k < 8) (hi:i < 8):bitP (2 ^ k) i=decide (k=i):=by
 have key:∀ a b:Fin 8,bitP (2 ^ a.val) b.val=decide (a.val=b.val):=by decide +kernel
 exact key ⟨k,hk⟩ ⟨i,hi⟩
theorem gt_unit {n p i:Nat} {v:Rat} (hi:i < n):gt (unitL n p v) i=if bitP p i=true then v else 0:=by
 unfold gt;rw [List.getD_eq_getElem?_getD,unitL_get hi];rfl
theorem gt_two {n k i:Nat} {v:Rat} (hn:n≤8) (hk:k < n) (hi:i < n):gt (unitL n (2 ^ k) v) i=v*dl k i:=by
 rw [gt_unit hi,bit_two (by omega) (by omega)];unfold dl
 by_cases e:k=i
 · rw [if_pos e,if_pos (by simpa using e),Rat.mul_one]
 · rw [if_neg e,if_neg (by simpa using e),Rat.mul_zero]
theorem nrm_need {k:Nat} (hk:k < ns.length):nrm (allS ns ms) k=unitL ms.length (pOf ns k) 1∧lst (allS ns ms) k=((lOf ns k:Int):Rat):=by
 have h:=allS_need (ms:=ms) (List.getElem?_eq_getElem hk);have e:ns.getD k ⟨0,0⟩=ns[k]:=by rw [List.getD_eq_getElem?_getD,List.getElem?_eq_getElem hk];rfl
 refine ⟨?_,?_⟩
 · rw [nrm_of h];unfold pOf;rw [e]
 · rw [lst_of h];unfold lOf;rw [e]
theorem nrm_low {i:Nat} (hi:i < ms.length):nrm (allS ns ms) (ns.length+i)=unitL ms.length (2 ^ i) 1∧lst (allS ns ms) (ns.length+i)=0 :=
 ⟨nrm_of (allS_low hi),lst_of (allS_low hi)⟩
theorem nrm_up {i:Nat} (hi:i < ms.length):nrm (allS ns ms) (ns.length+ms.length+i)=unitL ms.length (2 ^ i) (-1)∧lst (allS ns ms) (ns.length+ms.length+i)=((-(ms.getD i 0):Int):Rat):=by
 have h:ms[i]?=some (ms.getD i 0):=by rw [List.getD_eq_getElem?_getD,List.getElem?_eq_getElem hi];rfl
 exact ⟨nrm_of (allS_up h),lst_of (allS_up h)⟩
theorem ip_two {n k:Nat} {v:Rat} (hn:n≤8) (hk:k < n) (x:Nat→Rat):ip n (gt (unitL n (2 ^ k) v)) x=v*x k:=by
 unfold ip;rw [sm_congr (g:=fun i=>dl k i*(v*x i)) (fun i hi=>by rw [gt_two hn hk hi];grind),sm_dl _ hk]
theorem paid_ip {p:Nat} {pay:List Rat} {n:Nat} (hl:pay.length=n):sumR (paidL p pay)=ip n (gt (unitL n p 1)) (gt pay):=by
 rw [sumR_sm,paidL_len,hl];unfold ip;refine sm_congr fun i hi=>?_;have hi2:i < pay.length:=by omega
 have:gt (paidL p pay) i=if bitP p i=true then gt pay i else 0:=by
  unfold gt;rw [List.getD_eq_getElem?_getD,paidL_get (List.getElem?_eq_getElem hi2),getD_of 0 hi2];rfl
 rw [this,gt_unit hi]
 by_cases e:bitP p i=true
 · rw [if_pos e,if_pos e,Rat.one_mul]
 · rw [if_neg e,if_neg e,Rat.zero_mul]
theorem poss_iff {u:List Rat} (hn:ms.length≤8):Poss ms.length (allS ns ms) sum u ↔ u.length=ms.length∧sumR u=sum∧(∀ k,k < ns.length→((lOf ns k:Int):Rat)≤sumR (paidL (pOf ns k) u))∧(∀ i,i < ms.length→0≤gt u i)∧∀ i,i < ms.length→gt u i≤((ms.getD i 0:Int):Rat):=by
 have ht:∀ hl:u.length=ms.length,sumR u=ip ms.length (fun _=>1) (gt u):=fun hl=>by
  rw [sumR_sm,hl];unfold ip;exact sm_congr fun i _=>by grind
 constructor
 · intro h;refine ⟨h.len,by rw [ht h.len];exact h.tot,fun k hk=>?_,fun i hi=>?_,fun i hi=>?_⟩
   · have h1:=h.ok k (by rw [allS_len];omega);rw [(nrm_need hk).1,(nrm_need hk).2] at h1;rw [paid_ip h.len];exact h1
   · have h1:=h.ok (ns.length+i) (by rw [allS_len];omega);rw [(nrm_low hi).1,(nrm_low hi).2,ip_two hn hi] at h1
     grind
   · have h1:=h.ok (ns.length+ms.length+i) (by rw [allS_len];omega);rw [(nrm_up hi).1,(nrm_up hi).2,ip_two hn hi,Rat.intCast_neg] at h1
     grind
 · rintro ⟨h1,h2,h3,h4,h5⟩;refine ⟨h1,by rw [←ht h1];exact h2,fun k hk=>?_⟩;rw [allS_len] at hk
   by_cases e1:k < ns.length
   · rw [(nrm_need e1).1,(nrm_need e1).2,←paid_ip h1];exact h3 k e1
   · by_cases e2:k < ns.length+ms.length
     · obtain ⟨i,rfl⟩:∃ i,k=ns.length+i:=⟨k - ns.length,by omega⟩;have hi:i < ms.length:=by omega
       rw [(nrm_low hi).1,(nrm_low hi).2,ip_two hn hi];have:=h4 i hi;grind
     · obtain ⟨i,rfl⟩:∃ i,k=ns.length+ms.length+i:=⟨k - (ns.length+ms.length),by omega⟩;have hi:i < ms.length:=by omega
       rw [(nrm_up hi).1,(nrm_up hi).2,ip_two hn hi,Rat.intCast_neg];have:=h5 i hi;grind
end
def ofI (zs:List Int):List Rat:=zs.map fun z:Int=>(z:Rat)
theorem two_of {l:List Rat} (h:l.length=2):∃ a b,l=[a,b]:=by
 match l,h with
 | [a,b],_=>exact ⟨a,b,rfl⟩
theorem dist_two (p q a b:Rat):distV 2 [p,q] [a,b]=(a - p)*(a - p)+(b - q)*(b - q):=by
 show 0+(a - p)*(a - p)+(b - q)*(b - q)=_
 grind
theorem sum_two (a b:Rat):sumR [a,b]=a+b:=by
 show 0+a+b=_
 grind
def exN:List NdD:=[⟨3,10⟩]
theorem ex_poss1:Poss 2 (allS exN [6,6]) 10 [5,5]:=(poss_iff (ns:=exN) (ms:=[6,6]) (by decide)).2 (by decide +kernel)
theorem ex_poss2:Poss 2 (allS [] [10,2]) 6 [4,2]:=(poss_iff (ns:=[]) (ms:=[10,2]) (by decide)).2 (by decide +kernel)
theorem ex_x1 {t:St} (h:Best 2 (allS exN [6,6]) [4,4] 10 t):t.x=[5,5]:=by
 have hp:=(poss_iff (ns:=exN) (ms:=[6,6]) (by decide)).1 h.poss;obtain ⟨a,b,e⟩:=two_of hp.1;have hs:=hp.2.1;refine (h.only ex_poss1 ?_).symm;rw [e] at hs ⊢;rw [sum_two] at hs;rw [dist_two,dist_two];have h1:=sq_nonneg (a - 5);have h2:b=10 - a:=by grind
 subst h2
 grind
theorem ex_x2 {t:St} (h:Best 2 (allS [] [10,2]) [1,1] 6 t):t.x=[4,2]:=by
 have hp:=(poss_iff (ns:=[]) (ms:=[10,2]) (by decide)).1 h.poss;obtain ⟨a,b,e⟩:=two_of hp.1;have hs:=hp.2.1;have hu:=hp.2.2.2.2 1 (by decide);refine (h.only ex_poss2 ?_).symm;rw [e] at hs hu ⊢;rw [sum_two] at hs;have hb:b≤2:=hu;rw [dist_two,dist_two];have h1:0≤(2 - b)*(4 - b):=Rat.mul_nonneg (by grind) (by grind);have h2:a=6 - b:=by grind
 subst h2
 grind
theorem ex_x3 {t:St} (h:Best 2 (allS exN [4,4]) [4,4] 10 t):False:=by
 have hp:=(poss_iff (ns:=exN) (ms:=[4,4]) (by decide)).1 h.poss;obtain ⟨a,b,e⟩:=two_of hp.1;have hs:=hp.2.1;have h0:=hp.2.2.2.2 0 (by decide);have h1:=hp.2.2.2.2 1 (by decide);rw [e] at hs h0 h1;rw [sum_two] at hs;have ha:a≤4:=h0;have hb:b≤4:=h1
 grind
theorem ex_a1 {t:St} (h:Best 2 (allS exN [6,6]) [4,4] 10 t):t.active=[]∧t.mults=[]∧t.level=1:=by
 have hx:=ex_x1 h
 have ha:t.active=[]:=by
  cases hA:t.active with
  | nil=>rfl
  | cons a A =>
   exfalso
   have h1:=h.pt.eqs 1 (by rw [hA];simp);have h2:=h.hA a (by rw [hA];exact List.mem_cons_self)
   have h3:fn (normalsS 2 (allS exN [6,6]) t.active) 1=gt (nrm (allS exN [6,6]) a):=by
    have:=fn_act (n:=2) (all:=allS exN [6,6]) (A:=t.active) (j:=0) (by rw [hA];simp);rw [this];simp [hA]
   have h4:gt (10 :: t.active.map (lst (allS exN [6,6]))) 1=lst (allS exN [6,6]) a:=by rw [hA];rfl
   rw [h3,h4,hx] at h1;have h5:(allS exN [6,6]).length=5:=by decide +kernel
   rw [h5] at h2;have key:∀ k:Fin 5,k.val≠0→ip 2 (gt (nrm (allS exN [6,6]) k.val)) (gt [5,5])≠lst (allS exN [6,6]) k.val:=by decide +kernel
   have ha0:a=0:=by
    by_cases e:a=0
    · exact e
    · exact absurd h1 (key ⟨a,h2⟩ e)
   subst ha0;have hli:=h.li (by decide)
   have h6:=hli (fun j=>if j=0 then 1 else if j=1 then -1 else 0) (fun i hi=>by
    unfold lc;rw [hA]
    show sm (A.length+1+1) _=0
    rw [sm_head,sm_head]
    rw [sm_zeroOf (n:=A.length) fun k hk=>by
     show (if k+1+1=0 then (1:Rat) else if k+1+1=1 then -1 else 0)*_=0
     rw [if_neg (by omega),if_neg (by omega),Rat.zero_mul]]
    show (1:Rat)*fn (normalsS 2 (allS exN [6,6]) (0 :: A)) 0 i+((-1)*fn (normalsS 2 (allS exN [6,6]) (0 :: A)) 1 i+0)=0
    rw [fn_ones _ _ _ hi,fn_act (A:=0 :: A) (j:=0) (by simp)]
    show (1:Rat)*1+((-1)*gt (nrm (allS exN [6,6]) 0) i+0)=0
    have key2:∀ i:Fin 2,gt (nrm (allS exN [6,6]) 0) i.val=1:=by decide +kernel
    rw [key2 ⟨i,hi⟩];grind) 0 (by omega)
   simp at h6
 have hm:t.mults=[]:=List.eq_nil_of_length_eq_zero (by rw [h.lm,ha];rfl);refine ⟨ha,hm,?_⟩;have h1:=h.pt.kkt 0 (by decide);rw [hx,ha] at h1
 have h2:lc 1 (gt (t.level :: t.mults)) (fn (normalsS 2 (allS exN [6,6]) [])) 0=t.level:=by
  show 0+t.level*fn (normalsS 2 (allS exN [6,6]) []) 0 0=_
  rw [fn_ones _ _ _ (by decide)];grind
 have h3:gt ([5,5]:List Rat) 0=gt ([4,4]:List Rat) 0+lc 1 (gt (t.level :: t.mults)) (fn (normalsS 2 (allS exN [6,6]) [])) 0+0*0:=h1;rw [h2] at h3;have h4:(5:Rat)=4+t.level+0*0:=h3
 grind
theorem prj_ex1 {tg:List FrD} {lo:Nat} {e:Ending} {w':World} (hq:tg.map FrD.q=ofI [4,4]) (h:PrjPost tg exN [6,6] 10 lo e w') :
 ∃ x:PtD,e=.returned (.tuple #[x.v,.int .i64 0])∧PtL w' x∧PtIn x lo w'.heap.size∧x.pay.qs=ofI [5,5]∧x.mults.qs=ofI [0]∧x.low.qs=ofI [0,0]∧x.high.qs=ofI [0,0]∧x.lev.q=1:=by
 have hl:tg.length=2:=by have:=congrArg List.length hq;rw [List.length_map] at this;exact this
 have hq2:tg.map FrD.q=[4,4]:=hq.trans (by decide +kernel)
 rcases h with ⟨h1,-⟩ | ⟨-,h1,-⟩ | ⟨-,t,x,hb,he,hx,hin,q1,q2,q3,q4,q5⟩
 · rw [hl] at h1;exact absurd (by decide +kernel) h1
 · exact (h1.no ex_poss1).elim
 · rw [hq2] at hb;obtain ⟨a1,a2,a3⟩:=ex_a1 hb;have hx1:=ex_x1 hb;have hs:sprd exN [6,6] t=[0,0,0,0,0]:=by unfold sprd;rw [a1,a2];decide +kernel
   rw [hs] at q2 q3 q4;exact ⟨x,he,hx,hin,by rw [q1,hx1];decide +kernel,by rw [q2];decide +kernel,by rw [q3];decide +kernel,by rw [q4];decide +kernel,by rw [q5,a3]⟩
theorem prj_ex2 {tg:List FrD} {lo:Nat} {e:Ending} {w':World} (hq:tg.map FrD.q=ofI [1,1]) (h:PrjPost tg [] [10,2] 6 lo e w') :
 ∃ x:PtD,e=.returned (.tuple #[x.v,.int .i64 0])∧PtL w' x∧PtIn x lo w'.heap.size∧x.pay.qs=ofI [4,2]:=by
 have hl:tg.length=2:=by have:=congrArg List.length hq;rw [List.length_map] at this;exact this
 have hq2:tg.map FrD.q=[1,1]:=hq.trans (by decide +kernel)
 rcases h with ⟨h1,-⟩ | ⟨-,h1,-⟩ | ⟨-,t,x,hb,he,hx,hin,q1,-⟩
 · rw [hl] at h1;exact absurd (by decide +kernel) h1
 · exact (h1.no ex_poss2).elim
 · rw [hq2] at hb;exact ⟨x,he,hx,hin,by rw [q1,ex_x2 hb];decide +kernel⟩
theorem prj_ex3 {tg:List FrD} {lo:Nat} {e:Ending} {w':World} (hq:tg.map FrD.q=ofI [4,4]) (h:PrjPost tg exN [4,4] 10 lo e w') :
 e=.returned (.tuple #[.agg #[.slice none 0 0,.slice none 0 0,.slice none 0 0,.slice none 0 0,.bool false,.slice none 0 0,.slice none 0 0],.int .i64 6]):=by
 have hl:tg.length=2:=by have:=congrArg List.length hq;rw [List.length_map] at this;exact this
 have hq2:tg.map FrD.q=[4,4]:=hq.trans (by decide +kernel)
 rcases h with ⟨h1,-⟩ | ⟨-,-,h1⟩ | ⟨-,t,x,hb,-⟩
 · rw [hl] at h1;exact absurd (by decide +kernel) h1
 · exact h1
 · rw [hq2] at hb;exact (ex_x3 hb).elim
theorem chk_ex1:checkS (ofI [4,4]) exN [6,6] 10 (ofI [5,5]) (ofI [0]) (ofI [0,0]) (ofI [0,0]) 1=0:=by decide +kernel
theorem chk_ex2:checkS (ofI [4,4]) exN [6,6] 10 (ofI [4,6]) (ofI [0]) (ofI [0,0]) (ofI [0,0]) 1=13:=by decide +kernel
theorem dst_ex:sumR (dsq (ofI [1,2]) (ofI [4]))=13:=by decide +kernel
end Go.Proofs.Ytjhkapjadfpimaa
namespace Go.Proofs.Ytjhkapjadfpimaa
set_option linter.unusedVariables false
set_option linter.unusedSimpArgs false
open Go.RowKit Plain
attribute [local go_sem ↓] Go.wp_at_zero Go.wp_at_succ
def RetLs2 (qs:List Rat) (W:World) (e:Ending) (w':World):Prop:=∃ A c ds,e=.returned (.slice A ds.length c)∧FL w' A c ds∧Hid (ds.map FrD.q=qs)∧Below W.heap.size W w'∧∀ a,A=some a→W.heap.size≤a.block∧a.block < w'.heap.size
set_option maxRecDepth 100000 in
set_option maxHeartbeats 4000000 in
theorem ints31_any {A:Option Addr} {c:Nat} {zs:List Int} {w:World} (h:IL w A zs) (hb:∀ z ∈ zs,-9223372036854775808≤z∧z≤9223372036854775807) (hl:zs.length≤1000000) (hc:c≤9223372036854775807) (hlc:zs.length≤c) :
 Calls Try.prog 26 #[.slice A zs.length c] w (RetLs2 (zs.map (fun z:Int=>(z:Rat))) w):=by
 obtain ⟨qs,hqs⟩:∃ qs,Hid (zs.map (fun z:Int=>(z:Rat))=qs):=⟨_,rfl⟩;have hql:=Lib.hid (show qs.length=zs.length by rw [←hqs.out,List.length_map]);have hb':=Lib.hid hb;clear hb;rw [hqs.out];go_enter Try.func26,Try.ntmps26;go_wp2
 go_loopw [3,8] (fun v i wr=>LsInv qs w v i wr) (fun _ i _=>zs.length - (intOf i).toNat)
 case atStart=>exact ⟨0,by omega,rfl,LsAt.nil _ _⟩
 case round =>
  obtain ⟨k,hk,rfl,hat⟩:=hrel;rw [hql.out] at hk;have hbel:=hat.bel
  by_cases hkl:k < zs.length
  · obtain ⟨a,rfl,hab,hc0⟩:=(h.below hbel).at hkl;obtain ⟨z,hz⟩:∃ z,Hid (zs.getD k 0=z):=⟨_,rfl⟩
    have hzb:-9223372036854775808≤z∧z≤9223372036854775807:=by
     rw [←hz.out];exact hb'.out _ (by rw [List.getD_eq_getElem?_getD,List.getElem?_eq_getElem hkl];exact List.getElem_mem hkl)
    rw [hz.out] at hc0;have hq:=Lib.hid (show qs[k]?=some ((fun z:Int=>(z:Rat)) z) by rw [←hqs.out,←hz.out];exact ints_get hkl);have hki:(k:Int) < (zs.length:Int):=by omega
    have hkb:k < 1000000000000:=by omega
    go_wp2_with fail;refine (refFromInt_any z _ hzb.1 hzb.2).mono ?_;rintro e w4 ⟨v1,rfl,⟨n1,A1,a1,l1,B1,c1,m1,rfl,na,nb,iq⟩,b1⟩;replace hat:=hat.below b1;obtain ⟨os,ho,h63,hbs,hnext⟩:=hat.app hkb hq.out na nb iq;clear na nb iq
    go_wp2_with (at_builtin;refine wpList_appQ rfl rfl _ _ rfl _ _ os rfl ho ⟨w4.heap.size,0,none⟩ 1 ⟨n1,A1,a1,l1,B1,c1,m1⟩ rfl (World.news_of_block (heap_alloc_new w4 _)) h63 hbs ?_;intro v6 w6 ho6 hg6)
    have hat6:=hnext.out v6 w6 ho6 hg6;clear hnext ho hg6 ho6 hat;go_wp2;go_roundw
    case rel=>exact ⟨k+1,by rw [hql.out];omega,by go_num,hat6⟩
    case measure=>simp [intOf];omega
  · obtain rfl:k=zs.length:=by omega
    have hlt':decide ((zs.length:Int) < (zs.length:Int))=false:=decide_eq_false (by omega);obtain ⟨B,cb,es,rfl,hfl,hqe,hadr⟩:=hat.done2 hql.out.symm;have hadr':=Lib.hid hadr;clear hadr;go_wp2;go_ret;exact ⟨B,cb,es,rfl,hfl,hqe,hbel,hadr'.out⟩
end Go.Proofs.Ytjhkapjadfpimaa
