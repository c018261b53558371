/- Contracts of functions, for the law. -/
import Derived.Test.YtjhkapjadfpimaaNSameL
import Derived.Test.YtjhkapjadfpimaaNCheck
import Derived.Test.YtjhkapjadfpimaaNPt
import Derived.Deep.RegionHeld3
import Derived.Test.YtjhkapjadfpimaaNAlg
import Derived.Test.YtjhkapjadfpimaaNBest
namespace Go.Proofs.Ytjhkapjadfpimaa
set_option linter.unusedVariables false
set_option linter.unusedSimpArgs false
open Go.RowKit Plain
attribute [local go_sem ↓] Go.wp_at_zero Go.wp_at_succ
theorem i64_ok {zs:List Int}(h:zs.all (fun z=>decide (-9223372036854775808≤z)&&decide (z≤9223372036854775807))=true):∀ z∈zs,-9223372036854775808≤z∧z≤9223372036854775807:=fun z hz=>by
 have:=List.all_eq_true.1 h z hz
 simpa using this
theorem qf_ofI {K:Nat}{zs:List Int}(hK:2≤K) (h:zs.all (fun z=>decide (z.natAbs<1000))=true):QFits K (ofI zs):=fun q hq=>by
 obtain⟨z,hz,rfl⟩:=List.mem_map.1 hq;have:=List.all_eq_true.1 h z hz
 simp at this
 exact (fits_int2 (by omega)).mono hK
theorem f2_of {q:Rat}{z:Int}(h:q=(z:Rat)) (hz:z.natAbs<1000):Fits 2 q:=by rw[h];exact fits_int2 (by omega)
theorem c1:(1:Rat)=((1:Int):Rat):=by decide +kernel
theorem c6:(6:Rat)=((6:Int):Rat):=by decide +kernel
theorem c10:(10:Rat)=((10:Int):Rat):=by decide +kernel
theorem ZL.one {w:World}{g:Nat}{t:TypeId}{a b:Int}(h:Blk w g t #[.int .i64 a,.int .i64 b]):ZL w (some ⟨g,0,none⟩) 2 [a,b] :=
 ⟨by simp,by decide,fun j hj=>⟨_,rfl,h.lt,fun i u hu=>by
  have hj3:j<2:=hj
  rcases j with _ | _ | j
  · rcases i with _ | i
    · injection hu with hu;subst hu;exact Blk.cell h 0
    · simp at hu
  · rcases i with _ | i
    · injection hu with hu;subst hu;exact Blk.cell h 1
    · simp at hu
  · omega⟩⟩
theorem NL.one {w:World}{g:Nat}{t:TypeId}(h:Blk w g t #[.int .i64 3,.int .i64 10]):NL w (some ⟨g,0,none⟩) 1 exN :=
 ⟨by decide,by decide,fun j hj=>⟨_,rfl,h.lt,fun i u hu=>by
  have hj3:j<1:=hj
  rcases j with _ | j
  · rcases i with _ | _ | i
    · injection hu with hu;subst hu;exact Blk.cell h 0
    · injection hu with hu;subst hu;exact Blk.cell h 1
    · simp[NdD.cells,exN] at hu
  · omega⟩⟩
theorem NL.nil (w:World):NL w none 0 []:=⟨by simp,by decide,fun j hj=>by simp at hj⟩
theorem PtIn.up {w w':World}{x:PtD}{lo:Nat}(h:PtIn x lo w.heap.size) (b:Below w.heap.size w w'):PtIn x lo w'.heap.size:=h.mono (Nat.le_refl _) b.size
theorem new_varP (w:World) (x:PtD):∃ wA wB,w.alloc (.cells #[.slice none 0 0,.slice none 0 0,.slice none 0 0,.slice none 0 0,.bool false,.slice none 0 0,.slice none 0 0] 38)=wA∧wA.cell? ⟨w.heap.size,0,none⟩=some (.slice none 0 0)∧wA.cell? ⟨w.heap.size,1,none⟩=some (.slice none 0 0)∧wA.cell? ⟨w.heap.size,2,none⟩=some (.slice none 0 0)∧wA.cell? ⟨w.heap.size,3,none⟩=some (.slice none 0 0)∧wA.cell? ⟨w.heap.size,4,none⟩=some (.bool false)∧wA.cell? ⟨w.heap.size,5,none⟩=some (.slice none 0 0)∧wA.cell? ⟨w.heap.size,6,none⟩=some (.slice none 0 0)∧wA.frozen? ⟨w.heap.size,0,none⟩=false∧wA.frozen? ⟨w.heap.size,1,none⟩=false∧wA.frozen? ⟨w.heap.size,2,none⟩=false∧wA.frozen? ⟨w.heap.size,3,none⟩=false∧wA.frozen? ⟨w.heap.size,4,none⟩=false∧wA.frozen? ⟨w.heap.size,5,none⟩=false∧wA.frozen? ⟨w.heap.size,6,none⟩=false ∧
 (((((((wA.setCell ⟨w.heap.size,0,none⟩ (.slice x.pay.a x.pay.ds.length x.pay.c)).setCell ⟨w.heap.size,1,none⟩ (.slice x.mults.a x.mults.ds.length x.mults.c)).setCell ⟨w.heap.size,2,none⟩ (.slice x.low.a x.low.ds.length x.low.c)).setCell ⟨w.heap.size,3,none⟩ (.slice x.high.a x.high.ds.length x.high.c)).setCell ⟨w.heap.size,4,none⟩ (.bool x.lev.neg)).setCell ⟨w.heap.size,5,none⟩ (.slice x.lev.a x.lev.la.length x.lev.ca)).setCell ⟨w.heap.size,6,none⟩ (.slice x.lev.b x.lev.lb.length x.lev.cb))=wB∧VarP wB w.heap.size x∧Below w.heap.size w wB∧w.heap.size<wB.heap.size:=by
 obtain⟨wA,eA,bA,lA,BA⟩:=boxed w #[.slice none 0 0,.slice none 0 0,.slice none 0 0,.slice none 0 0,.bool false,.slice none 0 0,.slice none 0 0] 38;obtain⟨wB,z0,z1,z2,z3,z4,z5,z6,f0,f1,f2,f3,f4,f5,f6,eB,hB,oB⟩:=zero_storeP BA x;exact⟨wA,wB,eA,z0,z1,z2,z3,z4,z5,z6,f0,f1,f2,f3,f4,f5,f6,eB,hB,oB.to_below bA (Nat.le_refl _) bA.size,Nat.lt_of_lt_of_le lA oB.size⟩
theorem VarP.lt9 {w:World}{g:Nat}{x:PtD}(h:VarP w g x):g<w.heap.size:=Blk.lt h
theorem VarP.setPay {w:World}{g:Nat}{x:PtD}(h:VarP w g x) (r:RwD):∃ w9,w.cell? ⟨g,0,none⟩=some (.slice x.pay.a x.pay.ds.length x.pay.c)∧w.frozen? ⟨g,0,none⟩=false∧w.setCell ⟨g,0,none⟩ (.slice r.a r.ds.length r.c)=w9∧VarP w9 g { x with pay:=r }∧Only w w9 g :=
 ⟨_,Blk.cell h 0,Blk.free h 0,rfl,Blk.set h 0 _,(Only.refl w g).set 0 _⟩
section
variable {P:Program}{md:Region.Mode}{ops:Array Oper}{Q:Exit→Act→World→Prop}{S:World→Prop}{fuel:Nat}{listed l':Array Bool}{a a':Act}{w:World}
def marks (l:Array Bool):List Nat→Array Bool
 | []=>l
 | i::r=>marks (l.setIfInBounds i true) r
def putsL (a:Act):List Nat→List Value→Act
 | d::ds,u::us=>putsL (a.put (some d) u) ds us
 | _,_=>a
theorem segH (m:Nat) (L D:List Nat) (J:List Value→World→Prop) (htl:∀ us w',J us w'→S w'→wpAnyH P md ops Q S m (marks listed L) (putsL a D us) w')
 (hwk:(∀ us w',J us w'→S w'→wpAnyH P md ops Q S m (marks listed L) (putsL a D us) w')→wpAnyH P md ops Q S fuel listed a w):wpAnyH P md ops Q S fuel listed a w:=hwk htl
end
theorem zero_storeT {t:TypeId}{w:World}{g:Nat}(h:Blk w g t #[.slice none 0 0,.slice none 0 0,.slice none 0 0,.slice none 0 0,.bool false,.slice none 0 0,.slice none 0 0]) (x:PtD):∃ w9,w.cell? ⟨g,0,none⟩=some (.slice none 0 0)∧w.cell? ⟨g,1,none⟩=some (.slice none 0 0)∧w.cell? ⟨g,2,none⟩=some (.slice none 0 0)∧w.cell? ⟨g,3,none⟩=some (.slice none 0 0)∧w.cell? ⟨g,4,none⟩=some (.bool false)∧w.cell? ⟨g,5,none⟩=some (.slice none 0 0)∧w.cell? ⟨g,6,none⟩=some (.slice none 0 0)∧w.frozen? ⟨g,0,none⟩=false∧w.frozen? ⟨g,1,none⟩=false∧w.frozen? ⟨g,2,none⟩=false∧w.frozen? ⟨g,3,none⟩=false∧w.frozen? ⟨g,4,none⟩=false∧w.frozen? ⟨g,5,none⟩=false∧w.frozen? ⟨g,6,none⟩=false ∧
 (((((((w.setCell ⟨g,0,none⟩ (.slice x.pay.a x.pay.ds.length x.pay.c)).setCell ⟨g,1,none⟩ (.slice x.mults.a x.mults.ds.length x.mults.c)).setCell ⟨g,2,none⟩ (.slice x.low.a x.low.ds.length x.low.c)).setCell ⟨g,3,none⟩ (.slice x.high.a x.high.ds.length x.high.c)).setCell ⟨g,4,none⟩ (.bool x.lev.neg)).setCell ⟨g,5,none⟩ (.slice x.lev.a x.lev.la.length x.lev.ca)).setCell ⟨g,6,none⟩ (.slice x.lev.b x.lev.lb.length x.lev.cb))=w9∧Blk w9 g t #[.slice x.pay.a x.pay.ds.length x.pay.c,.slice x.mults.a x.mults.ds.length x.mults.c,.slice x.low.a x.low.ds.length x.low.c,.slice x.high.a x.high.ds.length x.high.c,.bool x.lev.neg,.slice x.lev.a x.lev.la.length x.lev.ca,.slice x.lev.b x.lev.lb.length x.lev.cb]∧Only w w9 g:=by
 have b9:=((((((h.set 0 (.slice x.pay.a x.pay.ds.length x.pay.c)).set 1 (.slice x.mults.a x.mults.ds.length x.mults.c)).set 2 (.slice x.low.a x.low.ds.length x.low.c)).set 3 (.slice x.high.a x.high.ds.length x.high.c)).set 4 (.bool x.lev.neg)).set 5 (.slice x.lev.a x.lev.la.length x.lev.ca)).set 6 (.slice x.lev.b x.lev.lb.length x.lev.cb);have o9:=(((((((Only.refl w g).set 0 (.slice x.pay.a x.pay.ds.length x.pay.c)).set 1 (.slice x.mults.a x.mults.ds.length x.mults.c)).set 2 (.slice x.low.a x.low.ds.length x.low.c)).set 3 (.slice x.high.a x.high.ds.length x.high.c)).set 4 (.bool x.lev.neg)).set 5 (.slice x.lev.a x.lev.la.length x.lev.ca)).set 6 (.slice x.lev.b x.lev.lb.length x.lev.cb);exact⟨_,Blk.cell h 0,Blk.cell h 1,Blk.cell h 2,Blk.cell h 3,Blk.cell h 4,Blk.cell h 5,Blk.cell h 6,Blk.free h 0,Blk.free h 1,Blk.free h 2,Blk.free h 3,Blk.free h 4,Blk.free h 5,Blk.free h 6,rfl,b9,o9⟩
def zeroP:PtD:=⟨⟨none,0,[]⟩,⟨none,0,[]⟩,⟨none,0,[]⟩,⟨none,0,[]⟩,zeroD⟩
def PjR (tg:List FrD) (ns:List NdD) (ms:List Int) (sq:Rat) (lo:Nat) (y:PtD) (k:Int) (w':World):Prop :=
 (argsE tg.length ns ms≠0∧y=zeroP∧k=argsE tg.length ns ms)∨(argsE tg.length ns ms=0∧Infeas ms.length (allS ns ms) sq∧y=zeroP∧k=6) ∨
 (argsE tg.length ns ms=0∧k=0∧∃ t:St,Best ms.length (allS ns ms) (tg.map FrD.q) sq t∧PtL w' y∧PtIn y lo w'.heap.size∧y.pay.qs=t.x∧y.mults.qs=(sprd ns ms t).take ns.length∧y.low.qs=((sprd ns ms t).drop ns.length).take ms.length∧y.high.qs=(sprd ns ms t).drop (ns.length+ms.length)∧y.lev.q=t.level)
theorem PrjPost.shape {tg:List FrD}{ns:List NdD}{ms:List Int}{sq:Rat}{lo:Nat}{e:Ending}{w':World}(h:PrjPost tg ns ms sq lo e w'):∃ y k,e=.returned (.tuple #[y.v,.int .i64 k])∧PjR tg ns ms sq lo y k w':=by
 rcases h with ⟨h1,h2⟩ | ⟨h1,h2,h3⟩ | ⟨h1,t,x,hb,h2,hr⟩
 · exact⟨zeroP,_,h2,.inl ⟨h1,rfl,rfl⟩⟩
 · exact⟨zeroP,_,h3,.inr (.inl ⟨h1,h2,rfl,rfl⟩)⟩
 · exact⟨x,_,h2,.inr (.inr ⟨h1,rfl,t,hb,hr⟩)⟩
theorem PjR.move {tg:List FrD}{ns:List NdD}{ms:List Int}{sq:Rat}{lo lo':Nat}{y:PtD}{k:Int}{w1 w2:World}(h:PjR tg ns ms sq lo y k w1) (hm:PtL w1 y→PtIn y lo w1.heap.size→PtL w2 y) (hl:lo'≤lo) (hs:w1.heap.size≤w2.heap.size):PjR tg ns ms sq lo' y k w2:=by
 rcases h with h | h | ⟨h1,h2,t,hb,hp,hi,hr⟩
 · exact .inl h
 · exact .inr (.inl h)
 · exact .inr (.inr ⟨h1,h2,t,hb,hm hp hi,hi.mono hl hs,hr⟩)
def RetPj (tg:List FrD) (ns:List NdD) (ms:List Int) (sq:Rat) (W:World) (e:Ending) (w':World):Prop:=∃ y k,e=.returned (.tuple #[y.v,.int .i64 k])∧Hid (PjR tg ns ms sq W.heap.size y k w')∧Below W.heap.size W w'
set_option maxRecDepth 100000 in
set_option maxHeartbeats 40000000 in
theorem project31_of {x:AgD}{w:World}(hpr:∀ w',Below w.heap.size w w'→Calls Try.prog 25 #[.slice x.t.a x.t.ds.length x.t.c,.slice x.na x.ns.length x.nc,.slice x.ma x.ms.length x.mc,x.s.v] w' (RetPrj x.t.ds x.ns x.ms x.s.q w')):Calls Try.prog 13 #[x.v] w (RetPj x.t.ds x.ns x.ms x.s.q w):=by
 obtain⟨w0,hw0,b0,l0,B0⟩:=boxed w #[.slice x.t.a x.t.ds.length x.t.c,.slice x.na x.ns.length x.nc,.slice x.ma x.ms.length x.mc,.bool x.s.neg,.slice x.s.a x.s.la.length x.s.ca,.slice x.s.b x.s.lb.length x.s.cb] 30;obtain⟨w1,hw1,b1,l1,B1⟩:=boxed w0 #[.slice none 0 0,.slice none 0 0,.slice none 0 0,.slice none 0 0,.bool false,.slice none 0 0,.slice none 0 0] 32;have b01:=b0.trans (b1.mono b0.size);have BA:=Blk.keep B0 b1;have a0:w1.cell? ⟨w.heap.size,0,none⟩=some (.slice x.t.a x.t.ds.length x.t.c):=Blk.cell BA 0;have a1:w1.cell? ⟨w.heap.size,1,none⟩=some (.slice x.na x.ns.length x.nc):=Blk.cell BA 1;have a2:w1.cell? ⟨w.heap.size,2,none⟩=some (.slice x.ma x.ms.length x.mc):=Blk.cell BA 2;have a3:w1.cell? ⟨w.heap.size,3,none⟩=some (.bool x.s.neg):=Blk.cell BA 3;have a4:w1.cell? ⟨w.heap.size,4,none⟩=some (.slice x.s.a x.s.la.length x.s.ca):=Blk.cell BA 4;have a5:w1.cell? ⟨w.heap.size,5,none⟩=some (.slice x.s.b x.s.lb.length x.s.cb):=Blk.cell BA 5;have hcl:=hpr w1 b01;clear hpr;go_enter Try.func13,Try.ntmps13;go_wp2_with fail;refine hcl.mono ?_;rintro e y1 ⟨hp,by1⟩;clear hcl;obtain⟨y,k,rfl,hy0⟩:=hp.out.shape;have hy:=Lib.hid hy0;clear hp hy0;obtain⟨wA,wB,eA,p0,p1,p2,p3,p4,p5,p6,r0,r1,r2,r3,r4,r5,r6,eB,hV,bV,lV⟩:=new_varP y1 y;obtain⟨t0,t1,t2,t3,t4,t5,t6⟩:=hV.cells;have hR:=Blk.keep (Blk.keep B1 by1) bV
 obtain⟨w9,z0,z1,z2,z3,z4,z5,z6,f0,f1,f2,f3,f4,f5,f6,e9,h9,o9⟩:=zero_storeT hR y;have c0:w9.cell? ⟨w0.heap.size,0,none⟩=some (.slice y.pay.a y.pay.ds.length y.pay.c):=Blk.cell h9 0;have c1:w9.cell? ⟨w0.heap.size,1,none⟩=some (.slice y.mults.a y.mults.ds.length y.mults.c):=Blk.cell h9 1;have c2:w9.cell? ⟨w0.heap.size,2,none⟩=some (.slice y.low.a y.low.ds.length y.low.c):=Blk.cell h9 2;have c3:w9.cell? ⟨w0.heap.size,3,none⟩=some (.slice y.high.a y.high.ds.length y.high.c):=Blk.cell h9 3;have c4:w9.cell? ⟨w0.heap.size,4,none⟩=some (.bool y.lev.neg):=Blk.cell h9 4;have c5:w9.cell? ⟨w0.heap.size,5,none⟩=some (.slice y.lev.a y.lev.la.length y.lev.ca):=Blk.cell h9 5;have c6:w9.cell? ⟨w0.heap.size,6,none⟩=some (.slice y.lev.b y.lev.lb.length y.lev.cb):=Blk.cell h9 6;have b1V:=by1.trans (bV.mono by1.size);have bB:=b01.trans (b1V.mono b01.size);have b9:=o9.to_below bB b0.size bB.size;have hw01:=Lib.hid (show w0.heap.size<w1.heap.size from l1);have hres:=Lib.hid (hy.out.move (w2:=w9) (lo':=w.heap.size) (fun hp hi=>(hp.below bV).farP (fun a ha=>by have h1:=(hi a ha).1;have h2:=hw01.out;omega) hR noDigZ o9) b01.size (Nat.le_trans bV.size o9.size));clear hR h9 hV BA B0 B1;go_wp2;refine bodyPost_ret (v:=.tuple #[y.v,.int .i64 k]) (by simp[results,Try.results13,go_sem,c0,c1,c2,c3,c4,c5,c6]) rfl ?_;exact⟨y,k,rfl,hres,b9⟩
theorem project31_any {x:AgD}{w:World}{n m:Int}(hF:FewP w x n m) (hn0:NL w x.na x.nc x.ns) (hm0:ZL w x.ma x.mc x.ms):Calls Try.prog 13 #[x.v] w (RetPj x.t.ds x.ns x.ms x.s.q w) :=
 project31_of fun w' b=>project_any (ns:=x.ns) (ms:=x.ms) (hF.t.below b) (hn0.below b) (hm0.below b) (hF.s.below b) hF.tf hF.sf
theorem project31_poss {x:AgD}{w:World}(ht:FL w x.t.a x.t.c x.t.ds) (hn0:NL w x.na x.nc x.ns) (hm0:ZL w x.ma x.mc x.ms) (hs:FV w x.s.v x.s.q) (hft:QFits 6000000 (x.t.ds.map FrD.q)) (hsf:Fits 2 x.s.q) (hE:argsE x.t.ds.length x.ns x.ms=0) (hP:Poss x.ms.length (allS x.ns x.ms) x.s.q (x.t.ds.map FrD.q)):Calls Try.prog 13 #[x.v] w (RetPj x.t.ds x.ns x.ms x.s.q w) :=
 project31_of fun w' b=>project2_any (Kt:=6000000) (ns:=x.ns) (ms:=x.ms) (ht.below b) (hn0.below b) (hm0.below b) (hs.below b) (by decide) (by decide) hft hsf fun _=>by
  obtain⟨k1,k2,k3,k4,k5⟩:=argsE_ok hE;obtain⟨f,t,h1,h2,-⟩:=poss_run (allS_conI ⟨k1,k2,k4,k5⟩) k1 hft hP.len hP.tot hP.ok;exact⟨f,.inr ⟨t,h1,h2⟩⟩
theorem PjR.poss {tg:List FrD}{ns:List NdD}{ms:List Int}{sq:Rat}{lo:Nat}{y:PtD}{k:Int}{w':World}(h:PjR tg ns ms sq lo y k w') (hE:argsE tg.length ns ms=0) (hP:Poss ms.length (allS ns ms) sq (tg.map FrD.q)):k=0∧PtL w' y∧y.pay.qs=tg.map FrD.q:=by
 rcases h with ⟨h1,-⟩ | ⟨-,h1,-⟩ | ⟨-,h1,t,hb,hp,-,q1,-⟩
 · exact absurd hE h1
 · exact (h1.no hP).elim
 · refine⟨h1,hp,q1.trans (hb.only hP ?_).symm⟩;have e:distV ms.length (tg.map FrD.q) (tg.map FrD.q)=0:=sm_zeroOf fun i _=>by show (_-_)*(_-_)=(0:Rat);grind
   rw[e];exact ip_self _ _
end Go.Proofs.Ytjhkapjadfpimaa
