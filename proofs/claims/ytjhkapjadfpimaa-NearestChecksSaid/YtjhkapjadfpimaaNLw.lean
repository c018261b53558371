/- Contracts of functions, for the law. -/
import Derived.Test.YtjhkapjadfpimaaMSmall
import Derived.Test.YtjhkapjadfpimaaNPt
import Derived.Deep.RegionHeld3
namespace Go.Proofs.Ytjhkapjadfpimaa
set_option linter.unusedVariables false
set_option linter.unusedSimpArgs false
open Go.RowKit Plain Go.WideShapes
structure AgD where
 t:RwD
 na:Option Addr
 nc:Nat
 ns:List NdD
 ma:Option Addr
 mc:Nat
 ms:List Int
 s:FrD
def AgD.cells (x:AgD):List Value:=[.slice x.t.a x.t.ds.length x.t.c,.slice x.na x.ns.length x.nc,.slice x.ma x.ms.length x.mc,.bool x.s.neg,.slice x.s.a x.s.la.length x.s.ca,.slice x.s.b x.s.lb.length x.s.cb]
abbrev AgD.v (x:AgD):Value:=.agg #[.slice x.t.a x.t.ds.length x.t.c,.slice x.na x.ns.length x.nc,.slice x.ma x.ms.length x.mc,.bool x.s.neg,.slice x.s.a x.s.la.length x.s.ca,.slice x.s.b x.s.lb.length x.s.cb]
structure AgD.ok (w:World) (x:AgD):Prop where
 t:FOkM w x.t.a x.t.c x.t.ds
 n:NL w x.na x.nc x.ns
 m:ZL w x.ma x.mc x.ms
 s:x.s.ok w
theorem AgD.ok.below {w w':World} {x:AgD} (h:x.ok w) (hb:Below w.heap.size w w'):x.ok w':=⟨h.t.below hb,h.n.below hb,h.m.below hb,h.s.below hb⟩
def PtD.cells (x:PtD):List Value:=[.slice x.pay.a x.pay.ds.length x.pay.c,.slice x.mults.a x.mults.ds.length x.mults.c,.slice x.low.a x.low.ds.length x.low.c,.slice x.high.a x.high.ds.length x.high.c,.bool x.lev.neg,.slice x.lev.a x.lev.la.length x.lev.ca,.slice x.lev.b x.lev.lb.length x.lev.cb]
structure PtD.ok (w:World) (x:PtD):Prop where
 pay:FOkM w x.pay.a x.pay.c x.pay.ds
 mults:FOkM w x.mults.a x.mults.c x.mults.ds
 low:FOkM w x.low.a x.low.c x.low.ds
 high:FOkM w x.high.a x.high.c x.high.ds
 lev:x.lev.ok w
theorem PtD.ok.below {w w':World} {x:PtD} (h:x.ok w) (hb:Below w.heap.size w w'):x.ok w':=⟨h.pay.below hb,h.mults.below hb,h.low.below hb,h.high.below hb,h.lev.below hb⟩
section
variable {H:Type} {enc:TypeId × Value→H} {w:World} {fuel:Nat} {cs:List Value} {x:DataW H × List MemPlace}
theorem cellsNeed:Try.prog.cellsOf 53=2:=by kernel_rfl
theorem cellsIntO:Try.prog.cellsOf 3=1:=by kernel_rfl
theorem cellsI64O:Try.prog.cellsOf 2=1:=by kernel_rfl
theorem cellsFracsO:Try.prog.cellsOf 22=1:=by kernel_rfl
theorem cellsNeeds:Try.prog.cellsOf 23=1:=by kernel_rfl
theorem cellsI64s:Try.prog.cellsOf 24=1:=by kernel_rfl
theorem cellsArgs:Try.prog.cellsOf 30=6:=by kernel_rfl
theorem cellsPoint:Try.prog.cellsOf 32=7:=by kernel_rfl
theorem list6 {α:Type} {l:List α} (h:l.length=6):∃ a b c d e f,l=[a,b,c,d,e,f]:=by
 match l,h with
 | [a,b,c,d,e,f],_=>exact ⟨a,b,c,d,e,f,rfl⟩
theorem list7O {α:Type} {l:List α} (h:l.length=7):∃ a b c d e f g,l=[a,b,c,d,e,f,g]:=by
 match l,h with
 | [a,b,c,d,e,f,g],_=>exact ⟨a,b,c,d,e,f,g,rfl⟩
theorem list2O {α:Type} {l:List α} (h:l.length=2):∃ a b,l=[a,b]:=by
 match l,h with
 | [a,b],_=>exact ⟨a,b,rfl⟩
theorem trod_two {t:TypeId} {f0 f1:Field} (ht:Try.prog.underlying t=some (.struct #[f0,f1])) (h:DataW.trod enc Try.prog w 0 (fun _=>true) true fuel t cs=some x) :
 ∃ y0 y1 n,cs.length=Try.prog.cellsOf t∧DataW.trod enc Try.prog w 0 (fun _=>true) true n f0.type ((cs.drop f0.offset).take (Try.prog.cellsOf f0.type))=some y0 ∧
  DataW.trod enc Try.prog w 0 (fun _=>true) true n f1.type ((cs.drop f1.offset).take (Try.prog.cellsOf f1.type))=some y1:=by
 obtain ⟨xs,n,_,_,hl,hlen,hf⟩:=DataW.trod_struct ht h
 match xs,hlen with
 | [y0,y1],_=>exact ⟨y0,y1,n,hl,by simpa using hf 0 f0 rfl,by simpa using hf 1 f1 rfl⟩
theorem trod_four {t:TypeId} {f0 f1 f2 f3:Field} (ht:Try.prog.underlying t=some (.struct #[f0,f1,f2,f3])) (h:DataW.trod enc Try.prog w 0 (fun _=>true) true fuel t cs=some x) :
 ∃ y0 y1 y2 y3 n,cs.length=Try.prog.cellsOf t∧DataW.trod enc Try.prog w 0 (fun _=>true) true n f0.type ((cs.drop f0.offset).take (Try.prog.cellsOf f0.type))=some y0 ∧
  DataW.trod enc Try.prog w 0 (fun _=>true) true n f1.type ((cs.drop f1.offset).take (Try.prog.cellsOf f1.type))=some y1∧DataW.trod enc Try.prog w 0 (fun _=>true) true n f2.type ((cs.drop f2.offset).take (Try.prog.cellsOf f2.type))=some y2 ∧
  DataW.trod enc Try.prog w 0 (fun _=>true) true n f3.type ((cs.drop f3.offset).take (Try.prog.cellsOf f3.type))=some y3:=by
 obtain ⟨xs,n,_,_,hl,hlen,hf⟩:=DataW.trod_struct ht h
 match xs,hlen with
 | [y0,y1,y2,y3],_=>exact ⟨y0,y1,y2,y3,n,hl,by simpa using hf 0 f0 rfl,by simpa using hf 1 f1 rfl,by simpa using hf 2 f2 rfl,by simpa using hf 3 f3 rfl⟩
theorem trod_fiveO {t:TypeId} {f0 f1 f2 f3 f4:Field} (ht:Try.prog.underlying t=some (.struct #[f0,f1,f2,f3,f4])) (h:DataW.trod enc Try.prog w 0 (fun _=>true) true fuel t cs=some x) :
 ∃ y0 y1 y2 y3 y4 n,cs.length=Try.prog.cellsOf t∧DataW.trod enc Try.prog w 0 (fun _=>true) true n f0.type ((cs.drop f0.offset).take (Try.prog.cellsOf f0.type))=some y0 ∧
  DataW.trod enc Try.prog w 0 (fun _=>true) true n f1.type ((cs.drop f1.offset).take (Try.prog.cellsOf f1.type))=some y1∧DataW.trod enc Try.prog w 0 (fun _=>true) true n f2.type ((cs.drop f2.offset).take (Try.prog.cellsOf f2.type))=some y2 ∧
  DataW.trod enc Try.prog w 0 (fun _=>true) true n f3.type ((cs.drop f3.offset).take (Try.prog.cellsOf f3.type))=some y3∧DataW.trod enc Try.prog w 0 (fun _=>true) true n f4.type ((cs.drop f4.offset).take (Try.prog.cellsOf f4.type))=some y4:=by
 obtain ⟨xs,n,_,_,hl,hlen,hf⟩:=DataW.trod_struct ht h
 match xs,hlen with
 | [y0,y1,y2,y3,y4],_=>exact ⟨y0,y1,y2,y3,y4,n,hl,by simpa using hf 0 f0 rfl,by simpa using hf 1 f1 rfl,by simpa using hf 2 f2 rfl,by simpa using hf 3 f3 rfl,by simpa using hf 4 f4 rfl⟩
theorem trod_need (h:DataW.trod enc Try.prog w 0 (fun _=>true) true fuel 53 cs=some x):∃ d:NdD,cs=d.cells∧True:=by
 obtain ⟨y0,y1,n,hl,h0,h1⟩:=trod_two Try.underlying53 h;rw [cellsNeed] at hl;obtain ⟨c0,c1,rfl⟩:=list2O hl
 simp only [cellsIntO,cellsI64O] at h0 h1
 obtain ⟨a,ha,_,wa⟩:=DataW.trod_int Try.underlying3 h0;obtain ⟨b,hb,_,wb⟩:=DataW.trod_int Try.underlying2 h1
 simp at ha hb
 subst ha hb;exact ⟨⟨_,_⟩,rfl,trivial⟩
theorem trod_fracsO (h:DataW.trod enc Try.prog w 0 (fun _=>true) true fuel 22 cs=some x):∃ A c ds,cs=[.slice A ds.length c]∧FOkM w A c ds:=by
 obtain ⟨A,c,ds,hc,h1,h2⟩:=trod_rows (cells:=FrD.cells) (P:=FrD.ok w) Try.underlying22 cellsFrac (fun _=>by simp [FrD.cells]) (fun _ _ _ h=>trod_frac h) h;exact ⟨A,c,ds,hc,h1,h2⟩
theorem trod_needs (h:DataW.trod enc Try.prog w 0 (fun _=>true) true fuel 23 cs=some x):∃ A c ds,cs=[.slice A ds.length c]∧NL w A c ds:=by
 obtain ⟨A,c,ds,hc,h1,h2⟩:=trod_rows (cells:=NdD.cells) (P:=fun _=>True) Try.underlying23 cellsNeed (fun _=>by simp [NdD.cells]) (fun _ _ _ h=>trod_need h) h;exact ⟨A,c,ds,hc,h1⟩
theorem trod_i64s (h:DataW.trod enc Try.prog w 0 (fun _=>true) true fuel 24 cs=some x):∃ A c zs,cs=[.slice A zs.length c]∧ZL w A c zs:=by
 obtain ⟨A,c,ds,hc,h1,h2⟩:=trod_rows (cells:=fun z:Int=>[Value.int .i64 z]) (P:=fun _=>True) Try.underlying24 cellsI64O (fun _=>by simp) (fun _ _ _ h=>by
  obtain ⟨a,ha,_,wa⟩:=DataW.trod_int Try.underlying2 h;exact ⟨a,ha,trivial⟩) h
 exact ⟨A,c,ds,hc,h1⟩
theorem trod_args (h:DataW.trod enc Try.prog w 0 (fun _=>true) true fuel 30 cs=some x):∃ d:AgD,cs=d.cells∧d.ok w:=by
 obtain ⟨y0,y1,y2,y3,n,hl,h0,h1,h2,h3⟩:=trod_four Try.underlying30 h;rw [cellsArgs] at hl;obtain ⟨c0,c1,c2,c3,c4,c5,rfl⟩:=list6 hl
 simp only [cellsFracsO,cellsNeeds,cellsI64s,cellsFrac] at h0 h1 h2 h3
 obtain ⟨A,ca,ds,hA,oA⟩:=trod_fracsO h0;obtain ⟨B,cb,ns,hB,oB⟩:=trod_needs h1;obtain ⟨C,cc,ms,hC,oC⟩:=trod_i64s h2;obtain ⟨d,hd,od⟩:=trod_frac h3
 simp [FrD.cells] at hA hB hC hd
 obtain ⟨rfl,rfl,rfl⟩:=hd;subst hA hB hC;exact ⟨⟨⟨A,ca,ds⟩,B,cb,ns,C,cc,ms,d⟩,rfl,oA,oB,oC,od⟩
theorem trod_point (h:DataW.trod enc Try.prog w 0 (fun _=>true) true fuel 32 cs=some x):∃ d:PtD,cs=d.cells∧d.ok w:=by
 obtain ⟨y0,y1,y2,y3,y4,n,hl,h0,h1,h2,h3,h4⟩:=trod_fiveO Try.underlying32 h;rw [cellsPoint] at hl;obtain ⟨c0,c1,c2,c3,c4,c5,c6,rfl⟩:=list7O hl
 simp only [cellsFracsO,cellsFrac] at h0 h1 h2 h3 h4
 obtain ⟨A,ca,da,hA,oA⟩:=trod_fracsO h0;obtain ⟨B,cb,db,hB,oB⟩:=trod_fracsO h1;obtain ⟨C,cc,dc,hC,oC⟩:=trod_fracsO h2;obtain ⟨D,cd,dd,hD,oD⟩:=trod_fracsO h3;obtain ⟨d,hd,od⟩:=trod_frac h4
 simp [FrD.cells] at hA hB hC hD hd
 obtain ⟨rfl,rfl,rfl⟩:=hd;subst hA hB hC hD;exact ⟨⟨⟨A,ca,da⟩,⟨B,cb,db⟩,⟨C,cc,dc⟩,⟨D,cd,dd⟩,d⟩,rfl,oA,oB,oC,oD,od⟩
set_option maxRecDepth 100000 in
theorem open_args {b0:Nat} {v:Value} {d:DataW H} {p:List MemPlace} (hv:Value.okWide Try.prog w .any b0 30 v) (h:DataW.Trod enc Try.prog w 0 (fun _=>true) true 30 v d p):∃ x:AgD,v=x.v∧x.ok w:=by
 obtain ⟨vs,rfl,hsz⟩:=okWide_struct Try.underlying30 hv;obtain ⟨fuel,hf⟩:=h;obtain ⟨f,hc,ho⟩:=trod_args hf;refine ⟨f,?_,ho⟩
 have e:vs=f.cells.toArray:=by
  apply Array.ext'
  simpa [Value.cells] using hc
 rw [e];rfl
set_option maxRecDepth 100000 in
theorem open_point {b0:Nat} {v:Value} {d:DataW H} {p:List MemPlace} (hv:Value.okWide Try.prog w .any b0 32 v) (h:DataW.Trod enc Try.prog w 0 (fun _=>true) true 32 v d p):∃ x:PtD,v=x.v∧x.ok w:=by
 obtain ⟨vs,rfl,hsz⟩:=okWide_struct Try.underlying32 hv;obtain ⟨fuel,hf⟩:=h;obtain ⟨f,hc,ho⟩:=trod_point hf;refine ⟨f,?_,ho⟩
 have e:vs=f.cells.toArray:=by
  apply Array.ext'
  simpa [Value.cells] using hc
 rw [e];rfl
end
end Go.Proofs.Ytjhkapjadfpimaa
namespace Go.Proofs.Ytjhkapjadfpimaa
set_option linter.unusedVariables false
set_option linter.unusedSimpArgs false
open Go.RowKit Plain
attribute [local go_sem ↓] Go.wp_at_zero Go.wp_at_succ
theorem FOkM.one {w:World} {g:Nat} {t:TypeId} {d:FrD} (h:Blk w g t #[.bool d.neg,.slice d.a d.la.length d.ca,.slice d.b d.lb.length d.cb]) (hd:d.ok w):FOkM w (some ⟨g,0,none⟩) 1 [d] :=
 ⟨⟨by simp,by decide,fun j hj=>⟨_,rfl,Blk.lt h,fun i u hu=>by
  have hj2:j < 1:=hj;obtain rfl:j=0:=by omega
  rcases i with _ | _ | _ | i
  · injection hu with hu;subst hu;exact Blk.cell h 0
  · injection hu with hu;subst hu;exact Blk.cell h 1
  · injection hu with hu;subst hu;exact Blk.cell h 2
  · simp [FrD.cells] at hu⟩⟩,fun f hf=>by simp at hf;subst hf;exact hd⟩
theorem one_small {w:World} {d:FrD} (hd:d.ok w) (h:smL1 [d]=true):FV w d.v d.q∧Fits 2 d.q:=by
 unfold smL1 smLs at h
 simp only [List.all_cons,List.all_nil,Bool.and_true,List.length_cons,List.length_nil,Bool.and_eq_true,decide_eq_true_eq] at h
 have h1:=h.1;unfold smF1 at h1
 simp only [Bool.and_eq_true,decide_eq_true_eq] at h1
 exact FrD.few.fv (K:=2) ⟨hd.1.nv (by omega),hd.2.nv (by omega),h1.1,by omega⟩ h1.2.2
theorem all_small {ds:List FrD} (h:ds.all (fun d=>smL1 [d])=true):smLs ds=true:=by
 unfold smLs;rw [List.all_eq_true] at h ⊢;intro d hd;have h1:=h d hd;unfold smL1 smLs at h1
 simp only [List.all_cons,List.all_nil,Bool.and_true,List.length_cons,List.length_nil,Bool.and_eq_true,decide_eq_true_eq] at h1
 exact h1.1
def fewA (x:AgD) (n m:Int):Bool:=smL1 x.t.ds && (smL1 [x.s] && (decide ((x.ns.length:Int)≤n) && decide ((x.ms.length:Int)≤m)))
structure FewP (w:World) (x:AgD) (n m:Int):Prop where
 t:FL w x.t.a x.t.c x.t.ds
 tf:QFits 2 (x.t.ds.map FrD.q)
 tl:x.t.ds.length≤12
 s:FV w x.s.v x.s.q
 sf:Fits 2 x.s.q
 nn:(x.ns.length:Int)≤n
 mm:(x.ms.length:Int)≤m
theorem fewP_of {w:World} {x:AgD} {n m:Int} (h:x.ok w) (hf:fewA x n m=true):FewP w x n m:=by
 unfold fewA at hf
 simp only [Bool.and_eq_true,decide_eq_true_eq] at hf
 obtain ⟨h1,h2,h3⟩:=smL1_fl h.t hf.1;obtain ⟨h4,h5⟩:=one_small h.s hf.2.1;exact ⟨h1,h2,h3,h4,h5,hf.2.2.1,hf.2.2.2⟩
set_option maxRecDepth 100000 in
set_option maxHeartbeats 40000000 in
theorem few31_any {x:AgD} {n m:Int} {w:World} (h:x.ok w):Calls Try.prog 8 #[x.v,.int .i64 n,.int .i64 m] w (RetB (fewA x n m) w):=by
 obtain ⟨r,hr⟩:∃ r,Hid (fewA x n m=r):=⟨_,rfl⟩;rw [hr.out];obtain ⟨w0,hw0,b0,l0,B0⟩:=boxed w #[.slice x.t.a x.t.ds.length x.t.c,.slice x.na x.ns.length x.nc,.slice x.ma x.ms.length x.mc,.bool x.s.neg,.slice x.s.a x.s.la.length x.s.ca,.slice x.s.b x.s.lb.length x.s.cb] 30;have hx:=h.below b0;have lt1:=hx.t.1.1;have lt2:=hx.t.1.2.1;have ln:=hx.n.len;have lm:=hx.m.len;have a0:w0.cell? ⟨w.heap.size,0,none⟩=some (.slice x.t.a x.t.ds.length x.t.c):=Blk.cell B0 0;have a1:w0.cell? ⟨w.heap.size,1,none⟩=some (.slice x.na x.ns.length x.nc):=Blk.cell B0 1;have a2:w0.cell? ⟨w.heap.size,2,none⟩=some (.slice x.ma x.ms.length x.mc):=Blk.cell B0 2;have a3:w0.cell? ⟨w.heap.size,3,none⟩=some (.bool x.s.neg):=Blk.cell B0 3;have a4:w0.cell? ⟨w.heap.size,4,none⟩=some (.slice x.s.a x.s.la.length x.s.ca):=Blk.cell B0 4;have a5:w0.cell? ⟨w.heap.size,5,none⟩=some (.slice x.s.b x.s.lb.length x.s.cb):=Blk.cell B0 5;go_enter Try.func8,Try.ntmps8;go_wp2_with fail;refine (small31_any hx.t).mono ?_;rintro e y1 ⟨rfl,by1⟩;have bT:=b0.trans (by1.mono b0.size)
 rcases s0:smL1 x.t.ds with _ | _
 · have hf:=Lib.hid (show r=false by rw [←hr.out];unfold fewA;rw [s0];rfl);clear s0;go_wp2;go_ret;exact ⟨by rw [hf.out];rfl,bT⟩
 have s0':=Lib.hid s0;clear s0 a0 a1 a2 a3 a4 a5;have B1:=Blk.keep B0 by1;have a0:y1.cell? ⟨w.heap.size,0,none⟩=some (.slice x.t.a x.t.ds.length x.t.c):=Blk.cell B1 0;have a1:y1.cell? ⟨w.heap.size,1,none⟩=some (.slice x.na x.ns.length x.nc):=Blk.cell B1 1;have a2:y1.cell? ⟨w.heap.size,2,none⟩=some (.slice x.ma x.ms.length x.mc):=Blk.cell B1 2;have a3:y1.cell? ⟨w.heap.size,3,none⟩=some (.bool x.s.neg):=Blk.cell B1 3;have a4:y1.cell? ⟨w.heap.size,4,none⟩=some (.slice x.s.a x.s.la.length x.s.ca):=Blk.cell B1 4;have a5:y1.cell? ⟨w.heap.size,5,none⟩=some (.slice x.s.b x.s.lb.length x.s.cb):=Blk.cell B1 5;obtain ⟨y2,hy2,b2,l2,B2⟩:=boxed y1 #[.bool x.s.neg,.slice x.s.a x.s.la.length x.s.ca,.slice x.s.b x.s.lb.length x.s.cb] 28;have hone:=FOkM.one B2 ((hx.s.below by1).below b2);go_wp2_with fail;refine (small31_any (ds:=[x.s]) hone).mono ?_;rintro e y3 ⟨rfl,by3⟩;have bT2:=(bT.trans (b2.mono bT.size)).trans (by3.mono (Nat.le_trans bT.size b2.size))
 rcases s1:smL1 [x.s] with _ | _
 · have hf:=Lib.hid (show r=false by rw [←hr.out];unfold fewA;rw [s0'.out,s1];rfl);clear s1;go_wp2;go_ret;exact ⟨by rw [hf.out];rfl,bT2⟩
 have s1':=Lib.hid s1;clear s1 a0 a1 a2 a3 a4 a5 hy2;have B3:=Blk.keep (Blk.keep B1 b2) by3;have a0:y3.cell? ⟨w.heap.size,0,none⟩=some (.slice x.t.a x.t.ds.length x.t.c):=Blk.cell B3 0;have a1:y3.cell? ⟨w.heap.size,1,none⟩=some (.slice x.na x.ns.length x.nc):=Blk.cell B3 1;have a2:y3.cell? ⟨w.heap.size,2,none⟩=some (.slice x.ma x.ms.length x.mc):=Blk.cell B3 2;have a3:y3.cell? ⟨w.heap.size,3,none⟩=some (.bool x.s.neg):=Blk.cell B3 3;have a4:y3.cell? ⟨w.heap.size,4,none⟩=some (.slice x.s.a x.s.la.length x.s.ca):=Blk.cell B3 4;have a5:y3.cell? ⟨w.heap.size,5,none⟩=some (.slice x.s.b x.s.lb.length x.s.cb):=Blk.cell B3 5;obtain ⟨u1,hu1⟩:∃ u,decide ((x.ns.length:Int)≤n)=u:=⟨_,rfl⟩;obtain ⟨u2,hu2⟩:∃ u,decide ((x.ms.length:Int)≤m)=u:=⟨_,rfl⟩;have hf:=Lib.hid (show r=(u1 && u2) by rw [←hr.out];unfold fewA;rw [s0'.out,s1'.out,hu1,hu2];rfl)
 rcases u1 with _ | _ <;> rcases u2 with _ | _
 all_goals
  go_wp2;go_ret;exact ⟨by rw [hf.out];rfl,bT2⟩
end Go.Proofs.Ytjhkapjadfpimaa
