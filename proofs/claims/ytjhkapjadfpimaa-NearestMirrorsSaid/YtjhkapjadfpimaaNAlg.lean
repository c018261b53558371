/- Contracts of functions, for the law. -/
import Derived.Test.YtjhkapjadfpimaaMSmall
import Derived.Test.YtjhkapjadfpimaaNPt
import Derived.Deep.RegionHeld3
import Derived.Test.YtjhkapjadfpimaaMOne
import Derived.Test.YtjhkapjadfpimaaPLp
import Derived.Test.YtjhkapjadfpimaaWTrim
import Derived.Test.YtjhkapjadfpimaaMPivot
namespace Go.Proofs.Ytjhkapjadfpimaa
set_option linter.unusedVariables false
set_option linter.unusedSimpArgs false
open Go.RowKit Plain Go.WideShapes
structure AgD where
 t:RwD
 na:Option Addr
 nc:Nat
 ns:List NdD
 ma:Option Addr
 mc:Nat
 ms:List Int
 s:FrD
def AgD.cells (x:AgD):List Value:=[.slice x.t.a x.t.ds.length x.t.c,.slice x.na x.ns.length x.nc,.slice x.ma x.ms.length x.mc,.bool x.s.neg,.slice x.s.a x.s.la.length x.s.ca,.slice x.s.b x.s.lb.length x.s.cb]
abbrev AgD.v (x:AgD):Value:=.agg #[.slice x.t.a x.t.ds.length x.t.c,.slice x.na x.ns.length x.nc,.slice x.ma x.ms.length x.mc,.bool x.s.neg,.slice x.s.a x.s.la.length x.s.ca,.slice x.s.b x.s.lb.length x.s.cb]
structure AgD.ok (w:World) (x:AgD):Prop where
 t:FOkM w x.t.a x.t.c x.t.ds
 n:NL w x.na x.nc x.ns
 m:ZL w x.ma x.mc x.ms
 s:x.s.ok w
theorem AgD.ok.below {w w':World}{x:AgD}(h:x.ok w) (hb:Below w.heap.size w w'):x.ok w':=⟨h.t.below hb,h.n.below hb,h.m.below hb,h.s.below hb⟩
section
variable {H:Type}{enc:TypeId × Value→H}{w:World}{fuel:Nat}{cs:List Value}{x:DataW H × List MemPlace}
theorem cellsNeed:Try.prog.cellsOf 53=2:=by kernel_rfl
theorem cellsIntO:Try.prog.cellsOf 3=1:=by kernel_rfl
theorem cellsI64O:Try.prog.cellsOf 2=1:=by kernel_rfl
theorem cellsFracsO:Try.prog.cellsOf 22=1:=by kernel_rfl
theorem cellsNeeds:Try.prog.cellsOf 23=1:=by kernel_rfl
theorem cellsI64s:Try.prog.cellsOf 24=1:=by kernel_rfl
theorem cellsArgs:Try.prog.cellsOf 30=6:=by kernel_rfl
theorem list6 {α:Type}{l:List α}(h:l.length=6):∃ a b c d e f,l=[a,b,c,d,e,f]:=by
 match l,h with
 | [a,b,c,d,e,f],_=>exact⟨a,b,c,d,e,f,rfl⟩
theorem list2O {α:Type}{l:List α}(h:l.length=2):∃ a b,l=[a,b]:=by
 match l,h with
 | [a,b],_=>exact⟨a,b,rfl⟩
theorem trod_two {t:TypeId}{f0 f1:Field}(ht:Try.prog.underlying t=some (.struct #[f0,f1])) (h:DataW.trod enc Try.prog w 0 (fun _=>true) true fuel t cs=some x) :
 ∃ y0 y1 n,cs.length=Try.prog.cellsOf t∧DataW.trod enc Try.prog w 0 (fun _=>true) true n f0.type ((cs.drop f0.offset).take (Try.prog.cellsOf f0.type))=some y0 ∧
  DataW.trod enc Try.prog w 0 (fun _=>true) true n f1.type ((cs.drop f1.offset).take (Try.prog.cellsOf f1.type))=some y1:=by
 obtain⟨xs,n,_,_,hl,hlen,hf⟩:=DataW.trod_struct ht h
 match xs,hlen with
 | [y0,y1],_=>exact⟨y0,y1,n,hl,by simpa using hf 0 f0 rfl,by simpa using hf 1 f1 rfl⟩
theorem trod_four {t:TypeId}{f0 f1 f2 f3:Field}(ht:Try.prog.underlying t=some (.struct #[f0,f1,f2,f3])) (h:DataW.trod enc Try.prog w 0 (fun _=>true) true fuel t cs=some x) :
 ∃ y0 y1 y2 y3 n,cs.length=Try.prog.cellsOf t∧DataW.trod enc Try.prog w 0 (fun _=>true) true n f0.type ((cs.drop f0.offset).take (Try.prog.cellsOf f0.type))=some y0 ∧
  DataW.trod enc Try.prog w 0 (fun _=>true) true n f1.type ((cs.drop f1.offset).take (Try.prog.cellsOf f1.type))=some y1∧DataW.trod enc Try.prog w 0 (fun _=>true) true n f2.type ((cs.drop f2.offset).take (Try.prog.cellsOf f2.type))=some y2 ∧
  DataW.trod enc Try.prog w 0 (fun _=>true) true n f3.type ((cs.drop f3.offset).take (Try.prog.cellsOf f3.type))=some y3:=by
 obtain⟨xs,n,_,_,hl,hlen,hf⟩:=DataW.trod_struct ht h
 match xs,hlen with
 | [y0,y1,y2,y3],_=>exact⟨y0,y1,y2,y3,n,hl,by simpa using hf 0 f0 rfl,by simpa using hf 1 f1 rfl,by simpa using hf 2 f2 rfl,by simpa using hf 3 f3 rfl⟩
theorem trod_need (h:DataW.trod enc Try.prog w 0 (fun _=>true) true fuel 53 cs=some x):∃ d:NdD,cs=d.cells∧True:=by
 obtain⟨y0,y1,n,hl,h0,h1⟩:=trod_two Try.underlying53 h;rw[cellsNeed] at hl;obtain⟨c0,c1,rfl⟩:=list2O hl
 simp only[cellsIntO,cellsI64O] at h0 h1
 obtain⟨a,ha,_,wa⟩:=DataW.trod_int Try.underlying3 h0;obtain⟨b,hb,_,wb⟩:=DataW.trod_int Try.underlying2 h1
 simp at ha hb
 subst ha hb;exact⟨⟨_,_⟩,rfl,trivial⟩
theorem trod_fracsO (h:DataW.trod enc Try.prog w 0 (fun _=>true) true fuel 22 cs=some x):∃ A c ds,cs=[.slice A ds.length c]∧FOkM w A c ds:=by
 obtain⟨A,c,ds,hc,h1,h2⟩:=trod_rows (cells:=FrD.cells) (P:=FrD.ok w) Try.underlying22 cellsFrac (fun _=>by simp[FrD.cells]) (fun _ _ _ h=>trod_frac h) h;exact⟨A,c,ds,hc,h1,h2⟩
theorem trod_needs (h:DataW.trod enc Try.prog w 0 (fun _=>true) true fuel 23 cs=some x):∃ A c ds,cs=[.slice A ds.length c]∧NL w A c ds:=by
 obtain⟨A,c,ds,hc,h1,h2⟩:=trod_rows (cells:=NdD.cells) (P:=fun _=>True) Try.underlying23 cellsNeed (fun _=>by simp[NdD.cells]) (fun _ _ _ h=>trod_need h) h;exact⟨A,c,ds,hc,h1⟩
theorem trod_i64s (h:DataW.trod enc Try.prog w 0 (fun _=>true) true fuel 24 cs=some x):∃ A c zs,cs=[.slice A zs.length c]∧ZL w A c zs:=by
 obtain⟨A,c,ds,hc,h1,h2⟩:=trod_rows (cells:=fun z:Int=>[Value.int .i64 z]) (P:=fun _=>True) Try.underlying24 cellsI64O (fun _=>by simp) (fun _ _ _ h=>by
  obtain⟨a,ha,_,wa⟩:=DataW.trod_int Try.underlying2 h;exact⟨a,ha,trivial⟩) h
 exact⟨A,c,ds,hc,h1⟩
theorem trod_args (h:DataW.trod enc Try.prog w 0 (fun _=>true) true fuel 30 cs=some x):∃ d:AgD,cs=d.cells∧d.ok w:=by
 obtain⟨y0,y1,y2,y3,n,hl,h0,h1,h2,h3⟩:=trod_four Try.underlying30 h;rw[cellsArgs] at hl;obtain⟨c0,c1,c2,c3,c4,c5,rfl⟩:=list6 hl
 simp only[cellsFracsO,cellsNeeds,cellsI64s,cellsFrac] at h0 h1 h2 h3
 obtain⟨A,ca,ds,hA,oA⟩:=trod_fracsO h0;obtain⟨B,cb,ns,hB,oB⟩:=trod_needs h1;obtain⟨C,cc,ms,hC,oC⟩:=trod_i64s h2;obtain⟨d,hd,od⟩:=trod_frac h3
 simp[FrD.cells] at hA hB hC hd
 obtain⟨rfl,rfl,rfl⟩:=hd;subst hA hB hC;exact⟨⟨⟨A,ca,ds⟩,B,cb,ns,C,cc,ms,d⟩,rfl,oA,oB,oC,od⟩
set_option maxRecDepth 100000 in
theorem open_args {b0:Nat}{v:Value}{d:DataW H}{p:List MemPlace}(hv:Value.okWide Try.prog w .any b0 30 v) (h:DataW.Trod enc Try.prog w 0 (fun _=>true) true 30 v d p):∃ x:AgD,v=x.v∧x.ok w:=by
 obtain⟨vs,rfl,hsz⟩:=okWide_struct Try.underlying30 hv;obtain⟨fuel,hf⟩:=h;obtain⟨f,hc,ho⟩:=trod_args hf;refine⟨f,?_,ho⟩
 have e:vs=f.cells.toArray:=by
  apply Array.ext'
  simpa [Value.cells] using hc
 rw[e];rfl
end
end Go.Proofs.Ytjhkapjadfpimaa
namespace Go.Proofs.Ytjhkapjadfpimaa
set_option linter.unusedVariables false
set_option linter.unusedSimpArgs false
open Go.RowKit Plain
attribute [local go_sem ↓] Go.wp_at_zero Go.wp_at_succ
theorem FOkM.one {w:World}{g:Nat}{t:TypeId}{d:FrD}(h:Blk w g t #[.bool d.neg,.slice d.a d.la.length d.ca,.slice d.b d.lb.length d.cb]) (hd:d.ok w):FOkM w (some ⟨g,0,none⟩) 1 [d] :=
 ⟨⟨by simp,by decide,fun j hj=>⟨_,rfl,Blk.lt h,fun i u hu=>by
  have hj2:j<1:=hj;obtain rfl:j=0:=by omega
  rcases i with _ | _ | _ | i
  · injection hu with hu;subst hu;exact Blk.cell h 0
  · injection hu with hu;subst hu;exact Blk.cell h 1
  · injection hu with hu;subst hu;exact Blk.cell h 2
  · simp[FrD.cells] at hu⟩⟩,fun f hf=>by simp at hf;subst hf;exact hd⟩
theorem one_small {w:World}{d:FrD}(hd:d.ok w) (h:smL1 [d]=true):FV w d.v d.q∧Fits 2 d.q:=by
 unfold smL1 smLs at h
 simp only[List.all_cons,List.all_nil,Bool.and_true,List.length_cons,List.length_nil,Bool.and_eq_true,decide_eq_true_eq] at h
 have h1:=h.1;unfold smF1 at h1
 simp only[Bool.and_eq_true,decide_eq_true_eq] at h1
 exact FrD.few.fv (K:=2) ⟨hd.1.nv (by omega),hd.2.nv (by omega),h1.1,by omega⟩ h1.2.2
def fewA (x:AgD) (n m:Int):Bool:=smL1 x.t.ds&&(smL1 [x.s]&&(decide ((x.ns.length:Int)≤n)&&decide ((x.ms.length:Int)≤m)))
structure FewP (w:World) (x:AgD) (n m:Int):Prop where
 t:FL w x.t.a x.t.c x.t.ds
 tf:QFits 2 (x.t.ds.map FrD.q)
 tl:x.t.ds.length≤12
 s:FV w x.s.v x.s.q
 sf:Fits 2 x.s.q
 nn:(x.ns.length:Int)≤n
 mm:(x.ms.length:Int)≤m
theorem fewP_of {w:World}{x:AgD}{n m:Int}(h:x.ok w) (hf:fewA x n m=true):FewP w x n m:=by
 unfold fewA at hf
 simp only[Bool.and_eq_true,decide_eq_true_eq] at hf
 obtain⟨h1,h2,h3⟩:=smL1_fl h.t hf.1;obtain⟨h4,h5⟩:=one_small h.s hf.2.1;exact⟨h1,h2,h3,h4,h5,hf.2.2.1,hf.2.2.2⟩
set_option maxRecDepth 100000 in
set_option maxHeartbeats 40000000 in
theorem few31_any {x:AgD}{n m:Int}{w:World}(h:x.ok w):Calls Try.prog 8 #[x.v,.int .i64 n,.int .i64 m] w (RetB (fewA x n m) w):=by
 obtain⟨r,hr⟩:∃ r,Hid (fewA x n m=r):=⟨_,rfl⟩;rw[hr.out];obtain⟨w0,hw0,b0,l0,B0⟩:=boxed w #[.slice x.t.a x.t.ds.length x.t.c,.slice x.na x.ns.length x.nc,.slice x.ma x.ms.length x.mc,.bool x.s.neg,.slice x.s.a x.s.la.length x.s.ca,.slice x.s.b x.s.lb.length x.s.cb] 30;have hx:=h.below b0;have lt1:=hx.t.1.1;have lt2:=hx.t.1.2.1;have ln:=hx.n.len;have lm:=hx.m.len;have a0:w0.cell? ⟨w.heap.size,0,none⟩=some (.slice x.t.a x.t.ds.length x.t.c):=Blk.cell B0 0;have a1:w0.cell? ⟨w.heap.size,1,none⟩=some (.slice x.na x.ns.length x.nc):=Blk.cell B0 1;have a2:w0.cell? ⟨w.heap.size,2,none⟩=some (.slice x.ma x.ms.length x.mc):=Blk.cell B0 2;have a3:w0.cell? ⟨w.heap.size,3,none⟩=some (.bool x.s.neg):=Blk.cell B0 3;have a4:w0.cell? ⟨w.heap.size,4,none⟩=some (.slice x.s.a x.s.la.length x.s.ca):=Blk.cell B0 4;have a5:w0.cell? ⟨w.heap.size,5,none⟩=some (.slice x.s.b x.s.lb.length x.s.cb):=Blk.cell B0 5;go_enter Try.func8,Try.ntmps8;go_wp2_with fail;refine (small31_any hx.t).mono ?_;rintro e y1 ⟨rfl,by1⟩;have bT:=b0.trans (by1.mono b0.size)
 rcases s0:smL1 x.t.ds with _ | _
 · have hf:=Lib.hid (show r=false by rw[←hr.out];unfold fewA;rw[s0];rfl);clear s0;go_wp2;go_ret;exact⟨by rw[hf.out];rfl,bT⟩
 have s0':=Lib.hid s0;clear s0 a0 a1 a2 a3 a4 a5;have B1:=Blk.keep B0 by1;have a0:y1.cell? ⟨w.heap.size,0,none⟩=some (.slice x.t.a x.t.ds.length x.t.c):=Blk.cell B1 0;have a1:y1.cell? ⟨w.heap.size,1,none⟩=some (.slice x.na x.ns.length x.nc):=Blk.cell B1 1;have a2:y1.cell? ⟨w.heap.size,2,none⟩=some (.slice x.ma x.ms.length x.mc):=Blk.cell B1 2;have a3:y1.cell? ⟨w.heap.size,3,none⟩=some (.bool x.s.neg):=Blk.cell B1 3;have a4:y1.cell? ⟨w.heap.size,4,none⟩=some (.slice x.s.a x.s.la.length x.s.ca):=Blk.cell B1 4;have a5:y1.cell? ⟨w.heap.size,5,none⟩=some (.slice x.s.b x.s.lb.length x.s.cb):=Blk.cell B1 5;obtain⟨y2,hy2,b2,l2,B2⟩:=boxed y1 #[.bool x.s.neg,.slice x.s.a x.s.la.length x.s.ca,.slice x.s.b x.s.lb.length x.s.cb] 28;have hone:=FOkM.one B2 ((hx.s.below by1).below b2);go_wp2_with fail;refine (small31_any (ds:=[x.s]) hone).mono ?_;rintro e y3 ⟨rfl,by3⟩;have bT2:=(bT.trans (b2.mono bT.size)).trans (by3.mono (Nat.le_trans bT.size b2.size))
 rcases s1:smL1 [x.s] with _ | _
 · have hf:=Lib.hid (show r=false by rw[←hr.out];unfold fewA;rw[s0'.out,s1];rfl);clear s1;go_wp2;go_ret;exact⟨by rw[hf.out];rfl,bT2⟩
 have s1':=Lib.hid s1;clear s1 a0 a1 a2 a3 a4 a5 hy2;have B3:=Blk.keep (Blk.keep B1 b2) by3;have a0:y3.cell? ⟨w.heap.size,0,none⟩=some (.slice x.t.a x.t.ds.length x.t.c):=Blk.cell B3 0;have a1:y3.cell? ⟨w.heap.size,1,none⟩=some (.slice x.na x.ns.length x.nc):=Blk.cell B3 1;have a2:y3.cell? ⟨w.heap.size,2,none⟩=some (.slice x.ma x.ms.length x.mc):=Blk.cell B3 2;have a3:y3.cell? ⟨w.heap.size,3,none⟩=some (.bool x.s.neg):=Blk.cell B3 3;have a4:y3.cell? ⟨w.heap.size,4,none⟩=some (.slice x.s.a x.s.la.length x.s.ca):=Blk.cell B3 4;have a5:y3.cell? ⟨w.heap.size,5,none⟩=some (.slice x.s.b x.s.lb.length x.s.cb):=Blk.cell B3 5;obtain⟨u1,hu1⟩:∃ u,decide ((x.ns.length:Int)≤n)=u:=⟨_,rfl⟩;obtain⟨u2,hu2⟩:∃ u,decide ((x.ms.length:Int)≤m)=u:=⟨_,rfl⟩;have hf:=Lib.hid (show r=(u1&&u2) by rw[←hr.out];unfold fewA;rw[s0'.out,s1'.out,hu1,hu2];rfl)
 rcases u1 with _ | _ <;> rcases u2 with _ | _
 all_goals
  go_wp2;go_ret;exact⟨by rw[hf.out];rfl,bT2⟩
end Go.Proofs.Ytjhkapjadfpimaa
namespace Go.Proofs.Ytjhkapjadfpimaa
set_option linter.unusedVariables false
set_option linter.unusedSimpArgs false
open Go.RowKit Plain
theorem FL.flat {w:World}{a:Addr}{c:Nat}{ds:List FrD}(h:FL w (some a) c ds) (j:Nat) (u:Value) (hu:(ds.flatMap FrD.cells)[j]?=some u):w.cell? (a.add j)=some u:=by
 have hj:j<ds.length*3:=by
  have:=(List.getElem?_eq_some_iff.1 hu).1;rw[flat_len] at this;exact this
 obtain⟨a',e,h1,h2⟩:=h.row.2.2 (j / 3) (by omega)
 injection e with e
 subst e;have h3:=flat3 ds (j / 3) (j % 3) (by omega) (by omega);rw[show j / 3*3+j % 3=j by omega,hu] at h3;have h4:=h2 (j % 3) u h3.symm
 rwa [show j / 3*3+j % 3=j by omega] at h4
set_option maxRecDepth 100000 in
/-- A slice of a foreign row that is full is appended to: a new row. -/
theorem run_appFull {A:Option Addr}{c:Nat}{ds:List FrD}(w:World) (h:FL w A c ds) (ad:Addr) (cc:Nat) (d:FrD) (hnews:∀ j u,d.cells[j]?=some u→w.cell? (ad.add j)=some u) (h63:ds.length+1≤1000000000000) :
 ∃ v' w',(Builtin.append_ #[22,22] 22 #[.slice A ds.length ds.length,.slice (some ad) 1 cc]).run Try.prog w=.ok v' w'∧OwnQ w' w.heap.size v' (ds++[d])∧w.grownBy w' none:=by
 cases A with
 | none =>
  have h0:ds.length=0:=by
   rcases Nat.eq_zero_or_pos ds.length with h0 | h0
   · exact h0
   · obtain⟨a,e,_⟩:=h.row.2.2 0 h0
     cases e
  have:ds=[]:=List.eq_nil_of_length_eq_zero h0;subst this;exact run_appQ w w.heap.size (.slice none 0 0) [] (OwnQ.nil _ _) ad cc d hnews (by simp) (Nat.le_refl _)
 | some a =>
  obtain⟨i,hi,hz0,hz1,hz2⟩:=info_parts infoFrac;have hm:maxLen=9223372036854775807:=rfl;have hl:d.cells.length=1*3:=rfl;have hr:=run_append_grow (P:=Try.prog) w 22 22 28 i (.agg #[.bool false,.slice none 0 0,.slice none 0 0]) Try.underlying22 hi hz0 a ds.length ds.length (ds.flatMap FrD.cells) (by rw[hz1];exact flat_len ds) h.flat ad 1 cc d.cells (by rw[hz1];rfl) hnews (by omega) (by omega) (growslice_fits (by omega) (by rw[hz2];omega));have hzc:(Value.agg #[.bool false,.slice none 0 0,.slice none 0 0]).cells=#[.bool false,.slice none 0 0,.slice none 0 0]:=rfl;have hge:=grownCap_ge w (ds.length+1) ds.length 28;have hcm:=grownCap_le_maxLen w (ds.length+1) ds.length 28 (by omega);refine⟨_,_,hr,⟨⟨by rw[flat_len],.inr ⟨w.heap.size,_,_,by rw[List.length_append];rfl,Nat.le_refl _,heap_alloc_new w.drew _,by simpa using hge,hcm,?_,?_⟩⟩,fun g hg=>?_⟩,⟨rfl,rfl,rfl,by simp,fun k hk _=>heap_alloc_old w.drew _ hk⟩⟩
  · simp only[Array.size_append,List.size_toArray,size_zeroCells,flat_len,hl]
    rw[hzc];have h3:(#[Value.bool false,.slice none 0 0,.slice none 0 0]:Array Value).size=3:=rfl;rw[h3];omega
  · have e:(ds++[d]).length*3=(ds.flatMap FrD.cells++d.cells).length:=by simp only[List.length_append,flat_len,hl,List.length_singleton];omega
    simp only[Array.toList_append]
    rw[e,List.take_left,List.flatMap_append]
    simp
  · simp[Value.ownBlock] at hg
    subst hg;refine⟨_,heap_alloc_new w.drew _,NoDigL.noDig (((noDig_flat ds).append (noDig_cells d)).append (noDig_zero (grownCap w (ds.length+1) ds.length 28-(ds.length+1)))) ?_⟩;rw[hzc];simp
theorem step_appFull {w:World}{ops:Array Oper}{o:Oper}{a:Act}{K:Act→World→Prop}{Q:Exit→Act→World→Prop}{E:Prop}(hgd:o.guard=none) (s x:Operand)
 (ho:o.op=.call { callee:=.builtin .append,args:=#[s,x],argTypes:=#[22,22] }) (hty:o.type=22)
 {A:Option Addr} {c:Nat} {ds:List FrD} (hf:FL w A c ds) (hs:a.eval s=.slice A ds.length ds.length) (ad:Addr) (cc:Nat) (d:FrD) (hx:a.eval x=.slice (some ad) 1 cc) (hnews:∀ j u,d.cells[j]?=some u→w.cell? (ad.add j)=some u)
 (h63:ds.length+1≤1000000000000)
 (h:∀ v' w',OwnQ w' w.heap.size v' (ds++[d])→w.grownBy w' none→K (a.put o.dst v') w') :
 if Region.wanted o (yielded ops a.tmps)=true then Oper.wp Try.prog o a w K Q else E:=by
 have hw:Region.wanted o (yielded ops a.tmps)=true:=by simp[Region.wanted,hgd]
 rw[if_pos hw];obtain⟨v',w',hr,h2,h3⟩:=run_appFull w hf ad cc d hnews h63
 unfold Oper.wp execOp
 simp only[ho,hty,resolve,invoke,builtin,Sem.run_bind,Sem.run_pure,Result.andThen_ok,List.map_toArray,List.map_cons,List.map_nil,hs,hx,hr]
 exact h v' w' h2 h3
theorem step_appM {w:World}{ops:Array Oper}{o:Oper}{a:Act}{K:Act→World→Prop}{Q:Exit→Act→World→Prop}{E:Prop}(hgd:o.guard=none){T:TypeId}(hT:Try.prog.underlying T=some (.slice 22)) (s x:Operand)
 (ho:o.op=.call { callee:=.builtin .append,args:=#[s,x],argTypes:=#[T,T] }) (hty:o.type=T)
 (base:Nat) (v:Value) (rows:List RwD) (hs:a.eval s=v) (hown:OwnM w base v rows) (ad:Addr) (c:Nat) (r:RwD) (hx:a.eval x=.slice (some ad) 1 c) (hnews:w.cell? ad=some r.v)
 (h63:rows.length+1≤1000000000000) (hbase:base≤w.heap.size)
 (h:∀ v' w',OwnM w' base v' (rows++[r])→w.grownBy w' v.ownBlock→K (a.put o.dst v') w') :
 if Region.wanted o (yielded ops a.tmps)=true then Oper.wp Try.prog o a w K Q else E:=by
 have hw:Region.wanted o (yielded ops a.tmps)=true:=by simp[Region.wanted,hgd]
 rw[if_pos hw];obtain⟨v',w',hr,h2,h3⟩:=run_appM hT w base v rows hown ad c r hnews h63 hbase
 unfold Oper.wp execOp
 simp only[ho,hty,resolve,invoke,builtin,Sem.run_bind,Sem.run_pure,Result.andThen_ok,List.map_toArray,List.map_cons,List.map_nil,hs,hx,hr]
 exact h v' w' h2 h3
end Go.Proofs.Ytjhkapjadfpimaa
namespace Go.Proofs.Ytjhkapjadfpimaa
set_option linter.unusedVariables false
set_option linter.unusedSimpArgs false
open Go.RowKit Plain
attribute [local go_sem ↓] Go.wp_at_zero Go.wp_at_succ
def PutInv (is:List Nat) (f:Nat→Rat) (s:List Rat) (g:Nat) (root:World) (i:Value) (wr:World):Prop:=∃ k:Nat,k≤is.length∧i=.int .i64 (k:Int)∧ColAt g (putAll (is.zipIdx.take k) f s) root wr
def solveS (M:Mat) (b:List Rat):List Rat × Int :=
 if formedL M=true∧b.length=M.length then match solveL M b with
  | some x=>(x,0)
  | none=>([],6)
 else ([],2)
theorem solveS_form {M:Mat}{b:List Rat}(h:¬ (formedL M=true∧b.length=M.length)):solveS M b=([],2):=by unfold solveS;rw[if_neg h]
theorem solveS_none {M:Mat}{b:List Rat}{n:Nat}(h:formedL M=true) (hb:b.length=M.length) (hn:colsL M=n) (hz:restZero (reduceL (withL M b) n).1 (reduceL (withL M b) n).2.length n=false):solveS M b=([],6):=by
 unfold solveS solveL;rw[if_pos ⟨h,hb⟩,hn]
 simp only
 rw[if_neg (by rw[hz];decide)]
theorem solveS_some {M:Mat}{b:List Rat}{n:Nat}(h:formedL M=true) (hb:b.length=M.length) (hn:colsL M=n) (hz:restZero (reduceL (withL M b) n).1 (reduceL (withL M b) n).2.length n=true) :
 solveS M b=(putAll (reduceL (withL M b) n).2.zipIdx (fun i=>fn (reduceL (withL M b) n).1 i n) (List.replicate n 0),0):=by
 unfold solveS solveL;rw[if_pos ⟨h,hb⟩,hn]
 simp only
 rw[if_pos hz];have hr:rect (withL M b) (n+1):=withL_rect (by rw[←hn];exact formedL_rect h)
 simp only
 rw[putAll_out (reduceL_ok hr n (by omega)).red _ (Nat.le_refl n)]
def RestInv (R:Mat) (k n:Nat) (root:World) (i:Value) (wr:World):Prop:=∃ j:Nat,k+j≤R.length∧i=.int .i64 (j:Int)∧Hid (∀ i,k≤i→i<k+j→fn R i n=0)∧Below root.heap.size root wr
theorem restZero_no {R:Mat}{k n i:Nat}(h1:k≤i) (h2:i<R.length) (h3:fn R i n≠0):restZero R k n=false:=by
 unfold restZero;rw[List.all_eq_false];refine⟨R.getD i [],?_,by simpa [fn] using h3⟩;rw[List.mem_iff_getElem?];exact⟨i-k,by rw[List.getElem?_drop,show k+(i-k)=i by omega,List.getD_eq_getElem?_getD,List.getElem?_eq_getElem h2];rfl⟩
theorem restZero_yes {R:Mat}{k n:Nat}(h:∀ i,k≤i→i<R.length→fn R i n=0):restZero R k n=true:=by
 unfold restZero;rw[List.all_eq_true];intro r hr;obtain⟨j,hj⟩:=List.mem_iff_getElem?.1 hr;rw[List.getElem?_drop] at hj;have hl:=(List.getElem?_eq_some_iff.1 hj).1;have:=h (k+j) (by omega) hl;unfold fn at this;rw[List.getD_eq_getElem?_getD (l:=R),hj] at this
 simpa using this
theorem withL_fits {K:Nat}{M:Mat}{b:List Rat}(h:MFits K M) (hb:QFits K b):MFits K (withL M b):=fun r hr=>by
 unfold withL at hr;obtain⟨i,hi⟩:=List.mem_iff_getElem?.1 hr;rw[List.getElem?_zipWith] at hi
 cases hM:M[i]? with
 | none=>rw[hM] at hi;simp at hi
 | some x =>
  cases hB:b[i]? with
  | none=>rw[hM,hB] at hi;simp at hi
  | some y =>
   rw[hM,hB] at hi
   simp at hi
   subst hi;intro q hq
   rcases List.mem_append.1 hq with hq | hq
   · exact h x (List.mem_of_getElem? hM) q hq
   · simp at hq;subst hq;exact hb _ (List.mem_of_getElem? hB)
end Go.Proofs.Ytjhkapjadfpimaa
namespace Go.Proofs.Ytjhkapjadfpimaa
set_option linter.unusedVariables false
set_option linter.unusedSimpArgs false
open Go.RowKit Plain
structure Con where
 normal:List Rat
 least:Rat
structure St where
 x:List Rat
 level:Rat
 active:List Nat
 mults:List Rat
def dotR (a b:List Rat):Rat:=sumR (List.zipWith (·*·) a b)
def nrm (all:List Con) (k:Nat):List Rat:=match all[k]? with | some c=>c.normal | none=>[]
def lst (all:List Con) (k:Nat):Rat:=match all[k]? with | some c=>c.least | none=>0
theorem nrm_of {all:List Con}{k:Nat}{c:Con}(h:all[k]?=some c):nrm all k=c.normal:=by unfold nrm;rw[h]
theorem lst_of {all:List Con}{k:Nat}{c:Con}(h:all[k]?=some c):lst all k=c.least:=by unfold lst;rw[h]
def worstK (all:List Con) (x:List Rat):Nat→Option Nat × Rat
 | 0=>(none,0)
 | k+1=>if 0<lst all k-dotR (nrm all k) x∧((worstK all x k).1=none∨(worstK all x k).2<lst all k-dotR (nrm all k) x) then (some k,lst all k-dotR (nrm all k) x) else worstK all x k
def oi:Option Nat→Int
 | none=>-1
 | some k=>k
def normalsS (n:Nat) (all:List Con) (active:List Nat):List (List Rat):=List.replicate n 1::active.map (nrm all)
def gramS (ns:List (List Rat)):Mat:=ns.map fun a=>ns.map (dotR a)
def rightS (ns:List (List Rat)) (v:List Rat):List Rat:=ns.map fun a=>dotR a v
def lessZ (z:List Rat) (c:Rat) (a:List Rat):List Rat:=List.zipWith (fun zi ai=>zi-c*ai) z a
def zAt (ns:List (List Rat)) (r v:List Rat):Nat→List Rat
 | 0=>v
 | j+1=>lessZ (zAt ns r v j) (r.getD j 0) (ns.getD j [])
def dirS (n:Nat) (all:List Con) (active:List Nat) (k:Nat):Option (List Rat × Rat × List Rat) :=
 match solveL (gramS (normalsS n all active)) (rightS (normalsS n all active) (nrm all k)) with
 | some r=>some (zAt (normalsS n all active) r (nrm all k) (normalsS n all active).length,r.getD 0 0,r.drop 1)
 | none=>none
def limK (mults rates:List Rat):Nat→Option Nat × Rat
 | 0=>(none,0)
 | j+1=>if 0<rates.getD j 0∧((limK mults rates j).1=none∨mults.getD j 0 / rates.getD j 0<(limK mults rates j).2) then (some j,mults.getD j 0 / rates.getD j 0) else limK mults rates j
def moveS (s:St) (z:List Rat) (lev:Rat) (rates:List Rat) (t:Rat):St :=
 ⟨List.zipWith (fun a b=>a+t*b) s.x z,s.level-t*lev,s.active,List.zipWith (fun a b=>a-t*b) s.mults rates⟩
def dropS (s:St) (j:Nat):St:=⟨s.x,s.level,s.active.take j++s.active.drop (j+1),s.mults.take j++s.mults.drop (j+1)⟩
def fullT (all:List Con) (k:Nat) (x z:List Rat):Rat:=(lst all k-dotR (nrm all k) x) / dotR z (nrm all k)
def stepS (n:Nat) (all:List Con) (k:Nat) (s:St) (m:Rat):Option (Option (Bool × St × Rat)) :=
 match dirS n all s.active k with
 | none=>none
 | some (z,lev,rates) =>
  if 0<dotR z (nrm all k)∧((limK s.mults rates rates.length).1=none∨fullT all k s.x z≤(limK s.mults rates rates.length).2) then
   some (some (true,moveS s z lev rates (fullT all k s.x z),m+fullT all k s.x z))
  else match (limK s.mults rates rates.length).1 with
   | none=>some none
   | some j=>some (some (false,dropS (moveS s z lev rates (limK s.mults rates rates.length).2) j,m+(limK s.mults rates rates.length).2))
def fitsB (K:Nat) (q:Rat):Bool:=decide (q.num.natAbs<pw K)&&decide (q.den<pw K)
theorem fitsB_iff {K:Nat}{q:Rat}:fitsB K q=true ↔ Fits K q:=by unfold fitsB Fits;simp
def okS (K n:Nat) (all:List Con) (s:St):Bool :=
 s.x.all (fitsB K)&&(fitsB K s.level&&(s.mults.all (fitsB K)&&(decide (s.x.length=n)&&(decide (s.mults.length=s.active.length)&&(decide (s.active.length≤7)&&s.active.all fun k=>decide (k<all.length))))))
structure OkS (K n:Nat) (all:List Con) (s:St):Prop where
 x:QFits K s.x
 lev:Fits K s.level
 mults:QFits K s.mults
 lx:s.x.length=n
 lm:s.mults.length=s.active.length
 la:s.active.length≤7
 act:∀ k∈s.active,k<all.length
theorem okS_iff {K n:Nat}{all:List Con}{s:St}:okS K n all s=true ↔ OkS K n all s:=by
 unfold okS
 simp only[Bool.and_eq_true,List.all_eq_true,decide_eq_true_eq,fitsB_iff]
 exact⟨fun ⟨a,b,c,d,e,f,g⟩=>⟨a,b,c,d,e,f,g⟩,fun h=>⟨h.x,h.lev,h.mults,h.lx,h.lm,h.la,h.act⟩⟩
def satR (K n:Nat) (all:List Con) (k:Nat):Nat→St→Rat→Option (Option St)
 | 0,_,_=>none
 | f+1,s,m=>if okS K n all s=true∧fitsB K m=true then
  match stepS n all k s m with
  | none=>none
  | some none=>some none
  | some (some (true,t,m'))=>some (some ⟨t.x,t.level,t.active++[k],t.mults++[m']⟩)
  | some (some (false,t,m'))=>satR K n all k f t m'
  else none
def runS (K n:Nat) (all:List Con):Nat→St→Option (Option St)
 | 0,_=>none
 | f+1,s=>if okS K n all s=true then
  match (worstK all s.x all.length).1 with
  | none=>some (some s)
  | some k=>match satR K n all k f s 0 with
   | none=>none
   | some none=>some none
   | some (some t)=>runS K n all f t
  else none
def startS (target:List Rat) (sum:Rat) (n:Nat):St:=⟨target.map fun q=>q+(sum-sumR target) / (n:Rat),(sum-sumR target) / (n:Rat),[],[]⟩
def projS (K:Nat) (all:List Con) (target:List Rat) (sum:Rat) (n f:Nat):Option (Option St) :=
 if n=0 then if sum-sumR target=0∧(worstK all target all.length).1=none then some (some ⟨target,0,[],[]⟩) else some none
 else runS K n all f (startS target sum n)
def addAt (l:List Rat) (p:Nat × Rat):List Rat:=l.set p.1 (l.getD p.1 0+p.2)
def spread (n:Nat) (ps:List (Nat × Rat)):List Rat:=ps.foldl addAt (List.replicate n 0)
theorem addAt_len (l:List Rat) (p:Nat × Rat):(addAt l p).length=l.length:=by simp[addAt]
theorem spread_len (n:Nat) (ps:List (Nat × Rat)):(spread n ps).length=n:=by
 have key:∀ (ps:List (Nat × Rat)) (l:List Rat),(ps.foldl addAt l).length=l.length:=fun ps=>by
  induction ps with
  | nil=>exact fun l=>rfl
  | cons p ps ih=>intro l;rw[List.foldl_cons,ih,addAt_len]
 unfold spread;rw[key,List.length_replicate]
theorem spread_step {n j:Nat}{ps:List (Nat × Rat)}{p:Nat × Rat}(h:ps[j]?=some p):spread n (ps.take (j+1))=addAt (spread n (ps.take j)) p:=by
 unfold spread;rw[List.take_add_one,h,List.foldl_append];rfl
def unitL (n p:Nat) (v:Rat):List Rat:=(List.range n).map fun i=>if bitP p i=true then v else 0
def allS (ns:List NdD) (ms:List Int):List Con :=
 (ns.map fun d=>⟨unitL ms.length d.p.toNat 1,(d.l:Rat)⟩)++((List.range ms.length).map fun i=>⟨unitL ms.length (2 ^ i) 1,0⟩)++(List.range ms.length).map fun i=>⟨unitL ms.length (2 ^ i) (-1),((-(ms.getD i 0):Int):Rat)⟩
theorem least_ex {P:Nat→Prop}(h:∃ n,P n):∃ n,P n∧∀ m,P m→n≤m:=by
 obtain⟨n,hn⟩:=h
 induction n using Nat.strongRecOn with
 | _ n ih =>
  by_cases e:∃ m,m<n∧P m
  · obtain⟨m,h1,h2⟩:=e;exact ih m h1 h2
  · exact⟨n,hn,fun m hm=>Nat.le_of_not_lt fun hl=>e ⟨m,hl,hm⟩⟩
open Classical in
noncomputable def leastN (P:Nat→Prop):Nat:=if h:∃ n,P n then Classical.choose (least_ex h) else 0
theorem leastN_is {P:Nat→Prop}(h:∃ n,P n):P (leastN P):=by
 unfold leastN;rw[dif_pos h];exact (Classical.choose_spec (least_ex h)).1
theorem leastN_le {P:Nat→Prop}{n:Nat}(h:P n):leastN P≤n:=by
 unfold leastN;rw[dif_pos ⟨n,h⟩];exact (Classical.choose_spec (least_ex ⟨n,h⟩)).2 n h
end Go.Proofs.Ytjhkapjadfpimaa
