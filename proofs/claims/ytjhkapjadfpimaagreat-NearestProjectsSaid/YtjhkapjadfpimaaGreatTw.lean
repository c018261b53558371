/- Contracts of functions, for the law. -/
import Derived.Test.YtjhkapjadfpimaaGreatNPt
namespace Go.Proofs.YtjhkapjadfpimaaGreat
set_option linter.unusedVariables false
set_option linter.unusedSimpArgs false
open Go.RowKit Plain Go.WideShapes
set_option maxRecDepth 100000
set_option maxHeartbeats 40000000
structure AgD where
 t:RwD
 na:Option Addr
 nc:Nat
 ns:List NdD
 ma:Option Addr
 mc:Nat
 ms:List Int
 s:FrD
def AgD.cells (x:AgD):List Value:=[.slice x.t.a x.t.ds.length x.t.c,.slice x.na x.ns.length x.nc,.slice x.ma x.ms.length x.mc,.bool x.s.neg,.slice x.s.a x.s.la.length x.s.ca,.slice x.s.b x.s.lb.length x.s.cb]
abbrev AgD.v (x:AgD):Value:=.agg #[.slice x.t.a x.t.ds.length x.t.c,.slice x.na x.ns.length x.nc,.slice x.ma x.ms.length x.mc,.bool x.s.neg,.slice x.s.a x.s.la.length x.s.ca,.slice x.s.b x.s.lb.length x.s.cb]
structure AgD.ok (w:World) (x:AgD):Prop where
 t:FOkM w x.t.a x.t.c x.t.ds
 n:NL w x.na x.nc x.ns
 m:ZL w x.ma x.mc x.ms
 s:x.s.ok w
theorem AgD.ok.below {w w':World}{x:AgD}(h:x.ok w) (hb:Below w.heap.size w w'):x.ok w':=⟨h.t.below hb,h.n.below hb,h.m.below hb,h.s.below hb⟩
section
variable {H:Type}{enc:TypeId × Value→H}{w:World}{fuel:Nat}{cs:List Value}{x:DataW H × List MemPlace}
theorem oQ:Tryz.prog.cellsOf 45=2:=by kernel_rfl
theorem a0z:Tryz.prog.cellsOf 3=1:=by kernel_rfl
theorem oR:Tryz.prog.cellsOf 2=1:=by kernel_rfl
theorem tH:Tryz.prog.cellsOf 22=1:=by kernel_rfl
theorem vV:Tryz.prog.cellsOf 23=1:=by kernel_rfl
theorem a1a:Tryz.prog.cellsOf 24=1:=by kernel_rfl
theorem a1c:Tryz.prog.cellsOf 30=6:=by kernel_rfl
theorem list6 {α:Type}{l:List α}(h:l.length=6):∃ a b c d e f,l=[a,b,c,d,e,f]:=by
 match l,h with
 | [a,b,c,d,e,f],_=>exact⟨a,b,c,d,e,f,rfl⟩
theorem list2O {α:Type}{l:List α}(h:l.length=2):∃ a b,l=[a,b]:=by
 match l,h with
 | [a,b],_=>exact⟨a,b,rfl⟩
theorem trod_two {t:TypeId}{f0 f1:Field}(ht:Tryz.prog.underlying t=some (.struct #[f0,f1])) (h:DataW.trod enc Tryz.prog w 0 (fun _=>true) true fuel t cs=some x) :
 ∃ y0 y1 n,cs.length=Tryz.prog.cellsOf t∧DataW.trod enc Tryz.prog w 0 (fun _=>true) true n f0.type ((cs.drop f0.offset).take (Tryz.prog.cellsOf f0.type))=some y0 ∧
  DataW.trod enc Tryz.prog w 0 (fun _=>true) true n f1.type ((cs.drop f1.offset).take (Tryz.prog.cellsOf f1.type))=some y1:=by
 obtain⟨xs,n,_,_,hl,b,hf⟩:=DataW.trod_struct ht h
 match xs,b with
 | [y0,y1],_=>exact⟨y0,y1,n,hl,by simpa using hf 0 f0 rfl,by simpa using hf 1 f1 rfl⟩
theorem yQ {t:TypeId}{f0 f1 f2 f3:Field}(ht:Tryz.prog.underlying t=some (.struct #[f0,f1,f2,f3])) (h:DataW.trod enc Tryz.prog w 0 (fun _=>true) true fuel t cs=some x) :
 ∃ y0 y1 y2 y3 n,cs.length=Tryz.prog.cellsOf t∧DataW.trod enc Tryz.prog w 0 (fun _=>true) true n f0.type ((cs.drop f0.offset).take (Tryz.prog.cellsOf f0.type))=some y0 ∧
  DataW.trod enc Tryz.prog w 0 (fun _=>true) true n f1.type ((cs.drop f1.offset).take (Tryz.prog.cellsOf f1.type))=some y1∧DataW.trod enc Tryz.prog w 0 (fun _=>true) true n f2.type ((cs.drop f2.offset).take (Tryz.prog.cellsOf f2.type))=some y2 ∧
  DataW.trod enc Tryz.prog w 0 (fun _=>true) true n f3.type ((cs.drop f3.offset).take (Tryz.prog.cellsOf f3.type))=some y3:=by
 obtain⟨xs,n,_,_,hl,b,hf⟩:=DataW.trod_struct ht h
 match xs,b with
 | [y0,y1,y2,y3],_=>exact⟨y0,y1,y2,y3,n,hl,by simpa using hf 0 f0 rfl,by simpa using hf 1 f1 rfl,by simpa using hf 2 f2 rfl,by simpa using hf 3 f3 rfl⟩
theorem yO (h:DataW.trod enc Tryz.prog w 0 (fun _=>true) true fuel 45 cs=some x):∃ d:NdD,cs=d.cells∧True:=by
 obtain⟨y0,y1,n,hl,h0,h1⟩:=trod_two Tryz.underlying45 h;rw[oQ] at hl;obtain⟨c0,c1,rfl⟩:=list2O hl
 simp only[a0z,oR] at h0 h1
 obtain⟨a,ha,_,wa⟩:=DataW.trod_int Tryz.underlying3 h0;obtain⟨b,hb,_,wb⟩:=DataW.trod_int Tryz.underlying2 h1
 simp at ha hb
 subst ha hb;exact⟨⟨_,_⟩,rfl,trivial⟩
theorem rG (h:DataW.trod enc Tryz.prog w 0 (fun _=>true) true fuel 22 cs=some x):∃ A c ds,cs=[.slice A ds.length c]∧FOkM w A c ds:=by
 obtain⟨A,c,ds,hc,h1,h2⟩:=gR (cells:=FrD.cells) (P:=FrD.ok w) Tryz.underlying22 iS (fun _=>by simp[FrD.cells]) (fun _ _ _ h=>nC h) h;exact⟨A,c,ds,hc,h1,h2⟩
theorem tS (h:DataW.trod enc Tryz.prog w 0 (fun _=>true) true fuel 23 cs=some x):∃ A c ds,cs=[.slice A ds.length c]∧NL w A c ds:=by
 obtain⟨A,c,ds,hc,h1,h2⟩:=gR (cells:=NdD.cells) (P:=fun _=>True) Tryz.underlying23 oQ (fun _=>by simp[NdD.cells]) (fun _ _ _ h=>yO h) h;exact⟨A,c,ds,hc,h1⟩
theorem yP (h:DataW.trod enc Tryz.prog w 0 (fun _=>true) true fuel 24 cs=some x):∃ A c zs,cs=[.slice A zs.length c]∧ZL w A c zs:=by
 obtain⟨A,c,ds,hc,h1,h2⟩:=gR (cells:=fun z:Int=>[Value.int .i64 z]) (P:=fun _=>True) Tryz.underlying24 oR (fun _=>by simp) (fun _ _ _ h=>by
  obtain⟨a,ha,_,wa⟩:=DataW.trod_int Tryz.underlying2 h;exact⟨a,ha,trivial⟩) h
 exact⟨A,c,ds,hc,h1⟩
theorem yR (h:DataW.trod enc Tryz.prog w 0 (fun _=>true) true fuel 30 cs=some x):∃ d:AgD,cs=d.cells∧d.ok w:=by
 obtain⟨y0,y1,y2,y3,n,hl,h0,h1,h2,h3⟩:=yQ Tryz.underlying30 h;rw[a1c] at hl;obtain⟨c0,c1,c2,c3,c4,c5,rfl⟩:=list6 hl
 simp only[tH,vV,a1a,iS] at h0 h1 h2 h3
 obtain⟨A,ca,ds,hA,oA⟩:=rG h0;obtain⟨B,cb,ns,hB,oB⟩:=tS h1;obtain⟨C,cc,ms,hC,oC⟩:=yP h2;obtain⟨d,hd,od⟩:=nC h3
 simp[FrD.cells] at hA hB hC hd
 obtain⟨rfl,rfl,rfl⟩:=hd;subst hA hB hC;exact⟨⟨⟨A,ca,ds⟩,B,cb,ns,C,cc,ms,d⟩,rfl,oA,oB,oC,od⟩
theorem open_args {b0:Nat}{v:Value}{d:DataW H}{p:List MemPlace}(hv:Value.okWide Tryz.prog w .any b0 30 v) (h:DataW.Trod enc Tryz.prog w 0 (fun _=>true) true 30 v d p):∃ x:AgD,v=x.v∧x.ok w:=by
 obtain⟨vs,rfl,c⟩:=okWide_struct Tryz.underlying30 hv;obtain⟨b,hf⟩:=h;obtain⟨f,hc,ho⟩:=yR hf;refine⟨f,?_,ho⟩
 have e:vs=f.cells.toArray:=by
  apply Array.ext'
  simpa [Value.cells] using hc
 rw[e];rfl
end
attribute [local go_sem ↓] Go.wp_at_zero Go.wp_at_succ
theorem FOkM.one {w:World}{g:Nat}{t:TypeId}{d:FrD}(h:Blk w g t #[.bool d.neg,.slice d.a d.la.length d.ca,.slice d.b d.lb.length d.cb]) (hd:d.ok w):FOkM w (some ⟨g,0,none⟩) 1 [d] :=
 ⟨⟨by simp,by decide,fun j hj=>⟨_,rfl,Blk.lt h,fun i u hu=>by
  have hj2:j<1:=hj;obtain rfl:j=0:=by omega
  rcases i with _ | _ | _ | i
  · injection hu with hu;subst hu;exact a4e h 0
  · injection hu with hu;subst hu;exact a4e h 1
  · injection hu with hu;subst hu;exact a4e h 2
  · simp[FrD.cells] at hu⟩⟩,fun f hf=>by simp at hf;subst hf;exact hd⟩
theorem zV {w:World}{d:FrD}(hd:d.ok w) (h:fI [d]=true):FV w d.v d.q∧Fits 2 d.q:=by
 unfold fI rN at h
 simp only[List.all_cons,List.all_nil,Bool.and_true,a3r,List.length_nil,a3m,decide_eq_true_eq] at h
 have h1:=h.1;unfold rO at h1
 simp only[a3m,decide_eq_true_eq] at h1
 exact FrD.few.fv (K:=2) ⟨hd.1.nv (by omega),hd.2.nv (by omega),h1.1,by omega⟩ h1.2.2
def tA (x:AgD) (n m:Int):Bool:=fI x.t.ds&&(fI [x.s]&&(decide ((x.ns.length:Int)≤n)&&decide ((x.ms.length:Int)≤m)))
structure FewP (w:World) (x:AgD) (n m:Int):Prop where
 t:FL w x.t.a x.t.c x.t.ds
 tf:QFits 2 (x.t.ds.map FrD.q)
 tl:x.t.ds.length≤12
 s:FV w x.s.v x.s.q
 sf:Fits 2 x.s.q
 nn:(x.ns.length:Int)≤n
 mm:(x.ms.length:Int)≤m
theorem fewP_of {w:World}{x:AgD}{n m:Int}(h:x.ok w) (hf:tA x n m=true):FewP w x n m:=by
 unfold tA at hf
 simp only[a3m,decide_eq_true_eq] at hf
 obtain⟨h1,h2,h3⟩:=smL1_fl h.t hf.1;obtain⟨h4,h5⟩:=zV h.s hf.2.1;exact⟨h1,h2,h3,h4,h5,hf.2.2.1,hf.2.2.2⟩
theorem a0m {x:AgD}{n m:Int}{w:World}(h:x.ok w):Calls Tryz.prog 4 #[x.v,.int .i64 n,.int .i64 m] w (gJ (tA x n m) w):=by
 obtain⟨r,hr⟩:∃ r,Hid (tA x n m=r):=⟨_,rfl⟩;rw[hr.out];obtain⟨w0,A,b0,l0,B0⟩:=f8 w #[.slice x.t.a x.t.ds.length x.t.c,.slice x.na x.ns.length x.nc,.slice x.ma x.ms.length x.mc,.bool x.s.neg,.slice x.s.a x.s.la.length x.s.ca,.slice x.s.b x.s.lb.length x.s.cb] 30;have hx:=h.below b0;have z:=hx.t.1.1;have y:=hx.t.1.2.1;have ln:=hx.n.len;have lm:=hx.m.len;have a0:w0.cell? ⟨w.heap.size,0,none⟩=some (.slice x.t.a x.t.ds.length x.t.c):=a4e B0 0;have a1:w0.cell? ⟨w.heap.size,1,none⟩=some (.slice x.na x.ns.length x.nc):=a4e B0 1;have a2:w0.cell? ⟨w.heap.size,2,none⟩=some (.slice x.ma x.ms.length x.mc):=a4e B0 2;have a3:w0.cell? ⟨w.heap.size,3,none⟩=some (.bool x.s.neg):=a4e B0 3;have a4:w0.cell? ⟨w.heap.size,4,none⟩=some (.slice x.s.a x.s.la.length x.s.ca):=a4e B0 4;have a5:w0.cell? ⟨w.heap.size,5,none⟩=some (.slice x.s.b x.s.lb.length x.s.cb):=a4e B0 5;go_enter Tryz.func4,Tryz.ntmps4;go_wp2_with fail;refine (iX hx.t).mono ?_;rintro e y1 ⟨rfl,d⟩;have bT:=a1j b0 d
 rcases s0:fI x.t.ds with _ | _
 · have hf:=a1k (show r=false by rw[←hr.out];unfold tA;rw[s0];rfl);clear s0;go_wp2;go_ret;exact⟨by rw[hf.out];rfl,bT⟩
 have f:=a1k s0;clear s0 a0 a1 a2 a3 a4 a5;have B1:=a4f B0 d;have a0:y1.cell? ⟨w.heap.size,0,none⟩=some (.slice x.t.a x.t.ds.length x.t.c):=a4e B1 0;have a1:y1.cell? ⟨w.heap.size,1,none⟩=some (.slice x.na x.ns.length x.nc):=a4e B1 1;have a2:y1.cell? ⟨w.heap.size,2,none⟩=some (.slice x.ma x.ms.length x.mc):=a4e B1 2;have a3:y1.cell? ⟨w.heap.size,3,none⟩=some (.bool x.s.neg):=a4e B1 3;have a4:y1.cell? ⟨w.heap.size,4,none⟩=some (.slice x.s.a x.s.la.length x.s.ca):=a4e B1 4;have a5:y1.cell? ⟨w.heap.size,5,none⟩=some (.slice x.s.b x.s.lb.length x.s.cb):=a4e B1 5;obtain⟨y2,q,b2,l2,B2⟩:=f8 y1 #[.bool x.s.neg,.slice x.s.a x.s.la.length x.s.ca,.slice x.s.b x.s.lb.length x.s.cb] 28;have j:=FOkM.one B2 ((hx.s.below d).below b2);go_wp2_with fail;refine (iX (ds:=[x.s]) j).mono ?_;rintro e y3 ⟨rfl,k⟩;have g:=((a1j bT b2)).trans (k.mono (a1t bT.size b2.size))
 rcases s1:fI [x.s] with _ | _
 · have hf:=a1k (show r=false by rw[←hr.out];unfold tA;rw[f.out,s1];rfl);clear s1;go_wp2;go_ret;exact⟨by rw[hf.out];rfl,g⟩
 have p:=a1k s1;clear s1 a0 a1 a2 a3 a4 a5 q;have B3:=a4f (a4f B1 b2) k;have a0:y3.cell? ⟨w.heap.size,0,none⟩=some (.slice x.t.a x.t.ds.length x.t.c):=a4e B3 0;have a1:y3.cell? ⟨w.heap.size,1,none⟩=some (.slice x.na x.ns.length x.nc):=a4e B3 1;have a2:y3.cell? ⟨w.heap.size,2,none⟩=some (.slice x.ma x.ms.length x.mc):=a4e B3 2;have a3:y3.cell? ⟨w.heap.size,3,none⟩=some (.bool x.s.neg):=a4e B3 3;have a4:y3.cell? ⟨w.heap.size,4,none⟩=some (.slice x.s.a x.s.la.length x.s.ca):=a4e B3 4;have a5:y3.cell? ⟨w.heap.size,5,none⟩=some (.slice x.s.b x.s.lb.length x.s.cb):=a4e B3 5;obtain⟨u1,l⟩:∃ u,decide ((x.ns.length:Int)≤n)=u:=⟨_,rfl⟩;obtain⟨u2,o⟩:∃ u,decide ((x.ms.length:Int)≤m)=u:=⟨_,rfl⟩;have hf:=a1k (show r=(u1&&u2) by rw[←hr.out];unfold tA;rw[f.out,p.out,l,o];rfl)
 rcases u1 with _ | _ <;> rcases u2 with _ | _
 all_goals
  go_wp2;go_ret;exact⟨by rw[hf.out];rfl,g⟩
theorem FL.flat {w:World}{a:Addr}{c:Nat}{ds:List FrD}(h:FL w (some a) c ds) (j:Nat) (u:Value) (hu:(ds.flatMap FrD.cells)[j]?=some u):w.cell? (a.add j)=some u:=by
 have hj:j<ds.length*3:=by
  have:=(a2e.1 hu).1;rw[F0] at this;exact this
 obtain⟨a',e,h1,h2⟩:=h.row.2.2 (j / 3) (by omega)
 injection e with e
 subst e;have h3:=dW ds (j / 3) (j % 3) (by omega) (by omega);rw[show j / 3*3+j % 3=j by omega,hu] at h3;have h4:=h2 (j % 3) u h3.symm
 rwa [show j / 3*3+j % 3=j by omega] at h4
/-- A slice of a foreign row that is full is appended to: a new row. -/
theorem rS {A:Option Addr}{c:Nat}{ds:List FrD}(w:World) (h:FL w A c ds) (ad:Addr) (cc:Nat) (d:FrD) (hnews:∀ j u,d.cells[j]?=some u→w.cell? (ad.add j)=some u) (h63:ds.length+1≤1000000000000) :
 ∃ v' w',(Builtin.append_ #[22,22] 22 #[.slice A ds.length ds.length,.slice (some ad) 1 cc]).run Tryz.prog w=.ok v' w'∧OwnQ w' w.heap.size v' (ds++[d])∧w.grownBy w' none:=by
 cases A with
 | none =>
  have h0:ds.length=0:=by
   rcases a3a ds.length with h0 | h0
   · exact h0
   · obtain⟨a,e,_⟩:=h.row.2.2 0 h0
     cases e
  have:ds=[]:=a2a h0;subst this;exact T9 w w.heap.size (.slice none 0 0) [] (OwnQ.nil _ _) ad cc d hnews (by simp) (a1u _)
 | some a =>
  obtain⟨i,hi,m,f,l⟩:=info_parts L5;have hm:maxLen=9223372036854775807:=rfl;have hl:d.cells.length=1*3:=rfl;have hr:=run_append_grow (P:=Tryz.prog) w 22 22 28 i (.agg #[.bool false,.slice none 0 0,.slice none 0 0]) Tryz.underlying22 hi m a ds.length ds.length (ds.flatMap FrD.cells) (by rw[f];exact F0 ds) h.flat ad 1 cc d.cells (by rw[f];rfl) hnews (by omega) (by omega) (growslice_fits (by omega) (by rw[l];omega));have b:(Value.agg #[.bool false,.slice none 0 0,.slice none 0 0]).cells=#[.bool false,.slice none 0 0,.slice none 0 0]:=rfl;have n:=grownCap_ge w (ds.length+1) ds.length 28;have o:=grownCap_le_maxLen w (ds.length+1) ds.length 28 (by omega);refine⟨_,_,hr,⟨⟨by rw[F0],.inr ⟨w.heap.size,_,_,by rw[a1x];rfl,a1u _,heap_alloc_new w.drew _,by simpa using n,o,?_,?_⟩⟩,fun g hg=>?_⟩,⟨rfl,rfl,rfl,by simp,fun k hk _=>heap_alloc_old w.drew _ hk⟩⟩
  · simp only[Array.size_append,List.size_toArray,size_zeroCells,F0,hl]
    rw[b];have h3:(#[Value.bool false,.slice none 0 0,.slice none 0 0]:Array Value).size=3:=rfl;rw[h3];omega
  · have e:(ds++[d]).length*3=(ds.flatMap FrD.cells++d.cells).length:=by simp only[a1x,F0,hl,List.length_singleton];omega
    simp only[Array.toList_append]
    rw[e,List.take_left,List.flatMap_append]
    simp
  · simp[Value.ownBlock] at hg
    subst hg;refine⟨_,heap_alloc_new w.drew _,NoDigL.noDig (((eQ ds).append (R4 d)).append (eP (grownCap w (ds.length+1) ds.length 28-(ds.length+1)))) ?_⟩;rw[b];simp
theorem fG {w:World}{ops:Array Oper}{o:Oper}{a:Act}{K:Act→World→Prop}{Q:Exit→Act→World→Prop}{E:Prop}(hgd:o.guard=none) (s x:Operand)
 (ho:o.op=.call { callee:=.builtin .append,args:=#[s,x],argTypes:=#[22,22] }) (hty:o.type=22)
 {A:Option Addr} {c:Nat} {ds:List FrD} (hf:FL w A c ds) (hs:a.eval s=.slice A ds.length ds.length) (ad:Addr) (cc:Nat) (d:FrD) (hx:a.eval x=.slice (some ad) 1 cc) (hnews:∀ j u,d.cells[j]?=some u→w.cell? (ad.add j)=some u)
 (h63:ds.length+1≤1000000000000)
 (h:∀ v' w',OwnQ w' w.heap.size v' (ds++[d])→w.grownBy w' none→K (a.put o.dst v') w') :
 if Region.wanted o (yielded ops a.tmps)=true then Oper.wp Tryz.prog o a w K Q else E:=by
 have hw:Region.wanted o (yielded ops a.tmps)=true:=by simp[Region.wanted,hgd]
 rw[if_pos hw];obtain⟨v',w',hr,h2,h3⟩:=rS w hf ad cc d hnews h63
 unfold Oper.wp execOp
 simp only[ho,hty,resolve,invoke,builtin,Sem.run_bind,Sem.run_pure,Result.andThen_ok,List.map_toArray,List.map_cons,List.map_nil,hs,hx,hr]
 exact h v' w' h2 h3
theorem gS {w:World}{ops:Array Oper}{o:Oper}{a:Act}{K:Act→World→Prop}{Q:Exit→Act→World→Prop}{E:Prop}(hgd:o.guard=none){T:TypeId}(hT:Tryz.prog.underlying T=some (.slice 22)) (s x:Operand)
 (ho:o.op=.call { callee:=.builtin .append,args:=#[s,x],argTypes:=#[T,T] }) (hty:o.type=T)
 (base:Nat) (v:Value) (rows:List RwD) (hs:a.eval s=v) (hown:OwnM w base v rows) (ad:Addr) (c:Nat) (r:RwD) (hx:a.eval x=.slice (some ad) 1 c) (hnews:w.cell? ad=some r.v)
 (h63:rows.length+1≤1000000000000) (hbase:base≤w.heap.size)
 (h:∀ v' w',OwnM w' base v' (rows++[r])→w.grownBy w' v.ownBlock→K (a.put o.dst v') w') :
 if Region.wanted o (yielded ops a.tmps)=true then Oper.wp Tryz.prog o a w K Q else E:=by
 have hw:Region.wanted o (yielded ops a.tmps)=true:=by simp[Region.wanted,hgd]
 rw[if_pos hw];obtain⟨v',w',hr,h2,h3⟩:=fK hT w base v rows hown ad c r hnews h63 hbase
 unfold Oper.wp execOp
 simp only[ho,hty,resolve,invoke,builtin,Sem.run_bind,Sem.run_pure,Result.andThen_ok,List.map_toArray,List.map_cons,List.map_nil,hs,hx,hr]
 exact h v' w' h2 h3
def wJ (is:List Nat) (f:Nat→Rat) (s:List Rat) (g:Nat) (root:World) (i:Value) (wr:World):Prop:=∃ k:Nat,k≤is.length∧i=.int .i64 (k:Int)∧ColAt g (M5 (is.zipIdx.take k) f s) root wr
def J5 (M:C4) (b:List Rat):List Rat × Int :=
 if A0 M=true∧b.length=M.length then match G6 M b with
  | some x=>(x,0)
  | none=>([],6)
 else ([],2)
def RetLE (R:List Rat × Int) (W:World) (e:Ending) (w':World):Prop:=∃ A c ds,e=.returned (.tuple #[.slice A ds.length c,.int .i64 R.2])∧FL w' A c ds∧Hid (ds.map FrD.q=R.1)∧Below W.heap.size W w'
theorem RetLE.err {n:Int}{W:World}{e:Ending}{w':World}{R:List Rat × Int}(hR:R=([],n)) (he:e=.returned (.tuple #[.slice none 0 0,.int .i64 n])) (hb:Below W.heap.size W w'):RetLE R W e w':=by
 subst hR;exact⟨none,0,[],he,FL.nil _,rfl,hb⟩
theorem V9 {M:C4}{b:List Rat}(h:¬ (A0 M=true∧b.length=M.length)):J5 M b=([],2):=by unfold J5;rw[if_neg h]
theorem rM {M:C4}{b:List Rat}{n:Nat}(h:A0 M=true) (hb:b.length=M.length) (hn:colsL M=n) (hz:L1 (reduceL (C9 M b) n).1 (reduceL (C9 M b) n).2.length n=false):J5 M b=([],6):=by
 unfold J5 G6;rw[if_pos ⟨h,hb⟩,hn]
 simp only
 rw[if_neg (by rw[hz];decide)]
theorem bJ {M:C4}{b:List Rat}{n:Nat}(h:A0 M=true) (hb:b.length=M.length) (hn:colsL M=n) (hz:L1 (reduceL (C9 M b) n).1 (reduceL (C9 M b) n).2.length n=true) :
 J5 M b=(M5 (reduceL (C9 M b) n).2.zipIdx (fun i=>fn (reduceL (C9 M b) n).1 i n) (List.replicate n 0),0):=by
 unfold J5 G6;rw[if_pos ⟨h,hb⟩,hn]
 simp only
 rw[if_pos hz];have hr:E9 (C9 M b) (n+1):=N0 (by rw[←hn];exact H5 h)
 simp only
 rw[uS (L3 hr n (by omega)).red _ (a1u n)]
def qV (R:C4) (k n:Nat) (root:World) (i:Value) (wr:World):Prop:=∃ j:Nat,k+j≤R.length∧i=.int .i64 (j:Int)∧Hid (∀ i,k≤i→i<k+j→fn R i n=0)∧Below root.heap.size root wr
theorem rT {R:C4}{k n i:Nat}(h1:k≤i) (h2:i<R.length) (h3:fn R i n≠0):L1 R k n=false:=by
 unfold L1;rw[List.all_eq_false];refine⟨R.getD i [],?_,by simpa [fn] using h3⟩;rw[List.mem_iff_getElem?];exact⟨i-k,by rw[a2x,show k+(i-k)=i by omega,a1l,a1m h2];rfl⟩
theorem Z5 {R:C4}{k n:Nat}(h:∀ i,k≤i→i<R.length→fn R i n=0):L1 R k n=true:=by
 unfold L1;rw[List.all_eq_true];intro r hr;obtain⟨j,hj⟩:=List.mem_iff_getElem?.1 hr;rw[a2x] at hj;have hl:=(a2e.1 hj).1;have:=h (k+j) (by omega) hl;unfold fn at this;rw[a1l (l:=R),hj] at this
 simpa using this
theorem eC {K:Nat}{M:C4}{b:List Rat}(h:MFits K M) (hb:QFits K b):MFits K (C9 M b):=fun r hr=>by
 unfold C9 at hr;obtain⟨i,hi⟩:=List.mem_iff_getElem?.1 hr;rw[List.getElem?_zipWith] at hi
 cases hM:M[i]? with
 | none=>rw[hM] at hi;simp at hi
 | some x =>
  cases hB:b[i]? with
  | none=>rw[hM,hB] at hi;simp at hi
  | some y =>
   rw[hM,hB] at hi
   simp at hi
   subst hi;intro q hq
   rcases a3b.1 hq with hq | hq
   · exact h x (a1n hM) q hq
   · simp at hq;subst hq;exact hb _ (a1n hB)
structure Con where
 normal:List Rat
 least:Rat
structure St where
 x:List Rat
 level:Rat
 active:List Nat
 mults:List Rat
def F8 (a b:List Rat):Rat:=o5 (List.zipWith (·*·) a b)
def nrm (all:List Con) (k:Nat):List Rat:=match all[k]? with | some c=>c.normal | none=>[]
def lst (all:List Con) (k:Nat):Rat:=match all[k]? with | some c=>c.least | none=>0
theorem Q1 {all:List Con}{k:Nat}{c:Con}(h:all[k]?=some c):nrm all k=c.normal:=by unfold nrm;rw[h]
theorem eR {all:List Con}{k:Nat}{c:Con}(h:all[k]?=some c):lst all k=c.least:=by unfold lst;rw[h]
def x5 (all:List Con) (x:List Rat):Nat→Option Nat × Rat
 | 0=>(none,0)
 | k+1=>if 0<lst all k-F8 (nrm all k) x∧((x5 all x k).1=none∨(x5 all x k).2<lst all k-F8 (nrm all k) x) then (some k,lst all k-F8 (nrm all k) x) else x5 all x k
def oi:Option Nat→Int
 | none=>-1
 | some k=>k
def j8 (n:Nat) (all:List Con) (active:List Nat):List (List Rat):=List.replicate n 1::active.map (nrm all)
def M2 (ns:List (List Rat)):C4:=ns.map fun a=>ns.map (F8 a)
def M4 (ns:List (List Rat)) (v:List Rat):List Rat:=ns.map fun a=>F8 a v
def lU (z:List Rat) (c:Rat) (a:List Rat):List Rat:=List.zipWith (fun zi ai=>zi-c*ai) z a
def oX (ns:List (List Rat)) (r v:List Rat):Nat→List Rat
 | 0=>v
 | j+1=>lU (oX ns r v j) (r.getD j 0) (ns.getD j [])
def mJ (n:Nat) (all:List Con) (active:List Nat) (k:Nat):Option (List Rat × Rat × List Rat) :=
 match G6 (M2 (j8 n all active)) (M4 (j8 n all active) (nrm all k)) with
 | some r=>some (oX (j8 n all active) r (nrm all k) (j8 n all active).length,r.getD 0 0,r.drop 1)
 | none=>none
def F5 (mults rates:List Rat):Nat→Option Nat × Rat
 | 0=>(none,0)
 | j+1=>if 0<rates.getD j 0∧((F5 mults rates j).1=none∨mults.getD j 0 / rates.getD j 0<(F5 mults rates j).2) then (some j,mults.getD j 0 / rates.getD j 0) else F5 mults rates j
def G4 (s:St) (z:List Rat) (lev:Rat) (rates:List Rat) (t:Rat):St :=
 ⟨List.zipWith (fun a b=>a+t*b) s.x z,s.level-t*lev,s.active,List.zipWith (fun a b=>a-t*b) s.mults rates⟩
def U9 (s:St) (j:Nat):St:=⟨s.x,s.level,s.active.take j++s.active.drop (j+1),s.mults.take j++s.mults.drop (j+1)⟩
def L7 (all:List Con) (k:Nat) (x z:List Rat):Rat:=(lst all k-F8 (nrm all k) x) / F8 z (nrm all k)
def dL (n:Nat) (all:List Con) (k:Nat) (s:St) (m:Rat):Option (Option (Bool × St × Rat)) :=
 match mJ n all s.active k with
 | none=>none
 | some (z,lev,rates) =>
  if 0<F8 z (nrm all k)∧((F5 s.mults rates rates.length).1=none∨L7 all k s.x z≤(F5 s.mults rates rates.length).2) then
   some (some (true,G4 s z lev rates (L7 all k s.x z),m+L7 all k s.x z))
  else match (F5 s.mults rates rates.length).1 with
   | none=>some none
   | some j=>some (some (false,U9 (G4 s z lev rates (F5 s.mults rates rates.length).2) j,m+(F5 s.mults rates rates.length).2))
def aW (K:Nat) (q:Rat):Bool:=decide (q.num.natAbs<pw K)&&decide (q.den<pw K)
theorem fitsB_iff {K:Nat}{q:Rat}:aW K q=true ↔ Fits K q:=by unfold aW Fits;simp
def xK (K n:Nat) (all:List Con) (s:St):Bool :=
 s.x.all (aW K)&&(aW K s.level&&(s.mults.all (aW K)&&(decide (s.x.length=n)&&(decide (s.mults.length=s.active.length)&&(decide (s.active.length≤7)&&s.active.all fun k=>decide (k<all.length))))))
structure OkS (K n:Nat) (all:List Con) (s:St):Prop where
 x:QFits K s.x
 lev:Fits K s.level
 mults:QFits K s.mults
 lx:s.x.length=n
 lm:s.mults.length=s.active.length
 la:s.active.length≤7
 act:∀ k∈s.active,k<all.length
theorem okS_iff {K n:Nat}{all:List Con}{s:St}:xK K n all s=true ↔ OkS K n all s:=by
 unfold xK
 simp only[a3m,List.all_eq_true,decide_eq_true_eq,fitsB_iff]
 exact⟨fun ⟨a,b,c,d,e,f,g⟩=>⟨a,b,c,d,e,f,g⟩,fun h=>⟨h.x,h.lev,h.mults,h.lx,h.lm,h.la,h.act⟩⟩
def aZ (K n:Nat) (all:List Con) (k:Nat):Nat→St→Rat→Option (Option St)
 | 0,_,_=>none
 | f+1,s,m=>if xK K n all s=true∧aW K m=true then
  match dL n all k s m with
  | none=>none
  | some none=>some none
  | some (some (true,t,m'))=>some (some ⟨t.x,t.level,t.active++[k],t.mults++[m']⟩)
  | some (some (false,t,m'))=>aZ K n all k f t m'
  else none
def jO (K n:Nat) (all:List Con):Nat→St→Option (Option St)
 | 0,_=>none
 | f+1,s=>if xK K n all s=true then
  match (x5 all s.x all.length).1 with
  | none=>some (some s)
  | some k=>match aZ K n all k f s 0 with
   | none=>none
   | some none=>some none
   | some (some t)=>jO K n all f t
  else none
def T7 (target:List Rat) (sum:Rat) (n:Nat):St:=⟨target.map fun q=>q+(sum-o5 target) / (n:Rat),(sum-o5 target) / (n:Rat),[],[]⟩
def fN (K:Nat) (all:List Con) (target:List Rat) (sum:Rat) (n f:Nat):Option (Option St) :=
 if n=0 then if sum-o5 target=0∧(x5 all target all.length).1=none then some (some ⟨target,0,[],[]⟩) else some none
 else jO K n all f (T7 target sum n)
def aX (l:List Rat) (p:Nat × Rat):List Rat:=l.set p.1 (l.getD p.1 0+p.2)
def G3 (n:Nat) (ps:List (Nat × Rat)):List Rat:=ps.foldl aX (List.replicate n 0)
theorem a1h (l:List Rat) (p:Nat × Rat):(aX l p).length=l.length:=by simp[aX]
theorem Z2 (n:Nat) (ps:List (Nat × Rat)):(G3 n ps).length=n:=by
 have b:∀ (ps:List (Nat × Rat)) (l:List Rat),(ps.foldl aX l).length=l.length:=fun ps=>by
  induction ps with
  | nil=>exact fun l=>rfl
  | cons p ps ih=>intro l;rw[List.foldl_cons,ih,a1h]
 unfold G3;rw[b,a1p]
theorem V8 {n j:Nat}{ps:List (Nat × Rat)}{p:Nat × Rat}(h:ps[j]?=some p):G3 n (ps.take (j+1))=aX (G3 n (ps.take j)) p:=by
 unfold G3;rw[a3e,h,List.foldl_append];rfl
def I2 (n p:Nat) (v:Rat):List Rat:=(List.range n).map fun i=>if M8 p i=true then v else 0
def o0 (ns:List NdD) (ms:List Int):List Con :=
 (ns.map fun d=>⟨I2 ms.length d.p.toNat 1,(d.l:Rat)⟩)++((List.range ms.length).map fun i=>⟨I2 ms.length (2 ^ i) 1,0⟩)++(List.range ms.length).map fun i=>⟨I2 ms.length (2 ^ i) (-1),((-(ms.getD i 0):Int):Rat)⟩
theorem lW {P:Nat→Prop}(h:∃ n,P n):∃ n,P n∧∀ m,P m→n≤m:=by
 obtain⟨n,hn⟩:=h
 induction n using Nat.strongRecOn with
 | _ n ih =>
  by_cases e:∃ m,m<n∧P m
  · obtain⟨m,h1,h2⟩:=e;exact ih m h1 h2
  · exact⟨n,hn,fun m hm=>Nat.le_of_not_lt fun hl=>e ⟨m,hl,hm⟩⟩
open Classical in
noncomputable def leastN (P:Nat→Prop):Nat:=if h:∃ n,P n then Classical.choose (lW h) else 0
theorem nY {P:Nat→Prop}(h:∃ n,P n):P (leastN P):=by
 unfold leastN;rw[dif_pos h];exact (Classical.choose_spec (lW h)).1
theorem iI {P:Nat→Prop}{n:Nat}(h:P n):leastN P≤n:=by
 unfold leastN;rw[dif_pos ⟨n,h⟩];exact (Classical.choose_spec (lW ⟨n,h⟩)).2 n h
section
variable {P:Program}{ops:Array Oper}{Q:Exit→Act→World→Prop}{md:Region.Mode}{S:World→Prop}{J:List Nat}
def J9 (md:Region.Mode) (ops:Array Oper) (i:Nat):Nat→Nat→Bool
 | 0,j=>j == i
 | f+1,j=>j == i || match ops[j]? with
  | some o=>o.after.any fun e=>Region.binds md e&&J9 md ops i f e.on
  | none=>false
def nJ (md:Region.Mode) (ops:Array Oper) (listed:Array Bool):Bool :=
 (List.range ops.size).all fun k=>!(listed.getD k false) || match ops[k]? with
  | some o=>o.after.all fun e=>!(Region.binds md e) || listed.getD e.on false
  | none=>true
theorem uE {listed:Array Bool}(h:nJ md ops listed=true){k:Nat}{o:Oper}(ho:ops[k]?=some o) (hk:listed.getD k false=true) (e:Edge) (he:e∈o.after) (hb:Region.binds md e=true):listed.getD e.on false=true:=by
 unfold nJ at h
 simp only[List.all_eq_true,a2u] at h
 have h1:=h k (Array.getElem?_eq_some_iff.1 ho).1;rw[hk,ho] at h1
 simp only[Bool.not_true,Bool.false_or] at h1
 have h2:=Array.all_eq_true_iff_forall_mem.1 h1 e he;rw[hb] at h2
 simpa using h2
def ShutP (md:Region.Mode) (ops:Array Oper) (listed:Array Bool):Prop:=∀ (k:Nat) (o:Oper),ops[k]?=some o→listed.getD k false=true→∀ e∈o.after,Region.binds md e=true→listed.getD e.on false=true
theorem pA {listed:Array Bool}(hc:ShutP md ops listed){i:Nat}:∀ (f j:Nat),J9 md ops i f j=true→listed.getD j false=true→listed.getD i false=true:=by
 intro f
 induction f with
 | zero=>intro j h hj;unfold J9 at h;rw[beq_iff_eq] at h;rw[←h];exact hj
 | succ f ih =>
  intro j h hj;unfold J9 at h;rw[Bool.or_eq_true] at h
  rcases h with h | h
  · rw[beq_iff_eq] at h;rw[←h];exact hj
  · split at h
    · rename_i o ho
      obtain⟨e,he,hb⟩:=Array.any_eq_true'.1 h;rw[a3m] at hb;exact ih e.on hb.2 (hc j o ho hj e he hb.1)
    · cases h
theorem zW {listed:Array Bool}(hc:ShutP md ops listed){i j f:Nat}(hw:J9 md ops i f j=true) (hij:j≠i) (hi:listed.getD i true=false):j ∉ Region.ready md ops listed:=by
 intro hj;obtain⟨h0,o,ho,c⟩:=mem_ready.1 hj
 have b:listed.getD i false=true:=by
  cases f with
  | zero=>unfold J9 at hw;rw[beq_iff_eq] at hw;exact absurd hw hij
  | succ f =>
   unfold J9 at hw;rw[Bool.or_eq_true] at hw
   rcases hw with hw | hw
   · rw[beq_iff_eq] at hw;exact absurd hw hij
   · rw[ho] at hw
     simp only at hw
     obtain⟨e,he,hb⟩:=Array.any_eq_true'.1 hw;rw[a3m] at hb;exact pA hc f e.on hb.2 (c e he hb.1)
 rcases a3h i listed.size with h' | h'
 · simp[h'] at hi b;rw[hi] at b;cases b
 · simp[Array.getElem?_eq_none h'] at hi
theorem ShutP.set {listed:Array Bool}(hc:ShutP md ops listed){j:Nat}(hj:j∈Region.ready md ops listed):ShutP md ops (listed.setIfInBounds j true):=by
 intro k o ho hk e he hb
 by_cases e1:j=k
 · subst e1;obtain⟨h0,o',b,c⟩:=mem_ready.1 hj;rw[ho] at b
   injection b with b
   subst b;exact getD_set_true (c e he hb)
 · rw[getD_set_ne false e1] at hk;exact getD_set_true (hc k o ho hk e he hb)
def E7 (P:Program) (md:Region.Mode) (ops:Array Oper) (Q:Exit→Act→World→Prop) (S:World→Prop) (J:List Nat):Nat→Array Bool→Act→World→Prop
 | 0,listed,a,w=>Region.ready md ops listed=[]∧Q .normal a w
 | fuel+1,listed,a,w =>
  (Region.ready md ops listed=[]→Q .normal a w) ∧
  ∀ i∈Region.ready md ops listed,wpOp P ops Q i (fun a' w'=>(i ∉ J→S w')∧E7 P md ops Q S J fuel (listed.setIfInBounds i true) a' w') a w
theorem dH:∀ (fuel:Nat) (listed:Array Bool) (a:Act) (w:World),E7 P md ops Q S J fuel listed a w→wpAny P md ops Q fuel listed a w
 | 0,_,_,_,h=>h
 | fuel+1,_,_,_,h=>⟨h.1,fun i hi=>wpOp_mono (fun a' w' h'=>dH fuel _ a' w' h'.2) (h.2 i hi)⟩
theorem oZ {i:Nat}{oi:Oper}{v:Value}(hi:ops[i]?=some oi) (hsel:∀ (j:Nat) (o:Oper) cs b,ops[j]?=some o→o.op≠.select cs b)
 (hQ:∀ c a w,Q (.panic c) (a.put oi.dst v) w→Q (.panic c) a w) (hJ:∀ j∈J,j≠i∧J9 md ops i ops.size j=true) :
 ∀ (fuel:Nat) (listed:Array Bool) (a:Act) (w:World),
  (∀ j oj,ops[j]?=some oj→j≠i→listed.getD j true=false→(∀ e∈oj.after,Region.binds md e=true→e.on≠i)→oi.apart ops oj=true) →
  ShutP md ops listed→i∈Region.ready md ops listed→YieldsIf P ops S oi v a→S w →
  E7 P md ops Q S J fuel (listed.setIfInBounds i true) (a.put oi.dst v) w→E7 P md ops Q S J (fuel+1) listed a w:=by
 intro fuel
 induction fuel with
 | zero =>
  intro listed a w _ hc hr hy hS H;refine⟨fun h=>(by rw[h] at hr;cases hr),fun j hj=>?_⟩
  by_cases hji:j=i
  · subst hji;exact hy.wpOp hi hS ⟨fun _=>hS,H⟩
  · have:=ready_mono hj hji;rw[H.1] at this
    cases this
 | succ fuel ih =>
  intro listed a w d hc hr hy hS H;refine⟨fun h=>(by rw[h] at hr;cases hr),fun j hj=>?_⟩
  by_cases hji:j=i
  · subst hji;exact hy.wpOp hi hS ⟨fun _=>hS,H⟩
  · have h1:=H.2 j (ready_mono hj hji);have s:j ∉ J:=fun hx=>zW hc (hJ j hx).2 (hJ j hx).1 (mem_ready.1 hr).1 hj;obtain⟨g,oj,l,p⟩:=mem_ready.1 hj
    have n:∀ e∈oj.after,Region.binds md e=true→e.on≠i:=fun e he hb q=>by
     have h1:=p e he hb;have h0:=(mem_ready.1 hr).1;rw[q] at h1
     rcases a3h i listed.size with h' | h'
     · simp[h'] at h0 h1;rw[h0] at h1;cases h1
     · simp[Array.getElem?_eq_none h'] at h1
    have h2:=wpOp_putIf l (d j oj l hji g n) (fun cs b=>hsel i oi cs b hi) (fun cs b=>hsel j oj cs b l) hQ hy h1
    have f:∀ k ok,ops[k]?=some ok→k≠i→(listed.setIfInBounds j true).getD k true=false →
     (∀ e∈ok.after,Region.binds md e=true→e.on≠i)→oi.apart ops ok=true:=fun k ok hk t m r=>by
     refine d k ok hk t ?_ r
     by_cases hjk:j=k
     · subst hjk;exact g
     · rw[getD_set_ne true hjk] at m;exact m
    refine wpOp_mono (fun a' w' h3=>⟨h3.2.1,ih (listed.setIfInBounds j true) a' w' f (hc.set hj) (ready_mono hr (Ne.symm hji)) h3.1 (h3.2.1 s) ?_⟩) h2;rw[Array.setIfInBounds_comm _ _ hji];exact h3.2.2
theorem iV {i:Nat}{oi:Oper}{v:Value}{fuel:Nat}{listed:Array Bool}{a:Act}{w:World}(hi:ops[i]?=some oi)
 (hs:Region.noSelect ops=true) (hf:Region.free md ops listed i=true) (hr:(Region.ready md ops listed).contains i=true)
 (hc:nJ md ops listed=true) (hJ:(J.all fun j=>(j != i)&&J9 md ops i ops.size j)=true)
 (hQ:∀ c a w,Q (.panic c) (a.put oi.dst v) w→Q (.panic c) a w) (hy:YieldsIf P ops S oi v a) (hS:S w)
 (h:E7 P md ops Q S J fuel (listed.setIfInBounds i true) (a.put oi.dst v) w):E7 P md ops Q S J (fuel+1) listed a w:=by
 refine oZ hi (Region.noSelect_spec hs) hQ (fun j hj=>?_) fuel listed a w (Region.free_spec hi hf) (fun k o ho hk e he hb=>uE hc ho hk e he hb) (by simpa using hr) hy hS h;have:=List.all_eq_true.1 hJ j hj;rw[a3m,bne_iff_ne] at this;exact this
theorem k8 {listed:Array Bool}{a:Act}{w:World}(hr:Region.ready md ops listed=[]) (h:Q .normal a w):∀ fuel,E7 P md ops Q S J fuel listed a w
 | 0=>⟨hr,h⟩
 | _+1=>⟨fun _=>h,by rw[hr];simp⟩
def AllReadyW (P:Program) (md:Region.Mode) (ops:Array Oper) (Q:Exit→Act→World→Prop) (S:World→Prop) (J:List Nat) (fuel:Nat) (listed:Array Bool) (a:Act) (w:World) (rs:List Nat):Prop :=
 ∀ i∈rs,wpOp P ops Q i (fun a' w'=>(i ∉ J→S w')∧E7 P md ops Q S J fuel (listed.setIfInBounds i true) a' w') a w
theorem AllReadyW.nil {fuel:Nat}{listed:Array Bool}{a:Act}{w:World}:AllReadyW P md ops Q S J fuel listed a w []:=fun _ h=>by cases h
theorem AllReadyW.cons {fuel:Nat}{listed:Array Bool}{a:Act}{w:World}{i:Nat}{o:Oper}{rs:List Nat}(ho:ops[i]?=some o)
 (h:∀ K':Act→World→Prop,Shut (∀ a w,S w→(S w→E7 P md ops Q S J fuel (listed.setIfInBounds i true) a w)→K' a w)→if Region.wanted o (yielded ops a.tmps)=true then Oper.wp P o a w K' Q else K' (a.put o.dst undef) w)
 (hs:AllReadyW P md ops Q S J fuel listed a w rs):AllReadyW P md ops Q S J fuel listed a w (i::rs):=fun j hj=>by
 rcases a3i.1 hj with rfl | hj
 · exact wpOp_step ho (fun K' hK=>h K' (fun a w hS hW=>hK a w ⟨fun _=>hS,hW hS⟩))
 · exact hs j hj
theorem AllReadyW.last {fuel:Nat}{listed:Array Bool}{a:Act}{w:World}{i:Nat}{o:Oper}{rs:List Nat}(ho:ops[i]?=some o) (hi:i∈J)
 (h:∀ K':Act→World→Prop,Shut (∀ a w,E7 P md ops Q S J fuel (listed.setIfInBounds i true) a w→K' a w)→if Region.wanted o (yielded ops a.tmps)=true then Oper.wp P o a w K' Q else K' (a.put o.dst undef) w)
 (hs:AllReadyW P md ops Q S J fuel listed a w rs):AllReadyW P md ops Q S J fuel listed a w (i::rs):=fun j hj=>by
 rcases a3i.1 hj with rfl | hj
 · exact wpOp_step ho (fun K' hK=>h K' (fun a w hW=>hK a w ⟨fun hn=>absurd hi hn,hW⟩))
 · exact hs j hj
theorem j6 {rs:List Nat}{fuel:Nat}{listed:Array Bool}{a:Act}{w:World}(hr:Region.ready md ops listed=rs) (hne:rs≠[])
 (h:AllReadyW P md ops Q S J fuel listed a w rs):E7 P md ops Q S J (fuel+1) listed a w :=
 ⟨fun h0=>absurd (hr ▸ h0) hne,hr ▸ h⟩
theorem k9 {id:Nat}{a:Act}{w:World}(hm:P.follows .mixedOrders=true) (hS:S w.drew)
 (h:S w.drew→E7 P .any ops Q S J ops.size (Array.replicate ops.size false) a w.drew):(Code.region id ops true).wp P Q a w :=
 wp_region_any hm (dH _ _ _ _ (h hS))
end
section
variable {P:Program}{ops:Array Oper}{Q:Exit→Act→World→Prop}{md:Region.Mode}{S:World→Prop}{J:List Nat}{fuel:Nat}{listed:Array Bool}{a:Act}{w:World}{oi:Oper}{v:Value}
theorem dJ {a':Act}{l':Array Bool}(i:Nat) (hi:ops[i]?=some oi) (hS:S w) (h:E7 P md ops Q S J fuel l' a' w) (hs:Region.noSelect ops=true:=by kernel_rfl) (hf:Region.free md ops listed i=true:=by kernel_rfl) (hr:(Region.ready md ops listed).contains i=true:=by kernel_rfl) (hc:nJ md ops listed=true:=by kernel_rfl) (hJ:(J.all fun j=>(j != i)&&J9 md ops i ops.size j)=true:=by kernel_rfl) (hw:Region.wanted oi (yielded ops a.tmps)=true:=by rfl)
 (hy:∀ w,S w→(execOp a.eval oi).run P w=.ok (.value v) w:=by (intro w b;(try dsimp only at b);go_simp;all_goals with_reducible rfl)) (hQ:∀ c a w,Q (.panic c) (a.put oi.dst v) w→Q (.panic c) a w:=by exact fun _ _ _ h=>h) (ha:a.put oi.dst v=a':=by ((try simp only[j9]);first | done | rfl)) (hl:listed.setIfInBounds i true=l':=by ((try simp only[j9]);first | done | rfl)):E7 P md ops Q S J (fuel+1) listed a w:=by
 subst ha hl
 exact
 iV hi hs hf hr hc hJ hQ (Or.inl ⟨hw,hy⟩) hS h
theorem tkU {a':Act}{l':Array Bool}(i:Nat) (hi:ops[i]?=some oi) (hS:S w) (h:E7 P md ops Q S J fuel l' a' w) (hs:Region.noSelect ops=true:=by kernel_rfl) (hf:Region.free md ops listed i=true:=by kernel_rfl) (hr:(Region.ready md ops listed).contains i=true:=by kernel_rfl) (hc:nJ md ops listed=true:=by kernel_rfl) (hJ:(J.all fun j=>(j != i)&&J9 md ops i ops.size j)=true:=by kernel_rfl) (hw:Region.wanted oi (yielded ops a.tmps)=false:=by kernel_rfl)
 (hQ:∀ c a w,Q (.panic c) (a.put oi.dst undef) w→Q (.panic c) a w:=by exact fun _ _ _ h=>h) (ha:a.put oi.dst undef=a':=by ((try simp only[j9]);first | done | rfl)) (hl:listed.setIfInBounds i true=l':=by ((try simp only[j9]);first | done | rfl)):E7 P md ops Q S J (fuel+1) listed a w:=by
 subst ha hl
 exact
 iV hi hs hf hr hc hJ hQ (Or.inr ⟨hw,rfl⟩) hS h
def wG (P:Program) (md:Region.Mode) (ops:Array Oper) (Q:Exit→Act→World→Prop) (S:World→Prop) (J:List Nat) (i:Nat) (listed:Array Bool) (a:Act) (l':Array Bool) (a':Act):Prop:=ops[i]?=ops[i]?∧∀ fuel w,S w→E7 P md ops Q S J fuel l' a' w→E7 P md ops Q S J (fuel+1) listed a w
theorem xN {a':Act}{l':Array Bool}{i:Nat} (hi:ops[i]?=some oi) (hs:Region.noSelect ops=true:=by kernel_rfl) (hf:Region.free md ops listed i=true:=by kernel_rfl) (hr:(Region.ready md ops listed).contains i=true:=by kernel_rfl) (hc:nJ md ops listed=true:=by kernel_rfl) (hJ:(J.all fun j=>(j != i)&&J9 md ops i ops.size j)=true:=by kernel_rfl) (hw:Region.wanted oi (yielded ops a.tmps)=true:=by rfl)
 (hy:∀ w,S w→(execOp a.eval oi).run P w=.ok (.value v) w:=by (intro w b;(try dsimp only at b);go_simp;all_goals with_reducible rfl)) (hQ:∀ c a w,Q (.panic c) (a.put oi.dst v) w→Q (.panic c) a w:=by exact fun _ _ _ h=>h) (ha:a.put oi.dst v=a':=by ((try simp only[j9]);first | done | rfl)) (hl:listed.setIfInBounds i true=l':=by ((try simp only[j9]);first | done | rfl)):wG P md ops Q S J i listed a l' a':=⟨rfl,fun _ _ hS h=>dJ i hi hS h hs hf hr hc hJ hw hy hQ ha hl⟩
theorem dU {l1 l2:Array Bool} {a1 a2:Act} (i1 i2:Nat) (hS:S w) (h:E7 P md ops Q S J fuel l2 a2 w) (c1:wG P md ops Q S J i1 listed a l1 a1:=by exact xN rfl) (c2:wG P md ops Q S J i2 l1 a1 l2 a2:=by exact xN rfl):E7 P md ops Q S J (fuel+1+1) listed a w:=c1.2 _ _ hS (c2.2 _ _ hS h)
theorem mR {l1 l2 l3 l4:Array Bool} {a1 a2 a3 a4:Act} (i1 i2 i3 i4:Nat) (hS:S w) (h:E7 P md ops Q S J fuel l4 a4 w) (c1:wG P md ops Q S J i1 listed a l1 a1:=by exact xN rfl) (c2:wG P md ops Q S J i2 l1 a1 l2 a2:=by exact xN rfl) (c3:wG P md ops Q S J i3 l2 a2 l3 a3:=by exact xN rfl) (c4:wG P md ops Q S J i4 l3 a3 l4 a4:=by exact xN rfl):E7 P md ops Q S J (fuel+1+1+1+1) listed a w:=c1.2 _ _ hS (c2.2 _ _ hS (c3.2 _ _ hS (c4.2 _ _ hS h)))
theorem iK {l1 l2 l3 l4 l5 l6 l7 l8:Array Bool} {a1 a2 a3 a4 a5 a6 a7 a8:Act} (i1 i2 i3 i4 i5 i6 i7 i8:Nat) (hS:S w) (h:E7 P md ops Q S J fuel l8 a8 w) (c1:wG P md ops Q S J i1 listed a l1 a1:=by exact xN rfl) (c2:wG P md ops Q S J i2 l1 a1 l2 a2:=by exact xN rfl) (c3:wG P md ops Q S J i3 l2 a2 l3 a3:=by exact xN rfl) (c4:wG P md ops Q S J i4 l3 a3 l4 a4:=by exact xN rfl) (c5:wG P md ops Q S J i5 l4 a4 l5 a5:=by exact xN rfl) (c6:wG P md ops Q S J i6 l5 a5 l6 a6:=by exact xN rfl) (c7:wG P md ops Q S J i7 l6 a6 l7 a7:=by exact xN rfl) (c8:wG P md ops Q S J i8 l7 a7 l8 a8:=by exact xN rfl):E7 P md ops Q S J (fuel+1+1+1+1+1+1+1+1) listed a w:=c1.2 _ _ hS (c2.2 _ _ hS (c3.2 _ _ hS (c4.2 _ _ hS (c5.2 _ _ hS (c6.2 _ _ hS (c7.2 _ _ hS (c8.2 _ _ hS h)))))))
theorem I0 (i:Nat) (ho:ops[i]?=some oi) (h:∀ K':Act→World→Prop,Shut (∀ a w,S w→(S w→E7 P md ops Q S J fuel (listed.setIfInBounds i true) a w)→K' a w)→if Region.wanted oi (yielded ops a.tmps)=true then Oper.wp P oi a w K' Q else K' (a.put oi.dst undef) w)
 (hr:Region.ready md ops listed=[i]:=by kernel_rfl):E7 P md ops Q S J (fuel+1) listed a w:=j6 hr (by simp) (AllReadyW.cons ho h AllReadyW.nil)
end
abbrev a4i:=@AllReadyW.nil
abbrev a4j:=@AllReadyW.last
abbrev a4k:=@AllReadyW.cons
end Go.Proofs.YtjhkapjadfpimaaGreat
