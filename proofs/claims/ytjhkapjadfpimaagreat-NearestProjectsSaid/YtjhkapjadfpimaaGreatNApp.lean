/- Contracts of functions, for the law. -/
import Derived.Test.YtjhkapjadfpimaaGreatTw
namespace Go.Proofs.YtjhkapjadfpimaaGreat
set_option linter.unusedVariables false
set_option linter.unusedSimpArgs false
open Go.RowKit Plain
set_option maxRecDepth 100000
set_option maxHeartbeats 40000000
def iU (u:Value):Prop:=∀ x,u≠.int .u32 x
theorem OwnQ.toG {w:World}{base:Nat}{v:Value}{ds:List FrD}(h:OwnQ w base v ds):OwnG 28 3 iU w base v ds.length (ds.flatMap FrD.cells) :=
 ⟨h.1,fun g hg=>by
  obtain⟨cur,h1,h2⟩:=h.2 g hg;exact⟨cur,h1,fun i u hi x e=>h2 i x (by rw[hi,e])⟩⟩
theorem OwnQ.ofG {w:World}{base:Nat}{v:Value}{ds:List FrD}(h:OwnG 28 3 iU w base v ds.length (ds.flatMap FrD.cells)):OwnQ w base v ds :=
 ⟨h.1,fun g hg=>by
  obtain⟨cur,h1,h2⟩:=h.2 g hg;exact⟨cur,h1,fun i x hi=>h2 i _ hi x rfl⟩⟩
theorem OwnQ.empty (w:World){base:Nat}(hb:base≤w.heap.size):OwnQ (w.alloc (.cells #[] 28)) base (.slice (some ⟨w.heap.size,0,none⟩) 0 0) []:=by
 have hB:=a4h w 28 #[]
 exact⟨⟨rfl,.inr ⟨w.heap.size,0,#[],rfl,hb,hB,a1u _,by decide,rfl,rfl⟩⟩,fun g hg=>by
  simp[Value.ownBlock] at hg
  subst hg;exact⟨_,hB,fun i x=>by simp⟩⟩
theorem lJ (d:FrD):∀ u∈d.cells,iU u:=fun u hu x e=>by
 subst e
 simp[FrD.cells] at hu
theorem X3 (w:World) (base:Nat) (v:Value) (ds:List FrD) (hown:OwnQ w base v ds) (ad:Addr) (c:Nat) (es:List FrD) (hnews:∀ j u,(es.flatMap FrD.cells)[j]?=some u→w.cell? (ad.add j)=some u)
 (h63:ds.length+es.length≤1000000000000) (hbase:base≤w.heap.size) :
 ∃ v' w',(Builtin.append_ #[22,22] 22 #[v,.slice (some ad) es.length c]).run Tryz.prog w=.ok v' w'∧OwnQ w' base v' (ds++es)∧w.grownBy w' v.ownBlock:=by
 obtain⟨v',w',h1,h2,h3⟩:=gX (P:=iU) w base v ds.length _ Tryz.underlying22 L5 rfl (by decide) (fun i u hi x e=>by
  subst e
  match i with
  | 0=>injection hi with hi;cases hi
  | 1=>injection hi with hi;cases hi
  | 2=>injection hi with hi;cases hi
  | i+3=>simp[Value.cells] at hi) (by decide) hown.toG ad es.length c (es.flatMap FrD.cells) (F0 es) hnews (fun u hu=>by
   obtain⟨d,_,hd⟩:=List.mem_flatMap.1 hu
   simp only[FrD.cells,a3i,List.not_mem_nil,or_false] at hd
   rcases hd with rfl | rfl | rfl <;> rfl) (fun u hu=>by
   obtain⟨d,_,hd⟩:=List.mem_flatMap.1 hu;exact lJ d u hd) h63 hbase (fun u hu=>by
   obtain⟨d,_,hd⟩:=List.mem_flatMap.1 hu;exact lJ d u hd)
 refine⟨v',w',h1,OwnQ.ofG ?_,h3⟩;rw[a1x,List.flatMap_append];exact h2
/-- Nothing is appended to an empty list. -/
theorem nK (w:World) (g c:Nat):(Builtin.append_ #[22,22] 22 #[.slice (some ⟨g,0,none⟩) 0 0,.slice none 0 c]).run Tryz.prog w=.ok (.slice (some ⟨g,0,none⟩) 0 0) w:=by
 obtain⟨i,hi,f,d,b⟩:=info_parts L5
 simp[Builtin.append_,run_underlying Tryz.underlying22,sizeOf,typeInfo,hi,Builtin.lenOf,Builtin.firstCells,loadCells,loadCellsFrom,storeCells]
theorem a0j {ds:List FrD}{k j:Nat}{u:Value}(h:((ds.take k).flatMap FrD.cells)[j]?=some u):(ds.flatMap FrD.cells)[j]?=some u:=by
 have hl:=(a2e.1 h).1;have e:ds.flatMap FrD.cells=(ds.take k).flatMap FrD.cells++(ds.drop k).flatMap FrD.cells:=by rw[←List.flatMap_append,List.take_append_drop]
 rw[e,a2q hl];exact h
theorem oY {ops:Array Oper}{rest:List Oper}{o:Oper}{a:Act}{Q:Exit→Act→World→Prop}(hgd:o.guard=none) (hty:o.type=22) (s x:Operand)
 (ho:o.op=.call { callee:=.builtin .append,args:=#[s,x],argTypes:=#[22,22] }) {w:World}
 (base:Nat) (v:Value) (ds:List FrD) (hs:a.eval s=v) (hown:OwnQ w base v ds) (ad:Addr) (m c:Nat) (es:List FrD) (hm:es.length=m) (hx:a.eval x=.slice (some ad) m c) (hnews:∀ j u,(es.flatMap FrD.cells)[j]?=some u→w.cell? (ad.add j)=some u)
 (h63:ds.length+m≤1000000000000) (hbase:base≤w.heap.size)
 (h:∀ v' w',OwnQ w' base v' (ds++es)→w.grownBy w' v.ownBlock→wpList Tryz.prog ops Q rest (a.put o.dst v') w'):wpList Tryz.prog ops Q (o::rest) a w:=by
 subst hm;refine wpList_plain hgd fun K hK=>?_;obtain⟨v',w',b,h2,h3⟩:=X3 w base v ds hown ad c es hnews h63 hbase
 unfold Oper.wp execOp
 simp only[ho,hty,resolve,invoke,builtin,Sem.run_bind,Sem.run_pure,Result.andThen_ok,List.map_toArray,List.map_cons,List.map_nil,hs,hx,b]
 exact hK _ _ (h v' w' h2 h3)
theorem wpList_appQ0 {ops:Array Oper}{rest:List Oper}{o:Oper}{a:Act}{Q:Exit→Act→World→Prop}(hgd:o.guard=none) (hty:o.type=22) (s x:Operand)
 (ho:o.op=.call { callee:=.builtin .append,args:=#[s,x],argTypes:=#[22,22] }) {w:World} (g c:Nat) (hs:a.eval s=.slice (some ⟨g,0,none⟩) 0 0) (hx:a.eval x=.slice none 0 c)
 (h:wpList Tryz.prog ops Q rest (a.put o.dst (.slice (some ⟨g,0,none⟩) 0 0)) w):wpList Tryz.prog ops Q (o::rest) a w:=by
 refine wpList_plain hgd fun K hK=>?_
 unfold Oper.wp execOp
 simp only[ho,hty,resolve,invoke,builtin,Sem.run_bind,Sem.run_pure,Result.andThen_ok,List.map_toArray,List.map_cons,List.map_nil,hs,hx,nK]
 exact hK _ _ h
theorem Srow.far {α:Type}{C:Nat}{cells:α→List Value}{w w':World}{g c:Nat}{A:Option Addr}{ds:List α}(h:Srow w C cells A c ds) (hne:∀ a,A=some a→a.block≠g) (ho:Only w w' g):Srow w' C cells A c ds :=
 ⟨h.1,h.2.1,fun j hj=>by
  obtain⟨a,e,h1,h2⟩:=h.2.2 j hj;have hk:=ho.block a.block h1 (by have:=hne a e;simpa using this)
  exact⟨a,e,a1o h1 ho.size,fun i u hu=>by
   rw[a4a (w:=w) (by rw[f7];exact hk)];exact h2 i u hu⟩⟩
theorem FL.far {w w':World}{g c:Nat}{t:TypeId}{cs:Array Value}{A:Option Addr}{ds:List FrD}(h:FL w A c ds) (hne:∀ a,A=some a→a.block≠g) (hB:Blk w g t cs) (hd:NoDig cs) (ho:Only w w' g):FL w' A c ds :=
 ⟨h.row.far hne ho,fun d hx=>(h.fv d hx).only_blk hB hd ho⟩
structure CoD where
 r:RwD
 l:FrD
def CoD.cells (d:CoD):List Value:=[.slice d.r.a d.r.ds.length d.r.c,.bool d.l.neg,.slice d.l.a d.l.la.length d.l.ca,.slice d.l.b d.l.lb.length d.l.cb]
def CoD.con (d:CoD):Con:=⟨d.r.qs,d.l.q⟩
structure AllC (w:World) (Av:Nat→Prop) (A:Option Addr) (c:Nat) (cs:List CoD):Prop where
 row:Srow w 4 CoD.cells A c cs
 fl:∀ d∈cs,FL w d.r.a d.r.c d.r.ds
 fv:∀ d∈cs,FV w d.l.v d.l.q
 away:∀ a,A=some a→¬ Av a.block
 awayr:∀ d∈cs,∀ a,d.r.a=some a→¬ Av a.block
section
variable {w w':World}{Av:Nat→Prop}{A:Option Addr}{c:Nat}{cs:List CoD}
theorem AllC.below (h:AllC w Av A c cs) (hb:Below w.heap.size w w'):AllC w' Av A c cs :=
 ⟨h.row.below hb,fun d hd=>(h.fl d hd).below hb,fun d hd=>(h.fv d hd).below hb,h.away,h.awayr⟩
theorem AllC.only {g:Nat}{t:TypeId}{cur:Array Value}(h:AllC w Av A c cs) (hg:Av g) (hB:Blk w g t cur) (hd:NoDig cur) (ho:Only w w' g):AllC w' Av A c cs :=
 ⟨h.row.far (fun a e x=>h.away a e (by rw[x];exact hg)) ho,fun d hx=>(h.fl d hx).far (fun a e x=>h.awayr d hx a e (by rw[x];exact hg)) hB hd ho,fun d hx=>(h.fv d hx).only_blk hB hd ho,h.away,h.awayr⟩
theorem AllC.len (h:AllC w Av A c cs):cs.length≤c∧c≤9223372036854775807:=⟨h.row.1,h.row.2.1⟩
theorem AllC.at (h:AllC w Av A c cs){k:Nat}(hk:k<cs.length) :
 ∃ a d,A=some a∧a.block<w.heap.size∧w.cell? (a.add (k*4))=some (.slice d.r.a d.r.ds.length d.r.c)∧w.cell? ⟨(a.add (k*4)).block,(a.add (k*4)).off+1,none⟩=some (.bool d.l.neg) ∧
  w.cell? ⟨(a.add (k*4)).block,(a.add (k*4)).off+2,none⟩=some (.slice d.l.a d.l.la.length d.l.ca)∧w.cell? ⟨(a.add (k*4)).block,(a.add (k*4)).off+3,none⟩=some (.slice d.l.b d.l.lb.length d.l.cb) ∧
  FL w d.r.a d.r.c d.r.ds∧FV w d.l.v d.l.q∧Hid (cs[k]?=some d):=by
 obtain⟨a,e,h1,h2⟩:=h.row.2.2 k hk
 have hc:∀ i u,(cs[k]).cells[i]?=some u→w.cell? ((a.add (k*4)).add i)=some u:=fun i u hu=>by
  rw[add_add];exact h2 i u hu
 exact⟨a,cs[k],e,h1,jM (hc 0 _ rfl),gI (hc 1 _ rfl) (by decide),gI (hc 2 _ rfl) (by decide),gI (hc 3 _ rfl) (by decide),h.fl _ (a1z hk),h.fv _ (a1z hk),a1m hk⟩
end
def XO (w:World) (g c:Nat) (ds:List FrD):Prop :=
 ∃ cur,Blk w g 28 cur∧NoDig cur∧ds.length≤c∧c≤9223372036854775807∧cur.toList.take (ds.length*3)=ds.flatMap FrD.cells∧ds.length*3≤cur.size
section
variable {w w':World}{g c:Nat}{ds:List FrD}
theorem XO.below (h:XO w g c ds) (hb:Below w.heap.size w w'):XO w' g c ds:=by
 obtain⟨b,h1,h2⟩:=h;exact⟨b,h1.keep hb,h2⟩
theorem XO.only {g':Nat}(h:XO w g c ds) (ho:Only w w' g') (hne:g≠g'):XO w' g c ds:=by
 obtain⟨b,h1,h2⟩:=h;exact⟨b,h1.only ho hne,h2⟩
theorem XO.cellOf {cur:Array Value}(h1:Blk w g 28 cur) (h5:cur.toList.take (ds.length*3)=ds.flatMap FrD.cells){k i:Nat}{d:FrD}{u:Value}(hk:ds[k]?=some d) (hu:d.cells[i]?=some u):w.cell? ⟨g,k*3+i,none⟩=some u:=by
 have b:=(a2e.1 hk).1;have e:=(a2e.1 hk).2
 have hi:i<3:=by
  have:=(a2e.1 hu).1
  simpa [FrD.cells] using this
 have hf:=dW ds k i b hi;rw[e,hu,←h5,a2w,if_pos (by omega)] at hf;rw[a4e h1,←Array.getElem?_toList];exact hf
theorem XO.fl (h:XO w g c ds) (hv:∀ d∈ds,FV w d.v d.q):FL w (some ⟨g,0,none⟩) c ds:=by
 obtain⟨b,h1,h2,h3,h4,h5,h6⟩:=h;refine⟨⟨h3,h4,fun j hj=>⟨_,rfl,Blk.lt h1,fun i u hu=>?_⟩⟩,hv⟩;rw[D6];exact XO.cellOf h1 h5 (a1m hj) hu
theorem XO.store (h:XO w g c ds){k:Nat}(hk:k<ds.length) (d:FrD) :
 ∃ w9,w.frozen? ⟨g,k*3,none⟩=false∧w.frozen? ⟨g,k*3+1,none⟩=false∧w.frozen? ⟨g,k*3+2,none⟩=false ∧
  ((w.setCell ⟨g,k*3,none⟩ (.bool d.neg)).setCell ⟨g,k*3+1,none⟩ (.slice d.a d.la.length d.ca)).setCell ⟨g,k*3+2,none⟩ (.slice d.b d.lb.length d.cb)=w9∧XO w9 g c (ds.set k d)∧Only w w9 g:=by
 obtain⟨f,h1,h2,h3,h4,h5,h6⟩:=h;refine⟨_,a4g h1 _,a4g h1 _,a4g h1 _,rfl,⟨_,((Blk.set h1 _ _).set _ _).set _ _,?_,by rw[a2i];exact h3,h4,?_,by simp only[Array.size_setIfInBounds,a2i];exact h6⟩,(((a4m w g).set _ _).set _ _).set _ _⟩
 · intro i x hi
   simp only[Array.getElem?_setIfInBounds] at hi
   repeat' split at hi
   all_goals first
    | (injection hi with hi;cases hi)
    | cases hi
    | exact h2 i x hi
 · rw[mD hk,←h5,a2i]
   simp only[Array.toList_setIfInBounds,List.take_set]
theorem XO.cells (h:XO w g c ds){k:Nat}{d:FrD}(hk:ds[k]?=some d):w.cell? ⟨g,k*3,none⟩=some (.bool d.neg)∧w.cell? ⟨g,k*3+1,none⟩=some (.slice d.a d.la.length d.ca)∧w.cell? ⟨g,k*3+2,none⟩=some (.slice d.b d.lb.length d.cb):=by
 obtain⟨f,h1,h2,h3,h4,h5,h6⟩:=h;exact⟨XO.cellOf h1 h5 (i:=0) hk rfl,XO.cellOf h1 h5 (i:=1) hk rfl,XO.cellOf h1 h5 (i:=2) hk rfl⟩
end
structure Sv where
 n:Nat
 m:Nat
 A:Option Addr
 ca:Nat
 cs:List CoD
 gs:Nat
 gx:Nat
 cx:Nat
 R:Nat
 sum:FrD
def Sv.Av (S:Sv) (g:Nat):Prop:=g=S.gs∨g=S.gx∨S.R≤g
structure SolB (S:Sv) (dx:List FrD) (lv:FrD) (va vm ent:Value) (w:World):Prop where
 blk:Blk w S.gs 82 #[.int .i64 (S.n:Int),.int .i64 (S.m:Int),.slice S.A S.cs.length S.ca,.slice (some ⟨S.gx,0,none⟩) dx.length S.cx,.bool S.sum.neg,.slice S.sum.a S.sum.la.length S.sum.ca,.slice S.sum.b S.sum.lb.length S.sum.cb,.bool lv.neg,.slice lv.a lv.la.length lv.ca,.slice lv.b lv.lb.length lv.cb,va,vm,ent]
 sum:FV w S.sum.v S.sum.q
 lev:FV w lv.v lv.q
 xo:XO w S.gx S.cx dx
 xf:AllFV w dx
 all:AllC w S.Av S.A S.ca S.cs
 hs:S.gs<S.R
 hx:S.gx<S.R
 hR:S.R≤w.heap.size
 ne:S.gs≠S.gx
theorem AllFV.below {w w':World}{ds:List FrD}(h:AllFV w ds) (hb:Below w.heap.size w w'):AllFV w' ds:=fun d hd=>(h d hd).below hb
theorem AllFV.only {w w':World}{g:Nat}{t:TypeId}{cur:Array Value}{ds:List FrD}(h:AllFV w ds) (hB:Blk w g t cur) (hd:NoDig cur) (ho:Only w w' g):AllFV w' ds:=fun d hx=>(h d hx).only_blk hB hd ho
section
variable {S:Sv}{dx:List FrD}{lv:FrD}{va vm ent:Value}{w w':World}
theorem SolB.below (h:SolB S dx lv va vm ent w) (hb:Below w.heap.size w w'):SolB S dx lv va vm ent w' :=
 ⟨h.blk.keep hb,h.sum.below hb,h.lev.below hb,h.xo.below hb,h.xf.below hb,h.all.below hb,h.hs,h.hx,a1t h.hR hb.size,h.ne⟩
theorem SolB.far {g:Nat}{t:TypeId}{cur:Array Value}(h:SolB S dx lv va vm ent w) (hg:S.R≤g) (hB:Blk w g t cur) (hd:NoDig cur) (ho:Only w w' g):SolB S dx lv va vm ent w' :=
 ⟨h.blk.only ho (by have:=h.hs;omega),h.sum.only_blk hB hd ho,h.lev.only_blk hB hd ho,h.xo.only ho (by have:=h.hx;omega),h.xf.only hB hd ho,h.all.only (.inr (.inr hg)) hB hd ho,h.hs,h.hx,a1t h.hR ho.size,h.ne⟩
theorem SolB.cells (h:SolB S dx lv va vm ent w):w.cell? ⟨S.gs,0,none⟩=some (.int .i64 (S.n:Int))∧w.cell? ⟨S.gs,1,none⟩=some (.int .i64 (S.m:Int))∧w.cell? ⟨S.gs,2,none⟩=some (.slice S.A S.cs.length S.ca)∧w.cell? ⟨S.gs,3,none⟩=some (.slice (some ⟨S.gx,0,none⟩) dx.length S.cx)∧w.cell? ⟨S.gs,4,none⟩=some (.bool S.sum.neg)∧w.cell? ⟨S.gs,5,none⟩=some (.slice S.sum.a S.sum.la.length S.sum.ca)∧w.cell? ⟨S.gs,6,none⟩=some (.slice S.sum.b S.sum.lb.length S.sum.cb)∧w.cell? ⟨S.gs,7,none⟩=some (.bool lv.neg)∧w.cell? ⟨S.gs,8,none⟩=some (.slice lv.a lv.la.length lv.ca)∧w.cell? ⟨S.gs,9,none⟩=some (.slice lv.b lv.lb.length lv.cb)∧w.cell? ⟨S.gs,10,none⟩=some (va)∧w.cell? ⟨S.gs,11,none⟩=some (vm)∧w.cell? ⟨S.gs,12,none⟩=some (ent) :=
 ⟨a4e h.blk 0,a4e h.blk 1,a4e h.blk 2,a4e h.blk 3,a4e h.blk 4,a4e h.blk 5,a4e h.blk 6,a4e h.blk 7,a4e h.blk 8,a4e h.blk 9,a4e h.blk 10,a4e h.blk 11,a4e h.blk 12⟩
theorem SolB.noDig (ha:∀ x,va≠.int .u32 x) (hm:∀ x,vm≠.int .u32 x) (he:∀ x,ent≠.int .u32 x):NoDig #[.int .i64 (S.n:Int),.int .i64 (S.m:Int),.slice S.A S.cs.length S.ca,.slice (some ⟨S.gx,0,none⟩) dx.length S.cx,.bool S.sum.neg,.slice S.sum.a S.sum.la.length S.sum.ca,.slice S.sum.b S.sum.lb.length S.sum.cb,.bool lv.neg,.slice lv.a lv.la.length lv.ca,.slice lv.b lv.lb.length lv.cb,va,vm,ent] :=
 NoDigL.noDig (l:=[.int .i64 (S.n:Int),.int .i64 (S.m:Int),.slice S.A S.cs.length S.ca,.slice (some ⟨S.gx,0,none⟩) dx.length S.cx,.bool S.sum.neg,.slice S.sum.a S.sum.la.length S.sum.ca,.slice S.sum.b S.sum.lb.length S.sum.cb,.bool lv.neg,.slice lv.a lv.la.length lv.ca,.slice lv.b lv.lb.length lv.cb,va,vm,ent]) (fun u hu x e=>by
  subst e
  simp only[a3i,List.not_mem_nil,or_false] at hu
  rcases hu with h | h | h | h | h | h | h | h | h | h | h | h | h
  all_goals first
   | exact ha _ h.symm
   | exact hm _ h.symm
   | exact he _ h.symm
   | cases h) rfl
theorem SolB.setX (h:SolB S dx lv va vm ent w){k:Nat}(hk:k<dx.length){d:FrD}(hd:FV w d.v d.q) :
 ∃ w9,w.frozen? ⟨S.gx,k*3,none⟩=false∧w.frozen? ⟨S.gx,k*3+1,none⟩=false∧w.frozen? ⟨S.gx,k*3+2,none⟩=false ∧
  ((w.setCell ⟨S.gx,k*3,none⟩ (.bool d.neg)).setCell ⟨S.gx,k*3+1,none⟩ (.slice d.a d.la.length d.ca)).setCell ⟨S.gx,k*3+2,none⟩ (.slice d.b d.lb.length d.cb)=w9∧SolB S (dx.set k d) lv va vm ent w9∧Only w w9 S.gx:=by
 obtain⟨w9,f0,f1,f2,e9,c,o9⟩:=h.xo.store hk d;obtain⟨f,hB,hn,-⟩:=h.xo;refine⟨w9,f0,f1,f2,e9,⟨?_,h.sum.only_blk hB hn o9,h.lev.only_blk hB hn o9,c,fun x hx=>?_,h.all.only (.inr (.inl rfl)) hB hn o9,h.hs,h.hx,a1t h.hR o9.size,h.ne⟩,o9⟩
 · rw[a2i];exact h.blk.only o9 h.ne
 · rcases List.mem_or_eq_of_mem_set hx with hx | rfl
   · exact (h.xf x hx).only_blk hB hn o9
   · exact hd.only_blk hB hn o9
theorem SolB.setLev (h:SolB S dx lv va vm ent w) (ha:∀ x,va≠.int .u32 x) (hm:∀ x,vm≠.int .u32 x) (he:∀ x,ent≠.int .u32 x){d:FrD}(hd:FV w d.v d.q) :
 ∃ w9,w.frozen? ⟨S.gs,7,none⟩=false∧w.frozen? ⟨S.gs,8,none⟩=false∧w.frozen? ⟨S.gs,9,none⟩=false ∧
  ((w.setCell ⟨S.gs,7,none⟩ (.bool d.neg)).setCell ⟨S.gs,8,none⟩ (.slice d.a d.la.length d.ca)).setCell ⟨S.gs,9,none⟩ (.slice d.b d.lb.length d.cb)=w9∧SolB S dx d va vm ent w9∧Only w w9 S.gs:=by
 have hn:=SolB.noDig (S:=S) (dx:=dx) (lv:=lv) ha hm he;have o9:=(((a4m w S.gs).set 7 (.bool d.neg)).set 8 (.slice d.a d.la.length d.ca)).set 9 (.slice d.b d.lb.length d.cb);have b9:=((h.blk.set 7 (.bool d.neg)).set 8 (.slice d.a d.la.length d.ca)).set 9 (.slice d.b d.lb.length d.cb);exact⟨_,a4g h.blk _,a4g h.blk _,a4g h.blk _,rfl,⟨b9,h.sum.only_blk h.blk hn o9,hd.only_blk h.blk hn o9,h.xo.only o9 (Ne.symm h.ne),h.xf.only h.blk hn o9,h.all.only (.inl rfl) h.blk hn o9,h.hs,h.hx,a1t h.hR o9.size,h.ne⟩,o9⟩
theorem SolB.setAct (h:SolB S dx lv va vm ent w) (ha:∀ x,va≠.int .u32 x) (hm:∀ x,vm≠.int .u32 x) (he:∀ x,ent≠.int .u32 x) (u:Value) :
 ∃ w9,w.frozen? ⟨S.gs,10,none⟩=false∧w.setCell ⟨S.gs,10,none⟩ u=w9∧SolB S dx lv u vm ent w9∧Only w w9 S.gs:=by
 have hn:=SolB.noDig (S:=S) (dx:=dx) (lv:=lv) ha hm he;have o9:=(a4m w S.gs).set 10 u;exact⟨_,a4g h.blk _,rfl,⟨h.blk.set 10 u,h.sum.only_blk h.blk hn o9,h.lev.only_blk h.blk hn o9,h.xo.only o9 (Ne.symm h.ne),h.xf.only h.blk hn o9,h.all.only (.inl rfl) h.blk hn o9,h.hs,h.hx,a1t h.hR o9.size,h.ne⟩,o9⟩
theorem SolB.setMul (h:SolB S dx lv va vm ent w) (ha:∀ x,va≠.int .u32 x) (hm:∀ x,vm≠.int .u32 x) (he:∀ x,ent≠.int .u32 x) (u:Value) :
 ∃ w9,w.frozen? ⟨S.gs,11,none⟩=false∧w.setCell ⟨S.gs,11,none⟩ u=w9∧SolB S dx lv va u ent w9∧Only w w9 S.gs:=by
 have hn:=SolB.noDig (S:=S) (dx:=dx) (lv:=lv) ha hm he;have o9:=(a4m w S.gs).set 11 u;exact⟨_,a4g h.blk _,rfl,⟨h.blk.set 11 u,h.sum.only_blk h.blk hn o9,h.lev.only_blk h.blk hn o9,h.xo.only o9 (Ne.symm h.ne),h.xf.only h.blk hn o9,h.all.only (.inl rfl) h.blk hn o9,h.hs,h.hx,a1t h.hR o9.size,h.ne⟩,o9⟩
theorem SolB.setEnt (h:SolB S dx lv va vm ent w) (ha:∀ x,va≠.int .u32 x) (hm:∀ x,vm≠.int .u32 x) (he:∀ x,ent≠.int .u32 x) (u:Value) :
 ∃ w9,w.frozen? ⟨S.gs,12,none⟩=false∧w.setCell ⟨S.gs,12,none⟩ u=w9∧SolB S dx lv va vm u w9∧Only w w9 S.gs:=by
 have hn:=SolB.noDig (S:=S) (dx:=dx) (lv:=lv) ha hm he;have o9:=(a4m w S.gs).set 12 u;exact⟨_,a4g h.blk _,rfl,⟨h.blk.set 12 u,h.sum.only_blk h.blk hn o9,h.lev.only_blk h.blk hn o9,h.xo.only o9 (Ne.symm h.ne),h.xf.only h.blk hn o9,h.all.only (.inl rfl) h.blk hn o9,h.hs,h.hx,a1t h.hR o9.size,h.ne⟩,o9⟩
end
theorem OwnQ.far {w w':World}{base g:Nat}{v:Value}{ds:List FrD}(h:OwnQ w base v ds) (hne:∀ g',v.ownBlock=some g'→g'≠g) (ho:Only w w' g):OwnQ w' base v ds:=by
 rcases h.1.2 with ⟨rfl,h0⟩ | ⟨g',f,b,rfl,hb,hg,hn,hm,hs,ht⟩
 · have:ds=[]:=a2a h0;subst this;exact OwnQ.nil _ _
 · have hB:Blk w g' 28 b:=hg;have c:g'≠g:=hne g' rfl;refine⟨⟨h.1.1,.inr ⟨g',f,b,rfl,hb,hB.only ho c,hn,hm,hs,ht⟩⟩,fun g2 h2=>?_⟩;obtain⟨d,k1,k2⟩:=h.2 g2 h2;exact⟨d,k1.only ho (hne g2 h2),k2⟩
theorem OwnI.far {w w':World}{base g:Nat}{v:Value}{is:List Nat}(h:OwnI w base v is) (hne:∀ g',v.ownBlock=some g'→g'≠g) (ho:Only w w' g):OwnI w' base v is:=by
 rcases h.1.2 with ⟨rfl,h0⟩ | ⟨g',f,b,rfl,hb,hg,hn,hm,hs,ht⟩
 · have:is=[]:=a2a h0;subst this;exact OwnI.nil _ _
 · have hB:Blk w g' 3 b:=hg;have c:g'≠g:=hne g' rfl;refine⟨⟨h.1.1,.inr ⟨g',f,b,rfl,hb,hB.only ho c,hn,hm,hs,ht⟩⟩,fun g2 h2=>?_⟩;obtain⟨d,k1,k2⟩:=h.2 g2 h2;exact⟨d,k1.only ho (hne g2 h2),k2⟩
theorem OwnQ.store {w:World}{base:Nat}{v:Value}{ds:List FrD}(h:OwnQ w base v ds){k:Nat}(hk:k<ds.length) (d:FrD) :
 ∃ (g c:Nat) (cur:Array Value) (w9:World),v=.slice (some ⟨g,0,none⟩) ds.length c∧base≤g∧Blk w g 28 cur∧NoDig cur∧w.frozen? ⟨g,k*3,none⟩=false∧w.frozen? ⟨g,k*3+1,none⟩=false∧w.frozen? ⟨g,k*3+2,none⟩=false ∧
  ((w.setCell ⟨g,k*3,none⟩ (.bool d.neg)).setCell ⟨g,k*3+1,none⟩ (.slice d.a d.la.length d.ca)).setCell ⟨g,k*3+2,none⟩ (.slice d.b d.lb.length d.cb)=w9∧OwnQ w9 base v (ds.set k d)∧Only w w9 g:=by
 rcases h.1.2 with ⟨rfl,h0⟩ | ⟨g,j,cur,rfl,hb,hg,hn,hm,hs,ht⟩
 · omega
 · have hB:Blk w g 28 cur:=hg;obtain⟨f,k1,k2⟩:=h.2 g rfl
   have ec:f=cur:=by
    unfold Blk at k1 hB;rw[hB] at k1
    injection k1 with k1
    injection k1 with k1 _ _
    exact k1.symm
   subst ec;have b9:=((hB.set (k*3) (.bool d.neg)).set (k*3+1) (.slice d.a d.la.length d.ca)).set (k*3+2) (.slice d.b d.lb.length d.cb);refine⟨g,j,f,_,rfl,hb,hB,k2,a4g hB _,a4g hB _,a4g hB _,rfl,⟨⟨?_,.inr ⟨g,j,_,by rw[a2i],hb,b9,by rw[a2i];exact hn,hm,?_,?_⟩⟩,fun g2 h2=>?_⟩,(((a4m w g).set _ _).set _ _).set _ _⟩
   · rw[F0]
   · simp only[Array.size_setIfInBounds];exact hs
   · rw[mD hk,←ht,a2i]
     simp only[Array.toList_setIfInBounds,List.take_set]
   · simp[Value.ownBlock] at h2
     subst h2;refine⟨_,b9,?_⟩;intro i x hi
     simp only[Array.getElem?_setIfInBounds] at hi
     repeat' split at hi
     all_goals first
      | (injection hi with hi;cases hi)
      | cases hi
      | exact k2 i x hi
theorem OwnQ.notU {w:World}{base:Nat}{v:Value}{ds:List FrD}(h:OwnQ w base v ds):∀ x,v≠.int .u32 x:=by
 rcases h.1.2 with ⟨rfl,h0⟩ | ⟨g,b,c,rfl,-⟩ <;> intro x e <;> cases e
theorem OwnI.notU {w:World}{base:Nat}{v:Value}{is:List Nat}(h:OwnI w base v is):∀ x,v≠.int .u32 x:=by
 rcases h.1.2 with ⟨rfl,h0⟩ | ⟨g,b,c,rfl,-⟩ <;> intro x e <;> cases e
theorem OwnI.block {w:World}{base g:Nat}{v:Value}{is:List Nat}(h:OwnI w base v is) (hg:v.ownBlock=some g):base≤g:=a4o h hg
structure Sm where
 dx:List FrD
 lv:FrD
 va:Value
 ia:List Nat
 vm:Value
 dm:List FrD
def Sm.st (s:Sm):St:=⟨s.dx.map FrD.q,s.lv.q,s.ia,s.dm.map FrD.q⟩
structure SolM (S:Sv) (s:Sm) (ent:Value) (w:World):Prop where
 b:SolB S s.dx s.lv s.va s.vm ent w
 act:OwnI w S.R s.va s.ia
 mul:OwnQ w S.R s.vm s.dm
 mf:AllFV w s.dm
theorem SolM.below {S:Sv}{s:Sm}{ent:Value}{w w':World}(h:SolM S s ent w) (hb:Below w.heap.size w w'):SolM S s ent w':=⟨h.b.below hb,h.act.below hb,h.mul.below hb,h.mf.below hb⟩
theorem Blk.ne_type {w:World}{g g':Nat}{t t':TypeId}{a b:Array Value}(h:Blk w g t a) (h':Blk w g' t' b) (ht:t≠t'):g≠g':=by
 rintro rfl;unfold Blk at h h';rw[h] at h'
 injection h' with h'
 injection h' with _ h' _
 exact ht h'
attribute [local go_sem ↓] Go.wp_at_zero Go.wp_at_succ
def VarC (w:World) (g:Nat) (d:CoD):Prop:=Blk w g 85 #[.slice d.r.a d.r.ds.length d.r.c,.bool d.l.neg,.slice d.l.a d.l.la.length d.l.ca,.slice d.l.b d.l.lb.length d.l.cb]
section
variable {w w':World}{g:Nat}{d:CoD}
theorem VarC.below (h:VarC w g d) (hb:Below w.heap.size w w'):VarC w' g d:=a4f h hb
theorem VarC.cells (h:VarC w g d):w.cell? ⟨g,0,none⟩=some (.slice d.r.a d.r.ds.length d.r.c)∧w.cell? ⟨g,1,none⟩=some (.bool d.l.neg)∧w.cell? ⟨g,2,none⟩=some (.slice d.l.a d.l.la.length d.l.ca)∧w.cell? ⟨g,3,none⟩=some (.slice d.l.b d.l.lb.length d.l.cb):=⟨a4e h 0,a4e h 1,a4e h 2,a4e h 3⟩
end
theorem new_con (w:World) (d:CoD):∃ wA wB,w.alloc (.cells #[.slice none 0 0,.bool false,.slice none 0 0,.slice none 0 0] 85)=wA∧wA.cell? ⟨w.heap.size,0,none⟩=some (.slice none 0 0)∧wA.cell? ⟨w.heap.size,1,none⟩=some (.bool false)∧wA.cell? ⟨w.heap.size,2,none⟩=some (.slice none 0 0)∧wA.cell? ⟨w.heap.size,3,none⟩=some (.slice none 0 0)∧wA.frozen? ⟨w.heap.size,0,none⟩=false∧wA.frozen? ⟨w.heap.size,1,none⟩=false∧wA.frozen? ⟨w.heap.size,2,none⟩=false∧wA.frozen? ⟨w.heap.size,3,none⟩=false ∧
 ((((wA.setCell ⟨w.heap.size,0,none⟩ (.slice d.r.a d.r.ds.length d.r.c)).setCell ⟨w.heap.size,1,none⟩ (.bool d.l.neg)).setCell ⟨w.heap.size,2,none⟩ (.slice d.l.a d.l.la.length d.l.ca)).setCell ⟨w.heap.size,3,none⟩ (.slice d.l.b d.l.lb.length d.l.cb))=wB∧VarC wB w.heap.size d∧Below w.heap.size w wB∧w.heap.size<wB.heap.size:=by
 obtain⟨wA,eA,bA,lA,BA⟩:=f8 w #[.slice none 0 0,.bool false,.slice none 0 0,.slice none 0 0] 85;have o9:=((((a4m wA w.heap.size).set 0 (.slice d.r.a d.r.ds.length d.r.c)).set 1 (.bool d.l.neg)).set 2 (.slice d.l.a d.l.la.length d.l.ca)).set 3 (.slice d.l.b d.l.lb.length d.l.cb);have b9:=(((BA.set 0 (.slice d.r.a d.r.ds.length d.r.c)).set 1 (.bool d.l.neg)).set 2 (.slice d.l.a d.l.la.length d.l.ca)).set 3 (.slice d.l.b d.l.lb.length d.l.cb);exact⟨wA,_,eA,a4e BA 0,a4e BA 1,a4e BA 2,a4e BA 3,a4g BA 0,a4g BA 1,a4g BA 2,a4g BA 3,rfl,b9,o9.to_below bA (a1u _) bA.size,a1o lA o9.size⟩
theorem X5 (ds es:List FrD):o5 (U3 ds es)=F8 (ds.map FrD.q) (es.map FrD.q):=by
 unfold U3 F8;rw[List.zipWith_map]
def MaybeQ (w:World) (g:Nat) (o:Option Nat) (q:Rat):Prop:=∃ d:FrD,VarQ w g d∧(o≠none→FV w d.v d.q∧d.q=q)
theorem MaybeQ.below {w w':World}{g:Nat}{o:Option Nat}{q:Rat}(h:MaybeQ w g o q) (hb:Below w.heap.size w w'):MaybeQ w' g o q:=by
 obtain⟨d,h1,h2⟩:=h;exact⟨d,h1.below hb,fun ho=>⟨(h2 ho).1.below hb,(h2 ho).2⟩⟩
theorem MaybeQ.zero {w:World}{g:Nat}(h:Blk w g 28 #[.bool false,.slice none 0 0,.slice none 0 0]) (q:Rat):MaybeQ w g none q:=⟨P3,h,fun ho=>absurd rfl ho⟩
theorem QFits.fr0 {K:Nat}{ds:List FrD}(h:QFits K (ds.map FrD.q)):∀ d∈ds,Fits K d.q:=fun d hd=>h _ (a2v.2 ⟨d,hd,rfl⟩)
theorem Y9 {K n:Nat}{a b:List Rat}(ha:QFits K a) (hb:QFits K b) (hn:a.length≤n):Fits (1+n*(K+K+1)) (F8 a b):=by
 unfold F8;refine (fX (k:=K+K) (fun q hq=>?_)).mono ?_
 · obtain⟨i,hi,rfl⟩:=List.mem_iff_getElem.1 hq;rw[List.getElem_zipWith];exact (ha _ (a1z _)).mul (hb _ (a1z _))
 · have h1:(List.zipWith (fun x y:Rat=>x*y) a b).length≤n:=by rw[a3o];omega
   have:=a1y (K+K+1) h1;exact Nat.add_le_add_left this 1
structure Trn (P:Nat→Prop) (w w':World):Prop where
 os:w'.os=w.os
 tape:w'.tape=w.tape
 output:w'.output=w.output
 size:w.heap.size≤w'.heap.size
 block:∀ k,k<w.heap.size→¬ P k→w'.heap[k]?=w.heap[k]?
 nd:∀ k,P k→∃ t cur,Blk w k t cur∧NoDig cur
section
variable {P:Nat→Prop}{w w1 w':World}
theorem Trn.refl (nd:∀ k,P k→∃ t cur,Blk w k t cur∧NoDig cur):Trn P w w:=⟨rfl,rfl,rfl,a1u _,fun _ _ _=>rfl,nd⟩
theorem Trn.next (h:Trn P w w1) (hb:Below w1.heap.size w1 w'):Trn P w w' :=
 ⟨hb.os.trans h.os,hb.tape.trans h.tape,hb.output.trans h.output,a1t h.size hb.size,fun k hk hn=>(hb.block k (a1o hk h.size)).trans (h.block k hk hn),h.nd⟩
theorem Trn.only {g:Nat}(h:Trn P w w1) (o:Only w1 w' g) (hg:P g):Trn P w w' :=
 ⟨o.os.trans h.os,o.tape.trans h.tape,o.output.trans h.output,a1t h.size o.size,fun k hk hn=>(o.block k (a1o hk h.size) (by intro e;injection e with e;subst e;exact hn hg)).trans (h.block k hk hn),h.nd⟩
theorem Trn.trans {Q:Nat→Prop}(h:Trn P w w1) (k:Trn Q w1 w') (hQ:∀ g,g<w.heap.size→Q g→P g):Trn P w w' :=
 ⟨k.os.trans h.os,k.tape.trans h.tape,k.output.trans h.output,a1t h.size k.size,fun i hi hn=>(k.block i (a1o hi h.size) fun hq=>hn (hQ i hi hq)).trans (h.block i hi hn),h.nd⟩
theorem Trn.to_below {B:Nat}{a:World}(h:Trn P w w') (hb:Below B a w) (hB:B≤w.heap.size) (hP:∀ k,P k→B≤k):Below B a w' :=
 ⟨h.os.trans hb.os,h.tape.trans hb.tape,h.output.trans hb.output,a1t hb.size h.size,fun k hk=>(h.block k (by omega) fun hp=>by have:=hP k hp;omega).trans (hb.block k hk)⟩
theorem Trn.of_below (hb:Below w.heap.size w w') (nd:∀ k,P k→∃ t cur,Blk w k t cur∧NoDig cur):Trn P w w':=(Trn.refl nd).next hb
theorem Blk.trn {g:Nat}{t:TypeId}{cs:Array Value}(h:Blk w g t cs) (ht:Trn P w w') (hn:¬ P g):Blk w' g t cs:=(ht.block g h.lt hn).trans h
theorem Nv.trn {A:Option Addr}{c:Nat}{l:List Nat}(h:Nv w A c l) (ht:Trn P w w'):Nv w' A c l:=by
 refine⟨h.len,h.big,fun hx=>?_,h.dig⟩;obtain⟨a,e,h1,h2⟩:=h.rd hx
 have b:¬ P a.block:=fun hg=>by
  obtain⟨t,cs,hB,hd⟩:=ht.nd _ hg;have h3:=h2 0 hx;have hl:0<l.length:=by rw[C7] at hx;exact hx
  unfold Blk at hB
  unfold World.cell? at h3
  rw[f7,hB] at h3
  simp only at h3
  split at h3
  · cases h3
  · rw[List.getElem_of_eq (show F1 l=F1 l from rfl)] at h3
    simp only[F1,List.getElem_map] at h3
    exact hd _ _ h3
 have hk:=ht.block a.block h1 b
 exact⟨a,e,a1o h1 ht.size,fun j hj=>by
  rw[a4a (w:=w) (by rw[f7];exact hk)];exact h2 j hj⟩
theorem FV.trn {v:Value}{q:Rat}(h:FV w v q) (ht:Trn P w w'):FV w' v q:=by
 obtain⟨n,A,ca,la,B,cb,lb,rfl,na,nb,iq⟩:=h;exact⟨n,A,ca,la,B,cb,lb,rfl,na.trn ht,nb.trn ht,iq⟩
theorem Srow.trn {α:Type}{C:Nat}{cells:α→List Value}{c:Nat}{A:Option Addr}{ds:List α}(h:Srow w C cells A c ds) (ht:Trn P w w') (hne:∀ a,A=some a→¬ P a.block):Srow w' C cells A c ds :=
 ⟨h.1,h.2.1,fun j hj=>by
  obtain⟨a,e,h1,h2⟩:=h.2.2 j hj;have hk:=ht.block a.block h1 (hne a e)
  exact⟨a,e,a1o h1 ht.size,fun i u hu=>by
   rw[a4a (w:=w) (by rw[f7];exact hk)];exact h2 i u hu⟩⟩
theorem FL.trn {c:Nat}{A:Option Addr}{ds:List FrD}(h:FL w A c ds) (ht:Trn P w w') (hne:∀ a,A=some a→¬ P a.block):FL w' A c ds :=
 ⟨h.row.trn ht hne,fun d hx=>(h.fv d hx).trn ht⟩
theorem VarQ.trn {g:Nat}{d:FrD}(h:VarQ w g d) (ht:Trn P w w') (hn:¬ P g):VarQ w' g d:=Blk.trn h ht hn
end
def Sv.W (S:Sv) (vm:Value) (k:Nat):Prop:=k=S.gs∨k=S.gx∨vm.ownBlock=some k
section
variable {S:Sv}{s:Sm}{ent:Value}{w:World}
theorem SolM.vaU (h:SolM S s ent w):∀ x,s.va≠.int .u32 x:=h.act.notU
theorem SolM.vmU (h:SolM S s ent w):∀ x,s.vm≠.int .u32 x:=h.mul.notU
theorem SolM.nd (h:SolM S s ent w) (he:∀ x,ent≠.int .u32 x):∀ k,S.W s.vm k→∃ t cur,Blk w k t cur∧NoDig cur:=fun k hk=>by
 rcases hk with rfl | rfl | hk
 · exact⟨_,_,h.b.blk,SolB.noDig h.vaU h.vmU he⟩
 · obtain⟨cur,h1,h2,-⟩:=h.b.xo;exact⟨_,cur,h1,h2⟩
 · obtain⟨cur,h1,h2⟩:=h.mul.2 k hk;exact⟨_,cur,h1,h2⟩
theorem SolM.wlt (h:SolM S s ent w):∀ k,S.W s.vm k→k<w.heap.size:=fun k hk=>by
 rcases hk with rfl | rfl | hk
 · exact a1o h.b.hs h.b.hR
 · exact a1o h.b.hx h.b.hR
 · obtain⟨cur,h1,h2⟩:=h.mul.2 k hk;exact Blk.lt h1
theorem SolM.setX (h:SolM S s ent w){k:Nat}(hk:k<s.dx.length){d:FrD}(hd:FV w d.v d.q) :
 ∃ w9,w.frozen? ⟨S.gx,k*3,none⟩=false∧w.frozen? ⟨S.gx,k*3+1,none⟩=false∧w.frozen? ⟨S.gx,k*3+2,none⟩=false ∧
  ((w.setCell ⟨S.gx,k*3,none⟩ (.bool d.neg)).setCell ⟨S.gx,k*3+1,none⟩ (.slice d.a d.la.length d.ca)).setCell ⟨S.gx,k*3+2,none⟩ (.slice d.b d.lb.length d.cb)=w9∧SolM S { s with dx:=s.dx.set k d } ent w9∧Only w w9 S.gx:=by
 obtain⟨w9,f0,f1,f2,e9,f,o9⟩:=h.b.setX hk hd;obtain⟨g,hB,hn,-⟩:=h.b.xo;exact⟨w9,f0,f1,f2,e9,⟨f,h.act.far (fun g' c=>by have:=h.act.block c;have:=h.b.hx;omega) o9,h.mul.far (fun g' c=>by have:=h.mul.block c;have:=h.b.hx;omega) o9,fun x hx=>(h.mf x hx).only_blk hB hn o9⟩,o9⟩
theorem SolM.setLev (h:SolM S s ent w) (he:∀ x,ent≠.int .u32 x){d:FrD}(hd:FV w d.v d.q) :
 ∃ w9,w.frozen? ⟨S.gs,7,none⟩=false∧w.frozen? ⟨S.gs,8,none⟩=false∧w.frozen? ⟨S.gs,9,none⟩=false ∧
  ((w.setCell ⟨S.gs,7,none⟩ (.bool d.neg)).setCell ⟨S.gs,8,none⟩ (.slice d.a d.la.length d.ca)).setCell ⟨S.gs,9,none⟩ (.slice d.b d.lb.length d.cb)=w9∧SolM S { s with lv:=d } ent w9∧Only w w9 S.gs:=by
 obtain⟨w9,f0,f1,f2,e9,f,o9⟩:=h.b.setLev h.vaU h.vmU he hd;exact⟨w9,f0,f1,f2,e9,⟨f,h.act.far (fun g' c=>by have:=h.act.block c;have:=h.b.hs;omega) o9,h.mul.far (fun g' c=>by have:=h.mul.block c;have:=h.b.hs;omega) o9,fun x hx=>(h.mf x hx).only_blk h.b.blk (SolB.noDig h.vaU h.vmU he) o9⟩,o9⟩
theorem SolM.setM (h:SolM S s ent w){k:Nat}(hk:k<s.dm.length){d:FrD}(hd:FV w d.v d.q) :
 ∃ g c w9,s.vm=.slice (some ⟨g,0,none⟩) s.dm.length c∧w.frozen? ⟨g,k*3,none⟩=false∧w.frozen? ⟨g,k*3+1,none⟩=false∧w.frozen? ⟨g,k*3+2,none⟩=false ∧
  ((w.setCell ⟨g,k*3,none⟩ (.bool d.neg)).setCell ⟨g,k*3+1,none⟩ (.slice d.a d.la.length d.ca)).setCell ⟨g,k*3+2,none⟩ (.slice d.b d.lb.length d.cb)=w9∧SolM S { s with dm:=s.dm.set k d } ent w9∧Only w w9 g∧S.W s.vm g:=by
 obtain⟨g,c,n,w9,ev,hg,hB,hn,f0,f1,f2,e9,j,o9⟩:=h.mul.store hk d;have f:s.vm.ownBlock=some g:=by rw[ev];rfl
 refine⟨g,c,w9,ev,f0,f1,f2,e9,⟨h.b.far hg hB hn o9,h.act.far (fun g' l=>?_) o9,j,fun x hx=>?_⟩,o9,.inr (.inr f)⟩
 · obtain⟨m,k1,k2⟩:=h.act.2 g' l;exact k1.ne_type hB (by decide)
 · rcases List.mem_or_eq_of_mem_set hx with hx | rfl
   · exact (h.mf x hx).only_blk hB hn o9
   · exact hd.only_blk hB hn o9
end
theorem q7 {w:World}{ops:Array Oper}{o:Oper}{a:Act}{K:Act→World→Prop}{Q:Exit→Act→World→Prop}{E:Prop}(hgd:o.guard=none){T:TypeId}(s x:Operand)
 (ho:o.op=.call { callee:=.builtin .append,args:=#[s,x],argTypes:=#[T,T] }) (hty:o.type=T) {v u v':Value} {w':World} (hs:a.eval s=v) (hx:a.eval x=u)
 (hr:(Builtin.append_ #[T,T] T #[v,u]).run Tryz.prog w=.ok v' w') (h:K (a.put o.dst v') w') :
 if Region.wanted o (yielded ops a.tmps)=true then Oper.wp Tryz.prog o a w K Q else E:=by
 have hw:Region.wanted o (yielded ops a.tmps)=true:=by simp[Region.wanted,hgd]
 rw[if_pos hw]
 unfold Oper.wp execOp
 simp only[ho,hty,resolve,invoke,builtin,Sem.run_bind,Sem.run_pure,Result.andThen_ok,List.map_toArray,List.map_cons,List.map_nil,hs,hx,hr]
 exact h
theorem D7 {ops:Array Oper}{rest:List Oper}{o:Oper}{a:Act}{Q:Exit→Act→World→Prop}(hgd:o.guard=none){T:TypeId}(hty:o.type=T) (s x:Operand)
 (ho:o.op=.call { callee:=.builtin .append,args:=#[s,x],argTypes:=#[T,T] }) {w:World} {v u v':Value} {w':World} (hs:a.eval s=v) (hx:a.eval x=u)
 (hr:(Builtin.append_ #[T,T] T #[v,u]).run Tryz.prog w=.ok v' w') (h:wpList Tryz.prog ops Q rest (a.put o.dst v') w'):wpList Tryz.prog ops Q (o::rest) a w:=by
 refine wpList_plain hgd fun K hK=>?_
 unfold Oper.wp execOp
 simp only[ho,hty,resolve,invoke,builtin,Sem.run_bind,Sem.run_pure,Result.andThen_ok,List.map_toArray,List.map_cons,List.map_nil,hs,hx,hr]
 exact hK _ _ h
theorem OwnQ.xo {w:World}{base g n c:Nat}{ds:List FrD}(h:OwnQ w base (.slice (some ⟨g,0,none⟩) n c) ds):n=ds.length∧base≤g∧XO w g c ds:=by
 rcases h.1.2 with ⟨h0,_⟩ | ⟨g',j,d,e,hb,hg,hn,hm,hs,ht⟩
 · cases h0
 · cases e
   have f:maxLen=9223372036854775807:=rfl;obtain⟨b,k1,k2⟩:=h.2 g rfl;have hB:Blk w g 28 d:=hg
   have ec:b=d:=by
    unfold Blk at k1 hB;rw[hB] at k1
    injection k1 with k1
    injection k1 with k1 _ _
    exact k1.symm
   subst ec;exact⟨rfl,hb,b,k1,k2,hn,by omega,ht,by rw[hs];omega⟩
theorem OwnQ.some_of {w:World}{base:Nat}{v:Value}{ds:List FrD}(h:OwnQ w base v ds) (hv:v≠.slice none 0 0):∃ g c,v=.slice (some ⟨g,0,none⟩) ds.length c:=by
 rcases h.1.2 with ⟨h0,_⟩ | ⟨g',b,d,e,_⟩
 · exact absurd h0 hv
 · exact⟨g',b,e⟩
theorem FL.cellsOf {w:World}{ad:Addr}{c:Nat}{ds:List FrD}(h:FL w (some ad) c ds) (j:Nat) (u:Value) (hj:(ds.flatMap FrD.cells)[j]?=some u):w.cell? (ad.add j)=some u:=by
 have hl:=(a2e.1 hj).1;rw[F0] at hl;obtain⟨a,e,h1,h2⟩:=h.row.2.2 (j / 3) (by omega)
 cases e
 have h3:=dW ds (j / 3) (j % 3) (by omega) (by omega);rw[show j / 3*3+j % 3=j by omega,hj] at h3;have:=h2 (j % 3) u h3.symm
 rwa [show j / 3*3+j % 3=j by omega] at this
theorem uG (w:World) (g c:Nat) (ad:Addr):(Builtin.append_ #[22,22] 22 #[.slice (some ⟨g,0,none⟩) 0 0,.slice (some ad) 0 c]).run Tryz.prog w=.ok (.slice (some ⟨g,0,none⟩) 0 0) w:=by
 obtain⟨i,hi,f,d,b⟩:=info_parts L5
 simp[Builtin.append_,run_underlying Tryz.underlying22,sizeOf,typeInfo,hi,Builtin.lenOf,Builtin.firstCells,loadCells,loadCellsFrom,storeCells]
theorem OwnQ.empty_at {w:World}{g:Nat}(hB:Blk w g 28 #[]){base:Nat}(hb:base≤g):OwnQ w base (.slice (some ⟨g,0,none⟩) 0 0) [] :=
 ⟨⟨rfl,.inr ⟨g,0,#[],rfl,hb,hB,a1u _,by decide,rfl,rfl⟩⟩,fun g' hg=>by
  simp[Value.ownBlock] at hg
  subst hg;exact⟨_,hB,fun i x=>by simp⟩⟩
theorem M0 {w:World}{gE:Nat}(hB:Blk w gE 28 #[]){A:Option Addr}{c:Nat}{ds:List FrD}(h:FL w A c ds) (hn:ds.length≤1000000000000):∃ g cx w',(Builtin.append_ #[22,22] 22 #[.slice (some ⟨gE,0,none⟩) 0 0,.slice A ds.length c]).run Tryz.prog w=.ok (.slice (some ⟨g,0,none⟩) ds.length cx) w' ∧
 OwnQ w' gE (.slice (some ⟨g,0,none⟩) ds.length cx) ds∧XO w' g cx ds∧AllFV w' ds∧gE≤g∧Below w.heap.size w w':=by
 have hE:=OwnQ.empty_at hB (a1u gE);have r:=hB.lt
 cases ds with
 | nil =>
  refine⟨gE,0,w,?_,hE,hE.xo.2.2,fun d hd=>by simp at hd,a1u _,a3t _ _⟩
  cases A with
  | none=>exact nK w gE c
  | some ad=>exact uG w gE c ad
 | cons d ds =>
  obtain⟨ad,rfl,-⟩:=h.row.2.2 0 (by simp);have b:=h.cellsOf;have p:0<(d::ds).length:=by simp
  generalize hds:d::ds=es at *
  obtain⟨v',w',hr,ho,hg⟩:=X3 w gE _ [] hE ad c es (fun j u hj=>b j u hj) (by simpa using hn) (by omega);obtain⟨i,hi,n,o,l⟩:=info_parts L5;have q:maxLen=9223372036854775807:=rfl;have m:∀ k,k≤1000000000000→k*56≤140737488355328:=fun k hk=>by omega
  have f:=run_append_grow (P:=Tryz.prog) w 22 22 28 i _ Tryz.underlying22 hi n ⟨gE,0,none⟩ 0 0 [] (by simp) (by simp) ad es.length c (es.flatMap FrD.cells) (by rw[o];exact F0 es) b (by omega) (by omega) (growslice_fits (by omega) (by rw[l];exact m _ (by omega)));rw[hr] at f
  injection f with e1 e2
  subst e1;rw[List.nil_append] at ho;obtain⟨e3,h1,h2⟩:=ho.xo
  have bN:Below w.heap.size w w':=by
   rw[e2];exact (a3t w.heap.size w).drew.alloc (a1u _) _
  rw[show 0+es.length=es.length by omega] at hr ho h2;exact⟨_,_,w',hr,ho,h2,fun x hx=>(h.fv x hx).below bN,h1,bN⟩
theorem infoCon:(Tryz.prog.info? 85).map (fun i=>(i.zero,i.size,i.bytes))=some (some (.agg #[.slice none 0 0,.bool false,.slice none 0 0,.slice none 0 0]),4,80):=by kernel_rfl
def OwnC (w:World) (base:Nat) (v:Value) (cs:List CoD):Prop:=OwnG 85 4 iU w base v cs.length (cs.flatMap CoD.cells)
theorem OwnC.nil (w:World) (base:Nat):OwnC w base (.slice none 0 0) []:=OwnG.nil w base
theorem OwnC.below {w w':World}{base:Nat}{v:Value}{cs:List CoD}(h:OwnC w base v cs) (hb:Below w.heap.size w w'):OwnC w' base v cs:=OwnG.below h hb
theorem sF (d:CoD):∀ u∈d.cells,iU u:=fun u hu x e=>by
 subst e
 simp[CoD.cells] at hu
theorem zX (cs:List CoD):AllPL iU (cs.flatMap CoD.cells):=fun u hu=>by
 obtain⟨d,_,hd⟩:=List.mem_flatMap.1 hu;exact sF d u hd
theorem con4:∀ (ds:List CoD) (j i:Nat) (hj:j<ds.length),i<4→(ds.flatMap CoD.cells)[j*4+i]?=(ds[j]).cells[i]?
 | d::ds,0,i,_,hi=>by
  rw[List.flatMap_cons,a2q (by simp[CoD.cells];omega)]
  simp
 | d::ds,j+1,i,hj,hi=>by
  rw[List.flatMap_cons,a2b (by simp[CoD.cells];omega)];have e:(j+1)*4+i-d.cells.length=j*4+i:=by simp[CoD.cells];omega
  rw[e,con4 ds j i (by simpa using hj) hi]
  rfl
theorem run_appC (w:World) (base:Nat) (v:Value) (cs:List CoD) (hown:OwnC w base v cs) (ad:Addr) (c:Nat) (d:CoD) (hnews:∀ j u,d.cells[j]?=some u→w.cell? (ad.add j)=some u) (h63:cs.length+1≤1000000000000) (hbase:base≤w.heap.size) :
 ∃ v' w',(Builtin.append_ #[79,79] 79 #[v,.slice (some ad) 1 c]).run Tryz.prog w=.ok v' w'∧OwnC w' base v' (cs++[d])∧w.grownBy w' v.ownBlock:=by
 obtain⟨v',w',h1,h2,h3⟩:=X4 (P:=iU) w base v cs.length _ Tryz.underlying79 infoCon rfl (by decide) (fun i u hi x e=>by
  subst e
  match i with
  | 0=>injection hi with hi;cases hi
  | 1=>injection hi with hi;cases hi
  | 2=>injection hi with hi;cases hi
  | 3=>injection hi with hi;cases hi
  | i+4=>simp[Value.cells] at hi) (by decide) hown ad 1 c d.cells (by decide) rfl hnews (fun u hu=>by
   simp only[CoD.cells,a3i,List.not_mem_nil,or_false] at hu
   rcases hu with rfl | rfl | rfl | rfl <;> rfl) (sF d) h63 hbase (zX cs)
 refine⟨v',w',h1,?_,h3⟩;unfold OwnC;rw[a1x,List.flatMap_append]
 simpa using h2
theorem OwnC.srow {w:World}{base:Nat}{v:Value}{cs:List CoD}(h:OwnC w base v cs):∃ A c,v=.slice A cs.length c∧Srow w 4 CoD.cells A c cs∧∀ a,A=some a→base≤a.block∧a.block<w.heap.size∧∃ cur,Blk w a.block 85 cur:=by
 have b:maxLen=9223372036854775807:=rfl
 rcases h.1.2 with ⟨rfl,h0⟩ | ⟨g,cap,cur,rfl,hb,hg,hn,hm,hs,ht⟩
 · have:cs=[]:=a2a h0;subst this;exact⟨none,0,rfl,⟨by simp,by omega,fun j hj=>by simp at hj⟩,fun a e=>by cases e⟩
 · have hB:Blk w g 85 cur:=hg;refine⟨_,cap,rfl,⟨hn,by omega,fun j hj=>⟨_,rfl,hB.lt,fun i u hu=>?_⟩⟩,fun a e=>by cases e;exact⟨hb,hB.lt,cur,hB⟩⟩
   have hi:i<4:=by
    have:=(a2e.1 hu).1
    simpa [CoD.cells] using this
   rw[D6,World.ownsRow.cellAt (n:=cs.length) (base:=base) (e:=85) (size:=4) (cap:=cap) h.1 (j*4+i) (by omega),con4 cs j i hj hi];exact hu
abbrev a4p:=@Blk.ne_type
end Go.Proofs.YtjhkapjadfpimaaGreat
