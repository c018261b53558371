/- Contracts of functions, for the law. -/
import Derived.Test.YtjhkapjadfpimaaNAlg
import Derived.Test.YtjhkapjadfpimaaFDiv
import Derived.Test.YtjhkapjadfpimaaMOne
import Derived.Test.YtjhkapjadfpimaaMAppQ
import Derived.Test.YtjhkapjadfpimaaMMake
import Derived.Test.YtjhkapjadfpimaaNPaid
import Derived.Deep.RegionHeld3
namespace Go.Proofs.Ytjhkapjadfpimaa
set_option linter.unusedVariables false
set_option linter.unusedSimpArgs false
open Go.RowKit Plain
theorem Srow.far {α:Type}{C:Nat}{cells:α→List Value}{w w':World}{g c:Nat}{A:Option Addr}{ds:List α}(h:Srow w C cells A c ds) (hne:∀ a,A=some a→a.block≠g) (ho:Only w w' g):Srow w' C cells A c ds :=
 ⟨h.1,h.2.1,fun j hj=>by
  obtain⟨a,e,h1,h2⟩:=h.2.2 j hj;have hk:=ho.block a.block h1 (by have:=hne a e;simpa using this)
  exact⟨a,e,Nat.lt_of_lt_of_le h1 ho.size,fun i u hu=>by
   rw[World.cell?_of_block (w:=w) (by rw[block_add];exact hk)];exact h2 i u hu⟩⟩
theorem FL.far {w w':World}{g c:Nat}{t:TypeId}{cs:Array Value}{A:Option Addr}{ds:List FrD}(h:FL w A c ds) (hne:∀ a,A=some a→a.block≠g) (hB:Blk w g t cs) (hd:NoDig cs) (ho:Only w w' g):FL w' A c ds :=
 ⟨h.row.far hne ho,fun d hx=>(h.fv d hx).only_blk hB hd ho⟩
structure CoD where
 r:RwD
 l:FrD
def CoD.cells (d:CoD):List Value:=[.slice d.r.a d.r.ds.length d.r.c,.bool d.l.neg,.slice d.l.a d.l.la.length d.l.ca,.slice d.l.b d.l.lb.length d.l.cb]
def CoD.con (d:CoD):Con:=⟨d.r.qs,d.l.q⟩
structure AllC (w:World) (Av:Nat→Prop) (A:Option Addr) (c:Nat) (cs:List CoD):Prop where
 row:Srow w 4 CoD.cells A c cs
 fl:∀ d∈cs,FL w d.r.a d.r.c d.r.ds
 fv:∀ d∈cs,FV w d.l.v d.l.q
 away:∀ a,A=some a→¬ Av a.block
 awayr:∀ d∈cs,∀ a,d.r.a=some a→¬ Av a.block
section
variable {w w':World}{Av:Nat→Prop}{A:Option Addr}{c:Nat}{cs:List CoD}
theorem AllC.below (h:AllC w Av A c cs) (hb:Below w.heap.size w w'):AllC w' Av A c cs :=
 ⟨h.row.below hb,fun d hd=>(h.fl d hd).below hb,fun d hd=>(h.fv d hd).below hb,h.away,h.awayr⟩
theorem AllC.only {g:Nat}{t:TypeId}{cur:Array Value}(h:AllC w Av A c cs) (hg:Av g) (hB:Blk w g t cur) (hd:NoDig cur) (ho:Only w w' g):AllC w' Av A c cs :=
 ⟨h.row.far (fun a e x=>h.away a e (by rw[x];exact hg)) ho,fun d hx=>(h.fl d hx).far (fun a e x=>h.awayr d hx a e (by rw[x];exact hg)) hB hd ho,fun d hx=>(h.fv d hx).only_blk hB hd ho,h.away,h.awayr⟩
theorem AllC.len (h:AllC w Av A c cs):cs.length≤c∧c≤9223372036854775807:=⟨h.row.1,h.row.2.1⟩
theorem AllC.at (h:AllC w Av A c cs){k:Nat}(hk:k<cs.length) :
 ∃ a d,A=some a∧a.block<w.heap.size∧w.cell? (a.add (k*4))=some (.slice d.r.a d.r.ds.length d.r.c)∧w.cell? ⟨(a.add (k*4)).block,(a.add (k*4)).off+1,none⟩=some (.bool d.l.neg) ∧
  w.cell? ⟨(a.add (k*4)).block,(a.add (k*4)).off+2,none⟩=some (.slice d.l.a d.l.la.length d.l.ca)∧w.cell? ⟨(a.add (k*4)).block,(a.add (k*4)).off+3,none⟩=some (.slice d.l.b d.l.lb.length d.l.cb) ∧
  FL w d.r.a d.r.c d.r.ds∧FV w d.l.v d.l.q∧Hid (cs[k]?=some d):=by
 obtain⟨a,e,h1,h2⟩:=h.row.2.2 k hk
 have hc:∀ i u,(cs[k]).cells[i]?=some u→w.cell? ((a.add (k*4)).add i)=some u:=fun i u hu=>by
  rw[add_add];exact h2 i u hu
 exact⟨a,cs[k],e,h1,cell0 (hc 0 _ rfl),cellK (hc 1 _ rfl) (by decide),cellK (hc 2 _ rfl) (by decide),cellK (hc 3 _ rfl) (by decide),h.fl _ (List.getElem_mem hk),h.fv _ (List.getElem_mem hk),List.getElem?_eq_getElem hk⟩
end
def XO (w:World) (g c:Nat) (ds:List FrD):Prop :=
 ∃ cur,Blk w g 28 cur∧NoDig cur∧ds.length≤c∧c≤9223372036854775807∧cur.toList.take (ds.length*3)=ds.flatMap FrD.cells∧ds.length*3≤cur.size
section
variable {w w':World}{g c:Nat}{ds:List FrD}
theorem XO.below (h:XO w g c ds) (hb:Below w.heap.size w w'):XO w' g c ds:=by
 obtain⟨cur,h1,h2⟩:=h;exact⟨cur,h1.keep hb,h2⟩
theorem XO.only {g':Nat}(h:XO w g c ds) (ho:Only w w' g') (hne:g≠g'):XO w' g c ds:=by
 obtain⟨cur,h1,h2⟩:=h;exact⟨cur,h1.only ho hne,h2⟩
theorem XO.cellOf {cur:Array Value}(h1:Blk w g 28 cur) (h5:cur.toList.take (ds.length*3)=ds.flatMap FrD.cells){k i:Nat}{d:FrD}{u:Value}(hk:ds[k]?=some d) (hu:d.cells[i]?=some u):w.cell? ⟨g,k*3+i,none⟩=some u:=by
 have hkl:=(List.getElem?_eq_some_iff.1 hk).1;have e:=(List.getElem?_eq_some_iff.1 hk).2
 have hi:i<3:=by
  have:=(List.getElem?_eq_some_iff.1 hu).1
  simpa [FrD.cells] using this
 have hf:=flat3 ds k i hkl hi;rw[e,hu,←h5,List.getElem?_take,if_pos (by omega)] at hf;rw[Blk.cell h1,←Array.getElem?_toList];exact hf
theorem XO.fl (h:XO w g c ds) (hv:∀ d∈ds,FV w d.v d.q):FL w (some ⟨g,0,none⟩) c ds:=by
 obtain⟨cur,h1,h2,h3,h4,h5,h6⟩:=h;refine⟨⟨h3,h4,fun j hj=>⟨_,rfl,Blk.lt h1,fun i u hu=>?_⟩⟩,hv⟩;rw[add_zero_];exact XO.cellOf h1 h5 (List.getElem?_eq_getElem hj) hu
theorem XO.store (h:XO w g c ds){k:Nat}(hk:k<ds.length) (d:FrD) :
 ∃ w9,w.frozen? ⟨g,k*3,none⟩=false∧w.frozen? ⟨g,k*3+1,none⟩=false∧w.frozen? ⟨g,k*3+2,none⟩=false ∧
  ((w.setCell ⟨g,k*3,none⟩ (.bool d.neg)).setCell ⟨g,k*3+1,none⟩ (.slice d.a d.la.length d.ca)).setCell ⟨g,k*3+2,none⟩ (.slice d.b d.lb.length d.cb)=w9∧XO w9 g c (ds.set k d)∧Only w w9 g:=by
 obtain⟨cur,h1,h2,h3,h4,h5,h6⟩:=h;refine⟨_,Blk.free h1 _,Blk.free h1 _,Blk.free h1 _,rfl,⟨_,((Blk.set h1 _ _).set _ _).set _ _,?_,by rw[List.length_set];exact h3,h4,?_,by simp only[Array.size_setIfInBounds,List.length_set];exact h6⟩,(((Only.refl w g).set _ _).set _ _).set _ _⟩
 · intro i x hi
   simp only[Array.getElem?_setIfInBounds] at hi
   repeat' split at hi
   all_goals first
    | (injection hi with hi;cases hi)
    | cases hi
    | exact h2 i x hi
 · rw[flat_set hk,←h5,List.length_set]
   simp only[Array.toList_setIfInBounds,List.take_set]
theorem XO.cells (h:XO w g c ds){k:Nat}{d:FrD}(hk:ds[k]?=some d):w.cell? ⟨g,k*3,none⟩=some (.bool d.neg)∧w.cell? ⟨g,k*3+1,none⟩=some (.slice d.a d.la.length d.ca)∧w.cell? ⟨g,k*3+2,none⟩=some (.slice d.b d.lb.length d.cb):=by
 obtain⟨cur,h1,h2,h3,h4,h5,h6⟩:=h;exact⟨XO.cellOf h1 h5 (i:=0) hk rfl,XO.cellOf h1 h5 (i:=1) hk rfl,XO.cellOf h1 h5 (i:=2) hk rfl⟩
end
structure Sv where
 n:Nat
 m:Nat
 A:Option Addr
 ca:Nat
 cs:List CoD
 gs:Nat
 gx:Nat
 cx:Nat
 R:Nat
 sum:FrD
def Sv.Av (S:Sv) (g:Nat):Prop:=g=S.gs∨g=S.gx∨S.R≤g
structure SolB (S:Sv) (dx:List FrD) (lv:FrD) (va vm ent:Value) (w:World):Prop where
 blk:Blk w S.gs 100 #[.int .i64 (S.n:Int),.int .i64 (S.m:Int),.slice S.A S.cs.length S.ca,.slice (some ⟨S.gx,0,none⟩) dx.length S.cx,.bool S.sum.neg,.slice S.sum.a S.sum.la.length S.sum.ca,.slice S.sum.b S.sum.lb.length S.sum.cb,.bool lv.neg,.slice lv.a lv.la.length lv.ca,.slice lv.b lv.lb.length lv.cb,va,vm,ent]
 sum:FV w S.sum.v S.sum.q
 lev:FV w lv.v lv.q
 xo:XO w S.gx S.cx dx
 xf:AllFV w dx
 all:AllC w S.Av S.A S.ca S.cs
 hs:S.gs<S.R
 hx:S.gx<S.R
 hR:S.R≤w.heap.size
 ne:S.gs≠S.gx
theorem AllFV.below {w w':World}{ds:List FrD}(h:AllFV w ds) (hb:Below w.heap.size w w'):AllFV w' ds:=fun d hd=>(h d hd).below hb
theorem AllFV.only {w w':World}{g:Nat}{t:TypeId}{cur:Array Value}{ds:List FrD}(h:AllFV w ds) (hB:Blk w g t cur) (hd:NoDig cur) (ho:Only w w' g):AllFV w' ds:=fun d hx=>(h d hx).only_blk hB hd ho
section
variable {S:Sv}{dx:List FrD}{lv:FrD}{va vm ent:Value}{w w':World}
theorem SolB.below (h:SolB S dx lv va vm ent w) (hb:Below w.heap.size w w'):SolB S dx lv va vm ent w' :=
 ⟨h.blk.keep hb,h.sum.below hb,h.lev.below hb,h.xo.below hb,h.xf.below hb,h.all.below hb,h.hs,h.hx,Nat.le_trans h.hR hb.size,h.ne⟩
theorem SolB.far {g:Nat}{t:TypeId}{cur:Array Value}(h:SolB S dx lv va vm ent w) (hg:S.R≤g) (hB:Blk w g t cur) (hd:NoDig cur) (ho:Only w w' g):SolB S dx lv va vm ent w' :=
 ⟨h.blk.only ho (by have:=h.hs;omega),h.sum.only_blk hB hd ho,h.lev.only_blk hB hd ho,h.xo.only ho (by have:=h.hx;omega),h.xf.only hB hd ho,h.all.only (.inr (.inr hg)) hB hd ho,h.hs,h.hx,Nat.le_trans h.hR ho.size,h.ne⟩
theorem SolB.cells (h:SolB S dx lv va vm ent w):w.cell? ⟨S.gs,0,none⟩=some (.int .i64 (S.n:Int))∧w.cell? ⟨S.gs,1,none⟩=some (.int .i64 (S.m:Int))∧w.cell? ⟨S.gs,2,none⟩=some (.slice S.A S.cs.length S.ca)∧w.cell? ⟨S.gs,3,none⟩=some (.slice (some ⟨S.gx,0,none⟩) dx.length S.cx)∧w.cell? ⟨S.gs,4,none⟩=some (.bool S.sum.neg)∧w.cell? ⟨S.gs,5,none⟩=some (.slice S.sum.a S.sum.la.length S.sum.ca)∧w.cell? ⟨S.gs,6,none⟩=some (.slice S.sum.b S.sum.lb.length S.sum.cb)∧w.cell? ⟨S.gs,7,none⟩=some (.bool lv.neg)∧w.cell? ⟨S.gs,8,none⟩=some (.slice lv.a lv.la.length lv.ca)∧w.cell? ⟨S.gs,9,none⟩=some (.slice lv.b lv.lb.length lv.cb)∧w.cell? ⟨S.gs,10,none⟩=some (va)∧w.cell? ⟨S.gs,11,none⟩=some (vm)∧w.cell? ⟨S.gs,12,none⟩=some (ent) :=
 ⟨Blk.cell h.blk 0,Blk.cell h.blk 1,Blk.cell h.blk 2,Blk.cell h.blk 3,Blk.cell h.blk 4,Blk.cell h.blk 5,Blk.cell h.blk 6,Blk.cell h.blk 7,Blk.cell h.blk 8,Blk.cell h.blk 9,Blk.cell h.blk 10,Blk.cell h.blk 11,Blk.cell h.blk 12⟩
theorem SolB.noDig (ha:∀ x,va≠.int .u32 x) (hm:∀ x,vm≠.int .u32 x) (he:∀ x,ent≠.int .u32 x):NoDig #[.int .i64 (S.n:Int),.int .i64 (S.m:Int),.slice S.A S.cs.length S.ca,.slice (some ⟨S.gx,0,none⟩) dx.length S.cx,.bool S.sum.neg,.slice S.sum.a S.sum.la.length S.sum.ca,.slice S.sum.b S.sum.lb.length S.sum.cb,.bool lv.neg,.slice lv.a lv.la.length lv.ca,.slice lv.b lv.lb.length lv.cb,va,vm,ent] :=
 NoDigL.noDig (l:=[.int .i64 (S.n:Int),.int .i64 (S.m:Int),.slice S.A S.cs.length S.ca,.slice (some ⟨S.gx,0,none⟩) dx.length S.cx,.bool S.sum.neg,.slice S.sum.a S.sum.la.length S.sum.ca,.slice S.sum.b S.sum.lb.length S.sum.cb,.bool lv.neg,.slice lv.a lv.la.length lv.ca,.slice lv.b lv.lb.length lv.cb,va,vm,ent]) (fun u hu x e=>by
  subst e
  simp only[List.mem_cons,List.not_mem_nil,or_false] at hu
  rcases hu with h | h | h | h | h | h | h | h | h | h | h | h | h
  all_goals first
   | exact ha _ h.symm
   | exact hm _ h.symm
   | exact he _ h.symm
   | cases h) rfl
theorem SolB.setX (h:SolB S dx lv va vm ent w){k:Nat}(hk:k<dx.length){d:FrD}(hd:FV w d.v d.q) :
 ∃ w9,w.frozen? ⟨S.gx,k*3,none⟩=false∧w.frozen? ⟨S.gx,k*3+1,none⟩=false∧w.frozen? ⟨S.gx,k*3+2,none⟩=false ∧
  ((w.setCell ⟨S.gx,k*3,none⟩ (.bool d.neg)).setCell ⟨S.gx,k*3+1,none⟩ (.slice d.a d.la.length d.ca)).setCell ⟨S.gx,k*3+2,none⟩ (.slice d.b d.lb.length d.cb)=w9∧SolB S (dx.set k d) lv va vm ent w9∧Only w w9 S.gx:=by
 obtain⟨w9,f0,f1,f2,e9,hx9,o9⟩:=h.xo.store hk d;obtain⟨cur,hB,hn,-⟩:=h.xo;refine⟨w9,f0,f1,f2,e9,⟨?_,h.sum.only_blk hB hn o9,h.lev.only_blk hB hn o9,hx9,fun x hx=>?_,h.all.only (.inr (.inl rfl)) hB hn o9,h.hs,h.hx,Nat.le_trans h.hR o9.size,h.ne⟩,o9⟩
 · rw[List.length_set];exact h.blk.only o9 h.ne
 · rcases List.mem_or_eq_of_mem_set hx with hx | rfl
   · exact (h.xf x hx).only_blk hB hn o9
   · exact hd.only_blk hB hn o9
theorem SolB.setLev (h:SolB S dx lv va vm ent w) (ha:∀ x,va≠.int .u32 x) (hm:∀ x,vm≠.int .u32 x) (he:∀ x,ent≠.int .u32 x){d:FrD}(hd:FV w d.v d.q) :
 ∃ w9,w.frozen? ⟨S.gs,7,none⟩=false∧w.frozen? ⟨S.gs,8,none⟩=false∧w.frozen? ⟨S.gs,9,none⟩=false ∧
  ((w.setCell ⟨S.gs,7,none⟩ (.bool d.neg)).setCell ⟨S.gs,8,none⟩ (.slice d.a d.la.length d.ca)).setCell ⟨S.gs,9,none⟩ (.slice d.b d.lb.length d.cb)=w9∧SolB S dx d va vm ent w9∧Only w w9 S.gs:=by
 have hn:=SolB.noDig (S:=S) (dx:=dx) (lv:=lv) ha hm he;have o9:=(((Only.refl w S.gs).set 7 (.bool d.neg)).set 8 (.slice d.a d.la.length d.ca)).set 9 (.slice d.b d.lb.length d.cb);have b9:=((h.blk.set 7 (.bool d.neg)).set 8 (.slice d.a d.la.length d.ca)).set 9 (.slice d.b d.lb.length d.cb);exact⟨_,Blk.free h.blk _,Blk.free h.blk _,Blk.free h.blk _,rfl,⟨b9,h.sum.only_blk h.blk hn o9,hd.only_blk h.blk hn o9,h.xo.only o9 (Ne.symm h.ne),h.xf.only h.blk hn o9,h.all.only (.inl rfl) h.blk hn o9,h.hs,h.hx,Nat.le_trans h.hR o9.size,h.ne⟩,o9⟩
theorem SolB.setAct (h:SolB S dx lv va vm ent w) (ha:∀ x,va≠.int .u32 x) (hm:∀ x,vm≠.int .u32 x) (he:∀ x,ent≠.int .u32 x) (u:Value) :
 ∃ w9,w.frozen? ⟨S.gs,10,none⟩=false∧w.setCell ⟨S.gs,10,none⟩ u=w9∧SolB S dx lv u vm ent w9∧Only w w9 S.gs:=by
 have hn:=SolB.noDig (S:=S) (dx:=dx) (lv:=lv) ha hm he;have o9:=(Only.refl w S.gs).set 10 u;exact⟨_,Blk.free h.blk _,rfl,⟨h.blk.set 10 u,h.sum.only_blk h.blk hn o9,h.lev.only_blk h.blk hn o9,h.xo.only o9 (Ne.symm h.ne),h.xf.only h.blk hn o9,h.all.only (.inl rfl) h.blk hn o9,h.hs,h.hx,Nat.le_trans h.hR o9.size,h.ne⟩,o9⟩
theorem SolB.setMul (h:SolB S dx lv va vm ent w) (ha:∀ x,va≠.int .u32 x) (hm:∀ x,vm≠.int .u32 x) (he:∀ x,ent≠.int .u32 x) (u:Value) :
 ∃ w9,w.frozen? ⟨S.gs,11,none⟩=false∧w.setCell ⟨S.gs,11,none⟩ u=w9∧SolB S dx lv va u ent w9∧Only w w9 S.gs:=by
 have hn:=SolB.noDig (S:=S) (dx:=dx) (lv:=lv) ha hm he;have o9:=(Only.refl w S.gs).set 11 u;exact⟨_,Blk.free h.blk _,rfl,⟨h.blk.set 11 u,h.sum.only_blk h.blk hn o9,h.lev.only_blk h.blk hn o9,h.xo.only o9 (Ne.symm h.ne),h.xf.only h.blk hn o9,h.all.only (.inl rfl) h.blk hn o9,h.hs,h.hx,Nat.le_trans h.hR o9.size,h.ne⟩,o9⟩
theorem SolB.setEnt (h:SolB S dx lv va vm ent w) (ha:∀ x,va≠.int .u32 x) (hm:∀ x,vm≠.int .u32 x) (he:∀ x,ent≠.int .u32 x) (u:Value) :
 ∃ w9,w.frozen? ⟨S.gs,12,none⟩=false∧w.setCell ⟨S.gs,12,none⟩ u=w9∧SolB S dx lv va vm u w9∧Only w w9 S.gs:=by
 have hn:=SolB.noDig (S:=S) (dx:=dx) (lv:=lv) ha hm he;have o9:=(Only.refl w S.gs).set 12 u;exact⟨_,Blk.free h.blk _,rfl,⟨h.blk.set 12 u,h.sum.only_blk h.blk hn o9,h.lev.only_blk h.blk hn o9,h.xo.only o9 (Ne.symm h.ne),h.xf.only h.blk hn o9,h.all.only (.inl rfl) h.blk hn o9,h.hs,h.hx,Nat.le_trans h.hR o9.size,h.ne⟩,o9⟩
end
theorem OwnQ.far {w w':World}{base g:Nat}{v:Value}{ds:List FrD}(h:OwnQ w base v ds) (hne:∀ g',v.ownBlock=some g'→g'≠g) (ho:Only w w' g):OwnQ w' base v ds:=by
 rcases h.1.2 with ⟨rfl,h0⟩ | ⟨g',cap,cur,rfl,hb,hg,hn,hm,hs,ht⟩
 · have:ds=[]:=List.eq_nil_of_length_eq_zero h0;subst this;exact OwnQ.nil _ _
 · have hB:Blk w g' 28 cur:=hg;have hne':g'≠g:=hne g' rfl;refine⟨⟨h.1.1,.inr ⟨g',cap,cur,rfl,hb,hB.only ho hne',hn,hm,hs,ht⟩⟩,fun g2 h2=>?_⟩;obtain⟨cur2,k1,k2⟩:=h.2 g2 h2;exact⟨cur2,k1.only ho (hne g2 h2),k2⟩
theorem OwnI.far {w w':World}{base g:Nat}{v:Value}{is:List Nat}(h:OwnI w base v is) (hne:∀ g',v.ownBlock=some g'→g'≠g) (ho:Only w w' g):OwnI w' base v is:=by
 rcases h.1.2 with ⟨rfl,h0⟩ | ⟨g',cap,cur,rfl,hb,hg,hn,hm,hs,ht⟩
 · have:is=[]:=List.eq_nil_of_length_eq_zero h0;subst this;exact OwnI.nil _ _
 · have hB:Blk w g' 3 cur:=hg;have hne':g'≠g:=hne g' rfl;refine⟨⟨h.1.1,.inr ⟨g',cap,cur,rfl,hb,hB.only ho hne',hn,hm,hs,ht⟩⟩,fun g2 h2=>?_⟩;obtain⟨cur2,k1,k2⟩:=h.2 g2 h2;exact⟨cur2,k1.only ho (hne g2 h2),k2⟩
theorem OwnQ.store {w:World}{base:Nat}{v:Value}{ds:List FrD}(h:OwnQ w base v ds){k:Nat}(hk:k<ds.length) (d:FrD) :
 ∃ (g c:Nat) (cur:Array Value) (w9:World),v=.slice (some ⟨g,0,none⟩) ds.length c∧base≤g∧Blk w g 28 cur∧NoDig cur∧w.frozen? ⟨g,k*3,none⟩=false∧w.frozen? ⟨g,k*3+1,none⟩=false∧w.frozen? ⟨g,k*3+2,none⟩=false ∧
  ((w.setCell ⟨g,k*3,none⟩ (.bool d.neg)).setCell ⟨g,k*3+1,none⟩ (.slice d.a d.la.length d.ca)).setCell ⟨g,k*3+2,none⟩ (.slice d.b d.lb.length d.cb)=w9∧OwnQ w9 base v (ds.set k d)∧Only w w9 g:=by
 rcases h.1.2 with ⟨rfl,h0⟩ | ⟨g,cap,cur,rfl,hb,hg,hn,hm,hs,ht⟩
 · omega
 · have hB:Blk w g 28 cur:=hg;obtain⟨cur2,k1,k2⟩:=h.2 g rfl
   have ec:cur2=cur:=by
    unfold Blk at k1 hB;rw[hB] at k1
    injection k1 with k1
    injection k1 with k1 _ _
    exact k1.symm
   subst ec;have b9:=((hB.set (k*3) (.bool d.neg)).set (k*3+1) (.slice d.a d.la.length d.ca)).set (k*3+2) (.slice d.b d.lb.length d.cb);refine⟨g,cap,cur2,_,rfl,hb,hB,k2,Blk.free hB _,Blk.free hB _,Blk.free hB _,rfl,⟨⟨?_,.inr ⟨g,cap,_,by rw[List.length_set],hb,b9,by rw[List.length_set];exact hn,hm,?_,?_⟩⟩,fun g2 h2=>?_⟩,(((Only.refl w g).set _ _).set _ _).set _ _⟩
   · rw[flat_len]
   · simp only[Array.size_setIfInBounds];exact hs
   · rw[flat_set hk,←ht,List.length_set]
     simp only[Array.toList_setIfInBounds,List.take_set]
   · simp[Value.ownBlock] at h2
     subst h2;refine⟨_,b9,?_⟩;intro i x hi
     simp only[Array.getElem?_setIfInBounds] at hi
     repeat' split at hi
     all_goals first
      | (injection hi with hi;cases hi)
      | cases hi
      | exact k2 i x hi
theorem OwnQ.notU {w:World}{base:Nat}{v:Value}{ds:List FrD}(h:OwnQ w base v ds):∀ x,v≠.int .u32 x:=by
 rcases h.1.2 with ⟨rfl,h0⟩ | ⟨g,cap,cur,rfl,-⟩ <;> intro x e <;> cases e
theorem OwnI.notU {w:World}{base:Nat}{v:Value}{is:List Nat}(h:OwnI w base v is):∀ x,v≠.int .u32 x:=by
 rcases h.1.2 with ⟨rfl,h0⟩ | ⟨g,cap,cur,rfl,-⟩ <;> intro x e <;> cases e
theorem OwnI.block {w:World}{base g:Nat}{v:Value}{is:List Nat}(h:OwnI w base v is) (hg:v.ownBlock=some g):base≤g:=OwnG.block h hg
structure Sm where
 dx:List FrD
 lv:FrD
 va:Value
 ia:List Nat
 vm:Value
 dm:List FrD
def Sm.st (s:Sm):St:=⟨s.dx.map FrD.q,s.lv.q,s.ia,s.dm.map FrD.q⟩
structure SolM (S:Sv) (s:Sm) (ent:Value) (w:World):Prop where
 b:SolB S s.dx s.lv s.va s.vm ent w
 act:OwnI w S.R s.va s.ia
 mul:OwnQ w S.R s.vm s.dm
 mf:AllFV w s.dm
theorem SolM.below {S:Sv}{s:Sm}{ent:Value}{w w':World}(h:SolM S s ent w) (hb:Below w.heap.size w w'):SolM S s ent w':=⟨h.b.below hb,h.act.below hb,h.mul.below hb,h.mf.below hb⟩
theorem Blk.ne_type {w:World}{g g':Nat}{t t':TypeId}{a b:Array Value}(h:Blk w g t a) (h':Blk w g' t' b) (ht:t≠t'):g≠g':=by
 rintro rfl;unfold Blk at h h';rw[h] at h'
 injection h' with h'
 injection h' with _ h' _
 exact ht h'
end Go.Proofs.Ytjhkapjadfpimaa
namespace Go.Proofs.Ytjhkapjadfpimaa
set_option linter.unusedVariables false
set_option linter.unusedSimpArgs false
open Go.RowKit Plain
attribute [local go_sem ↓] Go.wp_at_zero Go.wp_at_succ
def VarC (w:World) (g:Nat) (d:CoD):Prop:=Blk w g 103 #[.slice d.r.a d.r.ds.length d.r.c,.bool d.l.neg,.slice d.l.a d.l.la.length d.l.ca,.slice d.l.b d.l.lb.length d.l.cb]
section
variable {w w':World}{g:Nat}{d:CoD}
theorem VarC.below (h:VarC w g d) (hb:Below w.heap.size w w'):VarC w' g d:=Blk.keep h hb
theorem VarC.cells (h:VarC w g d):w.cell? ⟨g,0,none⟩=some (.slice d.r.a d.r.ds.length d.r.c)∧w.cell? ⟨g,1,none⟩=some (.bool d.l.neg)∧w.cell? ⟨g,2,none⟩=some (.slice d.l.a d.l.la.length d.l.ca)∧w.cell? ⟨g,3,none⟩=some (.slice d.l.b d.l.lb.length d.l.cb):=⟨Blk.cell h 0,Blk.cell h 1,Blk.cell h 2,Blk.cell h 3⟩
end
theorem new_con (w:World) (d:CoD):∃ wA wB,w.alloc (.cells #[.slice none 0 0,.bool false,.slice none 0 0,.slice none 0 0] 103)=wA∧wA.cell? ⟨w.heap.size,0,none⟩=some (.slice none 0 0)∧wA.cell? ⟨w.heap.size,1,none⟩=some (.bool false)∧wA.cell? ⟨w.heap.size,2,none⟩=some (.slice none 0 0)∧wA.cell? ⟨w.heap.size,3,none⟩=some (.slice none 0 0)∧wA.frozen? ⟨w.heap.size,0,none⟩=false∧wA.frozen? ⟨w.heap.size,1,none⟩=false∧wA.frozen? ⟨w.heap.size,2,none⟩=false∧wA.frozen? ⟨w.heap.size,3,none⟩=false ∧
 ((((wA.setCell ⟨w.heap.size,0,none⟩ (.slice d.r.a d.r.ds.length d.r.c)).setCell ⟨w.heap.size,1,none⟩ (.bool d.l.neg)).setCell ⟨w.heap.size,2,none⟩ (.slice d.l.a d.l.la.length d.l.ca)).setCell ⟨w.heap.size,3,none⟩ (.slice d.l.b d.l.lb.length d.l.cb))=wB∧VarC wB w.heap.size d∧Below w.heap.size w wB∧w.heap.size<wB.heap.size:=by
 obtain⟨wA,eA,bA,lA,BA⟩:=boxed w #[.slice none 0 0,.bool false,.slice none 0 0,.slice none 0 0] 103;have o9:=((((Only.refl wA w.heap.size).set 0 (.slice d.r.a d.r.ds.length d.r.c)).set 1 (.bool d.l.neg)).set 2 (.slice d.l.a d.l.la.length d.l.ca)).set 3 (.slice d.l.b d.l.lb.length d.l.cb);have b9:=(((BA.set 0 (.slice d.r.a d.r.ds.length d.r.c)).set 1 (.bool d.l.neg)).set 2 (.slice d.l.a d.l.la.length d.l.ca)).set 3 (.slice d.l.b d.l.lb.length d.l.cb);exact⟨wA,_,eA,Blk.cell BA 0,Blk.cell BA 1,Blk.cell BA 2,Blk.cell BA 3,Blk.free BA 0,Blk.free BA 1,Blk.free BA 2,Blk.free BA 3,rfl,b9,o9.to_below bA (Nat.le_refl _) bA.size,Nat.lt_of_lt_of_le lA o9.size⟩
theorem prods_dot (ds es:List FrD):sumR (prods ds es)=dotR (ds.map FrD.q) (es.map FrD.q):=by
 unfold prods dotR;rw[List.zipWith_map]
def MaybeQ (w:World) (g:Nat) (o:Option Nat) (q:Rat):Prop:=∃ d:FrD,VarQ w g d∧(o≠none→FV w d.v d.q∧d.q=q)
theorem MaybeQ.below {w w':World}{g:Nat}{o:Option Nat}{q:Rat}(h:MaybeQ w g o q) (hb:Below w.heap.size w w'):MaybeQ w' g o q:=by
 obtain⟨d,h1,h2⟩:=h;exact⟨d,h1.below hb,fun ho=>⟨(h2 ho).1.below hb,(h2 ho).2⟩⟩
theorem MaybeQ.zero {w:World}{g:Nat}(h:Blk w g 28 #[.bool false,.slice none 0 0,.slice none 0 0]) (q:Rat):MaybeQ w g none q:=⟨zeroD,h,fun ho=>absurd rfl ho⟩
theorem QFits.fr0 {K:Nat}{ds:List FrD}(h:QFits K (ds.map FrD.q)):∀ d∈ds,Fits K d.q:=fun d hd=>h _ (List.mem_map.2 ⟨d,hd,rfl⟩)
theorem dot_fits {K n:Nat}{a b:List Rat}(ha:QFits K a) (hb:QFits K b) (hn:a.length≤n):Fits (1+n*(K+K+1)) (dotR a b):=by
 unfold dotR;refine (fits_sum (k:=K+K) (fun q hq=>?_)).mono ?_
 · obtain⟨i,hi,rfl⟩:=List.mem_iff_getElem.1 hq;rw[List.getElem_zipWith];exact (ha _ (List.getElem_mem _)).mul (hb _ (List.getElem_mem _))
 · have h1:(List.zipWith (fun x y:Rat=>x*y) a b).length≤n:=by rw[List.length_zipWith];omega
   have:=Nat.mul_le_mul_right (K+K+1) h1;exact Nat.add_le_add_left this 1
end Go.Proofs.Ytjhkapjadfpimaa
namespace Go.Proofs.Ytjhkapjadfpimaa
set_option linter.unusedVariables false
set_option linter.unusedSimpArgs false
open Go.RowKit Plain
structure Trn (P:Nat→Prop) (w w':World):Prop where
 os:w'.os=w.os
 tape:w'.tape=w.tape
 output:w'.output=w.output
 size:w.heap.size≤w'.heap.size
 block:∀ k,k<w.heap.size→¬ P k→w'.heap[k]?=w.heap[k]?
 nd:∀ k,P k→∃ t cur,Blk w k t cur∧NoDig cur
section
variable {P:Nat→Prop}{w w1 w':World}
theorem Trn.refl (nd:∀ k,P k→∃ t cur,Blk w k t cur∧NoDig cur):Trn P w w:=⟨rfl,rfl,rfl,Nat.le_refl _,fun _ _ _=>rfl,nd⟩
theorem Trn.next (h:Trn P w w1) (hb:Below w1.heap.size w1 w'):Trn P w w' :=
 ⟨hb.os.trans h.os,hb.tape.trans h.tape,hb.output.trans h.output,Nat.le_trans h.size hb.size,fun k hk hn=>(hb.block k (Nat.lt_of_lt_of_le hk h.size)).trans (h.block k hk hn),h.nd⟩
theorem Trn.only {g:Nat}(h:Trn P w w1) (o:Only w1 w' g) (hg:P g):Trn P w w' :=
 ⟨o.os.trans h.os,o.tape.trans h.tape,o.output.trans h.output,Nat.le_trans h.size o.size,fun k hk hn=>(o.block k (Nat.lt_of_lt_of_le hk h.size) (by intro e;injection e with e;subst e;exact hn hg)).trans (h.block k hk hn),h.nd⟩
theorem Trn.trans {Q:Nat→Prop}(h:Trn P w w1) (k:Trn Q w1 w') (hQ:∀ g,g<w.heap.size→Q g→P g):Trn P w w' :=
 ⟨k.os.trans h.os,k.tape.trans h.tape,k.output.trans h.output,Nat.le_trans h.size k.size,fun i hi hn=>(k.block i (Nat.lt_of_lt_of_le hi h.size) fun hq=>hn (hQ i hi hq)).trans (h.block i hi hn),h.nd⟩
theorem Trn.to_below {B:Nat}{a:World}(h:Trn P w w') (hb:Below B a w) (hB:B≤w.heap.size) (hP:∀ k,P k→B≤k):Below B a w' :=
 ⟨h.os.trans hb.os,h.tape.trans hb.tape,h.output.trans hb.output,Nat.le_trans hb.size h.size,fun k hk=>(h.block k (by omega) fun hp=>by have:=hP k hp;omega).trans (hb.block k hk)⟩
theorem Trn.of_below (hb:Below w.heap.size w w') (nd:∀ k,P k→∃ t cur,Blk w k t cur∧NoDig cur):Trn P w w':=(Trn.refl nd).next hb
theorem Blk.trn {g:Nat}{t:TypeId}{cs:Array Value}(h:Blk w g t cs) (ht:Trn P w w') (hn:¬ P g):Blk w' g t cs:=(ht.block g h.lt hn).trans h
theorem Nv.trn {A:Option Addr}{c:Nat}{l:List Nat}(h:Nv w A c l) (ht:Trn P w w'):Nv w' A c l:=by
 refine⟨h.len,h.big,fun hx=>?_,h.dig⟩;obtain⟨a,e,h1,h2⟩:=h.rd hx
 have hne:¬ P a.block:=fun hg=>by
  obtain⟨t,cs,hB,hd⟩:=ht.nd _ hg;have h3:=h2 0 hx;have hl:0<l.length:=by rw[u32s_length] at hx;exact hx
  unfold Blk at hB
  unfold World.cell? at h3
  rw[block_add,hB] at h3
  simp only at h3
  split at h3
  · cases h3
  · rw[List.getElem_of_eq (show u32s l=u32s l from rfl)] at h3
    simp only[u32s,List.getElem_map] at h3
    exact hd _ _ h3
 have hk:=ht.block a.block h1 hne
 exact⟨a,e,Nat.lt_of_lt_of_le h1 ht.size,fun j hj=>by
  rw[World.cell?_of_block (w:=w) (by rw[block_add];exact hk)];exact h2 j hj⟩
theorem FV.trn {v:Value}{q:Rat}(h:FV w v q) (ht:Trn P w w'):FV w' v q:=by
 obtain⟨n,A,ca,la,B,cb,lb,rfl,na,nb,iq⟩:=h;exact⟨n,A,ca,la,B,cb,lb,rfl,na.trn ht,nb.trn ht,iq⟩
theorem Srow.trn {α:Type}{C:Nat}{cells:α→List Value}{c:Nat}{A:Option Addr}{ds:List α}(h:Srow w C cells A c ds) (ht:Trn P w w') (hne:∀ a,A=some a→¬ P a.block):Srow w' C cells A c ds :=
 ⟨h.1,h.2.1,fun j hj=>by
  obtain⟨a,e,h1,h2⟩:=h.2.2 j hj;have hk:=ht.block a.block h1 (hne a e)
  exact⟨a,e,Nat.lt_of_lt_of_le h1 ht.size,fun i u hu=>by
   rw[World.cell?_of_block (w:=w) (by rw[block_add];exact hk)];exact h2 i u hu⟩⟩
theorem FL.trn {c:Nat}{A:Option Addr}{ds:List FrD}(h:FL w A c ds) (ht:Trn P w w') (hne:∀ a,A=some a→¬ P a.block):FL w' A c ds :=
 ⟨h.row.trn ht hne,fun d hx=>(h.fv d hx).trn ht⟩
theorem VarQ.trn {g:Nat}{d:FrD}(h:VarQ w g d) (ht:Trn P w w') (hn:¬ P g):VarQ w' g d:=Blk.trn h ht hn
end
def Sv.W (S:Sv) (vm:Value) (k:Nat):Prop:=k=S.gs∨k=S.gx∨vm.ownBlock=some k
section
variable {S:Sv}{s:Sm}{ent:Value}{w:World}
theorem SolM.vaU (h:SolM S s ent w):∀ x,s.va≠.int .u32 x:=h.act.notU
theorem SolM.vmU (h:SolM S s ent w):∀ x,s.vm≠.int .u32 x:=h.mul.notU
theorem SolM.nd (h:SolM S s ent w) (he:∀ x,ent≠.int .u32 x):∀ k,S.W s.vm k→∃ t cur,Blk w k t cur∧NoDig cur:=fun k hk=>by
 rcases hk with rfl | rfl | hk
 · exact⟨_,_,h.b.blk,SolB.noDig h.vaU h.vmU he⟩
 · obtain⟨cur,h1,h2,-⟩:=h.b.xo;exact⟨_,cur,h1,h2⟩
 · obtain⟨cur,h1,h2⟩:=h.mul.2 k hk;exact⟨_,cur,h1,h2⟩
theorem SolM.wlt (h:SolM S s ent w):∀ k,S.W s.vm k→k<w.heap.size:=fun k hk=>by
 rcases hk with rfl | rfl | hk
 · exact Nat.lt_of_lt_of_le h.b.hs h.b.hR
 · exact Nat.lt_of_lt_of_le h.b.hx h.b.hR
 · obtain⟨cur,h1,h2⟩:=h.mul.2 k hk;exact Blk.lt h1
theorem SolM.setX (h:SolM S s ent w){k:Nat}(hk:k<s.dx.length){d:FrD}(hd:FV w d.v d.q) :
 ∃ w9,w.frozen? ⟨S.gx,k*3,none⟩=false∧w.frozen? ⟨S.gx,k*3+1,none⟩=false∧w.frozen? ⟨S.gx,k*3+2,none⟩=false ∧
  ((w.setCell ⟨S.gx,k*3,none⟩ (.bool d.neg)).setCell ⟨S.gx,k*3+1,none⟩ (.slice d.a d.la.length d.ca)).setCell ⟨S.gx,k*3+2,none⟩ (.slice d.b d.lb.length d.cb)=w9∧SolM S { s with dx:=s.dx.set k d } ent w9∧Only w w9 S.gx:=by
 obtain⟨w9,f0,f1,f2,e9,hb9,o9⟩:=h.b.setX hk hd;obtain⟨cur,hB,hn,-⟩:=h.b.xo;exact⟨w9,f0,f1,f2,e9,⟨hb9,h.act.far (fun g' hg'=>by have:=h.act.block hg';have:=h.b.hx;omega) o9,h.mul.far (fun g' hg'=>by have:=h.mul.block hg';have:=h.b.hx;omega) o9,fun x hx=>(h.mf x hx).only_blk hB hn o9⟩,o9⟩
theorem SolM.setLev (h:SolM S s ent w) (he:∀ x,ent≠.int .u32 x){d:FrD}(hd:FV w d.v d.q) :
 ∃ w9,w.frozen? ⟨S.gs,7,none⟩=false∧w.frozen? ⟨S.gs,8,none⟩=false∧w.frozen? ⟨S.gs,9,none⟩=false ∧
  ((w.setCell ⟨S.gs,7,none⟩ (.bool d.neg)).setCell ⟨S.gs,8,none⟩ (.slice d.a d.la.length d.ca)).setCell ⟨S.gs,9,none⟩ (.slice d.b d.lb.length d.cb)=w9∧SolM S { s with lv:=d } ent w9∧Only w w9 S.gs:=by
 obtain⟨w9,f0,f1,f2,e9,hb9,o9⟩:=h.b.setLev h.vaU h.vmU he hd;exact⟨w9,f0,f1,f2,e9,⟨hb9,h.act.far (fun g' hg'=>by have:=h.act.block hg';have:=h.b.hs;omega) o9,h.mul.far (fun g' hg'=>by have:=h.mul.block hg';have:=h.b.hs;omega) o9,fun x hx=>(h.mf x hx).only_blk h.b.blk (SolB.noDig h.vaU h.vmU he) o9⟩,o9⟩
theorem SolM.setM (h:SolM S s ent w){k:Nat}(hk:k<s.dm.length){d:FrD}(hd:FV w d.v d.q) :
 ∃ g c w9,s.vm=.slice (some ⟨g,0,none⟩) s.dm.length c∧w.frozen? ⟨g,k*3,none⟩=false∧w.frozen? ⟨g,k*3+1,none⟩=false∧w.frozen? ⟨g,k*3+2,none⟩=false ∧
  ((w.setCell ⟨g,k*3,none⟩ (.bool d.neg)).setCell ⟨g,k*3+1,none⟩ (.slice d.a d.la.length d.ca)).setCell ⟨g,k*3+2,none⟩ (.slice d.b d.lb.length d.cb)=w9∧SolM S { s with dm:=s.dm.set k d } ent w9∧Only w w9 g∧S.W s.vm g:=by
 obtain⟨g,c,cur,w9,ev,hg,hB,hn,f0,f1,f2,e9,hq9,o9⟩:=h.mul.store hk d;have hown:s.vm.ownBlock=some g:=by rw[ev];rfl
 refine⟨g,c,w9,ev,f0,f1,f2,e9,⟨h.b.far hg hB hn o9,h.act.far (fun g' hg'=>?_) o9,hq9,fun x hx=>?_⟩,o9,.inr (.inr hown)⟩
 · obtain⟨cur2,k1,k2⟩:=h.act.2 g' hg';exact k1.ne_type hB (by decide)
 · rcases List.mem_or_eq_of_mem_set hx with hx | rfl
   · exact (h.mf x hx).only_blk hB hn o9
   · exact hd.only_blk hB hn o9
end
end Go.Proofs.Ytjhkapjadfpimaa
