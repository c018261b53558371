/- Contracts of functions, for the law. -/
import Derived.Test.YtjhkapjadfpimaaNDr
import Derived.Test.YtjhkapjadfpimaaMLin
import Derived.Deep.RegionHeld3
namespace Go.Proofs.Ytjhkapjadfpimaa
set_option linter.unusedVariables false
set_option linter.unusedSimpArgs false
open Go.RowKit Plain
attribute [local go_sem ↓] Go.wp_at_zero Go.wp_at_succ
structure NwP where
 n:Nat
 m:Nat
 gv:Nat
 gs:Nat
 gx:Nat
 cx:Nat
 sum:FrD
 z:FrD
 dx:List FrD
 base:Nat
structure Nw (P:NwP) (vC:Value) (cs:List CoD) (w:World):Prop where
 v:Blk w P.gv 77 #[.pointer (some ⟨P.gs,0,none⟩)]
 blk:Blk w P.gs 100 #[.int .i64 (P.n:Int),.int .i64 (P.m:Int),vC,.slice (some ⟨P.gx,0,none⟩) P.dx.length P.cx,.bool P.sum.neg,.slice P.sum.a P.sum.la.length P.sum.ca,.slice P.sum.b P.sum.lb.length P.sum.cb,.bool P.z.neg,.slice P.z.a P.z.la.length P.z.ca,.slice P.z.b P.z.lb.length P.z.cb,.slice none 0 0,.slice none 0 0,.pointer none]
 sum:FV w P.sum.v P.sum.q
 z:FV w P.z.v P.z.q
 xo:XO w P.gx P.cx P.dx
 xf:AllFV w P.dx
 own:OwnC w P.base vC cs
 row:∀ d∈cs,∃ g,d.r.a=some ⟨g,0,none⟩∧d.r.c=d.r.ds.length∧ArrQ w g d.r.ds∧AllFV w d.r.ds∧g≠P.gx∧d.r.ds.length≤1000
 fv:∀ d∈cs,FV w d.l.v d.l.q
 hgv:P.base≤P.gv
 hgs:P.base≤P.gs
 hgx:P.base≤P.gx
theorem OwnC.notU {w:World}{base:Nat}{v:Value}{cs:List CoD}(h:OwnC w base v cs):∀ x,v≠.int .u32 x:=by
 rcases h.1.2 with ⟨rfl,h0⟩ | ⟨g,cap,cur,rfl,-⟩ <;> intro x e <;> cases e
theorem OwnC.far {w w':World}{base g:Nat}{v:Value}{cs:List CoD}(h:OwnC w base v cs) (hne:∀ g',v.ownBlock=some g'→g'≠g) (ho:Only w w' g):OwnC w' base v cs:=by
 rcases h.1.2 with ⟨rfl,h0⟩ | ⟨g',cap,cur,rfl,hb,hg,hn,hm,hs,ht⟩
 · have:cs=[]:=List.eq_nil_of_length_eq_zero h0;subst this;exact OwnC.nil _ _
 · have hB:Blk w g' 103 cur:=hg;have hne':g'≠g:=hne g' rfl;refine⟨⟨h.1.1,.inr ⟨g',cap,cur,rfl,hb,hB.only ho hne',hn,hm,hs,ht⟩⟩,fun g2 h2=>?_⟩;obtain⟨cur2,k1,k2⟩:=h.2 g2 h2;exact⟨cur2,k1.only ho (hne g2 h2),k2⟩
section
variable {P:NwP}{vC:Value}{cs:List CoD}{w w':World}
theorem Nw.below (h:Nw P vC cs w) (hb:Below w.heap.size w w'):Nw P vC cs w' :=
 ⟨h.v.keep hb,h.blk.keep hb,h.sum.below hb,h.z.below hb,h.xo.below hb,h.xf.below hb,h.own.below hb,fun d hd=>by
  obtain⟨g,e,e2,hA,hV,hn⟩:=h.row d hd;exact⟨g,e,e2,hA.below hb,hV.below hb,hn⟩,fun d hd=>(h.fv d hd).below hb,h.hgv,h.hgs,h.hgx⟩
theorem Nw.c1 (h:Nw P vC cs w):w.cell? ⟨P.gv,0,none⟩=some (.pointer (some ⟨P.gs,0,none⟩)):=Blk.cell h.v 0
theorem Nw.c0 (h:Nw P vC cs w):w.cell? ⟨P.gs,0,none⟩=some (.int .i64 (P.n:Int)):=Blk.cell h.blk 0
theorem Nw.c2 (h:Nw P vC cs w):w.cell? ⟨P.gs,2,none⟩=some vC:=Blk.cell h.blk 2
theorem Nw.app (h:Nw P vC cs w){d:CoD}(hr:∃ g,d.r.a=some ⟨g,0,none⟩∧d.r.c=d.r.ds.length∧ArrQ w g d.r.ds∧AllFV w d.r.ds∧g≠P.gx∧d.r.ds.length≤1000) (hl:FV w d.l.v d.l.q){ad:Addr}{c:Nat}(hnews:∀ j u,d.cells[j]?=some u→w.cell? (ad.add j)=some u) (h63:cs.length+1≤1000000000000) (hbase:P.base≤w.heap.size) :
 ∃ v' w' w9,(Builtin.append_ #[96,96] 96 #[vC,.slice (some ad) 1 c]).run Try.prog w=.ok v' w'∧w'.cell? ⟨P.gv,0,none⟩=some (.pointer (some ⟨P.gs,0,none⟩))∧w'.cell? ⟨P.gs,2,none⟩=some vC∧w'.frozen? ⟨P.gs,2,none⟩=false ∧
  w'.setCell ⟨P.gs,2,none⟩ v'=w9∧Nw P v' (cs++[d]) w9∧(∀ g t cur,Blk w g t cur→t≠103→Blk w' g t cur)∧∀ (B:Nat) (a:World),Below B a w→B≤P.base→Below B a w9:=by
 obtain⟨v',w',hrun,ho,hg⟩:=run_appC w P.base vC cs h.own ad c d hnews h63 hbase
 have kept:∀ g t cur,Blk w g t cur→t≠103→Blk w' g t cur:=fun g t cur hB ht=>by
  cases hv:vC.ownBlock with
  | none =>
   rw[hv] at hg;exact hB.keep ⟨hg.os,hg.tape,hg.output,hg.size,fun k hk=>hg.block k hk (by simp)⟩
  | some gC =>
   rw[hv] at hg;obtain⟨cur2,k1,k2⟩:=h.own.2 gC hv;exact hB.only hg (hB.ne_type k1 ht)
 have fvk:∀ {u:Value} {q:Rat},FV w u q→FV w' u q:=fun hf=>hf.own (P:=NotU) (fun x hx=>hx x rfl) h.own hg;have hv':=kept _ _ _ h.v (by decide);have hb':=kept _ _ _ h.blk (by decide)
 have hx':XO w' P.gx P.cx P.dx:=by
  obtain⟨cur,h1,h2⟩:=h.xo;exact⟨cur,kept _ _ _ h1 (by decide),h2⟩
 have hu:=h.own.notU
 have hn:NoDig #[.int .i64 (P.n:Int),.int .i64 (P.m:Int),vC,.slice (some ⟨P.gx,0,none⟩) P.dx.length P.cx,.bool P.sum.neg,.slice P.sum.a P.sum.la.length P.sum.ca,.slice P.sum.b P.sum.lb.length P.sum.cb,.bool P.z.neg,.slice P.z.a P.z.la.length P.z.ca,.slice P.z.b P.z.lb.length P.z.cb,.slice none 0 0,.slice none 0 0,.pointer none] :=
  NoDigL.noDig (l:=[.int .i64 (P.n:Int),.int .i64 (P.m:Int),vC,.slice (some ⟨P.gx,0,none⟩) P.dx.length P.cx,.bool P.sum.neg,.slice P.sum.a P.sum.la.length P.sum.ca,.slice P.sum.b P.sum.lb.length P.sum.cb,.bool P.z.neg,.slice P.z.a P.z.la.length P.z.ca,.slice P.z.b P.z.lb.length P.z.cb,.slice none 0 0,.slice none 0 0,.pointer none]) (fun u hu' x e=>by
   subst e
   simp only[List.mem_cons,List.not_mem_nil,or_false] at hu'
   rcases hu' with h | h | h | h | h | h | h | h | h | h | h | h | h
   all_goals first
    | exact hu _ h.symm
    | cases h) rfl
 have o9:=(Only.refl w' P.gs).set 2 v';have b9:=hb'.set 2 v'
 have row':∀ x∈cs++[d],∃ g,x.r.a=some ⟨g,0,none⟩∧x.r.c=x.r.ds.length∧ArrQ w g x.r.ds∧AllFV w x.r.ds∧g≠P.gx∧x.r.ds.length≤1000:=fun x hx=>by
  rcases List.mem_append.1 hx with hx | hx
  · exact h.row x hx
  · simp at hx;subst hx;exact hr
 have fv':∀ x∈cs++[d],FV w x.l.v x.l.q:=fun x hx=>by
  rcases List.mem_append.1 hx with hx | hx
  · exact h.fv x hx
  · simp at hx;subst hx;exact hl
 refine⟨v',w',_,hrun,Blk.cell hv' 0,Blk.cell hb' 2,Blk.free hb' 2,rfl,⟨hv'.only o9 (hv'.ne_type hb' (by decide)),b9,(fvk h.sum).only_blk hb' hn o9,(fvk h.z).only_blk hb' hn o9,?_,fun x hx=>(fvk (h.xf x hx)).only_blk hb' hn o9,ho.far (fun g' hg'=>?_) o9,fun x hx=>?_,fun x hx=>(fvk (fv' x hx)).only_blk hb' hn o9,h.hgv,h.hgs,h.hgx⟩,kept,fun B a hB hBb=>?_⟩
 · obtain⟨cur,h1,h2⟩:=hx';exact⟨cur,h1.only o9 (h1.ne_type hb' (by decide)),h2⟩
 · obtain⟨cur,k1,k2⟩:=ho.2 g' hg';exact k1.ne_type hb' (by decide)
 · obtain⟨g,e,e2,hA,hV,hne⟩:=row' x hx;have hA':ArrQ w' g x.r.ds:=kept _ _ _ hA (by decide);have hA2:Blk w' g 28 _:=hA';exact⟨g,e,e2,hA2.only o9 (hA2.ne_type hb' (by decide)),fun y hy=>(fvk (hV y hy)).only_blk hb' hn o9,hne⟩
 · have h1:Below B a w':=hB.grown hg (Nat.le_trans hBb hbase) fun g' hg'=>Nat.le_trans hBb (OwnG.block h.own hg');exact o9.to_below h1 (Nat.le_trans hBb h.hgs) (by have:=h.hgs;have:=hb'.lt;omega)
end
theorem CoD.news {w:World}{g:Nat}{t:TypeId}{d:CoD}(h:Blk w g t #[.slice d.r.a d.r.ds.length d.r.c,.bool d.l.neg,.slice d.l.a d.l.la.length d.l.ca,.slice d.l.b d.l.lb.length d.l.cb]) (j:Nat) (u:Value) (hj:d.cells[j]?=some u):w.cell? ((⟨g,0,none⟩:Addr).add j)=some u:=by
 rw[add_zero_,Blk.cell h];have:#[Value.slice d.r.a d.r.ds.length d.r.c,.bool d.l.neg,.slice d.l.a d.l.la.length d.l.ca,.slice d.l.b d.l.lb.length d.l.cb][j]?=d.cells[j]?:=by rw[←Array.getElem?_toList];rfl
 rw[this];exact hj
end Go.Proofs.Ytjhkapjadfpimaa
