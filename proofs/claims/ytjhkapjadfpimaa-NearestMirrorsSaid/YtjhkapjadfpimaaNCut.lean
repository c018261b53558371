/- Contracts of functions, for the law. -/
import Derived.Test.YtjhkapjadfpimaaNDr
namespace Go.Proofs.Ytjhkapjadfpimaa
set_option linter.unusedVariables false
set_option linter.unusedSimpArgs false
open Go.RowKit Plain
theorem addN (g o i:Nat):(⟨g,o,none⟩:Addr).add i=⟨g,o+i,none⟩:=by
 unfold Addr.add
 split
 · rename_i h;subst h;rfl
 · rfl
theorem OwnG.rebase {E:TypeId}{C:Nat}{P:Value→Prop}{w:World}{b b' n:Nat}{v:Value}{xs:List Value}(h:OwnG E C P w b v n xs) (hb:b'≤b):OwnG E C P w b' v n xs:=by
 refine⟨⟨h.1.1,?_⟩,h.2⟩
 rcases h.1.2 with h0 | ⟨g,cap,cur,e,hbg,h2⟩
 · exact .inl h0
 · exact .inr ⟨g,cap,cur,e,Nat.le_trans hb hbg,h2⟩
theorem OwnQ.rebase {w:World}{b b':Nat}{v:Value}{ds:List FrD}(h:OwnQ w b v ds) (hb:b'≤b):OwnQ w b' v ds:=OwnQ.ofG (OwnG.rebase h.toG hb)
theorem OwnI.rebase {w:World}{b b':Nat}{v:Value}{is:List Nat}(h:OwnI w b v is) (hb:b'≤b):OwnI w b' v is:=OwnG.rebase h hb
theorem OwnI.empty (w:World){base:Nat}(hb:base≤w.heap.size):OwnI (w.alloc (.cells #[] 3)) base (.slice (some ⟨w.heap.size,0,none⟩) 0 0) []:=by
 have hB:=Blk.new w 3 #[]
 exact⟨⟨rfl,.inr ⟨w.heap.size,0,#[],rfl,hb,hB,Nat.le_refl _,by decide,rfl,rfl⟩⟩,fun g hg=>by
  simp[Value.ownBlock] at hg
  subst hg;exact⟨_,hB,fun i x hx=>by simp at hx⟩⟩
set_option maxRecDepth 100000 in
theorem run_appIs {T:TypeId}(hT:Try.prog.underlying T=some (.slice 3)) (w:World) (base:Nat) (v:Value) (is:List Nat) (hown:OwnI w base v is) (ad:Addr) (c:Nat) (js:List Nat) (hnews:∀ j u,(icells js)[j]?=some u→w.cell? (ad.add j)=some u) (h63:is.length+js.length≤1000000000000) (hbase:base≤w.heap.size) :
 ∃ v' w',(Builtin.append_ #[T,T] T #[v,.slice (some ad) js.length c]).run Try.prog w=.ok v' w'∧OwnI w' base v' (is++js)∧w.grownBy w' v.ownBlock:=by
 obtain⟨v',w',h1,h2,h3⟩:=run_appG0 w base v is.length _ hT infoInt rfl (by decide) (fun i u hi=>by
  match i with
  | 0=>injection hi with hi;exact⟨_,hi.symm⟩
  | i+1=>simp[Value.cells] at hi) (by decide) hown ad js.length c (icells js) (by simp[icells]) hnews (fun u hu=>by obtain⟨x,hx⟩:=isI_cells js u hu;subst hx;rfl) (isI_cells js) h63 hbase (isI_cells is)
 refine⟨v',w',h1,?_,h3⟩;unfold OwnI icells;rw[List.length_append,List.map_append]
 simpa [icells] using h2
theorem flat_drop {ds:List FrD}{k j:Nat}{u:Value}(h:((ds.drop k).flatMap FrD.cells)[j]?=some u) (hk:k≤ds.length):(ds.flatMap FrD.cells)[k*3+j]?=some u:=by
 have e:ds.flatMap FrD.cells=(ds.take k).flatMap FrD.cells++(ds.drop k).flatMap FrD.cells:=by rw[←List.flatMap_append,List.take_append_drop]
 have hl:((ds.take k).flatMap FrD.cells).length=k*3:=by rw[flat_len,List.length_take,Nat.min_eq_left hk]
 rw[e,List.getElem?_append_right (by omega),hl,Nat.add_sub_cancel_left];exact h
theorem run_cutQ {w:World}{g n c j:Nat}{ds:List FrD}(h:XO w g c ds) (hj:j<ds.length) (hv:AllFV w ds) (hd:ds.length≤1000) (ad:Addr) (had:(ad=⟨g,(j+1)*3,none⟩)∨ds.length=j+1∧ad.block=g) (c1 c2:Nat) :
 ∃ v1 w1 v2 w2,(Builtin.append_ #[22,22] 22 #[.slice (some ⟨w.heap.size,0,none⟩) 0 0,.slice (some ⟨g,0,none⟩) j c1]).run Try.prog (w.alloc (.cells #[] 28))=.ok v1 w1∧Below w.heap.size w w1 ∧
  (Builtin.append_ #[22,22] 22 #[v1,.slice (some ad) (ds.length-(j+1)) c2]).run Try.prog w1=.ok v2 w2∧OwnQ w2 w.heap.size v2 (ds.take j++ds.drop (j+1))∧Below w.heap.size w w2:=by
 have ba:=(Below.refl w.heap.size w).alloc (Nat.le_refl _) (.cells #[] 28);obtain⟨cur,hB,hn,h3,h4,h5,h6⟩:=h
 have hcell:∀ i u,(ds.flatMap FrD.cells)[i]?=some u→w.cell? ⟨g,i,none⟩=some u:=fun i u hi=>by
  rw[←h5,List.getElem?_take] at hi
  split at hi
  · rw[Blk.cell hB,←Array.getElem?_toList];exact hi
  · cases hi
 have hlt:=Blk.lt hB;have htl:(ds.take j).length=j:=by rw[List.length_take];omega
 obtain⟨v1,w1,r1,o1,g1⟩:=run_appQs _ w.heap.size _ [] (OwnQ.empty w (Nat.le_refl _)) ⟨g,0,none⟩ c1 (ds.take j) (fun i u hi=>by
  rw[World.cell?_of_block (w:=w) (by rw[block_add];exact ba.block _ hlt)];rw[addN,Nat.zero_add];exact hcell i u (flat_take hi)) (by simp;omega) ba.size
 rw[htl] at r1;have b1:Below w.heap.size w w1:=ba.grown g1 ba.size fun k hk=>by simp[Value.ownBlock] at hk;omega
 obtain⟨v2,w2,r2,o2,g2⟩:=run_appQs w1 w.heap.size v1 _ o1 ad c2 (ds.drop (j+1)) (fun i u hi=>by
  rcases had with rfl | ⟨e1,e2⟩
  · rw[World.cell?_of_block (w:=w) (by rw[block_add];exact b1.block _ hlt)];rw[addN];exact hcell _ u (flat_drop hi (by omega))
  · rw[List.drop_of_length_le (by omega)] at hi;simp at hi) (by simp;omega) b1.size
 rw[List.length_drop] at r2;exact⟨v1,w1,v2,w2,r1,b1,r2,by simpa using o2,b1.grown g2 b1.size fun k hk=>o1.block hk⟩
theorem run_cutI {w:World}{R g n c j:Nat}{is:List Nat}(h:OwnI w R (.slice (some ⟨g,0,none⟩) n c) is) (hj:j<is.length) (hd:is.length≤1000) (ad:Addr) (had:(ad=⟨g,j+1,none⟩)∨is.length=j+1∧ad.block=g) (c1 c2:Nat) :
 ∃ v1 w1 v2 w2,(Builtin.append_ #[97,97] 97 #[.slice (some ⟨w.heap.size,0,none⟩) 0 0,.slice (some ⟨g,0,none⟩) j c1]).run Try.prog (w.alloc (.cells #[] 3))=.ok v1 w1∧Below w.heap.size w w1 ∧
  (Builtin.append_ #[97,97] 97 #[v1,.slice (some ad) (is.length-(j+1)) c2]).run Try.prog w1=.ok v2 w2∧OwnI w2 w.heap.size v2 (is.take j++is.drop (j+1))∧Below w.heap.size w w2:=by
 have ba:=(Below.refl w.heap.size w).alloc (Nat.le_refl _) (.cells #[] 3);obtain⟨A,cc,e,h1,h2,hI⟩:=h.il
 cases e
 have hcell:∀ i u,(icells is)[i]?=some u→g<w.heap.size∧w.cell? ⟨g,i,none⟩=some u:=fun i u hi=>by
  unfold icells at hi;rw[List.getElem?_map] at hi
  cases hx:is[i]? with
  | none=>rw[hx] at hi;cases hi
  | some x =>
   rw[hx] at hi
   injection hi with hi
   obtain⟨a,ea,hb,hc⟩:=hI i x hx
   cases ea
   rw[←hi];rw[addN,Nat.zero_add] at hc;exact⟨hb,hc⟩
 have hlt:g<w.heap.size:=(hcell 0 _ (by unfold icells;rw[List.getElem?_map,List.getElem?_eq_getElem (by omega)];rfl)).1;have htl:(is.take j).length=j:=by rw[List.length_take];omega
 obtain⟨v1,w1,r1,o1,g1⟩:=run_appIs Try.underlying97 _ w.heap.size _ [] (OwnI.empty w (Nat.le_refl _)) ⟨g,0,none⟩ c1 (is.take j) (fun i u hi=>by
  rw[World.cell?_of_block (w:=w) (by rw[block_add];exact ba.block _ hlt)];rw[addN,Nat.zero_add]
  exact (hcell i u (by
   unfold icells at hi ⊢
   rw[List.map_take,List.getElem?_take] at hi
   split at hi
   · exact hi
   · cases hi)).2) (by simp;omega) ba.size
 rw[htl] at r1;have b1:Below w.heap.size w w1:=ba.grown g1 ba.size fun k hk=>by simp[Value.ownBlock] at hk;omega
 obtain⟨v2,w2,r2,o2,g2⟩:=run_appIs Try.underlying97 w1 w.heap.size v1 _ o1 ad c2 (is.drop (j+1)) (fun i u hi=>by
  rcases had with rfl | ⟨e1,e2⟩
  · rw[World.cell?_of_block (w:=w) (by rw[block_add];exact b1.block _ hlt)];rw[addN]
    exact (hcell (j+1+i) u (by
     unfold icells at hi ⊢
     rw[List.map_drop,List.getElem?_drop] at hi;exact hi)).2
  · rw[List.drop_of_length_le (by omega)] at hi;simp[icells] at hi) (by simp;omega) b1.size
 rw[List.length_drop] at r2;exact⟨v1,w1,v2,w2,r1,b1,r2,by simpa using o2,b1.grown g2 b1.size fun k hk=>o1.block hk⟩
section
variable {S:Sv}{s:Sm}{ent:Value}{w:World}
theorem SolM.keepS (h:SolM S s ent w) (he:∀ x,ent≠.int .u32 x){w9:World}(o9:Only w w9 S.gs):OwnI w9 S.R s.va s.ia∧OwnQ w9 S.R s.vm s.dm∧AllFV w9 s.dm :=
 ⟨h.act.far (fun g' hg'=>by have:=h.act.block hg';have:=h.b.hs;omega) o9,h.mul.far (fun g' hg'=>by have:=h.mul.block hg';have:=h.b.hs;omega) o9,fun x hx=>(h.mf x hx).only_blk h.b.blk (SolB.noDig h.vaU h.vmU he) o9⟩
theorem SolM.setEnt (h:SolM S s ent w) (he:∀ x,ent≠.int .u32 x) (u:Value) :
 ∃ w9,w.frozen? ⟨S.gs,12,none⟩=false∧w.setCell ⟨S.gs,12,none⟩ u=w9∧SolM S s u w9∧Only w w9 S.gs:=by
 obtain⟨w9,f,e9,h9,o9⟩:=h.b.setEnt h.vaU h.vmU he u;obtain⟨k1,k2,k3⟩:=h.keepS he o9;exact⟨w9,f,e9,⟨h9,k1,k2,k3⟩,o9⟩
theorem SolM.newAct (h:SolM S s ent w) (he:∀ x,ent≠.int .u32 x){v:Value}{is:List Nat}(hv:OwnI w S.R v is) :
 ∃ w9,w.frozen? ⟨S.gs,10,none⟩=false∧w.setCell ⟨S.gs,10,none⟩ v=w9∧SolM S { s with va:=v,ia:=is } ent w9∧Only w w9 S.gs:=by
 obtain⟨w9,f,e9,h9,o9⟩:=h.b.setAct h.vaU h.vmU he v;obtain⟨k1,k2,k3⟩:=h.keepS he o9;exact⟨w9,f,e9,⟨h9,hv.far (fun g' hg'=>by have:=hv.block hg';have:=h.b.hs;omega) o9,k2,k3⟩,o9⟩
theorem SolM.newMul (h:SolM S s ent w) (he:∀ x,ent≠.int .u32 x){v:Value}{ds:List FrD}(hv:OwnQ w S.R v ds) (hf:AllFV w ds) :
 ∃ w9,w.frozen? ⟨S.gs,11,none⟩=false∧w.setCell ⟨S.gs,11,none⟩ v=w9∧SolM S { s with vm:=v,dm:=ds } ent w9∧Only w w9 S.gs:=by
 obtain⟨w9,f,e9,h9,o9⟩:=h.b.setMul h.vaU h.vmU he v;obtain⟨k1,k2,k3⟩:=h.keepS he o9;exact⟨w9,f,e9,⟨h9,k1,hv.far (fun g' hg'=>by have:=hv.block hg';have:=h.b.hs;omega) o9,fun x hx=>(hf x hx).only_blk h.b.blk (SolB.noDig h.vaU h.vmU he) o9⟩,o9⟩
theorem ndI {w:World}{R:Nat}{v:Value}{is:List Nat}(h:OwnI w R v is):∀ g,v.ownBlock=some g→∃ cur,Blk w g 3 cur∧NoDig cur:=fun g hg=>by
 obtain⟨cur,k1,k2⟩:=h.2 g hg
 exact⟨cur,k1,fun i x hi=>by
  obtain⟨y,hy⟩:=k2 i _ hi
  injection hy with hy1 _
  cases hy1⟩
theorem grown_trn {w w':World}{v:Value}(hg:w.grownBy w' v.ownBlock) (nd:∀ g,v.ownBlock=some g→∃ t cur,Blk w g t cur∧NoDig cur):Trn (fun g=>v.ownBlock=some g) w w' :=
 ⟨hg.os,hg.tape,hg.output,hg.size,fun k hk hn=>hg.block k hk fun e=>hn e.symm,nd⟩
theorem SolB.trn {S:Sv}{dx:List FrD}{lv:FrD}{va vm ent:Value}{w w':World}{P:Nat→Prop}(h:SolB S dx lv va vm ent w) (ht:Trn P w w') (hP:∀ g,P g→S.R≤g):SolB S dx lv va vm ent w':=by
 obtain⟨cur,k1,k2⟩:=h.xo;refine⟨h.blk.trn ht fun hp=>?_,h.sum.trn ht,h.lev.trn ht,⟨cur,k1.trn ht fun hp=>?_,k2⟩,fun d hd=>(h.xf d hd).trn ht,⟨h.all.row.trn ht fun a e hp=>?_,fun d hd=>(h.all.fl d hd).trn ht fun a e hp=>?_,fun d hd=>(h.all.fv d hd).trn ht,h.all.away,h.all.awayr⟩,h.hs,h.hx,Nat.le_trans h.hR ht.size,h.ne⟩
 · have:=hP _ hp;have:=h.hs;omega
 · have:=hP _ hp;have:=h.hx;omega
 · exact h.all.away a e (.inr (.inr (hP _ hp)))
 · exact h.all.awayr d hd a e (.inr (.inr (hP _ hp)))
theorem SolM.pushA (h:SolM S s ent w) (he:∀ x,ent≠.int .u32 x) (k:Nat) (hl:s.ia.length≤1000) :
 ∃ v6 w6 w9,(Builtin.append_ #[97,97] 97 #[s.va,.slice (some ⟨w.heap.size,0,none⟩) 1 1]).run Try.prog (w.alloc (.cells #[.int .i64 (k:Int)] 3))=.ok v6 w6∧SolB S s.dx s.lv s.va s.vm ent w6∧w6.frozen? ⟨S.gs,10,none⟩=false∧w6.setCell ⟨S.gs,10,none⟩ v6=w9 ∧
  SolM S { s with va:=v6,ia:=s.ia++[k] } ent w9∧Trn (fun g=>s.va.ownBlock=some g) w w6∧Only w6 w9 S.gs:=by
 have ba:=(Below.refl w.heap.size w).alloc (Nat.le_refl _) (.cells #[.int .i64 (k:Int)] 3);have hA:=h.below ba;have hB:=Blk.new w 3 #[.int .i64 (k:Int)];obtain⟨v6,w6,hr,o6,g6⟩:=run_appI Try.underlying97 _ S.R s.va s.ia hA.act ⟨w.heap.size,0,none⟩ 1 k (Blk.cell hB 0) (by omega) hA.b.hR;have ht6:=grown_trn g6 fun g hg=>by obtain⟨cur,k1,k2⟩:=ndI hA.act g hg;exact⟨_,cur,k1,k2⟩
 have htw:Trn (fun g=>s.va.ownBlock=some g) w w6:=(Trn.of_below ba fun g hg=>by obtain⟨cur,k1,k2⟩:=ndI h.act g hg;exact⟨_,cur,k1,k2⟩).trans ht6 fun g _ hg=>hg;have hB6:=hA.b.trn ht6 fun g hg=>hA.act.block hg
 have hM6:OwnQ w6 S.R s.vm s.dm:=by
  cases hu:s.va.ownBlock with
  | none=>rw[hu] at g6;exact hA.mul.below ⟨g6.os,g6.tape,g6.output,g6.size,fun i hi=>g6.block i hi (by simp)⟩
  | some g =>
   rw[hu] at g6;obtain⟨cur,k1,k2⟩:=hA.act.2 g hu
   exact hA.mul.far (fun g' hg'=>by
    obtain⟨c2,k3,k4⟩:=hA.mul.2 g' hg';exact Blk.ne_type k3 k1 (by decide)) g6
 obtain⟨w9,f,e9,h9,o9⟩:=hB6.setAct h.vaU h.vmU he v6;refine⟨v6,w6,w9,hr,hB6,f,e9,⟨h9,o6.far (fun g' hg'=>by have:=o6.block hg';have:=h.b.hs;omega) o9,hM6.far (fun g' hg'=>by have:=hM6.block hg';have:=h.b.hs;omega) o9,fun x hx=>((hA.mf x hx).trn ht6).only_blk hB6.blk (SolB.noDig h.vaU h.vmU he) o9⟩,htw,o9⟩
theorem SolM.pushM (h:SolM S s ent w) (he:∀ x,ent≠.int .u32 x){d:FrD}(hd:FV w d.v d.q) (hl:s.dm.length≤1000) :
 ∃ v6 w6 w9,(Builtin.append_ #[22,22] 22 #[s.vm,.slice (some ⟨w.heap.size,0,none⟩) 1 1]).run Try.prog (w.alloc (.cells #[.bool d.neg,.slice d.a d.la.length d.ca,.slice d.b d.lb.length d.cb] 28))=.ok v6 w6∧SolB S s.dx s.lv s.va s.vm ent w6∧w6.frozen? ⟨S.gs,11,none⟩=false∧w6.setCell ⟨S.gs,11,none⟩ v6=w9 ∧
  SolM S { s with vm:=v6,dm:=s.dm++[d] } ent w9∧Trn (fun g=>s.vm.ownBlock=some g) w w6∧Only w6 w9 S.gs:=by
 have ba:=(Below.refl w.heap.size w).alloc (Nat.le_refl _) (.cells #[.bool d.neg,.slice d.a d.la.length d.ca,.slice d.b d.lb.length d.cb] 28);have hA:=h.below ba;have hB:=Blk.new w 28 #[.bool d.neg,.slice d.a d.la.length d.ca,.slice d.b d.lb.length d.cb]
 obtain⟨v6,w6,hr,o6,g6⟩:=run_appQ _ S.R s.vm s.dm hA.mul ⟨w.heap.size,0,none⟩ 1 d (fun j u hj=>by
  match j with
  | 0=>injection hj with hj;subst hj;exact Blk.f0 hB
  | 1=>injection hj with hj;subst hj;exact Blk.f1 hB
  | 2=>injection hj with hj;subst hj;exact Blk.f2 hB
  | j+3=>simp[FrD.cells] at hj) (by omega) hA.b.hR
 have ht6:=grown_trn g6 fun g hg=>by obtain⟨cur,k1,k2⟩:=hA.mul.2 g hg;exact⟨_,cur,k1,k2⟩
 have htw:Trn (fun g=>s.vm.ownBlock=some g) w w6:=(Trn.of_below ba fun g hg=>by obtain⟨cur,k1,k2⟩:=h.mul.2 g hg;exact⟨_,cur,k1,k2⟩).trans ht6 fun g _ hg=>hg;have hB6:=hA.b.trn ht6 fun g hg=>hA.mul.block hg
 have hM6:OwnI w6 S.R s.va s.ia:=by
  cases hu:s.vm.ownBlock with
  | none=>rw[hu] at g6;exact hA.act.below ⟨g6.os,g6.tape,g6.output,g6.size,fun i hi=>g6.block i hi (by simp)⟩
  | some g =>
   rw[hu] at g6;obtain⟨cur,k1,k2⟩:=hA.mul.2 g hu
   exact hA.act.far (fun g' hg'=>by
    obtain⟨c2,k3,k4⟩:=hA.act.2 g' hg';exact Blk.ne_type k3 k1 (by decide)) g6
 obtain⟨w9,f,e9,h9,o9⟩:=hB6.setMul h.vaU h.vmU he v6;refine⟨v6,w6,w9,hr,hB6,f,e9,⟨h9,hM6.far (fun g' hg'=>by have:=hM6.block hg';have:=h.b.hs;omega) o9,o6.far (fun g' hg'=>by have:=o6.block hg';have:=h.b.hs;omega) o9,fun x hx=>?_⟩,htw,o9⟩
 rcases List.mem_append.1 hx with hx | hx
 · exact ((hA.mf x hx).trn ht6).only_blk hB6.blk (SolB.noDig h.vaU h.vmU he) o9
 · simp at hx;subst hx
   exact ((hd.below ba).trn ht6).only_blk hB6.blk (SolB.noDig h.vaU h.vmU he) o9
end
end Go.Proofs.Ytjhkapjadfpimaa
