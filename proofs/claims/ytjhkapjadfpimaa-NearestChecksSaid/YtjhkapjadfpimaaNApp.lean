/- Contracts of functions, for the law. -/
import Derived.Test.YtjhkapjadfpimaaNSol
import Derived.Test.YtjhkapjadfpimaaMMake
import Derived.Test.YtjhkapjadfpimaaNPaid
import Derived.Deep.RegionHeld3
import Derived.Test.YtjhkapjadfpimaaTw
namespace Go.Proofs.Ytjhkapjadfpimaa
set_option linter.unusedVariables false
set_option linter.unusedSimpArgs false
open Go.RowKit Plain
attribute [local go_sem ↓] Go.wp_at_zero Go.wp_at_succ
def VarC (w:World) (g:Nat) (d:CoD):Prop:=Blk w g 103 #[.slice d.r.a d.r.ds.length d.r.c,.bool d.l.neg,.slice d.l.a d.l.la.length d.l.ca,.slice d.l.b d.l.lb.length d.l.cb]
section
variable {w w':World} {g:Nat} {d:CoD}
theorem VarC.below (h:VarC w g d) (hb:Below w.heap.size w w'):VarC w' g d:=Blk.keep h hb
theorem VarC.cells (h:VarC w g d):w.cell? ⟨g,0,none⟩=some (.slice d.r.a d.r.ds.length d.r.c)∧w.cell? ⟨g,1,none⟩=some (.bool d.l.neg)∧w.cell? ⟨g,2,none⟩=some (.slice d.l.a d.l.la.length d.l.ca)∧w.cell? ⟨g,3,none⟩=some (.slice d.l.b d.l.lb.length d.l.cb):=⟨Blk.cell h 0,Blk.cell h 1,Blk.cell h 2,Blk.cell h 3⟩
end
theorem new_con (w:World) (d:CoD):∃ wA wB,w.alloc (.cells #[.slice none 0 0,.bool false,.slice none 0 0,.slice none 0 0] 103)=wA∧wA.cell? ⟨w.heap.size,0,none⟩=some (.slice none 0 0)∧wA.cell? ⟨w.heap.size,1,none⟩=some (.bool false)∧wA.cell? ⟨w.heap.size,2,none⟩=some (.slice none 0 0)∧wA.cell? ⟨w.heap.size,3,none⟩=some (.slice none 0 0)∧wA.frozen? ⟨w.heap.size,0,none⟩=false∧wA.frozen? ⟨w.heap.size,1,none⟩=false∧wA.frozen? ⟨w.heap.size,2,none⟩=false∧wA.frozen? ⟨w.heap.size,3,none⟩=false ∧
 ((((wA.setCell ⟨w.heap.size,0,none⟩ (.slice d.r.a d.r.ds.length d.r.c)).setCell ⟨w.heap.size,1,none⟩ (.bool d.l.neg)).setCell ⟨w.heap.size,2,none⟩ (.slice d.l.a d.l.la.length d.l.ca)).setCell ⟨w.heap.size,3,none⟩ (.slice d.l.b d.l.lb.length d.l.cb))=wB∧VarC wB w.heap.size d∧Below w.heap.size w wB∧w.heap.size < wB.heap.size:=by
 obtain ⟨wA,eA,bA,lA,BA⟩:=boxed w #[.slice none 0 0,.bool false,.slice none 0 0,.slice none 0 0] 103;have o9:=((((Only.refl wA w.heap.size).set 0 (.slice d.r.a d.r.ds.length d.r.c)).set 1 (.bool d.l.neg)).set 2 (.slice d.l.a d.l.la.length d.l.ca)).set 3 (.slice d.l.b d.l.lb.length d.l.cb);have b9:=(((BA.set 0 (.slice d.r.a d.r.ds.length d.r.c)).set 1 (.bool d.l.neg)).set 2 (.slice d.l.a d.l.la.length d.l.ca)).set 3 (.slice d.l.b d.l.lb.length d.l.cb);exact ⟨wA,_,eA,Blk.cell BA 0,Blk.cell BA 1,Blk.cell BA 2,Blk.cell BA 3,Blk.free BA 0,Blk.free BA 1,Blk.free BA 2,Blk.free BA 3,rfl,b9,o9.to_below bA (Nat.le_refl _) bA.size,Nat.lt_of_lt_of_le lA o9.size⟩
theorem prods_dot (ds es:List FrD):sumR (prods ds es)=dotR (ds.map FrD.q) (es.map FrD.q):=by
 unfold prods dotR;rw [List.zipWith_map]
def MaybeQ (w:World) (g:Nat) (o:Option Nat) (q:Rat):Prop:=∃ d:FrD,VarQ w g d∧(o≠none→FV w d.v d.q∧d.q=q)
theorem MaybeQ.below {w w':World} {g:Nat} {o:Option Nat} {q:Rat} (h:MaybeQ w g o q) (hb:Below w.heap.size w w'):MaybeQ w' g o q:=by
 obtain ⟨d,h1,h2⟩:=h;exact ⟨d,h1.below hb,fun ho=>⟨(h2 ho).1.below hb,(h2 ho).2⟩⟩
theorem MaybeQ.zero {w:World} {g:Nat} (h:Blk w g 28 #[.bool false,.slice none 0 0,.slice none 0 0]) (q:Rat):MaybeQ w g none q:=⟨zeroD,h,fun ho=>absurd rfl ho⟩
theorem QFits.fr0 {K:Nat} {ds:List FrD} (h:QFits K (ds.map FrD.q)):∀ d ∈ ds,Fits K d.q:=fun d hd=>h _ (List.mem_map.2 ⟨d,hd,rfl⟩)
theorem dot_fits {K n:Nat} {a b:List Rat} (ha:QFits K a) (hb:QFits K b) (hn:a.length≤n):Fits (1+n*(K+K+1)) (dotR a b):=by
 unfold dotR;refine (fits_sum (k:=K+K) (fun q hq=>?_)).mono ?_
 · obtain ⟨i,hi,rfl⟩:=List.mem_iff_getElem.1 hq;rw [List.getElem_zipWith];exact (ha _ (List.getElem_mem _)).mul (hb _ (List.getElem_mem _))
 · have h1:(List.zipWith (fun x y:Rat=>x*y) a b).length≤n:=by rw [List.length_zipWith];omega
   have:=Nat.mul_le_mul_right (K+K+1) h1;exact Nat.add_le_add_left this 1
end Go.Proofs.Ytjhkapjadfpimaa
namespace Go.Proofs.Ytjhkapjadfpimaa
set_option linter.unusedVariables false
set_option linter.unusedSimpArgs false
open Go.RowKit Plain
structure Trn (P:Nat→Prop) (w w':World):Prop where
 os:w'.os=w.os
 tape:w'.tape=w.tape
 output:w'.output=w.output
 size:w.heap.size≤w'.heap.size
 block:∀ k,k < w.heap.size→¬ P k→w'.heap[k]?=w.heap[k]?
 nd:∀ k,P k→∃ t cur,Blk w k t cur∧NoDig cur
section
variable {P:Nat→Prop} {w w1 w':World}
theorem Trn.refl (nd:∀ k,P k→∃ t cur,Blk w k t cur∧NoDig cur):Trn P w w:=⟨rfl,rfl,rfl,Nat.le_refl _,fun _ _ _=>rfl,nd⟩
theorem Trn.next (h:Trn P w w1) (hb:Below w1.heap.size w1 w'):Trn P w w' :=
 ⟨hb.os.trans h.os,hb.tape.trans h.tape,hb.output.trans h.output,Nat.le_trans h.size hb.size,fun k hk hn=>(hb.block k (Nat.lt_of_lt_of_le hk h.size)).trans (h.block k hk hn),h.nd⟩
theorem Trn.only {g:Nat} (h:Trn P w w1) (o:Only w1 w' g) (hg:P g):Trn P w w' :=
 ⟨o.os.trans h.os,o.tape.trans h.tape,o.output.trans h.output,Nat.le_trans h.size o.size,fun k hk hn=>(o.block k (Nat.lt_of_lt_of_le hk h.size) (by intro e;injection e with e;subst e;exact hn hg)).trans (h.block k hk hn),h.nd⟩
theorem Trn.trans {Q:Nat→Prop} (h:Trn P w w1) (k:Trn Q w1 w') (hQ:∀ g,g < w.heap.size→Q g→P g):Trn P w w' :=
 ⟨k.os.trans h.os,k.tape.trans h.tape,k.output.trans h.output,Nat.le_trans h.size k.size,fun i hi hn=>(k.block i (Nat.lt_of_lt_of_le hi h.size) fun hq=>hn (hQ i hi hq)).trans (h.block i hi hn),h.nd⟩
theorem Trn.to_below {B:Nat} {a:World} (h:Trn P w w') (hb:Below B a w) (hB:B≤w.heap.size) (hP:∀ k,P k→B≤k):Below B a w' :=
 ⟨h.os.trans hb.os,h.tape.trans hb.tape,h.output.trans hb.output,Nat.le_trans hb.size h.size,fun k hk=>(h.block k (by omega) fun hp=>by have:=hP k hp;omega).trans (hb.block k hk)⟩
theorem Trn.of_below (hb:Below w.heap.size w w') (nd:∀ k,P k→∃ t cur,Blk w k t cur∧NoDig cur):Trn P w w':=(Trn.refl nd).next hb
theorem Blk.trn {g:Nat} {t:TypeId} {cs:Array Value} (h:Blk w g t cs) (ht:Trn P w w') (hn:¬ P g):Blk w' g t cs:=(ht.block g h.lt hn).trans h
theorem Nv.trn {A:Option Addr} {c:Nat} {l:List Nat} (h:Nv w A c l) (ht:Trn P w w'):Nv w' A c l:=by
 refine ⟨h.len,h.big,fun hx=>?_,h.dig⟩;obtain ⟨a,e,h1,h2⟩:=h.rd hx
 have hne:¬ P a.block:=fun hg=>by
  obtain ⟨t,cs,hB,hd⟩:=ht.nd _ hg;have h3:=h2 0 hx;have hl:0 < l.length:=by rw [u32s_length] at hx;exact hx
  unfold Blk at hB
  unfold World.cell? at h3
  rw [block_add,hB] at h3
  simp only at h3
  split at h3
  · cases h3
  · rw [List.getElem_of_eq (show u32s l=u32s l from rfl)] at h3
    simp only [u32s,List.getElem_map] at h3
    exact hd _ _ h3
 have hk:=ht.block a.block h1 hne
 exact ⟨a,e,Nat.lt_of_lt_of_le h1 ht.size,fun j hj=>by
  rw [World.cell?_of_block (w:=w) (by rw [block_add];exact hk)];exact h2 j hj⟩
theorem FV.trn {v:Value} {q:Rat} (h:FV w v q) (ht:Trn P w w'):FV w' v q:=by
 obtain ⟨n,A,ca,la,B,cb,lb,rfl,na,nb,iq⟩:=h;exact ⟨n,A,ca,la,B,cb,lb,rfl,na.trn ht,nb.trn ht,iq⟩
theorem Srow.trn {α:Type} {C:Nat} {cells:α→List Value} {c:Nat} {A:Option Addr} {ds:List α} (h:Srow w C cells A c ds) (ht:Trn P w w') (hne:∀ a,A=some a→¬ P a.block):Srow w' C cells A c ds :=
 ⟨h.1,h.2.1,fun j hj=>by
  obtain ⟨a,e,h1,h2⟩:=h.2.2 j hj;have hk:=ht.block a.block h1 (hne a e)
  exact ⟨a,e,Nat.lt_of_lt_of_le h1 ht.size,fun i u hu=>by
   rw [World.cell?_of_block (w:=w) (by rw [block_add];exact hk)];exact h2 i u hu⟩⟩
theorem FL.trn {c:Nat} {A:Option Addr} {ds:List FrD} (h:FL w A c ds) (ht:Trn P w w') (hne:∀ a,A=some a→¬ P a.block):FL w' A c ds :=
 ⟨h.row.trn ht hne,fun d hx=>(h.fv d hx).trn ht⟩
theorem VarQ.trn {g:Nat} {d:FrD} (h:VarQ w g d) (ht:Trn P w w') (hn:¬ P g):VarQ w' g d:=Blk.trn h ht hn
end
def Sv.W (S:Sv) (vm:Value) (k:Nat):Prop:=k=S.gs∨k=S.gx∨vm.ownBlock=some k
section
variable {S:Sv} {s:Sm} {ent:Value} {w:World}
theorem SolM.vaU (h:SolM S s ent w):∀ x,s.va≠.int .u32 x:=h.act.notU
theorem SolM.vmU (h:SolM S s ent w):∀ x,s.vm≠.int .u32 x:=h.mul.notU
theorem SolM.nd (h:SolM S s ent w) (he:∀ x,ent≠.int .u32 x):∀ k,S.W s.vm k→∃ t cur,Blk w k t cur∧NoDig cur:=fun k hk=>by
 rcases hk with rfl | rfl | hk
 · exact ⟨_,_,h.b.blk,SolB.noDig h.vaU h.vmU he⟩
 · obtain ⟨cur,h1,h2,-⟩:=h.b.xo;exact ⟨_,cur,h1,h2⟩
 · obtain ⟨cur,h1,h2⟩:=h.mul.2 k hk;exact ⟨_,cur,h1,h2⟩
theorem SolM.wlt (h:SolM S s ent w):∀ k,S.W s.vm k→k < w.heap.size:=fun k hk=>by
 rcases hk with rfl | rfl | hk
 · exact Nat.lt_of_lt_of_le h.b.hs h.b.hR
 · exact Nat.lt_of_lt_of_le h.b.hx h.b.hR
 · obtain ⟨cur,h1,h2⟩:=h.mul.2 k hk;exact Blk.lt h1
theorem SolM.setX (h:SolM S s ent w) {k:Nat} (hk:k < s.dx.length) {d:FrD} (hd:FV w d.v d.q) :
 ∃ w9,w.frozen? ⟨S.gx,k*3,none⟩=false∧w.frozen? ⟨S.gx,k*3+1,none⟩=false∧w.frozen? ⟨S.gx,k*3+2,none⟩=false ∧
  ((w.setCell ⟨S.gx,k*3,none⟩ (.bool d.neg)).setCell ⟨S.gx,k*3+1,none⟩ (.slice d.a d.la.length d.ca)).setCell ⟨S.gx,k*3+2,none⟩ (.slice d.b d.lb.length d.cb)=w9∧SolM S { s with dx:=s.dx.set k d } ent w9∧Only w w9 S.gx:=by
 obtain ⟨w9,f0,f1,f2,e9,hb9,o9⟩:=h.b.setX hk hd;obtain ⟨cur,hB,hn,-⟩:=h.b.xo;exact ⟨w9,f0,f1,f2,e9,⟨hb9,h.act.far (fun g' hg'=>by have:=h.act.block hg';have:=h.b.hx;omega) o9,h.mul.far (fun g' hg'=>by have:=h.mul.block hg';have:=h.b.hx;omega) o9,fun x hx=>(h.mf x hx).only_blk hB hn o9⟩,o9⟩
theorem SolM.setLev (h:SolM S s ent w) (he:∀ x,ent≠.int .u32 x) {d:FrD} (hd:FV w d.v d.q) :
 ∃ w9,w.frozen? ⟨S.gs,7,none⟩=false∧w.frozen? ⟨S.gs,8,none⟩=false∧w.frozen? ⟨S.gs,9,none⟩=false ∧
  ((w.setCell ⟨S.gs,7,none⟩ (.bool d.neg)).setCell ⟨S.gs,8,none⟩ (.slice d.a d.la.length d.ca)).setCell ⟨S.gs,9,none⟩ (.slice d.b d.lb.length d.cb)=w9∧SolM S { s with lv:=d } ent w9∧Only w w9 S.gs:=by
 obtain ⟨w9,f0,f1,f2,e9,hb9,o9⟩:=h.b.setLev h.vaU h.vmU he hd;exact ⟨w9,f0,f1,f2,e9,⟨hb9,h.act.far (fun g' hg'=>by have:=h.act.block hg';have:=h.b.hs;omega) o9,h.mul.far (fun g' hg'=>by have:=h.mul.block hg';have:=h.b.hs;omega) o9,fun x hx=>(h.mf x hx).only_blk h.b.blk (SolB.noDig h.vaU h.vmU he) o9⟩,o9⟩
theorem SolM.setM (h:SolM S s ent w) {k:Nat} (hk:k < s.dm.length) {d:FrD} (hd:FV w d.v d.q) :
 ∃ g c w9,s.vm=.slice (some ⟨g,0,none⟩) s.dm.length c∧w.frozen? ⟨g,k*3,none⟩=false∧w.frozen? ⟨g,k*3+1,none⟩=false∧w.frozen? ⟨g,k*3+2,none⟩=false ∧
  ((w.setCell ⟨g,k*3,none⟩ (.bool d.neg)).setCell ⟨g,k*3+1,none⟩ (.slice d.a d.la.length d.ca)).setCell ⟨g,k*3+2,none⟩ (.slice d.b d.lb.length d.cb)=w9∧SolM S { s with dm:=s.dm.set k d } ent w9∧Only w w9 g∧S.W s.vm g:=by
 obtain ⟨g,c,cur,w9,ev,hg,hB,hn,f0,f1,f2,e9,hq9,o9⟩:=h.mul.store hk d;have hown:s.vm.ownBlock=some g:=by rw [ev];rfl
 refine ⟨g,c,w9,ev,f0,f1,f2,e9,⟨h.b.far hg hB hn o9,h.act.far (fun g' hg'=>?_) o9,hq9,fun x hx=>?_⟩,o9,.inr (.inr hown)⟩
 · obtain ⟨cur2,k1,k2⟩:=h.act.2 g' hg';exact k1.ne_type hB (by decide)
 · rcases List.mem_or_eq_of_mem_set hx with hx | rfl
   · exact (h.mf x hx).only_blk hB hn o9
   · exact hd.only_blk hB hn o9
end
theorem step_appR {w:World} {ops:Array Oper} {o:Oper} {a:Act} {K:Act→World→Prop} {Q:Exit→Act→World→Prop} {E:Prop} (hgd:o.guard=none) {T:TypeId} (s x:Operand)
 (ho:o.op=.call { callee:=.builtin .append,args:=#[s,x],argTypes:=#[T,T] }) (hty:o.type=T) {v u v':Value} {w':World} (hs:a.eval s=v) (hx:a.eval x=u)
 (hr:(Builtin.append_ #[T,T] T #[v,u]).run Try.prog w=.ok v' w') (h:K (a.put o.dst v') w') :
 if Region.wanted o (yielded ops a.tmps)=true then Oper.wp Try.prog o a w K Q else E:=by
 have hw:Region.wanted o (yielded ops a.tmps)=true:=by simp [Region.wanted,hgd]
 rw [if_pos hw]
 unfold Oper.wp execOp
 simp only [ho,hty,resolve,invoke,builtin,Sem.run_bind,Sem.run_pure,Result.andThen_ok,List.map_toArray,List.map_cons,List.map_nil,hs,hx,hr]
 exact h
theorem wpList_appR {ops:Array Oper} {rest:List Oper} {o:Oper} {a:Act} {Q:Exit→Act→World→Prop} (hgd:o.guard=none) {T:TypeId} (hty:o.type=T) (s x:Operand)
 (ho:o.op=.call { callee:=.builtin .append,args:=#[s,x],argTypes:=#[T,T] }) {w:World} {v u v':Value} {w':World} (hs:a.eval s=v) (hx:a.eval x=u)
 (hr:(Builtin.append_ #[T,T] T #[v,u]).run Try.prog w=.ok v' w') (h:wpList Try.prog ops Q rest (a.put o.dst v') w'):wpList Try.prog ops Q (o :: rest) a w:=by
 refine wpList_plain hgd fun K hK=>?_
 unfold Oper.wp execOp
 simp only [ho,hty,resolve,invoke,builtin,Sem.run_bind,Sem.run_pure,Result.andThen_ok,List.map_toArray,List.map_cons,List.map_nil,hs,hx,hr]
 exact hK _ _ h
theorem OwnQ.xo {w:World} {base g n c:Nat} {ds:List FrD} (h:OwnQ w base (.slice (some ⟨g,0,none⟩) n c) ds):n=ds.length∧base≤g∧XO w g c ds:=by
 rcases h.1.2 with ⟨h0,_⟩ | ⟨g',cap,cur,e,hb,hg,hn,hm,hs,ht⟩
 · cases h0
 · cases e
   have hm2:maxLen=9223372036854775807:=rfl;obtain ⟨cur2,k1,k2⟩:=h.2 g rfl;have hB:Blk w g 28 cur:=hg
   have ec:cur2=cur:=by
    unfold Blk at k1 hB;rw [hB] at k1
    injection k1 with k1
    injection k1 with k1 _ _
    exact k1.symm
   subst ec;exact ⟨rfl,hb,cur2,k1,k2,hn,by omega,ht,by rw [hs];omega⟩
theorem OwnQ.some_of {w:World} {base:Nat} {v:Value} {ds:List FrD} (h:OwnQ w base v ds) (hv:v≠.slice none 0 0):∃ g c,v=.slice (some ⟨g,0,none⟩) ds.length c:=by
 rcases h.1.2 with ⟨h0,_⟩ | ⟨g',cap,cur,e,_⟩
 · exact absurd h0 hv
 · exact ⟨g',cap,e⟩
theorem FL.cellsOf {w:World} {ad:Addr} {c:Nat} {ds:List FrD} (h:FL w (some ad) c ds) (j:Nat) (u:Value) (hj:(ds.flatMap FrD.cells)[j]?=some u):w.cell? (ad.add j)=some u:=by
 have hl:=(List.getElem?_eq_some_iff.1 hj).1;rw [flat_len] at hl;obtain ⟨a,e,h1,h2⟩:=h.row.2.2 (j / 3) (by omega)
 cases e
 have h3:=flat3 ds (j / 3) (j % 3) (by omega) (by omega);rw [show j / 3*3+j % 3=j by omega,hj] at h3;have:=h2 (j % 3) u h3.symm
 rwa [show j / 3*3+j % 3=j by omega] at this
theorem run_appQ00 (w:World) (g c:Nat) (ad:Addr):(Builtin.append_ #[22,22] 22 #[.slice (some ⟨g,0,none⟩) 0 0,.slice (some ad) 0 c]).run Try.prog w=.ok (.slice (some ⟨g,0,none⟩) 0 0) w:=by
 obtain ⟨i,hi,hz0,hz1,hz2⟩:=info_parts infoFrac
 simp [Builtin.append_,run_underlying Try.underlying22,sizeOf,typeInfo,hi,Builtin.lenOf,Builtin.firstCells,loadCells,loadCellsFrom,storeCells]
theorem OwnQ.empty_at {w:World} {g:Nat} (hB:Blk w g 28 #[]) {base:Nat} (hb:base≤g):OwnQ w base (.slice (some ⟨g,0,none⟩) 0 0) [] :=
 ⟨⟨rfl,.inr ⟨g,0,#[],rfl,hb,hB,Nat.le_refl _,by decide,rfl,rfl⟩⟩,fun g' hg=>by
  simp [Value.ownBlock] at hg
  subst hg;exact ⟨_,hB,fun i x=>by simp⟩⟩
theorem run_copyQ {w:World} {gE:Nat} (hB:Blk w gE 28 #[]) {A:Option Addr} {c:Nat} {ds:List FrD} (h:FL w A c ds) (hn:ds.length≤1000000000000):∃ g cx w',(Builtin.append_ #[22,22] 22 #[.slice (some ⟨gE,0,none⟩) 0 0,.slice A ds.length c]).run Try.prog w=.ok (.slice (some ⟨g,0,none⟩) ds.length cx) w' ∧
 OwnQ w' gE (.slice (some ⟨g,0,none⟩) ds.length cx) ds∧XO w' g cx ds∧AllFV w' ds∧gE≤g∧Below w.heap.size w w':=by
 have hE:=OwnQ.empty_at hB (Nat.le_refl gE);have hlt:=hB.lt
 cases ds with
 | nil =>
  refine ⟨gE,0,w,?_,hE,hE.xo.2.2,fun d hd=>by simp at hd,Nat.le_refl _,Below.refl _ _⟩
  cases A with
  | none=>exact run_appQ0 w gE c
  | some ad=>exact run_appQ00 w gE c ad
 | cons d ds =>
  obtain ⟨ad,rfl,-⟩:=h.row.2.2 0 (by simp);have hcl:=h.cellsOf;have hpos:0 < (d :: ds).length:=by simp
  generalize hds:d :: ds=es at *
  obtain ⟨v',w',hr,ho,hg⟩:=run_appQs w gE _ [] hE ad c es (fun j u hj=>hcl j u hj) (by simpa using hn) (by omega);obtain ⟨i,hi,hz0,hz1,hz2⟩:=info_parts infoFrac;have hmx:maxLen=9223372036854775807:=rfl;have hby:∀ k,k≤1000000000000→k*56≤140737488355328:=fun k hk=>by omega
  have hr2:=run_append_grow (P:=Try.prog) w 22 22 28 i _ Try.underlying22 hi hz0 ⟨gE,0,none⟩ 0 0 [] (by simp) (by simp) ad es.length c (es.flatMap FrD.cells) (by rw [hz1];exact flat_len es) hcl (by omega) (by omega) (growslice_fits (by omega) (by rw [hz2];exact hby _ (by omega)));rw [hr] at hr2
  injection hr2 with e1 e2
  subst e1;rw [List.nil_append] at ho;obtain ⟨e3,h1,h2⟩:=ho.xo
  have bN:Below w.heap.size w w':=by
   rw [e2];exact (Below.refl w.heap.size w).drew.alloc (Nat.le_refl _) _
  rw [show 0+es.length=es.length by omega] at hr ho h2;exact ⟨_,_,w',hr,ho,h2,fun x hx=>(h.fv x hx).below bN,h1,bN⟩
theorem infoCon:(Try.prog.info? 103).map (fun i=>(i.zero,i.size,i.bytes))=some (some (.agg #[.slice none 0 0,.bool false,.slice none 0 0,.slice none 0 0]),4,80):=by kernel_rfl
def OwnC (w:World) (base:Nat) (v:Value) (cs:List CoD):Prop:=OwnG 103 4 NotU w base v cs.length (cs.flatMap CoD.cells)
theorem OwnC.nil (w:World) (base:Nat):OwnC w base (.slice none 0 0) []:=OwnG.nil w base
theorem OwnC.below {w w':World} {base:Nat} {v:Value} {cs:List CoD} (h:OwnC w base v cs) (hb:Below w.heap.size w w'):OwnC w' base v cs:=OwnG.below h hb
theorem notU_con (d:CoD):∀ u ∈ d.cells,NotU u:=fun u hu x e=>by
 subst e
 simp [CoD.cells] at hu
theorem notU_cons (cs:List CoD):AllPL NotU (cs.flatMap CoD.cells):=fun u hu=>by
 obtain ⟨d,_,hd⟩:=List.mem_flatMap.1 hu;exact notU_con d u hd
theorem con4:∀ (ds:List CoD) (j i:Nat) (hj:j < ds.length),i < 4→(ds.flatMap CoD.cells)[j*4+i]?=(ds[j]).cells[i]?
 | d :: ds,0,i,_,hi=>by
  rw [List.flatMap_cons,List.getElem?_append_left (by simp [CoD.cells];omega)]
  simp
 | d :: ds,j+1,i,hj,hi=>by
  rw [List.flatMap_cons,List.getElem?_append_right (by simp [CoD.cells];omega)];have e:(j+1)*4+i - d.cells.length=j*4+i:=by simp [CoD.cells];omega
  rw [e,con4 ds j i (by simpa using hj) hi]
  rfl
theorem run_appC (w:World) (base:Nat) (v:Value) (cs:List CoD) (hown:OwnC w base v cs) (ad:Addr) (c:Nat) (d:CoD) (hnews:∀ j u,d.cells[j]?=some u→w.cell? (ad.add j)=some u) (h63:cs.length+1≤1000000000000) (hbase:base≤w.heap.size) :
 ∃ v' w',(Builtin.append_ #[96,96] 96 #[v,.slice (some ad) 1 c]).run Try.prog w=.ok v' w'∧OwnC w' base v' (cs ++ [d])∧w.grownBy w' v.ownBlock:=by
 obtain ⟨v',w',h1,h2,h3⟩:=run_appG (P:=NotU) w base v cs.length _ Try.underlying96 infoCon rfl (by decide) (fun i u hi x e=>by
  subst e
  match i with
  | 0=>injection hi with hi;cases hi
  | 1=>injection hi with hi;cases hi
  | 2=>injection hi with hi;cases hi
  | 3=>injection hi with hi;cases hi
  | i+4=>simp [Value.cells] at hi) (by decide) hown ad 1 c d.cells (by decide) rfl hnews (fun u hu=>by
   simp only [CoD.cells,List.mem_cons,List.not_mem_nil,or_false] at hu
   rcases hu with rfl | rfl | rfl | rfl <;> rfl) (notU_con d) h63 hbase (notU_cons cs)
 refine ⟨v',w',h1,?_,h3⟩;unfold OwnC;rw [List.length_append,List.flatMap_append]
 simpa using h2
theorem OwnC.srow {w:World} {base:Nat} {v:Value} {cs:List CoD} (h:OwnC w base v cs):∃ A c,v=.slice A cs.length c∧Srow w 4 CoD.cells A c cs∧∀ a,A=some a→base≤a.block∧a.block < w.heap.size∧∃ cur,Blk w a.block 103 cur:=by
 have hm2:maxLen=9223372036854775807:=rfl
 rcases h.1.2 with ⟨rfl,h0⟩ | ⟨g,cap,cur,rfl,hb,hg,hn,hm,hs,ht⟩
 · have:cs=[]:=List.eq_nil_of_length_eq_zero h0;subst this;exact ⟨none,0,rfl,⟨by simp,by omega,fun j hj=>by simp at hj⟩,fun a e=>by cases e⟩
 · have hB:Blk w g 103 cur:=hg;refine ⟨_,cap,rfl,⟨hn,by omega,fun j hj=>⟨_,rfl,hB.lt,fun i u hu=>?_⟩⟩,fun a e=>by cases e;exact ⟨hb,hB.lt,cur,hB⟩⟩
   have hi:i < 4:=by
    have:=(List.getElem?_eq_some_iff.1 hu).1
    simpa [CoD.cells] using this
   rw [add_zero_,World.ownsRow.cellAt (n:=cs.length) (base:=base) (e:=103) (size:=4) (cap:=cap) h.1 (j*4+i) (by omega),con4 cs j i hj hi];exact hu
end Go.Proofs.Ytjhkapjadfpimaa
