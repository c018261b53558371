/- Contracts of functions, for the law. -/
import Derived.Test.YtjhkapjadfpimaaNTrn
import Derived.Test.YtjhkapjadfpimaaMAppQ
import Derived.Test.YtjhkapjadfpimaaMMake
import Derived.Maps.AppendAt
namespace Go.Proofs.Ytjhkapjadfpimaa
set_option linter.unusedVariables false
set_option linter.unusedSimpArgs false
open Go.RowKit Plain
theorem step_appR {w:World}{ops:Array Oper}{o:Oper}{a:Act}{K:Act→World→Prop}{Q:Exit→Act→World→Prop}{E:Prop}(hgd:o.guard=none){T:TypeId}(s x:Operand)
 (ho:o.op=.call { callee:=.builtin .append,args:=#[s,x],argTypes:=#[T,T] }) (hty:o.type=T) {v u v':Value} {w':World} (hs:a.eval s=v) (hx:a.eval x=u)
 (hr:(Builtin.append_ #[T,T] T #[v,u]).run Try.prog w=.ok v' w') (h:K (a.put o.dst v') w') :
 if Region.wanted o (yielded ops a.tmps)=true then Oper.wp Try.prog o a w K Q else E:=by
 have hw:Region.wanted o (yielded ops a.tmps)=true:=by simp[Region.wanted,hgd]
 rw[if_pos hw]
 unfold Oper.wp execOp
 simp only[ho,hty,resolve,invoke,builtin,Sem.run_bind,Sem.run_pure,Result.andThen_ok,List.map_toArray,List.map_cons,List.map_nil,hs,hx,hr]
 exact h
theorem wpList_appR {ops:Array Oper}{rest:List Oper}{o:Oper}{a:Act}{Q:Exit→Act→World→Prop}(hgd:o.guard=none){T:TypeId}(hty:o.type=T) (s x:Operand)
 (ho:o.op=.call { callee:=.builtin .append,args:=#[s,x],argTypes:=#[T,T] }) {w:World} {v u v':Value} {w':World} (hs:a.eval s=v) (hx:a.eval x=u)
 (hr:(Builtin.append_ #[T,T] T #[v,u]).run Try.prog w=.ok v' w') (h:wpList Try.prog ops Q rest (a.put o.dst v') w'):wpList Try.prog ops Q (o::rest) a w:=by
 refine wpList_plain hgd fun K hK=>?_
 unfold Oper.wp execOp
 simp only[ho,hty,resolve,invoke,builtin,Sem.run_bind,Sem.run_pure,Result.andThen_ok,List.map_toArray,List.map_cons,List.map_nil,hs,hx,hr]
 exact hK _ _ h
theorem OwnQ.xo {w:World}{base g n c:Nat}{ds:List FrD}(h:OwnQ w base (.slice (some ⟨g,0,none⟩) n c) ds):n=ds.length∧base≤g∧XO w g c ds:=by
 rcases h.1.2 with ⟨h0,_⟩ | ⟨g',cap,cur,e,hb,hg,hn,hm,hs,ht⟩
 · cases h0
 · cases e
   have hm2:maxLen=9223372036854775807:=rfl;obtain⟨cur2,k1,k2⟩:=h.2 g rfl;have hB:Blk w g 28 cur:=hg
   have ec:cur2=cur:=by
    unfold Blk at k1 hB;rw[hB] at k1
    injection k1 with k1
    injection k1 with k1 _ _
    exact k1.symm
   subst ec;exact⟨rfl,hb,cur2,k1,k2,hn,by omega,ht,by rw[hs];omega⟩
theorem OwnQ.some_of {w:World}{base:Nat}{v:Value}{ds:List FrD}(h:OwnQ w base v ds) (hv:v≠.slice none 0 0):∃ g c,v=.slice (some ⟨g,0,none⟩) ds.length c:=by
 rcases h.1.2 with ⟨h0,_⟩ | ⟨g',cap,cur,e,_⟩
 · exact absurd h0 hv
 · exact⟨g',cap,e⟩
theorem FL.cellsOf {w:World}{ad:Addr}{c:Nat}{ds:List FrD}(h:FL w (some ad) c ds) (j:Nat) (u:Value) (hj:(ds.flatMap FrD.cells)[j]?=some u):w.cell? (ad.add j)=some u:=by
 have hl:=(List.getElem?_eq_some_iff.1 hj).1;rw[flat_len] at hl;obtain⟨a,e,h1,h2⟩:=h.row.2.2 (j / 3) (by omega)
 cases e
 have h3:=flat3 ds (j / 3) (j % 3) (by omega) (by omega);rw[show j / 3*3+j % 3=j by omega,hj] at h3;have:=h2 (j % 3) u h3.symm
 rwa [show j / 3*3+j % 3=j by omega] at this
theorem run_appQ00 (w:World) (g c:Nat) (ad:Addr):(Builtin.append_ #[22,22] 22 #[.slice (some ⟨g,0,none⟩) 0 0,.slice (some ad) 0 c]).run Try.prog w=.ok (.slice (some ⟨g,0,none⟩) 0 0) w:=by
 obtain⟨i,hi,hz0,hz1,hz2⟩:=info_parts infoFrac
 simp[Builtin.append_,run_underlying Try.underlying22,sizeOf,typeInfo,hi,Builtin.lenOf,Builtin.firstCells,loadCells,loadCellsFrom,storeCells]
theorem OwnQ.empty_at {w:World}{g:Nat}(hB:Blk w g 28 #[]){base:Nat}(hb:base≤g):OwnQ w base (.slice (some ⟨g,0,none⟩) 0 0) [] :=
 ⟨⟨rfl,.inr ⟨g,0,#[],rfl,hb,hB,Nat.le_refl _,by decide,rfl,rfl⟩⟩,fun g' hg=>by
  simp[Value.ownBlock] at hg
  subst hg;exact⟨_,hB,fun i x=>by simp⟩⟩
theorem run_copyQ {w:World}{gE:Nat}(hB:Blk w gE 28 #[]){A:Option Addr}{c:Nat}{ds:List FrD}(h:FL w A c ds) (hn:ds.length≤1000000000000):∃ g cx w',(Builtin.append_ #[22,22] 22 #[.slice (some ⟨gE,0,none⟩) 0 0,.slice A ds.length c]).run Try.prog w=.ok (.slice (some ⟨g,0,none⟩) ds.length cx) w' ∧
 OwnQ w' gE (.slice (some ⟨g,0,none⟩) ds.length cx) ds∧XO w' g cx ds∧AllFV w' ds∧gE≤g∧Below w.heap.size w w':=by
 have hE:=OwnQ.empty_at hB (Nat.le_refl gE);have hlt:=hB.lt
 cases ds with
 | nil =>
  refine⟨gE,0,w,?_,hE,hE.xo.2.2,fun d hd=>by simp at hd,Nat.le_refl _,Below.refl _ _⟩
  cases A with
  | none=>exact run_appQ0 w gE c
  | some ad=>exact run_appQ00 w gE c ad
 | cons d ds =>
  obtain⟨ad,rfl,-⟩:=h.row.2.2 0 (by simp);have hcl:=h.cellsOf;have hpos:0<(d::ds).length:=by simp
  generalize hds:d::ds=es at *
  obtain⟨v',w',hr,ho,hg⟩:=run_appQs w gE _ [] hE ad c es (fun j u hj=>hcl j u hj) (by simpa using hn) (by omega);obtain⟨i,hi,hz0,hz1,hz2⟩:=info_parts infoFrac;have hmx:maxLen=9223372036854775807:=rfl;have hby:∀ k,k≤1000000000000→k*56≤140737488355328:=fun k hk=>by omega
  have hr2:=run_append_grow (P:=Try.prog) w 22 22 28 i _ Try.underlying22 hi hz0 ⟨gE,0,none⟩ 0 0 [] (by simp) (by simp) ad es.length c (es.flatMap FrD.cells) (by rw[hz1];exact flat_len es) hcl (by omega) (by omega) (growslice_fits (by omega) (by rw[hz2];exact hby _ (by omega)));rw[hr] at hr2
  injection hr2 with e1 e2
  subst e1;rw[List.nil_append] at ho;obtain⟨e3,h1,h2⟩:=ho.xo
  have bN:Below w.heap.size w w':=by
   rw[e2];exact (Below.refl w.heap.size w).drew.alloc (Nat.le_refl _) _
  rw[show 0+es.length=es.length by omega] at hr ho h2;exact⟨_,_,w',hr,ho,h2,fun x hx=>(h.fv x hx).below bN,h1,bN⟩
theorem infoCon:(Try.prog.info? 103).map (fun i=>(i.zero,i.size,i.bytes))=some (some (.agg #[.slice none 0 0,.bool false,.slice none 0 0,.slice none 0 0]),4,80):=by kernel_rfl
def OwnC (w:World) (base:Nat) (v:Value) (cs:List CoD):Prop:=OwnG 103 4 NotU w base v cs.length (cs.flatMap CoD.cells)
theorem OwnC.nil (w:World) (base:Nat):OwnC w base (.slice none 0 0) []:=OwnG.nil w base
theorem OwnC.below {w w':World}{base:Nat}{v:Value}{cs:List CoD}(h:OwnC w base v cs) (hb:Below w.heap.size w w'):OwnC w' base v cs:=OwnG.below h hb
theorem notU_con (d:CoD):∀ u∈d.cells,NotU u:=fun u hu x e=>by
 subst e
 simp[CoD.cells] at hu
theorem notU_cons (cs:List CoD):AllPL NotU (cs.flatMap CoD.cells):=fun u hu=>by
 obtain⟨d,_,hd⟩:=List.mem_flatMap.1 hu;exact notU_con d u hd
theorem con4:∀ (ds:List CoD) (j i:Nat) (hj:j<ds.length),i<4→(ds.flatMap CoD.cells)[j*4+i]?=(ds[j]).cells[i]?
 | d::ds,0,i,_,hi=>by
  rw[List.flatMap_cons,List.getElem?_append_left (by simp[CoD.cells];omega)]
  simp
 | d::ds,j+1,i,hj,hi=>by
  rw[List.flatMap_cons,List.getElem?_append_right (by simp[CoD.cells];omega)];have e:(j+1)*4+i-d.cells.length=j*4+i:=by simp[CoD.cells];omega
  rw[e,con4 ds j i (by simpa using hj) hi]
  rfl
theorem run_appC (w:World) (base:Nat) (v:Value) (cs:List CoD) (hown:OwnC w base v cs) (ad:Addr) (c:Nat) (d:CoD) (hnews:∀ j u,d.cells[j]?=some u→w.cell? (ad.add j)=some u) (h63:cs.length+1≤1000000000000) (hbase:base≤w.heap.size) :
 ∃ v' w',(Builtin.append_ #[96,96] 96 #[v,.slice (some ad) 1 c]).run Try.prog w=.ok v' w'∧OwnC w' base v' (cs++[d])∧w.grownBy w' v.ownBlock:=by
 obtain⟨v',w',h1,h2,h3⟩:=run_appG (P:=NotU) w base v cs.length _ Try.underlying96 infoCon rfl (by decide) (fun i u hi x e=>by
  subst e
  match i with
  | 0=>injection hi with hi;cases hi
  | 1=>injection hi with hi;cases hi
  | 2=>injection hi with hi;cases hi
  | 3=>injection hi with hi;cases hi
  | i+4=>simp[Value.cells] at hi) (by decide) hown ad 1 c d.cells (by decide) rfl hnews (fun u hu=>by
   simp only[CoD.cells,List.mem_cons,List.not_mem_nil,or_false] at hu
   rcases hu with rfl | rfl | rfl | rfl <;> rfl) (notU_con d) h63 hbase (notU_cons cs)
 refine⟨v',w',h1,?_,h3⟩;unfold OwnC;rw[List.length_append,List.flatMap_append]
 simpa using h2
theorem OwnC.srow {w:World}{base:Nat}{v:Value}{cs:List CoD}(h:OwnC w base v cs):∃ A c,v=.slice A cs.length c∧Srow w 4 CoD.cells A c cs∧∀ a,A=some a→base≤a.block∧a.block<w.heap.size∧∃ cur,Blk w a.block 103 cur:=by
 have hm2:maxLen=9223372036854775807:=rfl
 rcases h.1.2 with ⟨rfl,h0⟩ | ⟨g,cap,cur,rfl,hb,hg,hn,hm,hs,ht⟩
 · have:cs=[]:=List.eq_nil_of_length_eq_zero h0;subst this;exact⟨none,0,rfl,⟨by simp,by omega,fun j hj=>by simp at hj⟩,fun a e=>by cases e⟩
 · have hB:Blk w g 103 cur:=hg;refine⟨_,cap,rfl,⟨hn,by omega,fun j hj=>⟨_,rfl,hB.lt,fun i u hu=>?_⟩⟩,fun a e=>by cases e;exact⟨hb,hB.lt,cur,hB⟩⟩
   have hi:i<4:=by
    have:=(List.getElem?_eq_some_iff.1 hu).1
    simpa [CoD.cells] using this
   rw[add_zero_,World.ownsRow.cellAt (n:=cs.length) (base:=base) (e:=103) (size:=4) (cap:=cap) h.1 (j*4+i) (by omega),con4 cs j i hj hi];exact hu
theorem OwnM.one {w:World}{g:Nat}{r:RwD}(hB:Blk w g 22 #[.slice r.a r.ds.length r.c]){base:Nat}(hb:base≤g):OwnM w base (.slice (some ⟨g,0,none⟩) 1 1) [r] :=
 ⟨⟨rfl,.inr ⟨g,1,_,rfl,hb,hB,Nat.le_refl _,by decide,rfl,rfl⟩⟩,fun g' hg=>by
  simp[Value.ownBlock] at hg
  subst hg;refine⟨_,hB,fun i x hx=>?_⟩
  match i with
  | 0=>injection hx with hx;exact⟨_,_,_,hx.symm⟩
  | i+1=>simp at hx⟩
theorem MtAt.one {M:Mat}{root w:World}{g:Nat}{r:RwD}(hB:Blk w g 22 #[.slice r.a r.ds.length r.c]) (hb:root.heap.size≤g) (hr:FL w r.a r.c r.ds) (hq:M[0]?=some r.qs) (hbel:Below root.heap.size root w):MtAt M root 1 (.slice (some ⟨g,0,none⟩) 1 1) w :=
 ⟨[r],OwnM.one hB hb,fun x hx=>by simp at hx;subst hx;exact hr,rfl,by rw[List.take_add_one,hq];rfl,hbel⟩
theorem LsAt.done2 {qs:List Rat}{root:World}{k:Nat}{v:Value}{w:World}(h:LsAt qs root k v w) (hk:k=qs.length):∃ A c ds,v=.slice A ds.length c∧FL w A c ds∧Hid (ds.map FrD.q=qs)∧∀ a,A=some a→root.heap.size≤a.block∧a.block<w.heap.size:=by
 obtain⟨os,h1,h2,h3,h4,h5⟩:=h;obtain⟨A,c,e,hf⟩:=h1.fl h2;refine⟨A,c,os,e,hf,by show _=_;rw[h4,hk,List.take_length],fun a ea=>?_⟩
 rcases h1.1.2 with ⟨e0,h0⟩ | ⟨g,cap,cur,e1,hb,hg,hn,hm,hs,ht⟩
 · rw[e0] at e;injection e with e _ _;rw[←e] at ea;cases ea
 · rw[e1] at e;injection e with e _ _;rw[←e] at ea;cases ea;exact⟨hb,Blk.lt (show Blk w g 28 cur from hg)⟩
theorem run_appQ2 (w:World) (base:Nat) (v:Value) (ds:List FrD) (hown:OwnQ w base v ds) (ad:Addr) (c:Nat) (d:FrD) (hnews:∀ j u,d.cells[j]?=some u→w.cell? (ad.add j)=some u)
 (h63:ds.length+1≤1000000000000) (hbase:base≤w.heap.size) :
 ∃ v' w',(Builtin.append_ #[22,22] 22 #[v,.slice (some ad) 1 c]).run Try.prog w=.ok v' w'∧OwnQ w' base v' (ds++[d])∧w.grownBy w' v.ownBlock∧(v'.ownBlock=v.ownBlock∨v'.ownBlock=some w.heap.size):=by
 obtain⟨v',w',h1,h2,h3⟩:=run_appQ w base v ds hown ad c d hnews h63 hbase;obtain⟨i,hi,hz0,hz1,hz2⟩:=info_parts infoFrac;have hm:maxLen=9223372036854775807:=rfl
 have h1c:∀ u∈d.cells,u.oneCell'=true:=by
  intro u hu
  simp only[FrD.cells,List.mem_cons,List.not_mem_nil,or_false] at hu
  rcases hu with rfl | rfl | rfl <;> rfl
 obtain⟨v2,w2,k1,_,_,_,k5⟩:=run_append_own_at (P:=Try.prog) (w:=w) base 22 22 28 i (.agg #[.bool false,.slice none 0 0,.slice none 0 0]) 3 56 Try.underlying22 hi hz0 hz1 hz2 rfl (by decide) v ds.length (ds.flatMap FrD.cells) hown.1 ad 1 c d.cells rfl hnews h1c (by omega) (by omega) hbase;rw[h1] at k1
 injection k1 with e1 e2
 subst e1 e2;exact⟨v',w',h1,h2,h3,k5⟩
def GrAt (G:Mat) (rt:List Rat) (root:World) (k l:Nat) (vg vr:Value) (w:World):Prop :=
 ∃ (rows:List RwD) (os:List FrD),OwnM w root.heap.size vg rows∧OwnQ w root.heap.size vr os∧(∀ r∈rows,FL w r.a r.c r.ds∧∀ a,r.a=some a→vr.ownBlock≠some a.block∧a.block<w.heap.size)∧AllFV w os∧rows.length=k∧os.length=l∧qsM rows=G.take k∧os.map FrD.q=rt.take l∧Below root.heap.size root w
section
variable {G:Mat}{rt:List Rat}{root w w':World}{k l:Nat}{vg vr:Value}
theorem GrAt.start (h:Below root.heap.size root w):GrAt G rt root 0 0 (.slice none 0 0) (.slice none 0 0) w :=
 ⟨[],[],OwnM.nil _ _,OwnQ.nil _ _,fun r hr=>by simp at hr,fun d hd=>by simp at hd,rfl,rfl,rfl,rfl,h⟩
theorem GrAt.below (h:GrAt G rt root k l vg vr w) (hb:Below w.heap.size w w'):GrAt G rt root k l vg vr w':=by
 obtain⟨rows,os,h1,h2,h3,h4,h5,h6,h7,h8,h9⟩:=h;exact⟨rows,os,h1.below hb,h2.below hb,fun r hr=>⟨(h3 r hr).1.below hb,fun a e=>⟨((h3 r hr).2 a e).1,Nat.lt_of_lt_of_le ((h3 r hr).2 a e).2 hb.size⟩⟩,h4.below hb,h5,h6,h7,h8,h9.trans (hb.mono h9.size)⟩
theorem GrAt.bel (h:GrAt G rt root k l vg vr w):Below root.heap.size root w:=by
 obtain⟨rows,os,h1,h2,h3,h4,h5,h6,h7,h8,h9⟩:=h;exact h9
theorem GrAt.own (h:GrAt G rt root k l vg vr w):∀ g,vr.ownBlock=some g→g<w.heap.size:=by
 obtain⟨rows,os,h1,h2,h3,h4,h5,h6,h7,h8,h9⟩:=h;intro g hg;obtain⟨cur,k1,k2⟩:=h2.2 g hg;exact Blk.lt k1
theorem OwnQ.ownM {base:Nat}{v u:Value}{ds:List FrD}{rows:List RwD}{b2:Nat}(h:OwnQ w base v ds) (hown:OwnM w b2 u rows) (hg:w.grownBy w' u.ownBlock):OwnQ w' base v ds:=by
 cases hu:u.ownBlock with
 | none=>rw[hu] at hg;exact h.below ⟨hg.os,hg.tape,hg.output,hg.size,fun i hi=>hg.block i hi (by simp)⟩
 | some g =>
  rw[hu] at hg;obtain⟨cur,k1,k2⟩:=hown.2 g hu;refine h.far (fun g' hg'=>?_) hg;obtain⟨cur2,k3,k4⟩:=h.2 g' hg';exact Blk.ne_type k3 k1 (by decide)
theorem GrAt.appM (h:GrAt G rt root k l vg vr w){r:RwD}(hk:k<1000000000000) (hq:G[k]?=some r.qs) (hr:FL w r.a r.c r.ds) (hra:∀ a,r.a=some a→vr.ownBlock≠some a.block∧a.block<w.heap.size) :
 ∃ v6 w6,(∀ T,Try.prog.underlying T=some (.slice 22)→True)∧(Builtin.append_ #[118,118] 118 #[vg,.slice (some ⟨w.heap.size,0,none⟩) 1 1]).run Try.prog (w.alloc (.cells #[.slice r.a r.ds.length r.c] 22))=.ok v6 w6∧GrAt G rt root (k+1) l v6 vr w6:=by
 obtain⟨rows,os,h1,h2,h3,h4,h5,h6,h7,h8,h9⟩:=h;have ba:=(Below.refl w.heap.size w).alloc (Nat.le_refl _) (.cells #[.slice r.a r.ds.length r.c] 22);have ho:=h1.below ba;obtain⟨v6,w6,hrun,g1,g2⟩:=run_appM Try.underlying118 _ root.heap.size vg rows ho ⟨w.heap.size,0,none⟩ 1 r (row_cell w r) (by omega) (Nat.le_trans h9.size ba.size);refine⟨v6,w6,fun _ _=>trivial,hrun,rows++[r],os,g1,(h2.below ba).ownM ho g2,fun x hx=>?_,fun d hd=>((h4 d hd).below ba).own isSl_u32 ho g2,by rw[List.length_append,h5];rfl,h6,?_,h8,?_⟩
 · rcases List.mem_append.1 hx with hx | hx
   · exact⟨((h3 x hx).1.below ba).ownM ho g2,fun a e=>⟨((h3 x hx).2 a e).1,Nat.lt_of_lt_of_le ((h3 x hx).2 a e).2 (Nat.le_trans ba.size g2.size)⟩⟩
   · simp at hx;subst hx
     exact⟨(hr.below ba).ownM ho g2,fun a e=>⟨(hra a e).1,Nat.lt_of_lt_of_le (hra a e).2 (Nat.le_trans ba.size g2.size)⟩⟩
 · rw[List.take_add_one,hq,←h7];simp[qsM]
 · exact (h9.trans (ba.mono h9.size)).grown g2 (Nat.le_trans h9.size ba.size) fun g hg=>OwnG.block h1 hg
theorem GrAt.appQ (h:GrAt G rt root k l vg vr w){d:FrD}(hk:l<1000000000000) (hq:rt[l]?=some d.q) (hd:FV w d.v d.q) :
 ∃ v6 w6,(Builtin.append_ #[22,22] 22 #[vr,.slice (some ⟨w.heap.size,0,none⟩) 1 1]).run Try.prog (w.alloc (.cells #[.bool d.neg,.slice d.a d.la.length d.ca,.slice d.b d.lb.length d.cb] 28))=.ok v6 w6∧GrAt G rt root k (l+1) vg v6 w6:=by
 obtain⟨rows,os,h1,h2,h3,h4,h5,h6,h7,h8,h9⟩:=h;have ba:=(Below.refl w.heap.size w).alloc (Nat.le_refl _) (.cells #[.bool d.neg,.slice d.a d.la.length d.ca,.slice d.b d.lb.length d.cb] 28);have hB:=Blk.new w 28 #[.bool d.neg,.slice d.a d.la.length d.ca,.slice d.b d.lb.length d.cb];have ho:=h2.below ba;have hlt:w.heap.size<(w.alloc (.cells #[.bool d.neg,.slice d.a d.la.length d.ca,.slice d.b d.lb.length d.cb] 28)).heap.size:=Blk.lt hB
 obtain⟨v6,w6,hrun,g1,g2,g3⟩:=run_appQ2 _ root.heap.size vr os ho ⟨w.heap.size,0,none⟩ 1 d (fun j u hj=>by
  match j with
  | 0=>injection hj with hj;subst hj;exact Blk.f0 hB
  | 1=>injection hj with hj;subst hj;exact Blk.f1 hB
  | 2=>injection hj with hj;subst hj;exact Blk.f2 hB
  | j+3=>simp[FrD.cells] at hj) (by omega) (Nat.le_trans h9.size ba.size)
 have key:∀ {A:Option Addr} {c:Nat} {ds:List FrD},FL (w.alloc (.cells #[.bool d.neg,.slice d.a d.la.length d.ca,.slice d.b d.lb.length d.cb] 28)) A c ds→(∀ a,A=some a→vr.ownBlock≠some a.block)→FL w6 A c ds:=fun hf hne=>by
  cases hu:vr.ownBlock with
  | none=>rw[hu] at g2;exact hf.below ⟨g2.os,g2.tape,g2.output,g2.size,fun i hi=>g2.block i hi (by simp)⟩
  | some g =>
   rw[hu] at g2;obtain⟨cur,k1,k2⟩:=ho.2 g hu;exact hf.far (fun a e he=>hne a e (by rw[hu,he])) k1 k2 g2
 have fvk:∀ {u:Value} {q:Rat},FV w u q→FV w6 u q:=fun hf=>by
  cases hu:vr.ownBlock with
  | none=>rw[hu] at g2;exact (hf.below ba).below ⟨g2.os,g2.tape,g2.output,g2.size,fun i hi=>g2.block i hi (by simp)⟩
  | some g =>
   rw[hu] at g2;obtain⟨cur,k1,k2⟩:=ho.2 g hu;exact (hf.below ba).only_blk k1 k2 g2
 have hM6:OwnM w6 root.heap.size vg rows:=by
  have hM:=h1.below ba
  cases hu:vr.ownBlock with
  | none=>rw[hu] at g2;exact hM.below ⟨g2.os,g2.tape,g2.output,g2.size,fun i hi=>g2.block i hi (by simp)⟩
  | some g =>
   rw[hu] at g2;obtain⟨cur,k1,k2⟩:=ho.2 g hu
   rcases hM.1.2 with ⟨rfl,h0⟩ | ⟨g',cap,cur2,rfl,hb,hg,hn,hm,hs,ht⟩
   · have:rows=[]:=List.eq_nil_of_length_eq_zero h0;subst this;exact OwnM.nil _ _
   · have hB2:Blk _ g' 22 cur2:=hg;have hne':g'≠g:=hB2.ne_type k1 (by decide);refine⟨⟨hM.1.1,.inr ⟨g',cap,cur2,rfl,hb,hB2.only g2 hne',hn,hm,hs,ht⟩⟩,fun g3 h3=>?_⟩;obtain⟨cur3,k3,k4⟩:=hM.2 g3 h3
     exact⟨cur3,Blk.only k3 g2 (by
      have:g3=g':=by simp[Value.ownBlock] at h3;exact h3.symm
      rw[this];exact hne'),k4⟩
 refine⟨v6,w6,hrun,rows,os++[d],hM6,g1,fun x hx=>⟨key ((h3 x hx).1.below ba) fun a e=>((h3 x hx).2 a e).1,fun a e=>⟨?_,Nat.lt_of_lt_of_le ((h3 x hx).2 a e).2 (Nat.le_trans ba.size g2.size)⟩⟩,fun x hx=>?_,h5,by rw[List.length_append,h6];rfl,h7,map_snoc h8 hq,?_⟩
 · have h10:=((h3 x hx).2 a e)
   rcases g3 with g3 | g3
   · rw[g3];exact h10.1
   · rw[g3];intro e2;injection e2 with e2;have h11:=h10.2;have h12:=ba.size;omega
 · rcases List.mem_append.1 hx with hx | hx
   · exact fvk (h4 x hx)
   · simp at hx;subst hx;exact fvk hd
 · exact (h9.trans (ba.mono h9.size)).grown g2 (Nat.le_trans h9.size ba.size) fun g hg=>h2.block hg
theorem GrAt.done (h:GrAt G rt root k l vg vr w) (hk:k=G.length) (hl:l=rt.length):∃ A c rows B cb ds,vg=.slice A rows.length c∧ML w A c rows∧Hid (qsM rows=G)∧vr=.slice B ds.length cb∧FL w B cb ds∧Hid (ds.map FrD.q=rt):=by
 obtain⟨rows,os,h1,h2,h3,h4,h5,h6,h7,h8,h9⟩:=h;obtain⟨A,c,e,hf⟩:=h1.ml fun r hr=>(h3 r hr).1;obtain⟨B,cb,e2,hf2⟩:=h2.fl h4;exact⟨A,c,rows,B,cb,os,e,hf,by show _=_;rw[h7,hk,List.take_length],e2,hf2,by show _=_;rw[h8,hl,List.take_length]⟩
end
end Go.Proofs.Ytjhkapjadfpimaa
