/- Contracts of functions, for the law. -/
import Derived.Test.YtjhkapjadfpimaaFMul
import Derived.Test.YtjhkapjadfpimaaMSmall
import Derived.Test.YtjhkapjadfpimaaTw
import Derived.Test.YtjhkapjadfpimaaFDiv
import Derived.Test.YtjhkapjadfpimaaMOne
namespace Go.Proofs.Ytjhkapjadfpimaa
set_option linter.unusedVariables false
set_option linter.unusedSimpArgs false
open Go.RowKit Plain
attribute [local go_sem ↓] Go.wp_at_zero Go.wp_at_succ
set_option maxRecDepth 100000 in
set_option maxHeartbeats 4000000 in
theorem refSubF_any {v u:Value} {p q:Rat} {j k:Nat} {w:World} (hv:FV w v p) (hu:FV w u q) (hj:Fits j p) (hk:Fits k q) (hJ:j+k < 400000000) :
 Calls Try.prog 40 #[v,u] w (RetQ (p - q) w):=by
 have hv0:=hv;have hu0:=hu;obtain ⟨n1,A,ca,la,B,cb,lb,rfl,na,nb,iq⟩:=hv;obtain ⟨n2,C,cc,lc,D,cd,ld,rfl,nc,nd,ir⟩:=hu;clear na nb iq nc nd ir;rw [Rat.sub_eq_add_neg];obtain ⟨w0,hw0,bw0,hlt0,hB0⟩:=boxed w #[.bool n1,.slice A la.length ca,.slice B lb.length cb] 28;obtain ⟨w1,hw1,bw1,hlt1,hB1⟩:=boxed w0 #[.bool n2,.slice C lc.length cc,.slice D ld.length cd] 28;obtain ⟨w2,hw2,bw2,hlt2,hB2⟩:=boxed w1 #[.bool false,.slice none 0 0,.slice none 0 0] 28;have hA2:=(hB0.keep bw1).keep bw2;have hC2:=hB1.keep bw2;have b01:=bw0.trans (bw1.mono (Nat.le_of_lt hlt0));have b02:=b01.trans (bw2.mono b01.size);have hv1:=hv0.below b02;have hu1:=hu0.below b02;have x0:=hA2.f0;have x1:=hA2.f1;have x2:=hA2.f2;have y0:=hC2.f0;have y1:=hC2.f1;have y2:=hC2.f2;have h3f:Blk3 w2 w1.heap.size 28:=hB2.b3;have hrf:Only w2 w2 w1.heap.size:=Only.refl _ _;have hl1:w.heap.size < w1.heap.size:=by omega
 have hS:∀ w',Only w2 w' w1.heap.size→w'.cell? ⟨w.heap.size,0,none⟩=some (.bool n1)∧w'.cell? ⟨w.heap.size,1,none⟩=some (.slice A la.length ca)∧w'.cell? ⟨w.heap.size,2,none⟩=some (.slice B lb.length cb)∧w'.cell? ⟨w0.heap.size,0,none⟩=some (.bool n2)∧w'.cell? ⟨w0.heap.size,1,none⟩=some (.slice C lc.length cc)∧w'.cell? ⟨w0.heap.size,2,none⟩=some (.slice D ld.length cd):=fun w' o =>
  have p:=hA2.only o (Nat.ne_of_lt hl1);have q:=hC2.only o (Nat.ne_of_lt hlt1);⟨p.f0,p.f1,p.f2,q.f0,q.f1,q.f2⟩
 obtain ⟨d0,d1,d2,d3,d4,d5⟩:=hS _ hrf.drew;have d6:=hrf.drew;have d7:=h3f.drew;clear hv0 hu0;go_enter Try.func40,Try.ntmps40;go_wp2_with fail
 go_region_held3 (fun w'=>w'.cell? ⟨w.heap.size,0,none⟩=some (.bool n1)∧w'.cell? ⟨w.heap.size,1,none⟩=some (.slice A la.length ca)∧w'.cell? ⟨w.heap.size,2,none⟩=some (.slice B lb.length cb)∧w'.cell? ⟨w0.heap.size,0,none⟩=some (.bool n2)∧w'.cell? ⟨w0.heap.size,1,none⟩=some (.slice C lc.length cc)∧w'.cell? ⟨w0.heap.size,2,none⟩=some (.slice D ld.length cd)∧Only w2 w' w1.heap.size∧Blk3 w' w1.heap.size 28) (((try go_split_ands);(try dsimp only);(repeat' with_reducible apply And.intro) <;> with_reducible assumption)) (first
  | (go_at_call 62;go_split_ands;(with_reducible refine (refNeg_any (hu1.only_blk hB2 (noDig3 _ _ _ _ _ _ _) (by assumption))).mono ?_);rintro e w3 ⟨v3,rfl,hv3,b3⟩;have q4:=Blk3.keep (by assumption) b3;have b4:=(show Only w2 _ w1.heap.size by assumption).trans (Only.of_below b3 _);obtain ⟨f0,f1,f2,f3,f4,f5⟩:=hS _ b4)
  | (go_at_call 43;go_split_ands;(with_reducible refine (refAddF_any (hv1.only_blk hB2 (noDig3 _ _ _ _ _ _ _) (by assumption)) hv3 hj hk.neg hJ).mono ?_);rintro e w7 ⟨v,rfl,⟨m0,A1,c1,l1,B1,d1,m1,rfl,ma,mb,hQ⟩,b7⟩;have b8:=(show Only w2 _ w1.heap.size by assumption).trans (Only.of_below b7 _);obtain ⟨k0,k1,k2,k3,k4,k5⟩:=hS _ b8;have q8:=Blk3.keep (t:=28) (by assumption) b7;have q9:=q8.set m0 A1 l1.length c1 B1 m1.length d1;obtain ⟨qa,qb,qc,qd,qe,qf,qg,hB3⟩:=id q8;have b9:=((b8.set 0 (.bool m0)).set 1 (.slice A1 l1.length c1)).set 2 (.slice B1 m1.length d1);obtain ⟨j0,j1,j2,j3,j4,j5⟩:=hS _ b9;have u0:=hB3.f0;have u1:=hB3.f1;have u2:=hB3.f2;have t0:=hB3.free 0;have t1:=hB3.free 1;have t2:=hB3.free 2))
 clear j0 j1 j2 j3 j4 j5 q9;go_wp2;obtain ⟨w9,hw9,hB9,o9⟩:=hB3.set3 (.bool m0) (.slice A1 l1.length c1) (.slice B1 m1.length d1);rw [hw9];have e0:=hB9.f0;have e1:=hB9.f1;have e2:=hB9.f2;refine bodyPost_ret (v:=fracV m0 A1 l1.length c1 B1 m1.length d1) (by simp [results,Try.results40,go_sem,e0,e1,e2]) rfl ?_;have m1':=ma.only_blk hB3 (noDig3 _ _ _ _ _ _ _) o9;have m2':=mb.only_blk hB3 (noDig3 _ _ _ _ _ _ _) o9;have bT:=(b8.trans o9).to_below b02 b01.size b02.size;exact ⟨_,rfl,⟨m0,A1,c1,l1,B1,d1,m1,rfl,m1',m2',hQ⟩,bT⟩
set_option maxRecDepth 100000 in
set_option maxHeartbeats 1000000 in
theorem refSign_any {v:Value} {q:Rat} {w:World} (hv:FV w v q) :
 Calls Try.prog 22 #[v] w (RetI (cmpR q 0) w):=by
 obtain ⟨neg,A,ca,la,B,cb,lb,rfl,na,nb,iq⟩:=hv;have hbg:=na.big;have hc:=q_sign iq;have hsg:=Lib.hid (QIs.sign iq);clear iq;obtain ⟨w0,hw0,bw0,hlt0,hB0⟩:=boxed w #[.bool neg,.slice A la.length ca,.slice B lb.length cb] 28;have x0:=hB0.f0;have x1:=hB0.f1;have x2:=hB0.f2;rw [hc]
 rcases la with _ | ⟨a,la⟩
 · rw [if_pos rfl];obtain rfl:neg=false:=by cases neg with | false=>rfl | true=>exact absurd ⟨rfl,rfl⟩ hsg.out
   go_enter Try.func22,Try.ntmps22;go_wp2;go_ret;exact ⟨rfl,by first | exact bw0 | (subst hw0;exact bw0)⟩
 · have hlen:((((a :: la).length:Nat):Int) == 0)=false:=by rw [beq_eq_false_iff_ne,List.length_cons];omega
   rw [if_neg (by simp)]
   generalize (a :: la).length=n at *
   rcases neg with _ | _
   · go_enter Try.func22,Try.ntmps22;go_wp2;go_ret;exact ⟨rfl,bw0⟩
   · go_enter Try.func22,Try.ntmps22;go_wp2;go_ret;exact ⟨rfl,bw0⟩
set_option maxRecDepth 100000 in
set_option maxHeartbeats 1000000 in
theorem refCmpF_any {v u:Value} {p q:Rat} {j k:Nat} {w:World} (hv:FV w v p) (hu:FV w u q) (hj:Fits j p) (hk:Fits k q) (hJ:j+k < 400000000) :
 Calls Try.prog 17 #[v,u] w (RetI (cmpR p q) w):=by
 have hv0:=hv;have hu0:=hu;obtain ⟨n1,A,ca,la,B,cb,lb,rfl,na,nb,iq⟩:=hv;obtain ⟨n2,C,cc,lc,D,cd,ld,rfl,nc,nd,ir⟩:=hu;clear na nb iq nc nd ir;rw [←cmpR_sub];obtain ⟨c,hc⟩:∃ c,Hid (cmpR (p - q) 0=c):=⟨_,rfl⟩;rw [hc.out];obtain ⟨w0,hw0,bw0,hlt0,hB0⟩:=boxed w #[.bool n1,.slice A la.length ca,.slice B lb.length cb] 28;obtain ⟨w1,hw1,bw1,hlt1,hB1⟩:=boxed w0 #[.bool n2,.slice C lc.length cc,.slice D ld.length cd] 28;have hA1:=hB0.keep bw1;have b01:=bw0.trans (bw1.mono (Nat.le_of_lt hlt0));have x0:=hA1.f0;have x1:=hA1.f1;have x2:=hA1.f2;have y0:=hB1.f0;have y1:=hB1.f1;have y2:=hB1.f2;go_enter Try.func17,Try.ntmps17;go_wp2_with fail;refine (refSubF_any (hv0.below b01) (hu0.below b01) hj hk hJ).mono ?_;rintro e w2 ⟨v2,rfl,hv2,b2⟩;have b02:=b01.trans (b2.mono b01.size);go_wp2_with fail;refine (refSign_any hv2).mono ?_;rintro e w3 ⟨rfl,b3⟩;rw [hc.out];go_wp2;go_ret;exact ⟨rfl,b02.trans (b3.mono b02.size)⟩
end Go.Proofs.Ytjhkapjadfpimaa
namespace Go.Proofs.Ytjhkapjadfpimaa
set_option linter.unusedVariables false
set_option linter.unusedSimpArgs false
open Go.RowKit Plain
def NotU (u:Value):Prop:=∀ x,u≠.int .u32 x
theorem OwnQ.toG {w:World} {base:Nat} {v:Value} {ds:List FrD} (h:OwnQ w base v ds):OwnG 28 3 NotU w base v ds.length (ds.flatMap FrD.cells) :=
 ⟨h.1,fun g hg=>by
  obtain ⟨cur,h1,h2⟩:=h.2 g hg;exact ⟨cur,h1,fun i u hi x e=>h2 i x (by rw [hi,e])⟩⟩
theorem OwnQ.ofG {w:World} {base:Nat} {v:Value} {ds:List FrD} (h:OwnG 28 3 NotU w base v ds.length (ds.flatMap FrD.cells)):OwnQ w base v ds :=
 ⟨h.1,fun g hg=>by
  obtain ⟨cur,h1,h2⟩:=h.2 g hg;exact ⟨cur,h1,fun i x hi=>h2 i _ hi x rfl⟩⟩
theorem OwnQ.empty (w:World) {base:Nat} (hb:base≤w.heap.size):OwnQ (w.alloc (.cells #[] 28)) base (.slice (some ⟨w.heap.size,0,none⟩) 0 0) []:=by
 have hB:=Blk.new w 28 #[]
 exact ⟨⟨rfl,.inr ⟨w.heap.size,0,#[],rfl,hb,hB,Nat.le_refl _,by decide,rfl,rfl⟩⟩,fun g hg=>by
  simp [Value.ownBlock] at hg
  subst hg;exact ⟨_,hB,fun i x=>by simp⟩⟩
theorem notU_cells (d:FrD):∀ u ∈ d.cells,NotU u:=fun u hu x e=>by
 subst e
 simp [FrD.cells] at hu
set_option maxRecDepth 100000 in
theorem run_appQs (w:World) (base:Nat) (v:Value) (ds:List FrD) (hown:OwnQ w base v ds) (ad:Addr) (c:Nat) (es:List FrD) (hnews:∀ j u,(es.flatMap FrD.cells)[j]?=some u→w.cell? (ad.add j)=some u)
 (h63:ds.length+es.length≤1000000000000) (hbase:base≤w.heap.size) :
 ∃ v' w',(Builtin.append_ #[22,22] 22 #[v,.slice (some ad) es.length c]).run Try.prog w=.ok v' w'∧OwnQ w' base v' (ds ++ es)∧w.grownBy w' v.ownBlock:=by
 obtain ⟨v',w',h1,h2,h3⟩:=run_appG0 (P:=NotU) w base v ds.length _ Try.underlying22 infoFrac rfl (by decide) (fun i u hi x e=>by
  subst e
  match i with
  | 0=>injection hi with hi;cases hi
  | 1=>injection hi with hi;cases hi
  | 2=>injection hi with hi;cases hi
  | i+3=>simp [Value.cells] at hi) (by decide) hown.toG ad es.length c (es.flatMap FrD.cells) (flat_len es) hnews (fun u hu=>by
   obtain ⟨d,_,hd⟩:=List.mem_flatMap.1 hu
   simp only [FrD.cells,List.mem_cons,List.not_mem_nil,or_false] at hd
   rcases hd with rfl | rfl | rfl <;> rfl) (fun u hu=>by
   obtain ⟨d,_,hd⟩:=List.mem_flatMap.1 hu;exact notU_cells d u hd) h63 hbase (fun u hu=>by
   obtain ⟨d,_,hd⟩:=List.mem_flatMap.1 hu;exact notU_cells d u hd)
 refine ⟨v',w',h1,OwnQ.ofG ?_,h3⟩;rw [List.length_append,List.flatMap_append];exact h2
set_option maxRecDepth 100000 in
/-- Nothing is appended to an empty list. -/
theorem run_appQ0 (w:World) (g c:Nat):(Builtin.append_ #[22,22] 22 #[.slice (some ⟨g,0,none⟩) 0 0,.slice none 0 c]).run Try.prog w=.ok (.slice (some ⟨g,0,none⟩) 0 0) w:=by
 obtain ⟨i,hi,hz0,hz1,hz2⟩:=info_parts infoFrac
 simp [Builtin.append_,run_underlying Try.underlying22,sizeOf,typeInfo,hi,Builtin.lenOf,Builtin.firstCells,loadCells,loadCellsFrom,storeCells]
theorem flat_take {ds:List FrD} {k j:Nat} {u:Value} (h:((ds.take k).flatMap FrD.cells)[j]?=some u):(ds.flatMap FrD.cells)[j]?=some u:=by
 have hl:=(List.getElem?_eq_some_iff.1 h).1;have e:ds.flatMap FrD.cells=(ds.take k).flatMap FrD.cells ++ (ds.drop k).flatMap FrD.cells:=by rw [←List.flatMap_append,List.take_append_drop]
 rw [e,List.getElem?_append_left hl];exact h
theorem Srow.far {α:Type} {C:Nat} {cells:α→List Value} {w w':World} {g c:Nat} {A:Option Addr} {ds:List α} (h:Srow w C cells A c ds) (hne:∀ a,A=some a→a.block≠g) (ho:Only w w' g):Srow w' C cells A c ds :=
 ⟨h.1,h.2.1,fun j hj=>by
  obtain ⟨a,e,h1,h2⟩:=h.2.2 j hj;have hk:=ho.block a.block h1 (by have:=hne a e;simpa using this)
  exact ⟨a,e,Nat.lt_of_lt_of_le h1 ho.size,fun i u hu=>by
   rw [World.cell?_of_block (w:=w) (by rw [block_add];exact hk)];exact h2 i u hu⟩⟩
theorem FL.far {w w':World} {g c:Nat} {t:TypeId} {cs:Array Value} {A:Option Addr} {ds:List FrD} (h:FL w A c ds) (hne:∀ a,A=some a→a.block≠g) (hB:Blk w g t cs) (hd:NoDig cs) (ho:Only w w' g):FL w' A c ds :=
 ⟨h.row.far hne ho,fun d hx=>(h.fv d hx).only_blk hB hd ho⟩
structure CoD where
 r:RwD
 l:FrD
def CoD.cells (d:CoD):List Value:=[.slice d.r.a d.r.ds.length d.r.c,.bool d.l.neg,.slice d.l.a d.l.la.length d.l.ca,.slice d.l.b d.l.lb.length d.l.cb]
def CoD.con (d:CoD):Con:=⟨d.r.qs,d.l.q⟩
structure AllC (w:World) (Av:Nat→Prop) (A:Option Addr) (c:Nat) (cs:List CoD):Prop where
 row:Srow w 4 CoD.cells A c cs
 fl:∀ d ∈ cs,FL w d.r.a d.r.c d.r.ds
 fv:∀ d ∈ cs,FV w d.l.v d.l.q
 away:∀ a,A=some a→¬ Av a.block
 awayr:∀ d ∈ cs,∀ a,d.r.a=some a→¬ Av a.block
section
variable {w w':World} {Av:Nat→Prop} {A:Option Addr} {c:Nat} {cs:List CoD}
theorem AllC.below (h:AllC w Av A c cs) (hb:Below w.heap.size w w'):AllC w' Av A c cs :=
 ⟨h.row.below hb,fun d hd=>(h.fl d hd).below hb,fun d hd=>(h.fv d hd).below hb,h.away,h.awayr⟩
theorem AllC.only {g:Nat} {t:TypeId} {cur:Array Value} (h:AllC w Av A c cs) (hg:Av g) (hB:Blk w g t cur) (hd:NoDig cur) (ho:Only w w' g):AllC w' Av A c cs :=
 ⟨h.row.far (fun a e x=>h.away a e (by rw [x];exact hg)) ho,fun d hx=>(h.fl d hx).far (fun a e x=>h.awayr d hx a e (by rw [x];exact hg)) hB hd ho,fun d hx=>(h.fv d hx).only_blk hB hd ho,h.away,h.awayr⟩
theorem AllC.len (h:AllC w Av A c cs):cs.length≤c∧c≤9223372036854775807:=⟨h.row.1,h.row.2.1⟩
theorem AllC.at (h:AllC w Av A c cs) {k:Nat} (hk:k < cs.length) :
 ∃ a d,A=some a∧a.block < w.heap.size∧w.cell? (a.add (k*4))=some (.slice d.r.a d.r.ds.length d.r.c)∧w.cell? ⟨(a.add (k*4)).block,(a.add (k*4)).off+1,none⟩=some (.bool d.l.neg) ∧
  w.cell? ⟨(a.add (k*4)).block,(a.add (k*4)).off+2,none⟩=some (.slice d.l.a d.l.la.length d.l.ca)∧w.cell? ⟨(a.add (k*4)).block,(a.add (k*4)).off+3,none⟩=some (.slice d.l.b d.l.lb.length d.l.cb) ∧
  FL w d.r.a d.r.c d.r.ds∧FV w d.l.v d.l.q∧Hid (cs[k]?=some d):=by
 obtain ⟨a,e,h1,h2⟩:=h.row.2.2 k hk
 have hc:∀ i u,(cs[k]).cells[i]?=some u→w.cell? ((a.add (k*4)).add i)=some u:=fun i u hu=>by
  rw [add_add];exact h2 i u hu
 exact ⟨a,cs[k],e,h1,cell0 (hc 0 _ rfl),cellK (hc 1 _ rfl) (by decide),cellK (hc 2 _ rfl) (by decide),cellK (hc 3 _ rfl) (by decide),h.fl _ (List.getElem_mem hk),h.fv _ (List.getElem_mem hk),List.getElem?_eq_getElem hk⟩
end
def XO (w:World) (g c:Nat) (ds:List FrD):Prop :=
 ∃ cur,Blk w g 28 cur∧NoDig cur∧ds.length≤c∧c≤9223372036854775807∧cur.toList.take (ds.length*3)=ds.flatMap FrD.cells∧ds.length*3≤cur.size
section
variable {w w':World} {g c:Nat} {ds:List FrD}
theorem XO.below (h:XO w g c ds) (hb:Below w.heap.size w w'):XO w' g c ds:=by
 obtain ⟨cur,h1,h2⟩:=h;exact ⟨cur,h1.keep hb,h2⟩
theorem XO.only {g':Nat} (h:XO w g c ds) (ho:Only w w' g') (hne:g≠g'):XO w' g c ds:=by
 obtain ⟨cur,h1,h2⟩:=h;exact ⟨cur,h1.only ho hne,h2⟩
theorem XO.cellOf {cur:Array Value} (h1:Blk w g 28 cur) (h5:cur.toList.take (ds.length*3)=ds.flatMap FrD.cells) {k i:Nat} {d:FrD} {u:Value} (hk:ds[k]?=some d) (hu:d.cells[i]?=some u):w.cell? ⟨g,k*3+i,none⟩=some u:=by
 have hkl:=(List.getElem?_eq_some_iff.1 hk).1;have e:=(List.getElem?_eq_some_iff.1 hk).2
 have hi:i < 3:=by
  have:=(List.getElem?_eq_some_iff.1 hu).1
  simpa [FrD.cells] using this
 have hf:=flat3 ds k i hkl hi;rw [e,hu,←h5,List.getElem?_take,if_pos (by omega)] at hf;rw [Blk.cell h1,←Array.getElem?_toList];exact hf
theorem XO.fl (h:XO w g c ds) (hv:∀ d ∈ ds,FV w d.v d.q):FL w (some ⟨g,0,none⟩) c ds:=by
 obtain ⟨cur,h1,h2,h3,h4,h5,h6⟩:=h;refine ⟨⟨h3,h4,fun j hj=>⟨_,rfl,Blk.lt h1,fun i u hu=>?_⟩⟩,hv⟩;rw [add_zero_];exact XO.cellOf h1 h5 (List.getElem?_eq_getElem hj) hu
theorem XO.store (h:XO w g c ds) {k:Nat} (hk:k < ds.length) (d:FrD) :
 ∃ w9,w.frozen? ⟨g,k*3,none⟩=false∧w.frozen? ⟨g,k*3+1,none⟩=false∧w.frozen? ⟨g,k*3+2,none⟩=false ∧
  ((w.setCell ⟨g,k*3,none⟩ (.bool d.neg)).setCell ⟨g,k*3+1,none⟩ (.slice d.a d.la.length d.ca)).setCell ⟨g,k*3+2,none⟩ (.slice d.b d.lb.length d.cb)=w9∧XO w9 g c (ds.set k d)∧Only w w9 g:=by
 obtain ⟨cur,h1,h2,h3,h4,h5,h6⟩:=h;refine ⟨_,Blk.free h1 _,Blk.free h1 _,Blk.free h1 _,rfl,⟨_,((Blk.set h1 _ _).set _ _).set _ _,?_,by rw [List.length_set];exact h3,h4,?_,by simp only [Array.size_setIfInBounds,List.length_set];exact h6⟩,(((Only.refl w g).set _ _).set _ _).set _ _⟩
 · intro i x hi
   simp only [Array.getElem?_setIfInBounds] at hi
   repeat' split at hi
   all_goals first
    | (injection hi with hi;cases hi)
    | cases hi
    | exact h2 i x hi
 · rw [flat_set hk,←h5,List.length_set]
   simp only [Array.toList_setIfInBounds,List.take_set]
theorem XO.cells (h:XO w g c ds) {k:Nat} {d:FrD} (hk:ds[k]?=some d):w.cell? ⟨g,k*3,none⟩=some (.bool d.neg)∧w.cell? ⟨g,k*3+1,none⟩=some (.slice d.a d.la.length d.ca)∧w.cell? ⟨g,k*3+2,none⟩=some (.slice d.b d.lb.length d.cb):=by
 obtain ⟨cur,h1,h2,h3,h4,h5,h6⟩:=h;exact ⟨XO.cellOf h1 h5 (i:=0) hk rfl,XO.cellOf h1 h5 (i:=1) hk rfl,XO.cellOf h1 h5 (i:=2) hk rfl⟩
end
structure Sv where
 n:Nat
 m:Nat
 A:Option Addr
 ca:Nat
 cs:List CoD
 gs:Nat
 gx:Nat
 cx:Nat
 R:Nat
 sum:FrD
def Sv.Av (S:Sv) (g:Nat):Prop:=g=S.gs∨g=S.gx∨S.R≤g
structure SolB (S:Sv) (dx:List FrD) (lv:FrD) (va vm ent:Value) (w:World):Prop where
 blk:Blk w S.gs 100 #[.int .i64 (S.n:Int),.int .i64 (S.m:Int),.slice S.A S.cs.length S.ca,.slice (some ⟨S.gx,0,none⟩) dx.length S.cx,.bool S.sum.neg,.slice S.sum.a S.sum.la.length S.sum.ca,.slice S.sum.b S.sum.lb.length S.sum.cb,.bool lv.neg,.slice lv.a lv.la.length lv.ca,.slice lv.b lv.lb.length lv.cb,va,vm,ent]
 sum:FV w S.sum.v S.sum.q
 lev:FV w lv.v lv.q
 xo:XO w S.gx S.cx dx
 xf:AllFV w dx
 all:AllC w S.Av S.A S.ca S.cs
 hs:S.gs < S.R
 hx:S.gx < S.R
 hR:S.R≤w.heap.size
 ne:S.gs≠S.gx
theorem AllFV.below {w w':World} {ds:List FrD} (h:AllFV w ds) (hb:Below w.heap.size w w'):AllFV w' ds:=fun d hd=>(h d hd).below hb
theorem AllFV.only {w w':World} {g:Nat} {t:TypeId} {cur:Array Value} {ds:List FrD} (h:AllFV w ds) (hB:Blk w g t cur) (hd:NoDig cur) (ho:Only w w' g):AllFV w' ds:=fun d hx=>(h d hx).only_blk hB hd ho
section
variable {S:Sv} {dx:List FrD} {lv:FrD} {va vm ent:Value} {w w':World}
theorem SolB.below (h:SolB S dx lv va vm ent w) (hb:Below w.heap.size w w'):SolB S dx lv va vm ent w' :=
 ⟨h.blk.keep hb,h.sum.below hb,h.lev.below hb,h.xo.below hb,h.xf.below hb,h.all.below hb,h.hs,h.hx,Nat.le_trans h.hR hb.size,h.ne⟩
theorem SolB.far {g:Nat} {t:TypeId} {cur:Array Value} (h:SolB S dx lv va vm ent w) (hg:S.R≤g) (hB:Blk w g t cur) (hd:NoDig cur) (ho:Only w w' g):SolB S dx lv va vm ent w' :=
 ⟨h.blk.only ho (by have:=h.hs;omega),h.sum.only_blk hB hd ho,h.lev.only_blk hB hd ho,h.xo.only ho (by have:=h.hx;omega),h.xf.only hB hd ho,h.all.only (.inr (.inr hg)) hB hd ho,h.hs,h.hx,Nat.le_trans h.hR ho.size,h.ne⟩
theorem SolB.cells (h:SolB S dx lv va vm ent w):w.cell? ⟨S.gs,0,none⟩=some (.int .i64 (S.n:Int))∧w.cell? ⟨S.gs,1,none⟩=some (.int .i64 (S.m:Int))∧w.cell? ⟨S.gs,2,none⟩=some (.slice S.A S.cs.length S.ca)∧w.cell? ⟨S.gs,3,none⟩=some (.slice (some ⟨S.gx,0,none⟩) dx.length S.cx)∧w.cell? ⟨S.gs,4,none⟩=some (.bool S.sum.neg)∧w.cell? ⟨S.gs,5,none⟩=some (.slice S.sum.a S.sum.la.length S.sum.ca)∧w.cell? ⟨S.gs,6,none⟩=some (.slice S.sum.b S.sum.lb.length S.sum.cb)∧w.cell? ⟨S.gs,7,none⟩=some (.bool lv.neg)∧w.cell? ⟨S.gs,8,none⟩=some (.slice lv.a lv.la.length lv.ca)∧w.cell? ⟨S.gs,9,none⟩=some (.slice lv.b lv.lb.length lv.cb)∧w.cell? ⟨S.gs,10,none⟩=some (va)∧w.cell? ⟨S.gs,11,none⟩=some (vm)∧w.cell? ⟨S.gs,12,none⟩=some (ent) :=
 ⟨Blk.cell h.blk 0,Blk.cell h.blk 1,Blk.cell h.blk 2,Blk.cell h.blk 3,Blk.cell h.blk 4,Blk.cell h.blk 5,Blk.cell h.blk 6,Blk.cell h.blk 7,Blk.cell h.blk 8,Blk.cell h.blk 9,Blk.cell h.blk 10,Blk.cell h.blk 11,Blk.cell h.blk 12⟩
theorem SolB.noDig (ha:∀ x,va≠.int .u32 x) (hm:∀ x,vm≠.int .u32 x) (he:∀ x,ent≠.int .u32 x):NoDig #[.int .i64 (S.n:Int),.int .i64 (S.m:Int),.slice S.A S.cs.length S.ca,.slice (some ⟨S.gx,0,none⟩) dx.length S.cx,.bool S.sum.neg,.slice S.sum.a S.sum.la.length S.sum.ca,.slice S.sum.b S.sum.lb.length S.sum.cb,.bool lv.neg,.slice lv.a lv.la.length lv.ca,.slice lv.b lv.lb.length lv.cb,va,vm,ent] :=
 NoDigL.noDig (l:=[.int .i64 (S.n:Int),.int .i64 (S.m:Int),.slice S.A S.cs.length S.ca,.slice (some ⟨S.gx,0,none⟩) dx.length S.cx,.bool S.sum.neg,.slice S.sum.a S.sum.la.length S.sum.ca,.slice S.sum.b S.sum.lb.length S.sum.cb,.bool lv.neg,.slice lv.a lv.la.length lv.ca,.slice lv.b lv.lb.length lv.cb,va,vm,ent]) (fun u hu x e=>by
  subst e
  simp only [List.mem_cons,List.not_mem_nil,or_false] at hu
  rcases hu with h | h | h | h | h | h | h | h | h | h | h | h | h
  all_goals first
   | exact ha _ h.symm
   | exact hm _ h.symm
   | exact he _ h.symm
   | cases h) rfl
theorem SolB.setX (h:SolB S dx lv va vm ent w) {k:Nat} (hk:k < dx.length) {d:FrD} (hd:FV w d.v d.q) :
 ∃ w9,w.frozen? ⟨S.gx,k*3,none⟩=false∧w.frozen? ⟨S.gx,k*3+1,none⟩=false∧w.frozen? ⟨S.gx,k*3+2,none⟩=false ∧
  ((w.setCell ⟨S.gx,k*3,none⟩ (.bool d.neg)).setCell ⟨S.gx,k*3+1,none⟩ (.slice d.a d.la.length d.ca)).setCell ⟨S.gx,k*3+2,none⟩ (.slice d.b d.lb.length d.cb)=w9∧SolB S (dx.set k d) lv va vm ent w9∧Only w w9 S.gx:=by
 obtain ⟨w9,f0,f1,f2,e9,hx9,o9⟩:=h.xo.store hk d;obtain ⟨cur,hB,hn,-⟩:=h.xo;refine ⟨w9,f0,f1,f2,e9,⟨?_,h.sum.only_blk hB hn o9,h.lev.only_blk hB hn o9,hx9,fun x hx=>?_,h.all.only (.inr (.inl rfl)) hB hn o9,h.hs,h.hx,Nat.le_trans h.hR o9.size,h.ne⟩,o9⟩
 · rw [List.length_set];exact h.blk.only o9 h.ne
 · rcases List.mem_or_eq_of_mem_set hx with hx | rfl
   · exact (h.xf x hx).only_blk hB hn o9
   · exact hd.only_blk hB hn o9
theorem SolB.setLev (h:SolB S dx lv va vm ent w) (ha:∀ x,va≠.int .u32 x) (hm:∀ x,vm≠.int .u32 x) (he:∀ x,ent≠.int .u32 x) {d:FrD} (hd:FV w d.v d.q) :
 ∃ w9,w.frozen? ⟨S.gs,7,none⟩=false∧w.frozen? ⟨S.gs,8,none⟩=false∧w.frozen? ⟨S.gs,9,none⟩=false ∧
  ((w.setCell ⟨S.gs,7,none⟩ (.bool d.neg)).setCell ⟨S.gs,8,none⟩ (.slice d.a d.la.length d.ca)).setCell ⟨S.gs,9,none⟩ (.slice d.b d.lb.length d.cb)=w9∧SolB S dx d va vm ent w9∧Only w w9 S.gs:=by
 have hn:=SolB.noDig (S:=S) (dx:=dx) (lv:=lv) ha hm he;have o9:=(((Only.refl w S.gs).set 7 (.bool d.neg)).set 8 (.slice d.a d.la.length d.ca)).set 9 (.slice d.b d.lb.length d.cb);have b9:=((h.blk.set 7 (.bool d.neg)).set 8 (.slice d.a d.la.length d.ca)).set 9 (.slice d.b d.lb.length d.cb);exact ⟨_,Blk.free h.blk _,Blk.free h.blk _,Blk.free h.blk _,rfl,⟨b9,h.sum.only_blk h.blk hn o9,hd.only_blk h.blk hn o9,h.xo.only o9 (Ne.symm h.ne),h.xf.only h.blk hn o9,h.all.only (.inl rfl) h.blk hn o9,h.hs,h.hx,Nat.le_trans h.hR o9.size,h.ne⟩,o9⟩
theorem SolB.setAct (h:SolB S dx lv va vm ent w) (ha:∀ x,va≠.int .u32 x) (hm:∀ x,vm≠.int .u32 x) (he:∀ x,ent≠.int .u32 x) (u:Value) :
 ∃ w9,w.frozen? ⟨S.gs,10,none⟩=false∧w.setCell ⟨S.gs,10,none⟩ u=w9∧SolB S dx lv u vm ent w9∧Only w w9 S.gs:=by
 have hn:=SolB.noDig (S:=S) (dx:=dx) (lv:=lv) ha hm he;have o9:=(Only.refl w S.gs).set 10 u;exact ⟨_,Blk.free h.blk _,rfl,⟨h.blk.set 10 u,h.sum.only_blk h.blk hn o9,h.lev.only_blk h.blk hn o9,h.xo.only o9 (Ne.symm h.ne),h.xf.only h.blk hn o9,h.all.only (.inl rfl) h.blk hn o9,h.hs,h.hx,Nat.le_trans h.hR o9.size,h.ne⟩,o9⟩
theorem SolB.setMul (h:SolB S dx lv va vm ent w) (ha:∀ x,va≠.int .u32 x) (hm:∀ x,vm≠.int .u32 x) (he:∀ x,ent≠.int .u32 x) (u:Value) :
 ∃ w9,w.frozen? ⟨S.gs,11,none⟩=false∧w.setCell ⟨S.gs,11,none⟩ u=w9∧SolB S dx lv va u ent w9∧Only w w9 S.gs:=by
 have hn:=SolB.noDig (S:=S) (dx:=dx) (lv:=lv) ha hm he;have o9:=(Only.refl w S.gs).set 11 u;exact ⟨_,Blk.free h.blk _,rfl,⟨h.blk.set 11 u,h.sum.only_blk h.blk hn o9,h.lev.only_blk h.blk hn o9,h.xo.only o9 (Ne.symm h.ne),h.xf.only h.blk hn o9,h.all.only (.inl rfl) h.blk hn o9,h.hs,h.hx,Nat.le_trans h.hR o9.size,h.ne⟩,o9⟩
theorem SolB.setEnt (h:SolB S dx lv va vm ent w) (ha:∀ x,va≠.int .u32 x) (hm:∀ x,vm≠.int .u32 x) (he:∀ x,ent≠.int .u32 x) (u:Value) :
 ∃ w9,w.frozen? ⟨S.gs,12,none⟩=false∧w.setCell ⟨S.gs,12,none⟩ u=w9∧SolB S dx lv va vm u w9∧Only w w9 S.gs:=by
 have hn:=SolB.noDig (S:=S) (dx:=dx) (lv:=lv) ha hm he;have o9:=(Only.refl w S.gs).set 12 u;exact ⟨_,Blk.free h.blk _,rfl,⟨h.blk.set 12 u,h.sum.only_blk h.blk hn o9,h.lev.only_blk h.blk hn o9,h.xo.only o9 (Ne.symm h.ne),h.xf.only h.blk hn o9,h.all.only (.inl rfl) h.blk hn o9,h.hs,h.hx,Nat.le_trans h.hR o9.size,h.ne⟩,o9⟩
end
theorem OwnQ.far {w w':World} {base g:Nat} {v:Value} {ds:List FrD} (h:OwnQ w base v ds) (hne:∀ g',v.ownBlock=some g'→g'≠g) (ho:Only w w' g):OwnQ w' base v ds:=by
 rcases h.1.2 with ⟨rfl,h0⟩ | ⟨g',cap,cur,rfl,hb,hg,hn,hm,hs,ht⟩
 · have:ds=[]:=List.eq_nil_of_length_eq_zero h0;subst this;exact OwnQ.nil _ _
 · have hB:Blk w g' 28 cur:=hg;have hne':g'≠g:=hne g' rfl;refine ⟨⟨h.1.1,.inr ⟨g',cap,cur,rfl,hb,hB.only ho hne',hn,hm,hs,ht⟩⟩,fun g2 h2=>?_⟩;obtain ⟨cur2,k1,k2⟩:=h.2 g2 h2;exact ⟨cur2,k1.only ho (hne g2 h2),k2⟩
theorem OwnI.far {w w':World} {base g:Nat} {v:Value} {is:List Nat} (h:OwnI w base v is) (hne:∀ g',v.ownBlock=some g'→g'≠g) (ho:Only w w' g):OwnI w' base v is:=by
 rcases h.1.2 with ⟨rfl,h0⟩ | ⟨g',cap,cur,rfl,hb,hg,hn,hm,hs,ht⟩
 · have:is=[]:=List.eq_nil_of_length_eq_zero h0;subst this;exact OwnI.nil _ _
 · have hB:Blk w g' 3 cur:=hg;have hne':g'≠g:=hne g' rfl;refine ⟨⟨h.1.1,.inr ⟨g',cap,cur,rfl,hb,hB.only ho hne',hn,hm,hs,ht⟩⟩,fun g2 h2=>?_⟩;obtain ⟨cur2,k1,k2⟩:=h.2 g2 h2;exact ⟨cur2,k1.only ho (hne g2 h2),k2⟩
theorem OwnQ.store {w:World} {base:Nat} {v:Value} {ds:List FrD} (h:OwnQ w base v ds) {k:Nat} (hk:k < ds.length) (d:FrD) :
 ∃ (g c:Nat) (cur:Array Value) (w9:World),v=.slice (some ⟨g,0,none⟩) ds.length c∧base≤g∧Blk w g 28 cur∧NoDig cur∧w.frozen? ⟨g,k*3,none⟩=false∧w.frozen? ⟨g,k*3+1,none⟩=false∧w.frozen? ⟨g,k*3+2,none⟩=false ∧
  ((w.setCell ⟨g,k*3,none⟩ (.bool d.neg)).setCell ⟨g,k*3+1,none⟩ (.slice d.a d.la.length d.ca)).setCell ⟨g,k*3+2,none⟩ (.slice d.b d.lb.length d.cb)=w9∧OwnQ w9 base v (ds.set k d)∧Only w w9 g:=by
 rcases h.1.2 with ⟨rfl,h0⟩ | ⟨g,cap,cur,rfl,hb,hg,hn,hm,hs,ht⟩
 · omega
 · have hB:Blk w g 28 cur:=hg;obtain ⟨cur2,k1,k2⟩:=h.2 g rfl
   have ec:cur2=cur:=by
    unfold Blk at k1 hB;rw [hB] at k1
    injection k1 with k1
    injection k1 with k1 _ _
    exact k1.symm
   subst ec;have b9:=((hB.set (k*3) (.bool d.neg)).set (k*3+1) (.slice d.a d.la.length d.ca)).set (k*3+2) (.slice d.b d.lb.length d.cb);refine ⟨g,cap,cur2,_,rfl,hb,hB,k2,Blk.free hB _,Blk.free hB _,Blk.free hB _,rfl,⟨⟨?_,.inr ⟨g,cap,_,by rw [List.length_set],hb,b9,by rw [List.length_set];exact hn,hm,?_,?_⟩⟩,fun g2 h2=>?_⟩,(((Only.refl w g).set _ _).set _ _).set _ _⟩
   · rw [flat_len]
   · simp only [Array.size_setIfInBounds];exact hs
   · rw [flat_set hk,←ht,List.length_set]
     simp only [Array.toList_setIfInBounds,List.take_set]
   · simp [Value.ownBlock] at h2
     subst h2;refine ⟨_,b9,?_⟩;intro i x hi
     simp only [Array.getElem?_setIfInBounds] at hi
     repeat' split at hi
     all_goals first
      | (injection hi with hi;cases hi)
      | cases hi
      | exact k2 i x hi
theorem OwnQ.notU {w:World} {base:Nat} {v:Value} {ds:List FrD} (h:OwnQ w base v ds):∀ x,v≠.int .u32 x:=by
 rcases h.1.2 with ⟨rfl,h0⟩ | ⟨g,cap,cur,rfl,-⟩ <;> intro x e <;> cases e
theorem OwnI.notU {w:World} {base:Nat} {v:Value} {is:List Nat} (h:OwnI w base v is):∀ x,v≠.int .u32 x:=by
 rcases h.1.2 with ⟨rfl,h0⟩ | ⟨g,cap,cur,rfl,-⟩ <;> intro x e <;> cases e
theorem OwnI.block {w:World} {base g:Nat} {v:Value} {is:List Nat} (h:OwnI w base v is) (hg:v.ownBlock=some g):base≤g:=OwnG.block h hg
structure Sm where
 dx:List FrD
 lv:FrD
 va:Value
 ia:List Nat
 vm:Value
 dm:List FrD
def Sm.st (s:Sm):St:=⟨s.dx.map FrD.q,s.lv.q,s.ia,s.dm.map FrD.q⟩
structure SolM (S:Sv) (s:Sm) (ent:Value) (w:World):Prop where
 b:SolB S s.dx s.lv s.va s.vm ent w
 act:OwnI w S.R s.va s.ia
 mul:OwnQ w S.R s.vm s.dm
 mf:AllFV w s.dm
theorem SolM.below {S:Sv} {s:Sm} {ent:Value} {w w':World} (h:SolM S s ent w) (hb:Below w.heap.size w w'):SolM S s ent w':=⟨h.b.below hb,h.act.below hb,h.mul.below hb,h.mf.below hb⟩
theorem Blk.ne_type {w:World} {g g':Nat} {t t':TypeId} {a b:Array Value} (h:Blk w g t a) (h':Blk w g' t' b) (ht:t≠t'):g≠g':=by
 rintro rfl;unfold Blk at h h';rw [h] at h'
 injection h' with h'
 injection h' with _ h' _
 exact ht h'
end Go.Proofs.Ytjhkapjadfpimaa
