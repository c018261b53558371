/- Contracts of functions, for the law. -/
import Derived.Test.YtjhkapjadfpimaaNDr
import Derived.Test.YtjhkapjadfpimaaMOne
import Derived.Deep.RegionHeld3
import Derived.Test.YtjhkapjadfpimaaNBest
namespace Go.Proofs.Ytjhkapjadfpimaa
set_option linter.unusedVariables false
set_option linter.unusedSimpArgs false
open Go.RowKit Plain
attribute [local go_sem ↓] Go.wp_at_zero Go.wp_at_succ
theorem infoI64:(Try.prog.info? 2).map (fun i=>(i.zero,i.size,i.bytes))=some (some (.int .i64 0),1,8):=by kernel_rfl
def zcells (zs:List Int):List Value:=zs.map (Value.int .i64)
theorem isZ_cells (zs:List Int):AllPL IsZ (zcells zs):=fun u hu=>by
 obtain⟨z,_,rfl⟩:=List.mem_map.1 hu;exact⟨z,rfl⟩
def OwnZ (w:World) (base:Nat) (v:Value) (zs:List Int):Prop:=OwnG 2 1 IsZ w base v zs.length (zcells zs)
theorem OwnZ.nil (w:World) (base:Nat):OwnZ w base (.slice none 0 0) []:=OwnG.nil w base
theorem OwnZ.below {w w':World}{base:Nat}{v:Value}{zs:List Int}(h:OwnZ w base v zs) (hb:Below w.heap.size w w'):OwnZ w' base v zs:=OwnG.below h hb
set_option maxRecDepth 100000 in
theorem run_appZ (w:World) (base:Nat) (v:Value) (zs:List Int) (hown:OwnZ w base v zs) (ad:Addr) (c:Nat) (z:Int) (hnews:w.cell? ad=some (.int .i64 z)) (h63:zs.length+1≤1000000000000) (hbase:base≤w.heap.size) :
 ∃ v' w',(Builtin.append_ #[24,24] 24 #[v,.slice (some ad) 1 c]).run Try.prog w=.ok v' w'∧OwnZ w' base v' (zs++[z])∧w.grownBy w' v.ownBlock:=by
 obtain⟨v',w',h1,h2,h3⟩:=run_appG (P:=IsZ) w base v zs.length _ Try.underlying24 infoI64 rfl (by decide) (fun i u hi=>by
  match i with
  | 0=>injection hi with hi;exact⟨_,hi.symm⟩
  | i+1=>simp[Value.cells] at hi) (by decide) hown ad 1 c [.int .i64 z] (by decide) rfl (fun j u hj=>by
  match j with
  | 0=>injection hj with hj;subst hj;simpa [Addr.add] using hnews
  | j+1=>simp at hj) (fun u hu=>by simp at hu;subst hu;rfl) (fun u hu=>by simp at hu;exact⟨_,hu⟩) h63 hbase (isZ_cells zs)
 refine⟨v',w',h1,?_,h3⟩;unfold OwnZ zcells;rw[List.length_append,List.map_append]
 simpa [zcells] using h2
def ZT (w:World) (A:Option Addr) (c:Nat) (zs:List Int):Prop:=ZL w A c zs∧∀ a,A=some a→∃ cur,Blk w a.block 2 cur
section
variable {w w':World}{A:Option Addr}{c:Nat}{zs:List Int}
theorem ZT.below (h:ZT w A c zs) (hb:Below w.heap.size w w'):ZT w' A c zs:=⟨h.1.below hb,fun a e=>by obtain⟨cur,k⟩:=h.2 a e;exact⟨cur,k.keep hb⟩⟩
theorem ZT.far {g:Nat}(h:ZT w A c zs) (hne:∀ a,A=some a→a.block≠g) (ho:Only w w' g):ZT w' A c zs:=⟨Srow.far h.1 hne ho,fun a e=>by obtain⟨cur,k⟩:=h.2 a e;exact⟨cur,k.only ho (hne a e)⟩⟩
theorem ZT.other {g:Nat}{t:TypeId}{cs:Array Value}(h:ZT w A c zs) (hB:Blk w g t cs) (ht:2≠t) (ho:Only w w' g):ZT w' A c zs:=h.far (fun a e=>by obtain⟨cur,k⟩:=h.2 a e;exact k.ne_type hB ht) ho
theorem OwnZ.zt {base:Nat}{v:Value}(h:OwnZ w base v zs):∃ A c,v=.slice A zs.length c∧ZT w A c zs:=by
 have hm2:maxLen=9223372036854775807:=rfl
 rcases h.1.2 with ⟨rfl,h0⟩ | ⟨g,cap,cur,rfl,hb,hg,hn,hm,hs,ht⟩
 · have:zs=[]:=List.eq_nil_of_length_eq_zero h0;subst this;exact⟨none,0,rfl,⟨by simp,by omega,fun j hj=>by simp at hj⟩,fun a e=>by cases e⟩
 · have hB:Blk w g 2 cur:=hg;refine⟨_,cap,rfl,⟨hn,by omega,fun j hj=>⟨_,rfl,hB.lt,fun i u hu=>?_⟩⟩,fun a e=>by cases e;exact⟨cur,hB⟩⟩;have hi:i=0:=by have:=(List.getElem?_eq_some_iff.1 hu).1;simpa using this
   subst hi;have hu2:some (Value.int .i64 zs[j])=some u:=hu;rw[←hu2,add_zero_,World.ownsRow.cellAt (n:=zs.length) (base:=base) (e:=2) (size:=1) (cap:=cap) h.1 (j*1+0) (by omega)]
   show (zcells zs)[j*1+0]?=_
   unfold zcells;rw[Nat.mul_one,Nat.add_zero,List.getElem?_map,List.getElem?_eq_getElem hj];rfl
end
def ZA (w:World) (g:Nat) (zs:List Int):Prop:=Blk w g 2 (zs.map (Value.int .i64)).toArray
theorem ZA.below {w w':World}{g:Nat}{zs:List Int}(h:ZA w g zs) (hb:Below w.heap.size w w'):ZA w' g zs:=Blk.keep h hb
theorem ZA.free {w:World}{g:Nat}{zs:List Int}(h:ZA w g zs) (j:Nat):w.frozen? ⟨g,j,none⟩=false:=Blk.free h j
theorem ZA.cell {w:World}{g:Nat}{zs:List Int}{j:Nat}{z:Int}(h:ZA w g zs) (hj:zs[j]?=some z):w.cell? ⟨g,j,none⟩=some (.int .i64 z):=by
 rw[Blk.cell h,List.getElem?_toArray,List.getElem?_map,hj];rfl
theorem ZA.set {w:World}{g:Nat}{zs:List Int}(h:ZA w g zs) (j:Nat) (z:Int):∃ w',w.setCell ⟨g,j,none⟩ (.int .i64 z)=w'∧ZA w' g (zs.set j z)∧Only w w' g:=by
 refine⟨_,rfl,?_,(Only.refl w g).set _ _⟩;have h1:=Blk.set h j (.int .i64 z);unfold ZA;rw[List.map_set]
 simpa using h1
theorem ZA.zt {w:World}{g:Nat}{zs:List Int}(h:ZA w g zs) (hl:zs.length≤1000000000000):ZT w (some ⟨g,0,none⟩) zs.length zs :=
 ⟨⟨Nat.le_refl _,by omega,fun j hj=>⟨_,rfl,Blk.lt h,fun i u hu=>by
  have hi:i=0:=by have:=(List.getElem?_eq_some_iff.1 hu).1;simpa using this
  subst hi;have hu2:some (Value.int .i64 zs[j])=some u:=hu;rw[←hu2,add_zero_,Nat.mul_one,Nat.add_zero];exact h.cell (List.getElem?_eq_getElem hj)⟩⟩,fun a e=>by cases e;exact⟨_,h⟩⟩
set_option maxRecDepth 100000 in
theorem make_i64s (w:World) (n:Nat) (hn:n≤100000000000) :
 ∃ w',(Instr.makeSlice 24 (.int .i64 (n:Int)) (.int .i64 (n:Int))).run Try.prog w=.ok (.slice (some ⟨w.heap.size,0,none⟩) n n) w'∧ZA w' w.heap.size (List.replicate n 0)∧Below w.heap.size w w'∧w.heap.size<w'.heap.size:=by
 obtain⟨i,hi,hz0,hz1,hz2⟩:=info_parts infoI64;have hr:=run_make (P:=Try.prog) w 24 2 i _ Try.underlying24 hi hz0 .i64 .i64 n n (by omega) (by omega) (by rw[hz2];omega) (by omega);refine⟨w.alloc (.cells ((List.replicate n (0:Int)).map (Value.int .i64)).toArray 2),?_,Blk.new w _ _,(Below.refl _ _).alloc (Nat.le_refl _) _,by simp⟩;rw[hr,hz1,Int.toNat_natCast,List.map_replicate,←made_one]
 rfl
structure LmD where
 a:Option Addr
 c:Nat
 zs:List Int
 b:Int
def LmD.cells (l:LmD):List Value:=[.slice l.a l.zs.length l.c,.int .i64 l.b]
def LmD.p (l:LmD):List Int × Int:=(l.zs,l.b)
theorem notU_lm (l:LmD):∀ u∈l.cells,NotU u:=fun u hu x e=>by
 subst e
 simp[LmD.cells] at hu
theorem notU_lms (ls:List LmD):AllPL NotU (ls.flatMap LmD.cells):=fun u hu=>by
 obtain⟨d,_,hd⟩:=List.mem_flatMap.1 hu;exact notU_lm d u hd
theorem lm2:∀ (ds:List LmD) (j i:Nat) (hj:j<ds.length),i<2→(ds.flatMap LmD.cells)[j*2+i]?=(ds[j]).cells[i]?
 | d::ds,0,i,_,hi=>by
  rw[List.flatMap_cons,List.getElem?_append_left (by simp[LmD.cells];omega)]
  simp
 | d::ds,j+1,i,hj,hi=>by
  rw[List.flatMap_cons,List.getElem?_append_right (by simp[LmD.cells];omega)];have e:(j+1)*2+i-d.cells.length=j*2+i:=by simp[LmD.cells];omega
  rw[e,lm2 ds j i (by simpa using hj) hi]
  rfl
theorem infoLm:(Try.prog.info? 69).map (fun i=>(i.zero,i.size,i.bytes))=some (some (.agg #[.slice none 0 0,.int .i64 0]),2,32):=by kernel_rfl
def OwnL (w:World) (base:Nat) (v:Value) (ls:List LmD):Prop:=OwnG 69 2 NotU w base v ls.length (ls.flatMap LmD.cells)
theorem run_appL (w:World) (base:Nat) (v:Value) (cs:List LmD) (hown:OwnL w base v cs) (ad:Addr) (c:Nat) (d:LmD) (hnews:∀ j u,d.cells[j]?=some u→w.cell? (ad.add j)=some u) (h63:cs.length+1≤1000000000000) (hbase:base≤w.heap.size) :
 ∃ v' w',(Builtin.append_ #[66,66] 66 #[v,.slice (some ad) 1 c]).run Try.prog w=.ok v' w'∧OwnL w' base v' (cs++[d])∧w.grownBy w' v.ownBlock:=by
 obtain⟨v',w',h1,h2,h3⟩:=run_appG (P:=NotU) w base v cs.length _ Try.underlying66 infoLm rfl (by decide) (fun i u hi x e=>by
  subst e
  match i with
  | 0=>injection hi with hi;cases hi
  | 1=>injection hi with hi;cases hi
  | i+2=>simp[Value.cells] at hi) (by decide) hown ad 1 c d.cells (by decide) rfl hnews (fun u hu=>by
   simp only[LmD.cells,List.mem_cons,List.not_mem_nil,or_false] at hu
   rcases hu with rfl | rfl <;> rfl) (notU_lm d) h63 hbase (notU_lms cs)
 refine⟨v',w',h1,?_,h3⟩;unfold OwnL;rw[List.length_append,List.flatMap_append]
 simpa using h2
def LmL (w:World) (A:Option Addr) (c:Nat) (ls:List LmD):Prop:=Srow w 2 LmD.cells A c ls∧∀ l∈ls,ZL w l.a l.c l.zs
theorem LmL.below {w w':World}{A:Option Addr}{c:Nat}{ls:List LmD}(h:LmL w A c ls) (hb:Below w.heap.size w w'):LmL w' A c ls:=⟨h.1.below hb,fun l hl=>(h.2 l hl).below hb⟩
theorem LmL.at {w:World}{A:Option Addr}{c:Nat}{ls:List LmD}(h:LmL w A c ls){k:Nat}(hk:k<ls.length) :
 ∃ a l,A=some a∧a.block<w.heap.size∧w.cell? (a.add (k*2))=some (.slice l.a l.zs.length l.c)∧w.cell? ⟨(a.add (k*2)).block,(a.add (k*2)).off+1,none⟩=some (.int .i64 l.b)∧ZL w l.a l.c l.zs∧Hid (ls[k]?=some l):=by
 obtain⟨a,e,h1,h2⟩:=h.1.2.2 k hk;have h3:=h2 0 _ rfl;rw[Nat.add_zero] at h3;exact⟨a,ls[k],e,h1,h3,cellK (a:=a.add (k*2)) (by rw[add_add];exact h2 1 _ rfl) (by decide),h.2 _ (List.getElem_mem hk),List.getElem?_eq_getElem hk⟩
theorem OwnL.srow {w:World}{base:Nat}{v:Value}{cs:List LmD}(h:OwnL w base v cs):∃ A c,v=.slice A cs.length c∧Srow w 2 LmD.cells A c cs:=by
 have hm2:maxLen=9223372036854775807:=rfl
 rcases h.1.2 with ⟨rfl,h0⟩ | ⟨g,cap,cur,rfl,hb,hg,hn,hm,hs,ht⟩
 · have:cs=[]:=List.eq_nil_of_length_eq_zero h0;subst this;exact⟨none,0,rfl,⟨by simp,by omega,fun j hj=>by simp at hj⟩⟩
 · have hB:Blk w g 69 cur:=hg;refine⟨_,cap,rfl,⟨hn,by omega,fun j hj=>⟨_,rfl,hB.lt,fun i u hu=>?_⟩⟩⟩
   have hi:i<2:=by
    have:=(List.getElem?_eq_some_iff.1 hu).1
    simpa [LmD.cells] using this
   rw[add_zero_,World.ownsRow.cellAt (n:=cs.length) (base:=base) (e:=69) (size:=2) (cap:=cap) h.1 (j*2+i) (by omega),lm2 cs j i hj hi];exact hu
def LmAt (L:List (List Int × Int)) (root:World) (k:Nat) (v:Value) (w:World):Prop :=
 ∃ ls:List LmD,OwnL w root.heap.size v ls∧(∀ l∈ls,ZT w l.a l.c l.zs)∧ls.length=k∧ls.map LmD.p=L.take k∧Below root.heap.size root w
section
variable {L:List (List Int × Int)}{root w w':World}{k:Nat}{v:Value}
theorem LmAt.nil (L:List (List Int × Int)) (w:World):LmAt L w 0 (.slice none 0 0) w:=⟨[],OwnG.nil _ _,fun l hl=>by simp at hl,rfl,rfl,Below.refl _ _⟩
theorem LmAt.below (h:LmAt L root k v w) (hb:Below w.heap.size w w'):LmAt L root k v w':=by
 obtain⟨ls,h1,h2,h3,h4,h5⟩:=h;exact⟨ls,OwnG.below h1 hb,fun l hl=>(h2 l hl).below hb,h3,h4,h5.trans (hb.mono h5.size)⟩
theorem LmAt.bel (h:LmAt L root k v w):Below root.heap.size root w:=by obtain⟨ls,h1,h2,h3,h4,h5⟩:=h;exact h5
theorem LmAt.app (h:LmAt L root k v w) (hk:k<1000000000){l:LmD}(hq:L[k]?=some l.p) (hr:ZT w l.a l.c l.zs) :
 ∃ v6 w6,(Builtin.append_ #[66,66] 66 #[v,.slice (some ⟨w.heap.size,0,none⟩) 1 1]).run Try.prog (w.alloc (.cells #[.slice l.a l.zs.length l.c,.int .i64 l.b] 69))=.ok v6 w6∧LmAt L root (k+1) v6 w6:=by
 obtain⟨ls,h1,h2,h3,h4,h5⟩:=h;have ba:=(Below.refl w.heap.size w).alloc (Nat.le_refl _) (.cells #[.slice l.a l.zs.length l.c,.int .i64 l.b] 69);have hB:=Blk.new w 69 #[.slice l.a l.zs.length l.c,.int .i64 l.b];have ho:=OwnG.below h1 ba
 obtain⟨v6,w6,hrun,g1,g2⟩:=run_appL _ root.heap.size v ls ho ⟨w.heap.size,0,none⟩ 1 l (fun j u hj=>by
  rw[add_zero_,Blk.cell hB];have:(#[Value.slice l.a l.zs.length l.c,.int .i64 l.b]:Array Value)[j]?=l.cells[j]?:=by rw[←Array.getElem?_toList];rfl
  rw[this];exact hj) (by omega) (Nat.le_trans h5.size ba.size)
 refine⟨v6,w6,hrun,ls++[l],g1,fun x hx=>?_,by rw[List.length_append,h3];rfl,?_,?_⟩
 · have hx2:ZT (w.alloc (.cells #[.slice l.a l.zs.length l.c,.int .i64 l.b] 69)) x.a x.c x.zs:=by
    rcases List.mem_append.1 hx with hx | hx
    · exact (h2 x hx).below ba
    · simp at hx;subst hx;exact hr.below ba
   cases hv:v.ownBlock with
   | none=>rw[hv] at g2;exact hx2.below ⟨g2.os,g2.tape,g2.output,g2.size,fun i hi=>g2.block i hi (by simp)⟩
   | some g =>
    rw[hv] at g2;obtain⟨cur,k1,k2⟩:=ho.2 g hv;exact hx2.other k1 (by decide) g2
 · rw[List.map_append,h4,List.take_add_one,hq];rfl
 · exact (h5.trans (ba.mono h5.size)).grown g2 (Nat.le_trans h5.size ba.size) fun g hg=>OwnG.block ho hg
theorem LmAt.done (h:LmAt L root k v w) (hk:k=L.length):∃ A c ls,v=.slice A ls.length c∧LmL w A c ls∧Hid (ls.map LmD.p=L):=by
 obtain⟨ls,h1,h2,h3,h4,h5⟩:=h;obtain⟨A,c,e,hs⟩:=h1.srow;exact⟨A,c,ls,e,⟨hs,fun l hl=>(h2 l hl).1⟩,by show _=_;rw[h4,hk,List.take_length]⟩
end
structure InAt (root:World) (g:Nat) (b:Int) (zs:List Int) (A:Option Addr) (c:Nat) (w:World):Prop where
 blk:Blk w g 69 #[.slice A zs.length c,.int .i64 b]
 own:OwnZ w root.heap.size (.slice A zs.length c) zs
 bel:Below root.heap.size root w
section
variable {root w w':World}{g c:Nat}{b z:Int}{zs:List Int}{A:Option Addr}
theorem InAt.below (h:InAt root g b zs A c w) (hb:Below w.heap.size w w'):InAt root g b zs A c w':=⟨h.blk.keep hb,h.own.below hb,h.bel.trans (hb.mono h.bel.size)⟩
theorem InAt.c0 (h:InAt root g b zs A c w):w.cell? ⟨g,0,none⟩=some (.slice A zs.length c):=Blk.cell h.blk 0
theorem InAt.c1 (h:InAt root g b zs A c w):w.cell? ⟨g,1,none⟩=some (.int .i64 b):=Blk.cell h.blk 1
theorem InAt.app (h:InAt root g b zs A c w) (hg:root.heap.size≤g){ad:Addr}{c':Nat}(hnews:w.cell? ad=some (.int .i64 z)) (h63:zs.length<1000000000) :
 ∃ A' c2 w6 w9,(Builtin.append_ #[24,24] 24 #[.slice A zs.length c,.slice (some ad) 1 c']).run Try.prog w=.ok (.slice A' (zs.length+1) c2) w6∧w6.cell? ⟨g,0,none⟩=some (.slice A zs.length c)∧w6.frozen? ⟨g,0,none⟩=false ∧
  w6.setCell ⟨g,0,none⟩ (.slice A' (zs.length+1) c2)=w9∧InAt root g b (zs++[z]) A' c2 w9∧Below root.heap.size root w6:=by
 obtain⟨v',w6,h1,h2,h3⟩:=run_appZ w root.heap.size _ zs h.own ad c' z hnews (by omega) h.bel.size;obtain⟨A',c2,rfl,-⟩:=h2.zt;rw[show (zs++[z]).length=zs.length+1 by simp] at h1 h2
 have hb6:Blk w6 g 69 #[.slice A zs.length c,.int .i64 b]:=by
  cases hv:(Value.slice A zs.length c).ownBlock with
  | none=>rw[hv] at h3;exact h.blk.keep ⟨h3.os,h3.tape,h3.output,h3.size,fun i hi=>h3.block i hi (by simp)⟩
  | some g' =>
   rw[hv] at h3;obtain⟨cur,k1,k2⟩:=h.own.2 g' hv;exact h.blk.only h3 (h.blk.ne_type k1 (by decide))
 have hbel6:Below root.heap.size root w6:=h.bel.grown h3 h.bel.size fun g' hg'=>OwnG.block h.own hg';have o9:=(Only.refl w6 g).set 0 (.slice A' (zs.length+1) c2);refine⟨A',c2,w6,_,h1,Blk.cell hb6 0,Blk.free hb6 0,rfl,⟨by rw[show (zs++[z]).length=zs.length+1 by simp];exact hb6.set 0 _,?_,o9.to_below hbel6 hg hbel6.size⟩,hbel6⟩;rw[show (zs++[z]).length=zs.length+1 by simp]
 rcases h2.1.2 with ⟨e0,h0⟩ | ⟨g',cap,cur,e,hb,hgc,hn,hm,hs,ht⟩
 · simp at h0
 · have hB:Blk w6 g' 2 cur:=hgc;have hne:g'≠g:=hB.ne_type hb6 (by decide);refine⟨⟨h2.1.1,.inr ⟨g',cap,cur,e,hb,hB.only o9 hne,hn,hm,hs,ht⟩⟩,fun g2 hg2=>?_⟩;obtain⟨cur2,k1,k2⟩:=h2.2 g2 hg2;exact⟨cur2,k1.only o9 (k1.ne_type hb6 (by decide)),k2⟩
theorem InAt.zt (h:InAt root g b zs A c w):ZT w A c zs:=by
 obtain⟨A',c',e,hz⟩:=h.own.zt
 injection e with e1 _ e3
 subst e1 e3;exact hz
theorem lm_store (h:Blk w g 69 #[.slice none 0 0,.int .i64 0]) (A:Option Addr) (n c:Nat) (b:Int):∃ w9,w.cell? ⟨g,0,none⟩=some (.slice none 0 0)∧w.cell? ⟨g,1,none⟩=some (.int .i64 0)∧w.frozen? ⟨g,0,none⟩=false∧w.frozen? ⟨g,1,none⟩=false ∧
 (w.setCell ⟨g,0,none⟩ (.slice A n c)).setCell ⟨g,1,none⟩ (.int .i64 b)=w9∧Blk w9 g 69 #[.slice A n c,.int .i64 b]∧Only w w9 g :=
 ⟨_,Blk.cell h 0,Blk.cell h 1,Blk.free h 0,Blk.free h 1,rfl,(h.set 0 _).set 1 _,((Only.refl w g).set 0 _).set 1 _⟩
theorem new_lm (w:World) (A:Option Addr) (n c:Nat) (b:Int):∃ wA wB,w.alloc (.cells #[.slice none 0 0,.int .i64 0] 69)=wA∧wA.cell? ⟨w.heap.size,0,none⟩=some (.slice none 0 0)∧wA.cell? ⟨w.heap.size,1,none⟩=some (.int .i64 0)∧wA.frozen? ⟨w.heap.size,0,none⟩=false∧wA.frozen? ⟨w.heap.size,1,none⟩=false ∧
 (wA.setCell ⟨w.heap.size,0,none⟩ (.slice A n c)).setCell ⟨w.heap.size,1,none⟩ (.int .i64 b)=wB∧Blk wB w.heap.size 69 #[.slice A n c,.int .i64 b]∧Below w.heap.size w wB∧w.heap.size<wB.heap.size:=by
 obtain⟨wA,eA,bA,lA,BA⟩:=boxed w #[.slice none 0 0,.int .i64 0] 69;have o9:=((Only.refl wA w.heap.size).set 0 (.slice A n c)).set 1 (.int .i64 b);exact⟨wA,_,eA,Blk.cell BA 0,Blk.cell BA 1,Blk.free BA 0,Blk.free BA 1,rfl,(BA.set 0 (.slice A n c)).set 1 (.int .i64 b),o9.to_below bA (Nat.le_refl _) bA.size,Nat.lt_of_lt_of_le lA o9.size⟩
end
end Go.Proofs.Ytjhkapjadfpimaa
namespace Go.Proofs.Ytjhkapjadfpimaa
set_option linter.unusedVariables false
set_option linter.unusedSimpArgs false
open Go.RowKit Plain
def bitZ (p k:Nat):Int:=if bitP p k=true then 1 else 0
def needC (n p:Nat):List Int:=(List.range n).map (bitZ p)
def unitC (n i:Nat) (v:Int):List Int:=(List.replicate n 0).set i v
def limL (ns:List NdD) (ms:List Int):List (List Int × Int) :=
 ns.map (fun d=>(needC ms.length d.p.toNat,d.l))++((List.range ms.length).map (fun i=>(unitC ms.length i 1,0))++(List.range ms.length).map (fun i=>(unitC ms.length i (-1),-(ms.getD i 0))))
def dotI (c:List Int) (qs:List Rat):List Rat:=List.zipWith (fun (z:Int) q=>(z:Rat)*q) c qs
theorem needC_len (n p:Nat):(needC n p).length=n:=by simp[needC]
theorem unitC_len (n i:Nat) (v:Int):(unitC n i v).length=n:=by simp[unitC]
theorem limL_len (ns:List NdD) (ms:List Int):(limL ns ms).length=ns.length+(ms.length+ms.length):=by simp[limL]
theorem dotI_need {n p:Nat}{qs:List Rat}(h:qs.length=n):dotI (needC n p) qs=paidL p qs:=by
 refine List.ext_getElem (by rw[paidL_len];simp[dotI,needC,h]) fun i h1 h2=>?_;have hi:i<qs.length:=by rw[paidL_len] at h2;exact h2
 have e:=paidL_get (p:=p) (List.getElem?_eq_getElem hi);rw[List.getElem?_eq_getElem h2] at e
 injection e with e
 rw[e]
 simp only[dotI,needC,List.getElem_zipWith,List.getElem_map,List.getElem_range,bitZ]
 by_cases c:bitP p i=true
 · rw[if_pos c,if_pos c];show ((1:Int):Rat)*_=_;rw[show ((1:Int):Rat)=1 from rfl,Rat.one_mul]
 · rw[if_neg c,if_neg c];show ((0:Int):Rat)*_=_;rw[show ((0:Int):Rat)=0 from rfl,Rat.zero_mul]
theorem dotI_len {c:List Int}{qs:List Rat}(h:c.length=qs.length):(dotI c qs).length=qs.length:=by simp[dotI,h]
theorem dotI_at {c:List Int}{qs:List Rat}{k:Nat}(hc:k<c.length) (hq:k<qs.length):(dotI c qs)[k]?=some (((c.getD k 0:Int):Rat)*qs.getD k 0):=by
 unfold dotI;rw[List.getElem?_zipWith,List.getElem?_eq_getElem hc,List.getElem?_eq_getElem hq,getD_of 0 hc,getD_of 0 hq]
theorem unitC_at {n i k:Nat}{v:Int}(hi:i<n) (hk:k<n):((unitC n i v).getD k 0:Int)=if i=k then v else 0:=by
 unfold unitC
 by_cases e:i=k
 · subst e;rw[if_pos rfl,List.getD_eq_getElem?_getD,List.getElem?_set_self (by simpa using hi)];rfl
 · rw[if_neg e,List.getD_eq_getElem?_getD,List.getElem?_set_ne e,←List.getD_eq_getElem?_getD,getD_of 0 (by simpa using hk)]
   simp
theorem dotI_unit {n i:Nat}{v:Int}{qs:List Rat}(h:qs.length=n) (hi:i<n):sumR (dotI (unitC n i v) qs)=(v:Rat)*gt qs i:=by
 rw[sumR_sm,dotI_len (by rw[unitC_len,h]),h];rw[sm_congr (g:=fun k=>dl i k*((v:Rat)*gt qs k)) (fun k hk=>?_),sm_dl _ hi];have e:=dotI_at (c:=unitC n i v) (qs:=qs) (k:=k) (by rw[unitC_len];exact hk) (by omega);unfold gt;rw[List.getD_eq_getElem?_getD (l:=dotI _ _),e]
 show ((_:Int):Rat)*_=_
 rw[unitC_at hi hk];unfold dl
 by_cases c:i=k
 · rw[if_pos c,if_pos c,Rat.one_mul]
 · rw[if_neg c,if_neg c,Rat.zero_mul];show ((0:Int):Rat)*_=_;rw[show ((0:Int):Rat)=0 from rfl,Rat.zero_mul]
theorem dotI_ones (qs:List Rat):dotI (List.replicate qs.length 1) qs=qs:=by
 refine List.ext_getElem (by simp[dotI]) fun i h1 h2=>?_
 simp only[dotI,List.getElem_zipWith,List.getElem_replicate]
 rw[show ((1:Int):Rat)=1 from rfl,Rat.one_mul]
def limB (pay:List Rat) (l:List Int × Int):Bool:=!(decide (sumR (dotI l.1 pay)<(l.2:Rat)))
def possB (ns:List NdD) (ms:List Int) (sum:Rat) (pay:List Rat):Bool :=
 decide (pay.length=ms.length)&&(decide (sumR pay=sum)&&(limL ns ms).all (limB pay))
section
variable {ns:List NdD}{ms:List Int}{sum:Rat}{pay:List Rat}
theorem limL_need {k:Nat}(hk:k<ns.length):(limL ns ms).getD k ([],0)=(needC ms.length (pOf ns k),lOf ns k):=by
 unfold limL;rw[List.getD_eq_getElem?_getD,List.getElem?_append_left (by simpa using hk),List.getElem?_map,List.getElem?_eq_getElem hk];have e:ns.getD k ⟨0,0⟩=ns[k]:=by rw[List.getD_eq_getElem?_getD,List.getElem?_eq_getElem hk];rfl
 unfold pOf lOf;rw[e];rfl
theorem limL_low {i:Nat}(hi:i<ms.length):(limL ns ms).getD (ns.length+i) ([],0)=(unitC ms.length i 1,0):=by
 unfold limL;rw[List.getD_eq_getElem?_getD,List.getElem?_append_right (by simp),List.getElem?_append_left (by simp;omega),List.getElem?_map,List.getElem?_range (by simp;omega)]
 simp
theorem limL_up {i:Nat}(hi:i<ms.length):(limL ns ms).getD (ns.length+ms.length+i) ([],0)=(unitC ms.length i (-1),-(ms.getD i 0)):=by
 unfold limL;rw[List.getD_eq_getElem?_getD,List.getElem?_append_right (by simp;omega),List.getElem?_append_right (by simp;omega),List.getElem?_map,List.getElem?_range (by simp;omega)]
 simp only[List.length_map,List.length_range,Option.map_some,Option.getD_some]
 rw[show ns.length+ms.length+i-ns.length-ms.length=i by omega]
theorem lim_split {P:Nat→Prop}:(∀ k,k<(limL ns ms).length→P k) ↔ (∀ k,k<ns.length→P k)∧(∀ i,i<ms.length→P (ns.length+i))∧∀ i,i<ms.length→P (ns.length+ms.length+i):=by
 rw[limL_len]
 constructor
 · exact fun h=>⟨fun k hk=>h k (by omega),fun i hi=>h _ (by omega),fun i hi=>h _ (by omega)⟩
 · rintro ⟨h1,h2,h3⟩ k hk
   by_cases e1:k<ns.length
   · exact h1 k e1
   · by_cases e2:k<ns.length+ms.length
     · have:=h2 (k-ns.length) (by omega)
       rwa [show ns.length+(k-ns.length)=k by omega] at this
     · have:=h3 (k-(ns.length+ms.length)) (by omega)
       rwa [show ns.length+ms.length+(k-(ns.length+ms.length))=k by omega] at this
theorem all_idx {α:Type}{f:α→Bool}{l:List α}(d:α):l.all f=true ↔ ∀ k,k<l.length→f (l.getD k d)=true:=by
 rw[List.all_eq_true]
 constructor
 · exact fun h k hk=>h _ (by rw[getD_of d hk];exact List.getElem_mem hk)
 · intro h x hx;obtain⟨k,hk,rfl⟩:=List.getElem_of_mem hx;have:=h k hk
   rwa [getD_of d hk] at this
theorem dot_need {k:Nat}(hl:pay.length=ms.length) (hk:k<ns.length):sumR (dotI ((limL ns ms).getD k ([],0)).1 pay)=sumR (paidL (pOf ns k) pay)∧((limL ns ms).getD k ([],0)).2=lOf ns k:=by
 rw[limL_need hk];exact⟨by rw[dotI_need hl],rfl⟩
theorem dot_low {i:Nat}(hl:pay.length=ms.length) (hi:i<ms.length):sumR (dotI ((limL ns ms).getD (ns.length+i) ([],0)).1 pay)=gt pay i∧((limL ns ms).getD (ns.length+i) ([],0)).2=0:=by
 rw[limL_low hi];exact⟨by rw[dotI_unit hl hi];show ((1:Int):Rat)*_=_;rw[show ((1:Int):Rat)=1 from rfl,Rat.one_mul],rfl⟩
theorem dot_up {i:Nat}(hl:pay.length=ms.length) (hi:i<ms.length):sumR (dotI ((limL ns ms).getD (ns.length+ms.length+i) ([],0)).1 pay)=- gt pay i∧((limL ns ms).getD (ns.length+ms.length+i) ([],0)).2=-(ms.getD i 0):=by
 rw[limL_up hi];exact⟨by rw[dotI_unit hl hi,Rat.intCast_neg];show-((1:Int):Rat)*_=_;rw[show ((1:Int):Rat)=1 from rfl];grind,rfl⟩
theorem possB_iff (hn:ms.length≤8):possB ns ms sum pay=true ↔ Poss ms.length (allS ns ms) sum pay:=by
 rw[poss_iff hn];unfold possB;rw[Bool.and_eq_true,Bool.and_eq_true,decide_eq_true_eq,decide_eq_true_eq,all_idx ([],0),lim_split]
 constructor
 · rintro ⟨h1,h2,h3,h4,h5⟩;refine⟨h1,h2,fun k hk=>?_,fun i hi=>?_,fun i hi=>?_⟩
   · have h:=h3 k hk;unfold limB at h;rw[(dot_need h1 hk).1,(dot_need h1 hk).2,Bool.not_eq_true',decide_eq_false_iff_not,Rat.not_lt] at h;exact h
   · have h:=h4 i hi;unfold limB at h;rw[(dot_low h1 hi).1,(dot_low h1 hi).2,Bool.not_eq_true',decide_eq_false_iff_not,Rat.not_lt] at h;exact h
   · have h:=h5 i hi;unfold limB at h;rw[(dot_up h1 hi).1,(dot_up h1 hi).2,Bool.not_eq_true',decide_eq_false_iff_not,Rat.not_lt,Rat.intCast_neg] at h
     grind
 · rintro ⟨h1,h2,h3,h4,h5⟩;refine⟨h1,h2,fun k hk=>?_,fun i hi=>?_,fun i hi=>?_⟩
   · unfold limB;rw[(dot_need h1 hk).1,(dot_need h1 hk).2,Bool.not_eq_true',decide_eq_false_iff_not,Rat.not_lt];exact h3 k hk
   · unfold limB;rw[(dot_low h1 hi).1,(dot_low h1 hi).2,Bool.not_eq_true',decide_eq_false_iff_not,Rat.not_lt];exact h4 i hi
   · unfold limB;rw[(dot_up h1 hi).1,(dot_up h1 hi).2,Bool.not_eq_true',decide_eq_false_iff_not,Rat.not_lt,Rat.intCast_neg];have:=h5 i hi
     grind
def slkB (ns:List NdD) (ms:List Int) (pay mu:List Rat) (k:Nat):Bool:=slackB (mu.getD k 0) (decide (sumR (dotI ((limL ns ms).getD k ([],0)).1 pay)=((((limL ns ms).getD k ([],0)).2:Int):Rat)))
def refB (tg:List Rat) (ns:List NdD) (ms:List Int) (sum:Rat) (pay mults low high:List Rat) (lev:Rat):Bool :=
 decide (low.length=ms.length)&&(decide (high.length=ms.length)&&(decide (mults.length=ns.length)&&(possB ns ms sum pay&&((List.range (limL ns ms).length).all (slkB ns ms pay (mults++(low++high)))&&(List.range ms.length).all (certF ns tg pay mults low high lev)))))
theorem range_all {f:Nat→Bool}{n:Nat}:(List.range n).all f=true ↔ ∀ k,k<n→f k=true:=by
 rw[List.all_eq_true];exact⟨fun h k hk=>h k (List.mem_range.2 hk),fun h k hk=>h k (List.mem_range.1 hk)⟩
theorem bool_of_iff {a b:Bool}(h:a=true ↔ b=true):a=b:=by cases a <;> cases b <;> simp_all
theorem mu_need {mults low high:List Rat}{k:Nat}(hk:k<mults.length):(mults++(low++high)).getD k 0=mults.getD k 0:=by
 rw[List.getD_eq_getElem?_getD,List.getElem?_append_left hk,←List.getD_eq_getElem?_getD]
theorem mu_low {mults low high:List Rat}{i:Nat}(hi:i<low.length):(mults++(low++high)).getD (mults.length+i) 0=low.getD i 0:=by
 rw[List.getD_eq_getElem?_getD,List.getElem?_append_right (by omega),List.getElem?_append_left (by omega),←List.getD_eq_getElem?_getD,Nat.add_sub_cancel_left]
theorem mu_up {mults low high:List Rat}{i:Nat}:(mults++(low++high)).getD (mults.length+low.length+i) 0=high.getD i 0:=by
 rw[List.getD_eq_getElem?_getD,List.getElem?_append_right (by omega),List.getElem?_append_right (by omega),←List.getD_eq_getElem?_getD]
 congr 1;omega
theorem ref_cert {tg mults low high:List Rat}{lev:Rat}(hn:ms.length≤8):refB tg ns ms sum pay mults low high lev=certB tg ns ms sum pay mults low high lev:=by
 apply bool_of_iff
 unfold refB certB lensB
 simp only[Bool.and_eq_true,decide_eq_true_eq,range_all]
 rw[lim_split]
 constructor
 · rintro ⟨h1,h2,h3,hp,⟨s1,s2,s3⟩,hf⟩;obtain⟨p1,p2,p3,p4,p5⟩:=(poss_iff hn).1 ((possB_iff hn).1 hp);refine⟨⟨p1,h1,h2,h3⟩,fun i hi=>?_,p2,fun k hk=>?_,hf⟩
   · unfold certA;have a1:¬ pay.getD i 0<0:=Rat.not_lt.2 (p4 i hi);have a2:¬ ((ms.getD i 0:Int):Rat)<pay.getD i 0:=Rat.not_lt.2 (p5 i hi);have b1:=s2 i hi;have b2:=s3 i hi;unfold slkB at b1 b2;rw[(dot_low p1 hi).1,(dot_low p1 hi).2,←h3,mu_low (by omega)] at b1;rw[(dot_up p1 hi).1,(dot_up p1 hi).2,←h3,←h1,mu_up] at b2;rw[decide_eq_false a1,decide_eq_false a2];rw[show decide (pay.getD i 0=0)=decide (gt pay i=((0:Int):Rat)) from rfl,b1]
     rw[show decide (pay.getD i 0=((ms.getD i 0:Int):Rat))=decide (- gt pay i=((-(ms.getD i 0):Int):Rat)) from decide_eq_decide.2 (by
      rw[Rat.intCast_neg]
      show gt pay i=_ ↔ _
      constructor <;> intro h <;> grind),b2];rfl
   · unfold certN;have a1:¬ sumR (paidL (pOf ns k) pay)<((lOf ns k:Int):Rat):=Rat.not_lt.2 (p3 k hk);have b1:=s1 k hk;unfold slkB at b1;rw[(dot_need p1 hk).1,(dot_need p1 hk).2,mu_need (by omega)] at b1;rw[decide_eq_false a1,b1];rfl
 · rintro ⟨⟨p1,h1,h2,h3⟩,hA,p2,hN,hf⟩
   have kA:∀ i,i<ms.length→0≤gt pay i∧gt pay i≤((ms.getD i 0:Int):Rat)∧slackB (low.getD i 0) (decide (pay.getD i 0=0))=true∧slackB (high.getD i 0) (decide (pay.getD i 0=((ms.getD i 0:Int):Rat)))=true:=fun i hi=>by
    have h:=hA i hi;unfold certA at h;rw[Bool.and_eq_true,Bool.and_eq_true,Bool.and_eq_true,Bool.not_eq_true',Bool.not_eq_true',decide_eq_false_iff_not,decide_eq_false_iff_not,Rat.not_lt,Rat.not_lt] at h;exact h
   have kN:∀ k,k<ns.length→((lOf ns k:Int):Rat)≤sumR (paidL (pOf ns k) pay)∧slackB (mults.getD k 0) (decide (sumR (paidL (pOf ns k) pay)=((lOf ns k:Int):Rat)))=true:=fun k hk=>by
    have h:=hN k hk;unfold certN at h;rw[Bool.and_eq_true,Bool.not_eq_true',decide_eq_false_iff_not,Rat.not_lt] at h;exact h
   refine⟨h1,h2,h3,(possB_iff hn).2 ((poss_iff hn).2 ⟨p1,p2,fun k hk=>(kN k hk).1,fun i hi=>(kA i hi).1,fun i hi=>(kA i hi).2.1⟩),⟨fun k hk=>?_,fun i hi=>?_,fun i hi=>?_⟩,hf⟩
   · unfold slkB;rw[(dot_need p1 hk).1,(dot_need p1 hk).2,mu_need (by omega)];exact (kN k hk).2
   · unfold slkB;rw[(dot_low p1 hi).1,(dot_low p1 hi).2,←h3,mu_low (by omega)];exact (kA i hi).2.2.1
   · unfold slkB;rw[(dot_up p1 hi).1,(dot_up p1 hi).2,←h3,←h1,mu_up]
     rw[show decide (- gt pay i=((-(ms.getD i 0):Int):Rat))=decide (pay.getD i 0=((ms.getD i 0:Int):Rat)) from decide_eq_decide.2 (by
      rw[Rat.intCast_neg]
      show _ ↔ gt pay i=_
      constructor <;> intro h <;> grind)]
     exact (kA i hi).2.2.2
end
end Go.Proofs.Ytjhkapjadfpimaa
