/- Contracts of functions, for the law. -/
import Derived.Test.YtjhkapjadfpimaaNApp
import Derived.Test.YtjhkapjadfpimaaMMake
import Derived.Maps.AppendAt
namespace Go.Proofs.Ytjhkapjadfpimaa
set_option linter.unusedVariables false
set_option linter.unusedSimpArgs false
open Go.RowKit Plain
theorem OwnM.one {w:World} {g:Nat} {r:RwD} (hB:Blk w g 22 #[.slice r.a r.ds.length r.c]) {base:Nat} (hb:base≤g):OwnM w base (.slice (some ⟨g,0,none⟩) 1 1) [r] :=
 ⟨⟨rfl,.inr ⟨g,1,_,rfl,hb,hB,Nat.le_refl _,by decide,rfl,rfl⟩⟩,fun g' hg=>by
  simp [Value.ownBlock] at hg
  subst hg;refine ⟨_,hB,fun i x hx=>?_⟩
  match i with
  | 0=>injection hx with hx;exact ⟨_,_,_,hx.symm⟩
  | i+1=>simp at hx⟩
theorem MtAt.one {M:Mat} {root w:World} {g:Nat} {r:RwD} (hB:Blk w g 22 #[.slice r.a r.ds.length r.c]) (hb:root.heap.size≤g) (hr:FL w r.a r.c r.ds) (hq:M[0]?=some r.qs) (hbel:Below root.heap.size root w):MtAt M root 1 (.slice (some ⟨g,0,none⟩) 1 1) w :=
 ⟨[r],OwnM.one hB hb,fun x hx=>by simp at hx;subst hx;exact hr,rfl,by rw [List.take_add_one,hq];rfl,hbel⟩
theorem LsAt.done2 {qs:List Rat} {root:World} {k:Nat} {v:Value} {w:World} (h:LsAt qs root k v w) (hk:k=qs.length):∃ A c ds,v=.slice A ds.length c∧FL w A c ds∧Hid (ds.map FrD.q=qs)∧∀ a,A=some a→root.heap.size≤a.block∧a.block < w.heap.size:=by
 obtain ⟨os,h1,h2,h3,h4,h5⟩:=h;obtain ⟨A,c,e,hf⟩:=h1.fl h2;refine ⟨A,c,os,e,hf,by show _=_;rw [h4,hk,List.take_length],fun a ea=>?_⟩
 rcases h1.1.2 with ⟨e0,h0⟩ | ⟨g,cap,cur,e1,hb,hg,hn,hm,hs,ht⟩
 · rw [e0] at e;injection e with e _ _;rw [←e] at ea;cases ea
 · rw [e1] at e;injection e with e _ _;rw [←e] at ea;cases ea;exact ⟨hb,Blk.lt (show Blk w g 28 cur from hg)⟩
theorem run_appQ2 (w:World) (base:Nat) (v:Value) (ds:List FrD) (hown:OwnQ w base v ds) (ad:Addr) (c:Nat) (d:FrD) (hnews:∀ j u,d.cells[j]?=some u→w.cell? (ad.add j)=some u)
 (h63:ds.length+1≤1000000000000) (hbase:base≤w.heap.size) :
 ∃ v' w',(Builtin.append_ #[22,22] 22 #[v,.slice (some ad) 1 c]).run Try.prog w=.ok v' w'∧OwnQ w' base v' (ds ++ [d])∧w.grownBy w' v.ownBlock∧(v'.ownBlock=v.ownBlock∨v'.ownBlock=some w.heap.size):=by
 obtain ⟨v',w',h1,h2,h3⟩:=run_appQ w base v ds hown ad c d hnews h63 hbase;obtain ⟨i,hi,hz0,hz1,hz2⟩:=info_parts infoFrac;have hm:maxLen=9223372036854775807:=rfl
 have h1c:∀ u ∈ d.cells,u.oneCell'=true:=by
  intro u hu
  simp only [FrD.cells,List.mem_cons,List.not_mem_nil,or_false] at hu
  rcases hu with rfl | rfl | rfl <;> rfl
 obtain ⟨v2,w2,k1,_,_,_,k5⟩:=run_append_own_at (P:=Try.prog) (w:=w) base 22 22 28 i (.agg #[.bool false,.slice none 0 0,.slice none 0 0]) 3 56 Try.underlying22 hi hz0 hz1 hz2 rfl (by decide) v ds.length (ds.flatMap FrD.cells) hown.1 ad 1 c d.cells rfl hnews h1c (by omega) (by omega) hbase;rw [h1] at k1
 injection k1 with e1 e2
 subst e1 e2;exact ⟨v',w',h1,h2,h3,k5⟩
def GrAt (G:Mat) (rt:List Rat) (root:World) (k l:Nat) (vg vr:Value) (w:World):Prop :=
 ∃ (rows:List RwD) (os:List FrD),OwnM w root.heap.size vg rows∧OwnQ w root.heap.size vr os∧(∀ r ∈ rows,FL w r.a r.c r.ds∧∀ a,r.a=some a→vr.ownBlock≠some a.block∧a.block < w.heap.size)∧AllFV w os∧rows.length=k∧os.length=l∧qsM rows=G.take k∧os.map FrD.q=rt.take l∧Below root.heap.size root w
section
variable {G:Mat} {rt:List Rat} {root w w':World} {k l:Nat} {vg vr:Value}
theorem GrAt.start (h:Below root.heap.size root w):GrAt G rt root 0 0 (.slice none 0 0) (.slice none 0 0) w :=
 ⟨[],[],OwnM.nil _ _,OwnQ.nil _ _,fun r hr=>by simp at hr,fun d hd=>by simp at hd,rfl,rfl,rfl,rfl,h⟩
theorem GrAt.below (h:GrAt G rt root k l vg vr w) (hb:Below w.heap.size w w'):GrAt G rt root k l vg vr w':=by
 obtain ⟨rows,os,h1,h2,h3,h4,h5,h6,h7,h8,h9⟩:=h;exact ⟨rows,os,h1.below hb,h2.below hb,fun r hr=>⟨(h3 r hr).1.below hb,fun a e=>⟨((h3 r hr).2 a e).1,Nat.lt_of_lt_of_le ((h3 r hr).2 a e).2 hb.size⟩⟩,h4.below hb,h5,h6,h7,h8,h9.trans (hb.mono h9.size)⟩
theorem GrAt.bel (h:GrAt G rt root k l vg vr w):Below root.heap.size root w:=by
 obtain ⟨rows,os,h1,h2,h3,h4,h5,h6,h7,h8,h9⟩:=h;exact h9
theorem GrAt.own (h:GrAt G rt root k l vg vr w):∀ g,vr.ownBlock=some g→g < w.heap.size:=by
 obtain ⟨rows,os,h1,h2,h3,h4,h5,h6,h7,h8,h9⟩:=h;intro g hg;obtain ⟨cur,k1,k2⟩:=h2.2 g hg;exact Blk.lt k1
theorem OwnQ.ownM {base:Nat} {v u:Value} {ds:List FrD} {rows:List RwD} {b2:Nat} (h:OwnQ w base v ds) (hown:OwnM w b2 u rows) (hg:w.grownBy w' u.ownBlock):OwnQ w' base v ds:=by
 cases hu:u.ownBlock with
 | none=>rw [hu] at hg;exact h.below ⟨hg.os,hg.tape,hg.output,hg.size,fun i hi=>hg.block i hi (by simp)⟩
 | some g =>
  rw [hu] at hg;obtain ⟨cur,k1,k2⟩:=hown.2 g hu;refine h.far (fun g' hg'=>?_) hg;obtain ⟨cur2,k3,k4⟩:=h.2 g' hg';exact Blk.ne_type k3 k1 (by decide)
theorem GrAt.appM (h:GrAt G rt root k l vg vr w) {r:RwD} (hk:k < 1000000000000) (hq:G[k]?=some r.qs) (hr:FL w r.a r.c r.ds) (hra:∀ a,r.a=some a→vr.ownBlock≠some a.block∧a.block < w.heap.size) :
 ∃ v6 w6,(∀ T,Try.prog.underlying T=some (.slice 22)→True)∧(Builtin.append_ #[118,118] 118 #[vg,.slice (some ⟨w.heap.size,0,none⟩) 1 1]).run Try.prog (w.alloc (.cells #[.slice r.a r.ds.length r.c] 22))=.ok v6 w6∧GrAt G rt root (k+1) l v6 vr w6:=by
 obtain ⟨rows,os,h1,h2,h3,h4,h5,h6,h7,h8,h9⟩:=h;have ba:=(Below.refl w.heap.size w).alloc (Nat.le_refl _) (.cells #[.slice r.a r.ds.length r.c] 22);have ho:=h1.below ba;obtain ⟨v6,w6,hrun,g1,g2⟩:=run_appM Try.underlying118 _ root.heap.size vg rows ho ⟨w.heap.size,0,none⟩ 1 r (row_cell w r) (by omega) (Nat.le_trans h9.size ba.size);refine ⟨v6,w6,fun _ _=>trivial,hrun,rows ++ [r],os,g1,(h2.below ba).ownM ho g2,fun x hx=>?_,fun d hd=>((h4 d hd).below ba).own isSl_u32 ho g2,by rw [List.length_append,h5];rfl,h6,?_,h8,?_⟩
 · rcases List.mem_append.1 hx with hx | hx
   · exact ⟨((h3 x hx).1.below ba).ownM ho g2,fun a e=>⟨((h3 x hx).2 a e).1,Nat.lt_of_lt_of_le ((h3 x hx).2 a e).2 (Nat.le_trans ba.size g2.size)⟩⟩
   · simp at hx;subst hx
     exact ⟨(hr.below ba).ownM ho g2,fun a e=>⟨(hra a e).1,Nat.lt_of_lt_of_le (hra a e).2 (Nat.le_trans ba.size g2.size)⟩⟩
 · rw [List.take_add_one,hq,←h7];simp [qsM]
 · exact (h9.trans (ba.mono h9.size)).grown g2 (Nat.le_trans h9.size ba.size) fun g hg=>OwnG.block h1 hg
theorem GrAt.appQ (h:GrAt G rt root k l vg vr w) {d:FrD} (hk:l < 1000000000000) (hq:rt[l]?=some d.q) (hd:FV w d.v d.q) :
 ∃ v6 w6,(Builtin.append_ #[22,22] 22 #[vr,.slice (some ⟨w.heap.size,0,none⟩) 1 1]).run Try.prog (w.alloc (.cells #[.bool d.neg,.slice d.a d.la.length d.ca,.slice d.b d.lb.length d.cb] 28))=.ok v6 w6∧GrAt G rt root k (l+1) vg v6 w6:=by
 obtain ⟨rows,os,h1,h2,h3,h4,h5,h6,h7,h8,h9⟩:=h;have ba:=(Below.refl w.heap.size w).alloc (Nat.le_refl _) (.cells #[.bool d.neg,.slice d.a d.la.length d.ca,.slice d.b d.lb.length d.cb] 28);have hB:=Blk.new w 28 #[.bool d.neg,.slice d.a d.la.length d.ca,.slice d.b d.lb.length d.cb];have ho:=h2.below ba;have hlt:w.heap.size < (w.alloc (.cells #[.bool d.neg,.slice d.a d.la.length d.ca,.slice d.b d.lb.length d.cb] 28)).heap.size:=Blk.lt hB
 obtain ⟨v6,w6,hrun,g1,g2,g3⟩:=run_appQ2 _ root.heap.size vr os ho ⟨w.heap.size,0,none⟩ 1 d (fun j u hj=>by
  match j with
  | 0=>injection hj with hj;subst hj;exact Blk.f0 hB
  | 1=>injection hj with hj;subst hj;exact Blk.f1 hB
  | 2=>injection hj with hj;subst hj;exact Blk.f2 hB
  | j+3=>simp [FrD.cells] at hj) (by omega) (Nat.le_trans h9.size ba.size)
 have key:∀ {A:Option Addr} {c:Nat} {ds:List FrD},FL (w.alloc (.cells #[.bool d.neg,.slice d.a d.la.length d.ca,.slice d.b d.lb.length d.cb] 28)) A c ds→(∀ a,A=some a→vr.ownBlock≠some a.block)→FL w6 A c ds:=fun hf hne=>by
  cases hu:vr.ownBlock with
  | none=>rw [hu] at g2;exact hf.below ⟨g2.os,g2.tape,g2.output,g2.size,fun i hi=>g2.block i hi (by simp)⟩
  | some g =>
   rw [hu] at g2;obtain ⟨cur,k1,k2⟩:=ho.2 g hu;exact hf.far (fun a e he=>hne a e (by rw [hu,he])) k1 k2 g2
 have fvk:∀ {u:Value} {q:Rat},FV w u q→FV w6 u q:=fun hf=>by
  cases hu:vr.ownBlock with
  | none=>rw [hu] at g2;exact (hf.below ba).below ⟨g2.os,g2.tape,g2.output,g2.size,fun i hi=>g2.block i hi (by simp)⟩
  | some g =>
   rw [hu] at g2;obtain ⟨cur,k1,k2⟩:=ho.2 g hu;exact (hf.below ba).only_blk k1 k2 g2
 have hM6:OwnM w6 root.heap.size vg rows:=by
  have hM:=h1.below ba
  cases hu:vr.ownBlock with
  | none=>rw [hu] at g2;exact hM.below ⟨g2.os,g2.tape,g2.output,g2.size,fun i hi=>g2.block i hi (by simp)⟩
  | some g =>
   rw [hu] at g2;obtain ⟨cur,k1,k2⟩:=ho.2 g hu
   rcases hM.1.2 with ⟨rfl,h0⟩ | ⟨g',cap,cur2,rfl,hb,hg,hn,hm,hs,ht⟩
   · have:rows=[]:=List.eq_nil_of_length_eq_zero h0;subst this;exact OwnM.nil _ _
   · have hB2:Blk _ g' 22 cur2:=hg;have hne':g'≠g:=hB2.ne_type k1 (by decide);refine ⟨⟨hM.1.1,.inr ⟨g',cap,cur2,rfl,hb,hB2.only g2 hne',hn,hm,hs,ht⟩⟩,fun g3 h3=>?_⟩;obtain ⟨cur3,k3,k4⟩:=hM.2 g3 h3
     exact ⟨cur3,Blk.only k3 g2 (by
      have:g3=g':=by simp [Value.ownBlock] at h3;exact h3.symm
      rw [this];exact hne'),k4⟩
 refine ⟨v6,w6,hrun,rows,os ++ [d],hM6,g1,fun x hx=>⟨key ((h3 x hx).1.below ba) fun a e=>((h3 x hx).2 a e).1,fun a e=>⟨?_,Nat.lt_of_lt_of_le ((h3 x hx).2 a e).2 (Nat.le_trans ba.size g2.size)⟩⟩,fun x hx=>?_,h5,by rw [List.length_append,h6];rfl,h7,map_snoc h8 hq,?_⟩
 · have h10:=((h3 x hx).2 a e)
   rcases g3 with g3 | g3
   · rw [g3];exact h10.1
   · rw [g3];intro e2;injection e2 with e2;have h11:=h10.2;have h12:=ba.size;omega
 · rcases List.mem_append.1 hx with hx | hx
   · exact fvk (h4 x hx)
   · simp at hx;subst hx;exact fvk hd
 · exact (h9.trans (ba.mono h9.size)).grown g2 (Nat.le_trans h9.size ba.size) fun g hg=>h2.block hg
theorem GrAt.done (h:GrAt G rt root k l vg vr w) (hk:k=G.length) (hl:l=rt.length):∃ A c rows B cb ds,vg=.slice A rows.length c∧ML w A c rows∧Hid (qsM rows=G)∧vr=.slice B ds.length cb∧FL w B cb ds∧Hid (ds.map FrD.q=rt):=by
 obtain ⟨rows,os,h1,h2,h3,h4,h5,h6,h7,h8,h9⟩:=h;obtain ⟨A,c,e,hf⟩:=h1.ml fun r hr=>(h3 r hr).1;obtain ⟨B,cb,e2,hf2⟩:=h2.fl h4;exact ⟨A,c,rows,B,cb,os,e,hf,by show _=_;rw [h7,hk,List.take_length],e2,hf2,by show _=_;rw [h8,hl,List.take_length]⟩
end
end Go.Proofs.Ytjhkapjadfpimaa
