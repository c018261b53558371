/- Contracts of functions, for the law. -/
import Derived.Test.YtjhkapjadfpimaaGreatNApp
namespace Go.Proofs.YtjhkapjadfpimaaGreat
set_option linter.unusedVariables false
set_option linter.unusedSimpArgs false
open Go.RowKit Plain
set_option maxRecDepth 100000
set_option maxHeartbeats 40000000
theorem OwnM.one {w:World}{g:Nat}{r:RwD}(hB:Blk w g 22 #[.slice r.a r.ds.length r.c]){base:Nat}(hb:base≤g):OwnM w base (.slice (some ⟨g,0,none⟩) 1 1) [r] :=
 ⟨⟨rfl,.inr ⟨g,1,_,rfl,hb,hB,a1u _,by decide,rfl,rfl⟩⟩,fun g' hg=>by
  simp[Value.ownBlock] at hg
  subst hg;refine⟨_,hB,fun i x hx=>?_⟩
  match i with
  | 0=>injection hx with hx;exact⟨_,_,_,hx.symm⟩
  | i+1=>simp at hx⟩
theorem MtAt.one {M:C4}{root w:World}{g:Nat}{r:RwD}(hB:Blk w g 22 #[.slice r.a r.ds.length r.c]) (hb:root.heap.size≤g) (hr:FL w r.a r.c r.ds) (hq:M[0]?=some r.qs) (hbel:Below root.heap.size root w):MtAt M root 1 (.slice (some ⟨g,0,none⟩) 1 1) w :=
 ⟨[r],OwnM.one hB hb,fun x hx=>by simp at hx;subst hx;exact hr,rfl,by rw[a3e,hq];rfl,hbel⟩
theorem LsAt.done2 {qs:List Rat}{root:World}{k:Nat}{v:Value}{w:World}(h:LsAt qs root k v w) (hk:k=qs.length):∃ A c ds,v=.slice A ds.length c∧FL w A c ds∧Hid (ds.map FrD.q=qs)∧∀ a,A=some a→root.heap.size≤a.block∧a.block<w.heap.size:=by
 obtain⟨os,h1,h2,h3,h4,h5⟩:=h;obtain⟨A,c,e,hf⟩:=h1.fl h2;refine⟨A,c,os,e,hf,by show _=_;rw[h4,hk,a2z],fun a ea=>?_⟩
 rcases h1.1.2 with ⟨e0,h0⟩ | ⟨g,d,b,e1,hb,hg,hn,hm,hs,ht⟩
 · rw[e0] at e;injection e with e _ _;rw[←e] at ea;cases ea
 · rw[e1] at e;injection e with e _ _;rw[←e] at ea;cases ea;exact⟨hb,Blk.lt (show Blk w g 28 b from hg)⟩
theorem zD (w:World) (base:Nat) (v:Value) (ds:List FrD) (hown:OwnQ w base v ds) (ad:Addr) (c:Nat) (d:FrD) (hnews:∀ j u,d.cells[j]?=some u→w.cell? (ad.add j)=some u)
 (h63:ds.length+1≤1000000000000) (hbase:base≤w.heap.size) :
 ∃ v' w',(Builtin.append_ #[22,22] 22 #[v,.slice (some ad) 1 c]).run Tryz.prog w=.ok v' w'∧OwnQ w' base v' (ds++[d])∧w.grownBy w' v.ownBlock∧(v'.ownBlock=v.ownBlock∨v'.ownBlock=some w.heap.size):=by
 obtain⟨v',w',h1,h2,h3⟩:=T9 w base v ds hown ad c d hnews h63 hbase;obtain⟨i,hi,h,f,b⟩:=info_parts L5;have hm:maxLen=9223372036854775807:=rfl
 have g:∀ u∈d.cells,u.oneCell'=true:=by
  intro u hu
  simp only[FrD.cells,a3i,List.not_mem_nil,or_false] at hu
  rcases hu with rfl | rfl | rfl <;> rfl
 obtain⟨v2,w2,k1,_,_,_,k5⟩:=run_append_own_at (P:=Tryz.prog) (w:=w) base 22 22 28 i (.agg #[.bool false,.slice none 0 0,.slice none 0 0]) 3 56 Tryz.underlying22 hi h f b rfl (by decide) v ds.length (ds.flatMap FrD.cells) hown.1 ad 1 c d.cells rfl hnews g (by omega) (by omega) hbase;rw[h1] at k1
 injection k1 with e1 e2
 subst e1 e2;exact⟨v',w',h1,h2,h3,k5⟩
def GrAt (G:C4) (rt:List Rat) (root:World) (k l:Nat) (vg vr:Value) (w:World):Prop :=
 ∃ (rows:List RwD) (os:List FrD),OwnM w root.heap.size vg rows∧OwnQ w root.heap.size vr os∧(∀ r∈rows,FL w r.a r.c r.ds∧∀ a,r.a=some a→vr.ownBlock≠some a.block∧a.block<w.heap.size)∧AllFV w os∧rows.length=k∧os.length=l∧B9 rows=G.take k∧os.map FrD.q=rt.take l∧Below root.heap.size root w
section
variable {G:C4}{rt:List Rat}{root w w':World}{k l:Nat}{vg vr:Value}
theorem GrAt.start (h:Below root.heap.size root w):GrAt G rt root 0 0 (.slice none 0 0) (.slice none 0 0) w :=
 ⟨[],[],OwnM.nil _ _,OwnQ.nil _ _,fun r hr=>by simp at hr,fun d hd=>by simp at hd,rfl,rfl,rfl,rfl,h⟩
theorem GrAt.below (h:GrAt G rt root k l vg vr w) (hb:Below w.heap.size w w'):GrAt G rt root k l vg vr w':=by
 obtain⟨b,os,h1,h2,h3,h4,h5,h6,h7,h8,h9⟩:=h;exact⟨b,os,h1.below hb,h2.below hb,fun r hr=>⟨(h3 r hr).1.below hb,fun a e=>⟨((h3 r hr).2 a e).1,a1o ((h3 r hr).2 a e).2 hb.size⟩⟩,h4.below hb,h5,h6,h7,h8,(a1j h9 hb)⟩
theorem GrAt.bel (h:GrAt G rt root k l vg vr w):Below root.heap.size root w:=by
 obtain⟨b,os,h1,h2,h3,h4,h5,h6,h7,h8,h9⟩:=h;exact h9
theorem GrAt.own (h:GrAt G rt root k l vg vr w):∀ g,vr.ownBlock=some g→g<w.heap.size:=by
 obtain⟨b,os,h1,h2,h3,h4,h5,h6,h7,h8,h9⟩:=h;intro g hg;obtain⟨c,k1,k2⟩:=h2.2 g hg;exact Blk.lt k1
theorem OwnQ.ownM {base:Nat}{v u:Value}{ds:List FrD}{rows:List RwD}{b2:Nat}(h:OwnQ w base v ds) (hown:OwnM w b2 u rows) (hg:w.grownBy w' u.ownBlock):OwnQ w' base v ds:=by
 cases hu:u.ownBlock with
 | none=>rw[hu] at hg;exact h.below ⟨hg.os,hg.tape,hg.output,hg.size,fun i hi=>hg.block i hi (by simp)⟩
 | some g =>
  rw[hu] at hg;obtain⟨d,k1,k2⟩:=hown.2 g hu;refine h.far (fun g' b=>?_) hg;obtain⟨c,k3,k4⟩:=h.2 g' b;exact a4p k3 k1 (by decide)
theorem GrAt.appM (h:GrAt G rt root k l vg vr w){r:RwD}(hk:k<1000000000000) (hq:G[k]?=some r.qs) (hr:FL w r.a r.c r.ds) (hra:∀ a,r.a=some a→vr.ownBlock≠some a.block∧a.block<w.heap.size) :
 ∃ v6 w6,(∀ T,Tryz.prog.underlying T=some (.slice 22)→True)∧(Builtin.append_ #[129,129] 129 #[vg,.slice (some ⟨w.heap.size,0,none⟩) 1 1]).run Tryz.prog (w.alloc (.cells #[.slice r.a r.ds.length r.c] 22))=.ok v6 w6∧GrAt G rt root (k+1) l v6 vr w6:=by
 obtain⟨b,os,h1,h2,h3,h4,h5,h6,h7,h8,h9⟩:=h;have ba:=(a3t w.heap.size w).alloc (a1u _) (.cells #[.slice r.a r.ds.length r.c] 22);have ho:=h1.below ba;obtain⟨v6,w6,f,g1,g2⟩:=fK Tryz.underlying129 _ root.heap.size vg b ho ⟨w.heap.size,0,none⟩ 1 r (M6 w r) (by omega) (a1t h9.size ba.size);refine⟨v6,w6,fun _ _=>trivial,f,b++[r],os,g1,(h2.below ba).ownM ho g2,fun x hx=>?_,fun d hd=>((h4 d hd).below ba).own lY ho g2,by rw[a1x,h5];rfl,h6,?_,h8,?_⟩
 · rcases a3b.1 hx with hx | hx
   · exact⟨((h3 x hx).1.below ba).ownM ho g2,fun a e=>⟨((h3 x hx).2 a e).1,a1o ((h3 x hx).2 a e).2 (a1t ba.size g2.size)⟩⟩
   · simp at hx;subst hx
     exact⟨(hr.below ba).ownM ho g2,fun a e=>⟨(hra a e).1,a1o (hra a e).2 (a1t ba.size g2.size)⟩⟩
 · rw[a3e,hq,←h7];simp[B9]
 · exact ((a1j h9 ba)).grown g2 (a1t h9.size ba.size) fun g hg=>a4o h1 hg
theorem GrAt.appQ (h:GrAt G rt root k l vg vr w){d:FrD}(hk:l<1000000000000) (hq:rt[l]?=some d.q) (hd:FV w d.v d.q) :
 ∃ v6 w6,(Builtin.append_ #[22,22] 22 #[vr,.slice (some ⟨w.heap.size,0,none⟩) 1 1]).run Tryz.prog (w.alloc (.cells #[.bool d.neg,.slice d.a d.la.length d.ca,.slice d.b d.lb.length d.cb] 28))=.ok v6 w6∧GrAt G rt root k (l+1) vg v6 w6:=by
 obtain⟨f,os,h1,h2,h3,h4,h5,h6,h7,h8,h9⟩:=h;have ba:=(a3t w.heap.size w).alloc (a1u _) (.cells #[.bool d.neg,.slice d.a d.la.length d.ca,.slice d.b d.lb.length d.cb] 28);have hB:=a4h w 28 #[.bool d.neg,.slice d.a d.la.length d.ca,.slice d.b d.lb.length d.cb];have ho:=h2.below ba;have F:w.heap.size<(w.alloc (.cells #[.bool d.neg,.slice d.a d.la.length d.ca,.slice d.b d.lb.length d.cb] 28)).heap.size:=Blk.lt hB
 obtain⟨v6,w6,y,g1,g2,g3⟩:=zD _ root.heap.size vr os ho ⟨w.heap.size,0,none⟩ 1 d (fun j u hj=>by
  match j with
  | 0=>injection hj with hj;subst hj;exact Blk.f0 hB
  | 1=>injection hj with hj;subst hj;exact Blk.f1 hB
  | 2=>injection hj with hj;subst hj;exact Blk.f2 hB
  | j+3=>simp[FrD.cells] at hj) (by omega) (a1t h9.size ba.size)
 have C:∀ {A:Option Addr} {c:Nat} {ds:List FrD},FL (w.alloc (.cells #[.bool d.neg,.slice d.a d.la.length d.ca,.slice d.b d.lb.length d.cb] 28)) A c ds→(∀ a,A=some a→vr.ownBlock≠some a.block)→FL w6 A c ds:=fun hf z=>by
  cases hu:vr.ownBlock with
  | none=>rw[hu] at g2;exact hf.below ⟨g2.os,g2.tape,g2.output,g2.size,fun i hi=>g2.block i hi (by simp)⟩
  | some g =>
   rw[hu] at g2;obtain⟨o,k1,k2⟩:=ho.2 g hu;exact hf.far (fun a e he=>z a e (by rw[hu,he])) k1 k2 g2
 have r:∀ {u:Value} {q:Rat},FV w u q→FV w6 u q:=fun hf=>by
  cases hu:vr.ownBlock with
  | none=>rw[hu] at g2;exact (hf.below ba).below ⟨g2.os,g2.tape,g2.output,g2.size,fun i hi=>g2.block i hi (by simp)⟩
  | some g =>
   rw[hu] at g2;obtain⟨o,k1,k2⟩:=ho.2 g hu;exact (hf.below ba).only_blk k1 k2 g2
 have D:OwnM w6 root.heap.size vg f:=by
  have hM:=h1.below ba
  cases hu:vr.ownBlock with
  | none=>rw[hu] at g2;exact hM.below ⟨g2.os,g2.tape,g2.output,g2.size,fun i hi=>g2.block i hi (by simp)⟩
  | some g =>
   rw[hu] at g2;obtain⟨o,k1,k2⟩:=ho.2 g hu
   rcases hM.1.2 with ⟨rfl,h0⟩ | ⟨g',B,n,rfl,hb,hg,hn,hm,hs,ht⟩
   · have:f=[]:=a2a h0;subst this;exact OwnM.nil _ _
   · have p:Blk _ g' 22 n:=hg;have m:g'≠g:=p.ne_type k1 (by decide);refine⟨⟨hM.1.1,.inr ⟨g',B,n,rfl,hb,p.only g2 m,hn,hm,hs,ht⟩⟩,fun g3 h3=>?_⟩;obtain⟨s,k3,k4⟩:=hM.2 g3 h3
     exact⟨s,Blk.only k3 g2 (by
      have:g3=g':=by simp[Value.ownBlock] at h3;exact h3.symm
      rw[this];exact m),k4⟩
 refine⟨v6,w6,y,f,os++[d],D,g1,fun x hx=>⟨C ((h3 x hx).1.below ba) fun a e=>((h3 x hx).2 a e).1,fun a e=>⟨?_,a1o ((h3 x hx).2 a e).2 (a1t ba.size g2.size)⟩⟩,fun x hx=>?_,h5,by rw[a1x,h6];rfl,h7,X9 h8 hq,?_⟩
 · have t:=((h3 x hx).2 a e)
   rcases g3 with g3 | g3
   · rw[g3];exact t.1
   · rw[g3];intro e2;injection e2 with e2;have E:=t.2;have H:=ba.size;omega
 · rcases a3b.1 hx with hx | hx
   · exact r (h4 x hx)
   · simp at hx;subst hx;exact r hd
 · exact ((a1j h9 ba)).grown g2 (a1t h9.size ba.size) fun g hg=>h2.block hg
theorem GrAt.done (h:GrAt G rt root k l vg vr w) (hk:k=G.length) (hl:l=rt.length):∃ A c rows B cb ds,vg=.slice A rows.length c∧ML w A c rows∧Hid (B9 rows=G)∧vr=.slice B ds.length cb∧FL w B cb ds∧Hid (ds.map FrD.q=rt):=by
 obtain⟨rows,os,h1,h2,h3,h4,h5,h6,h7,h8,h9⟩:=h;obtain⟨A,c,e,hf⟩:=h1.ml fun r hr=>(h3 r hr).1;obtain⟨B,cb,e2,b⟩:=h2.fl h4;exact⟨A,c,rows,B,cb,os,e,hf,by show _=_;rw[h7,hk,a2z],e2,b,by show _=_;rw[h8,hl,a2z]⟩
end
theorem a1g (g o i:Nat):(⟨g,o,none⟩:Addr).add i=⟨g,o+i,none⟩:=by
 unfold Addr.add
 split
 · rename_i h;subst h;rfl
 · rfl
theorem OwnG.rebase {E:TypeId}{C:Nat}{P:Value→Prop}{w:World}{b b' n:Nat}{v:Value}{xs:List Value}(h:OwnG E C P w b v n xs) (hb:b'≤b):OwnG E C P w b' v n xs:=by
 refine⟨⟨h.1.1,?_⟩,h.2⟩
 rcases h.1.2 with h0 | ⟨g,cap,cur,e,hbg,h2⟩
 · exact .inl h0
 · exact .inr ⟨g,cap,cur,e,a1t hb hbg,h2⟩
theorem OwnQ.rebase {w:World}{b b':Nat}{v:Value}{ds:List FrD}(h:OwnQ w b v ds) (hb:b'≤b):OwnQ w b' v ds:=OwnQ.ofG (OwnG.rebase h.toG hb)
theorem OwnI.rebase {w:World}{b b':Nat}{v:Value}{is:List Nat}(h:OwnI w b v is) (hb:b'≤b):OwnI w b' v is:=OwnG.rebase h hb
theorem OwnI.empty (w:World){base:Nat}(hb:base≤w.heap.size):OwnI (w.alloc (.cells #[] 3)) base (.slice (some ⟨w.heap.size,0,none⟩) 0 0) []:=by
 have hB:=a4h w 3 #[]
 exact⟨⟨rfl,.inr ⟨w.heap.size,0,#[],rfl,hb,hB,a1u _,by decide,rfl,rfl⟩⟩,fun g hg=>by
  simp[Value.ownBlock] at hg
  subst hg;exact⟨_,hB,fun i x hx=>by simp at hx⟩⟩
theorem gW {T:TypeId}(hT:Tryz.prog.underlying T=some (.slice 3)) (w:World) (base:Nat) (v:Value) (is:List Nat) (hown:OwnI w base v is) (ad:Addr) (c:Nat) (js:List Nat) (hnews:∀ j u,(J7 js)[j]?=some u→w.cell? (ad.add j)=some u) (h63:is.length+js.length≤1000000000000) (hbase:base≤w.heap.size) :
 ∃ v' w',(Builtin.append_ #[T,T] T #[v,.slice (some ad) js.length c]).run Tryz.prog w=.ok v' w'∧OwnI w' base v' (is++js)∧w.grownBy w' v.ownBlock:=by
 obtain⟨v',w',h1,h2,h3⟩:=gX w base v is.length _ hT qH rfl (by decide) (fun i u hi=>by
  match i with
  | 0=>injection hi with hi;exact⟨_,hi.symm⟩
  | i+1=>simp[Value.cells] at hi) (by decide) hown ad js.length c (J7 js) (by simp[J7]) hnews (fun u hu=>by obtain⟨x,hx⟩:=cX js u hu;subst hx;rfl) (cX js) h63 hbase (cX is)
 refine⟨v',w',h1,?_,h3⟩;unfold OwnI J7;rw[a1x,a2r]
 simpa [J7] using h2
theorem a0k {ds:List FrD}{k j:Nat}{u:Value}(h:((ds.drop k).flatMap FrD.cells)[j]?=some u) (hk:k≤ds.length):(ds.flatMap FrD.cells)[k*3+j]?=some u:=by
 have e:ds.flatMap FrD.cells=(ds.take k).flatMap FrD.cells++(ds.drop k).flatMap FrD.cells:=by rw[←List.flatMap_append,List.take_append_drop]
 have hl:((ds.take k).flatMap FrD.cells).length=k*3:=by rw[F0,a2c,Nat.min_eq_left hk]
 rw[e,a2b (by omega),hl,Nat.add_sub_cancel_left];exact h
theorem run_cutQ {w:World}{g n c j:Nat}{ds:List FrD}(h:XO w g c ds) (hj:j<ds.length) (hv:AllFV w ds) (hd:ds.length≤1000) (ad:Addr) (had:(ad=⟨g,(j+1)*3,none⟩)∨ds.length=j+1∧ad.block=g) (c1 c2:Nat) :
 ∃ v1 w1 v2 w2,(Builtin.append_ #[22,22] 22 #[.slice (some ⟨w.heap.size,0,none⟩) 0 0,.slice (some ⟨g,0,none⟩) j c1]).run Tryz.prog (w.alloc (.cells #[] 28))=.ok v1 w1∧Below w.heap.size w w1 ∧
  (Builtin.append_ #[22,22] 22 #[v1,.slice (some ad) (ds.length-(j+1)) c2]).run Tryz.prog w1=.ok v2 w2∧OwnQ w2 w.heap.size v2 (ds.take j++ds.drop (j+1))∧Below w.heap.size w w2:=by
 have ba:=(a3t w.heap.size w).alloc (a1u _) (.cells #[] 28);obtain⟨l,hB,hn,h3,h4,h5,h6⟩:=h
 have b:∀ i u,(ds.flatMap FrD.cells)[i]?=some u→w.cell? ⟨g,i,none⟩=some u:=fun i u hi=>by
  rw[←h5,a2w] at hi
  split at hi
  · rw[a4e hB,←Array.getElem?_toList];exact hi
  · cases hi
 have d:=Blk.lt hB;have f:(ds.take j).length=j:=by rw[a2c];omega
 obtain⟨v1,w1,r1,o1,g1⟩:=X3 _ w.heap.size _ [] (OwnQ.empty w (a1u _)) ⟨g,0,none⟩ c1 (ds.take j) (fun i u hi=>by
  rw[a4a (w:=w) (by rw[f7];exact ba.block _ d)];rw[a1g,Nat.zero_add];exact b i u (a0j hi)) (by simp;omega) ba.size
 rw[f] at r1;have b1:Below w.heap.size w w1:=ba.grown g1 ba.size fun k hk=>by simp[Value.ownBlock] at hk;omega
 obtain⟨v2,w2,r2,o2,g2⟩:=X3 w1 w.heap.size v1 _ o1 ad c2 (ds.drop (j+1)) (fun i u hi=>by
  rcases had with rfl | ⟨e1,e2⟩
  · rw[a4a (w:=w) (by rw[f7];exact b1.block _ d)];rw[a1g];exact b _ u (a0k hi (by omega))
  · rw[List.drop_of_length_le (by omega)] at hi;simp at hi) (by simp;omega) b1.size
 rw[a2d] at r2;exact⟨v1,w1,v2,w2,r1,b1,r2,by simpa using o2,b1.grown g2 b1.size fun k hk=>o1.block hk⟩
theorem run_cutI {w:World}{R g n c j:Nat}{is:List Nat}(h:OwnI w R (.slice (some ⟨g,0,none⟩) n c) is) (hj:j<is.length) (hd:is.length≤1000) (ad:Addr) (had:(ad=⟨g,j+1,none⟩)∨is.length=j+1∧ad.block=g) (c1 c2:Nat) :
 ∃ v1 w1 v2 w2,(Builtin.append_ #[72,72] 72 #[.slice (some ⟨w.heap.size,0,none⟩) 0 0,.slice (some ⟨g,0,none⟩) j c1]).run Tryz.prog (w.alloc (.cells #[] 3))=.ok v1 w1∧Below w.heap.size w w1 ∧
  (Builtin.append_ #[72,72] 72 #[v1,.slice (some ad) (is.length-(j+1)) c2]).run Tryz.prog w1=.ok v2 w2∧OwnI w2 w.heap.size v2 (is.take j++is.drop (j+1))∧Below w.heap.size w w2:=by
 have ba:=(a3t w.heap.size w).alloc (a1u _) (.cells #[] 3);obtain⟨A,cc,e,h1,h2,hI⟩:=h.il
 cases e
 have b:∀ i u,(J7 is)[i]?=some u→g<w.heap.size∧w.cell? ⟨g,i,none⟩=some u:=fun i u hi=>by
  unfold J7 at hi;rw[a1r] at hi
  cases hx:is[i]? with
  | none=>rw[hx] at hi;cases hi
  | some x =>
   rw[hx] at hi
   injection hi with hi
   obtain⟨a,ea,hb,hc⟩:=hI i x hx
   cases ea
   rw[←hi];rw[a1g,Nat.zero_add] at hc;exact⟨hb,hc⟩
 have d:g<w.heap.size:=(b 0 _ (by unfold J7;rw[a1r,a1m (by omega)];rfl)).1;have f:(is.take j).length=j:=by rw[a2c];omega
 obtain⟨v1,w1,r1,o1,g1⟩:=gW Tryz.underlying72 _ w.heap.size _ [] (OwnI.empty w (a1u _)) ⟨g,0,none⟩ c1 (is.take j) (fun i u hi=>by
  rw[a4a (w:=w) (by rw[f7];exact ba.block _ d)];rw[a1g,Nat.zero_add]
  exact (b i u (by
   unfold J7 at hi ⊢
   rw[a2f,a2w] at hi
   split at hi
   · exact hi
   · cases hi)).2) (by simp;omega) ba.size
 rw[f] at r1;have b1:Below w.heap.size w w1:=ba.grown g1 ba.size fun k hk=>by simp[Value.ownBlock] at hk;omega
 obtain⟨v2,w2,r2,o2,g2⟩:=gW Tryz.underlying72 w1 w.heap.size v1 _ o1 ad c2 (is.drop (j+1)) (fun i u hi=>by
  rcases had with rfl | ⟨e1,e2⟩
  · rw[a4a (w:=w) (by rw[f7];exact b1.block _ d)];rw[a1g]
    exact (b (j+1+i) u (by
     unfold J7 at hi ⊢
     rw[a2g,a2x] at hi;exact hi)).2
  · rw[List.drop_of_length_le (by omega)] at hi;simp[J7] at hi) (by simp;omega) b1.size
 rw[a2d] at r2;exact⟨v1,w1,v2,w2,r1,b1,r2,by simpa using o2,b1.grown g2 b1.size fun k hk=>o1.block hk⟩
section
variable {S:Sv}{s:Sm}{ent:Value}{w:World}
theorem SolM.keepS (h:SolM S s ent w) (he:∀ x,ent≠.int .u32 x){w9:World}(o9:Only w w9 S.gs):OwnI w9 S.R s.va s.ia∧OwnQ w9 S.R s.vm s.dm∧AllFV w9 s.dm :=
 ⟨h.act.far (fun g' hg'=>by have:=h.act.block hg';have:=h.b.hs;omega) o9,h.mul.far (fun g' hg'=>by have:=h.mul.block hg';have:=h.b.hs;omega) o9,fun x hx=>(h.mf x hx).only_blk h.b.blk (SolB.noDig h.vaU h.vmU he) o9⟩
theorem SolM.setEnt (h:SolM S s ent w) (he:∀ x,ent≠.int .u32 x) (u:Value) :
 ∃ w9,w.frozen? ⟨S.gs,12,none⟩=false∧w.setCell ⟨S.gs,12,none⟩ u=w9∧SolM S s u w9∧Only w w9 S.gs:=by
 obtain⟨w9,f,e9,h9,o9⟩:=h.b.setEnt h.vaU h.vmU he u;obtain⟨k1,k2,k3⟩:=h.keepS he o9;exact⟨w9,f,e9,⟨h9,k1,k2,k3⟩,o9⟩
theorem SolM.newAct (h:SolM S s ent w) (he:∀ x,ent≠.int .u32 x){v:Value}{is:List Nat}(hv:OwnI w S.R v is) :
 ∃ w9,w.frozen? ⟨S.gs,10,none⟩=false∧w.setCell ⟨S.gs,10,none⟩ v=w9∧SolM S { s with va:=v,ia:=is } ent w9∧Only w w9 S.gs:=by
 obtain⟨w9,f,e9,h9,o9⟩:=h.b.setAct h.vaU h.vmU he v;obtain⟨k1,k2,k3⟩:=h.keepS he o9;exact⟨w9,f,e9,⟨h9,hv.far (fun g' c=>by have:=hv.block c;have:=h.b.hs;omega) o9,k2,k3⟩,o9⟩
theorem SolM.newMul (h:SolM S s ent w) (he:∀ x,ent≠.int .u32 x){v:Value}{ds:List FrD}(hv:OwnQ w S.R v ds) (hf:AllFV w ds) :
 ∃ w9,w.frozen? ⟨S.gs,11,none⟩=false∧w.setCell ⟨S.gs,11,none⟩ v=w9∧SolM S { s with vm:=v,dm:=ds } ent w9∧Only w w9 S.gs:=by
 obtain⟨w9,f,e9,h9,o9⟩:=h.b.setMul h.vaU h.vmU he v;obtain⟨k1,k2,k3⟩:=h.keepS he o9;exact⟨w9,f,e9,⟨h9,k1,hv.far (fun g' c=>by have:=hv.block c;have:=h.b.hs;omega) o9,fun x hx=>(hf x hx).only_blk h.b.blk (SolB.noDig h.vaU h.vmU he) o9⟩,o9⟩
theorem ndI {w:World}{R:Nat}{v:Value}{is:List Nat}(h:OwnI w R v is):∀ g,v.ownBlock=some g→∃ cur,Blk w g 3 cur∧NoDig cur:=fun g hg=>by
 obtain⟨cur,k1,k2⟩:=h.2 g hg
 exact⟨cur,k1,fun i x hi=>by
  obtain⟨y,hy⟩:=k2 i _ hi
  injection hy with hy1 _
  cases hy1⟩
theorem oI {w w':World}{v:Value}(hg:w.grownBy w' v.ownBlock) (nd:∀ g,v.ownBlock=some g→∃ t cur,Blk w g t cur∧NoDig cur):Trn (fun g=>v.ownBlock=some g) w w' :=
 ⟨hg.os,hg.tape,hg.output,hg.size,fun k hk hn=>hg.block k hk fun e=>hn e.symm,nd⟩
theorem SolB.trn {S:Sv}{dx:List FrD}{lv:FrD}{va vm ent:Value}{w w':World}{P:Nat→Prop}(h:SolB S dx lv va vm ent w) (ht:Trn P w w') (hP:∀ g,P g→S.R≤g):SolB S dx lv va vm ent w':=by
 obtain⟨b,k1,k2⟩:=h.xo;refine⟨h.blk.trn ht fun hp=>?_,h.sum.trn ht,h.lev.trn ht,⟨b,k1.trn ht fun hp=>?_,k2⟩,fun d hd=>(h.xf d hd).trn ht,⟨h.all.row.trn ht fun a e hp=>?_,fun d hd=>(h.all.fl d hd).trn ht fun a e hp=>?_,fun d hd=>(h.all.fv d hd).trn ht,h.all.away,h.all.awayr⟩,h.hs,h.hx,a1t h.hR ht.size,h.ne⟩
 · have:=hP _ hp;have:=h.hs;omega
 · have:=hP _ hp;have:=h.hx;omega
 · exact h.all.away a e (.inr (.inr (hP _ hp)))
 · exact h.all.awayr d hd a e (.inr (.inr (hP _ hp)))
theorem SolM.pushA (h:SolM S s ent w) (he:∀ x,ent≠.int .u32 x) (k:Nat) (hl:s.ia.length≤1000) :
 ∃ v6 w6 w9,(Builtin.append_ #[72,72] 72 #[s.va,.slice (some ⟨w.heap.size,0,none⟩) 1 1]).run Tryz.prog (w.alloc (.cells #[.int .i64 (k:Int)] 3))=.ok v6 w6∧SolB S s.dx s.lv s.va s.vm ent w6∧w6.frozen? ⟨S.gs,10,none⟩=false∧w6.setCell ⟨S.gs,10,none⟩ v6=w9 ∧
  SolM S { s with va:=v6,ia:=s.ia++[k] } ent w9∧Trn (fun g=>s.va.ownBlock=some g) w w6∧Only w6 w9 S.gs:=by
 have ba:=(a3t w.heap.size w).alloc (a1u _) (.cells #[.int .i64 (k:Int)] 3);have hA:=h.below ba;have hB:=a4h w 3 #[.int .i64 (k:Int)];obtain⟨v6,w6,hr,o6,g6⟩:=fM Tryz.underlying72 _ S.R s.va s.ia hA.act ⟨w.heap.size,0,none⟩ 1 k (a4e hB 0) (by omega) hA.b.hR;have l:=oI g6 fun g hg=>by obtain⟨d,k1,k2⟩:=ndI hA.act g hg;exact⟨_,d,k1,k2⟩
 have n:Trn (fun g=>s.va.ownBlock=some g) w w6:=(Trn.of_below ba fun g hg=>by obtain⟨d,k1,k2⟩:=ndI h.act g hg;exact⟨_,d,k1,k2⟩).trans l fun g _ hg=>hg;have j:=hA.b.trn l fun g hg=>hA.act.block hg
 have m:OwnQ w6 S.R s.vm s.dm:=by
  cases hu:s.va.ownBlock with
  | none=>rw[hu] at g6;exact hA.mul.below ⟨g6.os,g6.tape,g6.output,g6.size,fun i hi=>g6.block i hi (by simp)⟩
  | some g =>
   rw[hu] at g6;obtain⟨d,k1,k2⟩:=hA.act.2 g hu
   exact hA.mul.far (fun g' c=>by
    obtain⟨c2,k3,k4⟩:=hA.mul.2 g' c;exact a4p k3 k1 (by decide)) g6
 obtain⟨w9,f,e9,h9,o9⟩:=j.setAct h.vaU h.vmU he v6;refine⟨v6,w6,w9,hr,j,f,e9,⟨h9,o6.far (fun g' c=>by have:=o6.block c;have:=h.b.hs;omega) o9,m.far (fun g' c=>by have:=m.block c;have:=h.b.hs;omega) o9,fun x hx=>((hA.mf x hx).trn l).only_blk j.blk (SolB.noDig h.vaU h.vmU he) o9⟩,n,o9⟩
theorem SolM.pushM (h:SolM S s ent w) (he:∀ x,ent≠.int .u32 x){d:FrD}(hd:FV w d.v d.q) (hl:s.dm.length≤1000) :
 ∃ v6 w6 w9,(Builtin.append_ #[22,22] 22 #[s.vm,.slice (some ⟨w.heap.size,0,none⟩) 1 1]).run Tryz.prog (w.alloc (.cells #[.bool d.neg,.slice d.a d.la.length d.ca,.slice d.b d.lb.length d.cb] 28))=.ok v6 w6∧SolB S s.dx s.lv s.va s.vm ent w6∧w6.frozen? ⟨S.gs,11,none⟩=false∧w6.setCell ⟨S.gs,11,none⟩ v6=w9 ∧
  SolM S { s with vm:=v6,dm:=s.dm++[d] } ent w9∧Trn (fun g=>s.vm.ownBlock=some g) w w6∧Only w6 w9 S.gs:=by
 have ba:=(a3t w.heap.size w).alloc (a1u _) (.cells #[.bool d.neg,.slice d.a d.la.length d.ca,.slice d.b d.lb.length d.cb] 28);have hA:=h.below ba;have hB:=a4h w 28 #[.bool d.neg,.slice d.a d.la.length d.ca,.slice d.b d.lb.length d.cb]
 obtain⟨v6,w6,hr,o6,g6⟩:=T9 _ S.R s.vm s.dm hA.mul ⟨w.heap.size,0,none⟩ 1 d (fun j u hj=>by
  match j with
  | 0=>injection hj with hj;subst hj;exact Blk.f0 hB
  | 1=>injection hj with hj;subst hj;exact Blk.f1 hB
  | 2=>injection hj with hj;subst hj;exact Blk.f2 hB
  | j+3=>simp[FrD.cells] at hj) (by omega) hA.b.hR
 have m:=oI g6 fun g hg=>by obtain⟨l,k1,k2⟩:=hA.mul.2 g hg;exact⟨_,l,k1,k2⟩
 have o:Trn (fun g=>s.vm.ownBlock=some g) w w6:=(Trn.of_below ba fun g hg=>by obtain⟨l,k1,k2⟩:=h.mul.2 g hg;exact⟨_,l,k1,k2⟩).trans m fun g _ hg=>hg;have k:=hA.b.trn m fun g hg=>hA.mul.block hg
 have n:OwnI w6 S.R s.va s.ia:=by
  cases hu:s.vm.ownBlock with
  | none=>rw[hu] at g6;exact hA.act.below ⟨g6.os,g6.tape,g6.output,g6.size,fun i hi=>g6.block i hi (by simp)⟩
  | some g =>
   rw[hu] at g6;obtain⟨l,k1,k2⟩:=hA.mul.2 g hu
   exact hA.act.far (fun g' c=>by
    obtain⟨c2,k3,k4⟩:=hA.act.2 g' c;exact a4p k3 k1 (by decide)) g6
 obtain⟨w9,f,e9,h9,o9⟩:=k.setMul h.vaU h.vmU he v6;refine⟨v6,w6,w9,hr,k,f,e9,⟨h9,n.far (fun g' c=>by have:=n.block c;have:=h.b.hs;omega) o9,o6.far (fun g' c=>by have:=o6.block c;have:=h.b.hs;omega) o9,fun x hx=>?_⟩,o,o9⟩
 rcases a3b.1 hx with hx | hx
 · exact ((hA.mf x hx).trn m).only_blk k.blk (SolB.noDig h.vaU h.vmU he) o9
 · simp at hx;subst hx
   exact ((hd.below ba).trn m).only_blk k.blk (SolB.noDig h.vaU h.vmU he) o9
end
end Go.Proofs.YtjhkapjadfpimaaGreat
