/- Contracts of functions, for the law. -/
import Derived.Test.YtjhkapjadfpimaaGreatGValid
import Derived.ChangeSlices
import Derived.Deep.Slices
import Derived.Deep.Strs
import Derived.ProofKit
import Derived.OpenShut
import Derived.Maps.AppendAt
namespace Go.Proofs.YtjhkapjadfpimaaGreat
set_option linter.unusedVariables false
set_option linter.unusedSimpArgs false
open Go.RowKit Plain Go.ChangeShapes Go.WideShapes
structure InRow (w:World) (A:Option Addr) (c:Nat) (l:List Nat):Prop where
 len:l.length≤c
 big:l.length≤9223372036854775807
 rd:Rd w A l
 dig:Dig l
theorem InRow.nv {w:World}{A:Option Addr}{c:Nat}{l:List Nat}(h:InRow w A c l) (hl:l.length≤70368744177664):Nv w A c l:=⟨h.len,hl,h.rd,h.dig⟩
theorem yD {w:World}{a:Addr}{v:Value}(h:w.cell? a=some v):a.block<w.heap.size:=by
 rcases a3h a.block w.heap.size with hlt | hge
 · exact hlt
 · simp[World.cell?,Array.getElem?_eq_none hge] at h
theorem inRow_of {w:World}{a:Option Addr}{len cap:Nat}{zs:List Int}
 (h:(a=none∧len=0∧cap=0∧zs=[]) ∨
  ∃ x,a=some x∧len≤cap∧cap≤maxLen∧zs.length=cap∧(∀ i,i<zs.length→w.cell? (x.add i)=some (.int .u32 (zs.getD i 0)))∧∀ n∈zs,(Lit.int .u32 n).wf=true) :
 ∃ l,Hid (l=(zs.take len).map Int.toNat)∧l.length=len∧InRow w a cap l:=by
 rcases h with ⟨rfl,rfl,rfl,rfl⟩ | ⟨x,rfl,h1,h2,h3,h4,h5⟩
 · exact⟨[],rfl,rfl,by simp,by simp,fun hx=>by simp[F1] at hx,Dig.nil⟩
 · have b:((zs.take len).map Int.toNat).length=len:=by rw[a1s,a2c];omega
   have hm:maxLen=9223372036854775807:=rfl
   have hb:∀ n∈zs,0≤n∧n<4294967296:=fun n hn=>by
    have:=h5 n hn
    simp[Lit.wf,IntKind.min,IntKind.max,IntKind.bits,IntKind.signed] at this
    omega
   refine⟨_,rfl,b,by rw[b];exact h1,by rw[b];omega,fun hx=>⟨x,rfl,?_,fun j hj=>?_⟩,?_⟩
   · rw[C7,b] at hx;have:=h4 0 (by omega);exact yD (by simpa [Addr.add] using this)
   · rw[C7,b] at hj;rw[h4 j (by omega)];have hz:=hb (zs.getD j 0) (by rw[a1l,a1m (by omega)];exact a1z _)
     simp[F1,a1m (show j<zs.length by omega)] at hz ⊢
     omega
   · intro d hd;rw[a2v] at hd;obtain⟨n,hn,rfl⟩:=hd;have:=hb n (a2k hn);omega
section
variable {H:Type}{enc:TypeId × Value→H}{w:World}{fuel:Nat}{cs:List Value}{x:DataW H × List MemPlace}
theorem rF (h:DataW.trod enc Tryz.prog w 0 (fun _=>true) true fuel 26 cs=some x):∃ A c l,cs=[.slice A l.length c]∧InRow w A c l:=by
 rcases Go.ChangeShapes.open_ints Tryz.underlying26 Tryz.underlying69 (by kernel_rfl) h with ⟨rfl,_⟩ | ⟨a,l,c,zs,rfl,_,hl,hm,hz,_,b,d⟩
 · exact⟨none,0,[],rfl,by simp,by simp,fun hx=>by simp[F1] at hx,Dig.nil⟩
 · obtain⟨la,ha,rfl,ra⟩:=inRow_of (w:=w) (a:=some a) (len:=l) (cap:=c) (zs:=zs) (.inr ⟨a,rfl,hl,hm,by simpa using hz,b,d⟩);exact⟨some a,c,la,rfl,ra⟩
theorem iS:Tryz.prog.cellsOf 28=3:=by kernel_rfl
theorem a1b:Tryz.prog.cellsOf 4=1:=by kernel_rfl
theorem cellsNat:Tryz.prog.cellsOf 26=1:=by kernel_rfl
theorem list3 {α:Type}{l:List α}(h:l.length=3):∃ a b c,l=[a,b,c]:=by
 match l,h with
 | [a,b,c],_=>exact⟨a,b,c,rfl⟩
structure FrD where
 neg:Bool
 a:Option Addr
 ca:Nat
 la:List Nat
 b:Option Addr
 cb:Nat
 lb:List Nat
def FrD.cells (f:FrD):List Value:=[.bool f.neg,.slice f.a f.la.length f.ca,.slice f.b f.lb.length f.cb]
def FrD.ok (w:World) (f:FrD):Prop:=InRow w f.a f.ca f.la∧InRow w f.b f.cb f.lb
theorem nC (h:DataW.trod enc Tryz.prog w 0 (fun _=>true) true fuel 28 cs=some x):∃ f:FrD,cs=f.cells∧f.ok w:=by
 obtain⟨y0,y1,y2,n,rfl,hl,h0,h1,h2⟩:=Go.Deep.trod_struct3 Tryz.underlying28 h;rw[iS] at hl;obtain⟨c0,c1,c2,rfl⟩:=list3 hl
 simp only[a1b,cellsNat] at h0 h1 h2
 obtain⟨b,hb,_⟩:=DataW.trod_bool Tryz.underlying4 h0;obtain⟨A,ca,la,hA,iA⟩:=rF h1;obtain⟨B,cb,lb,hB,iB⟩:=rF h2
 simp at hb hA hB
 subst hb hA hB;exact⟨⟨b,A,ca,la,B,cb,lb⟩,rfl,iA,iB⟩
def Srow {δ:Type}(w:World) (C:Nat) (cells:δ→List Value) (A:Option Addr) (c:Nat) (ds:List δ):Prop :=
 ds.length≤c∧c≤9223372036854775807∧∀ (j:Nat) (hj:j<ds.length),∃ a,A=some a∧a.block<w.heap.size∧∀ i u,(cells ds[j])[i]?=some u→w.cell? (a.add (j*C+i))=some u
theorem Srow.below {δ:Type}{w w':World}{C:Nat}{cells:δ→List Value}{A:Option Addr}{c:Nat}{ds:List δ}(h:Srow w C cells A c ds) (hb:Below w.heap.size w w'):Srow w' C cells A c ds :=
 ⟨h.1,h.2.1,fun j hj=>by
  obtain⟨a,e,h1,h2⟩:=h.2.2 j hj;exact⟨a,e,a1o h1 hb.size,fun i u hu=>(hb.cell (by rw[f7];exact h1)).trans (h2 i u hu)⟩⟩
theorem gR {δ:Type}{t e:TypeId}{C:Nat}{cells:δ→List Value}{P:δ→Prop}(ht:Tryz.prog.underlying t=some (.slice e)) (hC:Tryz.prog.cellsOf e=C) (hpos:∀ d,0<(cells d).length)
 (hel:∀ n cs x,DataW.trod enc Tryz.prog w 0 (fun _=>true) true n e cs=some x→∃ d,cs=cells d∧P d) (h:DataW.trod enc Tryz.prog w 0 (fun _=>true) true fuel t cs=some x) :
 ∃ A c ds,cs=[.slice A ds.length c]∧Srow w C cells A c ds∧∀ d∈ds,P d:=by
 rcases Go.Deep.open_slice ht h with ⟨rfl,_⟩ | ⟨a,b,f,m,n,D,Pl,rfl,hb,hl,hm,o,_,hi⟩
 · exact⟨none,0,[],rfl,⟨by simp,by omega,fun j hj=>by simp at hj⟩,by simp⟩
 · rw[hC] at hi;have l:b≤m:=by rw[o];split <;> omega
   have k:∀ n,n≤m→∃ ds:List δ,ds.length=n∧∀ j (hj:j<ds.length),w.cells? 0 (a.add (j*C)) C=some (cells ds[j])∧P ds[j]:=by
    intro n
    induction n with
    | zero=>exact fun _=>⟨[],rfl,fun j hj=>by simp at hj⟩
    | succ n ih =>
     intro hn;obtain⟨ds,h1,h2⟩:=ih (by omega);obtain⟨q,h3,h4⟩:=hi n (by omega);obtain⟨d,rfl,h5⟩:=hel _ _ _ h4;refine⟨ds++[d],by simp[h1],fun j hj=>?_⟩
     by_cases hjn:j<ds.length
     · rw[List.getElem_append_left hjn];exact h2 j hjn
     · have:j=ds.length:=by rw[a1x] at hj;simp at hj;omega
       subst this;rw[List.getElem_append_right (a1u _)]
       simp only[Nat.sub_self,List.getElem_cons_zero]
       rw[h1];exact⟨h3,h5⟩
   obtain⟨ds,h1,h2⟩:=k b l;subst h1;have p:maxLen=9223372036854775807:=rfl;refine⟨some a,f,ds,rfl,⟨hl,by omega,fun j hj=>?_⟩,fun d hd=>?_⟩
   · obtain⟨h3,h4⟩:=h2 j hj;obtain⟨_,h5,h6⟩:=World.cells?_some h3
     have hc:∀ i u,(cells ds[j])[i]?=some u→w.cell? (a.add (j*C+i))=some u:=fun i u hu=>by
      have g:i<C:=by
       rw[←h5];exact (a2e.1 hu).1
      rw[←add_add,h6 i g,hu]
     refine⟨a,rfl,?_,hc⟩;have h0:=hpos ds[j];have:=yD (hc 0 _ (a1m h0));rw[f7] at this;exact this
   · obtain⟨j,hj,rfl⟩:=a3j hd;exact (h2 j hj).2
end
abbrev FrD.v (f:FrD):Value:=B8 f.neg f.a f.la.length f.ca f.b f.lb.length f.cb
def FrD.q (f:FrD):Rat:=mkRat (sg f.neg (val f.la)) (val f.lb)
theorem InRow.below {w w':World}{A:Option Addr}{c:Nat}{l:List Nat}(h:InRow w A c l) (hb:Below w.heap.size w w'):InRow w' A c l:=⟨h.len,h.big,h.rd.below hb,h.dig⟩
theorem FrD.ok.below {w w':World}{f:FrD}(h:f.ok w) (hb:Below w.heap.size w w'):f.ok w':=⟨h.1.below hb,h.2.below hb⟩
set_option maxRecDepth 100000
set_option maxHeartbeats 40000000
structure FL (w:World) (A:Option Addr) (c:Nat) (ds:List FrD):Prop where
 row:Srow w 3 FrD.cells A c ds
 fv:∀ d∈ds,FV w d.v d.q
theorem FL.below {w w':World}{A:Option Addr}{c:Nat}{ds:List FrD}(h:FL w A c ds) (hb:Below w.heap.size w w'):FL w' A c ds :=
 ⟨h.row.below hb,fun d hd=>(h.fv d hd).below hb⟩
theorem FL.len {w:World}{A:Option Addr}{c:Nat}{ds:List FrD}(h:FL w A c ds):ds.length≤c∧c≤9223372036854775807:=⟨h.row.1,h.row.2.1⟩
theorem FL.at {w:World}{A:Option Addr}{c:Nat}{ds:List FrD}(h:FL w A c ds){k:Nat}(hk:k<ds.length) :
 ∃ a d,A=some a∧a.block<w.heap.size∧w.cell? (a.add (k*3))=some (.bool d.neg)∧w.cell? ⟨(a.add (k*3)).block,(a.add (k*3)).off+1,none⟩=some (.slice d.a d.la.length d.ca) ∧
  w.cell? ⟨(a.add (k*3)).block,(a.add (k*3)).off+2,none⟩=some (.slice d.b d.lb.length d.cb)∧FV w d.v d.q∧Hid (ds[k]?=some d):=by
 obtain⟨a,e,h1,h2⟩:=h.row.2.2 k hk
 have hc:∀ i u,(ds[k]).cells[i]?=some u→w.cell? ((a.add (k*3)).add i)=some u:=fun i u hu=>by
  rw[add_add];exact h2 i u hu
 refine⟨a,ds[k],e,h1,jM (hc 0 _ rfl),gI (hc 1 _ rfl) (by decide),gI (hc 2 _ rfl) (by decide),h.fv _ (a1z hk),a1m hk⟩
def o5 (l:List Rat):Rat:=l.foldl (·+·) 0
theorem T6:o5 []=0:=rfl
theorem cJ (l:List Rat) (q:Rat):o5 (l++[q])=o5 l+q:=by unfold o5;rw[List.foldl_append];rfl
theorem yT {ds:List FrD}{k:Nat}{d:FrD}(h:ds[k]?=some d):o5 ((ds.take (k+1)).map FrD.q)=o5 ((ds.take k).map FrD.q)+d.q:=by
 have hk:k<ds.length:=(a2e.1 h).1;have e:ds.take (k+1)=ds.take k++[d]:=by rw[a3e,h];rfl
 rw[e,a2r,List.map_singleton,cJ]
theorem fX {k:Nat}:∀ {l:List Rat},(∀ q∈l,Fits k q)→Fits (1+l.length*(k+1)) (o5 l):=by
 intro l h
 have b:∀ n,n≤l.length→Fits (1+n*(k+1)) (o5 (l.take n)):=by
  intro n
  induction n with
  | zero=>exact fun _=>Fits.zero (by omega)
  | succ n ih =>
   intro hn;rw[show l.take (n+1)=l.take n++[l[n]] by rw[a3e,a1m (by omega)];rfl,cJ];have:=(ih (by omega)).add (h _ (a1z (show n<l.length by omega)));exact this.mono (by rw[a3k];omega)
 have:=b l.length (a1u _);rw[a2z] at this;exact this
theorem FrD.mem_q {P:Rat→Prop}{ds:List FrD}(h:∀ d∈ds,P d.q):∀ q∈ds.map FrD.q,P q:=fun q hq=>by
 obtain⟨d,hd,rfl⟩:=a2v.1 hq;exact h d hd
theorem L5:(Tryz.prog.info? 28).map (fun i=>(i.zero,i.size,i.bytes))=some (some (.agg #[.bool false,.slice none 0 0,.slice none 0 0]),3,56):=by kernel_rfl
def NoDigL (l:List Value):Prop:=∀ u∈l,∀ d,u≠.int .u32 d
theorem NoDigL.noDig {l:List Value}{cs:Array Value}(h:NoDigL l) (e:cs.toList=l):NoDig cs:=fun i d hi=>by
 have:cs.toList[i]?=some (.int .u32 d):=by rw[←hi];simp
 rw[e] at this;exact h _ (a1n this) d rfl
theorem NoDig.list {cs:Array Value}(h:NoDig cs):NoDigL cs.toList:=fun u hu d e=>by
 subst e;obtain⟨i,hi⟩:=List.getElem?_of_mem hu;exact h i d (by simpa using hi)
theorem NoDigL.append {a b:List Value}(ha:NoDigL a) (hb:NoDigL b):NoDigL (a++b):=fun u hu=>by
 rcases a3b.1 hu with h | h
 · exact ha u h
 · exact hb u h
theorem NoDigL.take {a:List Value}(ha:NoDigL a) (n:Nat):NoDigL (a.take n):=fun u hu=>ha u (a2k hu)
theorem NoDigL.drop {a:List Value}(ha:NoDigL a) (n:Nat):NoDigL (a.drop n):=fun u hu=>ha u (a2l hu)
theorem eP (n:Nat):NoDigL (Builtin.zeroCells #[.bool false,.slice none 0 0,.slice none 0 0] n).toList:=fun u hu d e=>by
 subst e
 simp only[Builtin.zeroCells,Array.toList_map,a2v] at hu
 obtain⟨i,_,hi⟩:=hu;have h3:i % 3=0∨i % 3=1∨i % 3=2:=by omega
 have hs:(#[Value.bool false,.slice none 0 0,.slice none 0 0]:Array Value).size=3:=rfl;rw[hs] at hi
 rcases h3 with h | h | h <;> rw[h] at hi <;> simp at hi
theorem R4 (d:FrD):NoDigL d.cells:=fun u hu x=>by
 simp only[FrD.cells,a3i,List.not_mem_nil,or_false] at hu
 rcases hu with rfl | rfl | rfl <;> simp
theorem eQ (ds:List FrD):NoDigL (ds.flatMap FrD.cells):=fun u hu=>by
 obtain⟨d,_,hd⟩:=List.mem_flatMap.1 hu;exact R4 d u hd
theorem F0 (ds:List FrD):(ds.flatMap FrD.cells).length=ds.length*3:=by
 induction ds with
 | nil=>rfl
 | cons d ds ih=>rw[List.flatMap_cons,a1x,ih];simp[FrD.cells];omega
theorem dW:∀ (ds:List FrD) (j i:Nat) (hj:j<ds.length),i<3→(ds.flatMap FrD.cells)[j*3+i]?=(ds[j]).cells[i]?
 | d::ds,0,i,_,hi=>by
  rw[List.flatMap_cons,a2q (by simp[FrD.cells];omega)]
  simp
 | d::ds,j+1,i,hj,hi=>by
  rw[List.flatMap_cons,a2b (by simp[FrD.cells];omega)];have e:(j+1)*3+i-d.cells.length=j*3+i:=by simp[FrD.cells];omega
  rw[e,dW ds j i (by simpa using hj) hi]
  rfl
def OwnQ (w:World) (base:Nat) (v:Value) (ds:List FrD):Prop :=
 w.ownsRow base 28 3 v ds.length (ds.flatMap FrD.cells)∧∀ g,v.ownBlock=some g→∃ cur,Blk w g 28 cur∧NoDig cur
theorem OwnQ.nil (w:World) (base:Nat):OwnQ w base (.slice none 0 0) []:=⟨World.ownsRow_nil w base _ _,fun g h=>by simp[Value.ownBlock] at h⟩
theorem OwnQ.below {w w':World}{base:Nat}{v:Value}{ds:List FrD}(h:OwnQ w base v ds) (hb:Below w.heap.size w w'):OwnQ w' base v ds :=
 ⟨h.1.kept (row:=none) ⟨hb.os,hb.tape,hb.output,hb.size,fun k hk _=>hb.block k hk⟩ (by cases hv:v.ownBlock <;> simp),fun g hg=>by
  obtain⟨cur,h1,h2⟩:=h.2 g hg;exact⟨cur,h1.keep hb,h2⟩⟩
theorem OwnQ.block {w:World}{base g:Nat}{v:Value}{ds:List FrD}(h:OwnQ w base v ds) (hg:v.ownBlock=some g):base≤g:=by
 rcases h.1.2 with ⟨rfl,_⟩ | ⟨g',b,c,rfl,hb,_⟩
 · simp[Value.ownBlock] at hg
 · simp[Value.ownBlock] at hg;omega
theorem OwnQ.fl {w:World}{base:Nat}{v:Value}{ds:List FrD}(h:OwnQ w base v ds) (hv:∀ d∈ds,FV w d.v d.q):∃ A c,v=.slice A ds.length c∧FL w A c ds:=by
 rcases h.1.2 with ⟨rfl,h0⟩ | ⟨g,cap,f,rfl,hb,hg,hn,hm,hs,ht⟩
 · have:ds=[]:=a2a h0;subst this;exact⟨none,0,rfl,⟨by simp,by omega,fun j hj=>by simp at hj⟩,hv⟩
 · have b:maxLen=9223372036854775807:=rfl;refine⟨_,cap,rfl,⟨hn,by omega,fun j hj=>⟨_,rfl,(Array.getElem?_eq_some_iff.1 hg).1,fun i u hu=>?_⟩⟩,hv⟩
   have hi:i<3:=by
    have:=(a2e.1 hu).1
    simpa [FrD.cells] using this
   rw[D6,World.ownsRow.cellAt (n:=ds.length) (base:=base) (e:=28) (size:=3) (cap:=cap) h.1 (j*3+i) (by omega),dW ds j i hj hi];exact hu
theorem FV.row {w w':World}{base:Nat}{u v:Value}{q:Rat}{ds:List FrD}(h:FV w u q) (hown:OwnQ w base v ds) (hg:w.grownBy w' v.ownBlock):FV w' u q:=by
 cases hb:v.ownBlock with
 | none =>
  rw[hb] at hg;exact h.below ⟨hg.os,hg.tape,hg.output,hg.size,fun k hk=>hg.block k hk (by simp)⟩
 | some g =>
  rw[hb] at hg;obtain⟨b,h1,h2⟩:=hown.2 g hb;exact h.only_blk h1 h2 hg
theorem T9 (w:World) (base:Nat) (v:Value) (ds:List FrD) (hown:OwnQ w base v ds) (ad:Addr) (c:Nat) (d:FrD) (hnews:∀ j u,d.cells[j]?=some u→w.cell? (ad.add j)=some u)
 (h63:ds.length+1≤1000000000000) (hbase:base≤w.heap.size) :
 ∃ v' w',(Builtin.append_ #[22,22] 22 #[v,.slice (some ad) 1 c]).run Tryz.prog w=.ok v' w'∧OwnQ w' base v' (ds++[d])∧w.grownBy w' v.ownBlock:=by
 obtain⟨i,hi,p,h,o⟩:=info_parts L5;have hm:maxLen=9223372036854775807:=rfl
 have h1:∀ u∈d.cells,u.oneCell'=true:=by
  intro u hu
  simp only[FrD.cells,a3i,List.not_mem_nil,or_false] at hu
  rcases hu with rfl | rfl | rfl <;> rfl
 have hl:d.cells.length=1*3:=rfl;obtain⟨v',w',m,h2,h3,_⟩:=run_append_own (P:=Tryz.prog) w base 22 22 28 i (.agg #[.bool false,.slice none 0 0,.slice none 0 0]) 3 56 Tryz.underlying22 hi p h o rfl (by decide) v ds.length (ds.flatMap FrD.cells) hown.1 ad 1 c d.cells hl hnews h1 (by omega) (by omega) hbase;refine⟨v',w',m,⟨?_,?_⟩,h3⟩
 · rw[List.flatMap_append,a1x]
   simpa using h2
 · have t:(Value.agg #[.bool false,.slice none 0 0,.slice none 0 0]).cells=#[.bool false,.slice none 0 0,.slice none 0 0]:=rfl
   have q:∀ v2 w2,(Builtin.append_ #[22,22] 22 #[v,.slice (some ad) 1 c]).run Tryz.prog w=.ok v2 w2→(∀ g,v2.ownBlock=some g→∃ b,Blk w2 g 28 b∧NoDig b)→∀ g,v'.ownBlock=some g→∃ b,Blk w' g 28 b∧NoDig b:=by
    intro v2 w2 hr hk;rw[m] at hr
    injection hr with e1 e2
    subst e1 e2;exact hk
   rcases hown.1.2 with ⟨rfl,h0⟩ | ⟨g,l,b,rfl,B,hg,C,A,y,z⟩
   · have hr:=run_append_nil (P:=Tryz.prog) w 22 22 28 i (.agg #[.bool false,.slice none 0 0,.slice none 0 0]) Tryz.underlying22 hi p ad 1 c d.cells (by rw[h];rfl) hnews (by omega) (by omega) (by rw[o];omega);refine q _ _ hr fun g hg=>?_
     simp[Value.ownBlock] at hg
     subst hg;refine⟨_,heap_alloc_new w.drew _,NoDigL.noDig ((R4 d).append (eP (grownCap w 1 0 28-1))) ?_⟩;rw[t];simp
   · by_cases hroom:ds.length+1≤l
     · have x:ds.length*i.size+d.cells.length≤b.size:=by rw[h,hl,y];omega
       have hr:=run_append_room (P:=Tryz.prog) w 22 22 28 i Tryz.underlying22 hi g ds.length l b hg ad 1 c d.cells (by rw[h];rfl) hnews h1 hroom x;refine q _ _ hr fun g' k=>?_
       simp[Value.ownBlock] at k
       subst k;obtain⟨n,f,s⟩:=hown.2 g rfl
       have ec:n=b:=by
        unfold Blk at f;rw[hg] at f
        injection f with f
        injection f with f _ _
        exact f.symm
       subst ec;exact⟨_,setRow_heap w g n _ _ _ hg,NoDigL.noDig (((s.list.take (ds.length*i.size)).append (R4 d)).append (s.list.drop (ds.length*i.size+d.cells.length))) rfl⟩
     · have r:∀ j u,(ds.flatMap FrD.cells)[j]?=some u→w.cell? ((⟨g,0,none⟩:Addr).add j)=some u:=hown.1.cells (g:=g) rfl;have hr:=run_append_grow (P:=Tryz.prog) w 22 22 28 i (.agg #[.bool false,.slice none 0 0,.slice none 0 0]) Tryz.underlying22 hi p ⟨g,0,none⟩ ds.length l (ds.flatMap FrD.cells) (by rw[h];exact F0 ds) r ad 1 c d.cells (by rw[h];rfl) hnews (by omega) (by omega) (growslice_fits (by omega) (by rw[o];omega));refine q _ _ hr fun g' k=>?_
       simp[Value.ownBlock] at k
       subst k;refine⟨_,heap_alloc_new w.drew _,NoDigL.noDig (((eQ ds).append (R4 d)).append (eP (grownCap w (ds.length+1) l 28-(ds.length+1)))) ?_⟩;rw[t];simp
theorem cK {w:World}{ops:Array Oper}{o:Oper}{a:Act}{K:Act→World→Prop}{Q:Exit→Act→World→Prop}{E:Prop}(hgd:o.guard=none) (s x:Operand)
 (ho:o.op=.call { callee:=.builtin .append,args:=#[s,x],argTypes:=#[22,22] }) (hty:o.type=22)
 (base:Nat) (v:Value) (ds:List FrD) (hs:a.eval s=v) (hown:OwnQ w base v ds) (ad:Addr) (c:Nat) (d:FrD) (hx:a.eval x=.slice (some ad) 1 c) (hnews:∀ j u,d.cells[j]?=some u→w.cell? (ad.add j)=some u)
 (h63:ds.length+1≤1000000000000) (hbase:base≤w.heap.size)
 (h:∀ v' w',OwnQ w' base v' (ds++[d])→w.grownBy w' v.ownBlock→K (a.put o.dst v') w') :
 if Region.wanted o (yielded ops a.tmps)=true then Oper.wp Tryz.prog o a w K Q else E:=by
 have hw:Region.wanted o (yielded ops a.tmps)=true:=by simp[Region.wanted,hgd]
 rw[if_pos hw];obtain⟨v',w',hr,h2,h3⟩:=T9 w base v ds hown ad c d hnews h63 hbase
 unfold Oper.wp execOp
 simp only[ho,hty,resolve,invoke,builtin,Sem.run_bind,Sem.run_pure,Result.andThen_ok,List.map_toArray,List.map_cons,List.map_nil,hs,hx,hr]
 exact h v' w' h2 h3
theorem G9 {ops:Array Oper}{rest:List Oper}{o:Oper}{a:Act}{Q:Exit→Act→World→Prop}(hgd:o.guard=none) (hty:o.type=22) (s x:Operand)
 (ho:o.op=.call { callee:=.builtin .append,args:=#[s,x],argTypes:=#[22,22] }) {w:World}
 (base:Nat) (v:Value) (ds:List FrD) (hs:a.eval s=v) (hown:OwnQ w base v ds) (ad:Addr) (c:Nat) (d:FrD) (hx:a.eval x=.slice (some ad) 1 c) (hnews:∀ j u,d.cells[j]?=some u→w.cell? (ad.add j)=some u)
 (h63:ds.length+1≤1000000000000) (hbase:base≤w.heap.size)
 (h:∀ v' w',OwnQ w' base v' (ds++[d])→w.grownBy w' v.ownBlock→wpList Tryz.prog ops Q rest (a.put o.dst v') w'):wpList Tryz.prog ops Q (o::rest) a w:=by
 refine wpList_plain hgd fun K hK=>?_;obtain⟨v',w',b,h2,h3⟩:=T9 w base v ds hown ad c d hnews h63 hbase
 unfold Oper.wp execOp
 simp only[ho,hty,resolve,invoke,builtin,Sem.run_bind,Sem.run_pure,Result.andThen_ok,List.map_toArray,List.map_cons,List.map_nil,hs,hx,b]
 exact hK _ _ (h v' w' h2 h3)
def FrD.few (w:World) (K:Nat) (d:FrD):Prop:=Nv w d.a d.ca d.la∧Nv w d.b d.cb d.lb∧d.la.length≤K∧d.lb.length≤K
def FrD.vld (d:FrD):Bool:=bI d.neg d.la d.lb
theorem FrD.few.fv {w:World}{K:Nat}{d:FrD}(h:d.few w K) (hv:d.vld=true):FV w d.v d.q∧Fits K d.q:=by
 have hq:QIs d.neg d.la d.lb d.q:=vldF_qIs h.1.dig h.2.1.dig hv;refine⟨⟨_,_,_,_,_,_,_,rfl,h.1,h.2.1,hq⟩,?_⟩;exact⟨by rw[←hq.na.val];exact a1o (E0 h.1.dig) (I3 h.2.2.1),by rw[←hq.nb.val];exact a1o (E0 h.2.1.dig) (I3 h.2.2.2)⟩
attribute [local go_sem ↓] Go.wp_at_zero Go.wp_at_succ
theorem mk_int (n:Int):mkRat (sg (decide (n<0)) n.natAbs) 1=(n:Rat):=by
 rw[wU];exact Rat.mkRat_one n
theorem pw2_big:pw 2=18446744073709551616:=by simp only[pw]
theorem r7 (n:Int) (w:World) (h1:-9223372036854775808≤n) (h2:n≤9223372036854775807) :
 Calls Tryz.prog 26 #[.int .i64 n] w (V6 (n:Rat) w):=by
 obtain⟨w0,z,s,j,o⟩:=f8 w #[.bool false,.slice none 0 0,.slice none 0 0] 28;go_enter Tryz.func26,Tryz.ntmps26;go_wp2_with fail;refine (size_any n _ h1 h2).mono ?_;rintro e w1 ⟨A,c,l,rfl,na,ia,la,b1⟩;have t:=a1k ia;clear ia;go_wp2_with fail;refine (aK 1 1 _ rfl (by rw[pw2_big];omega)).mono ?_;rintro e w2 ⟨A2,c2,l2,rfl,r,h,y,b2⟩;have f:=a1k h;clear h;go_wp2_with fail;refine (Y1 (na.below b2) r (by rw[f.out.val];omega) (by omega) (by omega)).mono ?_;rintro e w3 ⟨v,rfl,⟨n1,A1,c1,l1,B1,d1,m1,rfl,ma,mb,hQ⟩,b3⟩;rw[t.out.val,f.out.val,mk_int] at hQ;have x:=a1k hQ;clear hQ;have d:=((a1j b1 b2));have d:=a1j d b3;have b:=o.keep d;have k:=s.trans (d.mono (a3f j));have y0:=b.f0;have y1:=b.f1;have y2:=b.f2;have z0:=b.free 0;have z1:=b.free 1;have z2:=b.free 2;go_wp2;obtain⟨w9,q,g,o9⟩:=b.set3 (.bool n1) (.slice A1 l1.length c1) (.slice B1 m1.length d1);rw[q];have e0:=g.f0;have e1:=g.f1;have e2:=g.f2;refine a3z (v:=B8 n1 A1 l1.length c1 B1 m1.length d1) (by simp[results,Tryz.results26,go_sem,e0,e1,e2]) rfl ?_;have m:=ma.only_blk b (k7 _ _ _ _ _ _ _) o9;have p:=mb.only_blk b (k7 _ _ _ _ _ _ _) o9;exact⟨_,rfl,⟨n1,A1,c1,l1,B1,d1,m1,rfl,m,p,x.out⟩,o9.to_below k (a1u _) k.size⟩
theorem mk_div {n d:Int}(h:d≠0):mkRat (sg (!(decide (n<0) == decide (d<0))) n.natAbs) d.natAbs=(n:Rat) / (d:Rat):=by
 rw[←Rat.divInt_eq_div]
 rcases Int.lt_trichotomy d 0 with h1 | h1 | h1
 · obtain⟨k,rfl⟩:∃ k:Nat,d=-(k:Int):=⟨d.natAbs,by omega⟩;rw[Rat.divInt_neg',Int.natAbs_neg,Int.natAbs_natCast,Rat.divInt_ofNat]
   congr 1
   rw[a1w h1]
   simp only[sg]
   by_cases hn:n < 0 <;> simp[hn] <;> omega
 · exact absurd h1 h
 · obtain⟨k,rfl⟩:∃ k:Nat,d=(k:Int):=⟨d.natAbs,by omega⟩;rw[Int.natAbs_natCast,Rat.divInt_ofNat]
   congr 1
   rw[a1v (by omega:¬ (k:Int)<0)]
   simp only[sg]
   by_cases hn:n < 0 <;> simp[hn] <;> omega
theorem neg_any {v:Value}{q:Rat}{k:Nat}{w:World}(hv:FV w v q) (hk:Fits k q) (hK:k≤400000000) :
 Calls Tryz.prog 55 #[v] w (V6 (-q) w):=by
 obtain⟨n,A,ca,la,B,cb,lb,rfl,na,nb,iq⟩:=hv;have hf:=a4q iq hk;have h0:=QIs.den_ne iq;obtain⟨r,hr⟩:∃ r,Hid (-q=r):=⟨_,rfl⟩;have t:=a1k iq;clear iq;obtain⟨w0,C,p,c,m⟩:=f8 w #[.bool n,.slice A la.length ca,.slice B lb.length cb] 28;obtain⟨w1,D,h,z,o⟩:=f8 w0 #[.bool false,.slice none 0 0,.slice none 0 0] 28;have g:=m.keep h;have x0:=g.f0;have x1:=g.f1;have x2:=g.f2;have d:=p.trans (h.mono (a3f c));rw[hr.out];go_enter Tryz.func55,Tryz.ntmps55;go_wp2_with fail;refine (Y1 (na.below d) (nb.below d) h0 (by omega) (by omega)).mono ?_;rintro e w3 ⟨v,rfl,⟨n1,A1,c1,l1,B1,d1,m1,rfl,ma,mb,hQ⟩,b3⟩;rw[q_neg t.out,hr.out] at hQ;have x:=a1k hQ;clear hQ;have b:=o.keep b3;have j:=d.trans (b3.mono (by omega));have y0:=b.f0;have y1:=b.f1;have y2:=b.f2;have z0:=b.free 0;have z1:=b.free 1;have z2:=b.free 2;go_wp2;obtain⟨w9,s,f,o9⟩:=b.set3 (.bool n1) (.slice A1 l1.length c1) (.slice B1 m1.length d1);rw[s];have e0:=f.f0;have e1:=f.f1;have e2:=f.f2;refine a3z (v:=B8 n1 A1 l1.length c1 B1 m1.length d1) (by simp[results,Tryz.results55,go_sem,e0,e1,e2]) rfl ?_;have l:=ma.only_blk b (k7 _ _ _ _ _ _ _) o9;have y:=mb.only_blk b (k7 _ _ _ _ _ _ _) o9;exact⟨_,rfl,⟨n1,A1,c1,l1,B1,d1,m1,rfl,l,y,x.out⟩,o9.to_below j (a3f c) j.size⟩
theorem uN (n d:Int) (w:World) (h1:-9223372036854775808≤n) (h2:n≤9223372036854775807) (h3:-9223372036854775808≤d) (h4:d≤9223372036854775807) (h0:d≠0) :
 Calls Tryz.prog 21 #[.int .i64 n,.int .i64 d] w (tO ((n:Rat) / (d:Rat)) w):=by
 obtain⟨w0,B,x,m,q⟩:=f8 w #[.bool false,.slice none 0 0,.slice none 0 0] 28;go_enter Tryz.func21,Tryz.ntmps21;go_wp2_with fail;refine (jA n _ h1 h2).mono ?_;rintro e w1 ⟨A,c,l,rfl,na,ia,la,b1⟩;have k:=a1k ia;clear ia;go_wp2_with fail;refine (jA d _ h3 h4).mono ?_;rintro e w2 ⟨A2,c2,l2,rfl,t,j,z,b2⟩;have f:=a1k j;clear j;go_wp2_with fail;refine (N4 (na.below b2) t (by rw[f.out.val];omega) k.out.canon f.out.canon (by omega) (by omega)).mono ?_;rintro e w3 ⟨v,rfl,⟨n1,A1,c1,l1,B1,d1,m1,rfl,ma,mb,hQ⟩,b3⟩;rw[k.out.val,f.out.val,mk_div h0] at hQ;have y:=a1k hQ;clear hQ;have g:=((a1j b1 b2));have g:=a1j g b3;have b:=q.keep g;have o:=x.trans (g.mono (a3f m));have y0:=b.f0;have y1:=b.f1;have y2:=b.f2;have z0:=b.free 0;have z1:=b.free 1;have z2:=b.free 2;go_wp2;obtain⟨w9,s,h,o9⟩:=b.set3 (.bool n1) (.slice A1 l1.length c1) (.slice B1 m1.length d1);rw[s];have e0:=h.f0;have e1:=h.f1;have e2:=h.f2;refine a3z (v:=.tuple #[B8 n1 A1 l1.length c1 B1 m1.length d1,.int .i64 0]) (by simp[results,Tryz.results21,go_sem,e0,e1,e2]) rfl ?_;have p:=ma.only_blk b (k7 _ _ _ _ _ _ _) o9;have r:=mb.only_blk b (k7 _ _ _ _ _ _ _) o9;exact⟨_,rfl,⟨n1,A1,c1,l1,B1,d1,m1,rfl,p,r,y.out⟩,o9.to_below o (a1u _) o.size⟩
theorem t9 (n:Int) (w:World) (h1:-9223372036854775808≤n) (h2:n≤9223372036854775807) :
 Calls Tryz.prog 11 #[.int .i64 n] w (V6 (n:Rat) w):=by
 obtain⟨w0,t,m,h,k⟩:=f8 w #[.bool false,.slice none 0 0,.slice none 0 0] 28;have hr:=a1k (show (n:Rat) / ((1:Int):Rat)=(n:Rat) by rw[show ((1:Int):Rat)=1 from rfl];grind);go_enter Tryz.func11,Tryz.ntmps11;go_wp2_with fail;refine (uN n 1 _ h1 h2 (by omega) (by omega) (by omega)).mono ?_;rintro e w1 ⟨v,rfl,⟨n1,A1,c1,l1,B1,d1,m1,rfl,na,nb,hQ⟩,b1⟩;rw[hr.out] at hQ;have p:=a1k hQ;clear hQ;have o:=k.keep b1;have g:=m.trans (b1.mono (a3f h));obtain⟨w2,s,c,r,d⟩:=f8 w1 #[.bool n1,.slice A1 l1.length c1,.slice B1 m1.length d1] 28;have b:=o.keep c;have y0:=b.f0;have y1:=b.f1;have y2:=b.f2;have z0:=b.free 0;have z1:=b.free 1;have z2:=b.free 2;have x0:=d.f0;have x1:=d.f1;have x2:=d.f2;go_wp2;obtain⟨w9,l,f,o9⟩:=b.set3 (.bool n1) (.slice A1 l1.length c1) (.slice B1 m1.length d1);rw[l];have e0:=f.f0;have e1:=f.f1;have e2:=f.f2;refine a3z (v:=B8 n1 A1 l1.length c1 B1 m1.length d1) (by simp[results,Tryz.results11,go_sem,e0,e1,e2]) rfl ?_;have j:=(na.below c).only_blk b (k7 _ _ _ _ _ _ _) o9;have q:=(nb.below c).only_blk b (k7 _ _ _ _ _ _ _) o9;exact⟨_,rfl,⟨n1,A1,c1,l1,B1,d1,m1,rfl,j,q,p.out⟩,o9.to_below ((a1j g c)) (a1u _) (a1t g.size c.size)⟩
theorem Plain.QIs.negIs {neg:Bool}{la lb:List Nat}{q:Rat}(h:QIs neg la lb q):QIs (!neg&&decide (0<la.length)) la lb (-q):=by
 refine⟨by rw[Rat.neg_num,Int.natAbs_neg];exact h.na,h.nb,?_⟩;rw[Rat.neg_num,Bool.eq_iff_iff,a3m,Bool.not_eq_true',decide_eq_true_eq,decide_eq_true_eq,h.2.2,decide_eq_false_iff_not];have h0:=h.na.zero_iff
 constructor
 · rintro ⟨h1,h2⟩;have:q.num.natAbs≠0:=fun e=>by rw[h0.2 e] at h2;simp at h2
   omega
 · intro h1;refine⟨by omega,h.na.pos (by omega)⟩
theorem uO {v:Value}{q:Rat}{w:World}(hv:FV w v q) :
 Calls Tryz.prog 78 #[v] w (V6 (-q) w):=by
 obtain⟨n,A,ca,la,B,cb,lb,rfl,na,nb,iq⟩:=hv;have z:=na.big;have k:=a1k iq.negIs;clear iq;obtain⟨w0,x,s,g,p⟩:=f8 w #[.bool n,.slice A la.length ca,.slice B lb.length cb] 28;obtain⟨w1,y,o,t,c⟩:=f8 w0 #[.bool false,.slice none 0 0,.slice none 0 0] 28;have m:=p.keep o;have x0:=m.f0;have x1:=m.f1;have x2:=m.f2;have y0:=c.f0;have y1:=c.f1;have y2:=c.f2;have z0:=c.free 0;have z1:=c.free 1;have z2:=c.free 2;have d:=s.trans (o.mono (a3f g));obtain⟨nz,r⟩:∃ b,decide (0<la.length)=b:=⟨_,rfl⟩;rw[r] at k
 rcases n with _ | _
 · go_enter Tryz.func78,Tryz.ntmps78;go_wp2;obtain⟨w9,j,f,o9⟩:=c.set3 (.bool nz) (.slice A la.length ca) (.slice B lb.length cb);rw[j];have e0:=f.f0;have e1:=f.f1;have e2:=f.f2;refine a3z (v:=B8 nz A la.length ca B lb.length cb) (by simp[results,Tryz.results78,go_sem,e0,e1,e2]) rfl ?_;have h:=(na.below d).only_blk c (k7 _ _ _ _ _ _ _) o9;have l:=(nb.below d).only_blk c (k7 _ _ _ _ _ _ _) o9;exact⟨_,rfl,⟨_,A,ca,la,B,cb,lb,rfl,h,l,k.out⟩,o9.to_below d (a3f g) d.size⟩
 · go_enter Tryz.func78,Tryz.ntmps78;go_wp2;obtain⟨w9,j,f,o9⟩:=c.set3 (.bool false) (.slice A la.length ca) (.slice B lb.length cb);rw[j];have e0:=f.f0;have e1:=f.f1;have e2:=f.f2;refine a3z (v:=B8 false A la.length ca B lb.length cb) (by simp[results,Tryz.results78,go_sem,e0,e1,e2]) rfl ?_;have h:=(na.below d).only_blk c (k7 _ _ _ _ _ _ _) o9;have l:=(nb.below d).only_blk c (k7 _ _ _ _ _ _ _) o9;exact⟨_,rfl,⟨_,A,ca,la,B,cb,lb,rfl,h,l,k.out⟩,o9.to_below d (a3f g) d.size⟩
theorem pw_two:pw 2=18446744073709551616:=by decide
theorem sY {n:Int}(h1:-9223372036854775808≤n) (h2:n≤9223372036854775807):Fits 2 (n:Rat):=by
 refine⟨?_,?_⟩
 · rw[pw_two,Rat.num_intCast];omega
 · rw[pw_two,Rat.den_intCast];omega
def sS (zs:List Int):List Value:=zs.map (Value.int .i64)
def IL (w:World) (A:Option Addr) (zs:List Int):Prop:=Sl w A (sS zs)
theorem i64s_get {l:List Int}{k:Nat}(h:k<l.length):(sS l)[k]?=some (.int .i64 (l.getD k 0)):=by simp[sS,a1m h]
theorem IL.below {w w':World}{A:Option Addr}{l:List Int}(h:IL w A l) (hb:Below w.heap.size w w'):IL w' A l:=Sl.below h hb
theorem IL.at {w:World}{A:Option Addr}{l:List Int}(h:IL w A l){k:Nat}(hk:k<l.length):∃ a,A=some a∧a.block<w.heap.size∧w.cell? (a.add k)=some (.int .i64 (l.getD k 0)):=by
 have hl:0<(sS l).length:=by simp[sS];omega
 obtain⟨a,e,h1,h2⟩:=h hl;have b:k<(sS l).length:=by simp[sS];omega
 refine⟨a,e,h1,?_⟩;rw[h2 k b,←i64s_get hk,a1m b]
theorem Blk.il {w:World}{g:Nat}{t:TypeId}{zs:List Int}(h:Blk w g t (sS zs).toArray):IL w (some ⟨g,0,none⟩) zs:=fun hx =>
 ⟨_,rfl,h.lt,fun j hj=>by rw[D6,h.cell j];simp[a1m hj]⟩
theorem ints_get {zs:List Int}{f:Int→Rat}{k:Nat}(hk:k<zs.length):(zs.map f)[k]?=some (f (zs.getD k 0)):=by
 rw[a1r,a1m hk,a1l,a1m hk];rfl
end Go.Proofs.YtjhkapjadfpimaaGreat
namespace Go.Proofs.YtjhkapjadfpimaaGreat.Plain
set_option linter.unusedVariables false
set_option linter.unusedSimpArgs false
def sm:Nat→(Nat→Rat)→Rat
 | 0,_=>0
 | n+1,f=>sm n f+f n
theorem j7 {n:Nat}{f g:Nat→Rat}(h:∀ k,k<n→f k=g k):sm n f=sm n g:=by
 induction n with
 | zero=>rfl
 | succ n ih=>unfold sm;rw[ih fun k hk=>h k (by omega),h n (by omega)]
theorem bK (n:Nat) (f g:Nat→Rat):sm n (fun k=>f k+g k)=sm n f+sm n g:=by
 induction n with
 | zero=>unfold sm;grind
 | succ n ih=>unfold sm;rw[ih];grind
theorem T8 (n:Nat) (c:Rat) (f:Nat→Rat):sm n (fun k=>c*f k)=c*sm n f:=by
 induction n with
 | zero=>unfold sm;grind
 | succ n ih=>unfold sm;rw[ih];grind
theorem wT (n:Nat) (c:Rat) (f:Nat→Rat):sm n (fun k=>f k*c)=sm n f*c:=by
 rw[j7 (g:=fun k=>c*f k) (fun k _=>by grind),T8];grind
theorem sm_le {n:Nat}{f g:Nat→Rat}(h:∀ k,k<n→f k≤g k):sm n f≤sm n g:=by
 induction n with
 | zero=>exact Rat.le_refl
 | succ n ih =>
  unfold sm;have h1:=ih fun k hk=>h k (by omega);have h2:=h n (by omega)
  grind
theorem pF (n:Nat):sm n (fun _=>0)=0:=by
 induction n with
 | zero=>rfl
 | succ n ih=>unfold sm;rw[ih];grind
theorem wR (m n:Nat) (f:Nat→Nat→Rat):sm n (fun k=>sm m (fun i=>f i k))=sm m (fun i=>sm n (fun k=>f i k)):=by
 induction m with
 | zero=>simp only[sm];exact pF n
 | succ m ih=>simp only[sm];rw[bK,ih]
theorem lN {a b c:Rat}(h:a≤b) (hc:0≤c):a*c≤b*c:=Rat.mul_le_mul_of_nonneg_right h hc
theorem lM {a b c:Rat}(h:a≤b) (hc:0≤c):c*a≤c*b:=Rat.mul_le_mul_of_nonneg_left h hc
end Go.Proofs.YtjhkapjadfpimaaGreat.Plain
