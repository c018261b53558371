/- Contracts of functions, for the law. -/
import Derived.Test.YtjhkapjadfpimaaGreatGValid
import Derived.ChangeSlices
import Derived.Deep.Slices
import Derived.Deep.Strs
import Derived.ProofKit
import Derived.OpenShut
import Derived.Maps.AppendAt
namespace Go.Proofs.YtjhkapjadfpimaaGreat
set_option linter.unusedVariables false
set_option linter.unusedSimpArgs false
open Go.RowKit Plain Go.ChangeShapes Go.WideShapes
structure InRow (w:World) (A:Option Addr) (c:Nat) (l:List Nat):Prop where
 len:l.length≤c
 big:l.length≤9223372036854775807
 rd:Rd w A l
 dig:Dig l
theorem InRow.nv {w:World}{A:Option Addr}{c:Nat}{l:List Nat}(h:InRow w A c l) (hl:l.length≤70368744177664):Nv w A c l:=⟨h.len,hl,h.rd,h.dig⟩
theorem vR {w:World}{a:Addr}{v:Value}(h:w.cell? a=some v):a.block<w.heap.size:=by
 rcases Nat.lt_or_ge a.block w.heap.size with hlt | hge
 · exact hlt
 · simp[World.cell?,Array.getElem?_eq_none hge] at h
theorem zF {w:World}{a:Option Addr}{len cap:Nat}{zs:List Int}
 (h:(a=none∧len=0∧cap=0∧zs=[]) ∨
  ∃ x,a=some x∧len≤cap∧cap≤maxLen∧zs.length=cap∧(∀ i,i<zs.length→w.cell? (x.add i)=some (.int .u32 (zs.getD i 0)))∧∀ n∈zs,(Lit.int .u32 n).wf=true) :
 ∃ l,Hid (l=(zs.take len).map Int.toNat)∧l.length=len∧InRow w a cap l:=by
 rcases h with ⟨rfl,rfl,rfl,rfl⟩ | ⟨x,rfl,h1,h2,h3,h4,h5⟩
 · exact⟨[],rfl,rfl,by simp,by simp,fun hx=>by simp[cn] at hx,Dig.nil⟩
 · have b:((zs.take len).map Int.toNat).length=len:=by rw[Dr,DB];omega
   have hm:maxLen=9223372036854775807:=rfl
   have hb:∀ n∈zs,0≤n∧n<4294967296:=fun n hn=>by
    have:=h5 n hn
    simp[Lit.wf,IntKind.min,IntKind.max,IntKind.bits,IntKind.signed] at this
    omega
   refine⟨_,rfl,b,by rw[b];exact h1,by rw[b];omega,fun hx=>⟨x,rfl,?_,fun j hj=>?_⟩,?_⟩
   · rw[bu,b] at hx;have:=h4 0 (by omega);exact vR (by simpa [Addr.add] using this)
   · rw[bu,b] at hj;rw[h4 j (by omega)];have hz:=hb (zs.getD j 0) (by rw[Dk,Dl (by omega)];exact Dy _)
     simp[cn,Dl (show j<zs.length by omega)] at hz ⊢
     omega
   · intro d hd;rw[DU] at hd;obtain⟨n,hn,rfl⟩:=hd;have:=hb n (DJ hn);omega
section
variable {H:Type}{enc:TypeId × Value→H}{w:World}{fuel:Nat}{cs:List Value}{x:DataW H × List MemPlace}
theorem rZ (h:DataW.trod enc Tryz.prog w 0 (fun _=>true) true fuel 26 cs=some x):∃ A c l,cs=[.slice A l.length c]∧InRow w A c l:=by
 rcases Go.ChangeShapes.open_ints Tryz.underlying26 Tryz.underlying69 (by kernel_rfl) h with ⟨rfl,_⟩ | ⟨a,l,c,zs,rfl,_,hl,hm,hz,_,b,d⟩
 · exact⟨none,0,[],rfl,by simp,by simp,fun hx=>by simp[cn] at hx,Dig.nil⟩
 · obtain⟨la,ha,rfl,ra⟩:=zF (w:=w) (a:=some a) (len:=l) (cap:=c) (zs:=zs) (.inr ⟨a,rfl,hl,hm,by simpa using hz,b,d⟩);exact⟨some a,c,la,rfl,ra⟩
theorem mV:Tryz.prog.cellsOf 28=3:=by kernel_rfl
theorem xZ:Tryz.prog.cellsOf 4=1:=by kernel_rfl
theorem z7:Tryz.prog.cellsOf 26=1:=by kernel_rfl
theorem CX {α:Type}{l:List α}(h:l.length=3):∃ a b c,l=[a,b,c]:=by
 match l,h with
 | [a,b,c],_=>exact⟨a,b,c,rfl⟩
structure FrD where
 neg:Bool
 a:Option Addr
 ca:Nat
 la:List Nat
 b:Option Addr
 cb:Nat
 lb:List Nat
def FrD.cells (f:FrD):List Value:=[.bool f.neg,.slice f.a f.la.length f.ca,.slice f.b f.lb.length f.cb]
def FrD.ok (w:World) (f:FrD):Prop:=InRow w f.a f.ca f.la∧InRow w f.b f.cb f.lb
theorem pK (h:DataW.trod enc Tryz.prog w 0 (fun _=>true) true fuel 28 cs=some x):∃ f:FrD,cs=f.cells∧f.ok w:=by
 obtain⟨y0,y1,y2,n,rfl,hl,h0,h1,h2⟩:=Go.Deep.trod_struct3 Tryz.underlying28 h;rw[mV] at hl;obtain⟨c0,c1,c2,rfl⟩:=CX hl
 simp only[xZ,z7] at h0 h1 h2
 obtain⟨b,hb,_⟩:=DataW.trod_bool Tryz.underlying4 h0;obtain⟨A,ca,la,hA,iA⟩:=rZ h1;obtain⟨B,cb,lb,hB,iB⟩:=rZ h2
 simp at hb hA hB
 subst hb hA hB;exact⟨⟨b,A,ca,la,B,cb,lb⟩,rfl,iA,iB⟩
def Srow {δ:Type}(w:World) (C:Nat) (cells:δ→List Value) (A:Option Addr) (c:Nat) (ds:List δ):Prop :=
 ds.length≤c∧c≤9223372036854775807∧∀ (j:Nat) (hj:j<ds.length),∃ a,A=some a∧a.block<w.heap.size∧∀ i u,(cells ds[j])[i]?=some u→w.cell? (a.add (j*C+i))=some u
theorem Srow.below {δ:Type}{w w':World}{C:Nat}{cells:δ→List Value}{A:Option Addr}{c:Nat}{ds:List δ}(h:Srow w C cells A c ds) (hb:Below w.heap.size w w'):Srow w' C cells A c ds :=
 ⟨h.1,h.2.1,fun j hj=>by
  obtain⟨a,e,h1,h2⟩:=h.2.2 j hj;exact⟨a,e,Dn h1 hb.size,fun i u hu=>(hb.cell (by rw[ac];exact h1)).trans (h2 i u hu)⟩⟩
theorem mo {δ:Type}{t e:TypeId}{C:Nat}{cells:δ→List Value}{P:δ→Prop}(ht:Tryz.prog.underlying t=some (.slice e)) (hC:Tryz.prog.cellsOf e=C) (hpos:∀ d,0<(cells d).length)
 (hel:∀ n cs x,DataW.trod enc Tryz.prog w 0 (fun _=>true) true n e cs=some x→∃ d,cs=cells d∧P d) (h:DataW.trod enc Tryz.prog w 0 (fun _=>true) true fuel t cs=some x) :
 ∃ A c ds,cs=[.slice A ds.length c]∧Srow w C cells A c ds∧∀ d∈ds,P d:=by
 rcases Go.Deep.open_slice ht h with ⟨rfl,_⟩ | ⟨a,b,k,m,n,D,Pl,rfl,hb,hl,hm,l,_,hi⟩
 · exact⟨none,0,[],rfl,⟨by simp,by omega,fun j hj=>by simp at hj⟩,by simp⟩
 · rw[hC] at hi;have g:b≤m:=by rw[l];split <;> omega
   have f:∀ n,n≤m→∃ ds:List δ,ds.length=n∧∀ j (hj:j<ds.length),w.cells? 0 (a.add (j*C)) C=some (cells ds[j])∧P ds[j]:=by
    intro n
    induction n with
    | zero=>exact fun _=>⟨[],rfl,fun j hj=>by simp at hj⟩
    | succ n ih =>
     intro hn;obtain⟨ds,h1,h2⟩:=ih (by omega);obtain⟨q,h3,h4⟩:=hi n (by omega);obtain⟨d,rfl,h5⟩:=hel _ _ _ h4;refine⟨ds++[d],by simp[h1],fun j hj=>?_⟩
     by_cases hjn:j<ds.length
     · rw[List.getElem_append_left hjn];exact h2 j hjn
     · have:j=ds.length:=by rw[Dw] at hj;simp at hj;omega
       subst this;rw[List.getElem_append_right (Dt _)]
       simp only[Nat.sub_self,List.getElem_cons_zero]
       rw[h1];exact⟨h3,h5⟩
   obtain⟨ds,h1,h2⟩:=f b g;subst h1;have p:maxLen=9223372036854775807:=rfl;refine⟨some a,k,ds,rfl,⟨hl,by omega,fun j hj=>?_⟩,fun d hd=>?_⟩
   · obtain⟨h3,h4⟩:=h2 j hj;obtain⟨_,h5,h6⟩:=World.cells?_some h3
     have hc:∀ i u,(cells ds[j])[i]?=some u→w.cell? (a.add (j*C+i))=some u:=fun i u hu=>by
      have o:i<C:=by
       rw[←h5];exact (DD.1 hu).1
      rw[←add_add,h6 i o,hu]
     refine⟨a,rfl,?_,hc⟩;have h0:=hpos ds[j];have:=vR (hc 0 _ (Dl h0));rw[ac] at this;exact this
   · obtain⟨j,hj,rfl⟩:=List.getElem_of_mem hd;exact (h2 j hj).2
end
abbrev FrD.v (f:FrD):Value:=aZ f.neg f.a f.la.length f.ca f.b f.lb.length f.cb
def FrD.q (f:FrD):Rat:=mkRat (sg f.neg (val f.la)) (val f.lb)
theorem InRow.below {w w':World}{A:Option Addr}{c:Nat}{l:List Nat}(h:InRow w A c l) (hb:Below w.heap.size w w'):InRow w' A c l:=⟨h.len,h.big,h.rd.below hb,h.dig⟩
theorem FrD.ok.below {w w':World}{f:FrD}(h:f.ok w) (hb:Below w.heap.size w w'):f.ok w':=⟨h.1.below hb,h.2.below hb⟩
set_option maxRecDepth 100000
set_option maxHeartbeats 40000000
structure FL (w:World) (A:Option Addr) (c:Nat) (ds:List FrD):Prop where
 row:Srow w 3 FrD.cells A c ds
 fv:∀ d∈ds,FV w d.v d.q
theorem FL.below {w w':World}{A:Option Addr}{c:Nat}{ds:List FrD}(h:FL w A c ds) (hb:Below w.heap.size w w'):FL w' A c ds :=
 ⟨h.row.below hb,fun d hd=>(h.fv d hd).below hb⟩
theorem FL.len {w:World}{A:Option Addr}{c:Nat}{ds:List FrD}(h:FL w A c ds):ds.length≤c∧c≤9223372036854775807:=⟨h.row.1,h.row.2.1⟩
theorem FL.at {w:World}{A:Option Addr}{c:Nat}{ds:List FrD}(h:FL w A c ds){k:Nat}(hk:k<ds.length) :
 ∃ a d,A=some a∧a.block<w.heap.size∧w.cell? (a.add (k*3))=some (.bool d.neg)∧w.cell? ⟨(a.add (k*3)).block,(a.add (k*3)).off+1,none⟩=some (.slice d.a d.la.length d.ca) ∧
  w.cell? ⟨(a.add (k*3)).block,(a.add (k*3)).off+2,none⟩=some (.slice d.b d.lb.length d.cb)∧FV w d.v d.q∧Hid (ds[k]?=some d):=by
 obtain⟨a,e,h1,h2⟩:=h.row.2.2 k hk
 have hc:∀ i u,(ds[k]).cells[i]?=some u→w.cell? ((a.add (k*3)).add i)=some u:=fun i u hu=>by
  rw[add_add];exact h2 i u hu
 refine⟨a,ds[k],e,h1,nF (hc 0 _ rfl),lW (hc 1 _ rfl) (by decide),lW (hc 2 _ rfl) (by decide),h.fv _ (Dy hk),Dl hk⟩
def aB (l:List Rat):Rat:=l.foldl (·+·) 0
theorem gH:aB []=0:=rfl
theorem jX (l:List Rat) (q:Rat):aB (l++[q])=aB l+q:=by unfold aB;rw[List.foldl_append];rfl
theorem wG {ds:List FrD}{k:Nat}{d:FrD}(h:ds[k]?=some d):aB ((ds.take (k+1)).map FrD.q)=aB ((ds.take k).map FrD.q)+d.q:=by
 have hk:k<ds.length:=(DD.1 h).1;have e:ds.take (k+1)=ds.take k++[d]:=by rw[List.take_add_one,h];rfl
 rw[e,DQ,List.map_singleton,jX]
theorem lO {k:Nat}:∀ {l:List Rat},(∀ q∈l,Fits k q)→Fits (1+l.length*(k+1)) (aB l):=by
 intro l h
 have b:∀ n,n≤l.length→Fits (1+n*(k+1)) (aB (l.take n)):=by
  intro n
  induction n with
  | zero=>exact fun _=>Fits.zero (by omega)
  | succ n ih =>
   intro hn;rw[show l.take (n+1)=l.take n++[l[n]] by rw[List.take_add_one,Dl (by omega)];rfl,jX];have:=(ih (by omega)).add (h _ (Dy (show n<l.length by omega)));exact this.mono (by rw[Nat.add_mul];omega)
 have:=b l.length (Dt _);rw[List.take_length] at this;exact this
theorem FrD.mem_q {P:Rat→Prop}{ds:List FrD}(h:∀ d∈ds,P d.q):∀ q∈ds.map FrD.q,P q:=fun q hq=>by
 obtain⟨d,hd,rfl⟩:=DU.1 hq;exact h d hd
theorem ej:(Tryz.prog.info? 28).map (fun i=>(i.zero,i.size,i.bytes))=some (some (.agg #[.bool false,.slice none 0 0,.slice none 0 0]),3,56):=by kernel_rfl
def NoDigL (l:List Value):Prop:=∀ u∈l,∀ d,u≠.int .u32 d
theorem NoDigL.noDig {l:List Value}{cs:Array Value}(h:NoDigL l) (e:cs.toList=l):NoDig cs:=fun i d hi=>by
 have:cs.toList[i]?=some (.int .u32 d):=by rw[←hi];simp
 rw[e] at this;exact h _ (Dm this) d rfl
theorem NoDig.list {cs:Array Value}(h:NoDig cs):NoDigL cs.toList:=fun u hu d e=>by
 subst e;obtain⟨i,hi⟩:=List.getElem?_of_mem hu;exact h i d (by simpa using hi)
theorem NoDigL.append {a b:List Value}(ha:NoDigL a) (hb:NoDigL b):NoDigL (a++b):=fun u hu=>by
 rcases List.mem_append.1 hu with h | h
 · exact ha u h
 · exact hb u h
theorem NoDigL.take {a:List Value}(ha:NoDigL a) (n:Nat):NoDigL (a.take n):=fun u hu=>ha u (DJ hu)
theorem NoDigL.drop {a:List Value}(ha:NoDigL a) (n:Nat):NoDigL (a.drop n):=fun u hu=>ha u (DK hu)
theorem kQ (n:Nat):NoDigL (Builtin.zeroCells #[.bool false,.slice none 0 0,.slice none 0 0] n).toList:=fun u hu d e=>by
 subst e
 simp only[Builtin.zeroCells,Array.toList_map,DU] at hu
 obtain⟨i,_,hi⟩:=hu;have h3:i % 3=0∨i % 3=1∨i % 3=2:=by omega
 have hs:(#[Value.bool false,.slice none 0 0,.slice none 0 0]:Array Value).size=3:=rfl;rw[hs] at hi
 rcases h3 with h | h | h <;> rw[h] at hi <;> simp at hi
theorem fW (d:FrD):NoDigL d.cells:=fun u hu x=>by
 simp only[FrD.cells,List.mem_cons,List.not_mem_nil,or_false] at hu
 rcases hu with rfl | rfl | rfl <;> simp
theorem kR (ds:List FrD):NoDigL (ds.flatMap FrD.cells):=fun u hu=>by
 obtain⟨d,_,hd⟩:=List.mem_flatMap.1 hu;exact fW d u hd
theorem ck (ds:List FrD):(ds.flatMap FrD.cells).length=ds.length*3:=by
 induction ds with
 | nil=>rfl
 | cons d ds ih=>rw[List.flatMap_cons,Dw,ih];simp[FrD.cells];omega
theorem kD:∀ (ds:List FrD) (j i:Nat) (hj:j<ds.length),i<3→(ds.flatMap FrD.cells)[j*3+i]?=(ds[j]).cells[i]?
 | d::ds,0,i,_,hi=>by
  rw[List.flatMap_cons,DP (by simp[FrD.cells];omega)]
  simp
 | d::ds,j+1,i,hj,hi=>by
  rw[List.flatMap_cons,DA (by simp[FrD.cells];omega)];have e:(j+1)*3+i-d.cells.length=j*3+i:=by simp[FrD.cells];omega
  rw[e,kD ds j i (by simpa using hj) hi]
  rfl
def OwnQ (w:World) (base:Nat) (v:Value) (ds:List FrD):Prop :=
 w.ownsRow base 28 3 v ds.length (ds.flatMap FrD.cells)∧∀ g,v.ownBlock=some g→∃ cur,Blk w g 28 cur∧NoDig cur
theorem OwnQ.nil (w:World) (base:Nat):OwnQ w base (.slice none 0 0) []:=⟨World.ownsRow_nil w base _ _,fun g h=>by simp[Value.ownBlock] at h⟩
theorem OwnQ.below {w w':World}{base:Nat}{v:Value}{ds:List FrD}(h:OwnQ w base v ds) (hb:Below w.heap.size w w'):OwnQ w' base v ds :=
 ⟨h.1.kept (row:=none) ⟨hb.os,hb.tape,hb.output,hb.size,fun k hk _=>hb.block k hk⟩ (by cases hv:v.ownBlock <;> simp),fun g hg=>by
  obtain⟨cur,h1,h2⟩:=h.2 g hg;exact⟨cur,h1.keep hb,h2⟩⟩
theorem OwnQ.block {w:World}{base g:Nat}{v:Value}{ds:List FrD}(h:OwnQ w base v ds) (hg:v.ownBlock=some g):base≤g:=by
 rcases h.1.2 with ⟨rfl,_⟩ | ⟨g',c,b,rfl,hb,_⟩
 · simp[Value.ownBlock] at hg
 · simp[Value.ownBlock] at hg;omega
theorem OwnQ.fl {w:World}{base:Nat}{v:Value}{ds:List FrD}(h:OwnQ w base v ds) (hv:∀ d∈ds,FV w d.v d.q):∃ A c,v=.slice A ds.length c∧FL w A c ds:=by
 rcases h.1.2 with ⟨rfl,h0⟩ | ⟨g,cap,b,rfl,hb,hg,hn,hm,hs,ht⟩
 · have:ds=[]:=Dz h0;subst this;exact⟨none,0,rfl,⟨by simp,by omega,fun j hj=>by simp at hj⟩,hv⟩
 · have f:maxLen=9223372036854775807:=rfl;refine⟨_,cap,rfl,⟨hn,by omega,fun j hj=>⟨_,rfl,(Array.getElem?_eq_some_iff.1 hg).1,fun i u hu=>?_⟩⟩,hv⟩
   have hi:i<3:=by
    have:=(DD.1 hu).1
    simpa [FrD.cells] using this
   rw[bO,World.ownsRow.cellAt (n:=ds.length) (base:=base) (e:=28) (size:=3) (cap:=cap) h.1 (j*3+i) (by omega),kD ds j i hj hi];exact hu
theorem FV.row {w w':World}{base:Nat}{u v:Value}{q:Rat}{ds:List FrD}(h:FV w u q) (hown:OwnQ w base v ds) (hg:w.grownBy w' v.ownBlock):FV w' u q:=by
 cases hb:v.ownBlock with
 | none =>
  rw[hb] at hg;exact h.below ⟨hg.os,hg.tape,hg.output,hg.size,fun k hk=>hg.block k hk (by simp)⟩
 | some g =>
  rw[hb] at hg;obtain⟨b,h1,h2⟩:=hown.2 g hb;exact h.only_blk h1 h2 hg
theorem gL (w:World) (base:Nat) (v:Value) (ds:List FrD) (hown:OwnQ w base v ds) (ad:Addr) (c:Nat) (d:FrD) (hnews:∀ j u,d.cells[j]?=some u→w.cell? (ad.add j)=some u)
 (h63:ds.length+1≤1000000000000) (hbase:base≤w.heap.size) :
 ∃ v' w',(Builtin.append_ #[22,22] 22 #[v,.slice (some ad) 1 c]).run Tryz.prog w=.ok v' w'∧OwnQ w' base v' (ds++[d])∧w.grownBy w' v.ownBlock:=by
 obtain⟨i,hi,o,h,r⟩:=info_parts ej;have hm:maxLen=9223372036854775807:=rfl
 have h1:∀ u∈d.cells,u.oneCell'=true:=by
  intro u hu
  simp only[FrD.cells,List.mem_cons,List.not_mem_nil,or_false] at hu
  rcases hu with rfl | rfl | rfl <;> rfl
 have hl:d.cells.length=1*3:=rfl;obtain⟨v',w',n,h2,h3,_⟩:=run_append_own (P:=Tryz.prog) w base 22 22 28 i (.agg #[.bool false,.slice none 0 0,.slice none 0 0]) 3 56 Tryz.underlying22 hi o h r rfl (by decide) v ds.length (ds.flatMap FrD.cells) hown.1 ad 1 c d.cells hl hnews h1 (by omega) (by omega) hbase;refine⟨v',w',n,⟨?_,?_⟩,h3⟩
 · rw[List.flatMap_append,Dw]
   simpa using h2
 · have t:(Value.agg #[.bool false,.slice none 0 0,.slice none 0 0]).cells=#[.bool false,.slice none 0 0,.slice none 0 0]:=rfl
   have q:∀ v2 w2,(Builtin.append_ #[22,22] 22 #[v,.slice (some ad) 1 c]).run Tryz.prog w=.ok v2 w2→(∀ g,v2.ownBlock=some g→∃ b,Blk w2 g 28 b∧NoDig b)→∀ g,v'.ownBlock=some g→∃ b,Blk w' g 28 b∧NoDig b:=by
    intro v2 w2 hr hk;rw[n] at hr
    injection hr with e1 e2
    subst e1 e2;exact hk
   rcases hown.1.2 with ⟨rfl,h0⟩ | ⟨g,l,b,rfl,B,hg,C,A,y,z⟩
   · have hr:=run_append_nil (P:=Tryz.prog) w 22 22 28 i (.agg #[.bool false,.slice none 0 0,.slice none 0 0]) Tryz.underlying22 hi o ad 1 c d.cells (by rw[h];rfl) hnews (by omega) (by omega) (by rw[r];omega);refine q _ _ hr fun g hg=>?_
     simp[Value.ownBlock] at hg
     subst hg;refine⟨_,heap_alloc_new w.drew _,NoDigL.noDig ((fW d).append (kQ (grownCap w 1 0 28-1))) ?_⟩;rw[t];simp
   · by_cases hroom:ds.length+1≤l
     · have s:ds.length*i.size+d.cells.length≤b.size:=by rw[h,hl,y];omega
       have hr:=run_append_room (P:=Tryz.prog) w 22 22 28 i Tryz.underlying22 hi g ds.length l b hg ad 1 c d.cells (by rw[h];rfl) hnews h1 hroom s;refine q _ _ hr fun g' k=>?_
       simp[Value.ownBlock] at k
       subst k;obtain⟨m,f,x⟩:=hown.2 g rfl
       have ec:m=b:=by
        unfold Blk at f;rw[hg] at f
        injection f with f
        injection f with f _ _
        exact f.symm
       subst ec;exact⟨_,setRow_heap w g m _ _ _ hg,NoDigL.noDig (((x.list.take (ds.length*i.size)).append (fW d)).append (x.list.drop (ds.length*i.size+d.cells.length))) rfl⟩
     · have p:∀ j u,(ds.flatMap FrD.cells)[j]?=some u→w.cell? ((⟨g,0,none⟩:Addr).add j)=some u:=hown.1.cells (g:=g) rfl;have hr:=run_append_grow (P:=Tryz.prog) w 22 22 28 i (.agg #[.bool false,.slice none 0 0,.slice none 0 0]) Tryz.underlying22 hi o ⟨g,0,none⟩ ds.length l (ds.flatMap FrD.cells) (by rw[h];exact ck ds) p ad 1 c d.cells (by rw[h];rfl) hnews (by omega) (by omega) (growslice_fits (by omega) (by rw[r];omega));refine q _ _ hr fun g' k=>?_
       simp[Value.ownBlock] at k
       subst k;refine⟨_,heap_alloc_new w.drew _,NoDigL.noDig (((kR ds).append (fW d)).append (kQ (grownCap w (ds.length+1) l 28-(ds.length+1)))) ?_⟩;rw[t];simp
theorem jY {w:World}{ops:Array Oper}{o:Oper}{a:Act}{K:Act→World→Prop}{Q:Exit→Act→World→Prop}{E:Prop}(hgd:o.guard=none) (s x:Operand)
 (ho:o.op=.call { callee:=.builtin .append,args:=#[s,x],argTypes:=#[22,22] }) (hty:o.type=22)
 (base:Nat) (v:Value) (ds:List FrD) (hs:a.eval s=v) (hown:OwnQ w base v ds) (ad:Addr) (c:Nat) (d:FrD) (hx:a.eval x=.slice (some ad) 1 c) (hnews:∀ j u,d.cells[j]?=some u→w.cell? (ad.add j)=some u)
 (h63:ds.length+1≤1000000000000) (hbase:base≤w.heap.size)
 (h:∀ v' w',OwnQ w' base v' (ds++[d])→w.grownBy w' v.ownBlock→K (a.put o.dst v') w') :
 if Region.wanted o (yielded ops a.tmps)=true then Oper.wp Tryz.prog o a w K Q else E:=by
 have hw:Region.wanted o (yielded ops a.tmps)=true:=by simp[Region.wanted,hgd]
 rw[if_pos hw];obtain⟨v',w',hr,h2,h3⟩:=gL w base v ds hown ad c d hnews h63 hbase
 unfold Oper.wp execOp
 simp only[ho,hty,resolve,invoke,builtin,Sem.run_bind,Sem.run_pure,Result.andThen_ok,List.map_toArray,List.map_cons,List.map_nil,hs,hx,hr]
 exact h v' w' h2 h3
theorem cQ {ops:Array Oper}{rest:List Oper}{o:Oper}{a:Act}{Q:Exit→Act→World→Prop}(hgd:o.guard=none) (hty:o.type=22) (s x:Operand)
 (ho:o.op=.call { callee:=.builtin .append,args:=#[s,x],argTypes:=#[22,22] }) {w:World}
 (base:Nat) (v:Value) (ds:List FrD) (hs:a.eval s=v) (hown:OwnQ w base v ds) (ad:Addr) (c:Nat) (d:FrD) (hx:a.eval x=.slice (some ad) 1 c) (hnews:∀ j u,d.cells[j]?=some u→w.cell? (ad.add j)=some u)
 (h63:ds.length+1≤1000000000000) (hbase:base≤w.heap.size)
 (h:∀ v' w',OwnQ w' base v' (ds++[d])→w.grownBy w' v.ownBlock→wpList Tryz.prog ops Q rest (a.put o.dst v') w'):wpList Tryz.prog ops Q (o::rest) a w:=by
 refine wpList_plain hgd fun K hK=>?_;obtain⟨v',w',b,h2,h3⟩:=gL w base v ds hown ad c d hnews h63 hbase
 unfold Oper.wp execOp
 simp only[ho,hty,resolve,invoke,builtin,Sem.run_bind,Sem.run_pure,Result.andThen_ok,List.map_toArray,List.map_cons,List.map_nil,hs,hx,b]
 exact hK _ _ (h v' w' h2 h3)
def FrD.few (w:World) (K:Nat) (d:FrD):Prop:=Nv w d.a d.ca d.la∧Nv w d.b d.cb d.lb∧d.la.length≤K∧d.lb.length≤K
def FrD.vld (d:FrD):Bool:=jE d.neg d.la d.lb
theorem FrD.few.fv {w:World}{K:Nat}{d:FrD}(h:d.few w K) (hv:d.vld=true):FV w d.v d.q∧Fits K d.q:=by
 have hq:QIs d.neg d.la d.lb d.q:=yj h.1.dig h.2.1.dig hv;refine⟨⟨_,_,_,_,_,_,_,rfl,h.1,h.2.1,hq⟩,?_⟩;exact⟨by rw[←hq.na.val];exact Dn (bW h.1.dig) (dn h.2.2.1),by rw[←hq.nb.val];exact Dn (bW h.2.1.dig) (dn h.2.2.2)⟩
attribute [local go_sem ↓] Go.wp_at_zero Go.wp_at_succ
theorem Cv (n:Int):mkRat (sg (decide (n<0)) n.natAbs) 1=(n:Rat):=by
 rw[uS];exact Rat.mkRat_one n
theorem AW:pw 2=18446744073709551616:=by simp only[pw]
theorem aH (n:Int) (w:World) (h1:-9223372036854775808≤n) (h2:n≤9223372036854775807) :
 Calls Tryz.prog 26 #[.int .i64 n] w (ie (n:Rat) w):=by
 obtain⟨w0,z,q,k,t⟩:=ag w #[.bool false,.slice none 0 0,.slice none 0 0] 28;go_enter Tryz.func26,Tryz.ntmps26;go_wp2_with fail;refine (yA n _ h1 h2).mono ?_;rintro e w1 ⟨A,c,l,rfl,na,ia,la,b1⟩;have p:=Dj ia;clear ia;go_wp2_with fail;refine (jq 1 1 _ rfl (by rw[AW];omega)).mono ?_;rintro e w2 ⟨A2,c2,l2,rfl,o,h,y,b2⟩;have f:=Dj h;clear h;go_wp2_with fail;refine (iQ (na.below b2) o (by rw[f.out.val];omega) (by omega) (by omega)).mono ?_;rintro e w3 ⟨v,rfl,⟨n1,A1,c1,l1,B1,d1,m1,rfl,ma,mb,hQ⟩,b3⟩;rw[p.out.val,f.out.val,Cv] at hQ;have r:=Dj hQ;clear hQ;have d:=((Di b1 b2));have d:=Di d b3;have b:=t.keep d;have j:=q.trans (d.mono (Nat.le_of_lt k));have y0:=b.f0;have y1:=b.f1;have y2:=b.f2;have z0:=b.free 0;have z1:=b.free 1;have z2:=b.free 2;go_wp2;obtain⟨w9,s,g,o9⟩:=b.set3 (.bool n1) (.slice A1 l1.length c1) (.slice B1 m1.length d1);rw[s];have e0:=g.f0;have e1:=g.f1;have e2:=g.f2;refine D4 (v:=aZ n1 A1 l1.length c1 B1 m1.length d1) (by simp[results,Tryz.results26,go_sem,e0,e1,e2]) rfl ?_;have m:=ma.only_blk b (ar _ _ _ _ _ _ _) o9;have x:=mb.only_blk b (ar _ _ _ _ _ _ _) o9;exact⟨_,rfl,⟨n1,A1,c1,l1,B1,d1,m1,rfl,m,x,r.out⟩,o9.to_below j (Dt _) j.size⟩
theorem Cw {n d:Int}(h:d≠0):mkRat (sg (!(decide (n<0) == decide (d<0))) n.natAbs) d.natAbs=(n:Rat) / (d:Rat):=by
 rw[←Rat.divInt_eq_div]
 rcases Int.lt_trichotomy d 0 with h1 | h1 | h1
 · obtain⟨k,rfl⟩:∃ k:Nat,d=-(k:Int):=⟨d.natAbs,by omega⟩;rw[Rat.divInt_neg',Int.natAbs_neg,Int.natAbs_natCast,Rat.divInt_ofNat]
   congr 1
   rw[Dv h1]
   simp only[sg]
   by_cases hn:n < 0 <;> simp[hn] <;> omega
 · exact absurd h1 h
 · obtain⟨k,rfl⟩:∃ k:Nat,d=(k:Int):=⟨d.natAbs,by omega⟩;rw[Int.natAbs_natCast,Rat.divInt_ofNat]
   congr 1
   rw[Du (by omega:¬ (k:Int)<0)]
   simp only[sg]
   by_cases hn:n < 0 <;> simp[hn] <;> omega
theorem Bg {v:Value}{q:Rat}{k:Nat}{w:World}(hv:FV w v q) (hk:Fits k q) (hK:k≤400000000) :
 Calls Tryz.prog 55 #[v] w (ie (-q) w):=by
 obtain⟨l,A,ca,la,B,cb,lb,rfl,na,nb,iq⟩:=hv;have hf:=El iq hk;have h0:=QIs.den_ne iq;obtain⟨r,hr⟩:∃ r,Hid (-q=r):=⟨_,rfl⟩;have y:=Dj iq;clear iq;obtain⟨w0,C,t,c,x⟩:=ag w #[.bool l,.slice A la.length ca,.slice B lb.length cb] 28;obtain⟨w1,D,j,z,n⟩:=ag w0 #[.bool false,.slice none 0 0,.slice none 0 0] 28;have g:=x.keep j;have x0:=g.f0;have x1:=g.f1;have x2:=g.f2;have d:=t.trans (j.mono (Nat.le_of_lt c));rw[hr.out];go_enter Tryz.func55,Tryz.ntmps55;go_wp2_with fail;refine (iQ (na.below d) (nb.below d) h0 (by omega) (by omega)).mono ?_;rintro e w3 ⟨v,rfl,⟨n1,A1,c1,l1,B1,d1,m1,rfl,ma,mb,hQ⟩,b3⟩;rw[CU y.out,hr.out] at hQ;have p:=Dj hQ;clear hQ;have b:=n.keep b3;have h:=d.trans (b3.mono (by omega));have y0:=b.f0;have y1:=b.f1;have y2:=b.f2;have z0:=b.free 0;have z1:=b.free 1;have z2:=b.free 2;go_wp2;obtain⟨w9,m,f,o9⟩:=b.set3 (.bool n1) (.slice A1 l1.length c1) (.slice B1 m1.length d1);rw[m];have e0:=f.f0;have e1:=f.f1;have e2:=f.f2;refine D4 (v:=aZ n1 A1 l1.length c1 B1 m1.length d1) (by simp[results,Tryz.results55,go_sem,e0,e1,e2]) rfl ?_;have o:=ma.only_blk b (ar _ _ _ _ _ _ _) o9;have s:=mb.only_blk b (ar _ _ _ _ _ _ _) o9;exact⟨_,rfl,⟨n1,A1,c1,l1,B1,d1,m1,rfl,o,s,p.out⟩,o9.to_below h (Nat.le_of_lt c) h.size⟩
theorem tV (n d:Int) (w:World) (h1:-9223372036854775808≤n) (h2:n≤9223372036854775807) (h3:-9223372036854775808≤d) (h4:d≤9223372036854775807) (h0:d≠0) :
 Calls Tryz.prog 21 #[.int .i64 n,.int .i64 d] w (tw ((n:Rat) / (d:Rat)) w):=by
 obtain⟨w0,B,r,o,x⟩:=ag w #[.bool false,.slice none 0 0,.slice none 0 0] 28;go_enter Tryz.func21,Tryz.ntmps21;go_wp2_with fail;refine (nj n _ h1 h2).mono ?_;rintro e w1 ⟨A,c,l,rfl,na,ia,la,b1⟩;have k:=Dj ia;clear ia;go_wp2_with fail;refine (nj d _ h3 h4).mono ?_;rintro e w2 ⟨A2,c2,l2,rfl,q,j,z,b2⟩;have f:=Dj j;clear j;go_wp2_with fail;refine (eW (na.below b2) q (by rw[f.out.val];omega) k.out.canon f.out.canon (by omega) (by omega)).mono ?_;rintro e w3 ⟨v,rfl,⟨n1,A1,c1,l1,B1,d1,m1,rfl,ma,mb,hQ⟩,b3⟩;rw[k.out.val,f.out.val,Cw h0] at hQ;have s:=Dj hQ;clear hQ;have g:=((Di b1 b2));have g:=Di g b3;have b:=x.keep g;have m:=r.trans (g.mono (Nat.le_of_lt o));have y0:=b.f0;have y1:=b.f1;have y2:=b.f2;have z0:=b.free 0;have z1:=b.free 1;have z2:=b.free 2;go_wp2;obtain⟨w9,t,h,o9⟩:=b.set3 (.bool n1) (.slice A1 l1.length c1) (.slice B1 m1.length d1);rw[t];have e0:=h.f0;have e1:=h.f1;have e2:=h.f2;refine D4 (v:=.tuple #[aZ n1 A1 l1.length c1 B1 m1.length d1,.int .i64 0]) (by simp[results,Tryz.results21,go_sem,e0,e1,e2]) rfl ?_;have p:=ma.only_blk b (ar _ _ _ _ _ _ _) o9;have y:=mb.only_blk b (ar _ _ _ _ _ _ _) o9;exact⟨_,rfl,⟨n1,A1,c1,l1,B1,d1,m1,rfl,p,y,s.out⟩,o9.to_below m (Dt _) m.size⟩
theorem aO (n:Int) (w:World) (h1:-9223372036854775808≤n) (h2:n≤9223372036854775807) :
 Calls Tryz.prog 11 #[.int .i64 n] w (ie (n:Rat) w):=by
 obtain⟨w0,s,k,h,o⟩:=ag w #[.bool false,.slice none 0 0,.slice none 0 0] 28;have hr:=Dj (show (n:Rat) / ((1:Int):Rat)=(n:Rat) by rw[show ((1:Int):Rat)=1 from rfl];grind);go_enter Tryz.func11,Tryz.ntmps11;go_wp2_with fail;refine (tV n 1 _ h1 h2 (by omega) (by omega) (by omega)).mono ?_;rintro e w1 ⟨v,rfl,⟨n1,A1,c1,l1,B1,d1,m1,rfl,na,nb,hQ⟩,b1⟩;rw[hr.out] at hQ;have l:=Dj hQ;clear hQ;have p:=o.keep b1;have g:=k.trans (b1.mono (Nat.le_of_lt h));obtain⟨w2,t,c,r,d⟩:=ag w1 #[.bool n1,.slice A1 l1.length c1,.slice B1 m1.length d1] 28;have b:=p.keep c;have y0:=b.f0;have y1:=b.f1;have y2:=b.f2;have z0:=b.free 0;have z1:=b.free 1;have z2:=b.free 2;have x0:=d.f0;have x1:=d.f1;have x2:=d.f2;go_wp2;obtain⟨w9,m,f,o9⟩:=b.set3 (.bool n1) (.slice A1 l1.length c1) (.slice B1 m1.length d1);rw[m];have e0:=f.f0;have e1:=f.f1;have e2:=f.f2;refine D4 (v:=aZ n1 A1 l1.length c1 B1 m1.length d1) (by simp[results,Tryz.results11,go_sem,e0,e1,e2]) rfl ?_;have j:=(na.below c).only_blk b (ar _ _ _ _ _ _ _) o9;have q:=(nb.below c).only_blk b (ar _ _ _ _ _ _ _) o9;exact⟨_,rfl,⟨n1,A1,c1,l1,B1,d1,m1,rfl,j,q,l.out⟩,o9.to_below ((Di g c)) (Dt _) (Ds g.size c.size)⟩
theorem Plain.QIs.negIs {neg:Bool}{la lb:List Nat}{q:Rat}(h:QIs neg la lb q):QIs (!neg&&decide (0<la.length)) la lb (-q):=by
 refine⟨by rw[Rat.neg_num,Int.natAbs_neg];exact h.na,h.nb,?_⟩;rw[Rat.neg_num,Bool.eq_iff_iff,Bool.and_eq_true,Bool.not_eq_true',decide_eq_true_eq,decide_eq_true_eq,h.2.2,decide_eq_false_iff_not];have h0:=h.na.zero_iff
 constructor
 · rintro ⟨h1,h2⟩;have:q.num.natAbs≠0:=fun e=>by rw[h0.2 e] at h2;simp at h2
   omega
 · intro h1;refine⟨by omega,h.na.pos (by omega)⟩
theorem tW {v:Value}{q:Rat}{w:World}(hv:FV w v q) :
 Calls Tryz.prog 78 #[v] w (ie (-q) w):=by
 obtain⟨n,A,ca,la,B,cb,lb,rfl,na,nb,iq⟩:=hv;have y:=na.big;have m:=Dj iq.negIs;clear iq;obtain⟨w0,x,r,g,s⟩:=ag w #[.bool n,.slice A la.length ca,.slice B lb.length cb] 28;obtain⟨w1,z,o,t,c⟩:=ag w0 #[.bool false,.slice none 0 0,.slice none 0 0] 28;have l:=s.keep o;have x0:=l.f0;have x1:=l.f1;have x2:=l.f2;have y0:=c.f0;have y1:=c.f1;have y2:=c.f2;have z0:=c.free 0;have z1:=c.free 1;have z2:=c.free 2;have d:=r.trans (o.mono (Nat.le_of_lt g));obtain⟨nz,p⟩:∃ b,decide (0<la.length)=b:=⟨_,rfl⟩;rw[p] at m
 rcases n with _ | _
 · go_enter Tryz.func78,Tryz.ntmps78;go_wp2;obtain⟨w9,h,f,o9⟩:=c.set3 (.bool nz) (.slice A la.length ca) (.slice B lb.length cb);rw[h];have e0:=f.f0;have e1:=f.f1;have e2:=f.f2;refine D4 (v:=aZ nz A la.length ca B lb.length cb) (by simp[results,Tryz.results78,go_sem,e0,e1,e2]) rfl ?_;have j:=(na.below d).only_blk c (ar _ _ _ _ _ _ _) o9;have k:=(nb.below d).only_blk c (ar _ _ _ _ _ _ _) o9;exact⟨_,rfl,⟨_,A,ca,la,B,cb,lb,rfl,j,k,m.out⟩,o9.to_below d (Nat.le_of_lt g) d.size⟩
 · go_enter Tryz.func78,Tryz.ntmps78;go_wp2;obtain⟨w9,h,f,o9⟩:=c.set3 (.bool false) (.slice A la.length ca) (.slice B lb.length cb);rw[h];have e0:=f.f0;have e1:=f.f1;have e2:=f.f2;refine D4 (v:=aZ false A la.length ca B lb.length cb) (by simp[results,Tryz.results78,go_sem,e0,e1,e2]) rfl ?_;have j:=(na.below d).only_blk c (ar _ _ _ _ _ _ _) o9;have k:=(nb.below d).only_blk c (ar _ _ _ _ _ _ _) o9;exact⟨_,rfl,⟨_,A,ca,la,B,cb,lb,rfl,j,k,m.out⟩,o9.to_below d (Nat.le_of_lt g) d.size⟩
theorem zg:pw 2=18446744073709551616:=by decide
theorem sZ {n:Int}(h1:-9223372036854775808≤n) (h2:n≤9223372036854775807):Fits 2 (n:Rat):=by
 refine⟨?_,?_⟩
 · rw[zg,Rat.num_intCast];omega
 · rw[zg,Rat.den_intCast];omega
def sT (zs:List Int):List Value:=zs.map (Value.int .i64)
def IL (w:World) (A:Option Addr) (zs:List Int):Prop:=Sl w A (sT zs)
theorem zG {l:List Int}{k:Nat}(h:k<l.length):(sT l)[k]?=some (.int .i64 (l.getD k 0)):=by simp[sT,Dl h]
theorem IL.below {w w':World}{A:Option Addr}{l:List Int}(h:IL w A l) (hb:Below w.heap.size w w'):IL w' A l:=Sl.below h hb
theorem IL.at {w:World}{A:Option Addr}{l:List Int}(h:IL w A l){k:Nat}(hk:k<l.length):∃ a,A=some a∧a.block<w.heap.size∧w.cell? (a.add k)=some (.int .i64 (l.getD k 0)):=by
 have hl:0<(sT l).length:=by simp[sT];omega
 obtain⟨a,e,h1,h2⟩:=h hl;have b:k<(sT l).length:=by simp[sT];omega
 refine⟨a,e,h1,?_⟩;rw[h2 k b,←zG hk,Dl b]
theorem Blk.il {w:World}{g:Nat}{t:TypeId}{zs:List Int}(h:Blk w g t (sT zs).toArray):IL w (some ⟨g,0,none⟩) zs:=fun hx =>
 ⟨_,rfl,h.lt,fun j hj=>by rw[bO,h.cell j];simp[Dl hj]⟩
theorem zD {zs:List Int}{f:Int→Rat}{k:Nat}(hk:k<zs.length):(zs.map f)[k]?=some (f (zs.getD k 0)):=by
 rw[Dq,Dl hk,Dk,Dl hk];rfl
end Go.Proofs.YtjhkapjadfpimaaGreat
namespace Go.Proofs.YtjhkapjadfpimaaGreat.Plain
set_option linter.unusedVariables false
set_option linter.unusedSimpArgs false
def sm:Nat→(Nat→Rat)→Rat
 | 0,_=>0
 | n+1,f=>sm n f+f n
theorem ak {n:Nat}{f g:Nat→Rat}(h:∀ k,k<n→f k=g k):sm n f=sm n g:=by
 induction n with
 | zero=>rfl
 | succ n ih=>unfold sm;rw[ih fun k hk=>h k (by omega),h n (by omega)]
theorem jG (n:Nat) (f g:Nat→Rat):sm n (fun k=>f k+g k)=sm n f+sm n g:=by
 induction n with
 | zero=>unfold sm;grind
 | succ n ih=>unfold sm;rw[ih];grind
theorem gJ (n:Nat) (c:Rat) (f:Nat→Rat):sm n (fun k=>c*f k)=c*sm n f:=by
 induction n with
 | zero=>unfold sm;grind
 | succ n ih=>unfold sm;rw[ih];grind
theorem uR (n:Nat) (c:Rat) (f:Nat→Rat):sm n (fun k=>f k*c)=sm n f*c:=by
 rw[ak (g:=fun k=>c*f k) (fun k _=>by grind),gJ];grind
theorem BT {n:Nat}{f g:Nat→Rat}(h:∀ k,k<n→f k≤g k):sm n f≤sm n g:=by
 induction n with
 | zero=>exact Rat.le_refl
 | succ n ih =>
  unfold sm;have h1:=ih fun k hk=>h k (by omega);have h2:=h n (by omega)
  grind
theorem qR (n:Nat):sm n (fun _=>0)=0:=by
 induction n with
 | zero=>rfl
 | succ n ih=>unfold sm;rw[ih];grind
theorem uP (m n:Nat) (f:Nat→Nat→Rat):sm n (fun k=>sm m (fun i=>f i k))=sm m (fun i=>sm n (fun k=>f i k)):=by
 induction m with
 | zero=>simp only[sm];exact qR n
 | succ m ih=>simp only[sm];rw[jG,ih]
theorem oS {a b c:Rat}(h:a≤b) (hc:0≤c):a*c≤b*c:=Rat.mul_le_mul_of_nonneg_right h hc
theorem oR {a b c:Rat}(h:a≤b) (hc:0≤c):c*a≤c*b:=Rat.mul_le_mul_of_nonneg_left h hc
end Go.Proofs.YtjhkapjadfpimaaGreat.Plain
