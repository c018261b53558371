/- Contracts of functions, for the law. -/
import Derived.Test.YtjhkapjadfpimaaGreatMSys
namespace Go.Proofs.YtjhkapjadfpimaaGreat
set_option linter.unusedVariables false
set_option linter.unusedSimpArgs false
open Go.RowKit Plain
set_option maxRecDepth 100000
set_option maxHeartbeats 40000000
def AllP (P:Value→Prop) (cs:Array Value):Prop:=∀ (i:Nat) (u:Value),cs[i]?=some u→P u
def AllPL (P:Value→Prop) (l:List Value):Prop:=∀ u∈l,P u
theorem AllPL.toAll {P:Value→Prop}{l:List Value}{cs:Array Value}(h:AllPL P l) (e:cs.toList=l):AllP P cs:=fun i u hi=>by
 have:cs.toList[i]?=some u:=by rw[←hi];simp
 rw[e] at this;exact h _ (a1n this)
theorem AllP.list {P:Value→Prop}{cs:Array Value}(h:AllP P cs):AllPL P cs.toList:=fun u hu=>by
 obtain⟨i,hi⟩:=List.getElem?_of_mem hu;exact h i u (by simpa using hi)
theorem AllPL.append {P:Value→Prop}{a b:List Value}(ha:AllPL P a) (hb:AllPL P b):AllPL P (a++b):=fun u hu=>by
 rcases a3b.1 hu with h | h
 · exact ha u h
 · exact hb u h
theorem AllPL.take {P:Value→Prop}{a:List Value}(ha:AllPL P a) (n:Nat):AllPL P (a.take n):=fun u hu=>ha u (a2k hu)
theorem AllPL.drop {P:Value→Prop}{a:List Value}(ha:AllPL P a) (n:Nat):AllPL P (a.drop n):=fun u hu=>ha u (a2l hu)
theorem oU {P:Value→Prop}{z:Array Value}(h:AllP P z) (hs:0<z.size) (n:Nat):AllPL P (Builtin.zeroCells z n).toList:=fun u hu=>by
 simp only[Builtin.zeroCells,Array.toList_map,a2v] at hu
 obtain⟨i,_,rfl⟩:=hu;have hi:i % z.size<z.size:=a3l _ hs;refine h (i % z.size) _ ?_;rw[getElem!_pos z _ hi,Array.getElem?_eq_getElem hi]
def OwnG (E:TypeId) (C:Nat) (P:Value→Prop) (w:World) (base:Nat) (v:Value) (n:Nat) (xs:List Value):Prop :=
 w.ownsRow base E C v n xs∧∀ g,v.ownBlock=some g→∃ cur,Blk w g E cur∧AllP P cur
section
variable {E T:TypeId}{C:Nat}{P:Value→Prop}
theorem OwnG.nil (w:World) (base:Nat):OwnG E C P w base (.slice none 0 0) 0 []:=⟨World.ownsRow_nil w base _ _,fun g h=>by simp[Value.ownBlock] at h⟩
theorem OwnG.below {w w':World}{base n:Nat}{v:Value}{xs:List Value}(h:OwnG E C P w base v n xs) (hb:Below w.heap.size w w'):OwnG E C P w' base v n xs :=
 ⟨h.1.kept (row:=none) ⟨hb.os,hb.tape,hb.output,hb.size,fun k hk _=>hb.block k hk⟩ (by cases hv:v.ownBlock <;> simp),fun g hg=>by
  obtain⟨cur,h1,h2⟩:=h.2 g hg;exact⟨cur,h1.keep hb,h2⟩⟩
theorem OwnG.block {w:World}{base g n:Nat}{v:Value}{xs:List Value}(h:OwnG E C P w base v n xs) (hg:v.ownBlock=some g):base≤g:=by
 rcases h.1.2 with ⟨rfl,_⟩ | ⟨g',b,c,rfl,hb,_⟩
 · simp[Value.ownBlock] at hg
 · simp[Value.ownBlock] at hg;omega
theorem Nv.own {w w':World}{base c n:Nat}{A:Option Addr}{l:List Nat}{v:Value}{xs:List Value}(hd:∀ d,¬ P (.int .u32 d)) (h:Nv w A c l) (hown:OwnG E C P w base v n xs) (hg:w.grownBy w' v.ownBlock):Nv w' A c l:=by
 cases hb:v.ownBlock with
 | none =>
  rw[hb] at hg;exact h.below ⟨hg.os,hg.tape,hg.output,hg.size,fun k hk=>hg.block k hk (by simp)⟩
 | some g =>
  rw[hb] at hg;obtain⟨b,h1,h2⟩:=hown.2 g hb;exact h.only_blk h1 (fun i d hi=>hd d (h2 i _ hi)) hg
theorem FV.own {w w':World}{base n:Nat}{u v:Value}{q:Rat}{xs:List Value}(hd:∀ d,¬ P (.int .u32 d)) (h:FV w u q) (hown:OwnG E C P w base v n xs) (hg:w.grownBy w' v.ownBlock):FV w' u q:=by
 obtain⟨c,A,ca,la,B,cb,lb,e,ha,b,hq⟩:=h;exact⟨c,A,ca,la,B,cb,lb,e,ha.own hd hown hg,b.own hd hown hg,hq⟩
theorem Srow.only_p {α:Type}{D:Nat}{cells:α→List Value}{w w':World}{g c:Nat}{t:TypeId}{cs:Array Value}{A:Option Addr}{ds:List α}(hb:∀ d,∃ (i:Nat) (u:Value),(cells d)[i]?=some u∧¬ P u)
 (h:Srow w D cells A c ds) (hB:Blk w g t cs) (hs:AllP P cs) (ho:Only w w' g):Srow w' D cells A c ds :=
 ⟨h.1,h.2.1,fun j hj=>by
  obtain⟨a,e,h1,h2⟩:=h.2.2 j hj
  have hne:a.block≠g:=fun hg=>by
   obtain⟨i,u,hib,hnp⟩:=hb ds[j];have h3:=h2 i _ hib;unfold Blk at hB
   unfold World.cell? at h3
   rw[f7,hg,hB] at h3
   simp only at h3
   split at h3
   · cases h3
   · exact hnp (hs _ _ h3)
  have hk:=ho.block a.block h1 (by simpa using hne)
  exact⟨a,e,a1o h1 ho.size,fun i u hu=>by
   rw[a4a (w:=w) (by rw[f7];exact hk)];exact h2 i u hu⟩⟩
theorem Srow.own {α:Type}{D:Nat}{cells:α→List Value}{w w':World}{base c n:Nat}{A:Option Addr}{ds:List α}{v:Value}{xs:List Value}(hb:∀ d,∃ (i:Nat) (u:Value),(cells d)[i]?=some u∧¬ P u)
 (h:Srow w D cells A c ds) (hown:OwnG E C P w base v n xs) (hg:w.grownBy w' v.ownBlock):Srow w' D cells A c ds:=by
 cases hv:v.ownBlock with
 | none =>
  rw[hv] at hg;exact h.below ⟨hg.os,hg.tape,hg.output,hg.size,fun k hk=>hg.block k hk (by simp)⟩
 | some g =>
  rw[hv] at hg;obtain⟨b,h1,h2⟩:=hown.2 g hv;exact h.only_p hb h1 h2 hg
theorem FL.own {w w':World}{base c n:Nat}{A:Option Addr}{ds:List FrD}{v:Value}{xs:List Value}(hd:∀ d,¬ P (.int .u32 d)) (hp:¬ P (.bool true)∧¬ P (.bool false)) (h:FL w A c ds) (hown:OwnG E C P w base v n xs) (hg:w.grownBy w' v.ownBlock):FL w' A c ds :=
 ⟨h.row.own (P:=P) (fun d=>⟨0,.bool d.neg,rfl,by cases d.neg with | false=>exact hp.2 | true=>exact hp.1⟩) hown hg,fun d hx=>(h.fv d hx).own hd hown hg⟩
theorem X4 {z:Value}{b:Nat}(w:World) (base:Nat) (v:Value) (n:Nat) (xs:List Value) (hT:Tryz.prog.underlying T=some (.slice E)) (hI:(Tryz.prog.info? E).map (fun i=>(i.zero,i.size,i.bytes))=some (some z,C,b)) (hzs:z.cells.size=C) (hC:0<C) (hzP:AllP P z.cells) (hb:b≤100)
 (hown:OwnG E C P w base v n xs) (ad:Addr) (m c:Nat) (news:List Value) (hm:0<m) (hl:news.length=m*C) (hnews:∀ j u,news[j]?=some u→w.cell? (ad.add j)=some u) (h1:∀ u∈news,u.oneCell'=true) (hnP:AllPL P news)
 (h63:n+m≤1000000000000) (hbase:base≤w.heap.size) (hxP:AllPL P xs) :
 ∃ v' w',(Builtin.append_ #[T,T] T #[v,.slice (some ad) m c]).run Tryz.prog w=.ok v' w'∧OwnG E C P w' base v' (n+m) (xs++news)∧w.grownBy w' v.ownBlock:=by
 obtain⟨i,hi,t,h,r⟩:=info_parts hI;have J:maxLen=9223372036854775807:=rfl;have s:∀ k,k≤1000000000000→k*b≤140737488355328:=fun k hk=>a1t (Nat.mul_le_mul hk hb) (by omega);obtain⟨v',w',p,h2,h3,_⟩:=run_append_own (P:=Tryz.prog) w base T T E i z C b hT hi t h r hzs hC v n xs hown.1 ad m c news hl hnews h1 (by omega) (s _ h63) hbase;refine⟨v',w',p,⟨h2,?_⟩,h3⟩
 have x:∀ v2 w2,(Builtin.append_ #[T,T] T #[v,.slice (some ad) m c]).run Tryz.prog w=.ok v2 w2→(∀ g,v2.ownBlock=some g→∃ d,Blk w2 g E d∧AllP P d)→∀ g,v'.ownBlock=some g→∃ d,Blk w' g E d∧AllP P d:=by
  intro v2 w2 hr hk;rw[p] at hr
  injection hr with e1 e2
  subst e1 e2;exact hk
 rcases hown.1.2 with ⟨rfl,h0⟩ | ⟨g,o,d,rfl,H,hg,I,G,D,F⟩
 · have hr:=run_append_nil (P:=Tryz.prog) w T T E i z hT hi t ad m c news (by rw[h];exact hl) hnews hm (by omega) (by rw[r];have:=s m (by omega);omega);refine x _ _ hr fun g hg=>?_
   simp[Value.ownBlock] at hg
   subst hg;exact⟨_,heap_alloc_new w.drew _,AllPL.toAll (hnP.append (oU hzP (by omega) (grownCap w m 0 E-m))) (by simp)⟩
 · by_cases hroom:n+m≤o
   · have B:n*i.size+news.length≤d.size:=by rw[h,hl,D,←a3k];exact a1y _ hroom
     have hr:=run_append_room (P:=Tryz.prog) w T T E i hT hi g n o d hg ad m c news (by rw[h];exact hl) hnews h1 hroom B;refine x _ _ hr fun g' l=>?_
     simp[Value.ownBlock] at l
     subst l;obtain⟨q,f,A⟩:=hown.2 g rfl
     have ec:q=d:=by
      unfold Blk at f;rw[hg] at f
      injection f with f
      injection f with f _ _
      exact f.symm
     subst ec;exact⟨_,setRow_heap w g q _ _ _ hg,AllPL.toAll (((A.list.take (n*i.size)).append hnP).append (A.list.drop (n*i.size+news.length))) rfl⟩
   · have y:∀ j u,xs[j]?=some u→w.cell? ((⟨g,0,none⟩:Addr).add j)=some u:=hown.1.cells (g:=g) rfl;have hr:=run_append_grow (P:=Tryz.prog) w T T E i z hT hi t ⟨g,0,none⟩ n o xs (by rw[h];exact hown.1.1) y ad m c news (by rw[h];exact hl) hnews (by omega) (by omega) (growslice_fits (by omega) (by rw[r];exact s _ h63));refine x _ _ hr fun g' l=>?_
     simp[Value.ownBlock] at l
     subst l;exact⟨_,heap_alloc_new w.drew _,AllPL.toAll ((hxP.append hnP).append (oU hzP (by omega) (grownCap w (n+m) o E-(n+m)))) (by simp)⟩
end
structure RwD where
 a:Option Addr
 c:Nat
 ds:List FrD
abbrev RwD.v (r:RwD):Value:=.slice r.a r.ds.length r.c
def RwD.cells (r:RwD):List Value:=[r.v]
def RwD.qs (r:RwD):List Rat:=r.ds.map FrD.q
theorem RwD.qs_len (r:RwD):r.qs.length=r.ds.length:=by simp[RwD.qs]
structure ML (w:World) (A:Option Addr) (c:Nat) (rows:List RwD):Prop where
 row:Srow w 1 RwD.cells A c rows
 fl:∀ r∈rows,FL w r.a r.c r.ds
def B9 (rows:List RwD):C4:=rows.map RwD.qs
theorem p8 (rows:List RwD):(B9 rows).length=rows.length:=by simp[B9]
theorem ML.below {w w':World}{A:Option Addr}{c:Nat}{rows:List RwD}(h:ML w A c rows) (hb:Below w.heap.size w w'):ML w' A c rows:=⟨h.row.below hb,fun r hr=>(h.fl r hr).below hb⟩
theorem ML.len {w:World}{A:Option Addr}{c:Nat}{rows:List RwD}(h:ML w A c rows):rows.length≤c∧c≤9223372036854775807:=⟨h.row.1,h.row.2.1⟩
theorem ML.at {w:World}{A:Option Addr}{c:Nat}{rows:List RwD}(h:ML w A c rows){k:Nat}(hk:k<rows.length) :
 ∃ a r,A=some a∧a.block<w.heap.size∧w.cell? (a.add k)=some (.slice r.a r.ds.length r.c)∧FL w r.a r.c r.ds∧Hid (rows[k]?=some r):=by
 obtain⟨a,e,h1,h2⟩:=h.row.2.2 k hk;have h3:=h2 0 _ rfl;rw[Nat.mul_one,Nat.add_zero] at h3;exact⟨a,rows[k],e,h1,h3,h.fl _ (a1z hk),a1m hk⟩
def QFits (K:Nat) (l:List Rat):Prop:=∀ q∈l,Fits K q
def MFits (K:Nat) (M:C4):Prop:=∀ r∈M,QFits K r
theorem QFits.mono {J K:Nat}{l:List Rat}(h:QFits J l) (hk:J≤K):QFits K l:=fun q hq=>(h q hq).mono hk
theorem MFits.mono {J K:Nat}{M:C4}(h:MFits J M) (hk:J≤K):MFits K M:=fun r hr=>(h r hr).mono hk
theorem QFits.fr {K:Nat}{ds:List FrD}(h:QFits K (ds.map FrD.q)):∀ d∈ds,Fits K d.q:=fun d hd=>h _ (a2v.2 ⟨d,hd,rfl⟩)
theorem QFits.of {K:Nat}{ds:List FrD}(h:∀ d∈ds,Fits K d.q):QFits K (ds.map FrD.q):=fun q hq=>by obtain⟨d,hd,rfl⟩:=a2v.1 hq;exact h d hd
theorem MFits.row {K:Nat}{rows:List RwD}(h:MFits K (B9 rows)){k:Nat}{r:RwD}(hk:rows[k]?=some r):QFits K r.qs:=h _ (a2v.2 ⟨r,a1n hk,rfl⟩)
def IsSl (u:Value):Prop:=∃ A n c,u=.slice A n c
theorem lY (d:Int):¬ IsSl (.int .u32 d):=by rintro ⟨A,n,c,h⟩;cases h
theorem nZ (b:Bool):¬ IsSl (.bool b):=by rintro ⟨A,n,c,h⟩;cases h
theorem aH (rows:List RwD):AllPL IsSl (rows.flatMap RwD.cells):=fun u hu=>by
 obtain⟨r,_,hr⟩:=List.mem_flatMap.1 hu
 simp[RwD.cells] at hr
 exact⟨_,_,_,hr⟩
theorem oL (rows:List RwD):(rows.flatMap RwD.cells).length=rows.length*1:=by
 induction rows with
 | nil=>rfl
 | cons r rs ih=>rw[List.flatMap_cons,a1x,ih];simp[RwD.cells];omega
def OwnM (w:World) (base:Nat) (v:Value) (rows:List RwD):Prop:=OwnG 22 1 IsSl w base v rows.length (rows.flatMap RwD.cells)
theorem OwnM.nil (w:World) (base:Nat):OwnM w base (.slice none 0 0) []:=OwnG.nil w base
theorem xU:(Tryz.prog.info? 22).map (fun i=>(i.zero,i.size,i.bytes))=some (some (.slice none 0 0),1,24):=by kernel_rfl
/-- A row is appended. -/
theorem fK {T:TypeId}(hT:Tryz.prog.underlying T=some (.slice 22)) (w:World) (base:Nat) (v:Value) (rows:List RwD) (hown:OwnM w base v rows) (ad:Addr) (c:Nat) (r:RwD) (hnews:w.cell? ad=some r.v) (h63:rows.length+1≤1000000000000) (hbase:base≤w.heap.size) :
 ∃ v' w',(Builtin.append_ #[T,T] T #[v,.slice (some ad) 1 c]).run Tryz.prog w=.ok v' w'∧OwnM w' base v' (rows++[r])∧w.grownBy w' v.ownBlock:=by
 obtain⟨v',w',h1,h2,h3⟩:=X4 w base v rows.length _ hT xU rfl (by decide) (fun i u hi=>by
  match i with
  | 0=>injection hi with hi;exact⟨_,_,_,hi.symm⟩
  | i+1=>simp[Value.cells] at hi) (by decide) hown ad 1 c r.cells (by decide) rfl (fun j u hj=>by
  match j with
  | 0=>injection hj with hj;subst hj;simpa [Addr.add] using hnews
  | j+1=>simp[RwD.cells] at hj) (fun u hu=>by simp[RwD.cells] at hu;subst hu;rfl) (fun u hu=>by simp[RwD.cells] at hu;exact⟨_,_,_,hu⟩) h63 hbase (aH rows)
 refine⟨v',w',h1,?_,h3⟩;unfold OwnM;rw[a1x,List.flatMap_append]
 simpa using h2
theorem J1 {ops:Array Oper}{rest:List Oper}{o:Oper}{a:Act}{Q:Exit→Act→World→Prop}(hgd:o.guard=none){T:TypeId}(hT:Tryz.prog.underlying T=some (.slice 22)) (hty:o.type=T) (s x:Operand)
 (ho:o.op=.call { callee:=.builtin .append,args:=#[s,x],argTypes:=#[T,T] }) {w:World}
 (base:Nat) (v:Value) (rows:List RwD) (hs:a.eval s=v) (hown:OwnM w base v rows) (ad:Addr) (c:Nat) (r:RwD) (hx:a.eval x=.slice (some ad) 1 c) (hnews:w.cell? ad=some r.v)
 (h63:rows.length+1≤1000000000000) (hbase:base≤w.heap.size)
 (h:∀ v' w',OwnM w' base v' (rows++[r])→w.grownBy w' v.ownBlock→wpList Tryz.prog ops Q rest (a.put o.dst v') w'):wpList Tryz.prog ops Q (o::rest) a w:=by
 refine wpList_plain hgd fun K hK=>?_;obtain⟨v',w',b,h2,h3⟩:=fK hT w base v rows hown ad c r hnews h63 hbase
 unfold Oper.wp execOp
 simp only[ho,hty,resolve,invoke,builtin,Sem.run_bind,Sem.run_pure,Result.andThen_ok,List.map_toArray,List.map_cons,List.map_nil,hs,hx,b]
 exact hK _ _ (h v' w' h2 h3)
theorem FL.ownM {w w':World}{base c:Nat}{A:Option Addr}{ds:List FrD}{v:Value}{rows:List RwD}(h:FL w A c ds) (hown:OwnM w base v rows) (hg:w.grownBy w' v.ownBlock):FL w' A c ds:=h.own lY ⟨nZ _,nZ _⟩ hown hg
theorem OwnM.below {w w':World}{base:Nat}{v:Value}{rows:List RwD}(h:OwnM w base v rows) (hb:Below w.heap.size w w'):OwnM w' base v rows:=OwnG.below h hb
theorem flat1 {rows:List RwD}{j:Nat}(hj:j<rows.length):(rows.flatMap RwD.cells)[j]?=some (rows[j]).v:=by
 have h:∀ (rows:List RwD) (j:Nat) (hj:j<rows.length),(rows.flatMap RwD.cells)[j]?=some (rows[j]).v:=by
  intro rows
  induction rows with
  | nil=>intro j hj;simp at hj
  | cons r rs ih =>
   intro j hj
   cases j with
   | zero=>rfl
   | succ j =>
    rw[List.flatMap_cons,show r.cells++rs.flatMap RwD.cells=r.v::rs.flatMap RwD.cells from rfl,List.getElem?_cons_succ,ih j (by simpa using hj)]
    rfl
 exact h rows j hj
theorem OwnM.ml {w:World}{base:Nat}{v:Value}{rows:List RwD}(h:OwnM w base v rows) (hv:∀ r∈rows,FL w r.a r.c r.ds):∃ A c,v=.slice A rows.length c∧ML w A c rows:=by
 rcases h.1.2 with ⟨rfl,h0⟩ | ⟨g,cap,d,rfl,hb,hg,hn,hm,hs,ht⟩
 · have:rows=[]:=a2a h0;subst this;exact⟨none,0,rfl,⟨by simp,by omega,fun j hj=>by simp at hj⟩,hv⟩
 · have b:maxLen=9223372036854775807:=rfl;refine⟨_,cap,rfl,⟨hn,by omega,fun j hj=>⟨_,rfl,(Array.getElem?_eq_some_iff.1 hg).1,fun i u hu=>?_⟩⟩,hv⟩
   have hi:i=0:=by
    have:=(a2e.1 hu).1
    simpa [RwD.cells] using this
   subst hi;rw[Nat.mul_one,Nat.add_zero,D6,World.ownsRow.cellAt (n:=rows.length) (base:=base) (e:=22) (size:=1) (cap:=cap) h.1 j (by omega),flat1 hj];exact hu
attribute [local go_sem ↓] Go.wp_at_zero Go.wp_at_succ
def mY (x:Int) (W:World) (e:Ending) (w':World):Prop:=e=.returned (.int .i64 x)∧Below W.heap.size W w'
theorem F4 {v:Value}{q:Rat}{w:World}(hv:FV w v q) :
 Calls Tryz.prog 28 #[v] w (mY (D0 q 0) w):=by
 obtain⟨d,A,ca,la,B,cb,lb,rfl,na,nb,iq⟩:=hv;have j:=na.big;have hc:=q_sign iq;clear iq;obtain⟨w0,f,b,g,c⟩:=f8 w #[.bool d,.slice A la.length ca,.slice B lb.length cb] 28;have x0:=c.f0;have x1:=c.f1;have x2:=c.f2;rw[hc]
 rcases la with _ | ⟨a,la⟩
 · rw[if_pos rfl];go_enter Tryz.func28,Tryz.ntmps28;go_wp2;go_ret;exact⟨rfl,by first | exact b | (subst f;exact b)⟩
 · have h:((((a::la).length:Nat):Int) == 0)=false:=by rw[beq_eq_false_iff_ne,a3r];omega
   rw[if_neg (by simp)]
   generalize (a::la).length=n at *
   rcases d with _ | _
   · go_enter Tryz.func28,Tryz.ntmps28;go_wp2;go_ret;exact⟨rfl,b⟩
   · go_enter Tryz.func28,Tryz.ntmps28;go_wp2;go_ret;exact⟨rfl,b⟩
def gL {α:Type}(f:α→Bool) (l:List α) (w:World) (i:Value) (wr:World):Prop :=
 ∃ k:Nat,k≤l.length∧i=.int .i64 (k:Int)∧Hid ((l.take k).all f=true)∧Below w.heap.size w wr
theorem aP {α:Type}{f:α→Bool}{l:List α}{k:Nat}{x:α}(h:(l.take k).all f=true) (hk:l[k]?=some x) (hx:f x=true):(l.take (k+1)).all f=true:=by
 rw[a3e,hk,List.all_append,h];simp[hx]
theorem Y8 {α:Type}{f:α→Bool}{l:List α}{k:Nat}{x:α}(hk:l[k]?=some x) (h:f x=false):l.all f=false:=by
 rw[List.all_eq_false];exact⟨x,a1n hk,by rw[h];decide⟩
def PairInv {α:Type}(xs ys:List α) (w:World) (i:Value) (wr:World):Prop :=
 ∃ k:Nat,k≤xs.length∧i=.int .i64 (k:Int)∧Hid (xs.take k=ys.take k)∧Below w.heap.size w wr
theorem zU {α:Type}{xs ys:List α}{k:Nat}{x:α}(h:xs.take k=ys.take k) (hx:xs[k]?=some x) (hy:ys[k]?=some x):xs.take (k+1)=ys.take (k+1):=by
 rw[a3e,a3e,h,hx,hy]
theorem pair_no {α:Type}{xs ys:List α}{k:Nat}{x y:α}(hx:xs[k]?=some x) (hy:ys[k]?=some y) (hn:x≠y):xs≠ys:=fun e=>by
 subst e;rw[hx] at hy
 injection hy with hy
 exact hn hy
theorem map_some {α β:Type}{f:α→β}{l:List α}{k:Nat}{d:α}(h:l[k]?=some d):(l.map f)[k]?=some (f d):=by rw[a1r,h];rfl
def RetIB (n:Nat) (b:Bool) (W:World) (e:Ending) (w':World):Prop:=e=.returned (.tuple #[.int .i64 (n:Int),.bool b])∧Below W.heap.size W w'
def RetLs (qs:List Rat) (W:World) (e:Ending) (w':World):Prop:=∃ A c ds,e=.returned (.slice A ds.length c)∧FL w' A c ds∧Hid (ds.map FrD.q=qs)∧Below W.heap.size W w'
def RetM (M:C4) (W:World) (e:Ending) (w':World):Prop:=∃ A c rows,e=.returned (.slice A rows.length c)∧ML w' A c rows∧Hid (B9 rows=M)∧Below W.heap.size W w'
theorem FL.nil (w:World):FL w none 0 []:=⟨⟨by simp,by omega,fun j hj=>by simp at hj⟩,fun d hd=>by simp at hd⟩
theorem ML.nil (w:World):ML w none 0 []:=⟨⟨by simp,by omega,fun j hj=>by simp at hj⟩,fun d hd=>by simp at hd⟩
def FOkM (w:World) (A:Option Addr) (c:Nat) (ds:List FrD):Prop:=Srow w 3 FrD.cells A c ds∧∀ f∈ds,f.ok w
theorem FOkM.below {w w':World}{A:Option Addr}{c:Nat}{ds:List FrD}(h:FOkM w A c ds) (hb:Below w.heap.size w w'):FOkM w' A c ds:=⟨h.1.below hb,fun f hf=>(h.2 f hf).below hb⟩
theorem FOkM.at {w:World}{A:Option Addr}{c:Nat}{ds:List FrD}(h:FOkM w A c ds){k:Nat}(hk:k<ds.length) :
 ∃ a d,A=some a∧a.block<w.heap.size∧w.cell? (a.add (k*3))=some (.bool d.neg)∧w.cell? ⟨(a.add (k*3)).block,(a.add (k*3)).off+1,none⟩=some (.slice d.a d.la.length d.ca) ∧
  w.cell? ⟨(a.add (k*3)).block,(a.add (k*3)).off+2,none⟩=some (.slice d.b d.lb.length d.cb)∧d.ok w∧Hid (ds[k]?=some d):=by
 obtain⟨a,e,h1,h2⟩:=h.1.2.2 k hk
 have hc:∀ i u,(ds[k]).cells[i]?=some u→w.cell? ((a.add (k*3)).add i)=some u:=fun i u hu=>by
  rw[add_add];exact h2 i u hu
 exact⟨a,ds[k],e,h1,jM (hc 0 _ rfl),gI (hc 1 _ rfl) (by decide),gI (hc 2 _ rfl) (by decide),h.2 _ (a1z hk),a1m hk⟩
def MulInv (la lb:List Nat) (w:World) (g:Nat) (i:Value) (wr:World):Prop :=
 ∃ (k:Nat) (o:List Nat),k≤la.length∧i=.int .i64 k∧Hid (o.length=k+lb.length)∧Dig o ∧
  Row wr g (o++List.replicate (la.length-k) 0)∧Hid (val o=val (la.take k)*val lb)∧Below w.heap.size w wr
def yJ (la lb:List Nat) (k da V:Nat) (z:List Nat) (w:World) (g:Nat) (c i:Value) (wr:World):Prop :=
 ∃ (j cv:Nat) (lo hi:List Nat),j≤lb.length∧i=.int .i64 j∧c=.int .u64 cv∧cv<4294967296∧Hid (lo.length=k+j)∧Hid (hi.length=lb.length-j)∧Dig lo∧Dig hi ∧
  Row wr g (lo++hi++z)∧Hid (val lo+pw (k+j)*cv+pw (k+j)*val hi=V+pw k*(da*val (lb.take j)))∧Below w.heap.size w wr
theorem sI {w:World}{g k j h:Nat}{lo hi z:List Nat}(hrow:Row w g (lo++h::hi++z)) (hlo:Hid (lo.length=k+j)):w.cell? ⟨g,k+j,none⟩=some (.int .u32 (h:Int)):=by
 have:=hrow.cell (i:=k+j) (by simp[hlo.out]);rw[this]
 congr 3
 rw[List.append_assoc,a1l,←hlo.out,a2b (a1u _)]
 simp
theorem a0a {w:World}{g k n m:Nat}{lo hi:List Nat}(hrow:Row w g (lo++hi++List.replicate (m-k) 0)) (hlo:Hid (lo.length=k+n)) (hhi:Hid (hi.length=n-n)) (hk:k<m):w.cell? ⟨g,k+n,none⟩=some (.int .u32 (0:Int)):=by
 obtain rfl:hi=[]:=a2a (by rw[hhi.out];omega);rw[O3 hk] at hrow;exact sI (hi:=[]) (h:=0) (z:=List.replicate (m-(k+1)) 0) (hrow.eq (by simp)) hlo
theorem zZ (P x c h v y da db t:Nat) (ht:t=da*db+h+c) (hs:x+P*c+P*(h+4294967296*v)=y) :
 x+P*(t % 4294967296)+4294967296*P*(t / 4294967296)+4294967296*P*v=y+P*(da*db):=by
 have h1:P*t=P*(t % 4294967296)+4294967296*P*(t / 4294967296):=by
  rw[a3d 4294967296 P,a3c,←a2y,Nat.mod_add_div]
 have h2:P*t=P*(da*db)+P*h+P*c:=by rw[ht,a2y,a2y]
 have h3:P*(h+4294967296*v)=P*h+4294967296*P*v:=by rw[a2y,←a3c,a3d P 4294967296]
 omega
theorem mul_step {la lb:List Nat}{k da da' db p V:Nat}{z:List Nat}{w wr:World}{g j cv h:Nat}{lo hi:List Nat}(hda:da'=da) (hp:Hid (da'*db=p)) (hjl:j<lb.length) (hcv:cv<4294967296)
 (hlo:Hid (lo.length=k+j)) (hhi:Hid ((h::hi).length=lb.length-j)) (hlod:Dig lo) (hhid:Dig (h::hi)) (hda2:da'<4294967296) (hpb:p≤18446744065119617025) (hgb:Hid (lb.getD j 0=db))
 (hrow:Row wr g (lo++h::hi++z)) (hval:Hid (val lo+pw (k+j)*cv+pw (k+j)*val (h::hi)=V+pw k*(da*val (lb.take j)))) (hbel:Below w.heap.size w wr) (nq:Nat)
 (x c' i':Int) (hx:x=((p:Int)+(h:Int)+(cv:Int)) % 4294967296) (hc:c'=((p:Int)+(h:Int)+(cv:Int)) / 4294967296) (hi':i'=(j:Int)+1) (hg:w.heap.size≤g:=by exact a1u _) :
 yJ la lb k da V z w g (.int .u64 c') (.int .i64 i') ((wr.drewN nq).setCell ⟨g,k+j,none⟩ (.int .u32 x)):=by
 have hh:=hhid.head;refine⟨j+1,(p+h+cv) / 4294967296,lo++[(p+h+cv) % 4294967296],hi,by omega,by rw[hi'];rfl,by rw[hc];congr 1,by omega,?_,?_,hlod.snoc (a3l _ (by omega)),hhid.tail,?_,?_,(G1 hbel nq).setCell hg _⟩
 · show (lo++[_]).length=k+(j+1)
   rw[a1x,hlo.out];rfl
 · show hi.length=lb.length-(j+1)
   have:=hhi.out
   simp only[a3r] at this
   omega
 · have h1:Row (wr.drewN nq) g (lo++h::(hi++z)):=hrow.eq (by simp);exact (h1.push hlo.out x (x:=(p+h+cv) % 4294967296) (by rw[hx];rfl)).eq (by simp)
 · show val (lo++[_])+pw (k+j+1)*_+pw (k+j+1)*_=_
   rw[E8,hlo.out,m7,pw,hgb.out];have h2:=zZ (pw (k+j)) (val lo) cv h (val hi) _ da db (p+h+cv) (by rw[←hp.out,hda]) hval.out;rw[h2,a2y,a2y,bR,Nat.add_assoc]
   congr 2
   rw[Nat.mul_left_comm,a3c,Nat.mul_left_comm]
theorem zY {la lb:List Nat}{k da:Nat}{w wr:World}{cv:Nat}{o lo hi:List Nat}(hkl:k<la.length) (hcv:cv<4294967296) (ho:Hid (o.length=k+lb.length)) (hod:Dig o)
 (hlo:Hid (lo.length=k+lb.length)) (hhi:Hid (hi.length=lb.length-lb.length)) (hlod:Dig lo) (hga:Hid (la.getD k 0=da))
 (hrow:Row wr w.heap.size (lo++hi++List.replicate (la.length-k) 0)) (hval:Hid (val o=val (la.take k)*val lb))
 (hval2:Hid (val lo+pw (k+lb.length)*cv+pw (k+lb.length)*val hi=val o+pw k*(da*val (lb.take lb.length)))) (hbel:Below w.heap.size w wr)
 (x i':Int) (hx:x=(cv:Int)) (hi':i'=(k:Int)+1) :
 MulInv la lb w w.heap.size (.int .i64 i') (wr.setCell ⟨w.heap.size,k+lb.length,none⟩ (.int .u32 x)):=by
 obtain rfl:hi=[]:=a2a (by rw[hhi.out];omega);refine⟨k+1,lo++[cv],by omega,by rw[hi'];rfl,?_,hlod.snoc hcv,?_,?_,hbel.setCell (a1u _) _⟩
 · show (lo++[_]).length=_
   rw[a1x,hlo.out];simp;omega
 · rw[O3 hkl,List.append_nil] at hrow;exact hrow.push hlo.out x hx
 · show val (lo++[_])=_
   have h2:=hval2.out;rw[t7 _ _ (a1u _),hval.out] at h2;rw[E8,hlo.out,m7,hga.out,a3k]
   simp only[val,Nat.mul_zero,Nat.add_zero] at h2
   rw[h2,a3c]
theorem aF (A B:Option Addr) (ca cb:Nat) (la lb:List Nat) (w:World) (ha:Nv w A ca la) (hb:Nv w B cb lb) (hna:la.length≤5000000000) (hnb:lb.length≤5000000000) :
 Calls Tryz.prog 51 #[.slice A la.length ca,.slice B lb.length cb] w (K5 (val la*val lb) (la.length+lb.length) w):=by
 have V:=U5 w (la.length+lb.length) .i64 ((la.length:Int)+(lb.length:Int)) (by omega) (by omega);go_enter Tryz.func51,Tryz.ntmps51;go_wp2
 go_loopw [18] (fun i wr=>MulInv la lb w w.heap.size i wr) (fun i _=>la.length-(intOf i).toNat)
 case atStart=>exact⟨0,List.replicate lb.length 0,by omega,rfl,by show _=_;simp,Dig.replicate _,(Row.new _ _).eq (by rw[Nat.add_comm,←List.replicate_append_replicate];rfl),by show val _=_;simp[dI,val],(a3t _ _).alloc (a1u _) _⟩
 case round =>
  obtain⟨k,o,hk,rfl,ho,m,d,s,f⟩:=hrel
  by_cases hkl:k<la.length
  · obtain⟨wo,rfl⟩:∃ wo:World,wo=wr:=⟨_,rfl⟩;have F:=m;go_wp2;obtain⟨a,da,hA,b3,b1,b5,z⟩:=(ha.below f).at hkl
    go_loopw [7,23] (fun c i wr=>yJ la lb k da (val o) (List.replicate (la.length-k) 0) w w.heap.size c i wr) (fun _ i _=>lb.length-(intOf i).toNat)
    case atStart=>exact⟨0,0,o.take k,o.drop k,by omega,rfl,rfl,by omega,by show _=_;rw[a2c,ho.out];omega,by show _=_;rw[a2d,ho.out];omega,m.take _,m.drop _,d.eq (by rw[List.take_append_drop]),by show _=_;rw[Nat.add_zero,Nat.mul_zero,Nat.add_zero,E6 _ _ (by rw[ho.out];omega)];simp[val],f⟩
    case round =>
     obtain⟨j,cv,lo,hi,hj,rfl,rfl,x,n,l,t,r,d,g,f⟩:=hrel
     by_cases hjl:j<lb.length
     · obtain⟨a',X,Z,R,T,v,D⟩:=(ha.below f).at hkl;obtain⟨b,db,rfl,b2,b4,I,G⟩:=(hb.below f).at hjl;subst hA
       obtain⟨h,q,rfl⟩:∃ h q,hi=h::q:=by
        cases hi with
        | nil=>have:=l.out;simp at this;omega
        | cons h q=>exact⟨h,q,rfl⟩
       have M:=r.head;obtain⟨p,hp,L,b0,U,Y⟩:=aG v I M x;have H:=sI d n;have hf:=d.free (k+j);have J:=rB ((k:Int)+(j:Int)) (by omega) (by omega);have E:((k:Int)+(j:Int)).toNat=k+j:=by omega
       have O:(0:Int)≤(k:Int)+(j:Int):=by omega
       have N:(k:Int)+(j:Int)<(la.length:Int)+(lb.length:Int):=by omega
       go_wp2
       go_quiet (fail)
       clear J E;go_wp2;go_roundw
       case rel=>exact mul_step (D.out.symm.trans z.out) hp hjl x n l t r v L G d g f nq _ _ _ rfl rfl rfl
       case measure=>simp[intOf];omega
     · obtain rfl:j=lb.length:=by omega
       have H:=a0a (hi:=hi) d n l hkl;have hf:=d.free (k+lb.length);go_wp2;go_roundw
       case rel=>exact zY hkl x ho F n l t z d s g f _ _ rfl rfl
       case measure=>simp[intOf];omega
  · obtain rfl:k=la.length:=by omega
    have y:Row wr w.heap.size o:=d.eq (by simp);have C:=a1k (show val o=val la*val lb by rw[s.out,t7 _ _ (a1u _)]);go_wp2_with fail;refine (R0 y ho.out m (by omega)).mono ?_;rintro e w2 ⟨l',rfl,h3,h4,h5,rfl⟩;go_wp2;go_ret;exact⟨_,_,l',rfl,h3,C.out ▸ h4,h5,f⟩
def RetNN (m n k:Nat) (W:World) (e:Ending) (w':World):Prop :=
 ∃ (X:Option Addr) (cx:Nat) (x:List Nat) (Y:Option Addr) (cy:Nat) (y:List Nat),e=.returned (.tuple #[.slice X x.length cx,.slice Y y.length cy])∧Nv w' X cx x∧Nv w' Y cy y∧NatIs x m∧NatIs y n∧x.length≤k∧y.length≤k∧Below W.heap.size W w'
theorem iR {n1 n2:Bool}{A B C D:Option Addr}{ca cb cc cd:Nat}{la lb lc ld:List Nat}{w:World}(ha:Nv w A ca la) (hb:Nv w B cb lb) (hc:Nv w C cc lc) (hd:Nv w D cd ld)
 (hla:la.length≤400000000) (hlb:lb.length≤400000000) (hlc:lc.length≤400000000) (hld:ld.length≤400000000) :
 Calls Tryz.prog 50 #[B8 n1 A la.length ca B lb.length cb,B8 n2 C lc.length cc D ld.length cd] w (RetNN (val la*val ld) (val lc*val lb) (max (la.length+ld.length) (lc.length+lb.length)) w):=by
 obtain⟨w0,q,l,g,h⟩:=f8 w #[.bool n1,.slice A la.length ca,.slice B lb.length cb] 28;obtain⟨w1,r,f,o,c⟩:=f8 w0 #[.bool n2,.slice C lc.length cc,.slice D ld.length cd] 28;have d:=h.keep f;have b:=l.trans (f.mono (a3f g));have k:=ha.below b;have j:=hb.below b;have m:=hc.below b;have n:=hd.below b;have x1:=d.f1;have x2:=d.f2;have y1:=c.f1;have y2:=c.f2;clear ha hb hc hd;have p:Below w1.heap.size w1 w1:=a3t _ _;go_enter Tryz.func50,Tryz.ntmps50;go_wp2_with fail
 go_region_held3 (fun w'=>w'.cell? ⟨w.heap.size,1,none⟩=some (.slice A la.length ca)∧w'.cell? ⟨w.heap.size,2,none⟩=some (.slice B lb.length cb)∧w'.cell? ⟨w0.heap.size,1,none⟩=some (.slice C lc.length cc)∧w'.cell? ⟨w0.heap.size,2,none⟩=some (.slice D ld.length cd)∧Below w1.heap.size w1 w') (first | (go_keep;done) | ((try go_split_ands);(try dsimp only);refine⟨?_,?_,?_,?_,?_⟩ <;> first | assumption | exact Below.drew (by assumption) | exact (d.keep (by assumption)).f1 | exact (d.keep (by assumption)).f2 | exact (c.keep (by assumption)).f1 | exact (c.keep (by assumption)).f2)) (first
  | (go_at_call 51;go_split_ands;(with_reducible refine (aF A D ca cd la ld _ (k.below (by assumption)) (n.below (by assumption)) (by omega) (by omega)).mono ?_);rintro e w2 ⟨X,cx,x,rfl,nx,ix,mx,b2⟩;have b4:=mM (by assumption) b2)
  | (go_at_call 51;go_split_ands;(with_reducible refine (aF C B cc cb lc lb _ (m.below (by assumption)) (j.below (by assumption)) (by omega) (by omega)).mono ?_);rintro e w3 ⟨Y,cy,y,rfl,ny,iy,my,b3⟩;have b4:=mM (by assumption) b3))
 go_wp2;refine a3z (v:=.tuple #[.slice X x.length cx,.slice Y y.length cy]) (by simp[results,Tryz.results50,go_sem]) rfl ?_;refine⟨X,cx,x,Y,cy,y,rfl,?_,?_,ix,iy,by omega,by omega,?_⟩
 · first | exact nx | exact nx.below b3
 · first | exact ny | exact ny.below b2
 · exact b.trans (b4.mono (by omega))
theorem J0 {v u:Value}{p q:Rat}{j k:Nat}{w:World}(hv:FV w v p) (hu:FV w u q) (hj:Fits j p) (hk:Fits k q) (hJ:j+k<400000000) :
 Calls Tryz.prog 27 #[v,u] w (V6 (p+q) w):=by
 obtain⟨n1,A,ca,la,B,cb,lb,rfl,na,nb,iq⟩:=hv;obtain⟨n2,C,cc,lc,D,cd,ld,rfl,nc,nd,ir⟩:=hu;have hf:=a4q iq hj;have hg:=a4q ir hk;have h0:val lb*val ld≠0:=Nat.mul_ne_zero (QIs.den_ne iq) (QIs.den_ne ir);obtain⟨r,hr⟩:∃ r,p+q=r:=⟨_,rfl⟩;have q1:=a1k (show n1=n2→mkRat (sg n1 (val la*val ld+val lc*val lb)) (val lb*val ld)=r from fun e=>by rw[←hr];subst e;exact q_add iq ir);have q2:=a1k (show n1≠n2→val lc*val lb≤val la*val ld→mkRat (sg n1 (val la*val ld-val lc*val lb)) (val lb*val ld)=r from fun e h=>by rw[←hr];exact q_sub1 iq ir e h);have q3:=a1k (show n1≠n2→val la*val ld≤val lc*val lb→mkRat (sg n2 (val lc*val lb-val la*val ld)) (val lb*val ld)=r from fun e h=>by rw[←hr];exact q_sub2 iq ir e h);rw[hr];clear iq ir hr;obtain⟨w0,g0,c9,c7,d5⟩:=f8 w #[.bool n1,.slice A la.length ca,.slice B lb.length cb] 28;obtain⟨w1,g1,b0,g7,f4⟩:=f8 w0 #[.bool n2,.slice C lc.length cc,.slice D ld.length cd] 28;obtain⟨w2,f3,R,g8,g5⟩:=f8 w1 #[.bool false,.slice none 0 0,.slice none 0 0] 28;have O:=(d5.keep b0).keep R;have M:=f4.keep R;have H:=c9.trans (b0.mono (a3f c7));have l:=a1j H R;have c5:=na.below l;have c3:=nb.below l;have c8:=nc.below l;have b1:=nd.below l
 have x0:=O.f0;have x1:=O.f1;have x2:=O.f2;have y0:=M.f0;have y1:=M.f1;have y2:=M.f2;clear na nb nc nd;go_enter Tryz.func27,Tryz.ntmps27;go_wp2_with fail;refine (iR (n1:=n1) (n2:=n2) c5 c3 c8 b1 (by omega) (by omega) (by omega) (by omega)).mono ?_;rintro e w3 ⟨X,cx,x,Y,cy,y,rfl,nx,ny,ix,iy,mx,my,b3⟩;have n:=a1k ix;have m:=a1k iy;clear ix iy x0 x1 x2 y0 y1 y2;have G:=O.keep b3;have E:=M.keep b3;have x0:=G.f0;have x1:=G.f1;have x2:=G.f2;have y0:=E.f0;have y1:=E.f1;have y2:=E.f2;go_wp2_with fail;refine (aF B D cb cd lb ld _ (c3.below b3) (b1.below b3) (by omega) (by omega)).mono ?_;rintro e w4 ⟨Z,cz,z,rfl,nz,iz,mz,b4⟩;have f:=a1k iz;clear iz x0 x1 x2 y0 y1 y2;have c2:=G.keep b4;have d3:=E.keep b4;have g:=(g5.keep b3).keep b4;have x0:=c2.f0;have y0:=d3.f0;have T:=nx.below b4;have U:=ny.below b4;have d:=((a1j l b3)).trans (b4.mono (a1t l.size b3.size));have h1:w.heap.size≤w1.heap.size:=H.size;have f6:w.heap.size<w1.heap.size:=by omega
 clear O M G E nx ny b3 b4 c5 c3 c8 b1 c9 b0 R g0 g1 f3
 by_cases hn:n1=n2
 · subst hn;have f5:=a1k (q1.out rfl);clear q1 q2 q3;have d4:Only w4 w4 w1.heap.size:=a4m _ _;have g2:Blk3 w4 w1.heap.size 28:=g.b3;have hS:∀ w',Only w4 w' w1.heap.size→w'.cell? ⟨w.heap.size,0,none⟩=some (.bool n1):=fun w' o=>(c2.only o (Nat.ne_of_lt f6)).f0;have d0:=hS _ d4.drew;have d6:=d4.drew;have d7:=g2.drew;go_wp2_with fail
   go_region_held3 (fun w'=>w'.cell? ⟨w.heap.size,0,none⟩=some (.bool n1)∧Only w4 w' w1.heap.size∧Blk3 w' w1.heap.size 28) (((try go_split_ands);(try dsimp only);(repeat' with_reducible apply And.intro) <;> with_reducible assumption)) (first
    | (go_at_call 52;go_split_ands;(with_reducible refine (kC X Y cx cy x y _ (T.only_blk g (k7 _ _ _ _ _ _ _) (by assumption)) (U.only_blk g (k7 _ _ _ _ _ _ _) (by assumption)) (by omega) (by omega)).mono ?_);rintro e w5 ⟨S,cs,s,rfl,ns,is,ms,b5⟩;have J:=a1k is;clear is;have q4:=Blk3.keep (by assumption) b5;have b6:=(show Only w4 _ w1.heap.size by assumption).trans (a4n b5 _);have f0:=hS _ b6)
    | (go_at_call 47;go_split_ands;(with_reducible refine (Y1 ns (nz.only_blk g (k7 _ _ _ _ _ _ _) (by assumption)) (by rw[f.out.val];exact h0) (by omega) (by omega)).mono ?_);rintro e w7 ⟨v,rfl,⟨m0,A1,c1,l1,B1,d1,m1,rfl,ma,mb,hQ⟩,b7⟩;rw[J.out.val,n.out.val,m.out.val,f.out.val] at hQ;have b8:=(show Only w4 _ w1.heap.size by assumption).trans (a4n b7 _);have k0:=hS _ b8;have q8:=Blk3.keep (t:=28) (by assumption) b7;have q9:=q8.set m0 A1 l1.length c1 B1 m1.length d1;obtain⟨qa,qb,qc,qd,qe,qf,qg,b⟩:=id q8;have b9:=((b8.set 0 (.bool m0)).set 1 (.slice A1 l1.length c1)).set 2 (.slice B1 m1.length d1);have j0:=hS _ b9;have u0:=b.f0;have u1:=b.f1;have u2:=b.f2;have t0:=b.free 0;have t1:=b.free 1;have t2:=b.free 2))
   clear j0 q9;go_wp2;obtain⟨w9,I,c,o9⟩:=b.set3 (.bool m0) (.slice A1 l1.length c1) (.slice B1 m1.length d1);rw[I];have e0:=c.f0;have e1:=c.f1;have e2:=c.f2;refine a3z (v:=B8 m0 A1 l1.length c1 B1 m1.length d1) (by simp[results,Tryz.results27,go_sem,e0,e1,e2]) rfl ?_;have F:=ma.only_blk b (k7 _ _ _ _ _ _ _) o9;have N:=mb.only_blk b (k7 _ _ _ _ _ _ _) o9;have bT:=(b8.trans o9).to_below d H.size d.size;exact⟨_,rfl,⟨m0,A1,c1,l1,B1,d1,m1,rfl,F,N,by rw[←f5.out];exact hQ⟩,bT⟩
 · have h2:(n1 == n2)=false:=by simpa using hn
   have c0:=a1k (q2.out hn);have b2:=a1k (q3.out hn);clear q1 q2 q3 hn
   by_cases hle:val lc*val lb≤val la*val ld
   · have hd:Hid (decide (val y≤val x)=true):=a1k (by rw[n.out.val,m.out.val];exact a1w hle);have qq:=a1k (c0.out hle);clear hle c0 b2;go_wp2_with fail;refine (pD X Y cx cy x y _ T U).mono ?_;rintro e w5 ⟨S,cs,s,rfl,ns,is,ms,b5⟩;rw[hd.out];rw[n.out.val,m.out.val] at is;have J:=a1k is;clear is;have d8:=c2.keep b5;have g9:=d8.f0;have g3:=g.keep b5;go_wp2_with fail;refine (Y1 ns (nz.below b5) (by rw[f.out.val];exact h0) (by omega) (by omega)).mono ?_;rintro e w7 ⟨v,rfl,⟨m0,A1,c1,l1,B1,d1,m1,rfl,ma,mb,hQ⟩,b7⟩;rw[J.out.val,f.out.val,qq.out] at hQ;have c4:=a1k hQ;clear hQ;have b:=g3.keep b7;have u0:=b.f0;have u1:=b.f1;have u2:=b.f2;have t0:=b.free 0;have t1:=b.free 1;have t2:=b.free 2;have L:=((a1j d b5)).trans (b7.mono (a1t d.size b5.size));go_wp2;obtain⟨w9,I,c,o9⟩:=b.set3 (.bool m0) (.slice A1 l1.length c1) (.slice B1 m1.length d1);rw[I];have e0:=c.f0;have e1:=c.f1;have e2:=c.f2;refine a3z (v:=B8 m0 A1 l1.length c1 B1 m1.length d1) (by simp[results,Tryz.results27,go_sem,e0,e1,e2]) rfl ?_;have F:=ma.only_blk b (k7 _ _ _ _ _ _ _) o9;have N:=mb.only_blk b (k7 _ _ _ _ _ _ _) o9;exact⟨_,rfl,⟨m0,A1,c1,l1,B1,d1,m1,rfl,F,N,c4.out⟩,o9.to_below L H.size L.size⟩
   · have hd:Hid (decide (val y≤val x)=false):=a1k (by rw[n.out.val,m.out.val];exact a1v hle);have qq:=a1k (b2.out (by omega));have V:val la*val ld≤val lc*val lb:=by omega
     have g6:Hid (decide (val x≤val y)=true):=a1k (by rw[n.out.val,m.out.val];exact a1w V);clear hle c0 b2 V;go_wp2_with fail;refine (pD X Y cx cy x y _ T U).mono ?_;rintro e w5 ⟨S,cs,s,rfl,ns,is,ms,b5⟩;rw[hd.out];have d2:=a1k is;clear is d2 ns ms;go_wp2_with fail;refine (pD Y X cy cx y x _ (U.below b5) (T.below b5)).mono ?_;rintro e w6 ⟨S2,h4,s2,rfl,ns,is,ms,b6⟩;rw[g6.out];rw[n.out.val,m.out.val] at is;have J:=a1k is;clear is;have f9:=(d3.keep b5).keep b6;have h3:=f9.f0;have g4:=(g.keep b5).keep b6;go_wp2_with fail;refine (Y1 ns ((nz.below b5).below b6) (by rw[f.out.val];exact h0) (by omega) (by omega)).mono ?_;rintro e w7 ⟨v,rfl,⟨m0,A1,c1,l1,B1,d1,m1,rfl,ma,mb,hQ⟩,b7⟩;rw[J.out.val,f.out.val,qq.out] at hQ;have c4:=a1k hQ;clear hQ;have b:=g4.keep b7;have u0:=b.f0;have u1:=b.f1;have u2:=b.f2;have t0:=b.free 0;have t1:=b.free 1;have t2:=b.free 2;have d9:=((a1j d b5)).trans (b6.mono (a1t d.size b5.size));have L:=a1j d9 b7;go_wp2;obtain⟨w9,I,c,o9⟩:=b.set3 (.bool m0) (.slice A1 l1.length c1) (.slice B1 m1.length d1);rw[I];have e0:=c.f0;have e1:=c.f1;have e2:=c.f2;refine a3z (v:=B8 m0 A1 l1.length c1 B1 m1.length d1) (by simp[results,Tryz.results27,go_sem,e0,e1,e2]) rfl ?_
     have F:=ma.only_blk b (k7 _ _ _ _ _ _ _) o9;have N:=mb.only_blk b (k7 _ _ _ _ _ _ _) o9;exact⟨_,rfl,⟨m0,A1,c1,l1,B1,d1,m1,rfl,F,N,c4.out⟩,o9.to_below L H.size L.size⟩
abbrev a4l:=@RwD.qs_len
abbrev a4o:=@OwnG.block
end Go.Proofs.YtjhkapjadfpimaaGreat
