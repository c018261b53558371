/- Contracts of functions, for the law. -/
import Derived.Test.YtjhkapjadfpimaaMMake
import Derived.Test.YtjhkapjadfpimaaPLp
import Derived.Deep.RegionHeld3
import Derived.Test.YtjhkapjadfpimaaMSmall
import Derived.Test.YtjhkapjadfpimaaFL
import Derived.Test.YtjhkapjadfpimaaFSum
namespace Go.Proofs.Ytjhkapjadfpimaa
set_option linter.unusedVariables false
set_option linter.unusedSimpArgs false
open Go.RowKit Plain
attribute [local go_sem ↓] Go.wp_at_zero Go.wp_at_succ
def ZAt (n g k:Nat) (root wr:World):Prop:=∃ ds:List FrD,ArrQ wr g ds∧ds.length=n∧(∀ j d,j<k→ds[j]?=some d→FV wr d.v d.q∧d.q=0)∧Below root.heap.size root wr
theorem ZAt.below {n g k:Nat}{root w w':World}(h:ZAt n g k root w) (hb:Below w.heap.size w w'):ZAt n g k root w':=by
 obtain⟨ds,h1,h2,h3,h4⟩:=h;exact⟨ds,h1.below hb,h2,fun j d hj hd=>⟨(h3 j d hj hd).1.below hb,(h3 j d hj hd).2⟩,h4.trans (hb.mono h4.size)⟩
theorem ZAt.bel {n g k:Nat}{root w:World}(h:ZAt n g k root w):Below root.heap.size root w:=by
 obtain⟨ds,h1,h2,h3,h4⟩:=h;exact h4
def ZInv (n g:Nat) (root:World) (i:Value) (wr:World):Prop:=∃ k:Nat,k≤n∧i=.int .i64 (k:Int)∧ZAt n g k root wr
theorem ZAt.store {n g k:Nat}{root w:World}(h:ZAt n g k root w) (hk:k<n) (hg:root.heap.size≤g){n1:Bool}{A1:Option Addr}{a1:Nat}{l1:List Nat}{B1:Option Addr}{c1:Nat}{m1:List Nat}(na:Nv w A1 a1 l1) (nb:Nv w B1 c1 m1){q:Rat}(iq:QIs n1 l1 m1 q) (hq:q=0) :
 ∃ (u0 u1 u2:Value) (w9:World),w.cell? ⟨g,k*3,none⟩=some u0∧w.cell? ⟨g,k*3+1,none⟩=some u1∧w.cell? ⟨g,k*3+2,none⟩=some u2∧w.frozen? ⟨g,k*3,none⟩=false∧w.frozen? ⟨g,k*3+1,none⟩=false∧w.frozen? ⟨g,k*3+2,none⟩=false ∧
  ((w.setCell ⟨g,k*3,none⟩ (.bool n1)).setCell ⟨g,k*3+1,none⟩ (.slice A1 l1.length a1)).setCell ⟨g,k*3+2,none⟩ (.slice B1 m1.length c1)=w9∧ZAt n g (k+1) root w9:=by
 obtain⟨ds,h1,h2,h3,h4⟩:=h;have hkd:k<ds.length:=by omega
 have hd0:=List.getElem?_eq_getElem hkd;obtain⟨w9,e9,hA9,o9⟩:=h1.set hkd ⟨n1,A1,a1,l1,B1,c1,m1⟩;refine⟨_,_,_,w9,h1.cell (i:=0) hd0 rfl,h1.cell (i:=1) hd0 rfl,h1.cell (i:=2) hd0 rfl,Blk.free h1 _,Blk.free h1 _,Blk.free h1 _,e9,_,hA9,by simpa using h2,fun j d hj hd=>?_,o9.to_below h4 hg h4.size⟩;rw[List.getElem?_set] at hd
 by_cases e:k=j
 · rw[if_pos e,if_pos hkd] at hd
   injection hd with hd
   subst hd;have hf:FV w (FrD.v ⟨n1,A1,a1,l1,B1,c1,m1⟩) 0:=⟨n1,A1,a1,l1,B1,c1,m1,rfl,na,nb,by rw[←hq];exact iq⟩
   have hq0:FrD.q ⟨n1,A1,a1,l1,B1,c1,m1⟩=0:=by
    show mkRat (sg n1 (val l1)) (val m1)=0
    rw[←iq.mk,hq]
   rw[hq0];exact⟨hf.only_blk h1 (ArrQ.noDig ds) o9,rfl⟩
 · rw[if_neg e] at hd;obtain⟨h5,h6⟩:=h3 j d (by omega) hd;exact⟨h5.only_blk h1 (ArrQ.noDig ds) o9,h6⟩
theorem ZAt.done {n g:Nat}{root w:World}(h:ZAt n g n root w):∃ ds:List FrD,ArrQ w g ds∧ds.length=n∧(∀ d∈ds,FV w d.v d.q)∧Hid (ds.map FrD.q=List.replicate n 0):=by
 obtain⟨ds,h1,h2,h3,h4⟩:=h;refine⟨ds,h1,h2,fun d hd=>?_,?_⟩
 · obtain⟨j,hj,e⟩:=List.mem_iff_getElem.1 hd;exact (h3 j d (by omega) (by rw[List.getElem?_eq_getElem hj,e])).1
 · show ds.map FrD.q=_
   refine List.eq_replicate_iff.2 ⟨by simpa using h2,fun q hq=>?_⟩;obtain⟨d,hd,rfl⟩:=List.mem_map.1 hq;obtain⟨j,hj,e⟩:=List.mem_iff_getElem.1 hd;exact (h3 j d (by omega) (by rw[List.getElem?_eq_getElem hj,e])).2
def RetArr (qs:List Rat) (W:World) (e:Ending) (w':World):Prop :=
 ∃ (g:Nat) (ds:List FrD),e=.returned (.slice (some ⟨g,0,none⟩) ds.length ds.length)∧ArrQ w' g ds∧(∀ d∈ds,FV w' d.v d.q)∧Hid (ds.map FrD.q=qs)∧W.heap.size≤g∧Below W.heap.size W w'
set_option maxRecDepth 100000 in
set_option maxHeartbeats 4000000 in
theorem zeros_any (n:Nat) (hn:n≤1000000000) (w:World):Calls Try.prog 98 #[.int .i64 (n:Int)] w (RetArr (List.replicate n 0) w):=by
 have hmk:=make_fr w n (by omega);obtain⟨w1,hw1,b1⟩:∃ w1,w.alloc (.cells ((List.replicate n zeroD).flatMap FrD.cells).toArray 28)=w1∧Below w.heap.size w w1:=⟨_,rfl,(Below.refl _ _).alloc (Nat.le_refl _) _⟩;have hA:ArrQ w1 w.heap.size (List.replicate n zeroD):=by rw[←hw1];exact Blk.new w _ _
 rw[hw1] at hmk;obtain⟨g,hg⟩:∃ g,w.heap.size=g:=⟨_,rfl⟩;have hg':=Lib.hid (show w.heap.size≤g by omega);rw[hg] at hmk hA;clear hg;go_enter Try.func98,Try.ntmps98;go_wp2
 go_loopw [4,9] (fun x i wr=>ZInv n g w i wr) (fun _ i _=>n-(intOf i).toNat)
 case atStart=>exact⟨0,by omega,rfl,_,hA,by simp,fun j d hj=>by omega,b1⟩
 case round =>
  obtain⟨k,hk,rfl,hat⟩:=hrel
  by_cases hkl:k<n
  · have hki:(k:Int)<(n:Int):=by omega
    go_wp2_with fail;refine (fromInt_any 0 _ (by decide) (by decide)).mono ?_;rintro e w4 ⟨v1,rfl,⟨n1,A1,a1,l1,B1,c1,m1,rfl,na,nb,iq⟩,b4⟩;replace hat:=hat.below b4;obtain⟨u0,u1,u2,w9,s0,s1,s2,f0,f1,f2,e9,hat9⟩:=hat.store hkl hg'.out na nb iq (by simp);clear na nb iq hat;go_wp2;exact⟨⟨k+1,by omega,by go_num,hat9⟩,by simp[intOf];omega⟩
  · obtain rfl:k=n:=by omega
    have hlt':decide ((k:Int)<(k:Int))=false:=decide_eq_false (by omega);have hb:=hat.bel;obtain⟨ds,h1,h2,h3,h4⟩:=hat.done;go_wp2;go_ret;exact⟨g,ds,by rw[h2];rfl,h1,h3,h4,hg'.out,hb⟩
section
variable {E T:TypeId}{C:Nat}{P:Value→Prop}
set_option maxRecDepth 100000 in
theorem run_appG0 {z:Value}{b:Nat}(w:World) (base:Nat) (v:Value) (n:Nat) (xs:List Value) (hT:Try.prog.underlying T=some (.slice E)) (hI:(Try.prog.info? E).map (fun i=>(i.zero,i.size,i.bytes))=some (some z,C,b)) (hzs:z.cells.size=C) (hC:0<C) (hzP:AllP P z.cells) (hb:b≤100)
 (hown:OwnG E C P w base v n xs) (ad:Addr) (m c:Nat) (news:List Value) (hl:news.length=m*C) (hnews:∀ j u,news[j]?=some u→w.cell? (ad.add j)=some u) (h1:∀ u∈news,u.oneCell'=true) (hnP:AllPL P news)
 (h63:n+m≤1000000000000) (hbase:base≤w.heap.size) (hxP:AllPL P xs) :
 ∃ v' w',(Builtin.append_ #[T,T] T #[v,.slice (some ad) m c]).run Try.prog w=.ok v' w'∧OwnG E C P w' base v' (n+m) (xs++news)∧w.grownBy w' v.ownBlock:=by
 rcases Nat.eq_zero_or_pos m with rfl | hm
 · obtain⟨i,hi,hz0,hz1,hz2⟩:=info_parts hI;have hmx:maxLen=9223372036854775807:=rfl;have hby:∀ k,k≤1000000000000→k*b≤140737488355328:=fun k hk=>Nat.le_trans (Nat.mul_le_mul hk hb) (by omega);obtain⟨v',w',hrun,h2,h3,h4⟩:=run_append_own (P:=Try.prog) w base T T E i z C b hT hi hz0 hz1 hz2 hzs hC v n xs hown.1 ad 0 c news hl hnews h1 (by omega) (hby _ h63) hbase;refine⟨v',w',hrun,⟨h2,?_⟩,h3⟩
   rcases hown.1.2 with ⟨rfl,h0⟩ | ⟨g,cap,cur,rfl,hbg,hg,hnc,hcm,hcs,htake⟩
   · have:=h4.2 ⟨rfl,rfl⟩;subst this;intro g hg
     simp[Value.ownBlock] at hg
   · have hfit:n*i.size+news.length≤cur.size:=by rw[hz1,hl,hcs,←Nat.add_mul];exact Nat.mul_le_mul_right _ hnc
     have hr:=run_append_room (P:=Try.prog) w T T E i hT hi g n cap cur hg ad 0 c news (by rw[hz1];exact hl) hnews h1 hnc hfit;rw[hrun] at hr
     injection hr with e1 e2
     subst e1 e2;intro g' hg'
     simp[Value.ownBlock] at hg'
     subst hg';obtain⟨cur',hb',hn'⟩:=hown.2 g rfl
     have ec:cur'=cur:=by
      unfold Blk at hb';rw[hg] at hb'
      injection hb' with hb'
      injection hb' with hb' _ _
      exact hb'.symm
     subst ec;exact⟨_,setRow_heap w g cur' _ _ _ hg,AllPL.toAll (((hn'.list.take (n*i.size)).append hnP).append (hn'.list.drop (n*i.size+news.length))) rfl⟩
 · exact run_appG w base v n xs hT hI hzs hC hzP hb hown ad m c news hm hl hnews h1 hnP h63 hbase hxP
end
theorem rows_cell {rs:List RwD}{w:World}{ad:Addr}(h:∀ j r,rs[j]?=some r→w.cell? (ad.add j)=some r.v) (j:Nat) (u:Value) (hu:(rs.flatMap RwD.cells)[j]?=some u):w.cell? (ad.add j)=some u:=by
 have hj:j<rs.length:=by
  have:=(List.getElem?_eq_some_iff.1 hu).1;rw[flat_rows] at this;omega
 rw[flat1 hj] at hu;rw[←hu];exact h j _ (List.getElem?_eq_getElem hj)
set_option maxRecDepth 100000 in
/-- Rows are appended. -/
theorem run_appMs {T:TypeId}(hT:Try.prog.underlying T=some (.slice 22)) (w:World) (base:Nat) (v:Value) (rows:List RwD) (hown:OwnM w base v rows) (ad:Addr) (m c:Nat) (rs:List RwD) (hm:rs.length=m) (hnews:∀ j r,rs[j]?=some r→w.cell? (ad.add j)=some r.v) (h63:rows.length+m≤1000000000000) (hbase:base≤w.heap.size) :
 ∃ v' w',(Builtin.append_ #[T,T] T #[v,.slice (some ad) m c]).run Try.prog w=.ok v' w'∧OwnM w' base v' (rows++rs)∧w.grownBy w' v.ownBlock:=by
 subst hm
 obtain⟨v',w',h1,h2,h3⟩:=run_appG0 w base v rows.length _ hT infoRow rfl (by decide) (fun i u hi=>by
  match i with
  | 0=>injection hi with hi;exact⟨_,_,_,hi.symm⟩
  | i+1=>simp[Value.cells] at hi) (by decide) hown ad rs.length c (rs.flatMap RwD.cells) (by rw[flat_rows]) (rows_cell hnews) (fun u hu=>by
   obtain⟨A,n,c,e⟩:=isSl_cells rs u hu;subst e;rfl) (isSl_cells rs) h63 hbase (isSl_cells rows)
 refine⟨v',w',h1,?_,h3⟩;unfold OwnM;rw[List.length_append,List.flatMap_append];exact h2
theorem wpList_appMs {ops:Array Oper}{rest:List Oper}{o:Oper}{a:Act}{Q:Exit→Act→World→Prop}(hgd:o.guard=none){T:TypeId}(hT:Try.prog.underlying T=some (.slice 22)) (hty:o.type=T) (s x:Operand)
 (ho:o.op=.call { callee:=.builtin .append,args:=#[s,x],argTypes:=#[T,T] }) {w:World}
 (base:Nat) (v:Value) (rows:List RwD) (hs:a.eval s=v) (hown:OwnM w base v rows) (ad:Addr) (m c:Nat) (rs:List RwD) (hm:rs.length=m) (hx:a.eval x=.slice (some ad) m c) (hnews:∀ j r,rs[j]?=some r→w.cell? (ad.add j)=some r.v)
 (h63:rows.length+m≤1000000000000) (hbase:base≤w.heap.size)
 (h:∀ v' w',OwnM w' base v' (rows++rs)→w.grownBy w' v.ownBlock→wpList Try.prog ops Q rest (a.put o.dst v') w'):wpList Try.prog ops Q (o::rest) a w:=by
 refine wpList_plain hgd fun K hK=>?_;obtain⟨v',w',hrun,h2,h3⟩:=run_appMs hT w base v rows hown ad m c rs hm hnews h63 hbase
 unfold Oper.wp execOp
 simp only[ho,hty,resolve,invoke,builtin,Sem.run_bind,Sem.run_pure,Result.andThen_ok,List.map_toArray,List.map_cons,List.map_nil,hs,hx,hrun]
 exact hK _ _ (h v' w' h2 h3)
def IsI (u:Value):Prop:=∃ z,u=.int .i64 z
theorem isI_u32 (d:Int):¬ IsI (.int .u32 d):=by rintro ⟨z,h⟩;cases h
theorem isI_bool (b:Bool):¬ IsI (.bool b):=by rintro ⟨z,h⟩;cases h
def icells (is:List Nat):List Value:=is.map fun (x:Nat)=>Value.int .i64 (x:Int)
theorem isI_cells (is:List Nat):AllPL IsI (icells is):=fun u hu=>by
 obtain⟨r,_,hr⟩:=List.mem_map.1 hu;exact⟨_,hr.symm⟩
def OwnI (w:World) (base:Nat) (v:Value) (is:List Nat):Prop:=OwnG 3 1 IsI w base v is.length (icells is)
theorem OwnI.nil (w:World) (base:Nat):OwnI w base (.slice none 0 0) []:=OwnG.nil w base
theorem infoInt:(Try.prog.info? 3).map (fun i=>(i.zero,i.size,i.bytes))=some (some (.int .i64 0),1,8):=by kernel_rfl
set_option maxRecDepth 100000 in
theorem run_appI {T:TypeId}(hT:Try.prog.underlying T=some (.slice 3)) (w:World) (base:Nat) (v:Value) (is:List Nat) (hown:OwnI w base v is) (ad:Addr) (c:Nat) (x:Nat) (hnews:w.cell? ad=some (.int .i64 (x:Int))) (h63:is.length+1≤1000000000000) (hbase:base≤w.heap.size) :
 ∃ v' w',(Builtin.append_ #[T,T] T #[v,.slice (some ad) 1 c]).run Try.prog w=.ok v' w'∧OwnI w' base v' (is++[x])∧w.grownBy w' v.ownBlock:=by
 obtain⟨v',w',h1,h2,h3⟩:=run_appG w base v is.length _ hT infoInt rfl (by decide) (fun i u hi=>by
  match i with
  | 0=>injection hi with hi;exact⟨_,hi.symm⟩
  | i+1=>simp[Value.cells] at hi) (by decide) hown ad 1 c [.int .i64 (x:Int)] (by decide) rfl (fun j u hj=>by
  match j with
  | 0=>injection hj with hj;subst hj;simpa [Addr.add] using hnews
  | j+1=>simp at hj) (fun u hu=>by simp at hu;subst hu;rfl) (fun u hu=>by simp at hu;exact⟨_,hu⟩) h63 hbase (isI_cells is)
 refine⟨v',w',h1,?_,h3⟩;unfold OwnI icells;rw[List.length_append,List.map_append]
 simpa [icells] using h2
theorem wpList_appI {ops:Array Oper}{rest:List Oper}{o:Oper}{a:Act}{Q:Exit→Act→World→Prop}(hgd:o.guard=none){T:TypeId}(hT:Try.prog.underlying T=some (.slice 3)) (hty:o.type=T) (s x:Operand)
 (ho:o.op=.call { callee:=.builtin .append,args:=#[s,x],argTypes:=#[T,T] }) {w:World}
 (base:Nat) (v:Value) (is:List Nat) (hs:a.eval s=v) (hown:OwnI w base v is) (ad:Addr) (c:Nat) (y:Nat) (hx:a.eval x=.slice (some ad) 1 c) (hnews:w.cell? ad=some (.int .i64 (y:Int)))
 (h63:is.length+1≤1000000000000) (hbase:base≤w.heap.size)
 (h:∀ v' w',OwnI w' base v' (is++[y])→w.grownBy w' v.ownBlock→wpList Try.prog ops Q rest (a.put o.dst v') w'):wpList Try.prog ops Q (o::rest) a w:=by
 refine wpList_plain hgd fun K hK=>?_;obtain⟨v',w',hrun,h2,h3⟩:=run_appI hT w base v is hown ad c y hnews h63 hbase
 unfold Oper.wp execOp
 simp only[ho,hty,resolve,invoke,builtin,Sem.run_bind,Sem.run_pure,Result.andThen_ok,List.map_toArray,List.map_cons,List.map_nil,hs,hx,hrun]
 exact hK _ _ (h v' w' h2 h3)
theorem OwnI.below {w w':World}{base:Nat}{v:Value}{is:List Nat}(h:OwnI w base v is) (hb:Below w.heap.size w w'):OwnI w' base v is:=OwnG.below h hb
theorem OwnI.form {w:World}{base:Nat}{v:Value}{is:List Nat}(h:OwnI w base v is):∃ A c,v=.slice A is.length c∧is.length≤c∧c≤9223372036854775807:=by
 have hm2:maxLen=9223372036854775807:=rfl
 rcases h.1.2 with ⟨rfl,h0⟩ | ⟨g,cap,cur,rfl,hb,hg,hn,hm,hs,ht⟩
 · exact⟨none,0,by rw[h0],by omega,by omega⟩
 · exact⟨_,_,rfl,hn,by omega⟩
def ILs (w:World) (A:Option Addr) (c:Nat) (is:List Nat):Prop:=is.length≤c∧c≤9223372036854775807∧∀ (k x:Nat),is[k]?=some x→∃ a,A=some a∧a.block<w.heap.size∧w.cell? (a.add k)=some (.int .i64 (x:Int))
theorem ILs.below {w w':World}{A:Option Addr}{c:Nat}{is:List Nat}(h:ILs w A c is) (hb:Below w.heap.size w w'):ILs w' A c is :=
 ⟨h.1,h.2.1,fun k x hk=>by
  obtain⟨a,e,h1,h2⟩:=h.2.2 k x hk
  exact⟨a,e,Nat.lt_of_lt_of_le h1 hb.size,by
   rw[World.cell?_of_block (w:=w) (by rw[block_add];exact hb.block _ h1)];exact h2⟩⟩
theorem OwnI.il {w:World}{base:Nat}{v:Value}{is:List Nat}(h:OwnI w base v is):∃ A c,v=.slice A is.length c∧ILs w A c is:=by
 have hm2:maxLen=9223372036854775807:=rfl
 rcases h.1.2 with ⟨rfl,h0⟩ | ⟨g,cap,cur,rfl,hb,hg,hn,hm,hs,ht⟩
 · have:is=[]:=List.eq_nil_of_length_eq_zero h0;subst this;exact⟨none,0,rfl,by simp,by omega,fun k x hk=>by simp at hk⟩
 · refine⟨_,cap,rfl,hn,by omega,fun k x hk=>⟨_,rfl,(Array.getElem?_eq_some_iff.1 hg).1,?_⟩⟩;have hkl:=(List.getElem?_eq_some_iff.1 hk).1;rw[add_zero_,World.ownsRow.cellAt (n:=is.length) (base:=base) (e:=3) (size:=1) (cap:=cap) h.1 k (by omega)]
   show (icells is)[k]?=_
   unfold icells;rw[List.getElem?_map,hk];rfl
theorem ML.own {E:TypeId}{C:Nat}{P:Value→Prop}{w w':World}{base c n:Nat}{A:Option Addr}{rows:List RwD}{v:Value}{xs:List Value}(hd:∀ d,¬ P (.int .u32 d)) (hp:¬ P (.bool true)∧¬ P (.bool false)) (hs:∀ A n c,¬ P (.slice A n c)) (h:ML w A c rows) (hown:OwnG E C P w base v n xs) (hg:w.grownBy w' v.ownBlock):ML w' A c rows :=
 ⟨h.row.own (P:=P) (fun r=>⟨0,r.v,rfl,hs _ _ _⟩) hown hg,fun r hr=>(h.fl r hr).own hd hp hown hg⟩
theorem ML.ownI {w w':World}{base c:Nat}{A:Option Addr}{rows:List RwD}{v:Value}{is:List Nat}(h:ML w A c rows) (hown:OwnI w base v is) (hg:w.grownBy w' v.ownBlock):ML w' A c rows :=
 h.own isI_u32 ⟨isI_bool _,isI_bool _⟩ (fun A n c=>by rintro ⟨z,e⟩;cases e) hown hg
def ChAt (ws:World) (rows:List RwD) (v:Value) (w:World):Prop:=OwnM w ws.heap.size v rows∧Below ws.heap.size ws w
theorem ChAt.below {ws w w':World}{rows:List RwD}{v:Value}(h:ChAt ws rows v w) (hb:Below w.heap.size w w'):ChAt ws rows v w':=⟨h.1.below hb,h.2.trans (hb.mono h.2.size)⟩
theorem ChAt.app {ws w w':World}{rows rows':List RwD}{v v':Value}(h:ChAt ws rows v w) (ho:OwnM w' ws.heap.size v' rows') (hg:w.grownBy w' v.ownBlock):ChAt ws rows' v' w' :=
 ⟨ho,h.2.grown hg h.2.size fun g hg=>OwnG.block h.1 hg⟩
theorem ML.cellAt {w:World}{a:Addr}{c:Nat}{rows:List RwD}(h:ML w (some a) c rows){k:Nat}{r:RwD}(hk:rows[k]?=some r):w.cell? (a.add k)=some r.v:=by
 obtain⟨a',r',e,h1,h2,h3,h4⟩:=h.at (List.getElem?_eq_some_iff.1 hk).1
 injection e with e
 subst e;have:=h4.out;rw[hk] at this
 injection this with this
 subst this;exact h2
theorem OwnM.empty (w:World){base:Nat}(hb:base≤w.heap.size):OwnM (w.alloc (.cells #[] 22)) base (.slice (some ⟨w.heap.size,0,none⟩) 0 0) []:=by
 have hB:=Blk.new w 22 #[]
 exact⟨⟨rfl,.inr ⟨w.heap.size,0,#[],rfl,hb,hB,Nat.le_refl _,by decide,rfl,rfl⟩⟩,fun g hg=>by
  simp[Value.ownBlock] at hg
  subst hg;exact⟨_,hB,fun i u hi=>by simp at hi⟩⟩
theorem colsL_of {rows:List RwD}{r:RwD}(h:rows[0]?=some r):colsL (qsM rows)=r.ds.length:=by
 cases rows with
 | nil=>simp at h
 | cons a l=>simp at h;subst h;simp[colsL,qsM,RwD.qs]
theorem colsL_nil {rows:List RwD}(h:rows.length=0):colsL (qsM rows)=0∧formedL (qsM rows)=true:=by
 have:=List.eq_nil_of_length_eq_zero h;subst this;exact⟨rfl,rfl⟩
def lenB (n:Nat) (r:RwD):Bool:=decide (r.ds.length=n)
theorem formedL_len (rows:List RwD):formedL (qsM rows)=rows.all (lenB (colsL (qsM rows))):=by
 unfold formedL;rw[show (qsM rows).all (fun r=>decide (r.length=colsL (qsM rows)))=rows.all fun r=>decide (r.qs.length=colsL (qsM rows)) from by rw[show qsM rows=rows.map RwD.qs from rfl,List.all_map];rfl]
 congr 1
 funext r
 unfold lenB;rw[RwD.qs_len]
set_option maxRecDepth 100000 in
set_option maxHeartbeats 4000000 in
theorem cols_any {A:Option Addr}{c:Nat}{rows:List RwD}{w:World}(h:ML w A c rows) :
 Calls Try.prog 96 #[.slice A rows.length c] w (RetIB (if formedL (qsM rows)=true then colsL (qsM rows) else 0) (formedL (qsM rows)) w):=by
 have hl:=h.len
 by_cases h0:rows.length=0
 · obtain⟨e1,e2⟩:=colsL_nil h0;rw[e1,e2];have hz:((rows.length:Int) == 0)=true:=by rw[beq_iff_eq];omega
   have hA:=Lib.hid h0;clear h0;go_enter Try.func96,Try.ntmps96;go_wp2
   go_ret2
   exact⟨rfl,Below.refl _ _⟩
 · have hz:((rows.length:Int) == 0)=false:=by rw[beq_eq_false_iff_ne];omega
   have hpos:0<rows.length:=by omega
   clear h0;obtain⟨n,hn⟩:∃ n,Hid (colsL (qsM rows)=n):=⟨_,rfl⟩;obtain⟨v,hv⟩:∃ v,Hid (formedL (qsM rows)=v):=⟨_,rfl⟩;have hvr:Hid (rows.all (lenB n)=v):=by show _=v;rw[←hv.out,formedL_len,hn.out]
   rw[hn.out,hv.out];obtain⟨m,hm⟩:∃ m,Hid ((if v=true then n else 0)=m):=⟨_,rfl⟩;rw[hm.out];obtain⟨a0,r0,rfl,hab0,hc00,hf0,hk0⟩:=h.at hpos;have hn0:=Lib.hid (show n=r0.ds.length by rw[←hn.out];exact colsL_of hk0.out);have hl0:=hf0.len;have hcc:w.cell? a0=some (.slice r0.a r0.ds.length r0.c):=cell0 hc00;clear hf0 hc00;go_enter Try.func96,Try.ntmps96;go_wp2
   go_loopw [5,11] (fun x i wr=>EveryInv (lenB n) rows w i wr) (fun _ i _=>rows.length-(intOf i).toNat)
   case atStart=>exact⟨0,by omega,rfl,rfl,Below.refl _ _⟩
   case round =>
    obtain⟨k,hk,rfl,hall,hbel⟩:=hrel;have hcw:wr.cell? a0=some (.slice r0.a r0.ds.length r0.c):=(hbel.cell hab0).trans hcc
    by_cases hkl:k<rows.length
    · obtain⟨a,r,e,hab,hc0,fa,hdk⟩:=(h.below hbel).at hkl
      injection e with e
      subst e;have hll:=fa.len;have hki:(k:Int)<(rows.length:Int):=by omega
      by_cases hq:r.ds.length=n
      · have hne:(((r.ds.length:Nat):Int) != ((r0.ds.length:Nat):Int))=false:=by rw[bne_eq_false_iff_eq];have:=hn0.out;omega
        have hf:=Lib.hid (every_take hall.out hdk.out (show lenB n r=true from decide_eq_true hq));clear hq;go_wp2;go_roundw
        case rel=>exact⟨k+1,by omega,by go_num,hf,hbel⟩
        case measure=>simp[intOf];omega
      · have hne:(((r.ds.length:Nat):Int) != ((r0.ds.length:Nat):Int))=true:=by rw[bne_iff_ne];have:=hn0.out;omega
        have hf:Hid (v=false):=by show v=false;rw[←hvr.out];exact every_no hdk.out (decide_eq_false hq)
        clear hq;go_wp2
        go_ret2
        exact⟨by rw[←hm.out,hf.out];rfl,hbel⟩
    · obtain rfl:k=rows.length:=by omega
      have hlt':decide ((rows.length:Int)<(rows.length:Int))=false:=decide_eq_false (by omega);have hf:Hid (v=true):=by show v=true;rw[←hvr.out];have:=hall.out;rw[List.take_length] at this;exact this
      go_wp2
      go_ret2
      exact⟨by rw[←hm.out,hf.out,if_pos rfl,hn0.out];rfl,hbel⟩
theorem Blk.v0 {w:World}{g:Nat}{t:TypeId}{a:Value}(h:Blk w g t #[a]):w.cell? ⟨g,0,none⟩=some a:=h.cell 0
set_option maxRecDepth 100000 in
set_option maxHeartbeats 4000000 in
theorem divF_any {v u:Value}{p q:Rat}{j k:Nat}{w:World}(hv:FV w v p) (hu:FV w u q) (hj:Fits j p) (hk:Fits k q) (hJ:j+k≤400000000) (hz:q≠0) :
 Calls Try.prog 73 #[v,u] w (RetQE (p / q) w):=by
 obtain⟨n1,A,ca,la,B,cb,lb,rfl,na,nb,iq⟩:=hv;obtain⟨n2,C,cc,lc,D,cd,ld,rfl,nc,nd,ir⟩:=hu;have hf:=QIs.fits iq hj;have hg:=QIs.fits ir hk;have h0:val lb*val lc≠0:=Nat.mul_ne_zero (QIs.den_ne iq) (fun e=>hz ((q_zero ir).1 ((QIs.natA ir).zero_iff.2 e)));have hq:=q_div iq ir hz;obtain⟨r,hr⟩:∃ r,p / q=r:=⟨_,rfl⟩;rw[hr] at hq ⊢;have hq':=Lib.hid hq;clear iq ir hq hr;obtain⟨w0,hw0,bw0,hlt0,hB0⟩:=boxed w #[.bool n1,.slice A la.length ca,.slice B lb.length cb] 28;obtain⟨w1,hw1,bw1,hlt1,hB1⟩:=boxed w0 #[.bool n2,.slice C lc.length cc,.slice D ld.length cd] 28;obtain⟨w2,hw2,bw2,hlt2,hB2⟩:=boxed w1 #[.bool false,.slice none 0 0,.slice none 0 0] 28;have hA2:=(hB0.keep bw1).keep bw2;have hC2:=hB1.keep bw2;have b01:=bw0.trans (bw1.mono (Nat.le_of_lt hlt0));have b02:=b01.trans (bw2.mono b01.size);have ha1:=na.below b02;have hb1:=nb.below b02;have hc1:=nc.below b02;have hd1:=nd.below b02;have x0:=hA2.f0;have x1:=hA2.f1;have x2:=hA2.f2;have y0:=hC2.f0;have y1:=hC2.f1;have y2:=hC2.f2;have z0:=hB2.f0;have z1:=hB2.f1;have z2:=hB2.f2;have h3f:Blk3 w2 w1.heap.size 28:=hB2.b3;have hrf:Only w2 w2 w1.heap.size:=Only.refl _ _;have nd0:=noDig3 false none 0 0 none 0 0;have hl1:w.heap.size<w1.heap.size:=by omega
 have hS:∀ w',Only w2 w' w1.heap.size→w'.cell? ⟨w.heap.size,0,none⟩=some (.bool n1)∧w'.cell? ⟨w.heap.size,1,none⟩=some (.slice A la.length ca)∧w'.cell? ⟨w.heap.size,2,none⟩=some (.slice B lb.length cb)∧w'.cell? ⟨w0.heap.size,0,none⟩=some (.bool n2)∧w'.cell? ⟨w0.heap.size,1,none⟩=some (.slice C lc.length cc)∧w'.cell? ⟨w0.heap.size,2,none⟩=some (.slice D ld.length cd):=fun w' o =>
  have p:=hA2.only o (Nat.ne_of_lt hl1);have q:=hC2.only o (Nat.ne_of_lt hlt1);⟨p.f0,p.f1,p.f2,q.f0,q.f1,q.f2⟩
 obtain⟨d0,d1,d2,d3,d4,d5⟩:=hS _ hrf.drew;have d6:=hrf.drew;have d7:=h3f.drew;clear na nb nc nd;go_enter Try.func73,Try.ntmps73;go_wp2_with fail
 go_region_held3 (fun w'=>w'.cell? ⟨w.heap.size,0,none⟩=some (.bool n1)∧w'.cell? ⟨w.heap.size,1,none⟩=some (.slice A la.length ca)∧w'.cell? ⟨w.heap.size,2,none⟩=some (.slice B lb.length cb)∧w'.cell? ⟨w0.heap.size,0,none⟩=some (.bool n2)∧w'.cell? ⟨w0.heap.size,1,none⟩=some (.slice C lc.length cc)∧w'.cell? ⟨w0.heap.size,2,none⟩=some (.slice D ld.length cd)∧Only w2 w' w1.heap.size∧Blk3 w' w1.heap.size 28) (((try go_split_ands);(try dsimp only);(repeat' with_reducible apply And.intro) <;> with_reducible assumption)) (first
  | (go_at_call 55;go_split_ands;(with_reducible refine (mul_any A D ca cd la ld _ (ha1.only_blk hB2 nd0 (by assumption)) (hd1.only_blk hB2 nd0 (by assumption)) (by omega) (by omega)).mono ?_);rintro e w3 ⟨X,cx,x,rfl,nx,ix,mx,b3⟩;have ix':=Lib.hid ix;clear ix;have q4:=Blk3.keep (by assumption) b3;have b4:=(show Only w2 _ w1.heap.size by assumption).trans (Only.of_below b3 _);obtain⟨f0,f1,f2,f3,f4,f5⟩:=hS _ b4)
  | (go_at_call 55;go_split_ands;(with_reducible refine (mul_any B C cb cc lb lc _ (hb1.only_blk hB2 nd0 (by assumption)) (hc1.only_blk hB2 nd0 (by assumption)) (by omega) (by omega)).mono ?_);rintro e w5 ⟨Y,cy,y,rfl,ny,iy,my,b5⟩;have iy':=Lib.hid iy;clear iy;have q6:=Blk3.keep (by assumption) b5;have b6:=(show Only w2 _ w1.heap.size by assumption).trans (Only.of_below b5 _);obtain⟨g0,g1,g2,g3,g4,g5⟩:=hS _ b6)
  | (go_at_call 75;go_split_ands;(with_reducible refine (make_any (by first | exact nx.below b5 | exact nx) (by first | exact ny | exact ny.below b3) (by rw[iy'.out.val];exact h0) (by omega) (by omega)).mono ?_);rintro e w7 ⟨v,rfl,⟨m0,A1,c1,l1,B1,d1,m1,rfl,ma,mb,hQ⟩,b7⟩;rw[ix'.out.val,iy'.out.val] at hQ;have b8:=(show Only w2 _ w1.heap.size by assumption).trans (Only.of_below b7 _);obtain⟨k0,k1,k2,k3,k4,k5⟩:=hS _ b8;have q8:=Blk3.keep (t:=28) (by assumption) b7;have q9:=q8.set m0 A1 l1.length c1 B1 m1.length d1;obtain⟨qa,qb,qc,qd,qe,qf,qg,hB3⟩:=id q8;have b9:=((b8.set 0 (.bool m0)).set 1 (.slice A1 l1.length c1)).set 2 (.slice B1 m1.length d1);obtain⟨j0,j1,j2,j3,j4,j5⟩:=hS _ b9;have u0:=hB3.f0;have u1:=hB3.f1;have u2:=hB3.f2;have t0:=hB3.free 0;have t1:=hB3.free 1;have t2:=hB3.free 2))
 all_goals
  clear j0 j1 j2 j3 j4 j5 q9;go_wp2;obtain⟨w9,hw9,hB9,o9⟩:=hB3.set3 (.bool m0) (.slice A1 l1.length c1) (.slice B1 m1.length d1);rw[hw9];have e0:=hB9.f0;have e1:=hB9.f1;have e2:=hB9.f2;refine bodyPost_ret (v:=.tuple #[fracV m0 A1 l1.length c1 B1 m1.length d1,.int .i64 0]) (by simp[results,Try.results73,go_sem,e0,e1,e2]) rfl ?_;have m1':=ma.only_blk hB3 (noDig3 _ _ _ _ _ _ _) o9;have m2':=mb.only_blk hB3 (noDig3 _ _ _ _ _ _ _) o9;have bT:=(b8.trans o9).to_below b02 b01.size b02.size;exact⟨_,rfl,⟨m0,A1,c1,l1,B1,d1,m1,rfl,m1',m2',by rw[←hq'.out];exact hQ⟩,bT⟩
end Go.Proofs.Ytjhkapjadfpimaa
