/- Contracts of functions, for the law. -/
import Derived.Test.YtjhkapjadfpimaaFL
import Derived.Deep.AppendLies
import Derived.Maps.AppendAt
import Derived.Test.YtjhkapjadfpimaaWRef2
import Derived.Test.YtjhkapjadfpimaaGMake
import Derived.Test.YtjhkapjadfpimaaQ
namespace Go.Proofs.Ytjhkapjadfpimaa
set_option linter.unusedVariables false
set_option linter.unusedSimpArgs false
open Go.RowKit Plain
theorem infoFrac:(Try.prog.info? 28).map (fun i=>(i.zero,i.size,i.bytes))=some (some (.agg #[.bool false,.slice none 0 0,.slice none 0 0]),3,56):=by kernel_rfl
def NoDigL (l:List Value):Prop:=∀ u∈l,∀ d,u≠.int .u32 d
theorem NoDigL.noDig {l:List Value}{cs:Array Value}(h:NoDigL l) (e:cs.toList=l):NoDig cs:=fun i d hi=>by
 have:cs.toList[i]?=some (.int .u32 d):=by rw[←hi];simp
 rw[e] at this;exact h _ (List.mem_of_getElem? this) d rfl
theorem NoDig.list {cs:Array Value}(h:NoDig cs):NoDigL cs.toList:=fun u hu d e=>by
 subst e;obtain⟨i,hi⟩:=List.getElem?_of_mem hu;exact h i d (by simpa using hi)
theorem NoDigL.append {a b:List Value}(ha:NoDigL a) (hb:NoDigL b):NoDigL (a++b):=fun u hu=>by
 rcases List.mem_append.1 hu with h | h
 · exact ha u h
 · exact hb u h
theorem NoDigL.take {a:List Value}(ha:NoDigL a) (n:Nat):NoDigL (a.take n):=fun u hu=>ha u (List.mem_of_mem_take hu)
theorem NoDigL.drop {a:List Value}(ha:NoDigL a) (n:Nat):NoDigL (a.drop n):=fun u hu=>ha u (List.mem_of_mem_drop hu)
theorem noDig_zero (n:Nat):NoDigL (Builtin.zeroCells #[.bool false,.slice none 0 0,.slice none 0 0] n).toList:=fun u hu d e=>by
 subst e
 simp only[Builtin.zeroCells,Array.toList_map,List.mem_map] at hu
 obtain⟨i,_,hi⟩:=hu;have h3:i % 3=0∨i % 3=1∨i % 3=2:=by omega
 have hs:(#[Value.bool false,.slice none 0 0,.slice none 0 0]:Array Value).size=3:=rfl;rw[hs] at hi
 rcases h3 with h | h | h <;> rw[h] at hi <;> simp at hi
theorem noDig_cells (d:FrD):NoDigL d.cells:=fun u hu x=>by
 simp only[FrD.cells,List.mem_cons,List.not_mem_nil,or_false] at hu
 rcases hu with rfl | rfl | rfl <;> simp
theorem noDig_flat (ds:List FrD):NoDigL (ds.flatMap FrD.cells):=fun u hu=>by
 obtain⟨d,_,hd⟩:=List.mem_flatMap.1 hu;exact noDig_cells d u hd
theorem flat_len (ds:List FrD):(ds.flatMap FrD.cells).length=ds.length*3:=by
 induction ds with
 | nil=>rfl
 | cons d ds ih=>rw[List.flatMap_cons,List.length_append,ih];simp[FrD.cells];omega
theorem flat3:∀ (ds:List FrD) (j i:Nat) (hj:j<ds.length),i<3→(ds.flatMap FrD.cells)[j*3+i]?=(ds[j]).cells[i]?
 | d::ds,0,i,_,hi=>by
  rw[List.flatMap_cons,List.getElem?_append_left (by simp[FrD.cells];omega)]
  simp
 | d::ds,j+1,i,hj,hi=>by
  rw[List.flatMap_cons,List.getElem?_append_right (by simp[FrD.cells];omega)];have e:(j+1)*3+i-d.cells.length=j*3+i:=by simp[FrD.cells];omega
  rw[e,flat3 ds j i (by simpa using hj) hi]
  rfl
def OwnQ (w:World) (base:Nat) (v:Value) (ds:List FrD):Prop :=
 w.ownsRow base 28 3 v ds.length (ds.flatMap FrD.cells)∧∀ g,v.ownBlock=some g→∃ cur,Blk w g 28 cur∧NoDig cur
theorem OwnQ.nil (w:World) (base:Nat):OwnQ w base (.slice none 0 0) []:=⟨World.ownsRow_nil w base _ _,fun g h=>by simp[Value.ownBlock] at h⟩
theorem OwnQ.below {w w':World}{base:Nat}{v:Value}{ds:List FrD}(h:OwnQ w base v ds) (hb:Below w.heap.size w w'):OwnQ w' base v ds :=
 ⟨h.1.kept (row:=none) ⟨hb.os,hb.tape,hb.output,hb.size,fun k hk _=>hb.block k hk⟩ (by cases hv:v.ownBlock <;> simp),fun g hg=>by
  obtain⟨cur,h1,h2⟩:=h.2 g hg;exact⟨cur,h1.keep hb,h2⟩⟩
theorem OwnQ.block {w:World}{base g:Nat}{v:Value}{ds:List FrD}(h:OwnQ w base v ds) (hg:v.ownBlock=some g):base≤g:=by
 rcases h.1.2 with ⟨rfl,_⟩ | ⟨g',cap,cur,rfl,hb,_⟩
 · simp[Value.ownBlock] at hg
 · simp[Value.ownBlock] at hg;omega
theorem OwnQ.fl {w:World}{base:Nat}{v:Value}{ds:List FrD}(h:OwnQ w base v ds) (hv:∀ d∈ds,FV w d.v d.q):∃ A c,v=.slice A ds.length c∧FL w A c ds:=by
 rcases h.1.2 with ⟨rfl,h0⟩ | ⟨g,cap,cur,rfl,hb,hg,hn,hm,hs,ht⟩
 · have:ds=[]:=List.eq_nil_of_length_eq_zero h0;subst this;exact⟨none,0,rfl,⟨by simp,by omega,fun j hj=>by simp at hj⟩,hv⟩
 · have hm2:maxLen=9223372036854775807:=rfl;refine⟨_,cap,rfl,⟨hn,by omega,fun j hj=>⟨_,rfl,(Array.getElem?_eq_some_iff.1 hg).1,fun i u hu=>?_⟩⟩,hv⟩
   have hi:i<3:=by
    have:=(List.getElem?_eq_some_iff.1 hu).1
    simpa [FrD.cells] using this
   rw[add_zero_,World.ownsRow.cellAt (n:=ds.length) (base:=base) (e:=28) (size:=3) (cap:=cap) h.1 (j*3+i) (by omega),flat3 ds j i hj hi];exact hu
theorem FV.row {w w':World}{base:Nat}{u v:Value}{q:Rat}{ds:List FrD}(h:FV w u q) (hown:OwnQ w base v ds) (hg:w.grownBy w' v.ownBlock):FV w' u q:=by
 cases hb:v.ownBlock with
 | none =>
  rw[hb] at hg;exact h.below ⟨hg.os,hg.tape,hg.output,hg.size,fun k hk=>hg.block k hk (by simp)⟩
 | some g =>
  rw[hb] at hg;obtain⟨cur,h1,h2⟩:=hown.2 g hb;exact h.only_blk h1 h2 hg
set_option maxRecDepth 100000 in
theorem run_appQ (w:World) (base:Nat) (v:Value) (ds:List FrD) (hown:OwnQ w base v ds) (ad:Addr) (c:Nat) (d:FrD) (hnews:∀ j u,d.cells[j]?=some u→w.cell? (ad.add j)=some u)
 (h63:ds.length+1≤1000000000000) (hbase:base≤w.heap.size) :
 ∃ v' w',(Builtin.append_ #[22,22] 22 #[v,.slice (some ad) 1 c]).run Try.prog w=.ok v' w'∧OwnQ w' base v' (ds++[d])∧w.grownBy w' v.ownBlock:=by
 obtain⟨i,hi,hz0,hz1,hz2⟩:=info_parts infoFrac;have hm:maxLen=9223372036854775807:=rfl
 have h1:∀ u∈d.cells,u.oneCell'=true:=by
  intro u hu
  simp only[FrD.cells,List.mem_cons,List.not_mem_nil,or_false] at hu
  rcases hu with rfl | rfl | rfl <;> rfl
 have hl:d.cells.length=1*3:=rfl;obtain⟨v',w',hrun,h2,h3,_⟩:=run_append_own (P:=Try.prog) w base 22 22 28 i (.agg #[.bool false,.slice none 0 0,.slice none 0 0]) 3 56 Try.underlying22 hi hz0 hz1 hz2 rfl (by decide) v ds.length (ds.flatMap FrD.cells) hown.1 ad 1 c d.cells hl hnews h1 (by omega) (by omega) hbase;refine⟨v',w',hrun,⟨?_,?_⟩,h3⟩
 · rw[List.flatMap_append,List.length_append]
   simpa using h2
 · have hzc:(Value.agg #[.bool false,.slice none 0 0,.slice none 0 0]).cells=#[.bool false,.slice none 0 0,.slice none 0 0]:=rfl
   have key:∀ v2 w2,(Builtin.append_ #[22,22] 22 #[v,.slice (some ad) 1 c]).run Try.prog w=.ok v2 w2→(∀ g,v2.ownBlock=some g→∃ cur,Blk w2 g 28 cur∧NoDig cur)→∀ g,v'.ownBlock=some g→∃ cur,Blk w' g 28 cur∧NoDig cur:=by
    intro v2 w2 hr hk;rw[hrun] at hr
    injection hr with e1 e2
    subst e1 e2;exact hk
   rcases hown.1.2 with ⟨rfl,h0⟩ | ⟨g,cap,cur,rfl,hbg,hg,hnc,hcm,hcs,htake⟩
   · have hr:=run_append_nil (P:=Try.prog) w 22 22 28 i (.agg #[.bool false,.slice none 0 0,.slice none 0 0]) Try.underlying22 hi hz0 ad 1 c d.cells (by rw[hz1];rfl) hnews (by omega) (by omega) (by rw[hz2];omega);refine key _ _ hr fun g hg=>?_
     simp[Value.ownBlock] at hg
     subst hg;refine⟨_,heap_alloc_new w.drew _,NoDigL.noDig ((noDig_cells d).append (noDig_zero (grownCap w 1 0 28-1))) ?_⟩;rw[hzc];simp
   · by_cases hroom:ds.length+1≤cap
     · have hfit:ds.length*i.size+d.cells.length≤cur.size:=by rw[hz1,hl,hcs];omega
       have hr:=run_append_room (P:=Try.prog) w 22 22 28 i Try.underlying22 hi g ds.length cap cur hg ad 1 c d.cells (by rw[hz1];rfl) hnews h1 hroom hfit;refine key _ _ hr fun g' hg'=>?_
       simp[Value.ownBlock] at hg'
       subst hg';obtain⟨cur',hb',hn'⟩:=hown.2 g rfl
       have ec:cur'=cur:=by
        unfold Blk at hb';rw[hg] at hb'
        injection hb' with hb'
        injection hb' with hb' _ _
        exact hb'.symm
       subst ec;exact⟨_,setRow_heap w g cur' _ _ _ hg,NoDigL.noDig (((hn'.list.take (ds.length*i.size)).append (noDig_cells d)).append (hn'.list.drop (ds.length*i.size+d.cells.length))) rfl⟩
     · have holds:∀ j u,(ds.flatMap FrD.cells)[j]?=some u→w.cell? ((⟨g,0,none⟩:Addr).add j)=some u:=hown.1.cells (g:=g) rfl;have hr:=run_append_grow (P:=Try.prog) w 22 22 28 i (.agg #[.bool false,.slice none 0 0,.slice none 0 0]) Try.underlying22 hi hz0 ⟨g,0,none⟩ ds.length cap (ds.flatMap FrD.cells) (by rw[hz1];exact flat_len ds) holds ad 1 c d.cells (by rw[hz1];rfl) hnews (by omega) (by omega) (growslice_fits (by omega) (by rw[hz2];omega));refine key _ _ hr fun g' hg'=>?_
       simp[Value.ownBlock] at hg'
       subst hg';refine⟨_,heap_alloc_new w.drew _,NoDigL.noDig (((noDig_flat ds).append (noDig_cells d)).append (noDig_zero (grownCap w (ds.length+1) cap 28-(ds.length+1)))) ?_⟩;rw[hzc];simp
theorem step_appQ {w:World}{ops:Array Oper}{o:Oper}{a:Act}{K:Act→World→Prop}{Q:Exit→Act→World→Prop}{E:Prop}(hgd:o.guard=none) (s x:Operand)
 (ho:o.op=.call { callee:=.builtin .append,args:=#[s,x],argTypes:=#[22,22] }) (hty:o.type=22)
 (base:Nat) (v:Value) (ds:List FrD) (hs:a.eval s=v) (hown:OwnQ w base v ds) (ad:Addr) (c:Nat) (d:FrD) (hx:a.eval x=.slice (some ad) 1 c) (hnews:∀ j u,d.cells[j]?=some u→w.cell? (ad.add j)=some u)
 (h63:ds.length+1≤1000000000000) (hbase:base≤w.heap.size)
 (h:∀ v' w',OwnQ w' base v' (ds++[d])→w.grownBy w' v.ownBlock→K (a.put o.dst v') w') :
 if Region.wanted o (yielded ops a.tmps)=true then Oper.wp Try.prog o a w K Q else E:=by
 have hw:Region.wanted o (yielded ops a.tmps)=true:=by simp[Region.wanted,hgd]
 rw[if_pos hw];obtain⟨v',w',hr,h2,h3⟩:=run_appQ w base v ds hown ad c d hnews h63 hbase
 unfold Oper.wp execOp
 simp only[ho,hty,resolve,invoke,builtin,Sem.run_bind,Sem.run_pure,Result.andThen_ok,List.map_toArray,List.map_cons,List.map_nil,hs,hx,hr]
 exact h v' w' h2 h3
theorem wpList_appQ {ops:Array Oper}{rest:List Oper}{o:Oper}{a:Act}{Q:Exit→Act→World→Prop}(hgd:o.guard=none) (hty:o.type=22) (s x:Operand)
 (ho:o.op=.call { callee:=.builtin .append,args:=#[s,x],argTypes:=#[22,22] }) {w:World}
 (base:Nat) (v:Value) (ds:List FrD) (hs:a.eval s=v) (hown:OwnQ w base v ds) (ad:Addr) (c:Nat) (d:FrD) (hx:a.eval x=.slice (some ad) 1 c) (hnews:∀ j u,d.cells[j]?=some u→w.cell? (ad.add j)=some u)
 (h63:ds.length+1≤1000000000000) (hbase:base≤w.heap.size)
 (h:∀ v' w',OwnQ w' base v' (ds++[d])→w.grownBy w' v.ownBlock→wpList Try.prog ops Q rest (a.put o.dst v') w'):wpList Try.prog ops Q (o::rest) a w:=by
 refine wpList_plain hgd fun K hK=>?_;obtain⟨v',w',hrun,h2,h3⟩:=run_appQ w base v ds hown ad c d hnews h63 hbase
 unfold Oper.wp execOp
 simp only[ho,hty,resolve,invoke,builtin,Sem.run_bind,Sem.run_pure,Result.andThen_ok,List.map_toArray,List.map_cons,List.map_nil,hs,hx,hrun]
 exact hK _ _ (h v' w' h2 h3)
def FrD.few (w:World) (K:Nat) (d:FrD):Prop:=Nv w d.a d.ca d.la∧Nv w d.b d.cb d.lb∧d.la.length≤K∧d.lb.length≤K
def FrD.vld (d:FrD):Bool:=vldF d.neg d.la d.lb
theorem FrD.few.fv {w:World}{K:Nat}{d:FrD}(h:d.few w K) (hv:d.vld=true):FV w d.v d.q∧Fits K d.q:=by
 have hq:QIs d.neg d.la d.lb d.q:=vldF_qIs h.1.dig h.2.1.dig hv;refine⟨⟨_,_,_,_,_,_,_,rfl,h.1,h.2.1,hq⟩,?_⟩;exact⟨by rw[←hq.na.val];exact Nat.lt_of_lt_of_le (val_lt h.1.dig) (pw_mono h.2.2.1),by rw[←hq.nb.val];exact Nat.lt_of_lt_of_le (val_lt h.2.1.dig) (pw_mono h.2.2.2)⟩
end Go.Proofs.Ytjhkapjadfpimaa
namespace Go.Proofs.Ytjhkapjadfpimaa
set_option linter.unusedVariables false
set_option linter.unusedSimpArgs false
open Go.RowKit Plain
attribute [local go_sem ↓] Go.wp_at_zero Go.wp_at_succ
theorem mk_int (n:Int):mkRat (sg (decide (n<0)) n.natAbs) 1=(n:Rat):=by
 rw[sg_of];exact Rat.mkRat_one n
theorem pw2_big:pw 2=18446744073709551616:=by simp only[pw]
set_option maxRecDepth 100000 in
set_option maxHeartbeats 1000000 in
theorem fromInt_any (n:Int) (w:World) (h1:-9223372036854775808≤n) (h2:n≤9223372036854775807) :
 Calls Try.prog 28 #[.int .i64 n] w (RetQ (n:Rat) w):=by
 obtain⟨w0,hw0,bw0,hlt0,hB0⟩:=boxed w #[.bool false,.slice none 0 0,.slice none 0 0] 28;go_enter Try.func28,Try.ntmps28;go_wp2_with fail;refine (size_any n _ h1 h2).mono ?_;rintro e w1 ⟨A,c,l,rfl,na,ia,la,b1⟩;have ia':=Lib.hid ia;clear ia;go_wp2_with fail;refine (fromUint_val 1 1 _ rfl (by rw[pw2_big];omega)).mono ?_;rintro e w2 ⟨A2,c2,l2,rfl,na2,ia2,la2,b2⟩;have ia2':=Lib.hid ia2;clear ia2;go_wp2_with fail;refine (made_any (na.below b2) na2 (by rw[ia2'.out.val];omega) (by omega) (by omega)).mono ?_;rintro e w3 ⟨v,rfl,⟨n1,A1,c1,l1,B1,d1,m1,rfl,ma,mb,hQ⟩,b3⟩;rw[ia'.out.val,ia2'.out.val,mk_int] at hQ;have hQ':=Lib.hid hQ;clear hQ;have b12:=(b1.trans (b2.mono b1.size));have b12:=b12.trans (b3.mono b12.size);have hB3:=hB0.keep b12;have bw3:=bw0.trans (b12.mono (Nat.le_of_lt hlt0));have y0:=hB3.f0;have y1:=hB3.f1;have y2:=hB3.f2;have z0:=hB3.free 0;have z1:=hB3.free 1;have z2:=hB3.free 2;go_wp2;obtain⟨w9,hw9,hB9,o9⟩:=hB3.set3 (.bool n1) (.slice A1 l1.length c1) (.slice B1 m1.length d1);rw[hw9];have e0:=hB9.f0;have e1:=hB9.f1;have e2:=hB9.f2;refine bodyPost_ret (v:=fracV n1 A1 l1.length c1 B1 m1.length d1) (by simp[results,Try.results28,go_sem,e0,e1,e2]) rfl ?_;have m1':=ma.only_blk hB3 (noDig3 _ _ _ _ _ _ _) o9;have m2':=mb.only_blk hB3 (noDig3 _ _ _ _ _ _ _) o9;exact⟨_,rfl,⟨n1,A1,c1,l1,B1,d1,m1,rfl,m1',m2',hQ'.out⟩,o9.to_below bw3 (Nat.le_refl _) bw3.size⟩
theorem mk_div {n d:Int}(h:d≠0):mkRat (sg (!(decide (n<0) == decide (d<0))) n.natAbs) d.natAbs=(n:Rat) / (d:Rat):=by
 rw[←Rat.divInt_eq_div]
 rcases Int.lt_trichotomy d 0 with h1 | h1 | h1
 · obtain⟨k,rfl⟩:∃ k:Nat,d=-(k:Int):=⟨d.natAbs,by omega⟩;rw[Rat.divInt_neg',Int.natAbs_neg,Int.natAbs_natCast,Rat.divInt_ofNat]
   congr 1
   rw[decide_eq_true h1]
   simp only[sg]
   by_cases hn:n < 0 <;> simp[hn] <;> omega
 · exact absurd h1 h
 · obtain⟨k,rfl⟩:∃ k:Nat,d=(k:Int):=⟨d.natAbs,by omega⟩;rw[Int.natAbs_natCast,Rat.divInt_ofNat]
   congr 1
   rw[decide_eq_false (by omega:¬ (k:Int)<0)]
   simp only[sg]
   by_cases hn:n < 0 <;> simp[hn] <;> omega
set_option maxRecDepth 100000 in
set_option maxHeartbeats 1000000 in
theorem neg_any {v:Value}{q:Rat}{k:Nat}{w:World}(hv:FV w v q) (hk:Fits k q) (hK:k≤400000000) :
 Calls Try.prog 59 #[v] w (RetQ (-q) w):=by
 obtain⟨neg,A,ca,la,B,cb,lb,rfl,na,nb,iq⟩:=hv;have hf:=QIs.fits iq hk;have h0:=QIs.den_ne iq;obtain⟨r,hr⟩:∃ r,Hid (-q=r):=⟨_,rfl⟩;have iq':=Lib.hid iq;clear iq;obtain⟨w0,hw0,bw0,hlt0,hB0⟩:=boxed w #[.bool neg,.slice A la.length ca,.slice B lb.length cb] 28;obtain⟨w1,hw1,bw1,hlt1,hB1⟩:=boxed w0 #[.bool false,.slice none 0 0,.slice none 0 0] 28;have hA0:=hB0.keep bw1;have x0:=hA0.f0;have x1:=hA0.f1;have x2:=hA0.f2;have b01:=bw0.trans (bw1.mono (Nat.le_of_lt hlt0));rw[hr.out];go_enter Try.func59,Try.ntmps59;go_wp2_with fail;refine (made_any (na.below b01) (nb.below b01) h0 (by omega) (by omega)).mono ?_;rintro e w3 ⟨v,rfl,⟨n1,A1,c1,l1,B1,d1,m1,rfl,ma,mb,hQ⟩,b3⟩;rw[q_neg iq'.out,hr.out] at hQ;have hQ':=Lib.hid hQ;clear hQ;have hB3:=hB1.keep b3;have bw3:=b01.trans (b3.mono (by omega));have y0:=hB3.f0;have y1:=hB3.f1;have y2:=hB3.f2;have z0:=hB3.free 0;have z1:=hB3.free 1;have z2:=hB3.free 2;go_wp2;obtain⟨w9,hw9,hB9,o9⟩:=hB3.set3 (.bool n1) (.slice A1 l1.length c1) (.slice B1 m1.length d1);rw[hw9];have e0:=hB9.f0;have e1:=hB9.f1;have e2:=hB9.f2;refine bodyPost_ret (v:=fracV n1 A1 l1.length c1 B1 m1.length d1) (by simp[results,Try.results59,go_sem,e0,e1,e2]) rfl ?_;have m1':=ma.only_blk hB3 (noDig3 _ _ _ _ _ _ _) o9;have m2':=mb.only_blk hB3 (noDig3 _ _ _ _ _ _ _) o9;exact⟨_,rfl,⟨n1,A1,c1,l1,B1,d1,m1,rfl,m1',m2',hQ'.out⟩,o9.to_below bw3 (Nat.le_of_lt hlt0) bw3.size⟩
set_option maxRecDepth 100000 in
set_option maxHeartbeats 1000000 in
theorem refNew_any (n d:Int) (w:World) (h1:-9223372036854775808≤n) (h2:n≤9223372036854775807) (h3:-9223372036854775808≤d) (h4:d≤9223372036854775807) (h0:d≠0) :
 Calls Try.prog 47 #[.int .i64 n,.int .i64 d] w (RetQE ((n:Rat) / (d:Rat)) w):=by
 obtain⟨w0,hw0,bw0,hlt0,hB0⟩:=boxed w #[.bool false,.slice none 0 0,.slice none 0 0] 28;go_enter Try.func47,Try.ntmps47;go_wp2_with fail;refine (refSize_any n _ h1 h2).mono ?_;rintro e w1 ⟨A,c,l,rfl,na,ia,la,b1⟩;have ia':=Lib.hid ia;clear ia;go_wp2_with fail;refine (refSize_any d _ h3 h4).mono ?_;rintro e w2 ⟨A2,c2,l2,rfl,na2,ia2,la2,b2⟩;have ia2':=Lib.hid ia2;clear ia2;go_wp2_with fail;refine (refMake_any (na.below b2) na2 (by rw[ia2'.out.val];omega) ia'.out.canon ia2'.out.canon (by omega) (by omega)).mono ?_;rintro e w3 ⟨v,rfl,⟨n1,A1,c1,l1,B1,d1,m1,rfl,ma,mb,hQ⟩,b3⟩;rw[ia'.out.val,ia2'.out.val,mk_div h0] at hQ;have hQ':=Lib.hid hQ;clear hQ;have b12:=(b1.trans (b2.mono b1.size));have b12:=b12.trans (b3.mono b12.size);have hB3:=hB0.keep b12;have bw3:=bw0.trans (b12.mono (Nat.le_of_lt hlt0));have y0:=hB3.f0;have y1:=hB3.f1;have y2:=hB3.f2;have z0:=hB3.free 0;have z1:=hB3.free 1;have z2:=hB3.free 2;go_wp2;obtain⟨w9,hw9,hB9,o9⟩:=hB3.set3 (.bool n1) (.slice A1 l1.length c1) (.slice B1 m1.length d1);rw[hw9];have e0:=hB9.f0;have e1:=hB9.f1;have e2:=hB9.f2;refine bodyPost_ret (v:=.tuple #[fracV n1 A1 l1.length c1 B1 m1.length d1,.int .i64 0]) (by simp[results,Try.results47,go_sem,e0,e1,e2]) rfl ?_;have m1':=ma.only_blk hB3 (noDig3 _ _ _ _ _ _ _) o9;have m2':=mb.only_blk hB3 (noDig3 _ _ _ _ _ _ _) o9;exact⟨_,rfl,⟨n1,A1,c1,l1,B1,d1,m1,rfl,m1',m2',hQ'.out⟩,o9.to_below bw3 (Nat.le_refl _) bw3.size⟩
set_option maxRecDepth 100000 in
set_option maxHeartbeats 1000000 in
theorem refFromInt_any (n:Int) (w:World) (h1:-9223372036854775808≤n) (h2:n≤9223372036854775807) :
 Calls Try.prog 24 #[.int .i64 n] w (RetQ (n:Rat) w):=by
 obtain⟨w0,hw0,bw0,hlt0,hB0⟩:=boxed w #[.bool false,.slice none 0 0,.slice none 0 0] 28;have hr:=Lib.hid (show (n:Rat) / ((1:Int):Rat)=(n:Rat) by rw[show ((1:Int):Rat)=1 from rfl];grind);go_enter Try.func24,Try.ntmps24;go_wp2_with fail;refine (refNew_any n 1 _ h1 h2 (by omega) (by omega) (by omega)).mono ?_;rintro e w1 ⟨v,rfl,⟨n1,A1,c1,l1,B1,d1,m1,rfl,na,nb,hQ⟩,b1⟩;rw[hr.out] at hQ;have hQ':=Lib.hid hQ;clear hQ;have hB1:=hB0.keep b1;have bw1:=bw0.trans (b1.mono (Nat.le_of_lt hlt0));obtain⟨w2,hw2,bw2,hlt2,hB2⟩:=boxed w1 #[.bool n1,.slice A1 l1.length c1,.slice B1 m1.length d1] 28;have hR2:=hB1.keep bw2;have y0:=hR2.f0;have y1:=hR2.f1;have y2:=hR2.f2;have z0:=hR2.free 0;have z1:=hR2.free 1;have z2:=hR2.free 2;have x0:=hB2.f0;have x1:=hB2.f1;have x2:=hB2.f2;go_wp2;obtain⟨w9,hw9,hB9,o9⟩:=hR2.set3 (.bool n1) (.slice A1 l1.length c1) (.slice B1 m1.length d1);rw[hw9];have e0:=hB9.f0;have e1:=hB9.f1;have e2:=hB9.f2;refine bodyPost_ret (v:=fracV n1 A1 l1.length c1 B1 m1.length d1) (by simp[results,Try.results24,go_sem,e0,e1,e2]) rfl ?_;have m1':=(na.below bw2).only_blk hR2 (noDig3 _ _ _ _ _ _ _) o9;have m2':=(nb.below bw2).only_blk hR2 (noDig3 _ _ _ _ _ _ _) o9;exact⟨_,rfl,⟨n1,A1,c1,l1,B1,d1,m1,rfl,m1',m2',hQ'.out⟩,o9.to_below (bw1.trans (bw2.mono bw1.size)) (Nat.le_refl _) (Nat.le_trans bw1.size bw2.size)⟩
theorem Plain.QIs.negIs {neg:Bool}{la lb:List Nat}{q:Rat}(h:QIs neg la lb q):QIs (!neg&&decide (0<la.length)) la lb (-q):=by
 refine⟨by rw[Rat.neg_num,Int.natAbs_neg];exact h.na,h.nb,?_⟩;rw[Rat.neg_num,Bool.eq_iff_iff,Bool.and_eq_true,Bool.not_eq_true',decide_eq_true_eq,decide_eq_true_eq,h.2.2,decide_eq_false_iff_not];have h0:=h.na.zero_iff
 constructor
 · rintro ⟨h1,h2⟩;have:q.num.natAbs≠0:=fun e=>by rw[h0.2 e] at h2;simp at h2
   omega
 · intro h1;refine⟨by omega,h.na.pos (by omega)⟩
set_option maxRecDepth 100000 in
set_option maxHeartbeats 1000000 in
theorem refNeg_any {v:Value}{q:Rat}{w:World}(hv:FV w v q) :
 Calls Try.prog 62 #[v] w (RetQ (-q) w):=by
 obtain⟨neg,A,ca,la,B,cb,lb,rfl,na,nb,iq⟩:=hv;have hag:=na.big;have iq':=Lib.hid iq.negIs;clear iq;obtain⟨w0,hw0,bw0,hlt0,hB0⟩:=boxed w #[.bool neg,.slice A la.length ca,.slice B lb.length cb] 28;obtain⟨w1,hw1,bw1,hlt1,hB1⟩:=boxed w0 #[.bool false,.slice none 0 0,.slice none 0 0] 28;have hA0:=hB0.keep bw1;have x0:=hA0.f0;have x1:=hA0.f1;have x2:=hA0.f2;have y0:=hB1.f0;have y1:=hB1.f1;have y2:=hB1.f2;have z0:=hB1.free 0;have z1:=hB1.free 1;have z2:=hB1.free 2;have b01:=bw0.trans (bw1.mono (Nat.le_of_lt hlt0));obtain⟨nz,hnz⟩:∃ b,decide (0<la.length)=b:=⟨_,rfl⟩;rw[hnz] at iq'
 rcases neg with _ | _
 · go_enter Try.func62,Try.ntmps62;go_wp2;obtain⟨w9,hw9,hB9,o9⟩:=hB1.set3 (.bool nz) (.slice A la.length ca) (.slice B lb.length cb);rw[hw9];have e0:=hB9.f0;have e1:=hB9.f1;have e2:=hB9.f2;refine bodyPost_ret (v:=fracV nz A la.length ca B lb.length cb) (by simp[results,Try.results62,go_sem,e0,e1,e2]) rfl ?_;have m1':=(na.below b01).only_blk hB1 (noDig3 _ _ _ _ _ _ _) o9;have m2':=(nb.below b01).only_blk hB1 (noDig3 _ _ _ _ _ _ _) o9;exact⟨_,rfl,⟨_,A,ca,la,B,cb,lb,rfl,m1',m2',iq'.out⟩,o9.to_below b01 (Nat.le_of_lt hlt0) b01.size⟩
 · go_enter Try.func62,Try.ntmps62;go_wp2;obtain⟨w9,hw9,hB9,o9⟩:=hB1.set3 (.bool false) (.slice A la.length ca) (.slice B lb.length cb);rw[hw9];have e0:=hB9.f0;have e1:=hB9.f1;have e2:=hB9.f2;refine bodyPost_ret (v:=fracV false A la.length ca B lb.length cb) (by simp[results,Try.results62,go_sem,e0,e1,e2]) rfl ?_;have m1':=(na.below b01).only_blk hB1 (noDig3 _ _ _ _ _ _ _) o9;have m2':=(nb.below b01).only_blk hB1 (noDig3 _ _ _ _ _ _ _) o9;exact⟨_,rfl,⟨_,A,ca,la,B,cb,lb,rfl,m1',m2',iq'.out⟩,o9.to_below b01 (Nat.le_of_lt hlt0) b01.size⟩
end Go.Proofs.Ytjhkapjadfpimaa
namespace Go.Proofs.Ytjhkapjadfpimaa
set_option linter.unusedVariables false
set_option linter.unusedSimpArgs false
open Go.RowKit Plain
theorem pw_two:pw 2=18446744073709551616:=by decide
theorem fits_int {n:Int}(h1:-9223372036854775808≤n) (h2:n≤9223372036854775807):Fits 2 (n:Rat):=by
 refine⟨?_,?_⟩
 · rw[pw_two,Rat.num_intCast];omega
 · rw[pw_two,Rat.den_intCast];omega
def i64s (zs:List Int):List Value:=zs.map (Value.int .i64)
def IL (w:World) (A:Option Addr) (zs:List Int):Prop:=Sl w A (i64s zs)
theorem i64s_get {l:List Int}{k:Nat}(h:k<l.length):(i64s l)[k]?=some (.int .i64 (l.getD k 0)):=by simp[i64s,List.getElem?_eq_getElem h]
theorem IL.below {w w':World}{A:Option Addr}{l:List Int}(h:IL w A l) (hb:Below w.heap.size w w'):IL w' A l:=Sl.below h hb
theorem IL.at {w:World}{A:Option Addr}{l:List Int}(h:IL w A l){k:Nat}(hk:k<l.length):∃ a,A=some a∧a.block<w.heap.size∧w.cell? (a.add k)=some (.int .i64 (l.getD k 0)):=by
 have hl:0<(i64s l).length:=by simp[i64s];omega
 obtain⟨a,e,h1,h2⟩:=h hl;have hk2:k<(i64s l).length:=by simp[i64s];omega
 refine⟨a,e,h1,?_⟩;rw[h2 k hk2,←i64s_get hk,List.getElem?_eq_getElem hk2]
theorem Blk.il {w:World}{g:Nat}{t:TypeId}{zs:List Int}(h:Blk w g t (i64s zs).toArray):IL w (some ⟨g,0,none⟩) zs:=fun hx =>
 ⟨_,rfl,h.lt,fun j hj=>by rw[add_zero_,h.cell j];simp[List.getElem?_eq_getElem hj]⟩
theorem ints_get {zs:List Int}{f:Int→Rat}{k:Nat}(hk:k<zs.length):(zs.map f)[k]?=some (f (zs.getD k 0)):=by
 rw[List.getElem?_map,List.getElem?_eq_getElem hk,List.getD_eq_getElem?_getD,List.getElem?_eq_getElem hk];rfl
end Go.Proofs.Ytjhkapjadfpimaa
namespace Go.Proofs.Ytjhkapjadfpimaa.Plain
set_option linter.unusedVariables false
set_option linter.unusedSimpArgs false
def sm:Nat→(Nat→Rat)→Rat
 | 0,_=>0
 | n+1,f=>sm n f+f n
theorem sm_congr {n:Nat}{f g:Nat→Rat}(h:∀ k,k<n→f k=g k):sm n f=sm n g:=by
 induction n with
 | zero=>rfl
 | succ n ih=>unfold sm;rw[ih fun k hk=>h k (by omega),h n (by omega)]
theorem sm_add (n:Nat) (f g:Nat→Rat):sm n (fun k=>f k+g k)=sm n f+sm n g:=by
 induction n with
 | zero=>unfold sm;grind
 | succ n ih=>unfold sm;rw[ih];grind
theorem sm_mul (n:Nat) (c:Rat) (f:Nat→Rat):sm n (fun k=>c*f k)=c*sm n f:=by
 induction n with
 | zero=>unfold sm;grind
 | succ n ih=>unfold sm;rw[ih];grind
theorem sm_mulr (n:Nat) (c:Rat) (f:Nat→Rat):sm n (fun k=>f k*c)=sm n f*c:=by
 rw[sm_congr (g:=fun k=>c*f k) (fun k _=>by grind),sm_mul];grind
theorem sm_le {n:Nat}{f g:Nat→Rat}(h:∀ k,k<n→f k≤g k):sm n f≤sm n g:=by
 induction n with
 | zero=>exact Rat.le_refl
 | succ n ih =>
  unfold sm;have h1:=ih fun k hk=>h k (by omega);have h2:=h n (by omega)
  grind
theorem sm_zero (n:Nat):sm n (fun _=>0)=0:=by
 induction n with
 | zero=>rfl
 | succ n ih=>unfold sm;rw[ih];grind
theorem sm_swap (m n:Nat) (f:Nat→Nat→Rat):sm n (fun k=>sm m (fun i=>f i k))=sm m (fun i=>sm n (fun k=>f i k)):=by
 induction m with
 | zero=>simp only[sm];exact sm_zero n
 | succ m ih=>simp only[sm];rw[sm_add,ih]
theorem mul_le_l {a b c:Rat}(h:a≤b) (hc:0≤c):a*c≤b*c:=Rat.mul_le_mul_of_nonneg_right h hc
theorem mul_le_r {a b c:Rat}(h:a≤b) (hc:0≤c):c*a≤c*b:=Rat.mul_le_mul_of_nonneg_left h hc
end Go.Proofs.Ytjhkapjadfpimaa.Plain
