/- Contracts of functions, for the law. -/
import Derived.Test.YtjhkapjadfpimaaMSolve
import Derived.Test.YtjhkapjadfpimaaPLp
import Derived.Test.YtjhkapjadfpimaaWSmall
import Derived.Test.YtjhkapjadfpimaaFL
import Derived.Deep.RegionHeld3
namespace Go.Proofs.Ytjhkapjadfpimaa.Plain
set_option linter.unusedVariables false
set_option linter.unusedSimpArgs false
theorem timesL_get {M:Mat}{x:List Rat}{i:Nat}(hi:i<M.length){h:i<(timesL M x).length}:(timesL M x)[i]=dotL M[i] x:=by simp[timesL]
def restZero (R:Mat) (k n:Nat):Bool:=(R.drop k).all fun r=>decide (r.getD n 0=0)
theorem restZero_iff {R:Mat}{l:List Nat}{n:Nat}:restZero R l.length n=true ↔ ∀ i,i<R.length→(∀ p∈l.zipIdx,p.2≠i)→fn R i n=0:=by
 unfold restZero;rw[List.all_eq_true]
 constructor
 · intro h i hi hu;have hli:l.length≤i:=Nat.le_of_not_lt fun hil=>hu (l[i],i) (by rw[List.mem_iff_getElem?];exact⟨i,by rw[List.getElem?_zipIdx,List.getElem?_eq_getElem hil];simp⟩) rfl
   have hm:R[i]∈R.drop l.length:=by
    rw[List.mem_iff_getElem?];exact⟨i-l.length,by rw[List.getElem?_drop,show l.length+(i-l.length)=i by omega,List.getElem?_eq_getElem hi]⟩
   have h1:=of_decide_eq_true (h _ hm);unfold fn;rw[List.getD_eq_getElem?_getD (l:=R),List.getElem?_eq_getElem hi];exact h1
 · intro h r hr;obtain⟨j,hj,rfl⟩:=List.getElem_of_mem hr;rw[List.length_drop] at hj;rw[List.getElem_drop];have h1:=h (l.length+j) (by omega) fun p hp=>by have:=mem_zip hp;omega
   unfold fn at h1;rw[List.getD_eq_getElem?_getD (l:=R),List.getElem?_eq_getElem (by omega)] at h1;exact decide_eq_true h1
def outL (n:Nat) (ps:List (Nat × Nat)) (f:Nat→Rat):List Rat:=(List.range n).map (xval ps f)
theorem outL_length (n:Nat) (ps:List (Nat × Nat)) (f:Nat→Rat):(outL n ps f).length=n:=by simp[outL]
theorem outL_get {n k:Nat}(hk:k<n) (ps:List (Nat × Nat)) (f:Nat→Rat):(outL n ps f).getD k 0=xval ps f k:=range_getD hk
def solveL (M:Mat) (b:List Rat):Option (List Rat) :=
 let S:=reduceL (withL M b) (colsL M)
 if restZero S.1 S.2.length (colsL M)=true then some (outL (colsL M) S.2.zipIdx fun i=>fn S.1 i (colsL M)) else none
def usedB (ps:List (Nat × Nat)) (i:Nat):Bool:=ps.any fun p=>decide (p.2=i)
theorem usedB_false {ps:List (Nat × Nat)}{i:Nat}:usedB ps i=false ↔ ∀ p∈ps,p.2≠i:=by
 unfold usedB;rw[List.any_eq_false];simp
def findFree (t:Mat) (ps:List (Nat × Nat)) (k:Nat):Option Nat:=(List.range t.length).find? fun i=>!usedB ps i&&decide (fn t i k≠0)
def refStep (S:Mat × List (Nat × Nat)) (k:Nat):Mat × List (Nat × Nat) :=
 match findFree S.1 S.2 k with
 | some i=>(pivL S.1 i k,S.2++[(k,i)])
 | none=>S
def refReduce (M:Mat) (n:Nat):Mat × List (Nat × Nat):=(List.range n).foldl refStep (M,[])
theorem refReduce_succ (M:Mat) (n:Nat):refReduce M (n+1)=refStep (refReduce M n) n:=by
 unfold refReduce;rw[List.range_succ,List.foldl_append];rfl
structure RefRed (M:Mat) (n w:Nat) (S:Mat × List (Nat × Nat)):Prop where
 len:S.1.length=M.length
 rct:rect S.1 w
 eqv:RowEq M.length w (fn M) (fn S.1)
 red:Red M.length n (fn S.1) S.2
theorem refReduce_ok {M:Mat}{w:Nat}(h:rect M w):∀ n,n≤w→RefRed M n w (refReduce M n):=by
 intro n
 induction n with
 | zero=>exact fun _=>⟨rfl,h,RowEq.refl _ _ _,Red.nil _ _⟩
 | succ n ih =>
  intro hn;obtain⟨h1,h2,h3,h4⟩:=ih (by omega);rw[refReduce_succ]
  generalize refReduce M n=S at *
  obtain⟨t,ps⟩:=S
  simp only at h1 h2 h3 h4
  unfold refStep
  simp only
  cases hf:findFree t ps n with
  | none =>
   refine⟨h1,h2,h3,h4.skip fun i hi hu=>?_⟩;unfold findFree at hf;rw[List.find?_eq_none] at hf;have h5:=hf i (List.mem_range.2 (by omega));rw[usedB_false.2 hu] at h5
   simpa using h5
  | some i =>
   unfold findFree at hf;have h5:=List.find?_some hf;have h6:=List.mem_of_find?_eq_some hf;rw[List.mem_range] at h6
   simp only[Bool.and_eq_true,Bool.not_eq_true',decide_eq_true_eq] at h5
   have e3:∀ j k,j<M.length→k<w→fn (pivL t i n) j k=piv (fn t) i n j k:=fun j k hj hk=>fn_pivL h2 h6 (by omega) hk;exact⟨by rw[pivL_length,h1],pivL_rect h2 h6,(h3.trans (RowEq.piv (by omega) h5.2)).congr e3,(h4.step (by omega) (usedB_false.1 h5.1) h5.2).congr fun j k hj hk=>e3 j k hj (by omega)⟩
def refZero (t:Mat) (ps:List (Nat × Nat)) (n:Nat):Bool:=(List.range t.length).all fun i=>usedB ps i || decide (fn t i n=0)
theorem refZero_iff {t:Mat}{ps:List (Nat × Nat)}{n:Nat}:refZero t ps n=true ↔ ∀ i,i<t.length→(∀ p∈ps,p.2≠i)→fn t i n=0:=by
 unfold refZero;rw[List.all_eq_true]
 constructor
 · intro h i hi hu;have h1:=h i (List.mem_range.2 hi);rw[usedB_false.2 hu] at h1
   simpa using h1
 · intro h i hi;rw[List.mem_range] at hi
   cases hb:usedB ps i with
   | true=>rfl
   | false=>simpa using h i hi (usedB_false.1 hb)
def solveR (M:Mat) (b:List Rat):Option (List Rat) :=
 let S:=refReduce (withL M b) (colsL M)
 if refZero S.1 S.2 (colsL M)=true then some (outL (colsL M) S.2 fun i=>fn S.1 i (colsL M)) else none
theorem solve_eq {M:Mat}{b:List Rat}(h:formedL M=true) (hb:b.length=M.length):solveL M b=solveR M b:=by
 have hr:=formedL_rect h;have hw:=withL_rect (b:=b) hr;have h1:=reduceL_ok hw (colsL M) (by omega);have h2:=refReduce_ok hw (colsL M) (by omega);unfold solveL solveR
 generalize reduceL (withL M b) (colsL M)=S at *
 generalize refReduce (withL M b) (colsL M)=S' at *
 have h3:=two_ways h1.red h1.eqv h2.red h2.eqv
 have e1:restZero S.1 S.2.length (colsL M)=true ↔ refZero S'.1 S'.2 (colsL M)=true:=by
  rw[restZero_iff,refZero_iff,h1.len,h2.len];exact h3.1
 by_cases hz:restZero S.1 S.2.length (colsL M)=true
 · simp only[if_pos hz,if_pos (e1.1 hz)]
   congr 1
   unfold outL;refine List.map_congr_left fun k hk=>?_;rw[List.mem_range] at hk;rw[restZero_iff,h1.len] at hz;exact h3.2 hz k hk
 · simp only[if_neg hz,if_neg fun hq=>hz (e1.2 hq)]
theorem solve_sol {M:Mat}{b x:List Rat}(h:formedL M=true) (hb:b.length=M.length) (hs:solveL M b=some x):x.length=colsL M∧timesL M x=b∧∀ k,k<colsL M→isPivL M k=false→x.getD k 0=0:=by
 have hr:=formedL_rect h;have hw:=withL_rect (b:=b) hr;have h1:=reduceL_ok hw (colsL M) (by omega)
 have hpre:∀ k,k<colsL M→(isPivL M k=true ↔ k∈(reduceL (withL M b) (colsL M)).2):=by
  intro k hk
  have e:isPivL M k=isPivL (withL M b) k:=by
   have e2:∀ j,j≤colsL M→firstL (withL M b) j=firstL M j:=by
    intro j hj
    apply List.ext_getElem (by simp[firstL,withL,hb])
    intro i hi1 hi2;have hi:i<M.length:=by simpa [firstL] using hi2
    simp only[firstL,withL,List.getElem_map,List.getElem_zipWith]
    rw[List.take_append_of_le_length (by rw[hr _ (List.getElem_mem hi)];exact hj)]
   unfold isPivL;rw[e2 k (by omega),e2 (k+1) (by omega)]
  rw[e];exact isPiv_iff h1 hw hk (by omega)
 unfold solveL at hs
 generalize reduceL (withL M b) (colsL M)=S at *
 simp only at hs
 split at hs
 · rename_i hz
   injection hs with hs
   subst hs;rw[restZero_iff,h1.len] at hz;have hwl:=withL_length hb;have h2:=(red_solution h1.red h1.eqv).2 hz;refine⟨outL_length _ _ _,?_,fun k hk hp=>?_⟩
   · apply List.ext_getElem (by simp[timesL,hb])
     intro i hi1 hi2;have hi:i<M.length:=by omega
     have h3:=h2 i (by omega);rw[fn_withL_last hr hb hi] at h3;rw[timesL_get hi,dotL_sm (hr _ (List.getElem_mem hi)) (outL_length _ _ _)];rw[List.getD_eq_getElem?_getD,List.getElem?_eq_getElem hi2] at h3;refine Eq.trans (sm_congr fun k hk=>?_) h3;rw[outL_get hk,fn_withL hr hb hi hk];unfold fn;rw[List.getD_eq_getElem?_getD (l:=M),List.getElem?_eq_getElem hi]
     rfl
   · rw[outL_get hk,xval_none];intro p hp2 e
     have hm:k∈S.2:=by
      obtain⟨a,i⟩:=p;have:=List.mem_zipIdx hp2
      simp at this e
      rw[←e,this.2];exact List.getElem_mem _
     rw[(hpre k hk).2 hm] at hp
     cases hp
 · cases hs
theorem solve_some_of {M:Mat}{b x:List Rat}(h:formedL M=true) (hx:x.length=colsL M) (hb:timesL M x=b):solveL M b≠none:=by
 have hr:=formedL_rect h;have hbl:b.length=M.length:=by rw[←hb];simp[timesL]
 have hw:=withL_rect (b:=b) hr;have h1:=reduceL_ok hw (colsL M) (by omega);have hwl:=withL_length hbl;unfold solveL
 generalize reduceL (withL M b) (colsL M)=S at *
 simp only
 have hs:Sol (withL M b).length (colsL M) (fn (withL M b)) fun k=>x.getD k 0:=by
  intro i hi;rw[hwl] at hi;rw[fn_withL_last hr hbl hi]
  have e:b.getD i 0=dotL (M.getD i []) x:=by
   rw[←hb];unfold timesL;rw[List.getD_eq_getElem?_getD,List.getElem?_map,List.getD_eq_getElem?_getD,List.getElem?_eq_getElem hi];rfl
  rw[e,dotL_sm (rect_row hr hi) hx];exact sm_congr fun k hk=>by rw[fn_withL hr hbl hi hk];rfl
 rw[if_pos (restZero_iff.2 (by rw[h1.len];exact (red_solution h1.red h1.eqv).1.2 ⟨_,hs⟩))]
 simp
end Go.Proofs.Ytjhkapjadfpimaa.Plain
namespace Go.Proofs.Ytjhkapjadfpimaa
set_option linter.unusedVariables false
set_option linter.unusedSimpArgs false
open Go.RowKit Plain
def AllP (P:Value→Prop) (cs:Array Value):Prop:=∀ (i:Nat) (u:Value),cs[i]?=some u→P u
def AllPL (P:Value→Prop) (l:List Value):Prop:=∀ u∈l,P u
theorem AllPL.toAll {P:Value→Prop}{l:List Value}{cs:Array Value}(h:AllPL P l) (e:cs.toList=l):AllP P cs:=fun i u hi=>by
 have:cs.toList[i]?=some u:=by rw[←hi];simp
 rw[e] at this;exact h _ (List.mem_of_getElem? this)
theorem AllP.list {P:Value→Prop}{cs:Array Value}(h:AllP P cs):AllPL P cs.toList:=fun u hu=>by
 obtain⟨i,hi⟩:=List.getElem?_of_mem hu;exact h i u (by simpa using hi)
theorem AllPL.append {P:Value→Prop}{a b:List Value}(ha:AllPL P a) (hb:AllPL P b):AllPL P (a++b):=fun u hu=>by
 rcases List.mem_append.1 hu with h | h
 · exact ha u h
 · exact hb u h
theorem AllPL.take {P:Value→Prop}{a:List Value}(ha:AllPL P a) (n:Nat):AllPL P (a.take n):=fun u hu=>ha u (List.mem_of_mem_take hu)
theorem AllPL.drop {P:Value→Prop}{a:List Value}(ha:AllPL P a) (n:Nat):AllPL P (a.drop n):=fun u hu=>ha u (List.mem_of_mem_drop hu)
theorem allP_zero {P:Value→Prop}{z:Array Value}(h:AllP P z) (hs:0<z.size) (n:Nat):AllPL P (Builtin.zeroCells z n).toList:=fun u hu=>by
 simp only[Builtin.zeroCells,Array.toList_map,List.mem_map] at hu
 obtain⟨i,_,rfl⟩:=hu;have hi:i % z.size<z.size:=Nat.mod_lt _ hs;refine h (i % z.size) _ ?_;rw[getElem!_pos z _ hi,Array.getElem?_eq_getElem hi]
def OwnG (E:TypeId) (C:Nat) (P:Value→Prop) (w:World) (base:Nat) (v:Value) (n:Nat) (xs:List Value):Prop :=
 w.ownsRow base E C v n xs∧∀ g,v.ownBlock=some g→∃ cur,Blk w g E cur∧AllP P cur
section
variable {E T:TypeId}{C:Nat}{P:Value→Prop}
theorem OwnG.nil (w:World) (base:Nat):OwnG E C P w base (.slice none 0 0) 0 []:=⟨World.ownsRow_nil w base _ _,fun g h=>by simp[Value.ownBlock] at h⟩
theorem OwnG.below {w w':World}{base n:Nat}{v:Value}{xs:List Value}(h:OwnG E C P w base v n xs) (hb:Below w.heap.size w w'):OwnG E C P w' base v n xs :=
 ⟨h.1.kept (row:=none) ⟨hb.os,hb.tape,hb.output,hb.size,fun k hk _=>hb.block k hk⟩ (by cases hv:v.ownBlock <;> simp),fun g hg=>by
  obtain⟨cur,h1,h2⟩:=h.2 g hg;exact⟨cur,h1.keep hb,h2⟩⟩
theorem OwnG.block {w:World}{base g n:Nat}{v:Value}{xs:List Value}(h:OwnG E C P w base v n xs) (hg:v.ownBlock=some g):base≤g:=by
 rcases h.1.2 with ⟨rfl,_⟩ | ⟨g',cap,cur,rfl,hb,_⟩
 · simp[Value.ownBlock] at hg
 · simp[Value.ownBlock] at hg;omega
theorem Nv.own {w w':World}{base c n:Nat}{A:Option Addr}{l:List Nat}{v:Value}{xs:List Value}(hd:∀ d,¬ P (.int .u32 d)) (h:Nv w A c l) (hown:OwnG E C P w base v n xs) (hg:w.grownBy w' v.ownBlock):Nv w' A c l:=by
 cases hb:v.ownBlock with
 | none =>
  rw[hb] at hg;exact h.below ⟨hg.os,hg.tape,hg.output,hg.size,fun k hk=>hg.block k hk (by simp)⟩
 | some g =>
  rw[hb] at hg;obtain⟨cur,h1,h2⟩:=hown.2 g hb;exact h.only_blk h1 (fun i d hi=>hd d (h2 i _ hi)) hg
theorem FV.own {w w':World}{base n:Nat}{u v:Value}{q:Rat}{xs:List Value}(hd:∀ d,¬ P (.int .u32 d)) (h:FV w u q) (hown:OwnG E C P w base v n xs) (hg:w.grownBy w' v.ownBlock):FV w' u q:=by
 obtain⟨neg,A,ca,la,B,cb,lb,e,ha,hb',hq⟩:=h;exact⟨neg,A,ca,la,B,cb,lb,e,ha.own hd hown hg,hb'.own hd hown hg,hq⟩
theorem Srow.only_p {α:Type}{D:Nat}{cells:α→List Value}{w w':World}{g c:Nat}{t:TypeId}{cs:Array Value}{A:Option Addr}{ds:List α}(hb:∀ d,∃ (i:Nat) (u:Value),(cells d)[i]?=some u∧¬ P u)
 (h:Srow w D cells A c ds) (hB:Blk w g t cs) (hs:AllP P cs) (ho:Only w w' g):Srow w' D cells A c ds :=
 ⟨h.1,h.2.1,fun j hj=>by
  obtain⟨a,e,h1,h2⟩:=h.2.2 j hj
  have hne:a.block≠g:=fun hg=>by
   obtain⟨i,u,hib,hnp⟩:=hb ds[j];have h3:=h2 i _ hib;unfold Blk at hB
   unfold World.cell? at h3
   rw[block_add,hg,hB] at h3
   simp only at h3
   split at h3
   · cases h3
   · exact hnp (hs _ _ h3)
  have hk:=ho.block a.block h1 (by simpa using hne)
  exact⟨a,e,Nat.lt_of_lt_of_le h1 ho.size,fun i u hu=>by
   rw[World.cell?_of_block (w:=w) (by rw[block_add];exact hk)];exact h2 i u hu⟩⟩
theorem Srow.own {α:Type}{D:Nat}{cells:α→List Value}{w w':World}{base c n:Nat}{A:Option Addr}{ds:List α}{v:Value}{xs:List Value}(hb:∀ d,∃ (i:Nat) (u:Value),(cells d)[i]?=some u∧¬ P u)
 (h:Srow w D cells A c ds) (hown:OwnG E C P w base v n xs) (hg:w.grownBy w' v.ownBlock):Srow w' D cells A c ds:=by
 cases hv:v.ownBlock with
 | none =>
  rw[hv] at hg;exact h.below ⟨hg.os,hg.tape,hg.output,hg.size,fun k hk=>hg.block k hk (by simp)⟩
 | some g =>
  rw[hv] at hg;obtain⟨cur,h1,h2⟩:=hown.2 g hv;exact h.only_p hb h1 h2 hg
theorem FL.own {w w':World}{base c n:Nat}{A:Option Addr}{ds:List FrD}{v:Value}{xs:List Value}(hd:∀ d,¬ P (.int .u32 d)) (hp:¬ P (.bool true)∧¬ P (.bool false)) (h:FL w A c ds) (hown:OwnG E C P w base v n xs) (hg:w.grownBy w' v.ownBlock):FL w' A c ds :=
 ⟨h.row.own (P:=P) (fun d=>⟨0,.bool d.neg,rfl,by cases d.neg with | false=>exact hp.2 | true=>exact hp.1⟩) hown hg,fun d hx=>(h.fv d hx).own hd hown hg⟩
set_option maxRecDepth 100000 in
theorem run_appG {z:Value}{b:Nat}(w:World) (base:Nat) (v:Value) (n:Nat) (xs:List Value) (hT:Try.prog.underlying T=some (.slice E)) (hI:(Try.prog.info? E).map (fun i=>(i.zero,i.size,i.bytes))=some (some z,C,b)) (hzs:z.cells.size=C) (hC:0<C) (hzP:AllP P z.cells) (hb:b≤100)
 (hown:OwnG E C P w base v n xs) (ad:Addr) (m c:Nat) (news:List Value) (hm:0<m) (hl:news.length=m*C) (hnews:∀ j u,news[j]?=some u→w.cell? (ad.add j)=some u) (h1:∀ u∈news,u.oneCell'=true) (hnP:AllPL P news)
 (h63:n+m≤1000000000000) (hbase:base≤w.heap.size) (hxP:AllPL P xs) :
 ∃ v' w',(Builtin.append_ #[T,T] T #[v,.slice (some ad) m c]).run Try.prog w=.ok v' w'∧OwnG E C P w' base v' (n+m) (xs++news)∧w.grownBy w' v.ownBlock:=by
 obtain⟨i,hi,hz0,hz1,hz2⟩:=info_parts hI;have hmx:maxLen=9223372036854775807:=rfl;have hby:∀ k,k≤1000000000000→k*b≤140737488355328:=fun k hk=>Nat.le_trans (Nat.mul_le_mul hk hb) (by omega);obtain⟨v',w',hrun,h2,h3,_⟩:=run_append_own (P:=Try.prog) w base T T E i z C b hT hi hz0 hz1 hz2 hzs hC v n xs hown.1 ad m c news hl hnews h1 (by omega) (hby _ h63) hbase;refine⟨v',w',hrun,⟨h2,?_⟩,h3⟩
 have key:∀ v2 w2,(Builtin.append_ #[T,T] T #[v,.slice (some ad) m c]).run Try.prog w=.ok v2 w2→(∀ g,v2.ownBlock=some g→∃ cur,Blk w2 g E cur∧AllP P cur)→∀ g,v'.ownBlock=some g→∃ cur,Blk w' g E cur∧AllP P cur:=by
  intro v2 w2 hr hk;rw[hrun] at hr
  injection hr with e1 e2
  subst e1 e2;exact hk
 rcases hown.1.2 with ⟨rfl,h0⟩ | ⟨g,cap,cur,rfl,hbg,hg,hnc,hcm,hcs,htake⟩
 · have hr:=run_append_nil (P:=Try.prog) w T T E i z hT hi hz0 ad m c news (by rw[hz1];exact hl) hnews hm (by omega) (by rw[hz2];have:=hby m (by omega);omega);refine key _ _ hr fun g hg=>?_
   simp[Value.ownBlock] at hg
   subst hg;exact⟨_,heap_alloc_new w.drew _,AllPL.toAll (hnP.append (allP_zero hzP (by omega) (grownCap w m 0 E-m))) (by simp)⟩
 · by_cases hroom:n+m≤cap
   · have hfit:n*i.size+news.length≤cur.size:=by rw[hz1,hl,hcs,←Nat.add_mul];exact Nat.mul_le_mul_right _ hroom
     have hr:=run_append_room (P:=Try.prog) w T T E i hT hi g n cap cur hg ad m c news (by rw[hz1];exact hl) hnews h1 hroom hfit;refine key _ _ hr fun g' hg'=>?_
     simp[Value.ownBlock] at hg'
     subst hg';obtain⟨cur',hb',hn'⟩:=hown.2 g rfl
     have ec:cur'=cur:=by
      unfold Blk at hb';rw[hg] at hb'
      injection hb' with hb'
      injection hb' with hb' _ _
      exact hb'.symm
     subst ec;exact⟨_,setRow_heap w g cur' _ _ _ hg,AllPL.toAll (((hn'.list.take (n*i.size)).append hnP).append (hn'.list.drop (n*i.size+news.length))) rfl⟩
   · have holds:∀ j u,xs[j]?=some u→w.cell? ((⟨g,0,none⟩:Addr).add j)=some u:=hown.1.cells (g:=g) rfl;have hr:=run_append_grow (P:=Try.prog) w T T E i z hT hi hz0 ⟨g,0,none⟩ n cap xs (by rw[hz1];exact hown.1.1) holds ad m c news (by rw[hz1];exact hl) hnews (by omega) (by omega) (growslice_fits (by omega) (by rw[hz2];exact hby _ h63));refine key _ _ hr fun g' hg'=>?_
     simp[Value.ownBlock] at hg'
     subst hg';exact⟨_,heap_alloc_new w.drew _,AllPL.toAll ((hxP.append hnP).append (allP_zero hzP (by omega) (grownCap w (n+m) cap E-(n+m)))) (by simp)⟩
end
structure RwD where
 a:Option Addr
 c:Nat
 ds:List FrD
abbrev RwD.v (r:RwD):Value:=.slice r.a r.ds.length r.c
def RwD.cells (r:RwD):List Value:=[r.v]
def RwD.qs (r:RwD):List Rat:=r.ds.map FrD.q
theorem RwD.qs_len (r:RwD):r.qs.length=r.ds.length:=by simp[RwD.qs]
structure ML (w:World) (A:Option Addr) (c:Nat) (rows:List RwD):Prop where
 row:Srow w 1 RwD.cells A c rows
 fl:∀ r∈rows,FL w r.a r.c r.ds
def qsM (rows:List RwD):Mat:=rows.map RwD.qs
theorem qsM_len (rows:List RwD):(qsM rows).length=rows.length:=by simp[qsM]
theorem ML.below {w w':World}{A:Option Addr}{c:Nat}{rows:List RwD}(h:ML w A c rows) (hb:Below w.heap.size w w'):ML w' A c rows:=⟨h.row.below hb,fun r hr=>(h.fl r hr).below hb⟩
theorem ML.len {w:World}{A:Option Addr}{c:Nat}{rows:List RwD}(h:ML w A c rows):rows.length≤c∧c≤9223372036854775807:=⟨h.row.1,h.row.2.1⟩
theorem ML.at {w:World}{A:Option Addr}{c:Nat}{rows:List RwD}(h:ML w A c rows){k:Nat}(hk:k<rows.length) :
 ∃ a r,A=some a∧a.block<w.heap.size∧w.cell? (a.add k)=some (.slice r.a r.ds.length r.c)∧FL w r.a r.c r.ds∧Hid (rows[k]?=some r):=by
 obtain⟨a,e,h1,h2⟩:=h.row.2.2 k hk;have h3:=h2 0 _ rfl;rw[Nat.mul_one,Nat.add_zero] at h3;exact⟨a,rows[k],e,h1,h3,h.fl _ (List.getElem_mem hk),List.getElem?_eq_getElem hk⟩
def QFits (K:Nat) (l:List Rat):Prop:=∀ q∈l,Fits K q
def MFits (K:Nat) (M:Mat):Prop:=∀ r∈M,QFits K r
theorem QFits.mono {J K:Nat}{l:List Rat}(h:QFits J l) (hk:J≤K):QFits K l:=fun q hq=>(h q hq).mono hk
theorem MFits.mono {J K:Nat}{M:Mat}(h:MFits J M) (hk:J≤K):MFits K M:=fun r hr=>(h r hr).mono hk
theorem QFits.fr {K:Nat}{ds:List FrD}(h:QFits K (ds.map FrD.q)):∀ d∈ds,Fits K d.q:=fun d hd=>h _ (List.mem_map.2 ⟨d,hd,rfl⟩)
theorem QFits.of {K:Nat}{ds:List FrD}(h:∀ d∈ds,Fits K d.q):QFits K (ds.map FrD.q):=fun q hq=>by obtain⟨d,hd,rfl⟩:=List.mem_map.1 hq;exact h d hd
theorem MFits.row {K:Nat}{rows:List RwD}(h:MFits K (qsM rows)){k:Nat}{r:RwD}(hk:rows[k]?=some r):QFits K r.qs:=h _ (List.mem_map.2 ⟨r,List.mem_of_getElem? hk,rfl⟩)
def IsSl (u:Value):Prop:=∃ A n c,u=.slice A n c
theorem isSl_u32 (d:Int):¬ IsSl (.int .u32 d):=by rintro ⟨A,n,c,h⟩;cases h
theorem isSl_bool (b:Bool):¬ IsSl (.bool b):=by rintro ⟨A,n,c,h⟩;cases h
theorem isSl_cells (rows:List RwD):AllPL IsSl (rows.flatMap RwD.cells):=fun u hu=>by
 obtain⟨r,_,hr⟩:=List.mem_flatMap.1 hu
 simp[RwD.cells] at hr
 exact⟨_,_,_,hr⟩
theorem flat_rows (rows:List RwD):(rows.flatMap RwD.cells).length=rows.length*1:=by
 induction rows with
 | nil=>rfl
 | cons r rs ih=>rw[List.flatMap_cons,List.length_append,ih];simp[RwD.cells];omega
def OwnM (w:World) (base:Nat) (v:Value) (rows:List RwD):Prop:=OwnG 22 1 IsSl w base v rows.length (rows.flatMap RwD.cells)
theorem OwnM.nil (w:World) (base:Nat):OwnM w base (.slice none 0 0) []:=OwnG.nil w base
theorem infoRow:(Try.prog.info? 22).map (fun i=>(i.zero,i.size,i.bytes))=some (some (.slice none 0 0),1,24):=by kernel_rfl
set_option maxRecDepth 100000 in
/-- A row is appended. -/
theorem run_appM {T:TypeId}(hT:Try.prog.underlying T=some (.slice 22)) (w:World) (base:Nat) (v:Value) (rows:List RwD) (hown:OwnM w base v rows) (ad:Addr) (c:Nat) (r:RwD) (hnews:w.cell? ad=some r.v) (h63:rows.length+1≤1000000000000) (hbase:base≤w.heap.size) :
 ∃ v' w',(Builtin.append_ #[T,T] T #[v,.slice (some ad) 1 c]).run Try.prog w=.ok v' w'∧OwnM w' base v' (rows++[r])∧w.grownBy w' v.ownBlock:=by
 obtain⟨v',w',h1,h2,h3⟩:=run_appG w base v rows.length _ hT infoRow rfl (by decide) (fun i u hi=>by
  match i with
  | 0=>injection hi with hi;exact⟨_,_,_,hi.symm⟩
  | i+1=>simp[Value.cells] at hi) (by decide) hown ad 1 c r.cells (by decide) rfl (fun j u hj=>by
  match j with
  | 0=>injection hj with hj;subst hj;simpa [Addr.add] using hnews
  | j+1=>simp[RwD.cells] at hj) (fun u hu=>by simp[RwD.cells] at hu;subst hu;rfl) (fun u hu=>by simp[RwD.cells] at hu;exact⟨_,_,_,hu⟩) h63 hbase (isSl_cells rows)
 refine⟨v',w',h1,?_,h3⟩;unfold OwnM;rw[List.length_append,List.flatMap_append]
 simpa using h2
theorem wpList_appM {ops:Array Oper}{rest:List Oper}{o:Oper}{a:Act}{Q:Exit→Act→World→Prop}(hgd:o.guard=none){T:TypeId}(hT:Try.prog.underlying T=some (.slice 22)) (hty:o.type=T) (s x:Operand)
 (ho:o.op=.call { callee:=.builtin .append,args:=#[s,x],argTypes:=#[T,T] }) {w:World}
 (base:Nat) (v:Value) (rows:List RwD) (hs:a.eval s=v) (hown:OwnM w base v rows) (ad:Addr) (c:Nat) (r:RwD) (hx:a.eval x=.slice (some ad) 1 c) (hnews:w.cell? ad=some r.v)
 (h63:rows.length+1≤1000000000000) (hbase:base≤w.heap.size)
 (h:∀ v' w',OwnM w' base v' (rows++[r])→w.grownBy w' v.ownBlock→wpList Try.prog ops Q rest (a.put o.dst v') w'):wpList Try.prog ops Q (o::rest) a w:=by
 refine wpList_plain hgd fun K hK=>?_;obtain⟨v',w',hrun,h2,h3⟩:=run_appM hT w base v rows hown ad c r hnews h63 hbase
 unfold Oper.wp execOp
 simp only[ho,hty,resolve,invoke,builtin,Sem.run_bind,Sem.run_pure,Result.andThen_ok,List.map_toArray,List.map_cons,List.map_nil,hs,hx,hrun]
 exact hK _ _ (h v' w' h2 h3)
theorem FL.ownM {w w':World}{base c:Nat}{A:Option Addr}{ds:List FrD}{v:Value}{rows:List RwD}(h:FL w A c ds) (hown:OwnM w base v rows) (hg:w.grownBy w' v.ownBlock):FL w' A c ds:=h.own isSl_u32 ⟨isSl_bool _,isSl_bool _⟩ hown hg
theorem OwnM.below {w w':World}{base:Nat}{v:Value}{rows:List RwD}(h:OwnM w base v rows) (hb:Below w.heap.size w w'):OwnM w' base v rows:=OwnG.below h hb
theorem flat1 {rows:List RwD}{j:Nat}(hj:j<rows.length):(rows.flatMap RwD.cells)[j]?=some (rows[j]).v:=by
 have h:∀ (rows:List RwD) (j:Nat) (hj:j<rows.length),(rows.flatMap RwD.cells)[j]?=some (rows[j]).v:=by
  intro rows
  induction rows with
  | nil=>intro j hj;simp at hj
  | cons r rs ih =>
   intro j hj
   cases j with
   | zero=>rfl
   | succ j =>
    rw[List.flatMap_cons,show r.cells++rs.flatMap RwD.cells=r.v::rs.flatMap RwD.cells from rfl,List.getElem?_cons_succ,ih j (by simpa using hj)]
    rfl
 exact h rows j hj
theorem OwnM.ml {w:World}{base:Nat}{v:Value}{rows:List RwD}(h:OwnM w base v rows) (hv:∀ r∈rows,FL w r.a r.c r.ds):∃ A c,v=.slice A rows.length c∧ML w A c rows:=by
 rcases h.1.2 with ⟨rfl,h0⟩ | ⟨g,cap,cur,rfl,hb,hg,hn,hm,hs,ht⟩
 · have:rows=[]:=List.eq_nil_of_length_eq_zero h0;subst this;exact⟨none,0,rfl,⟨by simp,by omega,fun j hj=>by simp at hj⟩,hv⟩
 · have hm2:maxLen=9223372036854775807:=rfl;refine⟨_,cap,rfl,⟨hn,by omega,fun j hj=>⟨_,rfl,(Array.getElem?_eq_some_iff.1 hg).1,fun i u hu=>?_⟩⟩,hv⟩
   have hi:i=0:=by
    have:=(List.getElem?_eq_some_iff.1 hu).1
    simpa [RwD.cells] using this
   subst hi;rw[Nat.mul_one,Nat.add_zero,add_zero_,World.ownsRow.cellAt (n:=rows.length) (base:=base) (e:=22) (size:=1) (cap:=cap) h.1 j (by omega),flat1 hj];exact hu
end Go.Proofs.Ytjhkapjadfpimaa
namespace Go.Proofs.Ytjhkapjadfpimaa
set_option linter.unusedVariables false
set_option linter.unusedSimpArgs false
open Go.RowKit Plain
attribute [local go_sem ↓] Go.wp_at_zero Go.wp_at_succ
def RetI (x:Int) (W:World) (e:Ending) (w':World):Prop:=e=.returned (.int .i64 x)∧Below W.heap.size W w'
set_option maxRecDepth 100000 in
set_option maxHeartbeats 1000000 in
theorem sign_any {v:Value}{q:Rat}{w:World}(hv:FV w v q) :
 Calls Try.prog 30 #[v] w (RetI (cmpR q 0) w):=by
 obtain⟨neg,A,ca,la,B,cb,lb,rfl,na,nb,iq⟩:=hv;have hbg:=na.big;have hc:=q_sign iq;clear iq;obtain⟨w0,hw0,bw0,hlt0,hB0⟩:=boxed w #[.bool neg,.slice A la.length ca,.slice B lb.length cb] 28;have x0:=hB0.f0;have x1:=hB0.f1;have x2:=hB0.f2;rw[hc]
 rcases la with _ | ⟨a,la⟩
 · rw[if_pos rfl];go_enter Try.func30,Try.ntmps30;go_wp2;go_ret;exact⟨rfl,by first | exact bw0 | (subst hw0;exact bw0)⟩
 · have hlen:((((a::la).length:Nat):Int) == 0)=false:=by rw[beq_eq_false_iff_ne,List.length_cons];omega
   rw[if_neg (by simp)]
   generalize (a::la).length=n at *
   rcases neg with _ | _
   · go_enter Try.func30,Try.ntmps30;go_wp2;go_ret;exact⟨rfl,bw0⟩
   · go_enter Try.func30,Try.ntmps30;go_wp2;go_ret;exact⟨rfl,bw0⟩
end Go.Proofs.Ytjhkapjadfpimaa
namespace Go.Proofs.Ytjhkapjadfpimaa
set_option linter.unusedVariables false
set_option linter.unusedSimpArgs false
open Go.RowKit Plain
def EveryInv {α:Type}(f:α→Bool) (l:List α) (w:World) (i:Value) (wr:World):Prop :=
 ∃ k:Nat,k≤l.length∧i=.int .i64 (k:Int)∧Hid ((l.take k).all f=true)∧Below w.heap.size w wr
theorem every_take {α:Type}{f:α→Bool}{l:List α}{k:Nat}{x:α}(h:(l.take k).all f=true) (hk:l[k]?=some x) (hx:f x=true):(l.take (k+1)).all f=true:=by
 rw[List.take_add_one,hk,List.all_append,h];simp[hx]
theorem every_no {α:Type}{f:α→Bool}{l:List α}{k:Nat}{x:α}(hk:l[k]?=some x) (h:f x=false):l.all f=false:=by
 rw[List.all_eq_false];exact⟨x,List.mem_of_getElem? hk,by rw[h];decide⟩
def PairInv {α:Type}(xs ys:List α) (w:World) (i:Value) (wr:World):Prop :=
 ∃ k:Nat,k≤xs.length∧i=.int .i64 (k:Int)∧Hid (xs.take k=ys.take k)∧Below w.heap.size w wr
theorem pair_take {α:Type}{xs ys:List α}{k:Nat}{x:α}(h:xs.take k=ys.take k) (hx:xs[k]?=some x) (hy:ys[k]?=some x):xs.take (k+1)=ys.take (k+1):=by
 rw[List.take_add_one,List.take_add_one,h,hx,hy]
theorem pair_no {α:Type}{xs ys:List α}{k:Nat}{x y:α}(hx:xs[k]?=some x) (hy:ys[k]?=some y) (hn:x≠y):xs≠ys:=fun e=>by
 subst e;rw[hx] at hy
 injection hy with hy
 exact hn hy
theorem map_some {α β:Type}{f:α→β}{l:List α}{k:Nat}{d:α}(h:l[k]?=some d):(l.map f)[k]?=some (f d):=by rw[List.getElem?_map,h];rfl
def RetIB (n:Nat) (b:Bool) (W:World) (e:Ending) (w':World):Prop:=e=.returned (.tuple #[.int .i64 (n:Int),.bool b])∧Below W.heap.size W w'
def RetLs (qs:List Rat) (W:World) (e:Ending) (w':World):Prop:=∃ A c ds,e=.returned (.slice A ds.length c)∧FL w' A c ds∧Hid (ds.map FrD.q=qs)∧Below W.heap.size W w'
def RetM (M:Mat) (W:World) (e:Ending) (w':World):Prop:=∃ A c rows,e=.returned (.slice A rows.length c)∧ML w' A c rows∧Hid (qsM rows=M)∧Below W.heap.size W w'
theorem FL.nil (w:World):FL w none 0 []:=⟨⟨by simp,by omega,fun j hj=>by simp at hj⟩,fun d hd=>by simp at hd⟩
end Go.Proofs.Ytjhkapjadfpimaa
namespace Go.Proofs.Ytjhkapjadfpimaa
set_option linter.unusedVariables false
set_option linter.unusedSimpArgs false
open Go.RowKit Plain
attribute [local go_sem ↓] Go.wp_at_zero Go.wp_at_succ
def FOkM (w:World) (A:Option Addr) (c:Nat) (ds:List FrD):Prop:=Srow w 3 FrD.cells A c ds∧∀ f∈ds,f.ok w
theorem FOkM.below {w w':World}{A:Option Addr}{c:Nat}{ds:List FrD}(h:FOkM w A c ds) (hb:Below w.heap.size w w'):FOkM w' A c ds:=⟨h.1.below hb,fun f hf=>(h.2 f hf).below hb⟩
theorem FOkM.at {w:World}{A:Option Addr}{c:Nat}{ds:List FrD}(h:FOkM w A c ds){k:Nat}(hk:k<ds.length) :
 ∃ a d,A=some a∧a.block<w.heap.size∧w.cell? (a.add (k*3))=some (.bool d.neg)∧w.cell? ⟨(a.add (k*3)).block,(a.add (k*3)).off+1,none⟩=some (.slice d.a d.la.length d.ca) ∧
  w.cell? ⟨(a.add (k*3)).block,(a.add (k*3)).off+2,none⟩=some (.slice d.b d.lb.length d.cb)∧d.ok w∧Hid (ds[k]?=some d):=by
 obtain⟨a,e,h1,h2⟩:=h.1.2.2 k hk
 have hc:∀ i u,(ds[k]).cells[i]?=some u→w.cell? ((a.add (k*3)).add i)=some u:=fun i u hu=>by
  rw[add_add];exact h2 i u hu
 exact⟨a,ds[k],e,h1,cell0 (hc 0 _ rfl),cellK (hc 1 _ rfl) (by decide),cellK (hc 2 _ rfl) (by decide),h.2 _ (List.getElem_mem hk),List.getElem?_eq_getElem hk⟩
end Go.Proofs.Ytjhkapjadfpimaa
