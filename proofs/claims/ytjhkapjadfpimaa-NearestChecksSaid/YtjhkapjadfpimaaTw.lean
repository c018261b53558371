/- Contracts of functions, for the law. -/
import Derived.Test.YtjhkapjadfpimaaMOne
import Derived.Test.YtjhkapjadfpimaaPLp
import Derived.Deep.RegionHeld3
import Derived.Test.YtjhkapjadfpimaaWTrim
import Derived.Test.YtjhkapjadfpimaaMPivot
import Derived.Test.YtjhkapjadfpimaaNPt
namespace Go.Proofs.Ytjhkapjadfpimaa
set_option linter.unusedVariables false
set_option linter.unusedSimpArgs false
open Go.RowKit Plain
theorem FL.flat {w:World} {a:Addr} {c:Nat} {ds:List FrD} (h:FL w (some a) c ds) (j:Nat) (u:Value) (hu:(ds.flatMap FrD.cells)[j]?=some u):w.cell? (a.add j)=some u:=by
 have hj:j < ds.length*3:=by
  have:=(List.getElem?_eq_some_iff.1 hu).1;rw [flat_len] at this;exact this
 obtain ⟨a',e,h1,h2⟩:=h.row.2.2 (j / 3) (by omega)
 injection e with e
 subst e;have h3:=flat3 ds (j / 3) (j % 3) (by omega) (by omega);rw [show j / 3*3+j % 3=j by omega,hu] at h3;have h4:=h2 (j % 3) u h3.symm
 rwa [show j / 3*3+j % 3=j by omega] at h4
set_option maxRecDepth 100000 in
/-- A slice of a foreign row that is full is appended to: a new row. -/
theorem run_appFull {A:Option Addr} {c:Nat} {ds:List FrD} (w:World) (h:FL w A c ds) (ad:Addr) (cc:Nat) (d:FrD) (hnews:∀ j u,d.cells[j]?=some u→w.cell? (ad.add j)=some u) (h63:ds.length+1≤1000000000000) :
 ∃ v' w',(Builtin.append_ #[22,22] 22 #[.slice A ds.length ds.length,.slice (some ad) 1 cc]).run Try.prog w=.ok v' w'∧OwnQ w' w.heap.size v' (ds ++ [d])∧w.grownBy w' none:=by
 cases A with
 | none =>
  have h0:ds.length=0:=by
   rcases Nat.eq_zero_or_pos ds.length with h0 | h0
   · exact h0
   · obtain ⟨a,e,_⟩:=h.row.2.2 0 h0
     cases e
  have:ds=[]:=List.eq_nil_of_length_eq_zero h0;subst this;exact run_appQ w w.heap.size (.slice none 0 0) [] (OwnQ.nil _ _) ad cc d hnews (by simp) (Nat.le_refl _)
 | some a =>
  obtain ⟨i,hi,hz0,hz1,hz2⟩:=info_parts infoFrac;have hm:maxLen=9223372036854775807:=rfl;have hl:d.cells.length=1*3:=rfl;have hr:=run_append_grow (P:=Try.prog) w 22 22 28 i (.agg #[.bool false,.slice none 0 0,.slice none 0 0]) Try.underlying22 hi hz0 a ds.length ds.length (ds.flatMap FrD.cells) (by rw [hz1];exact flat_len ds) h.flat ad 1 cc d.cells (by rw [hz1];rfl) hnews (by omega) (by omega) (growslice_fits (by omega) (by rw [hz2];omega));have hzc:(Value.agg #[.bool false,.slice none 0 0,.slice none 0 0]).cells=#[.bool false,.slice none 0 0,.slice none 0 0]:=rfl;have hge:=grownCap_ge w (ds.length+1) ds.length 28;have hcm:=grownCap_le_maxLen w (ds.length+1) ds.length 28 (by omega);refine ⟨_,_,hr,⟨⟨by rw [flat_len],.inr ⟨w.heap.size,_,_,by rw [List.length_append];rfl,Nat.le_refl _,heap_alloc_new w.drew _,by simpa using hge,hcm,?_,?_⟩⟩,fun g hg=>?_⟩,⟨rfl,rfl,rfl,by simp,fun k hk _=>heap_alloc_old w.drew _ hk⟩⟩
  · simp only [Array.size_append,List.size_toArray,size_zeroCells,flat_len,hl]
    rw [hzc];have h3:(#[Value.bool false,.slice none 0 0,.slice none 0 0]:Array Value).size=3:=rfl;rw [h3];omega
  · have e:(ds ++ [d]).length*3=(ds.flatMap FrD.cells ++ d.cells).length:=by simp only [List.length_append,flat_len,hl,List.length_singleton];omega
    simp only [Array.toList_append]
    rw [e,List.take_left,List.flatMap_append]
    simp
  · simp [Value.ownBlock] at hg
    subst hg;refine ⟨_,heap_alloc_new w.drew _,NoDigL.noDig (((noDig_flat ds).append (noDig_cells d)).append (noDig_zero (grownCap w (ds.length+1) ds.length 28 - (ds.length+1)))) ?_⟩;rw [hzc];simp
theorem step_appFull {w:World} {ops:Array Oper} {o:Oper} {a:Act} {K:Act→World→Prop} {Q:Exit→Act→World→Prop} {E:Prop} (hgd:o.guard=none) (s x:Operand)
 (ho:o.op=.call { callee:=.builtin .append,args:=#[s,x],argTypes:=#[22,22] }) (hty:o.type=22)
 {A:Option Addr} {c:Nat} {ds:List FrD} (hf:FL w A c ds) (hs:a.eval s=.slice A ds.length ds.length) (ad:Addr) (cc:Nat) (d:FrD) (hx:a.eval x=.slice (some ad) 1 cc) (hnews:∀ j u,d.cells[j]?=some u→w.cell? (ad.add j)=some u)
 (h63:ds.length+1≤1000000000000)
 (h:∀ v' w',OwnQ w' w.heap.size v' (ds ++ [d])→w.grownBy w' none→K (a.put o.dst v') w') :
 if Region.wanted o (yielded ops a.tmps)=true then Oper.wp Try.prog o a w K Q else E:=by
 have hw:Region.wanted o (yielded ops a.tmps)=true:=by simp [Region.wanted,hgd]
 rw [if_pos hw];obtain ⟨v',w',hr,h2,h3⟩:=run_appFull w hf ad cc d hnews h63
 unfold Oper.wp execOp
 simp only [ho,hty,resolve,invoke,builtin,Sem.run_bind,Sem.run_pure,Result.andThen_ok,List.map_toArray,List.map_cons,List.map_nil,hs,hx,hr]
 exact h v' w' h2 h3
theorem step_appM {w:World} {ops:Array Oper} {o:Oper} {a:Act} {K:Act→World→Prop} {Q:Exit→Act→World→Prop} {E:Prop} (hgd:o.guard=none) {T:TypeId} (hT:Try.prog.underlying T=some (.slice 22)) (s x:Operand)
 (ho:o.op=.call { callee:=.builtin .append,args:=#[s,x],argTypes:=#[T,T] }) (hty:o.type=T)
 (base:Nat) (v:Value) (rows:List RwD) (hs:a.eval s=v) (hown:OwnM w base v rows) (ad:Addr) (c:Nat) (r:RwD) (hx:a.eval x=.slice (some ad) 1 c) (hnews:w.cell? ad=some r.v)
 (h63:rows.length+1≤1000000000000) (hbase:base≤w.heap.size)
 (h:∀ v' w',OwnM w' base v' (rows ++ [r])→w.grownBy w' v.ownBlock→K (a.put o.dst v') w') :
 if Region.wanted o (yielded ops a.tmps)=true then Oper.wp Try.prog o a w K Q else E:=by
 have hw:Region.wanted o (yielded ops a.tmps)=true:=by simp [Region.wanted,hgd]
 rw [if_pos hw];obtain ⟨v',w',hr,h2,h3⟩:=run_appM hT w base v rows hown ad c r hnews h63 hbase
 unfold Oper.wp execOp
 simp only [ho,hty,resolve,invoke,builtin,Sem.run_bind,Sem.run_pure,Result.andThen_ok,List.map_toArray,List.map_cons,List.map_nil,hs,hx,hr]
 exact h v' w' h2 h3
end Go.Proofs.Ytjhkapjadfpimaa
namespace Go.Proofs.Ytjhkapjadfpimaa
set_option linter.unusedVariables false
set_option linter.unusedSimpArgs false
open Go.RowKit Plain
attribute [local go_sem ↓] Go.wp_at_zero Go.wp_at_succ
def PutInv (is:List Nat) (f:Nat→Rat) (s:List Rat) (g:Nat) (root:World) (i:Value) (wr:World):Prop:=∃ k:Nat,k≤is.length∧i=.int .i64 (k:Int)∧ColAt g (putAll (is.zipIdx.take k) f s) root wr
def solveS (M:Mat) (b:List Rat):List Rat × Int :=
 if formedL M=true∧b.length=M.length then match solveL M b with
  | some x=>(x,0)
  | none=>([],6)
 else ([],2)
theorem solveS_form {M:Mat} {b:List Rat} (h:¬ (formedL M=true∧b.length=M.length)):solveS M b=([],2):=by unfold solveS;rw [if_neg h]
theorem solveS_none {M:Mat} {b:List Rat} {n:Nat} (h:formedL M=true) (hb:b.length=M.length) (hn:colsL M=n) (hz:restZero (reduceL (withL M b) n).1 (reduceL (withL M b) n).2.length n=false):solveS M b=([],6):=by
 unfold solveS solveL;rw [if_pos ⟨h,hb⟩,hn]
 simp only
 rw [if_neg (by rw [hz];decide)]
theorem solveS_some {M:Mat} {b:List Rat} {n:Nat} (h:formedL M=true) (hb:b.length=M.length) (hn:colsL M=n) (hz:restZero (reduceL (withL M b) n).1 (reduceL (withL M b) n).2.length n=true) :
 solveS M b=(putAll (reduceL (withL M b) n).2.zipIdx (fun i=>fn (reduceL (withL M b) n).1 i n) (List.replicate n 0),0):=by
 unfold solveS solveL;rw [if_pos ⟨h,hb⟩,hn]
 simp only
 rw [if_pos hz];have hr:rect (withL M b) (n+1):=withL_rect (by rw [←hn];exact formedL_rect h)
 simp only
 rw [putAll_out (reduceL_ok hr n (by omega)).red _ (Nat.le_refl n)]
def RestInv (R:Mat) (k n:Nat) (root:World) (i:Value) (wr:World):Prop:=∃ j:Nat,k+j≤R.length∧i=.int .i64 (j:Int)∧Hid (∀ i,k≤i→i < k+j→fn R i n=0)∧Below root.heap.size root wr
theorem restZero_no {R:Mat} {k n i:Nat} (h1:k≤i) (h2:i < R.length) (h3:fn R i n≠0):restZero R k n=false:=by
 unfold restZero;rw [List.all_eq_false];refine ⟨R.getD i [],?_,by simpa [fn] using h3⟩;rw [List.mem_iff_getElem?];exact ⟨i - k,by rw [List.getElem?_drop,show k+(i - k)=i by omega,List.getD_eq_getElem?_getD,List.getElem?_eq_getElem h2];rfl⟩
theorem restZero_yes {R:Mat} {k n:Nat} (h:∀ i,k≤i→i < R.length→fn R i n=0):restZero R k n=true:=by
 unfold restZero;rw [List.all_eq_true];intro r hr;obtain ⟨j,hj⟩:=List.mem_iff_getElem?.1 hr;rw [List.getElem?_drop] at hj;have hl:=(List.getElem?_eq_some_iff.1 hj).1;have:=h (k+j) (by omega) hl;unfold fn at this;rw [List.getD_eq_getElem?_getD (l:=R),hj] at this
 simpa using this
theorem withL_fits {K:Nat} {M:Mat} {b:List Rat} (h:MFits K M) (hb:QFits K b):MFits K (withL M b):=fun r hr=>by
 unfold withL at hr;obtain ⟨i,hi⟩:=List.mem_iff_getElem?.1 hr;rw [List.getElem?_zipWith] at hi
 cases hM:M[i]? with
 | none=>rw [hM] at hi;simp at hi
 | some x =>
  cases hB:b[i]? with
  | none=>rw [hM,hB] at hi;simp at hi
  | some y =>
   rw [hM,hB] at hi
   simp at hi
   subst hi;intro q hq
   rcases List.mem_append.1 hq with hq | hq
   · exact h x (List.mem_of_getElem? hM) q hq
   · simp at hq;subst hq;exact hb _ (List.mem_of_getElem? hB)
end Go.Proofs.Ytjhkapjadfpimaa
namespace Go.Proofs.Ytjhkapjadfpimaa
set_option linter.unusedVariables false
set_option linter.unusedSimpArgs false
open Go.RowKit Plain
structure Con where
 normal:List Rat
 least:Rat
structure St where
 x:List Rat
 level:Rat
 active:List Nat
 mults:List Rat
def dotR (a b:List Rat):Rat:=sumR (List.zipWith (·*·) a b)
def nrm (all:List Con) (k:Nat):List Rat:=match all[k]? with | some c=>c.normal | none=>[]
def lst (all:List Con) (k:Nat):Rat:=match all[k]? with | some c=>c.least | none=>0
theorem nrm_of {all:List Con} {k:Nat} {c:Con} (h:all[k]?=some c):nrm all k=c.normal:=by unfold nrm;rw [h]
theorem lst_of {all:List Con} {k:Nat} {c:Con} (h:all[k]?=some c):lst all k=c.least:=by unfold lst;rw [h]
def worstK (all:List Con) (x:List Rat):Nat→Option Nat × Rat
 | 0=>(none,0)
 | k+1=>if 0 < lst all k - dotR (nrm all k) x∧((worstK all x k).1=none∨(worstK all x k).2 < lst all k - dotR (nrm all k) x) then (some k,lst all k - dotR (nrm all k) x) else worstK all x k
def oi:Option Nat→Int
 | none=>-1
 | some k=>k
def normalsS (n:Nat) (all:List Con) (active:List Nat):List (List Rat):=List.replicate n 1 :: active.map (nrm all)
def gramS (ns:List (List Rat)):Mat:=ns.map fun a=>ns.map (dotR a)
def rightS (ns:List (List Rat)) (v:List Rat):List Rat:=ns.map fun a=>dotR a v
def lessZ (z:List Rat) (c:Rat) (a:List Rat):List Rat:=List.zipWith (fun zi ai=>zi - c*ai) z a
def zAt (ns:List (List Rat)) (r v:List Rat):Nat→List Rat
 | 0=>v
 | j+1=>lessZ (zAt ns r v j) (r.getD j 0) (ns.getD j [])
def dirS (n:Nat) (all:List Con) (active:List Nat) (k:Nat):Option (List Rat × Rat × List Rat) :=
 match solveL (gramS (normalsS n all active)) (rightS (normalsS n all active) (nrm all k)) with
 | some r=>some (zAt (normalsS n all active) r (nrm all k) (normalsS n all active).length,r.getD 0 0,r.drop 1)
 | none=>none
def limK (mults rates:List Rat):Nat→Option Nat × Rat
 | 0=>(none,0)
 | j+1=>if 0 < rates.getD j 0∧((limK mults rates j).1=none∨mults.getD j 0 / rates.getD j 0 < (limK mults rates j).2) then (some j,mults.getD j 0 / rates.getD j 0) else limK mults rates j
def moveS (s:St) (z:List Rat) (lev:Rat) (rates:List Rat) (t:Rat):St :=
 ⟨List.zipWith (fun a b=>a+t*b) s.x z,s.level - t*lev,s.active,List.zipWith (fun a b=>a - t*b) s.mults rates⟩
def dropS (s:St) (j:Nat):St:=⟨s.x,s.level,s.active.take j ++ s.active.drop (j+1),s.mults.take j ++ s.mults.drop (j+1)⟩
def fullT (all:List Con) (k:Nat) (x z:List Rat):Rat:=(lst all k - dotR (nrm all k) x) / dotR z (nrm all k)
def stepS (n:Nat) (all:List Con) (k:Nat) (s:St) (m:Rat):Option (Option (Bool × St × Rat)) :=
 match dirS n all s.active k with
 | none=>none
 | some (z,lev,rates) =>
  if 0 < dotR z (nrm all k)∧((limK s.mults rates rates.length).1=none∨fullT all k s.x z≤(limK s.mults rates rates.length).2) then
   some (some (true,moveS s z lev rates (fullT all k s.x z),m+fullT all k s.x z))
  else match (limK s.mults rates rates.length).1 with
   | none=>some none
   | some j=>some (some (false,dropS (moveS s z lev rates (limK s.mults rates rates.length).2) j,m+(limK s.mults rates rates.length).2))
def fitsB (K:Nat) (q:Rat):Bool:=decide (q.num.natAbs < pw K) && decide (q.den < pw K)
theorem fitsB_iff {K:Nat} {q:Rat}:fitsB K q=true ↔ Fits K q:=by unfold fitsB Fits;simp
def okS (K n:Nat) (all:List Con) (s:St):Bool :=
 s.x.all (fitsB K) && (fitsB K s.level && (s.mults.all (fitsB K) && (decide (s.x.length=n) && (decide (s.mults.length=s.active.length) && (decide (s.active.length≤7) && s.active.all fun k=>decide (k < all.length))))))
structure OkS (K n:Nat) (all:List Con) (s:St):Prop where
 x:QFits K s.x
 lev:Fits K s.level
 mults:QFits K s.mults
 lx:s.x.length=n
 lm:s.mults.length=s.active.length
 la:s.active.length≤7
 act:∀ k ∈ s.active,k < all.length
theorem okS_iff {K n:Nat} {all:List Con} {s:St}:okS K n all s=true ↔ OkS K n all s:=by
 unfold okS
 simp only [Bool.and_eq_true,List.all_eq_true,decide_eq_true_eq,fitsB_iff]
 exact ⟨fun ⟨a,b,c,d,e,f,g⟩=>⟨a,b,c,d,e,f,g⟩,fun h=>⟨h.x,h.lev,h.mults,h.lx,h.lm,h.la,h.act⟩⟩
def satR (K n:Nat) (all:List Con) (k:Nat):Nat→St→Rat→Option (Option St)
 | 0,_,_=>none
 | f+1,s,m=>if okS K n all s=true∧fitsB K m=true then
  match stepS n all k s m with
  | none=>none
  | some none=>some none
  | some (some (true,t,m'))=>some (some ⟨t.x,t.level,t.active ++ [k],t.mults ++ [m']⟩)
  | some (some (false,t,m'))=>satR K n all k f t m'
  else none
def runS (K n:Nat) (all:List Con):Nat→St→Option (Option St)
 | 0,_=>none
 | f+1,s=>if okS K n all s=true then
  match (worstK all s.x all.length).1 with
  | none=>some (some s)
  | some k=>match satR K n all k f s 0 with
   | none=>none
   | some none=>some none
   | some (some t)=>runS K n all f t
  else none
def startS (target:List Rat) (sum:Rat) (n:Nat):St:=⟨target.map fun q=>q+(sum - sumR target) / (n:Rat),(sum - sumR target) / (n:Rat),[],[]⟩
def projS (K:Nat) (all:List Con) (target:List Rat) (sum:Rat) (n f:Nat):Option (Option St) :=
 if n=0 then if sum - sumR target=0∧(worstK all target all.length).1=none then some (some ⟨target,0,[],[]⟩) else some none
 else runS K n all f (startS target sum n)
def addAt (l:List Rat) (p:Nat × Rat):List Rat:=l.set p.1 (l.getD p.1 0+p.2)
def spread (n:Nat) (ps:List (Nat × Rat)):List Rat:=ps.foldl addAt (List.replicate n 0)
theorem addAt_len (l:List Rat) (p:Nat × Rat):(addAt l p).length=l.length:=by simp [addAt]
theorem spread_len (n:Nat) (ps:List (Nat × Rat)):(spread n ps).length=n:=by
 have key:∀ (ps:List (Nat × Rat)) (l:List Rat),(ps.foldl addAt l).length=l.length:=fun ps=>by
  induction ps with
  | nil=>exact fun l=>rfl
  | cons p ps ih=>intro l;rw [List.foldl_cons,ih,addAt_len]
 unfold spread;rw [key,List.length_replicate]
theorem spread_step {n j:Nat} {ps:List (Nat × Rat)} {p:Nat × Rat} (h:ps[j]?=some p):spread n (ps.take (j+1))=addAt (spread n (ps.take j)) p:=by
 unfold spread;rw [List.take_add_one,h,List.foldl_append];rfl
def unitL (n p:Nat) (v:Rat):List Rat:=(List.range n).map fun i=>if bitP p i=true then v else 0
def allS (ns:List NdD) (ms:List Int):List Con :=
 (ns.map fun d=>⟨unitL ms.length d.p.toNat 1,(d.l:Rat)⟩) ++ ((List.range ms.length).map fun i=>⟨unitL ms.length (2 ^ i) 1,0⟩) ++ (List.range ms.length).map fun i=>⟨unitL ms.length (2 ^ i) (-1),((-(ms.getD i 0):Int):Rat)⟩
theorem least_ex {P:Nat→Prop} (h:∃ n,P n):∃ n,P n∧∀ m,P m→n≤m:=by
 obtain ⟨n,hn⟩:=h
 induction n using Nat.strongRecOn with
 | _ n ih =>
  by_cases e:∃ m,m < n∧P m
  · obtain ⟨m,h1,h2⟩:=e;exact ih m h1 h2
  · exact ⟨n,hn,fun m hm=>Nat.le_of_not_lt fun hl=>e ⟨m,hl,hm⟩⟩
open Classical in
noncomputable def leastN (P:Nat→Prop):Nat:=if h:∃ n,P n then Classical.choose (least_ex h) else 0
theorem leastN_is {P:Nat→Prop} (h:∃ n,P n):P (leastN P):=by
 unfold leastN;rw [dif_pos h];exact (Classical.choose_spec (least_ex h)).1
theorem leastN_le {P:Nat→Prop} {n:Nat} (h:P n):leastN P≤n:=by
 unfold leastN;rw [dif_pos ⟨n,h⟩];exact (Classical.choose_spec (least_ex ⟨n,h⟩)).2 n h
end Go.Proofs.Ytjhkapjadfpimaa
namespace Go.Proofs.Ytjhkapjadfpimaa
set_option linter.unusedVariables false
set_option linter.unusedSimpArgs false
open Go.RowKit
section
variable {P:Program} {ops:Array Oper} {Q:Exit→Act→World→Prop} {md:Region.Mode} {S:World→Prop} {J:List Nat}
def waitsFor (md:Region.Mode) (ops:Array Oper) (i:Nat):Nat→Nat→Bool
 | 0,j=>j == i
 | f+1,j=>j == i || match ops[j]? with
  | some o=>o.after.any fun e=>Region.binds md e && waitsFor md ops i f e.on
  | none=>false
def shutL (md:Region.Mode) (ops:Array Oper) (listed:Array Bool):Bool :=
 (List.range ops.size).all fun k=>!(listed.getD k false) || match ops[k]? with
  | some o=>o.after.all fun e=>!(Region.binds md e) || listed.getD e.on false
  | none=>true
theorem shutL_spec {listed:Array Bool} (h:shutL md ops listed=true) {k:Nat} {o:Oper} (ho:ops[k]?=some o) (hk:listed.getD k false=true) (e:Edge) (he:e ∈ o.after) (hb:Region.binds md e=true):listed.getD e.on false=true:=by
 unfold shutL at h
 simp only [List.all_eq_true,List.mem_range] at h
 have h1:=h k (Array.getElem?_eq_some_iff.1 ho).1;rw [hk,ho] at h1
 simp only [Bool.not_true,Bool.false_or] at h1
 have h2:=Array.all_eq_true_iff_forall_mem.1 h1 e he;rw [hb] at h2
 simpa using h2
def ShutP (md:Region.Mode) (ops:Array Oper) (listed:Array Bool):Prop:=∀ (k:Nat) (o:Oper),ops[k]?=some o→listed.getD k false=true→∀ e ∈ o.after,Region.binds md e=true→listed.getD e.on false=true
theorem waits_listed {listed:Array Bool} (hc:ShutP md ops listed) {i:Nat}:∀ (f j:Nat),waitsFor md ops i f j=true→listed.getD j false=true→listed.getD i false=true:=by
 intro f
 induction f with
 | zero=>intro j h hj;unfold waitsFor at h;rw [beq_iff_eq] at h;rw [←h];exact hj
 | succ f ih =>
  intro j h hj;unfold waitsFor at h;rw [Bool.or_eq_true] at h
  rcases h with h | h
  · rw [beq_iff_eq] at h;rw [←h];exact hj
  · split at h
    · rename_i o ho
      obtain ⟨e,he,hb⟩:=Array.any_eq_true'.1 h;rw [Bool.and_eq_true] at hb;exact ih e.on hb.2 (hc j o ho hj e he hb.1)
    · cases h
theorem not_ready {listed:Array Bool} (hc:ShutP md ops listed) {i j f:Nat} (hw:waitsFor md ops i f j=true) (hij:j≠i) (hi:listed.getD i true=false):j ∉ Region.ready md ops listed:=by
 intro hj;obtain ⟨h0,o,ho,hall⟩:=mem_ready.1 hj
 have key:listed.getD i false=true:=by
  cases f with
  | zero=>unfold waitsFor at hw;rw [beq_iff_eq] at hw;exact absurd hw hij
  | succ f =>
   unfold waitsFor at hw;rw [Bool.or_eq_true] at hw
   rcases hw with hw | hw
   · rw [beq_iff_eq] at hw;exact absurd hw hij
   · rw [ho] at hw
     simp only at hw
     obtain ⟨e,he,hb⟩:=Array.any_eq_true'.1 hw;rw [Bool.and_eq_true] at hb;exact waits_listed hc f e.on hb.2 (hall e he hb.1)
 rcases Nat.lt_or_ge i listed.size with h' | h'
 · simp [h'] at hi key;rw [hi] at key;cases key
 · simp [Array.getElem?_eq_none h'] at hi
theorem ShutP.set {listed:Array Bool} (hc:ShutP md ops listed) {j:Nat} (hj:j ∈ Region.ready md ops listed):ShutP md ops (listed.setIfInBounds j true):=by
 intro k o ho hk e he hb
 by_cases e1:j=k
 · subst e1;obtain ⟨h0,o',ho',hall⟩:=mem_ready.1 hj;rw [ho] at ho'
   injection ho' with ho'
   subst ho';exact getD_set_true (hall e he hb)
 · rw [getD_set_ne false e1] at hk;exact getD_set_true (hc k o ho hk e he hb)
def wpAnyW (P:Program) (md:Region.Mode) (ops:Array Oper) (Q:Exit→Act→World→Prop) (S:World→Prop) (J:List Nat):Nat→Array Bool→Act→World→Prop
 | 0,listed,a,w=>Region.ready md ops listed=[]∧Q .normal a w
 | fuel+1,listed,a,w =>
  (Region.ready md ops listed=[]→Q .normal a w) ∧
  ∀ i ∈ Region.ready md ops listed,wpOp P ops Q i (fun a' w'=>(i ∉ J→S w')∧wpAnyW P md ops Q S J fuel (listed.setIfInBounds i true) a' w') a w
theorem wpAny_of_wait:∀ (fuel:Nat) (listed:Array Bool) (a:Act) (w:World),wpAnyW P md ops Q S J fuel listed a w→wpAny P md ops Q fuel listed a w
 | 0,_,_,_,h=>h
 | fuel+1,_,_,_,h=>⟨h.1,fun i hi=>wpOp_mono (fun a' w' h'=>wpAny_of_wait fuel _ a' w' h'.2) (h.2 i hi)⟩
theorem wpAnyW_first {i:Nat} {oi:Oper} {v:Value} (hi:ops[i]?=some oi) (hsel:∀ (j:Nat) (o:Oper) cs b,ops[j]?=some o→o.op≠.select cs b)
 (hQ:∀ c a w,Q (.panic c) (a.put oi.dst v) w→Q (.panic c) a w) (hJ:∀ j ∈ J,j≠i∧waitsFor md ops i ops.size j=true) :
 ∀ (fuel:Nat) (listed:Array Bool) (a:Act) (w:World),
  (∀ j oj,ops[j]?=some oj→j≠i→listed.getD j true=false→(∀ e ∈ oj.after,Region.binds md e=true→e.on≠i)→oi.apart ops oj=true) →
  ShutP md ops listed→i ∈ Region.ready md ops listed→YieldsIf P ops S oi v a→S w →
  wpAnyW P md ops Q S J fuel (listed.setIfInBounds i true) (a.put oi.dst v) w→wpAnyW P md ops Q S J (fuel+1) listed a w:=by
 intro fuel
 induction fuel with
 | zero =>
  intro listed a w _ hc hr hy hS H;refine ⟨fun h=>(by rw [h] at hr;cases hr),fun j hj=>?_⟩
  by_cases hji:j=i
  · subst hji;exact hy.wpOp hi hS ⟨fun _=>hS,H⟩
  · have:=ready_mono hj hji;rw [H.1] at this
    cases this
 | succ fuel ih =>
  intro listed a w hfree hc hr hy hS H;refine ⟨fun h=>(by rw [h] at hr;cases hr),fun j hj=>?_⟩
  by_cases hji:j=i
  · subst hji;exact hy.wpOp hi hS ⟨fun _=>hS,H⟩
  · have h1:=H.2 j (ready_mono hj hji);have hjJ:j ∉ J:=fun hx=>not_ready hc (hJ j hx).2 (hJ j hx).1 (mem_ready.1 hr).1 hj;obtain ⟨hjun,oj,hoj,hall⟩:=mem_ready.1 hj
    have hnot:∀ e ∈ oj.after,Region.binds md e=true→e.on≠i:=fun e he hb heq=>by
     have h1:=hall e he hb;have h0:=(mem_ready.1 hr).1;rw [heq] at h1
     rcases Nat.lt_or_ge i listed.size with h' | h'
     · simp [h'] at h0 h1;rw [h0] at h1;cases h1
     · simp [Array.getElem?_eq_none h'] at h1
    have h2:=wpOp_putIf hoj (hfree j oj hoj hji hjun hnot) (fun cs b=>hsel i oi cs b hi) (fun cs b=>hsel j oj cs b hoj) hQ hy h1
    have hfree':∀ k ok,ops[k]?=some ok→k≠i→(listed.setIfInBounds j true).getD k true=false →
     (∀ e ∈ ok.after,Region.binds md e=true→e.on≠i)→oi.apart ops ok=true:=fun k ok hk hki hun hno=>by
     refine hfree k ok hk hki ?_ hno
     by_cases hjk:j=k
     · subst hjk;exact hjun
     · rw [getD_set_ne true hjk] at hun;exact hun
    refine wpOp_mono (fun a' w' h3=>⟨h3.2.1,ih (listed.setIfInBounds j true) a' w' hfree' (hc.set hj) (ready_mono hr (Ne.symm hji)) h3.1 (h3.2.1 hjJ) ?_⟩) h2;rw [Array.setIfInBounds_comm _ _ hji];exact h3.2.2
theorem wpAnyW_take {i:Nat} {oi:Oper} {v:Value} {fuel:Nat} {listed:Array Bool} {a:Act} {w:World} (hi:ops[i]?=some oi)
 (hs:Region.noSelect ops=true) (hf:Region.free md ops listed i=true) (hr:(Region.ready md ops listed).contains i=true)
 (hc:shutL md ops listed=true) (hJ:(J.all fun j=>(j != i) && waitsFor md ops i ops.size j)=true)
 (hQ:∀ c a w,Q (.panic c) (a.put oi.dst v) w→Q (.panic c) a w) (hy:YieldsIf P ops S oi v a) (hS:S w)
 (h:wpAnyW P md ops Q S J fuel (listed.setIfInBounds i true) (a.put oi.dst v) w):wpAnyW P md ops Q S J (fuel+1) listed a w:=by
 refine wpAnyW_first hi (Region.noSelect_spec hs) hQ (fun j hj=>?_) fuel listed a w (Region.free_spec hi hf) (fun k o ho hk e he hb=>shutL_spec hc ho hk e he hb) (by simpa using hr) hy hS h;have:=List.all_eq_true.1 hJ j hj;rw [Bool.and_eq_true,bne_iff_ne] at this;exact this
theorem wpAnyW_done {listed:Array Bool} {a:Act} {w:World} (hr:Region.ready md ops listed=[]) (h:Q .normal a w):∀ fuel,wpAnyW P md ops Q S J fuel listed a w
 | 0=>⟨hr,h⟩
 | _+1=>⟨fun _=>h,by rw [hr];simp⟩
def AllReadyW (P:Program) (md:Region.Mode) (ops:Array Oper) (Q:Exit→Act→World→Prop) (S:World→Prop) (J:List Nat) (fuel:Nat) (listed:Array Bool) (a:Act) (w:World) (rs:List Nat):Prop :=
 ∀ i ∈ rs,wpOp P ops Q i (fun a' w'=>(i ∉ J→S w')∧wpAnyW P md ops Q S J fuel (listed.setIfInBounds i true) a' w') a w
theorem AllReadyW.nil {fuel:Nat} {listed:Array Bool} {a:Act} {w:World}:AllReadyW P md ops Q S J fuel listed a w []:=fun _ h=>by cases h
theorem AllReadyW.cons {fuel:Nat} {listed:Array Bool} {a:Act} {w:World} {i:Nat} {o:Oper} {rs:List Nat} (ho:ops[i]?=some o)
 (h:∀ K':Act→World→Prop,Shut (∀ a w,S w→(S w→wpAnyW P md ops Q S J fuel (listed.setIfInBounds i true) a w)→K' a w)→if Region.wanted o (yielded ops a.tmps)=true then Oper.wp P o a w K' Q else K' (a.put o.dst undef) w)
 (hs:AllReadyW P md ops Q S J fuel listed a w rs):AllReadyW P md ops Q S J fuel listed a w (i :: rs):=fun j hj=>by
 rcases List.mem_cons.1 hj with rfl | hj
 · exact wpOp_step ho (fun K' hK=>h K' (fun a w hS hW=>hK a w ⟨fun _=>hS,hW hS⟩))
 · exact hs j hj
theorem AllReadyW.last {fuel:Nat} {listed:Array Bool} {a:Act} {w:World} {i:Nat} {o:Oper} {rs:List Nat} (ho:ops[i]?=some o) (hi:i ∈ J)
 (h:∀ K':Act→World→Prop,Shut (∀ a w,wpAnyW P md ops Q S J fuel (listed.setIfInBounds i true) a w→K' a w)→if Region.wanted o (yielded ops a.tmps)=true then Oper.wp P o a w K' Q else K' (a.put o.dst undef) w)
 (hs:AllReadyW P md ops Q S J fuel listed a w rs):AllReadyW P md ops Q S J fuel listed a w (i :: rs):=fun j hj=>by
 rcases List.mem_cons.1 hj with rfl | hj
 · exact wpOp_step ho (fun K' hK=>h K' (fun a w hW=>hK a w ⟨fun hn=>absurd hi hn,hW⟩))
 · exact hs j hj
theorem wpAnyW_ready {rs:List Nat} {fuel:Nat} {listed:Array Bool} {a:Act} {w:World} (hr:Region.ready md ops listed=rs) (hne:rs≠[])
 (h:AllReadyW P md ops Q S J fuel listed a w rs):wpAnyW P md ops Q S J (fuel+1) listed a w :=
 ⟨fun h0=>absurd (hr ▸ h0) hne,hr ▸ h⟩
theorem wp_region_wait {id:Nat} {a:Act} {w:World} (hm:P.follows .mixedOrders=true) (hS:S w.drew)
 (h:S w.drew→wpAnyW P .any ops Q S J ops.size (Array.replicate ops.size false) a w.drew):(Code.region id ops true).wp P Q a w :=
 wp_region_any hm (wpAny_of_wait _ _ _ _ (h hS))
end
section
variable {P:Program} {ops:Array Oper} {Q:Exit→Act→World→Prop} {md:Region.Mode} {S:World→Prop} {J:List Nat} {fuel:Nat} {listed:Array Bool} {a:Act} {w:World} {oi:Oper} {v:Value}
theorem tkW {a':Act} {l':Array Bool} (i:Nat) (hi:ops[i]?=some oi) (hS:S w) (h:wpAnyW P md ops Q S J fuel l' a' w) (hs:Region.noSelect ops=true:=by kernel_rfl) (hf:Region.free md ops listed i=true:=by kernel_rfl) (hr:(Region.ready md ops listed).contains i=true:=by kernel_rfl) (hc:shutL md ops listed=true:=by kernel_rfl) (hJ:(J.all fun j=>(j != i) && waitsFor md ops i ops.size j)=true:=by kernel_rfl) (hw:Region.wanted oi (yielded ops a.tmps)=true:=by rfl)
 (hy:∀ w,S w→(execOp a.eval oi).run P w=.ok (.value v) w:=by (intro w hSw;(try dsimp only at hSw);go_simp;all_goals with_reducible rfl)) (hQ:∀ c a w,Q (.panic c) (a.put oi.dst v) w→Q (.panic c) a w:=by exact fun _ _ _ h=>h) (ha:a.put oi.dst v=a':=by ((try simp only [lay]);first | done | rfl)) (hl:listed.setIfInBounds i true=l':=by ((try simp only [lay]);first | done | rfl)):wpAnyW P md ops Q S J (fuel+1) listed a w:=by
 subst ha hl
 exact
 wpAnyW_take hi hs hf hr hc hJ hQ (Or.inl ⟨hw,hy⟩) hS h
theorem tkU {a':Act} {l':Array Bool} (i:Nat) (hi:ops[i]?=some oi) (hS:S w) (h:wpAnyW P md ops Q S J fuel l' a' w) (hs:Region.noSelect ops=true:=by kernel_rfl) (hf:Region.free md ops listed i=true:=by kernel_rfl) (hr:(Region.ready md ops listed).contains i=true:=by kernel_rfl) (hc:shutL md ops listed=true:=by kernel_rfl) (hJ:(J.all fun j=>(j != i) && waitsFor md ops i ops.size j)=true:=by kernel_rfl) (hw:Region.wanted oi (yielded ops a.tmps)=false:=by kernel_rfl)
 (hQ:∀ c a w,Q (.panic c) (a.put oi.dst undef) w→Q (.panic c) a w:=by exact fun _ _ _ h=>h) (ha:a.put oi.dst undef=a':=by ((try simp only [lay]);first | done | rfl)) (hl:listed.setIfInBounds i true=l':=by ((try simp only [lay]);first | done | rfl)):wpAnyW P md ops Q S J (fuel+1) listed a w:=by
 subst ha hl
 exact
 wpAnyW_take hi hs hf hr hc hJ hQ (Or.inr ⟨hw,rfl⟩) hS h
theorem rdW (i:Nat) (ho:ops[i]?=some oi) (h:∀ K':Act→World→Prop,Shut (∀ a w,S w→(S w→wpAnyW P md ops Q S J fuel (listed.setIfInBounds i true) a w)→K' a w)→if Region.wanted oi (yielded ops a.tmps)=true then Oper.wp P oi a w K' Q else K' (a.put oi.dst undef) w)
 (hr:Region.ready md ops listed=[i]:=by kernel_rfl):wpAnyW P md ops Q S J (fuel+1) listed a w:=wpAnyW_ready hr (by simp) (AllReadyW.cons ho h AllReadyW.nil)
end
end Go.Proofs.Ytjhkapjadfpimaa
