/- Contracts of functions, for the law. -/
import Derived.Test.YtjhkapjadfpimaaMRed
namespace Go.Proofs.Ytjhkapjadfpimaa.Plain
set_option linter.unusedVariables false
set_option linter.unusedSimpArgs false
theorem sm_head (m:Nat) (f:Nat→Rat):sm (m+1) f=f 0+sm m (fun i=>f (i+1)):=by
 induction m with
 | zero=>show (0:Rat)+f 0=f 0+0;grind
 | succ m ih=>show sm (m+1) f+f (m+1)=f 0+(sm m (fun i=>f (i+1))+f (m+1));rw[ih];grind
theorem HasRank.zeroRow {m n r:Nat}{M:Nat→Nat→Rat}(h:HasRank m n (fun i k=>M (i+1) k) r) (hz:∀ k,k<n→M 0 k=0):HasRank (m+1) n M r:=by
 obtain⟨A,A',B,B',a1,a2,a3⟩:=h;refine⟨fun i t=>match i with | 0=>0 | i+1=>A i t,fun s i=>match i with | 0=>0 | i+1=>A' s i,B,B',fun i k hi hk=>?_,fun s t hs ht=>?_,a3⟩
 · cases i with
   | zero=>rw[hz k hk,sm_zeroOf fun t _=>by show (0:Rat)*_=0;grind]
   | succ i=>exact a1 i k (by omega) hk
 · rw[sm_head]
   show (0:Rat)*0+sm m (fun i=>A' s i*A i t)=_
   rw[a2 s t hs ht];grind
theorem HasRank.cons {m n r c:Nat}{M:Nat→Nat→Rat}(h:HasRank m n (fun i k=>M (i+1) k) r) (hc:c<n) (h1:M 0 c=1) (h0:∀ i,i<m→M (i+1) c=0):HasRank (m+1) n M (r+1):=by
 obtain⟨A,A',B,B',a1,a2,a3⟩:=h
 have hB:∀ s,s<r→B s c=0:=by
  intro s hs;have e1:sm m (fun i=>A' s i*sm r (fun t=>A i t*B t c))=0:=sm_zeroOf fun i hi=>by rw[←a1 i c hi hc];show A' s i*M (i+1) c=0;rw[h0 i hi];grind
  rw[sm_assoc,sm_congr (g:=fun t=>dl s t*B t c) (fun t ht=>by rw[a2 s t hs ht]),sm_dl (fun t=>B t c) hs] at e1;exact e1
 let A1:Nat→Nat→Rat:=fun i t=>match i with | 0=>dl t r | i+1=>if t<r then A i t else 0
 let A2:Nat→Nat→Rat:=fun s i=>match i with | 0=>dl s r | i+1=>if s<r then A' s i else 0
 let B1:Nat→Nat→Rat:=fun t k=>if t<r then B t k else M 0 k
 let B2:Nat→Nat→Rat:=fun k t=>if t<r then B' k t-dl k c*sm n (fun j=>M 0 j*B' j t) else dl k c
 refine⟨A1,A2,B1,B2,fun i k hi hk=>?_,fun s t hs ht=>?_,fun s t hs ht=>?_⟩
 · cases i with
   | zero =>
    show M 0 k=sm (r+1) (fun t=>dl t r*B1 t k)
    rw[sm_congr (g:=fun t=>B1 t k*dl t r) (fun t _=>by grind),sm_dl' (fun t=>B1 t k) (by omega)]
    show M 0 k=if r<r then B r k else M 0 k
    rw[if_neg (by omega)]
   | succ i =>
    show M (i+1) k=sm r (fun t=>(if t<r then A i t else 0)*(if t<r then B t k else M 0 k))+(if r<r then A i r else 0)*(if r<r then B r k else M 0 k)
    rw[sm_congr (g:=fun t=>A i t*B t k) (fun t ht=>by rw[if_pos ht,if_pos ht]),if_neg (by omega),if_neg (by omega),←a1 i k (by omega) hk]
    grind
 · rw[sm_head]
   show dl s r*dl t r+sm m (fun i=>(if s<r then A' s i else 0)*(if t<r then A i t else 0))=dl s t
   by_cases h2:s<r
   · by_cases h3:t<r
     · simp only[if_pos h2,if_pos h3]
       rw[a2 s t h2 h3,dl_ne (show s≠r by omega)];grind
     · simp only[if_neg h3]
       rw[sm_zeroOf fun i _=>by grind,dl_ne (show s≠r by omega),dl_ne (show s≠t by omega)];grind
   · have hsr:s=r:=by omega
     subst hsr
     simp only[if_neg h2]
     rw[sm_zeroOf fun i _=>by grind,dl_self,dl_comm s t];grind
 · by_cases h2:s<r
   · have e1:∀ k,B1 s k=B s k:=fun k=>if_pos h2
     by_cases h3:t<r
     · have e2:∀ k,B2 k t=B' k t-dl k c*sm n (fun j=>M 0 j*B' j t):=fun k=>if_pos h3;rw[sm_congr (g:=fun k=>B s k*B' k t-(B s k*sm n (fun j=>M 0 j*B' j t))*dl k c) (fun k _=>by rw[e1,e2];grind),sm_sub,a3 s t h2 h3,sm_dl' (fun k=>B s k*sm n (fun j=>M 0 j*B' j t)) hc,hB s h2]
       grind
     · have e2:∀ k,B2 k t=dl k c:=fun k=>if_neg h3;rw[sm_congr (g:=fun k=>B s k*dl k c) (fun k _=>by rw[e1,e2]),sm_dl' (B s) hc,hB s h2,dl_ne (by omega)]
   · have e1:∀ k,B1 s k=M 0 k:=fun k=>if_neg h2
     by_cases h3:t<r
     · have e2:∀ k,B2 k t=B' k t-dl k c*sm n (fun j=>M 0 j*B' j t):=fun k=>if_pos h3;rw[sm_congr (g:=fun k=>M 0 k*B' k t-(M 0 k*sm n (fun j=>M 0 j*B' j t))*dl k c) (fun k _=>by rw[e1,e2];grind),sm_sub,sm_dl' (fun k=>M 0 k*sm n (fun j=>M 0 j*B' j t)) hc,h1,dl_ne (by omega)]
       grind
     · have e2:∀ k,B2 k t=dl k c:=fun k=>if_neg h3;rw[sm_congr (g:=fun k=>M 0 k*dl k c) (fun k _=>by rw[e1,e2]),sm_dl' (M 0) hc,h1,show s=t by omega,dl_self]
theorem HasRank.none {n:Nat}{M:Nat→Nat→Rat}:HasRank 0 n M 0:=⟨fun _ _=>0,fun _ _=>0,fun _ _=>0,fun _ _=>0,fun i k hi=>by omega,fun s t hs=>by omega,fun s t hs=>by omega⟩
theorem Red.count_succ {m c k:Nat}{R:Nat→Nat→Rat}{ps:List (Nat × Nat)}(h:Red m c R ps):(ps.filter fun p=>decide (p.1<k+1)).length=(ps.filter fun p=>decide (p.1<k)).length+if ∃ p∈ps,p.1=k then 1 else 0:=by
 have hc:=h.col;clear h
 induction ps with
 | nil=>simp
 | cons p ps ih =>
  rw[List.pairwise_cons] at hc;have h1:=ih hc.2;rw[List.filter_cons,List.filter_cons]
  rcases Nat.lt_trichotomy p.1 k with hlt | he | hgt
  · rw[if_pos (by simp;omega),if_pos (by simpa using hlt),List.length_cons,List.length_cons,h1]
    have e:(∃ q∈p::ps,q.1=k) ↔ ∃ q∈ps,q.1=k:=by
     constructor
     · rintro ⟨q,hq,rfl⟩
       rcases List.mem_cons.1 hq with rfl | h2
       · omega
       · exact⟨q,h2,rfl⟩
     · rintro ⟨q,hq,rfl⟩;exact⟨q,List.mem_cons_of_mem _ hq,rfl⟩
    simp only[e]
    omega
  · subst he;have h2:∀ q∈ps,¬ q.1<p.1+1:=fun q hq=>by have:=hc.1 q hq;omega
    have e1:(ps.filter fun q=>decide (q.1<p.1+1))=[]:=List.filter_eq_nil_iff.2 fun q hq=>by simpa using h2 q hq
    have e2:(ps.filter fun q=>decide (q.1<p.1))=[]:=List.filter_eq_nil_iff.2 fun q hq=>by have:=h2 q hq;simp;omega
    rw[if_pos (by simp),if_neg (by simp),e1,e2,if_pos ⟨p,by simp,rfl⟩]
    rfl
  · have h2:∀ q∈ps,¬ q.1<k+1:=fun q hq=>by have:=hc.1 q hq;omega
    have e1:(ps.filter fun q=>decide (q.1<k+1))=[]:=List.filter_eq_nil_iff.2 fun q hq=>by simpa using h2 q hq
    have e2:(ps.filter fun q=>decide (q.1<k))=[]:=List.filter_eq_nil_iff.2 fun q hq=>by have:=h2 q hq;simp;omega
    have e3:¬ ∃ q∈p::ps,q.1=k:=by
     rintro ⟨q,hq,rfl⟩
     rcases List.mem_cons.1 hq with rfl | h3
     · omega
     · exact h2 q h3 (by omega)
    rw[if_neg (by simp;omega),if_neg (by simp;omega),e1,e2,if_neg e3]
    rfl
abbrev Mat:=List (List Rat)
def fn (M:Mat) (i k:Nat):Rat:=(M.getD i []).getD k 0
def rect (M:Mat) (n:Nat):Prop:=∀ r∈M,r.length=n
def colsL (M:Mat):Nat:=(M.headD []).length
def formedL (M:Mat):Bool:=M.all fun r=>decide (r.length=colsL M)
theorem formedL_rect {M:Mat}(h:formedL M=true):rect M (colsL M):=by
 unfold formedL at h;rw[List.all_eq_true] at h;exact fun r hr=>of_decide_eq_true (h r hr)
theorem rect_row {M:Mat}{n i:Nat}(h:rect M n) (hi:i<M.length):(M.getD i []).length=n:=by
 rw[List.getD_eq_getElem?_getD,List.getElem?_eq_getElem hi];exact h _ (List.getElem_mem hi)
def dotL (a x:List Rat):Rat:=(List.zipWith (·*·) a x).foldl (·+·) 0
theorem foldl_sm (l:List Rat):l.foldl (·+·) 0=sm l.length fun k=>l.getD k 0:=by
 have key:∀ n,n≤l.length→(l.take n).foldl (·+·) 0=sm n fun k=>l.getD k 0:=by
  intro n
  induction n with
  | zero=>exact fun _=>rfl
  | succ n ih =>
   intro hn;rw[List.take_add_one,List.getElem?_eq_getElem (by omega),List.foldl_append,ih (by omega)]
   show _+l[n]=sm n _+l.getD n 0
   rw[List.getD_eq_getElem?_getD,List.getElem?_eq_getElem (by omega)]
   rfl
 have:=key l.length (Nat.le_refl _);rw[List.take_length] at this;exact this
theorem dotL_sm {a x:List Rat}{n:Nat}(h1:a.length=n) (h2:x.length=n):dotL a x=sm n fun k=>a.getD k 0*x.getD k 0:=by
 unfold dotL;rw[foldl_sm,List.length_zipWith,h1,h2,Nat.min_self];refine sm_congr fun k hk=>?_;rw[List.getD_eq_getElem?_getD,List.getElem?_zipWith,List.getD_eq_getElem?_getD,List.getD_eq_getElem?_getD,List.getElem?_eq_getElem (by omega),List.getElem?_eq_getElem (by omega)]
 rfl
def timesL (M:Mat) (x:List Rat):List Rat:=M.map fun r=>dotL r x
def headL (M:Mat) (p c:Nat):List Rat:=(M.getD p []).map fun x=>x / fn M p c
def lessL (a:List Rat) (f:Rat) (b:List Rat):List Rat:=List.zipWith (fun x h=>x-f*h) a b
def pivL (M:Mat) (p c:Nat):Mat:=(List.range M.length).map fun i=>if i=p then headL M p c else lessL (M.getD i []) (fn M i c) (headL M p c)
theorem pivL_length (M:Mat) (p c:Nat):(pivL M p c).length=M.length:=by simp[pivL]
theorem range_getD {α:Type}{m i:Nat}{f:Nat→α}{d:α}(hi:i<m):((List.range m).map f).getD i d=f i:=by
 rw[List.getD_eq_getElem?_getD,List.getElem?_map,List.getElem?_range hi];rfl
theorem headL_length {M:Mat}{n p c:Nat}(h:rect M n) (hp:p<M.length):(headL M p c).length=n:=by unfold headL;rw[List.length_map];exact rect_row h hp
theorem lessL_length {a b:List Rat}{f:Rat}{n:Nat}(h1:a.length=n) (h2:b.length=n):(lessL a f b).length=n:=by unfold lessL;rw[List.length_zipWith,h1,h2,Nat.min_self]
theorem pivL_rect {M:Mat}{n p c:Nat}(h:rect M n) (hp:p<M.length):rect (pivL M p c) n:=fun r hr=>by
 unfold pivL at hr;obtain⟨i,hi,rfl⟩:=List.mem_map.1 hr;rw[List.mem_range] at hi
 split
 · exact headL_length h hp
 · exact lessL_length (rect_row h hi) (headL_length h hp)
theorem headL_get {M:Mat}{p c k:Nat}(hk:k<(M.getD p []).length):(headL M p c).getD k 0=fn M p k / fn M p c:=by
 unfold headL fn;rw[List.getD_eq_getElem?_getD,List.getElem?_map,List.getD_eq_getElem?_getD (l:=M.getD p []) (i:=k),List.getElem?_eq_getElem hk]
 rfl
theorem fn_pivL {M:Mat}{n p c i k:Nat}(h:rect M n) (hp:p<M.length) (hi:i<M.length) (hk:k<n):fn (pivL M p c) i k=piv (fn M) p c i k:=by
 have hh:=headL_length (c:=c) h hp;have hr:=rect_row h hi;have hpr:=rect_row h hp;unfold pivL;rw[fn,range_getD hi];unfold piv
 by_cases e:i=p
 · rw[if_pos e,if_pos e,headL_get (by omega)]
 · rw[if_neg e,if_neg e];unfold lessL;rw[List.getD_eq_getElem?_getD,List.getElem?_zipWith,List.getElem?_eq_getElem (show k<(M.getD i []).length by omega),List.getElem?_eq_getElem (show k<(headL M p c).length by omega)]
   simp only[Option.getD_some]
   have e1:(M.getD i [])[k]'(by omega)=fn M i k:=by unfold fn;rw[List.getD_eq_getElem?_getD (i:=k),List.getElem?_eq_getElem (by omega)];rfl
   have e2:(headL M p c)[k]'(by omega)=fn M p k / fn M p c:=by rw[←headL_get (show k<(M.getD p []).length by omega),List.getD_eq_getElem?_getD,List.getElem?_eq_getElem (by omega)];rfl
   rw[e1,e2]
def moveUp (M:Mat) (row t:Nat):Mat:=M.take row++(M.getD t []::((M.drop row).take (t-row)++M.drop (t+1)))
theorem moveUp_length {M:Mat}{row t:Nat}(h1:row≤t) (h2:t<M.length):(moveUp M row t).length=M.length:=by
 simp only[moveUp,List.length_append,List.length_cons,List.length_take,List.length_drop]
 omega
def upS (row t i:Nat):Nat:=if i<row then i else if i=row then t else if i≤t then i-1 else i
def upT (row t i:Nat):Nat:=if i<row then i else if i<t then i+1 else if i=t then row else i
theorem upS_ok {row t m:Nat}(h1:row≤t) (h2:t<m):∀ i,i<m→upS row t i<m∧upT row t (upS row t i)=i:=fun i hi=>by
 unfold upS upT
 repeat' split
 all_goals omega
theorem upT_ok {row t m:Nat}(h1:row≤t) (h2:t<m):∀ i,i<m→upT row t i<m∧upS row t (upT row t i)=i:=fun i hi=>by
 unfold upS upT
 repeat' split
 all_goals omega
theorem moveUp_get {M:Mat}{row t i:Nat}(h1:row≤t) (h2:t<M.length) (hi:i<M.length):(moveUp M row t).getD i []=M.getD (upS row t i) []:=by
 have hl:(M.take row).length=row:=by rw[List.length_take];omega
 have hl2:((M.drop row).take (t-row)).length=t-row:=by rw[List.length_take,List.length_drop];omega
 unfold moveUp upS
 simp only[List.getD_eq_getElem?_getD]
 by_cases a1:i<row
 · rw[if_pos a1,List.getElem?_append_left (by omega),List.getElem?_take_of_lt a1]
 · rw[if_neg a1,List.getElem?_append_right (by omega),hl]
   by_cases a2:i=row
   · rw[if_pos a2,a2,Nat.sub_self]
     simp
   · rw[if_neg a2];obtain⟨j,hj⟩:∃ j,i-row=j+1:=⟨i-row-1,by omega⟩;rw[hj,List.getElem?_cons_succ]
     by_cases a3:i≤t
     · rw[if_pos a3,List.getElem?_append_left (by omega),List.getElem?_take_of_lt (by omega),List.getElem?_drop,show row+j=i-1 by omega]
     · rw[if_neg a3,List.getElem?_append_right (by omega),hl2,List.getElem?_drop,show t+1+(j-(t-row))=i by omega]
theorem moveUp_rect {M:Mat}{n row t:Nat}(h:rect M n) (h2:t<M.length):rect (moveUp M row t) n:=fun r hr=>by
 unfold moveUp at hr
 simp only[List.mem_append,List.mem_cons] at hr
 rcases hr with h3 | rfl | h3 | h3
 · exact h r (List.mem_of_mem_take h3)
 · exact rect_row h h2
 · exact h r (List.mem_of_mem_drop (List.mem_of_mem_take h3))
 · exact h r (List.mem_of_mem_drop h3)
theorem moveUp_self {M:Mat}{row:Nat}(h:row<M.length):moveUp M row row=M:=by
 apply List.ext_getElem?
 intro i
 by_cases hi:i<M.length
 · have h1:=moveUp_get (M:=M) (Nat.le_refl row) h hi
   have h2:upS row row i=i:=by
    unfold upS
    by_cases a1:i<row
    · rw[if_pos a1]
    · by_cases a2:i=row
      · rw[if_neg a1,if_pos a2,a2]
      · rw[if_neg a1,if_neg a2,if_neg (by omega)]
   rw[h2,List.getD_eq_getElem?_getD,List.getD_eq_getElem?_getD,List.getElem?_eq_getElem hi,List.getElem?_eq_getElem (by rw[moveUp_length (Nat.le_refl _) h];exact hi)] at h1;rw[List.getElem?_eq_getElem hi,List.getElem?_eq_getElem (by rw[moveUp_length (Nat.le_refl _) h];exact hi)];exact congrArg some h1
 · rw[List.getElem?_eq_none (by rw[moveUp_length (Nat.le_refl _) h];omega),List.getElem?_eq_none (by omega)]
def findRow (M:Mat) (col row:Nat):Nat:=row+(M.drop row).findIdx fun r=>decide (r.getD col 0≠0)
theorem findRow_ge (M:Mat) (col row:Nat):row≤findRow M col row:=by unfold findRow;omega
theorem findRow_zero {M:Mat}{col row i:Nat}(h1:row≤i) (h2:i<findRow M col row) (hi:i<M.length):fn M i col=0:=by
 unfold findRow at h2;have h3:=List.not_of_lt_findIdx (xs:=M.drop row) (p:=fun r=>decide (r.getD col 0≠0)) (i:=i-row) (by omega);rw[List.getElem_drop] at h3;have e:row+(i-row)=i:=by omega
 simp only[e] at h3
 unfold fn;rw[List.getD_eq_getElem?_getD (l:=M),List.getElem?_eq_getElem hi]
 simpa using h3
theorem findRow_ne {M:Mat}{col row:Nat}(h:findRow M col row<M.length):fn M (findRow M col row) col≠0:=by
 have h4:(M.drop row).findIdx (fun r=>decide (r.getD col 0≠0))<(M.drop row).length:=by
  unfold findRow at h;rw[List.length_drop];omega
 have h3:=List.findIdx_getElem (xs:=M.drop row) (p:=fun r=>decide (r.getD col 0≠0)) (w:=h4);rw[List.getElem_drop] at h3;unfold fn;rw[List.getD_eq_getElem?_getD (l:=M),List.getElem?_eq_getElem h]
 simpa [findRow] using h3
def redStep (S:Mat × List Nat) (col:Nat):Mat × List Nat :=
 if S.2.length<S.1.length then
  if findRow S.1 col S.2.length<S.1.length then (pivL (moveUp S.1 S.2.length (findRow S.1 col S.2.length)) S.2.length col,S.2++[col]) else S
 else S
def reduceL (M:Mat) (n:Nat):Mat × List Nat:=(List.range n).foldl redStep (M,[])
theorem reduceL_succ (M:Mat) (n:Nat):reduceL M (n+1)=redStep (reduceL M n) n:=by
 unfold reduceL;rw[List.range_succ,List.foldl_append];rfl
theorem zipIdx_snoc (l:List Nat) (c:Nat):(l++[c]).zipIdx=l.zipIdx++[(c,l.length)]:=by rw[List.zipIdx_append];simp
theorem mem_zip {l:List Nat}{p:Nat × Nat}(h:p∈l.zipIdx):p.2<l.length:=by
 obtain⟨a,i⟩:=p;have:=List.mem_zipIdx h
 simpa using this.2.1
structure Reduced (M:Mat) (n w:Nat) (S:Mat × List Nat):Prop where
 len:S.1.length=M.length
 rct:rect S.1 w
 eqv:RowEq M.length w (fn M) (fn S.1)
 red:Red M.length n (fn S.1) S.2.zipIdx
 le:S.2.length≤M.length
theorem reduceL_ok {M:Mat}{w:Nat}(h:rect M w):∀ n,n≤w→Reduced M n w (reduceL M n):=by
 intro n
 induction n with
 | zero=>exact fun _=>⟨rfl,h,RowEq.refl _ _ _,Red.nil _ _,Nat.zero_le _⟩
 | succ n ih =>
  intro hn;obtain⟨h1,h2,h3,h4,h5⟩:=ih (by omega);rw[reduceL_succ]
  generalize reduceL M n=S at *
  obtain⟨R,l⟩:=S
  simp only at h1 h2 h3 h4 h5
  unfold redStep
  simp only
  split
  · rename_i hlt
    split
    · rename_i hat
      generalize ht:findRow R n l.length=t at *
      have hge:l.length≤t:=by rw[←ht];exact findRow_ge _ _ _
      have hne:fn R t n≠0:=by rw[←ht];exact findRow_ne (by rw[ht];exact hat)
      have hml:=moveUp_length hge hat;have hmr:=moveUp_rect (row:=l.length) h2 hat
      have e1:∀ i k,i<M.length→k<w→fn (moveUp R l.length t) i k=fn R (upS l.length t i) k:=fun i k hi hk=>by
       unfold fn;rw[moveUp_get hge hat (by omega)]
      have p1:=upS_ok (m:=M.length) hge (by omega);have p2:=upT_ok (m:=M.length) hge (by omega);have g1:RowEq M.length w (fn M) (fn (moveUp R l.length t)):=(h3.trans (RowEq.perm (σ:=upS l.length t) (τ:=upT l.length t) p1 p2)).congr e1
      have g2:Red M.length n (fn (moveUp R l.length t)) l.zipIdx:=by
       have:=(h4.perm p1 p2).congr fun i k hi hk=>e1 i k hi (by omega)
       have e2:(l.zipIdx.map fun p=>(p.1,upT l.length t p.2))=l.zipIdx:=by
        conv=>rhs;rw[←List.map_id l.zipIdx]
        refine List.map_congr_left fun p hp=>?_;have:=mem_zip hp
        show (p.1,upT l.length t p.2)=p
        unfold upT;rw[if_pos this]
       rw[e2] at this;exact this
      have g3:fn (moveUp R l.length t) l.length n≠0:=by
       rw[e1 _ _ (by omega) (by omega)];unfold upS;rw[if_neg (by omega),if_pos rfl];exact hne
      have e3:∀ i k,i<M.length→k<w→fn (pivL (moveUp R l.length t) l.length n) i k=piv (fn (moveUp R l.length t)) l.length n i k:=fun i k hi hk=>fn_pivL hmr (by omega) (by omega) hk;refine⟨by rw[pivL_length,hml,h1],pivL_rect hmr (by omega),(g1.trans (RowEq.piv (by omega) g3)).congr e3,?_,by rw[List.length_append];simp;omega⟩
      show Red _ _ _ (l++[n]).zipIdx
      rw[zipIdx_snoc];exact (g2.step (by omega) (fun q hq=>by have:=mem_zip hq;omega) g3).congr fun i k hi hk=>e3 i k hi (by omega)
    · rename_i hat
      refine⟨h1,h2,h3,h4.skip fun i hi hu=>?_,h5⟩;refine findRow_zero (row:=l.length) (Nat.le_of_not_lt fun hil=>?_) (by have:=findRow_ge R n l.length;omega) (by omega);exact hu (l[i],i) (by rw[List.mem_iff_getElem?];exact⟨i,by rw[List.getElem?_zipIdx,List.getElem?_eq_getElem hil];simp⟩) rfl
  · rename_i hlt
    refine⟨h1,h2,h3,h4.skip fun i hi hu=>?_,h5⟩;exact absurd rfl (hu (l[i]'(by omega),i) (by rw[List.mem_iff_getElem?];exact⟨i,by rw[List.getElem?_zipIdx,List.getElem?_eq_getElem (by omega)];simp⟩))
def lastNz (r:List Rat):Option Nat:=(List.range r.length).foldl (fun c k=>if r.getD k 0≠0 then some k else c) none
theorem lastNz_key (r:List Rat):∀ n,n≤r.length→match (List.range n).foldl (fun c k=>if r.getD k 0≠0 then some k else c) none with
 | none=>∀ k,k<n→r.getD k 0=0
 | some c=>c<n∧r.getD c 0≠0:=by
 intro n
 induction n with
 | zero=>exact fun _ k hk=>by omega
 | succ n ih =>
  intro hn;have h:=ih (by omega);rw[List.range_succ,List.foldl_append]
  simp only[List.foldl_cons,List.foldl_nil]
  by_cases hz:r.getD n 0=0
  · rw[if_neg (by simpa using hz)]
    generalize (List.range n).foldl (fun c k=>if r.getD k 0≠0 then some k else c) none=o at *
    cases o with
    | none =>
     intro k hk
     by_cases e:k=n
     · subst e;exact hz
     · exact h k (by omega)
    | some c=>exact⟨by have:=h.1;omega,h.2⟩
  · rw[if_pos hz];exact⟨by omega,hz⟩
theorem lastNz_none {r:List Rat}(h:lastNz r=none):∀ k,k<r.length→r.getD k 0=0:=by
 have:=lastNz_key r r.length (Nat.le_refl _);unfold lastNz at h;rw[h] at this;exact this
theorem lastNz_some {r:List Rat}{c:Nat}(h:lastNz r=some c):c<r.length∧r.getD c 0≠0:=by
 have:=lastNz_key r r.length (Nat.le_refl _);unfold lastNz at h;rw[h] at this;exact this
def rankF:Nat→Mat→Nat
 | 0,_=>0
 | f+1,M=>match M with
  | []=>0
  | r::T=>match lastNz r with
   | none=>rankF f T
   | some c=>rankF f (pivL (r::T) 0 c).tail+1
def rankR (M:Mat):Nat:=rankF M.length M
theorem rankF_ok:∀ (f:Nat) (M:Mat) (n:Nat),rect M n→M.length=f→HasRank M.length n (fn M) (rankF f M):=by
 intro f
 induction f with
 | zero =>
  intro M n h hl;rw[hl];exact HasRank.none
 | succ f ih =>
  intro M n h hl
  match M,hl with
  | r::T,hl =>
   have hr:r.length=n:=h r (by simp);have hT:rect T n:=fun x hx=>h x (List.mem_cons_of_mem _ hx);have hlT:T.length=f:=by simpa using hl
   unfold rankF
   simp only
   cases hz:lastNz r with
   | none =>
    have h0:=lastNz_none hz;exact HasRank.zeroRow (m:=T.length) (ih T n hT hlT) fun k hk=>h0 k (by omega)
   | some c =>
    obtain⟨hc,hne⟩:=lastNz_some hz;have hp:0<(r::T).length:=by simp
    have hpl:=pivL_length (r::T) 0 c;have hpr:=pivL_rect (c:=c) h hp
    obtain⟨a,L,hL⟩:∃ a L,pivL (r::T) 0 c=a::L:=by
     cases hq:pivL (r::T) 0 c with
     | nil=>rw[hq] at hpl;simp at hpl
     | cons a L=>exact⟨a,L,rfl⟩
    have hLr:rect L n:=fun x hx=>hpr x (by rw[hL];exact List.mem_cons_of_mem _ hx);have hLl:L.length=f:=by rw[hL] at hpl;simp at hpl;omega
    have ne:fn (r::T) 0 c≠0:=hne;have e0:∀ i k,i<(r::T).length→k<n→fn (pivL (r::T) 0 c) i k=piv (fn (r::T)) 0 c i k:=fun i k hi hk=>fn_pivL h hp hi hk
    have hrk:HasRank (L.length+1) n (fn (a::L)) (rankF f L+1):=by
     refine HasRank.cons (m:=L.length) (c:=c) (ih L n hLr hLl) (by omega) ?_ fun i hi=>?_
     · rw[←hL,e0 0 c hp (by omega)]
       show (if 0=0 then _ / _ else _)=(1:Rat)
       rw[if_pos rfl];grind
     · rw[←hL,e0 (i+1) c (by simp;omega) (by omega)]
       show (if i+1=0 then _ else _-_*(_ / _))=(0:Rat)
       rw[if_neg (by omega)];grind
    have heq:RowEq (r::T).length n (fn (r::T)) (fn (a::L)):=by rw[←hL];exact (RowEq.piv hp ne).congr e0
    have hll:(r::T).length=L.length+1:=by rw[hLl];exact hl
    show HasRank (r::T).length n (fn (r::T)) (rankF f (pivL (r::T) 0 c).tail+1)
    rw[hL];rw[hll] at heq ⊢;exact heq.symm.rank hrk
theorem rankR_ok {M:Mat}{n:Nat}(h:rect M n):HasRank M.length n (fn M) (rankR M):=rankF_ok _ M n h rfl
theorem RowEq.mono {m n k:Nat}{M M':Nat→Nat→Rat}(h:RowEq m n M M') (hk:k≤n):RowEq m k M M':=by
 obtain⟨E,F,h1,h2,h3⟩:=h;exact⟨E,F,h1,h2,fun i j hi hj=>h3 i j hi (by omega)⟩
def firstL (M:Mat) (k:Nat):Mat:=M.map fun r=>r.take k
theorem firstL_rect {M:Mat}{n k:Nat}(h:rect M n) (hk:k≤n):rect (firstL M k) k:=fun r hr=>by
 unfold firstL at hr;obtain⟨x,hx,rfl⟩:=List.mem_map.1 hr;rw[List.length_take,h x hx];omega
theorem fn_firstL {M:Mat}{k i j:Nat}(hj:j<k):fn (firstL M k) i j=fn M i j:=by
 unfold fn firstL;rw[List.getD_eq_getElem?_getD (l:=M.map _),List.getElem?_map,List.getD_eq_getElem?_getD (l:=M)]
 cases M[i]? with
 | none=>simp
 | some r=>simp[List.getD_eq_getElem?_getD,List.getElem?_take,hj]
def isPivL (M:Mat) (k:Nat):Bool:=decide (rankR (firstL M k)<rankR (firstL M (k+1)))
theorem prefix_rank {M:Mat}{n w k:Nat}{S:Mat × List Nat}(h:Reduced M n w S) (hM:rect M w) (hk:k≤n) (hn:n≤w):rankR (firstL M k)=(S.2.zipIdx.filter fun p=>decide (p.1<k)).length:=by
 have h1:=rankR_ok (firstL_rect hM (show k≤w by omega));have hl:(firstL M k).length=M.length:=by simp[firstL]
 rw[hl] at h1;have h2:=(h.red.mono hk).rank;exact h1.unique (((h.eqv.mono (show k≤w by omega)).symm.rank h2).congr fun i j hi hj=>fn_firstL hj)
theorem isPiv_iff {M:Mat}{n w k:Nat}{S:Mat × List Nat}(h:Reduced M n w S) (hM:rect M w) (hk:k<n) (hn:n≤w):isPivL M k=true ↔ k∈S.2:=by
 unfold isPivL;rw[decide_eq_true_eq,prefix_rank h hM (show k≤n by omega) hn,prefix_rank h hM (show k+1≤n by omega) hn,h.red.count_succ]
 have e:(∃ p∈S.2.zipIdx,p.1=k) ↔ k∈S.2:=by
  constructor
  · rintro ⟨p,hp,rfl⟩;obtain⟨a,i⟩:=p;have:=List.mem_zipIdx hp
    simp at this
    rw[this.2];exact List.getElem_mem _
  · intro hk;obtain⟨i,hi,rfl⟩:=List.getElem_of_mem hk;exact⟨(S.2[i],i),by rw[List.mem_iff_getElem?];exact⟨i,by rw[List.getElem?_zipIdx,List.getElem?_eq_getElem hi];simp⟩,rfl⟩
 rw[←e]
 by_cases hp:∃ p∈S.2.zipIdx,p.1=k
 · rw[if_pos hp];exact⟨fun _=>hp,fun _=>by omega⟩
 · rw[if_neg hp];exact⟨fun h=>by omega,fun h=>absurd h hp⟩
def withL (M:Mat) (b:List Rat):Mat:=List.zipWith (fun r x=>r++[x]) M b
theorem withL_length {M:Mat}{b:List Rat}(h:b.length=M.length):(withL M b).length=M.length:=by simp[withL,h]
theorem withL_rect {M:Mat}{b:List Rat}{n:Nat}(h:rect M n):rect (withL M b) (n+1):=fun r hr=>by
 unfold withL at hr;obtain⟨i,hi,rfl⟩:=List.getElem_of_mem hr;rw[List.getElem_zipWith,List.length_append,h _ (List.getElem_mem _)]
 rfl
theorem withL_get {M:Mat}{b:List Rat}{i:Nat}(h:b.length=M.length) (hi:i<M.length):(withL M b).getD i []=M.getD i []++[b.getD i 0]:=by
 unfold withL;rw[List.getD_eq_getElem?_getD,List.getElem?_zipWith,List.getElem?_eq_getElem hi,List.getElem?_eq_getElem (show i<b.length by omega),List.getD_eq_getElem?_getD,List.getD_eq_getElem?_getD,List.getElem?_eq_getElem hi,List.getElem?_eq_getElem (show i<b.length by omega)]
 rfl
theorem fn_withL {M:Mat}{b:List Rat}{n i k:Nat}(hM:rect M n) (h:b.length=M.length) (hi:i<M.length) (hk:k<n):fn (withL M b) i k=fn M i k:=by
 unfold fn;rw[withL_get h hi,List.getD_eq_getElem?_getD,List.getElem?_append_left (by rw[rect_row hM hi];exact hk),←List.getD_eq_getElem?_getD]
theorem fn_withL_last {M:Mat}{b:List Rat}{n i:Nat}(hM:rect M n) (h:b.length=M.length) (hi:i<M.length):fn (withL M b) i n=b.getD i 0:=by
 unfold fn;have e:=rect_row hM hi;rw[withL_get h hi,List.getD_eq_getElem?_getD,List.getElem?_append_right (by omega),e,Nat.sub_self]
 rfl
def Sol (m n:Nat) (W:Nat→Nat→Rat) (x:Nat→Rat):Prop:=∀ i,i<m→sm n (fun k=>W i k*x k)=W i n
theorem Sol.ker {m n:Nat}{W:Nat→Nat→Rat}{x:Nat→Rat}:Sol m n W x ↔ ∀ i,i<m→sm (n+1) (fun k=>W i k*(if k<n then x k else -1))=0:=by
 have e:∀ i,sm (n+1) (fun k=>W i k*(if k<n then x k else -1))=sm n (fun k=>W i k*x k)-W i n:=by
  intro i
  show sm n (fun k=>W i k*(if k<n then x k else -1))+W i n*(if n<n then x n else -1)=_
  rw[sm_congr (g:=fun k=>W i k*x k) (fun k hk=>by rw[if_pos hk]),if_neg (Nat.lt_irrefl n)]
  grind
 unfold Sol
 constructor
 · intro h i hi;rw[e,h i hi];grind
 · intro h i hi;have:=h i hi;rw[e] at this;grind
theorem RowEq.sol {m n:Nat}{W W':Nat→Nat→Rat}{x:Nat→Rat}(h:RowEq m (n+1) W W') (hx:Sol m n W x):Sol m n W' x:=Sol.ker.2 (h.ker (Sol.ker.1 hx))
theorem red_solution {m n:Nat}{W R:Nat→Nat→Rat}{ps:List (Nat × Nat)}(h:Red m n R ps) (e:RowEq m (n+1) W R) :
 ((∀ i,i<m→(∀ p∈ps,p.2≠i)→R i n=0) ↔ ∃ x,Sol m n W x)∧((∀ i,i<m→(∀ p∈ps,p.2≠i)→R i n=0)→Sol m n W (xval ps fun i=>R i n)):=by
 have h1:(∀ i,i<m→(∀ p∈ps,p.2≠i)→R i n=0)→Sol m n W (xval ps fun i=>R i n):=fun hc=>e.symm.sol (h.solves hc);exact⟨⟨fun hc=>⟨_,h1 hc⟩,fun ⟨x,hx⟩=>h.consistent (b:=fun i=>R i n) (e.sol hx)⟩,h1⟩
theorem two_ways {m n:Nat}{W R R':Nat→Nat→Rat}{ps ps':List (Nat × Nat)}(h:Red m n R ps) (e:RowEq m (n+1) W R) (h':Red m n R' ps') (e':RowEq m (n+1) W R') :
 ((∀ i,i<m→(∀ p∈ps,p.2≠i)→R i n=0) ↔ (∀ i,i<m→(∀ p∈ps',p.2≠i)→R' i n=0))∧((∀ i,i<m→(∀ p∈ps,p.2≠i)→R i n=0)→∀ k,k<n→xval ps (fun i=>R i n) k=xval ps' (fun i=>R' i n) k):=by
 have a:=red_solution h e;have b:=red_solution h' e';refine⟨a.1.trans b.1.symm,fun hc=>?_⟩;have s1:=e.sol (a.2 hc);have s2:=e.sol (b.2 (b.1.2 (a.1.1 hc)));refine h.unique (fun i hi=>(s1 i hi).trans (s2 i hi).symm) fun k hk hn=>?_;rw[xval_none hn,xval_none];intro p hp ep;have hm:k∈ps'.map Prod.fst:=List.mem_map.2 ⟨p,hp,ep⟩;rw[←h.cols_eq h' ((e.mono (Nat.le_succ n)).symm.trans (e'.mono (Nat.le_succ n)))] at hm;obtain⟨q,hq,eq⟩:=List.mem_map.1 hm;exact hn q hq eq
end Go.Proofs.Ytjhkapjadfpimaa.Plain
