/- Contracts of functions, for the law. -/
import Derived.Test.YtjhkapjadfpimaaGreatMStep
namespace Go.Proofs.YtjhkapjadfpimaaGreat.Plain
set_option linter.unusedVariables false
set_option linter.unusedSimpArgs false
abbrev C4:=List (List Rat)
def fn (M:C4) (i k:Nat):Rat:=(M.getD i []).getD k 0
def E9 (M:C4) (n:Nat):Prop:=∀ r∈M,r.length=n
def colsL (M:C4):Nat:=(M.headD []).length
def A0 (M:C4):Bool:=M.all fun r=>decide (r.length=colsL M)
theorem H5 {M:C4}(h:A0 M=true):E9 M (colsL M):=by
 unfold A0 at h;rw[List.all_eq_true] at h;exact fun r hr=>of_decide_eq_true (h r hr)
theorem L4 {M:C4}{n i:Nat}(h:E9 M n) (hi:i<M.length):(M.getD i []).length=n:=by
 rw[a1l,a1m hi];exact h _ (a1z hi)
def dotL (a x:List Rat):Rat:=(List.zipWith (·*·) a x).foldl (·+·) 0
theorem sW (l:List Rat):l.foldl (·+·) 0=sm l.length fun k=>l.getD k 0:=by
 have b:∀ n,n≤l.length→(l.take n).foldl (·+·) 0=sm n fun k=>l.getD k 0:=by
  intro n
  induction n with
  | zero=>exact fun _=>rfl
  | succ n ih =>
   intro hn;rw[a3e,a1m (by omega),List.foldl_append,ih (by omega)]
   show _+l[n]=sm n _+l.getD n 0
   rw[a1l,a1m (by omega)]
   rfl
 have:=b l.length (a1u _);rw[a2z] at this;exact this
theorem jZ {a x:List Rat}{n:Nat}(h1:a.length=n) (h2:x.length=n):dotL a x=sm n fun k=>a.getD k 0*x.getD k 0:=by
 unfold dotL;rw[sW,a3o,h1,h2,Nat.min_self];refine j7 fun k hk=>?_;rw[a1l,List.getElem?_zipWith,a1l,a1l,a1m (by omega),a1m (by omega)]
 rfl
def T5 (M:C4) (x:List Rat):List Rat:=M.map fun r=>dotL r x
def U7 (M:C4) (p c:Nat):List Rat:=(M.getD p []).map fun x=>x / fn M p c
def W4 (a:List Rat) (f:Rat) (b:List Rat):List Rat:=List.zipWith (fun x h=>x-f*h) a b
def O0 (M:C4) (p c:Nat):C4:=(List.range M.length).map fun i=>if i=p then U7 M p c else W4 (M.getD i []) (fn M i c) (U7 M p c)
theorem N7 (M:C4) (p c:Nat):(O0 M p c).length=M.length:=by simp[O0]
theorem aB {α:Type}{m i:Nat}{f:Nat→α}{d:α}(hi:i<m):((List.range m).map f).getD i d=f i:=by
 rw[a1l,a1r,a2t hi];rfl
theorem aJ {M:C4}{n p c:Nat}(h:E9 M n) (hp:p<M.length):(U7 M p c).length=n:=by unfold U7;rw[a1s];exact L4 h hp
theorem qD {a b:List Rat}{f:Rat}{n:Nat}(h1:a.length=n) (h2:b.length=n):(W4 a f b).length=n:=by unfold W4;rw[a3o,h1,h2,Nat.min_self]
theorem iC {M:C4}{n p c:Nat}(h:E9 M n) (hp:p<M.length):E9 (O0 M p c) n:=fun r hr=>by
 unfold O0 at hr;obtain⟨i,hi,rfl⟩:=a2v.1 hr;rw[a2u] at hi
 split
 · exact aJ h hp
 · exact qD (L4 h hi) (aJ h hp)
theorem oD {M:C4}{p c k:Nat}(hk:k<(M.getD p []).length):(U7 M p c).getD k 0=fn M p k / fn M p c:=by
 unfold U7 fn;rw[a1l,a1r,a1l (l:=M.getD p []) (i:=k),a1m hk]
 rfl
theorem qK {M:C4}{n p c i k:Nat}(h:E9 M n) (hp:p<M.length) (hi:i<M.length) (hk:k<n):fn (O0 M p c) i k=piv (fn M) p c i k:=by
 have hh:=aJ (c:=c) h hp;have hr:=L4 h hi;have b:=L4 h hp;unfold O0;rw[fn,aB hi];unfold piv
 by_cases e:i=p
 · rw[if_pos e,if_pos e,oD (by omega)]
 · rw[if_neg e,if_neg e];unfold W4;rw[a1l,List.getElem?_zipWith,a1m (show k<(M.getD i []).length by omega),a1m (show k<(U7 M p c).length by omega)]
   simp only[Option.getD_some]
   have e1:(M.getD i [])[k]'(by omega)=fn M i k:=by unfold fn;rw[a1l (i:=k),a1m (by omega)];rfl
   have e2:(U7 M p c)[k]'(by omega)=fn M p k / fn M p c:=by rw[←oD (show k<(M.getD p []).length by omega),a1l,a1m (by omega)];rfl
   rw[e1,e2]
def G7 (M:C4) (row t:Nat):C4:=M.take row++(M.getD t []::((M.drop row).take (t-row)++M.drop (t+1)))
theorem G0 {M:C4}{row t:Nat}(h1:row≤t) (h2:t<M.length):(G7 M row t).length=M.length:=by
 simp only[G7,a1x,a3r,a2c,a2d]
 omega
def qW (row t i:Nat):Nat:=if i<row then i else if i=row then t else if i≤t then i-1 else i
def upT (row t i:Nat):Nat:=if i<row then i else if i<t then i+1 else if i=t then row else i
theorem upS_ok {row t m:Nat}(h1:row≤t) (h2:t<m):∀ i,i<m→qW row t i<m∧upT row t (qW row t i)=i:=fun i hi=>by
 unfold qW upT
 repeat' split
 all_goals omega
theorem upT_ok {row t m:Nat}(h1:row≤t) (h2:t<m):∀ i,i<m→upT row t i<m∧qW row t (upT row t i)=i:=fun i hi=>by
 unfold qW upT
 repeat' split
 all_goals omega
theorem U4 {M:C4}{row t i:Nat}(h1:row≤t) (h2:t<M.length) (hi:i<M.length):(G7 M row t).getD i []=M.getD (qW row t i) []:=by
 have hl:(M.take row).length=row:=by rw[a2c];omega
 have b:((M.drop row).take (t-row)).length=t-row:=by rw[a2c,a2d];omega
 unfold G7 qW
 simp only[a1l]
 by_cases a1:i<row
 · rw[if_pos a1,a2q (by omega),List.getElem?_take_of_lt a1]
 · rw[if_neg a1,a2b (by omega),hl]
   by_cases a2:i=row
   · rw[if_pos a2,a2,Nat.sub_self]
     simp
   · rw[if_neg a2];obtain⟨j,hj⟩:∃ j,i-row=j+1:=⟨i-row-1,by omega⟩;rw[hj,List.getElem?_cons_succ]
     by_cases a3:i≤t
     · rw[if_pos a3,a2q (by omega),List.getElem?_take_of_lt (by omega),a2x,show row+j=i-1 by omega]
     · rw[if_neg a3,a2b (by omega),b,a2x,show t+1+(j-(t-row))=i by omega]
theorem R5 {M:C4}{n row t:Nat}(h:E9 M n) (h2:t<M.length):E9 (G7 M row t) n:=fun r hr=>by
 unfold G7 at hr
 simp only[a3b,a3i] at hr
 rcases hr with h3 | rfl | h3 | h3
 · exact h r (a2k h3)
 · exact L4 h h2
 · exact h r (a2l (a2k h3))
 · exact h r (a2l h3)
theorem sJ {M:C4}{row:Nat}(h:row<M.length):G7 M row row=M:=by
 apply List.ext_getElem?
 intro i
 by_cases hi:i<M.length
 · have h1:=U4 (M:=M) (a1u row) h hi
   have h2:qW row row i=i:=by
    unfold qW
    by_cases a1:i<row
    · rw[if_pos a1]
    · by_cases a2:i=row
      · rw[if_neg a1,if_pos a2,a2]
      · rw[if_neg a1,if_neg a2,if_neg (by omega)]
   rw[h2,a1l,a1l,a1m hi,a1m (by rw[G0 (a1u _) h];exact hi)] at h1;rw[a1m hi,a1m (by rw[G0 (a1u _) h];exact hi)];exact congrArg some h1
 · rw[a2j (by rw[G0 (a1u _) h];omega),a2j (by omega)]
def H6 (M:C4) (col row:Nat):Nat:=row+(M.drop row).findIdx fun r=>decide (r.getD col 0≠0)
theorem U8 (M:C4) (col row:Nat):row≤H6 M col row:=by unfold H6;omega
theorem fY {M:C4}{col row i:Nat}(h1:row≤i) (h2:i<H6 M col row) (hi:i<M.length):fn M i col=0:=by
 unfold H6 at h2;have h3:=List.not_of_lt_findIdx (xs:=M.drop row) (p:=fun r=>decide (r.getD col 0≠0)) (i:=i-row) (by omega);rw[List.getElem_drop] at h3;have e:row+(i-row)=i:=by omega
 simp only[e] at h3
 unfold fn;rw[a1l (l:=M),a1m hi]
 simpa using h3
theorem Q5 {M:C4}{col row:Nat}(h:H6 M col row<M.length):fn M (H6 M col row) col≠0:=by
 have h4:(M.drop row).findIdx (fun r=>decide (r.getD col 0≠0))<(M.drop row).length:=by
  unfold H6 at h;rw[a2d];omega
 have h3:=List.findIdx_getElem (xs:=M.drop row) (p:=fun r=>decide (r.getD col 0≠0)) (w:=h4);rw[List.getElem_drop] at h3;unfold fn;rw[a1l (l:=M),a1m h]
 simpa [H6] using h3
def Z9 (S:C4 × List Nat) (col:Nat):C4 × List Nat :=
 if S.2.length<S.1.length then
  if H6 S.1 col S.2.length<S.1.length then (O0 (G7 S.1 S.2.length (H6 S.1 col S.2.length)) S.2.length col,S.2++[col]) else S
 else S
def reduceL (M:C4) (n:Nat):C4 × List Nat:=(List.range n).foldl Z9 (M,[])
theorem O5 (M:C4) (n:Nat):reduceL M (n+1)=Z9 (reduceL M n) n:=by
 unfold reduceL;rw[List.range_succ,List.foldl_append];rfl
theorem qX (l:List Nat) (c:Nat):(l++[c]).zipIdx=l.zipIdx++[(c,l.length)]:=by rw[List.zipIdx_append];simp
theorem qC {l:List Nat}{p:Nat × Nat}(h:p∈l.zipIdx):p.2<l.length:=by
 obtain⟨a,i⟩:=p;have:=List.mem_zipIdx h
 simpa using this.2.1
structure Reduced (M:C4) (n w:Nat) (S:C4 × List Nat):Prop where
 len:S.1.length=M.length
 rct:E9 S.1 w
 eqv:RowEq M.length w (fn M) (fn S.1)
 red:Red M.length n (fn S.1) S.2.zipIdx
 le:S.2.length≤M.length
theorem L3 {M:C4}{w:Nat}(h:E9 M w):∀ n,n≤w→Reduced M n w (reduceL M n):=by
 intro n
 induction n with
 | zero=>exact fun _=>⟨rfl,h,RowEq.refl _ _ _,Red.nil _ _,Nat.zero_le _⟩
 | succ n ih =>
  intro hn;obtain⟨h1,h2,h3,h4,h5⟩:=ih (by omega);rw[O5]
  generalize reduceL M n=S at *
  obtain⟨R,l⟩:=S
  simp only at h1 h2 h3 h4 h5
  unfold Z9
  simp only
  split
  · rename_i hlt
    split
    · rename_i hat
      generalize ht:H6 R n l.length=t at *
      have b:l.length≤t:=by rw[←ht];exact U8 _ _ _
      have f:fn R t n≠0:=by rw[←ht];exact Q5 (by rw[ht];exact hat)
      have d:=G0 b hat;have c:=R5 (row:=l.length) h2 hat
      have e1:∀ i k,i<M.length→k<w→fn (G7 R l.length t) i k=fn R (qW l.length t i) k:=fun i k hi hk=>by
       unfold fn;rw[U4 b hat (by omega)]
      have p1:=upS_ok (m:=M.length) b (by omega);have p2:=upT_ok (m:=M.length) b (by omega);have g1:RowEq M.length w (fn M) (fn (G7 R l.length t)):=(h3.trans (RowEq.perm (σ:=qW l.length t) (τ:=upT l.length t) p1 p2)).congr e1
      have g2:Red M.length n (fn (G7 R l.length t)) l.zipIdx:=by
       have:=(h4.perm p1 p2).congr fun i k hi hk=>e1 i k hi (by omega)
       have e2:(l.zipIdx.map fun p=>(p.1,upT l.length t p.2))=l.zipIdx:=by
        conv=>rhs;rw[←List.map_id l.zipIdx]
        refine List.map_congr_left fun p hp=>?_;have:=qC hp
        show (p.1,upT l.length t p.2)=p
        unfold upT;rw[if_pos this]
       rw[e2] at this;exact this
      have g3:fn (G7 R l.length t) l.length n≠0:=by
       rw[e1 _ _ (by omega) (by omega)];unfold qW;rw[if_neg (by omega),if_pos rfl];exact f
      have e3:∀ i k,i<M.length→k<w→fn (O0 (G7 R l.length t) l.length n) i k=piv (fn (G7 R l.length t)) l.length n i k:=fun i k hi hk=>qK c (by omega) (by omega) hk;refine⟨by rw[N7,d,h1],iC c (by omega),(g1.trans (RowEq.piv (by omega) g3)).congr e3,?_,by rw[a1x];simp;omega⟩
      show Red _ _ _ (l++[n]).zipIdx
      rw[qX];exact (g2.step (by omega) (fun q hq=>by have:=qC hq;omega) g3).congr fun i k hi hk=>e3 i k hi (by omega)
    · rename_i hat
      refine⟨h1,h2,h3,h4.skip fun i hi hu=>?_,h5⟩;refine fY (row:=l.length) (Nat.le_of_not_lt fun g=>?_) (by have:=U8 R n l.length;omega) (by omega);exact hu (l[i],i) (by rw[List.mem_iff_getElem?];exact⟨i,by rw[List.getElem?_zipIdx,a1m g];simp⟩) rfl
  · rename_i hlt
    refine⟨h1,h2,h3,h4.skip fun i hi hu=>?_,h5⟩;exact absurd rfl (hu (l[i]'(by omega),i) (by rw[List.mem_iff_getElem?];exact⟨i,by rw[List.getElem?_zipIdx,a1m (by omega)];simp⟩))
def iJ (r:List Rat):Option Nat:=(List.range r.length).foldl (fun c k=>if r.getD k 0≠0 then some k else c) none
theorem lX (r:List Rat):∀ n,n≤r.length→match (List.range n).foldl (fun c k=>if r.getD k 0≠0 then some k else c) none with
 | none=>∀ k,k<n→r.getD k 0=0
 | some c=>c<n∧r.getD c 0≠0:=by
 intro n
 induction n with
 | zero=>exact fun _ k hk=>by omega
 | succ n ih =>
  intro hn;have h:=ih (by omega);rw[List.range_succ,List.foldl_append]
  simp only[List.foldl_cons,List.foldl_nil]
  by_cases hz:r.getD n 0=0
  · rw[if_neg (by simpa using hz)]
    generalize (List.range n).foldl (fun c k=>if r.getD k 0≠0 then some k else c) none=o at *
    cases o with
    | none =>
     intro k hk
     by_cases e:k=n
     · subst e;exact hz
     · exact h k (by omega)
    | some c=>exact⟨by have:=h.1;omega,h.2⟩
  · rw[if_pos hz];exact⟨by omega,hz⟩
theorem sQ {r:List Rat}(h:iJ r=none):∀ k,k<r.length→r.getD k 0=0:=by
 have:=lX r r.length (a1u _);unfold iJ at h;rw[h] at this;exact this
theorem sP {r:List Rat}{c:Nat}(h:iJ r=some c):c<r.length∧r.getD c 0≠0:=by
 have:=lX r r.length (a1u _);unfold iJ at h;rw[h] at this;exact this
def kV:Nat→C4→Nat
 | 0,_=>0
 | f+1,M=>match M with
  | []=>0
  | r::T=>match iJ r with
   | none=>kV f T
   | some c=>kV f (O0 (r::T) 0 c).tail+1
def xC (M:C4):Nat:=kV M.length M
theorem rankF_ok:∀ (f:Nat) (M:C4) (n:Nat),E9 M n→M.length=f→HasRank M.length n (fn M) (kV f M):=by
 intro f
 induction f with
 | zero =>
  intro M n h hl;rw[hl];exact HasRank.none
 | succ f ih =>
  intro M n h hl
  match M,hl with
  | r::T,hl =>
   have hr:r.length=n:=h r (by simp);have hT:E9 T n:=fun x hx=>h x (a2n _ hx);have s:T.length=f:=by simpa using hl
   unfold kV
   simp only
   cases hz:iJ r with
   | none =>
    have h0:=sQ hz;exact HasRank.zeroRow (m:=T.length) (ih T n hT s) fun k hk=>h0 k (by omega)
   | some c =>
    obtain⟨hc,j⟩:=sP hz;have hp:0<(r::T).length:=by simp
    have b:=N7 (r::T) 0 c;have q:=iC (c:=c) h hp
    obtain⟨a,L,hL⟩:∃ a L,O0 (r::T) 0 c=a::L:=by
     cases hq:O0 (r::T) 0 c with
     | nil=>rw[hq] at b;simp at b
     | cons a L=>exact⟨a,L,rfl⟩
    have o:E9 L n:=fun x hx=>q x (by rw[hL];exact a2n _ hx);have d:L.length=f:=by rw[hL] at b;simp at b;omega
    have ne:fn (r::T) 0 c≠0:=j;have e0:∀ i k,i<(r::T).length→k<n→fn (O0 (r::T) 0 c) i k=piv (fn (r::T)) 0 c i k:=fun i k hi hk=>qK h hp hi hk
    have p:HasRank (L.length+1) n (fn (a::L)) (kV f L+1):=by
     refine HasRank.cons (m:=L.length) (c:=c) (ih L n o d) (by omega) ?_ fun i hi=>?_
     · rw[←hL,e0 0 c hp (by omega)]
       show (if 0=0 then _ / _ else _)=(1:Rat)
       rw[if_pos rfl];grind
     · rw[←hL,e0 (i+1) c (by simp;omega) (by omega)]
       show (if i+1=0 then _ else _-_*(_ / _))=(0:Rat)
       rw[if_neg (by omega)];grind
    have g:RowEq (r::T).length n (fn (r::T)) (fn (a::L)):=by rw[←hL];exact (RowEq.piv hp ne).congr e0
    have l:(r::T).length=L.length+1:=by rw[d];exact hl
    show HasRank (r::T).length n (fn (r::T)) (kV f (O0 (r::T) 0 c).tail+1)
    rw[hL];rw[l] at g ⊢;exact g.symm.rank p
theorem rankR_ok {M:C4}{n:Nat}(h:E9 M n):HasRank M.length n (fn M) (xC M):=rankF_ok _ M n h rfl
theorem RowEq.mono {m n k:Nat}{M M':Nat→Nat→Rat}(h:RowEq m n M M') (hk:k≤n):RowEq m k M M':=by
 obtain⟨E,F,h1,h2,h3⟩:=h;exact⟨E,F,h1,h2,fun i j hi hj=>h3 i j hi (by omega)⟩
def O8 (M:C4) (k:Nat):C4:=M.map fun r=>r.take k
theorem sZ {M:C4}{n k:Nat}(h:E9 M n) (hk:k≤n):E9 (O8 M k) k:=fun r hr=>by
 unfold O8 at hr;obtain⟨x,hx,rfl⟩:=a2v.1 hr;rw[a2c,h x hx];omega
theorem a0i {M:C4}{k i j:Nat}(hj:j<k):fn (O8 M k) i j=fn M i j:=by
 unfold fn O8;rw[a1l (l:=M.map _),a1r,a1l (l:=M)]
 cases M[i]? with
 | none=>simp
 | some r=>simp[a1l,a2w,hj]
def eT (M:C4) (k:Nat):Bool:=decide (xC (O8 M k)<xC (O8 M (k+1)))
theorem jG {M:C4}{n w k:Nat}{S:C4 × List Nat}(h:Reduced M n w S) (hM:E9 M w) (hk:k≤n) (hn:n≤w):xC (O8 M k)=(S.2.zipIdx.filter fun p=>decide (p.1<k)).length:=by
 have h1:=rankR_ok (sZ hM (show k≤w by omega));have hl:(O8 M k).length=M.length:=by simp[O8]
 rw[hl] at h1;have h2:=(h.red.mono hk).rank;exact h1.unique (((h.eqv.mono (show k≤w by omega)).symm.rank h2).congr fun i j hi hj=>a0i hj)
theorem a0e {M:C4}{n w k:Nat}{S:C4 × List Nat}(h:Reduced M n w S) (hM:E9 M w) (hk:k<n) (hn:n≤w):eT M k=true ↔ k∈S.2:=by
 unfold eT;rw[decide_eq_true_eq,jG h hM (show k≤n by omega) hn,jG h hM (show k+1≤n by omega) hn,h.red.count_succ]
 have e:(∃ p∈S.2.zipIdx,p.1=k) ↔ k∈S.2:=by
  constructor
  · rintro ⟨p,hp,rfl⟩;obtain⟨a,i⟩:=p;have:=List.mem_zipIdx hp
    simp at this
    rw[this.2];exact a1z _
  · intro hk;obtain⟨i,hi,rfl⟩:=a3j hk;exact⟨(S.2[i],i),by rw[List.mem_iff_getElem?];exact⟨i,by rw[List.getElem?_zipIdx,a1m hi];simp⟩,rfl⟩
 rw[←e]
 by_cases hp:∃ p∈S.2.zipIdx,p.1=k
 · rw[if_pos hp];exact⟨fun _=>hp,fun _=>by omega⟩
 · rw[if_neg hp];exact⟨fun h=>by omega,fun h=>absurd h hp⟩
def C9 (M:C4) (b:List Rat):C4:=List.zipWith (fun r x=>r++[x]) M b
theorem O2 {M:C4}{b:List Rat}(h:b.length=M.length):(C9 M b).length=M.length:=by simp[C9,h]
theorem N0 {M:C4}{b:List Rat}{n:Nat}(h:E9 M n):E9 (C9 M b) (n+1):=fun r hr=>by
 unfold C9 at hr;obtain⟨i,hi,rfl⟩:=a3j hr;rw[List.getElem_zipWith,a1x,h _ (a1z _)]
 rfl
theorem mZ {M:C4}{b:List Rat}{i:Nat}(h:b.length=M.length) (hi:i<M.length):(C9 M b).getD i []=M.getD i []++[b.getD i 0]:=by
 unfold C9;rw[a1l,List.getElem?_zipWith,a1m hi,a1m (show i<b.length by omega),a1l,a1l,a1m hi,a1m (show i<b.length by omega)]
 rfl
theorem sX {M:C4}{b:List Rat}{n i k:Nat}(hM:E9 M n) (h:b.length=M.length) (hi:i<M.length) (hk:k<n):fn (C9 M b) i k=fn M i k:=by
 unfold fn;rw[mZ h hi,a1l,a2q (by rw[L4 hM hi];exact hk),←a1l]
theorem dV {M:C4}{b:List Rat}{n i:Nat}(hM:E9 M n) (h:b.length=M.length) (hi:i<M.length):fn (C9 M b) i n=b.getD i 0:=by
 unfold fn;have e:=L4 hM hi;rw[mZ h hi,a1l,a2b (by omega),e,Nat.sub_self]
 rfl
def Sol (m n:Nat) (W:Nat→Nat→Rat) (x:Nat→Rat):Prop:=∀ i,i<m→sm n (fun k=>W i k*x k)=W i n
theorem Sol.ker {m n:Nat}{W:Nat→Nat→Rat}{x:Nat→Rat}:Sol m n W x ↔ ∀ i,i<m→sm (n+1) (fun k=>W i k*(if k<n then x k else -1))=0:=by
 have e:∀ i,sm (n+1) (fun k=>W i k*(if k<n then x k else -1))=sm n (fun k=>W i k*x k)-W i n:=by
  intro i
  show sm n (fun k=>W i k*(if k<n then x k else -1))+W i n*(if n<n then x n else -1)=_
  rw[j7 (g:=fun k=>W i k*x k) (fun k hk=>by rw[if_pos hk]),if_neg (Nat.lt_irrefl n)]
  grind
 unfold Sol
 constructor
 · intro h i hi;rw[e,h i hi];grind
 · intro h i hi;have:=h i hi;rw[e] at this;grind
theorem RowEq.sol {m n:Nat}{W W':Nat→Nat→Rat}{x:Nat→Rat}(h:RowEq m (n+1) W W') (hx:Sol m n W x):Sol m n W' x:=Sol.ker.2 (h.ker (Sol.ker.1 hx))
theorem S5 {m n:Nat}{W R:Nat→Nat→Rat}{ps:List (Nat × Nat)}(h:Red m n R ps) (e:RowEq m (n+1) W R) :
 ((∀ i,i<m→(∀ p∈ps,p.2≠i)→R i n=0) ↔ ∃ x,Sol m n W x)∧((∀ i,i<m→(∀ p∈ps,p.2≠i)→R i n=0)→Sol m n W (R9 ps fun i=>R i n)):=by
 have h1:(∀ i,i<m→(∀ p∈ps,p.2≠i)→R i n=0)→Sol m n W (R9 ps fun i=>R i n):=fun hc=>e.symm.sol (h.solves hc);exact⟨⟨fun hc=>⟨_,h1 hc⟩,fun ⟨x,hx⟩=>h.consistent (b:=fun i=>R i n) (e.sol hx)⟩,h1⟩
theorem two_ways {m n:Nat}{W R R':Nat→Nat→Rat}{ps ps':List (Nat × Nat)}(h:Red m n R ps) (e:RowEq m (n+1) W R) (h':Red m n R' ps') (e':RowEq m (n+1) W R') :
 ((∀ i,i<m→(∀ p∈ps,p.2≠i)→R i n=0) ↔ (∀ i,i<m→(∀ p∈ps',p.2≠i)→R' i n=0))∧((∀ i,i<m→(∀ p∈ps,p.2≠i)→R i n=0)→∀ k,k<n→R9 ps (fun i=>R i n) k=R9 ps' (fun i=>R' i n) k):=by
 have a:=S5 h e;have b:=S5 h' e';refine⟨a.1.trans b.1.symm,fun hc=>?_⟩;have s1:=e.sol (a.2 hc);have s2:=e.sol (b.2 (b.1.2 (a.1.1 hc)));refine h.unique (fun i hi=>(s1 i hi).trans (s2 i hi).symm) fun k hk hn=>?_;rw[N3 hn,N3];intro p hp ep;have hm:k∈ps'.map Prod.fst:=a2v.2 ⟨p,hp,ep⟩;rw[←h.cols_eq h' ((e.mono (Nat.le_succ n)).symm.trans (e'.mono (Nat.le_succ n)))] at hm;obtain⟨q,hq,eq⟩:=a2v.1 hm;exact hn q hq eq
theorem kK {M:C4}{x:List Rat}{i:Nat}(hi:i<M.length){h:i<(T5 M x).length}:(T5 M x)[i]=dotL M[i] x:=by simp[T5]
def L1 (R:C4) (k n:Nat):Bool:=(R.drop k).all fun r=>decide (r.getD n 0=0)
theorem restZero_iff {R:C4}{l:List Nat}{n:Nat}:L1 R l.length n=true ↔ ∀ i,i<R.length→(∀ p∈l.zipIdx,p.2≠i)→fn R i n=0:=by
 unfold L1;rw[List.all_eq_true]
 constructor
 · intro h i hi hu;have c:l.length≤i:=Nat.le_of_not_lt fun b=>hu (l[i],i) (by rw[List.mem_iff_getElem?];exact⟨i,by rw[List.getElem?_zipIdx,a1m b];simp⟩) rfl
   have hm:R[i]∈R.drop l.length:=by
    rw[List.mem_iff_getElem?];exact⟨i-l.length,by rw[a2x,show l.length+(i-l.length)=i by omega,a1m hi]⟩
   have h1:=of_decide_eq_true (h _ hm);unfold fn;rw[a1l (l:=R),a1m hi];exact h1
 · intro h r hr;obtain⟨j,hj,rfl⟩:=a3j hr;rw[a2d] at hj;rw[List.getElem_drop];have h1:=h (l.length+j) (by omega) fun p hp=>by have:=qC hp;omega
   unfold fn at h1;rw[a1l (l:=R),a1m (by omega)] at h1;exact a1w h1
def jQ (n:Nat) (ps:List (Nat × Nat)) (f:Nat→Rat):List Rat:=(List.range n).map (R9 ps f)
theorem W2 (n:Nat) (ps:List (Nat × Nat)) (f:Nat→Rat):(jQ n ps f).length=n:=by simp[jQ]
theorem lH {n k:Nat}(hk:k<n) (ps:List (Nat × Nat)) (f:Nat→Rat):(jQ n ps f).getD k 0=R9 ps f k:=aB hk
def G6 (M:C4) (b:List Rat):Option (List Rat) :=
 let S:=reduceL (C9 M b) (colsL M)
 if L1 S.1 S.2.length (colsL M)=true then some (jQ (colsL M) S.2.zipIdx fun i=>fn S.1 i (colsL M)) else none
def S1 (ps:List (Nat × Nat)) (i:Nat):Bool:=ps.any fun p=>decide (p.2=i)
theorem usedB_false {ps:List (Nat × Nat)}{i:Nat}:S1 ps i=false ↔ ∀ p∈ps,p.2≠i:=by
 unfold S1;rw[List.any_eq_false];simp
def findFree (t:C4) (ps:List (Nat × Nat)) (k:Nat):Option Nat:=(List.range t.length).find? fun i=>!S1 ps i&&decide (fn t i k≠0)
def cS (S:C4 × List (Nat × Nat)) (k:Nat):C4 × List (Nat × Nat) :=
 match findFree S.1 S.2 k with
 | some i=>(O0 S.1 i k,S.2++[(k,i)])
 | none=>S
def x6 (M:C4) (n:Nat):C4 × List (Nat × Nat):=(List.range n).foldl cS (M,[])
theorem U2 (M:C4) (n:Nat):x6 M (n+1)=cS (x6 M n) n:=by
 unfold x6;rw[List.range_succ,List.foldl_append];rfl
structure RefRed (M:C4) (n w:Nat) (S:C4 × List (Nat × Nat)):Prop where
 len:S.1.length=M.length
 rct:E9 S.1 w
 eqv:RowEq M.length w (fn M) (fn S.1)
 red:Red M.length n (fn S.1) S.2
theorem Z6 {M:C4}{w:Nat}(h:E9 M w):∀ n,n≤w→RefRed M n w (x6 M n):=by
 intro n
 induction n with
 | zero=>exact fun _=>⟨rfl,h,RowEq.refl _ _ _,Red.nil _ _⟩
 | succ n ih =>
  intro hn;obtain⟨h1,h2,h3,h4⟩:=ih (by omega);rw[U2]
  generalize x6 M n=S at *
  obtain⟨t,ps⟩:=S
  simp only at h1 h2 h3 h4
  unfold cS
  simp only
  cases hf:findFree t ps n with
  | none =>
   refine⟨h1,h2,h3,h4.skip fun i hi hu=>?_⟩;unfold findFree at hf;rw[List.find?_eq_none] at hf;have h5:=hf i (a2u.2 (by omega));rw[usedB_false.2 hu] at h5
   simpa using h5
  | some i =>
   unfold findFree at hf;have h5:=List.find?_some hf;have h6:=List.mem_of_find?_eq_some hf;rw[a2u] at h6
   simp only[a3m,Bool.not_eq_true',decide_eq_true_eq] at h5
   have e3:∀ j k,j<M.length→k<w→fn (O0 t i n) j k=piv (fn t) i n j k:=fun j k hj hk=>qK h2 h6 (by omega) hk;exact⟨by rw[N7,h1],iC h2 h6,(h3.trans (RowEq.piv (by omega) h5.2)).congr e3,(h4.step (by omega) (usedB_false.1 h5.1) h5.2).congr fun j k hj hk=>e3 j k hj (by omega)⟩
def S4 (t:C4) (ps:List (Nat × Nat)) (n:Nat):Bool:=(List.range t.length).all fun i=>S1 ps i || decide (fn t i n=0)
theorem rV {t:C4}{ps:List (Nat × Nat)}{n:Nat}:S4 t ps n=true ↔ ∀ i,i<t.length→(∀ p∈ps,p.2≠i)→fn t i n=0:=by
 unfold S4;rw[List.all_eq_true]
 constructor
 · intro h i hi hu;have h1:=h i (a2u.2 hi);rw[usedB_false.2 hu] at h1
   simpa using h1
 · intro h i hi;rw[a2u] at hi
   cases hb:S1 ps i with
   | true=>rfl
   | false=>simpa using h i hi (usedB_false.1 hb)
def tX (M:C4) (b:List Rat):Option (List Rat) :=
 let S:=x6 (C9 M b) (colsL M)
 if S4 S.1 S.2 (colsL M)=true then some (jQ (colsL M) S.2 fun i=>fn S.1 i (colsL M)) else none
theorem solve_eq {M:C4}{b:List Rat}(h:A0 M=true) (hb:b.length=M.length):G6 M b=tX M b:=by
 have hr:=H5 h;have hw:=N0 (b:=b) hr;have h1:=L3 hw (colsL M) (by omega);have h2:=Z6 hw (colsL M) (by omega);unfold G6 tX
 generalize reduceL (C9 M b) (colsL M)=S at *
 generalize x6 (C9 M b) (colsL M)=S' at *
 have h3:=two_ways h1.red h1.eqv h2.red h2.eqv
 have e1:L1 S.1 S.2.length (colsL M)=true ↔ S4 S'.1 S'.2 (colsL M)=true:=by
  rw[restZero_iff,rV,h1.len,h2.len];exact h3.1
 by_cases hz:L1 S.1 S.2.length (colsL M)=true
 · simp only[if_pos hz,if_pos (e1.1 hz)]
   congr 1
   unfold jQ;refine List.map_congr_left fun k hk=>?_;rw[a2u] at hk;rw[restZero_iff,h1.len] at hz;exact h3.2 hz k hk
 · simp only[if_neg hz,if_neg fun hq=>hz (e1.2 hq)]
theorem cL {M:C4}{b x:List Rat}(h:A0 M=true) (hb:b.length=M.length) (hs:G6 M b=some x):x.length=colsL M∧T5 M x=b∧∀ k,k<colsL M→eT M k=false→x.getD k 0=0:=by
 have hr:=H5 h;have hw:=N0 (b:=b) hr;have h1:=L3 hw (colsL M) (by omega)
 have d:∀ k,k<colsL M→(eT M k=true ↔ k∈(reduceL (C9 M b) (colsL M)).2):=by
  intro k hk
  have e:eT M k=eT (C9 M b) k:=by
   have e2:∀ j,j≤colsL M→O8 (C9 M b) j=O8 M j:=by
    intro j hj
    apply List.ext_getElem (by simp[O8,C9,hb])
    intro i f c;have hi:i<M.length:=by simpa [O8] using c
    simp only[O8,C9,List.getElem_map,List.getElem_zipWith]
    rw[List.take_append_of_le_length (by rw[hr _ (a1z hi)];exact hj)]
   unfold eT;rw[e2 k (by omega),e2 (k+1) (by omega)]
  rw[e];exact a0e h1 hw hk (by omega)
 unfold G6 at hs
 generalize reduceL (C9 M b) (colsL M)=S at *
 simp only at hs
 split at hs
 · rename_i hz
   injection hs with hs
   subst hs;rw[restZero_iff,h1.len] at hz;have m:=O2 hb;have h2:=(S5 h1.red h1.eqv).2 hz;refine⟨W2 _ _ _,?_,fun k hk hp=>?_⟩
   · apply List.ext_getElem (by simp[T5,hb])
     intro i f c;have hi:i<M.length:=by omega
     have h3:=h2 i (by omega);rw[dV hr hb hi] at h3;rw[kK hi,jZ (hr _ (a1z hi)) (W2 _ _ _)];rw[a1l,a1m c] at h3;refine Eq.trans (j7 fun k hk=>?_) h3;rw[lH hk,sX hr hb hi hk];unfold fn;rw[a1l (l:=M),a1m hi]
     rfl
   · rw[lH hk,N3];intro p g e
     have hm:k∈S.2:=by
      obtain⟨a,i⟩:=p;have:=List.mem_zipIdx g
      simp at this e
      rw[←e,this.2];exact a1z _
     rw[(d k hk).2 hm] at hp
     cases hp
 · cases hs
theorem dM {M:C4}{b x:List Rat}(h:A0 M=true) (hx:x.length=colsL M) (hb:T5 M x=b):G6 M b≠none:=by
 have hr:=H5 h;have c:b.length=M.length:=by rw[←hb];simp[T5]
 have hw:=N0 (b:=b) hr;have h1:=L3 hw (colsL M) (by omega);have d:=O2 c;unfold G6
 generalize reduceL (C9 M b) (colsL M)=S at *
 simp only
 have hs:Sol (C9 M b).length (colsL M) (fn (C9 M b)) fun k=>x.getD k 0:=by
  intro i hi;rw[d] at hi;rw[dV hr c hi]
  have e:b.getD i 0=dotL (M.getD i []) x:=by
   rw[←hb];unfold T5;rw[a1l,a1r,a1l,a1m hi];rfl
  rw[e,jZ (L4 hr hi) hx];exact j7 fun k hk=>by rw[sX hr c hi hk];rfl
 rw[if_pos (restZero_iff.2 (by rw[h1.len];exact (S5 h1.red h1.eqv).1.2 ⟨_,hs⟩))]
 simp
end Go.Proofs.YtjhkapjadfpimaaGreat.Plain
