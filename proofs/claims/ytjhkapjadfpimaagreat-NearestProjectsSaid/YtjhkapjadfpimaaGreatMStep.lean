/- Contracts of functions, for the law. -/
import Derived.Test.YtjhkapjadfpimaaGreatPLp
namespace Go.Proofs.YtjhkapjadfpimaaGreat.Plain
set_option linter.unusedVariables false
set_option linter.unusedSimpArgs false
def dl (i j:Nat):Rat:=if i=j then 1 else 0
theorem H7 (i:Nat):dl i i=1:=by simp[dl]
theorem K8 {i j:Nat}(h:i≠j):dl i j=0:=by simp[dl,h]
theorem qM (i j:Nat):dl i j=dl j i:=by
 unfold dl
 by_cases h:i=j
 · rw[if_pos h,if_pos h.symm]
 · rw[if_neg h,if_neg fun e=>h e.symm]
theorem B7 {n:Nat}{f:Nat→Rat}(h:∀ k,k<n→f k=0):sm n f=0:=by
 rw[j7 (g:=fun _=>0) h];exact pF n
theorem K6 {n t:Nat}(f:Nat→Rat) (ht:t<n):sm n (fun k=>dl t k*f k)=f t:=by
 induction n with
 | zero=>omega
 | succ n ih =>
  show sm n (fun k=>dl t k*f k)+dl t n*f n=f t
  by_cases h:t=n
  · subst h;rw[H7,B7 fun k hk=>by rw[K8 (by omega)];grind]
    grind
  · rw[ih (by omega),K8 h];grind
theorem M3 {n t:Nat}(f:Nat→Rat) (ht:t<n):sm n (fun k=>f k*dl k t)=f t:=by
 rw[j7 (g:=fun k=>dl t k*f k) (fun k _=>by rw[qM k t];grind)];exact K6 f ht
theorem uB {n i p:Nat}(x y:Rat) (g:Nat→Rat) (hi:i<n) (hp:p<n):sm n (fun t=>(x*dl i t+y*dl p t)*g t)=x*g i+y*g p:=by
 rw[j7 (g:=fun t=>x*(dl i t*g t)+y*(dl p t*g t)) (fun t _=>by grind),bK,T8,T8,K6 g hi,K6 g hp]
theorem Z3 (n:Nat) (f g:Nat→Rat):sm n (fun k=>f k-g k)=sm n f-sm n g:=by
 rw[j7 (g:=fun k=>f k+(-1)*g k) (fun k _=>by grind),bK,T8];grind
theorem F3 (a b:Nat) (x:Nat→Rat) (Y:Nat→Nat→Rat) (z:Nat→Rat):sm a (fun s=>x s*sm b (fun t=>Y s t*z t))=sm b (fun t=>sm a (fun s=>x s*Y s t)*z t):=by
 rw[j7 (g:=fun s=>sm b (fun t=>x s*(Y s t*z t))) (fun s _=>(T8 b _ _).symm)];rw[←wR];refine j7 fun t _=>?_;rw[←wT];exact j7 fun s _=>by grind
theorem eS:∀ (s r:Nat) (Y:Nat→Nat→Rat),s<r→∃ v:Nat→Rat,(∃ k,k<r∧v k≠0)∧∀ i,i<s→sm r (fun k=>Y i k*v k)=0:=by
 intro s
 induction s with
 | zero=>exact fun r Y h=>⟨dl 0,⟨0,h,by rw[H7];decide⟩,fun i hi=>by omega⟩
 | succ s ih =>
  intro r Y h;obtain⟨r,rfl⟩:∃ q,r=q+1:=⟨r-1,by omega⟩
  by_cases hz:∀ i,i<s+1→Y i r=0
  · refine⟨dl r,⟨r,by omega,by rw[H7];decide⟩,fun i hi=>?_⟩;rw[j7 (g:=fun k=>Y i k*dl k r) (fun k _=>by rw[qM r k]),M3 (Y i) (by omega)];exact hz i hi
  · obtain⟨i0,c,hp⟩:∃ i,i<s+1∧Y i r≠0:=by
     refine Classical.byContradiction fun hc=>hz fun i hi=>Classical.byContradiction fun hy=>hc ⟨i,hi,hy⟩
    let σ:Nat→Nat:=fun j=>if j=i0 then s else j
    obtain⟨v,⟨k,hk,b⟩,hv⟩:=ih r (fun j k=>Y (σ j) k-Y (σ j) r / Y i0 r*Y i0 k) (by omega);refine⟨fun k=>if k<r then v k else -(sm r (fun k=>Y i0 k*v k)) / Y i0 r,⟨k,by omega,by simpa [hk] using b⟩,fun i hi=>?_⟩
    have e:∀ i,sm (r+1) (fun k=>Y i k*if k<r then v k else -(sm r (fun k=>Y i0 k*v k)) / Y i0 r)=sm r (fun k=>Y i k*v k)+Y i r*(-(sm r (fun k=>Y i0 k*v k)) / Y i0 r):=by
     intro i
     show sm r _+_=_
     rw[j7 (g:=fun k=>Y i k*v k) (fun k hk=>by simp[hk])]
     simp
    rw[e]
    by_cases hii:i=i0
    · subst hii
      generalize sm r (fun k=>Y i k*v k)=S
      grind
    · have hj:∃ j,j<s∧σ j=i:=by
       by_cases his:i=s
       · refine⟨i0,by omega,?_⟩
         show (if i0=i0 then s else i0)=i
         rw[if_pos rfl];exact his.symm
       · refine⟨i,by omega,?_⟩
         show (if i=i0 then s else i)=i
         rw[if_neg hii]
      obtain⟨j,hj,hσ⟩:=hj;have h1:=hv j hj;rw[hσ] at h1;rw[j7 (g:=fun k=>Y i k*v k-Y i r / Y i0 r*(Y i0 k*v k)) (fun k _=>by grind),Z3,T8] at h1
      generalize sm r (fun k=>Y i0 k*v k)=S at *
      generalize sm r (fun k=>Y i k*v k)=T at *
      grind
theorem dim_le {r s:Nat}{X Y:Nat→Nat→Rat}(h:∀ t u,t<r→u<r→sm s (fun i=>X t i*Y i u)=dl t u):r≤s:=by
 refine Classical.byContradiction fun hc=>?_;obtain⟨v,⟨k,hk,b⟩,hv⟩:=eS s r Y (by omega)
 apply b
 have h1:sm r (fun u=>sm s (fun i=>X k i*Y i u)*v u)=v k:=by
  rw[j7 (g:=fun u=>dl k u*v u) (fun u hu=>by rw[h k u hk hu])];exact K6 v hk
 rw[←h1,←F3];exact B7 fun i hi=>by rw[hv i hi];grind
def HasRank (m n:Nat) (M:Nat→Nat→Rat) (r:Nat):Prop :=
 ∃ A A' B B':Nat→Nat→Rat,(∀ i k,i<m→k<n→M i k=sm r (fun t=>A i t*B t k))∧(∀ s t,s<r→t<r→sm m (fun i=>A' s i*A i t)=dl s t)∧(∀ s t,s<r→t<r→sm n (fun k=>B s k*B' k t)=dl s t)
theorem HasRank.le {m n:Nat}{M:Nat→Nat→Rat}{r s:Nat}(h1:HasRank m n M r) (h2:HasRank m n M s):r≤s:=by
 obtain⟨A,A',B,B',a1,a2,a3⟩:=h1;obtain⟨C,C',D,D',c1,c2,c3⟩:=h2;refine dim_le (s:=s) (X:=fun t u=>sm m (fun i=>A' t i*C i u)) (Y:=fun u t=>sm n (fun k=>D u k*B' k t)) fun t u ht hu=>?_
 have e1:sm s (fun j=>sm m (fun i=>A' t i*C i j)*sm n (fun k=>D j k*B' k u))=sm m (fun i=>A' t i*sm n (fun k=>M i k*B' k u)):=by
  rw[←F3];refine j7 fun i hi=>?_;rw[F3]
  congr 1
  exact j7 fun k hk=>by rw[←c1 i k hi hk]
 rw[e1]
 have e2:∀ i,i<m→sm n (fun k=>M i k*B' k u)=A i u:=by
  intro i hi;rw[j7 (g:=fun k=>sm r (fun q=>A i q*B q k)*B' k u) (fun k hk=>by rw[a1 i k hi hk]),←F3];rw[j7 (g:=fun q=>A i q*dl q u) (fun q hq=>by rw[a3 q u hq hu])];exact M3 _ hu
 rw[j7 (g:=fun i=>A' t i*A i u) (fun i hi=>by rw[e2 i hi])];exact a2 t u ht hu
theorem HasRank.unique {m n:Nat}{M:Nat→Nat→Rat}{r s:Nat}(h1:HasRank m n M r) (h2:HasRank m n M s):r=s:=Nat.le_antisymm (h1.le h2) (h2.le h1)
theorem HasRank.congr {m n:Nat}{M M':Nat→Nat→Rat}{r:Nat}(h:HasRank m n M r) (e:∀ i k,i<m→k<n→M' i k=M i k):HasRank m n M' r:=by
 obtain⟨A,A',B,B',a1,a2,a3⟩:=h;exact⟨A,A',B,B',fun i k hi hk=>by rw[e i k hi hk,a1 i k hi hk],a2,a3⟩
def RowEq (m n:Nat) (M M':Nat→Nat→Rat):Prop :=
 ∃ E F:Nat→Nat→Rat,(∀ i j,i<m→j<m→sm m (fun t=>E i t*F t j)=dl i j)∧(∀ i j,i<m→j<m→sm m (fun t=>F i t*E t j)=dl i j)∧∀ i k,i<m→k<n→M' i k=sm m (fun t=>E i t*M t k)
theorem RowEq.refl (m n:Nat) (M:Nat→Nat→Rat):RowEq m n M M :=
 ⟨dl,dl,fun i j hi hj=>K6 (fun t=>dl t j) hi,fun i j hi hj=>K6 (fun t=>dl t j) hi,fun i k hi hk=>(K6 (fun t=>M t k) hi).symm⟩
theorem RowEq.congr {m n:Nat}{M M' M'':Nat→Nat→Rat}(h:RowEq m n M M') (e:∀ i k,i<m→k<n→M'' i k=M' i k):RowEq m n M M'':=by
 obtain⟨E,F,h1,h2,h3⟩:=h;exact⟨E,F,h1,h2,fun i k hi hk=>by rw[e i k hi hk,h3 i k hi hk]⟩
theorem RowEq.symm {m n:Nat}{M M':Nat→Nat→Rat}(h:RowEq m n M M'):RowEq m n M' M:=by
 obtain⟨E,F,h1,h2,h3⟩:=h;refine⟨F,E,h2,h1,fun i k hi hk=>?_⟩;rw[j7 (g:=fun t=>F i t*sm m (fun u=>E t u*M u k)) (fun t ht=>by rw[h3 t k ht hk]),F3];rw[j7 (g:=fun u=>dl i u*M u k) (fun u hu=>by rw[h2 i u hi hu])];exact (K6 (fun u=>M u k) hi).symm
theorem RowEq.trans {m n:Nat}{M M' M'':Nat→Nat→Rat}(h:RowEq m n M M') (g:RowEq m n M' M''):RowEq m n M M'':=by
 obtain⟨E,F,h1,h2,h3⟩:=h;obtain⟨G,H,g1,g2,g3⟩:=g;refine⟨fun i j=>sm m (fun t=>G i t*E t j),fun i j=>sm m (fun t=>F i t*H t j),fun i j hi hj=>?_,fun i j hi hj=>?_,fun i k hi hk=>?_⟩
 · rw[←F3]
   rw[j7 (g:=fun t=>G i t*H t j) (fun t ht=>by
    rw[F3,j7 (g:=fun u=>dl t u*H u j) (fun u hu=>by rw[h1 t u ht hu]),K6 (fun u=>H u j) ht])]
   exact g1 i j hi hj
 · rw[←F3]
   rw[j7 (g:=fun t=>F i t*E t j) (fun t ht=>by
    rw[F3,j7 (g:=fun u=>dl t u*E u j) (fun u hu=>by rw[g2 t u ht hu]),K6 (fun u=>E u j) ht])]
   exact h2 i j hi hj
 · rw[g3 i k hi hk,←F3];exact j7 fun t ht=>by rw[h3 t k ht hk]
theorem RowEq.rank {m n:Nat}{M M':Nat→Nat→Rat}{r:Nat}(h:RowEq m n M M') (g:HasRank m n M r):HasRank m n M' r:=by
 obtain⟨E,F,h1,h2,h3⟩:=h;obtain⟨A,A',B,B',a1,a2,a3⟩:=g;refine⟨fun i t=>sm m (fun j=>E i j*A j t),fun s i=>sm m (fun j=>A' s j*F j i),B,B',fun i k hi hk=>?_,fun s t hs ht=>?_,a3⟩
 · rw[h3 i k hi hk,←F3];exact j7 fun j hj=>by rw[a1 j k hj hk]
 · rw[←F3]
   rw[j7 (g:=fun j=>A' s j*A j t) (fun j hj=>by
    rw[F3,j7 (g:=fun u=>dl j u*A u t) (fun u hu=>by rw[h2 j u hj hu]),K6 (fun u=>A u t) hj])]
   exact a2 s t hs ht
theorem RowEq.ker {m n:Nat}{M M':Nat→Nat→Rat}{x:Nat→Rat}(h:RowEq m n M M') (hx:∀ i,i<m→sm n (fun k=>M i k*x k)=0):∀ i,i<m→sm n (fun k=>M' i k*x k)=0:=by
 obtain⟨E,F,h1,h2,h3⟩:=h;intro i hi;rw[j7 (g:=fun k=>sm m (fun t=>E i t*M t k)*x k) (fun k hk=>by rw[h3 i k hi hk]),←F3];exact B7 fun t ht=>by rw[hx t ht];grind
def piv (M:Nat→Nat→Rat) (p c:Nat):Nat→Nat→Rat:=fun i k=>if i=p then M p k / M p c else M i k-M i c*(M p k / M p c)
theorem RowEq.piv {m n p c:Nat}{M:Nat→Nat→Rat}(hp:p<m) (ha:M p c≠0):RowEq m n M (piv M p c):=by
 refine⟨fun i t=>(if i=p then 1 / M p c else 1)*dl i t+(if i=p then 0 else -(M i c / M p c))*dl p t,fun i t=>(if i=p then M p c else 1)*dl i t+(if i=p then 0 else M i c)*dl p t,fun i j hi hj=>?_,fun i j hi hj=>?_,fun i k hi hk=>?_⟩
 · rw[uB _ _ _ hi hp]
   by_cases h:i=p
   · subst h;simp only[if_true];grind
   · simp only[if_neg h,if_true];grind
 · rw[uB _ _ _ hi hp]
   by_cases h:i=p
   · subst h;simp only[if_true];grind
   · simp only[if_neg h,if_true];grind
 · rw[uB _ _ _ hi hp]
   unfold Plain.piv
   by_cases h:i=p
   · subst h;simp only[if_true];grind
   · simp only[if_neg h];grind
theorem RowEq.perm {m n:Nat}{M:Nat→Nat→Rat}{σ τ:Nat→Nat}(h1:∀ i,i<m→σ i<m∧τ (σ i)=i) (h2:∀ i,i<m→τ i<m∧σ (τ i)=i):RowEq m n M (fun i k=>M (σ i) k):=by
 refine⟨fun i t=>dl (σ i) t,fun i t=>dl (τ i) t,fun i j hi hj=>?_,fun i j hi hj=>?_,fun i k hi hk=>(K6 (fun t=>M t k) (h1 i hi).1).symm⟩
 · rw[K6 (fun t=>dl (τ t) j) (h1 i hi).1,(h1 i hi).2]
 · rw[K6 (fun t=>dl (σ t) j) (h2 i hi).1,(h2 i hi).2]
structure Red (m c:Nat) (R:Nat→Nat→Rat) (ps:List (Nat × Nat)):Prop where
 lt:∀ p∈ps,p.1<c∧p.2<m
 col:ps.Pairwise fun p q=>p.1<q.1
 row:ps.Pairwise fun p q=>p.2≠q.2
 unit:∀ p∈ps,∀ i,i<m→R i p.1=dl i p.2
 zero:∀ j,j<c→(∀ p∈ps,p.1≠j)→∀ i,i<m→(∀ p∈ps,p.1<j→p.2≠i)→R i j=0
theorem Red.nil (m:Nat) (R:Nat→Nat→Rat):Red m 0 R []:=⟨by simp,.nil,.nil,by simp,fun j hj=>by omega⟩
theorem Red.congr {m c:Nat}{R R':Nat→Nat→Rat}{ps:List (Nat × Nat)}(h:Red m c R ps) (e:∀ i k,i<m→k<c→R' i k=R i k):Red m c R' ps :=
 ⟨h.lt,h.col,h.row,fun p hp i hi=>by rw[e i p.1 hi (h.lt p hp).1];exact h.unit p hp i hi,fun j hj h1 i hi h2=>by rw[e i j hi hj];exact h.zero j hj h1 i hi h2⟩
theorem Red.skip {m c:Nat}{R:Nat→Nat→Rat}{ps:List (Nat × Nat)}(h:Red m c R ps) (hz:∀ i,i<m→(∀ p∈ps,p.2≠i)→R i c=0):Red m (c+1) R ps :=
 ⟨fun p hp=>⟨by have:=(h.lt p hp).1;omega,(h.lt p hp).2⟩,h.col,h.row,h.unit,fun j hj h1 i hi h2=>by
  by_cases hc:j=c
  · subst hc;exact hz i hi fun p hp=>h2 p hp (h.lt p hp).1
  · exact h.zero j (by omega) h1 i hi h2⟩
theorem Red.step {m c p:Nat}{R:Nat→Nat→Rat}{ps:List (Nat × Nat)}(h:Red m c R ps) (hp:p<m) (hu:∀ q∈ps,q.2≠p) (ha:R p c≠0):Red m (c+1) (piv R p c) (ps++[(c,p)]):=by
 refine⟨fun q hq=>?_,?_,?_,fun q hq i hi=>?_,fun j hj h1 i hi h2=>?_⟩
 · rcases a3b.1 hq with h1 | h1
   · exact⟨by have:=(h.lt q h1).1;omega,(h.lt q h1).2⟩
   · simp at h1;subst h1;exact⟨by show c<c+1;omega,hp⟩
 · rw[List.pairwise_append];exact⟨h.col,by simp,fun a d b hb=>by simp at hb;subst hb;exact (h.lt a d).1⟩
 · rw[List.pairwise_append];exact⟨h.row,by simp,fun a d b hb=>by simp at hb;subst hb;exact hu a d⟩
 · unfold piv
   rcases a3b.1 hq with h1 | h1
   · have e1:=h.unit q h1 p hp;rw[K8 fun e=>hu q h1 e.symm] at e1
     by_cases hip:i=p
     · subst hip;rw[if_pos rfl,e1,K8 fun e=>hu q h1 e.symm]
       grind
     · rw[if_neg hip,e1,h.unit q h1 i hi]
       grind
   · simp at h1;subst h1
     by_cases hip:i=p
     · subst hip
       simp only[if_true,H7]
       grind
     · simp only[if_neg hip,K8 hip]
       grind
 · have f:j≠c:=fun e=>h1 (c,p) (by simp) e.symm;have e1:R i j=0:=h.zero j (by omega) (fun q hq=>h1 q (List.mem_append_left _ hq)) i hi fun q hq=>h2 q (List.mem_append_left _ hq);have e2:R p j=0:=h.zero j (by omega) (fun q hq=>h1 q (List.mem_append_left _ hq)) p hp fun q hq _=>hu q hq;unfold piv
   by_cases hip:i=p
   · rw[if_pos hip,e2];grind
   · rw[if_neg hip,e1,e2];grind
theorem Red.mono {m c j:Nat}{R:Nat→Nat→Rat}{ps:List (Nat × Nat)}(h:Red m c R ps) (hj:j≤c):Red m j R (ps.filter fun p=>decide (p.1<j)):=by
 refine⟨fun p hp=>?_,h.col.filter _,h.row.filter _,fun p hp=>h.unit p (List.mem_filter.1 hp).1,fun k hk h1 i hi h2=>?_⟩
 · obtain⟨h1,h2⟩:=List.mem_filter.1 hp;exact⟨of_decide_eq_true h2,(h.lt p h1).2⟩
 · refine h.zero k (by omega) (fun p hp e=>h1 p (List.mem_filter.2 ⟨hp,a1w (by omega)⟩) e) i hi fun p hp b=>h2 p (List.mem_filter.2 ⟨hp,a1w (by omega)⟩) b
theorem Red.perm {m c:Nat}{R:Nat→Nat→Rat}{ps:List (Nat × Nat)}{σ τ:Nat→Nat}(h:Red m c R ps) (h1:∀ i,i<m→σ i<m∧τ (σ i)=i) (h2:∀ i,i<m→τ i<m∧σ (τ i)=i) :
 Red m c (fun i k=>R (σ i) k) (ps.map fun p=>(p.1,τ p.2)):=by
 refine⟨fun p hp=>?_,?_,?_,fun p hp i hi=>?_,fun j hj k1 i hi k2=>?_⟩
 · obtain⟨q,hq,rfl⟩:=a2v.1 hp;exact⟨(h.lt q hq).1,(h2 _ (h.lt q hq).2).1⟩
 · rw[List.pairwise_map];exact h.col
 · rw[List.pairwise_map];refine List.Pairwise.imp_of_mem ?_ h.row;intro a b ha hb d e
   apply d
   have:=congrArg σ e;rw[(h2 _ (h.lt a ha).2).2,(h2 _ (h.lt b hb).2).2] at this;exact this
 · obtain⟨q,hq,rfl⟩:=a2v.1 hp
   show R (σ i) q.1=dl i (τ q.2)
   rw[h.unit q hq (σ i) (h1 i hi).1]
   by_cases e:σ i=q.2
   · rw[e,H7,←e,(h1 i hi).2,H7]
   · rw[K8 e,K8];intro e2
     apply e
     rw[e2,(h2 _ (h.lt q hq).2).2]
 · refine h.zero j hj (fun p hp=>k1 (p.1,τ p.2) (a2v.2 ⟨p,hp,rfl⟩)) (σ i) (h1 i hi).1 fun p hp f e=>k2 (p.1,τ p.2) (a2v.2 ⟨p,hp,rfl⟩) f ?_
   show τ p.2=i
   rw[e,(h1 i hi).2]
theorem Red.rowInj {m c:Nat}{R:Nat→Nat→Rat}{ps:List (Nat × Nat)}(h:Red m c R ps){p q:Nat × Nat}(hp:p∈ps) (hq:q∈ps) (e:p.2=q.2):p=q:=by
 obtain⟨s,hs,rfl⟩:=a3j hp;obtain⟨t,ht,rfl⟩:=a3j hq
 rcases Nat.lt_trichotomy s t with hlt | he | hgt
 · exact absurd e (List.pairwise_iff_getElem.1 h.row s t hs ht hlt)
 · subst he;rfl
 · exact absurd e.symm (List.pairwise_iff_getElem.1 h.row t s ht hs hgt)
theorem Red.lead {m c:Nat}{R:Nat→Nat→Rat}{ps:List (Nat × Nat)}(h:Red m c R ps){p:Nat × Nat}(hp:p∈ps){j:Nat}(hj:j<p.1):R p.2 j=0:=by
 have d:=h.lt p hp
 by_cases hq:∃ q∈ps,q.1=j
 · obtain⟨q,hq,rfl⟩:=hq;rw[h.unit q hq p.2 d.2,K8];intro e;have:=h.rowInj hp hq e;subst this;omega
 · refine h.zero j (by omega) (fun q b e=>hq ⟨q,b,e⟩) p.2 d.2 fun q b f e=>?_;have:=h.rowInj b hp e;subst this;omega
theorem Red.unused {m c:Nat}{R:Nat→Nat→Rat}{ps:List (Nat × Nat)}(h:Red m c R ps){i:Nat}(hi:i<m) (hu:∀ p∈ps,p.2≠i){j:Nat}(hj:j<c):R i j=0:=by
 by_cases hq:∃ q∈ps,q.1=j
 · obtain⟨q,hq,rfl⟩:=hq;rw[h.unit q hq i hi,K8 fun e=>hu q hq e.symm]
 · exact h.zero j hj (fun q b e=>hq ⟨q,b,e⟩) i hi fun q b _=>hu q b
theorem Red.rank {m c:Nat}{R:Nat→Nat→Rat}{ps:List (Nat × Nat)}(h:Red m c R ps):HasRank m c R ps.length:=by
 have f:∀ s t,s<ps.length→t<ps.length→dl (ps.getD s (0,0)).2 (ps.getD t (0,0)).2=dl s t:=by
  intro s t hs ht;rw[a1l,a1l,a1m hs,a1m ht]
  simp only[Option.getD_some]
  by_cases e:s=t
  · subst e;rw[H7,H7]
  · rw[K8 e,K8];intro e2
    rcases a3h s t with hlt | hge
    · exact List.pairwise_iff_getElem.1 h.row s t hs ht hlt e2
    · exact List.pairwise_iff_getElem.1 h.row t s ht hs (by omega) e2.symm
 have b:∀ s,s<ps.length→ps.getD s (0,0)∈ps:=by
  intro s hs;rw[a1l,a1m hs];exact a1z hs
 refine⟨fun i t=>dl i (ps.getD t (0,0)).2,fun s i=>dl (ps.getD s (0,0)).2 i,fun t k=>R (ps.getD t (0,0)).2 k,fun k t=>dl k (ps.getD t (0,0)).1,fun i k hi hk=>?_,fun s t hs ht=>?_,fun s t hs ht=>?_⟩
 · by_cases hu:∃ p∈ps,p.2=i
   · obtain⟨p,hp,rfl⟩:=hu;obtain⟨t0,d,rfl⟩:=a3j hp;have e0:ps.getD t0 (0,0)=ps[t0]:=by rw[a1l,a1m d];rfl
     rw[←e0,j7 (g:=fun t=>dl t0 t*R (ps.getD t (0,0)).2 k) (fun t ht=>by show dl (ps.getD t0 (0,0)).2 (ps.getD t (0,0)).2*_=_;rw[f t0 t d ht])];exact (K6 (fun t=>R (ps.getD t (0,0)).2 k) d).symm
   · rw[h.unused hi (fun p hp e=>hu ⟨p,hp,e⟩) hk,B7];intro t ht
     show dl i (ps.getD t (0,0)).2*_=0
     rw[K8 fun e=>hu ⟨_,b t ht,e.symm⟩]
     grind
 · rw[K6 (fun i=>dl i (ps.getD t (0,0)).2) (h.lt _ (b s hs)).2];exact f s t hs ht
 · rw[M3 (fun k=>R (ps.getD s (0,0)).2 k) (h.lt _ (b t ht)).1,h.unit _ (b t ht) _ (h.lt _ (b s hs)).2];exact f s t hs ht
def R9:List (Nat × Nat)→(Nat→Rat)→Nat→Rat
 | [],_,_=>0
 | p::ps,f,k=>if p.1=k then f p.2 else R9 ps f k
theorem N3 {ps:List (Nat × Nat)}{f:Nat→Rat}{k:Nat}(h:∀ p∈ps,p.1≠k):R9 ps f k=0:=by
 induction ps with
 | nil=>rfl
 | cons p ps ih =>
  unfold R9;rw[if_neg (h p (by simp))];exact ih fun q hq=>h q (a2n _ hq)
theorem qY {ps:List (Nat × Nat)}{f:Nat→Rat}(hc:ps.Pairwise fun p q=>p.1<q.1){p:Nat × Nat}(hp:p∈ps):R9 ps f p.1=f p.2:=by
 induction ps with
 | nil=>simp at hp
 | cons q ps ih =>
  rw[List.pairwise_cons] at hc;unfold R9
  rcases a3i.1 hp with rfl | h1
  · rw[if_pos rfl]
  · rw[if_neg (by have:=hc.1 p h1;omega)];exact ih hc.2 h1
def pU:List (Nat × Nat)→(Nat × Nat→Rat)→Rat
 | [],_=>0
 | p::ps,f=>f p+pU ps f
theorem uU {ps:List (Nat × Nat)}{f g:Nat × Nat→Rat}(h:∀ p∈ps,f p=g p):pU ps f=pU ps g:=by
 induction ps with
 | nil=>rfl
 | cons p ps ih =>
  unfold pU;rw[h p (by simp),ih fun q hq=>h q (a2n _ hq)]
theorem sm_xval {n:Nat}{ps:List (Nat × Nat)}{f:Nat→Rat}(g:Nat→Rat) (hc:ps.Pairwise fun p q=>p.1<q.1) (hl:∀ p∈ps,p.1<n):sm n (fun k=>g k*R9 ps f k)=pU ps fun p=>g p.1*f p.2:=by
 induction ps with
 | nil=>exact B7 fun k _=>by unfold R9;grind
 | cons p ps ih =>
  rw[List.pairwise_cons] at hc;have h1:=ih hc.2 fun q hq=>hl q (a2n _ hq);unfold pU;rw[←h1];have h2:p.1<n:=hl p (by simp)
  rw[j7 (g:=fun k=>(g k*f p.2)*dl k p.1+g k*R9 ps f k) (fun k hk=>by
   rw[show R9 (p::ps) f k=if p.1=k then f p.2 else R9 ps f k from rfl]
   by_cases e:p.1=k
   · subst e;rw[if_pos rfl,H7,N3 fun q hq=>by have:=hc.1 q hq;omega]
     grind
   · rw[if_neg e,K8 fun e2=>e e2.symm]
     grind),bK,M3 (fun k=>g k*f p.2) h2]
theorem zN {ps:List (Nat × Nat)}{i:Nat}{f:Nat→Rat}(hr:ps.Pairwise fun p q=>p.2≠q.2):pU ps (fun p=>dl i p.2*f p.2)=if ∃ p∈ps,p.2=i then f i else 0:=by
 induction ps with
 | nil=>simp[pU]
 | cons p ps ih =>
  rw[List.pairwise_cons] at hr
  show dl i p.2*f p.2+pU ps (fun p=>dl i p.2*f p.2)=_
  rw[ih hr.2]
  by_cases e:p.2=i
  · subst e;rw[H7,if_neg (by rintro ⟨q,hq,e⟩;exact hr.1 q hq e.symm),if_pos ⟨p,by simp,rfl⟩]
    grind
  · rw[K8 fun e2=>e e2.symm]
    by_cases h2:∃ q∈ps,q.2=i
    · obtain⟨q,hq,e3⟩:=h2;rw[if_pos ⟨q,hq,e3⟩,if_pos ⟨q,a2n _ hq,e3⟩]
      grind
    · rw[if_neg h2,if_neg]
      · grind
      · rintro ⟨q,hq,e3⟩
        rcases a3i.1 hq with rfl | h4
        · exact e e3
        · exact h2 ⟨q,h4,e3⟩
theorem Red.apply {m c:Nat}{R:Nat→Nat→Rat}{ps:List (Nat × Nat)}(h:Red m c R ps){n:Nat}(hn:c≤n) (f:Nat→Rat){i:Nat}(hi:i<m):sm n (fun k=>R i k*R9 ps f k)=if ∃ p∈ps,p.2=i then f i else 0:=by
 rw[sm_xval (R i) h.col fun p hp=>by have:=(h.lt p hp).1;omega,uU (g:=fun p=>dl i p.2*f p.2) fun p hp=>by rw[h.unit p hp i hi]];exact zN h.row
theorem Red.solves {m n:Nat}{R:Nat→Nat→Rat}{ps:List (Nat × Nat)}(h:Red m n R ps) (hc:∀ i,i<m→(∀ p∈ps,p.2≠i)→R i n=0):∀ i,i<m→sm n (fun k=>R i k*R9 ps (fun i=>R i n) k)=R i n:=by
 intro i hi;rw[h.apply (a1u n) _ hi]
 by_cases hu:∃ p∈ps,p.2=i
 · rw[if_pos hu]
 · rw[if_neg hu,hc i hi fun p hp e=>hu ⟨p,hp,e⟩]
theorem Red.consistent {m n:Nat}{R:Nat→Nat→Rat}{ps:List (Nat × Nat)}{b:Nat→Rat}(h:Red m n R ps){x:Nat→Rat}(hx:∀ i,i<m→sm n (fun k=>R i k*x k)=b i):∀ i,i<m→(∀ p∈ps,p.2≠i)→b i=0:=by
 intro i hi hu;rw[←hx i hi];exact B7 fun k hk=>by rw[h.unused hi hu hk];grind
theorem Red.unique {m n:Nat}{R:Nat→Nat→Rat}{ps:List (Nat × Nat)}(h:Red m n R ps){x y:Nat→Rat}(hx:∀ i,i<m→sm n (fun k=>R i k*x k)=sm n (fun k=>R i k*y k)) (hf:∀ k,k<n→(∀ p∈ps,p.1≠k)→x k=y k):∀ k,k<n→x k=y k:=by
 intro k hk
 by_cases hp:∃ p∈ps,p.1=k
 · obtain⟨p,hp,rfl⟩:=hp;have h1:=hx p.2 (h.lt p hp).2
   have h2:sm n (fun k=>R p.2 k*(x k-y k))=0:=by
    rw[j7 (g:=fun k=>R p.2 k*x k-R p.2 k*y k) (fun k _=>by grind),Z3,h1];grind
   have h3:sm n (fun k=>R p.2 k*(x k-y k))=x p.1-y p.1:=by
    rw[j7 (g:=fun k=>dl p.1 k*(x k-y k)) (fun k hk=>?_),K6 (fun k=>x k-y k) hk]
    by_cases hq:∃ q∈ps,q.1=k
    · obtain⟨q,hq,rfl⟩:=hq;rw[h.unit q hq p.2 (h.lt p hp).2]
      by_cases e:p.2=q.2
      · have:=h.rowInj hp hq e;subst this;rw[H7,H7]
      · rw[K8 e,K8];intro e2
        apply e
        have h5:p=q:=by
         obtain⟨s,hs,rfl⟩:=a3j hp;obtain⟨t,ht,rfl⟩:=a3j hq
         rcases Nat.lt_trichotomy s t with hlt | he | hgt
         · have:=List.pairwise_iff_getElem.1 h.col s t hs ht hlt;omega
         · subst he;rfl
         · have:=List.pairwise_iff_getElem.1 h.col t s ht hs hgt;omega
        rw[h5]
    · rw[hf k hk fun q b e=>hq ⟨q,b,e⟩]
      grind
   rw[h3] at h2
   grind
 · exact hf k hk fun q hq e=>hp ⟨q,hq,e⟩
def aM (ps:List (Nat × Nat)) (R:Nat→Nat→Rat) (f:Nat):Nat→Rat:=fun k=>dl k f-R9 ps (fun i=>R i f) k
theorem Red.free {m n:Nat}{R:Nat→Nat→Rat}{ps:List (Nat × Nat)}(h:Red m n R ps){f:Nat}(hf:f<n) (hn:∀ p∈ps,p.1≠f):∀ i,i<m→sm n (fun k=>R i k*aM ps R f k)=0:=by
 intro i hi;rw[j7 (g:=fun k=>R i k*dl k f-R i k*R9 ps (fun i=>R i f) k) (fun k _=>by unfold aM;grind),Z3,M3 (R i) hf,h.apply (a1u n) _ hi]
 by_cases hu:∃ p∈ps,p.2=i
 · rw[if_pos hu];grind
 · rw[if_neg hu,h.unused hi (fun p hp e=>hu ⟨p,hp,e⟩) hf];grind
theorem Red.freeCol_self {m n:Nat}{R:Nat→Nat→Rat}{ps:List (Nat × Nat)}{f:Nat}(hn:∀ p∈ps,p.1≠f):aM ps R f f=1:=by
 unfold aM;rw[H7,N3 hn];grind
theorem Red.freeCol_gt {m n:Nat}{R:Nat→Nat→Rat}{ps:List (Nat × Nat)}(h:Red m n R ps){f k:Nat}(hk:f<k):aM ps R f k=0:=by
 unfold aM;rw[K8 (by omega)]
 by_cases hp:∃ p∈ps,p.1=k
 · obtain⟨p,hp,rfl⟩:=hp;rw[qY h.col hp,h.lead hp hk];grind
 · rw[N3 fun p b e=>hp ⟨p,b,e⟩];grind
theorem Red.pivot_iff {m n:Nat}{R:Nat→Nat→Rat}{ps:List (Nat × Nat)}(h:Red m n R ps){k:Nat}(hk:k<n):(∃ p∈ps,p.1=k) ↔ ¬ ∃ z:Nat→Rat,(∀ i,i<m→sm n (fun j=>R i j*z j)=0)∧z k=1∧∀ j,k<j→z j=0:=by
 constructor
 · rintro ⟨p,hp,rfl⟩ ⟨z,h1,h2,h3⟩;have h4:=h1 p.2 (h.lt p hp).2
   rw[j7 (g:=fun j=>dl p.1 j*(R p.2 p.1*z p.1)) (fun j hj=>by
    rcases Nat.lt_trichotomy j p.1 with hlt | he | hgt
    · rw[h.lead hp hlt,K8 (by omega)];grind
    · subst he;rw[H7];grind
    · rw[h3 j hgt,K8 (by omega)];grind),K6 (fun _=>R p.2 p.1*z p.1) hk,h.unit p hp p.2 (h.lt p hp).2,H7,h2] at h4
   exact absurd h4 (by decide +kernel)
 · intro hz;refine Classical.byContradiction fun hp=>hz ?_;have hn:∀ p∈ps,p.1≠k:=fun p b e=>hp ⟨p,b,e⟩;exact⟨aM ps R k,h.free hk hn,Red.freeCol_self (m:=m) (n:=n) hn,fun j hj=>h.freeCol_gt hj⟩
theorem yW {l l':List Nat}(h:l.Pairwise (· < ·)) (h':l'.Pairwise (· < ·)) (e:∀ x,x∈l ↔ x∈l'):l=l':=by
 induction l generalizing l' with
 | nil =>
  cases l' with
  | nil=>rfl
  | cons b t=>exact absurd ((e b).2 (by simp)) (by simp)
 | cons a s ih =>
  cases l' with
  | nil=>exact absurd ((e a).1 (by simp)) (by simp)
  | cons b t =>
   rw[List.pairwise_cons] at h h'
   have c:a=b:=by
    have h1:=(e a).1 (by simp);have h2:=(e b).2 (by simp)
    rcases a3i.1 h1 with h3 | h3
    · exact h3
    · rcases a3i.1 h2 with h4 | h4
      · exact h4.symm
      · have:=h'.1 a h3;have:=h.1 b h4;omega
   subst c
   congr 1
   refine ih h.2 h'.2 fun x=>⟨fun hx=>?_,fun hx=>?_⟩
   · rcases a3i.1 ((e x).1 (a2n _ hx)) with h3 | h3
     · subst h3;have:=h.1 x hx;omega
     · exact h3
   · rcases a3i.1 ((e x).2 (a2n _ hx)) with h3 | h3
     · subst h3;have:=h'.1 x hx;omega
     · exact h3
theorem Red.cols_eq {m n:Nat}{R R':Nat→Nat→Rat}{ps ps':List (Nat × Nat)}(h:Red m n R ps) (h':Red m n R' ps') (e:RowEq m n R R'):ps.map Prod.fst=ps'.map Prod.fst:=by
 refine yW (by rw[List.pairwise_map];exact h.col) (by rw[List.pairwise_map];exact h'.col) fun x=>?_
 have b:∀ x,x<n→((∃ p∈ps,p.1=x) ↔ ∃ p∈ps',p.1=x):=fun x hx=>by
  rw[h.pivot_iff hx,h'.pivot_iff hx]
  constructor
  · rintro h1 ⟨z,h2,h3⟩;exact h1 ⟨z,e.symm.ker h2,h3⟩
  · rintro h1 ⟨z,h2,h3⟩;exact h1 ⟨z,e.ker h2,h3⟩
 simp only[a2v]
 constructor
 · intro hx;have hl:x<n:=by obtain⟨p,hp,rfl⟩:=hx;exact (h.lt p hp).1
   exact (b x hl).1 hx
 · intro hx;have hl:x<n:=by obtain⟨p,hp,rfl⟩:=hx;exact (h'.lt p hp).1
   exact (b x hl).2 hx
theorem W0 (m:Nat) (f:Nat→Rat):sm (m+1) f=f 0+sm m (fun i=>f (i+1)):=by
 induction m with
 | zero=>show (0:Rat)+f 0=f 0+0;grind
 | succ m ih=>show sm (m+1) f+f (m+1)=f 0+(sm m (fun i=>f (i+1))+f (m+1));rw[ih];grind
theorem HasRank.zeroRow {m n r:Nat}{M:Nat→Nat→Rat}(h:HasRank m n (fun i k=>M (i+1) k) r) (hz:∀ k,k<n→M 0 k=0):HasRank (m+1) n M r:=by
 obtain⟨A,A',B,B',a1,a2,a3⟩:=h;refine⟨fun i t=>match i with | 0=>0 | i+1=>A i t,fun s i=>match i with | 0=>0 | i+1=>A' s i,B,B',fun i k hi hk=>?_,fun s t hs ht=>?_,a3⟩
 · cases i with
   | zero=>rw[hz k hk,B7 fun t _=>by show (0:Rat)*_=0;grind]
   | succ i=>exact a1 i k (by omega) hk
 · rw[W0]
   show (0:Rat)*0+sm m (fun i=>A' s i*A i t)=_
   rw[a2 s t hs ht];grind
theorem HasRank.cons {m n r c:Nat}{M:Nat→Nat→Rat}(h:HasRank m n (fun i k=>M (i+1) k) r) (hc:c<n) (h1:M 0 c=1) (h0:∀ i,i<m→M (i+1) c=0):HasRank (m+1) n M (r+1):=by
 obtain⟨A,A',B,B',a1,a2,a3⟩:=h
 have hB:∀ s,s<r→B s c=0:=by
  intro s hs;have e1:sm m (fun i=>A' s i*sm r (fun t=>A i t*B t c))=0:=B7 fun i hi=>by rw[←a1 i c hi hc];show A' s i*M (i+1) c=0;rw[h0 i hi];grind
  rw[F3,j7 (g:=fun t=>dl s t*B t c) (fun t ht=>by rw[a2 s t hs ht]),K6 (fun t=>B t c) hs] at e1;exact e1
 let A1:Nat→Nat→Rat:=fun i t=>match i with | 0=>dl t r | i+1=>if t<r then A i t else 0
 let A2:Nat→Nat→Rat:=fun s i=>match i with | 0=>dl s r | i+1=>if s<r then A' s i else 0
 let B1:Nat→Nat→Rat:=fun t k=>if t<r then B t k else M 0 k
 let B2:Nat→Nat→Rat:=fun k t=>if t<r then B' k t-dl k c*sm n (fun j=>M 0 j*B' j t) else dl k c
 refine⟨A1,A2,B1,B2,fun i k hi hk=>?_,fun s t hs ht=>?_,fun s t hs ht=>?_⟩
 · cases i with
   | zero =>
    show M 0 k=sm (r+1) (fun t=>dl t r*B1 t k)
    rw[j7 (g:=fun t=>B1 t k*dl t r) (fun t _=>by grind),M3 (fun t=>B1 t k) (by omega)]
    show M 0 k=if r<r then B r k else M 0 k
    rw[if_neg (by omega)]
   | succ i =>
    show M (i+1) k=sm r (fun t=>(if t<r then A i t else 0)*(if t<r then B t k else M 0 k))+(if r<r then A i r else 0)*(if r<r then B r k else M 0 k)
    rw[j7 (g:=fun t=>A i t*B t k) (fun t ht=>by rw[if_pos ht,if_pos ht]),if_neg (by omega),if_neg (by omega),←a1 i k (by omega) hk]
    grind
 · rw[W0]
   show dl s r*dl t r+sm m (fun i=>(if s<r then A' s i else 0)*(if t<r then A i t else 0))=dl s t
   by_cases h2:s<r
   · by_cases h3:t<r
     · simp only[if_pos h2,if_pos h3]
       rw[a2 s t h2 h3,K8 (show s≠r by omega)];grind
     · simp only[if_neg h3]
       rw[B7 fun i _=>by grind,K8 (show s≠r by omega),K8 (show s≠t by omega)];grind
   · have b:s=r:=by omega
     subst b
     simp only[if_neg h2]
     rw[B7 fun i _=>by grind,H7,qM s t];grind
 · by_cases h2:s<r
   · have e1:∀ k,B1 s k=B s k:=fun k=>if_pos h2
     by_cases h3:t<r
     · have e2:∀ k,B2 k t=B' k t-dl k c*sm n (fun j=>M 0 j*B' j t):=fun k=>if_pos h3;rw[j7 (g:=fun k=>B s k*B' k t-(B s k*sm n (fun j=>M 0 j*B' j t))*dl k c) (fun k _=>by rw[e1,e2];grind),Z3,a3 s t h2 h3,M3 (fun k=>B s k*sm n (fun j=>M 0 j*B' j t)) hc,hB s h2]
       grind
     · have e2:∀ k,B2 k t=dl k c:=fun k=>if_neg h3;rw[j7 (g:=fun k=>B s k*dl k c) (fun k _=>by rw[e1,e2]),M3 (B s) hc,hB s h2,K8 (by omega)]
   · have e1:∀ k,B1 s k=M 0 k:=fun k=>if_neg h2
     by_cases h3:t<r
     · have e2:∀ k,B2 k t=B' k t-dl k c*sm n (fun j=>M 0 j*B' j t):=fun k=>if_pos h3;rw[j7 (g:=fun k=>M 0 k*B' k t-(M 0 k*sm n (fun j=>M 0 j*B' j t))*dl k c) (fun k _=>by rw[e1,e2];grind),Z3,M3 (fun k=>M 0 k*sm n (fun j=>M 0 j*B' j t)) hc,h1,K8 (by omega)]
       grind
     · have e2:∀ k,B2 k t=dl k c:=fun k=>if_neg h3;rw[j7 (g:=fun k=>M 0 k*dl k c) (fun k _=>by rw[e1,e2]),M3 (M 0) hc,h1,show s=t by omega,H7]
theorem HasRank.none {n:Nat}{M:Nat→Nat→Rat}:HasRank 0 n M 0:=⟨fun _ _=>0,fun _ _=>0,fun _ _=>0,fun _ _=>0,fun i k hi=>by omega,fun s t hs=>by omega,fun s t hs=>by omega⟩
theorem Red.count_succ {m c k:Nat}{R:Nat→Nat→Rat}{ps:List (Nat × Nat)}(h:Red m c R ps):(ps.filter fun p=>decide (p.1<k+1)).length=(ps.filter fun p=>decide (p.1<k)).length+if ∃ p∈ps,p.1=k then 1 else 0:=by
 have hc:=h.col;clear h
 induction ps with
 | nil=>simp
 | cons p ps ih =>
  rw[List.pairwise_cons] at hc;have h1:=ih hc.2;rw[List.filter_cons,List.filter_cons]
  rcases Nat.lt_trichotomy p.1 k with hlt | he | hgt
  · rw[if_pos (by simp;omega),if_pos (by simpa using hlt),a3r,a3r,h1]
    have e:(∃ q∈p::ps,q.1=k) ↔ ∃ q∈ps,q.1=k:=by
     constructor
     · rintro ⟨q,hq,rfl⟩
       rcases a3i.1 hq with rfl | h2
       · omega
       · exact⟨q,h2,rfl⟩
     · rintro ⟨q,hq,rfl⟩;exact⟨q,a2n _ hq,rfl⟩
    simp only[e]
    omega
  · subst he;have h2:∀ q∈ps,¬ q.1<p.1+1:=fun q hq=>by have:=hc.1 q hq;omega
    have e1:(ps.filter fun q=>decide (q.1<p.1+1))=[]:=List.filter_eq_nil_iff.2 fun q hq=>by simpa using h2 q hq
    have e2:(ps.filter fun q=>decide (q.1<p.1))=[]:=List.filter_eq_nil_iff.2 fun q hq=>by have:=h2 q hq;simp;omega
    rw[if_pos (by simp),if_neg (by simp),e1,e2,if_pos ⟨p,by simp,rfl⟩]
    rfl
  · have h2:∀ q∈ps,¬ q.1<k+1:=fun q hq=>by have:=hc.1 q hq;omega
    have e1:(ps.filter fun q=>decide (q.1<k+1))=[]:=List.filter_eq_nil_iff.2 fun q hq=>by simpa using h2 q hq
    have e2:(ps.filter fun q=>decide (q.1<k))=[]:=List.filter_eq_nil_iff.2 fun q hq=>by have:=h2 q hq;simp;omega
    have e3:¬ ∃ q∈p::ps,q.1=k:=by
     rintro ⟨q,hq,rfl⟩
     rcases a3i.1 hq with rfl | h3
     · omega
     · exact h2 q h3 (by omega)
    rw[if_neg (by simp;omega),if_neg (by simp;omega),e1,e2,if_neg e3]
    rfl
end Go.Proofs.YtjhkapjadfpimaaGreat.Plain
