/- Contracts of functions, for the law. -/
import Derived.Test.YtjhkapjadfpimaaPLp
namespace Go.Proofs.Ytjhkapjadfpimaa.Plain
set_option linter.unusedVariables false
set_option linter.unusedSimpArgs false
def dl (i j:Nat):Rat:=if i=j then 1 else 0
theorem dl_self (i:Nat):dl i i=1:=by simp[dl]
theorem dl_ne {i j:Nat}(h:i≠j):dl i j=0:=by simp[dl,h]
theorem dl_comm (i j:Nat):dl i j=dl j i:=by
 unfold dl
 by_cases h:i=j
 · rw[if_pos h,if_pos h.symm]
 · rw[if_neg h,if_neg fun e=>h e.symm]
theorem sm_zeroOf {n:Nat}{f:Nat→Rat}(h:∀ k,k<n→f k=0):sm n f=0:=by
 rw[sm_congr (g:=fun _=>0) h];exact sm_zero n
theorem sm_dl {n t:Nat}(f:Nat→Rat) (ht:t<n):sm n (fun k=>dl t k*f k)=f t:=by
 induction n with
 | zero=>omega
 | succ n ih =>
  show sm n (fun k=>dl t k*f k)+dl t n*f n=f t
  by_cases h:t=n
  · subst h;rw[dl_self,sm_zeroOf fun k hk=>by rw[dl_ne (by omega)];grind]
    grind
  · rw[ih (by omega),dl_ne h];grind
theorem sm_dl' {n t:Nat}(f:Nat→Rat) (ht:t<n):sm n (fun k=>f k*dl k t)=f t:=by
 rw[sm_congr (g:=fun k=>dl t k*f k) (fun k _=>by rw[dl_comm k t];grind)];exact sm_dl f ht
theorem sm_two {n i p:Nat}(x y:Rat) (g:Nat→Rat) (hi:i<n) (hp:p<n):sm n (fun t=>(x*dl i t+y*dl p t)*g t)=x*g i+y*g p:=by
 rw[sm_congr (g:=fun t=>x*(dl i t*g t)+y*(dl p t*g t)) (fun t _=>by grind),sm_add,sm_mul,sm_mul,sm_dl g hi,sm_dl g hp]
theorem sm_sub (n:Nat) (f g:Nat→Rat):sm n (fun k=>f k-g k)=sm n f-sm n g:=by
 rw[sm_congr (g:=fun k=>f k+(-1)*g k) (fun k _=>by grind),sm_add,sm_mul];grind
theorem sm_assoc (a b:Nat) (x:Nat→Rat) (Y:Nat→Nat→Rat) (z:Nat→Rat):sm a (fun s=>x s*sm b (fun t=>Y s t*z t))=sm b (fun t=>sm a (fun s=>x s*Y s t)*z t):=by
 rw[sm_congr (g:=fun s=>sm b (fun t=>x s*(Y s t*z t))) (fun s _=>(sm_mul b _ _).symm)];rw[←sm_swap];refine sm_congr fun t _=>?_;rw[←sm_mulr];exact sm_congr fun s _=>by grind
theorem ker_exists:∀ (s r:Nat) (Y:Nat→Nat→Rat),s<r→∃ v:Nat→Rat,(∃ k,k<r∧v k≠0)∧∀ i,i<s→sm r (fun k=>Y i k*v k)=0:=by
 intro s
 induction s with
 | zero=>exact fun r Y h=>⟨dl 0,⟨0,h,by rw[dl_self];decide⟩,fun i hi=>by omega⟩
 | succ s ih =>
  intro r Y h;obtain⟨r,rfl⟩:∃ q,r=q+1:=⟨r-1,by omega⟩
  by_cases hz:∀ i,i<s+1→Y i r=0
  · refine⟨dl r,⟨r,by omega,by rw[dl_self];decide⟩,fun i hi=>?_⟩;rw[sm_congr (g:=fun k=>Y i k*dl k r) (fun k _=>by rw[dl_comm r k]),sm_dl' (Y i) (by omega)];exact hz i hi
  · obtain⟨i0,hi0,hp⟩:∃ i,i<s+1∧Y i r≠0:=by
     refine Classical.byContradiction fun hc=>hz fun i hi=>Classical.byContradiction fun hy=>hc ⟨i,hi,hy⟩
    let σ:Nat→Nat:=fun j=>if j=i0 then s else j
    obtain⟨v,⟨k,hk,hvk⟩,hv⟩:=ih r (fun j k=>Y (σ j) k-Y (σ j) r / Y i0 r*Y i0 k) (by omega);refine⟨fun k=>if k<r then v k else -(sm r (fun k=>Y i0 k*v k)) / Y i0 r,⟨k,by omega,by simpa [hk] using hvk⟩,fun i hi=>?_⟩
    have e:∀ i,sm (r+1) (fun k=>Y i k*if k<r then v k else -(sm r (fun k=>Y i0 k*v k)) / Y i0 r)=sm r (fun k=>Y i k*v k)+Y i r*(-(sm r (fun k=>Y i0 k*v k)) / Y i0 r):=by
     intro i
     show sm r _+_=_
     rw[sm_congr (g:=fun k=>Y i k*v k) (fun k hk=>by simp[hk])]
     simp
    rw[e]
    by_cases hii:i=i0
    · subst hii
      generalize sm r (fun k=>Y i k*v k)=S
      grind
    · have hj:∃ j,j<s∧σ j=i:=by
       by_cases his:i=s
       · refine⟨i0,by omega,?_⟩
         show (if i0=i0 then s else i0)=i
         rw[if_pos rfl];exact his.symm
       · refine⟨i,by omega,?_⟩
         show (if i=i0 then s else i)=i
         rw[if_neg hii]
      obtain⟨j,hj,hσ⟩:=hj;have h1:=hv j hj;rw[hσ] at h1;rw[sm_congr (g:=fun k=>Y i k*v k-Y i r / Y i0 r*(Y i0 k*v k)) (fun k _=>by grind),sm_sub,sm_mul] at h1
      generalize sm r (fun k=>Y i0 k*v k)=S at *
      generalize sm r (fun k=>Y i k*v k)=T at *
      grind
theorem dim_le {r s:Nat}{X Y:Nat→Nat→Rat}(h:∀ t u,t<r→u<r→sm s (fun i=>X t i*Y i u)=dl t u):r≤s:=by
 refine Classical.byContradiction fun hc=>?_;obtain⟨v,⟨k,hk,hvk⟩,hv⟩:=ker_exists s r Y (by omega)
 apply hvk
 have h1:sm r (fun u=>sm s (fun i=>X k i*Y i u)*v u)=v k:=by
  rw[sm_congr (g:=fun u=>dl k u*v u) (fun u hu=>by rw[h k u hk hu])];exact sm_dl v hk
 rw[←h1,←sm_assoc];exact sm_zeroOf fun i hi=>by rw[hv i hi];grind
def HasRank (m n:Nat) (M:Nat→Nat→Rat) (r:Nat):Prop :=
 ∃ A A' B B':Nat→Nat→Rat,(∀ i k,i<m→k<n→M i k=sm r (fun t=>A i t*B t k))∧(∀ s t,s<r→t<r→sm m (fun i=>A' s i*A i t)=dl s t)∧(∀ s t,s<r→t<r→sm n (fun k=>B s k*B' k t)=dl s t)
theorem HasRank.le {m n:Nat}{M:Nat→Nat→Rat}{r s:Nat}(h1:HasRank m n M r) (h2:HasRank m n M s):r≤s:=by
 obtain⟨A,A',B,B',a1,a2,a3⟩:=h1;obtain⟨C,C',D,D',c1,c2,c3⟩:=h2;refine dim_le (s:=s) (X:=fun t u=>sm m (fun i=>A' t i*C i u)) (Y:=fun u t=>sm n (fun k=>D u k*B' k t)) fun t u ht hu=>?_
 have e1:sm s (fun j=>sm m (fun i=>A' t i*C i j)*sm n (fun k=>D j k*B' k u))=sm m (fun i=>A' t i*sm n (fun k=>M i k*B' k u)):=by
  rw[←sm_assoc];refine sm_congr fun i hi=>?_;rw[sm_assoc]
  congr 1
  exact sm_congr fun k hk=>by rw[←c1 i k hi hk]
 rw[e1]
 have e2:∀ i,i<m→sm n (fun k=>M i k*B' k u)=A i u:=by
  intro i hi;rw[sm_congr (g:=fun k=>sm r (fun q=>A i q*B q k)*B' k u) (fun k hk=>by rw[a1 i k hi hk]),←sm_assoc];rw[sm_congr (g:=fun q=>A i q*dl q u) (fun q hq=>by rw[a3 q u hq hu])];exact sm_dl' _ hu
 rw[sm_congr (g:=fun i=>A' t i*A i u) (fun i hi=>by rw[e2 i hi])];exact a2 t u ht hu
theorem HasRank.unique {m n:Nat}{M:Nat→Nat→Rat}{r s:Nat}(h1:HasRank m n M r) (h2:HasRank m n M s):r=s:=Nat.le_antisymm (h1.le h2) (h2.le h1)
theorem HasRank.congr {m n:Nat}{M M':Nat→Nat→Rat}{r:Nat}(h:HasRank m n M r) (e:∀ i k,i<m→k<n→M' i k=M i k):HasRank m n M' r:=by
 obtain⟨A,A',B,B',a1,a2,a3⟩:=h;exact⟨A,A',B,B',fun i k hi hk=>by rw[e i k hi hk,a1 i k hi hk],a2,a3⟩
def RowEq (m n:Nat) (M M':Nat→Nat→Rat):Prop :=
 ∃ E F:Nat→Nat→Rat,(∀ i j,i<m→j<m→sm m (fun t=>E i t*F t j)=dl i j)∧(∀ i j,i<m→j<m→sm m (fun t=>F i t*E t j)=dl i j)∧∀ i k,i<m→k<n→M' i k=sm m (fun t=>E i t*M t k)
theorem RowEq.refl (m n:Nat) (M:Nat→Nat→Rat):RowEq m n M M :=
 ⟨dl,dl,fun i j hi hj=>sm_dl (fun t=>dl t j) hi,fun i j hi hj=>sm_dl (fun t=>dl t j) hi,fun i k hi hk=>(sm_dl (fun t=>M t k) hi).symm⟩
theorem RowEq.congr {m n:Nat}{M M' M'':Nat→Nat→Rat}(h:RowEq m n M M') (e:∀ i k,i<m→k<n→M'' i k=M' i k):RowEq m n M M'':=by
 obtain⟨E,F,h1,h2,h3⟩:=h;exact⟨E,F,h1,h2,fun i k hi hk=>by rw[e i k hi hk,h3 i k hi hk]⟩
theorem RowEq.symm {m n:Nat}{M M':Nat→Nat→Rat}(h:RowEq m n M M'):RowEq m n M' M:=by
 obtain⟨E,F,h1,h2,h3⟩:=h;refine⟨F,E,h2,h1,fun i k hi hk=>?_⟩;rw[sm_congr (g:=fun t=>F i t*sm m (fun u=>E t u*M u k)) (fun t ht=>by rw[h3 t k ht hk]),sm_assoc];rw[sm_congr (g:=fun u=>dl i u*M u k) (fun u hu=>by rw[h2 i u hi hu])];exact (sm_dl (fun u=>M u k) hi).symm
theorem RowEq.trans {m n:Nat}{M M' M'':Nat→Nat→Rat}(h:RowEq m n M M') (g:RowEq m n M' M''):RowEq m n M M'':=by
 obtain⟨E,F,h1,h2,h3⟩:=h;obtain⟨G,H,g1,g2,g3⟩:=g;refine⟨fun i j=>sm m (fun t=>G i t*E t j),fun i j=>sm m (fun t=>F i t*H t j),fun i j hi hj=>?_,fun i j hi hj=>?_,fun i k hi hk=>?_⟩
 · rw[←sm_assoc]
   rw[sm_congr (g:=fun t=>G i t*H t j) (fun t ht=>by
    rw[sm_assoc,sm_congr (g:=fun u=>dl t u*H u j) (fun u hu=>by rw[h1 t u ht hu]),sm_dl (fun u=>H u j) ht])]
   exact g1 i j hi hj
 · rw[←sm_assoc]
   rw[sm_congr (g:=fun t=>F i t*E t j) (fun t ht=>by
    rw[sm_assoc,sm_congr (g:=fun u=>dl t u*E u j) (fun u hu=>by rw[g2 t u ht hu]),sm_dl (fun u=>E u j) ht])]
   exact h2 i j hi hj
 · rw[g3 i k hi hk,←sm_assoc];exact sm_congr fun t ht=>by rw[h3 t k ht hk]
theorem RowEq.rank {m n:Nat}{M M':Nat→Nat→Rat}{r:Nat}(h:RowEq m n M M') (g:HasRank m n M r):HasRank m n M' r:=by
 obtain⟨E,F,h1,h2,h3⟩:=h;obtain⟨A,A',B,B',a1,a2,a3⟩:=g;refine⟨fun i t=>sm m (fun j=>E i j*A j t),fun s i=>sm m (fun j=>A' s j*F j i),B,B',fun i k hi hk=>?_,fun s t hs ht=>?_,a3⟩
 · rw[h3 i k hi hk,←sm_assoc];exact sm_congr fun j hj=>by rw[a1 j k hj hk]
 · rw[←sm_assoc]
   rw[sm_congr (g:=fun j=>A' s j*A j t) (fun j hj=>by
    rw[sm_assoc,sm_congr (g:=fun u=>dl j u*A u t) (fun u hu=>by rw[h2 j u hj hu]),sm_dl (fun u=>A u t) hj])]
   exact a2 s t hs ht
theorem RowEq.ker {m n:Nat}{M M':Nat→Nat→Rat}{x:Nat→Rat}(h:RowEq m n M M') (hx:∀ i,i<m→sm n (fun k=>M i k*x k)=0):∀ i,i<m→sm n (fun k=>M' i k*x k)=0:=by
 obtain⟨E,F,h1,h2,h3⟩:=h;intro i hi;rw[sm_congr (g:=fun k=>sm m (fun t=>E i t*M t k)*x k) (fun k hk=>by rw[h3 i k hi hk]),←sm_assoc];exact sm_zeroOf fun t ht=>by rw[hx t ht];grind
def piv (M:Nat→Nat→Rat) (p c:Nat):Nat→Nat→Rat:=fun i k=>if i=p then M p k / M p c else M i k-M i c*(M p k / M p c)
theorem RowEq.piv {m n p c:Nat}{M:Nat→Nat→Rat}(hp:p<m) (ha:M p c≠0):RowEq m n M (piv M p c):=by
 refine⟨fun i t=>(if i=p then 1 / M p c else 1)*dl i t+(if i=p then 0 else -(M i c / M p c))*dl p t,fun i t=>(if i=p then M p c else 1)*dl i t+(if i=p then 0 else M i c)*dl p t,fun i j hi hj=>?_,fun i j hi hj=>?_,fun i k hi hk=>?_⟩
 · rw[sm_two _ _ _ hi hp]
   by_cases h:i=p
   · subst h;simp only[if_true];grind
   · simp only[if_neg h,if_true];grind
 · rw[sm_two _ _ _ hi hp]
   by_cases h:i=p
   · subst h;simp only[if_true];grind
   · simp only[if_neg h,if_true];grind
 · rw[sm_two _ _ _ hi hp]
   unfold Plain.piv
   by_cases h:i=p
   · subst h;simp only[if_true];grind
   · simp only[if_neg h];grind
theorem RowEq.perm {m n:Nat}{M:Nat→Nat→Rat}{σ τ:Nat→Nat}(h1:∀ i,i<m→σ i<m∧τ (σ i)=i) (h2:∀ i,i<m→τ i<m∧σ (τ i)=i):RowEq m n M (fun i k=>M (σ i) k):=by
 refine⟨fun i t=>dl (σ i) t,fun i t=>dl (τ i) t,fun i j hi hj=>?_,fun i j hi hj=>?_,fun i k hi hk=>(sm_dl (fun t=>M t k) (h1 i hi).1).symm⟩
 · rw[sm_dl (fun t=>dl (τ t) j) (h1 i hi).1,(h1 i hi).2]
 · rw[sm_dl (fun t=>dl (σ t) j) (h2 i hi).1,(h2 i hi).2]
structure Red (m c:Nat) (R:Nat→Nat→Rat) (ps:List (Nat × Nat)):Prop where
 lt:∀ p∈ps,p.1<c∧p.2<m
 col:ps.Pairwise fun p q=>p.1<q.1
 row:ps.Pairwise fun p q=>p.2≠q.2
 unit:∀ p∈ps,∀ i,i<m→R i p.1=dl i p.2
 zero:∀ j,j<c→(∀ p∈ps,p.1≠j)→∀ i,i<m→(∀ p∈ps,p.1<j→p.2≠i)→R i j=0
theorem Red.nil (m:Nat) (R:Nat→Nat→Rat):Red m 0 R []:=⟨by simp,.nil,.nil,by simp,fun j hj=>by omega⟩
theorem Red.congr {m c:Nat}{R R':Nat→Nat→Rat}{ps:List (Nat × Nat)}(h:Red m c R ps) (e:∀ i k,i<m→k<c→R' i k=R i k):Red m c R' ps :=
 ⟨h.lt,h.col,h.row,fun p hp i hi=>by rw[e i p.1 hi (h.lt p hp).1];exact h.unit p hp i hi,fun j hj h1 i hi h2=>by rw[e i j hi hj];exact h.zero j hj h1 i hi h2⟩
theorem Red.skip {m c:Nat}{R:Nat→Nat→Rat}{ps:List (Nat × Nat)}(h:Red m c R ps) (hz:∀ i,i<m→(∀ p∈ps,p.2≠i)→R i c=0):Red m (c+1) R ps :=
 ⟨fun p hp=>⟨by have:=(h.lt p hp).1;omega,(h.lt p hp).2⟩,h.col,h.row,h.unit,fun j hj h1 i hi h2=>by
  by_cases hc:j=c
  · subst hc;exact hz i hi fun p hp=>h2 p hp (h.lt p hp).1
  · exact h.zero j (by omega) h1 i hi h2⟩
theorem Red.step {m c p:Nat}{R:Nat→Nat→Rat}{ps:List (Nat × Nat)}(h:Red m c R ps) (hp:p<m) (hu:∀ q∈ps,q.2≠p) (ha:R p c≠0):Red m (c+1) (piv R p c) (ps++[(c,p)]):=by
 refine⟨fun q hq=>?_,?_,?_,fun q hq i hi=>?_,fun j hj h1 i hi h2=>?_⟩
 · rcases List.mem_append.1 hq with h1 | h1
   · exact⟨by have:=(h.lt q h1).1;omega,(h.lt q h1).2⟩
   · simp at h1;subst h1;exact⟨by show c<c+1;omega,hp⟩
 · rw[List.pairwise_append];exact⟨h.col,by simp,fun a ha' b hb=>by simp at hb;subst hb;exact (h.lt a ha').1⟩
 · rw[List.pairwise_append];exact⟨h.row,by simp,fun a ha' b hb=>by simp at hb;subst hb;exact hu a ha'⟩
 · unfold piv
   rcases List.mem_append.1 hq with h1 | h1
   · have e1:=h.unit q h1 p hp;rw[dl_ne fun e=>hu q h1 e.symm] at e1
     by_cases hip:i=p
     · subst hip;rw[if_pos rfl,e1,dl_ne fun e=>hu q h1 e.symm]
       grind
     · rw[if_neg hip,e1,h.unit q h1 i hi]
       grind
   · simp at h1;subst h1
     by_cases hip:i=p
     · subst hip
       simp only[if_true,dl_self]
       grind
     · simp only[if_neg hip,dl_ne hip]
       grind
 · have hjc:j≠c:=fun e=>h1 (c,p) (by simp) e.symm;have e1:R i j=0:=h.zero j (by omega) (fun q hq=>h1 q (List.mem_append_left _ hq)) i hi fun q hq=>h2 q (List.mem_append_left _ hq);have e2:R p j=0:=h.zero j (by omega) (fun q hq=>h1 q (List.mem_append_left _ hq)) p hp fun q hq _=>hu q hq;unfold piv
   by_cases hip:i=p
   · rw[if_pos hip,e2];grind
   · rw[if_neg hip,e1,e2];grind
theorem Red.mono {m c j:Nat}{R:Nat→Nat→Rat}{ps:List (Nat × Nat)}(h:Red m c R ps) (hj:j≤c):Red m j R (ps.filter fun p=>decide (p.1<j)):=by
 refine⟨fun p hp=>?_,h.col.filter _,h.row.filter _,fun p hp=>h.unit p (List.mem_filter.1 hp).1,fun k hk h1 i hi h2=>?_⟩
 · obtain⟨h1,h2⟩:=List.mem_filter.1 hp;exact⟨of_decide_eq_true h2,(h.lt p h1).2⟩
 · refine h.zero k (by omega) (fun p hp e=>h1 p (List.mem_filter.2 ⟨hp,decide_eq_true (by omega)⟩) e) i hi fun p hp hlt=>h2 p (List.mem_filter.2 ⟨hp,decide_eq_true (by omega)⟩) hlt
theorem Red.perm {m c:Nat}{R:Nat→Nat→Rat}{ps:List (Nat × Nat)}{σ τ:Nat→Nat}(h:Red m c R ps) (h1:∀ i,i<m→σ i<m∧τ (σ i)=i) (h2:∀ i,i<m→τ i<m∧σ (τ i)=i) :
 Red m c (fun i k=>R (σ i) k) (ps.map fun p=>(p.1,τ p.2)):=by
 refine⟨fun p hp=>?_,?_,?_,fun p hp i hi=>?_,fun j hj k1 i hi k2=>?_⟩
 · obtain⟨q,hq,rfl⟩:=List.mem_map.1 hp;exact⟨(h.lt q hq).1,(h2 _ (h.lt q hq).2).1⟩
 · rw[List.pairwise_map];exact h.col
 · rw[List.pairwise_map];refine List.Pairwise.imp_of_mem ?_ h.row;intro a b ha hb hne e
   apply hne
   have:=congrArg σ e;rw[(h2 _ (h.lt a ha).2).2,(h2 _ (h.lt b hb).2).2] at this;exact this
 · obtain⟨q,hq,rfl⟩:=List.mem_map.1 hp
   show R (σ i) q.1=dl i (τ q.2)
   rw[h.unit q hq (σ i) (h1 i hi).1]
   by_cases e:σ i=q.2
   · rw[e,dl_self,←e,(h1 i hi).2,dl_self]
   · rw[dl_ne e,dl_ne];intro e2
     apply e
     rw[e2,(h2 _ (h.lt q hq).2).2]
 · refine h.zero j hj (fun p hp=>k1 (p.1,τ p.2) (List.mem_map.2 ⟨p,hp,rfl⟩)) (σ i) (h1 i hi).1 fun p hp hlt e=>k2 (p.1,τ p.2) (List.mem_map.2 ⟨p,hp,rfl⟩) hlt ?_
   show τ p.2=i
   rw[e,(h1 i hi).2]
theorem Red.rowInj {m c:Nat}{R:Nat→Nat→Rat}{ps:List (Nat × Nat)}(h:Red m c R ps){p q:Nat × Nat}(hp:p∈ps) (hq:q∈ps) (e:p.2=q.2):p=q:=by
 obtain⟨s,hs,rfl⟩:=List.getElem_of_mem hp;obtain⟨t,ht,rfl⟩:=List.getElem_of_mem hq
 rcases Nat.lt_trichotomy s t with hlt | he | hgt
 · exact absurd e (List.pairwise_iff_getElem.1 h.row s t hs ht hlt)
 · subst he;rfl
 · exact absurd e.symm (List.pairwise_iff_getElem.1 h.row t s ht hs hgt)
theorem Red.lead {m c:Nat}{R:Nat→Nat→Rat}{ps:List (Nat × Nat)}(h:Red m c R ps){p:Nat × Nat}(hp:p∈ps){j:Nat}(hj:j<p.1):R p.2 j=0:=by
 have hpl:=h.lt p hp
 by_cases hq:∃ q∈ps,q.1=j
 · obtain⟨q,hq,rfl⟩:=hq;rw[h.unit q hq p.2 hpl.2,dl_ne];intro e;have:=h.rowInj hp hq e;subst this;omega
 · refine h.zero j (by omega) (fun q hq' e=>hq ⟨q,hq',e⟩) p.2 hpl.2 fun q hq' hlt e=>?_;have:=h.rowInj hq' hp e;subst this;omega
theorem Red.unused {m c:Nat}{R:Nat→Nat→Rat}{ps:List (Nat × Nat)}(h:Red m c R ps){i:Nat}(hi:i<m) (hu:∀ p∈ps,p.2≠i){j:Nat}(hj:j<c):R i j=0:=by
 by_cases hq:∃ q∈ps,q.1=j
 · obtain⟨q,hq,rfl⟩:=hq;rw[h.unit q hq i hi,dl_ne fun e=>hu q hq e.symm]
 · exact h.zero j hj (fun q hq' e=>hq ⟨q,hq',e⟩) i hi fun q hq' _=>hu q hq'
theorem Red.rank {m c:Nat}{R:Nat→Nat→Rat}{ps:List (Nat × Nat)}(h:Red m c R ps):HasRank m c R ps.length:=by
 have key:∀ s t,s<ps.length→t<ps.length→dl (ps.getD s (0,0)).2 (ps.getD t (0,0)).2=dl s t:=by
  intro s t hs ht;rw[List.getD_eq_getElem?_getD,List.getD_eq_getElem?_getD,List.getElem?_eq_getElem hs,List.getElem?_eq_getElem ht]
  simp only[Option.getD_some]
  by_cases e:s=t
  · subst e;rw[dl_self,dl_self]
  · rw[dl_ne e,dl_ne];intro e2
    rcases Nat.lt_or_ge s t with hlt | hge
    · exact List.pairwise_iff_getElem.1 h.row s t hs ht hlt e2
    · exact List.pairwise_iff_getElem.1 h.row t s ht hs (by omega) e2.symm
 have mem:∀ s,s<ps.length→ps.getD s (0,0)∈ps:=by
  intro s hs;rw[List.getD_eq_getElem?_getD,List.getElem?_eq_getElem hs];exact List.getElem_mem hs
 refine⟨fun i t=>dl i (ps.getD t (0,0)).2,fun s i=>dl (ps.getD s (0,0)).2 i,fun t k=>R (ps.getD t (0,0)).2 k,fun k t=>dl k (ps.getD t (0,0)).1,fun i k hi hk=>?_,fun s t hs ht=>?_,fun s t hs ht=>?_⟩
 · by_cases hu:∃ p∈ps,p.2=i
   · obtain⟨p,hp,rfl⟩:=hu;obtain⟨t0,ht0,rfl⟩:=List.getElem_of_mem hp;have e0:ps.getD t0 (0,0)=ps[t0]:=by rw[List.getD_eq_getElem?_getD,List.getElem?_eq_getElem ht0];rfl
     rw[←e0,sm_congr (g:=fun t=>dl t0 t*R (ps.getD t (0,0)).2 k) (fun t ht=>by show dl (ps.getD t0 (0,0)).2 (ps.getD t (0,0)).2*_=_;rw[key t0 t ht0 ht])];exact (sm_dl (fun t=>R (ps.getD t (0,0)).2 k) ht0).symm
   · rw[h.unused hi (fun p hp e=>hu ⟨p,hp,e⟩) hk,sm_zeroOf];intro t ht
     show dl i (ps.getD t (0,0)).2*_=0
     rw[dl_ne fun e=>hu ⟨_,mem t ht,e.symm⟩]
     grind
 · rw[sm_dl (fun i=>dl i (ps.getD t (0,0)).2) (h.lt _ (mem s hs)).2];exact key s t hs ht
 · rw[sm_dl' (fun k=>R (ps.getD s (0,0)).2 k) (h.lt _ (mem t ht)).1,h.unit _ (mem t ht) _ (h.lt _ (mem s hs)).2];exact key s t hs ht
def xval:List (Nat × Nat)→(Nat→Rat)→Nat→Rat
 | [],_,_=>0
 | p::ps,f,k=>if p.1=k then f p.2 else xval ps f k
theorem xval_none {ps:List (Nat × Nat)}{f:Nat→Rat}{k:Nat}(h:∀ p∈ps,p.1≠k):xval ps f k=0:=by
 induction ps with
 | nil=>rfl
 | cons p ps ih =>
  unfold xval;rw[if_neg (h p (by simp))];exact ih fun q hq=>h q (List.mem_cons_of_mem _ hq)
theorem xval_mem {ps:List (Nat × Nat)}{f:Nat→Rat}(hc:ps.Pairwise fun p q=>p.1<q.1){p:Nat × Nat}(hp:p∈ps):xval ps f p.1=f p.2:=by
 induction ps with
 | nil=>simp at hp
 | cons q ps ih =>
  rw[List.pairwise_cons] at hc;unfold xval
  rcases List.mem_cons.1 hp with rfl | h1
  · rw[if_pos rfl]
  · rw[if_neg (by have:=hc.1 p h1;omega)];exact ih hc.2 h1
def psum:List (Nat × Nat)→(Nat × Nat→Rat)→Rat
 | [],_=>0
 | p::ps,f=>f p+psum ps f
theorem psum_congr {ps:List (Nat × Nat)}{f g:Nat × Nat→Rat}(h:∀ p∈ps,f p=g p):psum ps f=psum ps g:=by
 induction ps with
 | nil=>rfl
 | cons p ps ih =>
  unfold psum;rw[h p (by simp),ih fun q hq=>h q (List.mem_cons_of_mem _ hq)]
theorem sm_xval {n:Nat}{ps:List (Nat × Nat)}{f:Nat→Rat}(g:Nat→Rat) (hc:ps.Pairwise fun p q=>p.1<q.1) (hl:∀ p∈ps,p.1<n):sm n (fun k=>g k*xval ps f k)=psum ps fun p=>g p.1*f p.2:=by
 induction ps with
 | nil=>exact sm_zeroOf fun k _=>by unfold xval;grind
 | cons p ps ih =>
  rw[List.pairwise_cons] at hc;have h1:=ih hc.2 fun q hq=>hl q (List.mem_cons_of_mem _ hq);unfold psum;rw[←h1];have h2:p.1<n:=hl p (by simp)
  rw[sm_congr (g:=fun k=>(g k*f p.2)*dl k p.1+g k*xval ps f k) (fun k hk=>by
   rw[show xval (p::ps) f k=if p.1=k then f p.2 else xval ps f k from rfl]
   by_cases e:p.1=k
   · subst e;rw[if_pos rfl,dl_self,xval_none fun q hq=>by have:=hc.1 q hq;omega]
     grind
   · rw[if_neg e,dl_ne fun e2=>e e2.symm]
     grind),sm_add,sm_dl' (fun k=>g k*f p.2) h2]
theorem psum_unit {ps:List (Nat × Nat)}{i:Nat}{f:Nat→Rat}(hr:ps.Pairwise fun p q=>p.2≠q.2):psum ps (fun p=>dl i p.2*f p.2)=if ∃ p∈ps,p.2=i then f i else 0:=by
 induction ps with
 | nil=>simp[psum]
 | cons p ps ih =>
  rw[List.pairwise_cons] at hr
  show dl i p.2*f p.2+psum ps (fun p=>dl i p.2*f p.2)=_
  rw[ih hr.2]
  by_cases e:p.2=i
  · subst e;rw[dl_self,if_neg (by rintro ⟨q,hq,e⟩;exact hr.1 q hq e.symm),if_pos ⟨p,by simp,rfl⟩]
    grind
  · rw[dl_ne fun e2=>e e2.symm]
    by_cases h2:∃ q∈ps,q.2=i
    · obtain⟨q,hq,e3⟩:=h2;rw[if_pos ⟨q,hq,e3⟩,if_pos ⟨q,List.mem_cons_of_mem _ hq,e3⟩]
      grind
    · rw[if_neg h2,if_neg]
      · grind
      · rintro ⟨q,hq,e3⟩
        rcases List.mem_cons.1 hq with rfl | h4
        · exact e e3
        · exact h2 ⟨q,h4,e3⟩
theorem Red.apply {m c:Nat}{R:Nat→Nat→Rat}{ps:List (Nat × Nat)}(h:Red m c R ps){n:Nat}(hn:c≤n) (f:Nat→Rat){i:Nat}(hi:i<m):sm n (fun k=>R i k*xval ps f k)=if ∃ p∈ps,p.2=i then f i else 0:=by
 rw[sm_xval (R i) h.col fun p hp=>by have:=(h.lt p hp).1;omega,psum_congr (g:=fun p=>dl i p.2*f p.2) fun p hp=>by rw[h.unit p hp i hi]];exact psum_unit h.row
theorem Red.solves {m n:Nat}{R:Nat→Nat→Rat}{ps:List (Nat × Nat)}(h:Red m n R ps) (hc:∀ i,i<m→(∀ p∈ps,p.2≠i)→R i n=0):∀ i,i<m→sm n (fun k=>R i k*xval ps (fun i=>R i n) k)=R i n:=by
 intro i hi;rw[h.apply (Nat.le_refl n) _ hi]
 by_cases hu:∃ p∈ps,p.2=i
 · rw[if_pos hu]
 · rw[if_neg hu,hc i hi fun p hp e=>hu ⟨p,hp,e⟩]
theorem Red.consistent {m n:Nat}{R:Nat→Nat→Rat}{ps:List (Nat × Nat)}{b:Nat→Rat}(h:Red m n R ps){x:Nat→Rat}(hx:∀ i,i<m→sm n (fun k=>R i k*x k)=b i):∀ i,i<m→(∀ p∈ps,p.2≠i)→b i=0:=by
 intro i hi hu;rw[←hx i hi];exact sm_zeroOf fun k hk=>by rw[h.unused hi hu hk];grind
theorem Red.unique {m n:Nat}{R:Nat→Nat→Rat}{ps:List (Nat × Nat)}(h:Red m n R ps){x y:Nat→Rat}(hx:∀ i,i<m→sm n (fun k=>R i k*x k)=sm n (fun k=>R i k*y k)) (hf:∀ k,k<n→(∀ p∈ps,p.1≠k)→x k=y k):∀ k,k<n→x k=y k:=by
 intro k hk
 by_cases hp:∃ p∈ps,p.1=k
 · obtain⟨p,hp,rfl⟩:=hp;have h1:=hx p.2 (h.lt p hp).2
   have h2:sm n (fun k=>R p.2 k*(x k-y k))=0:=by
    rw[sm_congr (g:=fun k=>R p.2 k*x k-R p.2 k*y k) (fun k _=>by grind),sm_sub,h1];grind
   have h3:sm n (fun k=>R p.2 k*(x k-y k))=x p.1-y p.1:=by
    rw[sm_congr (g:=fun k=>dl p.1 k*(x k-y k)) (fun k hk=>?_),sm_dl (fun k=>x k-y k) hk]
    by_cases hq:∃ q∈ps,q.1=k
    · obtain⟨q,hq,rfl⟩:=hq;rw[h.unit q hq p.2 (h.lt p hp).2]
      by_cases e:p.2=q.2
      · have:=h.rowInj hp hq e;subst this;rw[dl_self,dl_self]
      · rw[dl_ne e,dl_ne];intro e2
        apply e
        have h5:p=q:=by
         obtain⟨s,hs,rfl⟩:=List.getElem_of_mem hp;obtain⟨t,ht,rfl⟩:=List.getElem_of_mem hq
         rcases Nat.lt_trichotomy s t with hlt | he | hgt
         · have:=List.pairwise_iff_getElem.1 h.col s t hs ht hlt;omega
         · subst he;rfl
         · have:=List.pairwise_iff_getElem.1 h.col t s ht hs hgt;omega
        rw[h5]
    · rw[hf k hk fun q hq' e=>hq ⟨q,hq',e⟩]
      grind
   rw[h3] at h2
   grind
 · exact hf k hk fun q hq e=>hp ⟨q,hq,e⟩
def freeCol (ps:List (Nat × Nat)) (R:Nat→Nat→Rat) (f:Nat):Nat→Rat:=fun k=>dl k f-xval ps (fun i=>R i f) k
theorem Red.free {m n:Nat}{R:Nat→Nat→Rat}{ps:List (Nat × Nat)}(h:Red m n R ps){f:Nat}(hf:f<n) (hn:∀ p∈ps,p.1≠f):∀ i,i<m→sm n (fun k=>R i k*freeCol ps R f k)=0:=by
 intro i hi;rw[sm_congr (g:=fun k=>R i k*dl k f-R i k*xval ps (fun i=>R i f) k) (fun k _=>by unfold freeCol;grind),sm_sub,sm_dl' (R i) hf,h.apply (Nat.le_refl n) _ hi]
 by_cases hu:∃ p∈ps,p.2=i
 · rw[if_pos hu];grind
 · rw[if_neg hu,h.unused hi (fun p hp e=>hu ⟨p,hp,e⟩) hf];grind
theorem Red.freeCol_self {m n:Nat}{R:Nat→Nat→Rat}{ps:List (Nat × Nat)}{f:Nat}(hn:∀ p∈ps,p.1≠f):freeCol ps R f f=1:=by
 unfold freeCol;rw[dl_self,xval_none hn];grind
theorem Red.freeCol_gt {m n:Nat}{R:Nat→Nat→Rat}{ps:List (Nat × Nat)}(h:Red m n R ps){f k:Nat}(hk:f<k):freeCol ps R f k=0:=by
 unfold freeCol;rw[dl_ne (by omega)]
 by_cases hp:∃ p∈ps,p.1=k
 · obtain⟨p,hp,rfl⟩:=hp;rw[xval_mem h.col hp,h.lead hp hk];grind
 · rw[xval_none fun p hp' e=>hp ⟨p,hp',e⟩];grind
theorem Red.pivot_iff {m n:Nat}{R:Nat→Nat→Rat}{ps:List (Nat × Nat)}(h:Red m n R ps){k:Nat}(hk:k<n):(∃ p∈ps,p.1=k) ↔ ¬ ∃ z:Nat→Rat,(∀ i,i<m→sm n (fun j=>R i j*z j)=0)∧z k=1∧∀ j,k<j→z j=0:=by
 constructor
 · rintro ⟨p,hp,rfl⟩ ⟨z,h1,h2,h3⟩;have h4:=h1 p.2 (h.lt p hp).2
   rw[sm_congr (g:=fun j=>dl p.1 j*(R p.2 p.1*z p.1)) (fun j hj=>by
    rcases Nat.lt_trichotomy j p.1 with hlt | he | hgt
    · rw[h.lead hp hlt,dl_ne (by omega)];grind
    · subst he;rw[dl_self];grind
    · rw[h3 j hgt,dl_ne (by omega)];grind),sm_dl (fun _=>R p.2 p.1*z p.1) hk,h.unit p hp p.2 (h.lt p hp).2,dl_self,h2] at h4
   exact absurd h4 (by decide +kernel)
 · intro hz;refine Classical.byContradiction fun hp=>hz ?_;have hn:∀ p∈ps,p.1≠k:=fun p hp' e=>hp ⟨p,hp',e⟩;exact⟨freeCol ps R k,h.free hk hn,Red.freeCol_self (m:=m) (n:=n) hn,fun j hj=>h.freeCol_gt hj⟩
theorem sorted_eq {l l':List Nat}(h:l.Pairwise (· < ·)) (h':l'.Pairwise (· < ·)) (e:∀ x,x∈l ↔ x∈l'):l=l':=by
 induction l generalizing l' with
 | nil =>
  cases l' with
  | nil=>rfl
  | cons b t=>exact absurd ((e b).2 (by simp)) (by simp)
 | cons a s ih =>
  cases l' with
  | nil=>exact absurd ((e a).1 (by simp)) (by simp)
  | cons b t =>
   rw[List.pairwise_cons] at h h'
   have hab:a=b:=by
    have h1:=(e a).1 (by simp);have h2:=(e b).2 (by simp)
    rcases List.mem_cons.1 h1 with h3 | h3
    · exact h3
    · rcases List.mem_cons.1 h2 with h4 | h4
      · exact h4.symm
      · have:=h'.1 a h3;have:=h.1 b h4;omega
   subst hab
   congr 1
   refine ih h.2 h'.2 fun x=>⟨fun hx=>?_,fun hx=>?_⟩
   · rcases List.mem_cons.1 ((e x).1 (List.mem_cons_of_mem _ hx)) with h3 | h3
     · subst h3;have:=h.1 x hx;omega
     · exact h3
   · rcases List.mem_cons.1 ((e x).2 (List.mem_cons_of_mem _ hx)) with h3 | h3
     · subst h3;have:=h'.1 x hx;omega
     · exact h3
theorem Red.cols_eq {m n:Nat}{R R':Nat→Nat→Rat}{ps ps':List (Nat × Nat)}(h:Red m n R ps) (h':Red m n R' ps') (e:RowEq m n R R'):ps.map Prod.fst=ps'.map Prod.fst:=by
 refine sorted_eq (by rw[List.pairwise_map];exact h.col) (by rw[List.pairwise_map];exact h'.col) fun x=>?_
 have key:∀ x,x<n→((∃ p∈ps,p.1=x) ↔ ∃ p∈ps',p.1=x):=fun x hx=>by
  rw[h.pivot_iff hx,h'.pivot_iff hx]
  constructor
  · rintro h1 ⟨z,h2,h3⟩;exact h1 ⟨z,e.symm.ker h2,h3⟩
  · rintro h1 ⟨z,h2,h3⟩;exact h1 ⟨z,e.ker h2,h3⟩
 simp only[List.mem_map]
 constructor
 · intro hx;have hl:x<n:=by obtain⟨p,hp,rfl⟩:=hx;exact (h.lt p hp).1
   exact (key x hl).1 hx
 · intro hx;have hl:x<n:=by obtain⟨p,hp,rfl⟩:=hx;exact (h'.lt p hp).1
   exact (key x hl).2 hx
end Go.Proofs.Ytjhkapjadfpimaa.Plain
