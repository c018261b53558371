/- Contracts of functions, for the law. -/
import Derived.Test.YtjhkapjadfpimaaGreatMStep
namespace Go.Proofs.YtjhkapjadfpimaaGreat.Plain
set_option linter.unusedVariables false
set_option linter.unusedSimpArgs false
abbrev bp:=List (List Rat)
def fn (M:bp) (i k:Nat):Rat:=(M.getD i []).getD k 0
def cj (M:bp) (n:Nat):Prop:=∀ r∈M,r.length=n
def colsL (M:bp):Nat:=(M.headD []).length
def aW (M:bp):Bool:=M.all fun r=>decide (r.length=colsL M)
theorem cZ {M:bp}(h:aW M=true):cj M (colsL M):=by
 unfold aW at h;rw[List.all_eq_true] at h;exact fun r hr=>of_decide_eq_true (h r hr)
theorem ei {M:bp}{n i:Nat}(h:cj M n) (hi:i<M.length):(M.getD i []).length=n:=by
 rw[Dk,Dl hi];exact h _ (Dy hi)
def zT (a x:List Rat):Rat:=(List.zipWith (·*·) a x).foldl (·+·) 0
theorem sX (l:List Rat):l.foldl (·+·) 0=sm l.length fun k=>l.getD k 0:=by
 have b:∀ n,n≤l.length→(l.take n).foldl (·+·) 0=sm n fun k=>l.getD k 0:=by
  intro n
  induction n with
  | zero=>exact fun _=>rfl
  | succ n ih =>
   intro hn;rw[List.take_add_one,Dl (by omega),List.foldl_append,ih (by omega)]
   show _+l[n]=sm n _+l.getD n 0
   rw[Dk,Dl (by omega)]
   rfl
 have:=b l.length (Dt _);rw[List.take_length] at this;exact this
theorem nS {a x:List Rat}{n:Nat}(h1:a.length=n) (h2:x.length=n):zT a x=sm n fun k=>a.getD k 0*x.getD k 0:=by
 unfold zT;rw[sX,List.length_zipWith,h1,h2,Nat.min_self];refine ak fun k hk=>?_;rw[Dk,List.getElem?_zipWith,Dk,Dk,Dl (by omega),Dl (by omega)]
 rfl
def gG (M:bp) (x:List Rat):List Rat:=M.map fun r=>zT r x
def gT (M:bp) (p c:Nat):List Rat:=(M.getD p []).map fun x=>x / fn M p c
def iw (a:List Rat) (f:Rat) (b:List Rat):List Rat:=List.zipWith (fun x h=>x-f*h) a b
def fe (M:bp) (p c:Nat):bp:=(List.range M.length).map fun i=>if i=p then gT M p c else iw (M.getD i []) (fn M i c) (gT M p c)
theorem eZ (M:bp) (p c:Nat):(fe M p c).length=M.length:=by simp[fe]
theorem jj {α:Type}{m i:Nat}{f:Nat→α}{d:α}(hi:i<m):((List.range m).map f).getD i d=f i:=by
 rw[Dk,Dq,DS hi];rfl
theorem jp {M:bp}{n p c:Nat}(h:cj M n) (hp:p<M.length):(gT M p c).length=n:=by unfold gT;rw[Dr];exact ei h hp
theorem rx {a b:List Rat}{f:Rat}{n:Nat}(h1:a.length=n) (h2:b.length=n):(iw a f b).length=n:=by unfold iw;rw[List.length_zipWith,h1,h2,Nat.min_self]
theorem mF {M:bp}{n p c:Nat}(h:cj M n) (hp:p<M.length):cj (fe M p c) n:=fun r hr=>by
 unfold fe at hr;obtain⟨i,hi,rfl⟩:=DU.1 hr;rw[DT] at hi
 split
 · exact jp h hp
 · exact rx (ei h hi) (jp h hp)
theorem qn {M:bp}{p c k:Nat}(hk:k<(M.getD p []).length):(gT M p c).getD k 0=fn M p k / fn M p c:=by
 unfold gT fn;rw[Dk,Dq,Dk (l:=M.getD p []) (i:=k),Dl hk]
 rfl
theorem rF {M:bp}{n p c i k:Nat}(h:cj M n) (hp:p<M.length) (hi:i<M.length) (hk:k<n):fn (fe M p c) i k=piv (fn M) p c i k:=by
 have hh:=jp (c:=c) h hp;have hr:=ei h hi;have b:=ei h hp;unfold fe;rw[fn,jj hi];unfold piv
 by_cases e:i=p
 · rw[if_pos e,if_pos e,qn (by omega)]
 · rw[if_neg e,if_neg e];unfold iw;rw[Dk,List.getElem?_zipWith,Dl (show k<(M.getD i []).length by omega),Dl (show k<(gT M p c).length by omega)]
   simp only[Option.getD_some]
   have e1:(M.getD i [])[k]'(by omega)=fn M i k:=by unfold fn;rw[Dk (i:=k),Dl (by omega)];rfl
   have e2:(gT M p c)[k]'(by omega)=fn M p k / fn M p c:=by rw[←qn (show k<(M.getD p []).length by omega),Dk,Dl (by omega)];rfl
   rw[e1,e2]
def cO (M:bp) (row t:Nat):bp:=M.take row++(M.getD t []::((M.drop row).take (t-row)++M.drop (t+1)))
theorem cF {M:bp}{row t:Nat}(h1:row≤t) (h2:t<M.length):(cO M row t).length=M.length:=by
 simp only[cO,Dw,List.length_cons,DB,DC]
 omega
def rR (row t i:Nat):Nat:=if i<row then i else if i=row then t else if i≤t then i-1 else i
def Az (row t i:Nat):Nat:=if i<row then i else if i<t then i+1 else if i=t then row else i
theorem Ch {row t m:Nat}(h1:row≤t) (h2:t<m):∀ i,i<m→rR row t i<m∧Az row t (rR row t i)=i:=fun i hi=>by
 unfold rR Az
 repeat' split
 all_goals omega
theorem Cg {row t m:Nat}(h1:row≤t) (h2:t<m):∀ i,i<m→Az row t i<m∧rR row t (Az row t i)=i:=fun i hi=>by
 unfold rR Az
 repeat' split
 all_goals omega
theorem gQ {M:bp}{row t i:Nat}(h1:row≤t) (h2:t<M.length) (hi:i<M.length):(cO M row t).getD i []=M.getD (rR row t i) []:=by
 have hl:(M.take row).length=row:=by rw[DB];omega
 have b:((M.drop row).take (t-row)).length=t-row:=by rw[DB,DC];omega
 unfold cO rR
 simp only[Dk]
 by_cases a1:i<row
 · rw[if_pos a1,DP (by omega),List.getElem?_take_of_lt a1]
 · rw[if_neg a1,DA (by omega),hl]
   by_cases a2:i=row
   · rw[if_pos a2,a2,Nat.sub_self]
     simp
   · rw[if_neg a2];obtain⟨j,hj⟩:∃ j,i-row=j+1:=⟨i-row-1,by omega⟩;rw[hj,List.getElem?_cons_succ]
     by_cases a3:i≤t
     · rw[if_pos a3,DP (by omega),List.getElem?_take_of_lt (by omega),DX,show row+j=i-1 by omega]
     · rw[if_neg a3,DA (by omega),b,DX,show t+1+(j-(t-row))=i by omega]
theorem fX {M:bp}{n row t:Nat}(h:cj M n) (h2:t<M.length):cj (cO M row t) n:=fun r hr=>by
 unfold cO at hr
 simp only[List.mem_append,List.mem_cons] at hr
 rcases hr with h3 | rfl | h3 | h3
 · exact h r (DJ h3)
 · exact ei h h2
 · exact h r (DK (DJ h3))
 · exact h r (DK h3)
theorem sK {M:bp}{row:Nat}(h:row<M.length):cO M row row=M:=by
 apply List.ext_getElem?
 intro i
 by_cases hi:i<M.length
 · have h1:=gQ (M:=M) (Dt row) h hi
   have h2:rR row row i=i:=by
    unfold rR
    by_cases a1:i<row
    · rw[if_pos a1]
    · by_cases a2:i=row
      · rw[if_neg a1,if_pos a2,a2]
      · rw[if_neg a1,if_neg a2,if_neg (by omega)]
   rw[h2,Dk,Dk,Dl hi,Dl (by rw[cF (Dt _) h];exact hi)] at h1;rw[Dl hi,Dl (by rw[cF (Dt _) h];exact hi)];exact congrArg some h1
 · rw[DI (by rw[cF (Dt _) h];omega),DI (by omega)]
def dc (M:bp) (col row:Nat):Nat:=row+(M.drop row).findIdx fun r=>decide (r.getD col 0≠0)
theorem gU (M:bp) (col row:Nat):row≤dc M col row:=by unfold dc;omega
theorem lP {M:bp}{col row i:Nat}(h1:row≤i) (h2:i<dc M col row) (hi:i<M.length):fn M i col=0:=by
 unfold dc at h2;have h3:=List.not_of_lt_findIdx (xs:=M.drop row) (p:=fun r=>decide (r.getD col 0≠0)) (i:=i-row) (by omega);rw[List.getElem_drop] at h3;have e:row+(i-row)=i:=by omega
 simp only[e] at h3
 unfold fn;rw[Dk (l:=M),Dl hi]
 simpa using h3
theorem fO {M:bp}{col row:Nat}(h:dc M col row<M.length):fn M (dc M col row) col≠0:=by
 have h4:(M.drop row).findIdx (fun r=>decide (r.getD col 0≠0))<(M.drop row).length:=by
  unfold dc at h;rw[DC];omega
 have h3:=List.findIdx_getElem (xs:=M.drop row) (p:=fun r=>decide (r.getD col 0≠0)) (w:=h4);rw[List.getElem_drop] at h3;unfold fn;rw[Dk (l:=M),Dl h]
 simpa [dc] using h3
def ji (S:bp × List Nat) (col:Nat):bp × List Nat :=
 if S.2.length<S.1.length then
  if dc S.1 col S.2.length<S.1.length then (fe (cO S.1 S.2.length (dc S.1 col S.2.length)) S.2.length col,S.2++[col]) else S
 else S
def reduceL (M:bp) (n:Nat):bp × List Nat:=(List.range n).foldl ji (M,[])
theorem fj (M:bp) (n:Nat):reduceL M (n+1)=ji (reduceL M n) n:=by
 unfold reduceL;rw[List.range_succ,List.foldl_append];rfl
theorem rS (l:List Nat) (c:Nat):(l++[c]).zipIdx=l.zipIdx++[(c,l.length)]:=by rw[List.zipIdx_append];simp
theorem ru {l:List Nat}{p:Nat × Nat}(h:p∈l.zipIdx):p.2<l.length:=by
 obtain⟨a,i⟩:=p;have:=List.mem_zipIdx h
 simpa using this.2.1
structure Reduced (M:bp) (n w:Nat) (S:bp × List Nat):Prop where
 len:S.1.length=M.length
 rct:cj S.1 w
 eqv:RowEq M.length w (fn M) (fn S.1)
 red:Red M.length n (fn S.1) S.2.zipIdx
 le:S.2.length≤M.length
theorem eg {M:bp}{w:Nat}(h:cj M w):∀ n,n≤w→Reduced M n w (reduceL M n):=by
 intro n
 induction n with
 | zero=>exact fun _=>⟨rfl,h,RowEq.refl _ _ _,Red.nil _ _,D8 _⟩
 | succ n ih =>
  intro hn;obtain⟨h1,h2,h3,h4,h5⟩:=ih (by omega);rw[fj]
  generalize reduceL M n=S at *
  obtain⟨R,l⟩:=S
  simp only at h1 h2 h3 h4 h5
  unfold ji
  simp only
  split
  · rename_i hlt
    split
    · rename_i hat
      generalize ht:dc R n l.length=t at *
      have b:l.length≤t:=by rw[←ht];exact gU _ _ _
      have g:fn R t n≠0:=by rw[←ht];exact fO (by rw[ht];exact hat)
      have d:=cF b hat;have c:=fX (row:=l.length) h2 hat
      have e1:∀ i k,i<M.length→k<w→fn (cO R l.length t) i k=fn R (rR l.length t i) k:=fun i k hi hk=>by
       unfold fn;rw[gQ b hat (by omega)]
      have p1:=Ch (m:=M.length) b (by omega);have p2:=Cg (m:=M.length) b (by omega);have g1:RowEq M.length w (fn M) (fn (cO R l.length t)):=(h3.trans (RowEq.perm (σ:=rR l.length t) (τ:=Az l.length t) p1 p2)).congr e1
      have g2:Red M.length n (fn (cO R l.length t)) l.zipIdx:=by
       have:=(h4.perm p1 p2).congr fun i k hi hk=>e1 i k hi (by omega)
       have e2:(l.zipIdx.map fun p=>(p.1,Az l.length t p.2))=l.zipIdx:=by
        conv=>rhs;rw[←List.map_id l.zipIdx]
        refine List.map_congr_left fun p hp=>?_;have:=ru hp
        show (p.1,Az l.length t p.2)=p
        unfold Az;rw[if_pos this]
       rw[e2] at this;exact this
      have g3:fn (cO R l.length t) l.length n≠0:=by
       rw[e1 _ _ (by omega) (by omega)];unfold rR;rw[if_neg (by omega),if_pos rfl];exact g
      have e3:∀ i k,i<M.length→k<w→fn (fe (cO R l.length t) l.length n) i k=piv (fn (cO R l.length t)) l.length n i k:=fun i k hi hk=>rF c (by omega) (by omega) hk;refine⟨by rw[eZ,d,h1],mF c (by omega),(g1.trans (RowEq.piv (by omega) g3)).congr e3,?_,by rw[Dw];simp;omega⟩
      show Red _ _ _ (l++[n]).zipIdx
      rw[rS];exact (g2.step (by omega) (fun q hq=>by have:=ru hq;omega) g3).congr fun i k hi hk=>e3 i k hi (by omega)
    · rename_i hat
      refine⟨h1,h2,h3,h4.skip fun i hi hu=>?_,h5⟩;refine lP (row:=l.length) (Nat.le_of_not_lt fun f=>?_) (by have:=gU R n l.length;omega) (by omega);exact hu (l[i],i) (by rw[List.mem_iff_getElem?];exact⟨i,by rw[List.getElem?_zipIdx,Dl f];simp⟩) rfl
  · rename_i hlt
    refine⟨h1,h2,h3,h4.skip fun i hi hu=>?_,h5⟩;exact absurd rfl (hu (l[i]'(by omega),i) (by rw[List.mem_iff_getElem?];exact⟨i,by rw[List.getElem?_zipIdx,Dl (by omega)];simp⟩))
def mM (r:List Rat):Option Nat:=(List.range r.length).foldl (fun c k=>if r.getD k 0≠0 then some k else c) none
theorem o5 (r:List Rat):∀ n,n≤r.length→match (List.range n).foldl (fun c k=>if r.getD k 0≠0 then some k else c) none with
 | none=>∀ k,k<n→r.getD k 0=0
 | some c=>c<n∧r.getD c 0≠0:=by
 intro n
 induction n with
 | zero=>exact fun _ k hk=>by omega
 | succ n ih =>
  intro hn;have h:=ih (by omega);rw[List.range_succ,List.foldl_append]
  simp only[List.foldl_cons,List.foldl_nil]
  by_cases hz:r.getD n 0=0
  · rw[if_neg (by simpa using hz)]
    generalize (List.range n).foldl (fun c k=>if r.getD k 0≠0 then some k else c) none=o at *
    cases o with
    | none =>
     intro k hk
     by_cases e:k=n
     · subst e;exact hz
     · exact h k (by omega)
    | some c=>exact⟨by have:=h.1;omega,h.2⟩
  · rw[if_pos hz];exact⟨by omega,hz⟩
theorem sR {r:List Rat}(h:mM r=none):∀ k,k<r.length→r.getD k 0=0:=by
 have:=o5 r r.length (Dt _);unfold mM at h;rw[h] at this;exact this
theorem sQ {r:List Rat}{c:Nat}(h:mM r=some c):c<r.length∧r.getD c 0≠0:=by
 have:=o5 r r.length (Dt _);unfold mM at h;rw[h] at this;exact this
def ox:Nat→bp→Nat
 | 0,_=>0
 | f+1,M=>match M with
  | []=>0
  | r::T=>match mM r with
   | none=>ox f T
   | some c=>ox f (fe (r::T) 0 c).tail+1
def uY (M:bp):Nat:=ox M.length M
theorem yV:∀ (f:Nat) (M:bp) (n:Nat),cj M n→M.length=f→HasRank M.length n (fn M) (ox f M):=by
 intro f
 induction f with
 | zero =>
  intro M n h hl;rw[hl];exact HasRank.none
 | succ f ih =>
  intro M n h hl
  match M,hl with
  | r::T,hl =>
   have hr:r.length=n:=h r (by simp);have hT:cj T n:=fun x hx=>h x (DM _ hx);have q:T.length=f:=by simpa using hl
   unfold ox
   simp only
   cases hz:mM r with
   | none =>
    have h0:=sR hz;exact HasRank.zeroRow (m:=T.length) (ih T n hT q) fun k hk=>h0 k (by omega)
   | some c =>
    obtain⟨hc,p⟩:=sQ hz;have hp:0<(r::T).length:=by simp
    have b:=eZ (r::T) 0 c;have l:=mF (c:=c) h hp
    obtain⟨a,L,hL⟩:∃ a L,fe (r::T) 0 c=a::L:=by
     cases hq:fe (r::T) 0 c with
     | nil=>rw[hq] at b;simp at b
     | cons a L=>exact⟨a,L,rfl⟩
    have o:cj L n:=fun x hx=>l x (by rw[hL];exact DM _ hx);have g:L.length=f:=by rw[hL] at b;simp at b;omega
    have ne:fn (r::T) 0 c≠0:=p;have e0:∀ i k,i<(r::T).length→k<n→fn (fe (r::T) 0 c) i k=piv (fn (r::T)) 0 c i k:=fun i k hi hk=>rF h hp hi hk
    have j:HasRank (L.length+1) n (fn (a::L)) (ox f L+1):=by
     refine HasRank.cons (m:=L.length) (c:=c) (ih L n o g) (by omega) ?_ fun i hi=>?_
     · rw[←hL,e0 0 c hp (by omega)]
       show (if 0=0 then _ / _ else _)=(1:Rat)
       rw[if_pos rfl];grind
     · rw[←hL,e0 (i+1) c (by simp;omega) (by omega)]
       show (if i+1=0 then _ else _-_*(_ / _))=(0:Rat)
       rw[if_neg (by omega)];grind
    have d:RowEq (r::T).length n (fn (r::T)) (fn (a::L)):=by rw[←hL];exact (RowEq.piv hp ne).congr e0
    have s:(r::T).length=L.length+1:=by rw[g];exact hl
    show HasRank (r::T).length n (fn (r::T)) (ox f (fe (r::T) 0 c).tail+1)
    rw[hL];rw[s] at d ⊢;exact d.symm.rank j
theorem yU {M:bp}{n:Nat}(h:cj M n):HasRank M.length n (fn M) (uY M):=yV _ M n h rfl
theorem RowEq.mono {m n k:Nat}{M M':Nat→Nat→Rat}(h:RowEq m n M M') (hk:k≤n):RowEq m k M M':=by
 obtain⟨E,F,h1,h2,h3⟩:=h;exact⟨E,F,h1,h2,fun i j hi hj=>h3 i j hi (by omega)⟩
def fp (M:bp) (k:Nat):bp:=M.map fun r=>r.take k
theorem ta {M:bp}{n k:Nat}(h:cj M n) (hk:k≤n):cj (fp M k) k:=fun r hr=>by
 unfold fp at hr;obtain⟨x,hx,rfl⟩:=DU.1 hr;rw[DB,h x hx];omega
theorem xG {M:bp}{k i j:Nat}(hj:j<k):fn (fp M k) i j=fn M i j:=by
 unfold fn fp;rw[Dk (l:=M.map _),Dq,Dk (l:=M)]
 cases M[i]? with
 | none=>simp
 | some r=>simp[Dk,DW,hj]
def kU (M:bp) (k:Nat):Bool:=decide (uY (fp M k)<uY (fp M (k+1)))
theorem nw {M:bp}{n w k:Nat}{S:bp × List Nat}(h:Reduced M n w S) (hM:cj M w) (hk:k≤n) (hn:n≤w):uY (fp M k)=(S.2.zipIdx.filter fun p=>decide (p.1<k)).length:=by
 have h1:=yU (ta hM (show k≤w by omega));have hl:(fp M k).length=M.length:=by simp[fp]
 rw[hl] at h1;have h2:=(h.red.mono hk).rank;exact h1.unique (((h.eqv.mono (show k≤w by omega)).symm.rank h2).congr fun i j hi hj=>xG hj)
theorem xC {M:bp}{n w k:Nat}{S:bp × List Nat}(h:Reduced M n w S) (hM:cj M w) (hk:k<n) (hn:n≤w):kU M k=true ↔ k∈S.2:=by
 unfold kU;rw[decide_eq_true_eq,nw h hM (show k≤n by omega) hn,nw h hM (show k+1≤n by omega) hn,h.red.count_succ]
 have e:(∃ p∈S.2.zipIdx,p.1=k) ↔ k∈S.2:=by
  constructor
  · rintro ⟨p,hp,rfl⟩;obtain⟨a,i⟩:=p;have:=List.mem_zipIdx hp
    simp at this
    rw[this.2];exact Dy _
  · intro hk;obtain⟨i,hi,rfl⟩:=List.getElem_of_mem hk;exact⟨(S.2[i],i),by rw[List.mem_iff_getElem?];exact⟨i,by rw[List.getElem?_zipIdx,Dl hi];simp⟩,rfl⟩
 rw[←e]
 by_cases hp:∃ p∈S.2.zipIdx,p.1=k
 · rw[if_pos hp];exact⟨fun _=>hp,fun _=>by omega⟩
 · rw[if_neg hp];exact⟨fun h=>by omega,fun h=>absurd h hp⟩
def bG (M:bp) (b:List Rat):bp:=List.zipWith (fun r x=>r++[x]) M b
theorem fg {M:bp}{b:List Rat}(h:b.length=M.length):(bG M b).length=M.length:=by simp[bG,h]
theorem eS {M:bp}{b:List Rat}{n:Nat}(h:cj M n):cj (bG M b) (n+1):=fun r hr=>by
 unfold bG at hr;obtain⟨i,hi,rfl⟩:=List.getElem_of_mem hr;rw[List.getElem_zipWith,Dw,h _ (Dy _)]
 rfl
theorem pG {M:bp}{b:List Rat}{i:Nat}(h:b.length=M.length) (hi:i<M.length):(bG M b).getD i []=M.getD i []++[b.getD i 0]:=by
 unfold bG;rw[Dk,List.getElem?_zipWith,Dl hi,Dl (show i<b.length by omega),Dk,Dk,Dl hi,Dl (show i<b.length by omega)]
 rfl
theorem sY {M:bp}{b:List Rat}{n i k:Nat}(hM:cj M n) (h:b.length=M.length) (hi:i<M.length) (hk:k<n):fn (bG M b) i k=fn M i k:=by
 unfold fn;rw[pG h hi,Dk,DP (by rw[ei hM hi];exact hk),←Dk]
theorem kC {M:bp}{b:List Rat}{n i:Nat}(hM:cj M n) (h:b.length=M.length) (hi:i<M.length):fn (bG M b) i n=b.getD i 0:=by
 unfold fn;have e:=ei hM hi;rw[pG h hi,Dk,DA (by omega),e,Nat.sub_self]
 rfl
def Sol (m n:Nat) (W:Nat→Nat→Rat) (x:Nat→Rat):Prop:=∀ i,i<m→sm n (fun k=>W i k*x k)=W i n
theorem Sol.ker {m n:Nat}{W:Nat→Nat→Rat}{x:Nat→Rat}:Sol m n W x ↔ ∀ i,i<m→sm (n+1) (fun k=>W i k*(if k<n then x k else -1))=0:=by
 have e:∀ i,sm (n+1) (fun k=>W i k*(if k<n then x k else -1))=sm n (fun k=>W i k*x k)-W i n:=by
  intro i
  show sm n (fun k=>W i k*(if k<n then x k else -1))+W i n*(if n<n then x n else -1)=_
  rw[ak (g:=fun k=>W i k*x k) (fun k hk=>by rw[if_pos hk]),if_neg (Nat.lt_irrefl n)]
  grind
 unfold Sol
 constructor
 · intro h i hi;rw[e,h i hi];grind
 · intro h i hi;have:=h i hi;rw[e] at this;grind
theorem RowEq.sol {m n:Nat}{W W':Nat→Nat→Rat}{x:Nat→Rat}(h:RowEq m (n+1) W W') (hx:Sol m n W x):Sol m n W' x:=Sol.ker.2 (h.ker (Sol.ker.1 hx))
theorem gh {m n:Nat}{W R:Nat→Nat→Rat}{ps:List (Nat × Nat)}(h:Red m n R ps) (e:RowEq m (n+1) W R) :
 ((∀ i,i<m→(∀ p∈ps,p.2≠i)→R i n=0) ↔ ∃ x,Sol m n W x)∧((∀ i,i<m→(∀ p∈ps,p.2≠i)→R i n=0)→Sol m n W (f8 ps fun i=>R i n)):=by
 have h1:(∀ i,i<m→(∀ p∈ps,p.2≠i)→R i n=0)→Sol m n W (f8 ps fun i=>R i n):=fun hc=>e.symm.sol (h.solves hc);exact⟨⟨fun hc=>⟨_,h1 hc⟩,fun ⟨x,hx⟩=>h.consistent (b:=fun i=>R i n) (e.sol hx)⟩,h1⟩
theorem ym {m n:Nat}{W R R':Nat→Nat→Rat}{ps ps':List (Nat × Nat)}(h:Red m n R ps) (e:RowEq m (n+1) W R) (h':Red m n R' ps') (e':RowEq m (n+1) W R') :
 ((∀ i,i<m→(∀ p∈ps,p.2≠i)→R i n=0) ↔ (∀ i,i<m→(∀ p∈ps',p.2≠i)→R' i n=0))∧((∀ i,i<m→(∀ p∈ps,p.2≠i)→R i n=0)→∀ k,k<n→f8 ps (fun i=>R i n) k=f8 ps' (fun i=>R' i n) k):=by
 have a:=gh h e;have b:=gh h' e';refine⟨a.1.trans b.1.symm,fun hc=>?_⟩;have s1:=e.sol (a.2 hc);have s2:=e.sol (b.2 (b.1.2 (a.1.1 hc)));refine h.unique (fun i hi=>(s1 i hi).trans (s2 i hi).symm) fun k hk hn=>?_;rw[eV hn,eV];intro p hp ep;have hm:k∈ps'.map Prod.fst:=DU.2 ⟨p,hp,ep⟩;rw[←h.cols_eq h' ((e.mono (Nat.le_succ n)).symm.trans (e'.mono (Nat.le_succ n)))] at hm;obtain⟨q,hq,eq⟩:=DU.1 hm;exact hn q hq eq
theorem oe {M:bp}{x:List Rat}{i:Nat}(hi:i<M.length){h:i<(gG M x).length}:(gG M x)[i]=zT M[i] x:=by simp[gG]
def ed (R:bp) (k n:Nat):Bool:=(R.drop k).all fun r=>decide (r.getD n 0=0)
theorem restZero_iff {R:bp}{l:List Nat}{n:Nat}:ed R l.length n=true ↔ ∀ i,i<R.length→(∀ p∈l.zipIdx,p.2≠i)→fn R i n=0:=by
 unfold ed;rw[List.all_eq_true]
 constructor
 · intro h i hi hu;have c:l.length≤i:=Nat.le_of_not_lt fun b=>hu (l[i],i) (by rw[List.mem_iff_getElem?];exact⟨i,by rw[List.getElem?_zipIdx,Dl b];simp⟩) rfl
   have hm:R[i]∈R.drop l.length:=by
    rw[List.mem_iff_getElem?];exact⟨i-l.length,by rw[DX,show l.length+(i-l.length)=i by omega,Dl hi]⟩
   have h1:=of_decide_eq_true (h _ hm);unfold fn;rw[Dk (l:=R),Dl hi];exact h1
 · intro h r hr;obtain⟨j,hj,rfl⟩:=List.getElem_of_mem hr;rw[DC] at hj;rw[List.getElem_drop];have h1:=h (l.length+j) (by omega) fun p hp=>by have:=ru hp;omega
   unfold fn at h1;rw[Dk (l:=R),Dl (by omega)] at h1;exact Dv h1
def nJ (n:Nat) (ps:List (Nat × Nat)) (f:Nat→Rat):List Rat:=(List.range n).map (f8 ps f)
theorem it (n:Nat) (ps:List (Nat × Nat)) (f:Nat→Rat):(nJ n ps f).length=n:=by simp[nJ]
theorem oM {n k:Nat}(hk:k<n) (ps:List (Nat × Nat)) (f:Nat→Rat):(nJ n ps f).getD k 0=f8 ps f k:=jj hk
def cN (M:bp) (b:List Rat):Option (List Rat) :=
 let S:=reduceL (bG M b) (colsL M)
 if ed S.1 S.2.length (colsL M)=true then some (nJ (colsL M) S.2.zipIdx fun i=>fn S.1 i (colsL M)) else none
def ge (ps:List (Nat × Nat)) (i:Nat):Bool:=ps.any fun p=>decide (p.2=i)
theorem usedB_false {ps:List (Nat × Nat)}{i:Nat}:ge ps i=false ↔ ∀ p∈ps,p.2≠i:=by
 unfold ge;rw[List.any_eq_false];simp
def findFree (t:bp) (ps:List (Nat × Nat)) (k:Nat):Option Nat:=(List.range t.length).find? fun i=>!ge ps i&&decide (fn t i k≠0)
def ka (S:bp × List (Nat × Nat)) (k:Nat):bp × List (Nat × Nat) :=
 match findFree S.1 S.2 k with
 | some i=>(fe S.1 i k,S.2++[(k,i)])
 | none=>S
def aQ (M:bp) (n:Nat):bp × List (Nat × Nat):=(List.range n).foldl ka (M,[])
theorem gO (M:bp) (n:Nat):aQ M (n+1)=ka (aQ M n) n:=by
 unfold aQ;rw[List.range_succ,List.foldl_append];rfl
structure RefRed (M:bp) (n w:Nat) (S:bp × List (Nat × Nat)):Prop where
 len:S.1.length=M.length
 rct:cj S.1 w
 eqv:RowEq M.length w (fn M) (fn S.1)
 red:Red M.length n (fn S.1) S.2
theorem jf {M:bp}{w:Nat}(h:cj M w):∀ n,n≤w→RefRed M n w (aQ M n):=by
 intro n
 induction n with
 | zero=>exact fun _=>⟨rfl,h,RowEq.refl _ _ _,Red.nil _ _⟩
 | succ n ih =>
  intro hn;obtain⟨h1,h2,h3,h4⟩:=ih (by omega);rw[gO]
  generalize aQ M n=S at *
  obtain⟨t,ps⟩:=S
  simp only at h1 h2 h3 h4
  unfold ka
  simp only
  cases hf:findFree t ps n with
  | none =>
   refine⟨h1,h2,h3,h4.skip fun i hi hu=>?_⟩;unfold findFree at hf;rw[List.find?_eq_none] at hf;have h5:=hf i (DT.2 (by omega));rw[usedB_false.2 hu] at h5
   simpa using h5
  | some i =>
   unfold findFree at hf;have h5:=List.find?_some hf;have h6:=List.mem_of_find?_eq_some hf;rw[DT] at h6
   simp only[Bool.and_eq_true,Bool.not_eq_true',decide_eq_true_eq] at h5
   have e3:∀ j k,j<M.length→k<w→fn (fe t i n) j k=piv (fn t) i n j k:=fun j k hj hk=>rF h2 h6 (by omega) hk;exact⟨by rw[eZ,h1],mF h2 h6,(h3.trans (RowEq.piv (by omega) h5.2)).congr e3,(h4.step (by omega) (usedB_false.1 h5.1) h5.2).congr fun j k hj hk=>e3 j k hj (by omega)⟩
def gg (t:bp) (ps:List (Nat × Nat)) (n:Nat):Bool:=(List.range t.length).all fun i=>ge ps i || decide (fn t i n=0)
theorem sw {t:bp}{ps:List (Nat × Nat)}{n:Nat}:gg t ps n=true ↔ ∀ i,i<t.length→(∀ p∈ps,p.2≠i)→fn t i n=0:=by
 unfold gg;rw[List.all_eq_true]
 constructor
 · intro h i hi hu;have h1:=h i (DT.2 hi);rw[usedB_false.2 hu] at h1
   simpa using h1
 · intro h i hi;rw[DT] at hi
   cases hb:ge ps i with
   | true=>rfl
   | false=>simpa using h i hi (usedB_false.1 hb)
def tF (M:bp) (b:List Rat):Option (List Rat) :=
 let S:=aQ (bG M b) (colsL M)
 if gg S.1 S.2 (colsL M)=true then some (nJ (colsL M) S.2 fun i=>fn S.1 i (colsL M)) else none
theorem yx {M:bp}{b:List Rat}(h:aW M=true) (hb:b.length=M.length):cN M b=tF M b:=by
 have hr:=cZ h;have hw:=eS (b:=b) hr;have h1:=eg hw (colsL M) (by omega);have h2:=jf hw (colsL M) (by omega);unfold cN tF
 generalize reduceL (bG M b) (colsL M)=S at *
 generalize aQ (bG M b) (colsL M)=S' at *
 have h3:=ym h1.red h1.eqv h2.red h2.eqv
 have e1:ed S.1 S.2.length (colsL M)=true ↔ gg S'.1 S'.2 (colsL M)=true:=by
  rw[restZero_iff,sw,h1.len,h2.len];exact h3.1
 by_cases hz:ed S.1 S.2.length (colsL M)=true
 · simp only[if_pos hz,if_pos (e1.1 hz)]
   congr 1
   unfold nJ;refine List.map_congr_left fun k hk=>?_;rw[DT] at hk;rw[restZero_iff,h1.len] at hz;exact h3.2 hz k hk
 · simp only[if_neg hz,if_neg fun hq=>hz (e1.2 hq)]
theorem jZ {M:bp}{b x:List Rat}(h:aW M=true) (hb:b.length=M.length) (hs:cN M b=some x):x.length=colsL M∧gG M x=b∧∀ k,k<colsL M→kU M k=false→x.getD k 0=0:=by
 have hr:=cZ h;have hw:=eS (b:=b) hr;have h1:=eg hw (colsL M) (by omega)
 have d:∀ k,k<colsL M→(kU M k=true ↔ k∈(reduceL (bG M b) (colsL M)).2):=by
  intro k hk
  have e:kU M k=kU (bG M b) k:=by
   have e2:∀ j,j≤colsL M→fp (bG M b) j=fp M j:=by
    intro j hj
    apply List.ext_getElem (by simp[fp,bG,hb])
    intro i g c;have hi:i<M.length:=by simpa [fp] using c
    simp only[fp,bG,List.getElem_map,List.getElem_zipWith]
    rw[List.take_append_of_le_length (by rw[hr _ (Dy hi)];exact hj)]
   unfold kU;rw[e2 k (by omega),e2 (k+1) (by omega)]
  rw[e];exact xC h1 hw hk (by omega)
 unfold cN at hs
 generalize reduceL (bG M b) (colsL M)=S at *
 simp only at hs
 split at hs
 · rename_i hz
   injection hs with hs
   subst hs;rw[restZero_iff,h1.len] at hz;have m:=fg hb;have h2:=(gh h1.red h1.eqv).2 hz;refine⟨it _ _ _,?_,fun k hk hp=>?_⟩
   · apply List.ext_getElem (by simp[gG,hb])
     intro i g c;have hi:i<M.length:=by omega
     have h3:=h2 i (by omega);rw[kC hr hb hi] at h3;rw[oe hi,nS (hr _ (Dy hi)) (it _ _ _)];rw[Dk,Dl c] at h3;refine Eq.trans (ak fun k hk=>?_) h3;rw[oM hk,sY hr hb hi hk];unfold fn;rw[Dk (l:=M),Dl hi]
     rfl
   · rw[oM hk,eV];intro p f e
     have hm:k∈S.2:=by
      obtain⟨a,i⟩:=p;have:=List.mem_zipIdx f
      simp at this e
      rw[←e,this.2];exact Dy _
     rw[(d k hk).2 hm] at hp
     cases hp
 · cases hs
theorem ku {M:bp}{b x:List Rat}(h:aW M=true) (hx:x.length=colsL M) (hb:gG M x=b):cN M b≠none:=by
 have hr:=cZ h;have c:b.length=M.length:=by rw[←hb];simp[gG]
 have hw:=eS (b:=b) hr;have h1:=eg hw (colsL M) (by omega);have d:=fg c;unfold cN
 generalize reduceL (bG M b) (colsL M)=S at *
 simp only
 have hs:Sol (bG M b).length (colsL M) (fn (bG M b)) fun k=>x.getD k 0:=by
  intro i hi;rw[d] at hi;rw[kC hr c hi]
  have e:b.getD i 0=zT (M.getD i []) x:=by
   rw[←hb];unfold gG;rw[Dk,Dq,Dk,Dl hi];rfl
  rw[e,nS (ei hr hi) hx];exact ak fun k hk=>by rw[sY hr c hi hk];rfl
 rw[if_pos (restZero_iff.2 (by rw[h1.len];exact (gh h1.red h1.eqv).1.2 ⟨_,hs⟩))]
 simp
end Go.Proofs.YtjhkapjadfpimaaGreat.Plain
