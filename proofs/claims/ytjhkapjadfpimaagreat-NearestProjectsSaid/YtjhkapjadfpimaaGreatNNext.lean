/- Contracts of functions, for the law. -/
import Derived.Test.YtjhkapjadfpimaaGreatTw
namespace Go.Proofs.YtjhkapjadfpimaaGreat.Plain
set_option linter.unusedVariables false
set_option linter.unusedSimpArgs false
def ip (n:Nat) (a b:Nat→Rat):Rat:=sm n fun i=>a i*b i
def lc (p:Nat) (y:Nat→Rat) (N:Nat→Nat→Rat) (i:Nat):Rat:=sm p fun j=>y j*N j i
def LI (p n:Nat) (N:Nat→Nat→Rat):Prop:=∀ c:Nat→Rat,(∀ i,i<n→lc p c N i=0)→∀ j,j<p→c j=0
section
variable {n p:Nat}{a b c y:Nat→Rat}{N:Nat→Nat→Rat}{t:Rat}
theorem D9 (n:Nat) (a b:Nat→Rat):ip n a b=ip n b a:=j7 fun i _=>by grind
theorem D3 {a' b':Nat→Rat}(h:∀ i,i<n→a i=a' i) (h':∀ i,i<n→b i=b' i):ip n a b=ip n a' b':=j7 fun i hi=>by rw[h i hi,h' i hi]
theorem qG (n:Nat) (a b c:Nat→Rat):ip n (fun i=>a i+b i) c=ip n a c+ip n b c:=by
 unfold ip;rw[←bK];exact j7 fun i _=>by grind
theorem jU (n:Nat) (t:Rat) (a c:Nat→Rat):ip n (fun i=>t*a i) c=t*ip n a c:=by
 unfold ip;rw[←T8];exact j7 fun i _=>by grind
theorem vE (n:Nat) (a b c:Nat→Rat):ip n (fun i=>a i-b i) c=ip n a c-ip n b c:=by
 unfold ip;rw[←Z3];exact j7 fun i _=>by grind
theorem Q8 (n:Nat) (a b c:Nat→Rat):ip n c (fun i=>a i+b i)=ip n c a+ip n c b:=by
 rw[D9,qG,D9 n a,D9 n b]
theorem U6 (n:Nat) (t:Rat) (a c:Nat→Rat):ip n c (fun i=>t*a i)=t*ip n c a:=by
 rw[D9,jU,D9 n a]
theorem jT (n:Nat) (a b c:Nat→Rat):ip n c (fun i=>a i-b i)=ip n c a-ip n c b:=by
 rw[D9,vE,D9 n a,D9 n b]
theorem Y4 (n p:Nat) (y:Nat→Rat) (N:Nat→Nat→Rat) (a:Nat→Rat):ip n (lc p y N) a=sm p fun j=>y j*ip n (N j) a:=by
 unfold ip lc;rw[j7 (g:=fun i=>sm p (fun j=>y j*(N j i*a i))) (fun i _=>by rw[←wT];exact j7 fun j _=>by grind),wR];exact j7 fun j _=>T8 _ _ _
theorem gT (q:Rat):0≤q*q:=by
 rcases (Rat.le_total:0≤q∨q≤0) with h | h
 · exact Rat.mul_nonneg h h
 · have h2:0≤-q:=by grind
   have:=Rat.mul_nonneg h2 h2
   grind
theorem cN {f:Nat→Rat}(h:∀ k,k<n→0≤f k):0≤sm n f:=by
 have:=sm_le (n:=n) (f:=fun _=>0) (g:=f) h;rw[pF] at this;exact this
theorem kP {f:Nat→Rat}(h:∀ k,k<n→0≤f k) (hz:sm n f=0):∀ k,k<n→f k=0:=by
 induction n with
 | zero=>exact fun k hk=>by omega
 | succ n ih =>
  have h1:=cN (n:=n) (f:=f) fun k hk=>h k (by omega);have h2:=h n (by omega);have h3:sm n f+f n=0:=hz;have h4:sm n f=0:=by grind
  intro k hk
  rcases Nat.lt_succ_iff_lt_or_eq.1 hk with h5 | rfl
  · exact ih (fun k hk=>h k (by omega)) h4 k h5
  · grind
theorem jV (n:Nat) (a:Nat→Rat):0≤ip n a a:=cN fun k _=>gT _
theorem S6 (h:ip n a a=0):∀ i,i<n→a i=0:=fun i hi=>by
 have h1:=kP (fun k _=>gT (a k)) h i hi
 rcases Rat.mul_eq_zero.1 h1 with h2 | h2 <;> exact h2
theorem gram_inj (h:LI p n N) (hc:∀ j,j<p→sm p (fun l=>ip n (N j) (N l)*c l)=0):∀ j,j<p→c j=0:=by
 apply h
 apply S6 (a:=lc p c N)
 rw[Y4];refine B7 fun j hj=>?_;rw[D9,Y4,j7 (g:=fun l=>ip n (N j) (N l)*c l) (fun l _=>by rw[D9 n (N l)];grind),hc j hj];grind
theorem vH (h:LI p n N) (b:Nat→Rat):∃ c:Nat→Rat,∀ j,j<p→sm p (fun l=>ip n (N j) (N l)*c l)=b j:=by
 obtain⟨v,⟨k,hk,hv⟩,hz⟩:=eS p (p+1) (fun j l=>if l<p then ip n (N j) (N l) else b j) (by omega)
 have hs:∀ j,j<p→sm p (fun l=>ip n (N j) (N l)*v l)+b j*v p=0:=fun j hj=>by
  have h1:=hz j hj;have h2:sm p (fun l=>(if l<p then ip n (N j) (N l) else b j)*v l)+(if p<p then ip n (N j) (N p) else b j)*v p=0:=h1;rw[if_neg (by omega),j7 (g:=fun l=>ip n (N j) (N l)*v l) (fun l hl=>by rw[if_pos hl])] at h2;exact h2
 by_cases h0:v p=0
 · exfalso
   have h1:=gram_inj h (c:=v) fun j hj=>by have:=hs j hj;rw[h0] at this;grind
   rcases Nat.lt_succ_iff_lt_or_eq.1 hk with h5 | rfl
   · exact hv (h1 k h5)
   · exact hv h0
 · refine⟨fun l=>-(1 / v p)*v l,fun j hj=>?_⟩;rw[j7 (g:=fun l=>-(1 / v p)*(ip n (N j) (N l)*v l)) (fun l _=>by grind),T8];have h1:=hs j hj;have h2:sm p (fun l=>ip n (N j) (N l)*v l)=-(b j*v p):=by grind
   rw[h2]
   grind
theorem LI.le (h:LI p n N):p≤n:=by
 refine Nat.le_of_not_lt fun hl=>?_;obtain⟨v,⟨k,hk,hv⟩,hz⟩:=eS n p (fun i j=>N j i) hl;exact hv (h v (fun i hi=>by have:=hz i hi;unfold lc;rw[j7 (g:=fun j=>N j i*v j) (fun j _=>by grind)];exact this) k hk)
theorem LI.congr {N':Nat→Nat→Rat}(h:LI p n N) (e:∀ j i,j<p→i<n→N' j i=N j i):LI p n N':=fun c hc=>h c fun i hi=>by
 rw[←hc i hi];exact j7 fun j hj=>by rw[e j i hj hi]
theorem LI.snoc {v z r:Nat→Rat}(h:LI p n N) (hz:∀ i,i<n→z i=v i-lc p r N i) (ho:∀ j,j<p→ip n (N j) z=0) (hp:ip n z z≠0):LI (p+1) n (fun j=>if j<p then N j else v):=fun c hc=>by
 have e:∀ i,i<n→lc p c N i+c p*v i=0:=fun i hi=>by
  have h1:=hc i hi;have h2:sm p (fun j=>c j*(if j<p then N j else v) i)+c p*(if p<p then N p else v) i=0:=h1;rw[if_neg (by omega),j7 (g:=fun j=>c j*N j i) (fun j hj=>by rw[if_pos hj])] at h2;exact h2
 have hv:ip n v z=ip n z z:=by
  have h1:ip n z z=ip n (fun i=>v i-lc p r N i) z:=D3 hz fun _ _=>rfl;rw[h1,vE,Y4,B7 fun j hj=>by rw[ho j hj];grind];grind
 have h1:ip n (fun i=>lc p c N i+c p*v i) z=0:=by
  unfold ip;exact B7 fun i hi=>by
   show (lc p c N i+c p*v i)*z i=0
   rw[e i hi];grind
 rw[qG,jU,Y4,B7 fun j hj=>by rw[ho j hj];grind,hv] at h1
 have h2:c p=0:=by
  have h3:c p*ip n z z=0:=by grind
  rcases Rat.mul_eq_zero.1 h3 with h4 | h4
  · exact h4
  · exact absurd h4 hp
 have h3:=h c fun i hi=>by have:=e i hi;rw[h2] at this;grind
 intro j hj
 rcases Nat.lt_succ_iff_lt_or_eq.1 hj with h5 | rfl
 · exact h3 j h5
 · exact h2
theorem wS {f:Nat→Rat}{t:Nat}(ht:t≤p) (h:f t=0):sm (p+1) f=sm p fun l=>f (if l<t then l else l+1):=by
 induction p with
 | zero =>
  have:t=0:=by omega
  subst this
  show sm 0 f+f 0=sm 0 _
  rw[h];unfold sm;grind
 | succ p ih =>
  by_cases e:t=p+1
  · subst e
    show sm (p+1) f+f (p+1)=_
    rw[h,j7 (g:=f) (f:=fun l=>f (if l<p+1 then l else l+1)) (fun l hl=>by rw[if_pos hl])]
    grind
  · show sm (p+1) f+f (p+1)=sm p (fun l=>f (if l<t then l else l+1))+f (if p<t then p else p+1)
    rw[ih (by omega),if_neg (by omega)]
theorem LI.drop {t:Nat}(h:LI (p+1) n N) (ht:t≤p):LI p n (fun l=>N (if l<t then l else l+1)):=fun c hc=>by
 have h1:=h (fun l=>if l<t then c l else if l=t then 0 else c (l-1)) fun i hi=>by
  refine Eq.trans ?_ (hc i hi);unfold lc;rw[wS ht (by show (if t<t then c t else if t=t then 0 else c (t-1))*N t i=0;rw[if_neg (by omega),if_pos rfl];grind)];refine j7 fun l hl=>?_
  show (if (if l<t then l else l+1)<t then c (if l<t then l else l+1) else if (if l<t then l else l+1)=t then 0 else c ((if l<t then l else l+1)-1))*N (if l<t then l else l+1) i=c l*N (if l<t then l else l+1) i
  by_cases e:l<t
  · simp only[if_pos e]
  · simp only[if_neg e]
    rw[if_neg (by omega),if_neg (by omega),a3n]
 intro j hj
 by_cases e:j<t
 · have:=h1 j (by omega);simpa [e] using this
 · have:=h1 (j+1) (by omega);rw[if_neg (by omega),if_neg (by omega),a3n] at this;exact this
theorem dir_orth {v z r:Nat→Rat}(hz:∀ i,i<n→z i=v i-lc p r N i) (hr:∀ j,j<p→sm p (fun l=>ip n (N j) (N l)*r l)=ip n (N j) v):∀ j,j<p→ip n (N j) z=0:=fun j hj=>by
 rw[D3 (a':=N j) (fun _ _=>rfl) hz,jT,D9 n (N j) (lc p r N),Y4,←hr j hj];have:sm p (fun l=>ip n (N j) (N l)*r l)=sm p (fun l=>r l*ip n (N l) (N j)):=j7 fun l _=>by rw[D9 n (N l)];grind
 rw[this];grind
theorem dA {v z r:Nat→Rat}(hz:∀ i,i<n→z i=v i-lc p r N i) (ho:∀ j,j<p→ip n (N j) z=0):ip n z v=ip n z z:=by
 have h1:ip n z z=ip n (fun i=>v i-lc p r N i) z:=D3 hz fun _ _=>rfl;rw[h1,vE,Y4,B7 fun j hj=>by rw[ho j hj];grind,D9];grind
structure Pt (p n:Nat) (N:Nat→Nat→Rat) (b tg y x v:Nat→Rat) (m:Rat):Prop where
 kkt:∀ i,i<n→x i=tg i+lc p y N i+m*v i
 eqs:∀ j,j<p→ip n (N j) x=b j
theorem Pt.unique {b tg y' x x' v v':Nat→Rat}(hl:LI p n N) (h:Pt p n N b tg y x v 0) (h':Pt p n N b tg y' x' v' 0):(∀ i,i<n→x i=x' i)∧∀ j,j<p→y j=y' j:=by
 have hd:∀ i,i<n→x i-x' i=lc p (fun j=>y j-y' j) N i:=fun i hi=>by
  rw[h.kkt i hi,h'.kkt i hi]
  have:lc p (fun j=>y j-y' j) N i=lc p y N i-lc p y' N i:=by
   unfold lc;rw[←Z3];exact j7 fun j _=>by grind
  rw[this];grind
 have h0:ip n (fun i=>x i-x' i) (fun i=>x i-x' i)=0:=by
  rw[D3 (a':=lc p (fun j=>y j-y' j) N) hd (fun _ _=>rfl),Y4];exact B7 fun j hj=>by rw[jT,h.eqs j hj,h'.eqs j hj];grind
 have h1:=S6 h0;have h2:=hl (fun j=>y j-y' j) fun i hi=>by rw[←hd i hi];exact h1 i hi
 exact⟨fun i hi=>by have:=h1 i hi;grind,fun j hj=>by have:=h2 j hj;grind⟩
theorem Pt.back {b tg x v z r:Nat→Rat}{m:Rat}(h:Pt p n N b tg y x v m) (hz:∀ i,i<n→z i=v i-lc p r N i) (ho:∀ j,j<p→ip n (N j) z=0):Pt p n N b tg (fun j=>y j+m*r j) (fun i=>x i-m*z i) v 0 :=
 ⟨fun i hi=>by
  rw[h.kkt i hi,hz i hi]
  have:lc p (fun j=>y j+m*r j) N i=lc p y N i+m*lc p r N i:=by
   unfold lc;rw[←T8,←bK];exact j7 fun j _=>by grind
  rw[this];grind,fun j hj=>by rw[jT,U6,ho j hj,h.eqs j hj];grind⟩
theorem Pt.step {b tg x v z r:Nat→Rat}{m:Rat}(t:Rat) (h:Pt p n N b tg y x v m) (hz:∀ i,i<n→z i=v i-lc p r N i) (ho:∀ j,j<p→ip n (N j) z=0):Pt p n N b tg (fun j=>y j-t*r j) (fun i=>x i+t*z i) v (m+t) :=
 ⟨fun i hi=>by
  rw[h.kkt i hi,hz i hi]
  have:lc p (fun j=>y j-t*r j) N i=lc p y N i-t*lc p r N i:=by
   unfold lc;rw[←T8,←Z3];exact j7 fun j _=>by grind
  rw[this];grind,fun j hj=>by rw[Q8,U6,ho j hj,h.eqs j hj];grind⟩
theorem Pt.congr {N':Nat→Nat→Rat}{b b' tg y' x x' v v':Nat→Rat}{m:Rat}(h:Pt p n N b tg y x v m) (hN:∀ j i,j<p→i<n→N' j i=N j i) (hb:∀ j,j<p→b' j=b j) (hy:∀ j,j<p→y' j=y j) (hx:∀ i,i<n→x' i=x i) (hv:∀ i,i<n→v' i=v i):Pt p n N' b' tg y' x' v' m :=
 ⟨fun i hi=>by
  rw[hx i hi,hv i hi,h.kkt i hi];have:lc p y' N' i=lc p y N i:=j7 fun j hj=>by rw[hy j hj,hN j i hj hi]
  rw[this],fun j hj=>by rw[hb j hj,←h.eqs j hj];exact D3 (fun i hi=>hN j i hj hi) hx⟩
theorem Pt.drop {b tg x v:Nat→Rat}{m:Rat}{t:Nat}(h:Pt (p+1) n N b tg y x v m) (ht:t≤p) (hy:y t=0):Pt p n (fun l=>N (if l<t then l else l+1)) (fun l=>b (if l<t then l else l+1)) tg (fun l=>y (if l<t then l else l+1)) x v m :=
 ⟨fun i hi=>by
  rw[h.kkt i hi]
  have:lc (p+1) y N i=lc p (fun l=>y (if l<t then l else l+1)) (fun l=>N (if l<t then l else l+1)) i:=by
   unfold lc;exact wS ht (by rw[hy];grind)
  rw[this],fun j hj=>h.eqs _ (by split <;> omega)⟩
theorem Pt.enter {b tg x v v':Nat→Rat}{m c:Rat}(h:Pt p n N b tg y x v m) (hc:ip n v x=c):Pt (p+1) n (fun j=>if j<p then N j else v) (fun j=>if j<p then b j else c) tg (fun j=>if j<p then y j else m) x v' 0 :=
 ⟨fun i hi=>by
  have h1:lc (p+1) (fun j=>if j<p then y j else m) (fun j=>if j<p then N j else v) i=lc p y N i+m*v i:=by
   show sm p (fun j=>(if j<p then y j else m)*(if j<p then N j else v) i)+(if p<p then y p else m)*(if p<p then N p else v) i=_
   rw[if_neg (by omega),if_neg (by omega),j7 (g:=fun j=>y j*N j i) (fun j hj=>by rw[if_pos hj,if_pos hj])];rfl
  rw[h1,h.kkt i hi];grind,fun j hj=>by
  by_cases e:j<p
  · simp only[if_pos e];exact h.eqs j e
  · simp only[if_neg e];exact hc⟩
def jK (n:Nat) (x tg v:Nat→Rat) (m l:Rat):Rat:=ip n (fun i=>x i-tg i) (fun i=>x i-tg i)+2*m*(l-ip n v x)
theorem Pt.dual {b tg x v z r:Nat→Rat}{m l:Rat}(t:Rat) (h:Pt p n N b tg y x v m) (hz:∀ i,i<n→z i=v i-lc p r N i) (ho:∀ j,j<p→ip n (N j) z=0) :
 jK n (fun i=>x i+t*z i) tg v (m+t) l=jK n x tg v m l+t*(2*(l-ip n v x)-t*ip n z v):=by
 have hs:=dA hz ho
 have h1:ip n (fun i=>x i+t*z i-tg i) (fun i=>x i+t*z i-tg i)=ip n (fun i=>x i-tg i) (fun i=>x i-tg i)+2*t*ip n z (fun i=>x i-tg i)+t*t*ip n z z:=by
  rw[D3 (a:=fun i=>x i+t*z i-tg i) (b:=fun i=>x i+t*z i-tg i) (a':=fun i=>(x i-tg i)+t*z i) (b':=fun i=>(x i-tg i)+t*z i) (fun i _=>by grind) (fun i _=>by grind)];rw[qG,Q8,Q8,jU,jU,U6,U6,D9 n (fun i=>x i-tg i) z];grind
 have h2:ip n z (fun i=>x i-tg i)=m*ip n z v:=by
  rw[D3 (a':=z) (b':=fun i=>lc p y N i+m*v i) (fun _ _=>rfl) (fun i hi=>by rw[h.kkt i hi];grind),Q8,U6,D9 n z (lc p y N),Y4,B7 fun j hj=>by rw[ho j hj];grind];grind
 have h3:ip n v (fun i=>x i+t*z i)=ip n v x+t*ip n z v:=by rw[Q8,U6,D9 n v z]
 unfold jK;rw[h1,h2,h3,←hs];grind
theorem no_point {b x v r z u:Nat→Rat}{l:Rat}(hz:∀ i,i<n→z i=v i-lc p r N i) (ho:∀ j,j<p→ip n (N j) z=0) (hs:ip n z v≤0) (hx:∀ j,j<p→ip n (N j) x=b j) (h0:0<p→ip n (N 0) u=b 0) (hr:∀ j,0<j→j<p→r j≤0) (hu:∀ j,0<j→j<p→b j≤ip n (N j) u) (hl:ip n v x<l):ip n v u<l:=by
 have c:∀ i,i<n→z i=0:=S6 (by
  have h1:=dA hz ho;have h2:=jV n z
  grind)
 have hv:∀ i,i<n→v i=lc p r N i:=fun i hi=>by have:=hz i hi;rw[c i hi] at this;grind
 have d:ip n v u=sm p fun j=>r j*ip n (N j) u:=by rw[D3 hv (fun _ _=>rfl),Y4]
 have f:ip n v x=sm p fun j=>r j*b j:=by rw[D3 hv (fun _ _=>rfl),Y4];exact j7 fun j hj=>by rw[hx j hj]
 have:ip n v u≤ip n v x:=by
  rw[d,f];refine sm_le fun j hj=>?_
  by_cases e:j=0
  · subst e;rw[h0 hj];exact Rat.le_refl
  · have h1:=hr j (by omega) hj;have h2:=hu j (by omega) hj;have h3:=lM h2 (show (0:Rat)≤-(r j) by grind)
    grind
 grind
theorem Pt.nearest {b tg x v u:Nat→Rat}(h:Pt p n N b tg y x v 0) (h0:0<p→ip n (N 0) u=b 0) (hy:∀ j,0<j→j<p→0≤y j) (hu:∀ j,0<j→j<p→b j≤ip n (N j) u):ip n (fun i=>x i-tg i) (fun i=>x i-tg i)+ip n (fun i=>u i-x i) (fun i=>u i-x i)≤ip n (fun i=>u i-tg i) (fun i=>u i-tg i):=by
 have h1:ip n (fun i=>u i-tg i) (fun i=>u i-tg i)=ip n (fun i=>x i-tg i) (fun i=>x i-tg i)+ip n (fun i=>u i-x i) (fun i=>u i-x i)+2*ip n (fun i=>x i-tg i) (fun i=>u i-x i):=by
  rw[D3 (a:=fun i=>u i-tg i) (b:=fun i=>u i-tg i) (a':=fun i=>(u i-x i)+(x i-tg i)) (b':=fun i=>(u i-x i)+(x i-tg i)) (fun i _=>by grind) (fun i _=>by grind)];rw[qG,Q8,Q8,D9 n (fun i=>u i-x i) (fun i=>x i-tg i)];grind
 have h2:0≤ip n (fun i=>x i-tg i) (fun i=>u i-x i):=by
  rw[D3 (a':=lc p y N) (b':=fun i=>u i-x i) (fun i hi=>by rw[h.kkt i hi];grind) (fun _ _=>rfl),Y4];refine cN fun j hj=>?_;rw[jT,h.eqs j hj]
  by_cases e:j=0
  · subst e;rw[h0 hj];have:b 0-b 0=(0:Rat):=by grind
    rw[this];grind
  · have h3:=hy j (by omega) hj;have h4:=hu j (by omega) hj;exact Rat.mul_nonneg h3 (by grind)
 rw[h1];grind
end
end Go.Proofs.YtjhkapjadfpimaaGreat.Plain
namespace Go.Proofs.YtjhkapjadfpimaaGreat
set_option linter.unusedVariables false
set_option linter.unusedSimpArgs false
open Go.RowKit Plain
theorem dK (M:C4) (x:List Rat):(T5 M x).length=M.length:=by simp[T5]
theorem kM {K:Nat}{M:C4}{b z:List Rat}(hK0:0<K) (h:A0 M=true) (hf:MFits K M) (hb:QFits K b) (hbl:b.length=M.length) (hz:G6 M b=some z):QFits (gK K (colsL M)) z:=by
 unfold G6 at hz
 simp only at hz
 split at hz
 · injection hz with hz
   subst hz;have hr:=H5 h;have hw:E9 (C9 M b) (colsL M+1):=N0 hr;have h1:=L3 hw (colsL M) (by omega);have h2:=Z8 (eC hf hb) hw (colsL M) (by omega);intro q hq;obtain⟨k,hk,rfl⟩:=a2v.1 hq
   by_cases e:∃ p∈(reduceL (C9 M b) (colsL M)).2.zipIdx,p.1=k
   · obtain⟨p,hp,rfl⟩:=e;rw[qY h1.red.col hp];exact h2.fn h1.rct (by rw[h1.len];exact (h1.red.lt p hp).2) (by omega)
   · rw[N3 fun p hp e2=>e ⟨p,hp,e2⟩];exact Fits.zero (a1o hK0 (gK_le K _))
 · cases hz
def gt (l:List Rat) (i:Nat):Rat:=l.getD i 0
theorem O9 {n:Nat}{a b:List Rat}(ha:a.length=n) (hb:b.length=n):F8 a b=ip n (gt a) (gt b):=jZ ha hb
theorem Q0 {M:C4}{n:Nat}(h:E9 M n) (hl:0<M.length):A0 M=true∧colsL M=n:=by
 cases M with
 | nil=>simp at hl
 | cons r T =>
  have h1:colsL (r::T)=n:=h r a2o;refine⟨?_,h1⟩;unfold A0;rw[List.all_eq_true];intro x hx;rw[h1];exact a1w (h x hx)
def ConN (n:Nat) (all:List Con):Prop:=∀ c∈all,c.normal.length=n
theorem ConN.nrm {n k:Nat}{all:List Con}(h:ConN n all) (hk:k<all.length):(nrm all k).length=n:=by
 rw[Q1 (a1m hk)];exact h _ (a1z hk)
section
variable {n k:Nat}{all:List Con}{A:List Nat}
theorem t8 (n:Nat) (all:List Con) (A:List Nat):(j8 n all A).length=A.length+1:=by simp[j8]
theorem F9 (h:ConN n all) (hA:∀ a∈A,a<all.length):E9 (j8 n all A) n:=fun r hr=>by
 unfold j8 at hr
 rcases a3i.1 hr with rfl | hr
 · exact a1p
 · obtain⟨a,ha,rfl⟩:=a2v.1 hr;exact h.nrm (hA a ha)
theorem C8 (M:C4):(M2 M).length=M.length:=by simp[M2]
theorem L6 (M:C4):E9 (M2 M) M.length:=fun r hr=>by
 obtain⟨a,ha,rfl⟩:=a2v.1 hr
 simp
theorem J6 (M:C4) (v:List Rat):(M4 M v).length=M.length:=by simp[M4]
theorem p7 {α:Type}{l:List α}{j:Nat}(d:α) (hj:j<l.length):l.getD j d=l[j]:=by rw[a1l,a1m hj];rfl
theorem gY {M:C4}{j:Nat}(hj:j<M.length):gt M[j]=fn M j:=by
 funext i;unfold gt fn;rw[p7 [] hj]
theorem gramS_fn {M:C4}{j l:Nat}(hr:E9 M n) (hj:j<M.length) (hl:l<M.length):fn (M2 M) j l=ip n (fn M j) (fn M l):=by
 unfold fn;rw[p7 [] (by rw[C8];exact hj)];have e:(M2 M)[j]'(by rw[C8];exact hj)=M.map (F8 M[j]):=by simp[M2]
 rw[e,p7 0 (by simpa using hl),List.getElem_map,O9 (hr _ (a1z hj)) (hr _ (a1z hl)),gY hj,gY hl];rfl
theorem uM {M:C4}{v:List Rat}{j:Nat}(hr:E9 M n) (hv:v.length=n) (hj:j<M.length):(M4 M v).getD j 0=ip n (fn M j) (gt v):=by
 rw[p7 0 (by rw[J6];exact hj)];have e:(M4 M v)[j]'(by rw[J6];exact hj)=F8 M[j] v:=by simp[M4]
 rw[e,O9 (hr _ (a1z hj)) hv,gY hj]
theorem lZ {M:C4}{b:List Rat}(hr:E9 M n) (h0:0<M.length) (hl:LI M.length n (fn M)) (hb:b.length=M.length) :
 ∃ r,G6 (M2 M) b=some r∧r.length=M.length∧∀ j,j<M.length→sm M.length (fun l=>ip n (fn M j) (fn M l)*gt r l)=gt b j:=by
 obtain⟨c,hc⟩:=vH hl (gt b);have hf:=Q0 (L6 M) (by rw[C8];exact h0)
 have ht:∀ x:List Rat,x.length=M.length→∀ j,j<M.length→(T5 (M2 M) x).getD j 0=sm M.length fun l=>ip n (fn M j) (fn M l)*gt x l:=fun x hx j hj=>by
  have d:j<(M2 M).length:=by rw[C8];exact hj
  rw[p7 0 (by rw[dK];exact d),kK d,jZ (n:=M.length) (L6 M _ (a1z d)) hx];refine j7 fun l hl=>?_;rw[←gramS_fn hr hj hl];unfold fn gt;rw[p7 [] d]
 have h:G6 (M2 M) b≠none:=by
  refine dM (x:=(List.range M.length).map c) hf.1 (by rw[hf.2];simp) (List.ext_getElem (by rw[dK,C8,hb]) fun j h1 h2=>?_);have hj:j<M.length:=by rw[hb] at h2;exact h2
  have h3:=ht ((List.range M.length).map c) (by simp) j hj;rw[p7 0 h1] at h3;rw[h3,←p7 0 h2];have h4:=hc j hj;unfold gt at h4;rw[←h4];refine j7 fun l hl=>?_;unfold gt;rw[aB hl]
 obtain⟨r,f⟩:=Option.ne_none_iff_exists'.1 h;have hs:=cL hf.1 (by rw[C8];exact hb) f;have g:r.length=M.length:=by rw[hs.1,hf.2]
 refine⟨r,f,g,fun j hj=>?_⟩;rw[←ht r g j hj,hs.2.1];rfl
theorem nV {z a:List Rat}{c:Rat}(hz:z.length=n) (ha:a.length=n):(lU z c a).length=n:=by unfold lU;rw[a3o,hz,ha,Nat.min_self]
theorem nW {z a:List Rat}{c:Rat}{i:Nat}(hz:z.length=n) (ha:a.length=n) (hi:i<n):gt (lU z c a) i=gt z i-c*gt a i:=by
 unfold gt;rw[p7 0 (by rw[nV hz ha];exact hi),p7 0 (by rw[hz];exact hi),p7 0 (by rw[ha];exact hi)]
 simp[lU]
theorem dZ {M:C4}{r v:List Rat}(hr:E9 M n) (hv:v.length=n):∀ j,j≤M.length→(oX M r v j).length=n∧∀ i,i<n→gt (oX M r v j) i=gt v i-lc j (gt r) (fn M) i:=by
 intro j
 induction j with
 | zero=>exact fun _=>⟨hv,fun i hi=>by show gt v i=gt v i-0;grind⟩
 | succ j ih =>
  intro hj;obtain⟨h1,h2⟩:=ih (by omega);have h3:(M.getD j []).length=n:=L4 hr (by omega);refine⟨nV h1 h3,fun i hi=>?_⟩
  show gt (lU (oX M r v j) (r.getD j 0) (M.getD j [])) i=gt v i-(lc j (gt r) (fn M) i+gt r j*fn M j i)
  rw[nW h1 h3 hi,h2 i hi]
  show gt v i-lc j (gt r) (fn M) i-gt r j*fn M j i=_
  grind
structure Dir (n:Nat) (all:List Con) (A:List Nat) (k:Nat) (z:List Rat) (lev:Rat) (rates:List Rat):Prop where
 is:mJ n all A k=some (z,lev,rates)
 lz:z.length=n
 lr:rates.length=A.length
 zz:∀ i,i<n→gt z i=gt (nrm all k) i-lc (A.length+1) (gt (lev::rates)) (fn (j8 n all A)) i
 or:∀ j,j<A.length+1→ip n (fn (j8 n all A) j) (gt z)=0
theorem vP (h:ConN n all) (hA:∀ a∈A,a<all.length) (hk:k<all.length) (hl:LI (A.length+1) n (fn (j8 n all A))):∃ z lev rates,Dir n all A k z lev rates:=by
 have hM:=t8 n all A;have hr:=F9 (n:=n) h hA;have hv:=h.nrm hk;rw[←hM] at hl;obtain⟨r,h1,h2,h3⟩:=lZ (b:=M4 (j8 n all A) (nrm all k)) hr (by omega) hl (J6 _ _);obtain⟨h4,h5⟩:=dZ (r:=r) hr hv (j8 n all A).length (a1u _)
 cases r with
 | nil=>simp at h2;omega
 | cons lev rates =>
  refine⟨oX (j8 n all A) (lev::rates) (nrm all k) (j8 n all A).length,lev,rates,?_,h4,by simp at h2;omega,by rw[←hM];exact h5,by
   rw[←hM];exact dir_orth h5 fun j hj=>by rw[h3 j hj];exact uM hr hv hj⟩
  unfold mJ;rw[h1];rfl
def LimP (mults rates:List Rat) (j:Nat):Option Nat × Rat→Prop
 | (none,_)=>∀ l,l<j→gt rates l≤0
 | (some q,t)=>q<j∧0<gt rates q∧t=gt mults q / gt rates q∧∀ l,l<j→0<gt rates l→t≤gt mults l / gt rates l
theorem xP (mults rates:List Rat):∀ j,LimP mults rates j (F5 mults rates j):=by
 intro j
 induction j with
 | zero=>exact fun l hl=>by omega
 | succ j ih =>
  have e:F5 mults rates (j+1)=if 0<gt rates j∧((F5 mults rates j).1=none∨gt mults j / gt rates j<(F5 mults rates j).2) then (some j,gt mults j / gt rates j) else F5 mults rates j:=rfl
  rw[e];obtain⟨o,t,ho⟩:∃ o t,F5 mults rates j=(o,t):=⟨_,_,rfl⟩;rw[ho] at ih ⊢
  by_cases hc:0<gt rates j∧(o=none∨gt mults j / gt rates j<t)
  · rw[if_pos hc];refine⟨by omega,hc.1,rfl,fun l hl hp=>?_⟩
    rcases Nat.lt_succ_iff_lt_or_eq.1 hl with h1 | rfl
    · cases o with
      | none=>have h2:gt rates l≤0:=ih l h1;exact absurd hp (by grind)
      | some q =>
       rcases hc.2 with h2 | h2
       · cases h2
       · have h3:=ih.2.2.2 l h1 hp
         grind
    · exact Rat.le_refl
  · rw[if_neg hc]
    cases o with
    | none =>
     intro l hl
     rcases Nat.lt_succ_iff_lt_or_eq.1 hl with h1 | rfl
     · exact ih l h1
     · by_cases hp:0<gt rates l
       · exact absurd ⟨hp,.inl rfl⟩ hc
       · exact Rat.not_lt.1 hp
    | some q =>
     refine⟨Nat.lt_succ_of_lt ih.1,ih.2.1,ih.2.2.1,fun l hl hp=>?_⟩
     rcases Nat.lt_succ_iff_lt_or_eq.1 hl with h1 | rfl
     · exact ih.2.2.2 l h1 hp
     · exact Rat.not_lt.1 fun h2=>hc ⟨hp,.inr h2⟩
def WorP (all:List Con) (x:List Rat) (j:Nat):Option Nat × Rat→Prop
 | (none,_)=>∀ l,l<j→lst all l≤F8 (nrm all l) x
 | (some q,t)=>q<j∧F8 (nrm all q) x<lst all q
theorem fC (all:List Con) (x:List Rat):∀ j,WorP all x j (x5 all x j):=by
 intro j
 induction j with
 | zero=>exact fun l hl=>by omega
 | succ j ih =>
  have e:x5 all x (j+1)=if 0<lst all j-F8 (nrm all j) x∧((x5 all x j).1=none∨(x5 all x j).2<lst all j-F8 (nrm all j) x) then (some j,lst all j-F8 (nrm all j) x) else x5 all x j:=rfl
  rw[e];obtain⟨o,t,ho⟩:∃ o t,x5 all x j=(o,t):=⟨_,_,rfl⟩;rw[ho] at ih ⊢
  by_cases hc:0<lst all j-F8 (nrm all j) x∧(o=none∨t<lst all j-F8 (nrm all j) x)
  · rw[if_pos hc];exact⟨by omega,by have:=hc.1;grind⟩
  · rw[if_neg hc]
    cases o with
    | none =>
     intro l hl
     rcases Nat.lt_succ_iff_lt_or_eq.1 hl with h1 | rfl
     · exact ih l h1
     · by_cases hp:0<lst all l-F8 (nrm all l) x
       · exact absurd ⟨hp,.inl rfl⟩ hc
       · have:=Rat.not_lt.1 hp;grind
    | some q=>exact⟨Nat.lt_succ_of_lt ih.1,ih.2⟩
end
theorem I6 (a:Rat) (l:List Rat) (j:Nat):gt (a::l) (j+1)=gt l j:=rfl
theorem eV {f:Rat→Rat→Rat}{a b:List Rat}{i:Nat}(ha:i<a.length) (hb:i<b.length):gt (List.zipWith f a b) i=f (gt a i) (gt b i):=by
 unfold gt;rw[p7 0 (by rw[a3o];omega),p7 0 ha,p7 0 hb,List.getElem_zipWith]
theorem aQ {α:Type}(l:List α) (q i:Nat) (d:α):(l.take q++l.drop (q+1)).getD i d=l.getD (if i<q then i else i+1) d:=by
 simp only[a1l]
 congr 1
 by_cases hq:q<l.length
 · by_cases h:i<q
   · rw[if_pos h,a2q (by rw[a2c];omega),a2w,if_pos h]
   · rw[if_neg h,a2b (by rw[a2c];omega),a2x,a2c]
     congr 1;omega
 · rw[List.drop_of_length_le (by omega),List.append_nil,a1q (by omega)]
   by_cases h:i<q
   · rw[if_pos h]
   · rw[if_neg h,a2j (by omega),a2j (by omega)]
theorem iP {α:Type}{l:List α}{q:Nat}(hq:q<l.length):(l.take q++l.drop (q+1)).length=l.length-1:=by
 rw[a1x,a2c,a2d];omega
theorem eX {α:Type}(a:α) (l:List α) (q:Nat):a::(l.take q++l.drop (q+1))=(a::l).take (q+1)++(a::l).drop (q+1+1):=rfl
theorem iO {α β:Type}(f:α→β) (l:List α) (q:Nat):(l.take q++l.drop (q+1)).map f=(l.map f).take q++(l.map f).drop (q+1):=by
 rw[a2r,a2f,a2g]
theorem oN {α:Type}{l:List α}{q:Nat}{a:α}(h:a∈l.take q++l.drop (q+1)):a∈l:=by
 rcases a3b.1 h with h | h
 · exact a2k h
 · exact a2l h
theorem mE {a b:Rat}(hb:0<b):a / b*b=a:=by
 have:b≠0:=by grind
 grind
structure Okk (n:Nat) (all:List Con) (tg:List Rat) (sum:Rat) (s:St) (k:Nat) (m:Rat):Prop where
 hA:∀ a∈s.active,a<all.length
 lx:s.x.length=n
 lm:s.mults.length=s.active.length
 li:LI (s.active.length+1) n (fn (j8 n all s.active))
 pt:Pt (s.active.length+1) n (fn (j8 n all s.active)) (gt (sum::s.active.map (lst all))) (gt tg) (gt (s.level::s.mults)) (gt s.x) (gt (nrm all k)) m
 nn:∀ j,j<s.mults.length→0≤gt s.mults j
def R8 (n:Nat) (tg x:List Rat):Rat:=ip n (fun i=>gt x i-gt tg i) (fun i=>gt x i-gt tg i)
def Infeas (n:Nat) (all:List Con) (sum:Rat):Prop:=∀ u:List Rat,u.length=n→ip n (fun _=>1) (gt u)=sum→(∀ k,k<all.length→lst all k≤ip n (gt (nrm all k)) (gt u))→False
section
variable {n k:Nat}{all:List Con}{tg:List Rat}{sum m:Rat}{s:St}
theorem S7 (n:Nat) (all:List Con) (A:List Nat){i:Nat}(hi:i<n):fn (j8 n all A) 0 i=1:=by
 show (List.replicate n (1:Rat)).getD i 0=1
 rw[p7 0 (by simpa using hi)];simp
theorem Q4 {A:List Nat}{j:Nat}(hj:j<A.length):fn (j8 n all A) (j+1)=gt (nrm all A[j]):=by
 funext i
 show ((A.map (nrm all)).getD j []).getD i 0=_
 rw[p7 [] (by simpa using hj),List.getElem_map];rfl
theorem eZ {A:List Nat}{j:Nat}(hj:j<A.length):gt (sum::A.map (lst all)) (j+1)=lst all A[j]:=by
 show (A.map (lst all)).getD j 0=_
 rw[p7 0 (by simpa using hj),List.getElem_map]
theorem Okk.move {z rates:List Rat}{lev:Rat}(h:Okk n all tg sum s k m) (hd:Dir n all s.active k z lev rates) (t:Rat) (hn:∀ j,j<s.mults.length→0≤gt s.mults j-t*gt rates j):Okk n all tg sum (G4 s z lev rates t) k (m+t) where
 hA:=h.hA
 lx:=by show (List.zipWith _ _ _).length=n;rw[a3o,h.lx,hd.lz,Nat.min_self]
 lm:=by show (List.zipWith _ _ _).length=_;rw[a3o,h.lm,hd.lr,Nat.min_self];rfl
 li:=h.li
 pt:=(Pt.step t h.pt hd.zz hd.or).congr (fun _ _ _ _=>rfl) (fun _ _=>rfl) (fun j hj=>by
  cases j with
  | zero=>rfl
  | succ j=>exact eV (by rw[h.lm];show j<s.active.length;have:j+1<s.active.length+1:=hj;omega) (by rw[hd.lr];have:j+1<s.active.length+1:=hj;omega)) (fun i hi=>eV (by rw[h.lx];exact hi) (by rw[hd.lz];exact hi)) fun _ _=>rfl
 nn:=fun j hj=>by
  have c:j<s.mults.length:=by
   have:j<(List.zipWith (fun a b=>a-t*b) s.mults rates).length:=hj;rw[a3o] at this;omega
  show 0≤gt (List.zipWith (fun a b=>a-t*b) s.mults rates) j
  rw[eV c (by rw[hd.lr,←h.lm];exact c)];exact hn j c
theorem Okk.drop {q:Nat}(h:Okk n all tg sum s k m) (hq:q<s.active.length) (hz:gt s.mults q=0):Okk n all tg sum (U9 s q) k m∧(U9 s q).active.length+1=s.active.length:=by
 have hl:(U9 s q).active.length+1=s.active.length:=by
  show (s.active.take q++s.active.drop (q+1)).length+1=_
  rw[iP hq];omega
 have hN:∀ l i,fn (j8 n all (U9 s q).active) l i=fn (j8 n all s.active) (if l<q+1 then l else l+1) i:=fun l i=>by
  have e:j8 n all (U9 s q).active=(j8 n all s.active).take (q+1)++(j8 n all s.active).drop (q+1+1):=by
   show List.replicate n 1::(s.active.take q++s.active.drop (q+1)).map (nrm all)=_
   rw[iO,eX];rfl
  unfold fn;rw[e,aQ]
 have b:=h.li;have c:=h.pt;rw[←hl] at b c;refine⟨⟨fun a ha=>h.hA a (oN ha),h.lx,?_,?_,?_,fun j hj=>?_⟩,hl⟩
 · show (s.mults.take q++s.mults.drop (q+1)).length=_
   rw[iP (by rw[h.lm];exact hq),h.lm];omega
 · exact (b.drop (t:=q+1) (by omega)).congr fun j i _ _=>hN j i
 · refine (c.drop (t:=q+1) (by omega) (by rw[I6];exact hz)).congr (fun j i _ _=>hN j i) (fun j _=>?_) (fun j _=>?_) (fun _ _=>rfl) fun _ _=>rfl
   · have e:sum::(U9 s q).active.map (lst all)=(sum::s.active.map (lst all)).take (q+1)++(sum::s.active.map (lst all)).drop (q+1+1):=by
      show sum::(s.active.take q++s.active.drop (q+1)).map (lst all)=_
      rw[iO,eX]
     unfold gt;rw[e,aQ]
   · show gt (s.level::(s.mults.take q++s.mults.drop (q+1))) j=_
     unfold gt;rw[eX,aQ]
 · show 0≤gt (s.mults.take q++s.mults.drop (q+1)) j
   have d:j<(s.mults.take q++s.mults.drop (q+1)).length:=hj;rw[iP (by rw[h.lm];exact hq)] at d;unfold gt;rw[aQ]
   split
   · exact h.nn j (by omega)
   · exact h.nn (j+1) (by omega)
theorem Okk.enter {z rates:List Rat}{lev:Rat}(h:Okk n all tg sum s k m) (hk:k<all.length) (hd:Dir n all s.active k z lev rates) (hp:ip n (gt z) (gt (nrm all k))≠0) (hm:0≤m) (hx:ip n (gt (nrm all k)) (gt s.x)=lst all k) (k':Nat) :
 Okk n all tg sum ⟨s.x,s.level,s.active++[k],s.mults++[m]⟩ k' 0:=by
 have hN:∀ j,j<s.active.length+1+1→fn (j8 n all (s.active++[k])) j=if j<s.active.length+1 then fn (j8 n all s.active) j else gt (nrm all k):=fun j hj=>by
  cases j with
  | zero=>rw[if_pos (by omega)];rfl
  | succ j =>
   rw[Q4 (by simp;omega)]
   by_cases e:j<s.active.length
   · rw[if_pos (by omega),Q4 e,List.getElem_append_left e]
   · rw[if_neg (by omega),List.getElem_append_right (by omega)];simp
 have hl:(s.active++[k]).length=s.active.length+1:=by simp
 refine⟨fun a ha=>?_,h.lx,by simp[h.lm],?_,?_,fun j hj=>?_⟩
 · rcases a3b.1 ha with ha | ha
   · exact h.hA a ha
   · rw[List.mem_singleton.1 ha];exact hk
 · show LI ((s.active++[k]).length+1) n (fn (j8 n all (s.active++[k])))
   rw[hl];exact (h.li.snoc hd.zz hd.or (by rw[←dA hd.zz hd.or];exact hp)).congr fun j i hj hi=>by rw[hN j hj]
 · show Pt ((s.active++[k]).length+1) n (fn (j8 n all (s.active++[k]))) (gt (sum::(s.active++[k]).map (lst all))) (gt tg) (gt (s.level::(s.mults++[m]))) (gt s.x) (gt (nrm all k')) 0
   rw[hl];refine (h.pt.enter hx).congr (fun j i hj hi=>by rw[hN j hj]) (fun j hj=>?_) (fun j hj=>?_) (fun _ _=>rfl) fun _ _=>rfl
   · cases j with
     | zero=>rw[if_pos (by omega)];rfl
     | succ j =>
      rw[eZ (by simp;omega)]
      by_cases e:j<s.active.length
      · rw[if_pos (by omega),eZ e,List.getElem_append_left e]
      · rw[if_neg (by omega),List.getElem_append_right (by omega)];simp
   · cases j with
     | zero=>rw[if_pos (by omega)];rfl
     | succ j =>
      rw[I6];unfold gt
      by_cases e:j<s.active.length
      · rw[if_pos (by omega),a1l,a2q (by rw[h.lm];exact e),←a1l];rfl
      · rw[if_neg (by omega),a1l,a2b (by rw[h.lm];omega),h.lm,show j-s.active.length=0 by omega];rfl
 · show 0≤gt (s.mults++[m]) j
   have b:j<s.mults.length+1:=by simpa using hj
   unfold gt
   by_cases e:j<s.mults.length
   · rw[a1l,a2q e,←a1l];exact h.nn j e
   · rw[a1l,a2b (by omega),show j-s.mults.length=0 by omega];exact hm
def DV (n:Nat) (all:List Con) (tg:List Rat) (s:St) (k:Nat) (m:Rat):Rat:=jK n (gt s.x) (gt tg) (gt (nrm all k)) m (lst all k)
theorem yL (n:Nat) (all:List Con) (tg:List Rat) (s:St) (k:Nat):DV n all tg s k 0=R8 n tg s.x:=by unfold DV jK R8;grind
theorem cZ {z rates:List Rat}{lev t:Rat}(h:s.x.length=n) (hz:z.length=n):∀ i,i<n→gt (G4 s z lev rates t).x i=gt s.x i+t*gt z i:=fun i hi=>eV (by rw[h];exact hi) (by rw[hz];exact hi)
theorem qF {z rates:List Rat}{lev t:Rat}(h:s.x.length=n) (hz:z.length=n) (v:Nat→Rat):ip n v (gt (G4 s z lev rates t).x)=ip n v (gt s.x)+t*ip n (gt z) v:=by
 rw[D3 (a':=v) (fun _ _=>rfl) (cZ h hz),Q8,U6,D9 n v (gt z)]
theorem yM {z rates:List Rat}{lev:Rat}(h:Okk n all tg sum s k m) (hd:Dir n all s.active k z lev rates) (t:Rat) :
 DV n all tg (G4 s z lev rates t) k (m+t)=DV n all tg s k m+t*(2*(lst all k-ip n (gt (nrm all k)) (gt s.x))-t*ip n (gt z) (gt (nrm all k))):=by
 have e:DV n all tg (G4 s z lev rates t) k (m+t)=jK n (fun i=>gt s.x i+t*gt z i) (gt tg) (gt (nrm all k)) (m+t) (lst all k):=by
  unfold DV jK
  rw[D3 (a:=fun i=>gt (G4 s z lev rates t).x i-gt tg i) (b:=fun i=>gt (G4 s z lev rates t).x i-gt tg i) (a':=fun i=>gt s.x i+t*gt z i-gt tg i) (b':=fun i=>gt s.x i+t*gt z i-gt tg i) (fun i hi=>by rw[cZ h.lx hd.lz i hi]) (fun i hi=>by rw[cZ h.lx hd.lz i hi]),
   D3 (b:=gt (G4 s z lev rates t).x) (fun _ _=>rfl) (cZ h.lx hd.lz)]
 rw[e];exact Pt.dual t h.pt hd.zz hd.or
inductive Next (n:Nat) (all:List Con) (tg:List Rat) (sum:Rat) (s:St) (k:Nat) (m:Rat):Prop where
 | none (h:dL n all k s m=some none) (hi:Infeas n all sum)
 | full (t:St) (m':Rat) (h:dL n all k s m=some (some (true,t,m'))) (ok:∀ k',Okk n all tg sum ⟨t.x,t.level,t.active++[k],t.mults++[m']⟩ k' 0) (hd:DV n all tg s k m<R8 n tg t.x)
 | drop (q:Nat) (z rates:List Rat) (lev T:Rat) (hd:Dir n all s.active k z lev rates) (hq:q<s.active.length) (hr:0<gt rates q) (hT:T=gt s.mults q / gt rates q) (h:dL n all k s m=some (some (false,U9 (G4 s z lev rates T) q,m+T)))
  (ok:Okk n all tg sum (U9 (G4 s z lev rates T) q) k (m+T)) (hl:(U9 (G4 s z lev rates T) q).active.length+1=s.active.length) (h0:0≤m+T) (hx:ip n (gt (nrm all k)) (gt (U9 (G4 s z lev rates T) q).x)<lst all k) (hv:DV n all tg s k m≤DV n all tg (U9 (G4 s z lev rates T) q) k (m+T))
theorem Okk.next (hc:ConN n all) (h:Okk n all tg sum s k m) (hk:k<all.length) (hm:0≤m) (hx:ip n (gt (nrm all k)) (gt s.x)<lst all k):Next n all tg sum s k m:=by
 obtain⟨z,p,c,hd⟩:=vP hc h.hA hk h.li;have g:=xP s.mults c c.length;have r:F8 z (nrm all k)=ip n (gt z) (gt (nrm all k)):=O9 hd.lz (hc.nrm hk);have D:F8 (nrm all k) s.x=ip n (gt (nrm all k)) (gt s.x):=O9 (hc.nrm hk) h.lx;have H:0≤ip n (gt z) (gt (nrm all k)):=by rw[dA hd.zz hd.or];exact jV _ _
 have d:dL n all k s m=if 0<F8 z (nrm all k)∧((F5 s.mults c c.length).1=none∨L7 all k s.x z≤(F5 s.mults c c.length).2) then
  some (some (true,G4 s z p c (L7 all k s.x z),m+L7 all k s.x z))
  else match (F5 s.mults c c.length).1 with
   | none=>some none
   | some j=>some (some (false,U9 (G4 s z p c (F5 s.mults c c.length).2) j,m+(F5 s.mults c c.length).2)):=by
  unfold dL;rw[hd.is];rfl
 obtain⟨o,T,ho⟩:∃ o T,F5 s.mults c c.length=(o,T):=⟨_,_,rfl⟩;rw[ho] at g d;dsimp only at d
 by_cases hf:0<F8 z (nrm all k)∧(o=none∨L7 all k s.x z≤T)
 · rw[if_pos hf] at d;have hF:L7 all k s.x z=(lst all k-ip n (gt (nrm all k)) (gt s.x)) / ip n (gt z) (gt (nrm all k)):=by unfold L7;rw[r,D]
   rw[r] at hf;obtain⟨t,ht⟩:∃ t,L7 all k s.x z=t:=⟨_,rfl⟩;rw[ht] at d hF hf;have C:t*ip n (gt z) (gt (nrm all k))=lst all k-ip n (gt (nrm all k)) (gt s.x):=by rw[hF];exact mE hf.1
   have I:0<t:=by
    refine Rat.not_le.1 fun B=>?_;have:=lN B H
    grind
   have v:=h.move hd t fun j hj=>by
    by_cases hr:0<gt c j
    · cases o with
      | none=>have h1:gt c j≤0:=g j (by rw[hd.lr,←h.lm];exact hj);exact absurd hr (by grind)
      | some q =>
       rcases hf.2 with h2 | h2
       · cases h2
       · have h3:=g.2.2.2 j (by rw[hd.lr,←h.lm];exact hj) hr;have h4:t≤gt s.mults j / gt c j:=by grind
         have h5:=lN h4 (show (0:Rat)≤gt c j by grind);rw[mE hr] at h5
         grind
    · have h1:gt c j≤0:=Rat.not_lt.1 hr;have h2:=h.nn j hj;have h3:=lM h1 (show (0:Rat)≤t by grind)
      grind
   refine .full _ _ d (fun k'=>v.enter hk hd (by grind) (by grind) ?_ k') ?_
   · rw[qF h.lx hd.lz,C];grind
   · have h1:=yM h hd t
     have h2:DV n all tg (G4 s z p c t) k (m+t)=R8 n tg (G4 s z p c t).x:=by
      unfold DV jK R8;rw[qF h.lx hd.lz,C];grind
     rw[←h2,h1,C];have h3:=Rat.mul_pos I (show (0:Rat)<lst all k-ip n (gt (nrm all k)) (gt s.x) by grind)
     grind
 · rw[if_neg hf] at d
   cases o with
   | none =>
    refine .none d fun u hu h1 h2=>?_;have f:ip n (gt z) (gt (nrm all k))≤0:=by rw[←r];exact Rat.not_lt.1 fun hh=>hf ⟨hh,.inl rfl⟩
    have h3:=no_point (u:=gt u) (l:=lst all k) hd.zz hd.or f h.pt.eqs (fun _=>by
     rw[D3 (a':=fun _=>1) (b':=gt u) (fun i hi=>S7 n all s.active hi) (fun _ _=>rfl)];exact h1) (fun j L hj=>by
      cases j with
      | zero=>omega
      | succ j=>rw[I6];exact g j (by rw[hd.lr];omega)) (fun j L hj=>by
      cases j with
      | zero=>omega
      | succ j =>
       have y:j<s.active.length:=by omega
       rw[eZ y,Q4 y];exact h2 _ (h.hA _ (a1z y))) hx
    have h4:=h2 k hk
    grind
   | some q =>
    dsimp only at d;obtain⟨hq,hr,hT,F⟩:=g;have A:q<s.active.length:=by rw[←hd.lr];exact hq
    have E:q<s.mults.length:=by rw[h.lm];exact A
    have M:T*gt c q=gt s.mults q:=by rw[hT];exact mE hr
    have G:0≤T:=Rat.not_lt.1 fun O=>by
     have h1:=Rat.mul_pos hr (show (0:Rat) < -T by grind);have h2:=h.nn q E
     grind
    have v:=h.move hd T fun j hj=>by
     by_cases hr2:0<gt c j
     · have h3:=F j (by rw[hd.lr,←h.lm];exact hj) hr2;have h5:=lN h3 (show (0:Rat)≤gt c j by grind);rw[mE hr2] at h5
       grind
     · have h1:gt c j≤0:=Rat.not_lt.1 hr2;have h2:=h.nn j hj;have h3:=lM h1 G
       grind
    have hz:gt (G4 s z p c T).mults q=0:=by
     show gt (List.zipWith (fun a b=>a-T*b) s.mults c) q=0
     rw[eV E hq];grind
    obtain⟨J,hl⟩:=v.drop A hz
    have N:T*ip n (gt z) (gt (nrm all k))<lst all k-ip n (gt (nrm all k)) (gt s.x):=by
     by_cases f:0<ip n (gt z) (gt (nrm all k))
     · have h1:T<L7 all k s.x z:=Rat.not_le.1 fun B=>hf ⟨by rw[r];exact f,.inr B⟩;have hF:L7 all k s.x z*ip n (gt z) (gt (nrm all k))=lst all k-ip n (gt (nrm all k)) (gt s.x):=by unfold L7;rw[r,D];exact mE f
       have h2:=Rat.mul_pos f (show (0:Rat)<L7 all k s.x z-T by grind)
       grind
     · have h1:ip n (gt z) (gt (nrm all k))=0:=by have:=Rat.not_lt.1 f;grind
       rw[h1];grind
    refine .drop q z c p T hd A hr hT d J hl (by grind) ?_ ?_
    · show ip n (gt (nrm all k)) (gt (G4 s z p c T).x)<_
      rw[qF h.lx hd.lz];grind
    · show _≤DV n all tg (G4 s z p c T) k (m+T)
      rw[yM h hd T];have h3:=Rat.mul_nonneg G (show (0:Rat)≤2*(lst all k-ip n (gt (nrm all k)) (gt s.x))-T*ip n (gt z) (gt (nrm all k)) by grind)
      grind
end
end Go.Proofs.YtjhkapjadfpimaaGreat
