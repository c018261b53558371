/- Contracts of functions, for the law. -/
import Derived.Test.YtjhkapjadfpimaaNTrn
import Derived.Deep.RegionHeld3
import Derived.Test.YtjhkapjadfpimaaMSmall
import Derived.Test.YtjhkapjadfpimaaNAlg
import Derived.Test.YtjhkapjadfpimaaFDiv
namespace Go.Proofs.Ytjhkapjadfpimaa
set_option linter.unusedVariables false
set_option linter.unusedSimpArgs false
open Go.RowKit Plain
attribute [local go_sem ↓] Go.wp_at_zero Go.wp_at_succ
def FAt (T:List Rat) (g k:Nat) (root wr:World):Prop:=∃ ds:List FrD,ArrQ wr g ds∧ds.length=T.length∧(∀ j d,j<k→ds[j]?=some d→FV wr d.v d.q∧T[j]?=some d.q)∧Below root.heap.size root wr
theorem FAt.below {T:List Rat}{g k:Nat}{root w w':World}(h:FAt T g k root w) (hb:Below w.heap.size w w'):FAt T g k root w':=by
 obtain⟨ds,h1,h2,h3,h4⟩:=h;exact⟨ds,h1.below hb,h2,fun j d hj hd=>⟨(h3 j d hj hd).1.below hb,(h3 j d hj hd).2⟩,h4.trans (hb.mono h4.size)⟩
theorem FAt.bel {T:List Rat}{g k:Nat}{root w:World}(h:FAt T g k root w):Below root.heap.size root w:=by
 obtain⟨ds,h1,h2,h3,h4⟩:=h;exact h4
theorem FAt.put {T:List Rat}{g k:Nat}{root w:World}(h:FAt T g k root w) (hk:k<T.length) (hg:root.heap.size≤g){d:FrD}(hd:FV w d.v d.q) :
 ∃ (u0 u1 u2:Value) (w9:World),w.cell? ⟨g,k*3,none⟩=some u0∧w.cell? ⟨g,k*3+1,none⟩=some u1∧w.cell? ⟨g,k*3+2,none⟩=some u2∧w.frozen? ⟨g,k*3,none⟩=false∧w.frozen? ⟨g,k*3+1,none⟩=false∧w.frozen? ⟨g,k*3+2,none⟩=false ∧
  ((w.setCell ⟨g,k*3,none⟩ (.bool d.neg)).setCell ⟨g,k*3+1,none⟩ (.slice d.a d.la.length d.ca)).setCell ⟨g,k*3+2,none⟩ (.slice d.b d.lb.length d.cb)=w9∧FAt T g k root w9∧(T[k]?=some d.q→FAt T g (k+1) root w9):=by
 obtain⟨ds,h1,h2,h3,h4⟩:=h;have hkd:k<ds.length:=by omega
 have hd0:=List.getElem?_eq_getElem hkd;obtain⟨w9,e9,hA9,o9⟩:=h1.set hkd d
 have key:∀ j x,j<k→(ds.set k d)[j]?=some x→FV w9 x.v x.q∧T[j]?=some x.q:=fun j x hj hx=>by
  rw[List.getElem?_set,if_neg (by omega)] at hx;obtain⟨h5,h6⟩:=h3 j x hj hx;exact⟨h5.only_blk h1 (ArrQ.noDig ds) o9,h6⟩
 refine⟨_,_,_,w9,h1.cell (i:=0) hd0 rfl,h1.cell (i:=1) hd0 rfl,h1.cell (i:=2) hd0 rfl,Blk.free h1 _,Blk.free h1 _,Blk.free h1 _,e9,⟨_,hA9,by simpa using h2,key,o9.to_below h4 hg h4.size⟩,fun hq=>⟨_,hA9,by simpa using h2,fun j x hj hx=>?_,o9.to_below h4 hg h4.size⟩⟩
 by_cases e:j=k
 · subst e;rw[List.getElem?_set,if_pos rfl,if_pos hkd] at hx
   injection hx with hx
   subst hx;exact⟨hd.only_blk h1 (ArrQ.noDig ds) o9,hq⟩
 · exact key j x (by omega) hx
theorem FAt.done {T:List Rat}{g:Nat}{root w:World}(h:FAt T g T.length root w):∃ ds:List FrD,ArrQ w g ds∧ds.length=T.length∧(∀ d∈ds,FV w d.v d.q)∧Hid (ds.map FrD.q=T):=by
 obtain⟨ds,h1,h2,h3,h4⟩:=h;refine⟨ds,h1,h2,fun d hd=>?_,?_⟩
 · obtain⟨j,hj,e⟩:=List.mem_iff_getElem.1 hd;exact (h3 j d (by omega) (by rw[List.getElem?_eq_getElem hj,e])).1
 · show ds.map FrD.q=_
   refine List.ext_getElem? fun j=>?_;rw[List.getElem?_map]
   by_cases hj:j<ds.length
   · rw[List.getElem?_eq_getElem hj,(h3 j _ (by omega) (List.getElem?_eq_getElem hj)).2];rfl
   · rw[List.getElem?_eq_none (by omega),List.getElem?_eq_none (by omega)];rfl
theorem FAt.new (T:List Rat){n:Nat}(hn:T.length=n) (w:World):FAt T w.heap.size 0 w (w.alloc (.cells ((List.replicate n zeroD).flatMap FrD.cells).toArray 28)) :=
 ⟨List.replicate n zeroD,Blk.new w _ _,by rw[List.length_replicate,hn],fun j d hj=>by omega,(Below.refl _ _).alloc (Nat.le_refl _) _⟩
theorem unitL_len (n p:Nat) (v:Rat):(unitL n p v).length=n:=by simp[unitL]
theorem unitL_get {n p k:Nat}{v:Rat}(hk:k<n):(unitL n p v)[k]?=some (if bitP p k=true then v else 0):=by
 unfold unitL;rw[List.getElem?_map,List.getElem?_range hk];rfl
set_option maxRecDepth 100000 in
set_option maxHeartbeats 4000000 in
theorem unit_any {n p:Nat}{v:Int}{gv gs:Nat}{w:World}(hc:w.cell? ⟨gv,0,none⟩=some (.pointer (some ⟨gs,0,none⟩))) (hc2:w.cell? ⟨gs,0,none⟩=some (.int .i64 (n:Int))) (hn:n≤8) (hp:p<256) (hv1:-9223372036854775808≤v) (hv2:v≤9223372036854775807) :
 Calls Try.prog 70 #[.int .i64 (p:Int),.int .i64 v,.pointer (some ⟨gv,0,none⟩)] w (RetArr (unitL n p (v:Rat)) w):=by
 obtain⟨T,hT⟩:∃ T,Hid (unitL n p (v:Rat)=T):=⟨_,rfl⟩;have hTl:=Lib.hid (show T.length=n by rw[←hT.out,unitL_len]);have hTg:=Lib.hid (show ∀ k,k<n→T[k]?=some (if bitP p k=true then (v:Rat) else 0) from fun k hk=>by rw[←hT.out];exact unitL_get hk);rw[hT.out];clear hT;have hmk:=make_fr w n (by omega);obtain⟨w1,hw1⟩:∃ w1,w.alloc (.cells ((List.replicate n zeroD).flatMap FrD.cells).toArray 28)=w1:=⟨_,rfl⟩;have hA:FAt T w.heap.size 0 w w1:=by rw[←hw1];exact FAt.new T hTl.out w
 rw[hw1] at hmk;obtain⟨g,hg⟩:∃ g,w.heap.size=g:=⟨_,rfl⟩;have hg':=Lib.hid (show w.heap.size≤g by omega);rw[hg] at hmk hA;clear hg;go_enter Try.func70,Try.ntmps70;go_wp2
 go_loopw [7,15] (fun x i wr=>∃ k:Nat,k≤n∧i=.int .i64 (k:Int)∧FAt T g k w wr) (fun _ i _=>n-(intOf i).toNat)
 case atStart=>exact⟨0,by omega,rfl,hA⟩
 case round =>
  clear hA;obtain⟨k,hk,rfl,hat⟩:=hrel
  by_cases hkl:k<n
  · have hki:(k:Int)<(n:Int):=by omega
    have hk8:k<8:=by omega
    go_wp2_with fail;refine (fromInt_any 0 _ (by decide) (by decide)).mono ?_;rintro e w4 ⟨v1,rfl,hv1,b4⟩;obtain⟨z,rfl,hz,hzq⟩:=hv1.frd;clear hv1;obtain⟨u0,u1,u2,w5,s0,s1,s2,f0,f1,f2,e5,hat5,hstep⟩:=(hat.below b4).put (by rw[hTl.out];exact hkl) hg'.out hz;obtain⟨b,hb⟩:∃ b,Hid (bitP p k=b):=⟨_,rfl⟩;have hbit:(bits BinOp.and IntKind.i64 ((p:Int) / 2 ^ k) 1 == 1)=b:=by rw[bits_one hp hk8];exact hb.out
    have hTk:=Lib.hid (hTg.out k hkl)
    cases b with
    | false =>
     have hat6:=Lib.hid (hstep (by rw[hTk.out,hb.out,hzq.out];rfl));clear hstep hat hz;go_wp2;go_roundw
     case rel=>exact⟨k+1,by omega,by go_num,hat6.out⟩
     case measure=>simp[intOf];omega
    | true =>
     clear hstep hat hz;go_wp2_with fail;refine (fromInt_any v _ hv1 hv2).mono ?_;rintro e w6 ⟨v2,rfl,hv3,b6⟩;obtain⟨y,rfl,hy,hyq⟩:=hv3.frd;clear hv3;obtain⟨t0,t1,t2,w7,q0,q1,q2,r0,r1,r2,e7,hat7,hstep⟩:=(hat5.below b6).put (by rw[hTl.out];exact hkl) hg'.out hy;have hat8:=Lib.hid (hstep (by rw[hTk.out,hb.out,hyq.out];rfl));clear hstep hat5 hat7 hy;go_wp2;go_roundw
     case rel=>exact⟨k+1,by omega,by go_num,hat8.out⟩
     case measure=>simp[intOf];omega
  · obtain rfl:k=n:=by omega
    have hlt':decide ((k:Int)<(k:Int))=false:=decide_eq_false (by omega);have hbl:=hat.bel;rw[show FAt T g k w wr=FAt T g T.length w wr by rw[hTl.out]] at hat;obtain⟨ds,h1,h2,h3,h4⟩:=hat.done;have h2':ds.length=k:=h2.trans hTl.out;go_wp2;go_ret;exact⟨g,ds,by rw[h2'];rfl,h1,h3,h4,hg'.out,hbl⟩
end Go.Proofs.Ytjhkapjadfpimaa
namespace Go.Proofs.Ytjhkapjadfpimaa.Plain
set_option linter.unusedVariables false
set_option linter.unusedSimpArgs false
def ip (n:Nat) (a b:Nat→Rat):Rat:=sm n fun i=>a i*b i
def lc (p:Nat) (y:Nat→Rat) (N:Nat→Nat→Rat) (i:Nat):Rat:=sm p fun j=>y j*N j i
def LI (p n:Nat) (N:Nat→Nat→Rat):Prop:=∀ c:Nat→Rat,(∀ i,i<n→lc p c N i=0)→∀ j,j<p→c j=0
section
variable {n p:Nat}{a b c y:Nat→Rat}{N:Nat→Nat→Rat}{t:Rat}
theorem ip_comm (n:Nat) (a b:Nat→Rat):ip n a b=ip n b a:=sm_congr fun i _=>by grind
theorem ip_congr {a' b':Nat→Rat}(h:∀ i,i<n→a i=a' i) (h':∀ i,i<n→b i=b' i):ip n a b=ip n a' b':=sm_congr fun i hi=>by rw[h i hi,h' i hi]
theorem ip_add (n:Nat) (a b c:Nat→Rat):ip n (fun i=>a i+b i) c=ip n a c+ip n b c:=by
 unfold ip;rw[←sm_add];exact sm_congr fun i _=>by grind
theorem ip_smul (n:Nat) (t:Rat) (a c:Nat→Rat):ip n (fun i=>t*a i) c=t*ip n a c:=by
 unfold ip;rw[←sm_mul];exact sm_congr fun i _=>by grind
theorem ip_sub (n:Nat) (a b c:Nat→Rat):ip n (fun i=>a i-b i) c=ip n a c-ip n b c:=by
 unfold ip;rw[←sm_sub];exact sm_congr fun i _=>by grind
theorem ip_addr (n:Nat) (a b c:Nat→Rat):ip n c (fun i=>a i+b i)=ip n c a+ip n c b:=by
 rw[ip_comm,ip_add,ip_comm n a,ip_comm n b]
theorem ip_smulr (n:Nat) (t:Rat) (a c:Nat→Rat):ip n c (fun i=>t*a i)=t*ip n c a:=by
 rw[ip_comm,ip_smul,ip_comm n a]
theorem ip_subr (n:Nat) (a b c:Nat→Rat):ip n c (fun i=>a i-b i)=ip n c a-ip n c b:=by
 rw[ip_comm,ip_sub,ip_comm n a,ip_comm n b]
theorem ip_lc (n p:Nat) (y:Nat→Rat) (N:Nat→Nat→Rat) (a:Nat→Rat):ip n (lc p y N) a=sm p fun j=>y j*ip n (N j) a:=by
 unfold ip lc;rw[sm_congr (g:=fun i=>sm p (fun j=>y j*(N j i*a i))) (fun i _=>by rw[←sm_mulr];exact sm_congr fun j _=>by grind),sm_swap];exact sm_congr fun j _=>sm_mul _ _ _
theorem sq_nonneg (q:Rat):0≤q*q:=by
 rcases (Rat.le_total:0≤q∨q≤0) with h | h
 · exact Rat.mul_nonneg h h
 · have h2:0≤-q:=by grind
   have:=Rat.mul_nonneg h2 h2
   grind
theorem sm_nonneg {f:Nat→Rat}(h:∀ k,k<n→0≤f k):0≤sm n f:=by
 have:=sm_le (n:=n) (f:=fun _=>0) (g:=f) h;rw[sm_zero] at this;exact this
theorem sm_nonneg_zero {f:Nat→Rat}(h:∀ k,k<n→0≤f k) (hz:sm n f=0):∀ k,k<n→f k=0:=by
 induction n with
 | zero=>exact fun k hk=>by omega
 | succ n ih =>
  have h1:=sm_nonneg (n:=n) (f:=f) fun k hk=>h k (by omega);have h2:=h n (by omega);have h3:sm n f+f n=0:=hz;have h4:sm n f=0:=by grind
  intro k hk
  rcases Nat.lt_succ_iff_lt_or_eq.1 hk with h5 | rfl
  · exact ih (fun k hk=>h k (by omega)) h4 k h5
  · grind
theorem ip_self (n:Nat) (a:Nat→Rat):0≤ip n a a:=sm_nonneg fun k _=>sq_nonneg _
theorem ip_self_zero (h:ip n a a=0):∀ i,i<n→a i=0:=fun i hi=>by
 have h1:=sm_nonneg_zero (fun k _=>sq_nonneg (a k)) h i hi
 rcases Rat.mul_eq_zero.1 h1 with h2 | h2 <;> exact h2
theorem gram_inj (h:LI p n N) (hc:∀ j,j<p→sm p (fun l=>ip n (N j) (N l)*c l)=0):∀ j,j<p→c j=0:=by
 apply h
 apply ip_self_zero (a:=lc p c N)
 rw[ip_lc];refine sm_zeroOf fun j hj=>?_;rw[ip_comm,ip_lc,sm_congr (g:=fun l=>ip n (N j) (N l)*c l) (fun l _=>by rw[ip_comm n (N l)];grind),hc j hj];grind
theorem gram_solve (h:LI p n N) (b:Nat→Rat):∃ c:Nat→Rat,∀ j,j<p→sm p (fun l=>ip n (N j) (N l)*c l)=b j:=by
 obtain⟨v,⟨k,hk,hv⟩,hz⟩:=ker_exists p (p+1) (fun j l=>if l<p then ip n (N j) (N l) else b j) (by omega)
 have hs:∀ j,j<p→sm p (fun l=>ip n (N j) (N l)*v l)+b j*v p=0:=fun j hj=>by
  have h1:=hz j hj;have h2:sm p (fun l=>(if l<p then ip n (N j) (N l) else b j)*v l)+(if p<p then ip n (N j) (N p) else b j)*v p=0:=h1;rw[if_neg (by omega),sm_congr (g:=fun l=>ip n (N j) (N l)*v l) (fun l hl=>by rw[if_pos hl])] at h2;exact h2
 by_cases h0:v p=0
 · exfalso
   have h1:=gram_inj h (c:=v) fun j hj=>by have:=hs j hj;rw[h0] at this;grind
   rcases Nat.lt_succ_iff_lt_or_eq.1 hk with h5 | rfl
   · exact hv (h1 k h5)
   · exact hv h0
 · refine⟨fun l=>-(1 / v p)*v l,fun j hj=>?_⟩;rw[sm_congr (g:=fun l=>-(1 / v p)*(ip n (N j) (N l)*v l)) (fun l _=>by grind),sm_mul];have h1:=hs j hj;have h2:sm p (fun l=>ip n (N j) (N l)*v l)=-(b j*v p):=by grind
   rw[h2]
   grind
theorem LI.le (h:LI p n N):p≤n:=by
 refine Nat.le_of_not_lt fun hl=>?_;obtain⟨v,⟨k,hk,hv⟩,hz⟩:=ker_exists n p (fun i j=>N j i) hl;exact hv (h v (fun i hi=>by have:=hz i hi;unfold lc;rw[sm_congr (g:=fun j=>N j i*v j) (fun j _=>by grind)];exact this) k hk)
theorem LI.congr {N':Nat→Nat→Rat}(h:LI p n N) (e:∀ j i,j<p→i<n→N' j i=N j i):LI p n N':=fun c hc=>h c fun i hi=>by
 rw[←hc i hi];exact sm_congr fun j hj=>by rw[e j i hj hi]
theorem LI.snoc {v z r:Nat→Rat}(h:LI p n N) (hz:∀ i,i<n→z i=v i-lc p r N i) (ho:∀ j,j<p→ip n (N j) z=0) (hp:ip n z z≠0):LI (p+1) n (fun j=>if j<p then N j else v):=fun c hc=>by
 have e:∀ i,i<n→lc p c N i+c p*v i=0:=fun i hi=>by
  have h1:=hc i hi;have h2:sm p (fun j=>c j*(if j<p then N j else v) i)+c p*(if p<p then N p else v) i=0:=h1;rw[if_neg (by omega),sm_congr (g:=fun j=>c j*N j i) (fun j hj=>by rw[if_pos hj])] at h2;exact h2
 have hv:ip n v z=ip n z z:=by
  have h1:ip n z z=ip n (fun i=>v i-lc p r N i) z:=ip_congr hz fun _ _=>rfl;rw[h1,ip_sub,ip_lc,sm_zeroOf fun j hj=>by rw[ho j hj];grind];grind
 have h1:ip n (fun i=>lc p c N i+c p*v i) z=0:=by
  unfold ip;exact sm_zeroOf fun i hi=>by
   show (lc p c N i+c p*v i)*z i=0
   rw[e i hi];grind
 rw[ip_add,ip_smul,ip_lc,sm_zeroOf fun j hj=>by rw[ho j hj];grind,hv] at h1
 have h2:c p=0:=by
  have h3:c p*ip n z z=0:=by grind
  rcases Rat.mul_eq_zero.1 h3 with h4 | h4
  · exact h4
  · exact absurd h4 hp
 have h3:=h c fun i hi=>by have:=e i hi;rw[h2] at this;grind
 intro j hj
 rcases Nat.lt_succ_iff_lt_or_eq.1 hj with h5 | rfl
 · exact h3 j h5
 · exact h2
theorem sm_skip {f:Nat→Rat}{t:Nat}(ht:t≤p) (h:f t=0):sm (p+1) f=sm p fun l=>f (if l<t then l else l+1):=by
 induction p with
 | zero =>
  have:t=0:=by omega
  subst this
  show sm 0 f+f 0=sm 0 _
  rw[h];unfold sm;grind
 | succ p ih =>
  by_cases e:t=p+1
  · subst e
    show sm (p+1) f+f (p+1)=_
    rw[h,sm_congr (g:=f) (f:=fun l=>f (if l<p+1 then l else l+1)) (fun l hl=>by rw[if_pos hl])]
    grind
  · show sm (p+1) f+f (p+1)=sm p (fun l=>f (if l<t then l else l+1))+f (if p<t then p else p+1)
    rw[ih (by omega),if_neg (by omega)]
theorem LI.drop {t:Nat}(h:LI (p+1) n N) (ht:t≤p):LI p n (fun l=>N (if l<t then l else l+1)):=fun c hc=>by
 have h1:=h (fun l=>if l<t then c l else if l=t then 0 else c (l-1)) fun i hi=>by
  refine Eq.trans ?_ (hc i hi);unfold lc;rw[sm_skip ht (by show (if t<t then c t else if t=t then 0 else c (t-1))*N t i=0;rw[if_neg (by omega),if_pos rfl];grind)];refine sm_congr fun l hl=>?_
  show (if (if l<t then l else l+1)<t then c (if l<t then l else l+1) else if (if l<t then l else l+1)=t then 0 else c ((if l<t then l else l+1)-1))*N (if l<t then l else l+1) i=c l*N (if l<t then l else l+1) i
  by_cases e:l<t
  · simp only[if_pos e]
  · simp only[if_neg e]
    rw[if_neg (by omega),if_neg (by omega),Nat.add_sub_cancel]
 intro j hj
 by_cases e:j<t
 · have:=h1 j (by omega);simpa [e] using this
 · have:=h1 (j+1) (by omega);rw[if_neg (by omega),if_neg (by omega),Nat.add_sub_cancel] at this;exact this
theorem dir_orth {v z r:Nat→Rat}(hz:∀ i,i<n→z i=v i-lc p r N i) (hr:∀ j,j<p→sm p (fun l=>ip n (N j) (N l)*r l)=ip n (N j) v):∀ j,j<p→ip n (N j) z=0:=fun j hj=>by
 rw[ip_congr (a':=N j) (fun _ _=>rfl) hz,ip_subr,ip_comm n (N j) (lc p r N),ip_lc,←hr j hj];have:sm p (fun l=>ip n (N j) (N l)*r l)=sm p (fun l=>r l*ip n (N l) (N j)):=sm_congr fun l _=>by rw[ip_comm n (N l)];grind
 rw[this];grind
theorem dir_speed {v z r:Nat→Rat}(hz:∀ i,i<n→z i=v i-lc p r N i) (ho:∀ j,j<p→ip n (N j) z=0):ip n z v=ip n z z:=by
 have h1:ip n z z=ip n (fun i=>v i-lc p r N i) z:=ip_congr hz fun _ _=>rfl;rw[h1,ip_sub,ip_lc,sm_zeroOf fun j hj=>by rw[ho j hj];grind,ip_comm];grind
structure Pt (p n:Nat) (N:Nat→Nat→Rat) (b tg y x v:Nat→Rat) (m:Rat):Prop where
 kkt:∀ i,i<n→x i=tg i+lc p y N i+m*v i
 eqs:∀ j,j<p→ip n (N j) x=b j
theorem Pt.unique {b tg y' x x' v v':Nat→Rat}(hl:LI p n N) (h:Pt p n N b tg y x v 0) (h':Pt p n N b tg y' x' v' 0):(∀ i,i<n→x i=x' i)∧∀ j,j<p→y j=y' j:=by
 have hd:∀ i,i<n→x i-x' i=lc p (fun j=>y j-y' j) N i:=fun i hi=>by
  rw[h.kkt i hi,h'.kkt i hi]
  have:lc p (fun j=>y j-y' j) N i=lc p y N i-lc p y' N i:=by
   unfold lc;rw[←sm_sub];exact sm_congr fun j _=>by grind
  rw[this];grind
 have h0:ip n (fun i=>x i-x' i) (fun i=>x i-x' i)=0:=by
  rw[ip_congr (a':=lc p (fun j=>y j-y' j) N) hd (fun _ _=>rfl),ip_lc];exact sm_zeroOf fun j hj=>by rw[ip_subr,h.eqs j hj,h'.eqs j hj];grind
 have h1:=ip_self_zero h0;have h2:=hl (fun j=>y j-y' j) fun i hi=>by rw[←hd i hi];exact h1 i hi
 exact⟨fun i hi=>by have:=h1 i hi;grind,fun j hj=>by have:=h2 j hj;grind⟩
theorem Pt.back {b tg x v z r:Nat→Rat}{m:Rat}(h:Pt p n N b tg y x v m) (hz:∀ i,i<n→z i=v i-lc p r N i) (ho:∀ j,j<p→ip n (N j) z=0):Pt p n N b tg (fun j=>y j+m*r j) (fun i=>x i-m*z i) v 0 :=
 ⟨fun i hi=>by
  rw[h.kkt i hi,hz i hi]
  have:lc p (fun j=>y j+m*r j) N i=lc p y N i+m*lc p r N i:=by
   unfold lc;rw[←sm_mul,←sm_add];exact sm_congr fun j _=>by grind
  rw[this];grind,fun j hj=>by rw[ip_subr,ip_smulr,ho j hj,h.eqs j hj];grind⟩
theorem Pt.step {b tg x v z r:Nat→Rat}{m:Rat}(t:Rat) (h:Pt p n N b tg y x v m) (hz:∀ i,i<n→z i=v i-lc p r N i) (ho:∀ j,j<p→ip n (N j) z=0):Pt p n N b tg (fun j=>y j-t*r j) (fun i=>x i+t*z i) v (m+t) :=
 ⟨fun i hi=>by
  rw[h.kkt i hi,hz i hi]
  have:lc p (fun j=>y j-t*r j) N i=lc p y N i-t*lc p r N i:=by
   unfold lc;rw[←sm_mul,←sm_sub];exact sm_congr fun j _=>by grind
  rw[this];grind,fun j hj=>by rw[ip_addr,ip_smulr,ho j hj,h.eqs j hj];grind⟩
theorem Pt.congr {N':Nat→Nat→Rat}{b b' tg y' x x' v v':Nat→Rat}{m:Rat}(h:Pt p n N b tg y x v m) (hN:∀ j i,j<p→i<n→N' j i=N j i) (hb:∀ j,j<p→b' j=b j) (hy:∀ j,j<p→y' j=y j) (hx:∀ i,i<n→x' i=x i) (hv:∀ i,i<n→v' i=v i):Pt p n N' b' tg y' x' v' m :=
 ⟨fun i hi=>by
  rw[hx i hi,hv i hi,h.kkt i hi];have:lc p y' N' i=lc p y N i:=sm_congr fun j hj=>by rw[hy j hj,hN j i hj hi]
  rw[this],fun j hj=>by rw[hb j hj,←h.eqs j hj];exact ip_congr (fun i hi=>hN j i hj hi) hx⟩
theorem Pt.drop {b tg x v:Nat→Rat}{m:Rat}{t:Nat}(h:Pt (p+1) n N b tg y x v m) (ht:t≤p) (hy:y t=0):Pt p n (fun l=>N (if l<t then l else l+1)) (fun l=>b (if l<t then l else l+1)) tg (fun l=>y (if l<t then l else l+1)) x v m :=
 ⟨fun i hi=>by
  rw[h.kkt i hi]
  have:lc (p+1) y N i=lc p (fun l=>y (if l<t then l else l+1)) (fun l=>N (if l<t then l else l+1)) i:=by
   unfold lc;exact sm_skip ht (by rw[hy];grind)
  rw[this],fun j hj=>h.eqs _ (by split <;> omega)⟩
theorem Pt.enter {b tg x v v':Nat→Rat}{m c:Rat}(h:Pt p n N b tg y x v m) (hc:ip n v x=c):Pt (p+1) n (fun j=>if j<p then N j else v) (fun j=>if j<p then b j else c) tg (fun j=>if j<p then y j else m) x v' 0 :=
 ⟨fun i hi=>by
  have h1:lc (p+1) (fun j=>if j<p then y j else m) (fun j=>if j<p then N j else v) i=lc p y N i+m*v i:=by
   show sm p (fun j=>(if j<p then y j else m)*(if j<p then N j else v) i)+(if p<p then y p else m)*(if p<p then N p else v) i=_
   rw[if_neg (by omega),if_neg (by omega),sm_congr (g:=fun j=>y j*N j i) (fun j hj=>by rw[if_pos hj,if_pos hj])];rfl
  rw[h1,h.kkt i hi];grind,fun j hj=>by
  by_cases e:j<p
  · simp only[if_pos e];exact h.eqs j e
  · simp only[if_neg e];exact hc⟩
def dualV (n:Nat) (x tg v:Nat→Rat) (m l:Rat):Rat:=ip n (fun i=>x i-tg i) (fun i=>x i-tg i)+2*m*(l-ip n v x)
theorem Pt.dual {b tg x v z r:Nat→Rat}{m l:Rat}(t:Rat) (h:Pt p n N b tg y x v m) (hz:∀ i,i<n→z i=v i-lc p r N i) (ho:∀ j,j<p→ip n (N j) z=0) :
 dualV n (fun i=>x i+t*z i) tg v (m+t) l=dualV n x tg v m l+t*(2*(l-ip n v x)-t*ip n z v):=by
 have hs:=dir_speed hz ho
 have h1:ip n (fun i=>x i+t*z i-tg i) (fun i=>x i+t*z i-tg i)=ip n (fun i=>x i-tg i) (fun i=>x i-tg i)+2*t*ip n z (fun i=>x i-tg i)+t*t*ip n z z:=by
  rw[ip_congr (a:=fun i=>x i+t*z i-tg i) (b:=fun i=>x i+t*z i-tg i) (a':=fun i=>(x i-tg i)+t*z i) (b':=fun i=>(x i-tg i)+t*z i) (fun i _=>by grind) (fun i _=>by grind)];rw[ip_add,ip_addr,ip_addr,ip_smul,ip_smul,ip_smulr,ip_smulr,ip_comm n (fun i=>x i-tg i) z];grind
 have h2:ip n z (fun i=>x i-tg i)=m*ip n z v:=by
  rw[ip_congr (a':=z) (b':=fun i=>lc p y N i+m*v i) (fun _ _=>rfl) (fun i hi=>by rw[h.kkt i hi];grind),ip_addr,ip_smulr,ip_comm n z (lc p y N),ip_lc,sm_zeroOf fun j hj=>by rw[ho j hj];grind];grind
 have h3:ip n v (fun i=>x i+t*z i)=ip n v x+t*ip n z v:=by rw[ip_addr,ip_smulr,ip_comm n v z]
 unfold dualV;rw[h1,h2,h3,←hs];grind
theorem no_point {b x v r z u:Nat→Rat}{l:Rat}(hz:∀ i,i<n→z i=v i-lc p r N i) (ho:∀ j,j<p→ip n (N j) z=0) (hs:ip n z v≤0) (hx:∀ j,j<p→ip n (N j) x=b j) (h0:0<p→ip n (N 0) u=b 0) (hr:∀ j,0<j→j<p→r j≤0) (hu:∀ j,0<j→j<p→b j≤ip n (N j) u) (hl:ip n v x<l):ip n v u<l:=by
 have hzz:∀ i,i<n→z i=0:=ip_self_zero (by
  have h1:=dir_speed hz ho;have h2:=ip_self n z
  grind)
 have hv:∀ i,i<n→v i=lc p r N i:=fun i hi=>by have:=hz i hi;rw[hzz i hi] at this;grind
 have hvu:ip n v u=sm p fun j=>r j*ip n (N j) u:=by rw[ip_congr hv (fun _ _=>rfl),ip_lc]
 have hvx:ip n v x=sm p fun j=>r j*b j:=by rw[ip_congr hv (fun _ _=>rfl),ip_lc];exact sm_congr fun j hj=>by rw[hx j hj]
 have:ip n v u≤ip n v x:=by
  rw[hvu,hvx];refine sm_le fun j hj=>?_
  by_cases e:j=0
  · subst e;rw[h0 hj];exact Rat.le_refl
  · have h1:=hr j (by omega) hj;have h2:=hu j (by omega) hj;have h3:=mul_le_r h2 (show (0:Rat)≤-(r j) by grind)
    grind
 grind
theorem Pt.nearest {b tg x v u:Nat→Rat}(h:Pt p n N b tg y x v 0) (h0:0<p→ip n (N 0) u=b 0) (hy:∀ j,0<j→j<p→0≤y j) (hu:∀ j,0<j→j<p→b j≤ip n (N j) u):ip n (fun i=>x i-tg i) (fun i=>x i-tg i)+ip n (fun i=>u i-x i) (fun i=>u i-x i)≤ip n (fun i=>u i-tg i) (fun i=>u i-tg i):=by
 have h1:ip n (fun i=>u i-tg i) (fun i=>u i-tg i)=ip n (fun i=>x i-tg i) (fun i=>x i-tg i)+ip n (fun i=>u i-x i) (fun i=>u i-x i)+2*ip n (fun i=>x i-tg i) (fun i=>u i-x i):=by
  rw[ip_congr (a:=fun i=>u i-tg i) (b:=fun i=>u i-tg i) (a':=fun i=>(u i-x i)+(x i-tg i)) (b':=fun i=>(u i-x i)+(x i-tg i)) (fun i _=>by grind) (fun i _=>by grind)];rw[ip_add,ip_addr,ip_addr,ip_comm n (fun i=>u i-x i) (fun i=>x i-tg i)];grind
 have h2:0≤ip n (fun i=>x i-tg i) (fun i=>u i-x i):=by
  rw[ip_congr (a':=lc p y N) (b':=fun i=>u i-x i) (fun i hi=>by rw[h.kkt i hi];grind) (fun _ _=>rfl),ip_lc];refine sm_nonneg fun j hj=>?_;rw[ip_subr,h.eqs j hj]
  by_cases e:j=0
  · subst e;rw[h0 hj];have:b 0-b 0=(0:Rat):=by grind
    rw[this];grind
  · have h3:=hy j (by omega) hj;have h4:=hu j (by omega) hj;exact Rat.mul_nonneg h3 (by grind)
 rw[h1];grind
end
end Go.Proofs.Ytjhkapjadfpimaa.Plain
namespace Go.Proofs.Ytjhkapjadfpimaa
set_option linter.unusedVariables false
set_option linter.unusedSimpArgs false
open Go.RowKit Plain
theorem timesL_length (M:Mat) (x:List Rat):(timesL M x).length=M.length:=by simp[timesL]
theorem solve_fits {K:Nat}{M:Mat}{b z:List Rat}(hK0:0<K) (h:formedL M=true) (hf:MFits K M) (hb:QFits K b) (hbl:b.length=M.length) (hz:solveL M b=some z):QFits (gK K (colsL M)) z:=by
 unfold solveL at hz
 simp only at hz
 split at hz
 · injection hz with hz
   subst hz;have hr:=formedL_rect h;have hw:rect (withL M b) (colsL M+1):=withL_rect hr;have h1:=reduceL_ok hw (colsL M) (by omega);have h2:=reduceL_fits (withL_fits hf hb) hw (colsL M) (by omega);intro q hq;obtain⟨k,hk,rfl⟩:=List.mem_map.1 hq
   by_cases e:∃ p∈(reduceL (withL M b) (colsL M)).2.zipIdx,p.1=k
   · obtain⟨p,hp,rfl⟩:=e;rw[xval_mem h1.red.col hp];exact h2.fn h1.rct (by rw[h1.len];exact (h1.red.lt p hp).2) (by omega)
   · rw[xval_none fun p hp e2=>e ⟨p,hp,e2⟩];exact Fits.zero (Nat.lt_of_lt_of_le hK0 (gK_le K _))
 · cases hz
end Go.Proofs.Ytjhkapjadfpimaa
