/- Contracts of functions, for the law. -/
import Derived.Test.YtjhkapjadfpimaaWTrim
namespace Go.Proofs.Ytjhkapjadfpimaa.Plain
set_option linter.unusedVariables false
set_option linter.unusedSimpArgs false
theorem guess_start (un u1 u2 v1 v2 w u' v':Nat) (hu2:u2<4294967296) (hu':u'<w) (hv1:0<v1) :
 (((un*4294967296+u1)*4294967296+u2)*w+u') / ((v1*4294967296+v2)*w+v')≤(un*4294967296+u1) / v1:=by
 have hw:0<w:=by omega
 have hV:0<(v1*4294967296+v2)*w+v':=by
  have:0<(v1*4294967296+v2)*w:=Nat.mul_pos (by omega) hw;omega
 rw[Nat.le_div_iff_mul_le hv1]
 generalize hq:(((un*4294967296+u1)*4294967296+u2)*w+u') / ((v1*4294967296+v2)*w+v')=q
 have h1:q*((v1*4294967296+v2)*w+v')≤((un*4294967296+u1)*4294967296+u2)*w+u':=by
  rw[←hq];exact Nat.div_mul_le_self _ _
 have h2:q*v1*(4294967296*w)≤q*((v1*4294967296+v2)*w+v'):=by
  have e:q*v1*(4294967296*w)=q*(v1*4294967296*w):=by simp[Nat.mul_assoc]
  rw[e]
  apply Nat.mul_le_mul_left
  have:v1*4294967296*w≤(v1*4294967296+v2)*w:=Nat.mul_le_mul_right _ (by omega);omega
 have h3:((un*4294967296+u1)*4294967296+u2)*w+u'<(un*4294967296+u1+1)*(4294967296*w):=by
  have e:(un*4294967296+u1+1)*(4294967296*w)=((un*4294967296+u1)*4294967296+4294967296)*w:=by
   rw[←Nat.mul_assoc,Nat.add_mul (un*4294967296+u1) 1,Nat.one_mul]
  rw[e];have h4:((un*4294967296+u1)*4294967296+u2+1)*w≤((un*4294967296+u1)*4294967296+4294967296)*w:=Nat.mul_le_mul_right _ (by omega);have h5:((un*4294967296+u1)*4294967296+u2+1)*w=((un*4294967296+u1)*4294967296+u2)*w+w:=by rw[Nat.add_mul];simp
  omega
 have h6:q*v1*(4294967296*w)<(un*4294967296+u1+1)*(4294967296*w):=by omega
 have h7:=Nat.lt_of_mul_lt_mul_right h6;omega
theorem guess_high (un u1 u2 v1 v2 w u' v' g:Nat) (hu':u'<w)
 (h:(un*4294967296+u1)*4294967296+u2<g*(v1*4294967296+v2)) :
 (((un*4294967296+u1)*4294967296+u2)*w+u') / ((v1*4294967296+v2)*w+v')<g:=by
 have hw:0<w:=by omega
 have hV:0<(v1*4294967296+v2)*w+v':=by
  have h0:v1*4294967296+v2≠0:=by intro e;rw[e] at h;simp at h
  have:0<(v1*4294967296+v2)*w:=Nat.mul_pos (by omega) hw;omega
 rw[Nat.div_lt_iff_lt_mul hV];have h1:((un*4294967296+u1)*4294967296+u2+1)*w≤g*(v1*4294967296+v2)*w:=Nat.mul_le_mul_right _ h;have h2:((un*4294967296+u1)*4294967296+u2+1)*w=((un*4294967296+u1)*4294967296+u2)*w+w:=by rw[Nat.add_mul];simp
 have h3:g*((v1*4294967296+v2)*w+v')=g*(v1*4294967296+v2)*w+g*v':=by rw[Nat.mul_add,Nat.mul_assoc]
 rw[h3];refine Nat.lt_of_lt_of_le ?_ (Nat.le_add_right _ _);refine Nat.lt_of_lt_of_le ?_ h1;rw[h2];exact Nat.add_lt_add_left hu' _
theorem guess_low (un u1 u2 v1 v2 w u' v' g:Nat) (hv':v'<w) (hg:g<4294967296) (hv1:0<v1)
 (h:g*(v1*4294967296+v2)≤(un*4294967296+u1)*4294967296+u2) :
 g≤(((un*4294967296+u1)*4294967296+u2)*w+u') / ((v1*4294967296+v2)*w+v')+1:=by
 have hw:0<w:=by omega
 have hVw:4294967296*w≤(v1*4294967296+v2)*w:=Nat.mul_le_mul_right _ (by omega);have hV:0<(v1*4294967296+v2)*w+v':=by omega
 rcases Nat.eq_zero_or_pos g with h0 | h0
 · rw[h0];exact Nat.zero_le _
 obtain⟨p,rfl⟩:∃ p,g=p+1:=⟨g-1,by omega⟩
 apply Nat.succ_le_succ
 rw[Nat.le_div_iff_mul_le hV];have h1:(p+1)*(v1*4294967296+v2)*w≤((un*4294967296+u1)*4294967296+u2)*w:=Nat.mul_le_mul_right _ h;have h2:p*((v1*4294967296+v2)*w+v')=p*(v1*4294967296+v2)*w+p*v':=by rw[Nat.mul_add,Nat.mul_assoc]
 have h3:(p+1)*(v1*4294967296+v2)*w=p*(v1*4294967296+v2)*w+(v1*4294967296+v2)*w:=by rw[Nat.add_mul,Nat.add_mul,Nat.one_mul]
 have h4:p*v'≤4294967296*w:=Nat.mul_le_mul (by omega) (by omega);omega
structure GCtx (U V un u1 u2 v1 v2 w u' v':Nat):Prop where
 hU:U=((un*4294967296+u1)*4294967296+u2)*w+u'
 hV:V=(v1*4294967296+v2)*w+v'
 hu':u'<w
 hv':v'<w
 dun:un<4294967296
 du1:u1<4294967296
 du2:u2<4294967296
 dv1:v1<4294967296
 dv2:v2<4294967296
 norm:2147483648≤v1
 lt:U<4294967296*V
structure GInv (U V un u1 v1 g r:Nat):Prop where
 eq:g*v1+r=un*4294967296+u1
 le:U / V≤g
 r:r<4294967296
 g:g≤4294967297
section
variable {U V un u1 u2 v1 v2 w u' v' g r:Nat}
theorem GCtx.pos (h:GCtx U V un u1 u2 v1 v2 w u' v'):0<V:=by
 have h1:=h.lt
 rcases Nat.eq_zero_or_pos V with h0 | h0
 · rw[h0] at h1;omega
 · exact h0
theorem GCtx.q (h:GCtx U V un u1 u2 v1 v2 w u' v'):U / V<4294967296:=by
 rw[Nat.div_lt_iff_lt_mul h.pos];exact h.lt
theorem GCtx.un_le (h:GCtx U V un u1 u2 v1 v2 w u' v'):un≤v1:=by
 have h1:=h.lt;have hw:0<w:=by have:=h.hu';omega
 rcases Nat.lt_or_ge v1 un with hc | hc
 · exfalso
   have h2:(v1+1)*(4294967296*(4294967296*w))≤un*(4294967296*(4294967296*w)):=Nat.mul_le_mul_right _ hc
   have h3:un*(4294967296*(4294967296*w))≤U:=by
    rw[h.hU];have e:un*(4294967296*(4294967296*w))=un*4294967296*4294967296*w:=by simp only[Nat.mul_assoc]
    rw[e];have:un*4294967296*4294967296*w≤((un*4294967296+u1)*4294967296+u2)*w:=Nat.mul_le_mul_right _ (by omega);exact Nat.le_trans this (Nat.le_add_right _ _)
   have h4:V<(v1+1)*(4294967296*w):=by
    rw[h.hV];have h5:=h.hv';have h6:=h.dv2;have h7:(v1*4294967296+v2+1)*w≤(v1+1)*4294967296*w:=Nat.mul_le_mul_right _ (by omega);rw[Nat.add_mul (v1*4294967296+v2),Nat.one_mul] at h7;rw[←Nat.mul_assoc];exact Nat.lt_of_lt_of_le (Nat.add_lt_add_left h5 _) h7
   have h5:4294967296*V<4294967296*((v1+1)*(4294967296*w)):=Nat.mul_lt_mul_of_pos_left h4 (by omega);have e:4294967296*((v1+1)*(4294967296*w))=(v1+1)*(4294967296*(4294967296*w)):=Nat.mul_left_comm _ _ _;rw[e] at h5;exact absurd (Nat.lt_of_lt_of_le h1 (Nat.le_of_lt h5)) (Nat.not_lt.2 (Nat.le_trans h2 h3))
 · exact hc
theorem GCtx.start (h:GCtx U V un u1 u2 v1 v2 w u' v'):GInv U V un u1 v1 ((un*4294967296+u1) / v1) ((un*4294967296+u1) % v1):=by
 have hn:=h.norm;have h1:=h.un_le;have h2:=h.du1;refine⟨?_,?_,Nat.lt_trans (Nat.mod_lt _ (by omega)) h.dv1,?_⟩
 · rw[Nat.mul_comm];exact Nat.div_add_mod _ _
 · rw[h.hU,h.hV];exact guess_start un u1 u2 v1 v2 w u' v' h.du2 h.hu' (by omega)
 · apply Nat.le_of_lt_succ
   rw[Nat.div_lt_iff_lt_mul (by omega)];omega
theorem GCtx.more (h:GCtx U V un u1 u2 v1 v2 w u' v') (i:GInv U V un u1 v1 g r) (t:4294967296≤g∨r*4294967296+u2<g*v2) :
 1≤g∧U / V≤g-1∧(g-1)*v1+(r+v1)=un*4294967296+u1:=by
 have hq:=h.q;have he:=i.eq
 have hg:U / V<g:=by
  rcases t with t | t
  · omega
  · rw[h.hU,h.hV];refine guess_high un u1 u2 v1 v2 w u' v' g h.hu' ?_;have e:g*(v1*4294967296+v2)=g*v1*4294967296+g*v2:=by rw[Nat.mul_add,Nat.mul_assoc]
    rw[e,←he];clear e he hq i h
    generalize g*v1=a at *
    generalize g*v2=b at *
    rw[Nat.mul_comm r] at t;rw[Nat.mul_comm (a+r),Nat.mul_comm a];omega
 have h1:1≤g:=Nat.lt_of_le_of_lt (Nat.zero_le _) hg;refine⟨h1,Nat.le_sub_one_of_lt hg,?_⟩;obtain⟨p,rfl⟩:∃ p,g=p+1:=⟨g-1,by omega⟩;rw[Nat.add_mul,Nat.one_mul] at he;rw[Nat.add_sub_cancel];omega
theorem GCtx.next (i:GInv U V un u1 v1 g r) (m:1≤g∧U / V≤g-1∧(g-1)*v1+(r+v1)=un*4294967296+u1) (hr:r+v1<4294967296):GInv U V un u1 v1 (g-1) (r+v1) :=
 ⟨m.2.2,m.2.1,hr,by have:=i.g;omega⟩
theorem GCtx.done (h:GCtx U V un u1 u2 v1 v2 w u' v') (i:GInv U V un u1 v1 g r) (hg:g<4294967296) (t:g*v2≤r*4294967296+u2):U / V≤g∧g≤U / V+1∧g<4294967296:=by
 refine⟨i.le,?_,hg⟩;rw[h.hU,h.hV];have hn:=h.norm;refine guess_low un u1 u2 v1 v2 w u' v' g h.hv' hg (by omega) ?_;have e:g*(v1*4294967296+v2)=g*v1*4294967296+g*v2:=by rw[Nat.mul_add,Nat.mul_assoc]
 rw[e,←i.eq];clear e hn
 generalize g*v1=a at *
 generalize g*v2=b at *
 rw[Nat.mul_comm r] at t;rw[Nat.mul_comm (a+r),Nat.mul_comm a];omega
theorem GCtx.stop (h:GCtx U V un u1 u2 v1 v2 w u' v') (m:1≤g∧U / V≤g-1∧(g-1)*v1+(r+v1)=un*4294967296+u1) (hr:4294967296≤r+v1) :
 U / V≤g-1∧g-1≤U / V+1∧g-1<4294967296:=by
 obtain⟨m1,m2,m3⟩:=m;have hn:=h.norm;have h1:=h.un_le;have h2:=h.du1
 have hlt:g-1<4294967296:=by
  have h3:(g-1)*v1<4294967296*v1:=by
   have:un*4294967296≤v1*4294967296:=Nat.mul_le_mul_right _ h1;rw[Nat.mul_comm 4294967296 v1];omega
  exact Nat.lt_of_mul_lt_mul_right h3
 refine⟨m2,?_,hlt⟩;rw[h.hU,h.hV];refine guess_low un u1 u2 v1 v2 w u' v' (g-1) h.hv' hlt (by omega) ?_;have e:(g-1)*(v1*4294967296+v2)=(g-1)*v1*4294967296+(g-1)*v2:=by rw[Nat.mul_add,Nat.mul_assoc]
 rw[e,←m3];have h4:(g-1)*v2≤4294967296*4294967296:=Nat.mul_le_mul (by omega) (by have:=h.dv2;omega);have h5:4294967296*4294967296≤(r+v1)*4294967296:=Nat.mul_le_mul_right _ hr;clear e m3 m2 h1 h2 hn hlt
 generalize (g-1)*v1=a at *
 generalize (g-1)*v2=b at *
 rw[Nat.mul_comm (r+v1)] at h5;rw[Nat.mul_comm (a+(r+v1)),Nat.mul_comm a];omega
end
theorem pow_up {d s:Nat}(hs:s<32) (h:d*2 ^ s<4294967296):(d+1)*2 ^ s≤4294967296:=by
 have e:4294967296=2 ^ (32-s)*2 ^ s:=by rw[←Nat.pow_add,show 32-s+s=32 by omega]
 rw[e] at h ⊢;exact Nat.mul_le_mul_right _ (Nat.lt_of_mul_lt_mul_right h)
theorem norm_of {l2 lv:List Nat}{n s d x:Nat}(hl:l2.length=n) (hn:2≤n) (hd:Dig l2) (ht:l2.getD (n-1) 0=d) (hs:s<32) (hx:x=d*2 ^ s) (hx1:2147483648≤x) (hx2:x<4294967296) (hv:NatIs lv (val l2*2 ^ s)) :
 lv.length=n∧2147483648≤lv.getD (n-1) 0:=by
 obtain⟨m,rfl⟩:∃ m,n=m+1:=⟨n-1,by omega⟩;rw[Nat.add_sub_cancel] at *;have h1:val l2=val (l2.take m)+pw m*d:=by rw[←val_take_ge l2 (m+1) (by omega),val_take_succ,ht]
 have h2:=val_take_lt hd m;have h3:val l2<pw m*(d+1):=by rw[Nat.mul_add,Nat.mul_one];omega
 have h4:val l2*2 ^ s<pw (m+1):=by
  have h5:val l2*2 ^ s<pw m*(d+1)*2 ^ s:=Nat.mul_lt_mul_of_pos_right h3 (Nat.two_pow_pos s);have h6:pw m*((d+1)*2 ^ s)≤pw m*4294967296:=Nat.mul_le_mul_left _ (pow_up hs (by rw[←hx];exact hx2));rw[←Nat.mul_assoc,Nat.mul_comm (pw m) 4294967296] at h6;exact Nat.lt_of_lt_of_le h5 h6
 have h7:pw m*x≤val l2*2 ^ s:=by
  rw[h1,hx,←Nat.mul_assoc];exact Nat.mul_le_mul_right _ (Nat.le_add_left _ _)
 have h8:pw m*2147483648≤val lv:=by
  rw[hv.val];exact Nat.le_trans (Nat.mul_le_mul_left _ hx1) h7
 have h9:=length_le_of_lt (k:=m+1) hv.canon (by rw[hv.val];exact h4)
 have h10:lv.length=m+1:=by
  rcases Nat.lt_or_ge m lv.length with h | h
  · omega
  · have h11:=val_lt hv.dig;have h12:=pw_mono h;have h13:pw m*1≤pw m*2147483648:=Nat.mul_le_mul_left _ (by omega);omega
 refine⟨h10,?_⟩;have h14:val lv=val (lv.take m)+pw m*lv.getD m 0:=by rw[←val_take_ge lv (m+1) (by omega),val_take_succ]
 have h15:=val_take_lt hv.dig m;have h16:pw m*2147483648<pw m*(lv.getD m 0+1):=by rw[Nat.mul_add,Nat.mul_one];omega
 have:=Nat.lt_of_mul_lt_mul_left h16;omega
theorem div_start {l1 l2 lu:List Nat}{n m s V:Nat}(h1:Dig l1) (h2:Canon l2) (hn:l2.length=n) (hn2:2≤n) (hm:l1.length=m+n) (hlu:val lu=val l1*2 ^ s) (hll:lu.length=m+n+1) (hV:V=val l2*2 ^ s):val (lu.drop (m+1))<V:=by
 have h3:=val_take_drop lu (m+1) (by omega);have h4:=val_lt h1;have h5:=canon_ge h2 (by intro e;subst e;simp at hn;omega)
 have h6:pw (m+1)*val (lu.drop (m+1))<pw (m+1)*V:=by
  have h7:val l1*2 ^ s<pw (m+n)*2 ^ s:=Nat.mul_lt_mul_of_pos_right (by rw[←hm];exact h4) (Nat.two_pow_pos s);have h8:pw (m+n)*2 ^ s=pw (m+1)*(pw (n-1)*2 ^ s):=by rw[←Nat.mul_assoc,←pw_add,show m+1+(n-1)=m+n by omega]
  have h9:pw (m+1)*(pw (n-1)*2 ^ s)≤pw (m+1)*V:=by
   rw[hV,←hn];exact Nat.mul_le_mul_left _ (Nat.mul_le_mul_right _ h5)
  omega
 exact Nat.lt_of_mul_lt_mul_left h6
theorem div_mid {us:List Nat}{n j V:Nat}(hd:Dig us) (hl:j+n+1≤us.length) (hV:V<pw n) (h:val (us.drop (j+1))<V) :
 val ((us.drop j).take (n+1))<4294967296*V∧val (us.drop (j+n+1))=0:=by
 have h1:=val_drop us j (by omega);have h2:=hd.getD j;have h3:val (us.drop j)<4294967296*V:=by omega
 have h4:=val_take_drop (us.drop j) (n+1) (by rw[List.length_drop];omega);rw[List.drop_drop] at h4
 have h5:val (us.drop (j+(n+1)))=0:=by
  rcases Nat.eq_zero_or_pos (val (us.drop (j+(n+1)))) with h0 | h0
  · exact h0
  · have h6:pw (n+1)*1≤pw (n+1)*val (us.drop (j+(n+1))):=Nat.mul_le_mul_left _ h0
    simp only[pw] at h6 h4
    omega
 rw[show j+n+1=j+(n+1) by omega];refine⟨?_,h5⟩;rw[h5] at h4;omega
theorem div_round {us mid':List Nat}{n j V k:Nat}{qs:List Nat}{U:Nat}(hl:j+n+1≤us.length) (hpost:val (us.drop (j+n+1))=0) (hm:val mid'=val ((us.drop j).take (n+1)) % V) (hml:mid'.length=n+1) (hk:k=j+1)
 (hU:U=val us+V*(pw k*val qs)):U=val (us.take j++mid'++us.drop (j+n+1))+V*(pw j*val (val ((us.drop j).take (n+1)) / V::qs))∧val ((us.take j++mid'++us.drop (j+n+1)).drop j)=val mid':=by
 have h1:=val_take_drop us j (by omega);have h2:=val_take_drop (us.drop j) (n+1) (by rw[List.length_drop];omega);rw[List.drop_drop,show j+(n+1)=j+n+1 by omega,hpost,Nat.mul_zero,Nat.add_zero] at h2;have hj:(us.take j).length=j:=by rw[List.length_take];omega
 constructor
 · rw[val_append,val_append,hpost,Nat.mul_zero,Nat.add_zero,hj,hm,hU,←h1,←h2,hk]
   generalize val ((us.drop j).take (n+1))=M
   generalize val (us.take j)=P
   have h3:=Nat.div_add_mod M V
   simp only[pw,val]
   have e1:pw j*M=V*(pw j*(M / V))+pw j*(M % V):=by
    rw[Nat.mul_left_comm V,←Nat.mul_add,h3]
   have e2:pw j*(M / V+4294967296*val qs)=pw j*(M / V)+4294967296*pw j*val qs:=by
    rw[Nat.mul_add,←Nat.mul_assoc,Nat.mul_comm (pw j) 4294967296]
   rw[e2,Nat.mul_add,e1];omega
 · rw[List.append_assoc,List.drop_append_of_le_length (by omega),List.drop_of_length_le (by omega),List.nil_append,val_append,hpost]
   simp
theorem unshift_step {us rs:List Nat}{k s t tk u:Nat}(hs:s<32) (hu:us.getD k 0=u) (hlen:rs.length=k) (htk:tk=u % 2 ^ s) (h:2 ^ s*val rs+t=val (us.take k)+pw k*tk) (t1:Nat) (r:Nat) (hr:r=u / 2 ^ s+t1*2 ^ (32-s)) :
 2 ^ s*val (rs++[r])+t=val (us.take (k+1))+pw (k+1)*t1:=by
 rw[val_snoc,hlen,val_take_succ,hu,pw,hr,Nat.mul_add];have e:(4294967296:Nat)=2 ^ s*2 ^ (32-s):=by rw[←Nat.pow_add,show s+(32-s)=32 by omega]
 have h1:=Nat.div_add_mod u (2 ^ s);rw[←htk] at h1
 have e1:2 ^ s*(pw k*(u / 2 ^ s+t1*2 ^ (32-s)))=pw k*(2 ^ s*(u / 2 ^ s))+4294967296*pw k*t1:=by
  rw[Nat.mul_left_comm,Nat.mul_add (2 ^ s),Nat.mul_add (pw k),Nat.mul_left_comm (2 ^ s) t1,←e]
  congr 1
  rw[Nat.mul_comm t1,←Nat.mul_assoc,Nat.mul_comm (pw k)]
 rw[e1];have e2:pw k*u=pw k*(2 ^ s*(u / 2 ^ s))+pw k*tk:=by rw[←Nat.mul_add,h1]
 rw[e2];omega
theorem unshift_end {us rs:List Nat}{n s t R:Nat}(ht:t<2 ^ s) (h:2 ^ s*val rs+t=val (us.take n)+pw n*0) (hu:val (us.take n)=R*2 ^ s):val rs=R:=by
 rw[hu,Nat.mul_zero,Nat.add_zero,Nat.mul_comm R] at h;have h1:(2 ^ s*val rs+t) / 2 ^ s=(2 ^ s*R) / 2 ^ s:=by rw[h]
 rw[Nat.mul_add_div (Nat.two_pow_pos s),Nat.div_eq_of_lt ht,Nat.mul_div_cancel_left _ (Nat.two_pow_pos s)] at h1;omega
end Go.Proofs.Ytjhkapjadfpimaa.Plain
