/- Contracts of functions, for the law. -/
import Derived.Test.YtjhkapjadfpimaaGreatDiv
namespace Go.Proofs.YtjhkapjadfpimaaGreat
set_option linter.unusedVariables false
set_option linter.unusedSimpArgs false
open Go.RowKit Plain
set_option maxRecDepth 100000
set_option maxHeartbeats 40000000
theorem Row.mid {w:World}{g j i:Nat}{pre us post:List Nat}(h:Row w g (pre++us++post)) (hp:pre.length=j) (hi:i<us.length) (hd:Dig us) :
 ∃ d:Nat,w.cell? ⟨g,j+i,none⟩=some (.int .u32 (d:Int))∧d<4294967296∧Hid (us.getD i 0=d):=by
 refine⟨us.getD i 0,?_,hd.getD i,rfl⟩;have:=h.cell (i:=j+i) (by simp;omega);rw[this]
 congr 3
 rw[List.append_assoc,a1l,a2b (by omega),hp,Nat.add_sub_cancel_left,a2q hi,a1l]
def RetDigit (gu n:Nat) (pre us post lv:List Nat) (W:World) (e:Ending) (w':World):Prop :=
 ∃ us',e=.returned (.int .u32 ((val us / val lv:Nat):Int))∧Row w' gu (pre++us'++post)∧Hid (us'.length=n+1)∧Dig us'∧Hid (val us'=val us % val lv)∧W.grownBy w' (some gu)
def gmeas (v:Value):Nat:=(intOf v).toNat
def DigCut (q:Nat) (w:World) (g:Value) (wx:World):Prop:=∃ gv nd:Nat,g=.int .u64 (gv:Int)∧q≤gv∧gv≤q+1∧gv<4294967296∧wx=w.drewN nd
def GuessInv (U V un u1 v1:Nat) (w:World) (g r:Value) (wr:World):Prop:=∃ gv rv:Nat,g=.int .u64 (gv:Int)∧r=.int .u64 (rv:Int)∧Hid (GInv U V un u1 v1 gv rv)∧∃ nd,wr=w.drewN nd
theorem split2 {l:List Nat}{n:Nat}(h1:n+1<l.length) (h2:l.length≤n+2):val l=(l.getD (n+1) 0*4294967296+l.getD n 0)*pw n+val (l.take n):=by
 have e:l.length=n+2:=by omega
 rw[←t7 l (n+2) h2,m7,m7,pw]
 generalize l.getD (n+1) 0=a
 generalize l.getD n 0=b
 generalize pw n=p
 have e1:(a*4294967296+b)*p=4294967296*(p*a)+p*b:=by
  rw[a3k,a3d a,a3c,a3d b,a3d a p]
 rw[e1,a3c];omega
theorem tV (a b c p z:Nat):(b*4294967296+c)*p+z+4294967296*(4294967296*p)*a=((a*4294967296+b)*4294967296+c)*p+z:=by
 have e1:((a*4294967296+b)*4294967296+c)*p=4294967296*(4294967296*p)*a+(b*4294967296+c)*p:=by
  rw[a3k,a3k,a3k,a3k,Nat.add_assoc,a3d _ a,←a3c,←a3c]
 rw[e1,Nat.add_comm (4294967296*(4294967296*p)*a),Nat.add_assoc,Nat.add_assoc,Nat.add_comm z]
theorem split3 {l:List Nat}{n:Nat}(h1:l.length=n+3):val l=((l.getD (n+2) 0*4294967296+l.getD (n+1) 0)*4294967296+l.getD n 0)*pw n+val (l.take n):=by
 rw[←t7 l (n+3) (by omega),m7];have h2:=split2 (l:=l.take (n+2)) (n:=n) (by rw[a2c];omega) (by rw[a2c];omega);rw[h2];have g1:(l.take (n+2)).getD (n+1) 0=l.getD (n+1) 0:=by simp[a1l,a2w]
 have g2:(l.take (n+2)).getD n 0=l.getD n 0:=by simp[a1l,a2w]
 have g3:(l.take (n+2)).take n=l.take n:=by rw[List.take_take];congr 1;omega
 rw[g1,g2,g3,pw,pw];exact tV _ _ _ _ _
theorem a0t {us lv:List Nat}{n un u1 u2 v1 v2:Nat}(hus:Hid (us.length=n+1)) (hlv:Hid (lv.length=n)) (hn:2≤n) (hud:Dig us) (hvd:Dig lv) (hgn:Hid (us.getD n 0=un)) (hg1:Hid (us.getD (n-1) 0=u1)) (hg2:Hid (us.getD (n-2) 0=u2))
 (hv1:Hid (lv.getD (n-1) 0=v1)) (hv2:Hid (lv.getD (n-2) 0=v2)) (hnorm:2147483648≤v1) (hlt:Hid (val us<4294967296*val lv)) :
 GCtx (val us) (val lv) un u1 u2 v1 v2 (pw (n-2)) (val (us.take (n-2))) (val (lv.take (n-2))):=by
 obtain⟨m,rfl⟩:∃ m,n=m+2:=⟨n-2,by omega⟩;have e1:m+2-1=m+1:=by omega
 have e2:m+2-2=m:=by omega
 rw[e1] at hg1 hv1;rw[e2] at hg2 hv2 ⊢;have h3:=split3 (l:=us) (n:=m) hus.out;have h2:=split2 (l:=lv) (n:=m) (by rw[hlv.out];omega) (by rw[hlv.out];omega);rw[hgn.out,hg1.out,hg2.out] at h3;rw[hv1.out,hv2.out] at h2;exact⟨h3,h2,L0 hud _,L0 hvd _,hgn.out ▸ hud.getD _,hg1.out ▸ hud.getD _,hg2.out ▸ hud.getD _,hv1.out ▸ hvd.getD _,hv2.out ▸ hvd.getD _,hnorm,hlt.out⟩
theorem nv_drewN {w:World}{A:Option Addr}{c:Nat}{l:List Nat}(h:Nv w A c l) (n:Nat):Nv (w.drewN n) A c l:=⟨h.len,h.big,h.rd,h.dig⟩
theorem jH (w:World) (r:Option Nat) (n:Nat):w.grownBy (w.drewN n) r:=⟨rfl,rfl,rfl,a1u _,fun _ _ _=>rfl⟩
theorem Y6 (w:World){a w':World}{g:Nat}(h:a.grownBy w' (some g)) (i:Nat) (v:Value):a.grownBy (w'.setCell ⟨g,i,none⟩ v) (some g) :=
 ⟨h.os,h.tape,h.output,by simpa [World.setCell] using h.size,fun k hk hne=>(Below.heap_setCell w' _ v k (fun e=>hne (by rw[e]))).trans (h.block k hk hne)⟩
theorem cE {a b c:World}{r:Option Nat}(h:a.grownBy b r) (k:b.grownBy c r):a.grownBy c r :=
 ⟨k.os.trans h.os,k.tape.trans h.tape,k.output.trans h.output,a1t h.size k.size,fun i hi hn=>(k.block i (a1o hi h.size) hn).trans (h.block i hi hn)⟩
theorem bX {w w':World}{b:Addr}{c g:Nat}{l:List Nat}(h:Nv w (some b) c l) (hg:w.grownBy w' (some g)) (hne:b.block≠g):Nv w' (some b) c l:=by
 refine⟨h.len,h.big,fun hx=>?_,h.dig⟩;obtain⟨a,e,h1,h2⟩:=h.rd hx
 cases e
 refine⟨_,rfl,a1o h1 hg.size,fun j hj=>?_⟩;rw[a4a (hg.block _ (by rw[f7];exact h1) (by rw[f7];intro e;exact hne (by injection e)))];exact h2 j hj
def MsInv (us lv:List Nat) (gv n gu:Nat) (pre post:List Nat) (w:World) (c b i:Value) (wr:World):Prop :=
 ∃ (k cv bv:Nat) (lo:List Nat),k≤n∧c=.int .u64 (cv:Int)∧b=.int .u64 (bv:Int)∧i=.int .i64 (k:Int)∧cv<4294967296∧bv≤1∧Hid (lo.length=k)∧Dig lo ∧
  Row wr gu (pre++(lo++us.drop k)++post)∧Hid (val lo+gv*val (lv.take k)=val (us.take k)+pw k*(cv+bv))∧w.grownBy wr (some gu)
theorem nE (da x y:Nat) (h1:da<4294967296) (h:x+y≤4294967296) :
 ∃ z c:Nat,IntKind.u64.wrap (IntKind.u64.wrap ((da:Int)-x)-y) % 4294967296=(z:Int)∧IntKind.u64.wrap (IntKind.u64.wrap ((da:Int)-x)-y) / 9223372036854775808=(c:Int) ∧
  z<4294967296∧c≤1∧z+x+y=da+4294967296*c:=by
 rw[G2,G2]
 by_cases h2:x+y≤da
 · refine⟨da - x - y,0,?_,?_,by omega,by omega,by omega⟩ <;> omega
 · refine⟨da+4294967296 - x - y,1,?_,?_,by omega,by omega,by omega⟩ <;> omega
theorem nv_set {w:World}{b:Addr}{c g:Nat}{l:List Nat}(h:Nv w (some b) c l) (hne:b.block≠g) (i:Nat) (v:Value):Nv (w.setCell ⟨g,i,none⟩ v) (some b) c l :=
 bX h (Y6 w (World.grownBy.refl w (some g)) i v) hne
theorem and_mask (p c:Nat) (h:p+c<18446744073709551616):∃ m:Nat,Hid (m=(p+c) % 4294967296)∧m<4294967296∧bits .and .u64 ((p:Int)+(c:Int)) 4294967295=(m:Int):=by
 refine⟨(p+c) % 4294967296,rfl,a3l _ (by omega),?_⟩;have h1:=u64_and_nat (p+c) 4294967295 h (by omega);rw[show (4294967295:Nat)=2 ^ 32-1 from rfl,Nat.and_two_pow_sub_one_eq_mod] at h1;rw[←Int.natCast_add];exact h1
theorem a0n {us:List Nat}{k:Nat}(h:k<us.length):us.drop k=us.getD k 0::us.drop (k+1):=by
 rw[List.drop_eq_getElem_cons h,a1l,a1m h];rfl
theorem fS {lo us:List Nat}{k:Nat}(h:lo.length=k):(lo++us.drop k).getD k 0=us.getD k 0:=by
 subst h;rw[a1l,a2b (a1u _),Nat.sub_self,a2x,a1l]
 rfl
theorem qB {us lo pre post:List Nat}{wr:World}{gu j k n z:Nat}(hrow:Row wr gu (pre++(lo++us.drop k)++post)) (hlo:Hid (lo.length=k)) (hpre:Hid (pre.length=j)) (hus:Hid (us.length=n+1)) (x:Int) (hx:x=(z:Int)) (hk:k≤n:=by omega) :
 Row (wr.setCell ⟨gu,j+k,none⟩ (.int .u32 x)) gu (pre++(lo++[z]++us.drop (k+1))++post):=by
 have h1:Row wr gu ((pre++lo)++us.getD k 0::(us.drop (k+1)++post)):=hrow.eq (by rw[a0n (by rw[hus.out];omega)];simp);exact (h1.push (by rw[a1x,hpre.out,hlo.out]) x hx).eq (by simp)
theorem ms_step {us lv lo pre post:List Nat}{gv n gu j k c bw d vk p m z c2:Nat}{w wr:World}(hkn:k<n) (hus:Hid (us.length=n+1)) (hlo:Hid (lo.length=k)) (hlod:Dig lo) (hpre:Hid (pre.length=j)) (hud:Dig us)
 (hgd:Hid ((lo++us.drop k).getD k 0=d)) (hgvk:Hid (lv.getD k 0=vk)) (hp:Hid (gv*vk=p)) (hm:Hid (m=(p+c) % 4294967296)) (hz:z<4294967296) (hc2:c2≤1) (hs:z+m+bw=d+4294967296*c2)
 (hrow:Row wr gu (pre++(lo++us.drop k)++post)) (hval:Hid (val lo+gv*val (lv.take k)=val (us.take k)+pw k*(c+bw))) (hgr:w.grownBy wr (some gu))
 (xc xb xi xz:Int) (h1:xc=(((p+c) / 4294967296:Nat):Int)) (h2:xb=(c2:Int)) (h3:xi=(k:Int)+1) (h4:xz=(z:Int)) (hcb:(p+c) / 4294967296<4294967296) :
 MsInv us lv gv n gu pre post w (.int .u64 xc) (.int .u64 xb) (.int .i64 xi) (wr.setCell ⟨gu,j+k,none⟩ (.int .u32 xz)):=by
 refine⟨k+1,(p+c) / 4294967296,c2,lo++[z],by omega,by rw[h1],by rw[h2],by rw[h3];rfl,hcb,hc2,?_,hlod.snoc hz,qB hrow hlo hpre hus xz h4,?_,Y6 w hgr _ _⟩
 · show (lo++[z]).length=k+1
   rw[a1x,hlo.out];rfl
 · show val (lo++[z])+gv*val (lv.take (k+1))=val (us.take (k+1))+pw (k+1)*_
   have hd:us.getD k 0=d:=by rw[←fS hlo.out];exact hgd.out
   rw[E8,hlo.out,m7,m7,hgvk.out,hd,pw,a2y gv,Nat.mul_left_comm gv,hp.out];have h5:=hval.out;have h6:p+c=m+4294967296*((p+c) / 4294967296):=by rw[hm.out];omega
   generalize (p+c) / 4294967296=q at *
   have h7:pw k*(z+m+bw)=pw k*(d+4294967296*c2):=by rw[hs]
   have h8:pw k*(p+c)=pw k*(m+4294967296*q):=by rw[←h6]
   have e1:pw k*(4294967296*c2)=4294967296*pw k*c2:=by rw[←a3c,a3d (pw k)]
   have e2:pw k*(4294967296*q)=4294967296*pw k*q:=by rw[←a3c,a3d (pw k)]
   rw[a2y,a2y,a2y,e1] at h7;rw[a2y,a2y,e2] at h8;rw[a2y] at h5;rw[a2y (4294967296*pw k)]
   generalize pw k*z=z1 at *
   generalize pw k*m=m1 at *
   generalize pw k*bw=b1 at *
   generalize pw k*d=d1 at *
   generalize pw k*p=p1 at *
   generalize pw k*c=c1 at *
   generalize 4294967296*pw k*c2=a1 at *
   generalize 4294967296*pw k*q=a2 at *
   generalize gv*val (lv.take k)=g1 at *
   clear hs h6 hm hp hval;omega
theorem ms_last {us lv lo:List Nat}{gv n c bw d z c2:Nat}(hus:Hid (us.length=n+1)) (hlv:Hid (lv.length=n)) (hlo:Hid (lo.length=n)) (hgd:Hid ((lo++us.drop n).getD n 0=d))
 (hval:Hid (val lo+gv*val (lv.take n)=val (us.take n)+pw n*(c+bw))) (hs:z+c+bw=d+4294967296*c2) :
 val (lo++[z])+gv*val lv=val us+pw (n+1)*c2:=by
 have hd:us.getD n 0=d:=by rw[←fS hlo.out];exact hgd.out
 have h0:=hval.out;rw[t7 lv n (by rw[hlv.out];omega)] at h0;have h1:val us=val (us.take n)+pw n*d:=by rw[←t7 us (n+1) (by rw[hus.out];omega),m7,hd]
 rw[E8,hlo.out,h1,pw];have h7:pw n*(z+c+bw)=pw n*(d+4294967296*c2):=by rw[hs]
 have e1:pw n*(4294967296*c2)=4294967296*pw n*c2:=by rw[←a3c,a3d (pw n)]
 rw[a2y,a2y,a2y,e1] at h7;rw[a2y] at h0
 generalize gv*val lv=g1 at *
 clear hs h1;omega
theorem tD {U V g x P:Nat}(hV:0<V) (hq:U / V≤g∧g≤U / V+1) (h:x+g*V=U+P*0):U / V=g∧x=U % V:=by
 have h1:g≤U / V:=by rw[Nat.le_div_iff_mul_le hV];omega
 have h2:U / V=g:=by omega
 refine⟨h2,?_⟩;have h3:=Nat.div_add_mod U V;rw[h2,a3d] at h3;omega
theorem vQ {U V g x P:Nat}(hV:0<V) (hq:U / V≤g∧g≤U / V+1) (hx:x<P){P':Nat}(hP:P≤P') (h:x+g*V=U+P'*1):g=U / V+1∧x+V=U % V+P':=by
 have h1:¬ g≤U / V:=by rw[Nat.le_div_iff_mul_le hV];omega
 have h2:g=U / V+1:=by omega
 refine⟨h2,?_⟩;have h3:=Nat.div_add_mod U V;rw[h2,a3k,Nat.one_mul,a3d (U / V)] at h;omega
def AbInv (us lv:List Nat) (n gu:Nat) (pre post:List Nat) (w:World) (c i:Value) (wr:World):Prop :=
 ∃ (k cv:Nat) (lo:List Nat),k≤n∧c=.int .u64 (cv:Int)∧i=.int .i64 (k:Int)∧cv≤1∧Hid (lo.length=k)∧Dig lo ∧
  Row wr gu (pre++(lo++us.drop k)++post)∧Hid (val lo+pw k*cv=val (us.take k)+val (lv.take k))∧w.grownBy wr (some gu)
theorem ab_step {us lv lo pre post:List Nat}{n gu j k cy d vk:Nat}{w wr:World}(hkn:k<n) (hus:Hid (us.length=n+1)) (hlo:Hid (lo.length=k)) (hlod:Dig lo) (hpre:Hid (pre.length=j))
 (hgd:Hid ((lo++us.drop k).getD k 0=d)) (hgvk:Hid (lv.getD k 0=vk)) (s:Nat) (hs:s=d+vk+cy) (hs2:s / 4294967296≤1)
 (hrow:Row wr gu (pre++(lo++us.drop k)++post)) (hval:Hid (val lo+pw k*cy=val (us.take k)+val (lv.take k))) (hgr:w.grownBy wr (some gu)) (nq:Nat)
 (xc xi xz:Int) (h1:xc=((s / 4294967296:Nat):Int)) (h3:xi=(k:Int)+1) (h4:xz=((s % 4294967296:Nat):Int)) :
 AbInv us lv n gu pre post w (.int .u64 xc) (.int .i64 xi) ((wr.drewN nq).setCell ⟨gu,j+k,none⟩ (.int .u32 xz)):=by
 refine⟨k+1,s / 4294967296,lo++[s % 4294967296],by omega,by rw[h1],by rw[h3];rfl,hs2,?_,hlod.snoc (a3l _ (by omega)),qB (wr:=wr.drewN nq) hrow hlo hpre hus xz h4,?_,Y6 w (cE hgr (jH wr _ nq)) _ _⟩
 · show (lo++[_]).length=k+1
   rw[a1x,hlo.out];rfl
 · show val (lo++[_])+pw (k+1)*_=val (us.take (k+1))+val (lv.take (k+1))
   have hd:us.getD k 0=d:=by rw[←fS hlo.out];exact hgd.out
   rw[E8,hlo.out,m7,m7,hgvk.out,hd,pw];have h5:=hval.out;have h7:pw k*s=pw k*(d+vk+cy):=by rw[hs]
   have h8:pw k*s=pw k*(s % 4294967296+4294967296*(s / 4294967296)):=by rw[Nat.mod_add_div]
   have e1:pw k*(4294967296*(s / 4294967296))=4294967296*pw k*(s / 4294967296):=by rw[←a3c,a3d (pw k)]
   rw[a2y,e1] at h8;rw[a2y,a2y] at h7;clear hs hs2;omega
theorem Row.trans_ {w:World}{g:Nat}{l l':List Nat}(h:Row w g l) (e:l=l'):Row w g l':=e ▸ h
theorem ab_last {us lv lo:List Nat}{n cy d R:Nat}(hus:Hid (us.length=n+1)) (hlv:Hid (lv.length=n)) (hlo:Hid (lo.length=n)) (hgd:Hid ((lo++us.drop n).getD n 0=d))
 (hval:Hid (val lo+pw n*cy=val (us.take n)+val (lv.take n))) (hd:Dig (lo++[(d+cy) % 4294967296])) (h:val us+val lv=R+pw (n+1)) (hR:R<pw (n+1)) :
 val (lo++[(d+cy) % 4294967296])=R:=by
 have b:us.getD n 0=d:=by rw[←fS hlo.out];exact hgd.out
 have h0:=hval.out;rw[t7 lv n (by rw[hlv.out];omega)] at h0;have h1:val us=val (us.take n)+pw n*d:=by rw[←t7 us (n+1) (by rw[hus.out];omega),m7,b]
 have h2:=E0 hd;rw[a1x,hlo.out,List.length_singleton] at h2;rw[E8,hlo.out] at h2 ⊢;have h7:pw n*(d+cy)=pw n*((d+cy) % 4294967296+4294967296*((d+cy) / 4294967296)):=by rw[Nat.mod_add_div]
 have e1:pw n*(4294967296*((d+cy) / 4294967296))=4294967296*pw n*((d+cy) / 4294967296):=by rw[←a3c,a3d (pw n)]
 rw[a2y,a2y,e1] at h7
 simp only[pw] at h h2 hR
 generalize (d+cy) / 4294967296=q at *
 generalize (d+cy) % 4294967296=x at *
 generalize 4294967296*pw n=P at *
 have h8:val lo+pw n*x+P*q=R+P:=by omega
 have h9:q=1:=by
  rcases a3h q 1 with hq | hq
  · have:q=0:=by omega
    subst this;omega
  · rcases a3h 1 q with hq2 | hq2
    · have:P*2≤P*q:=a3g _ hq2;omega
    · omega
 subst h9;omega
theorem a0u {gu j n cU cv:Nat}{b:Addr}{pre us post lv:List Nat}{w:World}(hrow:Row w gu (pre++us++post)) (hpre:Hid (pre.length=j)) (hus:Hid (us.length=n+1)) (hlv:Hid (lv.length=n))
 (hn:2≤n) (hn2:n≤5000000000) (hj:j≤5000000000) (hv:Nv w (some b) cv lv) (hbg:b.block≠gu) (hud:Dig us) (hnorm:2147483648≤lv.getD (n-1) 0) (hlt:Hid (val us<4294967296*val lv)) :
 Calls Tryz.prog 101 #[.slice (some ⟨gu,j,none⟩) (n+1) cU,.slice (some b) n cv] w (RetDigit gu n pre us post lv w):=by
 obtain⟨un,f3,g1,g2⟩:=hrow.mid (i:=n) hpre.out (by rw[hus.out];omega) hud;obtain⟨u1,g5,g6,B⟩:=hrow.mid (i:=n-1) hpre.out (by rw[hus.out];omega) hud;obtain⟨u2,Y,F,f2⟩:=hrow.mid (i:=n-2) hpre.out (by rw[hus.out];omega) hud;obtain⟨a1,v1,e1,_,g0,h2,b1⟩:=hv.at (k:=n-1) (by rw[hlv.out];omega);obtain⟨a2,v2,e2,_,g7,d9,d7⟩:=hv.at (k:=n-2) (by rw[hlv.out];omega)
 cases e1
 cases e2
 rw[b1.out] at hnorm;have hG:=a0t hus hlv hn hud hv.dig g2 B f2 b1 d7 hnorm hlt;obtain⟨t,ht⟩:∃ t:Nat,Hid (t=u1+4294967296*un):=⟨_,rfl⟩;have G:=qA u1 un g6 g1;rw[←ht.out] at G;have g4:t<18446744073709551616:=by rw[ht.out];omega
 have hS:=a1k hG.start;rw[show un*4294967296+u1=t by rw[ht.out];omega] at hS;have A:=a1k hG;clear hG;obtain⟨q0,d6⟩:∃ q0,Hid (q0=t / v1):=⟨_,rfl⟩
 have T:IntKind.u64.wrap ((t:Int) / (v1:Int))=(q0:Int):=by
  rw[d6.out,G2,←Int.natCast_ediv];have:=Nat.div_le_self t v1
  generalize t / v1=x at *
  omega
 rw[←d6.out] at hS;clear g4;have b6:=hrow;go_enter Tryz.func101,Tryz.ntmps101;go_wp2
 go_quiet (fail)
 go_wp2
 go_quiet (fail)
 go_upto_block 0 with (fail)
 go_cut [7] (fun g wx=>DigCut (val us / val lv) w g wx)
 case first =>
  go_wp2
  go_loopw [7,8] (fun g r wr=>GuessInv (val us) (val lv) un u1 v1 w g r wr) (fun g _ _=>gmeas g)
  case atStart=>exact⟨_,_,rfl,by rw[Int.natCast_emod],hS,_,World.drewN_drewN' _ _ _⟩
  case round =>
   obtain⟨g,r,rfl,rfl,hI,nd,rfl⟩:=hrel;have f6:=hI.out.r;have c7:g≤8589934592:=by have:=hI.out.g;omega
   by_cases hA:4294967296≤g
   · have hm:=a1k (A.out.more hI.out (.inl hA));have U:decide ((4294967296:Int)≤(g:Int))=true:=by simp;omega
     have B:1≤g:=by omega
     clear hA;go_wp2
     go_quiet (fail)
     clear hS G T U
     by_cases hB:r+v1<4294967296
     · have b4:decide ((4294967296:Int)≤(r:Int)+(v1:Int))=false:=by simp;omega
       have o:=a1k hB;clear hB;go_wp2;go_roundw
       case rel=>exact⟨g-1,r+v1,by rw[Int.ofNat_sub B];rfl,by rw[Int.natCast_add],GCtx.next hI.out hm.out o.out,_,rfl⟩
       case measure=>unfold gmeas;simp[intOf];omega
     · have b4:decide ((4294967296:Int)≤(r:Int)+(v1:Int))=true:=by simp;omega
       have o:=a1k (A.out.stop hm.out (by omega));go_wp2;go_meet
       case rel=>exact⟨g-1,_,by rw[Int.ofNat_sub B];rfl,o.out.1,o.out.2.1,o.out.2.2,rfl⟩
   · have U:decide ((4294967296:Int)≤(g:Int))=false:=by simp;omega
     have d8:g<4294967296:=by omega
     obtain⟨p,hp,d1⟩:∃ p:Nat,Hid (g*v2=p)∧IntKind.u64.wrap ((g:Int)*(v2:Int))=(p:Int):=by
      have hm:=mul_le d8 d9;refine⟨_,rfl,?_⟩;rw[G2,←Int.natCast_mul]
      generalize g*v2=p at *
      omega
     obtain⟨s,hs⟩:∃ s:Nat,Hid (s=u2+4294967296*r):=⟨_,rfl⟩;have M:=qA u2 r F f6;rw[←hs.out] at M
     by_cases hC:s<p
     · have hm:=a1k (A.out.more hI.out (.inr (by rw[hp.out];have:=hs.out;omega)));have c4:decide (s<p)=true:=by simp;omega
       have B:1≤g:=hm.out.1;clear hC;go_wp2
       go_quiet (fail)
       clear hS G T U d1 M c4
       by_cases hB:r+v1<4294967296
       · have b4:decide ((4294967296:Int)≤(r:Int)+(v1:Int))=false:=by simp;omega
         have o:=a1k hB;clear hB;go_wp2;go_roundw
         case rel=>exact⟨g-1,r+v1,by rw[Int.ofNat_sub B];rfl,by rw[Int.natCast_add],GCtx.next hI.out hm.out o.out,_,rfl⟩
         case measure=>unfold gmeas;simp[intOf];omega
       · have b4:decide ((4294967296:Int)≤(r:Int)+(v1:Int))=true:=by simp;omega
         have o:=a1k (A.out.stop hm.out (by omega));go_wp2;go_meet
         case rel=>exact⟨g-1,_,by rw[Int.ofNat_sub B];rfl,o.out.1,o.out.2.1,o.out.2.2,rfl⟩
     · have hm:=a1k (A.out.done hI.out d8 (by rw[hp.out];have:=hs.out;omega));have c4:decide (s<p)=false:=by simp;omega
       clear hC;go_wp2
       go_quiet (fail)
       clear hS G T U d1 M c4;go_wp2;go_meet
       case rel=>exact⟨g,_,rfl,hm.out.1,hm.out.2.1,hm.out.2.2,World.drewN_drewN' _ _ _⟩
 case rest =>
  obtain⟨gv,nd,rfl,d5,f1,c7,rfl⟩:=hcut;have hq:=a1k (And.intro d5 f1);clear d5 f1 f3 g5 Y g0 g7 G T hS b6;have J:Row (w.drewN nd) gu (pre++us++post):=hrow;have c3:Nv (w.drewN nd) (some b) cv lv:=nv_drewN hv nd;have b3:w.grownBy (w.drewN nd) (some gu):=jH w (some gu) nd;obtain⟨w0,d0⟩:∃ w0,w0=w.drewN nd:=⟨_,rfl⟩;rw[←d0] at J c3 b3 ⊢;clear d0 hrow hv;go_wp2
  go_loopw [9,10,83] (fun c b i wr=>MsInv us lv gv n gu pre post w0 c b i wr) (fun _ _ i _=>n-(intOf i).toNat)
  case atStart=>exact⟨0,0,0,[],by omega,rfl,rfl,rfl,by omega,by omega,rfl,Dig.nil,J.eq (by simp),by show _=_;simp[val],World.grownBy.refl _ _⟩
  case round =>
   obtain⟨k,c,bw,lo,hk,rfl,rfl,rfl,hc,h5,R,H,f,I,V⟩:=hrel;obtain⟨d,h8,d4,f0⟩:=f.mid (i:=k) hpre.out (by rw[a1x,a2d,R.out,hus.out];omega) (H.append (hud.drop _));have hf:=f.free (j+k)
   by_cases hkn:k<n
   · obtain⟨b',vk,b7,_,f4,b0,L⟩:=(bX c3 V hbg).at (k:=k) (by rw[hlv.out];exact hkn)
     cases b7
     obtain⟨p,hp,h7,h6,c0,_⟩:=aG (c:=0) c7 b0 hc (by omega);obtain⟨m,hm,h9,h1⟩:=and_mask p c (by omega);go_wp2;obtain⟨z,c2,e1,e2,hz,Y,hs⟩:=nE d m bw d4 (by omega);go_roundw
     case rel=>exact ms_step hkn hus R H hpre hud f0 L hp hm hz Y hs f I V _ _ _ _ (by omega) e2 rfl e1 (by omega)
     case measure=>simp[intOf];omega
   · obtain rfl:k=n:=by omega
     obtain⟨z,c2,e1,e2,hz,Y,hs⟩:=nE d c bw d4 (by omega);obtain⟨D,hD⟩:∃ D:Int,IntKind.u64.wrap (IntKind.u64.wrap ((d:Int)-(c:Int))-(bw:Int))=D:=⟨_,rfl⟩;rw[hD] at e1 e2;have q:=(qB f R hpre hus (z:Int) rfl).eq (l':=pre++(lo++[z])++post) (by rw[List.drop_of_length_le (by rw[hus.out];omega)];simp);have O:=cE b3 (Y6 w0 V (j+k) (.int .u32 (z:Int)));have y:=a1k (show (lo++[z]).length=k+1 by rw[a1x,R.out];rfl);have F:Dig (lo++[z]):=H.snoc hz;have Z:=a1k (ms_last hus hlv R f0 I hs);have b9:=nv_set (bX c3 V hbg) hbg (j+k) (.int .u32 (z:Int));clear f I hs
     by_cases hc0:c2=0
     · subst hc0;have f9:(D / 9223372036854775808 == 0)=true:=by rw[e2];rfl
       have l:=a1k (tD A.out.pos hq.out Z.out);have g8:=a1k l.out.1;go_wp2;go_ret;refine⟨lo++[z],?_,q,y,F,l.out.2,O⟩;rw[g8.out];rfl
     · have f9:(D / 9223372036854775808 == 0)=false:=by rw[e2,beq_eq_false_iff_ne];omega
       obtain rfl:c2=1:=by omega
       have l:=a1k (vQ A.out.pos hq.out (E0 F) (by rw[y.out];exact a1u _) Z.out);have B:1≤gv:=by rw[l.out.1];exact Nat.le_add_left _ _
       obtain⟨b5,c8⟩:∃ b5,Hid (b5=lo++[z]):=⟨_,rfl⟩;rw[←c8.out] at q y F l;obtain⟨w2,c0⟩:∃ w2,w2=wr.setCell ⟨gu,j+k,none⟩ (.int .u32 (z:Int)):=⟨_,rfl⟩;go_wp2;rw[←c0] at q b9 O ⊢;clear c0
       go_loopw [9,135] (fun c i wr=>AbInv b5 lv k gu pre post w2 c i wr) (fun _ i _=>k-(intOf i).toNat)
       case atStart=>exact⟨0,0,[],by omega,rfl,rfl,by omega,rfl,Dig.nil,q.eq (by simp),by show _=_;simp[val],World.grownBy.refl _ _⟩
       case round =>
        obtain⟨i,cy,X,hi,rfl,rfl,h3,v,C,h,E,N⟩:=hrel;obtain⟨d3,h0,g9,b2⟩:=h.mid (i:=i) hpre.out (by rw[a1x,a2d,v.out,y.out];omega) (C.append (F.drop _));have h4:=h.free (j+i)
        by_cases hin:i<k
        · obtain⟨b',vk,b7,_,f4,b0,L⟩:=(bX b9 N hbg).at (k:=i) (by rw[hlv.out];exact hin)
          cases b7
          go_wp2
          go_quiet (fail)
          go_wp2;go_roundw
          case rel=>exact ab_step hin y v C hpre b2 L (d3+vk+cy) rfl (by omega) h E N nq _ _ _ (by omega) rfl (by omega)
          case measure=>simp[intOf];omega
        · obtain rfl:i=k:=by omega
          have b8:=fun (x:Int) (hx:x=(((d3+cy) % 4294967296:Nat):Int))=>Row.trans_ (l':=pre++(X++[(d3+cy) % 4294967296])++post) (qB (z:=(d3+cy) % 4294967296) h v hpre y x hx) (by rw[List.drop_of_length_le (by rw[y.out];omega)];simp);have d2:=fun x=>cE O (Y6 w2 N (j+i) (.int .u32 x));have g3:=a1k (show (X++[(d3+cy) % 4294967296]).length=i+1 by rw[a1x,v.out];rfl);have c9:Dig (X++[(d3+cy) % 4294967296]):=C.snoc (a3l _ (by omega));have c5:=a1k (ab_last y hlv v b2 E c9 l.out.2 (a1o (a3l _ A.out.pos) (a1t (a3f (E0 b9.dig)) (I3 (by rw[hlv.out];omega)))));have f5:=a1k l.out.1;clear h E;go_wp2;go_ret;refine⟨X++[(d3+cy) % 4294967296],?_,b8 _ (by omega),g3,c9,c5,d2 _⟩
          show Ending.returned (.int .u32 ((gv:Int)-1))=_
          rw[f5.out]
          congr 2
          rw[Int.natCast_add];exact Int.add_sub_cancel _ _
def AddInv (la lb:List Nat) (w:World) (c i:Value) (wr:World):Prop :=
 ∃ (k cv:Nat) (o:List Nat),k≤la.length∧i=.int .i64 k∧c=.int .u64 cv∧cv≤1∧Hid (o.length=k)∧Dig o ∧
  Row wr w.heap.size (o++List.replicate (la.length+1-k) 0)∧Hid (val o+pw k*cv=val (la.take k)+val (lb.take k))∧Below w.heap.size w wr
theorem oV (P x s a b cv:Nat) (h:x+P*cv=a+b) (da db:Nat) (hs:s=da+cv+db) :
 x+P*(s % 4294967296)+4294967296*P*(s / 4294967296)=a+P*da+(b+P*db):=by
 have h1:P*s=P*(s % 4294967296)+4294967296*P*(s / 4294967296):=by
  rw[a3d 4294967296 P,a3c,←a2y,Nat.mod_add_div]
 have h2:P*s=P*da+P*cv+P*db:=by rw[hs,a2y,a2y]
 omega
theorem tM {la lb:List Nat}{w wr:World}{k cv:Nat}{o:List Nat}(hkl:k<la.length) (hcv:cv≤1) (ho:Hid (o.length=k)) (hod:Dig o)
 (hrow:Row wr w.heap.size (o++List.replicate (la.length+1-k) 0)) (hval:Hid (val o+pw k*cv=val (la.take k)+val (lb.take k))) (hbel:Below w.heap.size w wr)
 (s:Nat) (hs:s=la.getD k 0+cv+lb.getD k 0) (hs2:s / 4294967296≤1) (x c' i':Int) (hx:x=((s % 4294967296:Nat):Int)) (hc:c'=((s / 4294967296:Nat):Int)) (hi:i'=((k+1:Nat):Int)) :
 AddInv la lb w (.int .u64 c') (.int .i64 i') (wr.setCell ⟨w.heap.size,k,none⟩ (.int .u32 x)):=by
 refine⟨k+1,s / 4294967296,o++[s % 4294967296],by omega,by rw[hi],by rw[hc],hs2,?_,hod.snoc (a3l _ (by omega)),?_,?_,hbel.setCell (a1u _) _⟩
 · show (o++[_]).length=k+1
   rw[a1x,ho.out];rfl
 · rw[O3 (by omega)] at hrow;exact hrow.push ho.out x hx
 · show val (o++[_])+pw (k+1)*_=_
   rw[E8,ho.out,m7,m7,pw];exact oV _ _ _ _ _ _ hval.out _ _ hs
theorem add_last {la lb o:List Nat}{cv:Nat}(hval:Hid (val o+pw la.length*cv=val (la.take la.length)+val (lb.take la.length))) (ho:Hid (o.length=la.length)) (hl:lb.length≤la.length) :
 val (o++[cv])=val la+val lb:=by
 rw[E8,ho.out,hval.out,t7 _ _ (a1u _),t7 _ _ hl]
theorem add_full {la o:List Nat}{wr:World}{g cv:Nat}(hrow:Row wr g (o++List.replicate (la.length+1-la.length) 0)) (ho:Hid (o.length=la.length)) (x:Int) (hx:x=(cv:Int)) (h:la.length<la.length+1) :
 Row (wr.setCell ⟨g,la.length,none⟩ (.int .u32 x)) g (o++[cv]):=by
 rw[O3 h] at hrow;have:=hrow.push ho.out x hx
 simpa using this
def AddCut (la lb:List Nat) (w:World) (a b:Value) (wx:World):Prop :=
 ∃ A ca l1 B cb l2,a=.slice A l1.length ca∧b=.slice B l2.length cb∧Nv w A ca l1∧Nv w B cb l2∧l2.length≤l1.length∧l1.length≤5000000000 ∧
  Hid (val l1+val l2=val la+val lb)∧Hid (l1.length=max la.length lb.length)∧w=wx
theorem kC (A B:Option Addr) (ca cb:Nat) (la lb:List Nat) (w:World) (ha:Nv w A ca la) (hb:Nv w B cb lb) (hna:la.length≤5000000000) (hnb:lb.length≤5000000000) :
 Calls Tryz.prog 52 #[.slice A la.length ca,.slice B lb.length cb] w (K5 (val la+val lb) (max la.length lb.length+1) w):=by
 go_enter Tryz.func52,Tryz.ntmps52
 go_upto_if 13 with (fail)
 go_cut [0,1] (fun a b wx=>AddCut la lb w a b wx)
 case first =>
  by_cases hlt:la.length<lb.length
  · go_wp2;go_meet
    case rel=>exact⟨_,_,_,_,_,_,rfl,rfl,hb,ha,by omega,hnb,Nat.add_comm _ _,(Nat.max_eq_right (by omega)).symm,rfl⟩
  · go_wp2;go_meet
    case rel=>exact⟨_,_,_,_,_,_,rfl,rfl,ha,hb,by omega,hna,rfl,(Nat.max_eq_left (by omega)).symm,rfl⟩
 case rest =>
  obtain⟨A,ca,l1,B,cb,l2,rfl,rfl,ha,hb,hl,hn,m,r,rfl⟩:=hcut;have y:=U5 w (l1.length+1) .i64 ((l1.length:Int)+1) (by omega) (by omega);go_wp2
  go_loopw [6,22] (fun c i wr=>AddInv l1 l2 w c i wr) (fun _ i _=>l1.length-(intOf i).toNat)
  case atStart=>exact⟨0,0,[],by omega,rfl,rfl,by omega,rfl,Dig.nil,Row.new _ _,rfl,(a3t _ _).alloc (a1u _) _⟩
  case round =>
   obtain⟨k,cv,o,hk,rfl,rfl,s,ho,h,d,g,f⟩:=hrel;have hf:=d.free k;obtain⟨d0,z,_,_⟩:=d.cell' (i:=k) (h.append (Dig.replicate _)) (by rw[a1x,a1p,ho.out];omega)
   by_cases hkl:k<l1.length
   · obtain⟨a,da,rfl,F,D,H,n⟩:=(ha.below f).at hkl
     by_cases hkb:k<l2.length
     · obtain⟨b,db,rfl,E,G,C,j⟩:=(hb.below f).at hkb;go_wp2;go_roundw
       case rel=>exact tM hkl s ho h d g f (da+cv+db) (by rw[n.out,j.out]) (by omega) _ _ _ (by omega) (by omega) (by omega)
       case measure=>simp[intOf];omega
     · have j:=a1k (show l2.getD k 0=0 by rw[a1l,a2j (by omega)];rfl);go_wp2;go_roundw
       case rel=>exact tM hkl s ho h d g f (da+cv+0) (by rw[n.out,j.out]) (by omega) _ _ _ (by omega) (by omega) (by omega)
       case measure=>simp[intOf];omega
   · obtain rfl:k=l1.length:=by omega
     have q:=a1k ((add_last g ho hl).trans m.out);have l:=add_full d ho (cv:Int) rfl (by omega);have x:Dig (o++[cv]):=h.snoc (by omega);have v:=a1k (show (o++[cv]).length=l1.length+1 by rw[a1x,ho.out];rfl);have t:=f.setCell (p:=⟨w.heap.size,l1.length,none⟩) (a1u _) (.int .u32 (cv:Int));go_wp2_with fail;refine (R0 l v.out x (by omega)).mono ?_;rintro e w1 ⟨l',rfl,h1,h2,h3,rfl⟩;go_wp2;go_ret;exact⟨_,_,_,rfl,h1,q.out ▸ h2,r.out ▸ h3,t⟩
end Go.Proofs.YtjhkapjadfpimaaGreat
