/- Contracts of functions, for the law. -/
import Derived.Test.YtjhkapjadfpimaaGreatNRPl
namespace Go.Proofs.YtjhkapjadfpimaaGreat
set_option linter.unusedVariables false
set_option linter.unusedSimpArgs false
open Go.RowKit Plain
attribute [local go_sem ↓] Go.wp_at_zero Go.wp_at_succ
set_option maxRecDepth 100000
set_option maxHeartbeats 40000000
theorem tU {ps:List Rat}{k:Nat}{q:Rat}(h:ps[k]?=some q):o5 (ps.take (k+1))=o5 (ps.take k)+q:=by
 rw[a3e,h];exact cJ _ _
theorem fit_i {z:Int}(h:z.natAbs≤1):Fits 2 (z:Rat):=N9 (by omega)
theorem iQ {K:Nat}{zs:List Int}{qs:List Rat}(hz:∀ z∈zs,z.natAbs≤1) (hf:QFits K qs):QFits (2+K) (I7 zs qs):=fun q hq=>by
 unfold I7 at hq;obtain⟨i,hi,rfl⟩:=List.mem_iff_getElem.1 hq;rw[List.getElem_zipWith];exact (fit_i (hz _ (a1z _))).mul (hf _ (a1z _))
theorem gD {K:Nat}{C A:Option Addr}{cc ca:Nat}{zs:List Int}{ds:List FrD}{w:World}(hz:ZL w C cc zs) (h:FL w A ca ds) (hf:QFits K (ds.map FrD.q)) (hzb:∀ z∈zs,z.natAbs≤1) (hK:K≤10000000) (hl:zs.length=ds.length) (hl12:ds.length≤12) :
 Calls Tryz.prog 60 #[.slice C zs.length cc,.slice A ds.length ca] w (V6 (o5 (I7 zs (ds.map FrD.q))) w):=by
 have g2:=h.len;have f6:=hz.len;obtain⟨ps,L⟩:∃ ps,Hid (I7 zs (ds.map FrD.q)=ps):=⟨_,rfl⟩;obtain⟨m,hm⟩:∃ m,Hid (ds.length=m):=⟨_,rfl⟩;have b6:=a1k (show ps.length=m by rw[←L.out,gF (by rw[a1s];exact hl),a1s,hm.out]);have b4:m≤12:=by rw[←hm.out];exact hl12
 have f9:=a1k (show QFits (2+K) ps by rw[←L.out];exact iQ hzb hf);rw[L.out,hl,hm.out];obtain⟨w1,g3,b1,l1,B1⟩:=f8 w #[.bool false,.slice none 0 0,.slice none 0 0] 28;have d1:=a1k hf;have c0:=a1k hzb;have c9:=a1k hl;clear hf hzb hl;go_enter Tryz.func60,Tryz.ntmps60;go_wp2_with fail;refine (t9 0 _ (by decide) (by decide)).mono ?_;rintro e w2 ⟨v1,rfl,c2,b2⟩;obtain⟨z0,rfl,d3,g1⟩:=c2.frd;clear c2;obtain⟨wA,w3,eA,p0,p1,p2,r0,r1,r2,eB,b0,b3,l3⟩:=D5 w2 z0;have d0:=a1j b2 b3;have B3:=(a4f B1 b2).keep b3;have B:SumAt ps w2.heap.size w1 0 w3:=⟨z0,b0,d3.below b3,by rw[g1.out];simp[T6],d0⟩;have X:=a1k (show w1.heap.size≤w2.heap.size from b2.size);have c3:=a1k (show w.heap.size≠w2.heap.size by have:=b2.size;omega);go_wp2;clear p0 p1 p2 r0 r1 r2 eA eB
 go_loopw [6] (fun i wr=>∃ k:Nat,k≤m∧i=.int .i64 (k:Int)∧SumAt ps w2.heap.size w1 k wr∧Blk wr w.heap.size 28 #[.bool false,.slice none 0 0,.slice none 0 0]) (fun i _=>m-(intOf i).toNat)
 case atStart=>exact⟨0,by omega,rfl,B,B3⟩
 case round =>
  clear B B3 b0;obtain⟨k,hk,rfl,B,hB⟩:=hrel;have p:=B.bel;obtain⟨s,hS,hs,b7,-⟩:=B;have E:=a1k b7;clear b7
  by_cases hkl:k<m
  · have g4:(k:Int)<(m:Int):=by omega
    have g0:=a1k (show Fits (1+12*(2+K+1)) s.q by rw[E.out];exact H1 (n:=12) f9.out (by rw[b6.out];exact b4) k);have R:=(show Below w.heap.size w w1 from b1).trans (p.mono b1.size);obtain⟨ad,d,d8,c7,G,I,M,N,b8⟩:=(h.below R).at (by rw[hm.out];exact hkl);obtain⟨az,z,d6,T,H,Z⟩:=(hz.below R).at (by rw[c9.out,hm.out];exact hkl)
    have hq:=a1k (show ps[k]?=some ((z:Rat)*d.q) by
     rw[←L.out,qL (by rw[c9.out,hm.out];exact hkl) (by rw[a1s,hm.out];exact hkl),a1l,Z.out,a1l,a1r,b8.out];rfl)
    have d4:=c0.out z (a1n Z.out);have U:=a1k (fit_i d4);have hzb:=a1k (show -9223372036854775808≤z∧z≤9223372036854775807 by omega);have c8:=a1k (d1.out.fr d (a1n b8.out));have r:=a1k (show (az.add k).block<wr.heap.size by rw[f7];exact T);have f:=a1k (show (ad.add (k*3)).block<wr.heap.size∧(ad.add (k*3)).block<wr.heap.size by rw[f7];exact⟨c7,c7⟩);rw[d8,d6];have c:=hS;have l:=hs;have t:=N;have j:=hB;have Y:=p;clear hS hs N hB p R;go_upto_region 5 with fail;have bT:=a3t wr.heap.size wr;have x:Below wr.heap.size wr wr.drew:=(a3t _ _).drew;replace c:=c.below x;replace l:=l.below x;replace t:=t.below x;replace j:=j.keep x;replace bT:=a1j bT x;clear x;go_wp2_with fail;refine a3u ?_;refine k9 (J:=[12]) (S:=fun w'=>w'.cell? ⟨w2.heap.size,0,none⟩=some (.bool s.neg)∧w'.cell? ⟨w2.heap.size,1,none⟩=some (.slice s.a s.la.length s.ca)∧w'.cell? ⟨w2.heap.size,2,none⟩=some (.slice s.b s.lb.length s.cb)∧w'.cell? (az.add k)=some (.int .i64 z)∧w'.cell? (ad.add (k*3))=some (.bool d.neg)∧w'.cell? ⟨(ad.add (k*3)).block,(ad.add (k*3)).off+1,none⟩=some (.slice d.a d.la.length d.ca)∧w'.cell? ⟨(ad.add (k*3)).block,(ad.add (k*3)).off+2,none⟩=some (.slice d.b d.lb.length d.cb)) (by kernel_rfl) (⟨c.cells.1,c.cells.2.1,c.cells.2.2,(bT.cell r.out).trans H,(bT.cell f.out.1).trans G,(bT.cell (by exact f.out.2)).trans I,(bT.cell (by exact f.out.2)).trans M⟩) (fun g=>?_)
    refine iK 0 1 2 3 4 6 7 8 g ?_;refine dJ 9 rfl g ?_;refine I0 5 rfl fun K hK=>?_;go_simp;have o:=t9 z (wr.drew) hzb.out.1 hzb.out.2;go_at_call 11;refine (o).mono ?_;rintro e u1 ⟨vz,rfl,c5,D⟩;clear o;replace c:=c.below D;replace l:=l.below D;replace t:=t.below D;replace j:=j.keep D;replace bT:=a1j bT D;go_wp2_with fail;refine hK.out _ _ (⟨c.cells.1,c.cells.2.1,c.cells.2.2,(bT.cell r.out).trans H,(bT.cell f.out.1).trans G,(bT.cell (by exact f.out.2)).trans I,(bT.cell (by exact f.out.2)).trans M⟩) (fun g=>?_);clear hK K;(try simp only[j9]);refine I0 10 rfl fun K hK=>?_;go_simp;have o:=jB c5 t U.out c8.out (by omega);go_at_call 79;refine (o).mono ?_;rintro e u2 ⟨vm,rfl,c4,F⟩;clear o;replace c:=c.below F;replace l:=l.below F;replace j:=j.keep F;replace bT:=a1j bT F;go_wp2_with fail;refine hK.out _ _ (⟨c.cells.1,c.cells.2.1,c.cells.2.2,(bT.cell r.out).trans H,(bT.cell f.out.1).trans G,(bT.cell (by exact f.out.2)).trans I,(bT.cell (by exact f.out.2)).trans M⟩) (fun g=>?_)
    clear hK K;(try simp only[j9]);refine I0 11 rfl fun K hK=>?_;go_simp;have o:=N5 l c4 g0.out (U.out.mul c8.out) (by omega);go_at_call 62;refine (o).mono ?_;rintro e u3 ⟨va,rfl,b5,O⟩;clear o;replace c:=c.below O;replace j:=j.keep O;replace bT:=a1j bT O;obtain⟨y,rfl,hy,f4⟩:=b5.frd;clear b5;obtain⟨w9,q0,q1,q2,f0,f1,f2,e9,f5,o9⟩:=c.store y;go_wp2_with fail;refine hK.out _ _ (⟨c.cells.1,c.cells.2.1,c.cells.2.2,(bT.cell r.out).trans H,(bT.cell f.out.1).trans G,(bT.cell (by exact f.out.2)).trans I,(bT.cell (by exact f.out.2)).trans M⟩) (fun g=>?_);clear hK K;(try simp only[j9]);refine j6 (rs:=[12]) (by kernel_rfl) (by simp) ?_;refine a4j rfl (by decide) (fun K hK=>?_) a4i;go_simp;refine hK.out _ _ ?_;clear hK K;(try clear g);(try simp only[j9]);refine k8 (by kernel_rfl) ?_ _;refine a3w ?_;(try go_simp);(try clear g);have d9:=hy.onlyV c o9;have f3:=Blk.only j o9 c3.out;have b9:=o9.to_below ((a1j Y bT)) X.out (a1t Y.size bT.size);have V:SumAt ps w2.heap.size w1 (k+1) w9:=⟨y,f5,d9,by rw[tU hq.out,f4.out,E.out],b9⟩;clear c l t j c4 c5 hy o9
    go_wp2;go_roundw
    case rel =>
     exact⟨k+1,by omega,by go_num,V,f3⟩
    case measure=>simp[intOf];omega
  · obtain rfl:k=m:=by omega
    have t1:decide ((k:Int)<(k:Int))=false:=a1v (by omega);obtain⟨x0,x1,x2⟩:=hS.cells;obtain⟨w9,p0,p1,p2,r0,r1,r2,e9,h9,o9⟩:=p9 hB s;obtain⟨y0,y1,y2⟩:=h9.cells;have d2:=hs.only_blk hB (k7 _ _ _ _ _ _ _) o9;have d5:=o9.to_below ((a1j b1 p)) (a1u _) (a1t b1.size p.size);have d7:=a1k (show s.q=o5 ps by rw[E.out,a1q (by rw[b6.out];exact a1u _)]);clear hB hS hs;go_wp2;refine a3z (v:=B8 s.neg s.a s.la.length s.ca s.b s.lb.length s.cb) (by simp[results,Tryz.results60,go_sem,y0,y1,y2]) rfl ?_;exact⟨_,rfl,by rw[←d7.out];exact d2,d5⟩
theorem sD {n:Nat}{w:World}(hn:n≤12):Calls Tryz.prog 57 #[.int .i64 (n:Int)] w fun e w'=>∃ A c,e=.returned (.slice A n c)∧ZL w' A c (List.replicate n 1)∧Below w.heap.size w w':=by
 obtain⟨w2,h,d,b2,l2⟩:=cW w n (by omega);obtain⟨g,hg⟩:∃ g,Hid (w.heap.size=g):=⟨_,rfl⟩;rw[hg.out] at h d;go_enter Tryz.func57,Tryz.ntmps57;go_wp2
 go_loopw [4] (fun i wr=>∃ k:Nat,k≤n∧i=.int .i64 (k:Int)∧∃ zs,ZA wr g zs∧Hid (zs.length=n∧zs.take k=List.replicate k 1)∧Below w.heap.size w wr) (fun i _=>n-(intOf i).toNat)
 case atStart=>exact⟨0,by omega,rfl,_,d,⟨by simp,rfl⟩,b2⟩
 case round =>
  clear d b2 h;obtain⟨k,hk,rfl,zs,hz,b,hb⟩:=hrel
  by_cases hkl:k<n
  · have q:(k:Int)<(n:Int):=by omega
    obtain⟨z,l⟩:∃ z,Hid (zs[k]?=some z):=⟨_,a1m (by rw[b.out.1];exact hkl)⟩;obtain⟨w3,e3,p,o3⟩:=hz.set k 1;have f3:=hz.free k;have y3:=hz.cell l.out;have m:=o3.to_below hb (by rw[hg.out];exact a1u _) hb.size
    have f:=a1k (show (zs.set k 1).length=n∧(zs.set k 1).take (k+1)=List.replicate (k+1) 1 by
     refine⟨by rw[a2i];exact b.out.1,?_⟩;rw[a3e,List.getElem?_set_self (by rw[b.out.1];exact hkl),List.take_set_of_le (a1u _),b.out.2,List.replicate_succ'];rfl)
    clear hz o3;go_wp2;go_roundw
    case rel=>exact⟨k+1,by omega,by go_num,_,p,f,m⟩
    case measure=>simp[intOf];omega
  · obtain rfl:k=n:=by omega
    have t1:decide ((k:Int)<(k:Int))=false:=a1v (by omega);have o:zs=List.replicate k 1:=by have:=b.out.2;rwa [a1q (by rw[b.out.1];exact a1u _)] at this
    subst o;have j:=(hz.zt (by simp;omega)).1;rw[a1p] at j;go_wp2;go_ret;exact⟨_,_,rfl,j,hb⟩
theorem wrap_two {k n:Nat}(hk:k<n) (h:n≤8):wrap64 (2*2 ^ k)=(2:Int) ^ (k+1):=by
 have h9:k=0∨k=1∨k=2∨k=3∨k=4∨k=5∨k=6∨k=7:=by omega
 rcases h9 with rfl | rfl | rfl | rfl | rfl | rfl | rfl | rfl <;> exact IntWalk.wrap64_in _ (by decide)
theorem bL {n:Nat}(hn:n≤8) (w:World):Calls Tryz.prog 35 #[.int .i64 (n:Int)] w fun e w'=>e=.returned (.int .i64 ((2:Int) ^ n))∧w'=w:=by
 go_enter Tryz.func35,Tryz.ntmps35;go_wp2
 go_loopw [3,4] (fun v i wr=>∃ k:Nat,k≤n∧v=.int .i64 ((2:Int) ^ k)∧i=.int .i64 (k:Int)∧wr=w) (fun _ i _=>n-(intOf i).toNat)
 case atStart=>exact⟨0,by omega,rfl,rfl,rfl⟩
 case round =>
  obtain⟨k,hk,rfl,rfl,rfl⟩:=hrel
  by_cases hkl:k<n
  · have d:(k:Int)<(n:Int):=by omega
    have b:=a1k (wrap_two hkl hn);go_wp2;go_roundw
    case rel=>exact⟨k+1,by omega,congrArg (Value.int .i64) b.out,by go_num,trivial⟩
    case measure=>simp[intOf];omega
  · obtain rfl:k=n:=by omega
    have c:decide ((k:Int)<(k:Int))=false:=a1v (by omega);go_wp2;go_ret;exact⟨rfl,rfl⟩
theorem half_at (p k:Nat):p / 2 ^ k / 2=p / 2 ^ (k+1):=by rw[Nat.div_div_eq_div_mul,Nat.pow_succ]
theorem bit_any {p n:Nat}(hp:p<256) (w:World) (hn:n≤8):Calls Tryz.prog 77 #[.int .i64 (p:Int),.int .i64 (n:Int)] w fun e w'=>e=.returned (.int .i64 (if M8 p n=true then 1 else 0))∧w'=w:=by
 obtain⟨r,hr⟩:∃ r:Int,Hid ((if M8 p n=true then (1:Int) else 0)=r):=⟨_,rfl⟩;rw[hr.out];go_enter Tryz.func77,Tryz.ntmps77;go_wp2
 go_loopw [0,5] (fun v i wr=>∃ k:Nat,k≤n∧v=.int .i64 ((p / 2 ^ k:Nat):Int)∧i=.int .i64 (k:Int)∧wr=w) (fun _ i _=>n-(intOf i).toNat)
 case atStart=>exact⟨0,by omega,by simp,rfl,rfl⟩
 case round =>
  obtain⟨k,hk,rfl,rfl,rfl⟩:=hrel;obtain⟨x,hx⟩:∃ x,Hid (p / 2 ^ k=x):=⟨_,rfl⟩;have f:x<256:=by rw[←hx.out];exact a2p (Nat.div_le_self _ _) hp
  rw[hx.out]
  by_cases hkl:k<n
  · have h:(k:Int)<(n:Int):=by omega
    obtain⟨y,hy⟩:∃ y,Hid (x / 2=y):=⟨_,rfl⟩;have g:y<256:=by rw[←hy.out];omega
    have b:=a1k (show p / 2 ^ (k+1)=y by rw[←half_at,hx.out,hy.out]);have d:IntKind.i64.wrap ((x:Int) / 2)=(y:Int):=by rw[show (x:Int) / 2=((x / 2:Nat):Int) by omega,hy.out];simp[IntKind.wrap,IntKind.bits,IntKind.signed];omega
    go_wp2;go_roundw
    case rel=>exact⟨k+1,by omega,by rw[b.out],by go_num,trivial⟩
    case measure=>simp[intOf];omega
  · obtain rfl:k=n:=by omega
    have c:decide ((k:Int)<(k:Int))=false:=a1v (by omega)
    have hb:=a1k (show r=(x:Int) % 2 by
     rw[←hr.out];unfold M8;rw[hx.out];have h2:x % 2=0∨x % 2=1:=by omega
     have h3:(x:Int) % 2=((x % 2:Nat):Int):=by omega
     rw[h3]
     rcases h2 with h2 | h2 <;> rw[h2] <;> rfl)
    have hm:(x:Int).tmod 2=((x % 2:Nat):Int):=by rw[Int.tmod_eq_emod_of_nonneg (by omega)];omega
    go_wp2;go_ret;exact⟨by rw[hb.out];rfl,rfl⟩
theorem tJ {p n:Nat}{w:World}(hp:p<256) (hn:n≤8):Calls Tryz.prog 77 #[.int .i64 (p:Int),.int .i64 (n:Int)] w (mY (jR p n) w) :=
 (bit_any hp w hn).mono fun e w' ⟨h1,h2⟩=>⟨h1,h2 ▸ a3t _ _⟩
def RetLm (L:List (List Int × Int)) (W:World) (e:Ending) (w':World):Prop:=∃ A c ls,e=.returned (.slice A ls.length c)∧LmL w' A c ls∧Hid (ls.map LmD.p=L)∧Below W.heap.size W w'
theorem lT {ns:List NdD}{ms:List Int}{k:Nat}{p:List Int × Int}(hk:k<(C5 ns ms).length) (h:(C5 ns ms).getD k ([],0)=p):(C5 ns ms)[k]?=some p:=by
 rw[a1m hk,←h,p7 _ hk]
theorem lR {B C:Option Addr}{cb cc:Nat}{ns:List NdD}{ms:List Int}{w:World}(hn:NL w B cb ns) (hm:ZL w C cc ms) (hn8:ms.length≤8) (hl:ns.length≤1000) (hp:∀ d∈ns,0≤d.p∧d.p<256) (hms:∀ m∈ms,0≤m∧m≤1000000) :
 Calls Tryz.prog 56 #[.slice B ns.length cb,.slice C ms.length cc] w (RetLm (C5 ns ms) w):=by
 obtain⟨L,hL⟩:∃ L,Hid (C5 ns ms=L):=⟨_,rfl⟩;have d6:=a1k (show L.length=ns.length+(ms.length+ms.length) by rw[←hL.out,G5])
 have f4:=a1k (show ∀ k,k<ns.length→L[k]?=some (S3 ms.length (eO ns k),lOf ns k) by
  intro k hk;rw[←hL.out];exact lT (by rw[G5];omega) (Y2 hk))
 have g3:=a1k (show ∀ k,k<ms.length→L[ns.length+k]?=some (J2 ms.length k 1,0) by
  intro k hk;rw[←hL.out];exact lT (by rw[G5];omega) (cB hk))
 have h1:=a1k (show ∀ k,k<ms.length→L[ns.length+ms.length+k]?=some (J2 ms.length k (-1),-(ms.getD k 0)) by
  intro k hk;rw[←hL.out];exact lT (by rw[G5];omega) (fQ hk))
 have f5:=a1k hp;have c9:=a1k hms;clear hp hms;have j0:=hn.len;have h8:=hm.len;rw[hL.out];go_enter Tryz.func56,Tryz.ntmps56;go_wp2
 go_loopw [5,6] (fun v i wr=>∃ k:Nat,k≤ns.length∧i=.int .i64 (k:Int)∧LmAt L w k v wr) (fun _ i _=>ns.length-(intOf i).toNat)
 case atStart=>exact⟨0,by omega,rfl,LmAt.nil _ _⟩
 case round =>
  obtain⟨k,hk,rfl,g⟩:=hrel;have t:=g.bel
  by_cases hkl:k<ns.length
  · have d4:(k:Int)<(ns.length:Int):=by omega
    obtain⟨a,d,ea,Z,s,j3,c4⟩:=(hn.below t).at hkl;rw[ea];have h9:=f5.out d (a1n c4.out);obtain⟨pn,d7⟩:∃ pn:Nat,d.p=(pn:Int):=⟨d.p.toNat,by omega⟩;rw[d7] at s;have b1:=a1k (show pn<256 by omega)
    have c3:=a1k (show eO ns k=pn∧lOf ns k=d.l by
     unfold eO lOf;rw[a1l,c4.out];show d.p.toNat=pn∧d.l=d.l;exact⟨by omega,rfl⟩)
    have hq:=a1k (show L[k]?=some (S3 ms.length pn,d.l) by rw[f4.out k hkl,c3.out.1,c3.out.2]);have f:=a1k (show (a.add (k*2)).block<wr.heap.size by rw[f7];exact Z);obtain⟨wA,wB,eA,p0,p1,r0,r1,eB,hV,bV,lV⟩:=new_lm wr none 0 0 d.l;obtain⟨wo,g9⟩:∃ wo:World,wo=wr:=⟨_,rfl⟩;subst g9;go_wp2
    go_loopw [8] (fun i w'=>∃ j:Nat,j≤ms.length∧i=.int .i64 (j:Int)∧∃ A c,InAt wo wo.heap.size d.l ((S3 ms.length pn).take j) A c w') (fun i _=>ms.length-(intOf i).toNat)
    case atStart=>exact⟨0,by omega,rfl,none,0,⟨hV,OwnZ.nil _ _,bV⟩⟩
    case round =>
     clear p0 p1 r0 r1 eA eB hV bV lV;obtain⟨j,hj,rfl,A,c,hI⟩:=hrel;obtain⟨zs,V⟩:∃ zs,Hid ((S3 ms.length pn).take j=zs):=⟨_,rfl⟩;rw[V.out] at hI;have g5:=a1k (show zs.length=j by rw[←V.out,a2c,X7];omega);have b9:=a1k (show j≤8 by omega)
     by_cases hjl:j<ms.length
     · have j4:(j:Int)<(ms.length:Int):=by omega
       have g2:=a1k (show (S3 ms.length pn)[j]?=some (jR pn j) by unfold S3;rw[a1r,a2t hjl];rfl);go_upto_region 9 with fail;have bT:=hI.bel;have I:Below wr.heap.size wr wr.drew:=(a3t _ _).drew;replace hI:=hI.below I;clear I;go_wp2_with fail;refine a3u ?_;refine k9 (J:=[12]) (S:=fun w'=>w'.cell? ⟨wo.heap.size,0,none⟩=some (.slice A zs.length c)∧w'.cell? (a.add (k*2))=some (.int .i64 ((pn:Nat):Int))) (by kernel_rfl) (⟨hI.c0,(hI.bel.cell f.out).trans s⟩) (fun b=>?_);refine iK 0 1 2 3 4 5 6 7 b ?_;refine I0 8 rfl fun K hK=>?_;go_simp;have c5:=tJ (p:=pn) (n:=j) (w:=wr.drew) b1.out b9.out;go_at_call 77;refine (c5).mono ?_;rintro e u1 ⟨rfl,b3⟩;clear c5;replace hI:=hI.below b3;go_wp2_with fail;refine hK.out _ _ (⟨hI.c0,(hI.bel.cell f.out).trans s⟩) (fun b=>?_);clear hK K;(try simp only[j9]);refine I0 9 rfl fun K hK=>?_;obtain⟨u2,f2,X,g7,Y⟩:=f8 u1 #[.int .i64 (jR pn j)] 2;replace hI:=hI.below X;go_simp;refine hK.out _ _ (⟨hI.c0,(hI.bel.cell f.out).trans s⟩) (fun b=>?_)
       clear hK K;(try simp only[j9]);refine I0 10 rfl fun K hK=>?_;obtain⟨A8,c8,w8,w9,d0,k1,kf,e9,d1,b8⟩:=hI.app (a1u _) (ad:=⟨u1.heap.size,0,none⟩) (c':=1) (a4e Y 0) (by have:=g5.out;have:=b9.out;omega);refine q7 rfl _ _ rfl rfl rfl rfl d0 ?_;refine hK.out _ _ (⟨k1,(b8.cell f.out).trans s⟩) (fun b=>?_);clear hK K;(try simp only[j9]);refine dJ 11 rfl b ?_;refine j6 (rs:=[12]) (by kernel_rfl) (by simp) ?_;refine a4j rfl (by decide) (fun K hK=>?_) a4i;go_simp;refine hK.out _ _ ?_;clear hK K;(try clear b);(try simp only[j9]);refine k8 (by kernel_rfl) ?_ _;refine a3w ?_;(try go_simp);(try clear b);have q:=a1k (show zs++[jR pn j]=(S3 ms.length pn).take (j+1) by rw[a3e,g2.out,V.out];rfl);rw[q.out] at d1;clear hI d0 k1 kf b8 bT;go_wp2;go_roundw
       case rel=>exact⟨j+1,by omega,by go_num,A8,c8,d1⟩
       case measure=>simp[intOf];omega
     · obtain rfl:j=ms.length:=by omega
       have c7:decide ((ms.length:Int)<(ms.length:Int))=false:=a1v (by omega);have g6:=a1k (show zs=S3 ms.length pn by rw[←V.out,a1q (by rw[X7];exact a1u _)]);have x0:=hI.c0;have x1:=hI.c1;have g8:=a1k (show L[k]?=some (LmD.p ⟨A,c,zs,d.l⟩) by rw[hq.out];unfold LmD.p;rw[g6.out]);have r:=g.below hI.bel;obtain⟨v6,w6,o,x⟩:=r.app (l:=⟨A,c,zs,d.l⟩) (by omega) g8.out hI.zt;dsimp only at o
       go_wp2_with (at_builtin;refine D7 (T:=99) rfl rfl (.tmp 43) (.tmp 45) rfl rfl rfl o ?_)
       go_wp2;go_roundw
       case rel=>exact⟨k+1,by omega,by go_num,x⟩
       case measure=>simp[intOf];omega
  · obtain rfl:k=ns.length:=by omega
    have c7:decide ((ns.length:Int)<(ns.length:Int))=false:=a1v (by omega);go_wp2
    go_loopw [5,9] (fun v i wr=>∃ k:Nat,k≤ms.length∧i=.int .i64 (k:Int)∧LmAt L w (ns.length+k) v wr) (fun _ i _=>ms.length-(intOf i).toNat)
    case atStart=>exact⟨0,by omega,rfl,g⟩
    case round =>
     clear g t;obtain⟨k,hk,rfl,g⟩:=hrel;have t:=g.bel
     by_cases hkl:k<ms.length
     · have d4:(k:Int)<(ms.length:Int):=by omega
       obtain⟨w2,c2,d2,b2,l2⟩:=cW wr ms.length (by omega);obtain⟨wA,wB,eA,p0,p1,r0,r1,eB,hV,bV,lV⟩:=new_lm w2 (some ⟨wr.heap.size,0,none⟩) ms.length ms.length 0;have R:=d2.below bV;obtain⟨w3,e3,b7,o3⟩:=R.set k 1;have f3:=R.free k;have y3:wB.cell? ⟨wr.heap.size,k,none⟩=some (.int .i64 0):=R.cell (by rw[a2m,if_pos hkl]);have x0:=a4e hV 0;have b0:=hV.only o3 (a4p hV R (by decide));have x3:=a4e b0 0;have x4:=a4e b0 1;have b5:=a1j b2 bV;have d9:=o3.to_below b5 (a1u _) b5.size;have hq:=a1k (show L[ns.length+k]?=some (LmD.p ⟨some ⟨wr.heap.size,0,none⟩,ms.length,J2 ms.length k 1,0⟩) from g3.out k hkl);have M:ZT w3 (some ⟨wr.heap.size,0,none⟩) ms.length (J2 ms.length k 1):=by have h:=b7.zt (by simp;omega);simpa [J2] using h
       clear d2 R b7 o3 hV b0 b2 bV b5;have r:=g.below d9;obtain⟨v6,w6,o,x⟩:=r.app (l:=⟨some ⟨wr.heap.size,0,none⟩,ms.length,J2 ms.length k 1,0⟩) (by omega) hq.out M;dsimp only at o;rw[I4] at o
       go_wp2_with (at_builtin;refine D7 (T:=99) rfl rfl (.tmp 61) (.tmp 63) rfl rfl rfl o ?_)
       go_wp2;go_roundw
       case rel=>exact⟨k+1,by omega,by go_num,x⟩
       case measure=>simp[intOf];omega
     · obtain rfl:k=ms.length:=by omega
       have h3:decide ((ms.length:Int)<(ms.length:Int))=false:=a1v (by omega);go_wp2
       go_loopw [5,11] (fun v i wr=>∃ k:Nat,k≤ms.length∧i=.int .i64 (k:Int)∧LmAt L w (ns.length+ms.length+k) v wr) (fun _ i _=>ms.length-(intOf i).toNat)
       case atStart=>exact⟨0,by omega,rfl,g⟩
       case round =>
        clear g t;obtain⟨k,hk,rfl,g⟩:=hrel;have t:=g.bel
        by_cases hkl:k<ms.length
        · have d4:(k:Int)<(ms.length:Int):=by omega
          obtain⟨a,z,ea,Z,s,d3⟩:=(hm.below t).at hkl;rw[ea];have f:=a1k (show (a.add k).block<wr.heap.size by rw[f7];exact Z);have h7:=c9.out z (a1n d3.out);have j5:IntKind.i64.wrap (-z)=-z:=by simp[IntKind.wrap,IntKind.bits,IntKind.signed];omega
          have h2:=a1k (show ms.getD k 0=z by rw[a1l,d3.out];rfl);have h5:=g;have hq:=a1k (show L[ns.length+ms.length+k]?=some (J2 ms.length k (-1),-z) by rw[h1.out k hkl,h2.out]);go_upto_region 20 with fail;have bT:=a3t wr.heap.size wr;have I:Below wr.heap.size wr wr.drew:=(a3t _ _).drew;replace bT:=a1j bT I;clear I;go_wp2_with fail;refine a3u ?_;refine k9 (J:=[10]) (S:=fun w'=>w'.cell? (a.add k)=some (.int .i64 z)) (by kernel_rfl) ((bT.cell f.out).trans s) (fun b=>?_);refine mR 0 1 3 4 b ?_;refine dU 5 6 b ?_;refine dJ 7 rfl b ?_;refine j6 (rs:=[2,9]) (by kernel_rfl) (by simp) ?_;refine a4k rfl (fun K hK=>?_) ?_
          · obtain⟨u1,c2,y,b3,k0⟩:=cW wr.drew ms.length (by omega);have b4:wr.heap.size≤wr.heap.size:=bT.size;replace y:ZA u1 wr.heap.size (List.replicate ms.length 0):=y;replace bT:=a1j bT b3;go_simp;refine hK.out _ _ ((bT.cell f.out).trans s) (fun b=>?_);clear hK K;(try simp only[j9]);refine dJ 8 rfl b ?_;refine I0 9 rfl fun K hK=>?_;have N:=bT.size;obtain⟨u2,f2,X,g7,Y⟩:=f8 u1 #[.slice none 0 0,.int .i64 0] 103;replace y:=y.below X;replace bT:=a1j bT X;have hX:=Y;clear Y;go_simp;refine hK.out _ _ ((bT.cell f.out).trans s) (fun b=>?_);clear hK K;(try simp only[j9]);refine j6 (rs:=[10]) (by kernel_rfl) (by simp) ?_;refine a4j rfl (by decide) (fun K hK=>?_) a4i;obtain⟨w9,q0,q1,f0,f1,e9,D,o9⟩:=sM hX (some ⟨wr.heap.size,0,none⟩) ms.length ms.length (-z);go_simp;refine hK.out _ _ ?_;clear hK K;(try clear b);(try simp only[j9]);refine k8 (by kernel_rfl) ?_ _;refine a3w ?_;(try go_simp);(try clear b);have q:ZA w9 wr.heap.size (List.replicate ms.length 0):=Blk.only y o9 (a4p y hX (by decide));have H:=o9.to_below bT N bT.size;obtain⟨b6,g1,E,G⟩:=q.set k (-1);have x9:=a4e D 0;have f9:=q.free k;have y9:w9.cell? ⟨wr.heap.size,k,none⟩=some (.int .i64 0):=q.cell (by rw[a2m,if_pos hkl])
            have F:=D.only G (a4p D q (by decide));have g0:=a4e F 0;have g4:=a4e F 1;have O:=G.to_below H b4 H.size;have M:ZT b6 (some ⟨wr.heap.size,0,none⟩) ms.length (J2 ms.length k (-1)):=by have h:=E.zt (by simp;omega);simpa [J2] using h
            clear y q E hX D H bT o9 G;have r:=g.below O;obtain⟨v6,w6,o,x⟩:=r.app (l:=⟨some ⟨wr.heap.size,0,none⟩,ms.length,J2 ms.length k (-1),-z⟩) (by omega) hq.out M;dsimp only at o;rw[I4] at o
            go_wp2_with (at_builtin;refine D7 (T:=99) rfl rfl (.tmp 84) (.tmp 86) rfl rfl rfl o ?_)
            go_wp2;go_roundw
            case rel=>exact⟨k+1,by omega,by go_num,by rw[show ns.length+ms.length+(k+1)=ns.length+ms.length+k+1 by omega];exact x⟩
            case measure=>simp[intOf];omega
          refine a4k rfl (fun K hK=>?_) ?_
          · have N:=bT.size;obtain⟨u3,h6,f6,j2,U⟩:=f8 wr.drew #[.slice none 0 0,.int .i64 0] 103;replace U:Blk u3 wr.heap.size 103 #[.slice none 0 0,.int .i64 0]:=U;replace bT:=a1j bT f6;have hX:=U;clear U;go_simp;refine hK.out _ _ ((bT.cell f.out).trans s) (fun b=>?_);clear hK K;(try simp only[j9]);refine I0 2 rfl fun K hK=>?_;obtain⟨u4,c2,y,d5,j1⟩:=cW u3 ms.length (by omega);have b4:wr.heap.size≤u3.heap.size:=bT.size;replace hX:=hX.keep d5;replace bT:=a1j bT d5;go_simp;refine hK.out _ _ ((bT.cell f.out).trans s) (fun b=>?_);clear hK K;(try simp only[j9]);refine dJ 8 rfl b ?_;refine j6 (rs:=[10]) (by kernel_rfl) (by simp) ?_;refine a4j rfl (by decide) (fun K hK=>?_) a4i;obtain⟨w9,q0,q1,f0,f1,e9,D,o9⟩:=sM hX (some ⟨u3.heap.size,0,none⟩) ms.length ms.length (-z);go_simp;refine hK.out _ _ ?_;clear hK K;(try clear b);(try simp only[j9]);refine k8 (by kernel_rfl) ?_ _;refine a3w ?_;(try go_simp);(try clear b);have q:ZA w9 u3.heap.size (List.replicate ms.length 0):=Blk.only y o9 (a4p y hX (by decide));have H:=o9.to_below bT N bT.size;obtain⟨b6,g1,E,G⟩:=q.set k (-1);have x9:=a4e D 0;have f9:=q.free k;have y9:w9.cell? ⟨u3.heap.size,k,none⟩=some (.int .i64 0):=q.cell (by rw[a2m,if_pos hkl])
            have F:=D.only G (a4p D q (by decide));have g0:=a4e F 0;have g4:=a4e F 1;have O:=G.to_below H b4 H.size;have M:ZT b6 (some ⟨u3.heap.size,0,none⟩) ms.length (J2 ms.length k (-1)):=by have h:=E.zt (by simp;omega);simpa [J2] using h
            clear y q E hX D H bT o9 G;have r:=g.below O;obtain⟨v6,w6,o,x⟩:=r.app (l:=⟨some ⟨u3.heap.size,0,none⟩,ms.length,J2 ms.length k (-1),-z⟩) (by omega) hq.out M;dsimp only at o;rw[I4] at o
            go_wp2_with (at_builtin;refine D7 (T:=99) rfl rfl (.tmp 84) (.tmp 86) rfl rfl rfl o ?_)
            go_wp2;go_roundw
            case rel=>exact⟨k+1,by omega,by go_num,by rw[show ns.length+ms.length+(k+1)=ns.length+ms.length+k+1 by omega];exact x⟩
            case measure=>simp[intOf];omega
          exact a4i
        · obtain rfl:k=ms.length:=by omega
          have h4:decide ((ms.length:Int)<(ms.length:Int))=false:=a1v (by omega);obtain⟨A,c,ls,rfl,d8,h0⟩:=g.done (by rw[d6.out];omega);go_wp2;go_ret;exact⟨A,c,ls,rfl,d8,h0,t⟩
theorem oM {A B C:Option Addr}{ca cb cc tl:Nat}{ns:List NdD}{ms:List Int}{w:World}(ht:tl≤ca∧ca≤9223372036854775807) (hn:NL w B cb ns) (hm:ZL w C cc ms) :
 Calls Tryz.prog 17 #[.slice A tl ca,.slice B ns.length cb,.slice C ms.length cc] w (mY (argsE tl ns ms) w):=by
 obtain⟨r,hr⟩:∃ r,Hid (argsE tl ns ms=r):=⟨_,rfl⟩;rw[hr.out];have ln:=hn.len;have lm:=hm.len;have bT:=a3t w.heap.size w
 by_cases h1:8<ms.length
 · have t1:decide ((8:Int)<(ms.length:Int))=true:=a1w (by omega);have hf:=a1k (show r=3 by rw[←hr.out];unfold argsE;rw[if_pos (.inl h1)]);go_enter Tryz.func17,Tryz.ntmps17;go_wp2;go_ret;exact⟨by rw[hf.out];rfl,bT⟩
 have t1:decide ((8:Int)<(ms.length:Int))=false:=a1v (by omega)
 by_cases h2:300<ns.length
 · have t2:decide ((300:Int)<(ns.length:Int))=true:=a1w (by omega);have hf:=a1k (show r=3 by rw[←hr.out];unfold argsE;rw[if_pos (.inr h2)]);go_enter Tryz.func17,Tryz.ntmps17;go_wp2;go_ret;exact⟨by rw[hf.out];rfl,bT⟩
 have t2:decide ((300:Int)<(ns.length:Int))=false:=a1v (by omega)
 by_cases h3:¬ tl=ms.length
 · have t3:((tl:Int) != (ms.length:Int))=true:=by rw[bne_iff_ne];omega
   have hf:=a1k (show r=2 by rw[←hr.out];unfold argsE;rw[if_neg (by omega),if_pos h3]);go_enter Tryz.func17,Tryz.ntmps17;go_wp2;go_ret;exact⟨by rw[hf.out];rfl,bT⟩
 have o:=a1k (a3s.1 h3);have t3:((tl:Int) != (ms.length:Int))=false:=by rw[bne_eq_false_iff_eq];have:=o.out;omega
 clear h3;have g:ms.length≤8:=by omega
 have f:=a1k (show r=if ms.any dG=true∨ns.any (bC ms.length)=true then 4 else 0 by rw[←hr.out];unfold argsE;rw[if_neg (by omega),if_neg (by have:=o.out;omega)]);go_enter Tryz.func17,Tryz.ntmps17;go_wp2
 go_loopw [7] (fun i wr=>kD dG ms w i wr) (fun i _=>ms.length-(intOf i).toNat)
 case atStart=>exact⟨0,by omega,rfl,rfl,bT⟩
 case round =>
  obtain⟨k,hk,rfl,b,hb⟩:=hrel
  by_cases hkl:k<ms.length
  · have v:(k:Int)<(ms.length:Int):=by omega
    obtain⟨a,z,rfl,q,s,m⟩:=(hm.below hb).at hkl
    by_cases c1:z<0
    · have d1:decide (z<0)=true:=a1w c1;have hf:=a1k (show r=4 by rw[f.out,if_pos (.inl (K2 m.out (by unfold dG;rw[d1];rfl)))]);clear c1;go_wp2;go_ret;exact⟨by rw[hf.out];rfl,hb⟩
    have d1:decide (z<0)=false:=a1v c1
    by_cases c2:1000000<z
    · have d2:decide (1000000<z)=true:=a1w c2;have hf:=a1k (show r=4 by rw[f.out,if_pos (.inl (K2 m.out (by unfold dG;rw[d1,d2];rfl)))]);clear c1 c2;go_wp2;go_ret;exact⟨by rw[hf.out];rfl,hb⟩
    have d2:decide (1000000<z)=false:=a1v c2;have c:=a1k (cV b.out m.out (by unfold dG;rw[d1,d2];rfl));clear c1 c2;go_wp2;go_roundw
    case rel=>exact⟨k+1,by omega,by go_num,c,hb⟩
    case measure=>simp[intOf];omega
  · obtain rfl:k=ms.length:=by omega
    have x:decide ((ms.length:Int)<(ms.length:Int))=false:=a1v (by omega);have n:=a1k (show ms.any dG=false by have:=b.out;rwa [a2z] at this);obtain⟨wo,t⟩:∃ wo:World,wo=wr:=⟨_,rfl⟩;subst t;go_wp2
    go_loopw [8] (fun i wr=>kD (bC ms.length) ns w i wr) (fun i _=>ns.length-(intOf i).toNat)
    case atStart=>exact⟨0,by omega,rfl,rfl,hb⟩
    case round =>
     obtain⟨k,hk,rfl,b,hb⟩:=hrel
     by_cases hkl:k<ns.length
     · have v:(k:Int)<(ns.length:Int):=by omega
       obtain⟨a,d,ea,q,s,D,j⟩:=(hn.below hb).at hkl;rw[ea];have h:=hb;obtain⟨P,hP⟩:∃ P:Int,P=(2:Int) ^ ms.length:=⟨_,rfl⟩
       by_cases c1:d.p<0
       · have d1:decide (d.p<0)=true:=a1w c1;have hf:=a1k (show r=4 by rw[f.out,if_pos (.inr (K2 j.out (by unfold bC;rw[d1];rfl)))]);clear c1;go_wp2_with fail
         go_quiet ((go_at_call 35;refine Calls.quiet_of_same (bL g _)))
         go_wp2;go_ret;exact⟨by rw[hf.out];rfl,Below.drewN h _⟩
       have d1:decide (d.p<0)=false:=a1v c1
       by_cases c2:(2:Int) ^ ms.length≤d.p
       · have d2:decide ((2:Int) ^ ms.length≤d.p)=true:=a1w c2;have hf:=a1k (show r=4 by rw[f.out,if_pos (.inr (K2 j.out (by unfold bC;rw[d1,a1w c2];rfl)))]);clear c1 c2;go_wp2_with fail
         go_quiet ((go_at_call 35;refine Calls.quiet_of_same (bL g _)))
         go_wp2;go_ret;exact⟨by rw[hf.out];rfl,Below.drewN h _⟩
       have d2:decide ((2:Int) ^ ms.length≤d.p)=false:=a1v c2
       by_cases c3:d.l < -1099511627776
       · have d3:decide (d.l < -1099511627776)=true:=a1w c3;have hf:=a1k (show r=4 by rw[f.out,if_pos (.inr (K2 j.out (by unfold bC;rw[d1,a1v c2,d3];rfl)))]);clear c1 c2 c3;go_wp2_with fail
         go_quiet ((go_at_call 35;refine Calls.quiet_of_same (bL g _)))
         go_wp2;go_ret;exact⟨by rw[hf.out];rfl,Below.drewN h _⟩
       have d3:decide (d.l < -1099511627776)=false:=a1v c3
       by_cases c4:1099511627776<d.l
       · have d4:decide (1099511627776<d.l)=true:=a1w c4;have hf:=a1k (show r=4 by rw[f.out,if_pos (.inr (K2 j.out (by unfold bC;rw[d1,a1v c2,d3,d4];rfl)))]);clear c1 c2 c3 c4;go_wp2_with fail
         go_quiet ((go_at_call 35;refine Calls.quiet_of_same (bL g _)))
         go_wp2;go_ret;exact⟨by rw[hf.out];rfl,Below.drewN h _⟩
       have d4:decide (1099511627776<d.l)=false:=a1v c4;have c:=a1k (cV b.out j.out (by unfold bC;rw[d1,a1v c2,d3,d4];rfl));clear c1 c2 c3 c4;go_wp2_with fail
       go_quiet ((go_at_call 35;refine Calls.quiet_of_same (bL g _)))
       go_wp2;go_roundw
       case rel=>exact⟨k+1,by omega,by go_num,c,Below.drewN h _⟩
       case measure=>simp[intOf];omega
     · obtain rfl:k=ns.length:=by omega
       have y:decide ((ns.length:Int)<(ns.length:Int))=false:=a1v (by omega);have hf:=a1k (show r=0 by rw[f.out,if_neg];rw[n.out];have:=b.out;rw[a2z] at this;rw[this];simp);go_wp2;go_ret;exact⟨by rw[hf.out];rfl,hb⟩
theorem J3 {v u:Value}{p q:Rat}{j k:Nat}{w:World}(hv:FV w v p) (hu:FV w u q) (hj:Fits j p) (hk:Fits k q) (hJ:j+k<400000000) :
 Calls Tryz.prog 59 #[v,u] w (V6 (p-q) w):=by
 have z:=hv;have r:=hu;obtain⟨n1,A,ca,la,B,cb,lb,rfl,na,nb,iq⟩:=hv;obtain⟨n2,C,cc,lc,D,cd,ld,rfl,nc,nd,ir⟩:=hu;clear na nb iq nc nd ir;rw[Rat.sub_eq_add_neg];obtain⟨w0,V,J,n,F⟩:=f8 w #[.bool n1,.slice A la.length ca,.slice B lb.length cb] 28;obtain⟨w1,X,x,m,H⟩:=f8 w0 #[.bool n2,.slice C lc.length cc,.slice D ld.length cd] 28;obtain⟨w2,U,g,T,l⟩:=f8 w1 #[.bool false,.slice none 0 0,.slice none 0 0] 28;have f:=(F.keep x).keep g;have d:=H.keep g;have s:=J.trans (x.mono (a3f n));have c:=a1j s g;have O:=z.below c;have G:=r.below c;have x0:=f.f0;have x1:=f.f1;have x2:=f.f2;have y0:=d.f0;have y1:=d.f1;have y2:=d.f2;have N:Blk3 w2 w1.heap.size 28:=l.b3;have y:Only w2 w2 w1.heap.size:=a4m _ _;have I:w.heap.size<w1.heap.size:=by omega
 have hS:∀ w',Only w2 w' w1.heap.size→w'.cell? ⟨w.heap.size,0,none⟩=some (.bool n1)∧w'.cell? ⟨w.heap.size,1,none⟩=some (.slice A la.length ca)∧w'.cell? ⟨w.heap.size,2,none⟩=some (.slice B lb.length cb)∧w'.cell? ⟨w0.heap.size,0,none⟩=some (.bool n2)∧w'.cell? ⟨w0.heap.size,1,none⟩=some (.slice C lc.length cc)∧w'.cell? ⟨w0.heap.size,2,none⟩=some (.slice D ld.length cd):=fun w' o =>
  have p:=f.only o (Nat.ne_of_lt I);have q:=d.only o (Nat.ne_of_lt m);⟨p.f0,p.f1,p.f2,q.f0,q.f1,q.f2⟩
 obtain⟨d0,d1,d2,d3,d4,d5⟩:=hS _ y.drew;have d6:=y.drew;have d7:=N.drew;clear z r;go_enter Tryz.func59,Tryz.ntmps59;go_wp2_with fail
 go_region_held3 (fun w'=>w'.cell? ⟨w.heap.size,0,none⟩=some (.bool n1)∧w'.cell? ⟨w.heap.size,1,none⟩=some (.slice A la.length ca)∧w'.cell? ⟨w.heap.size,2,none⟩=some (.slice B lb.length cb)∧w'.cell? ⟨w0.heap.size,0,none⟩=some (.bool n2)∧w'.cell? ⟨w0.heap.size,1,none⟩=some (.slice C lc.length cc)∧w'.cell? ⟨w0.heap.size,2,none⟩=some (.slice D ld.length cd)∧Only w2 w' w1.heap.size∧Blk3 w' w1.heap.size 28) (((try go_split_ands);(try dsimp only);(repeat' with_reducible apply And.intro) <;> with_reducible assumption)) (first
  | (go_at_call 78;go_split_ands;(with_reducible refine (uO (G.only_blk l (k7 _ _ _ _ _ _ _) (by assumption))).mono ?_);rintro e w3 ⟨v3,rfl,L,b3⟩;have q4:=Blk3.keep (by assumption) b3;have b4:=(show Only w2 _ w1.heap.size by assumption).trans (a4n b3 _);obtain⟨f0,f1,f2,f3,f4,f5⟩:=hS _ b4)
  | (go_at_call 62;go_split_ands;(with_reducible refine (N5 (O.only_blk l (k7 _ _ _ _ _ _ _) (by assumption)) L hj hk.neg hJ).mono ?_);rintro e w7 ⟨v,rfl,⟨m0,A1,c1,l1,B1,d1,m1,rfl,ma,mb,hQ⟩,b7⟩;have b8:=(show Only w2 _ w1.heap.size by assumption).trans (a4n b7 _);obtain⟨k0,k1,k2,k3,k4,k5⟩:=hS _ b8;have q8:=Blk3.keep (t:=28) (by assumption) b7;have q9:=q8.set m0 A1 l1.length c1 B1 m1.length d1;obtain⟨qa,qb,qc,qd,qe,qf,qg,b⟩:=id q8;have b9:=((b8.set 0 (.bool m0)).set 1 (.slice A1 l1.length c1)).set 2 (.slice B1 m1.length d1);obtain⟨j0,j1,j2,j3,j4,j5⟩:=hS _ b9;have u0:=b.f0;have u1:=b.f1;have u2:=b.f2;have t0:=b.free 0;have t1:=b.free 1;have t2:=b.free 2))
 clear j0 j1 j2 j3 j4 j5 q9;go_wp2;obtain⟨w9,M,h,o9⟩:=b.set3 (.bool m0) (.slice A1 l1.length c1) (.slice B1 m1.length d1);rw[M];have e0:=h.f0;have e1:=h.f1;have e2:=h.f2;refine a3z (v:=B8 m0 A1 l1.length c1 B1 m1.length d1) (by simp[results,Tryz.results59,go_sem,e0,e1,e2]) rfl ?_;have E:=ma.only_blk b (k7 _ _ _ _ _ _ _) o9;have R:=mb.only_blk b (k7 _ _ _ _ _ _ _) o9;have bT:=(b8.trans o9).to_below c s.size c.size;exact⟨_,rfl,⟨m0,A1,c1,l1,B1,d1,m1,rfl,E,R,hQ⟩,bT⟩
theorem R1 {v:Value}{q:Rat}{w:World}(hv:FV w v q) :
 Calls Tryz.prog 68 #[v] w (mY (D0 q 0) w):=by
 obtain⟨b,A,ca,la,B,cb,lb,rfl,na,nb,iq⟩:=hv;have k:=na.big;have hc:=q_sign iq;have g:=a1k (QIs.sign iq);clear iq;obtain⟨w0,f,c,h,d⟩:=f8 w #[.bool b,.slice A la.length ca,.slice B lb.length cb] 28;have x0:=d.f0;have x1:=d.f1;have x2:=d.f2;rw[hc]
 rcases la with _ | ⟨a,la⟩
 · rw[if_pos rfl];obtain rfl:b=false:=by cases b with | false=>rfl | true=>exact absurd ⟨rfl,rfl⟩ g.out
   go_enter Tryz.func68,Tryz.ntmps68;go_wp2;go_ret;exact⟨rfl,by first | exact c | (subst f;exact c)⟩
 · have j:((((a::la).length:Nat):Int) == 0)=false:=by rw[beq_eq_false_iff_ne,a3r];omega
   rw[if_neg (by simp)]
   generalize (a::la).length=n at *
   rcases b with _ | _
   · go_enter Tryz.func68,Tryz.ntmps68;go_wp2;go_ret;exact⟨rfl,c⟩
   · go_enter Tryz.func68,Tryz.ntmps68;go_wp2;go_ret;exact⟨rfl,c⟩
theorem W1 {v u:Value}{p q:Rat}{j k:Nat}{w:World}(hv:FV w v p) (hu:FV w u q) (hj:Fits j p) (hk:Fits k q) (hJ:j+k<400000000) :
 Calls Tryz.prog 67 #[v,u] w (mY (D0 p q) w):=by
 have s:=hv;have o:=hu;obtain⟨n1,A,ca,la,B,cb,lb,rfl,na,nb,iq⟩:=hv;obtain⟨n2,C,cc,lc,D,cd,ld,rfl,nc,nd,ir⟩:=hu;clear na nb iq nc nd ir;rw[←cmpR_sub];obtain⟨c,hc⟩:∃ c,Hid (D0 (p-q) 0=c):=⟨_,rfl⟩;rw[hc.out];obtain⟨w0,x,n,h,m⟩:=f8 w #[.bool n1,.slice A la.length ca,.slice B lb.length cb] 28;obtain⟨w1,y,g,t,b⟩:=f8 w0 #[.bool n2,.slice C lc.length cc,.slice D ld.length cd] 28;have f:=m.keep g;have d:=n.trans (g.mono (a3f h));have x0:=f.f0;have x1:=f.f1;have x2:=f.f2;have y0:=b.f0;have y1:=b.f1;have y2:=b.f2;go_enter Tryz.func67,Tryz.ntmps67;go_wp2_with fail;refine (J3 (s.below d) (o.below d) hj hk hJ).mono ?_;rintro e w2 ⟨v2,rfl,l,b2⟩;have r:=a1j d b2;go_wp2_with fail;refine (R1 l).mono ?_;rintro e w3 ⟨rfl,b3⟩;rw[hc.out];go_wp2;go_ret;exact⟨rfl,(a1j r b3)⟩
end Go.Proofs.YtjhkapjadfpimaaGreat
