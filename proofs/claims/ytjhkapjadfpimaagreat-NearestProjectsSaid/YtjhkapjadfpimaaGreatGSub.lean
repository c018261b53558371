/- Contracts of functions, for the law. -/
import Derived.Test.YtjhkapjadfpimaaGreatNRPl
namespace Go.Proofs.YtjhkapjadfpimaaGreat
set_option linter.unusedVariables false
set_option linter.unusedSimpArgs false
open Go.RowKit Plain
attribute [local go_sem ↓] Go.wp_at_zero Go.wp_at_succ
set_option maxRecDepth 100000
set_option maxHeartbeats 40000000
theorem tC {ps:List Rat}{k:Nat}{q:Rat}(h:ps[k]?=some q):aB (ps.take (k+1))=aB (ps.take k)+q:=by
 rw[List.take_add_one,h];exact jX _ _
theorem B7 {z:Int}(h:z.natAbs≤1):Fits 2 (z:Rat):=fd (by omega)
theorem mT {K:Nat}{zs:List Int}{qs:List Rat}(hz:∀ z∈zs,z.natAbs≤1) (hf:QFits K qs):QFits (2+K) (dy zs qs):=fun q hq=>by
 unfold dy at hq;obtain⟨i,hi,rfl⟩:=List.mem_iff_getElem.1 hq;rw[List.getElem_zipWith];exact (B7 (hz _ (Dy _))).mul (hf _ (Dy _))
theorem lR {K:Nat}{C A:Option Addr}{cc ca:Nat}{zs:List Int}{ds:List FrD}{w:World}(hz:ZL w C cc zs) (h:FL w A ca ds) (hf:QFits K (ds.map FrD.q)) (hzb:∀ z∈zs,z.natAbs≤1) (hK:K≤10000000) (hl:zs.length=ds.length) (hl12:ds.length≤12) :
 Calls Tryz.prog 60 #[.slice C zs.length cc,.slice A ds.length ca] w (ie (aB (dy zs (ds.map FrD.q))) w):=by
 have cm:=h.len;have cg:=hz.len;obtain⟨ps,L⟩:∃ ps,Hid (dy zs (ds.map FrD.q)=ps):=⟨_,rfl⟩;obtain⟨m,hm⟩:∃ m,Hid (ds.length=m):=⟨_,rfl⟩;have bg:=Dj (show ps.length=m by rw[←L.out,lS (by rw[Dr];exact hl),Dr,hm.out]);have b0:m≤12:=by rw[←hm.out];exact hl12
 have cl:=Dj (show QFits (2+K) ps by rw[←L.out];exact mT hzb hf);rw[L.out,hl,hm.out];obtain⟨w1,cq,b1,l1,B1⟩:=ag w #[.bool false,.slice none 0 0,.slice none 0 0] 28;have c3:=Dj hf;have U:=Dj hzb;have X:=Dj hl;clear hf hzb hl;go_enter Tryz.func60,Tryz.ntmps60;go_wp2_with fail;refine (aO 0 _ (by decide) (by decide)).mono ?_;rintro e w2 ⟨v1,rfl,V,b2⟩;obtain⟨z0,rfl,bv,c0⟩:=V.frd;clear V;obtain⟨wA,w3,eA,p0,p1,p2,r0,r1,r2,eB,bm,b3,l3⟩:=bM w2 z0;have bx:=Di b2 b3;have B3:=(Ea B1 b2).keep b3;have B:SumAt ps w2.heap.size w1 0 w3:=⟨z0,bm,bv.below b3,by rw[c0.out];simp[gH],bx⟩;have b4:=Dj (show w1.heap.size≤w2.heap.size from b2.size);have bf:=Dj (show w.heap.size≠w2.heap.size by have:=b2.size;omega);go_wp2;clear p0 p1 p2 r0 r1 r2 eA eB
 go_loopw [6] (fun i wr=>∃ k:Nat,k≤m∧i=.int .i64 (k:Int)∧SumAt ps w2.heap.size w1 k wr∧Blk wr w.heap.size 28 #[.bool false,.slice none 0 0,.slice none 0 0]) (fun i _=>m-(intOf i).toNat)
 case atStart=>exact⟨0,by omega,rfl,B,B3⟩
 case round =>
  clear B B3 bm;obtain⟨k,hk,rfl,B,hB⟩:=hrel;have p:=B.bel;obtain⟨s,hS,hs,bb,-⟩:=B;have E:=Dj bb;clear bb
  by_cases hkl:k<m
  · have cr:(k:Int)<(m:Int):=by omega
    have bz:=Dj (show Fits (1+12*(2+K+1)) s.q by rw[E.out];exact cT (n:=12) cl.out (by rw[bg.out];exact b0) k);have O:=(show Below w.heap.size w w1 from b1).trans (p.mono b1.size);obtain⟨ad,d,c4,b8,M,G,I,N,b7⟩:=(h.below O).at (by rw[hm.out];exact hkl);obtain⟨az,z,c2,T,H,bd⟩:=(hz.below O).at (by rw[X.out,hm.out];exact hkl)
    have hq:=Dj (show ps[k]?=some ((z:Rat)*d.q) by
     rw[←L.out,rG (by rw[X.out,hm.out];exact hkl) (by rw[Dr,hm.out];exact hkl),Dk,bd.out,Dk,Dq,b7.out];rfl)
    have ch:=U.out z (Dm bd.out);have bo:=Dj (B7 ch);have hzb:=Dj (show -9223372036854775808≤z∧z≤9223372036854775807 by omega);have Z:=Dj (c3.out.fr d (Dm b7.out));have r:=Dj (show (az.add k).block<wr.heap.size by rw[ac];exact T);have f:=Dj (show (ad.add (k*3)).block<wr.heap.size∧(ad.add (k*3)).block<wr.heap.size by rw[ac];exact⟨b8,b8⟩);rw[c4,c2];have c:=hS;have o:=hs;have t:=N;have j:=hB;have b5:=p;clear hS hs N hB p O;go_upto_region 5 with fail;have bT:=DY wr.heap.size wr;have x:Below wr.heap.size wr wr.drew:=(DY _ _).drew;replace c:=c.below x;replace o:=o.below x;replace t:=t.below x;replace j:=j.keep x;replace bT:=Di bT x;clear x;go_wp2_with fail;refine DZ ?_;refine aw (J:=[12]) (S:=fun w'=>w'.cell? ⟨w2.heap.size,0,none⟩=some (.bool s.neg)∧w'.cell? ⟨w2.heap.size,1,none⟩=some (.slice s.a s.la.length s.ca)∧w'.cell? ⟨w2.heap.size,2,none⟩=some (.slice s.b s.lb.length s.cb)∧w'.cell? (az.add k)=some (.int .i64 z)∧w'.cell? (ad.add (k*3))=some (.bool d.neg)∧w'.cell? ⟨(ad.add (k*3)).block,(ad.add (k*3)).off+1,none⟩=some (.slice d.a d.la.length d.ca)∧w'.cell? ⟨(ad.add (k*3)).block,(ad.add (k*3)).off+2,none⟩=some (.slice d.b d.lb.length d.cb)) (by kernel_rfl) (⟨c.cells.1,c.cells.2.1,c.cells.2.2,(bT.cell r.out).trans H,(bT.cell f.out.1).trans M,(bT.cell (by exact f.out.2)).trans G,(bT.cell (by exact f.out.2)).trans I⟩) (fun g=>?_)
    refine mN 0 1 2 3 4 6 7 8 g ?_;refine kr 9 rfl g ?_;refine dg 5 rfl fun K hK=>?_;go_simp;have l:=aO z (wr.drew) hzb.out.1 hzb.out.2;go_at_call 11;refine (l).mono ?_;rintro e u1 ⟨vz,rfl,b6,D⟩;clear l;replace c:=c.below D;replace o:=o.below D;replace t:=t.below D;replace j:=j.keep D;replace bT:=Di bT D;go_wp2_with fail;refine hK.out _ _ (⟨c.cells.1,c.cells.2.1,c.cells.2.2,(bT.cell r.out).trans H,(bT.cell f.out.1).trans M,(bT.cell (by exact f.out.2)).trans G,(bT.cell (by exact f.out.2)).trans I⟩) (fun g=>?_);clear hK K;(try simp only[aq]);refine dg 10 rfl fun K hK=>?_;go_simp;have l:=nk b6 t bo.out Z.out (by omega);go_at_call 79;refine (l).mono ?_;rintro e u2 ⟨vm,rfl,bc,F⟩;clear l;replace c:=c.below F;replace o:=o.below F;replace j:=j.keep F;replace bT:=Di bT F;go_wp2_with fail;refine hK.out _ _ (⟨c.cells.1,c.cells.2.1,c.cells.2.2,(bT.cell r.out).trans H,(bT.cell f.out.1).trans M,(bT.cell (by exact f.out.2)).trans G,(bT.cell (by exact f.out.2)).trans I⟩) (fun g=>?_)
    clear hK K;(try simp only[aq]);refine dg 11 rfl fun K hK=>?_;go_simp;have l:=eX o bc bz.out (bo.out.mul Z.out) (by omega);go_at_call 62;refine (l).mono ?_;rintro e u3 ⟨va,rfl,bn,R⟩;clear l;replace c:=c.below R;replace j:=j.keep R;replace bT:=Di bT R;obtain⟨y,rfl,hy,bs⟩:=bn.frd;clear bn;obtain⟨w9,q0,q1,q2,f0,f1,f2,e9,c5,o9⟩:=c.store y;go_wp2_with fail;refine hK.out _ _ (⟨c.cells.1,c.cells.2.1,c.cells.2.2,(bT.cell r.out).trans H,(bT.cell f.out.1).trans M,(bT.cell (by exact f.out.2)).trans G,(bT.cell (by exact f.out.2)).trans I⟩) (fun g=>?_);clear hK K;(try simp only[aq]);refine aj (rs:=[12]) (by kernel_rfl) (by simp) ?_;refine Ee rfl (by decide) (fun K hK=>?_) Ed;go_simp;refine hK.out _ _ ?_;clear hK K;(try clear g);(try simp only[aq]);refine au (by kernel_rfl) ?_ _;refine D1 ?_;(try go_simp);(try clear g);have cd:=hy.onlyV c o9;have c7:=Blk.only j o9 bf.out;have b9:=o9.to_below ((Di b5 bT)) b4.out (Ds b5.size bT.size);have Y:SumAt ps w2.heap.size w1 (k+1) w9:=⟨y,c5,cd,by rw[tC hq.out,bs.out,E.out],b9⟩;clear c o t j bc b6 hy o9
    go_wp2;go_roundw
    case rel =>
     exact⟨k+1,by omega,by go_num,Y,c7⟩
    case measure=>simp[intOf];omega
  · obtain rfl:k=m:=by omega
    have t1:decide ((k:Int)<(k:Int))=false:=Du (by omega);obtain⟨x0,x1,x2⟩:=hS.cells;obtain⟨w9,p0,p1,p2,r0,r1,r2,e9,h9,o9⟩:=aF hB s;obtain⟨y0,y1,y2⟩:=h9.cells;have c8:=hs.only_blk hB (ar _ _ _ _ _ _ _) o9;have bq:=o9.to_below ((Di b1 p)) (Dt _) (Ds b1.size p.size);have c9:=Dj (show s.q=aB ps by rw[E.out,Dp (by rw[bg.out];exact Dt _)]);clear hB hS hs;go_wp2;refine D4 (v:=aZ s.neg s.a s.la.length s.ca s.b s.lb.length s.cb) (by simp[results,Tryz.results60,go_sem,y0,y1,y2]) rfl ?_;exact⟨_,rfl,by rw[←c9.out];exact c8,bq⟩
theorem sE {n:Nat}{w:World}(hn:n≤12):Calls Tryz.prog 57 #[.int .i64 (n:Int)] w fun e w'=>∃ A c,e=.returned (.slice A n c)∧ZL w' A c (List.replicate n 1)∧Below w.heap.size w w':=by
 obtain⟨w2,j,d,b2,l2⟩:=kd w n (by omega);obtain⟨g,hg⟩:∃ g,Hid (w.heap.size=g):=⟨_,rfl⟩;rw[hg.out] at j d;go_enter Tryz.func57,Tryz.ntmps57;go_wp2
 go_loopw [4] (fun i wr=>∃ k:Nat,k≤n∧i=.int .i64 (k:Int)∧∃ zs,ZA wr g zs∧Hid (zs.length=n∧zs.take k=List.replicate k 1)∧Below w.heap.size w wr) (fun i _=>n-(intOf i).toNat)
 case atStart=>exact⟨0,by omega,rfl,_,d,⟨by simp,rfl⟩,b2⟩
 case round =>
  clear d b2 j;obtain⟨k,hk,rfl,zs,hz,b,hb⟩:=hrel
  by_cases hkl:k<n
  · have q:(k:Int)<(n:Int):=by omega
    obtain⟨z,p⟩:∃ z,Hid (zs[k]?=some z):=⟨_,Dl (by rw[b.out.1];exact hkl)⟩;obtain⟨w3,e3,l,o3⟩:=hz.set k 1;have f3:=hz.free k;have y3:=hz.cell p.out;have o:=o3.to_below hb (by rw[hg.out];exact Dt _) hb.size
    have f:=Dj (show (zs.set k 1).length=n∧(zs.set k 1).take (k+1)=List.replicate (k+1) 1 by
     refine⟨by rw[DH];exact b.out.1,?_⟩;rw[List.take_add_one,List.getElem?_set_self (by rw[b.out.1];exact hkl),List.take_set_of_le (Dt _),b.out.2,List.replicate_succ'];rfl)
    clear hz o3;go_wp2;go_roundw
    case rel=>exact⟨k+1,by omega,by go_num,_,l,f,o⟩
    case measure=>simp[intOf];omega
  · obtain rfl:k=n:=by omega
    have t1:decide ((k:Int)<(k:Int))=false:=Du (by omega);have m:zs=List.replicate k 1:=by have:=b.out.2;rwa [Dp (by rw[b.out.1];exact Dt _)] at this
    subst m;have h:=(hz.zt (by simp;omega)).1;rw[Do] at h;go_wp2;go_ret;exact⟨_,_,rfl,h,hb⟩
theorem yh {k n:Nat}(hk:k<n) (h:n≤8):wrap64 (2*2 ^ k)=(2:Int) ^ (k+1):=by
 have h9:k=0∨k=1∨k=2∨k=3∨k=4∨k=5∨k=6∨k=7:=by omega
 rcases h9 with rfl | rfl | rfl | rfl | rfl | rfl | rfl | rfl <;> exact IntWalk.wrap64_in _ (by decide)
theorem jH {n:Nat}(hn:n≤8) (w:World):Calls Tryz.prog 35 #[.int .i64 (n:Int)] w fun e w'=>e=.returned (.int .i64 ((2:Int) ^ n))∧w'=w:=by
 go_enter Tryz.func35,Tryz.ntmps35;go_wp2
 go_loopw [3,4] (fun v i wr=>∃ k:Nat,k≤n∧v=.int .i64 ((2:Int) ^ k)∧i=.int .i64 (k:Int)∧wr=w) (fun _ i _=>n-(intOf i).toNat)
 case atStart=>exact⟨0,by omega,rfl,rfl,rfl⟩
 case round =>
  obtain⟨k,hk,rfl,rfl,rfl⟩:=hrel
  by_cases hkl:k<n
  · have d:(k:Int)<(n:Int):=by omega
    have b:=Dj (yh hkl hn);go_wp2;go_roundw
    case rel=>exact⟨k+1,by omega,congrArg (Value.int .i64) b.out,by go_num,trivial⟩
    case measure=>simp[intOf];omega
  · obtain rfl:k=n:=by omega
    have c:decide ((k:Int)<(k:Int))=false:=Du (by omega);go_wp2;go_ret;exact⟨rfl,rfl⟩
theorem Bo (p k:Nat):p / 2 ^ k / 2=p / 2 ^ (k+1):=by rw[Nat.div_div_eq_div_mul,Nat.pow_succ]
theorem BD {p n:Nat}(hp:p<256) (w:World) (hn:n≤8):Calls Tryz.prog 77 #[.int .i64 (p:Int),.int .i64 (n:Int)] w fun e w'=>e=.returned (.int .i64 (if eQ p n=true then 1 else 0))∧w'=w:=by
 obtain⟨r,hr⟩:∃ r:Int,Hid ((if eQ p n=true then (1:Int) else 0)=r):=⟨_,rfl⟩;rw[hr.out];go_enter Tryz.func77,Tryz.ntmps77;go_wp2
 go_loopw [0,5] (fun v i wr=>∃ k:Nat,k≤n∧v=.int .i64 ((p / 2 ^ k:Nat):Int)∧i=.int .i64 (k:Int)∧wr=w) (fun _ i _=>n-(intOf i).toNat)
 case atStart=>exact⟨0,by omega,by simp,rfl,rfl⟩
 case round =>
  obtain⟨k,hk,rfl,rfl,rfl⟩:=hrel;obtain⟨x,hx⟩:∃ x,Hid (p / 2 ^ k=x):=⟨_,rfl⟩;have d:x<256:=by rw[←hx.out];exact DO (Nat.div_le_self _ _) hp
  rw[hx.out]
  by_cases hkl:k<n
  · have f:(k:Int)<(n:Int):=by omega
    obtain⟨y,hy⟩:∃ y,Hid (x / 2=y):=⟨_,rfl⟩;have h:y<256:=by rw[←hy.out];omega
    have b:=Dj (show p / 2 ^ (k+1)=y by rw[←Bo,hx.out,hy.out]);have g:IntKind.i64.wrap ((x:Int) / 2)=(y:Int):=by rw[show (x:Int) / 2=((x / 2:Nat):Int) by omega,hy.out];simp[IntKind.wrap,IntKind.bits,IntKind.signed];omega
    go_wp2;go_roundw
    case rel=>exact⟨k+1,by omega,by rw[b.out],by go_num,trivial⟩
    case measure=>simp[intOf];omega
  · obtain rfl:k=n:=by omega
    have c:decide ((k:Int)<(k:Int))=false:=Du (by omega)
    have hb:=Dj (show r=(x:Int) % 2 by
     rw[←hr.out];unfold eQ;rw[hx.out];have h2:x % 2=0∨x % 2=1:=by omega
     have h3:(x:Int) % 2=((x % 2:Nat):Int):=by omega
     rw[h3]
     rcases h2 with h2 | h2 <;> rw[h2] <;> rfl)
    have hm:(x:Int).tmod 2=((x % 2:Nat):Int):=by rw[Int.tmod_eq_emod_of_nonneg (by omega)];omega
    go_wp2;go_ret;exact⟨by rw[hb.out];rfl,rfl⟩
theorem tq {p n:Nat}{w:World}(hp:p<256) (hn:n≤8):Calls Tryz.prog 77 #[.int .i64 (p:Int),.int .i64 (n:Int)] w (pF (nK p n) w) :=
 (BD hp w hn).mono fun e w' ⟨h1,h2⟩=>⟨h1,h2 ▸ DY _ _⟩
def Cd (L:List (List Int × Int)) (W:World) (e:Ending) (w':World):Prop:=∃ A c ls,e=.returned (.slice A ls.length c)∧LmL w' A c ls∧Hid (ls.map LmD.p=L)∧Below W.heap.size W w'
theorem oY {ns:List NdD}{ms:List Int}{k:Nat}{p:List Int × Int}(hk:k<(br ns ms).length) (h:(br ns ms).getD k ([],0)=p):(br ns ms)[k]?=some p:=by
 rw[Dl hk,←h,aD _ hk]
theorem oW {B C:Option Addr}{cb cc:Nat}{ns:List NdD}{ms:List Int}{w:World}(hn:NL w B cb ns) (hm:ZL w C cc ms) (hn8:ms.length≤8) (hl:ns.length≤1000) (hp:∀ d∈ns,0≤d.p∧d.p<256) (hms:∀ m∈ms,0≤m∧m≤1000000) :
 Calls Tryz.prog 56 #[.slice B ns.length cb,.slice C ms.length cc] w (Cd (br ns ms) w):=by
 obtain⟨L,hL⟩:∃ L,Hid (br ns ms=L):=⟨_,rfl⟩;have cx:=Dj (show L.length=ns.length+(ms.length+ms.length) by rw[←hL.out,cL])
 have cd:=Dj (show ∀ k,k<ns.length→L[k]?=some (gf ms.length (kP ns k),lOf ns k) by
  intro k hk;rw[←hL.out];exact oY (by rw[cL];omega) (iR hk))
 have cs:=Dj (show ∀ k,k<ms.length→L[ns.length+k]?=some (dE ms.length k 1,0) by
  intro k hk;rw[←hL.out];exact oY (by rw[cL];omega) (jQ hk))
 have cy:=Dj (show ∀ k,k<ms.length→L[ns.length+ms.length+k]?=some (dE ms.length k (-1),-(ms.getD k 0)) by
  intro k hk;rw[←hL.out];exact oY (by rw[cL];omega) (lI hk))
 have cz:=Dj hp;have bo:=Dj hms;clear hp hms;have dk:=hn.len;have db:=hm.len;rw[hL.out];go_enter Tryz.func56,Tryz.ntmps56;go_wp2
 go_loopw [5,6] (fun v i wr=>∃ k:Nat,k≤ns.length∧i=.int .i64 (k:Int)∧LmAt L w k v wr) (fun _ i _=>ns.length-(intOf i).toNat)
 case atStart=>exact⟨0,by omega,rfl,LmAt.nil _ _⟩
 case round =>
  obtain⟨k,hk,rfl,g⟩:=hrel;have t:=g.bel
  by_cases hkl:k<ns.length
  · have bc:(k:Int)<(ns.length:Int):=by omega
    obtain⟨a,d,ea,b4,y,d9,b7⟩:=(hn.below t).at hkl;rw[ea];have d5:=cz.out d (Dm b7.out);obtain⟨pn,c4⟩:∃ pn:Nat,d.p=(pn:Int):=⟨d.p.toNat,by omega⟩;rw[c4] at y;have b6:=Dj (show pn<256 by omega)
    have b9:=Dj (show kP ns k=pn∧lOf ns k=d.l by
     unfold kP lOf;rw[Dk,b7.out];show d.p.toNat=pn∧d.l=d.l;exact⟨by omega,rfl⟩)
    have hq:=Dj (show L[k]?=some (gf ms.length pn,d.l) by rw[cd.out k hkl,b9.out.1,b9.out.2]);have f:=Dj (show (a.add (k*2)).block<wr.heap.size by rw[ac];exact b4);obtain⟨wA,wB,eA,p0,p1,r0,r1,eB,hV,bV,lV⟩:=zu wr none 0 0 d.l;obtain⟨wo,bz⟩:∃ wo:World,wo=wr:=⟨_,rfl⟩;subst bz;go_wp2
    go_loopw [8] (fun i w'=>∃ j:Nat,j≤ms.length∧i=.int .i64 (j:Int)∧∃ A c,InAt wo wo.heap.size d.l ((gf ms.length pn).take j) A c w') (fun i _=>ms.length-(intOf i).toNat)
    case atStart=>exact⟨0,by omega,rfl,none,0,⟨hV,OwnZ.nil _ _,bV⟩⟩
    case round =>
     clear p0 p1 r0 r1 eA eB hV bV lV;obtain⟨j,hj,rfl,A,c,hI⟩:=hrel;obtain⟨zs,U⟩:∃ zs,Hid ((gf ms.length pn).take j=zs):=⟨_,rfl⟩;rw[U.out] at hI;have c7:=Dj (show zs.length=j by rw[←U.out,DB,iN];omega);have bg:=Dj (show j≤8 by omega)
     by_cases hjl:j<ms.length
     · have dm:(j:Int)<(ms.length:Int):=by omega
       have cq:=Dj (show (gf ms.length pn)[j]?=some (nK pn j) by unfold gf;rw[Dq,DS hjl];rfl);go_upto_region 9 with fail;have bT:=hI.bel;have R:Below wr.heap.size wr wr.drew:=(DY _ _).drew;replace hI:=hI.below R;clear R;go_wp2_with fail;refine DZ ?_;refine aw (J:=[12]) (S:=fun w'=>w'.cell? ⟨wo.heap.size,0,none⟩=some (.slice A zs.length c)∧w'.cell? (a.add (k*2))=some (.int .i64 ((pn:Nat):Int))) (by kernel_rfl) (⟨hI.c0,(hI.bel.cell f.out).trans y⟩) (fun b=>?_);refine mN 0 1 2 3 4 5 6 7 b ?_;refine dg 8 rfl fun K hK=>?_;go_simp;have bb:=tq (p:=pn) (n:=j) (w:=wr.drew) b6.out bg.out;go_at_call 77;refine (bb).mono ?_;rintro e u1 ⟨rfl,b3⟩;clear bb;replace hI:=hI.below b3;go_wp2_with fail;refine hK.out _ _ (⟨hI.c0,(hI.bel.cell f.out).trans y⟩) (fun b=>?_);clear hK K;(try simp only[aq]);refine dg 9 rfl fun K hK=>?_;obtain⟨u2,cv,Y,cg,V⟩:=ag u1 #[.int .i64 (nK pn j)] 2;replace hI:=hI.below Y;go_simp;refine hK.out _ _ (⟨hI.c0,(hI.bel.cell f.out).trans y⟩) (fun b=>?_)
       clear hK K;(try simp only[aq]);refine dg 10 rfl fun K hK=>?_;obtain⟨A8,c8,w8,w9,bn,k1,kf,e9,bv,b8⟩:=hI.app (Dt _) (ad:=⟨u1.heap.size,0,none⟩) (c':=1) (D9 V 0) (by have:=c7.out;have:=bg.out;omega);refine aG rfl _ _ rfl rfl rfl rfl bn ?_;refine hK.out _ _ (⟨k1,(b8.cell f.out).trans y⟩) (fun b=>?_);clear hK K;(try simp only[aq]);refine kr 11 rfl b ?_;refine aj (rs:=[12]) (by kernel_rfl) (by simp) ?_;refine Ee rfl (by decide) (fun K hK=>?_) Ed;go_simp;refine hK.out _ _ ?_;clear hK K;(try clear b);(try simp only[aq]);refine au (by kernel_rfl) ?_ _;refine D1 ?_;(try go_simp);(try clear b);have q:=Dj (show zs++[nK pn j]=(gf ms.length pn).take (j+1) by rw[List.take_add_one,cq.out,U.out];rfl);rw[q.out] at bv;clear hI bn k1 kf b8 bT;go_wp2;go_roundw
       case rel=>exact⟨j+1,by omega,by go_num,A8,c8,bv⟩
       case measure=>simp[intOf];omega
     · obtain rfl:j=ms.length:=by omega
       have bs:decide ((ms.length:Int)<(ms.length:Int))=false:=Du (by omega);have cm:=Dj (show zs=gf ms.length pn by rw[←U.out,Dp (by rw[iN];exact Dt _)]);have x0:=hI.c0;have x1:=hI.c1;have d0:=Dj (show L[k]?=some (LmD.p ⟨A,c,zs,d.l⟩) by rw[hq.out];unfold LmD.p;rw[cm.out]);have s:=g.below hI.bel;obtain⟨v6,w6,o,x⟩:=s.app (l:=⟨A,c,zs,d.l⟩) (by omega) d0.out hI.zt;dsimp only at o
       go_wp2_with (at_builtin;refine bQ (T:=99) rfl rfl (.tmp 43) (.tmp 45) rfl rfl rfl o ?_)
       go_wp2;go_roundw
       case rel=>exact⟨k+1,by omega,by go_num,x⟩
       case measure=>simp[intOf];omega
  · obtain rfl:k=ns.length:=by omega
    have bs:decide ((ns.length:Int)<(ns.length:Int))=false:=Du (by omega);go_wp2
    go_loopw [5,9] (fun v i wr=>∃ k:Nat,k≤ms.length∧i=.int .i64 (k:Int)∧LmAt L w (ns.length+k) v wr) (fun _ i _=>ms.length-(intOf i).toNat)
    case atStart=>exact⟨0,by omega,rfl,g⟩
    case round =>
     clear g t;obtain⟨k,hk,rfl,g⟩:=hrel;have t:=g.bel
     by_cases hkl:k<ms.length
     · have bc:(k:Int)<(ms.length:Int):=by omega
       obtain⟨w2,bf,bx,b2,l2⟩:=kd wr ms.length (by omega);obtain⟨wA,wB,eA,p0,p1,r0,r1,eB,hV,bV,lV⟩:=zu w2 (some ⟨wr.heap.size,0,none⟩) ms.length ms.length 0;have O:=bx.below bV;obtain⟨w3,e3,bm,o3⟩:=O.set k 1;have f3:=O.free k;have y3:wB.cell? ⟨wr.heap.size,k,none⟩=some (.int .i64 0):=O.cell (by rw[DL,if_pos hkl]);have x0:=D9 hV 0;have b5:=hV.only o3 (Ek hV O (by decide));have x3:=D9 b5 0;have x4:=D9 b5 1;have b1:=Di b2 bV;have c2:=o3.to_below b1 (Dt _) b1.size;have hq:=Dj (show L[ns.length+k]?=some (LmD.p ⟨some ⟨wr.heap.size,0,none⟩,ms.length,dE ms.length k 1,0⟩) from cs.out k hkl);have I:ZT w3 (some ⟨wr.heap.size,0,none⟩) ms.length (dE ms.length k 1):=by have h:=bm.zt (by simp;omega);simpa [dE] using h
       clear bx O bm o3 hV b5 b2 bV b1;have s:=g.below c2;obtain⟨v6,w6,o,x⟩:=s.app (l:=⟨some ⟨wr.heap.size,0,none⟩,ms.length,dE ms.length k 1,0⟩) (by omega) hq.out I;dsimp only at o;rw[du] at o
       go_wp2_with (at_builtin;refine bQ (T:=99) rfl rfl (.tmp 61) (.tmp 63) rfl rfl rfl o ?_)
       go_wp2;go_roundw
       case rel=>exact⟨k+1,by omega,by go_num,x⟩
       case measure=>simp[intOf];omega
     · obtain rfl:k=ms.length:=by omega
       have d4:decide ((ms.length:Int)<(ms.length:Int))=false:=Du (by omega);go_wp2
       go_loopw [5,11] (fun v i wr=>∃ k:Nat,k≤ms.length∧i=.int .i64 (k:Int)∧LmAt L w (ns.length+ms.length+k) v wr) (fun _ i _=>ms.length-(intOf i).toNat)
       case atStart=>exact⟨0,by omega,rfl,g⟩
       case round =>
        clear g t;obtain⟨k,hk,rfl,g⟩:=hrel;have t:=g.bel
        by_cases hkl:k<ms.length
        · have bc:(k:Int)<(ms.length:Int):=by omega
          obtain⟨a,z,ea,b4,y,bq⟩:=(hm.below t).at hkl;rw[ea];have f:=Dj (show (a.add k).block<wr.heap.size by rw[ac];exact b4);have d8:=bo.out z (Dm bq.out);have dq:IntKind.i64.wrap (-z)=-z:=by simp[IntKind.wrap,IntKind.bits,IntKind.signed];omega
          have c3:=Dj (show ms.getD k 0=z by rw[Dk,bq.out];rfl);have d3:=g;have hq:=Dj (show L[ns.length+ms.length+k]?=some (dE ms.length k (-1),-z) by rw[cy.out k hkl,c3.out]);go_upto_region 20 with fail;have bT:=DY wr.heap.size wr;have R:Below wr.heap.size wr wr.drew:=(DY _ _).drew;replace bT:=Di bT R;clear R;go_wp2_with fail;refine DZ ?_;refine aw (J:=[10]) (S:=fun w'=>w'.cell? (a.add k)=some (.int .i64 z)) (by kernel_rfl) ((bT.cell f.out).trans y) (fun b=>?_);refine py 0 1 3 4 b ?_;refine kB 5 6 b ?_;refine kr 7 rfl b ?_;refine aj (rs:=[2,9]) (by kernel_rfl) (by simp) ?_;refine Ef rfl (fun K hK=>?_) ?_
          · obtain⟨u1,bf,r,b3,dh⟩:=kd wr.drew ms.length (by omega);have b0:wr.heap.size≤wr.heap.size:=bT.size;replace r:ZA u1 wr.heap.size (List.replicate ms.length 0):=r;replace bT:=Di bT b3;go_simp;refine hK.out _ _ ((bT.cell f.out).trans y) (fun b=>?_);clear hK K;(try simp only[aq]);refine kr 8 rfl b ?_;refine dg 9 rfl fun K hK=>?_;have N:=bT.size;obtain⟨u2,cv,Y,cg,V⟩:=ag u1 #[.slice none 0 0,.int .i64 0] 103;replace r:=r.below Y;replace bT:=Di bT Y;have hX:=V;clear V;go_simp;refine hK.out _ _ ((bT.cell f.out).trans y) (fun b=>?_);clear hK K;(try simp only[aq]);refine aj (rs:=[10]) (by kernel_rfl) (by simp) ?_;refine Ee rfl (by decide) (fun K hK=>?_) Ed;obtain⟨w9,q0,q1,f0,f1,e9,D,o9⟩:=sN hX (some ⟨wr.heap.size,0,none⟩) ms.length ms.length (-z);go_simp;refine hK.out _ _ ?_;clear hK K;(try clear b);(try simp only[aq]);refine au (by kernel_rfl) ?_ _;refine D1 ?_;(try go_simp);(try clear b);have q:ZA w9 wr.heap.size (List.replicate ms.length 0):=Blk.only r o9 (Ek r hX (by decide));have G:=o9.to_below bT N bT.size;obtain⟨Z,cr,F,H⟩:=q.set k (-1);have x9:=D9 D 0;have f9:=q.free k;have y9:w9.cell? ⟨wr.heap.size,k,none⟩=some (.int .i64 0):=q.cell (by rw[DL,if_pos hkl])
            have E:=D.only H (Ek D q (by decide));have ch:=D9 E 0;have cl:=D9 E 1;have M:=H.to_below G b0 G.size;have I:ZT Z (some ⟨wr.heap.size,0,none⟩) ms.length (dE ms.length k (-1)):=by have h:=F.zt (by simp;omega);simpa [dE] using h
            clear r q F hX D G bT o9 H;have s:=g.below M;obtain⟨v6,w6,o,x⟩:=s.app (l:=⟨some ⟨wr.heap.size,0,none⟩,ms.length,dE ms.length k (-1),-z⟩) (by omega) hq.out I;dsimp only at o;rw[du] at o
            go_wp2_with (at_builtin;refine bQ (T:=99) rfl rfl (.tmp 84) (.tmp 86) rfl rfl rfl o ?_)
            go_wp2;go_roundw
            case rel=>exact⟨k+1,by omega,by go_num,by rw[show ns.length+ms.length+(k+1)=ns.length+ms.length+k+1 by omega];exact x⟩
            case measure=>simp[intOf];omega
          refine Ef rfl (fun K hK=>?_) ?_
          · have N:=bT.size;obtain⟨u3,d6,c5,dp,X⟩:=ag wr.drew #[.slice none 0 0,.int .i64 0] 103;replace X:Blk u3 wr.heap.size 103 #[.slice none 0 0,.int .i64 0]:=X;replace bT:=Di bT c5;have hX:=X;clear X;go_simp;refine hK.out _ _ ((bT.cell f.out).trans y) (fun b=>?_);clear hK K;(try simp only[aq]);refine dg 2 rfl fun K hK=>?_;obtain⟨u4,bf,r,bd,d7⟩:=kd u3 ms.length (by omega);have b0:wr.heap.size≤u3.heap.size:=bT.size;replace hX:=hX.keep bd;replace bT:=Di bT bd;go_simp;refine hK.out _ _ ((bT.cell f.out).trans y) (fun b=>?_);clear hK K;(try simp only[aq]);refine kr 8 rfl b ?_;refine aj (rs:=[10]) (by kernel_rfl) (by simp) ?_;refine Ee rfl (by decide) (fun K hK=>?_) Ed;obtain⟨w9,q0,q1,f0,f1,e9,D,o9⟩:=sN hX (some ⟨u3.heap.size,0,none⟩) ms.length ms.length (-z);go_simp;refine hK.out _ _ ?_;clear hK K;(try clear b);(try simp only[aq]);refine au (by kernel_rfl) ?_ _;refine D1 ?_;(try go_simp);(try clear b);have q:ZA w9 u3.heap.size (List.replicate ms.length 0):=Blk.only r o9 (Ek r hX (by decide));have G:=o9.to_below bT N bT.size;obtain⟨Z,cr,F,H⟩:=q.set k (-1);have x9:=D9 D 0;have f9:=q.free k;have y9:w9.cell? ⟨u3.heap.size,k,none⟩=some (.int .i64 0):=q.cell (by rw[DL,if_pos hkl])
            have E:=D.only H (Ek D q (by decide));have ch:=D9 E 0;have cl:=D9 E 1;have M:=H.to_below G b0 G.size;have I:ZT Z (some ⟨u3.heap.size,0,none⟩) ms.length (dE ms.length k (-1)):=by have h:=F.zt (by simp;omega);simpa [dE] using h
            clear r q F hX D G bT o9 H;have s:=g.below M;obtain⟨v6,w6,o,x⟩:=s.app (l:=⟨some ⟨u3.heap.size,0,none⟩,ms.length,dE ms.length k (-1),-z⟩) (by omega) hq.out I;dsimp only at o;rw[du] at o
            go_wp2_with (at_builtin;refine bQ (T:=99) rfl rfl (.tmp 84) (.tmp 86) rfl rfl rfl o ?_)
            go_wp2;go_roundw
            case rel=>exact⟨k+1,by omega,by go_num,by rw[show ns.length+ms.length+(k+1)=ns.length+ms.length+k+1 by omega];exact x⟩
            case measure=>simp[intOf];omega
          exact Ed
        · obtain rfl:k=ms.length:=by omega
          have d2:decide ((ms.length:Int)<(ms.length:Int))=false:=Du (by omega);obtain⟨A,c,ls,rfl,d1,c9⟩:=g.done (by rw[cx.out];omega);go_wp2;go_ret;exact⟨A,c,ls,rfl,d1,c9,t⟩
theorem qw {A B C:Option Addr}{ca cb cc tl:Nat}{ns:List NdD}{ms:List Int}{w:World}(ht:tl≤ca∧ca≤9223372036854775807) (hn:NL w B cb ns) (hm:ZL w C cc ms) :
 Calls Tryz.prog 17 #[.slice A tl ca,.slice B ns.length cb,.slice C ms.length cc] w (pF (argsE tl ns ms) w):=by
 obtain⟨r,hr⟩:∃ r,Hid (argsE tl ns ms=r):=⟨_,rfl⟩;rw[hr.out];have ln:=hn.len;have lm:=hm.len;have bT:=DY w.heap.size w
 by_cases h1:8<ms.length
 · have t1:decide ((8:Int)<(ms.length:Int))=true:=Dv (by omega);have hf:=Dj (show r=3 by rw[←hr.out];unfold argsE;rw[if_pos (.inl h1)]);go_enter Tryz.func17,Tryz.ntmps17;go_wp2;go_ret;exact⟨by rw[hf.out];rfl,bT⟩
 have t1:decide ((8:Int)<(ms.length:Int))=false:=Du (by omega)
 by_cases h2:300<ns.length
 · have t2:decide ((300:Int)<(ns.length:Int))=true:=Dv (by omega);have hf:=Dj (show r=3 by rw[←hr.out];unfold argsE;rw[if_pos (.inr h2)]);go_enter Tryz.func17,Tryz.ntmps17;go_wp2;go_ret;exact⟨by rw[hf.out];rfl,bT⟩
 have t2:decide ((300:Int)<(ns.length:Int))=false:=Du (by omega)
 by_cases h3:¬ tl=ms.length
 · have t3:((tl:Int) != (ms.length:Int))=true:=by rw[bne_iff_ne];omega
   have hf:=Dj (show r=2 by rw[←hr.out];unfold argsE;rw[if_neg (by omega),if_pos h3]);go_enter Tryz.func17,Tryz.ntmps17;go_wp2;go_ret;exact⟨by rw[hf.out];rfl,bT⟩
 have o:=Dj (Decidable.not_not.1 h3);have t3:((tl:Int) != (ms.length:Int))=false:=by rw[bne_eq_false_iff_eq];have:=o.out;omega
 clear h3;have h:ms.length≤8:=by omega
 have f:=Dj (show r=if ms.any ko=true∨ns.any (jB ms.length)=true then 4 else 0 by rw[←hr.out];unfold argsE;rw[if_neg (by omega),if_neg (by have:=o.out;omega)]);go_enter Tryz.func17,Tryz.ntmps17;go_wp2
 go_loopw [7] (fun i wr=>nV ko ms w i wr) (fun i _=>ms.length-(intOf i).toNat)
 case atStart=>exact⟨0,by omega,rfl,rfl,bT⟩
 case round =>
  obtain⟨k,hk,rfl,b,hb⟩:=hrel
  by_cases hkl:k<ms.length
  · have t:(k:Int)<(ms.length:Int):=by omega
    obtain⟨a,z,rfl,q,s,n⟩:=(hm.below hb).at hkl
    by_cases c1:z<0
    · have d1:decide (z<0)=true:=Dv c1;have hf:=Dj (show r=4 by rw[f.out,if_pos (.inl (dO n.out (by unfold ko;rw[d1];rfl)))]);clear c1;go_wp2;go_ret;exact⟨by rw[hf.out];rfl,hb⟩
    have d1:decide (z<0)=false:=Du c1
    by_cases c2:1000000<z
    · have d2:decide (1000000<z)=true:=Dv c2;have hf:=Dj (show r=4 by rw[f.out,if_pos (.inl (dO n.out (by unfold ko;rw[d1,d2];rfl)))]);clear c1 c2;go_wp2;go_ret;exact⟨by rw[hf.out];rfl,hb⟩
    have d2:decide (1000000<z)=false:=Du c2;have c:=Dj (kc b.out n.out (by unfold ko;rw[d1,d2];rfl));clear c1 c2;go_wp2;go_roundw
    case rel=>exact⟨k+1,by omega,by go_num,c,hb⟩
    case measure=>simp[intOf];omega
  · obtain rfl:k=ms.length:=by omega
    have x:decide ((ms.length:Int)<(ms.length:Int))=false:=Du (by omega);have m:=Dj (show ms.any ko=false by have:=b.out;rwa [List.take_length] at this);obtain⟨wo,v⟩:∃ wo:World,wo=wr:=⟨_,rfl⟩;subst v;go_wp2
    go_loopw [8] (fun i wr=>nV (jB ms.length) ns w i wr) (fun i _=>ns.length-(intOf i).toNat)
    case atStart=>exact⟨0,by omega,rfl,rfl,hb⟩
    case round =>
     obtain⟨k,hk,rfl,b,hb⟩:=hrel
     by_cases hkl:k<ns.length
     · have t:(k:Int)<(ns.length:Int):=by omega
       obtain⟨a,d,ea,q,s,D,j⟩:=(hn.below hb).at hkl;rw[ea];have g:=hb;obtain⟨P,hP⟩:∃ P:Int,P=(2:Int) ^ ms.length:=⟨_,rfl⟩
       by_cases c1:d.p<0
       · have d1:decide (d.p<0)=true:=Dv c1;have hf:=Dj (show r=4 by rw[f.out,if_pos (.inr (dO j.out (by unfold jB;rw[d1];rfl)))]);clear c1;go_wp2_with fail
         go_quiet ((go_at_call 35;refine Calls.quiet_of_same (jH h _)))
         go_wp2;go_ret;exact⟨by rw[hf.out];rfl,Below.drewN g _⟩
       have d1:decide (d.p<0)=false:=Du c1
       by_cases c2:(2:Int) ^ ms.length≤d.p
       · have d2:decide ((2:Int) ^ ms.length≤d.p)=true:=Dv c2;have hf:=Dj (show r=4 by rw[f.out,if_pos (.inr (dO j.out (by unfold jB;rw[d1,Dv c2];rfl)))]);clear c1 c2;go_wp2_with fail
         go_quiet ((go_at_call 35;refine Calls.quiet_of_same (jH h _)))
         go_wp2;go_ret;exact⟨by rw[hf.out];rfl,Below.drewN g _⟩
       have d2:decide ((2:Int) ^ ms.length≤d.p)=false:=Du c2
       by_cases c3:d.l < -1099511627776
       · have d3:decide (d.l < -1099511627776)=true:=Dv c3;have hf:=Dj (show r=4 by rw[f.out,if_pos (.inr (dO j.out (by unfold jB;rw[d1,Du c2,d3];rfl)))]);clear c1 c2 c3;go_wp2_with fail
         go_quiet ((go_at_call 35;refine Calls.quiet_of_same (jH h _)))
         go_wp2;go_ret;exact⟨by rw[hf.out];rfl,Below.drewN g _⟩
       have d3:decide (d.l < -1099511627776)=false:=Du c3
       by_cases c4:1099511627776<d.l
       · have d4:decide (1099511627776<d.l)=true:=Dv c4;have hf:=Dj (show r=4 by rw[f.out,if_pos (.inr (dO j.out (by unfold jB;rw[d1,Du c2,d3,d4];rfl)))]);clear c1 c2 c3 c4;go_wp2_with fail
         go_quiet ((go_at_call 35;refine Calls.quiet_of_same (jH h _)))
         go_wp2;go_ret;exact⟨by rw[hf.out];rfl,Below.drewN g _⟩
       have d4:decide (1099511627776<d.l)=false:=Du c4;have c:=Dj (kc b.out j.out (by unfold jB;rw[d1,Du c2,d3,d4];rfl));clear c1 c2 c3 c4;go_wp2_with fail
       go_quiet ((go_at_call 35;refine Calls.quiet_of_same (jH h _)))
       go_wp2;go_roundw
       case rel=>exact⟨k+1,by omega,by go_num,c,Below.drewN g _⟩
       case measure=>simp[intOf];omega
     · obtain rfl:k=ns.length:=by omega
       have y:decide ((ns.length:Int)<(ns.length:Int))=false:=Du (by omega);have hf:=Dj (show r=0 by rw[f.out,if_neg];rw[m.out];have:=b.out;rw[List.take_length] at this;rw[this];simp);go_wp2;go_ret;exact⟨by rw[hf.out];rfl,hb⟩
theorem dF {v u:Value}{p q:Rat}{j k:Nat}{w:World}(hv:FV w v p) (hu:FV w u q) (hj:Fits j p) (hk:Fits k q) (hJ:j+k<400000000) :
 Calls Tryz.prog 59 #[v,u] w (ie (p-q) w):=by
 have r:=hv;have m:=hu;obtain⟨n1,A,ca,la,B,cb,lb,rfl,na,nb,iq⟩:=hv;obtain⟨n2,C,cc,lc,D,cd,ld,rfl,nc,nd,ir⟩:=hu;clear na nb iq nc nd ir;rw[Rat.sub_eq_add_neg];obtain⟨w0,U,N,n,O⟩:=ag w #[.bool n1,.slice A la.length ca,.slice B lb.length cb] 28;obtain⟨w1,V,z,y,G⟩:=ag w0 #[.bool n2,.slice C lc.length cc,.slice D ld.length cd] 28;obtain⟨w2,X,g,T,h⟩:=ag w1 #[.bool false,.slice none 0 0,.slice none 0 0] 28;have f:=(O.keep z).keep g;have c:=G.keep g;have s:=N.trans (z.mono (Nat.le_of_lt n));have d:=Di s g;have E:=r.below d;have H:=m.below d;have x0:=f.f0;have x1:=f.f1;have x2:=f.f2;have y0:=c.f0;have y1:=c.f1;have y2:=c.f2;have R:Blk3 w2 w1.heap.size 28:=h.b3;have x:Only w2 w2 w1.heap.size:=Eh _ _;have L:w.heap.size<w1.heap.size:=by omega
 have hS:∀ w',Only w2 w' w1.heap.size→w'.cell? ⟨w.heap.size,0,none⟩=some (.bool n1)∧w'.cell? ⟨w.heap.size,1,none⟩=some (.slice A la.length ca)∧w'.cell? ⟨w.heap.size,2,none⟩=some (.slice B lb.length cb)∧w'.cell? ⟨w0.heap.size,0,none⟩=some (.bool n2)∧w'.cell? ⟨w0.heap.size,1,none⟩=some (.slice C lc.length cc)∧w'.cell? ⟨w0.heap.size,2,none⟩=some (.slice D ld.length cd):=fun w' o =>
  have p:=f.only o (Nat.ne_of_lt L);have q:=c.only o (Nat.ne_of_lt y);⟨p.f0,p.f1,p.f2,q.f0,q.f1,q.f2⟩
 obtain⟨d0,d1,d2,d3,d4,d5⟩:=hS _ x.drew;have d6:=x.drew;have d7:=R.drew;clear r m;go_enter Tryz.func59,Tryz.ntmps59;go_wp2_with fail
 go_region_held3 (fun w'=>w'.cell? ⟨w.heap.size,0,none⟩=some (.bool n1)∧w'.cell? ⟨w.heap.size,1,none⟩=some (.slice A la.length ca)∧w'.cell? ⟨w.heap.size,2,none⟩=some (.slice B lb.length cb)∧w'.cell? ⟨w0.heap.size,0,none⟩=some (.bool n2)∧w'.cell? ⟨w0.heap.size,1,none⟩=some (.slice C lc.length cc)∧w'.cell? ⟨w0.heap.size,2,none⟩=some (.slice D ld.length cd)∧Only w2 w' w1.heap.size∧Blk3 w' w1.heap.size 28) (((try go_split_ands);(try dsimp only);(repeat' with_reducible apply And.intro) <;> with_reducible assumption)) (first
  | (go_at_call 78;go_split_ands;(with_reducible refine (tW (H.only_blk h (ar _ _ _ _ _ _ _) (by assumption))).mono ?_);rintro e w3 ⟨v3,rfl,I,b3⟩;have q4:=Blk3.keep (by assumption) b3;have b4:=(show Only w2 _ w1.heap.size by assumption).trans (Ei b3 _);obtain⟨f0,f1,f2,f3,f4,f5⟩:=hS _ b4)
  | (go_at_call 62;go_split_ands;(with_reducible refine (eX (E.only_blk h (ar _ _ _ _ _ _ _) (by assumption)) I hj hk.neg hJ).mono ?_);rintro e w7 ⟨v,rfl,⟨m0,A1,c1,l1,B1,d1,m1,rfl,ma,mb,hQ⟩,b7⟩;have b8:=(show Only w2 _ w1.heap.size by assumption).trans (Ei b7 _);obtain⟨k0,k1,k2,k3,k4,k5⟩:=hS _ b8;have q8:=Blk3.keep (t:=28) (by assumption) b7;have q9:=q8.set m0 A1 l1.length c1 B1 m1.length d1;obtain⟨qa,qb,qc,qd,qe,qf,qg,b⟩:=id q8;have b9:=((b8.set 0 (.bool m0)).set 1 (.slice A1 l1.length c1)).set 2 (.slice B1 m1.length d1);obtain⟨j0,j1,j2,j3,j4,j5⟩:=hS _ b9;have u0:=b.f0;have u1:=b.f1;have u2:=b.f2;have t0:=b.free 0;have t1:=b.free 1;have t2:=b.free 2))
 clear j0 j1 j2 j3 j4 j5 q9;go_wp2;obtain⟨w9,F,l,o9⟩:=b.set3 (.bool m0) (.slice A1 l1.length c1) (.slice B1 m1.length d1);rw[F];have e0:=l.f0;have e1:=l.f1;have e2:=l.f2;refine D4 (v:=aZ m0 A1 l1.length c1 B1 m1.length d1) (by simp[results,Tryz.results59,go_sem,e0,e1,e2]) rfl ?_;have J:=ma.only_blk b (ar _ _ _ _ _ _ _) o9;have M:=mb.only_blk b (ar _ _ _ _ _ _ _) o9;have bT:=(b8.trans o9).to_below d s.size d.size;exact⟨_,rfl,⟨m0,A1,c1,l1,B1,d1,m1,rfl,J,M,hQ⟩,bT⟩
theorem fV {v:Value}{q:Rat}{w:World}(hv:FV w v q) :
 Calls Tryz.prog 68 #[v] w (pF (bH q 0) w):=by
 obtain⟨b,A,ca,la,B,cb,lb,rfl,na,nb,iq⟩:=hv;have k:=na.big;have hc:=zc iq;have g:=Dj (QIs.sign iq);clear iq;obtain⟨w0,f,c,j,d⟩:=ag w #[.bool b,.slice A la.length ca,.slice B lb.length cb] 28;have x0:=d.f0;have x1:=d.f1;have x2:=d.f2;rw[hc]
 rcases la with _ | ⟨a,la⟩
 · rw[if_pos rfl];obtain rfl:b=false:=by cases b with | false=>rfl | true=>exact absurd ⟨rfl,rfl⟩ g.out
   go_enter Tryz.func68,Tryz.ntmps68;go_wp2;go_ret;exact⟨rfl,by first | exact c | (subst f;exact c)⟩
 · have h:((((a::la).length:Nat):Int) == 0)=false:=by rw[beq_eq_false_iff_ne,List.length_cons];omega
   rw[if_neg (by simp)]
   generalize (a::la).length=n at *
   rcases b with _ | _
   · go_enter Tryz.func68,Tryz.ntmps68;go_wp2;go_ret;exact⟨rfl,c⟩
   · go_enter Tryz.func68,Tryz.ntmps68;go_wp2;go_ret;exact⟨rfl,c⟩
theorem io {v u:Value}{p q:Rat}{j k:Nat}{w:World}(hv:FV w v p) (hu:FV w u q) (hj:Fits j p) (hk:Fits k q) (hJ:j+k<400000000) :
 Calls Tryz.prog 67 #[v,u] w (pF (bH p q) w):=by
 have r:=hv;have l:=hu;obtain⟨n1,A,ca,la,B,cb,lb,rfl,na,nb,iq⟩:=hv;obtain⟨n2,C,cc,lc,D,cd,ld,rfl,nc,nd,ir⟩:=hu;clear na nb iq nc nd ir;rw[←zX];obtain⟨c,hc⟩:∃ c,Hid (bH (p-q) 0=c):=⟨_,rfl⟩;rw[hc.out];obtain⟨w0,x,o,h,s⟩:=ag w #[.bool n1,.slice A la.length ca,.slice B lb.length cb] 28;obtain⟨w1,y,g,t,f⟩:=ag w0 #[.bool n2,.slice C lc.length cc,.slice D ld.length cd] 28;have b:=s.keep g;have d:=o.trans (g.mono (Nat.le_of_lt h));have x0:=b.f0;have x1:=b.f1;have x2:=b.f2;have y0:=f.f0;have y1:=f.f1;have y2:=f.f2;go_enter Tryz.func67,Tryz.ntmps67;go_wp2_with fail;refine (dF (r.below d) (l.below d) hj hk hJ).mono ?_;rintro e w2 ⟨v2,rfl,m,b2⟩;have n:=Di d b2;go_wp2_with fail;refine (fV m).mono ?_;rintro e w3 ⟨rfl,b3⟩;rw[hc.out];go_wp2;go_ret;exact⟨rfl,(Di n b3)⟩
end Go.Proofs.YtjhkapjadfpimaaGreat
