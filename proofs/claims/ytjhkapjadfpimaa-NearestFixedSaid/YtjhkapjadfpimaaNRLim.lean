/- Contracts of functions, for the law. -/
import Derived.Test.YtjhkapjadfpimaaMAppQ
import Derived.Test.YtjhkapjadfpimaaNRPl
import Derived.Test.YtjhkapjadfpimaaNBest
import Derived.Test.YtjhkapjadfpimaaFMul
import Derived.Test.YtjhkapjadfpimaaPLp
import Derived.Test.YtjhkapjadfpimaaNDir
import Derived.Deep.DeepCutAuto
import Derived.Deep.RegionHeld3
import Derived.Test.YtjhkapjadfpimaaNPaid
import Derived.Test.YtjhkapjadfpimaaMSmall
namespace Go.Proofs.Ytjhkapjadfpimaa
set_option linter.unusedVariables false
set_option linter.unusedSimpArgs false
open Go.RowKit Plain
attribute [local go_sem ↓] Go.wp_at_zero Go.wp_at_succ
theorem sumR_take3 {ps:List Rat}{k:Nat}{q:Rat}(h:ps[k]?=some q):sumR (ps.take (k+1))=sumR (ps.take k)+q:=by
 rw[List.take_add_one,h];exact sumR_snoc _ _
theorem fit_i {z:Int}(h:z.natAbs≤1):Fits 2 (z:Rat):=fits_int2 (by omega)
theorem dotI_fits {K:Nat}{zs:List Int}{qs:List Rat}(hz:∀ z∈zs,z.natAbs≤1) (hf:QFits K qs):QFits (2+K) (dotI zs qs):=fun q hq=>by
 unfold dotI at hq;obtain⟨i,hi,rfl⟩:=List.mem_iff_getElem.1 hq;rw[List.getElem_zipWith];exact (fit_i (hz _ (List.getElem_mem _))).mul (hf _ (List.getElem_mem _))
set_option maxRecDepth 100000 in
set_option maxHeartbeats 40000000 in
theorem dot_any {K:Nat}{C A:Option Addr}{cc ca:Nat}{zs:List Int}{ds:List FrD}{w:World}(hz:ZL w C cc zs) (h:FL w A ca ds) (hf:QFits K (ds.map FrD.q)) (hzb:∀ z∈zs,z.natAbs≤1) (hK:K≤10000000) (hl:zs.length=ds.length) (hl12:ds.length≤12) :
 Calls Try.prog 37 #[.slice C zs.length cc,.slice A ds.length ca] w (RetQ (sumR (dotI zs (ds.map FrD.q))) w):=by
 have hlen:=h.len;have hlenz:=hz.len;obtain⟨ps,hps⟩:∃ ps,Hid (dotI zs (ds.map FrD.q)=ps):=⟨_,rfl⟩;obtain⟨m,hm⟩:∃ m,Hid (ds.length=m):=⟨_,rfl⟩;have hpl:=Lib.hid (show ps.length=m by rw[←hps.out,dotI_len (by rw[List.length_map];exact hl),List.length_map,hm.out]);have hm12:m≤12:=by rw[←hm.out];exact hl12
 have hpf:=Lib.hid (show QFits (2+K) ps by rw[←hps.out];exact dotI_fits hzb hf);rw[hps.out,hl,hm.out];obtain⟨w1,hw1,b1,l1,B1⟩:=boxed w #[.bool false,.slice none 0 0,.slice none 0 0] 28;have hf':=Lib.hid hf;have hzb':=Lib.hid hzb;have hl':=Lib.hid hl;clear hf hzb hl;go_enter Try.func37,Try.ntmps37;go_wp2_with fail;refine (refFromInt_any 0 _ (by decide) (by decide)).mono ?_;rintro e w2 ⟨v1,rfl,hv1,b2⟩;obtain⟨z0,rfl,hz0,hzq⟩:=hv1.frd;clear hv1;obtain⟨wA,w3,eA,p0,p1,p2,r0,r1,r2,eB,hS3,b3,l3⟩:=new_var w2 z0;have b13:=b2.trans (b3.mono b2.size);have B3:=(Blk.keep B1 b2).keep b3;have hat:SumAt ps w2.heap.size w1 0 w3:=⟨z0,hS3,hz0.below b3,by rw[hzq.out];simp[sumR_nil],b13⟩;have hg21:=Lib.hid (show w1.heap.size≤w2.heap.size from b2.size);have hg2':=Lib.hid (show w.heap.size≠w2.heap.size by have:=b2.size;omega);go_wp2;clear p0 p1 p2 r0 r1 r2 eA eB
 go_loopw [6] (fun i wr=>∃ k:Nat,k≤m∧i=.int .i64 (k:Int)∧SumAt ps w2.heap.size w1 k wr∧Blk wr w.heap.size 28 #[.bool false,.slice none 0 0,.slice none 0 0]) (fun i _=>m-(intOf i).toNat)
 case atStart=>exact⟨0,by omega,rfl,hat,B3⟩
 case round =>
  clear hat B3 hS3;obtain⟨k,hk,rfl,hat,hB⟩:=hrel;have hbel:=hat.bel;obtain⟨s,hS,hs,hsq,-⟩:=hat;have hsq':=Lib.hid hsq;clear hsq
  by_cases hkl:k<m
  · have hki:(k:Int)<(m:Int):=by omega
    have hsF:=Lib.hid (show Fits (1+12*(2+K+1)) s.q by rw[hsq'.out];exact sum_fits (n:=12) hpf.out (by rw[hpl.out];exact hm12) k);have hb0:=(show Below w.heap.size w w1 from b1).trans (hbel.mono b1.size);obtain⟨ad,d,eA',hab,hd0,hd1,hd2,hdv0,hdk⟩:=(h.below hb0).at (by rw[hm.out];exact hkl);obtain⟨az,z,eZ',habz0,hcz,hzk⟩:=(hz.below hb0).at (by rw[hl'.out,hm.out];exact hkl)
    have hq:=Lib.hid (show ps[k]?=some ((z:Rat)*d.q) by
     rw[←hps.out,dotI_at (by rw[hl'.out,hm.out];exact hkl) (by rw[List.length_map,hm.out];exact hkl),List.getD_eq_getElem?_getD,hzk.out,List.getD_eq_getElem?_getD,List.getElem?_map,hdk.out];rfl)
    have hz1:=hzb'.out z (List.mem_of_getElem? hzk.out);have hzF:=Lib.hid (fit_i hz1);have hzb:=Lib.hid (show -9223372036854775808≤z∧z≤9223372036854775807 by omega);have hdF:=Lib.hid (hf'.out.fr d (List.mem_of_getElem? hdk.out));have habz:=Lib.hid (show (az.add k).block<wr.heap.size by rw[block_add];exact habz0);have habd:=Lib.hid (show (ad.add (k*3)).block<wr.heap.size∧(ad.add (k*3)).block<wr.heap.size by rw[block_add];exact⟨hab,hab⟩);rw[eA',eZ'];have hSv:=hS;have hsv:=hs;have hdv:=hdv0;have hBv:=hB;have hbv:=hbel;clear hS hs hdv0 hB hbel hb0;go_upto_region 5 with fail;have bT:=Below.refl wr.heap.size wr;have dw0:Below wr.heap.size wr wr.drew:=(Below.refl _ _).drew;replace hSv:=hSv.below dw0;replace hsv:=hsv.below dw0;replace hdv:=hdv.below dw0;replace hBv:=hBv.keep dw0;replace bT:=bT.trans (dw0.mono bT.size);clear dw0;go_wp2_with fail;refine wp_region_noPanic ?_;refine wp_region_wait (J:=[12]) (S:=fun w'=>w'.cell? ⟨w2.heap.size,0,none⟩=some (.bool s.neg)∧w'.cell? ⟨w2.heap.size,1,none⟩=some (.slice s.a s.la.length s.ca)∧w'.cell? ⟨w2.heap.size,2,none⟩=some (.slice s.b s.lb.length s.cb)∧w'.cell? (az.add k)=some (.int .i64 z)∧w'.cell? (ad.add (k*3))=some (.bool d.neg)∧w'.cell? ⟨(ad.add (k*3)).block,(ad.add (k*3)).off+1,none⟩=some (.slice d.a d.la.length d.ca)∧w'.cell? ⟨(ad.add (k*3)).block,(ad.add (k*3)).off+2,none⟩=some (.slice d.b d.lb.length d.cb)) (by kernel_rfl) (⟨hSv.cells.1,hSv.cells.2.1,hSv.cells.2.2,(bT.cell habz.out).trans hcz,(bT.cell habd.out.1).trans hd0,(bT.cell (by exact habd.out.2)).trans hd1,(bT.cell (by exact habd.out.2)).trans hd2⟩) (fun hHeld=>?_)
    refine tkW 0 rfl hHeld ?_;refine tkW 1 rfl hHeld ?_;refine tkW 2 rfl hHeld ?_;refine tkW 3 rfl hHeld ?_;refine tkW 4 rfl hHeld ?_;refine tkW 6 rfl hHeld ?_;refine tkW 7 rfl hHeld ?_;refine tkW 8 rfl hHeld ?_;refine tkW 9 rfl hHeld ?_;refine rdW 5 rfl fun K hK=>?_;go_simp;have hcl:=refFromInt_any z (wr.drew) hzb.out.1 hzb.out.2;go_at_call 24;refine (hcl).mono ?_;rintro e u1 ⟨vz,rfl,hvz,bu1⟩;clear hcl;replace hSv:=hSv.below bu1;replace hsv:=hsv.below bu1;replace hdv:=hdv.below bu1;replace hBv:=hBv.keep bu1;replace bT:=bT.trans (bu1.mono bT.size);go_wp2_with fail;refine hK.out _ _ (⟨hSv.cells.1,hSv.cells.2.1,hSv.cells.2.2,(bT.cell habz.out).trans hcz,(bT.cell habd.out.1).trans hd0,(bT.cell (by exact habd.out.2)).trans hd1,(bT.cell (by exact habd.out.2)).trans hd2⟩) (fun hHeld=>?_);clear hK K;(try simp only[lay]);refine rdW 10 rfl fun K hK=>?_;go_simp;have hcl:=refMulF_any hvz hdv hzF.out hdF.out (by omega);go_at_call 44;refine (hcl).mono ?_;rintro e u2 ⟨vm,rfl,hvm,bu2⟩;clear hcl;replace hSv:=hSv.below bu2;replace hsv:=hsv.below bu2;replace hdv:=hdv.below bu2;replace hBv:=hBv.keep bu2;replace hvz:=hvz.below bu2;replace bT:=bT.trans (bu2.mono bT.size);go_wp2_with fail;refine hK.out _ _ (⟨hSv.cells.1,hSv.cells.2.1,hSv.cells.2.2,(bT.cell habz.out).trans hcz,(bT.cell habd.out.1).trans hd0,(bT.cell (by exact habd.out.2)).trans hd1,(bT.cell (by exact habd.out.2)).trans hd2⟩) (fun hHeld=>?_)
    clear hK K;(try simp only[lay]);refine rdW 11 rfl fun K hK=>?_;go_simp;have hcl:=refAddF_any hsv hvm hsF.out (hzF.out.mul hdF.out) (by omega);go_at_call 43;refine (hcl).mono ?_;rintro e u3 ⟨va,rfl,hva,bu3⟩;clear hcl;replace hSv:=hSv.below bu3;replace hsv:=hsv.below bu3;replace hdv:=hdv.below bu3;replace hBv:=hBv.keep bu3;replace hvz:=hvz.below bu3;replace hvm:=hvm.below bu3;replace bT:=bT.trans (bu3.mono bT.size);obtain⟨y,rfl,hy,hyq⟩:=hva.frd;clear hva;obtain⟨w9,q0,q1,q2,f0,f1,f2,e9,hS9,o9⟩:=hSv.store y;go_wp2_with fail;refine hK.out _ _ (⟨hSv.cells.1,hSv.cells.2.1,hSv.cells.2.2,(bT.cell habz.out).trans hcz,(bT.cell habd.out.1).trans hd0,(bT.cell (by exact habd.out.2)).trans hd1,(bT.cell (by exact habd.out.2)).trans hd2⟩) (fun hHeld=>?_);clear hK K;(try simp only[lay]);refine wpAnyW_ready (rs:=[12]) (by kernel_rfl) (by simp) ?_;refine AllReadyW.last rfl (by decide) (fun K hK=>?_) AllReadyW.nil;go_simp;refine hK.out _ _ ?_;clear hK K;(try clear hHeld);(try simp only[lay]);refine wpAnyW_done (by kernel_rfl) ?_ _;refine NoPanic.normal ?_;(try go_simp);(try clear hHeld);have hy9:=hy.onlyV hSv o9;have hB9:=Blk.only hBv o9 hg2'.out;have b9:=o9.to_below (hbv.trans (bT.mono hbv.size)) hg21.out (Nat.le_trans hbv.size bT.size);have hat9:SumAt ps w2.heap.size w1 (k+1) w9:=⟨y,hS9,hy9,by rw[sumR_take3 hq.out,hyq.out,hsq'.out],b9⟩;clear hSv hsv hdv hBv hvm hvz hy o9
    go_wp2;go_roundw
    case rel =>
     exact⟨k+1,by omega,by go_num,hat9,hB9⟩
    case measure=>simp[intOf];omega
  · obtain rfl:k=m:=by omega
    have t1:decide ((k:Int)<(k:Int))=false:=decide_eq_false (by omega);obtain⟨x0,x1,x2⟩:=hS.cells;obtain⟨w9,p0,p1,p2,r0,r1,r2,e9,h9,o9⟩:=zero_store hB s;obtain⟨y0,y1,y2⟩:=h9.cells;have hs9:=hs.only_blk hB (noDig3 _ _ _ _ _ _ _) o9;have hb9:=o9.to_below (b1.trans (hbel.mono b1.size)) (Nat.le_refl _) (Nat.le_trans b1.size hbel.size);have hqe:=Lib.hid (show s.q=sumR ps by rw[hsq'.out,List.take_of_length_le (by rw[hpl.out];exact Nat.le_refl _)]);clear hB hS hs;go_wp2;refine bodyPost_ret (v:=fracV s.neg s.a s.la.length s.ca s.b s.lb.length s.cb) (by simp[results,Try.results37,go_sem,y0,y1,y2]) rfl ?_;exact⟨_,rfl,by rw[←hqe.out];exact hs9,hb9⟩
set_option maxRecDepth 100000 in
set_option maxHeartbeats 4000000 in
theorem ones_any {n:Nat}{w:World}(hn:n≤12):Calls Try.prog 38 #[.int .i64 (n:Int)] w fun e w'=>∃ A c,e=.returned (.slice A n c)∧ZL w' A c (List.replicate n 1)∧Below w.heap.size w w':=by
 obtain⟨w2,hmk,hz2,b2,l2⟩:=make_i64s w n (by omega);obtain⟨g,hg⟩:∃ g,Hid (w.heap.size=g):=⟨_,rfl⟩;rw[hg.out] at hmk hz2;go_enter Try.func38,Try.ntmps38;go_wp2
 go_loopw [4] (fun i wr=>∃ k:Nat,k≤n∧i=.int .i64 (k:Int)∧∃ zs,ZA wr g zs∧Hid (zs.length=n∧zs.take k=List.replicate k 1)∧Below w.heap.size w wr) (fun i _=>n-(intOf i).toNat)
 case atStart=>exact⟨0,by omega,rfl,_,hz2,⟨by simp,rfl⟩,b2⟩
 case round =>
  clear hz2 b2 hmk;obtain⟨k,hk,rfl,zs,hz,hzt,hb⟩:=hrel
  by_cases hkl:k<n
  · have hki:(k:Int)<(n:Int):=by omega
    obtain⟨z,hzk⟩:∃ z,Hid (zs[k]?=some z):=⟨_,List.getElem?_eq_getElem (by rw[hzt.out.1];exact hkl)⟩;obtain⟨w3,e3,hz3,o3⟩:=hz.set k 1;have f3:=hz.free k;have y3:=hz.cell hzk.out;have hb3:=o3.to_below hb (by rw[hg.out];exact Nat.le_refl _) hb.size
    have hzt3:=Lib.hid (show (zs.set k 1).length=n∧(zs.set k 1).take (k+1)=List.replicate (k+1) 1 by
     refine⟨by rw[List.length_set];exact hzt.out.1,?_⟩;rw[List.take_add_one,List.getElem?_set_self (by rw[hzt.out.1];exact hkl),List.take_set_of_le (Nat.le_refl _),hzt.out.2,List.replicate_succ'];rfl)
    clear hz o3;go_wp2;go_roundw
    case rel=>exact⟨k+1,by omega,by go_num,_,hz3,hzt3,hb3⟩
    case measure=>simp[intOf];omega
  · obtain rfl:k=n:=by omega
    have t1:decide ((k:Int)<(k:Int))=false:=decide_eq_false (by omega);have hzs:zs=List.replicate k 1:=by have:=hzt.out.2;rwa [List.take_of_length_le (by rw[hzt.out.1];exact Nat.le_refl _)] at this
    subst hzs;have hzl:=(hz.zt (by simp;omega)).1;rw[List.length_replicate] at hzl;go_wp2;go_ret;exact⟨_,_,rfl,hzl,hb⟩
theorem wrap_two {k n:Nat}(hk:k<n) (h:n≤8):wrap64 (2*2 ^ k)=(2:Int) ^ (k+1):=by
 have h9:k=0∨k=1∨k=2∨k=3∨k=4∨k=5∨k=6∨k=7:=by omega
 rcases h9 with rfl | rfl | rfl | rfl | rfl | rfl | rfl | rfl <;> exact IntWalk.wrap64_in _ (by decide)
theorem sets_any {n:Nat}(hn:n≤8) (w:World):Calls Try.prog 36 #[.int .i64 (n:Int)] w fun e w'=>e=.returned (.int .i64 ((2:Int) ^ n))∧w'=w:=by
 go_enter Try.func36,Try.ntmps36;go_wp2
 go_loopw [3,4] (fun v i wr=>∃ k:Nat,k≤n∧v=.int .i64 ((2:Int) ^ k)∧i=.int .i64 (k:Int)∧wr=w) (fun _ i _=>n-(intOf i).toNat)
 case atStart=>exact⟨0,by omega,rfl,rfl,rfl⟩
 case round =>
  obtain⟨k,hk,rfl,rfl,rfl⟩:=hrel
  by_cases hkl:k<n
  · have hki:(k:Int)<(n:Int):=by omega
    have hw2:=Lib.hid (wrap_two hkl hn);go_wp2;go_roundw
    case rel=>exact⟨k+1,by omega,congrArg (Value.int .i64) hw2.out,by go_num,trivial⟩
    case measure=>simp[intOf];omega
  · obtain rfl:k=n:=by omega
    have hlt':decide ((k:Int)<(k:Int))=false:=decide_eq_false (by omega);go_wp2;go_ret;exact⟨rfl,rfl⟩
theorem half_at (p k:Nat):p / 2 ^ k / 2=p / 2 ^ (k+1):=by rw[Nat.div_div_eq_div_mul,Nat.pow_succ]
theorem bit_any {p n:Nat}(hp:p<256) (w:World) (hn:n≤8):Calls Try.prog 61 #[.int .i64 (p:Int),.int .i64 (n:Int)] w fun e w'=>e=.returned (.int .i64 (if bitP p n=true then 1 else 0))∧w'=w:=by
 obtain⟨r,hr⟩:∃ r:Int,Hid ((if bitP p n=true then (1:Int) else 0)=r):=⟨_,rfl⟩;rw[hr.out];go_enter Try.func61,Try.ntmps61;go_wp2
 go_loopw [0,5] (fun v i wr=>∃ k:Nat,k≤n∧v=.int .i64 ((p / 2 ^ k:Nat):Int)∧i=.int .i64 (k:Int)∧wr=w) (fun _ i _=>n-(intOf i).toNat)
 case atStart=>exact⟨0,by omega,by simp,rfl,rfl⟩
 case round =>
  obtain⟨k,hk,rfl,rfl,rfl⟩:=hrel;obtain⟨x,hx⟩:∃ x,Hid (p / 2 ^ k=x):=⟨_,rfl⟩;have hx2:x<256:=by rw[←hx.out];exact Nat.lt_of_le_of_lt (Nat.div_le_self _ _) hp
  rw[hx.out]
  by_cases hkl:k<n
  · have hki:(k:Int)<(n:Int):=by omega
    obtain⟨y,hy⟩:∃ y,Hid (x / 2=y):=⟨_,rfl⟩;have hy2:y<256:=by rw[←hy.out];omega
    have hyq:=Lib.hid (show p / 2 ^ (k+1)=y by rw[←half_at,hx.out,hy.out]);have hw2:IntKind.i64.wrap ((x:Int) / 2)=(y:Int):=by rw[show (x:Int) / 2=((x / 2:Nat):Int) by omega,hy.out];simp[IntKind.wrap,IntKind.bits,IntKind.signed];omega
    go_wp2;go_roundw
    case rel=>exact⟨k+1,by omega,by rw[hyq.out],by go_num,trivial⟩
    case measure=>simp[intOf];omega
  · obtain rfl:k=n:=by omega
    have hlt':decide ((k:Int)<(k:Int))=false:=decide_eq_false (by omega)
    have hb:=Lib.hid (show r=(x:Int) % 2 by
     rw[←hr.out];unfold bitP;rw[hx.out];have h2:x % 2=0∨x % 2=1:=by omega
     have h3:(x:Int) % 2=((x % 2:Nat):Int):=by omega
     rw[h3]
     rcases h2 with h2 | h2 <;> rw[h2] <;> rfl)
    have hm:(x:Int).tmod 2=((x % 2:Nat):Int):=by rw[Int.tmod_eq_emod_of_nonneg (by omega)];omega
    go_wp2;go_ret;exact⟨by rw[hb.out];rfl,rfl⟩
theorem bitz_any {p n:Nat}{w:World}(hp:p<256) (hn:n≤8):Calls Try.prog 61 #[.int .i64 (p:Int),.int .i64 (n:Int)] w (RetI (bitZ p n) w) :=
 (bit_any hp w hn).mono fun e w' ⟨h1,h2⟩=>⟨h1,h2 ▸ Below.refl _ _⟩
def RetLm (L:List (List Int × Int)) (W:World) (e:Ending) (w':World):Prop:=∃ A c ls,e=.returned (.slice A ls.length c)∧LmL w' A c ls∧Hid (ls.map LmD.p=L)∧Below W.heap.size W w'
theorem limL_get {ns:List NdD}{ms:List Int}{k:Nat}{p:List Int × Int}(hk:k<(limL ns ms).length) (h:(limL ns ms).getD k ([],0)=p):(limL ns ms)[k]?=some p:=by
 rw[List.getElem?_eq_getElem hk,←h,getD_of _ hk]
set_option maxRecDepth 100000 in
set_option maxHeartbeats 40000000 in
theorem limits_any {B C:Option Addr}{cb cc:Nat}{ns:List NdD}{ms:List Int}{w:World}(hn:NL w B cb ns) (hm:ZL w C cc ms) (hn8:ms.length≤8) (hl:ns.length≤1000) (hp:∀ d∈ns,0≤d.p∧d.p<256) (hms:∀ m∈ms,0≤m∧m≤1000000) :
 Calls Try.prog 39 #[.slice B ns.length cb,.slice C ms.length cc] w (RetLm (limL ns ms) w):=by
 obtain⟨L,hL⟩:∃ L,Hid (limL ns ms=L):=⟨_,rfl⟩;have hLl:=Lib.hid (show L.length=ns.length+(ms.length+ms.length) by rw[←hL.out,limL_len])
 have hLn:=Lib.hid (show ∀ k,k<ns.length→L[k]?=some (needC ms.length (pOf ns k),lOf ns k) by
  intro k hk;rw[←hL.out];exact limL_get (by rw[limL_len];omega) (limL_need hk))
 have hLo:=Lib.hid (show ∀ k,k<ms.length→L[ns.length+k]?=some (unitC ms.length k 1,0) by
  intro k hk;rw[←hL.out];exact limL_get (by rw[limL_len];omega) (limL_low hk))
 have hLu:=Lib.hid (show ∀ k,k<ms.length→L[ns.length+ms.length+k]?=some (unitC ms.length k (-1),-(ms.getD k 0)) by
  intro k hk;rw[←hL.out];exact limL_get (by rw[limL_len];omega) (limL_up hk))
 have hp':=Lib.hid hp;have hms':=Lib.hid hms;clear hp hms;have lnn:=hn.len;have lmm:=hm.len;rw[hL.out];go_enter Try.func39,Try.ntmps39;go_wp2
 go_loopw [5,6] (fun v i wr=>∃ k:Nat,k≤ns.length∧i=.int .i64 (k:Int)∧LmAt L w k v wr) (fun _ i _=>ns.length-(intOf i).toNat)
 case atStart=>exact⟨0,by omega,rfl,LmAt.nil _ _⟩
 case round =>
  obtain⟨k,hk,rfl,hat⟩:=hrel;have hbel:=hat.bel
  by_cases hkl:k<ns.length
  · have hki:(k:Int)<(ns.length:Int):=by omega
    obtain⟨a,d,ea,hab,hc0,hc1,hdk⟩:=(hn.below hbel).at hkl;rw[ea];have hdp:=hp'.out d (List.mem_of_getElem? hdk.out);obtain⟨pn,hpn⟩:∃ pn:Nat,d.p=(pn:Int):=⟨d.p.toNat,by omega⟩;rw[hpn] at hc0;have hp256:=Lib.hid (show pn<256 by omega)
    have hpO:=Lib.hid (show pOf ns k=pn∧lOf ns k=d.l by
     unfold pOf lOf;rw[List.getD_eq_getElem?_getD,hdk.out];show d.p.toNat=pn∧d.l=d.l;exact⟨by omega,rfl⟩)
    have hq:=Lib.hid (show L[k]?=some (needC ms.length pn,d.l) by rw[hLn.out k hkl,hpO.out.1,hpO.out.2]);have hab2:=Lib.hid (show (a.add (k*2)).block<wr.heap.size by rw[block_add];exact hab);obtain⟨wA,wB,eA,p0,p1,r0,r1,eB,hV,bV,lV⟩:=new_lm wr none 0 0 d.l;obtain⟨wo,hwo⟩:∃ wo:World,wo=wr:=⟨_,rfl⟩;subst hwo;go_wp2
    go_loopw [8] (fun i w'=>∃ j:Nat,j≤ms.length∧i=.int .i64 (j:Int)∧∃ A c,InAt wo wo.heap.size d.l ((needC ms.length pn).take j) A c w') (fun i _=>ms.length-(intOf i).toNat)
    case atStart=>exact⟨0,by omega,rfl,none,0,⟨hV,OwnZ.nil _ _,bV⟩⟩
    case round =>
     clear p0 p1 r0 r1 eA eB hV bV lV;obtain⟨j,hj,rfl,A,c,hI⟩:=hrel;obtain⟨zs,hzs⟩:∃ zs,Hid ((needC ms.length pn).take j=zs):=⟨_,rfl⟩;rw[hzs.out] at hI;have hzl:=Lib.hid (show zs.length=j by rw[←hzs.out,List.length_take,needC_len];omega);have hj8:=Lib.hid (show j≤8 by omega)
     by_cases hjl:j<ms.length
     · have hji:(j:Int)<(ms.length:Int):=by omega
       have hcz:=Lib.hid (show (needC ms.length pn)[j]?=some (bitZ pn j) by unfold needC;rw[List.getElem?_map,List.getElem?_range hjl];rfl);go_upto_region 9 with fail;have bT:=hI.bel;have dw0:Below wr.heap.size wr wr.drew:=(Below.refl _ _).drew;replace hI:=hI.below dw0;replace bT:=bT.trans (dw0.mono bT.size);clear dw0;go_wp2_with fail;refine wp_region_noPanic ?_;refine wp_region_wait (J:=[12]) (S:=fun w'=>w'.cell? ⟨wo.heap.size,0,none⟩=some (.slice A zs.length c)∧w'.cell? (a.add (k*2))=some (.int .i64 ((pn:Nat):Int))) (by kernel_rfl) (⟨hI.c0,(hI.bel.cell hab2.out).trans hc0⟩) (fun hHeld=>?_);refine tkW 0 rfl hHeld ?_;refine tkW 1 rfl hHeld ?_;refine tkW 2 rfl hHeld ?_;refine tkW 3 rfl hHeld ?_;refine tkW 4 rfl hHeld ?_;refine tkW 5 rfl hHeld ?_;refine tkW 6 rfl hHeld ?_;refine tkW 7 rfl hHeld ?_;refine rdW 8 rfl fun K hK=>?_;go_simp;have hcl:=bitz_any (p:=pn) (n:=j) (w:=wr.drew) hp256.out hj8.out;go_at_call 61;refine (hcl).mono ?_;rintro e u1 ⟨rfl,bu1⟩;clear hcl;replace hI:=hI.below bu1;replace bT:=bT.trans (bu1.mono bT.size);go_wp2_with fail;refine hK.out _ _ (⟨hI.c0,(hI.bel.cell hab2.out).trans hc0⟩) (fun hHeld=>?_);clear hK K;(try simp only[lay]);refine rdW 9 rfl fun K hK=>?_;obtain⟨u2,hu2,bu2,lu2,Bu2⟩:=boxed u1 #[.int .i64 (bitZ pn j)] 2;replace hI:=hI.below bu2;replace bT:=bT.trans (bu2.mono bT.size);go_simp;refine hK.out _ _ (⟨hI.c0,(hI.bel.cell hab2.out).trans hc0⟩) (fun hHeld=>?_)
       clear hK K;(try simp only[lay]);refine rdW 10 rfl fun K hK=>?_;obtain⟨A8,c8,w8,w9,hr8,k1,kf,e9,hI9,b8⟩:=hI.app (Nat.le_refl _) (ad:=⟨u1.heap.size,0,none⟩) (c':=1) (Blk.cell Bu2 0) (by have:=hzl.out;have:=hj8.out;omega);refine step_appR rfl _ _ rfl rfl rfl rfl hr8 ?_;refine hK.out _ _ (⟨k1,(b8.cell hab2.out).trans hc0⟩) (fun hHeld=>?_);clear hK K;(try simp only[lay]);refine tkW 11 rfl hHeld ?_;refine wpAnyW_ready (rs:=[12]) (by kernel_rfl) (by simp) ?_;refine AllReadyW.last rfl (by decide) (fun K hK=>?_) AllReadyW.nil;go_simp;refine hK.out _ _ ?_;clear hK K;(try clear hHeld);(try simp only[lay]);refine wpAnyW_done (by kernel_rfl) ?_ _;refine NoPanic.normal ?_;(try go_simp);(try clear hHeld);have hz9:=Lib.hid (show zs++[bitZ pn j]=(needC ms.length pn).take (j+1) by rw[List.take_add_one,hcz.out,hzs.out];rfl);rw[hz9.out] at hI9;clear hI hr8 k1 kf b8 bT;go_wp2;go_roundw
       case rel=>exact⟨j+1,by omega,by go_num,A8,c8,hI9⟩
       case measure=>simp[intOf];omega
     · obtain rfl:j=ms.length:=by omega
       have hlt':decide ((ms.length:Int)<(ms.length:Int))=false:=decide_eq_false (by omega);have hza:=Lib.hid (show zs=needC ms.length pn by rw[←hzs.out,List.take_of_length_le (by rw[needC_len];exact Nat.le_refl _)]);have x0:=hI.c0;have x1:=hI.c1;have hq2:=Lib.hid (show L[k]?=some (LmD.p ⟨A,c,zs,d.l⟩) by rw[hq.out];unfold LmD.p;rw[hza.out]);have hat2:=hat.below hI.bel;obtain⟨v6,w6,hr6,hat6⟩:=hat2.app (l:=⟨A,c,zs,d.l⟩) (by omega) hq2.out hI.zt;dsimp only at hr6
       go_wp2_with (at_builtin;refine wpList_appR (T:=66) rfl rfl (.tmp 43) (.tmp 45) rfl rfl rfl hr6 ?_)
       go_wp2;go_roundw
       case rel=>exact⟨k+1,by omega,by go_num,hat6⟩
       case measure=>simp[intOf];omega
  · obtain rfl:k=ns.length:=by omega
    have hlt':decide ((ns.length:Int)<(ns.length:Int))=false:=decide_eq_false (by omega);go_wp2
    go_loopw [5,9] (fun v i wr=>∃ k:Nat,k≤ms.length∧i=.int .i64 (k:Int)∧LmAt L w (ns.length+k) v wr) (fun _ i _=>ms.length-(intOf i).toNat)
    case atStart=>exact⟨0,by omega,rfl,hat⟩
    case round =>
     clear hat hbel;obtain⟨k,hk,rfl,hat⟩:=hrel;have hbel:=hat.bel
     by_cases hkl:k<ms.length
     · have hki:(k:Int)<(ms.length:Int):=by omega
       obtain⟨w2,hmk,hz2,b2,l2⟩:=make_i64s wr ms.length (by omega);obtain⟨wA,wB,eA,p0,p1,r0,r1,eB,hV,bV,lV⟩:=new_lm w2 (some ⟨wr.heap.size,0,none⟩) ms.length ms.length 0;have hz3:=hz2.below bV;obtain⟨w3,e3,hz4,o3⟩:=hz3.set k 1;have f3:=hz3.free k;have y3:wB.cell? ⟨wr.heap.size,k,none⟩=some (.int .i64 0):=hz3.cell (by rw[List.getElem?_replicate,if_pos hkl]);have x0:=Blk.cell hV 0;have hV3:=hV.only o3 (Blk.ne_type hV hz3 (by decide));have x3:=Blk.cell hV3 0;have x4:=Blk.cell hV3 1;have b12:=b2.trans (bV.mono b2.size);have b13:=o3.to_below b12 (Nat.le_refl _) b12.size;have hq:=Lib.hid (show L[ns.length+k]?=some (LmD.p ⟨some ⟨wr.heap.size,0,none⟩,ms.length,unitC ms.length k 1,0⟩) from hLo.out k hkl);have hzt:ZT w3 (some ⟨wr.heap.size,0,none⟩) ms.length (unitC ms.length k 1):=by have h:=hz4.zt (by simp;omega);simpa [unitC] using h
       clear hz2 hz3 hz4 o3 hV hV3 b2 bV b12;have hat2:=hat.below b13;obtain⟨v6,w6,hr6,hat6⟩:=hat2.app (l:=⟨some ⟨wr.heap.size,0,none⟩,ms.length,unitC ms.length k 1,0⟩) (by omega) hq.out hzt;dsimp only at hr6;rw[unitC_len] at hr6
       go_wp2_with (at_builtin;refine wpList_appR (T:=66) rfl rfl (.tmp 61) (.tmp 63) rfl rfl rfl hr6 ?_)
       go_wp2;go_roundw
       case rel=>exact⟨k+1,by omega,by go_num,hat6⟩
       case measure=>simp[intOf];omega
     · obtain rfl:k=ms.length:=by omega
       have hlt2:decide ((ms.length:Int)<(ms.length:Int))=false:=decide_eq_false (by omega);go_wp2
       go_loopw [5,11] (fun v i wr=>∃ k:Nat,k≤ms.length∧i=.int .i64 (k:Int)∧LmAt L w (ns.length+ms.length+k) v wr) (fun _ i _=>ms.length-(intOf i).toNat)
       case atStart=>exact⟨0,by omega,rfl,hat⟩
       case round =>
        clear hat hbel;obtain⟨k,hk,rfl,hat⟩:=hrel;have hbel:=hat.bel
        by_cases hkl:k<ms.length
        · have hki:(k:Int)<(ms.length:Int):=by omega
          obtain⟨a,z,ea,hab,hc0,hzk⟩:=(hm.below hbel).at hkl;rw[ea];have hab2:=Lib.hid (show (a.add k).block<wr.heap.size by rw[block_add];exact hab);have hzb:=hms'.out z (List.mem_of_getElem? hzk.out);have hwm:IntKind.i64.wrap (-z)=-z:=by simp[IntKind.wrap,IntKind.bits,IntKind.signed];omega
          have hzD:=Lib.hid (show ms.getD k 0=z by rw[List.getD_eq_getElem?_getD,hzk.out];rfl);have hat0:=hat;have hq:=Lib.hid (show L[ns.length+ms.length+k]?=some (unitC ms.length k (-1),-z) by rw[hLu.out k hkl,hzD.out]);go_upto_region 20 with fail;have bT:=Below.refl wr.heap.size wr;have dw0:Below wr.heap.size wr wr.drew:=(Below.refl _ _).drew;replace bT:=bT.trans (dw0.mono bT.size);clear dw0;go_wp2_with fail;refine wp_region_noPanic ?_;refine wp_region_wait (J:=[10]) (S:=fun w'=>w'.cell? (a.add k)=some (.int .i64 z)) (by kernel_rfl) ((bT.cell hab2.out).trans hc0) (fun hHeld=>?_);refine tkW 0 rfl hHeld ?_;refine tkW 1 rfl hHeld ?_;refine tkW 3 rfl hHeld ?_;refine tkW 4 rfl hHeld ?_;refine tkW 5 rfl hHeld ?_;refine tkW 6 rfl hHeld ?_;refine tkW 7 rfl hHeld ?_;refine wpAnyW_ready (rs:=[2,9]) (by kernel_rfl) (by simp) ?_;refine AllReadyW.cons rfl (fun K hK=>?_) ?_
          · obtain⟨u1,hmk,hz0,bu1,lu1⟩:=make_i64s wr.drew ms.length (by omega);have hgz:wr.heap.size≤wr.heap.size:=bT.size;replace hz0:ZA u1 wr.heap.size (List.replicate ms.length 0):=hz0;replace bT:=bT.trans (bu1.mono bT.size);go_simp;refine hK.out _ _ ((bT.cell hab2.out).trans hc0) (fun hHeld=>?_);clear hK K;(try simp only[lay]);refine tkW 8 rfl hHeld ?_;refine rdW 9 rfl fun K hK=>?_;have hgx0:=bT.size;obtain⟨u2,hu2,bu2,lu2,Bu2⟩:=boxed u1 #[.slice none 0 0,.int .i64 0] 69;replace hz0:=hz0.below bu2;replace bT:=bT.trans (bu2.mono bT.size);have hX:=Bu2;clear Bu2;go_simp;refine hK.out _ _ ((bT.cell hab2.out).trans hc0) (fun hHeld=>?_);clear hK K;(try simp only[lay]);refine wpAnyW_ready (rs:=[10]) (by kernel_rfl) (by simp) ?_;refine AllReadyW.last rfl (by decide) (fun K hK=>?_) AllReadyW.nil;obtain⟨w9,q0,q1,f0,f1,e9,hX9,o9⟩:=lm_store hX (some ⟨wr.heap.size,0,none⟩) ms.length ms.length (-z);go_simp;refine hK.out _ _ ?_;clear hK K;(try clear hHeld);(try simp only[lay]);refine wpAnyW_done (by kernel_rfl) ?_ _;refine NoPanic.normal ?_;(try go_simp);(try clear hHeld);have hz9:ZA w9 wr.heap.size (List.replicate ms.length 0):=Blk.only hz0 o9 (Blk.ne_type hz0 hX (by decide));have bT9:=o9.to_below bT hgx0 bT.size;obtain⟨w10,e10,hz10,o10⟩:=hz9.set k (-1);have x9:=Blk.cell hX9 0;have f9:=hz9.free k;have y9:w9.cell? ⟨wr.heap.size,k,none⟩=some (.int .i64 0):=hz9.cell (by rw[List.getElem?_replicate,if_pos hkl])
            have hX10:=hX9.only o10 (Blk.ne_type hX9 hz9 (by decide));have x10:=Blk.cell hX10 0;have x11:=Blk.cell hX10 1;have bT10:=o10.to_below bT9 hgz bT9.size;have hzt:ZT w10 (some ⟨wr.heap.size,0,none⟩) ms.length (unitC ms.length k (-1)):=by have h:=hz10.zt (by simp;omega);simpa [unitC] using h
            clear hz0 hz9 hz10 hX hX9 bT9 bT o9 o10;have hat2:=hat.below bT10;obtain⟨v6,w6,hr6,hat6⟩:=hat2.app (l:=⟨some ⟨wr.heap.size,0,none⟩,ms.length,unitC ms.length k (-1),-z⟩) (by omega) hq.out hzt;dsimp only at hr6;rw[unitC_len] at hr6
            go_wp2_with (at_builtin;refine wpList_appR (T:=66) rfl rfl (.tmp 84) (.tmp 86) rfl rfl rfl hr6 ?_)
            go_wp2;go_roundw
            case rel=>exact⟨k+1,by omega,by go_num,by rw[show ns.length+ms.length+(k+1)=ns.length+ms.length+k+1 by omega];exact hat6⟩
            case measure=>simp[intOf];omega
          refine AllReadyW.cons rfl (fun K hK=>?_) ?_
          · have hgx0:=bT.size;obtain⟨u3,hu3,bu3,lu3,Bu3⟩:=boxed wr.drew #[.slice none 0 0,.int .i64 0] 69;replace Bu3:Blk u3 wr.heap.size 69 #[.slice none 0 0,.int .i64 0]:=Bu3;replace bT:=bT.trans (bu3.mono bT.size);have hX:=Bu3;clear Bu3;go_simp;refine hK.out _ _ ((bT.cell hab2.out).trans hc0) (fun hHeld=>?_);clear hK K;(try simp only[lay]);refine rdW 2 rfl fun K hK=>?_;obtain⟨u4,hmk,hz0,bu4,lu4⟩:=make_i64s u3 ms.length (by omega);have hgz:wr.heap.size≤u3.heap.size:=bT.size;replace hX:=hX.keep bu4;replace bT:=bT.trans (bu4.mono bT.size);go_simp;refine hK.out _ _ ((bT.cell hab2.out).trans hc0) (fun hHeld=>?_);clear hK K;(try simp only[lay]);refine tkW 8 rfl hHeld ?_;refine wpAnyW_ready (rs:=[10]) (by kernel_rfl) (by simp) ?_;refine AllReadyW.last rfl (by decide) (fun K hK=>?_) AllReadyW.nil;obtain⟨w9,q0,q1,f0,f1,e9,hX9,o9⟩:=lm_store hX (some ⟨u3.heap.size,0,none⟩) ms.length ms.length (-z);go_simp;refine hK.out _ _ ?_;clear hK K;(try clear hHeld);(try simp only[lay]);refine wpAnyW_done (by kernel_rfl) ?_ _;refine NoPanic.normal ?_;(try go_simp);(try clear hHeld);have hz9:ZA w9 u3.heap.size (List.replicate ms.length 0):=Blk.only hz0 o9 (Blk.ne_type hz0 hX (by decide));have bT9:=o9.to_below bT hgx0 bT.size;obtain⟨w10,e10,hz10,o10⟩:=hz9.set k (-1);have x9:=Blk.cell hX9 0;have f9:=hz9.free k;have y9:w9.cell? ⟨u3.heap.size,k,none⟩=some (.int .i64 0):=hz9.cell (by rw[List.getElem?_replicate,if_pos hkl])
            have hX10:=hX9.only o10 (Blk.ne_type hX9 hz9 (by decide));have x10:=Blk.cell hX10 0;have x11:=Blk.cell hX10 1;have bT10:=o10.to_below bT9 hgz bT9.size;have hzt:ZT w10 (some ⟨u3.heap.size,0,none⟩) ms.length (unitC ms.length k (-1)):=by have h:=hz10.zt (by simp;omega);simpa [unitC] using h
            clear hz0 hz9 hz10 hX hX9 bT9 bT o9 o10;have hat2:=hat.below bT10;obtain⟨v6,w6,hr6,hat6⟩:=hat2.app (l:=⟨some ⟨u3.heap.size,0,none⟩,ms.length,unitC ms.length k (-1),-z⟩) (by omega) hq.out hzt;dsimp only at hr6;rw[unitC_len] at hr6
            go_wp2_with (at_builtin;refine wpList_appR (T:=66) rfl rfl (.tmp 84) (.tmp 86) rfl rfl rfl hr6 ?_)
            go_wp2;go_roundw
            case rel=>exact⟨k+1,by omega,by go_num,by rw[show ns.length+ms.length+(k+1)=ns.length+ms.length+k+1 by omega];exact hat6⟩
            case measure=>simp[intOf];omega
          exact AllReadyW.nil
        · obtain rfl:k=ms.length:=by omega
          have hlt3:decide ((ms.length:Int)<(ms.length:Int))=false:=decide_eq_false (by omega);obtain⟨A,c,ls,rfl,hls,hlp⟩:=hat.done (by rw[hLl.out];omega);go_wp2;go_ret;exact⟨A,c,ls,rfl,hls,hlp,hbel⟩
end Go.Proofs.Ytjhkapjadfpimaa
