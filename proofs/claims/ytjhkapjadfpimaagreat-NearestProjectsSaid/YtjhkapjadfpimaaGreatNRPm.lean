/- Contracts of functions, for the law. -/
import Derived.Test.YtjhkapjadfpimaaGreatGSub
namespace Go.Proofs.YtjhkapjadfpimaaGreat
set_option linter.unusedVariables false
set_option linter.unusedSimpArgs false
open Go.RowKit Plain
attribute [local go_sem ↓] Go.wp_at_zero Go.wp_at_succ
set_option maxRecDepth 100000
set_option maxHeartbeats 40000000
theorem zS {K:Nat}{C A:Option Addr}{cc ca:Nat}{ds:List FrD}{w:World}(hz:ZL w C cc (List.replicate ds.length 1)) (h:FL w A ca ds) (hf:QFits K (ds.map FrD.q)) (hK:K≤10000000) (hl12:ds.length≤12) :
 Calls Tryz.prog 60 #[.slice C ds.length cc,.slice A ds.length ca] w (ie (aB (ds.map FrD.q)) w):=by
 have h1:=lR hz h hf (fun z hz=>by rw[(List.mem_replicate.1 hz).2];decide) hK (by simp) hl12;have e:dy (List.replicate ds.length 1) (ds.map FrD.q)=ds.map FrD.q:=by have:=xM (ds.map FrD.q);rwa [Dr] at this
 rwa [e,Do] at h1
theorem lQ {K:Nat}{zs:List Int}{qs:List Rat}(hz:∀ z∈zs,z.natAbs≤1) (hf:QFits K qs) (hl:zs.length≤12):Fits (1+12*(2+K+1)) (aB (dy zs qs)):=by
 have h1:=cT (n:=12) (mT hz hf) (by unfold dy;rw[List.length_zipWith];omega) (dy zs qs).length
 rwa [List.take_length] at h1
theorem p7 {tl:Nat}{B C:Option Addr}{cb cc:Nat}{ns:List NdD}{ms:List Int}{w:World}(hE:argsE tl ns ms=0) (hn:NL w B cb ns) (hm:ZL w C cc ms) :
 Calls Tryz.prog 56 #[.slice B ns.length cb,.slice C ms.length cc] w (Cd (br ns ms) w):=by
 obtain⟨h1,h2,h3,h4,h5⟩:=dP hE;exact oW hn hm h1 (by omega) (fun d hd=>⟨(h5 d hd).1,by have:=(h5 d hd).2.1;have:=oJ h1;omega⟩) h4
theorem nY {n i:Nat}{v:Int}(hv:v.natAbs≤1):∀ z∈dE n i v,z.natAbs≤1:=fun z hz=>by
 unfold dE at hz
 rcases List.mem_or_eq_of_mem_set hz with h | h
 · rw[(List.mem_replicate.1 h).2];decide
 · rw[h];exact hv
theorem p9 {tl:Nat}{ns:List NdD}{ms:List Int}{p:List Int × Int}(hE:argsE tl ns ms=0) (h:p∈br ns ms):p.1.length=ms.length∧(-1099511627776≤p.2∧p.2≤1099511627776)∧∀ z∈p.1,z.natAbs≤1:=by
 obtain⟨h1,h2,h3,h4,h5⟩:=dP hE;unfold br at h
 rcases List.mem_append.1 h with h | h
 · obtain⟨d,hd,rfl⟩:=DU.1 h;refine⟨iN _ _,(h5 d hd).2.2,fun z hz=>?_⟩;obtain⟨k,_,rfl⟩:=DU.1 hz
   unfold nK;split <;> decide
 · rcases List.mem_append.1 h with h | h
   · obtain⟨i,hi,rfl⟩:=DU.1 h;exact⟨du _ _ _,(by show (-1099511627776:Int)≤0∧(0:Int)≤1099511627776;omega),nY (by decide)⟩
   · obtain⟨i,hi,rfl⟩:=DU.1 h;have b:=DT.1 hi;have:=h4 (ms.getD i 0) (by rw[Dk,Dl b];exact Dy b);exact⟨du _ _ _,by show -1099511627776≤-(ms.getD i 0)∧-(ms.getD i 0)≤1099511627776;omega,nY (by decide)⟩
theorem ro {K tl:Nat}{A B C:Option Addr}{ca cb cc:Nat}{ds:List FrD}{ns:List NdD}{ms:List Int}{v:Value}{sq:Rat}{w:World}(hE:argsE tl ns ms=0) (hn0:NL w B cb ns) (hm0:ZL w C cc ms) (hv0:FV w v sq) (h0:FL w A ca ds)
 (hf:QFits K (ds.map FrD.q)) (hfs:Fits K sq) (hK0:2≤K) (hK:K≤10000000) :
 Calls Tryz.prog 66 #[.slice B ns.length cb,.slice C ms.length cc,v,.slice A ds.length ca] w (lX (jM ns ms sq (ds.map FrD.q)) w):=by
 obtain⟨r,hr⟩:∃ r,Hid (jM ns ms sq (ds.map FrD.q)=r):=⟨_,rfl⟩;rw[hr.out];obtain⟨sv,rfl,b4,b3⟩:=hv0.frd;obtain⟨w0,c5,b0,l0,hB⟩:=ag w #[.bool sv.neg,.slice sv.a sv.la.length sv.ca,.slice sv.b sv.lb.length sv.cb] 28;have hn:=hn0.below b0;have hm:=hm0.below b0;have hv:=hv0.below b0;have h:=h0.below b0;clear hn0 hm0 hv0 h0 b4;have c7:=hn.len;have c8:=hm.len;have c3:=h.len;obtain⟨E1,E2,-⟩:=dP hE;have D:=Dj hf;have b1:=Dj hfs;clear hf hfs;obtain⟨qs,E⟩:∃ qs,Hid (ds.map FrD.q=qs):=⟨_,rfl⟩
 by_cases hlm0:ds.length=ms.length
 · have R:=Dj hlm0;have h5:((ds.length:Int) != (ms.length:Int))=false:=by rw[bne_eq_false_iff_eq];omega
   clear hlm0;have h8:ds.length≤12:=by have:=R.out;omega
   have bc:=Dj (show Fits (1+12*(K+1)) (aB (ds.map FrD.q)) by
    have h1:=cT (n:=12) D.out (by rw[Dr];exact h8) (ds.map FrD.q).length
    rwa [List.take_length] at h1)
   obtain⟨c,hc⟩:∃ c,Hid (bH (aB (ds.map FrD.q)) sq=c):=⟨_,rfl⟩;obtain⟨b,hb⟩:∃ b,Hid (decide (aB (ds.map FrD.q)=sq)=b):=⟨_,rfl⟩
   have c4:(c != 0)=!b:=by
    rw[←hb.out,←hc.out]
    by_cases e:aB (ds.map FrD.q)=sq
    · rw[Dv e,cmpR_zero.2 e];rfl
    · rw[Du e]
      show _=true
      rw[bne_iff_ne];exact fun h=>e (cmpR_zero.1 h)
   have bd:=Dj (show b=false→r=false by intro e;rw[←hr.out];unfold jM;rw[hb.out,e];simp)
   have b2:=Dj (show b=true→r=(br ns ms).all (mK qs) by
    intro e;rw[←hr.out];unfold jM;rw[hb.out,e,E.out,Dv (by rw[←E.out,Dr];exact R.out)];rfl)
   go_enter Tryz.func66,Tryz.ntmps66;go_upto_region 1 with fail;have bT:=b0
   have hS:∀ w',Below w0.heap.size w0 w'→w'.cell? ⟨w.heap.size,0,none⟩=some (.bool sv.neg)∧w'.cell? ⟨w.heap.size,1,none⟩=some (.slice sv.a sv.la.length sv.ca)∧w'.cell? ⟨w.heap.size,2,none⟩=some (.slice sv.b sv.lb.length sv.cb)∧Below w0.heap.size w0 w':=by
    intro w' o;have J:=Ea hB o;exact⟨J.f0,J.f1,J.f2,o⟩
   have bo:Below w0.heap.size w0 w0:=DY _ _;have dS:Below w0.heap.size w0 w0.drew:=bo.drew;go_wp2_with fail;refine DZ ?_;refine D0 (S:=fun w'=>w'.cell? ⟨w.heap.size,0,none⟩=some (.bool sv.neg)∧w'.cell? ⟨w.heap.size,1,none⟩=some (.slice sv.a sv.la.length sv.ca)∧w'.cell? ⟨w.heap.size,2,none⟩=some (.slice sv.b sv.lb.length sv.cb)∧Below w0.heap.size w0 w') (by kernel_rfl) (hS _ dS) (fun d=>?_);refine pE 0 1 2 3 4 5 6 7 d ?_;refine fA 9 11 d ?_;refine aV 8 rfl fun K hK=>?_;go_simp;have g:Below w0.heap.size w0 w0.drew:=(DY _ _).drew;replace hn:=hn.below g;replace hm:=hm.below g;replace h:=h.below g;replace hv:=hv.below g;replace bT:=Di bT g;replace bo:=Di bo g;have f:=sE (n:=ds.length) (w:=w0.drew) (by omega);go_at_call 57;refine (f).mono ?_;rintro e u1 ⟨A1,c1,rfl,b8,t⟩;replace hn:=hn.below t;replace hm:=hm.below t;replace h:=h.below t;replace hv:=hv.below t;replace bT:=Di bT t;replace bo:=Di bo t;clear f;go_wp2_with fail;refine hK.out _ _ (hS _ bo) (fun d=>?_)
   clear hK K;(try simp only[aq]);refine aV 10 rfl fun K hK=>?_;go_simp;have f:=zS b8 h D.out (by omega) (by omega);go_at_call 60;refine (f).mono ?_;rintro e u2 ⟨vd,rfl,m,y⟩;replace hn:=hn.below y;replace hm:=hm.below y;replace h:=h.below y;replace hv:=hv.below y;replace bT:=Di bT y;replace bo:=Di bo y;clear f;clear b8;go_wp2_with fail;refine hK.out _ _ (hS _ bo) (fun d=>?_);clear hK K;(try simp only[aq]);refine aV 12 rfl fun K hK=>?_;go_simp;have f:=io m hv bc.out b1.out (by omega);rw[hc.out] at f;go_at_call 67;refine (f).mono ?_;rintro e u3 ⟨rfl,x⟩;replace hn:=hn.below x;replace hm:=hm.below x;replace h:=h.below x;replace m:=m.below x;replace bT:=Di bT x;replace bo:=Di bo x;clear f;clear m;go_wp2_with fail;refine hK.out _ _ (hS _ bo) (fun d=>?_);clear hK K;(try simp only[aq]);refine fA 13 14 d ?_;refine D7 (by kernel_rfl) ?_ _;refine D1 ?_;(try go_simp);clear d;clear hS dS bo
   rcases b with _ | _
   · have b9:=Dj (bd.out rfl);go_wp2;go_ret;exact⟨by rw[b9.out];rfl,bT⟩
   have z:=Dj (b2.out rfl);clear hB;go_wp2_with fail;refine (p7 hE hn hm).mono ?_;rintro e u4 ⟨A2,c2,ls,rfl,M,T,U⟩;replace h:=h.below U;replace bT:=Di bT U;obtain⟨wo,bb⟩:∃ wo:World,wo=u4:=⟨_,rfl⟩;subst bb;have bz:=M.1.1;have bv:=M.1.2.1;have Z:=Dj (show (br ns ms).all (mK qs)=ls.all (fun l=>mK qs l.p) by rw[←T.out,List.all_map];rfl);have H:=bT;clear bT;go_wp2
   go_loopw [10] (fun i wr=>lY (fun l:LmD=>mK qs l.p) ls wo i wr) (fun i _=>ls.length-(intOf i).toNat)
   case atStart=>exact⟨0,by omega,rfl,rfl,DY _ _⟩
   case round =>
    obtain⟨k,hk,rfl,F,j⟩:=hrel
    by_cases hkl:k<ls.length
    · have c9:(k:Int)<(ls.length:Int):=by omega
      obtain⟨a,l,rfl,bg,bm,bn,I,O⟩:=(M.below j).at hkl;have bq:=Dj (show (l.zs,l.b)∈br ns ms by rw[←T.out];exact DU.2 ⟨l,Dm O.out,rfl⟩);have s:=Dj (p9 hE bq.out);have G:=Dj (show (a.add (k*2)).block<wr.heap.size by rw[ac];exact bg);have b3:=Dj (show Fits (1+12*(2+K+1)) (aB (dy l.zs qs)) by rw[←E.out];exact lQ s.out.2.2 D.out (by have:=s.out.1;dsimp only at this;omega));have bf:=Dj (show Fits 2 (l.b:Rat) from fd (by have:=s.out.2.1;omega));obtain⟨c,b5⟩:∃ c,Hid (bH (aB (dy l.zs qs)) (l.b:Rat)=c):=⟨_,rfl⟩;obtain⟨u,hu⟩:∃ u,Hid (mK qs l.p=u):=⟨_,rfl⟩
      have Y:decide (c<0)=!u:=by
       rw[←hu.out,←b5.out];unfold mK LmD.p;rw[Bool.not_not];exact decide_eq_decide.2 cmpR_neg
      have hF:=h.below j;go_upto_region 7 with fail;have bT:=DY wr.heap.size wr
      have hS:∀ w',Below wr.heap.size wr w'→w'.cell? (a.add (k*2))=some (.slice l.a l.zs.length l.c)∧w'.cell? ⟨(a.add (k*2)).block,(a.add (k*2)).off+1,none⟩=some (.int .i64 l.b)∧Below wr.heap.size wr w':=by
       intro w' o;exact⟨(o.cell G.out).trans bm,(o.cell (by exact G.out)).trans bn,o⟩
      have bo:Below wr.heap.size wr wr:=DY _ _;have dS:Below wr.heap.size wr wr.drew:=bo.drew;go_wp2_with fail;refine DZ ?_;refine D0 (S:=fun w'=>w'.cell? (a.add (k*2))=some (.slice l.a l.zs.length l.c)∧w'.cell? ⟨(a.add (k*2)).block,(a.add (k*2)).off+1,none⟩=some (.int .i64 l.b)∧Below wr.heap.size wr w') (by kernel_rfl) (hS _ dS) (fun d=>?_);refine pE 0 1 2 3 4 5 7 8 d ?_;refine fA 9 10 d ?_;refine dQ 11 rfl d ?_;refine aV 6 rfl fun K hK=>?_;go_simp;have g:Below wr.heap.size wr wr.drew:=(DY _ _).drew;replace I:=I.below g;replace hF:=hF.below g;replace bT:=Di bT g;replace bo:=Di bo g;have f:=lR I hF D.out s.out.2.2 (by omega) (by have:=s.out.1;have:=R.out;omega) (by omega);rw[E.out] at f;go_at_call 60;refine (f).mono ?_;rintro e m1 ⟨vd,rfl,m,X⟩;replace bT:=Di bT X;replace bo:=Di bo X;clear f;go_wp2_with fail;refine hK.out _ _ (hS _ bo) (fun d=>?_);clear hK K;(try simp only[aq]);refine aV 12 rfl fun K hK=>?_;go_simp;have f:=aO l.b (m1) (by have:=s.out.2.1;omega) (by have:=s.out.2.1;omega)
      go_at_call 11;refine (f).mono ?_;rintro e m2 ⟨vk,rfl,bx,L⟩;replace m:=m.below L;replace bT:=Di bT L;replace bo:=Di bo L;clear f;go_wp2_with fail;refine hK.out _ _ (hS _ bo) (fun d=>?_);clear hK K;(try simp only[aq]);refine aV 13 rfl fun K hK=>?_;go_simp;have f:=io m bx b3.out bf.out (by omega);rw[b5.out] at f;go_at_call 67;refine (f).mono ?_;rintro e m3 ⟨rfl,b6⟩;replace bT:=Di bT b6;replace bo:=Di bo b6;clear f;go_wp2_with fail;refine hK.out _ _ (hS _ bo) (fun d=>?_);clear hK K;(try simp only[aq]);refine dQ 14 rfl d ?_;refine D7 (by kernel_rfl) ?_ _;refine D1 ?_;(try go_simp);clear d;clear hS dS bo
      rcases u with _ | _
      · have V:decide (c<0)=true:=Y;have hr:=Dj (show r=false by rw[z.out,Z.out];exact iX O.out hu.out);go_wp2;go_ret;exact⟨by rw[hr.out];rfl,H.trans (((Di j bT)).mono H.size)⟩
      have V:decide (c<0)=false:=Y;have N:=Dj (ju F.out O.out hu.out);have b7:=Di j bT;go_wp2;go_roundw
      case rel=>exact⟨k+1,by omega,by go_num,N,b7⟩
      case measure=>simp[intOf];omega
    · obtain rfl:k=ls.length:=by omega
      have c0:decide ((ls.length:Int)<(ls.length:Int))=false:=Du (by omega);have hr:=Dj (show r=true by rw[z.out,Z.out];have:=F.out;rwa [List.take_length] at this);go_wp2;go_ret;exact⟨by rw[hr.out];rfl,(Di H j)⟩
 · have h5:((ds.length:Int) != (ms.length:Int))=true:=by rw[bne_iff_ne];omega
   have bs:=Dj (show r=false by rw[←hr.out];unfold jM;rw[Du (by rw[Dr];exact hlm0)];rfl);clear hlm0;have f0:=hB.f0;have f1:=hB.f1;have f2:=hB.f2;go_enter Tryz.func66,Tryz.ntmps66;go_upto_region 1 with fail
   go_quiet (fail)
   go_wp2;go_ret;exact⟨by rw[bs.out];rfl,Below.drewN b0 _⟩
theorem qu {K i:Nat}{B:Option Addr}{cb:Nat}{ns:List NdD}{x:PtD}{w:World}(hn0:NL w B cb ns) (hx0:PtL w x) (hp:∀ d∈ns,0≤d.p∧d.p<256) (hn20:ns.length≤20) (hi8:i≤8) (hml:x.mults.ds.length=ns.length) (hil:i<x.low.ds.length) (hih:i<x.high.ds.length) (hfx:PtF K x) (hK0:0<K) (hK:K≤10000000) :
 Calls Tryz.prog 63 #[.slice B ns.length cb,x.v,.int .i64 (i:Int)] w (ie (x.lev.q+x.low.qs.getD i 0-x.high.qs.getD i 0+aB (cC ns x.mults.qs i)) w):=by
 obtain⟨w0,g1,b0,l0,B0⟩:=ag w #[.slice x.pay.a x.pay.ds.length x.pay.c,.slice x.mults.a x.mults.ds.length x.mults.c,.slice x.low.a x.low.ds.length x.low.c,.slice x.high.a x.high.ds.length x.high.c,.bool x.lev.neg,.slice x.lev.a x.lev.la.length x.lev.ca,.slice x.lev.b x.lev.lb.length x.lev.cb] 34;obtain⟨w1,g4,b1,l1,B1⟩:=ag w0 #[.bool false,.slice none 0 0,.slice none 0 0] 28;have b5:=Di b0 b1;have hX:=Ea B0 b1;have hn:=hn0.below b5;have hx:=hx0.below b5;clear hn0 hx0 B0;have g7:=hn.len;have gb:=hx.low.len;have fv:=hx.high.len;have gm:=hx.mults.len;obtain⟨al,dl,el,f3,db,d8,dk,H,cx⟩:=hx.low.at hil;obtain⟨ah,dh,eh,f9,d1,cl,d3,s,cv⟩:=hx.high.at hih;obtain⟨fs,b4⟩:∃ fs,Hid (cC ns x.mults.qs i=fs):=⟨_,rfl⟩;have b7:=Dj (show fs.length=ns.length by rw[←b4.out,fM]);have d4:=Dj (show QFits K fs by rw[←b4.out];exact iE hK0 hfx.mults);obtain⟨bq,X⟩:∃ b,Hid (x.lev.q+dl.q-dh.q=b):=⟨_,rfl⟩;have G:=Dj hfx.lev;have F:=Dj (show Fits K dl.q from hfx.low.fr' dl cx.out);have U:=Dj (show Fits K dh.q from hfx.high.fr' dh cv.out);have cg:=Dj (show Fits (K+K+1+K+1) bq by rw[←X.out];exact (G.out.add F.out).sub U.out);have I:=hx.lev;have c4:w1.cell? ⟨w.heap.size,4,none⟩=some (.bool x.lev.neg):=D9 hX 4
 have c5:w1.cell? ⟨w.heap.size,5,none⟩=some (.slice x.lev.a x.lev.la.length x.lev.ca):=D9 hX 5;have c6:w1.cell? ⟨w.heap.size,6,none⟩=some (.slice x.lev.b x.lev.lb.length x.lev.cb):=D9 hX 6;have c2:w1.cell? ⟨w.heap.size,2,none⟩=some (.slice (some al) x.low.ds.length x.low.c):=by rw[←el];exact D9 hX 2
 have c3:w1.cell? ⟨w.heap.size,3,none⟩=some (.slice (some ah) x.high.ds.length x.high.c):=by rw[←eh];exact D9 hX 3
 have c1:w1.cell? ⟨w.heap.size,1,none⟩=some (.slice x.mults.a x.mults.ds.length x.mults.c):=D9 hX 1;have f:=Dj (show w.heap.size<w1.heap.size from Dn l0 b1.size);have l:=Dj (show (al.add (i*3)).block<w1.heap.size by rw[ac];exact f3);have m:=Dj (show (ah.add (i*3)).block<w1.heap.size by rw[ac];exact f9);have c8:=Dj (show w.heap.size≤w0.heap.size∧w0.heap.size<w1.heap.size from ⟨b0.size,l1⟩);have fq:=Dj hp;have b8:=Dj hml;have cs:=Dj hfx;clear hp hfx hX hml;have g0:(i:Int)<(x.low.ds.length:Int):=by omega
 have ft:(i:Int)<(x.high.ds.length:Int):=by omega
 rw[RwD.getD cx.out,RwD.getD cv.out,b4.out,X.out];have l0:=db;have l1:=d8;have l2:=dk;have h0:=d1;have h1:=cl;have h2:=d3;clear db d8 dk d1 cl d3 el eh;go_enter Tryz.func63,Tryz.ntmps63;go_upto_region 1 with fail
 go_cut [7] (fun p wx=>∃ (g:Nat) (t:FrD),p=.pointer (some ⟨g,0,none⟩)∧VarQ wx g t∧FV wx t.v t.q∧Hid (t.q=bq)∧Below w1.heap.size w1 wx∧w1.heap.size≤g)
 case first =>
  have bT:=DY w1.heap.size w1;have D:Below w1.heap.size w1 w1.drew:=(DY _ _).drew;replace I:=I.below D;replace H:=H.below D;replace s:=s.below D;replace bT:=Di bT D;clear D;go_wp2_with fail;refine DZ ?_;refine aw (J:=[15]) (S:=fun w'=>w'.cell? ⟨w.heap.size,4,none⟩=some (.bool x.lev.neg)∧w'.cell? ⟨w.heap.size,5,none⟩=some (.slice x.lev.a x.lev.la.length x.lev.ca)∧w'.cell? ⟨w.heap.size,6,none⟩=some (.slice x.lev.b x.lev.lb.length x.lev.cb)∧w'.cell? ⟨w.heap.size,2,none⟩=some (.slice (some al) x.low.ds.length x.low.c)∧w'.cell? ⟨w.heap.size,3,none⟩=some (.slice (some ah) x.high.ds.length x.high.c)∧w'.cell? (al.add (i*3))=some (.bool dl.neg)∧w'.cell? ⟨(al.add (i*3)).block,(al.add (i*3)).off+1,none⟩=some (.slice dl.a dl.la.length dl.ca)∧w'.cell? ⟨(al.add (i*3)).block,(al.add (i*3)).off+2,none⟩=some (.slice dl.b dl.lb.length dl.cb)∧w'.cell? (ah.add (i*3))=some (.bool dh.neg)∧w'.cell? ⟨(ah.add (i*3)).block,(ah.add (i*3)).off+1,none⟩=some (.slice dh.a dh.la.length dh.ca)∧w'.cell? ⟨(ah.add (i*3)).block,(ah.add (i*3)).off+2,none⟩=some (.slice dh.b dh.lb.length dh.cb)) (by kernel_rfl) (⟨(bT.cell (by exact f.out)).trans c4,(bT.cell (by exact f.out)).trans c5,(bT.cell (by exact f.out)).trans c6,(bT.cell (by exact f.out)).trans c2,(bT.cell (by exact f.out)).trans c3,(bT.cell (by exact l.out)).trans l0,(bT.cell (by exact l.out)).trans l1,(bT.cell (by exact l.out)).trans l2,(bT.cell (by exact m.out)).trans h0,(bT.cell (by exact m.out)).trans h1,(bT.cell (by exact m.out)).trans h2⟩) (fun h=>?_)
  refine mN 0 1 2 3 4 5 6 8 h ?_;refine py 9 10 11 12 h ?_;refine aj (rs:=[7,14]) (by kernel_rfl) (by simp) ?_;refine Ef rfl (fun K hK=>?_) ?_
  · go_simp;have o:=eX I H G.out F.out (by omega);go_at_call 62;refine (o).mono ?_;rintro e u1 ⟨v1,rfl,C,O⟩;clear o;replace I:=I.below O;replace H:=H.below O;replace s:=s.below O;replace bT:=Di bT O;go_wp2_with fail;refine hK.out _ _ (⟨(bT.cell (by exact f.out)).trans c4,(bT.cell (by exact f.out)).trans c5,(bT.cell (by exact f.out)).trans c6,(bT.cell (by exact f.out)).trans c2,(bT.cell (by exact f.out)).trans c3,(bT.cell (by exact l.out)).trans l0,(bT.cell (by exact l.out)).trans l1,(bT.cell (by exact l.out)).trans l2,(bT.cell (by exact m.out)).trans h0,(bT.cell (by exact m.out)).trans h1,(bT.cell (by exact m.out)).trans h2⟩) (fun h=>?_);clear hK K;(try simp only[aq]);refine aj (rs:=[13,14]) (by kernel_rfl) (by simp) ?_;refine Ef rfl (fun K hK=>?_) ?_
    · go_simp;have o:=dF C s (G.out.add F.out) U.out (by omega);go_at_call 59;refine (o).mono ?_;rintro e u2 ⟨v2,rfl,L,bs⟩;clear o;replace s:=s.below bs;replace C:=C.below bs;replace bT:=Di bT bs;obtain⟨y,rfl,hy,N⟩:=L.frd;clear L C;go_wp2_with fail;refine hK.out _ _ (⟨(bT.cell (by exact f.out)).trans c4,(bT.cell (by exact f.out)).trans c5,(bT.cell (by exact f.out)).trans c6,(bT.cell (by exact f.out)).trans c2,(bT.cell (by exact f.out)).trans c3,(bT.cell (by exact l.out)).trans l0,(bT.cell (by exact l.out)).trans l1,(bT.cell (by exact l.out)).trans l2,(bT.cell (by exact m.out)).trans h0,(bT.cell (by exact m.out)).trans h1,(bT.cell (by exact m.out)).trans h2⟩) (fun h=>?_);clear hK K;(try simp only[aq]);refine dg 14 rfl fun K hK=>?_;have A:=bT.size;obtain⟨u3,fx,bg,gc,d5⟩:=ag u2 #[.bool false,.slice none 0 0,.slice none 0 0] 28;replace s:=s.below bg;replace hy:=hy.below bg;replace bT:=Di bT bg;have hX:=d5;clear d5;go_simp;refine hK.out _ _ (⟨(bT.cell (by exact f.out)).trans c4,(bT.cell (by exact f.out)).trans c5,(bT.cell (by exact f.out)).trans c6,(bT.cell (by exact f.out)).trans c2,(bT.cell (by exact f.out)).trans c3,(bT.cell (by exact l.out)).trans l0,(bT.cell (by exact l.out)).trans l1,(bT.cell (by exact l.out)).trans l2,(bT.cell (by exact m.out)).trans h0,(bT.cell (by exact m.out)).trans h1,(bT.cell (by exact m.out)).trans h2⟩) (fun h=>?_)
      clear hK K;(try simp only[aq]);refine aj (rs:=[15]) (by kernel_rfl) (by simp) ?_;refine Ee rfl (by decide) (fun K hK=>?_) Ed;obtain⟨w9,p0,p1,p2,r0,r1,r2,e9,R,o9⟩:=aF hX y;go_simp;refine hK.out _ _ ?_;clear hK K;(try clear h);(try simp only[aq]);refine au (by kernel_rfl) ?_ _;refine D1 ?_;(try go_simp);(try clear h);have M:=hy.only_blk hX (ar _ _ _ _ _ _ _) o9;have b9:=o9.to_below bT A bT.size;have T:=Dj (show y.q=bq by rw[N.out,X.out]);go_wp2_with fail;go_meet;exact⟨_,y,rfl,R,M,T,b9,A⟩
    refine Ef rfl (fun K hK=>?_) ?_
    · have A:=bT.size;obtain⟨u4,g8,bm,fz,d0⟩:=ag u1 #[.bool false,.slice none 0 0,.slice none 0 0] 28;replace s:=s.below bm;replace C:=C.below bm;replace bT:=Di bT bm;have hX:=d0;clear d0;go_simp;refine hK.out _ _ (⟨(bT.cell (by exact f.out)).trans c4,(bT.cell (by exact f.out)).trans c5,(bT.cell (by exact f.out)).trans c6,(bT.cell (by exact f.out)).trans c2,(bT.cell (by exact f.out)).trans c3,(bT.cell (by exact l.out)).trans l0,(bT.cell (by exact l.out)).trans l1,(bT.cell (by exact l.out)).trans l2,(bT.cell (by exact m.out)).trans h0,(bT.cell (by exact m.out)).trans h1,(bT.cell (by exact m.out)).trans h2⟩) (fun h=>?_);clear hK K;(try simp only[aq]);refine dg 13 rfl fun K hK=>?_;go_simp;have o:=dF C s (G.out.add F.out) U.out (by omega);go_at_call 59;refine (o).mono ?_;rintro e u5 ⟨v2,rfl,L,d7⟩;clear o;replace hX:=hX.keep d7;replace bT:=Di bT d7;obtain⟨y,rfl,hy,N⟩:=L.frd;clear L C;go_wp2_with fail;refine hK.out _ _ (⟨(bT.cell (by exact f.out)).trans c4,(bT.cell (by exact f.out)).trans c5,(bT.cell (by exact f.out)).trans c6,(bT.cell (by exact f.out)).trans c2,(bT.cell (by exact f.out)).trans c3,(bT.cell (by exact l.out)).trans l0,(bT.cell (by exact l.out)).trans l1,(bT.cell (by exact l.out)).trans l2,(bT.cell (by exact m.out)).trans h0,(bT.cell (by exact m.out)).trans h1,(bT.cell (by exact m.out)).trans h2⟩) (fun h=>?_)
      clear hK K;(try simp only[aq]);refine aj (rs:=[15]) (by kernel_rfl) (by simp) ?_;refine Ee rfl (by decide) (fun K hK=>?_) Ed;obtain⟨w9,p0,p1,p2,r0,r1,r2,e9,R,o9⟩:=aF hX y;go_simp;refine hK.out _ _ ?_;clear hK K;(try clear h);(try simp only[aq]);refine au (by kernel_rfl) ?_ _;refine D1 ?_;(try go_simp);(try clear h);have M:=hy.only_blk hX (ar _ _ _ _ _ _ _) o9;have b9:=o9.to_below bT A bT.size;have T:=Dj (show y.q=bq by rw[N.out,X.out]);go_wp2_with fail;go_meet;exact⟨_,y,rfl,R,M,T,b9,A⟩
    exact Ed
  refine Ef rfl (fun K hK=>?_) ?_
  · have A:=bT.size;obtain⟨u6,gk,b6,g6,Z⟩:=ag w1.drew #[.bool false,.slice none 0 0,.slice none 0 0] 28;replace Z:Blk u6 w1.heap.size 28 #[.bool false,.slice none 0 0,.slice none 0 0]:=Z;replace I:=I.below b6;replace H:=H.below b6;replace s:=s.below b6;replace bT:=Di bT b6;have hX:=Z;clear Z;go_simp;refine hK.out _ _ (⟨(bT.cell (by exact f.out)).trans c4,(bT.cell (by exact f.out)).trans c5,(bT.cell (by exact f.out)).trans c6,(bT.cell (by exact f.out)).trans c2,(bT.cell (by exact f.out)).trans c3,(bT.cell (by exact l.out)).trans l0,(bT.cell (by exact l.out)).trans l1,(bT.cell (by exact l.out)).trans l2,(bT.cell (by exact m.out)).trans h0,(bT.cell (by exact m.out)).trans h1,(bT.cell (by exact m.out)).trans h2⟩) (fun h=>?_);clear hK K;(try simp only[aq]);refine dg 7 rfl fun K hK=>?_;go_simp;have o:=eX I H G.out F.out (by omega);go_at_call 62;refine (o).mono ?_;rintro e u7 ⟨v1,rfl,C,bn⟩;clear o;replace s:=s.below bn;replace hX:=hX.keep bn;replace bT:=Di bT bn;go_wp2_with fail;refine hK.out _ _ (⟨(bT.cell (by exact f.out)).trans c4,(bT.cell (by exact f.out)).trans c5,(bT.cell (by exact f.out)).trans c6,(bT.cell (by exact f.out)).trans c2,(bT.cell (by exact f.out)).trans c3,(bT.cell (by exact l.out)).trans l0,(bT.cell (by exact l.out)).trans l1,(bT.cell (by exact l.out)).trans l2,(bT.cell (by exact m.out)).trans h0,(bT.cell (by exact m.out)).trans h1,(bT.cell (by exact m.out)).trans h2⟩) (fun h=>?_)
    clear hK K;(try simp only[aq]);refine dg 13 rfl fun K hK=>?_;go_simp;have o:=dF C s (G.out.add F.out) U.out (by omega);go_at_call 59;refine (o).mono ?_;rintro e u8 ⟨v2,rfl,L,ch⟩;clear o;replace hX:=hX.keep ch;replace bT:=Di bT ch;obtain⟨y,rfl,hy,N⟩:=L.frd;clear L C;go_wp2_with fail;refine hK.out _ _ (⟨(bT.cell (by exact f.out)).trans c4,(bT.cell (by exact f.out)).trans c5,(bT.cell (by exact f.out)).trans c6,(bT.cell (by exact f.out)).trans c2,(bT.cell (by exact f.out)).trans c3,(bT.cell (by exact l.out)).trans l0,(bT.cell (by exact l.out)).trans l1,(bT.cell (by exact l.out)).trans l2,(bT.cell (by exact m.out)).trans h0,(bT.cell (by exact m.out)).trans h1,(bT.cell (by exact m.out)).trans h2⟩) (fun h=>?_);clear hK K;(try simp only[aq]);refine aj (rs:=[15]) (by kernel_rfl) (by simp) ?_;refine Ee rfl (by decide) (fun K hK=>?_) Ed;obtain⟨w9,p0,p1,p2,r0,r1,r2,e9,R,o9⟩:=aF hX y;go_simp;refine hK.out _ _ ?_;clear hK K;(try clear h);(try simp only[aq]);refine au (by kernel_rfl) ?_ _;refine D1 ?_;(try go_simp);(try clear h);have M:=hy.only_blk hX (ar _ _ _ _ _ _ _) o9;have b9:=o9.to_below bT A bT.size
    have T:=Dj (show y.q=bq by rw[N.out,X.out]);go_wp2_with fail;go_meet;exact⟨_,y,rfl,R,M,T,b9,A⟩
  exact Ed
 case rest =>
  obtain⟨g,t0,rfl,cd,d2,bd,bc,hg⟩:=hcut;clear l0 l1 l2 h0 h1 h2 c4 c5 c6 c2 c3 I H s;have bf:=Dj (show t0.q=bq+aB (fs.take 0) by rw[bd.out,List.take_zero,gH,Rat.add_zero]);clear bd;go_wp2
  go_loopw [8] (fun v wr=>∃ j:Nat,j≤ns.length∧v=.int .i64 (j:Int)∧∃ t,VarQ wr g t∧FV wr t.v t.q∧Hid (t.q=bq+aB (fs.take j))∧Below w1.heap.size w1 wr) (fun v _=>ns.length-(intOf v).toNat)
  case atStart=>exact⟨0,by omega,rfl,t0,cd,d2,bf,bc⟩
  case round =>
   clear cd d2 bf bc;obtain⟨j,hj,rfl,t,hT,ht,Y,r⟩:=hrel
   by_cases hjl:j<ns.length
   · have g9:(j:Int)<(ns.length:Int):=by omega
     have g2:(j:Int)<(x.mults.ds.length:Int):=by have:=b8.out;omega
     obtain⟨a,nd,ea,g5,d9,cr,c0⟩:=(hn.below r).at hjl;rw[ea];have cz:=fq.out nd (Dm c0.out);obtain⟨dp,g3⟩:=nd
     dsimp only at cz d9 cr
     obtain⟨pn,dt⟩:∃ n:Nat,dp=(n:Int):=⟨dp.toNat,by omega⟩;subst dt;have bo:pn<256:=by omega
     clear cz;have dx:=Dj (show kP ns j=pn by unfold kP;rw[Dk,c0.out];rfl);have c9:=Dj (show fs[j]?=some (if eQ pn i=true then x.mults.qs.getD j 0 else 0) by rw[←b4.out,jt hjl,dx.out]);obtain⟨z,hz⟩:∃ z,Hid (nK pn i=z):=⟨_,rfl⟩;have o:=tq (w:=wr) bo hi8;rw[hz.out] at o;go_wp2_with fail;refine o.mono ?_;rintro e wb ⟨rfl,bb⟩;clear o d9 cr;replace hT:=hT.below bb;replace ht:=ht.below bb;replace r:=Di r bb;obtain⟨b3,c7⟩:∃ x,x=wb:=⟨_,rfl⟩;subst c7
     cases hb:eQ pn i with
     | false =>
      have V:=Dj (show fs[j]?=some 0 by rw[c9.out,hb];rfl);have fl:(z == 1)=false:=by rw[←hz.out];unfold nK;rw[hb];rfl
      have bz:=Dj (show t.q=bq+aB (fs.take (j+1)) by rw[dG V.out,Rat.add_zero];exact Y.out);clear hb;go_wp2;go_roundw
      case rel=>exact⟨j+1,by omega,by go_num,t,hT,ht,bz,r⟩
      case measure=>simp[intOf];omega
     | true =>
      have V:=Dj (show fs[j]?=some (x.mults.qs.getD j 0) by rw[c9.out,hb];rfl);have fl:(z == 1)=true:=by rw[←hz.out];unfold nK;rw[hb];rfl
      clear hb;obtain⟨am,dm,em,f4,dr,bx,bv,b2,cq⟩:=(hx.mults.below r).at (k:=j) (by have:=b8.out;omega);have d6:=Dj (show Fits K dm.q from cs.out.mults.fr' dm cq.out);have fb:=Dj (show Fits (K+K+1+K+1+(1+20*(K+1))+1) t.q by rw[Y.out];exact cg.out.add (cT (n:=20) d4.out (by rw[b7.out];exact hn20) j));have cm:=Dj (show w.heap.size<b3.heap.size from Dn f.out r.size);have E:=Dj (show (am.add (j*3)).block<b3.heap.size by rw[ac];exact f4);have cy:b3.cell? ⟨w.heap.size,1,none⟩=some (.slice (some am) x.mults.ds.length x.mults.c):=by rw[←em];exact (r.cell (by exact f.out)).trans c1
      obtain⟨wr,fr⟩:∃ x,x=b3:=⟨_,rfl⟩;subst fr;go_upto_region 6 with fail;have bT:=DY wr.heap.size wr;have D:Below wr.heap.size wr wr.drew:=(DY _ _).drew;replace hT:=hT.below D;replace ht:=ht.below D;replace b2:=b2.below D;replace bT:=Di bT D;clear D;go_wp2_with fail;refine DZ ?_;refine aw (J:=[7]) (S:=fun w'=>w'.cell? ⟨g,0,none⟩=some (.bool t.neg)∧w'.cell? ⟨g,1,none⟩=some (.slice t.a t.la.length t.ca)∧w'.cell? ⟨g,2,none⟩=some (.slice t.b t.lb.length t.cb)∧w'.cell? ⟨w.heap.size,1,none⟩=some (.slice (some am) x.mults.ds.length x.mults.c)∧w'.cell? (am.add (j*3))=some (.bool dm.neg)∧w'.cell? ⟨(am.add (j*3)).block,(am.add (j*3)).off+1,none⟩=some (.slice dm.a dm.la.length dm.ca)∧w'.cell? ⟨(am.add (j*3)).block,(am.add (j*3)).off+2,none⟩=some (.slice dm.b dm.lb.length dm.cb)) (by kernel_rfl) (⟨hT.cells.1,hT.cells.2.1,hT.cells.2.2,(bT.cell (by exact cm.out)).trans cy,(bT.cell (by exact E.out)).trans dr,(bT.cell (by exact E.out)).trans bx,(bT.cell (by exact E.out)).trans bv⟩) (fun h=>?_);refine py 0 1 2 3 h ?_;refine kB 4 5 h ?_;refine dg 6 rfl fun K hK=>?_;go_simp;have o:=eX ht b2 fb.out d6.out (by omega);go_at_call 62
      refine (o).mono ?_;rintro e u1 ⟨va,rfl,dq,O⟩;clear o;replace hT:=hT.below O;replace bT:=Di bT O;obtain⟨y,rfl,hy,N⟩:=dq.frd;clear dq;obtain⟨w9,q0,q1,q2,f0,f1,f2,e9,R,o9⟩:=hT.store y;go_wp2_with fail;refine hK.out _ _ (⟨hT.cells.1,hT.cells.2.1,hT.cells.2.2,(bT.cell (by exact cm.out)).trans cy,(bT.cell (by exact E.out)).trans dr,(bT.cell (by exact E.out)).trans bx,(bT.cell (by exact E.out)).trans bv⟩) (fun h=>?_);clear hK K;(try simp only[aq]);refine aj (rs:=[7]) (by kernel_rfl) (by simp) ?_;refine Ee rfl (by decide) (fun K hK=>?_) Ed;go_simp;refine hK.out _ _ ?_;clear hK K;(try clear h);(try simp only[aq]);refine au (by kernel_rfl) ?_ _;refine D1 ?_;(try go_simp);(try clear h);have M:=hy.onlyV hT o9;have b9:=o9.to_below ((Di r bT)) hg (Ds r.size bT.size);have T:=Dj (show y.q=bq+aB (fs.take (j+1)) by rw[N.out,Y.out,dG V.out,RwD.getD cq.out,Rat.add_assoc]);clear hT ht b2 hy o9 bT;go_wp2;go_roundw
      case rel=>exact⟨j+1,by omega,by go_num,y,R,M,T,b9⟩
      case measure=>simp[intOf];omega
   · obtain rfl:j=ns.length:=by omega
     have t1:decide ((ns.length:Int)<(ns.length:Int))=false:=Du (by omega);obtain⟨x0,x1,x2⟩:=hT.cells;have hB:=Ea B1 r;obtain⟨w9,p0,p1,p2,r0,r1,r2,e9,h9,o9⟩:=aF hB t;obtain⟨y0,y1,y2⟩:=h9.cells;have fm:=ht.only_blk hB (ar _ _ _ _ _ _ _) o9;have f5:=o9.to_below ((Di b5 r)) c8.out.1 (Ds b5.size r.size);have f6:=Dj (show t.q=bq+aB fs by rw[Y.out,Dp (by rw[b7.out];exact Dt _)]);clear hB hT ht;go_wp2;refine D4 (v:=aZ t.neg t.a t.la.length t.ca t.b t.lb.length t.cb) (by simp[results,Tryz.results63,go_sem,y0,y1,y2]) rfl ?_;exact⟨_,rfl,by rw[←f6.out];exact fm,f5⟩
section
variable {tg mults low high pay:List Rat}{ns:List NdD}{ms:List Int}{sum lev:Rat}
theorem AU (h:low.length≠ms.length):fi tg ns ms sum pay mults low high lev=false:=by unfold fi;rw[Du h];rfl
theorem AT (h:high.length≠ms.length):fi tg ns ms sum pay mults low high lev=false:=by unfold fi;rw[Du h];simp
theorem AS (h:mults.length≠ns.length):fi tg ns ms sum pay mults low high lev=false:=by unfold fi;rw[Du h];simp
theorem AR (h:jM ns ms sum pay=false):fi tg ns ms sum pay mults low high lev=false:=by unfold fi;rw[h];simp
theorem uX {k:Nat}(hk:k<(br ns ms).length) (h:kK ns ms pay (mults++(low++high)) k=false):fi tg ns ms sum pay mults low high lev=false:=by
 have e:(List.range (br ns ms).length).all (kK ns ms pay (mults++(low++high)))=false:=List.all_eq_false.2 ⟨k,DT.2 hk,by rw[h];decide⟩
 unfold fi;rw[e];simp
theorem AQ {k:Nat}(hk:k<ms.length) (h:gY ns tg pay mults low high lev k=false):fi tg ns ms sum pay mults low high lev=false:=by
 have e:(List.range ms.length).all (gY ns tg pay mults low high lev)=false:=List.all_eq_false.2 ⟨k,DT.2 hk,by rw[h];decide⟩
 unfold fi;rw[e];simp
theorem AP (h1:low.length=ms.length) (h2:high.length=ms.length) (h3:mults.length=ns.length) (h4:jM ns ms sum pay=true) (h5:AllI (kK ns ms pay (mults++(low++high))) (br ns ms).length) (h6:AllI (gY ns tg pay mults low high lev) ms.length):fi tg ns ms sum pay mults low high lev=true:=by
 unfold fi;rw[Dv h1,Dv h2,Dv h3,h4,h5.all,h6.all];rfl
end
theorem wM {q:Rat}{b:Bool}(h:bH q 0=-1):bL q b=false:=by
 have h1:q<0:=cmpR_neg.1 (by omega);have h2:¬ q=0:=fun e=>absurd h1 (by rw[e];decide);have h3:¬ 0<q:=by grind
 unfold bL;rw[Du h2,Du h3];simp
theorem tK {q:Rat}{b:Bool}(h:bH q 0=0):bL q b=true:=by
 unfold bL;rw[Dv (cmpR_zero.1 h)];rfl
theorem pQ {q:Rat}{b:Bool}(h:bH q 0=1):bL q b=b:=by
 have h1:0<q:=cmpR_pos.1 (by omega);have h2:¬ q=0:=fun e=>absurd h1 (by rw[e];decide);unfold bL;rw[Du h2,Dv h1];simp
theorem ux (p q:Rat):bH p q=-1∨bH p q=0∨bH p q=1:=by have:=vP p q;omega
def AppAt (root:World) (ds:List FrD) (v:Value) (w:World):Prop:=OwnQ w root.heap.size v ds∧AllFV w ds∧Below root.heap.size root w
theorem AppAt.nil (w:World):AppAt w [] (.slice none 0 0) w:=⟨OwnQ.nil _ _,fun d hd=>by simp at hd,DY _ _⟩
theorem yL {w:World}{base c:Nat}{v:Value}{ds:List FrD}(h:OwnQ w base v ds):(Builtin.append_ #[22,22] 22 #[v,.slice none 0 c]).run Tryz.prog w=.ok v w:=by
 obtain⟨i,hi,b,f,d⟩:=info_parts ej
 rcases h.1.2 with ⟨rfl,h0⟩ | ⟨g,k,j,rfl,hb,hg,hn,hm,hs,ht⟩
 · simp[Builtin.append_,run_underlying Tryz.underlying22,sizeOf,typeInfo,hi,Builtin.lenOf,Builtin.firstCells,loadCells,loadCellsFrom,storeCells]
 · simp[Builtin.append_,run_underlying Tryz.underlying22,sizeOf,typeInfo,hi,Builtin.lenOf,Builtin.firstCells,loadCells,loadCellsFrom,storeCells,hn]
theorem AppAt.app {root w:World}{ds es:List FrD}{v:Value}{A:Option Addr}{c:Nat}(h:AppAt root ds v w) (hf:FL root A c es) (hl:ds.length+es.length≤1000000000) :
 ∃ v' w',(Builtin.append_ #[22,22] 22 #[v,.slice A es.length c]).run Tryz.prog w=.ok v' w'∧AppAt root (ds++es) v' w':=by
 obtain⟨h1,h2,h3⟩:=h;have hw:=hf.below h3
 cases A with
 | none =>
  have e0:es=[]:=by
   cases es with
   | nil=>rfl
   | cons d es=>obtain⟨a,d',e,-⟩:=hf.at (k:=0) (by simp);cases e
  subst e0;exact⟨v,w,yL h1,by rw[List.append_nil];exact⟨h1,h2,h3⟩⟩
 | some ad =>
  obtain⟨v',w',hr,g1,g2⟩:=iJ w root.heap.size v ds h1 ad c es (hw.cellsOf) (by omega) h3.size;have hb:Below root.heap.size root w':=h3.grown g2 h3.size fun g hg=>OwnQ.block h1 hg;refine⟨v',w',hr,g1,fun d hd=>?_,hb⟩
  rcases List.mem_append.1 hd with hd | hd
  · exact FV.row (h2 d hd) h1 g2
  · exact (hf.fv d hd).below hb
end Go.Proofs.YtjhkapjadfpimaaGreat
