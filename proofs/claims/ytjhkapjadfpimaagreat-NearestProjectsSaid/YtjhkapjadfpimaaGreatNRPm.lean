/- Contracts of functions, for the law. -/
import Derived.Test.YtjhkapjadfpimaaGreatGSub
namespace Go.Proofs.YtjhkapjadfpimaaGreat
set_option linter.unusedVariables false
set_option linter.unusedSimpArgs false
open Go.RowKit Plain
attribute [local go_sem ↓] Go.wp_at_zero Go.wp_at_succ
set_option maxRecDepth 100000
set_option maxHeartbeats 40000000
theorem dot_ones {K:Nat}{C A:Option Addr}{cc ca:Nat}{ds:List FrD}{w:World}(hz:ZL w C cc (List.replicate ds.length 1)) (h:FL w A ca ds) (hf:QFits K (ds.map FrD.q)) (hK:K≤10000000) (hl12:ds.length≤12) :
 Calls Tryz.prog 60 #[.slice C ds.length cc,.slice A ds.length ca] w (V6 (o5 (ds.map FrD.q)) w):=by
 have h1:=gD hz h hf (fun z hz=>by rw[(a3q.1 hz).2];decide) hK (by simp) hl12;have e:I7 (List.replicate ds.length 1) (ds.map FrD.q)=ds.map FrD.q:=by have:=a0o (ds.map FrD.q);rwa [a1s] at this
 rwa [e,a1p] at h1
theorem fZ {K:Nat}{zs:List Int}{qs:List Rat}(hz:∀ z∈zs,z.natAbs≤1) (hf:QFits K qs) (hl:zs.length≤12):Fits (1+12*(2+K+1)) (o5 (I7 zs qs)):=by
 have h1:=H1 (n:=12) (iQ hz hf) (by unfold I7;rw[a3o];omega) (I7 zs qs).length
 rwa [a2z] at h1
theorem nS {tl:Nat}{B C:Option Addr}{cb cc:Nat}{ns:List NdD}{ms:List Int}{w:World}(hE:argsE tl ns ms=0) (hn:NL w B cb ns) (hm:ZL w C cc ms) :
 Calls Tryz.prog 56 #[.slice B ns.length cb,.slice C ms.length cc] w (RetLm (C5 ns ms) w):=by
 obtain⟨h1,h2,h3,h4,h5⟩:=K3 hE;exact lR hn hm h1 (by omega) (fun d hd=>⟨(h5 d hd).1,by have:=(h5 d hd).2.1;have:=lD h1;omega⟩) h4
theorem kG {n i:Nat}{v:Int}(hv:v.natAbs≤1):∀ z∈J2 n i v,z.natAbs≤1:=fun z hz=>by
 unfold J2 at hz
 rcases List.mem_or_eq_of_mem_set hz with h | h
 · rw[(a3q.1 h).2];decide
 · rw[h];exact hv
theorem nU {tl:Nat}{ns:List NdD}{ms:List Int}{p:List Int × Int}(hE:argsE tl ns ms=0) (h:p∈C5 ns ms):p.1.length=ms.length∧(-1099511627776≤p.2∧p.2≤1099511627776)∧∀ z∈p.1,z.natAbs≤1:=by
 obtain⟨h1,h2,h3,h4,h5⟩:=K3 hE;unfold C5 at h
 rcases a3b.1 h with h | h
 · obtain⟨d,hd,rfl⟩:=a2v.1 h;refine⟨X7 _ _,(h5 d hd).2.2,fun z hz=>?_⟩;obtain⟨k,_,rfl⟩:=a2v.1 hz
   unfold jR;split <;> decide
 · rcases a3b.1 h with h | h
   · obtain⟨i,hi,rfl⟩:=a2v.1 h;exact⟨I4 _ _ _,(by show (-1099511627776:Int)≤0∧(0:Int)≤1099511627776;omega),kG (by decide)⟩
   · obtain⟨i,hi,rfl⟩:=a2v.1 h;have b:=a2u.1 hi;have:=h4 (ms.getD i 0) (by rw[a1l,a1m b];exact a1z b);exact⟨I4 _ _ _,by show -1099511627776≤-(ms.getD i 0)∧-(ms.getD i 0)≤1099511627776;omega,kG (by decide)⟩
theorem pY {K tl:Nat}{A B C:Option Addr}{ca cb cc:Nat}{ds:List FrD}{ns:List NdD}{ms:List Int}{v:Value}{sq:Rat}{w:World}(hE:argsE tl ns ms=0) (hn0:NL w B cb ns) (hm0:ZL w C cc ms) (hv0:FV w v sq) (h0:FL w A ca ds)
 (hf:QFits K (ds.map FrD.q)) (hfs:Fits K sq) (hK0:2≤K) (hK:K≤10000000) :
 Calls Tryz.prog 66 #[.slice B ns.length cb,.slice C ms.length cc,v,.slice A ds.length ca] w (gJ (bU ns ms sq (ds.map FrD.q)) w):=by
 obtain⟨r,hr⟩:∃ r,Hid (bU ns ms sq (ds.map FrD.q)=r):=⟨_,rfl⟩;rw[hr.out];obtain⟨sv,rfl,Y,b2⟩:=hv0.frd;obtain⟨w0,d9,b0,l0,hB⟩:=f8 w #[.bool sv.neg,.slice sv.a sv.la.length sv.ca,.slice sv.b sv.lb.length sv.cb] 28;have hn:=hn0.below b0;have hm:=hm0.below b0;have hv:=hv0.below b0;have h:=h0.below b0;clear hn0 hm0 hv0 h0 Y;have f4:=hn.len;have d7:=hm.len;have d6:=h.len;obtain⟨E1,E2,-⟩:=K3 hE;have E:=a1k hf;have b6:=a1k hfs;clear hf hfs;obtain⟨qs,D⟩:∃ qs,Hid (ds.map FrD.q=qs):=⟨_,rfl⟩
 by_cases hlm0:ds.length=ms.length
 · have L:=a1k hlm0;have h5:((ds.length:Int) != (ms.length:Int))=false:=by rw[bne_eq_false_iff_eq];omega
   clear hlm0;have h8:ds.length≤12:=by have:=L.out;omega
   have d4:=a1k (show Fits (1+12*(K+1)) (o5 (ds.map FrD.q)) by
    have h1:=H1 (n:=12) E.out (by rw[a1s];exact h8) (ds.map FrD.q).length
    rwa [a2z] at h1)
   obtain⟨c,hc⟩:∃ c,Hid (D0 (o5 (ds.map FrD.q)) sq=c):=⟨_,rfl⟩;obtain⟨b,hb⟩:∃ b,Hid (decide (o5 (ds.map FrD.q)=sq)=b):=⟨_,rfl⟩
   have d8:(c != 0)=!b:=by
    rw[←hb.out,←hc.out]
    by_cases e:o5 (ds.map FrD.q)=sq
    · rw[a1w e,cmpR_zero.2 e];rfl
    · rw[a1v e]
      show _=true
      rw[bne_iff_ne];exact fun h=>e (cmpR_zero.1 h)
   have d1:=a1k (show b=false→r=false by intro e;rw[←hr.out];unfold bU;rw[hb.out,e];simp)
   have Z:=a1k (show b=true→r=(C5 ns ms).all (iH qs) by
    intro e;rw[←hr.out];unfold bU;rw[hb.out,e,D.out,a1w (by rw[←D.out,a1s];exact L.out)];rfl)
   go_enter Tryz.func66,Tryz.ntmps66;go_upto_region 1 with fail;have bT:=b0
   have hS:∀ w',Below w0.heap.size w0 w'→w'.cell? ⟨w.heap.size,0,none⟩=some (.bool sv.neg)∧w'.cell? ⟨w.heap.size,1,none⟩=some (.slice sv.a sv.la.length sv.ca)∧w'.cell? ⟨w.heap.size,2,none⟩=some (.slice sv.b sv.lb.length sv.cb)∧Below w0.heap.size w0 w':=by
    intro w' o;have H:=a4f hB o;exact⟨H.f0,H.f1,H.f2,o⟩
   have bo:Below w0.heap.size w0 w0:=a3t _ _;have dS:Below w0.heap.size w0 w0.drew:=bo.drew;go_wp2_with fail;refine a3u ?_;refine a3v (S:=fun w'=>w'.cell? ⟨w.heap.size,0,none⟩=some (.bool sv.neg)∧w'.cell? ⟨w.heap.size,1,none⟩=some (.slice sv.a sv.la.length sv.ca)∧w'.cell? ⟨w.heap.size,2,none⟩=some (.slice sv.b sv.lb.length sv.cb)∧Below w0.heap.size w0 w') (by kernel_rfl) (hS _ dS) (fun d=>?_);refine mX 0 1 2 3 4 5 6 7 d ?_;refine P2 9 11 d ?_;refine z8 8 rfl fun K hK=>?_;go_simp;have g:Below w0.heap.size w0 w0.drew:=(a3t _ _).drew;replace hn:=hn.below g;replace hm:=hm.below g;replace h:=h.below g;replace hv:=hv.below g;replace bT:=a1j bT g;replace bo:=a1j bo g;have f:=sD (n:=ds.length) (w:=w0.drew) (by omega);go_at_call 57;refine (f).mono ?_;rintro e u1 ⟨A1,c1,rfl,T,y⟩;replace hn:=hn.below y;replace hm:=hm.below y;replace h:=h.below y;replace hv:=hv.below y;replace bT:=a1j bT y;replace bo:=a1j bo y;clear f;go_wp2_with fail;refine hK.out _ _ (hS _ bo) (fun d=>?_)
   clear hK K;(try simp only[j9]);refine z8 10 rfl fun K hK=>?_;go_simp;have f:=dot_ones T h E.out (by omega) (by omega);go_at_call 60;refine (f).mono ?_;rintro e u2 ⟨vd,rfl,j,t⟩;replace hn:=hn.below t;replace hm:=hm.below t;replace h:=h.below t;replace hv:=hv.below t;replace bT:=a1j bT t;replace bo:=a1j bo t;clear f;clear T;go_wp2_with fail;refine hK.out _ _ (hS _ bo) (fun d=>?_);clear hK K;(try simp only[j9]);refine z8 12 rfl fun K hK=>?_;go_simp;have f:=W1 j hv d4.out b6.out (by omega);rw[hc.out] at f;go_at_call 67;refine (f).mono ?_;rintro e u3 ⟨rfl,x⟩;replace hn:=hn.below x;replace hm:=hm.below x;replace h:=h.below x;replace j:=j.below x;replace bT:=a1j bT x;replace bo:=a1j bo x;clear f;clear j;go_wp2_with fail;refine hK.out _ _ (hS _ bo) (fun d=>?_);clear hK K;(try simp only[j9]);refine P2 13 14 d ?_;refine a4c (by kernel_rfl) ?_ _;refine a3w ?_;(try go_simp);clear d;clear hS dS bo
   rcases b with _ | _
   · have X:=a1k (d1.out rfl);go_wp2;go_ret;exact⟨by rw[X.out];rfl,bT⟩
   have z:=a1k (Z.out rfl);clear hB;go_wp2_with fail;refine (nS hE hn hm).mono ?_;rintro e u4 ⟨A2,c2,ls,rfl,O,b1,b8⟩;replace h:=h.below b8;replace bT:=a1j bT b8;obtain⟨wo,c4⟩:∃ wo:World,wo=u4:=⟨_,rfl⟩;subst c4;have d0:=O.1.1;have d3:=O.1.2.1;have b4:=a1k (show (C5 ns ms).all (iH qs)=ls.all (fun l=>iH qs l.p) by rw[←b1.out,List.all_map];rfl);have N:=bT;clear bT;go_wp2
   go_loopw [10] (fun i wr=>gL (fun l:LmD=>iH qs l.p) ls wo i wr) (fun i _=>ls.length-(intOf i).toNat)
   case atStart=>exact⟨0,by omega,rfl,rfl,a3t _ _⟩
   case round =>
    obtain⟨k,hk,rfl,F,m⟩:=hrel
    by_cases hkl:k<ls.length
    · have f3:(k:Int)<(ls.length:Int):=by omega
      obtain⟨a,l,rfl,d2,c7,c0,J,M⟩:=(O.below m).at hkl;have c9:=a1k (show (l.zs,l.b)∈C5 ns ms by rw[←b1.out];exact a2v.2 ⟨l,a1n M.out,rfl⟩);have s:=a1k (nU hE c9.out);have G:=a1k (show (a.add (k*2)).block<wr.heap.size by rw[f7];exact d2);have b2:=a1k (show Fits (1+12*(2+K+1)) (o5 (I7 l.zs qs)) by rw[←D.out];exact fZ s.out.2.2 E.out (by have:=s.out.1;dsimp only at this;omega));have c3:=a1k (show Fits 2 (l.b:Rat) from N9 (by have:=s.out.2.1;omega));obtain⟨c,b9⟩:∃ c,Hid (D0 (o5 (I7 l.zs qs)) (l.b:Rat)=c):=⟨_,rfl⟩;obtain⟨u,hu⟩:∃ u,Hid (iH qs l.p=u):=⟨_,rfl⟩
      have V:decide (c<0)=!u:=by
       rw[←hu.out,←b9.out];unfold iH LmD.p;rw[Bool.not_not];exact decide_eq_decide.2 cmpR_neg
      have hF:=h.below m;go_upto_region 7 with fail;have bT:=a3t wr.heap.size wr
      have hS:∀ w',Below wr.heap.size wr w'→w'.cell? (a.add (k*2))=some (.slice l.a l.zs.length l.c)∧w'.cell? ⟨(a.add (k*2)).block,(a.add (k*2)).off+1,none⟩=some (.int .i64 l.b)∧Below wr.heap.size wr w':=by
       intro w' o;exact⟨(o.cell G.out).trans c7,(o.cell (by exact G.out)).trans c0,o⟩
      have bo:Below wr.heap.size wr wr:=a3t _ _;have dS:Below wr.heap.size wr wr.drew:=bo.drew;go_wp2_with fail;refine a3u ?_;refine a3v (S:=fun w'=>w'.cell? (a.add (k*2))=some (.slice l.a l.zs.length l.c)∧w'.cell? ⟨(a.add (k*2)).block,(a.add (k*2)).off+1,none⟩=some (.int .i64 l.b)∧Below wr.heap.size wr w') (by kernel_rfl) (hS _ dS) (fun d=>?_);refine mX 0 1 2 3 4 5 7 8 d ?_;refine P2 9 10 d ?_;refine K4 11 rfl d ?_;refine z8 6 rfl fun K hK=>?_;go_simp;have g:Below wr.heap.size wr wr.drew:=(a3t _ _).drew;replace J:=J.below g;replace hF:=hF.below g;replace bT:=a1j bT g;replace bo:=a1j bo g;have f:=gD J hF E.out s.out.2.2 (by omega) (by have:=s.out.1;have:=L.out;omega) (by omega);rw[D.out] at f;go_at_call 60;refine (f).mono ?_;rintro e m1 ⟨vd,rfl,j,U⟩;replace bT:=a1j bT U;replace bo:=a1j bo U;clear f;go_wp2_with fail;refine hK.out _ _ (hS _ bo) (fun d=>?_);clear hK K;(try simp only[j9]);refine z8 12 rfl fun K hK=>?_;go_simp;have f:=t9 l.b (m1) (by have:=s.out.2.1;omega) (by have:=s.out.2.1;omega)
      go_at_call 11;refine (f).mono ?_;rintro e m2 ⟨vk,rfl,c5,R⟩;replace j:=j.below R;replace bT:=a1j bT R;replace bo:=a1j bo R;clear f;go_wp2_with fail;refine hK.out _ _ (hS _ bo) (fun d=>?_);clear hK K;(try simp only[j9]);refine z8 13 rfl fun K hK=>?_;go_simp;have f:=W1 j c5 b2.out c3.out (by omega);rw[b9.out] at f;go_at_call 67;refine (f).mono ?_;rintro e m3 ⟨rfl,b3⟩;replace bT:=a1j bT b3;replace bo:=a1j bo b3;clear f;go_wp2_with fail;refine hK.out _ _ (hS _ bo) (fun d=>?_);clear hK K;(try simp only[j9]);refine K4 14 rfl d ?_;refine a4c (by kernel_rfl) ?_ _;refine a3w ?_;(try go_simp);clear d;clear hS dS bo
      rcases u with _ | _
      · have b7:decide (c<0)=true:=V;have hr:=a1k (show r=false by rw[z.out,b4.out];exact Y8 M.out hu.out);go_wp2;go_ret;exact⟨by rw[hr.out];rfl,N.trans (((a1j m bT)).mono N.size)⟩
      have b7:decide (c<0)=false:=V;have I:=a1k (aP F.out M.out hu.out);have b5:=a1j m bT;go_wp2;go_roundw
      case rel=>exact⟨k+1,by omega,by go_num,I,b5⟩
      case measure=>simp[intOf];omega
    · obtain rfl:k=ls.length:=by omega
      have d5:decide ((ls.length:Int)<(ls.length:Int))=false:=a1v (by omega);have hr:=a1k (show r=true by rw[z.out,b4.out];have:=F.out;rwa [a2z] at this);go_wp2;go_ret;exact⟨by rw[hr.out];rfl,(a1j N m)⟩
 · have h5:((ds.length:Int) != (ms.length:Int))=true:=by rw[bne_iff_ne];omega
   have c8:=a1k (show r=false by rw[←hr.out];unfold bU;rw[a1v (by rw[a1s];exact hlm0)];rfl);clear hlm0;have f0:=hB.f0;have f1:=hB.f1;have f2:=hB.f2;go_enter Tryz.func66,Tryz.ntmps66;go_upto_region 1 with fail
   go_quiet (fail)
   go_wp2;go_ret;exact⟨by rw[c8.out];rfl,Below.drewN b0 _⟩
theorem oK {K i:Nat}{B:Option Addr}{cb:Nat}{ns:List NdD}{x:PtD}{w:World}(hn0:NL w B cb ns) (hx0:PtL w x) (hp:∀ d∈ns,0≤d.p∧d.p<256) (hn20:ns.length≤20) (hi8:i≤8) (hml:x.mults.ds.length=ns.length) (hil:i<x.low.ds.length) (hih:i<x.high.ds.length) (hfx:PtF K x) (hK0:0<K) (hK:K≤10000000) :
 Calls Tryz.prog 63 #[.slice B ns.length cb,x.v,.int .i64 (i:Int)] w (V6 (x.lev.q+x.low.qs.getD i 0-x.high.qs.getD i 0+o5 (F7 ns x.mults.qs i)) w):=by
 obtain⟨w0,m0,b0,l0,B0⟩:=f8 w #[.slice x.pay.a x.pay.ds.length x.pay.c,.slice x.mults.a x.mults.ds.length x.mults.c,.slice x.low.a x.low.ds.length x.low.c,.slice x.high.a x.high.ds.length x.high.c,.bool x.lev.neg,.slice x.lev.a x.lev.la.length x.lev.ca,.slice x.lev.b x.lev.lb.length x.lev.cb] 34;obtain⟨w1,m3,b1,l1,B1⟩:=f8 w0 #[.bool false,.slice none 0 0,.slice none 0 0] 28;have b5:=a1j b0 b1;have hX:=a4f B0 b1;have hn:=hn0.below b5;have hx:=hx0.below b5;clear hn0 hx0 B0;have m4:=hn.len;have m2:=hx.low.len;have n1:=hx.high.len;have m8:=hx.mults.len;obtain⟨al,dl,el,k0,f4,f9,g4,I,g8⟩:=hx.low.at hil;obtain⟨ah,dh,eh,k2,d8,g2,d6,s,h8⟩:=hx.high.at hih;obtain⟨fs,Z⟩:∃ fs,Hid (F7 ns x.mults.qs i=fs):=⟨_,rfl⟩;have c7:=a1k (show fs.length=ns.length by rw[←Z.out,Q3]);have d3:=a1k (show QFits K fs by rw[←Z.out];exact W7 hK0 hfx.mults);obtain⟨bq,V⟩:∃ b,Hid (x.lev.q+dl.q-dh.q=b):=⟨_,rfl⟩;have G:=a1k hfx.lev;have E:=a1k (show Fits K dl.q from hfx.low.fr' dl g8.out);have U:=a1k (show Fits K dh.q from hfx.high.fr' dh h8.out);have j1:=a1k (show Fits (K+K+1+K+1) bq by rw[←V.out];exact (G.out.add E.out).sub U.out);have H:=hx.lev;have c4:w1.cell? ⟨w.heap.size,4,none⟩=some (.bool x.lev.neg):=a4e hX 4
 have c5:w1.cell? ⟨w.heap.size,5,none⟩=some (.slice x.lev.a x.lev.la.length x.lev.ca):=a4e hX 5;have c6:w1.cell? ⟨w.heap.size,6,none⟩=some (.slice x.lev.b x.lev.lb.length x.lev.cb):=a4e hX 6;have c2:w1.cell? ⟨w.heap.size,2,none⟩=some (.slice (some al) x.low.ds.length x.low.c):=by rw[←el];exact a4e hX 2
 have c3:w1.cell? ⟨w.heap.size,3,none⟩=some (.slice (some ah) x.high.ds.length x.high.c):=by rw[←eh];exact a4e hX 3
 have c1:w1.cell? ⟨w.heap.size,1,none⟩=some (.slice x.mults.a x.mults.ds.length x.mults.c):=a4e hX 1;have f:=a1k (show w.heap.size<w1.heap.size from a1o l0 b1.size);have m:=a1k (show (al.add (i*3)).block<w1.heap.size by rw[f7];exact k0);have l:=a1k (show (ah.add (i*3)).block<w1.heap.size by rw[f7];exact k2);have j3:=a1k (show w.heap.size≤w0.heap.size∧w0.heap.size<w1.heap.size from ⟨b0.size,l1⟩);have k4:=a1k hp;have c0:=a1k hml;have h5:=a1k hfx;clear hp hfx hX hml;have n3:(i:Int)<(x.low.ds.length:Int):=by omega
 have l7:(i:Int)<(x.high.ds.length:Int):=by omega
 rw[RwD.getD g8.out,RwD.getD h8.out,Z.out,V.out];have l0:=f4;have l1:=f9;have l2:=g4;have h0:=d8;have h1:=g2;have h2:=d6;clear f4 f9 g4 d8 g2 d6 el eh;go_enter Tryz.func63,Tryz.ntmps63;go_upto_region 1 with fail
 go_cut [7] (fun p wx=>∃ (g:Nat) (t:FrD),p=.pointer (some ⟨g,0,none⟩)∧VarQ wx g t∧FV wx t.v t.q∧Hid (t.q=bq)∧Below w1.heap.size w1 wx∧w1.heap.size≤g)
 case first =>
  have bT:=a3t w1.heap.size w1;have C:Below w1.heap.size w1 w1.drew:=(a3t _ _).drew;replace H:=H.below C;replace I:=I.below C;replace s:=s.below C;replace bT:=a1j bT C;clear C;go_wp2_with fail;refine a3u ?_;refine k9 (J:=[15]) (S:=fun w'=>w'.cell? ⟨w.heap.size,4,none⟩=some (.bool x.lev.neg)∧w'.cell? ⟨w.heap.size,5,none⟩=some (.slice x.lev.a x.lev.la.length x.lev.ca)∧w'.cell? ⟨w.heap.size,6,none⟩=some (.slice x.lev.b x.lev.lb.length x.lev.cb)∧w'.cell? ⟨w.heap.size,2,none⟩=some (.slice (some al) x.low.ds.length x.low.c)∧w'.cell? ⟨w.heap.size,3,none⟩=some (.slice (some ah) x.high.ds.length x.high.c)∧w'.cell? (al.add (i*3))=some (.bool dl.neg)∧w'.cell? ⟨(al.add (i*3)).block,(al.add (i*3)).off+1,none⟩=some (.slice dl.a dl.la.length dl.ca)∧w'.cell? ⟨(al.add (i*3)).block,(al.add (i*3)).off+2,none⟩=some (.slice dl.b dl.lb.length dl.cb)∧w'.cell? (ah.add (i*3))=some (.bool dh.neg)∧w'.cell? ⟨(ah.add (i*3)).block,(ah.add (i*3)).off+1,none⟩=some (.slice dh.a dh.la.length dh.ca)∧w'.cell? ⟨(ah.add (i*3)).block,(ah.add (i*3)).off+2,none⟩=some (.slice dh.b dh.lb.length dh.cb)) (by kernel_rfl) (⟨(bT.cell (by exact f.out)).trans c4,(bT.cell (by exact f.out)).trans c5,(bT.cell (by exact f.out)).trans c6,(bT.cell (by exact f.out)).trans c2,(bT.cell (by exact f.out)).trans c3,(bT.cell (by exact m.out)).trans l0,(bT.cell (by exact m.out)).trans l1,(bT.cell (by exact m.out)).trans l2,(bT.cell (by exact l.out)).trans h0,(bT.cell (by exact l.out)).trans h1,(bT.cell (by exact l.out)).trans h2⟩) (fun h=>?_)
  refine iK 0 1 2 3 4 5 6 8 h ?_;refine mR 9 10 11 12 h ?_;refine j6 (rs:=[7,14]) (by kernel_rfl) (by simp) ?_;refine a4k rfl (fun K hK=>?_) ?_
  · go_simp;have o:=N5 H I G.out E.out (by omega);go_at_call 62;refine (o).mono ?_;rintro e u1 ⟨v1,rfl,D,O⟩;clear o;replace H:=H.below O;replace I:=I.below O;replace s:=s.below O;replace bT:=a1j bT O;go_wp2_with fail;refine hK.out _ _ (⟨(bT.cell (by exact f.out)).trans c4,(bT.cell (by exact f.out)).trans c5,(bT.cell (by exact f.out)).trans c6,(bT.cell (by exact f.out)).trans c2,(bT.cell (by exact f.out)).trans c3,(bT.cell (by exact m.out)).trans l0,(bT.cell (by exact m.out)).trans l1,(bT.cell (by exact m.out)).trans l2,(bT.cell (by exact l.out)).trans h0,(bT.cell (by exact l.out)).trans h1,(bT.cell (by exact l.out)).trans h2⟩) (fun h=>?_);clear hK K;(try simp only[j9]);refine j6 (rs:=[13,14]) (by kernel_rfl) (by simp) ?_;refine a4k rfl (fun K hK=>?_) ?_
    · go_simp;have o:=J3 D s (G.out.add E.out) U.out (by omega);go_at_call 59;refine (o).mono ?_;rintro e u2 ⟨v2,rfl,L,d1⟩;clear o;replace s:=s.below d1;replace D:=D.below d1;replace bT:=a1j bT d1;obtain⟨y,rfl,hy,N⟩:=L.frd;clear L D;go_wp2_with fail;refine hK.out _ _ (⟨(bT.cell (by exact f.out)).trans c4,(bT.cell (by exact f.out)).trans c5,(bT.cell (by exact f.out)).trans c6,(bT.cell (by exact f.out)).trans c2,(bT.cell (by exact f.out)).trans c3,(bT.cell (by exact m.out)).trans l0,(bT.cell (by exact m.out)).trans l1,(bT.cell (by exact m.out)).trans l2,(bT.cell (by exact l.out)).trans h0,(bT.cell (by exact l.out)).trans h1,(bT.cell (by exact l.out)).trans h2⟩) (fun h=>?_);clear hK K;(try simp only[j9]);refine I0 14 rfl fun K hK=>?_;have A:=bT.size;obtain⟨u3,l8,d0,m6,f6⟩:=f8 u2 #[.bool false,.slice none 0 0,.slice none 0 0] 28;replace s:=s.below d0;replace hy:=hy.below d0;replace bT:=a1j bT d0;have hX:=f6;clear f6;go_simp;refine hK.out _ _ (⟨(bT.cell (by exact f.out)).trans c4,(bT.cell (by exact f.out)).trans c5,(bT.cell (by exact f.out)).trans c6,(bT.cell (by exact f.out)).trans c2,(bT.cell (by exact f.out)).trans c3,(bT.cell (by exact m.out)).trans l0,(bT.cell (by exact m.out)).trans l1,(bT.cell (by exact m.out)).trans l2,(bT.cell (by exact l.out)).trans h0,(bT.cell (by exact l.out)).trans h1,(bT.cell (by exact l.out)).trans h2⟩) (fun h=>?_)
      clear hK K;(try simp only[j9]);refine j6 (rs:=[15]) (by kernel_rfl) (by simp) ?_;refine a4j rfl (by decide) (fun K hK=>?_) a4i;obtain⟨w9,p0,p1,p2,r0,r1,r2,e9,T,o9⟩:=p9 hX y;go_simp;refine hK.out _ _ ?_;clear hK K;(try clear h);(try simp only[j9]);refine k8 (by kernel_rfl) ?_ _;refine a3w ?_;(try go_simp);(try clear h);have M:=hy.only_blk hX (k7 _ _ _ _ _ _ _) o9;have b9:=o9.to_below bT A bT.size;have R:=a1k (show y.q=bq by rw[N.out,V.out]);go_wp2_with fail;go_meet;exact⟨_,y,rfl,T,M,R,b9,A⟩
    refine a4k rfl (fun K hK=>?_) ?_
    · have A:=bT.size;obtain⟨u4,n5,d2,m5,g5⟩:=f8 u1 #[.bool false,.slice none 0 0,.slice none 0 0] 28;replace s:=s.below d2;replace D:=D.below d2;replace bT:=a1j bT d2;have hX:=g5;clear g5;go_simp;refine hK.out _ _ (⟨(bT.cell (by exact f.out)).trans c4,(bT.cell (by exact f.out)).trans c5,(bT.cell (by exact f.out)).trans c6,(bT.cell (by exact f.out)).trans c2,(bT.cell (by exact f.out)).trans c3,(bT.cell (by exact m.out)).trans l0,(bT.cell (by exact m.out)).trans l1,(bT.cell (by exact m.out)).trans l2,(bT.cell (by exact l.out)).trans h0,(bT.cell (by exact l.out)).trans h1,(bT.cell (by exact l.out)).trans h2⟩) (fun h=>?_);clear hK K;(try simp only[j9]);refine I0 13 rfl fun K hK=>?_;go_simp;have o:=J3 D s (G.out.add E.out) U.out (by omega);go_at_call 59;refine (o).mono ?_;rintro e u5 ⟨v2,rfl,L,j2⟩;clear o;replace hX:=hX.keep j2;replace bT:=a1j bT j2;obtain⟨y,rfl,hy,N⟩:=L.frd;clear L D;go_wp2_with fail;refine hK.out _ _ (⟨(bT.cell (by exact f.out)).trans c4,(bT.cell (by exact f.out)).trans c5,(bT.cell (by exact f.out)).trans c6,(bT.cell (by exact f.out)).trans c2,(bT.cell (by exact f.out)).trans c3,(bT.cell (by exact m.out)).trans l0,(bT.cell (by exact m.out)).trans l1,(bT.cell (by exact m.out)).trans l2,(bT.cell (by exact l.out)).trans h0,(bT.cell (by exact l.out)).trans h1,(bT.cell (by exact l.out)).trans h2⟩) (fun h=>?_)
      clear hK K;(try simp only[j9]);refine j6 (rs:=[15]) (by kernel_rfl) (by simp) ?_;refine a4j rfl (by decide) (fun K hK=>?_) a4i;obtain⟨w9,p0,p1,p2,r0,r1,r2,e9,T,o9⟩:=p9 hX y;go_simp;refine hK.out _ _ ?_;clear hK K;(try clear h);(try simp only[j9]);refine k8 (by kernel_rfl) ?_ _;refine a3w ?_;(try go_simp);(try clear h);have M:=hy.only_blk hX (k7 _ _ _ _ _ _ _) o9;have b9:=o9.to_below bT A bT.size;have R:=a1k (show y.q=bq by rw[N.out,V.out]);go_wp2_with fail;go_meet;exact⟨_,y,rfl,T,M,R,b9,A⟩
    exact a4i
  refine a4k rfl (fun K hK=>?_) ?_
  · have A:=bT.size;obtain⟨u6,m9,Y,n0,b2⟩:=f8 w1.drew #[.bool false,.slice none 0 0,.slice none 0 0] 28;replace b2:Blk u6 w1.heap.size 28 #[.bool false,.slice none 0 0,.slice none 0 0]:=b2;replace H:=H.below Y;replace I:=I.below Y;replace s:=s.below Y;replace bT:=a1j bT Y;have hX:=b2;clear b2;go_simp;refine hK.out _ _ (⟨(bT.cell (by exact f.out)).trans c4,(bT.cell (by exact f.out)).trans c5,(bT.cell (by exact f.out)).trans c6,(bT.cell (by exact f.out)).trans c2,(bT.cell (by exact f.out)).trans c3,(bT.cell (by exact m.out)).trans l0,(bT.cell (by exact m.out)).trans l1,(bT.cell (by exact m.out)).trans l2,(bT.cell (by exact l.out)).trans h0,(bT.cell (by exact l.out)).trans h1,(bT.cell (by exact l.out)).trans h2⟩) (fun h=>?_);clear hK K;(try simp only[j9]);refine I0 7 rfl fun K hK=>?_;go_simp;have o:=N5 H I G.out E.out (by omega);go_at_call 62;refine (o).mono ?_;rintro e u7 ⟨v1,rfl,D,c9⟩;clear o;replace s:=s.below c9;replace hX:=hX.keep c9;replace bT:=a1j bT c9;go_wp2_with fail;refine hK.out _ _ (⟨(bT.cell (by exact f.out)).trans c4,(bT.cell (by exact f.out)).trans c5,(bT.cell (by exact f.out)).trans c6,(bT.cell (by exact f.out)).trans c2,(bT.cell (by exact f.out)).trans c3,(bT.cell (by exact m.out)).trans l0,(bT.cell (by exact m.out)).trans l1,(bT.cell (by exact m.out)).trans l2,(bT.cell (by exact l.out)).trans h0,(bT.cell (by exact l.out)).trans h1,(bT.cell (by exact l.out)).trans h2⟩) (fun h=>?_)
    clear hK K;(try simp only[j9]);refine I0 13 rfl fun K hK=>?_;go_simp;have o:=J3 D s (G.out.add E.out) U.out (by omega);go_at_call 59;refine (o).mono ?_;rintro e u8 ⟨v2,rfl,L,g9⟩;clear o;replace hX:=hX.keep g9;replace bT:=a1j bT g9;obtain⟨y,rfl,hy,N⟩:=L.frd;clear L D;go_wp2_with fail;refine hK.out _ _ (⟨(bT.cell (by exact f.out)).trans c4,(bT.cell (by exact f.out)).trans c5,(bT.cell (by exact f.out)).trans c6,(bT.cell (by exact f.out)).trans c2,(bT.cell (by exact f.out)).trans c3,(bT.cell (by exact m.out)).trans l0,(bT.cell (by exact m.out)).trans l1,(bT.cell (by exact m.out)).trans l2,(bT.cell (by exact l.out)).trans h0,(bT.cell (by exact l.out)).trans h1,(bT.cell (by exact l.out)).trans h2⟩) (fun h=>?_);clear hK K;(try simp only[j9]);refine j6 (rs:=[15]) (by kernel_rfl) (by simp) ?_;refine a4j rfl (by decide) (fun K hK=>?_) a4i;obtain⟨w9,p0,p1,p2,r0,r1,r2,e9,T,o9⟩:=p9 hX y;go_simp;refine hK.out _ _ ?_;clear hK K;(try clear h);(try simp only[j9]);refine k8 (by kernel_rfl) ?_ _;refine a3w ?_;(try go_simp);(try clear h);have M:=hy.only_blk hX (k7 _ _ _ _ _ _ _) o9;have b9:=o9.to_below bT A bT.size
    have R:=a1k (show y.q=bq by rw[N.out,V.out]);go_wp2_with fail;go_meet;exact⟨_,y,rfl,T,M,R,b9,A⟩
  exact a4i
 case rest =>
  obtain⟨g,t0,rfl,h3,j0,b7,bc,hg⟩:=hcut;clear l0 l1 l2 h0 h1 h2 c4 c5 c6 c2 c3 H I s;have b8:=a1k (show t0.q=bq+o5 (fs.take 0) by rw[b7.out,List.take_zero,T6,Rat.add_zero]);clear b7;go_wp2
  go_loopw [8] (fun v wr=>∃ j:Nat,j≤ns.length∧v=.int .i64 (j:Int)∧∃ t,VarQ wr g t∧FV wr t.v t.q∧Hid (t.q=bq+o5 (fs.take j))∧Below w1.heap.size w1 wr) (fun v _=>ns.length-(intOf v).toNat)
  case atStart=>exact⟨0,by omega,rfl,t0,h3,j0,b8,bc⟩
  case round =>
   clear h3 j0 b8 bc;obtain⟨j,hj,rfl,t,hT,ht,b3,r⟩:=hrel
   by_cases hjl:j<ns.length
   · have n2:(j:Int)<(ns.length:Int):=by omega
     have l9:(j:Int)<(x.mults.ds.length:Int):=by have:=c0.out;omega
     obtain⟨a,nd,ea,m1,f5,h7,d7⟩:=(hn.below r).at hjl;rw[ea];have g7:=k4.out nd (a1n d7.out);obtain⟨dp,n4⟩:=nd
     dsimp only at g7 f5 h7
     obtain⟨pn,j5⟩:∃ n:Nat,dp=(n:Int):=⟨dp.toNat,by omega⟩;subst j5;have c8:pn<256:=by omega
     clear g7;have k1:=a1k (show eO ns j=pn by unfold eO;rw[a1l,d7.out];rfl);have d5:=a1k (show fs[j]?=some (if M8 pn i=true then x.mults.qs.getD j 0 else 0) by rw[←Z.out,aO hjl,k1.out]);obtain⟨z,hz⟩:∃ z,Hid (jR pn i=z):=⟨_,rfl⟩;have o:=tJ (w:=wr) c8 hi8;rw[hz.out] at o;go_wp2_with fail;refine o.mono ?_;rintro e wb ⟨rfl,bb⟩;clear o f5 h7;replace hT:=hT.below bb;replace ht:=ht.below bb;replace r:=a1j r bb;obtain⟨b6,g1⟩:∃ x,x=wb:=⟨_,rfl⟩;subst g1
     cases hb:M8 pn i with
     | false =>
      have X:=a1k (show fs[j]?=some 0 by rw[d5.out,hb];rfl);have l5:(z == 1)=false:=by rw[←hz.out];unfold jR;rw[hb];rfl
      have g3:=a1k (show t.q=bq+o5 (fs.take (j+1)) by rw[J4 X.out,Rat.add_zero];exact b3.out);clear hb;go_wp2;go_roundw
      case rel=>exact⟨j+1,by omega,by go_num,t,hT,ht,g3,r⟩
      case measure=>simp[intOf];omega
     | true =>
      have X:=a1k (show fs[j]?=some (x.mults.qs.getD j 0) by rw[d5.out,hb];rfl);have l5:(z == 1)=true:=by rw[←hz.out];unfold jR;rw[hb];rfl
      clear hb;obtain⟨am,dm,em,l6,d9,h6,j4,b4,d4⟩:=(hx.mults.below r).at (k:=j) (by have:=c0.out;omega);have g0:=a1k (show Fits K dm.q from h5.out.mults.fr' dm d4.out);have k6:=a1k (show Fits (K+K+1+K+1+(1+20*(K+1))+1) t.q by rw[b3.out];exact j1.out.add (H1 (n:=20) d3.out (by rw[c7.out];exact hn20) j));have f3:=a1k (show w.heap.size<b6.heap.size from a1o f.out r.size);have F:=a1k (show (am.add (j*3)).block<b6.heap.size by rw[f7];exact l6);have h4:b6.cell? ⟨w.heap.size,1,none⟩=some (.slice (some am) x.mults.ds.length x.mults.c):=by rw[←em];exact (r.cell (by exact f.out)).trans c1
      obtain⟨wr,l3⟩:∃ x,x=b6:=⟨_,rfl⟩;subst l3;go_upto_region 6 with fail;have bT:=a3t wr.heap.size wr;have C:Below wr.heap.size wr wr.drew:=(a3t _ _).drew;replace hT:=hT.below C;replace ht:=ht.below C;replace b4:=b4.below C;replace bT:=a1j bT C;clear C;go_wp2_with fail;refine a3u ?_;refine k9 (J:=[7]) (S:=fun w'=>w'.cell? ⟨g,0,none⟩=some (.bool t.neg)∧w'.cell? ⟨g,1,none⟩=some (.slice t.a t.la.length t.ca)∧w'.cell? ⟨g,2,none⟩=some (.slice t.b t.lb.length t.cb)∧w'.cell? ⟨w.heap.size,1,none⟩=some (.slice (some am) x.mults.ds.length x.mults.c)∧w'.cell? (am.add (j*3))=some (.bool dm.neg)∧w'.cell? ⟨(am.add (j*3)).block,(am.add (j*3)).off+1,none⟩=some (.slice dm.a dm.la.length dm.ca)∧w'.cell? ⟨(am.add (j*3)).block,(am.add (j*3)).off+2,none⟩=some (.slice dm.b dm.lb.length dm.cb)) (by kernel_rfl) (⟨hT.cells.1,hT.cells.2.1,hT.cells.2.2,(bT.cell (by exact f3.out)).trans h4,(bT.cell (by exact F.out)).trans d9,(bT.cell (by exact F.out)).trans h6,(bT.cell (by exact F.out)).trans j4⟩) (fun h=>?_);refine mR 0 1 2 3 h ?_;refine dU 4 5 h ?_;refine I0 6 rfl fun K hK=>?_;go_simp;have o:=N5 ht b4 k6.out g0.out (by omega);go_at_call 62
      refine (o).mono ?_;rintro e u1 ⟨va,rfl,g6,O⟩;clear o;replace hT:=hT.below O;replace bT:=a1j bT O;obtain⟨y,rfl,hy,N⟩:=g6.frd;clear g6;obtain⟨w9,q0,q1,q2,f0,f1,f2,e9,T,o9⟩:=hT.store y;go_wp2_with fail;refine hK.out _ _ (⟨hT.cells.1,hT.cells.2.1,hT.cells.2.2,(bT.cell (by exact f3.out)).trans h4,(bT.cell (by exact F.out)).trans d9,(bT.cell (by exact F.out)).trans h6,(bT.cell (by exact F.out)).trans j4⟩) (fun h=>?_);clear hK K;(try simp only[j9]);refine j6 (rs:=[7]) (by kernel_rfl) (by simp) ?_;refine a4j rfl (by decide) (fun K hK=>?_) a4i;go_simp;refine hK.out _ _ ?_;clear hK K;(try clear h);(try simp only[j9]);refine k8 (by kernel_rfl) ?_ _;refine a3w ?_;(try go_simp);(try clear h);have M:=hy.onlyV hT o9;have b9:=o9.to_below ((a1j r bT)) hg (a1t r.size bT.size);have R:=a1k (show y.q=bq+o5 (fs.take (j+1)) by rw[N.out,b3.out,J4 X.out,RwD.getD d4.out,Rat.add_assoc]);clear hT ht b4 hy o9 bT;go_wp2;go_roundw
      case rel=>exact⟨j+1,by omega,by go_num,y,T,M,R,b9⟩
      case measure=>simp[intOf];omega
   · obtain rfl:j=ns.length:=by omega
     have t1:decide ((ns.length:Int)<(ns.length:Int))=false:=a1v (by omega);obtain⟨x0,x1,x2⟩:=hT.cells;have hB:=a4f B1 r;obtain⟨w9,p0,p1,p2,r0,r1,r2,e9,h9,o9⟩:=p9 hB t;obtain⟨y0,y1,y2⟩:=h9.cells;have l4:=ht.only_blk hB (k7 _ _ _ _ _ _ _) o9;have k3:=o9.to_below ((a1j b5 r)) j3.out.1 (a1t b5.size r.size);have k5:=a1k (show t.q=bq+o5 fs by rw[b3.out,a1q (by rw[c7.out];exact a1u _)]);clear hB hT ht;go_wp2;refine a3z (v:=B8 t.neg t.a t.la.length t.ca t.b t.lb.length t.cb) (by simp[results,Tryz.results63,go_sem,y0,y1,y2]) rfl ?_;exact⟨_,rfl,by rw[←k5.out];exact l4,k3⟩
section
variable {tg mults low high pay:List Rat}{ns:List NdD}{ms:List Int}{sum lev:Rat}
theorem ref_no1 (h:low.length≠ms.length):O4 tg ns ms sum pay mults low high lev=false:=by unfold O4;rw[a1v h];rfl
theorem ref_no2 (h:high.length≠ms.length):O4 tg ns ms sum pay mults low high lev=false:=by unfold O4;rw[a1v h];simp
theorem ref_no3 (h:mults.length≠ns.length):O4 tg ns ms sum pay mults low high lev=false:=by unfold O4;rw[a1v h];simp
theorem ref_no4 (h:bU ns ms sum pay=false):O4 tg ns ms sum pay mults low high lev=false:=by unfold O4;rw[h];simp
theorem xB {k:Nat}(hk:k<(C5 ns ms).length) (h:eI ns ms pay (mults++(low++high)) k=false):O4 tg ns ms sum pay mults low high lev=false:=by
 have e:(List.range (C5 ns ms).length).all (eI ns ms pay (mults++(low++high)))=false:=List.all_eq_false.2 ⟨k,a2u.2 hk,by rw[h];decide⟩
 unfold O4;rw[e];simp
theorem ref_no6 {k:Nat}(hk:k<ms.length) (h:V2 ns tg pay mults low high lev k=false):O4 tg ns ms sum pay mults low high lev=false:=by
 have e:(List.range ms.length).all (V2 ns tg pay mults low high lev)=false:=List.all_eq_false.2 ⟨k,a2u.2 hk,by rw[h];decide⟩
 unfold O4;rw[e];simp
theorem ref_yes (h1:low.length=ms.length) (h2:high.length=ms.length) (h3:mults.length=ns.length) (h4:bU ns ms sum pay=true) (h5:AllI (eI ns ms pay (mults++(low++high))) (C5 ns ms).length) (h6:AllI (V2 ns tg pay mults low high lev) ms.length):O4 tg ns ms sum pay mults low high lev=true:=by
 unfold O4;rw[a1w h1,a1w h2,a1w h3,h4,h5.all,h6.all];rfl
end
theorem yZ {q:Rat}{b:Bool}(h:D0 q 0=-1):D4 q b=false:=by
 have h1:q<0:=cmpR_neg.1 (by omega);have h2:¬ q=0:=fun e=>absurd h1 (by rw[e];decide);have h3:¬ 0<q:=by grind
 unfold D4;rw[a1v h2,a1v h3];simp
theorem uC {q:Rat}{b:Bool}(h:D0 q 0=0):D4 q b=true:=by
 unfold D4;rw[a1w (cmpR_zero.1 h)];rfl
theorem nI {q:Rat}{b:Bool}(h:D0 q 0=1):D4 q b=b:=by
 have h1:0<q:=cmpR_pos.1 (by omega);have h2:¬ q=0:=fun e=>absurd h1 (by rw[e];decide);unfold D4;rw[a1v h2,a1w h1];simp
theorem vS (p q:Rat):D0 p q=-1∨D0 p q=0∨D0 p q=1:=by have:=yB p q;omega
def AppAt (root:World) (ds:List FrD) (v:Value) (w:World):Prop:=OwnQ w root.heap.size v ds∧AllFV w ds∧Below root.heap.size root w
theorem AppAt.nil (w:World):AppAt w [] (.slice none 0 0) w:=⟨OwnQ.nil _ _,fun d hd=>by simp at hd,a3t _ _⟩
theorem run_appN {w:World}{base c:Nat}{v:Value}{ds:List FrD}(h:OwnQ w base v ds):(Builtin.append_ #[22,22] 22 #[v,.slice none 0 c]).run Tryz.prog w=.ok v w:=by
 obtain⟨i,hi,j,k,b⟩:=info_parts L5
 rcases h.1.2 with ⟨rfl,h0⟩ | ⟨g,d,f,rfl,hb,hg,hn,hm,hs,ht⟩
 · simp[Builtin.append_,run_underlying Tryz.underlying22,sizeOf,typeInfo,hi,Builtin.lenOf,Builtin.firstCells,loadCells,loadCellsFrom,storeCells]
 · simp[Builtin.append_,run_underlying Tryz.underlying22,sizeOf,typeInfo,hi,Builtin.lenOf,Builtin.firstCells,loadCells,loadCellsFrom,storeCells,hn]
theorem AppAt.app {root w:World}{ds es:List FrD}{v:Value}{A:Option Addr}{c:Nat}(h:AppAt root ds v w) (hf:FL root A c es) (hl:ds.length+es.length≤1000000000) :
 ∃ v' w',(Builtin.append_ #[22,22] 22 #[v,.slice A es.length c]).run Tryz.prog w=.ok v' w'∧AppAt root (ds++es) v' w':=by
 obtain⟨h1,h2,h3⟩:=h;have hw:=hf.below h3
 cases A with
 | none =>
  have e0:es=[]:=by
   cases es with
   | nil=>rfl
   | cons d es=>obtain⟨a,d',e,-⟩:=hf.at (k:=0) (by simp);cases e
  subst e0;exact⟨v,w,run_appN h1,by rw[List.append_nil];exact⟨h1,h2,h3⟩⟩
 | some ad =>
  obtain⟨v',w',hr,g1,g2⟩:=X3 w root.heap.size v ds h1 ad c es (hw.cellsOf) (by omega) h3.size;have hb:Below root.heap.size root w':=h3.grown g2 h3.size fun g hg=>OwnQ.block h1 hg;refine⟨v',w',hr,g1,fun d hd=>?_,hb⟩
  rcases a3b.1 hd with hd | hd
  · exact FV.row (h2 d hd) h1 g2
  · exact (hf.fv d hd).below hb
end Go.Proofs.YtjhkapjadfpimaaGreat
