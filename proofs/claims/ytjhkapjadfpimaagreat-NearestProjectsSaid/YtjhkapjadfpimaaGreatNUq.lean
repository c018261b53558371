/- Contracts of functions, for the law. -/
import Derived.Test.YtjhkapjadfpimaaGreatNRPm
namespace Go.Proofs.YtjhkapjadfpimaaGreat
set_option linter.unusedVariables false
set_option linter.unusedSimpArgs false
open Go.RowKit Plain
attribute [local go_sem ↓] Go.wp_at_zero Go.wp_at_succ
set_option maxRecDepth 100000
set_option maxHeartbeats 40000000
theorem dP {K:Nat}{A B C:Option Addr}{ca cb cc:Nat}{tg:List FrD}{ns:List NdD}{ms:List Int}{v:Value}{sq:Rat}{x:PtD}{w:World}(hE:argsE tg.length ns ms=0) (ht0:FL w A ca tg) (hn0:NL w B cb ns) (hm0:ZL w C cc ms) (hv0:FV w v sq) (hx00:PtL w x)
 (hft:QFits K (tg.map FrD.q)) (hfs:Fits K sq) (hfp:QFits K x.pay.qs) (hfx:0<ms.length→PtF K x) (hK0:2≤K) (hK:K≤10000000) (hn20:ns.length≤20) :
 Calls Tryz.prog 39 #[.slice A tg.length ca,.slice B ns.length cb,.slice C ms.length cc,v,x.v] w (gJ (O4 (tg.map FrD.q) ns ms sq x.pay.qs x.mults.qs x.low.qs x.high.qs x.lev.q) w):=by
 obtain⟨r,hr⟩:∃ r,Hid (O4 (tg.map FrD.q) ns ms sq x.pay.qs x.mults.qs x.low.qs x.high.qs x.lev.q=r):=⟨_,rfl⟩;rw[hr.out];obtain⟨sv,rfl,l5,q8⟩:=hv0.frd;obtain⟨w0,r1,b0,l0,B0⟩:=f8 w #[.bool sv.neg,.slice sv.a sv.la.length sv.ca,.slice sv.b sv.lb.length sv.cb] 28;obtain⟨w1,s3,b1,l1,B1⟩:=f8 w0 #[.slice x.pay.a x.pay.ds.length x.pay.c,.slice x.mults.a x.mults.ds.length x.mults.c,.slice x.low.a x.low.ds.length x.low.c,.slice x.high.a x.high.ds.length x.high.c,.bool x.lev.neg,.slice x.lev.a x.lev.la.length x.lev.ca,.slice x.lev.b x.lev.lb.length x.lev.cb] 34;have F:=a1j b0 b1;have g9:=a4f B0 b1;have k0:=ht0.below F;have hn:=hn0.below F;have hm:=hm0.below F;have hv:=hv0.below F;have hx:=hx00.below F;clear ht0 hn0 hm0 hv0 hx00 l5 B0;have s4:=hn.len;have r6:=hm.len;have r0:=k0.len;have r8:=hx.low.len;have s7:=hx.high.len;have s5:=hx.mults.len;have r2:=hx.pay.len;obtain⟨E1,E2,E3,E4,E5⟩:=K3 hE;have h2:=a1k (show ∀ d∈ns,0≤d.p∧d.p<256 from fun d hd=>⟨(E5 d hd).1,by have:=(E5 d hd).2.1;have:=lD E1;omega⟩);clear E4 E5;have j5:=a1k hft;have j1:=a1k hfs;have k4:=a1k hfx;have c4:=a1k hfp;have l7:=a1k E3;clear hft hfs hfx hfp E3;have s0:w1.cell? ⟨w.heap.size,0,none⟩=some (.bool sv.neg):=a4e g9 0;have s1:w1.cell? ⟨w.heap.size,1,none⟩=some (.slice sv.a sv.la.length sv.ca):=a4e g9 1
 have s2:w1.cell? ⟨w.heap.size,2,none⟩=some (.slice sv.b sv.lb.length sv.cb):=a4e g9 2;have c0:w1.cell? ⟨w0.heap.size,0,none⟩=some (.slice x.pay.a x.pay.ds.length x.pay.c):=a4e B1 0;have c1:w1.cell? ⟨w0.heap.size,1,none⟩=some (.slice x.mults.a x.mults.ds.length x.mults.c):=a4e B1 1;have c2:w1.cell? ⟨w0.heap.size,2,none⟩=some (.slice x.low.a x.low.ds.length x.low.c):=a4e B1 2;have c3:w1.cell? ⟨w0.heap.size,3,none⟩=some (.slice x.high.a x.high.ds.length x.high.c):=a4e B1 3;have J:=a1k (show w0.heap.size<w1.heap.size from l1);go_enter Tryz.func39,Tryz.ntmps39
 by_cases hl1a:x.low.ds.length=ms.length
 rotate_left
 · have g1:((x.low.ds.length:Int) != (ms.length:Int))=true:=by rw[bne_iff_ne];omega
   have z:=a1k (show r=false by rw[←hr.out];exact ref_no1 (by rw[a4l];exact hl1a));clear hl1a;go_wp2;go_ret;exact⟨by rw[z.out];rfl,F⟩
 have g1:((x.low.ds.length:Int) != (ms.length:Int))=false:=by rw[bne_eq_false_iff_eq];omega
 have b6:=a1k hl1a;clear hl1a
 by_cases hl2a:x.high.ds.length=ms.length
 rotate_left
 · have g2:((x.high.ds.length:Int) != (ms.length:Int))=true:=by rw[bne_iff_ne];omega
   have z:=a1k (show r=false by rw[←hr.out];exact ref_no2 (by rw[a4l];exact hl2a));clear hl2a;go_wp2;go_ret;exact⟨by rw[z.out];rfl,F⟩
 have g2:((x.high.ds.length:Int) != (ms.length:Int))=false:=by rw[bne_eq_false_iff_eq];omega
 have d3:=a1k hl2a;clear hl2a
 by_cases hl3a:x.mults.ds.length=ns.length
 rotate_left
 · have g3:((x.mults.ds.length:Int) != (ns.length:Int))=true:=by rw[bne_iff_ne];omega
   have z:=a1k (show r=false by rw[←hr.out];exact ref_no3 (by rw[a4l];exact hl3a));clear hl3a;go_wp2;go_ret;exact⟨by rw[z.out];rfl,F⟩
 have g3:((x.mults.ds.length:Int) != (ns.length:Int))=false:=by rw[bne_eq_false_iff_eq];omega
 have b2:=a1k hl3a;clear hl3a;obtain⟨pb,d6⟩:∃ b,Hid (bU ns ms sq (x.pay.ds.map FrD.q)=b):=⟨_,rfl⟩;have t:=pY (K:=K) hE hn hm hv hx.pay c4.out j1.out hK0 hK;rw[d6.out] at t;go_wp2_with fail;refine t.mono ?_;rintro e y1 ⟨rfl,c9⟩;clear t;have k2:=a1j F c9
 rcases pb with _ | _
 · have z:=a1k (show r=false by rw[←hr.out];exact ref_no4 d6.out);go_wp2;go_ret;exact⟨by rw[z.out];rfl,k2⟩
 have t:=nS hE (hn.below c9) (hm.below c9);go_wp2_with fail;refine t.mono ?_;rintro e y2 ⟨A2,r3,ls,rfl,h8,c7,l9⟩;clear t;have I:=a1j c9 l9;have n7:=a1j F I;have d7:=hx.below I;have e1:=(I.cell (p:=⟨w0.heap.size,1,none⟩) (by exact J.out)).trans c1;obtain⟨v3,w3,j2,f2⟩:=(AppAt.nil y2).app d7.mults (by have:=b2.out;simp;omega);have l8:=a1j I f2.2.2;have e2:=(l8.cell (p:=⟨w0.heap.size,2,none⟩) (by exact J.out)).trans c2;obtain⟨v4,w4,l6,f3⟩:=f2.app d7.low (by have:=b2.out;have:=b6.out;simp;omega);have h7:=a1j I f3.2.2;have e3:=(h7.cell (p:=⟨w0.heap.size,3,none⟩) (by exact J.out)).trans c3;obtain⟨v5,w5,j4,c5⟩:=f3.app d7.high (by have:=b2.out;have:=b6.out;have:=d3.out;simp;omega);have g8:=a1j I c5.2.2;obtain⟨AM,cM,h3,hM⟩:=c5.1.fl c5.2.1;obtain⟨g4,b4⟩:∃ m,Hid ([]++x.mults.ds++x.low.ds++x.high.ds=m):=⟨_,a1k rfl⟩;have b8:=h8.below c5.2.2;rw[b4.out] at h3 hM;subst h3;have d5:=a1j F g8;have k3:=a1k (show g4.map FrD.q=x.mults.qs++(x.low.qs++x.high.qs) by rw[←b4.out];simp[RwD.qs]);have h5:=a1k (show g4.length=ns.length+(ms.length+ms.length) by rw[←b4.out];have:=b6.out;have:=d3.out;have:=b2.out;simp;omega)
 have m3:=a1k (show ls.length=ns.length+(ms.length+ms.length) by rw[←G5,←c7.out,a1s]);have n9:=b8.1.1;have n1:=b8.1.2.1;have s6:=hM.len
 have d4:=a1k (show x.pay.ds.length=ms.length by
  have h:=((T0 E1).1 d6.out).len
  rwa [a1s] at h)
 have k6:=a1k (show QFits K (x.pay.ds.map FrD.q) from c4.out);obtain⟨qs,g0⟩:∃ qs,Hid (x.pay.ds.map FrD.q=qs):=⟨_,rfl⟩;clear f2 f3 c5 h8 d7 l8 h7 k2 n7 c9 l9
 go_wp2_with (at_builtin;first | refine D7 (T:=22) rfl rfl (.tmp 52) (.tmp 54) rfl rfl rfl j2 ?_ | refine D7 (T:=22) rfl rfl (.tmp 56) (.tmp 58) rfl rfl rfl l6 ?_ | refine D7 (T:=22) rfl rfl (.tmp 60) (.tmp 62) rfl rfl rfl j4 ?_)
 clear j2 l6 j4 e1 e2 e3;obtain⟨wo,p0⟩:∃ wo:World,wo=w5:=⟨_,rfl⟩;subst p0
 go_loopw [14] (fun i wr=>∃ k:Nat,k≤ls.length∧i=.int .i64 (k:Int)∧Hid (AllI (eI ns ms x.pay.qs (x.mults.qs++(x.low.qs++x.high.qs))) k)∧Below wo.heap.size wo wr) (fun i _=>ls.length-(intOf i).toNat)
 case atStart=>exact⟨0,by omega,rfl,fun j hj=>by omega,a3t _ _⟩
 case round =>
  obtain⟨k,hk,rfl,Y,y⟩:=hrel
  by_cases hkl:k<ls.length
  · have p4:(k:Int)<(ls.length:Int):=by omega
    have q9:(k:Int)<(g4.length:Int):=by have:=h5.out;have:=m3.out;omega
    obtain⟨a,l,ea,n2,n4,n8,g7,k1⟩:=(b8.below y).at hkl;obtain⟨am,dm,em,p2,hm0,l2,m5,L,m8⟩:=(hM.below y).at (k:=k) (by omega);rw[ea,em];have G:=a1j g8 y;have hF:=hx.pay.below G;have m9:=(G.cell (p:=⟨w0.heap.size,0,none⟩) (by exact J.out)).trans c0;have M:=a1k (show w0.heap.size<wr.heap.size from a1o J.out G.size);have p5:=a1k (show (l.zs,l.b)∈C5 ns ms by rw[←c7.out];exact a2v.2 ⟨l,a1n k1.out,rfl⟩);have V:=a1k (nU hE p5.out);have d8:=a1k (show (a.add (k*2)).block<wr.heap.size by rw[f7];exact n2);have H:=a1k (show (am.add (k*3)).block<wr.heap.size by rw[f7];exact p2);have n0:=a1k (show Fits (1+12*(2+K+1)) (o5 (I7 l.zs qs)) by rw[←g0.out];exact fZ V.out.2.2 k6.out (by have:=V.out.1;dsimp only at this;omega));have m6:=a1k (show Fits 2 (l.b:Rat) from N9 (by have:=V.out.2.1;omega));obtain⟨c,k5⟩:∃ c,Hid (D0 (o5 (I7 l.zs qs)) (l.b:Rat)=c):=⟨_,rfl⟩;obtain⟨b,hb⟩:∃ b,Hid (decide (o5 (I7 l.zs qs)=(l.b:Rat))=b):=⟨_,rfl⟩;have p1:(c == 0)=b:=by rw[←hb.out];exact V1 (by rw[←k5.out];exact cmpR_zero)
    obtain⟨s,hs⟩:∃ s,Hid (D0 dm.q 0=s):=⟨_,rfl⟩;have n5:=a1k (show s=-1∨s=0∨s=1 by rw[←hs.out];exact vS _ _);have h6:=a1k (show k<(C5 ns ms).length by rw[←c7.out,a1s];exact hkl)
    have X:=a1k (show eI ns ms x.pay.qs (x.mults.qs++(x.low.qs++x.high.qs)) k=D4 dm.q b by
     unfold eI;have e1:(C5 ns ms).getD k ([],0)=(l.zs,l.b):=by rw[←c7.out,a1l,a1r,k1.out];rfl
     have e2:(x.mults.qs++(x.low.qs++x.high.qs)).getD k 0=dm.q:=by rw[←k3.out,a1l,a1r,m8.out];rfl
     have e3:x.pay.qs=qs:=g0.out;rw[e1,e2,e3,hb.out])
    clear ea em G;go_upto_region 12 with fail;have bT:=a3t wr.heap.size wr
    have hS:∀ w',Below wr.heap.size wr w'→w'.cell? (a.add (k*2))=some (.slice l.a l.zs.length l.c)∧w'.cell? ⟨(a.add (k*2)).block,(a.add (k*2)).off+1,none⟩=some (.int .i64 l.b)∧w'.cell? ⟨w0.heap.size,0,none⟩=some (.slice x.pay.a x.pay.ds.length x.pay.c)∧w'.cell? (am.add (k*3))=some (.bool dm.neg)∧w'.cell? ⟨(am.add (k*3)).block,(am.add (k*3)).off+1,none⟩=some (.slice dm.a dm.la.length dm.ca)∧w'.cell? ⟨(am.add (k*3)).block,(am.add (k*3)).off+2,none⟩=some (.slice dm.b dm.lb.length dm.cb)∧Below wr.heap.size wr w':=by
     intro w' o;exact⟨(o.cell d8.out).trans n4,(o.cell (by exact d8.out)).trans n8,(o.cell (by exact M.out)).trans m9,(o.cell (by exact H.out)).trans hm0,(o.cell (by exact H.out)).trans l2,(o.cell (by exact H.out)).trans m5,o⟩
    have bo:Below wr.heap.size wr wr:=a3t _ _;have dS:Below wr.heap.size wr wr.drew:=bo.drew;go_wp2_with fail;refine a3u ?_;refine a3v (S:=fun w'=>w'.cell? (a.add (k*2))=some (.slice l.a l.zs.length l.c)∧w'.cell? ⟨(a.add (k*2)).block,(a.add (k*2)).off+1,none⟩=some (.int .i64 l.b)∧w'.cell? ⟨w0.heap.size,0,none⟩=some (.slice x.pay.a x.pay.ds.length x.pay.c)∧w'.cell? (am.add (k*3))=some (.bool dm.neg)∧w'.cell? ⟨(am.add (k*3)).block,(am.add (k*3)).off+1,none⟩=some (.slice dm.a dm.la.length dm.ca)∧w'.cell? ⟨(am.add (k*3)).block,(am.add (k*3)).off+2,none⟩=some (.slice dm.b dm.lb.length dm.cb)∧Below wr.heap.size wr w') (by kernel_rfl) (hS _ dS) (fun g=>?_);refine mX 0 1 2 3 4 5 6 8 g ?_;refine mS 9 10 11 12 g ?_;refine z8 7 rfl fun K hK=>?_;go_simp;have D:Below wr.heap.size wr wr.drew:=(a3t _ _).drew;replace g7:=g7.below D;replace hF:=hF.below D;replace L:=L.below D;replace bT:=a1j bT D;replace bo:=a1j bo D;have t:=gD g7 hF k6.out V.out.2.2 (by omega) (by have:=V.out.1;have:=d4.out;omega) (by have:=d4.out;omega)
    rw[g0.out] at t;go_at_call 60;refine (t).mono ?_;rintro e u1 ⟨vd,rfl,g6,N⟩;replace L:=L.below N;replace bT:=a1j bT N;replace bo:=a1j bo N;clear t;go_wp2_with fail;refine hK.out _ _ (hS _ bo) (fun g=>?_);clear hK K;(try simp only[j9]);refine z8 13 rfl fun K hK=>?_;go_simp;have t:=t9 l.b (u1) (by have:=V.out.2.1;omega) (by have:=V.out.2.1;omega);go_at_call 11;refine (t).mono ?_;rintro e u2 ⟨vk,rfl,p3,R⟩;replace L:=L.below R;replace g6:=g6.below R;replace bT:=a1j bT R;replace bo:=a1j bo R;clear t;go_wp2_with fail;refine hK.out _ _ (hS _ bo) (fun g=>?_);clear hK K;(try simp only[j9]);refine z8 14 rfl fun K hK=>?_;go_simp;have t:=W1 g6 p3 n0.out m6.out (by omega);rw[k5.out] at t;go_at_call 67;refine (t).mono ?_;rintro e u3 ⟨rfl,b3⟩;replace L:=L.below b3;replace bT:=a1j bT b3;replace bo:=a1j bo b3;clear t;go_wp2_with fail;refine hK.out _ _ (hS _ bo) (fun g=>?_);clear hK K;(try simp only[j9]);refine P2 15 16 g ?_
    refine a4c (by kernel_rfl) ?_ _;refine a3w ?_;(try go_simp);clear g;clear hS dS bo;have m0:=(bT.cell (by exact H.out)).trans hm0;have m1:=(bT.cell (by exact H.out)).trans l2;have m2:=(bT.cell (by exact H.out)).trans m5;have h0:=R1 L;rw[hs.out] at h0;go_wp2_with fail;refine h0.mono ?_;rintro e ws ⟨rfl,bs⟩;clear h0;have bS:=y.trans (((a1j bT bs)).mono y.size)
    rcases n5.out with e1 | e1 | e1
    · subst e1;have z:=a1k (show r=false by rw[←hr.out];exact xB h6.out (by rw[X.out];exact yZ hs.out));go_wp2;go_ret;exact⟨by rw[z.out];rfl,(a1j d5 bS)⟩
    · subst e1;have U:=a1k (Y.out.step (by rw[X.out];exact uC hs.out));go_wp2;go_roundw
      case rel=>exact⟨k+1,by omega,by go_num,U,bS⟩
      case measure=>simp[intOf];omega
    subst e1
    rcases b with _ | _
    · have z:=a1k (show r=false by rw[←hr.out];exact xB h6.out (by rw[X.out];exact nI hs.out));go_wp2;go_ret;exact⟨by rw[z.out];rfl,(a1j d5 bS)⟩
    have U:=a1k (Y.out.step (by rw[X.out];exact nI hs.out));go_wp2;go_roundw
    case rel=>exact⟨k+1,by omega,by go_num,U,bS⟩
    case measure=>simp[intOf];omega
  · obtain rfl:k=ls.length:=by omega
    have t1:decide ((ls.length:Int)<(ls.length:Int))=false:=a1v (by omega);have l4:=a1k (show AllI (eI ns ms x.pay.qs (x.mults.qs++(x.low.qs++x.high.qs))) (C5 ns ms).length by rw[←c7.out,a1s];exact Y.out);clear Y;go_wp2
    go_loopw [17] (fun v wr=>∃ i:Nat,i≤ms.length∧v=.int .i64 (i:Int)∧Hid (AllI (V2 ns (tg.map FrD.q) x.pay.qs x.mults.qs x.low.qs x.high.qs x.lev.q) i)∧Below wo.heap.size wo wr) (fun v _=>ms.length-(intOf v).toNat)
    case atStart=>exact⟨0,by omega,rfl,fun j hj=>by omega,y⟩
    case round =>
     clear y;obtain⟨i,hi,rfl,f1,y⟩:=hrel
     by_cases hkl:i<ms.length
     · have p4:(i:Int)<(ms.length:Int):=by omega
       have c8:=a1k (k4.out (by omega));have r4:(i:Int)<(x.pay.ds.length:Int):=by have:=d4.out;omega
       have r5:(i:Int)<(tg.length:Int):=by have:=l7.out;omega
       have G:=a1j g8 y;have b7:=hn.below G;have Z:=hx.below G;obtain⟨ap,dp,ep,l3,d0,d1,d2,f6,h9⟩:=Z.pay.at (k:=i) (by have:=d4.out;omega);obtain⟨E,dt,et,n6,t0,t1,t2,f4,j3⟩:=(k0.below G).at (k:=i) (by have:=l7.out;omega);rw[et];have M:=a1k (show w0.heap.size<wr.heap.size from a1o J.out G.size);have b9:=a1k (show (ap.add (i*3)).block<wr.heap.size by rw[f7];exact l3);have b5:=a1k (show (E.add (i*3)).block<wr.heap.size by rw[f7];exact n6);have O:=a4f B1 G;have q0:wr.cell? ⟨w0.heap.size,0,none⟩=some (.slice (some ap) x.pay.ds.length x.pay.c):=by rw[←ep];exact a4e O 0
       have q1:wr.cell? ⟨w0.heap.size,1,none⟩=some (.slice x.mults.a x.mults.ds.length x.mults.c):=a4e O 1;have q2:wr.cell? ⟨w0.heap.size,2,none⟩=some (.slice x.low.a x.low.ds.length x.low.c):=a4e O 2;have q3:wr.cell? ⟨w0.heap.size,3,none⟩=some (.slice x.high.a x.high.ds.length x.high.c):=a4e O 3;have q4:wr.cell? ⟨w0.heap.size,4,none⟩=some (.bool x.lev.neg):=a4e O 4;have q5:wr.cell? ⟨w0.heap.size,5,none⟩=some (.slice x.lev.a x.lev.la.length x.lev.ca):=a4e O 5;have q6:wr.cell? ⟨w0.heap.size,6,none⟩=some (.slice x.lev.b x.lev.lb.length x.lev.cb):=a4e O 6;have n3:=a1k (show x.v=.agg #[.slice (some ap) x.pay.ds.length x.pay.c,.slice x.mults.a x.mults.ds.length x.mults.c,.slice x.low.a x.low.ds.length x.low.c,.slice x.high.a x.high.ds.length x.high.c,.bool x.lev.neg,.slice x.lev.a x.lev.la.length x.lev.ca,.slice x.lev.b x.lev.lb.length x.lev.cb] by rw[←ep]);have d9:=a1k (show Fits K dp.q from c4.out.fr' dp h9.out);have f0:=a1k (show Fits K dt.q from j5.out.fr dt (a1n j3.out));obtain⟨fq,g5⟩:∃ f,Hid (x.lev.q+x.low.qs.getD i 0-x.high.qs.getD i 0+o5 (F7 ns x.mults.qs i)=f):=⟨_,rfl⟩
       have j0:=a1k (show Fits (K+K+1+K+1+(1+20*(K+1))+1) fq by
        rw[←g5.out];have h1:=H1 (n:=20) (W7 (i:=i) (ns:=ns) (by omega:0<K) c8.out.mults) (by rw[Q3];exact hn20) (F7 ns x.mults.qs i).length;rw[a2z] at h1;exact (((c8.out.lev.add (c8.out.low.getD (by omega) i)).sub (c8.out.high.getD (by omega) i)).add h1))
       obtain⟨c,hc⟩:∃ c,Hid (D0 (dp.q-dt.q) fq=c):=⟨_,rfl⟩;obtain⟨b,hb⟩:∃ b,Hid (decide (dp.q-dt.q=fq)=b):=⟨_,rfl⟩
       have p1:(c != 0)=!b:=by
        rw[←hb.out,←hc.out]
        by_cases e:dp.q-dt.q=fq
        · rw[a1w e,cmpR_zero.2 e];rfl
        · rw[a1v e]
          show _=true
          rw[bne_iff_ne];exact fun h=>e (cmpR_zero.1 h)
       have m4:=a1k (show V2 ns (tg.map FrD.q) x.pay.qs x.mults.qs x.low.qs x.high.qs x.lev.q i=b by
        unfold V2;rw[RwD.getD h9.out,sU j3.out,g5.out,hb.out])
       clear ep et O G;go_upto_region 19 with fail;have bT:=a3t wr.heap.size wr
       have hS:∀ w',Below wr.heap.size wr w'→w'.cell? ⟨w0.heap.size,0,none⟩=some (.slice (some ap) x.pay.ds.length x.pay.c)∧w'.cell? ⟨w0.heap.size,1,none⟩=some (.slice x.mults.a x.mults.ds.length x.mults.c)∧w'.cell? ⟨w0.heap.size,2,none⟩=some (.slice x.low.a x.low.ds.length x.low.c)∧w'.cell? ⟨w0.heap.size,3,none⟩=some (.slice x.high.a x.high.ds.length x.high.c)∧w'.cell? ⟨w0.heap.size,4,none⟩=some (.bool x.lev.neg)∧w'.cell? ⟨w0.heap.size,5,none⟩=some (.slice x.lev.a x.lev.la.length x.lev.ca)∧w'.cell? ⟨w0.heap.size,6,none⟩=some (.slice x.lev.b x.lev.lb.length x.lev.cb)∧w'.cell? (ap.add (i*3))=some (.bool dp.neg)∧w'.cell? ⟨(ap.add (i*3)).block,(ap.add (i*3)).off+1,none⟩=some (.slice dp.a dp.la.length dp.ca)∧w'.cell? ⟨(ap.add (i*3)).block,(ap.add (i*3)).off+2,none⟩=some (.slice dp.b dp.lb.length dp.cb)∧w'.cell? (E.add (i*3))=some (.bool dt.neg)∧w'.cell? ⟨(E.add (i*3)).block,(E.add (i*3)).off+1,none⟩=some (.slice dt.a dt.la.length dt.ca)∧w'.cell? ⟨(E.add (i*3)).block,(E.add (i*3)).off+2,none⟩=some (.slice dt.b dt.lb.length dt.cb)∧Below wr.heap.size wr w':=by
        intro w' o;exact⟨(o.cell (by exact M.out)).trans q0,(o.cell (by exact M.out)).trans q1,(o.cell (by exact M.out)).trans q2,(o.cell (by exact M.out)).trans q3,(o.cell (by exact M.out)).trans q4,(o.cell (by exact M.out)).trans q5,(o.cell (by exact M.out)).trans q6,(o.cell (by exact b9.out)).trans d0,(o.cell (by exact b9.out)).trans d1,(o.cell (by exact b9.out)).trans d2,(o.cell (by exact b5.out)).trans t0,(o.cell (by exact b5.out)).trans t1,(o.cell (by exact b5.out)).trans t2,o⟩
       have bo:Below wr.heap.size wr wr:=a3t _ _;have dS:Below wr.heap.size wr wr.drew:=bo.drew;go_wp2_with fail;refine a3u ?_;refine a3v (S:=fun w'=>w'.cell? ⟨w0.heap.size,0,none⟩=some (.slice (some ap) x.pay.ds.length x.pay.c)∧w'.cell? ⟨w0.heap.size,1,none⟩=some (.slice x.mults.a x.mults.ds.length x.mults.c)∧w'.cell? ⟨w0.heap.size,2,none⟩=some (.slice x.low.a x.low.ds.length x.low.c)∧w'.cell? ⟨w0.heap.size,3,none⟩=some (.slice x.high.a x.high.ds.length x.high.c)∧w'.cell? ⟨w0.heap.size,4,none⟩=some (.bool x.lev.neg)∧w'.cell? ⟨w0.heap.size,5,none⟩=some (.slice x.lev.a x.lev.la.length x.lev.ca)∧w'.cell? ⟨w0.heap.size,6,none⟩=some (.slice x.lev.b x.lev.lb.length x.lev.cb)∧w'.cell? (ap.add (i*3))=some (.bool dp.neg)∧w'.cell? ⟨(ap.add (i*3)).block,(ap.add (i*3)).off+1,none⟩=some (.slice dp.a dp.la.length dp.ca)∧w'.cell? ⟨(ap.add (i*3)).block,(ap.add (i*3)).off+2,none⟩=some (.slice dp.b dp.lb.length dp.cb)∧w'.cell? (E.add (i*3))=some (.bool dt.neg)∧w'.cell? ⟨(E.add (i*3)).block,(E.add (i*3)).off+1,none⟩=some (.slice dt.a dt.la.length dt.ca)∧w'.cell? ⟨(E.add (i*3)).block,(E.add (i*3)).off+2,none⟩=some (.slice dt.b dt.lb.length dt.cb)∧Below wr.heap.size wr w') (by kernel_rfl) (hS _ dS) (fun g=>?_);refine P2 0 1 g ?_;refine K4 2 rfl g ?_
       refine mX 3 4 5 6 7 8 10 11 g ?_;refine K4 12 rfl g ?_;refine z8 9 rfl fun K hK=>?_;go_simp;have D:Below wr.heap.size wr wr.drew:=(a3t _ _).drew;replace b7:=b7.below D;replace Z:=Z.below D;replace f6:=f6.below D;replace f4:=f4.below D;replace bT:=a1j bT D;replace bo:=a1j bo D;have t:=J3 f6 f4 d9.out f0.out (by omega);go_at_call 59;refine (t).mono ?_;rintro e u1 ⟨v1,rfl,f9,N⟩;replace b7:=b7.below N;replace Z:=Z.below N;replace bT:=a1j bT N;replace bo:=a1j bo N;clear t;go_wp2_with fail;refine hK.out _ _ (hS _ bo) (fun g=>?_);clear hK K;(try simp only[j9]);refine z8 13 rfl fun K hK=>?_;go_simp;have t:=oK (i:=i) b7 Z h2.out hn20 (by omega) b2.out (by have:=b6.out;omega) (by have:=d3.out;omega) c8.out (by omega) (by omega);rw[n3.out] at t;rw[g5.out] at t;go_at_call 63;refine (t).mono ?_;rintro e u2 ⟨v2,rfl,p6,R⟩;replace f9:=f9.below R;replace bT:=a1j bT R
       replace bo:=a1j bo R;clear t;go_wp2_with fail;refine hK.out _ _ (hS _ bo) (fun g=>?_);clear hK K;(try simp only[j9]);refine z8 14 rfl fun K hK=>?_;go_simp;have t:=W1 f9 p6 (d9.out.sub f0.out) j0.out (by omega);rw[hc.out] at t;go_at_call 67;refine (t).mono ?_;rintro e u3 ⟨rfl,b3⟩;replace bT:=a1j bT b3;replace bo:=a1j bo b3;clear t;go_wp2_with fail;refine hK.out _ _ (hS _ bo) (fun g=>?_);clear hK K;(try simp only[j9]);refine K4 15 rfl g ?_;refine a4c (by kernel_rfl) ?_ _;refine a3w ?_;(try go_simp);clear g;clear hS dS bo;have bS:=a1j y bT
       rcases b with _ | _
       · have z:=a1k (show r=false by rw[←hr.out];exact ref_no6 hkl m4.out);go_wp2;go_ret;exact⟨by rw[z.out];rfl,(a1j d5 bS)⟩
       have f5:=a1k (f1.out.step m4.out);go_wp2;go_roundw
       case rel=>exact⟨i+1,by omega,by go_num,f5,bS⟩
       case measure=>simp[intOf];omega
     · obtain rfl:i=ms.length:=by omega
       have t2:decide ((ms.length:Int)<(ms.length:Int))=false:=a1v (by omega)
       have h4:=a1k (show r=true by
        rw[←hr.out];exact ref_yes (by rw[a4l];exact b6.out) (by rw[a4l];exact d3.out) (by rw[a4l];exact b2.out) d6.out l4.out f1.out)
       go_wp2;go_ret;exact⟨by rw[h4.out];rfl,(a1j d5 y)⟩
theorem pH {K:Nat}{A B C:Option Addr}{ca cb cc:Nat}{tg:List FrD}{ns:List NdD}{ms:List Int}{v:Value}{sq:Rat}{x:PtD}{w:World}(ht0:FL w A ca tg) (hn0:NL w B cb ns) (hm0:ZL w C cc ms) (hv0:FV w v sq) (hx00:PtL w x)
 (hft:QFits K (tg.map FrD.q)) (hfs:Fits K sq) (hfp:QFits K x.pay.qs) (hfx:0<ms.length→PtF K x) (hK0:2≤K) (hK:K≤10000000) (hn20:ns.length≤20) :
 Calls Tryz.prog 20 #[.slice A tg.length ca,.slice B ns.length cb,.slice C ms.length cc,v,x.v] w (mY (G8 (tg.map FrD.q) ns ms sq x.pay.qs x.mults.qs x.low.qs x.high.qs x.lev.q) w):=by
 obtain⟨r,hr⟩:∃ r,Hid (G8 (tg.map FrD.q) ns ms sq x.pay.qs x.mults.qs x.low.qs x.high.qs x.lev.q=r):=⟨_,rfl⟩;rw[hr.out];obtain⟨sv,rfl,o,H⟩:=hv0.frd;obtain⟨w0,I,b0,l0,B0⟩:=f8 w #[.bool sv.neg,.slice sv.a sv.la.length sv.ca,.slice sv.b sv.lb.length sv.cb] 28;obtain⟨w1,J,b1,l1,B1⟩:=f8 w0 #[.slice x.pay.a x.pay.ds.length x.pay.c,.slice x.mults.a x.mults.ds.length x.mults.c,.slice x.low.a x.low.ds.length x.low.c,.slice x.high.a x.high.ds.length x.high.c,.bool x.lev.neg,.slice x.lev.a x.lev.la.length x.lev.ca,.slice x.lev.b x.lev.lb.length x.lev.cb] 34;have j:=a1j b0 b1;have G:=a4f B0 b1;have n:=ht0.below j;have hn:=hn0.below j;have hm:=hm0.below j;have hv:=hv0.below j;have hx:=hx00.below j;clear ht0 hn0 hm0 hv0 hx00 o B0;obtain⟨E,hE⟩:∃ E,Hid (argsE tg.length ns ms=E):=⟨_,rfl⟩;have m:=a1k hft;have t:=a1k hfs;have z:=a1k hfx;clear hft hfs hfx;have g:=oM (A:=A) (tl:=tg.length) (ca:=ca) (w:=w1) n.len hn hm;rw[hE.out] at g;go_enter Tryz.func20,Tryz.ntmps20;go_wp2_with fail;refine g.mono ?_;rintro e y1 ⟨rfl,d⟩;clear g;have y:=a1j j d
 by_cases hE0:¬ E=0
 · have g1:(E == 0)=false:=by simpa using hE0
   have f:=a1k (show r=E by rw[←hr.out];unfold G8;rw[a1s,hE.out,if_pos hE0]);clear hE0;go_wp2;go_ret;exact⟨by rw[f.out];rfl,y⟩
 have s:=a3s.1 hE0;subst s;clear hE0;have D:=(K3 hE.out).1;obtain⟨b,hb⟩:∃ b,Hid (O4 (tg.map FrD.q) ns ms sq x.pay.qs x.mults.qs x.low.qs x.high.qs x.lev.q=b):=⟨_,rfl⟩;have p:=a1k (show r=if b=true then 0 else 13 by rw[←hr.out,←hb.out,rU D];unfold G8;rw[a1s,hE.out];simp);have k:=a4f G d;have h:=a4f B1 d;have s0:y1.cell? ⟨w.heap.size,0,none⟩=some (.bool sv.neg):=a4e k 0;have s1:y1.cell? ⟨w.heap.size,1,none⟩=some (.slice sv.a sv.la.length sv.ca):=a4e k 1;have s2:y1.cell? ⟨w.heap.size,2,none⟩=some (.slice sv.b sv.lb.length sv.cb):=a4e k 2;have c0:y1.cell? ⟨w0.heap.size,0,none⟩=some (.slice x.pay.a x.pay.ds.length x.pay.c):=a4e h 0;have c1:y1.cell? ⟨w0.heap.size,1,none⟩=some (.slice x.mults.a x.mults.ds.length x.mults.c):=a4e h 1;have c2:y1.cell? ⟨w0.heap.size,2,none⟩=some (.slice x.low.a x.low.ds.length x.low.c):=a4e h 2;have c3:y1.cell? ⟨w0.heap.size,3,none⟩=some (.slice x.high.a x.high.ds.length x.high.c):=a4e h 3;have c4:y1.cell? ⟨w0.heap.size,4,none⟩=some (.bool x.lev.neg):=a4e h 4;have c5:y1.cell? ⟨w0.heap.size,5,none⟩=some (.slice x.lev.a x.lev.la.length x.lev.ca):=a4e h 5;have c6:y1.cell? ⟨w0.heap.size,6,none⟩=some (.slice x.lev.b x.lev.lb.length x.lev.cb):=a4e h 6
 have g:=dP (K:=K) (x:=x) hE.out (n.below d) (hn.below d) (hm.below d) (hv.below d) (hx.below d) m.out t.out hfp z.out hK0 hK hn20;rw[hb.out] at g;go_wp2_with fail;refine g.mono ?_;rintro e y2 ⟨rfl,F⟩;clear g;have l:=a1j y F
 rcases b with _ | _
 · have f:=a1k (show r=13 by rw[p.out];rfl);go_wp2;go_ret;exact⟨by rw[f.out];rfl,l⟩
 have f:=a1k (show r=0 by rw[p.out];rfl);go_wp2;go_ret;exact⟨by rw[f.out];rfl,l⟩
theorem FL.oneL {w:World}{g:Nat}{t:TypeId}{d:FrD}(h:Blk w g t #[.bool d.neg,.slice d.a d.la.length d.ca,.slice d.b d.lb.length d.cb]) (hd:FV w d.v d.q):FL w (some ⟨g,0,none⟩) 1 [d] :=
 ⟨⟨by simp,by decide,fun j hj=>⟨_,rfl,Blk.lt h,fun i u hu=>by
  have hj2:j<1:=hj;obtain rfl:j=0:=by omega
  rcases i with _ | _ | _ | i
  · injection hu with hu;subst hu;exact a4e h 0
  · injection hu with hu;subst hu;exact a4e h 1
  · injection hu with hu;subst hu;exact a4e h 2
  · simp[FrD.cells] at hu⟩⟩,fun f hf=>by simp at hf;subst hf;exact hd⟩
theorem ML.five {w:World}{g:Nat}{t:TypeId}{r0 r1 r2 r3 r4:RwD}(h:Blk w g t #[.slice r0.a r0.ds.length r0.c,.slice r1.a r1.ds.length r1.c,.slice r2.a r2.ds.length r2.c,.slice r3.a r3.ds.length r3.c,.slice r4.a r4.ds.length r4.c]) (h0:FL w r0.a r0.c r0.ds) (h1:FL w r1.a r1.c r1.ds) (h2:FL w r2.a r2.c r2.ds) (h3:FL w r3.a r3.c r3.ds) (h4:FL w r4.a r4.c r4.ds):ML w (some ⟨g,0,none⟩) 5 [r0,r1,r2,r3,r4] :=
 ⟨⟨by simp,by decide,fun j hj=>⟨_,rfl,Blk.lt h,fun i u hu=>by
  have hj2:j<5:=hj;have hi:i=0:=by have:=(a2e.1 hu).1;simpa [RwD.cells] using this
  subst hi;have h5:j=0∨j=1∨j=2∨j=3∨j=4:=by omega
  rcases h5 with rfl | rfl | rfl | rfl | rfl
  · injection hu with hu;subst hu;exact a4e h 0
  · injection hu with hu;subst hu;exact a4e h 1
  · injection hu with hu;subst hu;exact a4e h 2
  · injection hu with hu;subst hu;exact a4e h 3
  · injection hu with hu;subst hu;exact a4e h 4⟩⟩,fun r hr=>by
  simp only[a3i,List.not_mem_nil,or_false] at hr
  rcases hr with rfl | rfl | rfl | rfl | rfl
  · exact h0
  · exact h1
  · exact h2
  · exact h3
  · exact h4⟩
theorem pV {K:Nat}{x:AgD}{y:PtD}{w:World}{n m:Int}(hF:FewP w x n m) (hn0:NL w x.na x.nc x.ns) (hm0:ZL w x.ma x.mc x.ms) (hy0:PtL w y) (hV:PtF 100000000 y) (hfp:QFits K y.pay.qs) (hfx:0<x.ms.length→PtF K y) (hK0:2≤K) (hK:K≤10000000) (hn20:x.ns.length≤20) :
 Calls Tryz.prog 8 #[x.v,y.v] w (gJ (decide (G8 (x.t.ds.map FrD.q) x.ns x.ms x.s.q y.pay.qs y.mults.qs y.low.qs y.high.qs y.lev.q=0)) w):=by
 obtain⟨r,hr⟩:∃ r,Hid (G8 (x.t.ds.map FrD.q) x.ns x.ms x.s.q y.pay.qs y.mults.qs y.low.qs y.high.qs y.lev.q=r):=⟨_,rfl⟩;rw[hr.out];obtain⟨b,hb⟩:∃ b,Hid (decide (r=0)=b):=⟨_,rfl⟩;rw[hb.out];have c7:(r == 0)=b:=by rw[←hb.out];exact V1 Iff.rfl
 obtain⟨w0,c8,b0,l0,B0⟩:=f8 w #[.slice x.t.a x.t.ds.length x.t.c,.slice x.na x.ns.length x.nc,.slice x.ma x.ms.length x.mc,.bool x.s.neg,.slice x.s.a x.s.la.length x.s.ca,.slice x.s.b x.s.lb.length x.s.cb] 30;obtain⟨w1,c9,b1,l1,B1⟩:=f8 w0 #[.slice y.pay.a y.pay.ds.length y.pay.c,.slice y.mults.a y.mults.ds.length y.mults.c,.slice y.low.a y.low.ds.length y.low.c,.slice y.high.a y.high.ds.length y.high.c,.bool y.lev.neg,.slice y.lev.a y.lev.la.length y.lev.ca,.slice y.lev.b y.lev.lb.length y.lev.cb] 34;have L:=a1j b0 b1;have BA:=a4f B0 b1;have c0:w1.cell? ⟨w0.heap.size,0,none⟩=some (.slice y.pay.a y.pay.ds.length y.pay.c):=a4e B1 0;have c1:w1.cell? ⟨w0.heap.size,1,none⟩=some (.slice y.mults.a y.mults.ds.length y.mults.c):=a4e B1 1;have c2:w1.cell? ⟨w0.heap.size,2,none⟩=some (.slice y.low.a y.low.ds.length y.low.c):=a4e B1 2;have c3:w1.cell? ⟨w0.heap.size,3,none⟩=some (.slice y.high.a y.high.ds.length y.high.c):=a4e B1 3;have c4:w1.cell? ⟨w0.heap.size,4,none⟩=some (.bool y.lev.neg):=a4e B1 4;have c5:w1.cell? ⟨w0.heap.size,5,none⟩=some (.slice y.lev.a y.lev.la.length y.lev.ca):=a4e B1 5;have c6:w1.cell? ⟨w0.heap.size,6,none⟩=some (.slice y.lev.b y.lev.lb.length y.lev.cb):=a4e B1 6;obtain⟨y1,b8,b2,l2,B2⟩:=f8 w1 #[.bool y.lev.neg,.slice y.lev.a y.lev.la.length y.lev.ca,.slice y.lev.b y.lev.lb.length y.lev.cb] 28
 obtain⟨y2,b7,b3,l3,B3⟩:=f8 y1 #[.slice y.pay.a y.pay.ds.length y.pay.c,.slice y.mults.a y.mults.ds.length y.mults.c,.slice y.low.a y.low.ds.length y.low.c,.slice y.high.a y.high.ds.length y.high.c,.slice (some ⟨w1.heap.size,0,none⟩) 1 1] 22;have C:=a1j b2 b3;have h:=a1j L C;have o:=hy0.below h;obtain⟨z,j⟩:∃ l:List RwD,Hid ([y.pay,y.mults,y.low,y.high,⟨some ⟨w1.heap.size,0,none⟩,1,[y.lev]⟩]=l):=⟨_,a1k rfl⟩
 have hM:ML y2 (some ⟨y1.heap.size,0,none⟩) 5 z:=by
  rw[←j.out];exact ML.five (r0:=y.pay) (r1:=y.mults) (r2:=y.low) (r3:=y.high) (r4:=⟨some ⟨w1.heap.size,0,none⟩,1,[y.lev]⟩) B3 o.pay o.mults o.low o.high (FL.oneL (a4f B2 b3) o.lev)
 have T:=a1k (show z.length=5 by rw[←j.out];rfl)
 have Z:=a1k (show ∀ r∈z,QFits 100000000 r.qs by
  rw[←j.out];intro r hr
  simp only[a3i,List.not_mem_nil,or_false] at hr
  rcases hr with rfl | rfl | rfl | rfl | rfl
  · exact hV.pay
  · exact hV.mults
  · exact hV.low
  · exact hV.high
  · intro q hq
    simp[RwD.qs] at hq
    subst hq;exact hV.lev)
 have b4:=a4f BA C;have O:=a4f B1 C;have G:=a1k hF.tf;have R:=a1k hF.sf;have ht:=hF.t.below h;have hs:=hF.s.below h;have hn:=hn0.below h;have hm:=hm0.below h;have D:=a1k hfp;have F:=a1k hfx;clear hF hn0 hm0 hy0 hV hfp hfx B0 B1 B2 B3 BA;go_enter Tryz.func8,Tryz.ntmps8;go_wp2;clear c0 c1 c2 c3 c4 c5 c6
 go_loopw [22] (fun i wr=>∃ k:Nat,k≤5∧i=.int .i64 (k:Int)∧Below y2.heap.size y2 wr) (fun i _=>5-(intOf i).toNat)
 case atStart=>exact⟨0,by omega,rfl,a3t _ _⟩
 case round =>
  obtain⟨k,hk,rfl,f⟩:=hrel
  by_cases hkl:k<5
  · have d0:(k:Int)<5:=by omega
    obtain⟨a,g,ea,d1,N,E,V⟩:=(hM.below f).at (k:=k) (by rw[T.out];exact hkl)
    cases ea
    rw[D6] at N;have U:=a1k (Z.out g (a1n V.out));have d2:=E.len;obtain⟨wo,M⟩:∃ wo:World,wo=wr:=⟨_,rfl⟩;subst M;go_wp2
    go_loopw [28] (fun i w'=>∃ l:Nat,l≤g.ds.length∧i=.int .i64 (l:Int)∧Below wo.heap.size wo w') (fun i _=>g.ds.length-(intOf i).toNat)
    case atStart=>exact⟨0,by omega,rfl,a3t _ _⟩
    case round =>
     obtain⟨l,hl,rfl,A⟩:=hrel
     by_cases hll2:l<g.ds.length
     · have b9:(l:Int)<(g.ds.length:Int):=by omega
       obtain⟨a2,d,I,b5,e0,e1,e2,H,X⟩:=(E.below A).at hll2;have Y:=a1k (U.out.fr' d X.out);rw[I];obtain⟨wA,wB,eA,p0,p1,p2,r0,r1,r2,eB,J,bV,lV⟩:=new_any wr d;obtain⟨x0,x1,x2⟩:=J.cells;have p:=mT (H.below bV) Y.out (by omega);go_wp2_with fail;refine p.mono ?_;rintro e w6 ⟨rfl,b6⟩;clear p;have B:=A.trans (((a1j bV b6)).mono A.size);go_wp2;go_roundw
       case rel=>exact⟨l+1,by omega,by go_num,B⟩
       case measure=>simp[intOf];omega
     · obtain rfl:l=g.ds.length:=by omega
       have t1:decide ((g.ds.length:Int)<(g.ds.length:Int))=false:=a1v (by omega);have B:=a1j f A;go_wp2;go_roundw
       case rel=>exact⟨k+1,by omega,by go_num,B⟩
       case measure=>simp[intOf];omega
  · obtain rfl:k=5:=by omega
    have hA:=a4f b4 f;have hX:=a4f O f;have a0:wr.cell? ⟨w.heap.size,0,none⟩=some (.slice x.t.a x.t.ds.length x.t.c):=a4e hA 0;have a1:wr.cell? ⟨w.heap.size,1,none⟩=some (.slice x.na x.ns.length x.nc):=a4e hA 1;have a2:wr.cell? ⟨w.heap.size,2,none⟩=some (.slice x.ma x.ms.length x.mc):=a4e hA 2;have a3:wr.cell? ⟨w.heap.size,3,none⟩=some (.bool x.s.neg):=a4e hA 3;have a4:wr.cell? ⟨w.heap.size,4,none⟩=some (.slice x.s.a x.s.la.length x.s.ca):=a4e hA 4;have a5:wr.cell? ⟨w.heap.size,5,none⟩=some (.slice x.s.b x.s.lb.length x.s.cb):=a4e hA 5;have c0:wr.cell? ⟨w0.heap.size,0,none⟩=some (.slice y.pay.a y.pay.ds.length y.pay.c):=a4e hX 0;have c1:wr.cell? ⟨w0.heap.size,1,none⟩=some (.slice y.mults.a y.mults.ds.length y.mults.c):=a4e hX 1;have c2:wr.cell? ⟨w0.heap.size,2,none⟩=some (.slice y.low.a y.low.ds.length y.low.c):=a4e hX 2;have c3:wr.cell? ⟨w0.heap.size,3,none⟩=some (.slice y.high.a y.high.ds.length y.high.c):=a4e hX 3;have c4:wr.cell? ⟨w0.heap.size,4,none⟩=some (.bool y.lev.neg):=a4e hX 4;have c5:wr.cell? ⟨w0.heap.size,5,none⟩=some (.slice y.lev.a y.lev.la.length y.lev.ca):=a4e hX 5;have c6:wr.cell? ⟨w0.heap.size,6,none⟩=some (.slice y.lev.b y.lev.lb.length y.lev.cb):=a4e hX 6;have p:=pH (K:=K) (x:=y) (ht.below f) (hn.below f) (hm.below f) (hs.below f) (o.below f) (G.out.mono hK0) (R.out.mono hK0) D.out F.out hK0 hK hn20
    rw[hr.out] at p;go_wp2_with fail;refine p.mono ?_;rintro e w6 ⟨rfl,b6⟩;clear p;go_wp2;go_ret;exact⟨rfl,h.trans (((a1j f b6)).mono h.size)⟩
theorem pE {K n:Nat}{ps:List (Nat × Rat)}(h:∀ p∈ps,Fits K p.2):∀ j,j≤ps.length→QFits (1+j*(K+1)) (G3 n (ps.take j)):=by
 intro j
 induction j with
 | zero =>
  intro _ q hq
  have:q=0:=by
   have h1:G3 n (ps.take 0)=List.replicate n 0:=rfl;rw[h1] at hq;exact (a3q.1 hq).2
  subst this;exact Fits.zero (by omega)
 | succ j ih =>
  intro hj;rw[V8 (a1m (show j<ps.length by omega))];have h1:=mP (p:=ps[j]) (by omega) (ih (by omega)) (h _ (a1z _));have e:1+(j+1)*(K+1)=1+j*(K+1)+K+1:=by rw[Nat.succ_mul];omega
  rw[e];exact h1
theorem kW {K:Nat}{l:List Rat}(h:∀ i,i<l.length→Fits K (gt l i)):QFits K l:=fun q hq=>by
 obtain⟨i,hi,rfl⟩:=a3j hq;have h1:=h i hi;unfold gt at h1
 rwa [p7 0 hi] at h1
section
variable {ns:List NdD}{ms:List Int}{tg:List Rat}{sum:Rat}{t:St}
theorem Best.small (h:Best ms.length (o0 ns ms) tg sum t) (hc:ConI ms.length (o0 ns ms)) (hn:ms.length≤8) (ht:QFits 2 tg) (hs:Fits 2 sum) (h0:0<ms.length):QFits 5594780 t.x∧Fits 699345 t.level∧QFits 699345 t.mults:=by
 obtain⟨k1,k2⟩:=pT hc h.hA hn ht hs (h.li h0) h.pt;refine⟨kW fun i hi=>k2 i (by rw[←h.lx];exact hi),k1 0 (by omega),kW fun i hi=>?_⟩;have h1:=k1 (i+1) (by rw[h.lm] at hi;omega)
 rwa [I6] at h1
theorem Best.spK {K:Nat}(h:Best ms.length (o0 ns ms) tg sum t) (hn:ms.length≤8) (hm:QFits K t.mults):QFits (1+7*(K+1)) (D8 ns ms t):=by
 have h1:=pE (n:=(o0 ns ms).length) (ps:=t.active.zip t.mults) (K:=K) (fun p hp=>hm _ (List.of_mem_zip hp).2) _ (a1u _);rw[a2z,h.zipL] at h1;have h2:=a1y (K+1) (h.act hn);exact h1.mono (by omega)
theorem Best.payF (h:Best ms.length (o0 ns ms) tg sum t) (hc:ConI ms.length (o0 ns ms)) (hn:ms.length≤8) (ht:QFits 2 tg) (hs:Fits 2 sum):QFits 6000000 t.x:=by
 rcases a3a ms.length with h0 | h0
 · have e:t.x=[]:=a2a (by rw[h.lx,h0]);rw[e];intro q hq;simp at hq
 · exact (h.small hc hn ht hs h0).1.mono (by decide)
theorem Best.ptF {y:PtD}(h:Best ms.length (o0 ns ms) tg sum t) (hc:ConI ms.length (o0 ns ms)) (hn:ms.length≤8) (ht:QFits 2 tg) (hs:Fits 2 sum) (q1:y.pay.qs=t.x) (q2:y.mults.qs=(D8 ns ms t).take ns.length) (q3:y.low.qs=((D8 ns ms t).drop ns.length).take ms.length) (q4:y.high.qs=(D8 ns ms t).drop (ns.length+ms.length)) (q5:y.lev.q=t.level) :
 PtF 100000000 y∧(0<ms.length→PtF 6000000 y):=by
 have b:∀ K,QFits K (D8 ns ms t)→QFits K y.mults.qs∧QFits K y.low.qs∧QFits K y.high.qs:=fun K hK=>by
  rw[q2,q3,q4];exact⟨fun q hq=>hK q (a2k hq),fun q hq=>hK q (a2l (a2k hq)),fun q hq=>hK q (a2l hq)⟩
 constructor
 · obtain⟨p1,p2,p3⟩:=b _ ((h.spK hn h.fit.2.2).mono (show 1+7*(KN+1)≤100000000 by decide));exact⟨by rw[q1];exact h.fit.1.mono (by decide),p1,p2,p3,by rw[q5];exact h.fit.2.1.mono (by decide)⟩
 · intro h0;obtain⟨k1,k2,k3⟩:=h.small hc hn ht hs h0;obtain⟨p1,p2,p3⟩:=b _ ((h.spK hn k3).mono (show 1+7*(699345+1)≤6000000 by decide));exact⟨by rw[q1];exact k1.mono (by decide),p1,p2,p3,by rw[q5];exact k2.mono (by decide)⟩
theorem Best.checks {y:PtD}(h:Best ms.length (o0 ns ms) tg sum t) (hE:argsE tg.length ns ms=0) (q1:y.pay.qs=t.x) (q2:y.mults.qs=(D8 ns ms t).take ns.length) (q3:y.low.qs=((D8 ns ms t).drop ns.length).take ms.length) (q4:y.high.qs=(D8 ns ms t).drop (ns.length+ms.length)) (q5:y.lev.q=t.level) :
 G8 tg ns ms sum y.pay.qs y.mults.qs y.low.qs y.high.qs y.lev.q=0:=by
 unfold G8;rw[if_neg (by rw[hE];simp),q1,q2,q3,q4,q5,if_pos (h.cert (K3 hE).1)]
end
section
variable {ns:List NdD}{ms:List Int}{tg u:List Rat}{sum:Rat}{t:St}
end
end Go.Proofs.YtjhkapjadfpimaaGreat
