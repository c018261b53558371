/- Contracts of functions, for the law. -/
import Derived.Test.YtjhkapjadfpimaaGreatNRPm
namespace Go.Proofs.YtjhkapjadfpimaaGreat
set_option linter.unusedVariables false
set_option linter.unusedSimpArgs false
open Go.RowKit Plain
attribute [local go_sem ↓] Go.wp_at_zero Go.wp_at_succ
set_option maxRecDepth 100000
set_option maxHeartbeats 40000000
theorem ky {K:Nat}{A B C:Option Addr}{ca cb cc:Nat}{tg:List FrD}{ns:List NdD}{ms:List Int}{v:Value}{sq:Rat}{x:PtD}{w:World}(hE:argsE tg.length ns ms=0) (ht0:FL w A ca tg) (hn0:NL w B cb ns) (hm0:ZL w C cc ms) (hv0:FV w v sq) (hx00:PtL w x)
 (hft:QFits K (tg.map FrD.q)) (hfs:Fits K sq) (hfp:QFits K x.pay.qs) (hfx:0<ms.length→PtF K x) (hK0:2≤K) (hK:K≤10000000) (hn20:ns.length≤20) :
 Calls Tryz.prog 39 #[.slice A tg.length ca,.slice B ns.length cb,.slice C ms.length cc,v,x.v] w (lX (fi (tg.map FrD.q) ns ms sq x.pay.qs x.mults.qs x.low.qs x.high.qs x.lev.q) w):=by
 obtain⟨r,hr⟩:∃ r,Hid (fi (tg.map FrD.q) ns ms sq x.pay.qs x.mults.qs x.low.qs x.high.qs x.lev.q=r):=⟨_,rfl⟩;rw[hr.out];obtain⟨sv,rfl,fb,h7⟩:=hv0.frd;obtain⟨w0,hg,b0,l0,B0⟩:=ag w #[.bool sv.neg,.slice sv.a sv.la.length sv.ca,.slice sv.b sv.lb.length sv.cb] 28;obtain⟨w1,hh,b1,l1,B1⟩:=ag w0 #[.slice x.pay.a x.pay.ds.length x.pay.c,.slice x.mults.a x.mults.ds.length x.mults.c,.slice x.low.a x.low.ds.length x.low.c,.slice x.high.a x.high.ds.length x.high.c,.bool x.lev.neg,.slice x.lev.a x.lev.la.length x.lev.ca,.slice x.lev.b x.lev.lb.length x.lev.cb] 34;have G:=Di b0 b1;have cm:=Ea B0 b1;have g4:=ht0.below G;have hn:=hn0.below G;have hm:=hm0.below G;have hv:=hv0.below G;have hx:=hx00.below G;clear ht0 hn0 hm0 hv0 hx00 fb B0;have hy:=hn.len;have hl:=hm.len;have h9:=g4.len;have j0:=hx.low.len;have h8:=hx.high.len;have j1:=hx.mults.len;have hp:=hx.pay.len;obtain⟨E1,E2,E3,E4,E5⟩:=dP hE;have f1:=Dj (show ∀ d∈ns,0≤d.p∧d.p<256 from fun d hd=>⟨(E5 d hd).1,by have:=(E5 d hd).2.1;have:=oJ E1;omega⟩);clear E4 E5;have dx:=Dj hft;have dq:=Dj hfs;have dr:=Dj hfx;have b9:=Dj hfp;have fs:=Dj E3;clear hft hfs hfx hfp E3;have s0:w1.cell? ⟨w.heap.size,0,none⟩=some (.bool sv.neg):=D9 cm 0;have s1:w1.cell? ⟨w.heap.size,1,none⟩=some (.slice sv.a sv.la.length sv.ca):=D9 cm 1
 have s2:w1.cell? ⟨w.heap.size,2,none⟩=some (.slice sv.b sv.lb.length sv.cb):=D9 cm 2;have c0:w1.cell? ⟨w0.heap.size,0,none⟩=some (.slice x.pay.a x.pay.ds.length x.pay.c):=D9 B1 0;have c1:w1.cell? ⟨w0.heap.size,1,none⟩=some (.slice x.mults.a x.mults.ds.length x.mults.c):=D9 B1 1;have c2:w1.cell? ⟨w0.heap.size,2,none⟩=some (.slice x.low.a x.low.ds.length x.low.c):=D9 B1 2;have c3:w1.cell? ⟨w0.heap.size,3,none⟩=some (.slice x.high.a x.high.ds.length x.high.c):=D9 B1 3;have J:=Dj (show w0.heap.size<w1.heap.size from l1);go_enter Tryz.func39,Tryz.ntmps39
 by_cases hl1a:x.low.ds.length=ms.length
 rotate_left
 · have g1:((x.low.ds.length:Int) != (ms.length:Int))=true:=by rw[bne_iff_ne];omega
   have z:=Dj (show r=false by rw[←hr.out];exact AU (by rw[Eg];exact hl1a));clear hl1a;go_wp2;go_ret;exact⟨by rw[z.out];rfl,G⟩
 have g1:((x.low.ds.length:Int) != (ms.length:Int))=false:=by rw[bne_eq_false_iff_eq];omega
 have b4:=Dj hl1a;clear hl1a
 by_cases hl2a:x.high.ds.length=ms.length
 rotate_left
 · have g2:((x.high.ds.length:Int) != (ms.length:Int))=true:=by rw[bne_iff_ne];omega
   have z:=Dj (show r=false by rw[←hr.out];exact AT (by rw[Eg];exact hl2a));clear hl2a;go_wp2;go_ret;exact⟨by rw[z.out];rfl,G⟩
 have g2:((x.high.ds.length:Int) != (ms.length:Int))=false:=by rw[bne_eq_false_iff_eq];omega
 have bm:=Dj hl2a;clear hl2a
 by_cases hl3a:x.mults.ds.length=ns.length
 rotate_left
 · have g3:((x.mults.ds.length:Int) != (ns.length:Int))=true:=by rw[bne_iff_ne];omega
   have z:=Dj (show r=false by rw[←hr.out];exact AS (by rw[Eg];exact hl3a));clear hl3a;go_wp2;go_ret;exact⟨by rw[z.out];rfl,G⟩
 have g3:((x.mults.ds.length:Int) != (ns.length:Int))=false:=by rw[bne_eq_false_iff_eq];omega
 have b3:=Dj hl3a;clear hl3a;obtain⟨pb,bn⟩:∃ b,Hid (jM ns ms sq (x.pay.ds.map FrD.q)=b):=⟨_,rfl⟩;have t:=ro (K:=K) hE hn hm hv hx.pay b9.out dq.out hK0 hK;rw[bn.out] at t;go_wp2_with fail;refine t.mono ?_;rintro e y1 ⟨rfl,bf⟩;clear t;have f5:=Di G bf
 rcases pb with _ | _
 · have z:=Dj (show r=false by rw[←hr.out];exact AR bn.out);go_wp2;go_ret;exact⟨by rw[z.out];rfl,f5⟩
 have t:=p7 hE (hn.below bf) (hm.below bf);go_wp2_with fail;refine t.mono ?_;rintro e y2 ⟨A2,hq,ls,rfl,g6,b6,d7⟩;clear t;have I:=Di bf d7;have gm:=Di G I;have bv:=hx.below I;have e1:=(I.cell (p:=⟨w0.heap.size,1,none⟩) (by exact J.out)).trans c1;obtain⟨v3,w3,f4,cd⟩:=(AppAt.nil y2).app bv.mults (by have:=b3.out;simp;omega);have dk:=Di I cd.2.2;have e2:=(dk.cell (p:=⟨w0.heap.size,2,none⟩) (by exact J.out)).trans c2;obtain⟨v4,w4,d4,cv⟩:=cd.app bv.low (by have:=b3.out;have:=b4.out;simp;omega);have d8:=Di I cv.2.2;have e3:=(d8.cell (p:=⟨w0.heap.size,3,none⟩) (by exact J.out)).trans c3;obtain⟨v5,w5,f9,bb⟩:=cv.app bv.high (by have:=b3.out;have:=b4.out;have:=bm.out;simp;omega);have cr:=Di I bb.2.2;obtain⟨AM,cM,g5,hM⟩:=bb.1.fl bb.2.1;obtain⟨c9,bg⟩:∃ m,Hid ([]++x.mults.ds++x.low.ds++x.high.ds=m):=⟨_,Dj rfl⟩;have bd:=g6.below bb.2.2;rw[bg.out] at g5 hM;subst g5;have bq:=Di G cr;have g0:=Dj (show c9.map FrD.q=x.mults.qs++(x.low.qs++x.high.qs) by rw[←bg.out];simp[RwD.qs]);have fv:=Dj (show c9.length=ns.length+(ms.length+ms.length) by rw[←bg.out];have:=b4.out;have:=bm.out;have:=b3.out;simp;omega)
 have f0:=Dj (show ls.length=ns.length+(ms.length+ms.length) by rw[←cL,←b6.out,Dr]);have h2:=bd.1.1;have gz:=bd.1.2.1;have hz:=hM.len
 have bx:=Dj (show x.pay.ds.length=ms.length by
  have h:=((go E1).1 bn.out).len
  rwa [Dr] at h)
 have fx:=Dj (show QFits K (x.pay.ds.map FrD.q) from b9.out);obtain⟨qs,cy⟩:∃ qs,Hid (x.pay.ds.map FrD.q=qs):=⟨_,rfl⟩;clear cd cv bb g6 bv dk d8 f5 gm bf d7
 go_wp2_with (at_builtin;first | refine bQ (T:=22) rfl rfl (.tmp 52) (.tmp 54) rfl rfl rfl f4 ?_ | refine bQ (T:=22) rfl rfl (.tmp 56) (.tmp 58) rfl rfl rfl d4 ?_ | refine bQ (T:=22) rfl rfl (.tmp 60) (.tmp 62) rfl rfl rfl f9 ?_)
 clear f4 d4 f9 e1 e2 e3;obtain⟨wo,g7⟩:∃ wo:World,wo=w5:=⟨_,rfl⟩;subst g7
 go_loopw [14] (fun i wr=>∃ k:Nat,k≤ls.length∧i=.int .i64 (k:Int)∧Hid (AllI (kK ns ms x.pay.qs (x.mults.qs++(x.low.qs++x.high.qs))) k)∧Below wo.heap.size wo wr) (fun i _=>ls.length-(intOf i).toNat)
 case atStart=>exact⟨0,by omega,rfl,fun j hj=>by omega,DY _ _⟩
 case round =>
  obtain⟨k,hk,rfl,X,y⟩:=hrel
  by_cases hkl:k<ls.length
  · have g8:(k:Int)<(ls.length:Int):=by omega
    have ht:(k:Int)<(c9.length:Int):=by have:=fv.out;have:=f0.out;omega
    obtain⟨a,l,ea,gs,h5,gv,cl,f2⟩:=(bd.below y).at hkl;obtain⟨am,dm,em,gk,hm0,d6,d5,M,gq⟩:=(hM.below y).at (k:=k) (by omega);rw[ea,em];have F:=Di cr y;have hF:=hx.pay.below F;have gc:=(F.cell (p:=⟨w0.heap.size,0,none⟩) (by exact J.out)).trans c0;have L:=Dj (show w0.heap.size<wr.heap.size from Dn J.out F.size);have h4:=Dj (show (l.zs,l.b)∈br ns ms by rw[←b6.out];exact DU.2 ⟨l,Dm f2.out,rfl⟩);have V:=Dj (p9 hE h4.out);have c5:=Dj (show (a.add (k*2)).block<wr.heap.size by rw[ac];exact gs);have H:=Dj (show (am.add (k*3)).block<wr.heap.size by rw[ac];exact gk);have gx:=Dj (show Fits (1+12*(2+K+1)) (aB (dy l.zs qs)) by rw[←cy.out];exact lQ V.out.2.2 fx.out (by have:=V.out.1;dsimp only at this;omega));have h3:=Dj (show Fits 2 (l.b:Rat) from fd (by have:=V.out.2.1;omega));obtain⟨c,db⟩:∃ c,Hid (bH (aB (dy l.zs qs)) (l.b:Rat)=c):=⟨_,rfl⟩;obtain⟨b,hb⟩:∃ b,Hid (decide (aB (dy l.zs qs)=(l.b:Rat))=b):=⟨_,rfl⟩;have h0:(c == 0)=b:=by rw[←hb.out];exact gX (by rw[←db.out];exact cmpR_zero)
    obtain⟨s,hs⟩:∃ s,Hid (bH dm.q 0=s):=⟨_,rfl⟩;have gp:=Dj (show s=-1∨s=0∨s=1 by rw[←hs.out];exact ux _ _);have ft:=Dj (show k<(br ns ms).length by rw[←b6.out,Dr];exact hkl)
    have Y:=Dj (show kK ns ms x.pay.qs (x.mults.qs++(x.low.qs++x.high.qs)) k=bL dm.q b by
     unfold kK;have e1:(br ns ms).getD k ([],0)=(l.zs,l.b):=by rw[←b6.out,Dk,Dq,f2.out];rfl
     have e2:(x.mults.qs++(x.low.qs++x.high.qs)).getD k 0=dm.q:=by rw[←g0.out,Dk,Dq,gq.out];rfl
     have e3:x.pay.qs=qs:=cy.out;rw[e1,e2,e3,hb.out])
    clear ea em F;go_upto_region 12 with fail;have bT:=DY wr.heap.size wr
    have hS:∀ w',Below wr.heap.size wr w'→w'.cell? (a.add (k*2))=some (.slice l.a l.zs.length l.c)∧w'.cell? ⟨(a.add (k*2)).block,(a.add (k*2)).off+1,none⟩=some (.int .i64 l.b)∧w'.cell? ⟨w0.heap.size,0,none⟩=some (.slice x.pay.a x.pay.ds.length x.pay.c)∧w'.cell? (am.add (k*3))=some (.bool dm.neg)∧w'.cell? ⟨(am.add (k*3)).block,(am.add (k*3)).off+1,none⟩=some (.slice dm.a dm.la.length dm.ca)∧w'.cell? ⟨(am.add (k*3)).block,(am.add (k*3)).off+2,none⟩=some (.slice dm.b dm.lb.length dm.cb)∧Below wr.heap.size wr w':=by
     intro w' o;exact⟨(o.cell c5.out).trans h5,(o.cell (by exact c5.out)).trans gv,(o.cell (by exact L.out)).trans gc,(o.cell (by exact H.out)).trans hm0,(o.cell (by exact H.out)).trans d6,(o.cell (by exact H.out)).trans d5,o⟩
    have bo:Below wr.heap.size wr wr:=DY _ _;have dS:Below wr.heap.size wr wr.drew:=bo.drew;go_wp2_with fail;refine DZ ?_;refine D0 (S:=fun w'=>w'.cell? (a.add (k*2))=some (.slice l.a l.zs.length l.c)∧w'.cell? ⟨(a.add (k*2)).block,(a.add (k*2)).off+1,none⟩=some (.int .i64 l.b)∧w'.cell? ⟨w0.heap.size,0,none⟩=some (.slice x.pay.a x.pay.ds.length x.pay.c)∧w'.cell? (am.add (k*3))=some (.bool dm.neg)∧w'.cell? ⟨(am.add (k*3)).block,(am.add (k*3)).off+1,none⟩=some (.slice dm.a dm.la.length dm.ca)∧w'.cell? ⟨(am.add (k*3)).block,(am.add (k*3)).off+2,none⟩=some (.slice dm.b dm.lb.length dm.cb)∧Below wr.heap.size wr w') (by kernel_rfl) (hS _ dS) (fun g=>?_);refine pE 0 1 2 3 4 5 6 8 g ?_;refine pz 9 10 11 12 g ?_;refine aV 7 rfl fun K hK=>?_;go_simp;have D:Below wr.heap.size wr wr.drew:=(DY _ _).drew;replace cl:=cl.below D;replace hF:=hF.below D;replace M:=M.below D;replace bT:=Di bT D;replace bo:=Di bo D;have t:=lR cl hF fx.out V.out.2.2 (by omega) (by have:=V.out.1;have:=bx.out;omega) (by have:=bx.out;omega)
    rw[cy.out] at t;go_at_call 60;refine (t).mono ?_;rintro e u1 ⟨vd,rfl,cs,N⟩;replace M:=M.below N;replace bT:=Di bT N;replace bo:=Di bo N;clear t;go_wp2_with fail;refine hK.out _ _ (hS _ bo) (fun g=>?_);clear hK K;(try simp only[aq]);refine aV 13 rfl fun K hK=>?_;go_simp;have t:=aO l.b (u1) (by have:=V.out.2.1;omega) (by have:=V.out.2.1;omega);go_at_call 11;refine (t).mono ?_;rintro e u2 ⟨vk,rfl,gb,R⟩;replace M:=M.below R;replace cs:=cs.below R;replace bT:=Di bT R;replace bo:=Di bo R;clear t;go_wp2_with fail;refine hK.out _ _ (hS _ bo) (fun g=>?_);clear hK K;(try simp only[aq]);refine aV 14 rfl fun K hK=>?_;go_simp;have t:=io cs gb gx.out h3.out (by omega);rw[db.out] at t;go_at_call 67;refine (t).mono ?_;rintro e u3 ⟨rfl,Z⟩;replace M:=M.below Z;replace bT:=Di bT Z;replace bo:=Di bo Z;clear t;go_wp2_with fail;refine hK.out _ _ (hS _ bo) (fun g=>?_);clear hK K;(try simp only[aq]);refine fA 15 16 g ?_
    refine D7 (by kernel_rfl) ?_ _;refine D1 ?_;(try go_simp);clear g;clear hS dS bo;have m0:=(bT.cell (by exact H.out)).trans hm0;have m1:=(bT.cell (by exact H.out)).trans d6;have m2:=(bT.cell (by exact H.out)).trans d5;have cx:=fV M;rw[hs.out] at cx;go_wp2_with fail;refine cx.mono ?_;rintro e ws ⟨rfl,bs⟩;clear cx;have bS:=y.trans (((Di bT bs)).mono y.size)
    rcases gp.out with e1 | e1 | e1
    · subst e1;have z:=Dj (show r=false by rw[←hr.out];exact uX ft.out (by rw[Y.out];exact wM hs.out));go_wp2;go_ret;exact⟨by rw[z.out];rfl,(Di bq bS)⟩
    · subst e1;have U:=Dj (X.out.step (by rw[Y.out];exact tK hs.out));go_wp2;go_roundw
      case rel=>exact⟨k+1,by omega,by go_num,U,bS⟩
      case measure=>simp[intOf];omega
    subst e1
    rcases b with _ | _
    · have z:=Dj (show r=false by rw[←hr.out];exact uX ft.out (by rw[Y.out];exact pQ hs.out));go_wp2;go_ret;exact⟨by rw[z.out];rfl,(Di bq bS)⟩
    have U:=Dj (X.out.step (by rw[Y.out];exact pQ hs.out));go_wp2;go_roundw
    case rel=>exact⟨k+1,by omega,by go_num,U,bS⟩
    case measure=>simp[intOf];omega
  · obtain rfl:k=ls.length:=by omega
    have t1:decide ((ls.length:Int)<(ls.length:Int))=false:=Du (by omega);have f6:=Dj (show AllI (kK ns ms x.pay.qs (x.mults.qs++(x.low.qs++x.high.qs))) (br ns ms).length by rw[←b6.out,Dr];exact X.out);clear X;go_wp2
    go_loopw [17] (fun v wr=>∃ i:Nat,i≤ms.length∧v=.int .i64 (i:Int)∧Hid (AllI (gY ns (tg.map FrD.q) x.pay.qs x.mults.qs x.low.qs x.high.qs x.lev.q) i)∧Below wo.heap.size wo wr) (fun v _=>ms.length-(intOf v).toNat)
    case atStart=>exact⟨0,by omega,rfl,fun j hj=>by omega,y⟩
    case round =>
     clear y;obtain⟨i,hi,rfl,c7,y⟩:=hrel
     by_cases hkl:i<ms.length
     · have g8:(i:Int)<(ms.length:Int):=by omega
       have bc:=Dj (dr.out (by omega));have ho:(i:Int)<(x.pay.ds.length:Int):=by have:=bx.out;omega
       have hf:(i:Int)<(tg.length:Int):=by have:=fs.out;omega
       have F:=Di cr y;have b7:=hn.below F;have b2:=hx.below F;obtain⟨ap,dp,ep,fz,d0,d1,d2,c8,dh⟩:=b2.pay.at (k:=i) (by have:=bx.out;omega);obtain⟨E,dt,et,h6,t0,t1,t2,cz,d3⟩:=(g4.below F).at (k:=i) (by have:=fs.out;omega);rw[et];have L:=Dj (show w0.heap.size<wr.heap.size from Dn J.out F.size);have b5:=Dj (show (ap.add (i*3)).block<wr.heap.size by rw[ac];exact fz);have b8:=Dj (show (E.add (i*3)).block<wr.heap.size by rw[ac];exact h6);have O:=Ea B1 F;have q0:wr.cell? ⟨w0.heap.size,0,none⟩=some (.slice (some ap) x.pay.ds.length x.pay.c):=by rw[←ep];exact D9 O 0
       have q1:wr.cell? ⟨w0.heap.size,1,none⟩=some (.slice x.mults.a x.mults.ds.length x.mults.c):=D9 O 1;have q2:wr.cell? ⟨w0.heap.size,2,none⟩=some (.slice x.low.a x.low.ds.length x.low.c):=D9 O 2;have q3:wr.cell? ⟨w0.heap.size,3,none⟩=some (.slice x.high.a x.high.ds.length x.high.c):=D9 O 3;have q4:wr.cell? ⟨w0.heap.size,4,none⟩=some (.bool x.lev.neg):=D9 O 4;have q5:wr.cell? ⟨w0.heap.size,5,none⟩=some (.slice x.lev.a x.lev.la.length x.lev.ca):=D9 O 5;have q6:wr.cell? ⟨w0.heap.size,6,none⟩=some (.slice x.lev.b x.lev.lb.length x.lev.cb):=D9 O 6;have g9:=Dj (show x.v=.agg #[.slice (some ap) x.pay.ds.length x.pay.c,.slice x.mults.a x.mults.ds.length x.mults.c,.slice x.low.a x.low.ds.length x.low.c,.slice x.high.a x.high.ds.length x.high.c,.bool x.lev.neg,.slice x.lev.a x.lev.la.length x.lev.ca,.slice x.lev.b x.lev.lb.length x.lev.cb] by rw[←ep]);have c4:=Dj (show Fits K dp.q from b9.out.fr' dp dh.out);have bz:=Dj (show Fits K dt.q from dx.out.fr dt (Dm d3.out));obtain⟨fq,cq⟩:∃ f,Hid (x.lev.q+x.low.qs.getD i 0-x.high.qs.getD i 0+aB (cC ns x.mults.qs i)=f):=⟨_,rfl⟩
       have f3:=Dj (show Fits (K+K+1+K+1+(1+20*(K+1))+1) fq by
        rw[←cq.out];have h1:=cT (n:=20) (iE (i:=i) (ns:=ns) (by omega:0<K) bc.out.mults) (by rw[fM];exact hn20) (cC ns x.mults.qs i).length;rw[List.take_length] at h1;exact (((bc.out.lev.add (bc.out.low.getD (by omega) i)).sub (bc.out.high.getD (by omega) i)).add h1))
       obtain⟨c,hc⟩:∃ c,Hid (bH (dp.q-dt.q) fq=c):=⟨_,rfl⟩;obtain⟨b,hb⟩:∃ b,Hid (decide (dp.q-dt.q=fq)=b):=⟨_,rfl⟩
       have h0:(c != 0)=!b:=by
        rw[←hb.out,←hc.out]
        by_cases e:dp.q-dt.q=fq
        · rw[Dv e,cmpR_zero.2 e];rfl
        · rw[Du e]
          show _=true
          rw[bne_iff_ne];exact fun h=>e (cmpR_zero.1 h)
       have fm:=Dj (show gY ns (tg.map FrD.q) x.pay.qs x.mults.qs x.low.qs x.high.qs x.lev.q i=b by
        unfold gY;rw[RwD.getD dh.out,sV d3.out,cq.out,hb.out])
       clear ep et O F;go_upto_region 19 with fail;have bT:=DY wr.heap.size wr
       have hS:∀ w',Below wr.heap.size wr w'→w'.cell? ⟨w0.heap.size,0,none⟩=some (.slice (some ap) x.pay.ds.length x.pay.c)∧w'.cell? ⟨w0.heap.size,1,none⟩=some (.slice x.mults.a x.mults.ds.length x.mults.c)∧w'.cell? ⟨w0.heap.size,2,none⟩=some (.slice x.low.a x.low.ds.length x.low.c)∧w'.cell? ⟨w0.heap.size,3,none⟩=some (.slice x.high.a x.high.ds.length x.high.c)∧w'.cell? ⟨w0.heap.size,4,none⟩=some (.bool x.lev.neg)∧w'.cell? ⟨w0.heap.size,5,none⟩=some (.slice x.lev.a x.lev.la.length x.lev.ca)∧w'.cell? ⟨w0.heap.size,6,none⟩=some (.slice x.lev.b x.lev.lb.length x.lev.cb)∧w'.cell? (ap.add (i*3))=some (.bool dp.neg)∧w'.cell? ⟨(ap.add (i*3)).block,(ap.add (i*3)).off+1,none⟩=some (.slice dp.a dp.la.length dp.ca)∧w'.cell? ⟨(ap.add (i*3)).block,(ap.add (i*3)).off+2,none⟩=some (.slice dp.b dp.lb.length dp.cb)∧w'.cell? (E.add (i*3))=some (.bool dt.neg)∧w'.cell? ⟨(E.add (i*3)).block,(E.add (i*3)).off+1,none⟩=some (.slice dt.a dt.la.length dt.ca)∧w'.cell? ⟨(E.add (i*3)).block,(E.add (i*3)).off+2,none⟩=some (.slice dt.b dt.lb.length dt.cb)∧Below wr.heap.size wr w':=by
        intro w' o;exact⟨(o.cell (by exact L.out)).trans q0,(o.cell (by exact L.out)).trans q1,(o.cell (by exact L.out)).trans q2,(o.cell (by exact L.out)).trans q3,(o.cell (by exact L.out)).trans q4,(o.cell (by exact L.out)).trans q5,(o.cell (by exact L.out)).trans q6,(o.cell (by exact b5.out)).trans d0,(o.cell (by exact b5.out)).trans d1,(o.cell (by exact b5.out)).trans d2,(o.cell (by exact b8.out)).trans t0,(o.cell (by exact b8.out)).trans t1,(o.cell (by exact b8.out)).trans t2,o⟩
       have bo:Below wr.heap.size wr wr:=DY _ _;have dS:Below wr.heap.size wr wr.drew:=bo.drew;go_wp2_with fail;refine DZ ?_;refine D0 (S:=fun w'=>w'.cell? ⟨w0.heap.size,0,none⟩=some (.slice (some ap) x.pay.ds.length x.pay.c)∧w'.cell? ⟨w0.heap.size,1,none⟩=some (.slice x.mults.a x.mults.ds.length x.mults.c)∧w'.cell? ⟨w0.heap.size,2,none⟩=some (.slice x.low.a x.low.ds.length x.low.c)∧w'.cell? ⟨w0.heap.size,3,none⟩=some (.slice x.high.a x.high.ds.length x.high.c)∧w'.cell? ⟨w0.heap.size,4,none⟩=some (.bool x.lev.neg)∧w'.cell? ⟨w0.heap.size,5,none⟩=some (.slice x.lev.a x.lev.la.length x.lev.ca)∧w'.cell? ⟨w0.heap.size,6,none⟩=some (.slice x.lev.b x.lev.lb.length x.lev.cb)∧w'.cell? (ap.add (i*3))=some (.bool dp.neg)∧w'.cell? ⟨(ap.add (i*3)).block,(ap.add (i*3)).off+1,none⟩=some (.slice dp.a dp.la.length dp.ca)∧w'.cell? ⟨(ap.add (i*3)).block,(ap.add (i*3)).off+2,none⟩=some (.slice dp.b dp.lb.length dp.cb)∧w'.cell? (E.add (i*3))=some (.bool dt.neg)∧w'.cell? ⟨(E.add (i*3)).block,(E.add (i*3)).off+1,none⟩=some (.slice dt.a dt.la.length dt.ca)∧w'.cell? ⟨(E.add (i*3)).block,(E.add (i*3)).off+2,none⟩=some (.slice dt.b dt.lb.length dt.cb)∧Below wr.heap.size wr w') (by kernel_rfl) (hS _ dS) (fun g=>?_);refine fA 0 1 g ?_;refine dQ 2 rfl g ?_
       refine pE 3 4 5 6 7 8 10 11 g ?_;refine dQ 12 rfl g ?_;refine aV 9 rfl fun K hK=>?_;go_simp;have D:Below wr.heap.size wr wr.drew:=(DY _ _).drew;replace b7:=b7.below D;replace b2:=b2.below D;replace c8:=c8.below D;replace cz:=cz.below D;replace bT:=Di bT D;replace bo:=Di bo D;have t:=dF c8 cz c4.out bz.out (by omega);go_at_call 59;refine (t).mono ?_;rintro e u1 ⟨v1,rfl,ch,N⟩;replace b7:=b7.below N;replace b2:=b2.below N;replace bT:=Di bT N;replace bo:=Di bo N;clear t;go_wp2_with fail;refine hK.out _ _ (hS _ bo) (fun g=>?_);clear hK K;(try simp only[aq]);refine aV 13 rfl fun K hK=>?_;go_simp;have t:=qu (i:=i) b7 b2 f1.out hn20 (by omega) b3.out (by have:=b4.out;omega) (by have:=bm.out;omega) bc.out (by omega) (by omega);rw[g9.out] at t;rw[cq.out] at t;go_at_call 63;refine (t).mono ?_;rintro e u2 ⟨v2,rfl,gr,R⟩;replace ch:=ch.below R;replace bT:=Di bT R
       replace bo:=Di bo R;clear t;go_wp2_with fail;refine hK.out _ _ (hS _ bo) (fun g=>?_);clear hK K;(try simp only[aq]);refine aV 14 rfl fun K hK=>?_;go_simp;have t:=io ch gr (c4.out.sub bz.out) f3.out (by omega);rw[hc.out] at t;go_at_call 67;refine (t).mono ?_;rintro e u3 ⟨rfl,Z⟩;replace bT:=Di bT Z;replace bo:=Di bo Z;clear t;go_wp2_with fail;refine hK.out _ _ (hS _ bo) (fun g=>?_);clear hK K;(try simp only[aq]);refine dQ 15 rfl g ?_;refine D7 (by kernel_rfl) ?_ _;refine D1 ?_;(try go_simp);clear g;clear hS dS bo;have bS:=Di y bT
       rcases b with _ | _
       · have z:=Dj (show r=false by rw[←hr.out];exact AQ hkl fm.out);go_wp2;go_ret;exact⟨by rw[z.out];rfl,(Di bq bS)⟩
       have cg:=Dj (c7.out.step fm.out);go_wp2;go_roundw
       case rel=>exact⟨i+1,by omega,by go_num,cg,bS⟩
       case measure=>simp[intOf];omega
     · obtain rfl:i=ms.length:=by omega
       have t2:decide ((ms.length:Int)<(ms.length:Int))=false:=Du (by omega)
       have d9:=Dj (show r=true by
        rw[←hr.out];exact AP (by rw[Eg];exact b4.out) (by rw[Eg];exact bm.out) (by rw[Eg];exact b3.out) bn.out f6.out c7.out)
       go_wp2;go_ret;exact⟨by rw[d9.out];rfl,(Di bq y)⟩
theorem qT {K:Nat}{A B C:Option Addr}{ca cb cc:Nat}{tg:List FrD}{ns:List NdD}{ms:List Int}{v:Value}{sq:Rat}{x:PtD}{w:World}(ht0:FL w A ca tg) (hn0:NL w B cb ns) (hm0:ZL w C cc ms) (hv0:FV w v sq) (hx00:PtL w x)
 (hft:QFits K (tg.map FrD.q)) (hfs:Fits K sq) (hfp:QFits K x.pay.qs) (hfx:0<ms.length→PtF K x) (hK0:2≤K) (hK:K≤10000000) (hn20:ns.length≤20) :
 Calls Tryz.prog 20 #[.slice A tg.length ca,.slice B ns.length cb,.slice C ms.length cc,v,x.v] w (pF (cP (tg.map FrD.q) ns ms sq x.pay.qs x.mults.qs x.low.qs x.high.qs x.lev.q) w):=by
 obtain⟨r,hr⟩:∃ r,Hid (cP (tg.map FrD.q) ns ms sq x.pay.qs x.mults.qs x.low.qs x.high.qs x.lev.q=r):=⟨_,rfl⟩;rw[hr.out];obtain⟨sv,rfl,z,H⟩:=hv0.frd;obtain⟨w0,I,b0,l0,B0⟩:=ag w #[.bool sv.neg,.slice sv.a sv.la.length sv.ca,.slice sv.b sv.lb.length sv.cb] 28;obtain⟨w1,J,b1,l1,B1⟩:=ag w0 #[.slice x.pay.a x.pay.ds.length x.pay.c,.slice x.mults.a x.mults.ds.length x.mults.c,.slice x.low.a x.low.ds.length x.low.c,.slice x.high.a x.high.ds.length x.high.c,.bool x.lev.neg,.slice x.lev.a x.lev.la.length x.lev.ca,.slice x.lev.b x.lev.lb.length x.lev.cb] 34;have j:=Di b0 b1;have F:=Ea B0 b1;have s:=ht0.below j;have hn:=hn0.below j;have hm:=hm0.below j;have hv:=hv0.below j;have hx:=hx00.below j;clear ht0 hn0 hm0 hv0 hx00 z B0;obtain⟨E,hE⟩:∃ E,Hid (argsE tg.length ns ms=E):=⟨_,rfl⟩;have y:=Dj hft;have p:=Dj hfs;have t:=Dj hfx;clear hft hfs hfx;have h:=qw (A:=A) (tl:=tg.length) (ca:=ca) (w:=w1) s.len hn hm;rw[hE.out] at h;go_enter Tryz.func20,Tryz.ntmps20;go_wp2_with fail;refine h.mono ?_;rintro e y1 ⟨rfl,d⟩;clear h;have n:=Di j d
 by_cases hE0:¬ E=0
 · have g1:(E == 0)=false:=by simpa using hE0
   have f:=Dj (show r=E by rw[←hr.out];unfold cP;rw[Dr,hE.out,if_pos hE0]);clear hE0;go_wp2;go_ret;exact⟨by rw[f.out];rfl,n⟩
 have o:=Decidable.not_not.1 hE0;subst o;clear hE0;have D:=(dP hE.out).1;obtain⟨b,hb⟩:∃ b,Hid (fi (tg.map FrD.q) ns ms sq x.pay.qs x.mults.qs x.low.qs x.high.qs x.lev.q=b):=⟨_,rfl⟩;have l:=Dj (show r=if b=true then 0 else 13 by rw[←hr.out,←hb.out,su D];unfold cP;rw[Dr,hE.out];simp);have k:=Ea F d;have g:=Ea B1 d;have s0:y1.cell? ⟨w.heap.size,0,none⟩=some (.bool sv.neg):=D9 k 0;have s1:y1.cell? ⟨w.heap.size,1,none⟩=some (.slice sv.a sv.la.length sv.ca):=D9 k 1;have s2:y1.cell? ⟨w.heap.size,2,none⟩=some (.slice sv.b sv.lb.length sv.cb):=D9 k 2;have c0:y1.cell? ⟨w0.heap.size,0,none⟩=some (.slice x.pay.a x.pay.ds.length x.pay.c):=D9 g 0;have c1:y1.cell? ⟨w0.heap.size,1,none⟩=some (.slice x.mults.a x.mults.ds.length x.mults.c):=D9 g 1;have c2:y1.cell? ⟨w0.heap.size,2,none⟩=some (.slice x.low.a x.low.ds.length x.low.c):=D9 g 2;have c3:y1.cell? ⟨w0.heap.size,3,none⟩=some (.slice x.high.a x.high.ds.length x.high.c):=D9 g 3;have c4:y1.cell? ⟨w0.heap.size,4,none⟩=some (.bool x.lev.neg):=D9 g 4;have c5:y1.cell? ⟨w0.heap.size,5,none⟩=some (.slice x.lev.a x.lev.la.length x.lev.ca):=D9 g 5;have c6:y1.cell? ⟨w0.heap.size,6,none⟩=some (.slice x.lev.b x.lev.lb.length x.lev.cb):=D9 g 6
 have h:=ky (K:=K) (x:=x) hE.out (s.below d) (hn.below d) (hm.below d) (hv.below d) (hx.below d) y.out p.out hfp t.out hK0 hK hn20;rw[hb.out] at h;go_wp2_with fail;refine h.mono ?_;rintro e y2 ⟨rfl,G⟩;clear h;have m:=Di n G
 rcases b with _ | _
 · have f:=Dj (show r=13 by rw[l.out];rfl);go_wp2;go_ret;exact⟨by rw[f.out];rfl,m⟩
 have f:=Dj (show r=0 by rw[l.out];rfl);go_wp2;go_ret;exact⟨by rw[f.out];rfl,m⟩
theorem FL.oneL {w:World}{g:Nat}{t:TypeId}{d:FrD}(h:Blk w g t #[.bool d.neg,.slice d.a d.la.length d.ca,.slice d.b d.lb.length d.cb]) (hd:FV w d.v d.q):FL w (some ⟨g,0,none⟩) 1 [d] :=
 ⟨⟨by simp,by decide,fun j hj=>⟨_,rfl,Blk.lt h,fun i u hu=>by
  have hj2:j<1:=hj;obtain rfl:j=0:=by omega
  rcases i with _ | _ | _ | i
  · injection hu with hu;subst hu;exact D9 h 0
  · injection hu with hu;subst hu;exact D9 h 1
  · injection hu with hu;subst hu;exact D9 h 2
  · simp[FrD.cells] at hu⟩⟩,fun f hf=>by simp at hf;subst hf;exact hd⟩
theorem ML.five {w:World}{g:Nat}{t:TypeId}{r0 r1 r2 r3 r4:RwD}(h:Blk w g t #[.slice r0.a r0.ds.length r0.c,.slice r1.a r1.ds.length r1.c,.slice r2.a r2.ds.length r2.c,.slice r3.a r3.ds.length r3.c,.slice r4.a r4.ds.length r4.c]) (h0:FL w r0.a r0.c r0.ds) (h1:FL w r1.a r1.c r1.ds) (h2:FL w r2.a r2.c r2.ds) (h3:FL w r3.a r3.c r3.ds) (h4:FL w r4.a r4.c r4.ds):ML w (some ⟨g,0,none⟩) 5 [r0,r1,r2,r3,r4] :=
 ⟨⟨by simp,by decide,fun j hj=>⟨_,rfl,Blk.lt h,fun i u hu=>by
  have hj2:j<5:=hj;have hi:i=0:=by have:=(DD.1 hu).1;simpa [RwD.cells] using this
  subst hi;have h5:j=0∨j=1∨j=2∨j=3∨j=4:=by omega
  rcases h5 with rfl | rfl | rfl | rfl | rfl
  · injection hu with hu;subst hu;exact D9 h 0
  · injection hu with hu;subst hu;exact D9 h 1
  · injection hu with hu;subst hu;exact D9 h 2
  · injection hu with hu;subst hu;exact D9 h 3
  · injection hu with hu;subst hu;exact D9 h 4⟩⟩,fun r hr=>by
  simp only[List.mem_cons,List.not_mem_nil,or_false] at hr
  rcases hr with rfl | rfl | rfl | rfl | rfl
  · exact h0
  · exact h1
  · exact h2
  · exact h3
  · exact h4⟩
theorem rk {K:Nat}{x:AgD}{y:PtD}{w:World}{n m:Int}(hF:FewP w x n m) (hn0:NL w x.na x.nc x.ns) (hm0:ZL w x.ma x.mc x.ms) (hy0:PtL w y) (hV:PtF 100000000 y) (hfp:QFits K y.pay.qs) (hfx:0<x.ms.length→PtF K y) (hK0:2≤K) (hK:K≤10000000) (hn20:x.ns.length≤20) :
 Calls Tryz.prog 8 #[x.v,y.v] w (lX (decide (cP (x.t.ds.map FrD.q) x.ns x.ms x.s.q y.pay.qs y.mults.qs y.low.qs y.high.qs y.lev.q=0)) w):=by
 obtain⟨r,hr⟩:∃ r,Hid (cP (x.t.ds.map FrD.q) x.ns x.ms x.s.q y.pay.qs y.mults.qs y.low.qs y.high.qs y.lev.q=r):=⟨_,rfl⟩;rw[hr.out];obtain⟨b,hb⟩:∃ b,Hid (decide (r=0)=b):=⟨_,rfl⟩;rw[hb.out];have b7:(r == 0)=b:=by rw[←hb.out];exact gX Iff.rfl
 obtain⟨w0,b8,b0,l0,B0⟩:=ag w #[.slice x.t.a x.t.ds.length x.t.c,.slice x.na x.ns.length x.nc,.slice x.ma x.ms.length x.mc,.bool x.s.neg,.slice x.s.a x.s.la.length x.s.ca,.slice x.s.b x.s.lb.length x.s.cb] 30;obtain⟨w1,bb,b1,l1,B1⟩:=ag w0 #[.slice y.pay.a y.pay.ds.length y.pay.c,.slice y.mults.a y.mults.ds.length y.mults.c,.slice y.low.a y.low.ds.length y.low.c,.slice y.high.a y.high.ds.length y.high.c,.bool y.lev.neg,.slice y.lev.a y.lev.la.length y.lev.ca,.slice y.lev.b y.lev.lb.length y.lev.cb] 34;have N:=Di b0 b1;have BA:=Ea B0 b1;have c0:w1.cell? ⟨w0.heap.size,0,none⟩=some (.slice y.pay.a y.pay.ds.length y.pay.c):=D9 B1 0;have c1:w1.cell? ⟨w0.heap.size,1,none⟩=some (.slice y.mults.a y.mults.ds.length y.mults.c):=D9 B1 1;have c2:w1.cell? ⟨w0.heap.size,2,none⟩=some (.slice y.low.a y.low.ds.length y.low.c):=D9 B1 2;have c3:w1.cell? ⟨w0.heap.size,3,none⟩=some (.slice y.high.a y.high.ds.length y.high.c):=D9 B1 3;have c4:w1.cell? ⟨w0.heap.size,4,none⟩=some (.bool y.lev.neg):=D9 B1 4;have c5:w1.cell? ⟨w0.heap.size,5,none⟩=some (.slice y.lev.a y.lev.la.length y.lev.ca):=D9 B1 5;have c6:w1.cell? ⟨w0.heap.size,6,none⟩=some (.slice y.lev.b y.lev.lb.length y.lev.cb):=D9 B1 6;obtain⟨y1,bd,b2,l2,B2⟩:=ag w1 #[.bool y.lev.neg,.slice y.lev.a y.lev.la.length y.lev.ca,.slice y.lev.b y.lev.lb.length y.lev.cb] 28
 obtain⟨y2,bg,b3,l3,B3⟩:=ag y1 #[.slice y.pay.a y.pay.ds.length y.pay.c,.slice y.mults.a y.mults.ds.length y.mults.c,.slice y.low.a y.low.ds.length y.low.c,.slice y.high.a y.high.ds.length y.high.c,.slice (some ⟨w1.heap.size,0,none⟩) 1 1] 22;have B:=Di b2 b3;have h:=Di N B;have p:=hy0.below h;obtain⟨z,j⟩:∃ l:List RwD,Hid ([y.pay,y.mults,y.low,y.high,⟨some ⟨w1.heap.size,0,none⟩,1,[y.lev]⟩]=l):=⟨_,Dj rfl⟩
 have hM:ML y2 (some ⟨y1.heap.size,0,none⟩) 5 z:=by
  rw[←j.out];exact ML.five (r0:=y.pay) (r1:=y.mults) (r2:=y.low) (r3:=y.high) (r4:=⟨some ⟨w1.heap.size,0,none⟩,1,[y.lev]⟩) B3 p.pay p.mults p.low p.high (FL.oneL (Ea B2 b3) p.lev)
 have Y:=Dj (show z.length=5 by rw[←j.out];rfl)
 have U:=Dj (show ∀ r∈z,QFits 100000000 r.qs by
  rw[←j.out];intro r hr
  simp only[List.mem_cons,List.not_mem_nil,or_false] at hr
  rcases hr with rfl | rfl | rfl | rfl | rfl
  · exact hV.pay
  · exact hV.mults
  · exact hV.low
  · exact hV.high
  · intro q hq
    simp[RwD.qs] at hq
    subst hq;exact hV.lev)
 have Z:=Ea BA B;have I:=Ea B1 B;have O:=Dj hF.tf;have b4:=Dj hF.sf;have ht:=hF.t.below h;have hs:=hF.s.below h;have hn:=hn0.below h;have hm:=hm0.below h;have E:=Dj hfp;have F:=Dj hfx;clear hF hn0 hm0 hy0 hV hfp hfx B0 B1 B2 B3 BA;go_enter Tryz.func8,Tryz.ntmps8;go_wp2;clear c0 c1 c2 c3 c4 c5 c6
 go_loopw [22] (fun i wr=>∃ k:Nat,k≤5∧i=.int .i64 (k:Int)∧Below y2.heap.size y2 wr) (fun i _=>5-(intOf i).toNat)
 case atStart=>exact⟨0,by omega,rfl,DY _ _⟩
 case round =>
  obtain⟨k,hk,rfl,f⟩:=hrel
  by_cases hkl:k<5
  · have bm:(k:Int)<5:=by omega
    obtain⟨a,g,ea,bc,T,D,R⟩:=(hM.below f).at (k:=k) (by rw[Y.out];exact hkl)
    cases ea
    rw[bO] at T;have X:=Dj (U.out g (Dm R.out));have b9:=D.len;obtain⟨wo,G⟩:∃ wo:World,wo=wr:=⟨_,rfl⟩;subst G;go_wp2
    go_loopw [28] (fun i w'=>∃ l:Nat,l≤g.ds.length∧i=.int .i64 (l:Int)∧Below wo.heap.size wo w') (fun i _=>g.ds.length-(intOf i).toNat)
    case atStart=>exact⟨0,by omega,rfl,DY _ _⟩
    case round =>
     obtain⟨l,hl,rfl,A⟩:=hrel
     by_cases hll2:l<g.ds.length
     · have bf:(l:Int)<(g.ds.length:Int):=by omega
       obtain⟨a2,d,L,b5,e0,e1,e2,V,M⟩:=(D.below A).at hll2;have J:=Dj (X.out.fr' d M.out);rw[L];obtain⟨wA,wB,eA,p0,p1,p2,r0,r1,r2,eB,H,bV,lV⟩:=Be wr d;obtain⟨x0,x1,x2⟩:=H.cells;have o:=pA (V.below bV) J.out (by omega);go_wp2_with fail;refine o.mono ?_;rintro e w6 ⟨rfl,b6⟩;clear o;have C:=A.trans (((Di bV b6)).mono A.size);go_wp2;go_roundw
       case rel=>exact⟨l+1,by omega,by go_num,C⟩
       case measure=>simp[intOf];omega
     · obtain rfl:l=g.ds.length:=by omega
       have t1:decide ((g.ds.length:Int)<(g.ds.length:Int))=false:=Du (by omega);have C:=Di f A;go_wp2;go_roundw
       case rel=>exact⟨k+1,by omega,by go_num,C⟩
       case measure=>simp[intOf];omega
  · obtain rfl:k=5:=by omega
    have hA:=Ea Z f;have hX:=Ea I f;have a0:wr.cell? ⟨w.heap.size,0,none⟩=some (.slice x.t.a x.t.ds.length x.t.c):=D9 hA 0;have a1:wr.cell? ⟨w.heap.size,1,none⟩=some (.slice x.na x.ns.length x.nc):=D9 hA 1;have a2:wr.cell? ⟨w.heap.size,2,none⟩=some (.slice x.ma x.ms.length x.mc):=D9 hA 2;have a3:wr.cell? ⟨w.heap.size,3,none⟩=some (.bool x.s.neg):=D9 hA 3;have a4:wr.cell? ⟨w.heap.size,4,none⟩=some (.slice x.s.a x.s.la.length x.s.ca):=D9 hA 4;have a5:wr.cell? ⟨w.heap.size,5,none⟩=some (.slice x.s.b x.s.lb.length x.s.cb):=D9 hA 5;have c0:wr.cell? ⟨w0.heap.size,0,none⟩=some (.slice y.pay.a y.pay.ds.length y.pay.c):=D9 hX 0;have c1:wr.cell? ⟨w0.heap.size,1,none⟩=some (.slice y.mults.a y.mults.ds.length y.mults.c):=D9 hX 1;have c2:wr.cell? ⟨w0.heap.size,2,none⟩=some (.slice y.low.a y.low.ds.length y.low.c):=D9 hX 2;have c3:wr.cell? ⟨w0.heap.size,3,none⟩=some (.slice y.high.a y.high.ds.length y.high.c):=D9 hX 3;have c4:wr.cell? ⟨w0.heap.size,4,none⟩=some (.bool y.lev.neg):=D9 hX 4;have c5:wr.cell? ⟨w0.heap.size,5,none⟩=some (.slice y.lev.a y.lev.la.length y.lev.ca):=D9 hX 5;have c6:wr.cell? ⟨w0.heap.size,6,none⟩=some (.slice y.lev.b y.lev.lb.length y.lev.cb):=D9 hX 6;have o:=qT (K:=K) (x:=y) (ht.below f) (hn.below f) (hm.below f) (hs.below f) (p.below f) (O.out.mono hK0) (b4.out.mono hK0) E.out F.out hK0 hK hn20
    rw[hr.out] at o;go_wp2_with fail;refine o.mono ?_;rintro e w6 ⟨rfl,b6⟩;clear o;go_wp2;go_ret;exact⟨rfl,h.trans (((Di f b6)).mono h.size)⟩
theorem qQ {K n:Nat}{ps:List (Nat × Rat)}(h:∀ p∈ps,Fits K p.2):∀ j,j≤ps.length→QFits (1+j*(K+1)) (cJ n (ps.take j)):=by
 intro j
 induction j with
 | zero =>
  intro _ q hq
  have:q=0:=by
   have h1:cJ n (ps.take 0)=List.replicate n 0:=rfl;rw[h1] at hq;exact (List.mem_replicate.1 hq).2
  subst this;exact Fits.zero (by omega)
 | succ j ih =>
  intro hj;rw[ij (Dl (show j<ps.length by omega))];have h1:=pv (p:=ps[j]) (by omega) (ih (by omega)) (h _ (Dy _));have e:1+(j+1)*(K+1)=1+j*(K+1)+K+1:=by rw[Nat.succ_mul];omega
  rw[e];exact h1
theorem oy {K:Nat}{l:List Rat}(h:∀ i,i<l.length→Fits K (gt l i)):QFits K l:=fun q hq=>by
 obtain⟨i,hi,rfl⟩:=List.getElem_of_mem hq;have h1:=h i hi;unfold gt at h1
 rwa [aD 0 hi] at h1
section
variable {ns:List NdD}{ms:List Int}{tg:List Rat}{sum:Rat}{t:St}
theorem Best.small (h:Best ms.length (ay ns ms) tg sum t) (hc:ConI ms.length (ay ns ms)) (hn:ms.length≤8) (ht:QFits 2 tg) (hs:Fits 2 sum) (h0:0<ms.length):QFits 5594780 t.x∧Fits 699345 t.level∧QFits 699345 t.mults:=by
 obtain⟨k1,k2⟩:=rh hc h.hA hn ht hs (h.li h0) h.pt;refine⟨oy fun i hi=>k2 i (by rw[←h.lx];exact hi),k1 0 (by omega),oy fun i hi=>?_⟩;have h1:=k1 (i+1) (by rw[h.lm] at hi;omega)
 rwa [dw] at h1
theorem Best.spK {K:Nat}(h:Best ms.length (ay ns ms) tg sum t) (hn:ms.length≤8) (hm:QFits K t.mults):QFits (1+7*(K+1)) (bR ns ms t):=by
 have h1:=qQ (n:=(ay ns ms).length) (ps:=t.active.zip t.mults) (K:=K) (fun p hp=>hm _ (List.of_mem_zip hp).2) _ (Dt _);rw[List.take_length,h.zipL] at h1;have h2:=Dx (K+1) (h.act hn);exact h1.mono (by omega)
theorem Best.payF (h:Best ms.length (ay ns ms) tg sum t) (hc:ConI ms.length (ay ns ms)) (hn:ms.length≤8) (ht:QFits 2 tg) (hs:Fits 2 sum):QFits 6000000 t.x:=by
 rcases Nat.eq_zero_or_pos ms.length with h0 | h0
 · have e:t.x=[]:=Dz (by rw[h.lx,h0]);rw[e];intro q hq;simp at hq
 · exact (h.small hc hn ht hs h0).1.mono (by decide)
theorem Best.ptF {y:PtD}(h:Best ms.length (ay ns ms) tg sum t) (hc:ConI ms.length (ay ns ms)) (hn:ms.length≤8) (ht:QFits 2 tg) (hs:Fits 2 sum) (q1:y.pay.qs=t.x) (q2:y.mults.qs=(bR ns ms t).take ns.length) (q3:y.low.qs=((bR ns ms t).drop ns.length).take ms.length) (q4:y.high.qs=(bR ns ms t).drop (ns.length+ms.length)) (q5:y.lev.q=t.level) :
 PtF 100000000 y∧(0<ms.length→PtF 6000000 y):=by
 have b:∀ K,QFits K (bR ns ms t)→QFits K y.mults.qs∧QFits K y.low.qs∧QFits K y.high.qs:=fun K hK=>by
  rw[q2,q3,q4];exact⟨fun q hq=>hK q (DJ hq),fun q hq=>hK q (DK (DJ hq)),fun q hq=>hK q (DK hq)⟩
 constructor
 · obtain⟨p1,p2,p3⟩:=b _ ((h.spK hn h.fit.2.2).mono (show 1+7*(KN+1)≤100000000 by decide));exact⟨by rw[q1];exact h.fit.1.mono (by decide),p1,p2,p3,by rw[q5];exact h.fit.2.1.mono (by decide)⟩
 · intro h0;obtain⟨k1,k2,k3⟩:=h.small hc hn ht hs h0;obtain⟨p1,p2,p3⟩:=b _ ((h.spK hn k3).mono (show 1+7*(699345+1)≤6000000 by decide));exact⟨by rw[q1];exact k1.mono (by decide),p1,p2,p3,by rw[q5];exact k2.mono (by decide)⟩
theorem Best.checks {y:PtD}(h:Best ms.length (ay ns ms) tg sum t) (hE:argsE tg.length ns ms=0) (q1:y.pay.qs=t.x) (q2:y.mults.qs=(bR ns ms t).take ns.length) (q3:y.low.qs=((bR ns ms t).drop ns.length).take ms.length) (q4:y.high.qs=(bR ns ms t).drop (ns.length+ms.length)) (q5:y.lev.q=t.level) :
 cP tg ns ms sum y.pay.qs y.mults.qs y.low.qs y.high.qs y.lev.q=0:=by
 unfold cP;rw[if_neg (by rw[hE];simp),q1,q2,q3,q4,q5,if_pos (h.cert (dP hE).1)]
end
section
variable {ns:List NdD}{ms:List Int}{tg u:List Rat}{sum:Rat}{t:St}
end
end Go.Proofs.YtjhkapjadfpimaaGreat
