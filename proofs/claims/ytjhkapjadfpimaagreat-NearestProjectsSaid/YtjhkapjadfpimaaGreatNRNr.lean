/- Contracts of functions, for the law. -/
import Derived.Test.YtjhkapjadfpimaaGreatMRSol
namespace Go.Proofs.YtjhkapjadfpimaaGreat
set_option linter.unusedVariables false
set_option linter.unusedSimpArgs false
open Go.RowKit Plain
attribute [local go_sem ↓] Go.wp_at_zero Go.wp_at_succ
set_option maxRecDepth 100000
set_option maxHeartbeats 40000000
theorem mW {A B C D:Option Addr}{ca cb cc cd:Nat}{tg:List FrD}{ns:List NdD}{ms:List Int}{ch:List Nat}{v:Value}{sq:Rat}{w:World}(hE:argsE tg.length ns ms=0) (ht0:FL w A ca tg) (hn0:NL w B cb ns) (hm0:ZL w C cc ms) (hv0:FV w v sq) (hc0:ILs w D cd ch) (hft0:QFits 2 (tg.map FrD.q)) (hfs0:Fits 2 sq) (hn4:ms.length≤4) (hn5:ns.length≤5) (hch0:∀ a∈ch,a<(C5 ns ms).length) (hc4:ch.length≤3) :
 Calls Tryz.prog 36 #[.slice A tg.length ca,.slice B ns.length cb,.slice C ms.length cc,v,.slice D ch.length cd] w (RetNr (tg.map FrD.q) ns ms sq (Y5 ns ms (tg.map FrD.q) sq ch) w):=by
 obtain⟨sv,rfl,r4,x2⟩:=hv0.frd;obtain⟨B0,hB0⟩:∃ b,Hid (Y5 ns ms (tg.map FrD.q) sq ch=b):=⟨_,rfl⟩;rw[hB0.out];have hE':=a1k hE;have j4:=a1k hft0;have bB:=a1k hfs0;have l5:=a1k hch0;have m5:=a1k hn5;have X:=a1k (K3 hE);have hI:=a1k (show ConI ms.length (o0 ns ms) from dF ⟨X.out.1,X.out.2.1,X.out.2.2.2.1,X.out.2.2.2.2⟩);have bZ:=a1k (show tg.length=ms.length from X.out.2.2.1);have x8:=a1k (show ∀ d∈ns,0≤d.p∧d.p<256 from fun d hd=>⟨(X.out.2.2.2.2 d hd).1,by have h1:=(X.out.2.2.2.2 d hd).2.1;have h2:=lD X.out.1;omega⟩);have hms':=a1k (show ∀ m∈ms,0≤m∧m≤1000000 from X.out.2.2.2.1);obtain⟨P,hP⟩:∃ P,Hid (ch.length+1=P):=⟨_,rfl⟩;have hP4:P≤4:=by rw[←hP.out];omega
 obtain⟨Rr,f9⟩:∃ R,Hid (H3 ns ms ch=R):=⟨_,rfl⟩;have p4:=a1k (show Rr.length=P by rw[←f9.out,bO,hP.out]);have hR0:=a1k (show Rr[0]?=some (List.replicate ms.length 1,0) by rw[←f9.out];rfl)
 have hRk:=a1k (show ∀ k x,ch[k]?=some x→Rr[k+1]?=some (ceC ns ms x) from fun k x hx=>by
  rw[←f9.out]
  show (ch.map (ceC ns ms))[k]?=_
  rw[a1r,hx];rfl)
 have hRw:=a1k (show ∀ p∈Rr,p.1.length=ms.length∧∀ z∈p.1,z.natAbs≤1 from fun p hp=>by
  rw[←f9.out] at hp;exact⟨jS X.out.1 hch0 p hp,rows_one X.out.1 hch0 p hp⟩)
 obtain⟨w0,hw0,b0,l0,B0v⟩:=f8 w #[.bool sv.neg,.slice sv.a sv.la.length sv.ca,.slice sv.b sv.lb.length sv.cb] 28;obtain⟨w1,hw1,b1,l1,B1v⟩:=f8 w0 #[.slice none 0 0,.slice none 0 0,.slice none 0 0,.slice none 0 0,.bool false,.slice none 0 0,.slice none 0 0] 34;have c8:=a1j b0 b1;have gA:VarQ w1 w.heap.size sv:=a4f B0v b1;have hwg:=a1k (show w0.heap.size<w1.heap.size from l1);have lt0:=ht0.len;have ln0:=hn0.len;have lm0:=hm0.len;have lc0:ch.length≤cd∧cd≤9223372036854775807:=⟨hc0.1,hc0.2.1⟩;have hQ:=lR (hn0.below c8) (hm0.below c8) X.out.1 (by omega) x8.out hms'.out;clear hft0 hfs0 hch0 hE hv0;go_enter Tryz.func36,Tryz.ntmps36;go_wp2_with fail;refine hQ.mono ?_;rintro e w2 ⟨A2,c2,als,rfl,cR,n7,b2⟩;clear hQ;obtain⟨L,m9⟩:∃ L,Hid (als.length=L):=⟨_,rfl⟩;rw[m9.out];have l3:=a1k (show L=ns.length+(ms.length+ms.length) by rw[←m9.out,←G5 ns ms,←n7.out,a1s]);have bN:=a1k (show (C5 ns ms).length=L by rw[←n7.out,a1s,m9.out]);have hall:=cR.1.1;have hall2:=cR.1.2.1;rw[m9.out] at hall;have hA:=sD (n:=ms.length) (w:=w2) (by omega);go_wp2_with fail;refine hA.mono ?_;rintro e w3 ⟨A3,c3,rfl,hon,b3⟩;clear hA;have x3:=cR.below b3;clear cR;have lon:=hon.len;rw[a1p] at lon;obtain⟨w4,hw4,b4,l4,B4⟩:=f8 w3 #[.slice A3 ms.length c3,.int .i64 0] 103
 have hr1:LrAt Rr w3 1 (.slice (some ⟨w3.heap.size,0,none⟩) 1 1) w4:=LrAt.one (l:=⟨A3,c3,List.replicate ms.length 1,0⟩) (by
  show Blk w4 w3.heap.size _ #[.slice A3 (List.replicate ms.length (1:Int)).length c3,.int .i64 0]
  rw[a1p];exact B4) hon hR0.out b4
 have b13:Below w1.heap.size w1 w3:=a1j b2 b3;go_wp2
 go_loopw [13,14] (fun v i wr=>∃ k:Nat,k≤ch.length∧i=.int .i64 (k:Int)∧LrAt Rr w3 (k+1) v wr) (fun _ i _=>ch.length-(intOf i).toNat)
 case atStart=>exact⟨0,by omega,rfl,hr1⟩
 case round =>
  clear hr1 B4;obtain⟨k,hk,rfl,d0⟩:=hrel;have d8:=d0.bel
  by_cases hkl:k<ch.length
  · have hki:(k:Int)<(ch.length:Int):=by omega
    have hb1:=a1j b13 d8;obtain⟨x,hx⟩:∃ x,Hid (ch[k]?=some x):=⟨_,a1m hkl⟩;obtain⟨aI,eaI,vC,hcI⟩:=(hc0.below ((a1j c8 hb1))).2.2 k x hx.out;have hxL:x<L:=by rw[←bN.out];exact l5.out x (a1n hx.out)
    have hxi:(x:Int)<(L:Int):=by omega
    obtain⟨aA,l,eA,hbA,q0,q1,hzl,hlk⟩:=(x3.below d8).at (k:=x) (by rw[m9.out];exact hxL)
    have hlp:=a1k (show Rr[k+1]?=some l.p by
     rw[hRk.out k x hx.out];unfold ceC;rw[←n7.out,a1l,a1r,hlk.out];rfl)
    obtain⟨v6,w6,k0,j1⟩:=d0.app (l:=l) (by omega) hlp.out (x3.2 l (a1n hlk.out));rw[eaI,eA];clear hzl d0
    go_wp2_with (at_builtin;refine D7 (T:=99) rfl rfl (.tmp 43) (.tmp 51) rfl rfl rfl k0 ?_)
    go_wp2;go_roundw
    case rel=>exact⟨k+1,by omega,by go_num,j1⟩
    case measure=>simp[intOf];omega
  · obtain rfl:k=ch.length:=by omega
    have hlt':decide ((ch.length:Int)<(ch.length:Int))=false:=a1v (by omega);obtain⟨A5,c5,ls,rfl,p6,kN⟩:=d0.done (by rw[p4.out,hP.out]);obtain⟨w5,lE⟩:∃ w5,w5=wr:=⟨_,rfl⟩;subst lE;have m3:=a1k (show ls.length=P by rw[←p4.out,←kN.out,a1s]);rw[m3.out];have hlcap:=p6.1.1;have hlcap2:=p6.1.2.1;rw[m3.out] at hlcap;have h0:=a1k (show Below w1.heap.size w1 w5 from (a1j b13 d8));obtain⟨G,hG⟩:∃ G,Hid (W5 Rr=G):=⟨_,rfl⟩;obtain⟨rt,bA⟩:∃ rt,Hid (jP sq (tg.map FrD.q) Rr=rt):=⟨_,rfl⟩;have hGl:=a1k (show G.length=P by rw[←hG.out,oJ,p4.out]);have hrtl:=a1k (show rt.length=P by rw[←bA.out,bQ,p4.out]);have g0:GrAt G rt w5 0 0 (.slice none 0 0) (.slice none 0 0) w5:=GrAt.start (a3t _ _)
    obtain⟨aL,eaL⟩:∃ aL,Hid (A5=some aL):=by
     obtain⟨a,l,e,-⟩:=p6.at (k:=0) (by rw[m3.out,←hP.out];omega);exact⟨a,e⟩
    rw[eaL.out]
    have lB:=a1k (show ∀ k,k<P→∃ l,Hid (ls[k]?=some l)∧Hid (Rr[k]?=some l.p)∧(aL.add (k*2)).block<w5.heap.size∧w5.cell? (aL.add (k*2))=some (.slice l.a l.zs.length l.c)∧w5.cell? ⟨(aL.add (k*2)).block,(aL.add (k*2)).off+1,none⟩=some (.int .i64 l.b)∧ZL w5 l.a l.c l.zs∧Hid (l.zs.length=ms.length∧(∀ z∈l.zs,z.natAbs≤1)) from fun k hk=>by
     obtain⟨a,l,e,h1,h2,h3,h4,h5⟩:=p6.at (k:=k) (by rw[m3.out];exact hk);rw[eaL.out] at e
     cases e
     have h6:Rr[k]?=some l.p:=by rw[←kN.out,a1r,h5.out];rfl
     exact⟨l,h5,h6,by rw[f7];exact h1,h2,h3,h4,(hRw.out l.p (a1n h6))⟩)
    clear d0 p6 x3 hon;go_wp2
    go_loopw [15,16,17] (fun vg vr i wr=>∃ j:Nat,j≤P∧i=.int .i64 (j:Int)∧GrAt G rt w5 j j vg vr wr) (fun _ _ i _=>P-(intOf i).toNat)
    case atStart=>exact⟨0,by omega,rfl,g0⟩
    case round =>
     clear g0;obtain⟨j,hj,rfl,g0⟩:=hrel;have k6:=g0.bel
     by_cases hjl:j<P
     · have hji:(j:Int)<(P:Int):=by omega
       obtain⟨l1,hl1k,r3,d3,s9,hcb5,g4,v2⟩:=lB.out j hjl;obtain⟨m6,l9⟩:∃ T,Hid ((Rr.map fun b=>((prodI l1.zs b.1:Int):Rat))=T):=⟨_,rfl⟩;have hrTl:=a1k (show m6.length=P by rw[←l9.out,a1s,p4.out]);have m0:=a1k v2.out.2;obtain⟨wo,hwo⟩:∃ wo,wo=wr:=⟨_,rfl⟩;subst hwo;have b9:LsAt m6 wo 0 (.slice none 0 0) wo:=LsAt.nil _ _;have I:=a1k (show (aL.add (j*2)).block<wo.heap.size from a1o d3 k6.size);have Z:wo.cell? (aL.add (j*2))=some (.slice l1.a l1.zs.length l1.c):=(k6.cell d3).trans s9;go_wp2
       go_loopw [18,19] (fun v i wr=>∃ l:Nat,l≤P∧i=.int .i64 (l:Int)∧LsAt m6 wo l v wr) (fun _ i _=>P-(intOf i).toNat)
       case atStart=>exact⟨0,by omega,rfl,b9⟩
       case round =>
        clear b9;obtain⟨l,hl,rfl,b9⟩:=hrel;have hbo:=b9.bel
        by_cases hll:l<P
        · have hli:(l:Int)<(P:Int):=by omega
          obtain⟨l2,hl2k,hl2p,k3,dS,-,hZ,q4⟩:=lB.out l hll;have p5:=a1k (show (aL.add (l*2)).block<wo.heap.size from a1o k3 k6.size);have E:wo.cell? (aL.add (l*2))=some (.slice l2.a l2.zs.length l2.c):=(k6.cell k3).trans dS;have Y:=g4.below ((a1j k6 hbo));have cI:=hZ.below ((a1j k6 hbo));have hsm2:=a1k q4.out.2;have hll2:=a1k (show l1.zs.length=l2.zs.length by rw[v2.out.1,q4.out.1]);have hl12:=a1k (show l2.zs.length≤12 by rw[q4.out.1];omega)
          have hrq:=a1k (show ∀ d:FrD,d.q=((prodI l1.zs l2.zs:Int):Rat)→m6[l]?=some d.q from fun d hd=>by
           rw[←l9.out,a1r,hl2p.out,hd];rfl)
          clear dS s9 hZ k3;go_upto_region 16 with fail;have bT:=b9.bel;have s:Below wr.heap.size wr wr.drew:=(a3t _ _).drew;replace b9:=b9.below s;replace Y:=Y.below s;replace cI:=cI.below s;replace bT:=a1j bT s;clear s;go_wp2_with fail;refine a3u ?_;refine k9 (J:=[13,14]) (S:=fun w'=>w'.cell? (aL.add (j*2))=some (.slice l1.a l1.zs.length l1.c)∧w'.cell? (aL.add (l*2))=some (.slice l2.a l2.zs.length l2.c)) (by kernel_rfl) (⟨(bT.cell I.out).trans Z,(bT.cell p5.out).trans E⟩) (fun f=>?_);refine iK 0 1 2 3 4 5 6 7 f ?_;refine dU 8 9 f ?_;refine dJ 10 rfl f ?_;refine I0 11 rfl fun K hK=>?_;go_simp;have E:=rY Y cI m0.out hsm2.out hll2.out hl12.out;go_at_call 58;refine (E).mono ?_;rintro e u1 ⟨v1,rfl,y3,F⟩;clear E;replace b9:=b9.below F;replace bT:=a1j bT F;obtain⟨d1,rfl,hd1,hdq1⟩:=y3.frd;clear y3;go_wp2_with fail;refine hK.out _ _ (⟨(bT.cell I.out).trans Z,(bT.cell p5.out).trans E⟩) (fun f=>?_);clear hK K;(try simp only[j9]);refine I0 12 rfl fun K hK=>?_;have fL:=b9
          have hdP:=hd1;obtain⟨u2,hu2,d6,lu2,Bu2⟩:=f8 u1 #[.bool d1.neg,.slice d1.a d1.la.length d1.ca,.slice d1.b d1.lb.length d1.cb] 28;replace bT:=a1j bT d6;go_simp;refine hK.out _ _ (⟨(bT.cell I.out).trans Z,(bT.cell p5.out).trans E⟩) (fun f=>?_);clear hK K;(try simp only[j9]);refine j6 (rs:=[13]) (by kernel_rfl) (by simp) ?_;refine a4j rfl (by decide) (fun K hK=>?_) a4i;obtain⟨v6,w6,k0,j1⟩:=fL.run (d:=d1) (by omega) (hrq.out d1 hdq1.out) hdP;rw[hu2] at k0;refine q7 rfl _ _ rfl rfl rfl rfl k0 ?_;refine hK.out _ _ ?_;clear hK K;(try clear f);(try simp only[j9]);refine j6 (rs:=[14]) (by kernel_rfl) (by simp) ?_;refine a4j rfl (by decide) (fun K hK=>?_) a4i;go_simp;refine hK.out _ _ ?_;clear hK K;(try clear f);(try simp only[j9]);refine k8 (by kernel_rfl) ?_ _;refine a3w ?_;(try go_simp);(try clear f);clear b9 fL hdP hd1 Y cI k0 bT;go_wp2;go_roundw
          case rel=>exact⟨l+1,by omega,by go_num,j1⟩
          case measure=>simp[intOf];omega
        · obtain rfl:l=P:=by omega
          have dC:decide ((l:Int)<(l:Int))=false:=a1v (by omega);have hD:=g0.own;obtain⟨RA,rc,rds,rfl,hB,hqR,hRb⟩:=b9.done2 hrTl.out.symm
          have hGq:=a1k (show G[j]?=some (RwD.qs ⟨RA,rc,rds⟩) by
           show _=some (rds.map FrD.q)
           rw[hqR.out,←l9.out,←hG.out];exact gramC_at r3.out)
          obtain⟨v6,w6,k0,j3⟩:=(g0.below hbo).appM2 (r:=⟨RA,rc,rds⟩) (by omega) hGq.out hB (fun a e=>⟨fun h9=>by have h10:=hD _ h9;have h11:=(hRb a e).1;omega,(hRb a e).2⟩);have g6:=j3.bel;have hcb:w6.cell? ⟨(aL.add (j*2)).block,(aL.add (j*2)).off+1,none⟩=some (.int .i64 l1.b):=(g6.cell (by exact d3)).trans hcb5;have hbb:=a1k (show -1099511627776≤l1.b∧l1.b≤1099511627776 from uL X.out f9.out l5.out r3.out);have hC:=t9 l1.b w6 (by have:=hbb.out;omega) (by have:=hbb.out;omega);clear g0 b9 hB hD hRb
          go_wp2_with (at_builtin;refine D7 (T:=56) rfl rfl (.tmp 79) (.tmp 81) rfl rfl rfl k0 ?_)
          clear k0;go_wp2_with fail;refine hC.mono ?_;rintro e w7 ⟨v7,rfl,hv7,b7⟩;clear hC;obtain⟨d7,rfl,hd7,gE⟩:=hv7.frd;clear hv7;obtain⟨wA,w8,eA8,p0,p1,p2,r0,r1,r2,eB8,g5,b8,l8⟩:=D5 w7 d7;have r6:=a1j b7 b8;have v5:=a1j g6 r6;have y7:=a1k (show l1.zs.length=tg.length by rw[v2.out.1,bZ.out]);have l6:=a1k (show tg.length≤12 by rw[bZ.out];omega)
          have hdF:=a1k (show Fits 61 (o5 (I7 l1.zs (tg.map FrD.q))) by
           have h1:=H1 (n:=12) (K:=4) (ps:=I7 l1.zs (tg.map FrD.q)) (iQ m0.out j4.out) (by rw[gF (by rw[a1s,y7.out]),a1s];exact l6.out) (I7 l1.zs (tg.map FrD.q)).length;rw[a2z] at h1;exact h1.mono (by decide))
          have dT:=a1k (show rt[j]?=some ((if j=0 then sq else ((l1.b:Int):Rat))-o5 (I7 l1.zs (tg.map FrD.q))) by rw[←bA.out];exact xA r3.out);have m1:w6.cell? (aL.add (j*2))=some (.slice l1.a l1.zs.length l1.c):=(g6.cell d3).trans s9;have g2:=a1k (show (aL.add (j*2)).block<w6.heap.size from a1o d3 g6.size);have hgv:w6.heap.size≤w7.heap.size:=b7.size
          by_cases hj0:j=0
          · have hj0b:((j:Int) == 0)=true:=by rw[beq_iff_eq];omega
            have v8:=a1k hj0;clear hj0;have y1:=a1j h0.out v5;obtain⟨s0,s1,s2⟩:=(gA.below y1).cells;obtain⟨w9,q0,q1,q2,f0,f1,f2,e9,v4,o9⟩:=g5.store sv;have q8:Below w6.heap.size w6 w9:=o9.to_below r6 hgv r6.size;have m4:FV w9 sv.v sv.q:=((r4.below c8).below y1).onlyV g5 o9;have hT:=a1j g6 q8;have Y:=g4.below hT;have V:=ht0.below (c8.trans (((a1j h0.out hT)).mono c8.size));clear g5 g4 hd7;go_upto_region 21 with fail;clear s0 s1 s2 q0 q1 q2 f0 f1 f2 p0 p1 p2 r0 r1 r2;have x4:=a1k (show sv.q=(if j=0 then sq else ((l1.b:Int):Rat)) by rw[if_pos v8.out];exact x2.out);have t5:=a1k (show Fits 2 sv.q by rw[x2.out];exact bB.out);have g8:=a1k (show ∀ y:FrD,y.q=sv.q-o5 (I7 l1.zs (tg.map FrD.q))→rt[j]?=some y.q from fun y hy=>by rw[dT.out,hy,x4.out]);obtain⟨rv,g9⟩:∃ rv,sv=rv:=⟨_,rfl⟩;obtain⟨gv,j0⟩:∃ g,w7.heap.size=g:=⟨_,rfl⟩;obtain⟨wq,n6⟩:∃ wq,w9=wq:=⟨_,rfl⟩;rw[g9] at v4 m4 t5 g8;rw[j0] at v4 ⊢;rw[n6] at v4 m4 q8 Y V ⊢;clear g9 j0 n6;have t:=v4;have c7:=m4;have bT:=q8;clear v4 m4;clear Z;have Z:=m1;replace I:=g2;clear m1 g2;have s:Below wq.heap.size wq wq.drew:=(a3t _ _).drew;replace t:=t.below s
            replace c7:=c7.below s;replace Y:=Y.below s;replace V:=V.below s;replace bT:=a1j bT s;clear s;go_wp2_with fail;refine a3u ?_;refine k9 (J:=[11,12]) (S:=fun w'=>w'.cell? ⟨gv,0,none⟩=some (.bool rv.neg)∧w'.cell? ⟨gv,1,none⟩=some (.slice rv.a rv.la.length rv.ca)∧w'.cell? ⟨gv,2,none⟩=some (.slice rv.b rv.lb.length rv.cb)∧w'.cell? (aL.add (j*2))=some (.slice l1.a l1.zs.length l1.c)) (by kernel_rfl) (⟨t.cells.1,t.cells.2.1,t.cells.2.2,(bT.cell I.out).trans Z⟩) (fun f=>?_);refine iK 0 1 2 3 4 5 6 7 f ?_;refine I0 8 rfl fun K hK=>?_;go_simp;have E:=gD (K:=2) Y V j4.out m0.out (by decide) y7.out l6.out;go_at_call 60;refine (E).mono ?_;rintro e u1 ⟨vd,rfl,y6,F⟩;clear E;replace t:=t.below F;replace c7:=c7.below F;replace bT:=a1j bT F;go_wp2_with fail;refine hK.out _ _ (⟨t.cells.1,t.cells.2.1,t.cells.2.2,(bT.cell I.out).trans Z⟩) (fun f=>?_);clear hK K;(try simp only[j9]);refine I0 9 rfl fun K hK=>?_;go_simp;have E:=J3 c7 y6 t5.out hdF.out (by decide);go_at_call 59;refine (E).mono ?_
            rintro e u2 ⟨vs,rfl,p3,d6⟩;clear E;replace t:=t.below d6;replace bT:=a1j bT d6;obtain⟨y,rfl,hy,y4⟩:=p3.frd;clear p3 y6;go_wp2_with fail;refine hK.out _ _ (⟨t.cells.1,t.cells.2.1,t.cells.2.2,(bT.cell I.out).trans Z⟩) (fun f=>?_);clear hK K;(try simp only[j9]);refine I0 10 rfl fun K hK=>?_;have bP:=bT;have j2:=hy;obtain⟨u3,n5,g3,lu3,Bu3⟩:=f8 u2 #[.bool y.neg,.slice y.a y.la.length y.ca,.slice y.b y.lb.length y.cb] 28;replace t:=t.below g3;replace bT:=a1j bT g3;go_simp;refine hK.out _ _ (⟨t.cells.1,t.cells.2.1,t.cells.2.2,(bT.cell I.out).trans Z⟩) (fun f=>?_);clear hK K;(try simp only[j9]);refine j6 (rs:=[11]) (by kernel_rfl) (by simp) ?_;refine a4j rfl (by decide) (fun K hK=>?_) a4i;obtain⟨v9,w9,k5,x7⟩:=(j3.below bP).appQ (d:=y) (by omega) (g8.out y y4.out) j2;rw[n5] at k5;refine q7 rfl _ _ rfl rfl rfl rfl k5 ?_;refine hK.out _ _ ?_;clear hK K;(try clear f);(try simp only[j9]);refine j6 (rs:=[12]) (by kernel_rfl) (by simp) ?_;refine a4j rfl (by decide) (fun K hK=>?_) a4i
            go_simp;refine hK.out _ _ ?_;clear hK K;(try clear f);(try simp only[j9]);refine k8 (by kernel_rfl) ?_ _;refine a3w ?_;(try go_simp);(try clear f);clear t c7 Y V hy j2 bP bT j3 k5;go_wp2;go_roundw
            case rel=>exact⟨j+1,by omega,by go_num,x7⟩
            case measure=>simp[intOf];omega
          · have hj0b:((j:Int) == 0)=false:=by rw[beq_eq_false_iff_ne];omega
            have v8:=a1k hj0;clear hj0;have bV:=hd7.below b8;have Y:=g4.below v5;have V:=ht0.below (c8.trans (((a1j h0.out v5)).mono c8.size));clear g4 hd7;go_upto_region 21 with fail;clear p0 p1 p2 r0 r1 r2;have x4:=a1k (show d7.q=(if j=0 then sq else ((l1.b:Int):Rat)) by rw[if_neg v8.out];exact gE.out);have t5:=a1k (show Fits 2 d7.q by rw[gE.out];exact N9 (by have:=hbb.out;omega));have g8:=a1k (show ∀ y:FrD,y.q=d7.q-o5 (I7 l1.zs (tg.map FrD.q))→rt[j]?=some y.q from fun y hy=>by rw[dT.out,hy,x4.out]);obtain⟨rv,g9⟩:∃ rv,d7=rv:=⟨_,rfl⟩;obtain⟨gv,j0⟩:∃ g,w7.heap.size=g:=⟨_,rfl⟩;obtain⟨wq,n6⟩:∃ wq,w8=wq:=⟨_,rfl⟩;rw[g9] at g5 bV t5 g8;rw[j0] at g5 ⊢;rw[n6] at g5 bV r6 Y V ⊢;clear g9 j0 n6;have t:=g5;have c7:=bV;have bT:=r6;clear g5 bV;clear Z;have Z:=m1;replace I:=g2;clear m1 g2;have s:Below wq.heap.size wq wq.drew:=(a3t _ _).drew;replace t:=t.below s;replace c7:=c7.below s;replace Y:=Y.below s;replace V:=V.below s;replace bT:=a1j bT s;clear s;go_wp2_with fail;refine a3u ?_;refine k9 (J:=[11,12]) (S:=fun w'=>w'.cell? ⟨gv,0,none⟩=some (.bool rv.neg)∧w'.cell? ⟨gv,1,none⟩=some (.slice rv.a rv.la.length rv.ca)∧w'.cell? ⟨gv,2,none⟩=some (.slice rv.b rv.lb.length rv.cb)∧w'.cell? (aL.add (j*2))=some (.slice l1.a l1.zs.length l1.c)) (by kernel_rfl) (⟨t.cells.1,t.cells.2.1,t.cells.2.2,(bT.cell I.out).trans Z⟩) (fun f=>?_)
            refine iK 0 1 2 3 4 5 6 7 f ?_;refine I0 8 rfl fun K hK=>?_;go_simp;have E:=gD (K:=2) Y V j4.out m0.out (by decide) y7.out l6.out;go_at_call 60;refine (E).mono ?_;rintro e u1 ⟨vd,rfl,y6,F⟩;clear E;replace t:=t.below F;replace c7:=c7.below F;replace bT:=a1j bT F;go_wp2_with fail;refine hK.out _ _ (⟨t.cells.1,t.cells.2.1,t.cells.2.2,(bT.cell I.out).trans Z⟩) (fun f=>?_);clear hK K;(try simp only[j9]);refine I0 9 rfl fun K hK=>?_;go_simp;have E:=J3 c7 y6 t5.out hdF.out (by decide);go_at_call 59;refine (E).mono ?_;rintro e u2 ⟨vs,rfl,p3,d6⟩;clear E;replace t:=t.below d6;replace bT:=a1j bT d6;obtain⟨y,rfl,hy,y4⟩:=p3.frd;clear p3 y6;go_wp2_with fail;refine hK.out _ _ (⟨t.cells.1,t.cells.2.1,t.cells.2.2,(bT.cell I.out).trans Z⟩) (fun f=>?_);clear hK K;(try simp only[j9]);refine I0 10 rfl fun K hK=>?_;have bP:=bT;have j2:=hy;obtain⟨u3,n5,g3,lu3,Bu3⟩:=f8 u2 #[.bool y.neg,.slice y.a y.la.length y.ca,.slice y.b y.lb.length y.cb] 28
            replace t:=t.below g3;replace bT:=a1j bT g3;go_simp;refine hK.out _ _ (⟨t.cells.1,t.cells.2.1,t.cells.2.2,(bT.cell I.out).trans Z⟩) (fun f=>?_);clear hK K;(try simp only[j9]);refine j6 (rs:=[11]) (by kernel_rfl) (by simp) ?_;refine a4j rfl (by decide) (fun K hK=>?_) a4i;obtain⟨v9,w9,k5,x7⟩:=(j3.below bP).appQ (d:=y) (by omega) (g8.out y y4.out) j2;rw[n5] at k5;refine q7 rfl _ _ rfl rfl rfl rfl k5 ?_;refine hK.out _ _ ?_;clear hK K;(try clear f);(try simp only[j9]);refine j6 (rs:=[12]) (by kernel_rfl) (by simp) ?_;refine a4j rfl (by decide) (fun K hK=>?_) a4i;go_simp;refine hK.out _ _ ?_;clear hK K;(try clear f);(try simp only[j9]);refine k8 (by kernel_rfl) ?_ _;refine a3w ?_;(try go_simp);(try clear f);clear t c7 Y V hy j2 bP bT j3 k5;go_wp2;go_roundw
            case rel=>exact⟨j+1,by omega,by go_num,x7⟩
            case measure=>simp[intOf];omega
     · obtain rfl:j=P:=by omega
       have dC:decide ((j:Int)<(j:Int))=false:=a1v (by omega);obtain⟨AG,cg,rows,BR,cr,bs,rfl,hML,q9,rfl,hFL,hqB⟩:=g0.done hGl.out.symm hrtl.out.symm;obtain⟨wB,hwB⟩:∃ wB,wB=w5:=⟨_,rfl⟩;subst hwB;obtain⟨wo,hwo⟩:∃ wo,wo=wr:=⟨_,rfl⟩;subst hwo;obtain⟨P,hPj⟩:∃ P,P=j:=⟨_,rfl⟩;subst hPj;have hrl:=a1k (show rows.length=P by rw[←hGl.out,←q9.out,p8]);have htq:=a1k (show (tg.map FrD.q).length=ms.length by rw[a1s,bZ.out]);have hGf:=a1k (show MFits 40 G by rw[←hG.out,←f9.out];exact mB hI.out X.out.1 l5.out);have hrf:=a1k (show QFits 40 rt by rw[←bA.out,←f9.out];exact nM hI.out X.out.1 htq.out j4.out bB.out l5.out);have hF:=a1k (show colsL G=P by rw[←hG.out,←f9.out,(mA X.out.1 l5.out).2,hP.out]);obtain⟨yq,ee,hS⟩:∃ yq ee,Hid (J5 G rt=(yq,ee)):=⟨_,_,rfl⟩;have y9:=a1k (show eG ns ms (tg.map FrD.q) sq ch=(yq,ee) by unfold eG;rw[f9.out,hG.out,bA.out];exact hS.out);have yE:=uJ (K:=40) hML hFL (by rw[q9.out];exact hGf.out) (by rw[hqB.out];exact hrf.out) (by rw[q9.out,hF.out];have h1:=W6 40 hP4;rw[gK40] at h1;omega) (by rw[hrl.out];omega) (by rw[q9.out,hF.out];omega);rw[q9.out,hqB.out,hS.out] at yE
       have hlM:=hML.len;have hlF:=hFL.len;go_wp2_with fail;refine yE.mono ?_;rintro e w6 ⟨AY,cY,ys,rfl,hY,fT,b6⟩;clear yE hML hFL g0 hlM hlF;have bD:=a1k (show ys.map FrD.q=yq from fT.out);clear fT;have n3:=h0.out.trans (((a1j k6 b6)).mono h0.out.size);have hR6:=a4f B1v n3;have hYl:=hY.len
       by_cases hee:ee=0
       rotate_left
       · have hne:(ee != 0)=true:=by rw[bne_iff_ne];exact hee
         have hno:=a1k (show B0=false by
          rw[←hB0.out];unfold Y5;rw[y9.out]
          show (decide (ee=0)&&_)=false
          rw[a1v hee];rfl)
         obtain⟨z0,z1,z2,z3,z4,z5,z6,f0,f1,f2,f3,f4,f5,f6,s0,s1,s2,s3,s4,s5,s6⟩:=T3 hR6;have hbF:=a1j c8 n3;clear hee;go_wp2;refine a3z (v:=.tuple #[.agg #[.slice none 0 0,.slice none 0 0,.slice none 0 0,.slice none 0 0,.bool false,.slice none 0 0,.slice none 0 0],.bool false]) (by simp[results,Tryz.results36,go_sem,z0,z1,z2,z3,z4,z5,z6]) rfl ?_;exact⟨zeroP,by rw[hno.out];rfl,fun h=>(by rw[hno.out] at h;cases h),hbF⟩
       obtain rfl:ee=0:=hee;obtain⟨t3,v0⟩:=yX hI.out X.out.1 htq.out j4.out bB.out l5.out (by rw[hP.out];exact hP4) (by rw[y9.out]);rw[y9.out] at t3 v0;have hyF:=a1k (show QFits 10325 yq from t3);have gB:=a1k (show yq.length=ch.length+1 from v0);have bE:=a1k (show ys.length=P by rw[←hP.out,←gB.out,←bD.out,a1s]);clear t3 v0;rw[bE.out] at hYl;rw[bE.out];obtain⟨mu,bS⟩:∃ mu,Hid (muC ns ms ch yq=mu):=⟨_,rfl⟩;have y8:=a1k (show QFits 10325 mu by rw[←bS.out];exact muC_fits hyF.out);have g7:=a1k (show mu.length=L by rw[←bS.out];unfold muC;rw[putC_len,bN.out]);obtain⟨ps,rA⟩:∃ ps,Hid (ch.zip (yq.drop 1)=ps):=⟨_,rfl⟩;have hpl:=a1k (show ps.length=ch.length by rw[←rA.out,List.length_zip,a2d,gB.out,a3n,Nat.min_self]);have hLn:L≤13:=by have h1:=l3.out;omega
       have hmk:=fP w6 L (by omega);obtain⟨w7,hw7⟩:∃ w7,w6.alloc (.cells ((List.replicate L P3).flatMap FrD.cells).toArray 28)=w7:=⟨_,rfl⟩;obtain⟨T1,hT1⟩:∃ T,Hid (List.replicate L (0:Rat)=T):=⟨_,rfl⟩;have m2:=a1k (show T1.length=L by rw[←hT1.out,a1p]);have hA1:FAt T1 w6.heap.size 0 w6 w7:=by rw[←hw7];exact FAt.new T1 m2.out w6
       rw[hw7] at hmk;go_wp2;clear hmk
       go_loopw [24] (fun i wr=>∃ j:Nat,j≤L∧i=.int .i64 (j:Int)∧FAt T1 w6.heap.size j w6 wr) (fun i _=>L-(intOf i).toNat)
       case atStart=>exact⟨0,by omega,rfl,hA1⟩
       case round =>
        clear hA1;obtain⟨j,hj,rfl,d0⟩:=hrel
        by_cases hjl:j<L
        · have hji:(j:Int)<(L:Int):=by omega
          go_wp2_with fail;refine (t9 0 _ (by decide) (by decide)).mono ?_;rintro e w8 ⟨v1,rfl,y3,b8⟩;obtain⟨zz,rfl,hz,hzq⟩:=y3.frd;clear y3;obtain⟨u0,u1,u2,w9,t0,t1,t2,f0,f1,f2,e9,hat5,g1⟩:=(d0.below b8).put (by rw[m2.out];exact hjl) (a1u _) hz;have j1:=a1k (g1 (by rw[←hT1.out,a2m,if_pos hjl,hzq.out];rfl));clear g1 d0 hz hat5;go_wp2;go_roundw
          case rel=>exact⟨j+1,by omega,by go_num,j1.out⟩
          case measure=>simp[intOf];omega
        · obtain rfl:j=L:=by omega
          have hlt':decide ((j:Int)<(j:Int))=false:=a1v (by omega);rw[show FAt T1 w6.heap.size j w6 wr=FAt T1 w6.heap.size T1.length w6 wr by rw[m2.out]] at d0;have d8:=d0.bel;obtain⟨ds1,h1,h2,h3,h4⟩:=d0.done;have t6:=a1k (h2.trans m2.out);obtain⟨g,hgd⟩:∃ g,w6.heap.size=g:=⟨_,rfl⟩;have hgY:=a1k (show w6.heap.size≤g by omega);have hX1:XO wr g j ds1:=by rw[←hgd,←t6.out];exact h1.xo (by rw[t6.out];omega)
          rw[hgd];have hq1:=a1k (show ds1.map FrD.q=lC j (ps.take 0) by rw[h4.out,←hT1.out];rfl);obtain⟨L',hL'⟩:∃ L',L'=j:=⟨_,rfl⟩;subst hL';clear h1 d0 hgd h2;go_wp2
          go_loopw [25] (fun i wr=>∃ j:Nat,j≤ch.length∧i=.int .i64 (j:Int)∧∃ ds,XO wr g L' ds∧AllFV wr ds∧Hid (ds.length=L')∧Hid (ds.map FrD.q=lC L' (ps.take j))∧Below w6.heap.size w6 wr) (fun i _=>ch.length-(intOf i).toNat)
          case atStart=>exact⟨0,by omega,rfl,ds1,hX1,h3,t6.out,hq1.out,d8⟩
          case round =>
           clear hX1 h3 d8;obtain⟨j,hj,rfl,ds,hX,hV,n1,hdq,hb⟩:=hrel;have dR:=a1j n3 hb
           by_cases hjl:j<ch.length
           · have hji:(j:Int)<(ch.length:Int):=by omega
             obtain⟨x,hx⟩:∃ x,Hid (ch[j]?=some x):=⟨_,a1m hjl⟩;obtain⟨aI,eaI,vC,hcI⟩:=(hc0.below ((a1j c8 dR))).2.2 j x hx.out;have q3:x<L':=by rw[←bN.out];exact l5.out x (a1n hx.out)
             have hxi:(x:Int)<(L':Int):=by omega
             have hjP:j+1<P:=by rw[←hP.out];omega
             have hjPi:(j:Int)+1<(P:Int):=by omega
             have hjP0:(0:Int)≤(j:Int)+1:=by omega
             obtain⟨aY,yk,vA,d2,hy0,hy1,hy2,hyv,hyk⟩:=(hY.below hb).at (k:=j+1) (by rw[bE.out];exact hjP);have hwj:IntKind.i64.wrap ((j:Int)+1)=((j+1:Nat):Int):=by rw[IntKind.wrap_i64];omega
             rw[eaI,vA];have habI:=a1k (show (aI.add j).block<wr.heap.size by rw[f7];exact vC);have v3:=a1k (show (aY.add ((j+1)*3)).block<wr.heap.size by rw[f7];exact d2);obtain⟨w4,hw4⟩:∃ w4,w4=wr:=⟨_,rfl⟩;subst hw4;have hkd:=a1k (show x<ds.length by rw[n1.out];exact q3);obtain⟨xk,hxk⟩:∃ xk,Hid (ds[x]?=some xk):=⟨_,a1m hkd.out⟩
             have hpj:=a1k (show ps[j]?=some (x,yk.q) by
              rw[←rA.out,List.getElem?_zip_eq_some];exact⟨hx.out,by rw[a2x,←bD.out,a1r,Nat.add_comm 1 j,hyk.out];rfl⟩)
             have hres:=a1k (show (ds.set x yk).map FrD.q=lC L' (ps.take (j+1)) by
              rw[zL hpj.out,←hdq.out,List.map_set])
             have l7:=hX;have q5:=hV;have q6:=hyv;have hb4:=hb;clear hX hV hyv hb dR d2 vC;go_upto_region 33 with fail;have bT:=a3t w4.heap.size w4;have s:Below w4.heap.size w4 w4.drew:=(a3t _ _).drew;replace l7:=l7.below s;replace q5:=q5.below s;replace q6:=q6.below s;replace bT:=a1j bT s;clear s;go_wp2_with fail;refine a3u ?_;refine k9 (J:=[11]) (S:=fun w'=>w'.cell? (aI.add j)=some (.int .i64 (x:Int))∧w'.cell? (aY.add ((j+1)*3))=some (.bool yk.neg)∧w'.cell? ⟨(aY.add ((j+1)*3)).block,(aY.add ((j+1)*3)).off+1,none⟩=some (.slice yk.a yk.la.length yk.ca)∧w'.cell? ⟨(aY.add ((j+1)*3)).block,(aY.add ((j+1)*3)).off+2,none⟩=some (.slice yk.b yk.lb.length yk.cb)) (by kernel_rfl) (⟨(bT.cell habI.out).trans hcI,(bT.cell v3.out).trans hy0,(bT.cell (by exact v3.out)).trans hy1,(bT.cell (by exact v3.out)).trans hy2⟩) (fun f=>?_);refine iK 0 1 2 3 4 5 6 7 f ?_;refine dU 8 9 f ?_;refine dJ 10 rfl f ?_;refine j6 (rs:=[11]) (by kernel_rfl) (by simp) ?_;refine a4j rfl (by decide) (fun K hK=>?_) a4i;obtain⟨wd,r5⟩:∃ wd,wd=w4.drew:=⟨_,rfl⟩
             rw[←r5] at l7 q5 q6 bT ⊢;clear r5;obtain⟨w9,f0,f1,f2,e9,hX9,o9⟩:=l7.store hkd.out yk;obtain⟨r0,r1,r2⟩:=l7.cells hxk.out;have hV9:=XO.setFV (k:=x) l7 q5 q6 o9;go_simp;refine hK.out _ _ ?_;clear hK K;(try clear f);(try simp only[j9]);refine k8 (by kernel_rfl) ?_ _;refine a3w ?_;(try go_simp);(try clear f);have q8:=o9.to_below ((a1j hb4 bT)) hgY.out (a1t hb4.size bT.size);clear l7 q5 q6 o9 r0 r1 r2;go_wp2;go_roundw
             case rel=>exact⟨j+1,by omega,by go_num,_,hX9,hV9,(by show (ds.set x yk).length=_;rw[a2i];exact n1.out),hres.out,q8⟩
             case measure=>simp[intOf];omega
           · obtain rfl:j=ch.length:=by omega
             have dC:decide ((ch.length:Int)<(ch.length:Int))=false:=a1v (by omega);obtain⟨w5,lE⟩:∃ w5,w5=wr:=⟨_,rfl⟩;subst lE
             have hfin:=a1k (show ds.map FrD.q=mu by
              rw[hdq.out,a1q (by rw[hpl.out];exact a1u _),←rA.out,←bN.out];exact bS.out)
             obtain⟨aY,y0,vA,d2,he0,lV,sB,y5,fE⟩:=(hY.below hb).at (k:=0) (by rw[bE.out,←hP.out];omega);have eA0:aY.add (0*3)=aY:=by rw[Nat.zero_mul];simp[Addr.add]
             rw[eA0] at he0 lV sB;clear eA0;rw[vA];have b5:=a1k d2;have n8:=a1k (show Fits 10325 y0.q from hyF.out _ (by rw[←bD.out];exact a2v.2 ⟨y0,a1n fE.out,rfl⟩));have hy0q:=a1k (show y0.q=yq.getD 0 0 by rw[←bD.out,a1l,a1r,fE.out];rfl);have hPn:0<P:=by have h1:=hP.out;omega
             obtain⟨M,hM⟩:∃ M,Hid (ns.length=M):=⟨_,rfl⟩;obtain⟨N,hN⟩:∃ N,Hid (ms.length=N):=⟨_,rfl⟩;obtain⟨U,hU⟩:∃ U:Nat,Hid (U=M+N):=⟨_,rfl⟩;rw[hM.out,hN.out];have hMN:M≤5∧N≤4:=by rw[←hM.out,←hN.out];exact⟨hn5,hn4⟩
             have hwr:IntKind.i64.wrap ((M:Int)+(N:Int))=(U:Int):=by have h1:=hU.out;rw[IntKind.wrap_i64];omega
             have hUL:=a1k (show L'=U+N by have h1:=l3.out;have h2:=hM.out;have h3:=hN.out;have h4:=hU.out;omega);have t4:=hX;have s7:=hV;have hg6:=a1k (show g<w5.heap.size by obtain⟨cur,k1,-⟩:=hX;exact k1.lt);clear hX hV d2 hYl;have hMi:(M:Int)≤(L':Int):=by have h1:=hU.out;have h2:=hUL.out;omega
             have hUi:(U:Int)≤(L':Int):=by have h1:=hU.out;have h2:=hUL.out;omega
             have hMU:(M:Int)≤(U:Int):=by have h1:=hU.out;omega
             obtain⟨a1,hif1,ha1k,ha1b⟩:∃ a:Addr,(if L'=M then some (⟨g,0,none⟩:Addr) else some ⟨g,M*3,none⟩)=some a∧Hid (U-M=0∨a=⟨g,M*3,none⟩)∧Hid (a.block=g):=by
              by_cases e:L'=M
              · exact⟨_,if_pos e,.inl (by omega),rfl⟩
              · exact⟨_,if_neg e,.inr rfl,rfl⟩
             obtain⟨a2,hif2,ha2k,ha2b⟩:∃ a:Addr,(if L'=U then some (⟨g,0,none⟩:Addr) else some ⟨g,U*3,none⟩)=some a∧Hid (L'-U=0∨a=⟨g,U*3,none⟩)∧Hid (a.block=g):=by
              by_cases e:L'=U
              · exact⟨_,if_pos e,.inl (by omega),rfl⟩
              · exact⟨_,if_neg e,.inr rfl,rfl⟩
             go_upto_region 35 with fail;have bT:=a3t w5.heap.size w5;have s:Below w5.heap.size w5 w5.drew:=(a3t _ _).drew;replace t4:=t4.below s;replace s7:=s7.below s;replace y5:=y5.below s;replace bT:=a1j bT s;clear s;go_wp2_with fail;refine a3u ?_;refine k9 (J:=[21]) (S:=fun w'=>w'.cell? aY=some (.bool y0.neg)∧w'.cell? ⟨aY.block,aY.off+1,none⟩=some (.slice y0.a y0.la.length y0.ca)∧w'.cell? ⟨aY.block,aY.off+2,none⟩=some (.slice y0.b y0.lb.length y0.cb)) (by kernel_rfl) (⟨(bT.cell b5.out).trans he0,(bT.cell (by exact b5.out)).trans lV,(bT.cell (by exact b5.out)).trans sB⟩) (fun f=>?_);refine iK 0 1 2 3 4 5 6 7 f ?_;refine mR 8 9 10 11 f ?_;refine iK 12 13 14 15 16 17 18 19 f ?_;refine I0 20 rfl fun K hK=>?_;obtain⟨wd,r5⟩:∃ wd,wd=w5.drew:=⟨_,rfl⟩;rw[←r5] at t4 s7 y5 bT ⊢;clear r5;have kA:=t4;have gC:=s7;have hO:=y5;have b35:=bT
             obtain⟨u1,hu1,F,lu1,Bu1⟩:=f8 wd #[.slice none 0 0,.slice none 0 0,.slice none 0 0,.slice none 0 0,.bool false,.slice none 0 0,.slice none 0 0] 34;replace bT:=a1j bT F;have hR:=Bu1;clear Bu1;go_simp;refine hK.out _ _ (⟨(bT.cell b5.out).trans he0,(bT.cell (by exact b5.out)).trans lV,(bT.cell (by exact b5.out)).trans sB⟩) (fun f=>?_);clear hK K;(try simp only[j9]);refine j6 (rs:=[21]) (by kernel_rfl) (by simp) ?_;refine a4j rfl (by decide) (fun K hK=>?_) a4i;have hl1:=a1k (show ((ds.drop 0).take M).length=M by rw[a2c,a2d,n1.out];omega);have hl2:=a1k (show ((ds.drop M).take (U-M)).length=U-M by rw[a2c,a2d,n1.out];omega);have hl3:=a1k (show ((ds.drop U).take (L'-U)).length=L'-U by rw[a2c,a2d,n1.out];omega);obtain⟨x9,hx9⟩:∃ x9,Hid (x9=(⟨⟨none,0,[]⟩,⟨some ⟨g,0,none⟩,L',(ds.drop 0).take M⟩,⟨some a1,L'-M,(ds.drop M).take (U-M)⟩,⟨some a2,L'-U,(ds.drop U).take (L'-U)⟩,y0⟩:PtD)):=⟨_,rfl⟩;obtain⟨w9,z0,z1,z2,z3,z4,z5,z6,f0,f1,f2,f3,f4,f5,f6,e9,h9,o9⟩:=C6 hR x9;rw[hx9.out] at e9 h9;dsimp only at e9
             try rw[List.length_nil] at e9
             try rw[hl1.out] at e9
             try rw[hl2.out] at e9
             try rw[hl3.out] at e9
             go_simp;refine hK.out _ _ ?_;clear hK K;(try clear f);(try simp only[j9]);refine k8 (by kernel_rfl) ?_ _;refine a3w ?_;(try go_simp);(try clear f);have vD:Below wd.heap.size wd w9:=o9.to_below F (a1u _) F.size;have hbW:=a1k (show Below w5.heap.size w5 wd from b35)
             have cM:∀ (a:Addr) (lo n k:Nat),(n=0∨a=⟨g,lo*3,none⟩)→lo+n≤L'→n≤k→k≤1000→FL wd (some a) k ((ds.drop lo).take n):=fun a lo n k h1 h2 h3 h4=>by
              rcases h1 with h1 | h1
              · subst h1;rw[List.take_zero];exact FL.none0 _ _ _ (by omega)
              · subst h1;exact kA.seg gC (by rw[n1.out];exact h2) h3 (by omega)
             have o:PaAt wd wd.heap.size (⟨⟨none,0,[]⟩,⟨some ⟨g,0,none⟩,L',(ds.drop 0).take M⟩,⟨some a1,L'-M,(ds.drop M).take (U-M)⟩,⟨some a2,L'-U,(ds.drop U).take (L'-U)⟩,y0⟩:PtD) w9:=⟨h9,OwnQ.nil _ _,fun d hd=>by simp at hd,cM _ 0 M L' (.inr (by rw[Nat.zero_mul])) (by omega) (by omega) (by omega),cM a1 M (U-M) (L'-M) ha1k.out (by omega) (by omega) (by omega),cM a2 U (L'-U) (L'-U) ha2k.out (by omega) (by omega) (by omega),hO,vD⟩;clear cM;obtain⟨x0,cA⟩:∃ x0,x0=(⟨⟨none,0,[]⟩,⟨some ⟨g,0,none⟩,L',(ds.drop 0).take M⟩,⟨some a1,L'-M,(ds.drop M).take (U-M)⟩,⟨some a2,L'-U,(ds.drop U).take (L'-U)⟩,y0⟩:PtD):=⟨_,rfl⟩
             have s8:=a1k (show x0.pay=⟨none,0,[]⟩∧x0.mults.qs=mu.take ns.length∧x0.low.qs=(mu.drop ns.length).take ms.length∧x0.high.qs=mu.drop (ns.length+ms.length)∧x0.lev.q=y0.q by
              have hq:=hfin.out;have hUl:=hU.out;have m9:=l3.out;rw[cA,hM.out,hN.out];refine⟨rfl,?_,?_,?_,rfl⟩
              · show ((ds.drop 0).take M).map FrD.q=_
                rw[a2f,a2g,hq];rfl
              · show ((ds.drop M).take (U-M)).map FrD.q=_
                rw[a2f,a2g,hq]
                congr 1
                all_goals omega
              · show ((ds.drop U).take (L'-U)).map FrD.q=_
                rw[a2f,a2g,hq,a1q (by rw[a2d,g7.out];omega)]
                congr 1
                all_goals omega)
             have q3:=a1k (show (∀ a,x0.mults.a=some a→a.block=g)∧(∀ a,x0.low.a=some a→a.block=g)∧∀ a,x0.high.a=some a→a.block=g by
              rw[cA];exact⟨fun a e=>by cases e;rfl,fun a e=>by cases e;exact ha1b.out,fun a e=>by cases e;exact ha2b.out⟩)
             rw[←cA] at o;obtain⟨wz,hwz⟩:∃ wz,wz=wd:=⟨_,rfl⟩;rw[←hwz] at o hbW vD ⊢;clear t4 s7 y5 kA gC hO hR h9 o9 F lu1 hx9 hif1 hif2;clear cA;obtain⟨gx,n9⟩:∃ gx,wz.heap.size=gx:=⟨_,rfl⟩;have hgx:=a1k (show wz.heap.size≤gx by omega);have o:PaAt wz gx x0 w9:=by rw[←n9];exact o
             rw[n9];clear n9;obtain⟨PQ,cU⟩:∃ q,Hid (sC (tg.map FrD.q) ns ms.length (mu.take ns.length) ((mu.drop ns.length).take ms.length) (mu.drop (ns.length+ms.length)) y0.q=q):=⟨_,rfl⟩;have lA:=a1k (show PQ.length=N by rw[←cU.out,sA,hN.out])
             have d9:=a1k (show QFits 10325 (mu.take ns.length)∧QFits 10325 ((mu.drop ns.length).take ms.length)∧QFits 10325 (mu.drop (ns.length+ms.length)) from
              ⟨fun q hq=>y8.out q (a2k hq),fun q hq=>y8.out q (a2l (a2k hq)),fun q hq=>y8.out q (a2l hq)⟩)
             have hPQF:=a1k (show QFits 100000 PQ by rw[←cU.out];exact zT j4.out d9.out.1 d9.out.2.1 d9.out.2.2 n8.out m5.out);go_wp2
             go_loopw [28] (fun i wr=>∃ k:Nat,k≤N∧i=.int .i64 (k:Int)∧∃ pay:RwD,PaAt wz gx { x0 with pay:=pay } wr∧Hid (pay.qs=PQ.take k)) (fun i _=>N-(intOf i).toNat)
             case atStart =>
              have k1:PaAt wz gx { x0 with pay:=x0.pay } w9:=o;have k2:Hid (x0.pay.qs=PQ.take 0):=a1k (show x0.pay.qs=PQ.take 0 by rw[s8.out.1];rfl);exact⟨0,Nat.zero_le _,rfl,x0.pay,k1,k2⟩
             case round =>
              clear o vD;obtain⟨i,hi,rfl,pay,hPb,hpq⟩:=hrel;obtain⟨x1,n4⟩:∃ x1:PtD,Hid (x1=({ x0 with pay:=pay }:PtD)):=⟨{ x0 with pay:=pay },a1k rfl⟩;have o:PaAt wz gx x1 wr:=by rw[n4.out];exact hPb
              clear hPb;have zH:=o.bel;have m8:=a1j hbW.out zH;have y2:=a1j hb m8;have j5:=a1j n3 y2;have d4:=a1j c8 j5
              have H:=a1k (show x1.pay.qs=PQ.take i∧x1.mults.qs=mu.take ns.length∧x1.low.qs=(mu.drop ns.length).take ms.length∧x1.high.qs=mu.drop (ns.length+ms.length)∧x1.lev.q=y0.q by
               rw[n4.out];exact⟨hpq.out,s8.out.2.1,s8.out.2.2.1,s8.out.2.2.2.1,s8.out.2.2.2.2⟩)
              have vM:=a1k (show PtF 300000 x1 from
               ⟨by rw[H.out.1];exact fun q hq=>(hPQF.out q (a2k hq)).mono (by decide),by rw[H.out.2.1];exact d9.out.1.mono (by decide),by rw[H.out.2.2.1];exact d9.out.2.1.mono (by decide),by rw[H.out.2.2.2.1];exact d9.out.2.2.mono (by decide),by rw[H.out.2.2.2.2];exact n8.out.mono (by decide)⟩)
              have hdsl:=a1k (show x1.pay.ds.length=i by
               rw[←a4l,H.out.1,a2c,lA.out];omega)
              have V:=ht0.below d4;have k4:=hn0.below d4
              by_cases hil0:i<N
              · have hii:(i:Int)<(N:Int):=by omega
                have hms:i<ms.length:=by rw[hN.out];exact hil0
                have hti:i<tg.length:=by rw[bZ.out];exact hms
                have htii:(i:Int)<(tg.length:Int):=by omega
                have hml:=a1k (show x1.mults.ds.length=ns.length by
                 rw[←a4l,H.out.2.1,a2c,g7.out];have h1:=l3.out;omega)
                have hil:=a1k (show i<x1.low.ds.length by
                 rw[←a4l,H.out.2.2.1,a2c,a2d,g7.out];have h1:=l3.out;omega)
                have hih:=a1k (show i<x1.high.ds.length by
                 rw[←a4l,H.out.2.2.2.1,a2d,g7.out];have h1:=l3.out;omega)
                have hi8:=a1k (show i≤8 by omega)
                have hhigh:=a1k (show x1.high.ds.length=ms.length by
                 rw[←a4l,H.out.2.2.2.1,a2d,g7.out];have h1:=l3.out;omega)
                obtain⟨aT,tk,eaT,r8,hJ,bF,z9,n2,htk⟩:=V.at (k:=i) hti;have O:=a1k (show (aT.add (i*3)).block<wr.heap.size by rw[f7];exact r8);rw[eaT];have htF:=a1k (show Fits 2 tk.q from j4.out _ (a2v.2 ⟨tk,a1n htk.out,rfl⟩))
                have hfF:=a1k (show Fits 90000 (x1.lev.q+x1.low.qs.getD i 0-x1.high.qs.getD i 0+o5 (F7 ns x1.mults.qs i)) by
                 rw[H.out.2.1,H.out.2.2.1,H.out.2.2.2.1,H.out.2.2.2.2];exact mC d9.out.1 d9.out.2.1 d9.out.2.2 n8.out m5.out i)
                have g1:=a1k (show ∀ y:FrD,y.q=tk.q+(x1.lev.q+x1.low.qs.getD i 0-x1.high.qs.getD i 0+o5 (F7 ns x1.mults.qs i))→(x1.pay.ds++[y]).map FrD.q=PQ.take (i+1) from fun y hy=>by
                 rw[H.out.2.1,H.out.2.2.1,H.out.2.2.2.1,H.out.2.2.2.2] at hy;refine X9 H.out.1 ?_;rw[←cU.out,xG hms,hy,show (tg.map FrD.q).getD i 0=tk.q from X2 htk.out])
                clear zH m8 y2 j5 d4 r8 hms hti;have ht0:=hJ;clear hJ;go_upto_region 39 with fail;have bT:=a3t wr.heap.size wr;have s:Below wr.heap.size wr wr.drew:=(a3t _ _).drew;replace o:=o.below s;replace k4:=k4.below s;replace n2:=n2.below s;replace bT:=a1j bT s;clear s;go_wp2_with fail;refine a3u ?_;refine k9 (J:=[12,13,14]) (S:=fun w'=>w'.cell? ⟨gx,0,none⟩=some (.slice x1.pay.a x1.pay.ds.length x1.pay.c)∧w'.cell? ⟨gx,1,none⟩=some (.slice x1.mults.a x1.mults.ds.length x1.mults.c)∧w'.cell? ⟨gx,2,none⟩=some (.slice x1.low.a x1.low.ds.length x1.low.c)∧w'.cell? ⟨gx,3,none⟩=some (.slice x1.high.a x1.high.ds.length x1.high.c)∧w'.cell? ⟨gx,4,none⟩=some (.bool x1.lev.neg)∧w'.cell? ⟨gx,5,none⟩=some (.slice x1.lev.a x1.lev.la.length x1.lev.ca)∧w'.cell? ⟨gx,6,none⟩=some (.slice x1.lev.b x1.lev.lb.length x1.lev.cb)∧w'.cell? (aT.add (i*3))=some (.bool tk.neg)∧w'.cell? ⟨(aT.add (i*3)).block,(aT.add (i*3)).off+1,none⟩=some (.slice tk.a tk.la.length tk.ca)∧w'.cell? ⟨(aT.add (i*3)).block,(aT.add (i*3)).off+2,none⟩=some (.slice tk.b tk.lb.length tk.cb)) (by kernel_rfl) (⟨a4e o.blk 0,a4e o.blk 1,a4e o.blk 2,a4e o.blk 3,a4e o.blk 4,a4e o.blk 5,a4e o.blk 6,(bT.cell O.out).trans ht0,(bT.cell (by exact O.out)).trans bF,(bT.cell (by exact O.out)).trans z9⟩) (fun f=>?_)
                refine iK 0 1 2 3 4 5 6 7 f ?_;refine dJ 8 rfl f ?_;refine I0 9 rfl fun K hK=>?_;go_simp;have E:=oK (K:=300000) k4 o.ptl x8.out (by have:=m5.out;omega) hi8.out hml.out hil.out hih.out vM.out (by decide) (by decide);rw[hM.out] at E;go_at_call 63;refine (E).mono ?_;rintro e u1 ⟨vf,rfl,hvf,F⟩;clear E;replace o:=o.below F;replace n2:=n2.below F;replace bT:=a1j bT F;go_wp2_with fail;refine hK.out _ _ (⟨a4e o.blk 0,a4e o.blk 1,a4e o.blk 2,a4e o.blk 3,a4e o.blk 4,a4e o.blk 5,a4e o.blk 6,(bT.cell O.out).trans ht0,(bT.cell (by exact O.out)).trans bF,(bT.cell (by exact O.out)).trans z9⟩) (fun f=>?_);clear hK K;(try simp only[j9]);refine I0 10 rfl fun K hK=>?_;go_simp;have E:=N5 n2 hvf htF.out hfF.out (by decide);go_at_call 62;refine (E).mono ?_;rintro e u2 ⟨va,rfl,hva,d6⟩;clear E;replace o:=o.below d6;replace bT:=a1j bT d6;obtain⟨y,rfl,hy,y4⟩:=hva.frd;clear hva hvf;go_wp2_with fail
                refine hK.out _ _ (⟨a4e o.blk 0,a4e o.blk 1,a4e o.blk 2,a4e o.blk 3,a4e o.blk 4,a4e o.blk 5,a4e o.blk 6,(bT.cell O.out).trans ht0,(bT.cell (by exact O.out)).trans bF,(bT.cell (by exact O.out)).trans z9⟩) (fun f=>?_);clear hK K;(try simp only[j9]);refine I0 11 rfl fun K hK=>?_;have hL:=o;have j2:=hy;obtain⟨u3,n5,g3,lu3,Bu3⟩:=f8 u2 #[.bool y.neg,.slice y.a y.la.length y.ca,.slice y.b y.lb.length y.cb] 28;replace o:=o.below g3;replace bT:=a1j bT g3;go_simp;refine hK.out _ _ (⟨a4e o.blk 0,a4e o.blk 1,a4e o.blk 2,a4e o.blk 3,a4e o.blk 4,a4e o.blk 5,a4e o.blk 6,(bT.cell O.out).trans ht0,(bT.cell (by exact O.out)).trans bF,(bT.cell (by exact O.out)).trans z9⟩) (fun f=>?_);clear hK K;(try simp only[j9]);refine j6 (rs:=[12]) (by kernel_rfl) (by simp) ?_;refine a4j rfl (by decide) (fun K hK=>?_) a4i;obtain⟨A9,c9,w8,w9,hr8,k1,kf,e9,hW⟩:=hL.app hgx.out (d:=y) j2 (by have:=hdsl.out;omega);rw[n5] at hr8;refine q7 rfl _ _ rfl rfl rfl rfl hr8 ?_;refine hK.out _ _ ?_;clear hK K;(try clear f);(try simp only[j9]);refine j6 (rs:=[13]) (by kernel_rfl) (by simp) ?_
                refine a4j rfl (by decide) (fun K hK=>?_) a4i;go_simp;refine hK.out _ _ ?_;clear hK K;(try clear f);(try simp only[j9]);refine j6 (rs:=[14]) (by kernel_rfl) (by simp) ?_;refine a4j rfl (by decide) (fun K hK=>?_) a4i;go_simp;refine hK.out _ _ ?_;clear hK K;(try clear f);(try simp only[j9]);refine k8 (by kernel_rfl) ?_ _;refine a3w ?_;(try go_simp);(try clear f);have hrs:=a1k (g1.out y y4.out);clear o hL V k4 n2 hy j2 bT k1 kf hr8;go_wp2;go_roundw
                case rel=>exact⟨i+1,by omega,by go_num,⟨A9,c9,x1.pay.ds++[y]⟩,by rw[n4.out] at hW ⊢;exact hW,hrs.out⟩
                case measure=>simp[intOf];omega
              · obtain rfl:i=N:=by omega
                have hlt3:decide ((i:Int)<(i:Int))=false:=a1v (by omega);have hsx:FV wr sv.v sq:=by rw[←x2.out];exact r4.below d4
                have d5:=gA.below j5;have n0:=a4f B1v j5;have hmx:=hm0.below d4;have hbw:=a1k d4;have vB:=a1k (show x1.pay.qs=PQ by rw[H.out.1,a1q (by rw[lA.out];exact a1u _)])
                have hbB:=a1k (show O4 (tg.map FrD.q) ns ms sq x1.pay.qs x1.mults.qs x1.low.qs x1.high.qs x1.lev.q=B0 by
                 rw[vB.out,H.out.2.1,H.out.2.2.1,H.out.2.2.2.1,H.out.2.2.2.2,←cU.out,hy0q.out,←hB0.out];unfold Y5;rw[y9.out]
                 show _=(true&&okC ns ms (tg.map FrD.q) sq (muC ns ms ch yq) (yq.getD 0 0))
                 rw[Bool.true_and,bS.out];rfl)
                have hsz1:=a1k (show w1.heap.size≤g from a1t n3.size hgY.out);have hsz5:=a1k (show w5.heap.size≤wr.heap.size from m8.size)
                have hin:=a1k (show PtIn x1 w1.heap.size wr.heap.size from fun a ha=>by
                 have h1:=hsz1.out;have h2:=hsz5.out;have h3:=hg6.out
                 rcases ha with e | e | e | e
                 · have h9:=o.pin a e;have h8:=hbW.out.size;have h7:=hb.size;have h6:=n3.size;omega
                 · rw[n4.out] at e;have h9:=q3.out.1 a e;omega
                 · rw[n4.out] at e;have h9:=q3.out.2.1 a e;omega
                 · rw[n4.out] at e;have h9:=q3.out.2.2 a e;omega)
                clear zH m8 y2 j5 d4 r4;go_upto_region 40 with fail;have bT:=a3t wr.heap.size wr;have s:Below wr.heap.size wr wr.drew:=(a3t _ _).drew;replace o:=o.below s;replace V:=V.below s;replace k4:=k4.below s;replace hmx:=hmx.below s;replace hsx:=hsx.below s;replace d5:=d5.below s;replace n0:=n0.keep s;replace bT:=a1j bT s;clear s;go_wp2_with fail;refine a3u ?_;refine k9 (J:=[7,8]) (S:=fun w'=>w'.cell? ⟨gx,0,none⟩=some (.slice x1.pay.a x1.pay.ds.length x1.pay.c)∧w'.cell? ⟨gx,1,none⟩=some (.slice x1.mults.a x1.mults.ds.length x1.mults.c)∧w'.cell? ⟨gx,2,none⟩=some (.slice x1.low.a x1.low.ds.length x1.low.c)∧w'.cell? ⟨gx,3,none⟩=some (.slice x1.high.a x1.high.ds.length x1.high.c)∧w'.cell? ⟨gx,4,none⟩=some (.bool x1.lev.neg)∧w'.cell? ⟨gx,5,none⟩=some (.slice x1.lev.a x1.lev.la.length x1.lev.ca)∧w'.cell? ⟨gx,6,none⟩=some (.slice x1.lev.b x1.lev.lb.length x1.lev.cb)∧w'.cell? ⟨w.heap.size,0,none⟩=some (.bool sv.neg)∧w'.cell? ⟨w.heap.size,1,none⟩=some (.slice sv.a sv.la.length sv.ca)∧w'.cell? ⟨w.heap.size,2,none⟩=some (.slice sv.b sv.lb.length sv.cb)) (by kernel_rfl) (⟨a4e o.blk 0,a4e o.blk 1,a4e o.blk 2,a4e o.blk 3,a4e o.blk 4,a4e o.blk 5,a4e o.blk 6,d5.cells.1,d5.cells.2.1,d5.cells.2.2⟩) (fun f=>?_)
                refine mR 0 1 2 3 f ?_;refine dU 4 5 f ?_;refine I0 6 rfl fun K hK=>?_;go_simp;have E:=dP (K:=300000) hE'.out V k4 hmx hsx o.ptl (j4.out.mono (by decide)) (bB.out.mono (by decide)) vM.out.pay (fun _=>vM.out) (by decide) (by decide) (by have:=m5.out;omega);rw[hbB.out] at E;rw[hM.out] at E;rw[hN.out] at E;go_at_call 39;refine (E).mono ?_;rintro e u1 ⟨rfl,F⟩;clear E;replace o:=o.below F;replace d5:=d5.below F;replace n0:=n0.keep F;replace bT:=a1j bT F;go_wp2_with fail;refine hK.out _ _ (⟨a4e o.blk 0,a4e o.blk 1,a4e o.blk 2,a4e o.blk 3,a4e o.blk 4,a4e o.blk 5,a4e o.blk 6,d5.cells.1,d5.cells.2.1,d5.cells.2.2⟩) (fun f=>?_);clear hK K;(try simp only[j9]);refine j6 (rs:=[7]) (by kernel_rfl) (by simp) ?_;refine a4j rfl (by decide) (fun K hK=>?_) a4i;obtain⟨w9,z0,z1,z2,z3,z4,z5,z6,f0,f1,f2,f3,f4,f5,f6,e9,h9,o9⟩:=C6 n0 x1;go_simp;refine hK.out _ _ ?_;clear hK K;(try clear f);(try simp only[j9]);refine j6 (rs:=[8]) (by kernel_rfl) (by simp) ?_;refine a4j rfl (by decide) (fun K hK=>?_) a4i
                go_simp;refine hK.out _ _ ?_;clear hK K;(try clear f);(try simp only[j9]);refine k8 (by kernel_rfl) ?_ _;refine a3w ?_;(try go_simp);(try clear f);have c0:w9.cell? ⟨w0.heap.size,0,none⟩=some (.slice x1.pay.a x1.pay.ds.length x1.pay.c):=a4e h9 0;have c1:w9.cell? ⟨w0.heap.size,1,none⟩=some (.slice x1.mults.a x1.mults.ds.length x1.mults.c):=a4e h9 1;have c2:w9.cell? ⟨w0.heap.size,2,none⟩=some (.slice x1.low.a x1.low.ds.length x1.low.c):=a4e h9 2;have c3:w9.cell? ⟨w0.heap.size,3,none⟩=some (.slice x1.high.a x1.high.ds.length x1.high.c):=a4e h9 3;have c4:w9.cell? ⟨w0.heap.size,4,none⟩=some (.bool x1.lev.neg):=a4e h9 4;have c5:w9.cell? ⟨w0.heap.size,5,none⟩=some (.slice x1.lev.a x1.lev.la.length x1.lev.ca):=a4e h9 5;have c6:w9.cell? ⟨w0.heap.size,6,none⟩=some (.slice x1.lev.b x1.lev.lb.length x1.lev.cb):=a4e h9 6;have hptl:=o.ptl.farP (fun a ha=>by have h1:=(hin.out a ha).1;have h2:=hwg.out;omega) n0 I5 o9;have hbF:=o9.to_below ((a1j hbw.out bT)) b0.size (a1t hbw.out.size bT.size);go_wp2;refine a3z (v:=.tuple #[x1.v,.bool B0]) (by simp[results,Tryz.results36,go_sem,c0,c1,c2,c3,c4,c5,c6]) rfl ?_;exact⟨x1,rfl,fun h=>⟨hptl,hin.out.mono c8.size (a1t bT.size o9.size),by rw[hbB.out];exact h⟩,hbF⟩
end Go.Proofs.YtjhkapjadfpimaaGreat
