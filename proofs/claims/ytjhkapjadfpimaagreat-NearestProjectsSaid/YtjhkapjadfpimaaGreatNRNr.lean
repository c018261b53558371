/- Contracts of functions, for the law. -/
import Derived.Test.YtjhkapjadfpimaaGreatMRSol
namespace Go.Proofs.YtjhkapjadfpimaaGreat
set_option linter.unusedVariables false
set_option linter.unusedSimpArgs false
open Go.RowKit Plain
attribute [local go_sem ↓] Go.wp_at_zero Go.wp_at_succ
set_option maxRecDepth 100000
set_option maxHeartbeats 40000000
theorem pD {A B C D:Option Addr}{ca cb cc cd:Nat}{tg:List FrD}{ns:List NdD}{ms:List Int}{ch:List Nat}{v:Value}{sq:Rat}{w:World}(hE:argsE tg.length ns ms=0) (ht0:FL w A ca tg) (hn0:NL w B cb ns) (hm0:ZL w C cc ms) (hv0:FV w v sq) (hc0:ILs w D cd ch) (hft0:QFits 2 (tg.map FrD.q)) (hfs0:Fits 2 sq) (hn4:ms.length≤4) (hn5:ns.length≤5) (hch0:∀ a∈ch,a<(br ns ms).length) (hc4:ch.length≤3) :
 Calls Tryz.prog 36 #[.slice A tg.length ca,.slice B ns.length cb,.slice C ms.length cc,v,.slice D ch.length cd] w (RetNr (tg.map FrD.q) ns ms sq (iU ns ms (tg.map FrD.q) sq ch) w):=by
 obtain⟨sv,rfl,l5,hh⟩:=hv0.frd;obtain⟨B0,ng⟩:∃ b,Hid (iU ns ms (tg.map FrD.q) sq ch=b):=⟨_,rfl⟩;rw[ng.out];have zt:=Dj hE;have cl:=Dj hft0;have lr:=Dj hfs0;have db:=Dj hch0;have f9:=Dj hn5;have X:=Dj (dP hE);have hI:=Dj (show ConI ms.length (ay ns ms) from kn ⟨X.out.1,X.out.2.1,X.out.2.2.2.1,X.out.2.2.2.2⟩);have k3:=Dj (show tg.length=ms.length from X.out.2.2.1);have g9:=Dj (show ∀ d∈ns,0≤d.p∧d.p<256 from fun d hd=>⟨(X.out.2.2.2.2 d hd).1,by have h1:=(X.out.2.2.2.2 d hd).2.1;have h2:=oJ X.out.1;omega⟩);have sr:=Dj (show ∀ m∈ms,0≤m∧m≤1000000 from X.out.2.2.2.1);obtain⟨P,hP⟩:∃ P,Hid (ch.length+1=P):=⟨_,rfl⟩;have tl:P≤4:=by rw[←hP.out];omega
 obtain⟨Rr,bv⟩:∃ R,Hid (cW ns ms ch=R):=⟨_,rfl⟩;have gc:=Dj (show Rr.length=P by rw[←bv.out,jJ,hP.out]);have hR0:=Dj (show Rr[0]?=some (List.replicate ms.length 1,0) by rw[←bv.out];rfl)
 have y7:=Dj (show ∀ k x,ch[k]?=some x→Rr[k+1]?=some (ye ns ms x) from fun k x hx=>by
  rw[←bv.out]
  show (ch.map (ye ns ms))[k]?=_
  rw[Dq,hx];rfl)
 have y9:=Dj (show ∀ p∈Rr,p.1.length=ms.length∧∀ z∈p.1,z.natAbs≤1 from fun p hp=>by
  rw[←bv.out] at hp;exact⟨nL X.out.1 hch0 p hp,yP X.out.1 hch0 p hp⟩)
 obtain⟨w0,hw0,b0,l0,B0v⟩:=ag w #[.bool sv.neg,.slice sv.a sv.la.length sv.ca,.slice sv.b sv.lb.length sv.cb] 28;obtain⟨w1,hw1,b1,l1,tf⟩:=ag w0 #[.slice none 0 0,.slice none 0 0,.slice none 0 0,.slice none 0 0,.bool false,.slice none 0 0,.slice none 0 0] 34;have bd:=Di b0 b1;have mp:VarQ w1 w.heap.size sv:=Ea B0v b1;have hwg:=Dj (show w0.heap.size<w1.heap.size from l1);have lt0:=ht0.len;have ln0:=hn0.len;have lm0:=hm0.len;have lc0:ch.length≤cd∧cd≤9223372036854775807:=⟨hc0.1,hc0.2.1⟩;have mc:=oW (hn0.below bd) (hm0.below bd) X.out.1 (by omega) g9.out sr.out;clear hft0 hfs0 hch0 hE hv0;go_enter Tryz.func36,Tryz.ntmps36;go_wp2_with fail;refine mc.mono ?_;rintro e w2 ⟨A2,c2,als,rfl,lf,hv,b2⟩;clear mc;obtain⟨L,g1⟩:∃ L,Hid (als.length=L):=⟨_,rfl⟩;rw[g1.out];have dr:=Dj (show L=ns.length+(ms.length+ms.length) by rw[←g1.out,←cL ns ms,←hv.out,Dr]);have m0:=Dj (show (br ns ms).length=L by rw[←hv.out,Dr,g1.out]);have qq:=lf.1.1;have hall2:=lf.1.2.1;rw[g1.out] at qq;have n8:=sE (n:=ms.length) (w:=w2) (by omega);go_wp2_with fail;refine n8.mono ?_;rintro e w3 ⟨A3,c3,rfl,nf,b3⟩;clear n8;have l6:=lf.below b3;clear lf;have lon:=nf.len;rw[Do] at lon;obtain⟨w4,x7,b4,l4,B4⟩:=ag w3 #[.slice A3 ms.length c3,.int .i64 0] 103
 have sf:LrAt Rr w3 1 (.slice (some ⟨w3.heap.size,0,none⟩) 1 1) w4:=LrAt.one (l:=⟨A3,c3,List.replicate ms.length 1,0⟩) (by
  show Blk w4 w3.heap.size _ #[.slice A3 (List.replicate ms.length (1:Int)).length c3,.int .i64 0]
  rw[Do];exact B4) nf hR0.out b4
 have vn:Below w1.heap.size w1 w3:=Di b2 b3;go_wp2
 go_loopw [13,14] (fun v i wr=>∃ k:Nat,k≤ch.length∧i=.int .i64 (k:Int)∧LrAt Rr w3 (k+1) v wr) (fun _ i _=>ch.length-(intOf i).toNat)
 case atStart=>exact⟨0,by omega,rfl,sf⟩
 case round =>
  clear sf B4;obtain⟨k,hk,rfl,bc⟩:=hrel;have bq:=bc.bel
  by_cases hkl:k<ch.length
  · have hki:(k:Int)<(ch.length:Int):=by omega
    have hb1:=Di vn bq;obtain⟨x,hx⟩:∃ x,Hid (ch[k]?=some x):=⟨_,Dl hkl⟩;obtain⟨aI,o8,nd,pb⟩:=(hc0.below ((Di bd hb1))).2.2 k x hx.out;have hxL:x<L:=by rw[←m0.out];exact db.out x (Dm hx.out)
    have hxi:(x:Int)<(L:Int):=by omega
    obtain⟨aA,l,eA,hbA,q0,q1,hzl,rd⟩:=(l6.below bq).at (k:=x) (by rw[g1.out];exact hxL)
    have y8:=Dj (show Rr[k+1]?=some l.p by
     rw[y7.out k x hx.out];unfold ye;rw[←hv.out,Dk,Dq,rd.out];rfl)
    obtain⟨v6,w6,d4,d8⟩:=bc.app (l:=l) (by omega) y8.out (l6.2 l (Dm rd.out));rw[o8,eA];clear hzl bc
    go_wp2_with (at_builtin;refine bQ (T:=99) rfl rfl (.tmp 43) (.tmp 51) rfl rfl rfl d4 ?_)
    go_wp2;go_roundw
    case rel=>exact⟨k+1,by omega,by go_num,d8⟩
    case measure=>simp[intOf];omega
  · obtain rfl:k=ch.length:=by omega
    have vm:decide ((ch.length:Int)<(ch.length:Int))=false:=Du (by omega);obtain⟨A5,c5,ls,rfl,kg,mb⟩:=bc.done (by rw[gc.out,hP.out]);obtain⟨w5,oo⟩:∃ w5,w5=wr:=⟨_,rfl⟩;subst oo;have fr:=Dj (show ls.length=P by rw[←gc.out,←mb.out,Dr]);rw[fr.out];have o6:=kg.1.1;have y3:=kg.1.2.1;rw[fr.out] at o6;have d5:=Dj (show Below w1.heap.size w1 w5 from (Di vn bq));obtain⟨G,hG⟩:∃ G,Hid (iC Rr=G):=⟨_,rfl⟩;obtain⟨rt,lv⟩:∃ rt,Hid (nI sq (tg.map FrD.q) Rr=rt):=⟨_,rfl⟩;have x8:=Dj (show G.length=P by rw[←hG.out,qt,gc.out]);have n0:=Dj (show rt.length=P by rw[←lv.out,jK,gc.out]);have c7:GrAt G rt w5 0 0 (.slice none 0 0) (.slice none 0 0) w5:=GrAt.start (DY _ _)
    obtain⟨aL,s8⟩:∃ aL,Hid (A5=some aL):=by
     obtain⟨a,l,e,-⟩:=kg.at (k:=0) (by rw[fr.out,←hP.out];omega);exact⟨a,e⟩
    rw[s8.out]
    have ml:=Dj (show ∀ k,k<P→∃ l,Hid (ls[k]?=some l)∧Hid (Rr[k]?=some l.p)∧(aL.add (k*2)).block<w5.heap.size∧w5.cell? (aL.add (k*2))=some (.slice l.a l.zs.length l.c)∧w5.cell? ⟨(aL.add (k*2)).block,(aL.add (k*2)).off+1,none⟩=some (.int .i64 l.b)∧ZL w5 l.a l.c l.zs∧Hid (l.zs.length=ms.length∧(∀ z∈l.zs,z.natAbs≤1)) from fun k hk=>by
     obtain⟨a,l,e,h1,h2,h3,h4,h5⟩:=kg.at (k:=k) (by rw[fr.out];exact hk);rw[s8.out] at e
     cases e
     have h6:Rr[k]?=some l.p:=by rw[←mb.out,Dq,h5.out];rfl
     exact⟨l,h5,h6,by rw[ac];exact h1,h2,h3,h4,(y9.out l.p (Dm h6))⟩)
    clear bc kg l6 nf;go_wp2
    go_loopw [15,16,17] (fun vg vr i wr=>∃ j:Nat,j≤P∧i=.int .i64 (j:Int)∧GrAt G rt w5 j j vg vr wr) (fun _ _ i _=>P-(intOf i).toNat)
    case atStart=>exact⟨0,by omega,rfl,c7⟩
    case round =>
     clear c7;obtain⟨j,hj,rfl,c7⟩:=hrel;have dt:=c7.bel
     by_cases hjl:j<P
     · have y1:(j:Int)<(P:Int):=by omega
       obtain⟨l1,hl1k,gr,bf,k5,r5,d0,gs⟩:=ml.out j hjl;obtain⟨fb,dh⟩:∃ T,Hid ((Rr.map fun b=>((prodI l1.zs b.1:Int):Rat))=T):=⟨_,rfl⟩;have qb:=Dj (show fb.length=P by rw[←dh.out,Dr,gc.out]);have fm:=Dj gs.out.2;obtain⟨wo,no⟩:∃ wo,wo=wr:=⟨_,rfl⟩;subst no;have bb:LsAt fb wo 0 (.slice none 0 0) wo:=LsAt.nil _ _;have I:=Dj (show (aL.add (j*2)).block<wo.heap.size from Dn bf dt.size);have Z:wo.cell? (aL.add (j*2))=some (.slice l1.a l1.zs.length l1.c):=(dt.cell bf).trans k5;go_wp2
       go_loopw [18,19] (fun v i wr=>∃ l:Nat,l≤P∧i=.int .i64 (l:Int)∧LsAt fb wo l v wr) (fun _ i _=>P-(intOf i).toNat)
       case atStart=>exact⟨0,by omega,rfl,bb⟩
       case round =>
        clear bb;obtain⟨l,hl,rfl,bb⟩:=hrel;have nv:=bb.bel
        by_cases hll:l<P
        · have hli:(l:Int)<(P:Int):=by omega
          obtain⟨l2,hl2k,v0,dp,mg,-,n9,hf⟩:=ml.out l hll;have gb:=Dj (show (aL.add (l*2)).block<wo.heap.size from Dn dp dt.size);have E:wo.cell? (aL.add (l*2))=some (.slice l2.a l2.zs.length l2.c):=(dt.cell dp).trans mg;have Y:=d0.below ((Di dt nv));have m1:=n9.below ((Di dt nv));have r8:=Dj hf.out.2;have r6:=Dj (show l1.zs.length=l2.zs.length by rw[gs.out.1,hf.out.1]);have q4:=Dj (show l2.zs.length≤12 by rw[hf.out.1];omega)
          have hrq:=Dj (show ∀ d:FrD,d.q=((prodI l1.zs l2.zs:Int):Rat)→fb[l]?=some d.q from fun d hd=>by
           rw[←dh.out,Dq,v0.out,hd];rfl)
          clear mg k5 n9 dp;go_upto_region 16 with fail;have bT:=bb.bel;have s:Below wr.heap.size wr wr.drew:=(DY _ _).drew;replace bb:=bb.below s;replace Y:=Y.below s;replace m1:=m1.below s;replace bT:=Di bT s;clear s;go_wp2_with fail;refine DZ ?_;refine aw (J:=[13,14]) (S:=fun w'=>w'.cell? (aL.add (j*2))=some (.slice l1.a l1.zs.length l1.c)∧w'.cell? (aL.add (l*2))=some (.slice l2.a l2.zs.length l2.c)) (by kernel_rfl) (⟨(bT.cell I.out).trans Z,(bT.cell gb.out).trans E⟩) (fun f=>?_);refine mN 0 1 2 3 4 5 6 7 f ?_;refine kB 8 9 f ?_;refine kr 10 rfl f ?_;refine dg 11 rfl fun K hK=>?_;go_simp;have E:=sz Y m1 fm.out r8.out r6.out q4.out;go_at_call 58;refine (E).mono ?_;rintro e u1 ⟨v1,rfl,gm,F⟩;clear E;replace bb:=bb.below F;replace bT:=Di bT F;obtain⟨d1,rfl,qf,vl⟩:=gm.frd;clear gm;go_wp2_with fail;refine hK.out _ _ (⟨(bT.cell I.out).trans Z,(bT.cell gb.out).trans E⟩) (fun f=>?_);clear hK K;(try simp only[aq]);refine dg 12 rfl fun K hK=>?_;have n6:=bb
          have t5:=qf;obtain⟨u2,hu2,bo,lu2,Bu2⟩:=ag u1 #[.bool d1.neg,.slice d1.a d1.la.length d1.ca,.slice d1.b d1.lb.length d1.cb] 28;replace bT:=Di bT bo;go_simp;refine hK.out _ _ (⟨(bT.cell I.out).trans Z,(bT.cell gb.out).trans E⟩) (fun f=>?_);clear hK K;(try simp only[aq]);refine aj (rs:=[13]) (by kernel_rfl) (by simp) ?_;refine Ee rfl (by decide) (fun K hK=>?_) Ed;obtain⟨v6,w6,d4,d8⟩:=n6.run (d:=d1) (by omega) (hrq.out d1 vl.out) t5;rw[hu2] at d4;refine aG rfl _ _ rfl rfl rfl rfl d4 ?_;refine hK.out _ _ ?_;clear hK K;(try clear f);(try simp only[aq]);refine aj (rs:=[14]) (by kernel_rfl) (by simp) ?_;refine Ee rfl (by decide) (fun K hK=>?_) Ed;go_simp;refine hK.out _ _ ?_;clear hK K;(try clear f);(try simp only[aq]);refine au (by kernel_rfl) ?_ _;refine D1 ?_;(try go_simp);(try clear f);clear bb n6 t5 qf Y m1 d4 bT;go_wp2;go_roundw
          case rel=>exact⟨l+1,by omega,by go_num,d8⟩
          case measure=>simp[intOf];omega
        · obtain rfl:l=P:=by omega
          have m8:decide ((l:Int)<(l:Int))=false:=Du (by omega);have m6:=c7.own;obtain⟨RA,rc,ny,rfl,n7,hqR,ok⟩:=bb.done2 qb.out.symm
          have hGq:=Dj (show G[j]?=some (RwD.qs ⟨RA,rc,ny⟩) by
           show _=some (ny.map FrD.q)
           rw[hqR.out,←dh.out,←hG.out];exact zO gr.out)
          obtain⟨v6,w6,d4,cv⟩:=(c7.below nv).appM2 (r:=⟨RA,rc,ny⟩) (by omega) hGq.out n7 (fun a e=>⟨fun h9=>by have h10:=m6 _ h9;have h11:=(ok a e).1;omega,(ok a e).2⟩);have cy:=cv.bel;have hcb:w6.cell? ⟨(aL.add (j*2)).block,(aL.add (j*2)).off+1,none⟩=some (.int .i64 l1.b):=(cy.cell (by exact bf)).trans r5;have od:=Dj (show -1099511627776≤l1.b∧l1.b≤1099511627776 from tT X.out bv.out db.out gr.out);have mx:=aO l1.b w6 (by have:=od.out;omega) (by have:=od.out;omega);clear c7 bb n7 m6 ok
          go_wp2_with (at_builtin;refine bQ (T:=56) rfl rfl (.tmp 79) (.tmp 81) rfl rfl rfl d4 ?_)
          clear d4;go_wp2_with fail;refine mx.mono ?_;rintro e w7 ⟨v7,rfl,r4,b7⟩;clear mx;obtain⟨d7,rfl,p3,m4⟩:=r4.frd;clear r4;obtain⟨wA,w8,eA8,p0,p1,p2,r0,r1,r2,eB8,cm,b8,l8⟩:=bM w7 d7;have j1:=Di b7 b8;have gz:=Di cy j1;have hft1:=Dj (show (tg.map FrD.q).length=ms.length by rw[Dr,k3.out]);have kk:=Dj (show l1.zs.length=tg.length by rw[gs.out.1,k3.out]);have dm:=Dj (show tg.length≤12 by rw[k3.out];omega)
          have xs:=Dj (show Fits 61 (aB (dy l1.zs (tg.map FrD.q))) by
           have h1:=cT (n:=12) (K:=4) (ps:=dy l1.zs (tg.map FrD.q)) (mT fm.out cl.out) (by rw[lS (by rw[Dr,kk.out]),Dr];exact dm.out) (dy l1.zs (tg.map FrD.q)).length;rw[List.take_length] at h1;exact h1.mono (by decide))
          have md:=Dj (show rt[j]?=some ((if j=0 then sq else ((l1.b:Int):Rat))-aB (dy l1.zs (tg.map FrD.q))) by rw[←lv.out];exact uW gr.out);have fs:w6.cell? (aL.add (j*2))=some (.slice l1.a l1.zs.length l1.c):=(cy.cell bf).trans k5;have bz:=Dj (show (aL.add (j*2)).block<w6.heap.size from Dn bf cy.size);have hgv:w6.heap.size≤w7.heap.size:=b7.size
          by_cases hj0:j=0
          · have x2:((j:Int) == 0)=true:=by rw[beq_iff_eq];omega
            have gk:=Dj hj0;clear hj0;have j3:=Di d5.out gz;obtain⟨s0,s1,s2⟩:=(mp.below j3).cells;obtain⟨w9,q0,q1,q2,f0,f1,f2,e9,g5,o9⟩:=cm.store sv;have k6:Below w6.heap.size w6 w9:=o9.to_below j1 hgv j1.size;have fq:FV w9 sv.v sv.q:=((l5.below bd).below j3).onlyV cm o9;have mm:=Di cy k6;have Y:=d0.below mm;have V:=ht0.below (bd.trans (((Di d5.out mm)).mono bd.size));clear cm d0 p3;go_upto_region 21 with fail;clear s0 s1 s2 q0 q1 q2 f0 f1 f2 p0 p1 p2 r0 r1 r2;have g3:=Dj (show sv.q=(if j=0 then sq else ((l1.b:Int):Rat)) by rw[if_pos gk.out];exact hh.out);have g6:=Dj (show Fits 2 sv.q by rw[hh.out];exact lr.out);have cx:=Dj (show ∀ y:FrD,y.q=sv.q-aB (dy l1.zs (tg.map FrD.q))→rt[j]?=some y.q from fun y hy=>by rw[md.out,hy,g3.out]);obtain⟨rv,d2⟩:∃ rv,sv=rv:=⟨_,rfl⟩;obtain⟨gv,cs⟩:∃ g,w7.heap.size=g:=⟨_,rfl⟩;obtain⟨wq,ht⟩:∃ wq,w9=wq:=⟨_,rfl⟩;rw[d2] at g5 fq g6 cx;rw[cs] at g5 ⊢;rw[ht] at g5 fq k6 Y V ⊢;clear d2 cs ht;have t:=g5;have b5:=fq;have bT:=k6;clear g5 fq;clear Z;have Z:=fs;replace I:=bz;clear fs bz;have s:Below wq.heap.size wq wq.drew:=(DY _ _).drew;replace t:=t.below s
            replace b5:=b5.below s;replace Y:=Y.below s;replace V:=V.below s;replace bT:=Di bT s;clear s;go_wp2_with fail;refine DZ ?_;refine aw (J:=[11,12]) (S:=fun w'=>w'.cell? ⟨gv,0,none⟩=some (.bool rv.neg)∧w'.cell? ⟨gv,1,none⟩=some (.slice rv.a rv.la.length rv.ca)∧w'.cell? ⟨gv,2,none⟩=some (.slice rv.b rv.lb.length rv.cb)∧w'.cell? (aL.add (j*2))=some (.slice l1.a l1.zs.length l1.c)) (by kernel_rfl) (⟨t.cells.1,t.cells.2.1,t.cells.2.2,(bT.cell I.out).trans Z⟩) (fun f=>?_);refine mN 0 1 2 3 4 5 6 7 f ?_;refine dg 8 rfl fun K hK=>?_;go_simp;have E:=lR (K:=2) Y V cl.out fm.out (by decide) kk.out dm.out;go_at_call 60;refine (E).mono ?_;rintro e u1 ⟨vd,rfl,g7,F⟩;clear E;replace t:=t.below F;replace b5:=b5.below F;replace bT:=Di bT F;go_wp2_with fail;refine hK.out _ _ (⟨t.cells.1,t.cells.2.1,t.cells.2.2,(bT.cell I.out).trans Z⟩) (fun f=>?_);clear hK K;(try simp only[aq]);refine dg 9 rfl fun K hK=>?_;go_simp;have E:=dF b5 g7 g6.out xs.out (by decide);go_at_call 59;refine (E).mono ?_
            rintro e u2 ⟨vs,rfl,l3,bo⟩;clear E;replace t:=t.below bo;replace bT:=Di bT bo;obtain⟨y,rfl,hy,gq⟩:=l3.frd;clear l3 g7;go_wp2_with fail;refine hK.out _ _ (⟨t.cells.1,t.cells.2.1,t.cells.2.2,(bT.cell I.out).trans Z⟩) (fun f=>?_);clear hK K;(try simp only[aq]);refine dg 10 rfl fun K hK=>?_;have bP:=bT;have d3:=hy;obtain⟨u3,g2,cz,st,xf⟩:=ag u2 #[.bool y.neg,.slice y.a y.la.length y.ca,.slice y.b y.lb.length y.cb] 28;replace t:=t.below cz;replace bT:=Di bT cz;go_simp;refine hK.out _ _ (⟨t.cells.1,t.cells.2.1,t.cells.2.2,(bT.cell I.out).trans Z⟩) (fun f=>?_);clear hK K;(try simp only[aq]);refine aj (rs:=[11]) (by kernel_rfl) (by simp) ?_;refine Ee rfl (by decide) (fun K hK=>?_) Ed;obtain⟨v9,w9,dk,k0⟩:=(cv.below bP).appQ (d:=y) (by omega) (cx.out y gq.out) d3;rw[g2] at dk;refine aG rfl _ _ rfl rfl rfl rfl dk ?_;refine hK.out _ _ ?_;clear hK K;(try clear f);(try simp only[aq]);refine aj (rs:=[12]) (by kernel_rfl) (by simp) ?_;refine Ee rfl (by decide) (fun K hK=>?_) Ed
            go_simp;refine hK.out _ _ ?_;clear hK K;(try clear f);(try simp only[aq]);refine au (by kernel_rfl) ?_ _;refine D1 ?_;(try go_simp);(try clear f);clear t b5 Y V hy d3 bP bT cv dk;go_wp2;go_roundw
            case rel=>exact⟨j+1,by omega,by go_num,k0⟩
            case measure=>simp[intOf];omega
          · have x2:((j:Int) == 0)=false:=by rw[beq_eq_false_iff_ne];omega
            have gk:=Dj hj0;clear hj0;have lz:=p3.below b8;have Y:=d0.below gz;have V:=ht0.below (bd.trans (((Di d5.out gz)).mono bd.size));clear d0 p3;go_upto_region 21 with fail;clear p0 p1 p2 r0 r1 r2;have g3:=Dj (show d7.q=(if j=0 then sq else ((l1.b:Int):Rat)) by rw[if_neg gk.out];exact m4.out);have g6:=Dj (show Fits 2 d7.q by rw[m4.out];exact fd (by have:=od.out;omega));have cx:=Dj (show ∀ y:FrD,y.q=d7.q-aB (dy l1.zs (tg.map FrD.q))→rt[j]?=some y.q from fun y hy=>by rw[md.out,hy,g3.out]);obtain⟨rv,d2⟩:∃ rv,d7=rv:=⟨_,rfl⟩;obtain⟨gv,cs⟩:∃ g,w7.heap.size=g:=⟨_,rfl⟩;obtain⟨wq,ht⟩:∃ wq,w8=wq:=⟨_,rfl⟩;rw[d2] at cm lz g6 cx;rw[cs] at cm ⊢;rw[ht] at cm lz j1 Y V ⊢;clear d2 cs ht;have t:=cm;have b5:=lz;have bT:=j1;clear cm lz;clear Z;have Z:=fs;replace I:=bz;clear fs bz;have s:Below wq.heap.size wq wq.drew:=(DY _ _).drew;replace t:=t.below s;replace b5:=b5.below s;replace Y:=Y.below s;replace V:=V.below s;replace bT:=Di bT s;clear s;go_wp2_with fail;refine DZ ?_;refine aw (J:=[11,12]) (S:=fun w'=>w'.cell? ⟨gv,0,none⟩=some (.bool rv.neg)∧w'.cell? ⟨gv,1,none⟩=some (.slice rv.a rv.la.length rv.ca)∧w'.cell? ⟨gv,2,none⟩=some (.slice rv.b rv.lb.length rv.cb)∧w'.cell? (aL.add (j*2))=some (.slice l1.a l1.zs.length l1.c)) (by kernel_rfl) (⟨t.cells.1,t.cells.2.1,t.cells.2.2,(bT.cell I.out).trans Z⟩) (fun f=>?_)
            refine mN 0 1 2 3 4 5 6 7 f ?_;refine dg 8 rfl fun K hK=>?_;go_simp;have E:=lR (K:=2) Y V cl.out fm.out (by decide) kk.out dm.out;go_at_call 60;refine (E).mono ?_;rintro e u1 ⟨vd,rfl,g7,F⟩;clear E;replace t:=t.below F;replace b5:=b5.below F;replace bT:=Di bT F;go_wp2_with fail;refine hK.out _ _ (⟨t.cells.1,t.cells.2.1,t.cells.2.2,(bT.cell I.out).trans Z⟩) (fun f=>?_);clear hK K;(try simp only[aq]);refine dg 9 rfl fun K hK=>?_;go_simp;have E:=dF b5 g7 g6.out xs.out (by decide);go_at_call 59;refine (E).mono ?_;rintro e u2 ⟨vs,rfl,l3,bo⟩;clear E;replace t:=t.below bo;replace bT:=Di bT bo;obtain⟨y,rfl,hy,gq⟩:=l3.frd;clear l3 g7;go_wp2_with fail;refine hK.out _ _ (⟨t.cells.1,t.cells.2.1,t.cells.2.2,(bT.cell I.out).trans Z⟩) (fun f=>?_);clear hK K;(try simp only[aq]);refine dg 10 rfl fun K hK=>?_;have bP:=bT;have d3:=hy;obtain⟨u3,g2,cz,st,xf⟩:=ag u2 #[.bool y.neg,.slice y.a y.la.length y.ca,.slice y.b y.lb.length y.cb] 28
            replace t:=t.below cz;replace bT:=Di bT cz;go_simp;refine hK.out _ _ (⟨t.cells.1,t.cells.2.1,t.cells.2.2,(bT.cell I.out).trans Z⟩) (fun f=>?_);clear hK K;(try simp only[aq]);refine aj (rs:=[11]) (by kernel_rfl) (by simp) ?_;refine Ee rfl (by decide) (fun K hK=>?_) Ed;obtain⟨v9,w9,dk,k0⟩:=(cv.below bP).appQ (d:=y) (by omega) (cx.out y gq.out) d3;rw[g2] at dk;refine aG rfl _ _ rfl rfl rfl rfl dk ?_;refine hK.out _ _ ?_;clear hK K;(try clear f);(try simp only[aq]);refine aj (rs:=[12]) (by kernel_rfl) (by simp) ?_;refine Ee rfl (by decide) (fun K hK=>?_) Ed;go_simp;refine hK.out _ _ ?_;clear hK K;(try clear f);(try simp only[aq]);refine au (by kernel_rfl) ?_ _;refine D1 ?_;(try go_simp);(try clear f);clear t b5 Y V hy d3 bP bT cv dk;go_wp2;go_roundw
            case rel=>exact⟨j+1,by omega,by go_num,k0⟩
            case measure=>simp[intOf];omega
     · obtain rfl:j=P:=by omega
       have m8:decide ((j:Int)<(j:Int))=false:=Du (by omega);obtain⟨AG,cg,rj,BR,cr,bs,rfl,o4,hg,rfl,nb,nx⟩:=c7.done x8.out.symm n0.out.symm;obtain⟨wB,hwB⟩:∃ wB,wB=w5:=⟨_,rfl⟩;subst hwB;obtain⟨wo,no⟩:∃ wo,wo=wr:=⟨_,rfl⟩;subst no;obtain⟨P,y4⟩:∃ P,P=j:=⟨_,rfl⟩;subst y4;have hrl:=Dj (show rj.length=P by rw[←x8.out,←hg.out,aE]);have hbl:=Dj (show bs.length=P by rw[←n0.out,←nx.out,Dr]);have vp:=Dj (show (tg.map FrD.q).length=ms.length by rw[Dr,k3.out]);have hGf:=Dj (show MFits 40 G by rw[←hG.out,←bv.out];exact pe hI.out X.out.1 db.out);have hrf:=Dj (show QFits 40 rt by rw[←lv.out,←bv.out];exact pU hI.out X.out.1 vp.out cl.out lr.out db.out);have n3:=Dj (show colsL G=P by rw[←hG.out,←bv.out,(pd X.out.1 db.out).2,hP.out]);obtain⟨yq,ee,hS⟩:∃ yq ee,Hid (dH G rt=(yq,ee)):=⟨_,_,rfl⟩;have lm:=Dj (show kJ ns ms (tg.map FrD.q) sq ch=(yq,ee) by unfold kJ;rw[bv.out,hG.out,lv.out];exact hS.out);have op:=tR (K:=40) o4 nb (by rw[hg.out];exact hGf.out) (by rw[nx.out];exact hrf.out) (by rw[hg.out,n3.out];have h1:=iD 40 tl;rw[CZ] at h1;omega) (by rw[hrl.out];omega) (by rw[hg.out,n3.out];omega);rw[hg.out,nx.out,hS.out] at op
       have hlM:=o4.len;have hlF:=nb.len;go_wp2_with fail;refine op.mono ?_;rintro e w6 ⟨AY,cY,ys,rfl,hY,mt,b6⟩;clear op o4 nb c7 hlM hlF;have l9:=Dj (show ys.map FrD.q=yq from mt.out);clear mt;have fv:=d5.out.trans (((Di dt b6)).mono d5.out.size);have hR6:=Ea tf fv;have qx:=hY.len
       by_cases hee:ee=0
       rotate_left
       · have hne:(ee != 0)=true:=by rw[bne_iff_ne];exact hee
         have xz:=Dj (show B0=false by
          rw[←ng.out];unfold iU;rw[lm.out]
          show (decide (ee=0)&&_)=false
          rw[Du hee];rfl)
         obtain⟨z0,z1,z2,z3,z4,z5,z6,f0,f1,f2,f3,f4,f5,f6,s0,s1,s2,s3,s4,s5,s6⟩:=gD hR6;have p5:=Di bd fv;clear hee;go_wp2;refine D4 (v:=.tuple #[.agg #[.slice none 0 0,.slice none 0 0,.slice none 0 0,.slice none 0 0,.bool false,.slice none 0 0,.slice none 0 0],.bool false]) (by simp[results,Tryz.results36,go_sem,z0,z1,z2,z3,z4,z5,z6]) rfl ?_;exact⟨zeroP,by rw[xz.out];rfl,fun h=>(by rw[xz.out] at h;cases h),p5⟩
       obtain rfl:ee=0:=hee;obtain⟨js,hr⟩:=wK hI.out X.out.1 vp.out cl.out lr.out db.out (by rw[hP.out];exact tl) (by rw[lm.out]);rw[lm.out] at js hr;have rb:=Dj (show QFits 10325 yq from js);have n5:=Dj (show yq.length=ch.length+1 from hr);have ld:=Dj (show ys.length=P by rw[←hP.out,←n5.out,←l9.out,Dr]);clear js hr;rw[ld.out] at qx;rw[ld.out];obtain⟨mu,m2⟩:∃ mu,Hid (Bh ns ms ch yq=mu):=⟨_,rfl⟩;have hn:=Dj (show QFits 10325 mu by rw[←m2.out];exact zy rb.out);have cq:=Dj (show mu.length=L by rw[←m2.out];unfold Bh;rw[zh,m0.out]);obtain⟨ps,os⟩:∃ ps,Hid (ch.zip (yq.drop 1)=ps):=⟨_,rfl⟩;have hpl:=Dj (show ps.length=ch.length by rw[←os.out,List.length_zip,DC,n5.out,Nat.add_sub_cancel,Nat.min_self]);have hLn:L≤13:=by have h1:=dr.out;omega
       have q5:=lH w6 L (by omega);obtain⟨w7,s9⟩:∃ w7,w6.alloc (.cells ((List.replicate L fB).flatMap FrD.cells).toArray 28)=w7:=⟨_,rfl⟩;obtain⟨T1,oj⟩:∃ T,Hid (List.replicate L (0:Rat)=T):=⟨_,rfl⟩;have dx:=Dj (show T1.length=L by rw[←oj.out,Do]);have xq:FAt T1 w6.heap.size 0 w6 w7:=by rw[←s9];exact FAt.new T1 dx.out w6
       rw[s9] at q5;go_wp2;clear q5
       go_loopw [24] (fun i wr=>∃ j:Nat,j≤L∧i=.int .i64 (j:Int)∧FAt T1 w6.heap.size j w6 wr) (fun i _=>L-(intOf i).toNat)
       case atStart=>exact⟨0,by omega,rfl,xq⟩
       case round =>
        clear xq;obtain⟨j,hj,rfl,bc⟩:=hrel
        by_cases hjl:j<L
        · have y1:(j:Int)<(L:Int):=by omega
          go_wp2_with fail;refine (aO 0 _ (by decide) (by decide)).mono ?_;rintro e w8 ⟨v1,rfl,gm,b8⟩;obtain⟨zz,rfl,hz,hzq⟩:=gm.frd;clear gm;obtain⟨u0,u1,u2,w9,t0,t1,t2,f0,f1,f2,e9,tv,c8⟩:=(bc.below b8).put (by rw[dx.out];exact hjl) (Dt _) hz;have d8:=Dj (c8 (by rw[←oj.out,DL,if_pos hjl,hzq.out];rfl));clear c8 bc hz tv;go_wp2;go_roundw
          case rel=>exact⟨j+1,by omega,by go_num,d8.out⟩
          case measure=>simp[intOf];omega
        · obtain rfl:j=L:=by omega
          have vm:decide ((j:Int)<(j:Int))=false:=Du (by omega);rw[show FAt T1 w6.heap.size j w6 wr=FAt T1 w6.heap.size T1.length w6 wr by rw[dx.out]] at bc;have bq:=bc.bel;obtain⟨nl,h1,h2,h3,h4⟩:=bc.done;have ho:=Dj (h2.trans dx.out);obtain⟨g,on⟩:∃ g,w6.heap.size=g:=⟨_,rfl⟩;have r3:=Dj (show w6.heap.size≤g by omega);have v3:XO wr g j nl:=by rw[←on,←ho.out];exact h1.xo (by rw[ho.out];omega)
          rw[on];have hq1:=Dj (show nl.map FrD.q=oI j (ps.take 0) by rw[h4.out,←oj.out];rfl);obtain⟨L',z9⟩:∃ L',L'=j:=⟨_,rfl⟩;subst z9;clear h1 bc on h2;go_wp2
          go_loopw [25] (fun i wr=>∃ j:Nat,j≤ch.length∧i=.int .i64 (j:Int)∧∃ ds,XO wr g L' ds∧AllFV wr ds∧Hid (ds.length=L')∧Hid (ds.map FrD.q=oI L' (ps.take j))∧Below w6.heap.size w6 wr) (fun i _=>ch.length-(intOf i).toNat)
          case atStart=>exact⟨0,by omega,rfl,nl,v3,h3,ho.out,hq1.out,bq⟩
          case round =>
           clear v3 h3 bq;obtain⟨j,hj,rfl,ds,hX,hV,g0,v5,hb⟩:=hrel;have my:=Di fv hb
           by_cases hjl:j<ch.length
           · have y1:(j:Int)<(ch.length:Int):=by omega
             obtain⟨x,hx⟩:∃ x,Hid (ch[j]?=some x):=⟨_,Dl hjl⟩;obtain⟨aI,o8,nd,pb⟩:=(hc0.below ((Di bd my))).2.2 j x hx.out;have j2:x<L':=by rw[←m0.out];exact db.out x (Dm hx.out)
             have hxi:(x:Int)<(L':Int):=by omega
             have hjP:j+1<P:=by rw[←hP.out];omega
             have hjPi:(j:Int)+1<(P:Int):=by omega
             have hjP0:(0:Int)≤(j:Int)+1:=by omega
             obtain⟨aY,yk,ob,bg,hy0,hy1,hy2,t3,hyk⟩:=(hY.below hb).at (k:=j+1) (by rw[ld.out];exact hjP);have hwj:IntKind.i64.wrap ((j:Int)+1)=((j+1:Nat):Int):=by rw[IntKind.wrap_i64];omega
             rw[o8,ob];have vk:=Dj (show (aI.add j).block<wr.heap.size by rw[ac];exact nd);have k4:=Dj (show (aY.add ((j+1)*3)).block<wr.heap.size by rw[ac];exact bg);obtain⟨w4,x7⟩:∃ w4,w4=wr:=⟨_,rfl⟩;subst x7;have x4:=Dj (show x<ds.length by rw[g0.out];exact j2);obtain⟨xk,hxk⟩:∃ xk,Hid (ds[x]?=some xk):=⟨_,Dl x4.out⟩
             have hpj:=Dj (show ps[j]?=some (x,yk.q) by
              rw[←os.out,List.getElem?_zip_eq_some];exact⟨hx.out,by rw[DX,←l9.out,Dq,Nat.add_comm 1 j,hyk.out];rfl⟩)
             have y2:=Dj (show (ds.set x yk).map FrD.q=oI L' (ps.take (j+1)) by
              rw[xa hpj.out,←v5.out,List.map_set])
             have d9:=hX;have j4:=hV;have hm:=t3;have qg:=hb;clear hX hV t3 hb my bg nd;go_upto_region 33 with fail;have bT:=DY w4.heap.size w4;have s:Below w4.heap.size w4 w4.drew:=(DY _ _).drew;replace d9:=d9.below s;replace j4:=j4.below s;replace hm:=hm.below s;replace bT:=Di bT s;clear s;go_wp2_with fail;refine DZ ?_;refine aw (J:=[11]) (S:=fun w'=>w'.cell? (aI.add j)=some (.int .i64 (x:Int))∧w'.cell? (aY.add ((j+1)*3))=some (.bool yk.neg)∧w'.cell? ⟨(aY.add ((j+1)*3)).block,(aY.add ((j+1)*3)).off+1,none⟩=some (.slice yk.a yk.la.length yk.ca)∧w'.cell? ⟨(aY.add ((j+1)*3)).block,(aY.add ((j+1)*3)).off+2,none⟩=some (.slice yk.b yk.lb.length yk.cb)) (by kernel_rfl) (⟨(bT.cell vk.out).trans pb,(bT.cell k4.out).trans hy0,(bT.cell (by exact k4.out)).trans hy1,(bT.cell (by exact k4.out)).trans hy2⟩) (fun f=>?_);refine mN 0 1 2 3 4 5 6 7 f ?_;refine kB 8 9 f ?_;refine kr 10 rfl f ?_;refine aj (rs:=[11]) (by kernel_rfl) (by simp) ?_;refine Ee rfl (by decide) (fun K hK=>?_) Ed;obtain⟨wd,j0⟩:∃ wd,wd=w4.drew:=⟨_,rfl⟩
             rw[←j0] at d9 j4 hm bT ⊢;clear j0;obtain⟨w9,f0,f1,f2,e9,zp,o9⟩:=d9.store x4.out yk;obtain⟨r0,r1,r2⟩:=d9.cells hxk.out;have hV9:=XO.setFV (k:=x) d9 j4 hm o9;go_simp;refine hK.out _ _ ?_;clear hK K;(try clear f);(try simp only[aq]);refine au (by kernel_rfl) ?_ _;refine D1 ?_;(try go_simp);(try clear f);have k6:=o9.to_below ((Di qg bT)) r3.out (Ds qg.size bT.size);clear d9 j4 hm o9 r0 r1 r2;go_wp2;go_roundw
             case rel=>exact⟨j+1,by omega,by go_num,_,zp,hV9,(by show (ds.set x yk).length=_;rw[DH];exact g0.out),y2.out,k6⟩
             case measure=>simp[intOf];omega
           · obtain rfl:j=ch.length:=by omega
             have m8:decide ((ch.length:Int)<(ch.length:Int))=false:=Du (by omega);obtain⟨w5,oo⟩:∃ w5,w5=wr:=⟨_,rfl⟩;subst oo
             have q3:=Dj (show ds.map FrD.q=mu by
              rw[v5.out,Dp (by rw[hpl.out];exact Dt _),←os.out,←m0.out];exact m2.out)
             obtain⟨aY,y0,ob,bg,oz,p4,o3,hs,n2⟩:=(hY.below hb).at (k:=0) (by rw[ld.out,←hP.out];omega);have pt:aY.add (0*3)=aY:=by rw[Nat.zero_mul];simp[Addr.add]
             rw[pt] at oz p4 o3;clear pt;rw[ob];have b9:=Dj bg;have g8:=Dj (show Fits 10325 y0.q from rb.out _ (by rw[←l9.out];exact DU.2 ⟨y0,Dm n2.out,rfl⟩));have v2:=Dj (show y0.q=yq.getD 0 0 by rw[←l9.out,Dk,Dq,n2.out];rfl);have hPn:0<P:=by have h1:=hP.out;omega
             obtain⟨M,hM⟩:∃ M,Hid (ns.length=M):=⟨_,rfl⟩;obtain⟨N,hN⟩:∃ N,Hid (ms.length=N):=⟨_,rfl⟩;obtain⟨U,hU⟩:∃ U:Nat,Hid (U=M+N):=⟨_,rfl⟩;rw[hM.out,hN.out];have hMN:M≤5∧N≤4:=by rw[←hM.out,←hN.out];exact⟨hn5,hn4⟩
             have hwr:IntKind.i64.wrap ((M:Int)+(N:Int))=(U:Int):=by have h1:=hU.out;rw[IntKind.wrap_i64];omega
             have qd:=Dj (show L'=U+N by have h1:=dr.out;have h2:=hM.out;have h3:=hN.out;have h4:=hU.out;omega);have h0:=hX;have j5:=hV;have hg6:=Dj (show g<w5.heap.size by obtain⟨cur,k1,-⟩:=hX;exact k1.lt);clear hX hV bg qx;have hMi:(M:Int)≤(L':Int):=by have h1:=hU.out;have h2:=qd.out;omega
             have hUi:(U:Int)≤(L':Int):=by have h1:=hU.out;have h2:=qd.out;omega
             have hMU:(M:Int)≤(U:Int):=by have h1:=hU.out;omega
             obtain⟨a1,sd,q6,q8⟩:∃ a:Addr,(if L'=M then some (⟨g,0,none⟩:Addr) else some ⟨g,M*3,none⟩)=some a∧Hid (U-M=0∨a=⟨g,M*3,none⟩)∧Hid (a.block=g):=by
              by_cases e:L'=M
              · exact⟨_,if_pos e,.inl (by omega),rfl⟩
              · exact⟨_,if_neg e,.inr rfl,rfl⟩
             obtain⟨a2,v4,v8,vz⟩:∃ a:Addr,(if L'=U then some (⟨g,0,none⟩:Addr) else some ⟨g,U*3,none⟩)=some a∧Hid (L'-U=0∨a=⟨g,U*3,none⟩)∧Hid (a.block=g):=by
              by_cases e:L'=U
              · exact⟨_,if_pos e,.inl (by omega),rfl⟩
              · exact⟨_,if_neg e,.inr rfl,rfl⟩
             go_upto_region 35 with fail;have bT:=DY w5.heap.size w5;have s:Below w5.heap.size w5 w5.drew:=(DY _ _).drew;replace h0:=h0.below s;replace j5:=j5.below s;replace hs:=hs.below s;replace bT:=Di bT s;clear s;go_wp2_with fail;refine DZ ?_;refine aw (J:=[21]) (S:=fun w'=>w'.cell? aY=some (.bool y0.neg)∧w'.cell? ⟨aY.block,aY.off+1,none⟩=some (.slice y0.a y0.la.length y0.ca)∧w'.cell? ⟨aY.block,aY.off+2,none⟩=some (.slice y0.b y0.lb.length y0.cb)) (by kernel_rfl) (⟨(bT.cell b9.out).trans oz,(bT.cell (by exact b9.out)).trans p4,(bT.cell (by exact b9.out)).trans o3⟩) (fun f=>?_);refine mN 0 1 2 3 4 5 6 7 f ?_;refine py 8 9 10 11 f ?_;refine mN 12 13 14 15 16 17 18 19 f ?_;refine dg 20 rfl fun K hK=>?_;obtain⟨wd,j0⟩:∃ wd,wd=w5.drew:=⟨_,rfl⟩;rw[←j0] at h0 j5 hs bT ⊢;clear j0;have mz:=h0;have m9:=j5;have n1:=hs;have b35:=bT
             obtain⟨u1,hu1,F,zb,xc⟩:=ag wd #[.slice none 0 0,.slice none 0 0,.slice none 0 0,.slice none 0 0,.bool false,.slice none 0 0,.slice none 0 0] 34;replace bT:=Di bT F;have hR:=xc;clear xc;go_simp;refine hK.out _ _ (⟨(bT.cell b9.out).trans oz,(bT.cell (by exact b9.out)).trans p4,(bT.cell (by exact b9.out)).trans o3⟩) (fun f=>?_);clear hK K;(try simp only[aq]);refine aj (rs:=[21]) (by kernel_rfl) (by simp) ?_;refine Ee rfl (by decide) (fun K hK=>?_) Ed;have y5:=Dj (show ((ds.drop 0).take M).length=M by rw[DB,DC,g0.out];omega);have hl2:=Dj (show ((ds.drop M).take (U-M)).length=U-M by rw[DB,DC,g0.out];omega);have hl3:=Dj (show ((ds.drop U).take (L'-U)).length=L'-U by rw[DB,DC,g0.out];omega);obtain⟨x9,vt⟩:∃ x9,Hid (x9=(⟨⟨none,0,[]⟩,⟨some ⟨g,0,none⟩,L',(ds.drop 0).take M⟩,⟨some a1,L'-M,(ds.drop M).take (U-M)⟩,⟨some a2,L'-U,(ds.drop U).take (L'-U)⟩,y0⟩:PtD)):=⟨_,rfl⟩;obtain⟨w9,z0,z1,z2,z3,z4,z5,z6,f0,f1,f2,f3,f4,f5,f6,e9,h9,o9⟩:=bt hR x9;rw[vt.out] at e9 h9;dsimp only at e9
             try rw[List.length_nil] at e9
             try rw[y5.out] at e9
             try rw[hl2.out] at e9
             try rw[hl3.out] at e9
             go_simp;refine hK.out _ _ ?_;clear hK K;(try clear f);(try simp only[aq]);refine au (by kernel_rfl) ?_ _;refine D1 ?_;(try go_simp);(try clear f);have o2:Below wd.heap.size wd w9:=o9.to_below F (Dt _) F.size;have o1:=Dj (show Below w5.heap.size w5 wd from b35)
             have lq:∀ (a:Addr) (lo n k:Nat),(n=0∨a=⟨g,lo*3,none⟩)→lo+n≤L'→n≤k→k≤1000→FL wd (some a) k ((ds.drop lo).take n):=fun a lo n k h1 h2 h3 h4=>by
              rcases h1 with h1 | h1
              · subst h1;rw[List.take_zero];exact FL.none0 _ _ _ (by omega)
              · subst h1;exact mz.seg m9 (by rw[g0.out];exact h2) h3 (by omega)
             have o:PaAt wd wd.heap.size (⟨⟨none,0,[]⟩,⟨some ⟨g,0,none⟩,L',(ds.drop 0).take M⟩,⟨some a1,L'-M,(ds.drop M).take (U-M)⟩,⟨some a2,L'-U,(ds.drop U).take (L'-U)⟩,y0⟩:PtD) w9:=⟨h9,OwnQ.nil _ _,fun d hd=>by simp at hd,lq _ 0 M L' (.inr (by rw[Nat.zero_mul])) (by omega) (by omega) (by omega),lq a1 M (U-M) (L'-M) q6.out (by omega) (by omega) (by omega),lq a2 U (L'-U) (L'-U) v8.out (by omega) (by omega) (by omega),n1,o2⟩;clear lq;obtain⟨x0,ln⟩:∃ x0,x0=(⟨⟨none,0,[]⟩,⟨some ⟨g,0,none⟩,L',(ds.drop 0).take M⟩,⟨some a1,L'-M,(ds.drop M).take (U-M)⟩,⟨some a2,L'-U,(ds.drop U).take (L'-U)⟩,y0⟩:PtD):=⟨_,rfl⟩
             have kv:=Dj (show x0.pay=⟨none,0,[]⟩∧x0.mults.qs=mu.take ns.length∧x0.low.qs=(mu.drop ns.length).take ms.length∧x0.high.qs=mu.drop (ns.length+ms.length)∧x0.lev.q=y0.q by
              have hq:=q3.out;have hUl:=hU.out;have g1:=dr.out;rw[ln,hM.out,hN.out];refine⟨rfl,?_,?_,?_,rfl⟩
              · show ((ds.drop 0).take M).map FrD.q=_
                rw[DE,DF,hq];rfl
              · show ((ds.drop M).take (U-M)).map FrD.q=_
                rw[DE,DF,hq]
                congr 1
                all_goals omega
              · show ((ds.drop U).take (L'-U)).map FrD.q=_
                rw[DE,DF,hq,Dp (by rw[DC,cq.out];omega)]
                congr 1
                all_goals omega)
             have j2:=Dj (show (∀ a,x0.mults.a=some a→a.block=g)∧(∀ a,x0.low.a=some a→a.block=g)∧∀ a,x0.high.a=some a→a.block=g by
              rw[ln];exact⟨fun a e=>by cases e;rfl,fun a e=>by cases e;exact q8.out,fun a e=>by cases e;exact vz.out⟩)
             rw[←ln] at o;obtain⟨wz,hwz⟩:∃ wz,wz=wd:=⟨_,rfl⟩;rw[←hwz] at o o1 o2 ⊢;clear h0 j5 hs mz m9 n1 hR h9 o9 F zb vt sd v4;clear ln;obtain⟨gx,g4⟩:∃ gx,wz.heap.size=gx:=⟨_,rfl⟩;have hgx:=Dj (show wz.heap.size≤gx by omega);have o:PaAt wz gx x0 w9:=by rw[←g4];exact o
             rw[g4];clear g4;obtain⟨PQ,lx⟩:∃ q,Hid (sD (tg.map FrD.q) ns ms.length (mu.take ns.length) ((mu.drop ns.length).take ms.length) (mu.drop (ns.length+ms.length)) y0.q=q):=⟨_,rfl⟩;have m3:=Dj (show PQ.length=N by rw[←lx.out,sC,hN.out])
             have bx:=Dj (show QFits 10325 (mu.take ns.length)∧QFits 10325 ((mu.drop ns.length).take ms.length)∧QFits 10325 (mu.drop (ns.length+ms.length)) from
              ⟨fun q hq=>hn.out q (DJ hq),fun q hq=>hn.out q (DK (DJ hq)),fun q hq=>hn.out q (DK hq)⟩)
             have x3:=Dj (show QFits 100000 PQ by rw[←lx.out];exact xn cl.out bx.out.1 bx.out.2.1 bx.out.2.2 g8.out f9.out);go_wp2
             go_loopw [28] (fun i wr=>∃ k:Nat,k≤N∧i=.int .i64 (k:Int)∧∃ pay:RwD,PaAt wz gx { x0 with pay:=pay } wr∧Hid (pay.qs=PQ.take k)) (fun i _=>N-(intOf i).toNat)
             case atStart =>
              have k1:PaAt wz gx { x0 with pay:=x0.pay } w9:=o;have k2:Hid (x0.pay.qs=PQ.take 0):=Dj (show x0.pay.qs=PQ.take 0 by rw[kv.out.1];rfl);exact⟨0,D8 _,rfl,x0.pay,k1,k2⟩
             case round =>
              clear o o2;obtain⟨i,hi,rfl,pay,qy,hpq⟩:=hrel;obtain⟨x1,fz⟩:∃ x1:PtD,Hid (x1=({ x0 with pay:=pay }:PtD)):=⟨{ x0 with pay:=pay },Dj rfl⟩;have o:PaAt wz gx x1 wr:=by rw[fz.out];exact qy
              clear qy;have o7:=o.bel;have fl:=Di o1.out o7;have gp:=Di hb fl;have d6:=Di fv gp;have bm:=Di bd d6
              have H:=Dj (show x1.pay.qs=PQ.take i∧x1.mults.qs=mu.take ns.length∧x1.low.qs=(mu.drop ns.length).take ms.length∧x1.high.qs=mu.drop (ns.length+ms.length)∧x1.lev.q=y0.q by
               rw[fz.out];exact⟨hpq.out,kv.out.2.1,kv.out.2.2.1,kv.out.2.2.2.1,kv.out.2.2.2.2⟩)
              have nc:=Dj (show PtF 300000 x1 from
               ⟨by rw[H.out.1];exact fun q hq=>(x3.out q (DJ hq)).mono (by decide),by rw[H.out.2.1];exact bx.out.1.mono (by decide),by rw[H.out.2.2.1];exact bx.out.2.1.mono (by decide),by rw[H.out.2.2.2.1];exact bx.out.2.2.mono (by decide),by rw[H.out.2.2.2.2];exact g8.out.mono (by decide)⟩)
              have rl:=Dj (show x1.pay.ds.length=i by
               rw[←Eg,H.out.1,DB,m3.out];omega)
              have V:=ht0.below bm;have dq:=hn0.below bm
              by_cases hil0:i<N
              · have hii:(i:Int)<(N:Int):=by omega
                have nn:i<ms.length:=by rw[hN.out];exact hil0
                have q9:i<tg.length:=by rw[k3.out];exact nn
                have htii:(i:Int)<(tg.length:Int):=by omega
                have hml:=Dj (show x1.mults.ds.length=ns.length by
                 rw[←Eg,H.out.2.1,DB,cq.out];have h1:=dr.out;omega)
                have hil:=Dj (show i<x1.low.ds.length by
                 rw[←Eg,H.out.2.2.1,DB,DC,cq.out];have h1:=dr.out;omega)
                have hih:=Dj (show i<x1.high.ds.length by
                 rw[←Eg,H.out.2.2.2.1,DC,cq.out];have h1:=dr.out;omega)
                have hi8:=Dj (show i≤8 by omega)
                have y6:=Dj (show x1.high.ds.length=ms.length by
                 rw[←Eg,H.out.2.2.2.1,DC,cq.out];have h1:=dr.out;omega)
                obtain⟨aT,tk,eaT,hc,m5,l7,lg,fx,t4⟩:=V.at (k:=i) q9;have O:=Dj (show (aT.add (i*3)).block<wr.heap.size by rw[ac];exact hc);rw[eaT];have htF:=Dj (show Fits 2 tk.q from cl.out _ (DU.2 ⟨tk,Dm t4.out,rfl⟩))
                have hfF:=Dj (show Fits 90000 (x1.lev.q+x1.low.qs.getD i 0-x1.high.qs.getD i 0+aB (cC ns x1.mults.qs i)) by
                 rw[H.out.2.1,H.out.2.2.1,H.out.2.2.2.1,H.out.2.2.2.2];exact pf bx.out.1 bx.out.2.1 bx.out.2.2 g8.out f9.out i)
                have c8:=Dj (show ∀ y:FrD,y.q=tk.q+(x1.lev.q+x1.low.qs.getD i 0-x1.high.qs.getD i 0+aB (cC ns x1.mults.qs i))→(x1.pay.ds++[y]).map FrD.q=PQ.take (i+1) from fun y hy=>by
                 rw[H.out.2.1,H.out.2.2.1,H.out.2.2.2.1,H.out.2.2.2.2] at hy;refine iP H.out.1 ?_;rw[←lx.out,ve nn,hy,show (tg.map FrD.q).getD i 0=tk.q from iI t4.out])
                clear o7 fl gp d6 bm hc nn q9;have ht0:=m5;clear m5;go_upto_region 39 with fail;have bT:=DY wr.heap.size wr;have s:Below wr.heap.size wr wr.drew:=(DY _ _).drew;replace o:=o.below s;replace dq:=dq.below s;replace fx:=fx.below s;replace bT:=Di bT s;clear s;go_wp2_with fail;refine DZ ?_;refine aw (J:=[12,13,14]) (S:=fun w'=>w'.cell? ⟨gx,0,none⟩=some (.slice x1.pay.a x1.pay.ds.length x1.pay.c)∧w'.cell? ⟨gx,1,none⟩=some (.slice x1.mults.a x1.mults.ds.length x1.mults.c)∧w'.cell? ⟨gx,2,none⟩=some (.slice x1.low.a x1.low.ds.length x1.low.c)∧w'.cell? ⟨gx,3,none⟩=some (.slice x1.high.a x1.high.ds.length x1.high.c)∧w'.cell? ⟨gx,4,none⟩=some (.bool x1.lev.neg)∧w'.cell? ⟨gx,5,none⟩=some (.slice x1.lev.a x1.lev.la.length x1.lev.ca)∧w'.cell? ⟨gx,6,none⟩=some (.slice x1.lev.b x1.lev.lb.length x1.lev.cb)∧w'.cell? (aT.add (i*3))=some (.bool tk.neg)∧w'.cell? ⟨(aT.add (i*3)).block,(aT.add (i*3)).off+1,none⟩=some (.slice tk.a tk.la.length tk.ca)∧w'.cell? ⟨(aT.add (i*3)).block,(aT.add (i*3)).off+2,none⟩=some (.slice tk.b tk.lb.length tk.cb)) (by kernel_rfl) (⟨D9 o.blk 0,D9 o.blk 1,D9 o.blk 2,D9 o.blk 3,D9 o.blk 4,D9 o.blk 5,D9 o.blk 6,(bT.cell O.out).trans ht0,(bT.cell (by exact O.out)).trans l7,(bT.cell (by exact O.out)).trans lg⟩) (fun f=>?_)
                refine mN 0 1 2 3 4 5 6 7 f ?_;refine kr 8 rfl f ?_;refine dg 9 rfl fun K hK=>?_;go_simp;have E:=qu (K:=300000) dq o.ptl g9.out (by have:=f9.out;omega) hi8.out hml.out hil.out hih.out nc.out (by decide) (by decide);rw[hM.out] at E;go_at_call 63;refine (E).mono ?_;rintro e u1 ⟨vf,rfl,xb,F⟩;clear E;replace o:=o.below F;replace fx:=fx.below F;replace bT:=Di bT F;go_wp2_with fail;refine hK.out _ _ (⟨D9 o.blk 0,D9 o.blk 1,D9 o.blk 2,D9 o.blk 3,D9 o.blk 4,D9 o.blk 5,D9 o.blk 6,(bT.cell O.out).trans ht0,(bT.cell (by exact O.out)).trans l7,(bT.cell (by exact O.out)).trans lg⟩) (fun f=>?_);clear hK K;(try simp only[aq]);refine dg 10 rfl fun K hK=>?_;go_simp;have E:=eX fx xb htF.out hfF.out (by decide);go_at_call 62;refine (E).mono ?_;rintro e u2 ⟨va,rfl,qk,bo⟩;clear E;replace o:=o.below bo;replace bT:=Di bT bo;obtain⟨y,rfl,hy,gq⟩:=qk.frd;clear qk xb;go_wp2_with fail
                refine hK.out _ _ (⟨D9 o.blk 0,D9 o.blk 1,D9 o.blk 2,D9 o.blk 3,D9 o.blk 4,D9 o.blk 5,D9 o.blk 6,(bT.cell O.out).trans ht0,(bT.cell (by exact O.out)).trans l7,(bT.cell (by exact O.out)).trans lg⟩) (fun f=>?_);clear hK K;(try simp only[aq]);refine dg 11 rfl fun K hK=>?_;have n4:=o;have d3:=hy;obtain⟨u3,g2,cz,st,xf⟩:=ag u2 #[.bool y.neg,.slice y.a y.la.length y.ca,.slice y.b y.lb.length y.cb] 28;replace o:=o.below cz;replace bT:=Di bT cz;go_simp;refine hK.out _ _ (⟨D9 o.blk 0,D9 o.blk 1,D9 o.blk 2,D9 o.blk 3,D9 o.blk 4,D9 o.blk 5,D9 o.blk 6,(bT.cell O.out).trans ht0,(bT.cell (by exact O.out)).trans l7,(bT.cell (by exact O.out)).trans lg⟩) (fun f=>?_);clear hK K;(try simp only[aq]);refine aj (rs:=[12]) (by kernel_rfl) (by simp) ?_;refine Ee rfl (by decide) (fun K hK=>?_) Ed;obtain⟨A9,c9,w8,w9,nz,k1,kf,e9,mf⟩:=n4.app hgx.out (d:=y) d3 (by have:=rl.out;omega);rw[g2] at nz;refine aG rfl _ _ rfl rfl rfl rfl nz ?_;refine hK.out _ _ ?_;clear hK K;(try clear f);(try simp only[aq]);refine aj (rs:=[13]) (by kernel_rfl) (by simp) ?_
                refine Ee rfl (by decide) (fun K hK=>?_) Ed;go_simp;refine hK.out _ _ ?_;clear hK K;(try clear f);(try simp only[aq]);refine aj (rs:=[14]) (by kernel_rfl) (by simp) ?_;refine Ee rfl (by decide) (fun K hK=>?_) Ed;go_simp;refine hK.out _ _ ?_;clear hK K;(try clear f);(try simp only[aq]);refine au (by kernel_rfl) ?_ _;refine D1 ?_;(try go_simp);(try clear f);have hrs:=Dj (c8.out y gq.out);clear o n4 V dq fx hy d3 bT k1 kf nz;go_wp2;go_roundw
                case rel=>exact⟨i+1,by omega,by go_num,⟨A9,c9,x1.pay.ds++[y]⟩,by rw[fz.out] at mf ⊢;exact mf,hrs.out⟩
                case measure=>simp[intOf];omega
              · obtain rfl:i=N:=by omega
                have hlt3:decide ((i:Int)<(i:Int))=false:=Du (by omega);have p6:FV wr sv.v sq:=by rw[←hh.out];exact l5.below bm
                have bn:=mp.below d6;have ft:=Ea tf d6;have nq:=hm0.below bm;have pn:=Dj bm;have nr:=Dj (show x1.pay.qs=PQ by rw[H.out.1,Dp (by rw[m3.out];exact Dt _)])
                have s7:=Dj (show fi (tg.map FrD.q) ns ms sq x1.pay.qs x1.mults.qs x1.low.qs x1.high.qs x1.lev.q=B0 by
                 rw[nr.out,H.out.2.1,H.out.2.2.1,H.out.2.2.2.1,H.out.2.2.2.2,←lx.out,v2.out,←ng.out];unfold iU;rw[lm.out]
                 show _=(true&&CV ns ms (tg.map FrD.q) sq (Bh ns ms ch yq) (yq.getD 0 0))
                 rw[Bool.true_and,m2.out];rfl)
                have t6:=Dj (show w1.heap.size≤g from Ds fv.size r3.out);have qc:=Dj (show w5.heap.size≤wr.heap.size from fl.size)
                have td:=Dj (show PtIn x1 w1.heap.size wr.heap.size from fun a ha=>by
                 have h1:=t6.out;have h2:=qc.out;have h3:=hg6.out
                 rcases ha with e | e | e | e
                 · have h9:=o.pin a e;have h8:=o1.out.size;have h7:=hb.size;have h6:=fv.size;omega
                 · rw[fz.out] at e;have h9:=j2.out.1 a e;omega
                 · rw[fz.out] at e;have h9:=j2.out.2.1 a e;omega
                 · rw[fz.out] at e;have h9:=j2.out.2.2 a e;omega)
                clear o7 fl gp d6 bm l5;go_upto_region 40 with fail;have bT:=DY wr.heap.size wr;have s:Below wr.heap.size wr wr.drew:=(DY _ _).drew;replace o:=o.below s;replace V:=V.below s;replace dq:=dq.below s;replace nq:=nq.below s;replace p6:=p6.below s;replace bn:=bn.below s;replace ft:=ft.keep s;replace bT:=Di bT s;clear s;go_wp2_with fail;refine DZ ?_;refine aw (J:=[7,8]) (S:=fun w'=>w'.cell? ⟨gx,0,none⟩=some (.slice x1.pay.a x1.pay.ds.length x1.pay.c)∧w'.cell? ⟨gx,1,none⟩=some (.slice x1.mults.a x1.mults.ds.length x1.mults.c)∧w'.cell? ⟨gx,2,none⟩=some (.slice x1.low.a x1.low.ds.length x1.low.c)∧w'.cell? ⟨gx,3,none⟩=some (.slice x1.high.a x1.high.ds.length x1.high.c)∧w'.cell? ⟨gx,4,none⟩=some (.bool x1.lev.neg)∧w'.cell? ⟨gx,5,none⟩=some (.slice x1.lev.a x1.lev.la.length x1.lev.ca)∧w'.cell? ⟨gx,6,none⟩=some (.slice x1.lev.b x1.lev.lb.length x1.lev.cb)∧w'.cell? ⟨w.heap.size,0,none⟩=some (.bool sv.neg)∧w'.cell? ⟨w.heap.size,1,none⟩=some (.slice sv.a sv.la.length sv.ca)∧w'.cell? ⟨w.heap.size,2,none⟩=some (.slice sv.b sv.lb.length sv.cb)) (by kernel_rfl) (⟨D9 o.blk 0,D9 o.blk 1,D9 o.blk 2,D9 o.blk 3,D9 o.blk 4,D9 o.blk 5,D9 o.blk 6,bn.cells.1,bn.cells.2.1,bn.cells.2.2⟩) (fun f=>?_)
                refine py 0 1 2 3 f ?_;refine kB 4 5 f ?_;refine dg 6 rfl fun K hK=>?_;go_simp;have E:=ky (K:=300000) zt.out V dq nq p6 o.ptl (cl.out.mono (by decide)) (lr.out.mono (by decide)) nc.out.pay (fun _=>nc.out) (by decide) (by decide) (by have:=f9.out;omega);rw[s7.out] at E;rw[hM.out] at E;rw[hN.out] at E;go_at_call 39;refine (E).mono ?_;rintro e u1 ⟨rfl,F⟩;clear E;replace o:=o.below F;replace bn:=bn.below F;replace ft:=ft.keep F;replace bT:=Di bT F;go_wp2_with fail;refine hK.out _ _ (⟨D9 o.blk 0,D9 o.blk 1,D9 o.blk 2,D9 o.blk 3,D9 o.blk 4,D9 o.blk 5,D9 o.blk 6,bn.cells.1,bn.cells.2.1,bn.cells.2.2⟩) (fun f=>?_);clear hK K;(try simp only[aq]);refine aj (rs:=[7]) (by kernel_rfl) (by simp) ?_;refine Ee rfl (by decide) (fun K hK=>?_) Ed;obtain⟨w9,z0,z1,z2,z3,z4,z5,z6,f0,f1,f2,f3,f4,f5,f6,e9,h9,o9⟩:=bt ft x1;go_simp;refine hK.out _ _ ?_;clear hK K;(try clear f);(try simp only[aq]);refine aj (rs:=[8]) (by kernel_rfl) (by simp) ?_;refine Ee rfl (by decide) (fun K hK=>?_) Ed
                go_simp;refine hK.out _ _ ?_;clear hK K;(try clear f);(try simp only[aq]);refine au (by kernel_rfl) ?_ _;refine D1 ?_;(try go_simp);(try clear f);have c0:w9.cell? ⟨w0.heap.size,0,none⟩=some (.slice x1.pay.a x1.pay.ds.length x1.pay.c):=D9 h9 0;have c1:w9.cell? ⟨w0.heap.size,1,none⟩=some (.slice x1.mults.a x1.mults.ds.length x1.mults.c):=D9 h9 1;have c2:w9.cell? ⟨w0.heap.size,2,none⟩=some (.slice x1.low.a x1.low.ds.length x1.low.c):=D9 h9 2;have c3:w9.cell? ⟨w0.heap.size,3,none⟩=some (.slice x1.high.a x1.high.ds.length x1.high.c):=D9 h9 3;have c4:w9.cell? ⟨w0.heap.size,4,none⟩=some (.bool x1.lev.neg):=D9 h9 4;have c5:w9.cell? ⟨w0.heap.size,5,none⟩=some (.slice x1.lev.a x1.lev.la.length x1.lev.ca):=D9 h9 5;have c6:w9.cell? ⟨w0.heap.size,6,none⟩=some (.slice x1.lev.b x1.lev.lb.length x1.lev.cb):=D9 h9 6;have sp:=o.ptl.farP (fun a ha=>by have h1:=(td.out a ha).1;have h2:=hwg.out;omega) ft dv o9;have p5:=o9.to_below ((Di pn.out bT)) b0.size (Ds pn.out.size bT.size);go_wp2;refine D4 (v:=.tuple #[x1.v,.bool B0]) (by simp[results,Tryz.results36,go_sem,c0,c1,c2,c3,c4,c5,c6]) rfl ?_;exact⟨x1,rfl,fun h=>⟨sp,td.out.mono bd.size (Ds bT.size o9.size),by rw[s7.out];exact h⟩,p5⟩
end Go.Proofs.YtjhkapjadfpimaaGreat
