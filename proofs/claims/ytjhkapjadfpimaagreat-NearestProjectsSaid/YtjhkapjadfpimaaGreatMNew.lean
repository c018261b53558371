/- Contracts of functions, for the law. -/
import Derived.Test.YtjhkapjadfpimaaGreatGDiv
namespace Go.Proofs.YtjhkapjadfpimaaGreat
set_option linter.unusedVariables false
set_option linter.unusedSimpArgs false
open Go.RowKit Plain
attribute [local go_sem ↓] Go.wp_at_zero Go.wp_at_succ
set_option maxRecDepth 100000
set_option maxHeartbeats 40000000
theorem tS {K:Nat}{A:Option Addr}{c:Nat}{rows:List RwD}{x y:Int}{w:World}(h:ML w A c rows) (hfm:MFits K (bh rows)) (hK:4*K+1<400000000) (hrn:rows.length<1000000000) (hnn:colsL (bh rows)<1000000000)
 (hx:-9223372036854775808≤x∧x≤9223372036854775807) (hy:-9223372036854775808≤y∧y≤9223372036854775807) :
 Calls Tryz.prog 83 #[.slice A rows.length c,.int .i64 x,.int .i64 y] w (RetME (oK (bh rows) x y) w):=by
 have hl:=h.len;obtain⟨R,hR⟩:∃ R,Hid (oK (bh rows) x y=R):=⟨_,rfl⟩;obtain⟨n,hn⟩:∃ n,Hid (colsL (bh rows)=n):=⟨_,rfl⟩;have gc:n<1000000000:=by rw[←hn.out];exact hnn
 have b4:=Dj hfm;rw[hR.out];clear hnn hfm;go_enter Tryz.func83,Tryz.ntmps83;go_wp2_with fail;refine (lN h).mono ?_;rintro e w1 ⟨rfl,b1⟩
 rcases hfo:aW (bh rows) with _ | _
 · skip
   have hf:=Dj (show R=([],2) by rw[←hR.out];exact xm hfo);go_wp2
   go_ret2
   exact RetME.err hf.out rfl b1
 have G:=Dj hfo;clear hfo
 by_cases h1:x<0
 · have t1:decide (x<0)=true:=Dv h1;have hf:=Dj (show R=([],4) by rw[←hR.out];exact jk G.out (.inl h1));go_wp2
   go_ret2
   exact RetME.err hf.out rfl b1
 have t1:decide (x<0)=false:=Du h1
 by_cases h2:(rows.length:Int)≤x
 · have t2:decide ((rows.length:Int)≤x)=true:=Dv h2;have hf:=Dj (show R=([],4) by rw[←hR.out];exact jk G.out (.inr (.inl (by rw[aE];exact h2))));go_wp2
   go_ret2
   exact RetME.err hf.out rfl b1
 have t2:decide ((rows.length:Int)≤x)=false:=Du h2
 by_cases h3:y<0
 · have t3:decide (y<0)=true:=Dv h3;have hf:=Dj (show R=([],4) by rw[←hR.out];exact jk G.out (.inr (.inr (.inl h3))));go_wp2
   go_ret2
   exact RetME.err hf.out rfl b1
 have t3:decide (y<0)=false:=Du h3;go_wp2_with fail;refine (jw (h.below b1)).mono ?_;rintro e w2 ⟨rfl,rfl⟩;rw[hn.out]
 by_cases h4:(n:Int)≤y
 · have t4:decide ((n:Int)≤y)=true:=Dv h4;have hf:=Dj (show R=([],4) by rw[←hR.out];exact jk G.out (.inr (.inr (.inr (by rw[hn.out];exact h4)))));go_wp2
   go_ret2
   exact RetME.err hf.out rfl b1
 have t4:decide ((n:Int)≤y)=false:=Du h4;obtain⟨p,rfl⟩:∃ p:Nat,x=(p:Int):=⟨x.toNat,by omega⟩;obtain⟨j,rfl⟩:∃ j:Nat,y=(j:Int):=⟨y.toNat,by omega⟩;have hp:p<rows.length:=by omega
 have hj:j<n:=by omega
 have hr:=Dj (show cj (bh rows) n by rw[←hn.out];exact cZ G.out)
 have dm:=Dj (show ∀ r∈rows,r.ds.length=n from fun r g1=>by
  have:=hr.out r.qs (DU.2 ⟨r,g1,rfl⟩);rw[Eg] at this;exact this)
 obtain⟨a0,r0,rfl,cl,F,Y,Z⟩:=h.at hp;have gq:=Y.len;have b8:=Dj (dm.out r0 (Dm Z.out));have g5:j<r0.ds.length:=by rw[b8.out];exact hj
 obtain⟨b,e,eb,E,c2,c4,bv,dx,d3⟩:=Y.at g5
 have cx:=Dj (show fn (bh rows) p j=e.q by
  unfold fn bh;rw[Dk (l:=rows.map _),Dq,Z.out]
  show (r0.ds.map FrD.q).getD j 0=_
  rw[Dk,Dq,d3.out];rfl)
 rw[eb] at F Y;clear eb;have gv:(j:Int)<(r0.ds.length:Int):=by omega
 have gr:(p:Int)<(rows.length:Int):=by omega
 have gp:(0:Int)≤(p:Int):=by omega
 have h5:(0:Int)≤(j:Int):=by omega
 have e1:=(b1.cell (p:=a0.add p) (by rw[ac];exact cl)).trans F;have f0:=(b1.cell (p:=b.add (j*3)) (by rw[ac];exact E)).trans c2;have f1:=(b1.cell (p:=⟨(b.add (j*3)).block,(b.add (j*3)).off+1,none⟩) (by show (b.add (j*3)).block<_;rw[ac];exact E)).trans c4;have f2:=(b1.cell (p:=⟨(b.add (j*3)).block,(b.add (j*3)).off+2,none⟩) (by show (b.add (j*3)).block<_;rw[ac];exact E)).trans bv;go_wp2_with fail;refine (fV (dx.below b1)).mono ?_;rintro e' w3 ⟨rfl,b3⟩;have c9:=Di b1 b3;clear e1 f0 f1 f2
 by_cases hz:e.q=0
 · have hs:Hid (bH e.q 0=0):=cmpR_zero.2 hz;rw[hs.out];have hf:=Dj (show R=([],8) by rw[←hR.out];exact xl G.out (by rw[aE];exact hp) (by rw[hn.out];exact hj) (by rw[cx.out];exact hz));go_wp2
   go_ret2
   exact RetME.err hf.out rfl c9
 obtain⟨s,hs⟩:∃ s,Hid (bH e.q 0=s):=⟨_,rfl⟩;have gs:(s == 0)=false:=by rw[beq_eq_false_iff_ne];intro e';exact hz (cmpR_zero.1 (by rw[hs.out];exact e'))
 rw[hs.out];have d6:=Dj (show (fe (bh rows) p j,(0:Int))=R by rw[←hR.out];exact (vc G.out (by rw[aE];exact hp) (by rw[hn.out];exact hj) (by rw[cx.out];exact hz)).symm);have d5:=Dj (show e.q≠0 from hz);clear hz;have c0:=Dj (b4.out.row Z.out);have dp:=Dj (c0.out.fr e (Dm d3.out));obtain⟨qs,dr⟩:∃ qs,Hid (gT (bh rows) p j=qs):=⟨_,rfl⟩
 have bz:=Dj (show qs=(r0.ds.map FrD.q).map (fun q=>q / e.q) by
  rw[←dr.out];unfold gT;rw[cx.out,Dk (l:=bh rows)];unfold bh;rw[Dq,Z.out];rfl)
 have b9:=Dj (show qs.length=r0.ds.length by rw[bz.out,Dr,Dr]);have gb:=Dj c9;go_wp2
 go_loopw [8,9] (fun v i wr=>qI qs w v i wr) (fun _ i _=>r0.ds.length-(intOf i).toNat)
 case atStart=>exact⟨0,by omega,rfl,[],OwnQ.nil _ _,fun d hd=>by simp at hd,rfl,rfl,c9⟩
 case round =>
  obtain⟨k,hk,rfl,z⟩:=hrel;rw[b9.out] at hk;have C:=z.bel;have c3:a0.block<wr.heap.size:=Dn cl C.size;have bx:=(C.cell (p:=a0.add p) (by rw[ac];exact cl)).trans F
  by_cases hkl:k<r0.ds.length
  · have fb:(k:Int)<(r0.ds.length:Int):=by omega
    have b5:k<1000000000000:=by have:=b8.out;omega
    obtain⟨b',x,eb,cg,fz,g7,g0,hx,db⟩:=(Y.below C).at hkl
    cases eb
    have cs:b.block<wr.heap.size:=Dn E C.size;have f3:=(C.cell (p:=b.add (j*3)) (by rw[ac];exact E)).trans c2;have fm:=(C.cell (p:=⟨(b.add (j*3)).block,(b.add (j*3)).off+1,none⟩) (by show (b.add (j*3)).block<_;rw[ac];exact E)).trans c4;have f9:=(C.cell (p:=⟨(b.add (j*3)).block,(b.add (j*3)).off+2,none⟩) (by show (b.add (j*3)).block<_;rw[ac];exact E)).trans bv;have hc:=dx.below C;have dk:=Dj (c0.out.fr x (Dm db.out))
    have hq:Hid (qs[k]?=some (x.q / e.q)):=by
     show _=_
     rw[bz.out,Dq,Dq,db.out];rfl
    obtain⟨qk,cr⟩:∃ q',Hid (x.q / e.q=q'):=⟨_,rfl⟩;rw[cr.out] at hq;have bT:=DY wr.heap.size wr
    have hS:∀ w',Below wr.heap.size wr w'→w'.cell? (a0.add p)=some (.slice (some b) r0.ds.length r0.c)∧w'.cell? (b.add (k*3))=some (.bool x.neg)∧w'.cell? ⟨(b.add (k*3)).block,(b.add (k*3)).off+1,none⟩=some (.slice x.a x.la.length x.ca)∧w'.cell? ⟨(b.add (k*3)).block,(b.add (k*3)).off+2,none⟩=some (.slice x.b x.lb.length x.cb)∧w'.cell? (b.add (j*3))=some (.bool e.neg)∧w'.cell? ⟨(b.add (j*3)).block,(b.add (j*3)).off+1,none⟩=some (.slice e.a e.la.length e.ca)∧w'.cell? ⟨(b.add (j*3)).block,(b.add (j*3)).off+2,none⟩=some (.slice e.b e.lb.length e.cb)∧Below wr.heap.size wr w':=by
     intro w' o;exact⟨(o.cell (by show (a0.add p).block<_;rw[ac];exact c3)).trans bx,(o.cell (by show (b.add (k*3)).block<_;rw[ac];exact cg)).trans fz,(o.cell (by show (b.add (k*3)).block<_;rw[ac];exact cg)).trans g7,(o.cell (by show (b.add (k*3)).block<_;rw[ac];exact cg)).trans g0,(o.cell (by show (b.add (j*3)).block<_;rw[ac];exact cs)).trans f3,(o.cell (by show (b.add (j*3)).block<_;rw[ac];exact cs)).trans fm,(o.cell (by show (b.add (j*3)).block<_;rw[ac];exact cs)).trans f9,o⟩
    have bo:Below wr.heap.size wr wr:=DY _ _;have dS:Below wr.heap.size wr wr.drew:=bo.drew;go_wp2_with fail;refine DZ ?_;refine D0 (S:=fun w'=>w'.cell? (a0.add p)=some (.slice (some b) r0.ds.length r0.c)∧w'.cell? (b.add (k*3))=some (.bool x.neg)∧w'.cell? ⟨(b.add (k*3)).block,(b.add (k*3)).off+1,none⟩=some (.slice x.a x.la.length x.ca)∧w'.cell? ⟨(b.add (k*3)).block,(b.add (k*3)).off+2,none⟩=some (.slice x.b x.lb.length x.cb)∧w'.cell? (b.add (j*3))=some (.bool e.neg)∧w'.cell? ⟨(b.add (j*3)).block,(b.add (j*3)).off+1,none⟩=some (.slice e.a e.la.length e.ca)∧w'.cell? ⟨(b.add (j*3)).block,(b.add (j*3)).off+2,none⟩=some (.slice e.b e.lb.length e.cb)∧Below wr.heap.size wr w') (by kernel_rfl) (hS _ dS) (fun m=>?_);refine pE 0 1 2 3 4 5 6 7 m ?_;refine pz 8 9 10 11 m ?_;refine fA 12 13 m ?_;refine D6 (rs:=[14,18]) (by kernel_rfl) (by simp) ?_;refine D2 rfl (fun K hK=>?_) ?_
    · go_simp;have D:Below wr.heap.size wr wr.drew:=(DY _ _).drew;replace hx:=hx.below D;replace hc:=hc.below D;replace bo:=Di bo D;go_at_call 94;refine (np hx hc dk.out dp.out (by omega) d5.out).mono ?_;rintro e u1 ⟨v1,rfl,⟨n1,A1,a1,l1,B1,c1,m1,rfl,na,nb,iq⟩,b0⟩;replace hx:=hx.below b0;replace hc:=hc.below b0;replace bo:=Di bo b0;rw[cr.out] at iq;have cq:=Dj iq;clear iq;go_wp2_with fail;refine hK.out _ _ (hS _ bo) (fun m=>?_);clear hK K;(try simp only[aq]);refine fA 15 16 m ?_;refine dQ 17 rfl m ?_;refine aV 18 rfl fun K hK=>?_;have cz:wr.heap.size≤(u1).heap.size:=bo.size;obtain⟨u2,bn,V,fq,bd⟩:=ag u1 #[.bool false,.slice none 0 0,.slice none 0 0] 28;replace hx:=hx.below V;replace hc:=hc.below V;replace na:=na.below V;replace nb:=nb.below V;replace bo:=Di bo V;obtain⟨gz,N⟩:∃ g,g=(u1).heap.size:=⟨_,rfl⟩;have cd:wr.heap.size≤gz:=by rw[N];exact cz
      have Bz:Blk u2 gz 28 #[.bool false,.slice none 0 0,.slice none 0 0]:=by rw[N];exact bd
      clear bd;go_simp;refine hK.out _ _ (hS _ bo) (fun m=>?_);clear hK K;(try simp only[aq]);refine aV 19 rfl fun K hK=>?_;subst N;have q0:=Bz.free 0;have q1:=Bz.free 1;have q2:=Bz.free 2;have p0:=Bz.f0;have p1:=Bz.f1;have p2:=Bz.f2;go_simp;obtain⟨w9,c5,X,o9⟩:=Bz.set3 (.bool n1) (.slice A1 l1.length a1) (.slice B1 m1.length c1);rw[c5];replace bo:=o9.to_below bo cd bo.size;clear q0 q1 q2 p0 p1 p2;replace na:=na.only_blk Bz (ar _ _ _ _ _ _ _) o9;replace nb:=nb.only_blk Bz (ar _ _ _ _ _ _ _) o9;refine hK.out _ _ (hS _ bo) (fun m=>?_);clear hK K;(try simp only[aq]);refine dQ 20 rfl m ?_;refine D7 (by kernel_rfl) ?_ _;refine D1 ?_;(try go_simp);clear m;clear hS dS;have z0:=X.f0;have z1:=X.f1;have z2:=X.f2;replace z:=z.below bo;have iq:=cq.out;obtain⟨os,ho,U,O,t⟩:=z.app b5 hq.out na nb iq;clear na nb iq
      go_wp2_with (at_builtin;refine cQ rfl rfl _ _ rfl _ _ os rfl ho ⟨w9.heap.size,0,none⟩ 1 ⟨n1,A1,a1,l1,B1,c1,m1⟩ rfl (World.news_of_block (heap_alloc_new w9 _)) U O ?_;intro v6 w6 J L)
      have M:=t.out v6 w6 J L;clear t ho L J z;go_wp2;go_roundw
      case rel=>exact⟨k+1,by rw[b9.out];omega,by go_num,M⟩
      case measure=>simp[intOf];omega
    refine D2 rfl (fun K hK=>?_) ?_
    · have D:Below wr.heap.size wr wr.drew:=(DY _ _).drew;replace hx:=hx.below D;replace hc:=hc.below D;replace bo:=Di bo D;have cz:wr.heap.size≤(wr.drew).heap.size:=bo.size;obtain⟨u3,gm,c8,h0,dq⟩:=ag wr.drew #[.bool false,.slice none 0 0,.slice none 0 0] 28;replace hx:=hx.below c8;replace hc:=hc.below c8;replace bo:=Di bo c8;obtain⟨gz,N⟩:∃ g,g=(wr).heap.size:=⟨_,rfl⟩;have cd:wr.heap.size≤gz:=by rw[N];exact cz
      have Bz:Blk u3 gz 28 #[.bool false,.slice none 0 0,.slice none 0 0]:=by rw[N];exact dq
      clear dq;go_simp;refine hK.out _ _ (hS _ bo) (fun m=>?_);clear hK K;(try simp only[aq]);refine aV 14 rfl fun K hK=>?_;go_simp;go_at_call 94;refine (np hx hc dk.out dp.out (by omega) d5.out).mono ?_;rintro e u4 ⟨v1,rfl,⟨n1,A1,a1,l1,B1,c1,m1,rfl,na,nb,iq⟩,d8⟩;replace Bz:=Bz.keep d8;replace bo:=Di bo d8;rw[cr.out] at iq;have cq:=Dj iq;clear iq;go_wp2_with fail;refine hK.out _ _ (hS _ bo) (fun m=>?_);clear hK K;(try simp only[aq]);refine fA 15 16 m ?_;refine dQ 17 rfl m ?_;refine aV 19 rfl fun K hK=>?_;subst N;have q0:=Bz.free 0;have q1:=Bz.free 1;have q2:=Bz.free 2;have p0:=Bz.f0;have p1:=Bz.f1;have p2:=Bz.f2;go_simp;obtain⟨w9,c5,X,o9⟩:=Bz.set3 (.bool n1) (.slice A1 l1.length a1) (.slice B1 m1.length c1);rw[c5];replace bo:=o9.to_below bo cd bo.size;clear q0 q1 q2 p0 p1 p2;replace na:=na.only_blk Bz (ar _ _ _ _ _ _ _) o9;replace nb:=nb.only_blk Bz (ar _ _ _ _ _ _ _) o9;refine hK.out _ _ (hS _ bo) (fun m=>?_);clear hK K;(try simp only[aq]);refine dQ 20 rfl m ?_;refine D7 (by kernel_rfl) ?_ _;refine D1 ?_;(try go_simp);clear m;clear hS dS;have z0:=X.f0;have z1:=X.f1;have z2:=X.f2;replace z:=z.below bo;have iq:=cq.out
      obtain⟨os,ho,U,O,t⟩:=z.app b5 hq.out na nb iq;clear na nb iq
      go_wp2_with (at_builtin;refine cQ rfl rfl _ _ rfl _ _ os rfl ho ⟨w9.heap.size,0,none⟩ 1 ⟨n1,A1,a1,l1,B1,c1,m1⟩ rfl (World.news_of_block (heap_alloc_new w9 _)) U O ?_;intro v6 w6 J L)
      have M:=t.out v6 w6 J L;clear t ho L J z;go_wp2;go_roundw
      case rel=>exact⟨k+1,by rw[b9.out];omega,by go_num,M⟩
      case measure=>simp[intOf];omega
    exact D3
  · obtain rfl:k=r0.ds.length:=by omega
    have f4:decide ((r0.ds.length:Int)<(r0.ds.length:Int))=false:=Du (by omega);obtain⟨B1,bf,H,rfl,b6,d7⟩:=z.done b9.out.symm;have g8:=Dj (show H.length=n by rw[←Dr (f:=FrD.q),d7.out,b9.out,b8.out]);obtain⟨T,hT⟩:∃ T,Hid (fe (bh rows) p j=T):=⟨_,rfl⟩;have bq:=Dj (show T.length=rows.length by rw[←hT.out,eZ,aE]);have c7:=Dj (show H.map FrD.q=gT (bh rows) p j by rw[d7.out,dr.out]);have d1:=Dj (show QFits (K+K) (H.map FrD.q) by rw[c7.out];exact kV b4.out hr.out (by rw[aE];exact hp) hj);have gx:=b6.len;obtain⟨wl,g4⟩:∃ wl:World,wl=wr:=⟨_,rfl⟩;subst g4;have d2:=Dj C;have f5:=Dj F;clear z;go_wp2;clear C bx c3 F
    go_loopw [12,13] (fun v i wr=>vX T wl v i wr) (fun _ i _=>rows.length-(intOf i).toNat)
    case atStart=>exact⟨0,by omega,rfl,MtAt.start _ (DY _ _)⟩
    case round =>
     obtain⟨k,hk,rfl,z⟩:=hrel;rw[bq.out] at hk;have bb:=z.bel
     by_cases hkl:k<rows.length
     · have fb:(k:Int)<(rows.length:Int):=by omega
       have b5:k<1000000000000:=by omega
       by_cases hkp:k=p
       · have fx:((k:Int) == (p:Int))=true:=by rw[beq_iff_eq];omega
         have hq:Hid (T[k]?=some (RwD.qs ⟨B1,bf,H⟩)):=by
          show _=some (H.map FrD.q)
          rw[←hT.out,c7.out];unfold fe;rw[Dq,DS (by rw[aE];exact hkl)]
          simp[hkp]
         have ch:=b6.below bb;clear hkp;obtain⟨os,ho,U,O,t⟩:=z.app (r:=⟨B1,bf,H⟩) b5 hq.out ch
         go_wp2_with (at_builtin;go_loud (refine dD rfl Tryz.underlying56 rfl _ _ rfl _ _ os rfl ho ⟨wr.heap.size,0,none⟩ 1 ⟨B1,bf,H⟩ rfl (eO wr ⟨B1,bf,H⟩) U O ?_;intro v6 w6 J L))
         have M:=t.out v6 w6 J L;clear t ho L J z;go_wp2;go_roundw
         case rel=>exact⟨k+1,by rw[bq.out];omega,by go_num,M⟩
         case measure=>simp[intOf];omega
       · have fx:((k:Int) == (p:Int))=false:=by rw[beq_eq_false_iff_ne];omega
         obtain⟨a',r,ea,dh,b7,I,bg⟩:=(h.below d2.out).at hkl
         cases ea
         have g9:=I.len;have bc:=Dj (dm.out r (Dm bg.out));obtain⟨b2,y,eb,cm,fl,g3,g6,hy,dt⟩:=I.at (k:=j) (by rw[bc.out];exact hj)
         have fv:=Dj (show fn (bh rows) k j=y.q by
          unfold fn bh;rw[Dk (l:=rows.map _),Dq,bg.out]
          show (r.ds.map FrD.q).getD j 0=_
          rw[Dk,Dq,dt.out];rfl)
         have d4:=Dj (b4.out.row bg.out);have ft:=Dj (d4.out.fr y (Dm dt.out))
         have hq:Hid (T[k]?=some (iw (r.ds.map FrD.q) y.q (H.map FrD.q))):=by
          show _=_
          rw[←hT.out];unfold fe;rw[Dq,DS (by rw[aE];exact hkl)]
          show some (if k=p then _ else _)=_
          rw[if_neg hkp,fv.out,c7.out,Dk (l:=bh rows)];unfold bh;rw[Dq,bg.out];rfl
         have cv:=Dj (show r.ds.length=H.length by rw[bc.out,g8.out]);rw[eb] at b7 I;have gk:(j:Int)<(r.ds.length:Int):=by have:=bc.out;omega
         clear eb hkp;replace I:=I.below bb;replace hy:=hy.below bb;have cy:=b6.below bb;have bT:=z.bel
         have hS:∀ w',Below wl.heap.size wl w'→w'.cell? (a0.add k)=some (.slice (some b2) r.ds.length r.c)∧w'.cell? (b2.add (j*3))=some (.bool y.neg)∧w'.cell? ⟨(b2.add (j*3)).block,(b2.add (j*3)).off+1,none⟩=some (.slice y.a y.la.length y.ca)∧w'.cell? ⟨(b2.add (j*3)).block,(b2.add (j*3)).off+2,none⟩=some (.slice y.b y.lb.length y.cb)∧Below wl.heap.size wl w':=by
          intro w' o;exact⟨(o.cell (by show (a0.add k).block<_;rw[ac];exact dh)).trans b7,(o.cell (by show (b2.add (j*3)).block<_;rw[ac];exact cm)).trans fl,(o.cell (by show (b2.add (j*3)).block<_;rw[ac];exact cm)).trans g3,(o.cell (by show (b2.add (j*3)).block<_;rw[ac];exact cm)).trans g6,o⟩
         have bo:Below wl.heap.size wl wr:=z.bel;have dS:Below wl.heap.size wl wr.drew:=bo.drew;go_wp2_with fail;refine DZ ?_;refine D0 (S:=fun w'=>w'.cell? (a0.add k)=some (.slice (some b2) r.ds.length r.c)∧w'.cell? (b2.add (j*3))=some (.bool y.neg)∧w'.cell? ⟨(b2.add (j*3)).block,(b2.add (j*3)).off+1,none⟩=some (.slice y.a y.la.length y.ca)∧w'.cell? ⟨(b2.add (j*3)).block,(b2.add (j*3)).off+2,none⟩=some (.slice y.b y.lb.length y.cb)∧Below wl.heap.size wl w') (by kernel_rfl) (hS _ dS) (fun m=>?_);refine pE 0 1 2 3 4 5 6 7 m ?_;refine pz 8 9 10 11 m ?_;refine dQ 12 rfl m ?_;refine aV 13 rfl fun K hK=>?_;go_simp;have D:Below wr.heap.size wr wr.drew:=(DY _ _).drew;replace z:=z.below D;replace I:=I.below D;replace hy:=hy.below D;replace cy:=cy.below D;replace bo:=Di bo D;go_at_call 95;refine (wU I hy cy cv.out d4.out ft.out d1.out (by omega) (by have:=bc.out;omega)).mono ?_;rintro e u1 ⟨A6,c6,bm,rfl,g2,f6,b0⟩;replace z:=z.below b0
         replace bo:=Di bo b0;go_wp2_with fail;refine hK.out _ _ (hS _ bo) (fun m=>?_);clear hK K;(try simp only[aq]);refine aV 14 rfl fun K hK=>?_;obtain⟨os,ho,U,O,t⟩:=z.app (r:=⟨A6,c6,bm⟩) b5 (hq.out.trans (by show some _=some (bm.map FrD.q);rw[f6.out])) g2;obtain⟨u2,bn,V,fq,bd⟩:=ag u1 #[.slice A6 bm.length c6] 22;replace bo:=Di bo V;go_simp;refine hK.out _ _ (hS _ bo) (fun m=>?_);clear hK K;(try simp only[aq]);refine aV 15 rfl fun K hK=>?_;refine mq rfl Tryz.underlying56 _ _ rfl rfl wl.heap.size _ os rfl (by rw[←bn];exact ho) ⟨u1.heap.size,0,none⟩ 1 ⟨A6,c6,bm⟩ rfl (bd.cell 0) U (by rw[←bn];exact O) ?_;intro v8 w8 d9 d0;rw[←bn] at d0;have bs:=t.out v8 w8 d9 d0;replace bo:=bs.bel;clear t ho d0 d9;refine hK.out _ _ (hS _ bo) (fun m=>?_);clear hK K;(try simp only[aq]);refine dQ 16 rfl m ?_;refine D7 (by kernel_rfl) ?_ _;refine D1 ?_;(try go_simp);clear m;clear hS dS bo;go_wp2;go_roundw
         case rel=>exact⟨k+1,by rw[bq.out];omega,by go_num,bs⟩
         case measure=>simp[intOf];omega
     · obtain rfl:k=rows.length:=by omega
       have f4:decide ((rows.length:Int)<(rows.length:Int))=false:=Du (by omega);obtain⟨B,cb,es,rfl,ch,fs⟩:=z.done bq.out.symm;have e1:=Dj (show bh es=R.1 by rw[←d6.out,fs.out,←hT.out]);have e2:=Dj (show (0:Int)=R.2 by rw[←d6.out]);go_wp2
       go_ret2
       exact⟨B,cb,es,by rw[←e2.out];rfl,ch,e1,(Di d2.out bb)⟩
def tj:Option Nat→Int
 | none=>-1
 | some c=>(c:Int)
theorem sx {M:bp}{n:Nat}(h:cj M n) (hl:0<M.length):aW M=true∧colsL M=n:=by
 cases M with
 | nil=>simp at hl
 | cons r T =>
  have h1:colsL (r::T)=n:=h r DN;refine⟨?_,h1⟩;unfold aW;rw[List.all_eq_true];intro x hx;rw[h1,h x hx];simp
end Go.Proofs.YtjhkapjadfpimaaGreat
