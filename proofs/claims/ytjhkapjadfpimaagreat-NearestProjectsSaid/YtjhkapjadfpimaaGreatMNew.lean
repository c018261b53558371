/- Contracts of functions, for the law. -/
import Derived.Test.YtjhkapjadfpimaaGreatGDiv
namespace Go.Proofs.YtjhkapjadfpimaaGreat
set_option linter.unusedVariables false
set_option linter.unusedSimpArgs false
open Go.RowKit Plain
attribute [local go_sem ↓] Go.wp_at_zero Go.wp_at_succ
set_option maxRecDepth 100000
set_option maxHeartbeats 40000000
theorem uK {K:Nat}{A:Option Addr}{c:Nat}{rows:List RwD}{x y:Int}{w:World}(h:ML w A c rows) (hfm:MFits K (B9 rows)) (hK:4*K+1<400000000) (hrn:rows.length<1000000000) (hnn:colsL (B9 rows)<1000000000)
 (hx:-9223372036854775808≤x∧x≤9223372036854775807) (hy:-9223372036854775808≤y∧y≤9223372036854775807) :
 Calls Tryz.prog 83 #[.slice A rows.length c,.int .i64 x,.int .i64 y] w (RetME (lF (B9 rows) x y) w):=by
 have hl:=h.len;obtain⟨R,hR⟩:∃ R,Hid (lF (B9 rows) x y=R):=⟨_,rfl⟩;obtain⟨n,hn⟩:∃ n,Hid (colsL (B9 rows)=n):=⟨_,rfl⟩;have n8:n<1000000000:=by rw[←hn.out];exact hnn
 have c0:=a1k hfm;rw[hR.out];clear hnn hfm;go_enter Tryz.func83,Tryz.ntmps83;go_wp2_with fail;refine (fW h).mono ?_;rintro e w1 ⟨rfl,b1⟩
 rcases hfo:A0 (B9 rows) with _ | _
 · skip
   have hf:=a1k (show R=([],2) by rw[←hR.out];exact zS hfo);go_wp2
   go_ret2
   exact RetME.err hf.out rfl b1
 have G:=a1k hfo;clear hfo
 by_cases h1:x<0
 · have t1:decide (x<0)=true:=a1w h1;have hf:=a1k (show R=([],4) by rw[←hR.out];exact aD G.out (.inl h1));go_wp2
   go_ret2
   exact RetME.err hf.out rfl b1
 have t1:decide (x<0)=false:=a1v h1
 by_cases h2:(rows.length:Int)≤x
 · have t2:decide ((rows.length:Int)≤x)=true:=a1w h2;have hf:=a1k (show R=([],4) by rw[←hR.out];exact aD G.out (.inr (.inl (by rw[p8];exact h2))));go_wp2
   go_ret2
   exact RetME.err hf.out rfl b1
 have t2:decide ((rows.length:Int)≤x)=false:=a1v h2
 by_cases h3:y<0
 · have t3:decide (y<0)=true:=a1w h3;have hf:=a1k (show R=([],4) by rw[←hR.out];exact aD G.out (.inr (.inr (.inl h3))));go_wp2
   go_ret2
   exact RetME.err hf.out rfl b1
 have t3:decide (y<0)=false:=a1v h3;go_wp2_with fail;refine (aU (h.below b1)).mono ?_;rintro e w2 ⟨rfl,rfl⟩;rw[hn.out]
 by_cases h4:(n:Int)≤y
 · have t4:decide ((n:Int)≤y)=true:=a1w h4;have hf:=a1k (show R=([],4) by rw[←hR.out];exact aD G.out (.inr (.inr (.inr (by rw[hn.out];exact h4)))));go_wp2
   go_ret2
   exact RetME.err hf.out rfl b1
 have t4:decide ((n:Int)≤y)=false:=a1v h4;obtain⟨p,rfl⟩:∃ p:Nat,x=(p:Int):=⟨x.toNat,by omega⟩;obtain⟨j,rfl⟩:∃ j:Nat,y=(j:Int):=⟨y.toNat,by omega⟩;have hp:p<rows.length:=by omega
 have hj:j<n:=by omega
 have hr:=a1k (show E9 (B9 rows) n by rw[←hn.out];exact H5 G.out)
 have k5:=a1k (show ∀ r∈rows,r.ds.length=n from fun r l4=>by
  have:=hr.out r.qs (a2v.2 ⟨r,l4,rfl⟩);rw[a4l] at this;exact this)
 obtain⟨a0,r0,rfl,f3,E,Y,Z⟩:=h.at hp;have p6:=Y.len;have b6:=a1k (k5.out r0 (a1n Z.out));have n5:j<r0.ds.length:=by rw[b6.out];exact hj
 obtain⟨b,e,eb,F,d0,d5,d3,j0,h9⟩:=Y.at n5
 have d8:=a1k (show fn (B9 rows) p j=e.q by
  unfold fn B9;rw[a1l (l:=rows.map _),a1r,Z.out]
  show (r0.ds.map FrD.q).getD j 0=_
  rw[a1l,a1r,h9.out];rfl)
 rw[eb] at E Y;clear eb;have q3:(j:Int)<(r0.ds.length:Int):=by omega
 have q6:(p:Int)<(rows.length:Int):=by omega
 have p4:(0:Int)≤(p:Int):=by omega
 have q5:(0:Int)≤(j:Int):=by omega
 have e1:=(b1.cell (p:=a0.add p) (by rw[f7];exact f3)).trans E;have f0:=(b1.cell (p:=b.add (j*3)) (by rw[f7];exact F)).trans d0;have f1:=(b1.cell (p:=⟨(b.add (j*3)).block,(b.add (j*3)).off+1,none⟩) (by show (b.add (j*3)).block<_;rw[f7];exact F)).trans d5;have f2:=(b1.cell (p:=⟨(b.add (j*3)).block,(b.add (j*3)).off+2,none⟩) (by show (b.add (j*3)).block<_;rw[f7];exact F)).trans d3;go_wp2_with fail;refine (R1 (j0.below b1)).mono ?_;rintro e' w3 ⟨rfl,b3⟩;have d9:=a1j b1 b3;clear e1 f0 f1 f2
 by_cases hz:e.q=0
 · have hs:Hid (D0 e.q 0=0):=cmpR_zero.2 hz;rw[hs.out];have hf:=a1k (show R=([],8) by rw[←hR.out];exact zR G.out (by rw[p8];exact hp) (by rw[hn.out];exact hj) (by rw[d8.out];exact hz));go_wp2
   go_ret2
   exact RetME.err hf.out rfl d9
 obtain⟨s,hs⟩:∃ s,Hid (D0 e.q 0=s):=⟨_,rfl⟩;have q4:(s == 0)=false:=by rw[beq_eq_false_iff_ne];intro e';exact hz (cmpR_zero.1 (by rw[hs.out];exact e'))
 rw[hs.out];have j5:=a1k (show (O0 (B9 rows) p j,(0:Int))=R by rw[←hR.out];exact (xF G.out (by rw[p8];exact hp) (by rw[hn.out];exact hj) (by rw[d8.out];exact hz)).symm);have h5:=a1k (show e.q≠0 from hz);clear hz;have d7:=a1k (c0.out.row Z.out);have l0:=a1k (d7.out.fr e (a1n h9.out));obtain⟨qs,j3⟩:∃ qs,Hid (U7 (B9 rows) p j=qs):=⟨_,rfl⟩
 have d4:=a1k (show qs=(r0.ds.map FrD.q).map (fun q=>q / e.q) by
  rw[←j3.out];unfold U7;rw[d8.out,a1l (l:=B9 rows)];unfold B9;rw[a1r,Z.out];rfl)
 have b9:=a1k (show qs.length=r0.ds.length by rw[d4.out,a1s,a1s]);have n7:=a1k d9;go_wp2
 go_loopw [8,9] (fun v i wr=>oW qs w v i wr) (fun _ i _=>r0.ds.length-(intOf i).toNat)
 case atStart=>exact⟨0,by omega,rfl,[],OwnQ.nil _ _,fun d hd=>by simp at hd,rfl,rfl,d9⟩
 case round =>
  obtain⟨k,hk,rfl,z⟩:=hrel;rw[b9.out] at hk;have C:=z.bel;have d2:a0.block<wr.heap.size:=a1o f3 C.size;have d6:=(C.cell (p:=a0.add p) (by rw[f7];exact f3)).trans E
  by_cases hkl:k<r0.ds.length
  · have n2:(k:Int)<(r0.ds.length:Int):=by omega
    have b4:k<1000000000000:=by have:=b6.out;omega
    obtain⟨b',x,eb,f6,m3,l9,n4,hx,h6⟩:=(Y.below C).at hkl
    cases eb
    have g7:b.block<wr.heap.size:=a1o F C.size;have h8:=(C.cell (p:=b.add (j*3)) (by rw[f7];exact F)).trans d0;have m9:=(C.cell (p:=⟨(b.add (j*3)).block,(b.add (j*3)).off+1,none⟩) (by show (b.add (j*3)).block<_;rw[f7];exact F)).trans d5;have m5:=(C.cell (p:=⟨(b.add (j*3)).block,(b.add (j*3)).off+2,none⟩) (by show (b.add (j*3)).block<_;rw[f7];exact F)).trans d3;have hc:=j0.below C;have k3:=a1k (d7.out.fr x (a1n h6.out))
    have hq:Hid (qs[k]?=some (x.q / e.q)):=by
     show _=_
     rw[d4.out,a1r,a1r,h6.out];rfl
    obtain⟨qk,g9⟩:∃ q',Hid (x.q / e.q=q'):=⟨_,rfl⟩;rw[g9.out] at hq;have bT:=a3t wr.heap.size wr
    have hS:∀ w',Below wr.heap.size wr w'→w'.cell? (a0.add p)=some (.slice (some b) r0.ds.length r0.c)∧w'.cell? (b.add (k*3))=some (.bool x.neg)∧w'.cell? ⟨(b.add (k*3)).block,(b.add (k*3)).off+1,none⟩=some (.slice x.a x.la.length x.ca)∧w'.cell? ⟨(b.add (k*3)).block,(b.add (k*3)).off+2,none⟩=some (.slice x.b x.lb.length x.cb)∧w'.cell? (b.add (j*3))=some (.bool e.neg)∧w'.cell? ⟨(b.add (j*3)).block,(b.add (j*3)).off+1,none⟩=some (.slice e.a e.la.length e.ca)∧w'.cell? ⟨(b.add (j*3)).block,(b.add (j*3)).off+2,none⟩=some (.slice e.b e.lb.length e.cb)∧Below wr.heap.size wr w':=by
     intro w' o;exact⟨(o.cell (by show (a0.add p).block<_;rw[f7];exact d2)).trans d6,(o.cell (by show (b.add (k*3)).block<_;rw[f7];exact f6)).trans m3,(o.cell (by show (b.add (k*3)).block<_;rw[f7];exact f6)).trans l9,(o.cell (by show (b.add (k*3)).block<_;rw[f7];exact f6)).trans n4,(o.cell (by show (b.add (j*3)).block<_;rw[f7];exact g7)).trans h8,(o.cell (by show (b.add (j*3)).block<_;rw[f7];exact g7)).trans m9,(o.cell (by show (b.add (j*3)).block<_;rw[f7];exact g7)).trans m5,o⟩
    have bo:Below wr.heap.size wr wr:=a3t _ _;have dS:Below wr.heap.size wr wr.drew:=bo.drew;go_wp2_with fail;refine a3u ?_;refine a3v (S:=fun w'=>w'.cell? (a0.add p)=some (.slice (some b) r0.ds.length r0.c)∧w'.cell? (b.add (k*3))=some (.bool x.neg)∧w'.cell? ⟨(b.add (k*3)).block,(b.add (k*3)).off+1,none⟩=some (.slice x.a x.la.length x.ca)∧w'.cell? ⟨(b.add (k*3)).block,(b.add (k*3)).off+2,none⟩=some (.slice x.b x.lb.length x.cb)∧w'.cell? (b.add (j*3))=some (.bool e.neg)∧w'.cell? ⟨(b.add (j*3)).block,(b.add (j*3)).off+1,none⟩=some (.slice e.a e.la.length e.ca)∧w'.cell? ⟨(b.add (j*3)).block,(b.add (j*3)).off+2,none⟩=some (.slice e.b e.lb.length e.cb)∧Below wr.heap.size wr w') (by kernel_rfl) (hS _ dS) (fun m=>?_);refine mX 0 1 2 3 4 5 6 7 m ?_;refine mS 8 9 10 11 m ?_;refine P2 12 13 m ?_;refine a4b (rs:=[14,18]) (by kernel_rfl) (by simp) ?_;refine a3x rfl (fun K hK=>?_) ?_
    · go_simp;have D:Below wr.heap.size wr wr.drew:=(a3t _ _).drew;replace hx:=hx.below D;replace hc:=hc.below D;replace bo:=a1j bo D;go_at_call 94;refine (jD hx hc k3.out l0.out (by omega) h5.out).mono ?_;rintro e u1 ⟨v1,rfl,⟨n1,A1,a1,l1,B1,c1,m1,rfl,na,nb,iq⟩,b0⟩;replace hx:=hx.below b0;replace hc:=hc.below b0;replace bo:=a1j bo b0;rw[g9.out] at iq;have g4:=a1k iq;clear iq;go_wp2_with fail;refine hK.out _ _ (hS _ bo) (fun m=>?_);clear hK K;(try simp only[j9]);refine P2 15 16 m ?_;refine K4 17 rfl m ?_;refine z8 18 rfl fun K hK=>?_;have g3:wr.heap.size≤(u1).heap.size:=bo.size;obtain⟨u2,c2,V,m6,c9⟩:=f8 u1 #[.bool false,.slice none 0 0,.slice none 0 0] 28;replace hx:=hx.below V;replace hc:=hc.below V;replace na:=na.below V;replace nb:=nb.below V;replace bo:=a1j bo V;obtain⟨gz,U⟩:∃ g,g=(u1).heap.size:=⟨_,rfl⟩;have f5:wr.heap.size≤gz:=by rw[U];exact g3
      have Bz:Blk u2 gz 28 #[.bool false,.slice none 0 0,.slice none 0 0]:=by rw[U];exact c9
      clear c9;go_simp;refine hK.out _ _ (hS _ bo) (fun m=>?_);clear hK K;(try simp only[j9]);refine z8 19 rfl fun K hK=>?_;subst U;have q0:=Bz.free 0;have q1:=Bz.free 1;have q2:=Bz.free 2;have p0:=Bz.f0;have p1:=Bz.f1;have p2:=Bz.f2;go_simp;obtain⟨w9,f9,N,o9⟩:=Bz.set3 (.bool n1) (.slice A1 l1.length a1) (.slice B1 m1.length c1);rw[f9];replace bo:=o9.to_below bo f5 bo.size;clear q0 q1 q2 p0 p1 p2;replace na:=na.only_blk Bz (k7 _ _ _ _ _ _ _) o9;replace nb:=nb.only_blk Bz (k7 _ _ _ _ _ _ _) o9;refine hK.out _ _ (hS _ bo) (fun m=>?_);clear hK K;(try simp only[j9]);refine K4 20 rfl m ?_;refine a4c (by kernel_rfl) ?_ _;refine a3w ?_;(try go_simp);clear m;clear hS dS;have z0:=N.f0;have z1:=N.f1;have z2:=N.f2;replace z:=z.below bo;have iq:=g4.out;obtain⟨os,ho,O,X,t⟩:=z.app b4 hq.out na nb iq;clear na nb iq
      go_wp2_with (at_builtin;refine G9 rfl rfl _ _ rfl _ _ os rfl ho ⟨w9.heap.size,0,none⟩ 1 ⟨n1,A1,a1,l1,B1,c1,m1⟩ rfl (a4d (heap_alloc_new w9 _)) O X ?_;intro v6 w6 M J)
      have L:=t.out v6 w6 M J;clear t ho J M z;go_wp2;go_roundw
      case rel=>exact⟨k+1,by rw[b9.out];omega,by go_num,L⟩
      case measure=>simp[intOf];omega
    refine a3x rfl (fun K hK=>?_) ?_
    · have D:Below wr.heap.size wr wr.drew:=(a3t _ _).drew;replace hx:=hx.below D;replace hc:=hc.below D;replace bo:=a1j bo D;have g3:wr.heap.size≤(wr.drew).heap.size:=bo.size;obtain⟨u3,p3,g0,p5,j1⟩:=f8 wr.drew #[.bool false,.slice none 0 0,.slice none 0 0] 28;replace hx:=hx.below g0;replace hc:=hc.below g0;replace bo:=a1j bo g0;obtain⟨gz,U⟩:∃ g,g=(wr).heap.size:=⟨_,rfl⟩;have f5:wr.heap.size≤gz:=by rw[U];exact g3
      have Bz:Blk u3 gz 28 #[.bool false,.slice none 0 0,.slice none 0 0]:=by rw[U];exact j1
      clear j1;go_simp;refine hK.out _ _ (hS _ bo) (fun m=>?_);clear hK K;(try simp only[j9]);refine z8 14 rfl fun K hK=>?_;go_simp;go_at_call 94;refine (jD hx hc k3.out l0.out (by omega) h5.out).mono ?_;rintro e u4 ⟨v1,rfl,⟨n1,A1,a1,l1,B1,c1,m1,rfl,na,nb,iq⟩,k6⟩;replace Bz:=Bz.keep k6;replace bo:=a1j bo k6;rw[g9.out] at iq;have g4:=a1k iq;clear iq;go_wp2_with fail;refine hK.out _ _ (hS _ bo) (fun m=>?_);clear hK K;(try simp only[j9]);refine P2 15 16 m ?_;refine K4 17 rfl m ?_;refine z8 19 rfl fun K hK=>?_;subst U;have q0:=Bz.free 0;have q1:=Bz.free 1;have q2:=Bz.free 2;have p0:=Bz.f0;have p1:=Bz.f1;have p2:=Bz.f2;go_simp;obtain⟨w9,f9,N,o9⟩:=Bz.set3 (.bool n1) (.slice A1 l1.length a1) (.slice B1 m1.length c1);rw[f9];replace bo:=o9.to_below bo f5 bo.size;clear q0 q1 q2 p0 p1 p2;replace na:=na.only_blk Bz (k7 _ _ _ _ _ _ _) o9;replace nb:=nb.only_blk Bz (k7 _ _ _ _ _ _ _) o9;refine hK.out _ _ (hS _ bo) (fun m=>?_);clear hK K;(try simp only[j9]);refine K4 20 rfl m ?_;refine a4c (by kernel_rfl) ?_ _;refine a3w ?_;(try go_simp);clear m;clear hS dS;have z0:=N.f0;have z1:=N.f1;have z2:=N.f2;replace z:=z.below bo;have iq:=g4.out
      obtain⟨os,ho,O,X,t⟩:=z.app b4 hq.out na nb iq;clear na nb iq
      go_wp2_with (at_builtin;refine G9 rfl rfl _ _ rfl _ _ os rfl ho ⟨w9.heap.size,0,none⟩ 1 ⟨n1,A1,a1,l1,B1,c1,m1⟩ rfl (a4d (heap_alloc_new w9 _)) O X ?_;intro v6 w6 M J)
      have L:=t.out v6 w6 M J;clear t ho J M z;go_wp2;go_roundw
      case rel=>exact⟨k+1,by rw[b9.out];omega,by go_num,L⟩
      case measure=>simp[intOf];omega
    exact a3y
  · obtain rfl:k=r0.ds.length:=by omega
    have h7:decide ((r0.ds.length:Int)<(r0.ds.length:Int))=false:=a1v (by omega);obtain⟨B1,c8,H,rfl,b8,j4⟩:=z.done b9.out.symm;have l3:=a1k (show H.length=n by rw[←a1s (f:=FrD.q),j4.out,b9.out,b6.out]);obtain⟨T,hT⟩:∃ T,Hid (O0 (B9 rows) p j=T):=⟨_,rfl⟩;have c3:=a1k (show T.length=rows.length by rw[←hT.out,N7,p8]);have g6:=a1k (show H.map FrD.q=U7 (B9 rows) p j by rw[j4.out,j3.out]);have k1:=a1k (show QFits (K+K) (H.map FrD.q) by rw[g6.out];exact eU c0.out hr.out (by rw[p8];exact hp) hj);have q8:=b8.len;obtain⟨wl,m2⟩:∃ wl:World,wl=wr:=⟨_,rfl⟩;subst m2;have h0:=a1k C;have l2:=a1k E;clear z;go_wp2;clear C d6 d2 E
    go_loopw [12,13] (fun v i wr=>yK T wl v i wr) (fun _ i _=>rows.length-(intOf i).toNat)
    case atStart=>exact⟨0,by omega,rfl,MtAt.start _ (a3t _ _)⟩
    case round =>
     obtain⟨k,hk,rfl,z⟩:=hrel;rw[c3.out] at hk;have b7:=z.bel
     by_cases hkl:k<rows.length
     · have n2:(k:Int)<(rows.length:Int):=by omega
       have b4:k<1000000000000:=by omega
       by_cases hkp:k=p
       · have m4:((k:Int) == (p:Int))=true:=by rw[beq_iff_eq];omega
         have hq:Hid (T[k]?=some (RwD.qs ⟨B1,c8,H⟩)):=by
          show _=some (H.map FrD.q)
          rw[←hT.out,g6.out];unfold O0;rw[a1r,a2t (by rw[p8];exact hkl)]
          simp[hkp]
         have g1:=b8.below b7;clear hkp;obtain⟨os,ho,O,X,t⟩:=z.app (r:=⟨B1,c8,H⟩) b4 hq.out g1
         go_wp2_with (at_builtin;go_loud (refine J1 rfl Tryz.underlying56 rfl _ _ rfl _ _ os rfl ho ⟨wr.heap.size,0,none⟩ 1 ⟨B1,c8,H⟩ rfl (M6 wr ⟨B1,c8,H⟩) O X ?_;intro v6 w6 M J))
         have L:=t.out v6 w6 M J;clear t ho J M z;go_wp2;go_roundw
         case rel=>exact⟨k+1,by rw[c3.out];omega,by go_num,L⟩
         case measure=>simp[intOf];omega
       · have m4:((k:Int) == (p:Int))=false:=by rw[beq_eq_false_iff_ne];omega
         obtain⟨a',r,ea,k2,b5,I,c4⟩:=(h.below h0.out).at hkl
         cases ea
         have n9:=I.len;have c7:=a1k (k5.out r (a1n c4.out));obtain⟨b2,y,eb,g5,l6,l8,n0,hy,k4⟩:=I.at (k:=j) (by rw[c7.out];exact hj)
         have n3:=a1k (show fn (B9 rows) k j=y.q by
          unfold fn B9;rw[a1l (l:=rows.map _),a1r,c4.out]
          show (r.ds.map FrD.q).getD j 0=_
          rw[a1l,a1r,k4.out];rfl)
         have k0:=a1k (c0.out.row c4.out);have m8:=a1k (k0.out.fr y (a1n k4.out))
         have hq:Hid (T[k]?=some (W4 (r.ds.map FrD.q) y.q (H.map FrD.q))):=by
          show _=_
          rw[←hT.out];unfold O0;rw[a1r,a2t (by rw[p8];exact hkl)]
          show some (if k=p then _ else _)=_
          rw[if_neg hkp,n3.out,g6.out,a1l (l:=B9 rows)];unfold B9;rw[a1r,c4.out];rfl
         have g2:=a1k (show r.ds.length=H.length by rw[c7.out,l3.out]);rw[eb] at b5 I;have n6:(j:Int)<(r.ds.length:Int):=by have:=c7.out;omega
         clear eb hkp;replace I:=I.below b7;replace hy:=hy.below b7;have g8:=b8.below b7;have bT:=z.bel
         have hS:∀ w',Below wl.heap.size wl w'→w'.cell? (a0.add k)=some (.slice (some b2) r.ds.length r.c)∧w'.cell? (b2.add (j*3))=some (.bool y.neg)∧w'.cell? ⟨(b2.add (j*3)).block,(b2.add (j*3)).off+1,none⟩=some (.slice y.a y.la.length y.ca)∧w'.cell? ⟨(b2.add (j*3)).block,(b2.add (j*3)).off+2,none⟩=some (.slice y.b y.lb.length y.cb)∧Below wl.heap.size wl w':=by
          intro w' o;exact⟨(o.cell (by show (a0.add k).block<_;rw[f7];exact k2)).trans b5,(o.cell (by show (b2.add (j*3)).block<_;rw[f7];exact g5)).trans l6,(o.cell (by show (b2.add (j*3)).block<_;rw[f7];exact g5)).trans l8,(o.cell (by show (b2.add (j*3)).block<_;rw[f7];exact g5)).trans n0,o⟩
         have bo:Below wl.heap.size wl wr:=z.bel;have dS:Below wl.heap.size wl wr.drew:=bo.drew;go_wp2_with fail;refine a3u ?_;refine a3v (S:=fun w'=>w'.cell? (a0.add k)=some (.slice (some b2) r.ds.length r.c)∧w'.cell? (b2.add (j*3))=some (.bool y.neg)∧w'.cell? ⟨(b2.add (j*3)).block,(b2.add (j*3)).off+1,none⟩=some (.slice y.a y.la.length y.ca)∧w'.cell? ⟨(b2.add (j*3)).block,(b2.add (j*3)).off+2,none⟩=some (.slice y.b y.lb.length y.cb)∧Below wl.heap.size wl w') (by kernel_rfl) (hS _ dS) (fun m=>?_);refine mX 0 1 2 3 4 5 6 7 m ?_;refine mS 8 9 10 11 m ?_;refine K4 12 rfl m ?_;refine z8 13 rfl fun K hK=>?_;go_simp;have D:Below wr.heap.size wr wr.drew:=(a3t _ _).drew;replace z:=z.below D;replace I:=I.below D;replace hy:=hy.below D;replace g8:=g8.below D;replace bo:=a1j bo D;go_at_call 95;refine (zG I hy g8 g2.out k0.out m8.out k1.out (by omega) (by have:=c7.out;omega)).mono ?_;rintro e u1 ⟨A6,c6,c5,rfl,l7,m0,b0⟩;replace z:=z.below b0
         replace bo:=a1j bo b0;go_wp2_with fail;refine hK.out _ _ (hS _ bo) (fun m=>?_);clear hK K;(try simp only[j9]);refine z8 14 rfl fun K hK=>?_;obtain⟨os,ho,O,X,t⟩:=z.app (r:=⟨A6,c6,c5⟩) b4 (hq.out.trans (by show some _=some (c5.map FrD.q);rw[m0.out])) l7;obtain⟨u2,c2,V,m6,c9⟩:=f8 u1 #[.slice A6 c5.length c6] 22;replace bo:=a1j bo V;go_simp;refine hK.out _ _ (hS _ bo) (fun m=>?_);clear hK K;(try simp only[j9]);refine z8 15 rfl fun K hK=>?_;refine gS rfl Tryz.underlying56 _ _ rfl rfl wl.heap.size _ os rfl (by rw[←c2];exact ho) ⟨u1.heap.size,0,none⟩ 1 ⟨A6,c6,c5⟩ rfl (c9.cell 0) O (by rw[←c2];exact X) ?_;intro v8 w8 j2 f4;rw[←c2] at f4;have d1:=t.out v8 w8 j2 f4;replace bo:=d1.bel;clear t ho f4 j2;refine hK.out _ _ (hS _ bo) (fun m=>?_);clear hK K;(try simp only[j9]);refine K4 16 rfl m ?_;refine a4c (by kernel_rfl) ?_ _;refine a3w ?_;(try go_simp);clear m;clear hS dS bo;go_wp2;go_roundw
         case rel=>exact⟨k+1,by rw[c3.out];omega,by go_num,d1⟩
         case measure=>simp[intOf];omega
     · obtain rfl:k=rows.length:=by omega
       have h7:decide ((rows.length:Int)<(rows.length:Int))=false:=a1v (by omega);obtain⟨B,cb,es,rfl,g1,l5⟩:=z.done c3.out.symm;have e1:=a1k (show B9 es=R.1 by rw[←j5.out,l5.out,←hT.out]);have e2:=a1k (show (0:Int)=R.2 by rw[←j5.out]);go_wp2
       go_ret2
       exact⟨B,cb,es,by rw[←e2.out];rfl,g1,e1,(a1j h0.out b7)⟩
def tF:Option Nat→Int
 | none=>-1
 | some c=>(c:Int)
theorem rW {M:C4}{n:Nat}(h:E9 M n) (hl:0<M.length):A0 M=true∧colsL M=n:=by
 cases M with
 | nil=>simp at hl
 | cons r T =>
  have h1:colsL (r::T)=n:=h r a2o;refine⟨?_,h1⟩;unfold A0;rw[List.all_eq_true];intro x hx;rw[h1,h x hx];simp
end Go.Proofs.YtjhkapjadfpimaaGreat
