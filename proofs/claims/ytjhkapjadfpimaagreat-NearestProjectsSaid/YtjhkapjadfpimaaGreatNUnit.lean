/- Contracts of functions, for the law. -/
import Derived.Test.YtjhkapjadfpimaaGreatNApp
namespace Go.Proofs.YtjhkapjadfpimaaGreat
set_option linter.unusedVariables false
set_option linter.unusedSimpArgs false
open Go.RowKit Plain
attribute [local go_sem ↓] Go.wp_at_zero Go.wp_at_succ
set_option maxRecDepth 100000
set_option maxHeartbeats 40000000
def RetLF (R:List Rat × Int) (W:World) (e:Ending) (w':World):Prop:=∃ A c ds,e=.returned (.tuple #[.slice A ds.length c,.int .i64 R.2])∧FL w' A c ds∧Hid (ds.map FrD.q=R.1)∧Below W.heap.size W w'∧∀ a,A=some a→W.heap.size≤a.block
theorem RetLF.err {n:Int}{W:World}{e:Ending}{w':World}{R:List Rat × Int}(hR:R=([],n)) (he:e=.returned (.tuple #[.slice none 0 0,.int .i64 n])) (hb:Below W.heap.size W w'):RetLF R W e w':=by
 subst hR;exact⟨none,0,[],he,FL.nil _,rfl,hb,fun a e=>by cases e⟩
theorem tY {K:Nat}{A X:Option Addr}{c cx:Nat}{rows:List RwD}{bs:List FrD}{w:World}(h:ML w A c rows) (hx:FL w X cx bs) (hfm:MFits K (B9 rows)) (hfx:QFits K (bs.map FrD.q)) (hK:4*gK K (colsL (B9 rows))+1<400000000) (hrn:rows.length<1000000000) (hN:colsL (B9 rows)<100000000) :
 Calls Tryz.prog 93 #[.slice A rows.length c,.slice X bs.length cx] w (RetLF (J5 (B9 rows) (bs.map FrD.q)) w):=by
 obtain⟨n,hn⟩:∃ n,Hid (colsL (B9 rows)=n):=⟨_,rfl⟩;obtain⟨R,hR⟩:∃ m,Hid (J5 (B9 rows) (bs.map FrD.q)=m):=⟨_,rfl⟩;rw[hn.out] at hK hN;rw[hR.out];have p3:=a1k hfm;have n7:=a1k hfx;clear hfm hfx;have hl:=h.len;have s5:=hx.len;go_enter Tryz.func93,Tryz.ntmps93;go_wp2_with fail;refine (cols_any h).mono ?_;rintro e w1 ⟨rfl,b1⟩;rw[hn.out]
 rcases hfo:A0 (B9 rows) with _ | _
 · have hf:=a1k (show R=([],2) by rw[←hR.out];exact V9 (by rw[hfo];simp));rw[if_neg (by decide)];go_wp2
   go_ret2
   exact RetLF.err hf.out rfl b1
 rw[if_pos rfl];have d9:=a1k hfo;have hr:=a1k (show E9 (B9 rows) n by rw[←hn.out];exact H5 hfo);clear hfo
 by_cases hle0:¬ bs.length=rows.length
 · have h8:=hle0;have p5:((bs.length:Int) != (rows.length:Int))=true:=by simp;omega
   have hf:=a1k (show R=([],2) by rw[←hR.out];exact V9 (by rw[a1s,p8];exact fun h=>h8 h.2));go_wp2
   go_ret2
   exact RetLF.err hf.out rfl b1
 have h8:bs.length=rows.length:=a3s.1 hle0;clear hle0;have p5:((bs.length:Int) != (rows.length:Int))=false:=by rw[bne_eq_false_iff_eq];omega
 have j2:=a1k h8;have s2:bs.length≤rows.length:=by omega
 have s0:rows.length≤bs.length:=by omega
 clear h8;have q9:=a1k (show (C9 (B9 rows) (bs.map FrD.q)).length=rows.length by rw[O2 (by rw[a1s,p8];exact j2.out),p8]);obtain⟨T,hT⟩:∃ T,Hid (C9 (B9 rows) (bs.map FrD.q)=T):=⟨_,rfl⟩;have c9:=a1k (show T.length=rows.length by rw[←hT.out];exact q9.out)
 have r3:=a1k (show ∀ r∈rows,r.ds.length=n from fun r q3=>by
  have:=hr.out r.qs (a2v.2 ⟨r,q3,rfl⟩);rw[a4l] at this;exact this)
 go_wp2
 go_loopw [8,33] (fun v i wr=>yK T w v i wr) (fun _ i _=>rows.length-(intOf i).toNat)
 case atStart=>exact⟨0,by omega,rfl,MtAt.start _ b1⟩
 case round =>
  obtain⟨k,hk,rfl,z⟩:=hrel;rw[c9.out] at hk;have g7:=z.bel
  by_cases hkl:k<rows.length
  · have p1:(k:Int)<(rows.length:Int):=by omega
    have m4:k<1000000000000:=by omega
    have m8:k<bs.length:=by omega
    have s1:(k:Int)<(bs.length:Int):=by omega
    obtain⟨a,r,rfl,j5,b5,t,G⟩:=(h.below g7).at hkl;obtain⟨e,d,rfl,f1,n3,m3,m9,hd,c7⟩:=hx.at m8;replace hd:=hd.below g7;have k6:=t.len;have h5:r.ds.length=n:=r3.out r (a1n G.out);have s4:n≤r.c:=by omega
    have hq:Hid (T[k]?=some (r.qs++[d.q])):=by
     show _=_
     rw[←hT.out];unfold C9 B9;rw[List.getElem?_zipWith,a1r,a1r,G.out,c7.out];rfl
    obtain⟨rA,m6⟩:∃ x,r.a=x:=⟨_,rfl⟩;rw[m6] at t b5;clear m6
    cases rA with
    | none =>
     have bT:=z.bel
     have hS:∀ w',Below w.heap.size w w'→w'.cell? (e.add (k*3))=some (.bool d.neg)∧w'.cell? ⟨(e.add (k*3)).block,(e.add (k*3)).off+1,none⟩=some (.slice d.a d.la.length d.ca)∧w'.cell? ⟨(e.add (k*3)).block,(e.add (k*3)).off+2,none⟩=some (.slice d.b d.lb.length d.cb)∧Below w.heap.size w w':=by
      intro w' o;exact⟨(o.cell (by show (e.add (k*3)).block<_;rw[f7];exact f1)).trans n3,(o.cell (by show (e.add (k*3)).block<_;rw[f7];exact f1)).trans m3,(o.cell (by show (e.add (k*3)).block<_;rw[f7];exact f1)).trans m9,o⟩
     have bo:Below w.heap.size w wr:=z.bel;have dS:Below w.heap.size w wr.drew:=bo.drew;go_wp2_with fail;refine a3u ?_;refine a3v (S:=fun w'=>w'.cell? (e.add (k*3))=some (.bool d.neg)∧w'.cell? ⟨(e.add (k*3)).block,(e.add (k*3)).off+1,none⟩=some (.slice d.a d.la.length d.ca)∧w'.cell? ⟨(e.add (k*3)).block,(e.add (k*3)).off+2,none⟩=some (.slice d.b d.lb.length d.cb)∧Below w.heap.size w w') (by kernel_rfl) (hS _ dS) (fun p=>?_);refine mX 0 1 2 3 4 5 6 7 p ?_;refine K4 8 rfl p ?_;refine z8 9 rfl fun K hK=>?_;have M:Below wr.heap.size wr wr.drew:=(a3t _ _).drew;replace z:=z.below M;replace t:=t.below M;replace hd:=hd.below M;replace bo:=a1j bo M;obtain⟨n1,A1,a1,l1,B1,c1,m1,ev,na,nb,iq⟩:=id hd;clear na nb iq ev;obtain⟨y1,q8,V,p4,k3⟩:=f8 wr.drew #[.bool d.neg,.slice d.a d.la.length d.ca,.slice d.b d.lb.length d.cb] 28;replace z:=z.below V;replace t:=t.below V;replace hd:=hd.below V;replace bo:=a1j bo V;go_simp;refine hK.out _ _ (hS _ bo) (fun p=>?_);clear hK K;(try simp only[j9])
     refine z8 10 rfl fun K hK=>?_;refine fG rfl _ _ rfl rfl (ds:=r.ds) t (by rw[h5];rfl) ⟨wr.drew.heap.size,0,none⟩ 1 d rfl (a4d k3) (by omega) ?_;intro v6 w6 d6 C;have b6:Below y1.heap.size y1 w6:=⟨C.os,C.tape,C.output,C.size,fun g hg=>C.block g hg (by simp)⟩;replace z:=z.below b6;replace t:=t.below b6;replace hd:=hd.below b6;replace bo:=a1j bo b6;obtain⟨d1,E⟩:∃ x,Hid (r.ds++[d]=x):=⟨_,rfl⟩;rw[E.out] at d6
     obtain⟨A6,c6,rfl,g8⟩:=d6.fl (fun x hx=>by
      rw[←E.out] at hx
      rcases a3b.1 hx with hx | hx
      · exact t.fv x hx
      · simp at hx;subst hx;exact hd)
     clear d6 C;refine hK.out _ _ (hS _ bo) (fun p=>?_);clear hK K;(try simp only[j9]);refine z8 11 rfl fun K hK=>?_;obtain⟨os,ho,l0,l7,H⟩:=z.app (r:=⟨A6,c6,d1⟩) m4 (hq.out.trans (by rw[←E.out];simp[RwD.qs])) g8;have q1:=g8;obtain⟨y2,d4,l4,q6,l6⟩:=f8 w6 #[.slice A6 d1.length c6] 22;replace bo:=a1j bo l4;go_simp;refine hK.out _ _ (hS _ bo) (fun p=>?_);clear hK K;(try simp only[j9]);refine z8 12 rfl fun K hK=>?_;refine gS rfl Tryz.underlying129 _ _ rfl rfl w.heap.size _ os rfl (by rw[←d4];exact ho) ⟨w6.heap.size,0,none⟩ 1 ⟨A6,c6,d1⟩ rfl (l6.cell 0) l0 (by rw[←d4];exact l7) ?_;intro v8 w8 g6 c8;rw[←d4] at c8;have Y:=H.out v8 w8 g6 c8;replace bo:=Y.bel;clear H ho c8 g6;refine hK.out _ _ (hS _ bo) (fun p=>?_);clear hK K;(try simp only[j9]);refine K4 13 rfl p ?_;refine a4c (by kernel_rfl) ?_ _;refine a3w ?_;(try go_simp);clear p;clear hS dS bo;go_wp2;go_roundw
     case rel=>exact⟨k+1,by rw[c9.out];omega,by go_num,Y⟩
     case measure=>simp[intOf];omega
    | some ra =>
     have bT:=z.bel
     have hS:∀ w',Below w.heap.size w w'→w'.cell? (e.add (k*3))=some (.bool d.neg)∧w'.cell? ⟨(e.add (k*3)).block,(e.add (k*3)).off+1,none⟩=some (.slice d.a d.la.length d.ca)∧w'.cell? ⟨(e.add (k*3)).block,(e.add (k*3)).off+2,none⟩=some (.slice d.b d.lb.length d.cb)∧Below w.heap.size w w':=by
      intro w' o;exact⟨(o.cell (by show (e.add (k*3)).block<_;rw[f7];exact f1)).trans n3,(o.cell (by show (e.add (k*3)).block<_;rw[f7];exact f1)).trans m3,(o.cell (by show (e.add (k*3)).block<_;rw[f7];exact f1)).trans m9,o⟩
     have bo:Below w.heap.size w wr:=z.bel;have dS:Below w.heap.size w wr.drew:=bo.drew;go_wp2_with fail;refine a3u ?_;refine a3v (S:=fun w'=>w'.cell? (e.add (k*3))=some (.bool d.neg)∧w'.cell? ⟨(e.add (k*3)).block,(e.add (k*3)).off+1,none⟩=some (.slice d.a d.la.length d.ca)∧w'.cell? ⟨(e.add (k*3)).block,(e.add (k*3)).off+2,none⟩=some (.slice d.b d.lb.length d.cb)∧Below w.heap.size w w') (by kernel_rfl) (hS _ dS) (fun p=>?_);refine mX 0 1 2 3 4 5 6 7 p ?_;refine K4 8 rfl p ?_;refine z8 9 rfl fun K hK=>?_;have M:Below wr.heap.size wr wr.drew:=(a3t _ _).drew;replace z:=z.below M;replace t:=t.below M;replace hd:=hd.below M;replace bo:=a1j bo M;obtain⟨n1,A1,a1,l1,B1,c1,m1,ev,na,nb,iq⟩:=id hd;clear na nb iq ev;obtain⟨y1,q8,V,p4,k3⟩:=f8 wr.drew #[.bool d.neg,.slice d.a d.la.length d.ca,.slice d.b d.lb.length d.cb] 28;replace z:=z.below V;replace t:=t.below V;replace hd:=hd.below V;replace bo:=a1j bo V;go_simp;refine hK.out _ _ (hS _ bo) (fun p=>?_);clear hK K;(try simp only[j9])
     refine z8 10 rfl fun K hK=>?_;refine fG rfl _ _ rfl rfl (ds:=r.ds) t (by rw[h5];rfl) ⟨wr.drew.heap.size,0,none⟩ 1 d rfl (a4d k3) (by omega) ?_;intro v6 w6 d6 C;have b6:Below y1.heap.size y1 w6:=⟨C.os,C.tape,C.output,C.size,fun g hg=>C.block g hg (by simp)⟩;replace z:=z.below b6;replace t:=t.below b6;replace hd:=hd.below b6;replace bo:=a1j bo b6;obtain⟨d1,E⟩:∃ x,Hid (r.ds++[d]=x):=⟨_,rfl⟩;rw[E.out] at d6
     obtain⟨A6,c6,rfl,g8⟩:=d6.fl (fun x hx=>by
      rw[←E.out] at hx
      rcases a3b.1 hx with hx | hx
      · exact t.fv x hx
      · simp at hx;subst hx;exact hd)
     clear d6 C;refine hK.out _ _ (hS _ bo) (fun p=>?_);clear hK K;(try simp only[j9]);refine z8 11 rfl fun K hK=>?_;obtain⟨os,ho,l0,l7,H⟩:=z.app (r:=⟨A6,c6,d1⟩) m4 (hq.out.trans (by rw[←E.out];simp[RwD.qs])) g8;have q1:=g8;obtain⟨y2,d4,l4,q6,l6⟩:=f8 w6 #[.slice A6 d1.length c6] 22;replace bo:=a1j bo l4;go_simp;refine hK.out _ _ (hS _ bo) (fun p=>?_);clear hK K;(try simp only[j9]);refine z8 12 rfl fun K hK=>?_;refine gS rfl Tryz.underlying129 _ _ rfl rfl w.heap.size _ os rfl (by rw[←d4];exact ho) ⟨w6.heap.size,0,none⟩ 1 ⟨A6,c6,d1⟩ rfl (l6.cell 0) l0 (by rw[←d4];exact l7) ?_;intro v8 w8 g6 c8;rw[←d4] at c8;have Y:=H.out v8 w8 g6 c8;replace bo:=Y.bel;clear H ho c8 g6;refine hK.out _ _ (hS _ bo) (fun p=>?_);clear hK K;(try simp only[j9]);refine K4 13 rfl p ?_;refine a4c (by kernel_rfl) ?_ _;refine a3w ?_;(try go_simp);clear p;clear hS dS bo;go_wp2;go_roundw
     case rel=>exact⟨k+1,by rw[c9.out];omega,by go_num,Y⟩
     case measure=>simp[intOf];omega
  · obtain rfl:k=rows.length:=by omega
    have J:decide ((rows.length:Int)<(rows.length:Int))=false:=a1v (by omega);obtain⟨B,cb,es,rfl,q4,h7⟩:=z.done c9.out.symm;have n0:=a1k (show es.length=rows.length by rw[←p8,h7.out,c9.out]);have k1:=a1k (show E9 T (n+1) by rw[←hT.out];exact N0 hr.out);have n2:=a1k (show MFits K T by rw[←hT.out];exact eC p3.out n7.out);have F:=a1k (L3 k1.out n (by omega));have r1:=a1k (Z8 n2.out k1.out n (by omega));have U:=a1k (show (bs.map FrD.q).length=(B9 rows).length by rw[a1s,p8];exact j2.out);obtain⟨S,hS⟩:∃ S,Hid (reduceL T n=S):=⟨_,rfl⟩;go_wp2_with fail;refine (uP (N:=n+1) (n:=n) q4 (by rw[h7.out];exact k1.out) (by omega) (by rw[h7.out];exact n2.out) hK (by rw[n0.out];exact hrn) (by omega)).mono ?_;rw[h7.out];rw[hS.out] at F r1 ⊢;obtain⟨Q,is⟩:=S;rintro e w2 ⟨B2,n8,fs,L,cl,rfl,f6,n9,p2,b2⟩;have d7:=a1j g7 b2;have y:Hid (B9 fs=Q):=n9;have d8:ILs w2 L cl is:=p2;clear n9 p2;have r6:=d8.1;have r4:=d8.2.1;have r5:=f6.len
    have l8:=a1k (show fs.length=rows.length by
     have:=F.out.len;rw[←p8,y.out];simpa [c9.out] using this)
    have k4:=a1k (show is.length≤fs.length by
     have:=F.out.le;rw[l8.out];simpa [c9.out] using this)
    have r8:=k4.out;have r0:(is.length:Int)≤(fs.length:Int):=by omega
    have h4:=a1k (show ∀ j x,is[j]?=some x→x<n from fun j x hj=>(F.out.red.lt (x,j) (a1n (gM hj))).1)
    cases B2 with
    | none =>
     have j3:fs.length=0:=by
      rcases a3a fs.length with h0 | h0
      · exact h0
      · obtain⟨a,r,ea,_⟩:=f6.at h0
        cases ea
     have j4:is.length=0:=by omega
     have n4:fs.length-is.length=0:=by omega
     have r2:fs.length≤is.length:=by omega
     have s3:=a1k j3;have p6:=a1k j4;have d0:=a1k n4;clear j3 j4 n4;go_wp2
     go_loopw [66] (fun i wr=>qV Q is.length n w2 i wr) (fun i _=>fs.length-is.length-(intOf i).toNat)
     case atStart=>exact⟨0,by rw[←y.out,p8];omega,rfl,fun i h1 h2=>by omega,a3t _ _⟩
     case round =>
      obtain⟨j,hj,rfl,hz,b3⟩:=hrel;rw[←y.out,p8] at hj;obtain rfl:j=0:=by have:=d0.out;omega
      have g9:=a1k (show is.length+0=fs.length by have:=d0.out;omega);have J:decide ((0:Int)<((fs.length-is.length:Nat):Int))=false:=a1v (by have:=d0.out;omega);have f5:=a1j d7 b3;have D:=a1k (Z5 (R:=Q) (k:=is.length) (n:=n) (fun i h1 h2=>hz.out i h1 (by rw[g9.out,←p8,y.out];exact h2)))
      have b8:=a1k (show (M5 is.zipIdx (fun i=>fn Q i n) (List.replicate n 0),(0:Int))=R by
       have:=bJ d9.out U.out hn.out (by rw[hT.out,hS.out];exact D.out);rw[hT.out,hS.out] at this;rw[←hR.out,this])
      go_wp2_with fail;refine (gN n (by omega) wr).mono ?_;rintro e w4 ⟨g,ds,rfl,hA,b9,I,hg,b4⟩;have c2:ds.length=n:=by rw[←a1s (f:=FrD.q),I.out,a1p]
      have c0:ColAt g (List.replicate n 0) wr w4:=⟨ds,hA,b9,I.out,b4⟩;have d3:=a1k hg;rw[c2];clear hA b9 I c2 hg;go_wp2
      go_loopw [81] (fun i w'=>wJ is (fun i=>fn Q i n) (List.replicate n 0) g wr i w') (fun i _=>is.length-(intOf i).toNat)
      case atStart=>exact⟨0,by omega,rfl,c0⟩
      case round =>
       obtain⟨k,hk,rfl,hc⟩:=hrel;have hb:=hc.bel;have O:=a1j b3 hb;have g5:=a1j d7 O
       by_cases hkl:k<is.length
       · exact absurd hkl (by have:=p6.out;omega)
       · obtain rfl:k=is.length:=by omega
         have J:decide ((is.length:Int)<(is.length:Int))=false:=a1v (by omega);rw[a1q (by rw[List.length_zipIdx];exact a1u _)] at hc;have c4:(M5 is.zipIdx (fun i=>fn Q i n) (List.replicate n 0)).length=n:=by rw[I1,a1p]
         obtain⟨c3,b0,b7,h3⟩:=hc.done (by omega);have Z:c3.length=n:=b0.trans c4;clear b0 c4;go_wp2
         go_ret2
         exact⟨_,_,c3,by rw[←b8.out,Z];rfl,b7,by rw[←b8.out];exact h3,g5,fun a e=>by cases e;exact a1t f5.size d3.out⟩
    | some a =>
     by_cases hct:n8=is.length
     · obtain rfl:=hct;have d0:=a1k (show fs.length-is.length=0 by omega);go_wp2
       go_loopw [66] (fun i wr=>qV Q is.length n w2 i wr) (fun i _=>fs.length-is.length-(intOf i).toNat)
       case atStart=>exact⟨0,by rw[←y.out,p8];omega,rfl,fun i h1 h2=>by omega,a3t _ _⟩
       case round =>
        obtain⟨j,hj,rfl,hz,b3⟩:=hrel;rw[←y.out,p8] at hj;obtain rfl:j=0:=by have:=d0.out;omega
        have g9:=a1k (show is.length+0=fs.length by have:=d0.out;omega);have J:decide ((0:Int)<((fs.length-is.length:Nat):Int))=false:=a1v (by have:=d0.out;omega);have f5:=a1j d7 b3;have D:=a1k (Z5 (R:=Q) (k:=is.length) (n:=n) (fun i h1 h2=>hz.out i h1 (by rw[g9.out,←p8,y.out];exact h2)))
        have b8:=a1k (show (M5 is.zipIdx (fun i=>fn Q i n) (List.replicate n 0),(0:Int))=R by
         have:=bJ d9.out U.out hn.out (by rw[hT.out,hS.out];exact D.out);rw[hT.out,hS.out] at this;rw[←hR.out,this])
        go_wp2_with fail;refine (gN n (by omega) wr).mono ?_;rintro e w4 ⟨g,ds,rfl,hA,b9,I,hg,b4⟩;have c2:ds.length=n:=by rw[←a1s (f:=FrD.q),I.out,a1p]
        have c0:ColAt g (List.replicate n 0) wr w4:=⟨ds,hA,b9,I.out,b4⟩;have d3:=a1k hg;rw[c2];clear hA b9 I c2 hg;go_wp2
        go_loopw [81] (fun i w'=>wJ is (fun i=>fn Q i n) (List.replicate n 0) g wr i w') (fun i _=>is.length-(intOf i).toNat)
        case atStart=>exact⟨0,by omega,rfl,c0⟩
        case round =>
         obtain⟨k,hk,rfl,hc⟩:=hrel;have hb:=hc.bel;have O:=a1j b3 hb;have g5:=a1j d7 O
         by_cases hkl:k<is.length
         · have p1:(k:Int)<(is.length:Int):=by omega
           obtain⟨x,hx⟩:∃ x,Hid (is[k]?=some x):=⟨_,a1m hkl⟩;obtain⟨q2,l3,m2,l9⟩:=(d8.below O).2.2 k x hx.out
           cases l3
           have f2:k<fs.length:=by omega
           have l2:(k:Int)<(fs.length:Int):=by omega
           obtain⟨a',r,ea,j5,b5,t,G⟩:=(f6.below O).at f2
           cases ea
           have k6:=t.len
           have h5:r.ds.length=n+1:=by
            have:=F.out.rct r.qs (by
             show r.qs∈Q
             rw[←y.out];exact a2v.2 ⟨r,a1n G.out,rfl⟩)
            rw[a4l] at this;exact this
           obtain⟨b,d,eb,n6,h6,j0,h9,f9,c7⟩:=t.at (k:=n) (by omega)
           have f0:=a1k (show d.q=fn Q k n by
            rw[←y.out];unfold fn B9;rw[a1l (l:=fs.map _),a1r,G.out]
            show _=(r.ds.map FrD.q).getD n 0
            rw[a1l,a1r,c7.out];rfl)
           rw[eb] at b5;clear t eb;have j1:(n:Int)<(r.ds.length:Int):=by omega
           have k2:=h4.out k x hx.out;have m0:(x:Int)<(n:Int):=by omega
           obtain⟨n5,A5,c5,l5,B5,d5,m5,ev,g3,g4,d2⟩:=f9;rw[f0.out] at d2
           unfold FrD.v B8 at ev
           injection ev with ev
           have e1:d.neg=n5:=by injection ev with ev;injection ev with ev _;injection ev
           have f3:(.slice d.a d.la.length d.ca:Value)=.slice A5 l5.length c5:=by injection ev with ev;injection ev with _ ev;injection ev
           have f4:(.slice d.b d.lb.length d.cb:Value)=.slice B5 m5.length d5:=by injection ev with ev;injection ev with _ ev;injection ev with _ ev;injection ev
           rw[e1] at h6;rw[f3] at j0;rw[f4] at h9;clear ev e1 f3 f4;obtain⟨y0,y1,y2,w7,z0,z1,z2,g0,g1,g2,e7,k0⟩:=hc.store (k:=x) (by rw[I1,a1p];exact k2) d3.out g3 g4 d2;have k5:=a1k (jF (f:=fun i=>fn Q i n) (qs:=List.replicate n 0) (gM hx.out));clear g3 g4 d2 hc;go_wp2;exact⟨⟨k+1,by omega,by go_num,by rw[k5.out];exact k0⟩,by simp[intOf];omega⟩
         · obtain rfl:k=is.length:=by omega
           have J:decide ((is.length:Int)<(is.length:Int))=false:=a1v (by omega);rw[a1q (by rw[List.length_zipIdx];exact a1u _)] at hc;have c4:(M5 is.zipIdx (fun i=>fn Q i n) (List.replicate n 0)).length=n:=by rw[I1,a1p]
           obtain⟨c3,b0,b7,h3⟩:=hc.done (by omega);have Z:c3.length=n:=b0.trans c4;clear b0 c4;go_wp2
           go_ret2
           exact⟨_,_,c3,by rw[←b8.out,Z];rfl,b7,by rw[←b8.out];exact h3,g5,fun a e=>by cases e;exact a1t f5.size d3.out⟩
     · have s6:(is.length:Int)≤(n8:Int):=by omega
       go_wp2
       go_loopw [66] (fun i wr=>qV Q is.length n w2 i wr) (fun i _=>fs.length-is.length-(intOf i).toNat)
       case atStart=>exact⟨0,by rw[←y.out,p8];omega,rfl,fun i h1 h2=>by omega,a3t _ _⟩
       case round =>
        obtain⟨j,hj,rfl,hz,b3⟩:=hrel;rw[←y.out,p8] at hj
        by_cases hjl:is.length+j<fs.length
        · have s7:(j:Int)<((fs.length-is.length:Nat):Int):=by omega
          obtain⟨a',r,ea,j5,b5,t,G⟩:=(f6.below b3).at hjl
          cases ea
          rw[←Addr.add_add] at b5;have k6:=t.len
          have h5:r.ds.length=n+1:=by
           have:=F.out.rct r.qs (by
            show r.qs∈Q
            rw[←y.out];exact a2v.2 ⟨r,a1n G.out,rfl⟩)
           rw[a4l] at this;exact this
          obtain⟨b,d,eb,n6,h6,j0,h9,f9,c7⟩:=t.at (k:=n) (by omega)
          have f0:=a1k (show d.q=fn Q (is.length+j) n by
           rw[←y.out];unfold fn B9;rw[a1l (l:=fs.map _),a1r,G.out]
           show _=(r.ds.map FrD.q).getD n 0
           rw[a1l,a1r,c7.out];rfl)
          rw[eb] at b5;clear t eb;have j1:(n:Int)<(r.ds.length:Int):=by omega
          go_wp2_with fail;refine (F4 f9).mono ?_;rintro e w6 ⟨rfl,b6⟩;have p0:=a1j b3 b6
          by_cases hzd:d.q=0
          · have hs:Hid (D0 d.q 0=0):=cmpR_zero.2 hzd
            have q0:=a1k (show ∀ i,is.length≤i→i<is.length+(j+1)→fn Q i n=0 from fun i h1 h2=>by
             rcases a3h i (is.length+j) with h | h
             · exact hz.out i h1 h
             · rw[show i=is.length+j by omega,←f0.out];exact hzd)
            rw[hs.out];clear hzd;go_wp2;go_roundw
            case rel=>exact⟨j+1,by rw[←y.out,p8];omega,by go_num,q0,p0⟩
            case measure=>simp[intOf];omega
          · obtain⟨s,hs⟩:∃ s,Hid (D0 d.q 0=s):=⟨_,rfl⟩;have s8:(s != 0)=true:=by rw[bne_iff_ne];intro e;exact hzd (cmpR_zero.1 (by rw[hs.out];exact e))
            have q5:=a1k (rT (R:=Q) (k:=is.length) (n:=n) (i:=is.length+j) (by omega) (by rw[←y.out,p8];exact hjl) (by rw[←f0.out];exact hzd));have hf:=a1k (show R=([],6) by rw[←hR.out];exact rM d9.out U.out hn.out (by rw[hT.out,hS.out];exact q5.out));rw[hs.out];clear hzd;go_wp2
            go_ret2
            exact RetLF.err hf.out rfl ((a1j d7 p0))
        · have g9:=a1k (show is.length+j=fs.length by omega);have J:decide ((j:Int)<((fs.length-is.length:Nat):Int))=false:=a1v (by omega);have f5:=a1j d7 b3;have D:=a1k (Z5 (R:=Q) (k:=is.length) (n:=n) (fun i h1 h2=>hz.out i h1 (by rw[g9.out,←p8,y.out];exact h2)))
          have b8:=a1k (show (M5 is.zipIdx (fun i=>fn Q i n) (List.replicate n 0),(0:Int))=R by
           have:=bJ d9.out U.out hn.out (by rw[hT.out,hS.out];exact D.out);rw[hT.out,hS.out] at this;rw[←hR.out,this])
          go_wp2_with fail;refine (gN n (by omega) wr).mono ?_;rintro e w4 ⟨g,ds,rfl,hA,b9,I,hg,b4⟩;have c2:ds.length=n:=by rw[←a1s (f:=FrD.q),I.out,a1p]
          have c0:ColAt g (List.replicate n 0) wr w4:=⟨ds,hA,b9,I.out,b4⟩;have d3:=a1k hg;rw[c2];clear hA b9 I c2 hg;go_wp2
          go_loopw [81] (fun i w'=>wJ is (fun i=>fn Q i n) (List.replicate n 0) g wr i w') (fun i _=>is.length-(intOf i).toNat)
          case atStart=>exact⟨0,by omega,rfl,c0⟩
          case round =>
           obtain⟨k,hk,rfl,hc⟩:=hrel;have hb:=hc.bel;have O:=a1j b3 hb;have g5:=a1j d7 O
           by_cases hkl:k<is.length
           · have p1:(k:Int)<(is.length:Int):=by omega
             obtain⟨x,hx⟩:∃ x,Hid (is[k]?=some x):=⟨_,a1m hkl⟩;obtain⟨q2,l3,m2,l9⟩:=(d8.below O).2.2 k x hx.out
             cases l3
             have f2:k<fs.length:=by omega
             have l2:(k:Int)<(fs.length:Int):=by omega
             obtain⟨a',r,ea,j5,b5,t,G⟩:=(f6.below O).at f2
             cases ea
             have k6:=t.len
             have h5:r.ds.length=n+1:=by
              have:=F.out.rct r.qs (by
               show r.qs∈Q
               rw[←y.out];exact a2v.2 ⟨r,a1n G.out,rfl⟩)
              rw[a4l] at this;exact this
             obtain⟨b,d,eb,n6,h6,j0,h9,f9,c7⟩:=t.at (k:=n) (by omega)
             have f0:=a1k (show d.q=fn Q k n by
              rw[←y.out];unfold fn B9;rw[a1l (l:=fs.map _),a1r,G.out]
              show _=(r.ds.map FrD.q).getD n 0
              rw[a1l,a1r,c7.out];rfl)
             rw[eb] at b5;clear t eb;have j1:(n:Int)<(r.ds.length:Int):=by omega
             have k2:=h4.out k x hx.out;have m0:(x:Int)<(n:Int):=by omega
             obtain⟨n5,A5,c5,l5,B5,d5,m5,ev,g3,g4,d2⟩:=f9;rw[f0.out] at d2
             unfold FrD.v B8 at ev
             injection ev with ev
             have e1:d.neg=n5:=by injection ev with ev;injection ev with ev _;injection ev
             have f3:(.slice d.a d.la.length d.ca:Value)=.slice A5 l5.length c5:=by injection ev with ev;injection ev with _ ev;injection ev
             have f4:(.slice d.b d.lb.length d.cb:Value)=.slice B5 m5.length d5:=by injection ev with ev;injection ev with _ ev;injection ev with _ ev;injection ev
             rw[e1] at h6;rw[f3] at j0;rw[f4] at h9;clear ev e1 f3 f4;obtain⟨y0,y1,y2,w7,z0,z1,z2,g0,g1,g2,e7,k0⟩:=hc.store (k:=x) (by rw[I1,a1p];exact k2) d3.out g3 g4 d2;have k5:=a1k (jF (f:=fun i=>fn Q i n) (qs:=List.replicate n 0) (gM hx.out));clear g3 g4 d2 hc;go_wp2;exact⟨⟨k+1,by omega,by go_num,by rw[k5.out];exact k0⟩,by simp[intOf];omega⟩
           · obtain rfl:k=is.length:=by omega
             have J:decide ((is.length:Int)<(is.length:Int))=false:=a1v (by omega);rw[a1q (by rw[List.length_zipIdx];exact a1u _)] at hc;have c4:(M5 is.zipIdx (fun i=>fn Q i n) (List.replicate n 0)).length=n:=by rw[I1,a1p]
             obtain⟨c3,b0,b7,h3⟩:=hc.done (by omega);have Z:c3.length=n:=b0.trans c4;clear b0 c4;go_wp2
             go_ret2
             exact⟨_,_,c3,by rw[←b8.out,Z];rfl,b7,by rw[←b8.out];exact h3,g5,fun a e=>by cases e;exact a1t f5.size d3.out⟩
def FAt (T:List Rat) (g k:Nat) (root wr:World):Prop:=∃ ds:List FrD,ArrQ wr g ds∧ds.length=T.length∧(∀ j d,j<k→ds[j]?=some d→FV wr d.v d.q∧T[j]?=some d.q)∧Below root.heap.size root wr
theorem FAt.below {T:List Rat}{g k:Nat}{root w w':World}(h:FAt T g k root w) (hb:Below w.heap.size w w'):FAt T g k root w':=by
 obtain⟨ds,h1,h2,h3,h4⟩:=h;exact⟨ds,h1.below hb,h2,fun j d hj hd=>⟨(h3 j d hj hd).1.below hb,(h3 j d hj hd).2⟩,(a1j h4 hb)⟩
theorem FAt.bel {T:List Rat}{g k:Nat}{root w:World}(h:FAt T g k root w):Below root.heap.size root w:=by
 obtain⟨ds,h1,h2,h3,h4⟩:=h;exact h4
theorem FAt.put {T:List Rat}{g k:Nat}{root w:World}(h:FAt T g k root w) (hk:k<T.length) (hg:root.heap.size≤g){d:FrD}(hd:FV w d.v d.q) :
 ∃ (u0 u1 u2:Value) (w9:World),w.cell? ⟨g,k*3,none⟩=some u0∧w.cell? ⟨g,k*3+1,none⟩=some u1∧w.cell? ⟨g,k*3+2,none⟩=some u2∧w.frozen? ⟨g,k*3,none⟩=false∧w.frozen? ⟨g,k*3+1,none⟩=false∧w.frozen? ⟨g,k*3+2,none⟩=false ∧
  ((w.setCell ⟨g,k*3,none⟩ (.bool d.neg)).setCell ⟨g,k*3+1,none⟩ (.slice d.a d.la.length d.ca)).setCell ⟨g,k*3+2,none⟩ (.slice d.b d.lb.length d.cb)=w9∧FAt T g k root w9∧(T[k]?=some d.q→FAt T g (k+1) root w9):=by
 obtain⟨ds,h1,h2,h3,h4⟩:=h;have c:k<ds.length:=by omega
 have f:=a1m c;obtain⟨w9,e9,l,o9⟩:=h1.set c d
 have m:∀ j x,j<k→(ds.set k d)[j]?=some x→FV w9 x.v x.q∧T[j]?=some x.q:=fun j x hj hx=>by
  rw[a2h,if_neg (by omega)] at hx;obtain⟨h5,h6⟩:=h3 j x hj hx;exact⟨h5.only_blk h1 (ArrQ.noDig ds) o9,h6⟩
 refine⟨_,_,_,w9,h1.cell (i:=0) f rfl,h1.cell (i:=1) f rfl,h1.cell (i:=2) f rfl,a4g h1 _,a4g h1 _,a4g h1 _,e9,⟨_,l,by simpa using h2,m,o9.to_below h4 hg h4.size⟩,fun hq=>⟨_,l,by simpa using h2,fun j x hj hx=>?_,o9.to_below h4 hg h4.size⟩⟩
 by_cases e:j=k
 · subst e;rw[a2h,if_pos rfl,if_pos c] at hx
   injection hx with hx
   subst hx;exact⟨hd.only_blk h1 (ArrQ.noDig ds) o9,hq⟩
 · exact m j x (by omega) hx
theorem FAt.done {T:List Rat}{g:Nat}{root w:World}(h:FAt T g T.length root w):∃ ds:List FrD,ArrQ w g ds∧ds.length=T.length∧(∀ d∈ds,FV w d.v d.q)∧Hid (ds.map FrD.q=T):=by
 obtain⟨ds,h1,h2,h3,h4⟩:=h;refine⟨ds,h1,h2,fun d hd=>?_,?_⟩
 · obtain⟨j,hj,e⟩:=List.mem_iff_getElem.1 hd;exact (h3 j d (by omega) (by rw[a1m hj,e])).1
 · show ds.map FrD.q=_
   refine List.ext_getElem? fun j=>?_;rw[a1r]
   by_cases hj:j<ds.length
   · rw[a1m hj,(h3 j _ (by omega) (a1m hj)).2];rfl
   · rw[a2j (by omega),a2j (by omega)];rfl
theorem FAt.new (T:List Rat){n:Nat}(hn:T.length=n) (w:World):FAt T w.heap.size 0 w (w.alloc (.cells ((List.replicate n P3).flatMap FrD.cells).toArray 28)) :=
 ⟨List.replicate n P3,a4h w _ _,by rw[a1p,hn],fun j d hj=>by omega,(a3t _ _).alloc (a1u _) _⟩
theorem P6 (n p:Nat) (v:Rat):(I2 n p v).length=n:=by simp[I2]
theorem nB {n p k:Nat}{v:Rat}(hk:k<n):(I2 n p v)[k]?=some (if M8 p k=true then v else 0):=by
 unfold I2;rw[a1r,a2t hk];rfl
theorem kH {n p:Nat}{v:Int}{gv gs:Nat}{w:World}(hc:w.cell? ⟨gv,0,none⟩=some (.pointer (some ⟨gs,0,none⟩))) (hc2:w.cell? ⟨gs,0,none⟩=some (.int .i64 (n:Int))) (hn:n≤8) (hp:p<256) (hv1:-9223372036854775808≤v) (hv2:v≤9223372036854775807) :
 Calls Tryz.prog 42 #[.int .i64 (p:Int),.int .i64 v,.pointer (some ⟨gv,0,none⟩)] w (RetArr (I2 n p (v:Rat)) w):=by
 obtain⟨T,hT⟩:∃ T,Hid (I2 n p (v:Rat)=T):=⟨_,rfl⟩;have f:=a1k (show T.length=n by rw[←hT.out,P6]);have E:=a1k (show ∀ k,k<n→T[k]?=some (if M8 p k=true then (v:Rat) else 0) from fun k hk=>by rw[←hT.out];exact nB hk);rw[hT.out];clear hT;have m:=fP w n (by omega);obtain⟨w1,s⟩:∃ w1,w.alloc (.cells ((List.replicate n P3).flatMap FrD.cells).toArray 28)=w1:=⟨_,rfl⟩;have hA:FAt T w.heap.size 0 w w1:=by rw[←s];exact FAt.new T f.out w
 rw[s] at m;obtain⟨g,hg⟩:∃ g,w.heap.size=g:=⟨_,rfl⟩;have j:=a1k (show w.heap.size≤g by omega);rw[hg] at m hA;clear hg;go_enter Tryz.func42,Tryz.ntmps42;go_wp2
 go_loopw [7,15] (fun x i wr=>∃ k:Nat,k≤n∧i=.int .i64 (k:Int)∧FAt T g k w wr) (fun _ i _=>n-(intOf i).toNat)
 case atStart=>exact⟨0,by omega,rfl,hA⟩
 case round =>
  clear hA;obtain⟨k,hk,rfl,d⟩:=hrel
  by_cases hkl:k<n
  · have I:(k:Int)<(n:Int):=by omega
    have C:k<8:=by omega
    go_wp2_with fail;refine (r7 0 _ (by decide) (by decide)).mono ?_;rintro e w4 ⟨v1,rfl,hv1,b4⟩;obtain⟨z,rfl,hz,F⟩:=hv1.frd;clear hv1;obtain⟨u0,u1,u2,w5,s0,s1,s2,f0,f1,f2,e5,h,c⟩:=(d.below b4).put (by rw[f.out];exact hkl) j.out hz;obtain⟨b,hb⟩:∃ b,Hid (M8 p k=b):=⟨_,rfl⟩;have G:(bits BinOp.and IntKind.i64 ((p:Int) / 2 ^ k) 1 == 1)=b:=by rw[mL hp C];exact hb.out
    have r:=a1k (E.out k hkl)
    cases b with
    | false =>
     have t:=a1k (c (by rw[r.out,hb.out,F.out];rfl));clear c d hz;go_wp2;go_roundw
     case rel=>exact⟨k+1,by omega,by go_num,t.out⟩
     case measure=>simp[intOf];omega
    | true =>
     clear c d hz;go_wp2_with fail;refine (r7 v _ hv1 hv2).mono ?_;rintro e w6 ⟨v2,rfl,o,b6⟩;obtain⟨y,rfl,hy,D⟩:=o.frd;clear o;obtain⟨t0,t1,t2,w7,q0,q1,q2,r0,r1,r2,e7,l,c⟩:=(h.below b6).put (by rw[f.out];exact hkl) j.out hy;have q:=a1k (c (by rw[r.out,hb.out,D.out];rfl));clear c h l hy;go_wp2;go_roundw
     case rel=>exact⟨k+1,by omega,by go_num,q.out⟩
     case measure=>simp[intOf];omega
  · obtain rfl:k=n:=by omega
    have H:decide ((k:Int)<(k:Int))=false:=a1v (by omega);have B:=d.bel;rw[show FAt T g k w wr=FAt T g T.length w wr by rw[f.out]] at d;obtain⟨ds,h1,h2,h3,h4⟩:=d.done;have A:ds.length=k:=h2.trans f.out;go_wp2;go_ret;exact⟨g,ds,by rw[A];rfl,h1,h3,h4,j.out,B⟩
end Go.Proofs.YtjhkapjadfpimaaGreat
