/- Contracts of functions, for the law. -/
import Derived.Test.YtjhkapjadfpimaaGreatNApp
namespace Go.Proofs.YtjhkapjadfpimaaGreat
set_option linter.unusedVariables false
set_option linter.unusedSimpArgs false
open Go.RowKit Plain
attribute [local go_sem ↓] Go.wp_at_zero Go.wp_at_succ
set_option maxRecDepth 100000
set_option maxHeartbeats 40000000
def RetLF (R:List Rat × Int) (W:World) (e:Ending) (w':World):Prop:=∃ A c ds,e=.returned (.tuple #[.slice A ds.length c,.int .i64 R.2])∧FL w' A c ds∧Hid (ds.map FrD.q=R.1)∧Below W.heap.size W w'∧∀ a,A=some a→W.heap.size≤a.block
theorem RetLF.err {n:Int}{W:World}{e:Ending}{w':World}{R:List Rat × Int}(hR:R=([],n)) (he:e=.returned (.tuple #[.slice none 0 0,.int .i64 n])) (hb:Below W.heap.size W w'):RetLF R W e w':=by
 subst hR;exact⟨none,0,[],he,FL.nil _,rfl,hb,fun a e=>by cases e⟩
theorem tG {K:Nat}{A X:Option Addr}{c cx:Nat}{rows:List RwD}{bs:List FrD}{w:World}(h:ML w A c rows) (hx:FL w X cx bs) (hfm:MFits K (bh rows)) (hfx:QFits K (bs.map FrD.q)) (hK:4*gK K (colsL (bh rows))+1<400000000) (hrn:rows.length<1000000000) (hN:colsL (bh rows)<100000000) :
 Calls Tryz.prog 93 #[.slice A rows.length c,.slice X bs.length cx] w (RetLF (dH (bh rows) (bs.map FrD.q)) w):=by
 obtain⟨n,hn⟩:∃ n,Hid (colsL (bh rows)=n):=⟨_,rfl⟩;obtain⟨R,hR⟩:∃ m,Hid (dH (bh rows) (bs.map FrD.q)=m):=⟨_,rfl⟩;rw[hn.out] at hK hN;rw[hR.out];have g3:=Dj hfm;have g8:=Dj hfx;clear hfm hfx;have hl:=h.len;have k2:=hx.len;go_enter Tryz.func93,Tryz.ntmps93;go_wp2_with fail;refine (zW h).mono ?_;rintro e w1 ⟨rfl,b1⟩;rw[hn.out]
 rcases hfo:aW (bh rows) with _ | _
 · have hf:=Dj (show R=([],2) by rw[←hR.out];exact ik (by rw[hfo];simp));rw[if_neg (by decide)];go_wp2
   go_ret2
   exact RetLF.err hf.out rfl b1
 rw[if_pos rfl];have c7:=Dj hfo;have hr:=Dj (show cj (bh rows) n by rw[←hn.out];exact cZ hfo);clear hfo
 by_cases hle0:¬ bs.length=rows.length
 · have d8:=hle0;have h7:((bs.length:Int) != (rows.length:Int))=true:=by simp;omega
   have hf:=Dj (show R=([],2) by rw[←hR.out];exact ik (by rw[Dr,aE];exact fun h=>d8 h.2));go_wp2
   go_ret2
   exact RetLF.err hf.out rfl b1
 have d8:bs.length=rows.length:=Decidable.not_not.1 hle0;clear hle0;have h7:((bs.length:Int) != (rows.length:Int))=false:=by rw[bne_eq_false_iff_eq];omega
 have dm:=Dj d8;have k0:bs.length≤rows.length:=by omega
 have j3:rows.length≤bs.length:=by omega
 clear d8;have j1:=Dj (show (bG (bh rows) (bs.map FrD.q)).length=rows.length by rw[fg (by rw[Dr,aE];exact dm.out),aE]);obtain⟨T,hT⟩:∃ T,Hid (bG (bh rows) (bs.map FrD.q)=T):=⟨_,rfl⟩;have c2:=Dj (show T.length=rows.length by rw[←hT.out];exact j1.out)
 have gz:=Dj (show ∀ r∈rows,r.ds.length=n from fun r hp=>by
  have:=hr.out r.qs (DU.2 ⟨r,hp,rfl⟩);rw[Eg] at this;exact this)
 go_wp2
 go_loopw [8,33] (fun v i wr=>vX T w v i wr) (fun _ i _=>rows.length-(intOf i).toNat)
 case atStart=>exact⟨0,by omega,rfl,MtAt.start _ b1⟩
 case round =>
  obtain⟨k,hk,rfl,z⟩:=hrel;rw[c2.out] at hk;have cq:=z.bel
  by_cases hkl:k<rows.length
  · have g4:(k:Int)<(rows.length:Int):=by omega
    have gb:k<1000000000000:=by omega
    have gk:k<bs.length:=by omega
    have j4:(k:Int)<(bs.length:Int):=by omega
    obtain⟨a,r,rfl,f3,bf,t,F⟩:=(h.below cq).at hkl;obtain⟨e,d,rfl,c8,gc,gp,g7,hd,bm⟩:=hx.at gk;replace hd:=hd.below cq;have f1:=t.len;have cy:r.ds.length=n:=gz.out r (Dm F.out);have k4:n≤r.c:=by omega
    have hq:Hid (T[k]?=some (r.qs++[d.q])):=by
     show _=_
     rw[←hT.out];unfold bG bh;rw[List.getElem?_zipWith,Dq,Dq,F.out,bm.out];rfl
    obtain⟨rA,fx⟩:∃ x,r.a=x:=⟨_,rfl⟩;rw[fx] at t bf;clear fx
    cases rA with
    | none =>
     have bT:=z.bel
     have hS:∀ w',Below w.heap.size w w'→w'.cell? (e.add (k*3))=some (.bool d.neg)∧w'.cell? ⟨(e.add (k*3)).block,(e.add (k*3)).off+1,none⟩=some (.slice d.a d.la.length d.ca)∧w'.cell? ⟨(e.add (k*3)).block,(e.add (k*3)).off+2,none⟩=some (.slice d.b d.lb.length d.cb)∧Below w.heap.size w w':=by
      intro w' o;exact⟨(o.cell (by show (e.add (k*3)).block<_;rw[ac];exact c8)).trans gc,(o.cell (by show (e.add (k*3)).block<_;rw[ac];exact c8)).trans gp,(o.cell (by show (e.add (k*3)).block<_;rw[ac];exact c8)).trans g7,o⟩
     have bo:Below w.heap.size w wr:=z.bel;have dS:Below w.heap.size w wr.drew:=bo.drew;go_wp2_with fail;refine DZ ?_;refine D0 (S:=fun w'=>w'.cell? (e.add (k*3))=some (.bool d.neg)∧w'.cell? ⟨(e.add (k*3)).block,(e.add (k*3)).off+1,none⟩=some (.slice d.a d.la.length d.ca)∧w'.cell? ⟨(e.add (k*3)).block,(e.add (k*3)).off+2,none⟩=some (.slice d.b d.lb.length d.cb)∧Below w.heap.size w w') (by kernel_rfl) (hS _ dS) (fun p=>?_);refine pE 0 1 2 3 4 5 6 7 p ?_;refine dQ 8 rfl p ?_;refine aV 9 rfl fun K hK=>?_;have O:Below wr.heap.size wr wr.drew:=(DY _ _).drew;replace z:=z.below O;replace t:=t.below O;replace hd:=hd.below O;replace bo:=Di bo O;obtain⟨n1,A1,a1,l1,B1,c1,m1,ev,na,nb,iq⟩:=id hd;clear na nb iq ev;obtain⟨y1,j0,U,h3,f5⟩:=ag wr.drew #[.bool d.neg,.slice d.a d.la.length d.ca,.slice d.b d.lb.length d.cb] 28;replace z:=z.below U;replace t:=t.below U;replace hd:=hd.below U;replace bo:=Di bo U;go_simp;refine hK.out _ _ (hS _ bo) (fun p=>?_);clear hK K;(try simp only[aq])
     refine aV 10 rfl fun K hK=>?_;refine ll rfl _ _ rfl rfl (ds:=r.ds) t (by rw[cy];rfl) ⟨wr.drew.heap.size,0,none⟩ 1 d rfl (World.news_of_block f5) (by omega) ?_;intro v6 w6 bx C;have b6:Below y1.heap.size y1 w6:=⟨C.os,C.tape,C.output,C.size,fun g hg=>C.block g hg (by simp)⟩;replace z:=z.below b6;replace t:=t.below b6;replace hd:=hd.below b6;replace bo:=Di bo b6;obtain⟨bz,E⟩:∃ x,Hid (r.ds++[d]=x):=⟨_,rfl⟩;rw[E.out] at bx
     obtain⟨A6,c6,rfl,d1⟩:=bx.fl (fun x hx=>by
      rw[←E.out] at hx
      rcases List.mem_append.1 hx with hx | hx
      · exact t.fv x hx
      · simp at hx;subst hx;exact hd)
     clear bx C;refine hK.out _ _ (hS _ bo) (fun p=>?_);clear hK K;(try simp only[aq]);refine aV 11 rfl fun K hK=>?_;obtain⟨os,ho,fm,fb,G⟩:=z.app (r:=⟨A6,c6,bz⟩) gb (hq.out.trans (by rw[←E.out];simp[RwD.qs])) d1;have hm:=d1;obtain⟨y2,c0,dt,hy,dx⟩:=ag w6 #[.slice A6 bz.length c6] 22;replace bo:=Di bo dt;go_simp;refine hK.out _ _ (hS _ bo) (fun p=>?_);clear hK K;(try simp only[aq]);refine aV 12 rfl fun K hK=>?_;refine mq rfl Tryz.underlying129 _ _ rfl rfl w.heap.size _ os rfl (by rw[←c0];exact ho) ⟨w6.heap.size,0,none⟩ 1 ⟨A6,c6,bz⟩ rfl (dx.cell 0) fm (by rw[←c0];exact fb) ?_;intro v8 w8 cr c3;rw[←c0] at c3;have b5:=G.out v8 w8 cr c3;replace bo:=b5.bel;clear G ho c3 cr;refine hK.out _ _ (hS _ bo) (fun p=>?_);clear hK K;(try simp only[aq]);refine dQ 13 rfl p ?_;refine D7 (by kernel_rfl) ?_ _;refine D1 ?_;(try go_simp);clear p;clear hS dS bo;go_wp2;go_roundw
     case rel=>exact⟨k+1,by rw[c2.out];omega,by go_num,b5⟩
     case measure=>simp[intOf];omega
    | some ra =>
     have bT:=z.bel
     have hS:∀ w',Below w.heap.size w w'→w'.cell? (e.add (k*3))=some (.bool d.neg)∧w'.cell? ⟨(e.add (k*3)).block,(e.add (k*3)).off+1,none⟩=some (.slice d.a d.la.length d.ca)∧w'.cell? ⟨(e.add (k*3)).block,(e.add (k*3)).off+2,none⟩=some (.slice d.b d.lb.length d.cb)∧Below w.heap.size w w':=by
      intro w' o;exact⟨(o.cell (by show (e.add (k*3)).block<_;rw[ac];exact c8)).trans gc,(o.cell (by show (e.add (k*3)).block<_;rw[ac];exact c8)).trans gp,(o.cell (by show (e.add (k*3)).block<_;rw[ac];exact c8)).trans g7,o⟩
     have bo:Below w.heap.size w wr:=z.bel;have dS:Below w.heap.size w wr.drew:=bo.drew;go_wp2_with fail;refine DZ ?_;refine D0 (S:=fun w'=>w'.cell? (e.add (k*3))=some (.bool d.neg)∧w'.cell? ⟨(e.add (k*3)).block,(e.add (k*3)).off+1,none⟩=some (.slice d.a d.la.length d.ca)∧w'.cell? ⟨(e.add (k*3)).block,(e.add (k*3)).off+2,none⟩=some (.slice d.b d.lb.length d.cb)∧Below w.heap.size w w') (by kernel_rfl) (hS _ dS) (fun p=>?_);refine pE 0 1 2 3 4 5 6 7 p ?_;refine dQ 8 rfl p ?_;refine aV 9 rfl fun K hK=>?_;have O:Below wr.heap.size wr wr.drew:=(DY _ _).drew;replace z:=z.below O;replace t:=t.below O;replace hd:=hd.below O;replace bo:=Di bo O;obtain⟨n1,A1,a1,l1,B1,c1,m1,ev,na,nb,iq⟩:=id hd;clear na nb iq ev;obtain⟨y1,j0,U,h3,f5⟩:=ag wr.drew #[.bool d.neg,.slice d.a d.la.length d.ca,.slice d.b d.lb.length d.cb] 28;replace z:=z.below U;replace t:=t.below U;replace hd:=hd.below U;replace bo:=Di bo U;go_simp;refine hK.out _ _ (hS _ bo) (fun p=>?_);clear hK K;(try simp only[aq])
     refine aV 10 rfl fun K hK=>?_;refine ll rfl _ _ rfl rfl (ds:=r.ds) t (by rw[cy];rfl) ⟨wr.drew.heap.size,0,none⟩ 1 d rfl (World.news_of_block f5) (by omega) ?_;intro v6 w6 bx C;have b6:Below y1.heap.size y1 w6:=⟨C.os,C.tape,C.output,C.size,fun g hg=>C.block g hg (by simp)⟩;replace z:=z.below b6;replace t:=t.below b6;replace hd:=hd.below b6;replace bo:=Di bo b6;obtain⟨bz,E⟩:∃ x,Hid (r.ds++[d]=x):=⟨_,rfl⟩;rw[E.out] at bx
     obtain⟨A6,c6,rfl,d1⟩:=bx.fl (fun x hx=>by
      rw[←E.out] at hx
      rcases List.mem_append.1 hx with hx | hx
      · exact t.fv x hx
      · simp at hx;subst hx;exact hd)
     clear bx C;refine hK.out _ _ (hS _ bo) (fun p=>?_);clear hK K;(try simp only[aq]);refine aV 11 rfl fun K hK=>?_;obtain⟨os,ho,fm,fb,G⟩:=z.app (r:=⟨A6,c6,bz⟩) gb (hq.out.trans (by rw[←E.out];simp[RwD.qs])) d1;have hm:=d1;obtain⟨y2,c0,dt,hy,dx⟩:=ag w6 #[.slice A6 bz.length c6] 22;replace bo:=Di bo dt;go_simp;refine hK.out _ _ (hS _ bo) (fun p=>?_);clear hK K;(try simp only[aq]);refine aV 12 rfl fun K hK=>?_;refine mq rfl Tryz.underlying129 _ _ rfl rfl w.heap.size _ os rfl (by rw[←c0];exact ho) ⟨w6.heap.size,0,none⟩ 1 ⟨A6,c6,bz⟩ rfl (dx.cell 0) fm (by rw[←c0];exact fb) ?_;intro v8 w8 cr c3;rw[←c0] at c3;have b5:=G.out v8 w8 cr c3;replace bo:=b5.bel;clear G ho c3 cr;refine hK.out _ _ (hS _ bo) (fun p=>?_);clear hK K;(try simp only[aq]);refine dQ 13 rfl p ?_;refine D7 (by kernel_rfl) ?_ _;refine D1 ?_;(try go_simp);clear p;clear hS dS bo;go_wp2;go_roundw
     case rel=>exact⟨k+1,by rw[c2.out];omega,by go_num,b5⟩
     case measure=>simp[intOf];omega
  · obtain rfl:k=rows.length:=by omega
    have J:decide ((rows.length:Int)<(rows.length:Int))=false:=Du (by omega);obtain⟨B,cb,es,rfl,h8,d9⟩:=z.done c2.out.symm;have gm:=Dj (show es.length=rows.length by rw[←aE,d9.out,c2.out]);have f0:=Dj (show cj T (n+1) by rw[←hT.out];exact eS hr.out);have gq:=Dj (show MFits K T by rw[←hT.out];exact kH g3.out g8.out);have D:=Dj (eg f0.out n (by omega));have j2:=Dj (jh gq.out f0.out n (by omega));have M:=Dj (show (bs.map FrD.q).length=(bh rows).length by rw[Dr,aE];exact dm.out);obtain⟨S,hS⟩:∃ S,Hid (reduceL T n=S):=⟨_,rfl⟩;go_wp2_with fail;refine (tX (N:=n+1) (n:=n) h8 (by rw[d9.out];exact f0.out) (by omega) (by rw[d9.out];exact gq.out) hK (by rw[gm.out];exact hrn) (by omega)).mono ?_;rw[d9.out];rw[hS.out] at D j2 ⊢;obtain⟨Q,is⟩:=S;rintro e w2 ⟨B2,g5,fs,L,cl,rfl,cd,gv,fz,b2⟩;have bg:=Di cq b2;have y:Hid (bh fs=Q):=gv;have c4:ILs w2 L cl is:=fz;clear gv fz;have js:=c4.1;have h4:=c4.2.1;have j5:=cd.len
    have ft:=Dj (show fs.length=rows.length by
     have:=D.out.len;rw[←aE,y.out];simpa [c2.out] using this)
    have dr:=Dj (show is.length≤fs.length by
     have:=D.out.le;rw[ft.out];simpa [c2.out] using this)
    have k1:=dr.out;have h6:(is.length:Int)≤(fs.length:Int):=by omega
    have cm:=Dj (show ∀ j x,is[j]?=some x→x<n from fun j x hj=>(D.out.red.lt (x,j) (Dm (lZ hj))).1)
    cases B2 with
    | none =>
     have dk:fs.length=0:=by
      rcases Nat.eq_zero_or_pos fs.length with h0 | h0
      · exact h0
      · obtain⟨a,r,ea,_⟩:=cd.at h0
        cases ea
     have dq:is.length=0:=by omega
     have gs:fs.length-is.length=0:=by omega
     have hv:fs.length≤is.length:=by omega
     have k6:=Dj dk;have ht:=Dj dq;have bv:=Dj gs;clear dk dq gs;go_wp2
     go_loopw [66] (fun i wr=>rQ Q is.length n w2 i wr) (fun i _=>fs.length-is.length-(intOf i).toNat)
     case atStart=>exact⟨0,by rw[←y.out,aE];omega,rfl,fun i h1 h2=>by omega,DY _ _⟩
     case round =>
      obtain⟨j,hj,rfl,hz,b3⟩:=hrel;rw[←y.out,aE] at hj;obtain rfl:j=0:=by have:=bv.out;omega
      have d0:=Dj (show is.length+0=fs.length by have:=bv.out;omega);have J:decide ((0:Int)<((fs.length-is.length:Nat):Int))=false:=Du (by have:=bv.out;omega);have cg:=Di bg b3;have I:=Dj (je (R:=Q) (k:=is.length) (n:=n) (fun i h1 h2=>hz.out i h1 (by rw[d0.out,←aE,y.out];exact h2)))
      have b7:=Dj (show (eM is.zipIdx (fun i=>fn Q i n) (List.replicate n 0),(0:Int))=R by
       have:=jF c7.out M.out hn.out (by rw[hT.out,hS.out];exact I.out);rw[hT.out,hS.out] at this;rw[←hR.out,this])
      go_wp2_with fail;refine (me n (by omega) wr).mono ?_;rintro e w4 ⟨g,ds,rfl,hA,b9,H,hg,b4⟩;have bc:ds.length=n:=by rw[←Dr (f:=FrD.q),H.out,Do]
      have b0:ColAt g (List.replicate n 0) wr w4:=⟨ds,hA,b9,H.out,b4⟩;have bn:=Dj hg;rw[bc];clear hA b9 H bc hg;go_wp2
      go_loopw [81] (fun i w'=>uI is (fun i=>fn Q i n) (List.replicate n 0) g wr i w') (fun i _=>is.length-(intOf i).toNat)
      case atStart=>exact⟨0,by omega,rfl,b0⟩
      case round =>
       obtain⟨k,hk,rfl,hc⟩:=hrel;have hb:=hc.bel;have V:=Di b3 hb;have cz:=Di bg V
       by_cases hkl:k<is.length
       · exact absurd hkl (by have:=ht.out;omega)
       · obtain rfl:k=is.length:=by omega
         have J:decide ((is.length:Int)<(is.length:Int))=false:=Du (by omega);rw[Dp (by rw[List.length_zipIdx];exact Dt _)] at hc;have bd:(eM is.zipIdx (fun i=>fn Q i n) (List.replicate n 0)).length=n:=by rw[di,Do]
         obtain⟨b8,Y,bb,cv⟩:=hc.done (by omega);have Z:b8.length=n:=Y.trans bd;clear Y bd;go_wp2
         go_ret2
         exact⟨_,_,b8,by rw[←b7.out,Z];rfl,bb,by rw[←b7.out];exact cv,cz,fun a e=>by cases e;exact Ds cg.size bn.out⟩
    | some a =>
     by_cases hct:g5=is.length
     · obtain rfl:=hct;have bv:=Dj (show fs.length-is.length=0 by omega);go_wp2
       go_loopw [66] (fun i wr=>rQ Q is.length n w2 i wr) (fun i _=>fs.length-is.length-(intOf i).toNat)
       case atStart=>exact⟨0,by rw[←y.out,aE];omega,rfl,fun i h1 h2=>by omega,DY _ _⟩
       case round =>
        obtain⟨j,hj,rfl,hz,b3⟩:=hrel;rw[←y.out,aE] at hj;obtain rfl:j=0:=by have:=bv.out;omega
        have d0:=Dj (show is.length+0=fs.length by have:=bv.out;omega);have J:decide ((0:Int)<((fs.length-is.length:Nat):Int))=false:=Du (by have:=bv.out;omega);have cg:=Di bg b3;have I:=Dj (je (R:=Q) (k:=is.length) (n:=n) (fun i h1 h2=>hz.out i h1 (by rw[d0.out,←aE,y.out];exact h2)))
        have b7:=Dj (show (eM is.zipIdx (fun i=>fn Q i n) (List.replicate n 0),(0:Int))=R by
         have:=jF c7.out M.out hn.out (by rw[hT.out,hS.out];exact I.out);rw[hT.out,hS.out] at this;rw[←hR.out,this])
        go_wp2_with fail;refine (me n (by omega) wr).mono ?_;rintro e w4 ⟨g,ds,rfl,hA,b9,H,hg,b4⟩;have bc:ds.length=n:=by rw[←Dr (f:=FrD.q),H.out,Do]
        have b0:ColAt g (List.replicate n 0) wr w4:=⟨ds,hA,b9,H.out,b4⟩;have bn:=Dj hg;rw[bc];clear hA b9 H bc hg;go_wp2
        go_loopw [81] (fun i w'=>uI is (fun i=>fn Q i n) (List.replicate n 0) g wr i w') (fun i _=>is.length-(intOf i).toNat)
        case atStart=>exact⟨0,by omega,rfl,b0⟩
        case round =>
         obtain⟨k,hk,rfl,hc⟩:=hrel;have hb:=hc.bel;have V:=Di b3 hb;have cz:=Di bg V
         by_cases hkl:k<is.length
         · have g4:(k:Int)<(is.length:Int):=by omega
           obtain⟨x,hx⟩:∃ x,Hid (is[k]?=some x):=⟨_,Dl hkl⟩;obtain⟨h5,fq,fr,g6⟩:=(c4.below V).2.2 k x hx.out
           cases fq
           have d2:k<fs.length:=by omega
           have f9:(k:Int)<(fs.length:Int):=by omega
           obtain⟨a',r,ea,f3,bf,t,F⟩:=(cd.below V).at d2
           cases ea
           have f1:=t.len
           have cy:r.ds.length=n+1:=by
            have:=D.out.rct r.qs (by
             show r.qs∈Q
             rw[←y.out];exact DU.2 ⟨r,Dm F.out,rfl⟩)
            rw[Eg] at this;exact this
           obtain⟨b,d,eb,gx,db,dh,d7,d6,bm⟩:=t.at (k:=n) (by omega)
           have c9:=Dj (show d.q=fn Q k n by
            rw[←y.out];unfold fn bh;rw[Dk (l:=fs.map _),Dq,F.out]
            show _=(r.ds.map FrD.q).getD n 0
            rw[Dk,Dq,bm.out];rfl)
           rw[eb] at bf;clear t eb;have dp:(n:Int)<(r.ds.length:Int):=by omega
           have f4:=cm.out k x hx.out;have gr:(x:Int)<(n:Int):=by omega
           obtain⟨n5,A5,c5,l5,B5,d5,m5,ev,cs,d4,bq⟩:=d6;rw[c9.out] at bq
           unfold FrD.v aZ at ev
           injection ev with ev
           have e1:d.neg=n5:=by injection ev with ev;injection ev with ev _;injection ev
           have d3:(.slice d.a d.la.length d.ca:Value)=.slice A5 l5.length c5:=by injection ev with ev;injection ev with _ ev;injection ev
           have ch:(.slice d.b d.lb.length d.cb:Value)=.slice B5 m5.length d5:=by injection ev with ev;injection ev with _ ev;injection ev with _ ev;injection ev
           rw[e1] at db;rw[d3] at dh;rw[ch] at d7;clear ev e1 d3 ch;obtain⟨y0,y1,y2,w7,z0,z1,z2,g0,g1,g2,e7,f6⟩:=hc.store (k:=x) (by rw[di,Do];exact f4) bn.out cs d4 bq;have f2:=Dj (nu (f:=fun i=>fn Q i n) (qs:=List.replicate n 0) (lZ hx.out));clear cs d4 bq hc;go_wp2;exact⟨⟨k+1,by omega,by go_num,by rw[f2.out];exact f6⟩,by simp[intOf];omega⟩
         · obtain rfl:k=is.length:=by omega
           have J:decide ((is.length:Int)<(is.length:Int))=false:=Du (by omega);rw[Dp (by rw[List.length_zipIdx];exact Dt _)] at hc;have bd:(eM is.zipIdx (fun i=>fn Q i n) (List.replicate n 0)).length=n:=by rw[di,Do]
           obtain⟨b8,Y,bb,cv⟩:=hc.done (by omega);have Z:b8.length=n:=Y.trans bd;clear Y bd;go_wp2
           go_ret2
           exact⟨_,_,b8,by rw[←b7.out,Z];rfl,bb,by rw[←b7.out];exact cv,cz,fun a e=>by cases e;exact Ds cg.size bn.out⟩
     · have k3:(is.length:Int)≤(g5:Int):=by omega
       go_wp2
       go_loopw [66] (fun i wr=>rQ Q is.length n w2 i wr) (fun i _=>fs.length-is.length-(intOf i).toNat)
       case atStart=>exact⟨0,by rw[←y.out,aE];omega,rfl,fun i h1 h2=>by omega,DY _ _⟩
       case round =>
        obtain⟨j,hj,rfl,hz,b3⟩:=hrel;rw[←y.out,aE] at hj
        by_cases hjl:is.length+j<fs.length
        · have kf:(j:Int)<((fs.length-is.length:Nat):Int):=by omega
          obtain⟨a',r,ea,f3,bf,t,F⟩:=(cd.below b3).at hjl
          cases ea
          rw[←Addr.add_add] at bf;have f1:=t.len
          have cy:r.ds.length=n+1:=by
           have:=D.out.rct r.qs (by
            show r.qs∈Q
            rw[←y.out];exact DU.2 ⟨r,Dm F.out,rfl⟩)
           rw[Eg] at this;exact this
          obtain⟨b,d,eb,gx,db,dh,d7,d6,bm⟩:=t.at (k:=n) (by omega)
          have c9:=Dj (show d.q=fn Q (is.length+j) n by
           rw[←y.out];unfold fn bh;rw[Dk (l:=fs.map _),Dq,F.out]
           show _=(r.ds.map FrD.q).getD n 0
           rw[Dk,Dq,bm.out];rfl)
          rw[eb] at bf;clear t eb;have dp:(n:Int)<(r.ds.length:Int):=by omega
          go_wp2_with fail;refine (ct d6).mono ?_;rintro e w6 ⟨rfl,b6⟩;have g9:=Di b3 b6
          by_cases hzd:d.q=0
          · have hs:Hid (bH d.q 0=0):=cmpR_zero.2 hzd
            have h9:=Dj (show ∀ i,is.length≤i→i<is.length+(j+1)→fn Q i n=0 from fun i h1 h2=>by
             rcases Nat.lt_or_ge i (is.length+j) with h | h
             · exact hz.out i h1 h
             · rw[show i=is.length+j by omega,←c9.out];exact hzd)
            rw[hs.out];clear hzd;go_wp2;go_roundw
            case rel=>exact⟨j+1,by rw[←y.out,aE];omega,by go_num,h9,g9⟩
            case measure=>simp[intOf];omega
          · obtain⟨s,hs⟩:∃ s,Hid (bH d.q 0=s):=⟨_,rfl⟩;have k5:(s != 0)=true:=by rw[bne_iff_ne];intro e;exact hzd (cmpR_zero.1 (by rw[hs.out];exact e))
            have hh:=Dj (ss (R:=Q) (k:=is.length) (n:=n) (i:=is.length+j) (by omega) (by rw[←y.out,aE];exact hjl) (by rw[←c9.out];exact hzd));have hf:=Dj (show R=([],6) by rw[←hR.out];exact sh c7.out M.out hn.out (by rw[hT.out,hS.out];exact hh.out));rw[hs.out];clear hzd;go_wp2
            go_ret2
            exact RetLF.err hf.out rfl ((Di bg g9))
        · have d0:=Dj (show is.length+j=fs.length by omega);have J:decide ((j:Int)<((fs.length-is.length:Nat):Int))=false:=Du (by omega);have cg:=Di bg b3;have I:=Dj (je (R:=Q) (k:=is.length) (n:=n) (fun i h1 h2=>hz.out i h1 (by rw[d0.out,←aE,y.out];exact h2)))
          have b7:=Dj (show (eM is.zipIdx (fun i=>fn Q i n) (List.replicate n 0),(0:Int))=R by
           have:=jF c7.out M.out hn.out (by rw[hT.out,hS.out];exact I.out);rw[hT.out,hS.out] at this;rw[←hR.out,this])
          go_wp2_with fail;refine (me n (by omega) wr).mono ?_;rintro e w4 ⟨g,ds,rfl,hA,b9,H,hg,b4⟩;have bc:ds.length=n:=by rw[←Dr (f:=FrD.q),H.out,Do]
          have b0:ColAt g (List.replicate n 0) wr w4:=⟨ds,hA,b9,H.out,b4⟩;have bn:=Dj hg;rw[bc];clear hA b9 H bc hg;go_wp2
          go_loopw [81] (fun i w'=>uI is (fun i=>fn Q i n) (List.replicate n 0) g wr i w') (fun i _=>is.length-(intOf i).toNat)
          case atStart=>exact⟨0,by omega,rfl,b0⟩
          case round =>
           obtain⟨k,hk,rfl,hc⟩:=hrel;have hb:=hc.bel;have V:=Di b3 hb;have cz:=Di bg V
           by_cases hkl:k<is.length
           · have g4:(k:Int)<(is.length:Int):=by omega
             obtain⟨x,hx⟩:∃ x,Hid (is[k]?=some x):=⟨_,Dl hkl⟩;obtain⟨h5,fq,fr,g6⟩:=(c4.below V).2.2 k x hx.out
             cases fq
             have d2:k<fs.length:=by omega
             have f9:(k:Int)<(fs.length:Int):=by omega
             obtain⟨a',r,ea,f3,bf,t,F⟩:=(cd.below V).at d2
             cases ea
             have f1:=t.len
             have cy:r.ds.length=n+1:=by
              have:=D.out.rct r.qs (by
               show r.qs∈Q
               rw[←y.out];exact DU.2 ⟨r,Dm F.out,rfl⟩)
              rw[Eg] at this;exact this
             obtain⟨b,d,eb,gx,db,dh,d7,d6,bm⟩:=t.at (k:=n) (by omega)
             have c9:=Dj (show d.q=fn Q k n by
              rw[←y.out];unfold fn bh;rw[Dk (l:=fs.map _),Dq,F.out]
              show _=(r.ds.map FrD.q).getD n 0
              rw[Dk,Dq,bm.out];rfl)
             rw[eb] at bf;clear t eb;have dp:(n:Int)<(r.ds.length:Int):=by omega
             have f4:=cm.out k x hx.out;have gr:(x:Int)<(n:Int):=by omega
             obtain⟨n5,A5,c5,l5,B5,d5,m5,ev,cs,d4,bq⟩:=d6;rw[c9.out] at bq
             unfold FrD.v aZ at ev
             injection ev with ev
             have e1:d.neg=n5:=by injection ev with ev;injection ev with ev _;injection ev
             have d3:(.slice d.a d.la.length d.ca:Value)=.slice A5 l5.length c5:=by injection ev with ev;injection ev with _ ev;injection ev
             have ch:(.slice d.b d.lb.length d.cb:Value)=.slice B5 m5.length d5:=by injection ev with ev;injection ev with _ ev;injection ev with _ ev;injection ev
             rw[e1] at db;rw[d3] at dh;rw[ch] at d7;clear ev e1 d3 ch;obtain⟨y0,y1,y2,w7,z0,z1,z2,g0,g1,g2,e7,f6⟩:=hc.store (k:=x) (by rw[di,Do];exact f4) bn.out cs d4 bq;have f2:=Dj (nu (f:=fun i=>fn Q i n) (qs:=List.replicate n 0) (lZ hx.out));clear cs d4 bq hc;go_wp2;exact⟨⟨k+1,by omega,by go_num,by rw[f2.out];exact f6⟩,by simp[intOf];omega⟩
           · obtain rfl:k=is.length:=by omega
             have J:decide ((is.length:Int)<(is.length:Int))=false:=Du (by omega);rw[Dp (by rw[List.length_zipIdx];exact Dt _)] at hc;have bd:(eM is.zipIdx (fun i=>fn Q i n) (List.replicate n 0)).length=n:=by rw[di,Do]
             obtain⟨b8,Y,bb,cv⟩:=hc.done (by omega);have Z:b8.length=n:=Y.trans bd;clear Y bd;go_wp2
             go_ret2
             exact⟨_,_,b8,by rw[←b7.out,Z];rfl,bb,by rw[←b7.out];exact cv,cz,fun a e=>by cases e;exact Ds cg.size bn.out⟩
def FAt (T:List Rat) (g k:Nat) (root wr:World):Prop:=∃ ds:List FrD,ArrQ wr g ds∧ds.length=T.length∧(∀ j d,j<k→ds[j]?=some d→FV wr d.v d.q∧T[j]?=some d.q)∧Below root.heap.size root wr
theorem FAt.below {T:List Rat}{g k:Nat}{root w w':World}(h:FAt T g k root w) (hb:Below w.heap.size w w'):FAt T g k root w':=by
 obtain⟨ds,h1,h2,h3,h4⟩:=h;exact⟨ds,h1.below hb,h2,fun j d hj hd=>⟨(h3 j d hj hd).1.below hb,(h3 j d hj hd).2⟩,(Di h4 hb)⟩
theorem FAt.bel {T:List Rat}{g k:Nat}{root w:World}(h:FAt T g k root w):Below root.heap.size root w:=by
 obtain⟨ds,h1,h2,h3,h4⟩:=h;exact h4
theorem FAt.put {T:List Rat}{g k:Nat}{root w:World}(h:FAt T g k root w) (hk:k<T.length) (hg:root.heap.size≤g){d:FrD}(hd:FV w d.v d.q) :
 ∃ (u0 u1 u2:Value) (w9:World),w.cell? ⟨g,k*3,none⟩=some u0∧w.cell? ⟨g,k*3+1,none⟩=some u1∧w.cell? ⟨g,k*3+2,none⟩=some u2∧w.frozen? ⟨g,k*3,none⟩=false∧w.frozen? ⟨g,k*3+1,none⟩=false∧w.frozen? ⟨g,k*3+2,none⟩=false ∧
  ((w.setCell ⟨g,k*3,none⟩ (.bool d.neg)).setCell ⟨g,k*3+1,none⟩ (.slice d.a d.la.length d.ca)).setCell ⟨g,k*3+2,none⟩ (.slice d.b d.lb.length d.cb)=w9∧FAt T g k root w9∧(T[k]?=some d.q→FAt T g (k+1) root w9):=by
 obtain⟨ds,h1,h2,h3,h4⟩:=h;have c:k<ds.length:=by omega
 have f:=Dl c;obtain⟨w9,e9,m,o9⟩:=h1.set c d
 have l:∀ j x,j<k→(ds.set k d)[j]?=some x→FV w9 x.v x.q∧T[j]?=some x.q:=fun j x hj hx=>by
  rw[DG,if_neg (by omega)] at hx;obtain⟨h5,h6⟩:=h3 j x hj hx;exact⟨h5.only_blk h1 (ArrQ.noDig ds) o9,h6⟩
 refine⟨_,_,_,w9,h1.cell (i:=0) f rfl,h1.cell (i:=1) f rfl,h1.cell (i:=2) f rfl,Eb h1 _,Eb h1 _,Eb h1 _,e9,⟨_,m,by simpa using h2,l,o9.to_below h4 hg h4.size⟩,fun hq=>⟨_,m,by simpa using h2,fun j x hj hx=>?_,o9.to_below h4 hg h4.size⟩⟩
 by_cases e:j=k
 · subst e;rw[DG,if_pos rfl,if_pos c] at hx
   injection hx with hx
   subst hx;exact⟨hd.only_blk h1 (ArrQ.noDig ds) o9,hq⟩
 · exact l j x (by omega) hx
theorem FAt.done {T:List Rat}{g:Nat}{root w:World}(h:FAt T g T.length root w):∃ ds:List FrD,ArrQ w g ds∧ds.length=T.length∧(∀ d∈ds,FV w d.v d.q)∧Hid (ds.map FrD.q=T):=by
 obtain⟨ds,h1,h2,h3,h4⟩:=h;refine⟨ds,h1,h2,fun d hd=>?_,?_⟩
 · obtain⟨j,hj,e⟩:=List.mem_iff_getElem.1 hd;exact (h3 j d (by omega) (by rw[Dl hj,e])).1
 · show ds.map FrD.q=_
   refine List.ext_getElem? fun j=>?_;rw[Dq]
   by_cases hj:j<ds.length
   · rw[Dl hj,(h3 j _ (by omega) (Dl hj)).2];rfl
   · rw[DI (by omega),DI (by omega)];rfl
theorem FAt.new (T:List Rat){n:Nat}(hn:T.length=n) (w:World):FAt T w.heap.size 0 w (w.alloc (.cells ((List.replicate n fB).flatMap FrD.cells).toArray 28)) :=
 ⟨List.replicate n fB,Ec w _ _,by rw[Do,hn],fun j d hj=>by omega,(DY _ _).alloc (Dt _) _⟩
theorem fF (n p:Nat) (v:Rat):(dj n p v).length=n:=by simp[dj]
theorem pJ {n p k:Nat}{v:Rat}(hk:k<n):(dj n p v)[k]?=some (if eQ p k=true then v else 0):=by
 unfold dj;rw[Dq,DS hk];rfl
theorem nZ {n p:Nat}{v:Int}{gv gs:Nat}{w:World}(hc:w.cell? ⟨gv,0,none⟩=some (.pointer (some ⟨gs,0,none⟩))) (hc2:w.cell? ⟨gs,0,none⟩=some (.int .i64 (n:Int))) (hn:n≤8) (hp:p<256) (hv1:-9223372036854775808≤v) (hv2:v≤9223372036854775807) :
 Calls Tryz.prog 42 #[.int .i64 (p:Int),.int .i64 v,.pointer (some ⟨gv,0,none⟩)] w (Ap (dj n p (v:Rat)) w):=by
 obtain⟨T,hT⟩:∃ T,Hid (dj n p (v:Rat)=T):=⟨_,rfl⟩;have f:=Dj (show T.length=n by rw[←hT.out,fF]);have A:=Dj (show ∀ k,k<n→T[k]?=some (if eQ p k=true then (v:Rat) else 0) from fun k hk=>by rw[←hT.out];exact pJ hk);rw[hT.out];clear hT;have r:=lH w n (by omega);obtain⟨w1,q⟩:∃ w1,w.alloc (.cells ((List.replicate n fB).flatMap FrD.cells).toArray 28)=w1:=⟨_,rfl⟩;have hA:FAt T w.heap.size 0 w w1:=by rw[←q];exact FAt.new T f.out w
 rw[q] at r;obtain⟨g,hg⟩:∃ g,w.heap.size=g:=⟨_,rfl⟩;have j:=Dj (show w.heap.size≤g by omega);rw[hg] at r hA;clear hg;go_enter Tryz.func42,Tryz.ntmps42;go_wp2
 go_loopw [7,15] (fun x i wr=>∃ k:Nat,k≤n∧i=.int .i64 (k:Int)∧FAt T g k w wr) (fun _ i _=>n-(intOf i).toNat)
 case atStart=>exact⟨0,by omega,rfl,hA⟩
 case round =>
  clear hA;obtain⟨k,hk,rfl,d⟩:=hrel
  by_cases hkl:k<n
  · have I:(k:Int)<(n:Int):=by omega
    have F:k<8:=by omega
    go_wp2_with fail;refine (aH 0 _ (by decide) (by decide)).mono ?_;rintro e w4 ⟨v1,rfl,hv1,b4⟩;obtain⟨z,rfl,hz,C⟩:=hv1.frd;clear hv1;obtain⟨u0,u1,u2,w5,s0,s1,s2,f0,f1,f2,e5,h,c⟩:=(d.below b4).put (by rw[f.out];exact hkl) j.out hz;obtain⟨b,hb⟩:∃ b,Hid (eQ p k=b):=⟨_,rfl⟩;have G:(bits BinOp.and IntKind.i64 ((p:Int) / 2 ^ k) 1 == 1)=b:=by rw[pp hp F];exact hb.out
    have l:=Dj (A.out k hkl)
    cases b with
    | false =>
     have m:=Dj (c (by rw[l.out,hb.out,C.out];rfl));clear c d hz;go_wp2;go_roundw
     case rel=>exact⟨k+1,by omega,by go_num,m.out⟩
     case measure=>simp[intOf];omega
    | true =>
     clear c d hz;go_wp2_with fail;refine (aH v _ hv1 hv2).mono ?_;rintro e w6 ⟨v2,rfl,o,b6⟩;obtain⟨y,rfl,hy,B⟩:=o.frd;clear o;obtain⟨t0,t1,t2,w7,q0,q1,q2,r0,r1,r2,e7,t,c⟩:=(h.below b6).put (by rw[f.out];exact hkl) j.out hy;have s:=Dj (c (by rw[l.out,hb.out,B.out];rfl));clear c h t hy;go_wp2;go_roundw
     case rel=>exact⟨k+1,by omega,by go_num,s.out⟩
     case measure=>simp[intOf];omega
  · obtain rfl:k=n:=by omega
    have H:decide ((k:Int)<(k:Int))=false:=Du (by omega);have D:=d.bel;rw[show FAt T g k w wr=FAt T g T.length w wr by rw[f.out]] at d;obtain⟨ds,h1,h2,h3,h4⟩:=d.done;have E:ds.length=k:=h2.trans f.out;go_wp2;go_ret;exact⟨g,ds,by rw[E];rfl,h1,h3,h4,j.out,D⟩
end Go.Proofs.YtjhkapjadfpimaaGreat
