/- Contracts of functions, for the law. -/
import Derived.Test.YtjhkapjadfpimaaWTrim
import Derived.Test.YtjhkapjadfpimaaNAlg
import Derived.Test.YtjhkapjadfpimaaMPivot
import Derived.Deep.RegionHeld3
namespace Go.Proofs.Ytjhkapjadfpimaa
set_option linter.unusedVariables false
set_option linter.unusedSimpArgs false
open Go.RowKit Plain
attribute [local go_sem ↓] Go.wp_at_zero Go.wp_at_succ
def RetLF (R:List Rat × Int) (W:World) (e:Ending) (w':World):Prop:=∃ A c ds,e=.returned (.tuple #[.slice A ds.length c,.int .i64 R.2])∧FL w' A c ds∧Hid (ds.map FrD.q=R.1)∧Below W.heap.size W w'∧∀ a,A=some a→W.heap.size≤a.block
theorem RetLF.err {n:Int}{W:World}{e:Ending}{w':World}{R:List Rat × Int}(hR:R=([],n)) (he:e=.returned (.tuple #[.slice none 0 0,.int .i64 n])) (hb:Below W.heap.size W w'):RetLF R W e w':=by
 subst hR;exact⟨none,0,[],he,FL.nil _,rfl,hb,fun a e=>by cases e⟩
set_option maxRecDepth 100000 in
set_option maxHeartbeats 4000000 in
theorem solveF_any {K:Nat}{A X:Option Addr}{c cx:Nat}{rows:List RwD}{bs:List FrD}{w:World}(h:ML w A c rows) (hx:FL w X cx bs) (hfm:MFits K (qsM rows)) (hfx:QFits K (bs.map FrD.q)) (hK:4*gK K (colsL (qsM rows))+1<400000000) (hrn:rows.length<1000000000) (hN:colsL (qsM rows)<100000000) :
 Calls Try.prog 92 #[.slice A rows.length c,.slice X bs.length cx] w (RetLF (solveS (qsM rows) (bs.map FrD.q)) w):=by
 obtain⟨n,hn⟩:∃ n,Hid (colsL (qsM rows)=n):=⟨_,rfl⟩;obtain⟨R,hR⟩:∃ m,Hid (solveS (qsM rows) (bs.map FrD.q)=m):=⟨_,rfl⟩;rw[hn.out] at hK hN;rw[hR.out];have hfm':=Lib.hid hfm;have hfx':=Lib.hid hfx;clear hfm hfx;have hl:=h.len;have hlx:=hx.len;go_enter Try.func92,Try.ntmps92;go_wp2_with fail;refine (cols_any h).mono ?_;rintro e w1 ⟨rfl,b1⟩;rw[hn.out]
 rcases hfo:formedL (qsM rows) with _ | _
 · have hf:=Lib.hid (show R=([],2) by rw[←hR.out];exact solveS_form (by rw[hfo];simp));rw[if_neg (by decide)];go_wp2
   go_ret2
   exact RetLF.err hf.out rfl b1
 rw[if_pos rfl];have hfo':=Lib.hid hfo;have hr:=Lib.hid (show rect (qsM rows) n by rw[←hn.out];exact formedL_rect hfo);clear hfo
 by_cases hle0:¬ bs.length=rows.length
 · have hle:=hle0;have hne:((bs.length:Int) != (rows.length:Int))=true:=by simp;omega
   have hf:=Lib.hid (show R=([],2) by rw[←hR.out];exact solveS_form (by rw[List.length_map,qsM_len];exact fun h=>hle h.2));go_wp2
   go_ret2
   exact RetLF.err hf.out rfl b1
 have hle:bs.length=rows.length:=Decidable.not_not.1 hle0;clear hle0;have hne:((bs.length:Int) != (rows.length:Int))=false:=by rw[bne_eq_false_iff_eq];omega
 have hle':=Lib.hid hle;have hble:bs.length≤rows.length:=by omega
 have hrle:rows.length≤bs.length:=by omega
 clear hle;have hwl:=Lib.hid (show (withL (qsM rows) (bs.map FrD.q)).length=rows.length by rw[withL_length (by rw[List.length_map,qsM_len];exact hle'.out),qsM_len]);obtain⟨T,hT⟩:∃ T,Hid (withL (qsM rows) (bs.map FrD.q)=T):=⟨_,rfl⟩;have hTl:=Lib.hid (show T.length=rows.length by rw[←hT.out];exact hwl.out)
 have hnr:=Lib.hid (show ∀ r∈rows,r.ds.length=n from fun r hr'=>by
  have:=hr.out r.qs (List.mem_map.2 ⟨r,hr',rfl⟩);rw[RwD.qs_len] at this;exact this)
 go_wp2
 go_loopw [8,33] (fun v i wr=>MtInv T w v i wr) (fun _ i _=>rows.length-(intOf i).toNat)
 case atStart=>exact⟨0,by omega,rfl,MtAt.start _ b1⟩
 case round =>
  obtain⟨k,hk,rfl,hat⟩:=hrel;rw[hTl.out] at hk;have hbel:=hat.bel
  by_cases hkl:k<rows.length
  · have hki:(k:Int)<(rows.length:Int):=by omega
    have hkb:k<1000000000000:=by omega
    have hkbs:k<bs.length:=by omega
    have hkbi:(k:Int)<(bs.length:Int):=by omega
    obtain⟨a,r,rfl,hab,hc0,hfr,hrk⟩:=(h.below hbel).at hkl;obtain⟨e,d,rfl,heb,he0,he1,he2,hd,hdk⟩:=hx.at hkbs;replace hd:=hd.below hbel;have hlr:=hfr.len;have hrl:r.ds.length=n:=hnr.out r (List.mem_of_getElem? hrk.out);have hrc:n≤r.c:=by omega
    have hq:Hid (T[k]?=some (r.qs++[d.q])):=by
     show _=_
     rw[←hT.out];unfold withL qsM;rw[List.getElem?_zipWith,List.getElem?_map,List.getElem?_map,hrk.out,hdk.out];rfl
    obtain⟨rA,hrA⟩:∃ x,r.a=x:=⟨_,rfl⟩;rw[hrA] at hfr hc0;clear hrA
    cases rA with
    | none =>
     have bT:=hat.bel
     have hS:∀ w',Below w.heap.size w w'→w'.cell? (e.add (k*3))=some (.bool d.neg)∧w'.cell? ⟨(e.add (k*3)).block,(e.add (k*3)).off+1,none⟩=some (.slice d.a d.la.length d.ca)∧w'.cell? ⟨(e.add (k*3)).block,(e.add (k*3)).off+2,none⟩=some (.slice d.b d.lb.length d.cb)∧Below w.heap.size w w':=by
      intro w' o;exact⟨(o.cell (by show (e.add (k*3)).block<_;rw[block_add];exact heb)).trans he0,(o.cell (by show (e.add (k*3)).block<_;rw[block_add];exact heb)).trans he1,(o.cell (by show (e.add (k*3)).block<_;rw[block_add];exact heb)).trans he2,o⟩
     have bo:Below w.heap.size w wr:=hat.bel;have dS:Below w.heap.size w wr.drew:=bo.drew;go_wp2_with fail;refine wp_region_noPanic ?_;refine wp_region_held_drew (S:=fun w'=>w'.cell? (e.add (k*3))=some (.bool d.neg)∧w'.cell? ⟨(e.add (k*3)).block,(e.add (k*3)).off+1,none⟩=some (.slice d.a d.la.length d.ca)∧w'.cell? ⟨(e.add (k*3)).block,(e.add (k*3)).off+2,none⟩=some (.slice d.b d.lb.length d.cb)∧Below w.heap.size w w') (by kernel_rfl) (hS _ dS) (fun hHeld=>?_);refine tkH 0 rfl hHeld ?_;refine tkH 1 rfl hHeld ?_;refine tkH 2 rfl hHeld ?_;refine tkH 3 rfl hHeld ?_;refine tkH 4 rfl hHeld ?_;refine tkH 5 rfl hHeld ?_;refine tkH 6 rfl hHeld ?_;refine tkH 7 rfl hHeld ?_;refine tkH 8 rfl hHeld ?_;refine rdH 9 rfl fun K hK=>?_;have dw0:Below wr.heap.size wr wr.drew:=(Below.refl _ _).drew;replace hat:=hat.below dw0;replace hfr:=hfr.below dw0;replace hd:=hd.below dw0;replace bT:=bT.trans (dw0.mono bT.size);replace bo:=bo.trans (dw0.mono bo.size);obtain⟨n1,A1,a1,l1,B1,c1,m1,ev,na,nb,iq⟩:=id hd;clear na nb iq ev;obtain⟨y1,hy1,by1,ly1,By1⟩:=boxed wr.drew #[.bool d.neg,.slice d.a d.la.length d.ca,.slice d.b d.lb.length d.cb] 28;replace hat:=hat.below by1;replace hfr:=hfr.below by1;replace hd:=hd.below by1;replace bT:=bT.trans (by1.mono bT.size);replace bo:=bo.trans (by1.mono bo.size);go_simp;refine hK.out _ _ (hS _ bo) (fun hHeld=>?_);clear hK K;(try simp only[lay])
     refine rdH 10 rfl fun K hK=>?_;refine step_appFull rfl _ _ rfl rfl (ds:=r.ds) hfr (by rw[hrl];rfl) ⟨wr.drew.heap.size,0,none⟩ 1 d rfl (World.news_of_block By1) (by omega) ?_;intro v6 w6 ho6 hg6;have b6:Below y1.heap.size y1 w6:=⟨hg6.os,hg6.tape,hg6.output,hg6.size,fun g hg=>hg6.block g hg (by simp)⟩;replace hat:=hat.below b6;replace hfr:=hfr.below b6;replace hd:=hd.below b6;replace bT:=bT.trans (b6.mono bT.size);replace bo:=bo.trans (b6.mono bo.size);obtain⟨ds6,hds6⟩:∃ x,Hid (r.ds++[d]=x):=⟨_,rfl⟩;rw[hds6.out] at ho6
     obtain⟨A6,c6,rfl,hf6⟩:=ho6.fl (fun x hx=>by
      rw[←hds6.out] at hx
      rcases List.mem_append.1 hx with hx | hx
      · exact hfr.fv x hx
      · simp at hx;subst hx;exact hd)
     clear ho6 hg6;refine hK.out _ _ (hS _ bo) (fun hHeld=>?_);clear hK K;(try simp only[lay]);refine rdH 11 rfl fun K hK=>?_;obtain⟨os,ho,h63,hbs,hnext⟩:=hat.app (r:=⟨A6,c6,ds6⟩) hkb (hq.out.trans (by rw[←hds6.out];simp[RwD.qs])) hf6;have hf7:=hf6;obtain⟨y2,hy2,by2,ly2,By2⟩:=boxed w6 #[.slice A6 ds6.length c6] 22;replace hfr:=hfr.below by2;replace hd:=hd.below by2;replace bT:=bT.trans (by2.mono bT.size);replace bo:=bo.trans (by2.mono bo.size);go_simp;refine hK.out _ _ (hS _ bo) (fun hHeld=>?_);clear hK K;(try simp only[lay]);refine rdH 12 rfl fun K hK=>?_;refine step_appM rfl Try.underlying118 _ _ rfl rfl w.heap.size _ os rfl (by rw[←hy2];exact ho) ⟨w6.heap.size,0,none⟩ 1 ⟨A6,c6,ds6⟩ rfl (By2.cell 0) h63 (by rw[←hy2];exact hbs) ?_;intro v8 w8 ho8 hg8;rw[←hy2] at hg8;have hat8:=hnext.out v8 w8 ho8 hg8;replace bo:=hat8.bel;clear hnext ho hg8 ho8;refine hK.out _ _ (hS _ bo) (fun hHeld=>?_);clear hK K;(try simp only[lay]);refine tkH 13 rfl hHeld ?_;refine wpAnyH_done (by kernel_rfl) ?_ _;refine NoPanic.normal ?_;(try go_simp);clear hHeld;clear hS dS bo;go_wp2;go_roundw
     case rel=>exact⟨k+1,by rw[hTl.out];omega,by go_num,hat8⟩
     case measure=>simp[intOf];omega
    | some ra =>
     have bT:=hat.bel
     have hS:∀ w',Below w.heap.size w w'→w'.cell? (e.add (k*3))=some (.bool d.neg)∧w'.cell? ⟨(e.add (k*3)).block,(e.add (k*3)).off+1,none⟩=some (.slice d.a d.la.length d.ca)∧w'.cell? ⟨(e.add (k*3)).block,(e.add (k*3)).off+2,none⟩=some (.slice d.b d.lb.length d.cb)∧Below w.heap.size w w':=by
      intro w' o;exact⟨(o.cell (by show (e.add (k*3)).block<_;rw[block_add];exact heb)).trans he0,(o.cell (by show (e.add (k*3)).block<_;rw[block_add];exact heb)).trans he1,(o.cell (by show (e.add (k*3)).block<_;rw[block_add];exact heb)).trans he2,o⟩
     have bo:Below w.heap.size w wr:=hat.bel;have dS:Below w.heap.size w wr.drew:=bo.drew;go_wp2_with fail;refine wp_region_noPanic ?_;refine wp_region_held_drew (S:=fun w'=>w'.cell? (e.add (k*3))=some (.bool d.neg)∧w'.cell? ⟨(e.add (k*3)).block,(e.add (k*3)).off+1,none⟩=some (.slice d.a d.la.length d.ca)∧w'.cell? ⟨(e.add (k*3)).block,(e.add (k*3)).off+2,none⟩=some (.slice d.b d.lb.length d.cb)∧Below w.heap.size w w') (by kernel_rfl) (hS _ dS) (fun hHeld=>?_);refine tkH 0 rfl hHeld ?_;refine tkH 1 rfl hHeld ?_;refine tkH 2 rfl hHeld ?_;refine tkH 3 rfl hHeld ?_;refine tkH 4 rfl hHeld ?_;refine tkH 5 rfl hHeld ?_;refine tkH 6 rfl hHeld ?_;refine tkH 7 rfl hHeld ?_;refine tkH 8 rfl hHeld ?_;refine rdH 9 rfl fun K hK=>?_;have dw0:Below wr.heap.size wr wr.drew:=(Below.refl _ _).drew;replace hat:=hat.below dw0;replace hfr:=hfr.below dw0;replace hd:=hd.below dw0;replace bT:=bT.trans (dw0.mono bT.size);replace bo:=bo.trans (dw0.mono bo.size);obtain⟨n1,A1,a1,l1,B1,c1,m1,ev,na,nb,iq⟩:=id hd;clear na nb iq ev;obtain⟨y1,hy1,by1,ly1,By1⟩:=boxed wr.drew #[.bool d.neg,.slice d.a d.la.length d.ca,.slice d.b d.lb.length d.cb] 28;replace hat:=hat.below by1;replace hfr:=hfr.below by1;replace hd:=hd.below by1;replace bT:=bT.trans (by1.mono bT.size);replace bo:=bo.trans (by1.mono bo.size);go_simp;refine hK.out _ _ (hS _ bo) (fun hHeld=>?_);clear hK K;(try simp only[lay])
     refine rdH 10 rfl fun K hK=>?_;refine step_appFull rfl _ _ rfl rfl (ds:=r.ds) hfr (by rw[hrl];rfl) ⟨wr.drew.heap.size,0,none⟩ 1 d rfl (World.news_of_block By1) (by omega) ?_;intro v6 w6 ho6 hg6;have b6:Below y1.heap.size y1 w6:=⟨hg6.os,hg6.tape,hg6.output,hg6.size,fun g hg=>hg6.block g hg (by simp)⟩;replace hat:=hat.below b6;replace hfr:=hfr.below b6;replace hd:=hd.below b6;replace bT:=bT.trans (b6.mono bT.size);replace bo:=bo.trans (b6.mono bo.size);obtain⟨ds6,hds6⟩:∃ x,Hid (r.ds++[d]=x):=⟨_,rfl⟩;rw[hds6.out] at ho6
     obtain⟨A6,c6,rfl,hf6⟩:=ho6.fl (fun x hx=>by
      rw[←hds6.out] at hx
      rcases List.mem_append.1 hx with hx | hx
      · exact hfr.fv x hx
      · simp at hx;subst hx;exact hd)
     clear ho6 hg6;refine hK.out _ _ (hS _ bo) (fun hHeld=>?_);clear hK K;(try simp only[lay]);refine rdH 11 rfl fun K hK=>?_;obtain⟨os,ho,h63,hbs,hnext⟩:=hat.app (r:=⟨A6,c6,ds6⟩) hkb (hq.out.trans (by rw[←hds6.out];simp[RwD.qs])) hf6;have hf7:=hf6;obtain⟨y2,hy2,by2,ly2,By2⟩:=boxed w6 #[.slice A6 ds6.length c6] 22;replace hfr:=hfr.below by2;replace hd:=hd.below by2;replace bT:=bT.trans (by2.mono bT.size);replace bo:=bo.trans (by2.mono bo.size);go_simp;refine hK.out _ _ (hS _ bo) (fun hHeld=>?_);clear hK K;(try simp only[lay]);refine rdH 12 rfl fun K hK=>?_;refine step_appM rfl Try.underlying118 _ _ rfl rfl w.heap.size _ os rfl (by rw[←hy2];exact ho) ⟨w6.heap.size,0,none⟩ 1 ⟨A6,c6,ds6⟩ rfl (By2.cell 0) h63 (by rw[←hy2];exact hbs) ?_;intro v8 w8 ho8 hg8;rw[←hy2] at hg8;have hat8:=hnext.out v8 w8 ho8 hg8;replace bo:=hat8.bel;clear hnext ho hg8 ho8;refine hK.out _ _ (hS _ bo) (fun hHeld=>?_);clear hK K;(try simp only[lay]);refine tkH 13 rfl hHeld ?_;refine wpAnyH_done (by kernel_rfl) ?_ _;refine NoPanic.normal ?_;(try go_simp);clear hHeld;clear hS dS bo;go_wp2;go_roundw
     case rel=>exact⟨k+1,by rw[hTl.out];omega,by go_num,hat8⟩
     case measure=>simp[intOf];omega
  · obtain rfl:k=rows.length:=by omega
    have hlt':decide ((rows.length:Int)<(rows.length:Int))=false:=decide_eq_false (by omega);obtain⟨B,cb,es,rfl,hfl,hqe⟩:=hat.done hTl.out.symm;have hesl:=Lib.hid (show es.length=rows.length by rw[←qsM_len,hqe.out,hTl.out]);have hTr:=Lib.hid (show rect T (n+1) by rw[←hT.out];exact withL_rect hr.out);have hTf:=Lib.hid (show MFits K T by rw[←hT.out];exact withL_fits hfm'.out hfx'.out);have hred:=Lib.hid (reduceL_ok hTr.out n (by omega));have hfk:=Lib.hid (reduceL_fits hTf.out hTr.out n (by omega));have hform:=Lib.hid (show (bs.map FrD.q).length=(qsM rows).length by rw[List.length_map,qsM_len];exact hle'.out);obtain⟨S,hS⟩:∃ S,Hid (reduceL T n=S):=⟨_,rfl⟩;go_wp2_with fail;refine (reduce_any (N:=n+1) (n:=n) hfl (by rw[hqe.out];exact hTr.out) (by omega) (by rw[hqe.out];exact hTf.out) hK (by rw[hesl.out];exact hrn) (by omega)).mono ?_;rw[hqe.out];rw[hS.out] at hred hfk ⊢;obtain⟨Q,is⟩:=S;rintro e w2 ⟨B2,cb2,fs,L,cl,rfl,hml,hq2,hil,b2⟩;have b02:=hbel.trans (b2.mono hbel.size);have hqe':Hid (qsM fs=Q):=hq2;have hil':ILs w2 L cl is:=hil;clear hq2 hil;have hlil:=hil'.1;have hlil2:=hil'.2.1;have hlml:=hml.len
    have hfsl:=Lib.hid (show fs.length=rows.length by
     have:=hred.out.len;rw[←qsM_len,hqe'.out];simpa [hTl.out] using this)
    have hisl':=Lib.hid (show is.length≤fs.length by
     have:=hred.out.le;rw[hfsl.out];simpa [hTl.out] using this)
    have hisl:=hisl'.out;have hisli:(is.length:Int)≤(fs.length:Int):=by omega
    have hislt:=Lib.hid (show ∀ j x,is[j]?=some x→x<n from fun j x hj=>(hred.out.red.lt (x,j) (List.mem_of_getElem? (zipIdx_at hj))).1)
    cases B2 with
    | none =>
     have hfs0:fs.length=0:=by
      rcases Nat.eq_zero_or_pos fs.length with h0 | h0
      · exact h0
      · obtain⟨a,r,ea,_⟩:=hml.at h0
        cases ea
     have his0:is.length=0:=by omega
     have hno:fs.length-is.length=0:=by omega
     have hfsle:fs.length≤is.length:=by omega
     have hfs:=Lib.hid hfs0;have his:=Lib.hid his0;have hnn:=Lib.hid hno;clear hfs0 his0 hno;go_wp2
     go_loopw [66] (fun i wr=>RestInv Q is.length n w2 i wr) (fun i _=>fs.length-is.length-(intOf i).toNat)
     case atStart=>exact⟨0,by rw[←hqe'.out,qsM_len];omega,rfl,fun i h1 h2=>by omega,Below.refl _ _⟩
     case round =>
      obtain⟨j,hj,rfl,hz,b3⟩:=hrel;rw[←hqe'.out,qsM_len] at hj;obtain rfl:j=0:=by have:=hnn.out;omega
      have hje:=Lib.hid (show is.length+0=fs.length by have:=hnn.out;omega);have hlt':decide ((0:Int)<((fs.length-is.length:Nat):Int))=false:=decide_eq_false (by have:=hnn.out;omega);have b03:=b02.trans (b3.mono b02.size);have hzero:=Lib.hid (restZero_yes (R:=Q) (k:=is.length) (n:=n) (fun i h1 h2=>hz.out i h1 (by rw[hje.out,←qsM_len,hqe'.out];exact h2)))
      have hRe:=Lib.hid (show (putAll is.zipIdx (fun i=>fn Q i n) (List.replicate n 0),(0:Int))=R by
       have:=solveS_some hfo'.out hform.out hn.out (by rw[hT.out,hS.out];exact hzero.out);rw[hT.out,hS.out] at this;rw[←hR.out,this])
      go_wp2_with fail;refine (zeros_any n (by omega) wr).mono ?_;rintro e w4 ⟨g,ds,rfl,hA,hFV,hqs,hg,b4⟩;have hdl:ds.length=n:=by rw[←List.length_map (f:=FrD.q),hqs.out,List.length_replicate]
      have hcol:ColAt g (List.replicate n 0) wr w4:=⟨ds,hA,hFV,hqs.out,b4⟩;have hg':=Lib.hid hg;rw[hdl];clear hA hFV hqs hdl hg;go_wp2
      go_loopw [81] (fun i w'=>PutInv is (fun i=>fn Q i n) (List.replicate n 0) g wr i w') (fun i _=>is.length-(intOf i).toNat)
      case atStart=>exact⟨0,by omega,rfl,hcol⟩
      case round =>
       obtain⟨k,hk,rfl,hc⟩:=hrel;have hb:=hc.bel;have hb2:=b3.trans (hb.mono b3.size);have hb0:=b02.trans (hb2.mono b02.size)
       by_cases hkl:k<is.length
       · exact absurd hkl (by have:=his.out;omega)
       · obtain rfl:k=is.length:=by omega
         have hlt':decide ((is.length:Int)<(is.length:Int))=false:=decide_eq_false (by omega);rw[List.take_of_length_le (by rw[List.length_zipIdx];exact Nat.le_refl _)] at hc;have hpl:(putAll is.zipIdx (fun i=>fn Q i n) (List.replicate n 0)).length=n:=by rw[putAll_length,List.length_replicate]
         obtain⟨ds',hl',hfl',hq'⟩:=hc.done (by omega);have hdl':ds'.length=n:=hl'.trans hpl;clear hl' hpl;go_wp2
         go_ret2
         exact⟨_,_,ds',by rw[←hRe.out,hdl'];rfl,hfl',by rw[←hRe.out];exact hq',hb0,fun a e=>by cases e;exact Nat.le_trans b03.size hg'.out⟩
    | some a =>
     by_cases hct:cb2=is.length
     · obtain rfl:=hct;have hnn:=Lib.hid (show fs.length-is.length=0 by omega);go_wp2
       go_loopw [66] (fun i wr=>RestInv Q is.length n w2 i wr) (fun i _=>fs.length-is.length-(intOf i).toNat)
       case atStart=>exact⟨0,by rw[←hqe'.out,qsM_len];omega,rfl,fun i h1 h2=>by omega,Below.refl _ _⟩
       case round =>
        obtain⟨j,hj,rfl,hz,b3⟩:=hrel;rw[←hqe'.out,qsM_len] at hj;obtain rfl:j=0:=by have:=hnn.out;omega
        have hje:=Lib.hid (show is.length+0=fs.length by have:=hnn.out;omega);have hlt':decide ((0:Int)<((fs.length-is.length:Nat):Int))=false:=decide_eq_false (by have:=hnn.out;omega);have b03:=b02.trans (b3.mono b02.size);have hzero:=Lib.hid (restZero_yes (R:=Q) (k:=is.length) (n:=n) (fun i h1 h2=>hz.out i h1 (by rw[hje.out,←qsM_len,hqe'.out];exact h2)))
        have hRe:=Lib.hid (show (putAll is.zipIdx (fun i=>fn Q i n) (List.replicate n 0),(0:Int))=R by
         have:=solveS_some hfo'.out hform.out hn.out (by rw[hT.out,hS.out];exact hzero.out);rw[hT.out,hS.out] at this;rw[←hR.out,this])
        go_wp2_with fail;refine (zeros_any n (by omega) wr).mono ?_;rintro e w4 ⟨g,ds,rfl,hA,hFV,hqs,hg,b4⟩;have hdl:ds.length=n:=by rw[←List.length_map (f:=FrD.q),hqs.out,List.length_replicate]
        have hcol:ColAt g (List.replicate n 0) wr w4:=⟨ds,hA,hFV,hqs.out,b4⟩;have hg':=Lib.hid hg;rw[hdl];clear hA hFV hqs hdl hg;go_wp2
        go_loopw [81] (fun i w'=>PutInv is (fun i=>fn Q i n) (List.replicate n 0) g wr i w') (fun i _=>is.length-(intOf i).toNat)
        case atStart=>exact⟨0,by omega,rfl,hcol⟩
        case round =>
         obtain⟨k,hk,rfl,hc⟩:=hrel;have hb:=hc.bel;have hb2:=b3.trans (hb.mono b3.size);have hb0:=b02.trans (hb2.mono b02.size)
         by_cases hkl:k<is.length
         · have hki:(k:Int)<(is.length:Int):=by omega
           obtain⟨x,hx⟩:∃ x,Hid (is[k]?=some x):=⟨_,List.getElem?_eq_getElem hkl⟩;obtain⟨aL2,eL2,haL2,hcL2⟩:=(hil'.below hb2).2.2 k x hx.out
           cases eL2
           have hkfs:k<fs.length:=by omega
           have hkfsi:(k:Int)<(fs.length:Int):=by omega
           obtain⟨a',r,ea,hab,hc0,hfr,hrk⟩:=(hml.below hb2).at hkfs
           cases ea
           have hlr:=hfr.len
           have hrl:r.ds.length=n+1:=by
            have:=hred.out.rct r.qs (by
             show r.qs∈Q
             rw[←hqe'.out];exact List.mem_map.2 ⟨r,List.mem_of_getElem? hrk.out,rfl⟩)
            rw[RwD.qs_len] at this;exact this
           obtain⟨b,d,eb,hbb,hd0,hd1,hd2,hfd,hdk⟩:=hfr.at (k:=n) (by omega)
           have hfe:=Lib.hid (show d.q=fn Q k n by
            rw[←hqe'.out];unfold fn qsM;rw[List.getD_eq_getElem?_getD (l:=fs.map _),List.getElem?_map,hrk.out]
            show _=(r.ds.map FrD.q).getD n 0
            rw[List.getD_eq_getElem?_getD,List.getElem?_map,hdk.out];rfl)
           rw[eb] at hc0;clear hfr eb;have hnlr:(n:Int)<(r.ds.length:Int):=by omega
           have hxn:=hislt.out k x hx.out;have hxni:(x:Int)<(n:Int):=by omega
           obtain⟨n5,A5,c5,l5,B5,d5,m5,ev,na5,nb5,iq5⟩:=hfd;rw[hfe.out] at iq5
           unfold FrD.v fracV at ev
           injection ev with ev
           have e1:d.neg=n5:=by injection ev with ev;injection ev with ev _;injection ev
           have ev2:(.slice d.a d.la.length d.ca:Value)=.slice A5 l5.length c5:=by injection ev with ev;injection ev with _ ev;injection ev
           have ev3:(.slice d.b d.lb.length d.cb:Value)=.slice B5 m5.length d5:=by injection ev with ev;injection ev with _ ev;injection ev with _ ev;injection ev
           rw[e1] at hd0;rw[ev2] at hd1;rw[ev3] at hd2;clear ev e1 ev2 ev3;obtain⟨y0,y1,y2,w7,z0,z1,z2,g0,g1,g2,e7,hc9⟩:=hc.store (k:=x) (by rw[putAll_length,List.length_replicate];exact hxn) hg'.out na5 nb5 iq5;have hst:=Lib.hid (putAll_step (f:=fun i=>fn Q i n) (qs:=List.replicate n 0) (zipIdx_at hx.out));clear na5 nb5 iq5 hc;go_wp2;exact⟨⟨k+1,by omega,by go_num,by rw[hst.out];exact hc9⟩,by simp[intOf];omega⟩
         · obtain rfl:k=is.length:=by omega
           have hlt':decide ((is.length:Int)<(is.length:Int))=false:=decide_eq_false (by omega);rw[List.take_of_length_le (by rw[List.length_zipIdx];exact Nat.le_refl _)] at hc;have hpl:(putAll is.zipIdx (fun i=>fn Q i n) (List.replicate n 0)).length=n:=by rw[putAll_length,List.length_replicate]
           obtain⟨ds',hl',hfl',hq'⟩:=hc.done (by omega);have hdl':ds'.length=n:=hl'.trans hpl;clear hl' hpl;go_wp2
           go_ret2
           exact⟨_,_,ds',by rw[←hRe.out,hdl'];rfl,hfl',by rw[←hRe.out];exact hq',hb0,fun a e=>by cases e;exact Nat.le_trans b03.size hg'.out⟩
     · have hnl:(is.length:Int)≤(cb2:Int):=by omega
       go_wp2
       go_loopw [66] (fun i wr=>RestInv Q is.length n w2 i wr) (fun i _=>fs.length-is.length-(intOf i).toNat)
       case atStart=>exact⟨0,by rw[←hqe'.out,qsM_len];omega,rfl,fun i h1 h2=>by omega,Below.refl _ _⟩
       case round =>
        obtain⟨j,hj,rfl,hz,b3⟩:=hrel;rw[←hqe'.out,qsM_len] at hj
        by_cases hjl:is.length+j<fs.length
        · have hji:(j:Int)<((fs.length-is.length:Nat):Int):=by omega
          obtain⟨a',r,ea,hab,hc0,hfr,hrk⟩:=(hml.below b3).at hjl
          cases ea
          rw[←Addr.add_add] at hc0;have hlr:=hfr.len
          have hrl:r.ds.length=n+1:=by
           have:=hred.out.rct r.qs (by
            show r.qs∈Q
            rw[←hqe'.out];exact List.mem_map.2 ⟨r,List.mem_of_getElem? hrk.out,rfl⟩)
           rw[RwD.qs_len] at this;exact this
          obtain⟨b,d,eb,hbb,hd0,hd1,hd2,hfd,hdk⟩:=hfr.at (k:=n) (by omega)
          have hfe:=Lib.hid (show d.q=fn Q (is.length+j) n by
           rw[←hqe'.out];unfold fn qsM;rw[List.getD_eq_getElem?_getD (l:=fs.map _),List.getElem?_map,hrk.out]
           show _=(r.ds.map FrD.q).getD n 0
           rw[List.getD_eq_getElem?_getD,List.getElem?_map,hdk.out];rfl)
          rw[eb] at hc0;clear hfr eb;have hnlr:(n:Int)<(r.ds.length:Int):=by omega
          go_wp2_with fail;refine (sign_any hfd).mono ?_;rintro e w6 ⟨rfl,b6⟩;have b36:=b3.trans (b6.mono b3.size)
          by_cases hzd:d.q=0
          · have hs:Hid (cmpR d.q 0=0):=cmpR_zero.2 hzd
            have hz':=Lib.hid (show ∀ i,is.length≤i→i<is.length+(j+1)→fn Q i n=0 from fun i h1 h2=>by
             rcases Nat.lt_or_ge i (is.length+j) with h | h
             · exact hz.out i h1 h
             · rw[show i=is.length+j by omega,←hfe.out];exact hzd)
            rw[hs.out];clear hzd;go_wp2;go_roundw
            case rel=>exact⟨j+1,by rw[←hqe'.out,qsM_len];omega,by go_num,hz',b36⟩
            case measure=>simp[intOf];omega
          · obtain⟨s,hs⟩:∃ s,Hid (cmpR d.q 0=s):=⟨_,rfl⟩;have hs0:(s != 0)=true:=by rw[bne_iff_ne];intro e;exact hzd (cmpR_zero.1 (by rw[hs.out];exact e))
            have hrz:=Lib.hid (restZero_no (R:=Q) (k:=is.length) (n:=n) (i:=is.length+j) (by omega) (by rw[←hqe'.out,qsM_len];exact hjl) (by rw[←hfe.out];exact hzd));have hf:=Lib.hid (show R=([],6) by rw[←hR.out];exact solveS_none hfo'.out hform.out hn.out (by rw[hT.out,hS.out];exact hrz.out));rw[hs.out];clear hzd;go_wp2
            go_ret2
            exact RetLF.err hf.out rfl (b02.trans (b36.mono b02.size))
        · have hje:=Lib.hid (show is.length+j=fs.length by omega);have hlt':decide ((j:Int)<((fs.length-is.length:Nat):Int))=false:=decide_eq_false (by omega);have b03:=b02.trans (b3.mono b02.size);have hzero:=Lib.hid (restZero_yes (R:=Q) (k:=is.length) (n:=n) (fun i h1 h2=>hz.out i h1 (by rw[hje.out,←qsM_len,hqe'.out];exact h2)))
          have hRe:=Lib.hid (show (putAll is.zipIdx (fun i=>fn Q i n) (List.replicate n 0),(0:Int))=R by
           have:=solveS_some hfo'.out hform.out hn.out (by rw[hT.out,hS.out];exact hzero.out);rw[hT.out,hS.out] at this;rw[←hR.out,this])
          go_wp2_with fail;refine (zeros_any n (by omega) wr).mono ?_;rintro e w4 ⟨g,ds,rfl,hA,hFV,hqs,hg,b4⟩;have hdl:ds.length=n:=by rw[←List.length_map (f:=FrD.q),hqs.out,List.length_replicate]
          have hcol:ColAt g (List.replicate n 0) wr w4:=⟨ds,hA,hFV,hqs.out,b4⟩;have hg':=Lib.hid hg;rw[hdl];clear hA hFV hqs hdl hg;go_wp2
          go_loopw [81] (fun i w'=>PutInv is (fun i=>fn Q i n) (List.replicate n 0) g wr i w') (fun i _=>is.length-(intOf i).toNat)
          case atStart=>exact⟨0,by omega,rfl,hcol⟩
          case round =>
           obtain⟨k,hk,rfl,hc⟩:=hrel;have hb:=hc.bel;have hb2:=b3.trans (hb.mono b3.size);have hb0:=b02.trans (hb2.mono b02.size)
           by_cases hkl:k<is.length
           · have hki:(k:Int)<(is.length:Int):=by omega
             obtain⟨x,hx⟩:∃ x,Hid (is[k]?=some x):=⟨_,List.getElem?_eq_getElem hkl⟩;obtain⟨aL2,eL2,haL2,hcL2⟩:=(hil'.below hb2).2.2 k x hx.out
             cases eL2
             have hkfs:k<fs.length:=by omega
             have hkfsi:(k:Int)<(fs.length:Int):=by omega
             obtain⟨a',r,ea,hab,hc0,hfr,hrk⟩:=(hml.below hb2).at hkfs
             cases ea
             have hlr:=hfr.len
             have hrl:r.ds.length=n+1:=by
              have:=hred.out.rct r.qs (by
               show r.qs∈Q
               rw[←hqe'.out];exact List.mem_map.2 ⟨r,List.mem_of_getElem? hrk.out,rfl⟩)
              rw[RwD.qs_len] at this;exact this
             obtain⟨b,d,eb,hbb,hd0,hd1,hd2,hfd,hdk⟩:=hfr.at (k:=n) (by omega)
             have hfe:=Lib.hid (show d.q=fn Q k n by
              rw[←hqe'.out];unfold fn qsM;rw[List.getD_eq_getElem?_getD (l:=fs.map _),List.getElem?_map,hrk.out]
              show _=(r.ds.map FrD.q).getD n 0
              rw[List.getD_eq_getElem?_getD,List.getElem?_map,hdk.out];rfl)
             rw[eb] at hc0;clear hfr eb;have hnlr:(n:Int)<(r.ds.length:Int):=by omega
             have hxn:=hislt.out k x hx.out;have hxni:(x:Int)<(n:Int):=by omega
             obtain⟨n5,A5,c5,l5,B5,d5,m5,ev,na5,nb5,iq5⟩:=hfd;rw[hfe.out] at iq5
             unfold FrD.v fracV at ev
             injection ev with ev
             have e1:d.neg=n5:=by injection ev with ev;injection ev with ev _;injection ev
             have ev2:(.slice d.a d.la.length d.ca:Value)=.slice A5 l5.length c5:=by injection ev with ev;injection ev with _ ev;injection ev
             have ev3:(.slice d.b d.lb.length d.cb:Value)=.slice B5 m5.length d5:=by injection ev with ev;injection ev with _ ev;injection ev with _ ev;injection ev
             rw[e1] at hd0;rw[ev2] at hd1;rw[ev3] at hd2;clear ev e1 ev2 ev3;obtain⟨y0,y1,y2,w7,z0,z1,z2,g0,g1,g2,e7,hc9⟩:=hc.store (k:=x) (by rw[putAll_length,List.length_replicate];exact hxn) hg'.out na5 nb5 iq5;have hst:=Lib.hid (putAll_step (f:=fun i=>fn Q i n) (qs:=List.replicate n 0) (zipIdx_at hx.out));clear na5 nb5 iq5 hc;go_wp2;exact⟨⟨k+1,by omega,by go_num,by rw[hst.out];exact hc9⟩,by simp[intOf];omega⟩
           · obtain rfl:k=is.length:=by omega
             have hlt':decide ((is.length:Int)<(is.length:Int))=false:=decide_eq_false (by omega);rw[List.take_of_length_le (by rw[List.length_zipIdx];exact Nat.le_refl _)] at hc;have hpl:(putAll is.zipIdx (fun i=>fn Q i n) (List.replicate n 0)).length=n:=by rw[putAll_length,List.length_replicate]
             obtain⟨ds',hl',hfl',hq'⟩:=hc.done (by omega);have hdl':ds'.length=n:=hl'.trans hpl;clear hl' hpl;go_wp2
             go_ret2
             exact⟨_,_,ds',by rw[←hRe.out,hdl'];rfl,hfl',by rw[←hRe.out];exact hq',hb0,fun a e=>by cases e;exact Nat.le_trans b03.size hg'.out⟩
end Go.Proofs.Ytjhkapjadfpimaa
