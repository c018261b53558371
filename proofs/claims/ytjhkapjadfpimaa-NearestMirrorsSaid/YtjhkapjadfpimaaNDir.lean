/- Contracts of functions, for the law. -/
import Derived.Test.YtjhkapjadfpimaaMAppQ
import Derived.Test.YtjhkapjadfpimaaNDr
import Derived.Test.YtjhkapjadfpimaaNSolve
import Derived.Test.YtjhkapjadfpimaaMLin
import Derived.Test.YtjhkapjadfpimaaFCmp
import Derived.Test.YtjhkapjadfpimaaNVio
import Derived.Test.YtjhkapjadfpimaaPLp
import Derived.Deep.DeepCutAuto
import Derived.Deep.RegionHeld3
namespace Go.Proofs.Ytjhkapjadfpimaa
set_option linter.unusedVariables false
set_option linter.unusedSimpArgs false
open Go.RowKit Plain
attribute [local go_sem ↓] Go.wp_at_zero Go.wp_at_succ
theorem FL.cl3 {w:World}{a:Addr}{c:Nat}{ds:List FrD}(h:FL w (some a) c ds){k:Nat}{d:FrD}(hk:ds[k]?=some d):w.cell? (a.add (k*3))=some (.bool d.neg)∧w.cell? ⟨(a.add (k*3)).block,(a.add (k*3)).off+1,none⟩=some (.slice d.a d.la.length d.ca)∧w.cell? ⟨(a.add (k*3)).block,(a.add (k*3)).off+2,none⟩=some (.slice d.b d.lb.length d.cb):=by
 obtain⟨a2,d2,e,h1,h2,h3,h4,h5,h6⟩:=h.at (List.getElem?_eq_some_iff.1 hk).1
 cases e
 have:d2=d:=by have:=h6.out;rw[hk] at this;injection this with this;exact this.symm
 subst this;exact⟨h2,h3,h4⟩
theorem XO.setFV {w w9:World}{g c k:Nat}{ds:List FrD}{d:FrD}(h:XO w g c ds) (hv:AllFV w ds) (hd:FV w d.v d.q) (o9:Only w w9 g):AllFV w9 (ds.set k d):=fun x hx=>by
 obtain⟨cur,hB,hn,-⟩:=h
 rcases List.mem_or_eq_of_mem_set hx with hx | rfl
 · exact (hv x hx).only_blk hB hn o9
 · exact hd.only_blk hB hn o9
def RetDir (z:List Rat) (lev:Rat) (rates:List Rat) (W:World) (e:Ending) (w':World):Prop :=
 ∃ Z cz zs R cr rs,∃ l:FrD,e=.returned (.tuple #[.slice Z zs.length cz,.agg #[.bool l.neg,.slice l.a l.la.length l.ca,.slice l.b l.lb.length l.cb],.slice R rs.length cr])∧FL w' Z cz zs∧FL w' R cr rs∧FV w' l.v l.q∧Hid (zs.map FrD.q=z∧l.q=lev∧rs.map FrD.q=rates)∧(∀ a,Z=some a→W.heap.size≤a.block)∧(∀ a,R=some a→W.heap.size≤a.block)∧Below W.heap.size W w'
theorem FL.drop1 {w:World}{a:Addr}{c:Nat}{d:FrD}{ds:List FrD}(h:FL w (some a) c (d::ds)):FL w (some (a.add 3)) (c-1) ds:=by
 have hl:=h.len
 simp only[List.length_cons] at hl
 refine⟨⟨by omega,by omega,fun j hj=>?_⟩,fun x hx=>h.fv x (List.mem_cons_of_mem _ hx)⟩;obtain⟨a2,e,h1,h2⟩:=h.row.2.2 (j+1) (by simp;omega)
 cases e
 refine⟨_,rfl,h1,fun i u hu=>?_⟩;have:=h2 i u (by simpa using hu);rw[add_add,←show (j+1)*3+i=3+(j*3+i) by omega];exact this
theorem zAt_fits {n:Nat}{M:Mat}{r v:List Rat}(hr:rect M n) (hv:v.length=n) (hvi:∀ q∈v,intQ 1 q) (hMi:∀ j i,j<M.length→intQ 1 (fn M j i)) (hrf:QFits 87381 r){j:Nat}(hj:j≤M.length) (h8:M.length≤8){i:Nat}(hi:i<n):Fits 699067 (gt (zAt M r v j) i):=by
 rw[(zAt_ok hr hv j hj).2 i hi];have h7:Fits (1+j*(87381+1+1)) (lc j (gt r) (fn M) i):=sm_fits fun l hl=>(gt_fits (by decide) hrf l).mul ((hMi l i (by omega)).fits (by decide));exact (((gt_int hvi i).fits (by decide)).sub h7).mono (by omega)
set_option maxRecDepth 100000 in
set_option maxHeartbeats 40000000 in
theorem directions_any {S:Sv}{s:Sm}{k:Nat}{aS:Addr}{w:World}{z rates:List Rat}{lev:Rat}(h:SolM S s (.pointer (some (aS.add (k*4)))) w) (hSA:S.A=some aS) (hk0:k<S.cs.length) (hc0:ConI S.n (S.cs.map CoD.con)) (hn:S.n≤8) (hA0:∀ a∈s.ia,a<S.cs.length) (hal:s.ia.length+1≤8)
 (hd0:dirS S.n (S.cs.map CoD.con) s.ia k=some (z,lev,rates)) :
 Calls Try.prog 87 #[.pointer (some ⟨S.gs,0,none⟩)] w (RetDir z lev rates w):=by
 have hc:=Lib.hid hc0;have hk':=Lib.hid hk0;have hA:=Lib.hid hA0;obtain⟨p,hp⟩:∃ p,Hid (s.ia.length+1=p):=⟨_,rfl⟩;have hp8:p≤8:=by rw[←hp.out];exact hal
 obtain⟨Nm,hNm⟩:∃ M,Hid (normalsS S.n (S.cs.map CoD.con) s.ia=M):=⟨_,rfl⟩;have hcl:=Lib.hid (show (S.cs.map CoD.con).length=S.cs.length from List.length_map _);have hA2:=Lib.hid (show ∀ a∈s.ia,a<(S.cs.map CoD.con).length from fun a ha=>by rw[hcl.out];exact hA0 a ha);have hNl:=Lib.hid (show Nm.length=p by rw[←hNm.out,normalsS_len,hp.out]);have hNr:=Lib.hid (show rect Nm S.n by rw[←hNm.out];exact normalsS_rect hc0.len hA2.out);have hNi:=Lib.hid (show ∀ r∈Nm,∀ q∈r,intQ 1 q by rw[←hNm.out];exact normals_int hc0 hA2.out);obtain⟨v,hv⟩:∃ v,Hid (nrm (S.cs.map CoD.con) k=v):=⟨_,rfl⟩;have hvl:=Lib.hid (show v.length=S.n by rw[←hv.out];exact hc0.len.nrm (by rw[hcl.out];exact hk0));have hvi:=Lib.hid (show ∀ q∈v,intQ 1 q by rw[←hv.out];exact hc0.nrmk (by rw[hcl.out];exact hk0))
 obtain⟨r,hrs,hrr⟩:∃ r,Hid (solveL (gramS Nm) (rightS Nm v)=some r)∧Hid (zAt Nm r v p=z∧r.getD 0 0=lev∧r.drop 1=rates):=by
  unfold dirS at hd0;rw[hNm.out,hv.out] at hd0
  cases e:solveL (gramS Nm) (rightS Nm v) with
  | none=>rw[e] at hd0;cases hd0
  | some r =>
   rw[e] at hd0
   injection hd0 with hd0
   injection hd0 with e1 hd0
   injection hd0 with e2 e3
   exact⟨r,rfl,by rw[←hNl.out];exact e1,e2,e3⟩
 have hGf:=Lib.hid (show MFits 1 (gramS Nm) by rw[←hNm.out];exact gram_fits hc0 hA2.out hn);have hRf:=Lib.hid (show QFits 1 (rightS Nm v) by rw[←hNm.out,←hv.out];exact right_fits hc0 hA2.out (by rw[hcl.out];exact hk0) hn);have hrF:=Lib.hid (show QFits 87381 r from sol_fits (b:=rightS Nm v) hc0 hA2.out hn hal hRf.out (by rw[rightS_len,hNl.out,hp.out]) (by rw[hNm.out];exact hrs.out))
 have hrl:=Lib.hid (show r.length=p by
  have hf:=rect_form (gramS_rect Nm) (by rw[gramS_len,hNl.out,←hp.out];omega);have h1:=(solve_sol hf.1 (by rw[rightS_len,gramS_len]) hrs.out).1;rw[h1,hf.2,hNl.out])
 obtain⟨c0,hck⟩:∃ c0,Hid (S.cs[k]?=some c0):=⟨_,List.getElem?_eq_getElem hk0⟩
 have hvq:=Lib.hid (show c0.r.ds.map FrD.q=v by
  rw[←hv.out,nrm_of (c:=c0.con) (by rw[List.getElem?_map,hck.out];rfl)];rfl)
 have hcn:=Lib.hid (show c0.r.ds.length=S.n by have h1:=congrArg List.length hvq.out;rw[List.length_map,hvl.out] at h1;exact h1);have hfl0:FL w c0.r.a c0.r.c c0.r.ds:=h.b.all.fl c0 (List.mem_of_getElem? hck.out);obtain⟨w1,hw1,b1,l1,B1⟩:=boxed w #[.bool false,.slice none 0 0,.slice none 0 0] 28;have hS1:=h.below b1;have hfl01:=hfl0.below b1;obtain⟨s0,s1,s2,s3,s4,s5,s6,s7,s8,s9,s10,s11,s12⟩:=hS1.b.cells;obtain⟨a9,d9,ea9,hab9,g0,g1,g2,g3,hfl9,hfv9,hck9⟩:=hS1.b.all.at hk0;rw[hSA] at ea9
 cases ea9
 have hd9:d9=c0:=by have h1:=hck9.out;rw[hck.out] at h1;injection h1 with h1;exact h1.symm
 subst hd9;have hmk:=make_fr w1 S.n (by omega);obtain⟨w2,hw2⟩:∃ w2,w1.alloc (.cells ((List.replicate S.n zeroD).flatMap FrD.cells).toArray 28)=w2:=⟨_,rfl⟩;obtain⟨T1,hT1⟩:∃ T,Hid (List.replicate S.n (1:Rat)=T):=⟨_,rfl⟩;have hT1l:=Lib.hid (show T1.length=S.n by rw[←hT1.out,List.length_replicate]);have hA1:FAt T1 w1.heap.size 0 w1 w2:=by rw[←hw2];exact FAt.new T1 hT1l.out w1
 rw[hw2] at hmk;have hlt0:=Lib.hid hk0;clear hfl9 hfv9 hd0 hA0 hc0;go_enter Try.func87,Try.ntmps87;go_wp2;clear s0 s1 s2 s3 s4 s5 s6 s7 s8 s9 s10 s11 s12 g0 g1 g2 g3 hmk
 go_loopw [37] (fun i wr=>∃ j:Nat,j≤S.n∧i=.int .i64 (j:Int)∧FAt T1 w1.heap.size j w1 wr) (fun i _=>S.n-(intOf i).toNat)
 case atStart=>exact⟨0,by omega,rfl,hA1⟩
 case round =>
  clear hA1;obtain⟨j,hj,rfl,hat⟩:=hrel
  by_cases hjl:j<S.n
  · have hji:(j:Int)<(S.n:Int):=by omega
    go_wp2_with fail;refine (fromInt_any 1 _ (by decide) (by decide)).mono ?_;rintro e w4 ⟨v1,rfl,hv1,b4⟩;obtain⟨zz,rfl,hz,hzq⟩:=hv1.frd;clear hv1;obtain⟨u0,u1,u2,w5,t0,t1,t2,f0,f1,f2,e5,hat5,hstep⟩:=(hat.below b4).put (by rw[hT1l.out];exact hjl) (Nat.le_refl _) hz;have hat6:=Lib.hid (hstep (by rw[←hT1.out,List.getElem?_replicate,if_pos hjl,hzq.out];rfl));clear hstep hat hz hat5;go_wp2;go_roundw
    case rel=>exact⟨j+1,by omega,by go_num,hat6.out⟩
    case measure=>simp[intOf];omega
  · obtain rfl:j=S.n:=by omega
    have hlt':decide ((S.n:Int)<(S.n:Int))=false:=decide_eq_false (by omega);rw[show FAt T1 w1.heap.size S.n w1 wr=FAt T1 w1.heap.size T1.length w1 wr by rw[hT1l.out]] at hat;have hbl:=hat.bel;obtain⟨ds1,h1,h2,h3,h4⟩:=hat.done;have h2':ds1.length=S.n:=h2.trans hT1l.out;have hbel:=hbl;have hfl1:FL wr (some ⟨w1.heap.size,0,none⟩) S.n ds1:=h1.fl h3 (by omega) |> fun hh=>by rw[←h2'];exact hh
    have hq1:=Lib.hid (show Nm[0]?=some (RwD.qs ⟨some ⟨w1.heap.size,0,none⟩,S.n,ds1⟩) by
     rw[←hNm.out]
     show some (List.replicate S.n 1)=some (ds1.map FrD.q)
     rw[h4.out,hT1.out])
    obtain⟨w6,hw6,b6,l6,B6⟩:=boxed wr #[.slice (some ⟨w1.heap.size,0,none⟩) S.n S.n] 22;have hbel6:=hbel.trans (b6.mono hbel.size)
    have hM6:MtAt Nm w1 1 (.slice (some ⟨wr.heap.size,0,none⟩) 1 1) w6:=MtAt.one (r:=⟨some ⟨w1.heap.size,0,none⟩,S.n,ds1⟩) (by
     show Blk w6 wr.heap.size _ #[.slice (some ⟨w1.heap.size,0,none⟩) ds1.length S.n]
     rw[h2'];exact B6) hbel.size (hfl1.below b6) hq1.out hbel6
    have hS6:=hS1.below hbel6;obtain⟨s0,s1,s2,s3,s4,s5,s6,s7,s8,s9,s10,s11,s12⟩:=hS6.b.cells;obtain⟨AI,cI,evI,-⟩:=h.act.il;rw[evI] at s10
    have hIl:s.ia.length≤cI∧cI≤9223372036854775807:=by
     obtain⟨AI2,cI2,e2,hI2⟩:=h.act.il;rw[evI] at e2;cases e2;exact⟨hI2.1,hI2.2.1⟩
    have evI':=Lib.hid evI;clear h1 h3 hfl1 hat evI hS6;go_wp2;clear s0 s1 s2 s3 s4 s5 s6 s7 s8 s9 s10 s11 s12
    go_loopw [8,52] (fun v i wr=>∃ j:Nat,j≤s.ia.length∧i=.int .i64 (j:Int)∧MtAt Nm w1 (j+1) v wr) (fun _ i _=>s.ia.length-(intOf i).toNat)
    case atStart=>exact⟨0,by omega,rfl,hM6⟩
    case round =>
     clear hM6 B6 hbel6 hbel;obtain⟨j,hj,rfl,hat⟩:=hrel;have hbel:=hat.bel
     by_cases hjl:j<s.ia.length
     · have hji:(j:Int)<(s.ia.length:Int):=by omega
       have hS:=hS1.below hbel;obtain⟨AI2,cI2,e2,hI⟩:=hS.act.il;rw[evI'.out] at e2
       cases e2
       obtain⟨aI,eaI,hbI,hcI⟩:=hI.2.2 j _ (List.getElem?_eq_getElem hjl);obtain⟨x,hx0⟩:∃ x,s.ia[j]=x:=⟨_,rfl⟩;have hx:=Lib.hid hx0;clear hx0;rw[hx.out] at hcI;have hxl:x<S.cs.length:=by rw[←hx.out];exact hA.out _ (List.getElem_mem hjl)
       have hxi:(x:Int)<(S.cs.length:Int):=by omega
       obtain⟨s0,s1,s2,-⟩:=hS.b.cells;obtain⟨aC,dC,eaC,habC,q0,q1,q2,q3,hflC,hfvC,hckC⟩:=hS.b.all.at hxl;rw[hSA] at eaC
       cases eaC
       rw[hSA] at s2;rw[eaI]
       have hq:=Lib.hid (show Nm[j+1]?=some dC.r.qs by
        rw[←hNm.out]
        show (s.ia.map (nrm (S.cs.map CoD.con)))[j]?=_
        rw[List.getElem?_map,List.getElem?_eq_getElem hjl,hx.out]
        show some (nrm (S.cs.map CoD.con) x)=_
        rw[nrm_of (c:=dC.con) (by rw[List.getElem?_map,hckC.out];rfl)];rfl)
       obtain⟨os,ho,h63,hbs,hnext⟩:=hat.app (r:=dC.r) (by omega) hq.out hflC;clear hS hI hflC hfvC hat
       go_wp2_with (at_builtin;refine wpList_appM rfl Try.underlying70 rfl _ _ rfl _ _ os rfl ho ⟨wr.heap.size,0,none⟩ 1 dC.r rfl (row_cell wr dC.r) h63 hbs ?_;intro v6 w7 ho6 hg6)
       have hat6:=hnext.out v6 w7 ho6 hg6;clear hnext ho hg6 ho6;go_wp2;go_roundw
       case rel=>exact⟨j+1,by omega,by go_num,hat6⟩
       case measure=>simp[intOf];omega
     · obtain rfl:j=s.ia.length:=by omega
       have hlt':decide ((s.ia.length:Int)<(s.ia.length:Int))=false:=decide_eq_false (by omega);obtain⟨NA,nc,rows,rfl,hML,hqN⟩:=hat.done (by rw[hNl.out,←hp.out]);have hrn:rows.length=p:=by rw[←hNl.out,←hqN.out];simp[qsM]
       have hrn':=Lib.hid hrn;rw[hrn];obtain⟨wN,hwN⟩:∃ wN,wN=wr:=⟨_,rfl⟩;subst hwN;have hbelN:=Lib.hid hbel;have hMLl:=hML.len;rw[hrn] at hMLl;obtain⟨G,hG⟩:∃ G,Hid (gramS Nm=G):=⟨_,rfl⟩;obtain⟨rt,hrt⟩:∃ rt,Hid (rightS Nm v=rt):=⟨_,rfl⟩;have hGl:=Lib.hid (show G.length=p by rw[←hG.out,gramS_len,hNl.out]);have hrtl:=Lib.hid (show rt.length=p by rw[←hrt.out,rightS_len,hNl.out]);have hgr:GrAt G rt wN 0 0 (.slice none 0 0) (.slice none 0 0) wN:=GrAt.start (Below.refl _ _);clear hat hrn hbel;go_wp2
       go_loopw [11,12,70] (fun vg vr i wr=>∃ j:Nat,j≤p∧i=.int .i64 (j:Int)∧GrAt G rt wN j j vg vr wr) (fun _ _ i _=>p-(intOf i).toNat)
       case atStart=>exact⟨0,by omega,rfl,hgr⟩
       case round =>
        clear hgr;obtain⟨j,hj,rfl,hgr⟩:=hrel;have hbN:=hgr.bel
        by_cases hjl:j<p
        · have hji:(j:Int)<(p:Int):=by omega
          obtain⟨aN,rj,eaN,habN,hcN,hflj,hrjk⟩:=(hML.below hbN).at (k:=j) (by rw[hrn'.out];exact hjl);rw[eaN];have hqj:=Lib.hid (show Nm[j]?=some rj.qs by rw[←hqN.out];unfold qsM;rw[List.getElem?_map,hrjk.out];rfl);have hjn:=Lib.hid (show j<Nm.length by rw[hNl.out];exact hjl);have hrjf:=Lib.hid (show ∀ d∈rj.ds,Fits 1 d.q from QFits.fr0 (fun q hq=>(hNi.out rj.qs (List.mem_of_getElem? hqj.out) q hq).fits (by decide)));have hrjl:=Lib.hid (show rj.ds.length=S.n by have h1:=hNr.out rj.qs (List.mem_of_getElem? hqj.out);rw[RwD.qs_len] at h1;exact h1);have hcf:=Lib.hid (show ∀ d∈d9.r.ds,Fits 1 d.q from QFits.fr0 (fun q hq=>by rw[hvq.out] at hq;exact (hvi.out q hq).fits (by decide)));have hdb:=Lib.hid (show 1+(rj.ds.length+1)*(1+1+1)<400000000 by rw[hrjl.out];omega);obtain⟨rowT,hrowT⟩:∃ T,Hid (Nm.map (dotR rj.qs)=T):=⟨_,rfl⟩;have hrTl:=Lib.hid (show rowT.length=p by rw[←hrowT.out,List.length_map,hNl.out]);obtain⟨wo,hwo⟩:∃ wo,wo=wr:=⟨_,rfl⟩;subst hwo;have hls:LsAt rowT wo 0 (.slice none 0 0) wo:=LsAt.nil _ _;go_wp2
          go_loopw [15,76] (fun v i wr=>∃ l:Nat,l≤p∧i=.int .i64 (l:Int)∧LsAt rowT wo l v wr) (fun _ i _=>p-(intOf i).toNat)
          case atStart=>exact⟨0,by omega,rfl,hls⟩
          case round =>
           clear hls;obtain⟨l,hl,rfl,hls⟩:=hrel;have hbo:=hls.bel;have hbN2:=hbN.trans (hbo.mono hbN.size)
           by_cases hll:l<p
           · have hli:(l:Int)<(p:Int):=by omega
             obtain⟨aN2,rl,eaN2,habN2,hcN2,hfll,hrlk⟩:=(hML.below hbN2).at (k:=l) (by rw[hrn'.out];exact hll);have eN:aN2=aN:=by rw[eaN] at eaN2;injection eaN2 with e;exact e.symm
             subst eN;have hql:=Lib.hid (show Nm[l]?=some rl.qs by rw[←hqN.out];unfold qsM;rw[List.getElem?_map,hrlk.out];rfl);have hrlf:=Lib.hid (show ∀ d∈rl.ds,Fits 1 d.q from QFits.fr0 (fun q hq=>(hNi.out rl.qs (List.mem_of_getElem? hql.out) q hq).fits (by decide)));have hdq:=Lib.hid (show sumR (prods rj.ds rl.ds)=dotR rj.qs rl.qs from prods_dot _ _);have hcd:=dotF_any (K:=1) (hflj.below hbo) hfll hrjf.out hrlf.out hdb.out;rw[hdq.out] at hcd;go_wp2_with fail;refine hcd.mono ?_;rintro e w4 ⟨v4,rfl,hv4,b4⟩;clear hcd;obtain⟨n4,A4,ca4,la4,B4,cb4,lb4,rfl,na4,nb4,iq4⟩:=hv4;have hqr:=Lib.hid (show rowT[l]?=some (dotR rj.qs rl.qs) by rw[←hrowT.out,List.getElem?_map,hql.out];rfl);obtain⟨os,ho,h63,hbs,hnext⟩:=(hls.below b4).app (by omega) hqr.out na4 nb4 iq4;clear na4 nb4 iq4 hls hfll
             go_wp2_with (at_builtin;refine wpList_appQ rfl rfl _ _ rfl _ _ os rfl ho ⟨w4.heap.size,0,none⟩ 1 ⟨n4,A4,ca4,la4,B4,cb4,lb4⟩ rfl (World.news_of_block (heap_alloc_new w4 _)) h63 hbs ?_;intro v6 w6 ho6 hg6)
             have hat6:=hnext.out v6 w6 ho6 hg6;clear hnext ho hg6 ho6;go_wp2;go_roundw
             case rel=>exact⟨l+1,by omega,by go_num,hat6⟩
             case measure=>simp[intOf];omega
           · obtain rfl:l=p:=by omega
             have hlt2:decide ((l:Int)<(l:Int))=false:=decide_eq_false (by omega);have hown:=hgr.own;obtain⟨RA,rc,rds,rfl,hflR,hqR,hRb⟩:=hls.done2 hrTl.out.symm
             have hGq:=Lib.hid (show G[j]?=some (RwD.qs ⟨RA,rc,rds⟩) by
              show _=some (rds.map FrD.q)
              rw[hqR.out,←hrowT.out,←hG.out];unfold gramS;rw[List.getElem?_map,hqj.out];rfl)
             obtain⟨v6,w6,-,hrun,hgr6⟩:=(hgr.below hbo).appM (r:=⟨RA,rc,rds⟩) (by omega) hGq.out hflR (fun a e=>⟨fun h9=>by have h10:=hown _ h9;have h11:=(hRb a e).1;omega,(hRb a e).2⟩);have hbr6:=hgr6.bel;clear hgr hls hflR hown hRb
             go_wp2_with (at_builtin;refine wpList_appR (T:=118) rfl rfl (.tmp 87) (.tmp 89) rfl rfl rfl hrun ?_)
             clear hrun;obtain⟨aN7,rj7,eaN7,-,-,hflj7,hrjk7⟩:=(hML.below hbr6).at (k:=j) (by rw[hrn'.out];exact hjl);have e7:rj7=rj:=by have h1:=hrjk7.out;rw[hrjk.out] at h1;injection h1 with h1;exact h1.symm
             subst e7;have hbw6:=hbelN.out.trans (hbr6.mono hbelN.out.size);have hcd2:=dotF_any (K:=1) hflj7 (hfl01.below hbw6) hrjf.out hcf.out hdb.out;rw[show sumR (prods rj7.ds d9.r.ds)=dotR rj7.qs v by rw[prods_dot,hvq.out];rfl] at hcd2;go_wp2_with fail;refine hcd2.mono ?_;rintro e w8 ⟨v8,rfl,hv8,b8⟩;obtain⟨d8,rfl,hd8,hdq8⟩:=hv8.frd;clear hcd2 hv8 hflj7 eaN7;have hrq:=Lib.hid (show rt[j]?=some d8.q by rw[←hrt.out,hdq8.out];unfold rightS;rw[List.getElem?_map,hqj.out];rfl);obtain⟨v9,w9,hrun2,hgr9⟩:=(hgr6.below b8).appQ (by omega) hrq.out hd8;clear hgr6 hd8
             go_wp2_with (at_builtin;refine wpList_appR (T:=22) rfl rfl (.tmp 91) (.tmp 95) rfl rfl rfl hrun2 ?_)
             clear hrun2;go_wp2;go_roundw
             case rel=>exact⟨j+1,by omega,by go_num,hgr9⟩
             case measure=>simp[intOf];omega
        · obtain rfl:j=p:=by omega
          have hlt2:decide ((j:Int)<(j:Int))=false:=decide_eq_false (by omega);obtain⟨GA,gc,grows,RA,rc,rds,rfl,hMLG,hqG,rfl,hflR,hqR⟩:=hgr.done hGl.out.symm hrtl.out.symm;have hgl:=Lib.hid (show grows.length=j by rw[←hGl.out,←hqG.out];simp[qsM]);have hform:=Lib.hid (rect_form (gramS_rect Nm) (by rw[gramS_len,hNl.out,←hp.out];omega))
          have hcs:=solveF_any (K:=1) hMLG hflR (by rw[hqG.out,←hG.out];exact hGf.out) (by rw[hqR.out,←hrt.out];exact hRf.out) (by
           rw[hqG.out,←hG.out,hform.out.2,hNl.out];have h1:=gK_mono 1 hp8;rw[gK8] at h1;omega) (by rw[hgl.out];omega) (by rw[hqG.out,←hG.out,hform.out.2,hNl.out];omega)
          rw[show solveS (qsM grows) (rds.map FrD.q)=(r,0) by
           rw[hqG.out,hqR.out,←hG.out,←hrt.out];unfold solveS;rw[if_pos ⟨hform.out.1,by rw[rightS_len,gramS_len]⟩,hrs.out]] at hcs
          have hbelj:=hbelN.out.trans (hbN.mono hbelN.out.size);clear hMLG hflR hgr;go_wp2_with fail;refine hcs.mono ?_;rintro e w20 ⟨aR0,cR,dR,rfl,hflr,hqr,b20,hnr⟩;clear hcs
          have hrl2:dR.length=j:=by
           have h9:dR.map FrD.q=r:=hqr.out;rw[←hrl.out,←h9,List.length_map]
          rw[hrl2];have hbel20:=hbelj.trans (b20.mono hbelj.size);have hml20:=hML.below (hbN.trans (b20.mono hbN.size));obtain⟨wE,hwE,bE,lE,BE⟩:=boxed w20 #[] 28;have hbelE:=hbel20.trans (bE.mono hbel20.size);obtain⟨gz,cz,wZ,hrz,hoz,hXz,hVz,hgz0,bZ⟩:=run_copyQ BE (hfl01.below hbelE) (by rw[hcn.out];omega);have hgz:=Lib.hid (show w20.heap.size≤gz from hgz0);have hbZ:Below w20.heap.size w20 wZ:=bE.trans (bZ.mono bE.size);have hmlE:=hml20.below bE;clear hoz hgz0
          go_wp2_with (at_builtin;refine wpList_appR (T:=22) rfl rfl (.tmp 104) (.tmp 105) rfl rfl rfl hrz ?_)
          clear hrz;have hnr':=Lib.hid hnr;have hzi:=Lib.hid (show ∀ i,i<S.n→gt (d9.r.ds.map FrD.q) i=gt (zAt Nm r v 0) i from fun i _=>by rw[hvq.out];rfl);clear hml20 hmlE hnr BE;rw[hcn.out];go_wp2
          go_loopw [109] (fun i wr=>∃ q:Nat,q≤j∧i=.int .i64 (q:Int)∧∃ ds,XO wr gz cz ds∧AllFV wr ds∧Hid (ds.length=S.n)∧Hid (∀ i,i<S.n→gt (ds.map FrD.q) i=gt (zAt Nm r v q) i)∧Below w20.heap.size w20 wr) (fun i _=>j-(intOf i).toNat)
          case atStart=>exact⟨0,by omega,rfl,_,hXz,hVz,hcn.out,hzi.out,hbZ⟩
          case round =>
           clear hXz hVz hbZ;obtain⟨q,hq,rfl,ds,hX,hV,hdl,hpt,hb⟩:=hrel
           by_cases hql:q<j
           · have hqi:(q:Int)<(j:Int):=by omega
             have hbM:=(hbN.trans (b20.mono hbN.size)).trans (hb.mono (Nat.le_trans hbN.size b20.size));obtain⟨aN,nq,eaN,habN,hcN,hflq,hnqk⟩:=(hML.below hbM).at (k:=q) (by rw[hrn'.out];exact hql);rw[eaN];have hqq:=Lib.hid (show Nm[q]?=some nq.qs by rw[←hqN.out];unfold qsM;rw[List.getElem?_map,hnqk.out];rfl);have hnql:=Lib.hid (show nq.ds.length=S.n by have h1:=hNr.out nq.qs (List.mem_of_getElem? hqq.out);rw[RwD.qs_len] at h1;exact h1);obtain⟨rj,hrj⟩:∃ rj,Hid (dR[q]?=some rj):=⟨_,List.getElem?_eq_getElem (by omega)⟩;have hrjq:=Lib.hid (show gt r q=rj.q by rw[←hqr.out];exact gt_map hrj.out)
             obtain⟨aR,eaR⟩:∃ aR,Hid (aR0=some aR):=by
              obtain⟨a2,d2,e2,-⟩:=hflr.at (k:=q) (by omega);exact⟨a2,e2⟩
             have hnq0:0<nq.ds.length→∃ aA,nq.a=some aA:=fun h0=>by
              obtain⟨a2,d2,e2,-⟩:=hflq.at (k:=0) h0;exact⟨a2,e2⟩
             have hnq0':=Lib.hid hnq0;obtain⟨wi,hwi⟩:∃ wi,wi=wr:=⟨_,rfl⟩;subst hwi;have hpt1:=Lib.hid (show ∀ i,i<S.n→gt (ds.map FrD.q) i=if i<0 then gt (zAt Nm r v (q+1)) i else gt (zAt Nm r v q) i from fun i hi=>by rw[if_neg (by omega)];exact hpt.out i hi);clear hnq0;go_wp2
             go_loopw [116] (fun i wr=>∃ l:Nat,l≤S.n∧i=.int .i64 (l:Int)∧∃ ds,XO wr gz cz ds∧AllFV wr ds∧Hid (ds.length=S.n)∧Hid (∀ i,i<S.n→gt (ds.map FrD.q) i=if i<l then gt (zAt Nm r v (q+1)) i else gt (zAt Nm r v q) i)∧Below w20.heap.size w20 wr) (fun i _=>S.n-(intOf i).toNat)
             case atStart=>exact⟨0,by omega,rfl,ds,hX,hV,hdl.out,hpt1.out,hb⟩
             case round =>
              clear hX hV hb hdl hpt hpt1 hbM;obtain⟨l,hl,rfl,ds,hX4,hV4,hdl,hpt,hb4⟩:=hrel
              by_cases hll:l<S.n
              · have hli:(l:Int)<(S.n:Int):=by omega
                have hln:(l:Int)<(nq.ds.length:Int):=by have:=hnql.out;omega
                obtain⟨aA,eA⟩:=hnq0'.out (by have:=hnql.out;omega);rw[eA];rw[eaR.out];have hbM:=(hbN.trans (b20.mono hbN.size)).trans (hb4.mono (Nat.le_trans hbN.size b20.size));obtain⟨w4,hw4⟩:∃ w4,w4=wr:=⟨_,rfl⟩;subst hw4;have hR4:FL w4 (some aR) cR dR:=by rw[←eaR.out];exact hflr.below hb4
                obtain⟨aN9,nq9,-,-,-,hflq9,hnqk9⟩:=(hML.below hbM).at (k:=q) (by rw[hrn'.out];exact hql);have e9:nq9=nq:=by have h1:=hnqk9.out;rw[hnqk.out] at h1;injection h1 with h1;exact h1.symm
                subst e9;have hN4:FL w4 (some aA) nq9.c nq9.ds:=by rw[←eA];exact hflq9
                have hkd:=Lib.hid (show l<ds.length by rw[hdl.out];exact hll);obtain⟨xk,hxk⟩:∃ xk,Hid (ds[l]?=some xk):=⟨_,List.getElem?_eq_getElem hkd.out⟩;obtain⟨nl,hnl⟩:∃ nl,Hid (nq9.ds[l]?=some nl):=⟨_,List.getElem?_eq_getElem (by rw[hnql.out];exact hll)⟩;have hxq:=Lib.hid (show xk.q=gt (zAt Nm r v q) l by rw[←gt_map hxk.out,hpt.out l hll,if_neg (by omega)])
                have hfk:=Lib.hid (show Fits 699067 xk.q by
                 rw[hxq.out];exact zAt_fits hNr.out hvl.out hvi.out (fun j i hj=>by rw[←row_fn hj];exact gt_int (hNi.out _ (List.getElem_mem hj)) i) hrF.out (by rw[hNl.out];omega) (by rw[hNl.out];exact hp8) hll)
                have hfr:=Lib.hid (show Fits 87381 rj.q by rw[←hrjq.out];exact gt_fits (by decide) hrF.out q);have hnlq:=Lib.hid (show gt nq9.qs l=nl.q from gt_map hnl.out);have hfn:=Lib.hid (show Fits 1 nl.q by rw[←hnlq.out];exact (gt_int (hNi.out _ (List.mem_of_getElem? hqq.out)) l).fits (by decide))
                have hpt':∀ i,i<S.n→∀ y:FrD,y.q=xk.q-rj.q*nl.q→gt ((ds.set l y).map FrD.q) i=if i<l+1 then gt (zAt Nm r v (q+1)) i else gt (zAt Nm r v q) i:=fun i hi y hy=>by
                 rw[set_gt hkd.out]
                 by_cases e:i=l
                 · subst e;rw[if_pos rfl,if_pos (by omega),hy,hxq.out]
                   show _=gt (lessZ (zAt Nm r v q) (r.getD q 0) (Nm.getD q [])) i
                   rw[lessZ_get (zAt_ok hNr.out hvl.out q (by rw[hNl.out];omega)).1 (rect_row hNr.out (by rw[hNl.out];omega)) hi];have e1:Nm.getD q []=nq9.qs:=by rw[List.getD_eq_getElem?_getD,hqq.out];rfl
                   rw[e1,hnlq.out,show r.getD q 0=rj.q from hrjq.out]
                 · rw[if_neg e,hpt.out i hi]
                   by_cases e2:i<l
                   · rw[if_pos e2,if_pos (by omega)]
                   · rw[if_neg e2,if_neg (by omega)]
                replace hpt':=Lib.hid hpt';clear hbM hflq9;go_upto_region 36 with fail;have bT:=Below.refl w4.heap.size w4;have dw0:Below w4.heap.size w4 w4.drew:=(Below.refl _ _).drew;replace hX4:=hX4.below dw0;replace hV4:=hV4.below dw0;replace hR4:=hR4.below dw0;replace hN4:=hN4.below dw0;replace bT:=bT.trans (dw0.mono bT.size);clear dw0;go_wp2_with fail;refine wp_region_noPanic ?_;refine wp_region_wait (J:=[17]) (S:=fun w'=>w'.cell? ⟨gz,l*3,none⟩=some (.bool xk.neg)∧w'.cell? ⟨gz,l*3+1,none⟩=some (.slice xk.a xk.la.length xk.ca)∧w'.cell? ⟨gz,l*3+2,none⟩=some (.slice xk.b xk.lb.length xk.cb)∧w'.cell? (aR.add (q*3))=some (.bool rj.neg)∧w'.cell? ⟨(aR.add (q*3)).block,(aR.add (q*3)).off+1,none⟩=some (.slice rj.a rj.la.length rj.ca)∧w'.cell? ⟨(aR.add (q*3)).block,(aR.add (q*3)).off+2,none⟩=some (.slice rj.b rj.lb.length rj.cb)∧w'.cell? (aA.add (l*3))=some (.bool nl.neg)∧w'.cell? ⟨(aA.add (l*3)).block,(aA.add (l*3)).off+1,none⟩=some (.slice nl.a nl.la.length nl.ca)∧w'.cell? ⟨(aA.add (l*3)).block,(aA.add (l*3)).off+2,none⟩=some (.slice nl.b nl.lb.length nl.cb)) (by kernel_rfl) (⟨(hX4.cells hxk.out).1,(hX4.cells hxk.out).2.1,(hX4.cells hxk.out).2.2,(hR4.cl3 hrj.out).1,(hR4.cl3 hrj.out).2.1,(hR4.cl3 hrj.out).2.2,(hN4.cl3 hnl.out).1,(hN4.cl3 hnl.out).2.1,(hN4.cl3 hnl.out).2.2⟩) (fun hHeld=>?_);refine tkW 0 rfl hHeld ?_;refine tkW 1 rfl hHeld ?_
                refine tkW 2 rfl hHeld ?_;refine tkW 3 rfl hHeld ?_;refine tkW 4 rfl hHeld ?_;refine tkW 5 rfl hHeld ?_;refine tkW 6 rfl hHeld ?_;refine tkW 7 rfl hHeld ?_;refine tkW 8 rfl hHeld ?_;refine tkW 9 rfl hHeld ?_;refine tkW 10 rfl hHeld ?_;refine tkW 11 rfl hHeld ?_;refine tkW 12 rfl hHeld ?_;refine tkW 13 rfl hHeld ?_;refine rdW 14 rfl fun K hK=>?_;go_simp;have hcl:=mulF_any (hR4.fv _ (List.mem_of_getElem? hrj.out)) (hN4.fv _ (List.mem_of_getElem? hnl.out)) hfr.out hfn.out (by decide);go_at_call 42;refine (hcl).mono ?_;rintro e u1 ⟨vm,rfl,hvm,bu1⟩;clear hcl;replace hX4:=hX4.below bu1;replace hV4:=hV4.below bu1;replace hR4:=hR4.below bu1;replace hN4:=hN4.below bu1;replace bT:=bT.trans (bu1.mono bT.size);go_wp2_with fail;refine hK.out _ _ (⟨(hX4.cells hxk.out).1,(hX4.cells hxk.out).2.1,(hX4.cells hxk.out).2.2,(hR4.cl3 hrj.out).1,(hR4.cl3 hrj.out).2.1,(hR4.cl3 hrj.out).2.2,(hN4.cl3 hnl.out).1,(hN4.cl3 hnl.out).2.1,(hN4.cl3 hnl.out).2.2⟩) (fun hHeld=>?_);clear hK K;(try simp only[lay]);refine rdW 15 rfl fun K hK=>?_;go_simp;have hcl:=subF_any (hV4 _ (List.mem_of_getElem? hxk.out)) hvm hfk.out (hfr.out.mul hfn.out) (by decide);go_at_call 34;refine (hcl).mono ?_;rintro e u2 ⟨va,rfl,hva,bu2⟩;clear hcl;replace hX4:=hX4.below bu2;replace hV4:=hV4.below bu2;replace hR4:=hR4.below bu2;replace hN4:=hN4.below bu2;replace hvm:=hvm.below bu2;replace bT:=bT.trans (bu2.mono bT.size);obtain⟨y,rfl,hy,hyq⟩:=hva.frd
                clear hva;obtain⟨w9,f0,f1,f2,e9,hX9,o9⟩:=hX4.store hkd.out y;have hV9:=XO.setFV (k:=l) hX4 hV4 hy o9;go_wp2_with fail;refine hK.out _ _ (⟨(hX4.cells hxk.out).1,(hX4.cells hxk.out).2.1,(hX4.cells hxk.out).2.2,(hR4.cl3 hrj.out).1,(hR4.cl3 hrj.out).2.1,(hR4.cl3 hrj.out).2.2,(hN4.cl3 hnl.out).1,(hN4.cl3 hnl.out).2.1,(hN4.cl3 hnl.out).2.2⟩) (fun hHeld=>?_);clear hK K;(try simp only[lay]);refine tkW 16 rfl hHeld ?_;refine wpAnyW_ready (rs:=[17]) (by kernel_rfl) (by simp) ?_;refine AllReadyW.last rfl (by decide) (fun K hK=>?_) AllReadyW.nil;go_simp;refine hK.out _ _ ?_;clear hK K;(try clear hHeld);(try simp only[lay]);refine wpAnyW_done (by kernel_rfl) ?_ _;refine NoPanic.normal ?_;(try go_simp);(try clear hHeld);have hb9:=o9.to_below (hb4.trans (bT.mono hb4.size)) hgz.out (Nat.le_trans hb4.size bT.size);clear hX4 hV4 hR4 hN4 hvm hy o9;go_wp2;go_roundw
                case rel =>
                 refine⟨l+1,by omega,by go_num,_,hX9,hV9,?_,?_,hb9⟩
                 · show (ds.set l y).length=_
                   rw[List.length_set];exact hdl.out
                 · intro i hi;exact (hpt' i hi y hyq.out)
                case measure=>simp[intOf];omega
              · obtain rfl:l=S.n:=by omega
                have hlt3:decide ((S.n:Int)<(S.n:Int))=false:=decide_eq_false (by omega);have hpt9:=Lib.hid (show ∀ i,i<S.n→gt (ds.map FrD.q) i=gt (zAt Nm r v (q+1)) i from fun i hi=>by rw[hpt.out i hi,if_pos hi]);go_wp2;go_roundw
                case rel=>exact⟨q+1,by omega,by go_num,ds,hX4,hV4,hdl.out,hpt9.out,hb4⟩
                case measure=>simp[intOf];omega
           · obtain rfl:q=j:=by omega
             have hlt3:decide ((q:Int)<(q:Int))=false:=decide_eq_false (by omega)
             obtain⟨d0,dT,edR⟩:∃ d0 dT,dR=d0::dT:=by
              cases dR with
              | nil=>have:=hp.out;simp at hrl2;omega
              | cons d0 dT=>exact⟨d0,dT,rfl⟩
             subst edR
             obtain⟨aR,eaR⟩:∃ aR,aR0=some aR:=by
              obtain⟨a2,d2,e2,-⟩:=hflr.at (k:=0) (by simp);exact⟨a2,e2⟩
             subst eaR;have hfw:=hflr.below hb;obtain⟨y0,y1,y2⟩:=hfw.cl3 (k:=0) (d:=d0) rfl;rw[show aR.add (0*3)=aR from by cases aR;rfl] at y0 y1 y2;have hq0:0<q:=by have:=hp.out;omega
             have hbF:=hbel20.trans (hb.mono hbel20.size);have hlr:=hfw.len;rw[hrl2] at hlr;have hBR:Blk wr w.heap.size 28 #[.bool false,.slice none 0 0,.slice none 0 0]:=Blk.keep B1 hbF;obtain⟨w9,p0,p1,p2,r0,r1,r2,e9,h9,o9⟩:=zero_store hBR d0;obtain⟨t0,t1,t2⟩:=h9.cells;have hpi:(0:Int)<(q:Int):=by have:=hp.out;omega
             have hp1:(1:Int)≤(q:Int):=by omega
             have hbw:Below w.heap.size w wr:=b1.trans (hbF.mono b1.size);have hbw9:Below w.heap.size w w9.drew:=(o9.to_below hbw (Nat.le_refl _) hbw.size).drew;have hz9:FL w9.drew (some ⟨gz,0,none⟩) cz ds:=((hX.only o9 (by have:=hgz.out;have:=hbel20.size;omega)).fl (fun x hx=>(hV x hx).only_blk hBR (noDig3 _ _ _ _ _ _ _) o9)).below (Below.refl _ _).drew;have hr9:FL w9.drew (some aR) cR (d0::dT):=(hfw.far (fun a e=>by cases e;have:=hnr'.out aR rfl;have:=hbelj.size;omega) hBR (noDig3 _ _ _ _ _ _ _) o9).below (Below.refl _ _).drew
             have hval:=Lib.hid (show ds.map FrD.q=z∧d0.q=lev∧dT.map FrD.q=rates by
              obtain⟨e1,e2,e3⟩:=hrr.out;have h9:(d0::dT).map FrD.q=r:=hqr.out;refine⟨?_,by rw[←e2,←h9];rfl,by rw[←e3,←h9];rfl⟩;rw[←e1];refine eq_of_gt (by rw[List.length_map,hdl.out,(zAt_ok hNr.out hvl.out q (by rw[hNl.out];exact Nat.le_refl _)).1]) fun i hi=>hpt.out i (by rw[(zAt_ok hNr.out hvl.out q (by rw[hNl.out];exact Nat.le_refl _)).1] at hi;exact hi))
             have hdl0:ds.length=S.n:=hdl.out;have hdT:dT.length=q-1:=by simp at hrl2;omega
             have hgzw:w.heap.size≤gz:=by have:=hgz.out;have:=hbel20.size;have:=b1.size;omega
             have haRw:w.heap.size≤aR.block:=by have:=hnr'.out aR rfl;have:=hbelj.size;have:=b1.size;omega
             replace hdl0:=Lib.hid hdl0;replace hdT:=Lib.hid hdT;clear hX hV hfw
             have hEnd:∀ (X:Value),X=.slice (some (aR.add 3)) (q-1) (cR-1)∨(cR=1∧∃ A,X=.slice A (q-1) (cR-1)∧∀ a,A=some a→w.heap.size≤a.block)→RetDir z lev rates w (.returned (.tuple #[.slice (some ⟨gz,0,none⟩) S.n cz,.agg #[.bool d0.neg,.slice d0.a d0.la.length d0.ca,.slice d0.b d0.lb.length d0.cb],X])) w9.drew:=fun X hX=>by
              rcases hX with rfl | ⟨e1,A,rfl,hA⟩
              · exact⟨_,cz,ds,_,cR-1,dT,d0,by rw[hdl0.out,hdT.out],hz9,hr9.drop1,hr9.fv d0 List.mem_cons_self,hval.out,fun a e=>by cases e;exact hgzw,fun a e=>by cases e;exact haRw,hbw9⟩
              · have hq1:q=1:=by omega
                have hT0:dT=[]:=List.eq_nil_of_length_eq_zero (by rw[hdT.out,hq1]);subst hT0;exact⟨_,cz,ds,A,cR-1,[],d0,by rw[hdl0.out,hq1];rfl,hz9,⟨⟨by simp,by omega,fun j hj=>by simp at hj⟩,fun d hd=>by simp at hd⟩,hr9.fv d0 List.mem_cons_self,hval.out,fun a e=>by cases e;exact hgzw,hA,hbw9⟩
             replace hEnd:=Lib.hid hEnd;clear hz9 hr9
             by_cases hc1:cR=1
             · subst hc1;go_wp2
               go_region
               go_wp2;refine bodyPost_ret (v:=.tuple #[.slice (some ⟨gz,0,none⟩) S.n cz,.agg #[.bool d0.neg,.slice d0.a d0.la.length d0.ca,.slice d0.b d0.lb.length d0.cb],_]) (by simp[results,Try.results87,go_sem,show w9.drew.cell? ⟨w.heap.size,0,none⟩=_ from t0,show w9.drew.cell? ⟨w.heap.size,1,none⟩=_ from t1,show w9.drew.cell? ⟨w.heap.size,2,none⟩=_ from t2];rfl) rfl ?_;exact hEnd.out _ (.inr ⟨by trivial,some aR,by rw[show q=1 by omega],fun a e=>by cases e;exact haRw⟩)
             · go_wp2
               go_region
               all_goals go_wp2
               refine bodyPost_ret (v:=.tuple #[.slice (some ⟨gz,0,none⟩) S.n cz,.agg #[.bool d0.neg,.slice d0.a d0.la.length d0.ca,.slice d0.b d0.lb.length d0.cb],_]) (by simp[results,Try.results87,go_sem,show w9.drew.cell? ⟨w.heap.size,0,none⟩=_ from t0,show w9.drew.cell? ⟨w.heap.size,1,none⟩=_ from t1,show w9.drew.cell? ⟨w.heap.size,2,none⟩=_ from t2];rfl) rfl ?_;exact hEnd.out _ (.inl rfl)
end Go.Proofs.Ytjhkapjadfpimaa
