/- Contracts of functions, for the law. -/
import Derived.Test.YtjhkapjadfpimaaWTrim
import Derived.Test.YtjhkapjadfpimaaFSub
import Derived.Test.YtjhkapjadfpimaaFMul
import Derived.Deep.RegionHeld3
import Derived.Test.YtjhkapjadfpimaaMSmall
namespace Go.Proofs.Ytjhkapjadfpimaa
set_option linter.unusedVariables false
set_option linter.unusedSimpArgs false
open Go.RowKit Plain
attribute [local go_sem ↓] Go.wp_at_zero Go.wp_at_succ
set_option maxRecDepth 100000 in
set_option maxHeartbeats 4000000 in
theorem pivot_any {K p j n:Nat}{A:Option Addr}{c:Nat}{rows:List RwD}{w:World}(h:ML w A c rows) (hr:rect (qsM rows) n) (hp:p<rows.length) (hj:j<n) (hfm:MFits K (qsM rows)) (hnz:fn (qsM rows) p j≠0) (hK:4*K+1<400000000) (hrn:rows.length<1000000000) (hnn:n<1000000000) :
 Calls Try.prog 99 #[.slice A rows.length c,.int .i64 (p:Int),.int .i64 (j:Int)] w (RetM (pivL (qsM rows) p j) w):=by
 obtain⟨w0,hw0,bw0,hlt0,hM0⟩:=boxed w #[.slice A rows.length c] 118;obtain⟨w1,hw1,bw1,hlt1,hP1⟩:=boxed w0 #[.int .i64 (p:Int)] 3;obtain⟨w2,hw2,bw2,hlt2,hJ2⟩:=boxed w1 #[.int .i64 (j:Int)] 3;have hM2:=(hM0.keep bw1).keep bw2;have hP2:=hP1.keep bw2;have b01:=bw0.trans (bw1.mono (Nat.le_of_lt hlt0));have b02:=b01.trans (bw2.mono b01.size);have hl:=h.len
 have hrl:=Lib.hid (show ∀ r∈rows,r.ds.length=n from fun r hr'=>by
  have:=hr r.qs (List.mem_map.2 ⟨r,hr',rfl⟩);rw[RwD.qs_len] at this;exact this)
 obtain⟨T,hT⟩:∃ T,Hid (pivL (qsM rows) p j=T):=⟨_,rfl⟩;have hTl:=Lib.hid (show T.length=rows.length by rw[←hT.out,pivL_length,qsM_len]);rw[hT.out];have hfm':=Lib.hid hfm;have hnz':=Lib.hid hnz;have hr':=Lib.hid hr;clear hfm hnz hr;have hpi:(p:Int)<(rows.length:Int):=by omega
 obtain⟨a0,r0,rfl,hab0,hc00,hf0,hk0⟩:=(h.below b02).at hp;have hl0:=hf0.len;have hn0:=hrl.out r0 (List.mem_of_getElem? hk0.out);have z0:w2.cell? ⟨w.heap.size,0,none⟩=some (.slice (some a0) rows.length c):=hM2.v0;have z1:=hP2.v0;have hjr:=Lib.hid (show ∀ r∈rows,j<r.ds.length from fun r hr=>by rw[hrl.out r hr];exact hj);have hf0q:=Lib.hid (hfm'.out.row hk0.out);have hn0':=Lib.hid hn0;clear hn0;go_enter Try.func99,Try.ntmps99;go_wp2_with fail;refine (mapped_piv hf0 hM2 hP2 hJ2 (h.below b02) hp hjr.out hf0q.out hfm'.out hnz'.out (by omega) (by rw[hn0'.out];omega)).mono ?_;rintro e w3 ⟨H,ch,hs,rfl,hfh,hqh,b3⟩;have b03:=b02.trans (b3.mono b02.size)
 have hhead:=Lib.hid (show hs.map FrD.q=headL (qsM rows) p j by
  rw[hqh.out];unfold headL;rw[List.getD_eq_getElem?_getD (l:=qsM rows)];unfold qsM;rw[List.getElem?_map,hk0.out];rfl)
 have hhl:=Lib.hid (show hs.length=n by rw[←List.length_map (f:=FrD.q),hqh.out,List.length_map,List.length_map,hn0'.out]);have hlh:=hfh.len;obtain⟨eH,zH,rfl,-⟩:=hfh.at (k:=0) (by rw[hhl.out];omega);have hfhq:=Lib.hid (show QFits (K+K) (hs.map FrD.q) by rw[hhead.out];exact headL_fits hfm'.out hr'.out (by rw[qsM_len];exact hp) hj);have hM3:=hM2.keep b3;have hP3:=hP2.keep b3;have hJ3:=hJ2.keep b3;clear z0 z1 hqh hc00 hf0;have z0:=hM3.v0;go_wp2
 go_loopw [8,21] (fun v i wr=>MtInv T w3 v i wr) (fun _ i _=>rows.length-(intOf i).toNat)
 case atStart=>exact⟨0,by omega,rfl,MtAt.start _ (Below.refl _ _)⟩
 case round =>
  obtain⟨k,hk,rfl,hat⟩:=hrel;rw[hTl.out] at hk;have hbel:=hat.bel;have hbw:=b03.trans (hbel.mono b03.size);have hPr:=hP3.keep hbel;have hJo:=hJ3.keep hbel;have z1:=hPr.v0;clear z0
  by_cases hkl:k<rows.length
  · obtain⟨a1,r,ea1,hab,hc0,hfr,hrk⟩:=(h.below hbw).at hkl;have ea:a1=a0:=by injection ea1 with e;exact e.symm
    have hki:(k:Int)<(rows.length:Int):=by omega
    have hkb:k<1000000000000:=by omega
    have hlr:=hfr.len;rw[ea] at hc0;clear ea ea1
    by_cases hkp:k=p
    · have heq:((k:Int) == (p:Int))=true:=by rw[beq_iff_eq];omega
      have hq:Hid (T[k]?=some (RwD.qs ⟨some eH,ch,hs⟩)):=by
       show _=some (hs.map FrD.q)
       rw[←hT.out,hhead.out];unfold pivL;rw[List.getElem?_map,List.getElem?_range (by rw[qsM_len];exact hkl)]
       simp[hkp]
      have hfl:=hfh.below hbel;clear hkp;obtain⟨os,ho,h63,hbs,hnext⟩:=hat.app (r:=⟨some eH,ch,hs⟩) hkb hq.out hfl
      go_wp2_with (at_builtin;go_loud (refine wpList_appM rfl Try.underlying118 rfl _ _ rfl _ _ os rfl ho ⟨wr.heap.size,0,none⟩ 1 ⟨some eH,ch,hs⟩ rfl (row_cell wr ⟨some eH,ch,hs⟩) h63 hbs ?_;intro v6 w6 ho6 hg6))
      have hat6:=hnext.out v6 w6 ho6 hg6;clear hnext ho hg6 ho6 hat;go_wp2;go_roundw
      case rel=>exact⟨k+1,by rw[hTl.out];omega,by go_num,hat6⟩
      case measure=>simp[intOf];omega
    · have heq:((k:Int) == (p:Int))=false:=by rw[beq_eq_false_iff_ne];omega
      have hnr:=Lib.hid (hrl.out r (List.mem_of_getElem? hrk.out));have hln:r.ds.length<1000000000:=by rw[hnr.out];exact hnn
      have hmk:=make_fr0 wr r.ds.length (by rw[hnr.out];omega);obtain⟨qs,hqs⟩:∃ qs,Hid (lessL (r.ds.map FrD.q) (fn (qsM rows) k j) (headL (qsM rows) p j)=qs):=⟨_,rfl⟩
      have hq:Hid (T[k]?=some qs):=by
       show _=_
       rw[←hT.out,←hqs.out];unfold pivL;rw[List.getElem?_map,List.getElem?_range (by rw[qsM_len];exact hkl)]
       show some (if k=p then _ else _)=_
       rw[if_neg hkp,List.getD_eq_getElem?_getD (l:=qsM rows)];unfold qsM;rw[List.getElem?_map,hrk.out];rfl
      have hql:=Lib.hid (show qs.length=r.ds.length by rw[←hqs.out];unfold lessL;rw[List.length_zipWith,←hhead.out,List.length_map,List.length_map,hhl.out,hnr.out,Nat.min_self]);have hmt:=Lib.hid hat;have hqT:=hq;obtain⟨vM,hvM⟩:∃ x:Value,x=x:=⟨.bool true,rfl⟩;clear hkp hat hq hvM vM;obtain⟨wo,hwo⟩:∃ wo:World,wo=wr:=⟨_,rfl⟩;have hst:=LsAt.make (qs:=qs) (n:=r.ds.length) (Below.refl wr.heap.size wr) (by rw[hnr.out];omega);rw[←hwo] at hst;subst hwo;have hrq:=Lib.hid (hfm'.out.row hrk.out);have hjr2:=hjr.out r (List.mem_of_getElem? hrk.out);obtain⟨b,y,eb,hyb,hy0,hy1,hy2,hy,hyk⟩:=hfr.at hjr2
      have hfy:=Lib.hid (show fn (qsM rows) k j=y.q by
       unfold fn qsM;rw[List.getD_eq_getElem?_getD (l:=rows.map _),List.getElem?_map,hrk.out]
       show (r.ds.map FrD.q).getD j 0=_
       rw[List.getD_eq_getElem?_getD,List.getElem?_map,hyk.out];rfl)
      have hyf:=Lib.hid (hrq.out.fr y (List.mem_of_getElem? hyk.out));rw[eb] at hc0;have hyo:=hy;have hji:(j:Int)<(r.ds.length:Int):=by omega
      clear hy;go_wp2
      go_loopw [11,12,38] (fun v x i wr=>LsInv qs wo v i wr) (fun _ _ i _=>r.ds.length-(intOf i).toNat)
      case atStart=>exact⟨0,by omega,rfl,hst⟩
      case round =>
       obtain⟨kk,hkk,rfl,hat⟩:=hrel;rw[hql.out] at hkk;have hbi:=hat.bel
       by_cases hkkl:kk<r.ds.length
       · obtain⟨a,x,ea,hxb,hx0,hx1,hx2,hx,hxk⟩:=hfr.at hkkl;have eab:a=b:=by rw[eb] at ea;injection ea with e;exact e.symm
         subst eab;obtain⟨e,z,ee,hzb,hz0,hz1,hz2,hz,hzk⟩:=(hfh.below hbel).at (k:=kk) (by rw[hhl.out,←hnr.out];exact hkkl);have eeq:e=eH:=by injection ee with e';exact e'.symm
         subst eeq;clear ee;have hkki:(kk:Int)<(r.ds.length:Int):=by omega
         have hkkh:(kk:Int)<(hs.length:Int):=by rw[hhl.out,←hnr.out];omega
         have hxf:=Lib.hid (hrq.out.fr x (List.mem_of_getElem? hxk.out));have hzf:=Lib.hid (hfhq.out.fr z (List.mem_of_getElem? hzk.out))
         have hq:Hid (qs[kk]?=some (x.q-y.q*z.q)):=by
          show _=_
          rw[←hqs.out,hfy.out,←hhead.out];unfold lessL;rw[List.getElem?_zipWith,List.getElem?_map,List.getElem?_map,hxk.out,hzk.out];rfl
         obtain⟨qk,hqk⟩:∃ q,Hid (x.q-y.q*z.q=q):=⟨_,rfl⟩;rw[hqk.out] at hq;have hkb:kk<1000000000000:=by omega
         have hJr:=hJo;have hy:=hyo.below hbi;replace hx:=hx.below hbi;replace hz:=hz.below hbi;have bT:=hat.bel
         have hS:∀ w',Below wo.heap.size wo w'→w'.cell? (a.add (kk*3))=some (.bool x.neg)∧w'.cell? ⟨(a.add (kk*3)).block,(a.add (kk*3)).off+1,none⟩=some (.slice x.a x.la.length x.ca)∧w'.cell? ⟨(a.add (kk*3)).block,(a.add (kk*3)).off+2,none⟩=some (.slice x.b x.lb.length x.cb)∧w'.cell? (a.add (j*3))=some (.bool y.neg)∧w'.cell? ⟨(a.add (j*3)).block,(a.add (j*3)).off+1,none⟩=some (.slice y.a y.la.length y.ca)∧w'.cell? ⟨(a.add (j*3)).block,(a.add (j*3)).off+2,none⟩=some (.slice y.b y.lb.length y.cb)∧w'.cell? (e.add (kk*3))=some (.bool z.neg)∧w'.cell? ⟨(e.add (kk*3)).block,(e.add (kk*3)).off+1,none⟩=some (.slice z.a z.la.length z.ca)∧w'.cell? ⟨(e.add (kk*3)).block,(e.add (kk*3)).off+2,none⟩=some (.slice z.b z.lb.length z.cb)∧w'.cell? ⟨w1.heap.size,0,none⟩=some (.int .i64 (j:Int))∧Below wo.heap.size wo w':=by
          intro w' o;have h4:=hJr.keep o;exact⟨(o.cell (by show (a.add (kk*3)).block<_;rw[block_add];exact hxb)).trans hx0,(o.cell (by show (a.add (kk*3)).block<_;rw[block_add];exact hxb)).trans hx1,(o.cell (by show (a.add (kk*3)).block<_;rw[block_add];exact hxb)).trans hx2,(o.cell (by show (a.add (j*3)).block<_;rw[block_add];exact hyb)).trans hy0,(o.cell (by show (a.add (j*3)).block<_;rw[block_add];exact hyb)).trans hy1,(o.cell (by show (a.add (j*3)).block<_;rw[block_add];exact hyb)).trans hy2,(o.cell (by show (e.add (kk*3)).block<_;rw[block_add];exact hzb)).trans hz0,(o.cell (by show (e.add (kk*3)).block<_;rw[block_add];exact hzb)).trans hz1,(o.cell (by show (e.add (kk*3)).block<_;rw[block_add];exact hzb)).trans hz2,h4.v0,o⟩
         have bo:Below wo.heap.size wo wr:=hat.bel;have dS:Below wo.heap.size wo wr.drew:=bo.drew;go_wp2_with fail;refine wp_region_noPanic ?_;refine wp_region_held_drew (S:=fun w'=>w'.cell? (a.add (kk*3))=some (.bool x.neg)∧w'.cell? ⟨(a.add (kk*3)).block,(a.add (kk*3)).off+1,none⟩=some (.slice x.a x.la.length x.ca)∧w'.cell? ⟨(a.add (kk*3)).block,(a.add (kk*3)).off+2,none⟩=some (.slice x.b x.lb.length x.cb)∧w'.cell? (a.add (j*3))=some (.bool y.neg)∧w'.cell? ⟨(a.add (j*3)).block,(a.add (j*3)).off+1,none⟩=some (.slice y.a y.la.length y.ca)∧w'.cell? ⟨(a.add (j*3)).block,(a.add (j*3)).off+2,none⟩=some (.slice y.b y.lb.length y.cb)∧w'.cell? (e.add (kk*3))=some (.bool z.neg)∧w'.cell? ⟨(e.add (kk*3)).block,(e.add (kk*3)).off+1,none⟩=some (.slice z.a z.la.length z.ca)∧w'.cell? ⟨(e.add (kk*3)).block,(e.add (kk*3)).off+2,none⟩=some (.slice z.b z.lb.length z.cb)∧w'.cell? ⟨w1.heap.size,0,none⟩=some (.int .i64 (j:Int))∧Below wo.heap.size wo w') (by kernel_rfl) (hS _ dS) (fun hHeld=>?_);refine tkH 0 rfl hHeld ?_;refine tkH 1 rfl hHeld ?_;refine tkH 2 rfl hHeld ?_;refine tkH 3 rfl hHeld ?_;refine tkH 4 rfl hHeld ?_;refine tkH 5 rfl hHeld ?_;refine tkH 6 rfl hHeld ?_;refine tkH 7 rfl hHeld ?_;refine tkH 8 rfl hHeld ?_;refine tkH 9 rfl hHeld ?_;refine tkH 10 rfl hHeld ?_;refine tkH 11 rfl hHeld ?_;refine tkH 12 rfl hHeld ?_;refine rdH 13 rfl fun K hK=>?_
         go_simp;have dw0:Below wr.heap.size wr wr.drew:=(Below.refl _ _).drew;replace hx:=hx.below dw0;replace hy:=hy.below dw0;replace hz:=hz.below dw0;replace hat:=hat.below dw0;replace bT:=bT.trans (dw0.mono bT.size);replace bo:=bo.trans (dw0.mono bo.size);go_at_call 42;refine (mulF_any hy hz hyf.out hzf.out (by omega)).mono ?_;rintro e u1 ⟨v1,rfl,fm,bu1⟩;replace hx:=hx.below bu1;replace hy:=hy.below bu1;replace hz:=hz.below bu1;replace hat:=hat.below bu1;replace bT:=bT.trans (bu1.mono bT.size);replace bo:=bo.trans (bu1.mono bo.size);go_wp2_with fail;refine hK.out _ _ (hS _ bo) (fun hHeld=>?_);clear hK K;(try simp only[lay]);refine rdH 14 rfl fun K hK=>?_;go_simp;go_at_call 34;refine (subF_any hx fm hxf.out (hyf.out.mul hzf.out) (by omega)).mono ?_;rintro e u2 ⟨v2,rfl,⟨n1,A1,a1,l1,B1,c1,m1,rfl,na,nb,iq⟩,bu2⟩;replace hx:=hx.below bu2;replace hy:=hy.below bu2;replace hz:=hz.below bu2;replace hat:=hat.below bu2;replace fm:=fm.below bu2;replace bT:=bT.trans (bu2.mono bT.size);replace bo:=bo.trans (bu2.mono bo.size);rw[hqk.out] at iq;clear fm;go_wp2_with fail;refine hK.out _ _ (hS _ bo) (fun hHeld=>?_);clear hK K;(try simp only[lay]);refine rdH 15 rfl fun K hK=>?_;obtain⟨os,ho,h63,hbs,hnext⟩:=hat.app hkb hq.out na nb iq;clear na nb iq;have bT4:=bT;obtain⟨u3,hu3,bu3,lu3,Bu3⟩:=boxed u2 #[.bool n1,.slice A1 l1.length a1,.slice B1 m1.length c1] 28
         replace hx:=hx.below bu3;replace hy:=hy.below bu3;replace hz:=hz.below bu3;replace bT:=bT.trans (bu3.mono bT.size);replace bo:=bo.trans (bu3.mono bo.size);go_simp;refine hK.out _ _ (hS _ bo) (fun hHeld=>?_);clear hK K;(try simp only[lay]);refine rdH 16 rfl fun K hK=>?_;refine step_appQ rfl _ _ rfl rfl wo.heap.size _ os rfl (by rw[←hu3];exact ho) ⟨u2.heap.size,0,none⟩ 1 ⟨n1,A1,a1,l1,B1,c1,m1⟩ rfl (World.news_of_block Bu3) h63 (by rw[←hu3];exact hbs) ?_;intro v6 w6 ho6 hg6;rw[←hu3] at hg6;have hat6:=hnext.out v6 w6 ho6 hg6;replace bo:=hat6.bel;clear hnext ho hg6 ho6;refine hK.out _ _ (hS _ bo) (fun hHeld=>?_);clear hK K;(try simp only[lay]);refine tkH 17 rfl hHeld ?_;refine wpAnyH_done (by kernel_rfl) ?_ _;refine NoPanic.normal ?_;(try go_simp);clear hHeld;clear hS dS bo;go_wp2;go_roundw
         case rel=>exact⟨kk+1,by rw[hql.out];omega,by go_num,hat6⟩
         case measure=>simp[intOf];omega
       · obtain rfl:kk=r.ds.length:=by omega
         have hlt':decide ((r.ds.length:Int)<(r.ds.length:Int))=false:=decide_eq_false (by omega);obtain⟨B,cb,es,rfl,hfl,hqe⟩:=hat.done hql.out.symm
         have hq:Hid (T[k]?=some (RwD.qs ⟨B,cb,es⟩)):=by
          show _=some (es.map FrD.q)
          rw[hqT.out,hqe.out]
         clear hat hqT;have hat:=hmt.out.below hbi;clear hmt;obtain⟨os,ho,h63,hbs,hnext⟩:=hat.app (r:=⟨B,cb,es⟩) hkb hq.out hfl
         go_wp2_with (at_builtin;go_loud (refine wpList_appM rfl Try.underlying118 rfl _ _ rfl _ _ os rfl ho ⟨wr.heap.size,0,none⟩ 1 ⟨B,cb,es⟩ rfl (row_cell wr ⟨B,cb,es⟩) h63 hbs ?_;intro v6 w6 ho6 hg6))
         have hat6:=hnext.out v6 w6 ho6 hg6;clear hnext ho hg6 ho6 hat;go_wp2;go_roundw
         case rel=>exact⟨k+1,by rw[hTl.out];omega,by go_num,hat6⟩
         case measure=>simp[intOf];omega
  · obtain rfl:k=rows.length:=by omega
    have hlt':decide ((rows.length:Int)<(rows.length:Int))=false:=decide_eq_false (by omega);obtain⟨B,cb,es,rfl,hfl,hqe⟩:=hat.done hTl.out.symm;go_wp2;go_ret;exact⟨B,cb,es,rfl,hfl,hqe,hbw⟩
end Go.Proofs.Ytjhkapjadfpimaa
