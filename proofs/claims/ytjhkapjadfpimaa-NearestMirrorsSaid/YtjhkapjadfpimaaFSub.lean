/- Contracts of functions, for the law. -/
import Derived.Test.YtjhkapjadfpimaaWTrim
import Derived.Test.YtjhkapjadfpimaaFDiv
import Derived.Deep.RegionHeld3
import Derived.Test.YtjhkapjadfpimaaMMake
import Derived.Test.YtjhkapjadfpimaaFSum
namespace Go.Proofs.Ytjhkapjadfpimaa
set_option linter.unusedVariables false
set_option linter.unusedSimpArgs false
open Go.RowKit Plain
attribute [local go_sem ↓] Go.wp_at_zero Go.wp_at_succ
set_option maxRecDepth 100000 in
set_option maxHeartbeats 4000000 in
theorem pivC_any {K gm gp gc p j:Nat}{t1 t2 t3:TypeId}{v:Value}{q:Rat}{A:Option Addr}{c:Nat}{rows:List RwD}{w:World}(hx:FV w v q) (hM:Blk w gm t1 #[.slice A rows.length c]) (hP:Blk w gp t2 #[.int .i64 (p:Int)]) (hJ:Blk w gc t3 #[.int .i64 (j:Int)])
 (h:ML w A c rows) (hp:p<rows.length) (hj:∀ r∈rows,j<r.ds.length) (hfx:Fits K q) (hfm:MFits K (qsM rows)) (hnz:fn (qsM rows) p j≠0) (hK:K+K≤400000000) :
 Calls Try.prog 101 #[v,.pointer (some ⟨gm,0,none⟩),.pointer (some ⟨gp,0,none⟩),.pointer (some ⟨gc,0,none⟩)] w (RetQ (q / fn (qsM rows) p j) w):=by
 obtain⟨n0,X0,x0,l0,Y0,y0,m0,rfl,nx,ny,iqx⟩:=id hx;clear nx ny iqx;obtain⟨w0,hw0,bw0,hlt0,hX0⟩:=boxed w #[.bool n0,.slice X0 l0.length x0,.slice Y0 m0.length y0] 28;obtain⟨w1,hw1,bw1,hlt1,hR⟩:=boxed w0 #[.bool false,.slice none 0 0,.slice none 0 0] 28;have b01:=bw0.trans (bw1.mono (Nat.le_of_lt hlt0));have hX1:=hX0.keep bw1;have hM1:=hM.below b01 hM.lt;have hP1:=hP.below b01 hP.lt;have hJ1:=hJ.below b01 hJ.lt;have hl:=h.len;obtain⟨a,r,rfl,hab,hrow,hfr,hrk⟩:=(h.below b01).at hp;have hjr:=hj r (List.mem_of_getElem? hrk.out);have hlr:=hfr.len;obtain⟨b,d,eb,hbb,hc0,hc1,hc2,he,hdk⟩:=hfr.at hjr
 have hfe:=Lib.hid (show fn (qsM rows) p j=d.q by
  unfold fn qsM;rw[List.getD_eq_getElem?_getD (l:=rows.map _),List.getElem?_map,hrk.out]
  show (r.ds.map FrD.q).getD j 0=_
  rw[List.getD_eq_getElem?_getD,List.getElem?_map,hdk.out];rfl)
 have he2:=Lib.hid (QFits.fr (hfm.row hrk.out) d (List.mem_of_getElem? hdk.out));have hne:=Lib.hid (show d.q≠0 by rw[←hfe.out];exact hnz);rw[hfe.out];rw[eb] at hrow;have hpi:(p:Int)<(rows.length:Int):=by omega
 have hji:(j:Int)<(r.ds.length:Int):=by omega
 replace hx:=hx.below b01;clear hfm hnz h hfr hj eb;go_enter Try.func101,Try.ntmps101;have bT:=b01
 have hS:∀ w',Below w1.heap.size w1 w'→w'.cell? ⟨w.heap.size,0,none⟩=some (.bool n0)∧w'.cell? ⟨w.heap.size,1,none⟩=some (.slice X0 l0.length x0)∧w'.cell? ⟨w.heap.size,2,none⟩=some (.slice Y0 m0.length y0)∧w'.cell? ⟨gm,0,none⟩=some (.slice (some a) rows.length c)∧w'.cell? ⟨gp,0,none⟩=some (.int .i64 (p:Int))∧w'.cell? ⟨gc,0,none⟩=some (.int .i64 (j:Int))∧w'.cell? (a.add p)=some (.slice (some b) r.ds.length r.c)∧w'.cell? (b.add (j*3))=some (.bool d.neg)∧w'.cell? ⟨(b.add (j*3)).block,(b.add (j*3)).off+1,none⟩=some (.slice d.a d.la.length d.ca)∧w'.cell? ⟨(b.add (j*3)).block,(b.add (j*3)).off+2,none⟩=some (.slice d.b d.lb.length d.cb)∧Below w1.heap.size w1 w':=by
  intro w' o;have h1:=hX1.keep o;have h2:=hM1.keep o;have h3:=hP1.keep o;have h4:=hJ1.keep o;exact⟨h1.f0,h1.f1,h1.f2,h2.v0,h3.v0,h4.v0,(o.cell (by show (a.add p).block<_;rw[block_add];exact hab)).trans hrow,(o.cell (by show (b.add (j*3)).block<_;rw[block_add];exact hbb)).trans hc0,(o.cell (by show (b.add (j*3)).block<_;rw[block_add];exact hbb)).trans hc1,(o.cell (by show (b.add (j*3)).block<_;rw[block_add];exact hbb)).trans hc2,o⟩
 have bo:Below w1.heap.size w1 w1:=Below.refl _ _;have dS:Below w1.heap.size w1 w1.drew:=bo.drew;go_wp2_with fail;refine wp_region_noPanic ?_;refine wp_region_held_drew (S:=fun w'=>w'.cell? ⟨w.heap.size,0,none⟩=some (.bool n0)∧w'.cell? ⟨w.heap.size,1,none⟩=some (.slice X0 l0.length x0)∧w'.cell? ⟨w.heap.size,2,none⟩=some (.slice Y0 m0.length y0)∧w'.cell? ⟨gm,0,none⟩=some (.slice (some a) rows.length c)∧w'.cell? ⟨gp,0,none⟩=some (.int .i64 (p:Int))∧w'.cell? ⟨gc,0,none⟩=some (.int .i64 (j:Int))∧w'.cell? (a.add p)=some (.slice (some b) r.ds.length r.c)∧w'.cell? (b.add (j*3))=some (.bool d.neg)∧w'.cell? ⟨(b.add (j*3)).block,(b.add (j*3)).off+1,none⟩=some (.slice d.a d.la.length d.ca)∧w'.cell? ⟨(b.add (j*3)).block,(b.add (j*3)).off+2,none⟩=some (.slice d.b d.lb.length d.cb)∧Below w1.heap.size w1 w') (by kernel_rfl) (hS _ dS) (fun hHeld=>?_);refine tkH 0 rfl hHeld ?_;refine tkH 1 rfl hHeld ?_;refine tkH 2 rfl hHeld ?_;refine tkH 3 rfl hHeld ?_;refine tkH 4 rfl hHeld ?_;refine tkH 5 rfl hHeld ?_;refine tkH 6 rfl hHeld ?_;refine tkH 7 rfl hHeld ?_;refine wpAnyH_ready (rs:=[8,12]) (by kernel_rfl) (by simp) ?_;refine AllReadyH.cons rfl (fun K hK=>?_) ?_
 · go_simp;have dw0:Below w1.heap.size w1 w1.drew:=(Below.refl _ _).drew;replace hx:=hx.below dw0;replace he:=he.below dw0;replace hR:=hR.keep dw0;replace bT:=bT.trans (dw0.mono bT.size);replace bo:=bo.trans (dw0.mono bo.size);go_at_call 73;refine (divF_any hx he hfx he2.out (by omega) hne.out).mono ?_;rintro e u1 ⟨v1,rfl,⟨n1,A1,a1,l1,B1,c1,m1,rfl,na,nb,iq⟩,bu1⟩;replace hx:=hx.below bu1;replace he:=he.below bu1;replace hR:=hR.keep bu1;replace bT:=bT.trans (bu1.mono bT.size);replace bo:=bo.trans (bu1.mono bo.size);have iq':=Lib.hid iq;clear iq;go_wp2_with fail;refine hK.out _ _ (hS _ bo) (fun hHeld=>?_);clear hK K;(try simp only[lay]);refine tkH 9 rfl hHeld ?_;refine tkH 10 rfl hHeld ?_;refine tkH 11 rfl hHeld ?_;refine rdH 12 rfl fun K hK=>?_;have bzu1:=bo.size;obtain⟨u2,hu2,bu2,lu2,Bu2⟩:=boxed u1 #[.bool false,.slice none 0 0,.slice none 0 0] 28;replace hx:=hx.below bu2;replace he:=he.below bu2;replace hR:=hR.keep bu2;replace na:=na.below bu2;replace nb:=nb.below bu2;replace bT:=bT.trans (bu2.mono bT.size);replace bo:=bo.trans (bu2.mono bo.size);obtain⟨gz,hgz⟩:∃ g,g=u1.heap.size:=⟨_,rfl⟩;have hge:w1.heap.size≤gz:=by rw[hgz];exact bzu1
   have Bz:Blk u2 gz 28 #[.bool false,.slice none 0 0,.slice none 0 0]:=by rw[hgz];exact Bu2
   clear Bu2;go_simp;refine hK.out _ _ (hS _ bo) (fun hHeld=>?_);clear hK K;(try simp only[lay]);refine rdH 13 rfl fun K hK=>?_;subst hgz;have q0:=Bz.free 0;have q1:=Bz.free 1;have q2:=Bz.free 2;have p0:=Bz.f0;have p1:=Bz.f1;have p2:=Bz.f2;go_simp;obtain⟨w9,hw9,hB9,o9⟩:=Bz.set3 (.bool n1) (.slice A1 l1.length a1) (.slice B1 m1.length c1);rw[hw9];replace bo:=o9.to_below bo hge bo.size;clear q0 q1 q2 p0 p1 p2;have na9:=na.only_blk Bz (noDig3 _ _ _ _ _ _ _) o9;have nb9:=nb.only_blk Bz (noDig3 _ _ _ _ _ _ _) o9;refine hK.out _ _ (hS _ bo) (fun hHeld=>?_);clear hK K;(try simp only[lay]);refine tkH 14 rfl hHeld ?_;refine wpAnyH_done (by kernel_rfl) ?_ _;refine NoPanic.normal ?_;(try go_simp);clear hHeld;clear hS dS;have hlz:w0.heap.size≠_:=Nat.ne_of_lt (Nat.lt_of_lt_of_le hlt1 hge);have hR9:=hR.only o9 hlz;have bT9:=b01.trans (bo.mono b01.size);have z0:=hB9.f0;have z1:=hB9.f1;have z2:=hB9.f2;have hR5:=hR9;have na5:=na9;have nb5:=nb9;have iq5':=iq';have b05:=bT9;have p0:=hR5.f0;have p1:=hR5.f1;have p2:=hR5.f2;have q0:=hR5.free 0;have q1:=hR5.free 1;have q2:=hR5.free 2;go_wp2;obtain⟨w8,hw8,hB8,o8⟩:=hR5.set3 (.bool n1) (.slice A1 l1.length a1) (.slice B1 m1.length c1);rw[hw8];have e0:=hB8.f0;have e1:=hB8.f1;have e2:=hB8.f2;refine bodyPost_ret (v:=fracV n1 A1 l1.length a1 B1 m1.length c1) (by simp[results,Try.results101,go_sem,e0,e1,e2]) rfl ?_
   exact⟨_,rfl,⟨n1,A1,a1,l1,B1,c1,m1,rfl,na9.only_blk hR5 (noDig3 _ _ _ _ _ _ _) o8,nb9.only_blk hR5 (noDig3 _ _ _ _ _ _ _) o8,iq'.out⟩,o8.to_below b05 (Nat.le_of_lt hlt0) b05.size⟩
 refine AllReadyH.cons rfl (fun K hK=>?_) ?_
 · have bzw1:=bo.size;obtain⟨u3,hu3,bu3,lu3,Bu3⟩:=boxed w1 #[.bool false,.slice none 0 0,.slice none 0 0] 28;replace hx:=hx.below bu3;replace he:=he.below bu3;replace hR:=hR.keep bu3;replace bT:=bT.trans (bu3.mono bT.size);replace bo:=bo.trans (bu3.mono bo.size);obtain⟨gz,hgz⟩:∃ g,g=w1.heap.size:=⟨_,rfl⟩;have hge:w1.heap.size≤gz:=by rw[hgz];exact bzw1
   have Bz:Blk u3 gz 28 #[.bool false,.slice none 0 0,.slice none 0 0]:=by rw[hgz];exact Bu3
   clear Bu3;go_simp;refine hK.out _ _ (hS _ bo.drew) (fun hHeld=>?_);clear hK K;(try simp only[lay]);refine rdH 8 rfl fun K hK=>?_;go_simp;have dw3:Below u3.heap.size u3 u3.drew:=(Below.refl _ _).drew;replace hx:=hx.below dw3;replace he:=he.below dw3;replace hR:=hR.keep dw3;replace Bz:=Bz.keep dw3;replace bT:=bT.trans (dw3.mono bT.size);replace bo:=bo.trans (dw3.mono bo.size);go_at_call 73;refine (divF_any hx he hfx he2.out (by omega) hne.out).mono ?_;rintro e u4 ⟨v1,rfl,⟨n1,A1,a1,l1,B1,c1,m1,rfl,na,nb,iq⟩,bu4⟩;replace hx:=hx.below bu4;replace he:=he.below bu4;replace hR:=hR.keep bu4;replace Bz:=Bz.keep bu4;replace bT:=bT.trans (bu4.mono bT.size);replace bo:=bo.trans (bu4.mono bo.size);have iq':=Lib.hid iq;clear iq;go_wp2_with fail;refine hK.out _ _ (hS _ bo) (fun hHeld=>?_);clear hK K;(try simp only[lay]);refine tkH 9 rfl hHeld ?_;refine tkH 10 rfl hHeld ?_;refine tkH 11 rfl hHeld ?_;refine rdH 13 rfl fun K hK=>?_;subst hgz;have q0:=Bz.free 0;have q1:=Bz.free 1;have q2:=Bz.free 2;have p0:=Bz.f0;have p1:=Bz.f1;have p2:=Bz.f2;go_simp;obtain⟨w9,hw9,hB9,o9⟩:=Bz.set3 (.bool n1) (.slice A1 l1.length a1) (.slice B1 m1.length c1);rw[hw9];replace bo:=o9.to_below bo hge bo.size;clear q0 q1 q2 p0 p1 p2;have na9:=na.only_blk Bz (noDig3 _ _ _ _ _ _ _) o9;have nb9:=nb.only_blk Bz (noDig3 _ _ _ _ _ _ _) o9;refine hK.out _ _ (hS _ bo) (fun hHeld=>?_);clear hK K
   (try simp only[lay]);refine tkH 14 rfl hHeld ?_;refine wpAnyH_done (by kernel_rfl) ?_ _;refine NoPanic.normal ?_;(try go_simp);clear hHeld;clear hS dS;have hlz:w0.heap.size≠_:=Nat.ne_of_lt (Nat.lt_of_lt_of_le hlt1 hge);have hR9:=hR.only o9 hlz;have bT9:=b01.trans (bo.mono b01.size);have z0:=hB9.f0;have z1:=hB9.f1;have z2:=hB9.f2;have hR5:=hR9;have na5:=na9;have nb5:=nb9;have iq5':=iq';have b05:=bT9;have p0:=hR5.f0;have p1:=hR5.f1;have p2:=hR5.f2;have q0:=hR5.free 0;have q1:=hR5.free 1;have q2:=hR5.free 2;go_wp2;obtain⟨w8,hw8,hB8,o8⟩:=hR5.set3 (.bool n1) (.slice A1 l1.length a1) (.slice B1 m1.length c1);rw[hw8];have e0:=hB8.f0;have e1:=hB8.f1;have e2:=hB8.f2;refine bodyPost_ret (v:=fracV n1 A1 l1.length a1 B1 m1.length c1) (by simp[results,Try.results101,go_sem,e0,e1,e2]) rfl ?_;exact⟨_,rfl,⟨n1,A1,a1,l1,B1,c1,m1,rfl,na9.only_blk hR5 (noDig3 _ _ _ _ _ _ _) o8,nb9.only_blk hR5 (noDig3 _ _ _ _ _ _ _) o8,iq'.out⟩,o8.to_below b05 (Nat.le_of_lt hlt0) b05.size⟩
 exact AllReadyH.nil
set_option maxRecDepth 100000 in
set_option maxHeartbeats 4000000 in
theorem mapped_piv {K gm gp gc p j:Nat}{t1 t2 t3:TypeId}{A M:Option Addr}{c cm:Nat}{ds:List FrD}{rows:List RwD}{w:World}(h:FL w A c ds) (hM:Blk w gm t1 #[.slice M rows.length cm]) (hP:Blk w gp t2 #[.int .i64 (p:Int)]) (hJ:Blk w gc t3 #[.int .i64 (j:Int)])
 (hm:ML w M cm rows) (hp:p<rows.length) (hj:∀ r∈rows,j<r.ds.length) (hfx:QFits K (ds.map FrD.q)) (hfm:MFits K (qsM rows)) (hnz:fn (qsM rows) p j≠0) (hK:K+K≤400000000) (hrn:ds.length<1000000000000) :
 Calls Try.prog 100 #[.slice A ds.length c,.func (.func 101) #[] #[.pointer (some ⟨gm,0,none⟩),.pointer (some ⟨gp,0,none⟩),.pointer (some ⟨gc,0,none⟩)]] w (RetLs ((ds.map FrD.q).map fun x=>x / fn (qsM rows) p j) w):=by
 have hl:=h.len;obtain⟨qs,hqs⟩:∃ qs,Hid (((ds.map FrD.q).map fun x=>x / fn (qsM rows) p j)=qs):=⟨_,rfl⟩;have hql:=Lib.hid (show qs.length=ds.length by rw[←hqs.out];simp);rw[hqs.out];have hfm':=Lib.hid hfm;have hfx':=Lib.hid hfx;have hj':=Lib.hid hj;have hnz':=Lib.hid hnz;clear hfm hfx hj hnz;go_enter Try.func100,Try.ntmps100;go_wp2
 go_loopw [5,7,10] (fun v x i wr=>LsInv qs w v i wr) (fun _ _ i _=>ds.length-(intOf i).toNat)
 case atStart=>exact⟨0,by omega,rfl,LsAt.nil _ _⟩
 case round =>
  obtain⟨k,hk,rfl,hat⟩:=hrel;rw[hql.out] at hk;have hbel:=hat.bel
  by_cases hkl:k<ds.length
  · have hki:(k:Int)<(ds.length:Int):=by omega
    obtain⟨a,d,rfl,hab,hc0,hc1,hc2,fa,hdk⟩:=(h.below hbel).at hkl;have hfr:=Lib.hid (hfx'.out.fr d (List.mem_of_getElem? hdk.out))
    have hq:Hid (qs[k]?=some (d.q / fn (qsM rows) p j)):=by
     show _=_
     rw[←hqs.out,List.map_map,List.getElem?_map,hdk.out];rfl
    have hkb:k<1000000000000:=by omega
    obtain⟨qk,hqk⟩:∃ q,Hid (d.q / fn (qsM rows) p j=q):=⟨_,rfl⟩;rw[hqk.out] at hq;obtain⟨w3,hw3,bw3,hlt3,hX3⟩:=boxed wr #[.bool d.neg,.slice d.a d.la.length d.ca,.slice d.b d.lb.length d.cb] 28;have b03:=hbel.trans (bw3.mono hbel.size);have x0:=hX3.f0;have x1:=hX3.f1;have x2:=hX3.f2;go_wp2_with fail;refine (pivC_any (fa.below bw3) (hM.keep b03) (hP.keep b03) (hJ.keep b03) (hm.below b03) hp hj'.out hfr.out hfm'.out hnz'.out hK).mono ?_;rintro e w4 ⟨v1,rfl,⟨n1,A1,a1,l1,B1,c1,m1,rfl,na,nb,iq⟩,b4⟩;rw[hqk.out] at iq;replace hat:=(hat.below bw3).below b4;obtain⟨os,ho,h63,hbs,hnext⟩:=hat.app hkb hq.out na nb iq;clear na nb iq
    go_wp2_with (at_builtin;refine wpList_appQ rfl rfl _ _ rfl _ _ os rfl ho ⟨w4.heap.size,0,none⟩ 1 ⟨n1,A1,a1,l1,B1,c1,m1⟩ rfl (World.news_of_block (heap_alloc_new w4 _)) h63 hbs ?_;intro v6 w6 ho6 hg6)
    have hat6:=hnext.out v6 w6 ho6 hg6;clear hnext ho hg6 ho6 hat;go_wp2;go_roundw
    case rel=>exact⟨k+1,by rw[hql.out];omega,by go_num,hat6⟩
    case measure=>simp[intOf];omega
  · obtain rfl:k=ds.length:=by omega
    have hlt':decide ((ds.length:Int)<(ds.length:Int))=false:=decide_eq_false (by omega);obtain⟨B,cb,es,rfl,hfl,hqe⟩:=hat.done hql.out.symm;go_wp2;go_ret;exact⟨B,cb,es,rfl,hfl,hqe,hbel⟩
end Go.Proofs.Ytjhkapjadfpimaa
namespace Go.Proofs.Ytjhkapjadfpimaa
set_option linter.unusedVariables false
set_option linter.unusedSimpArgs false
open Go.RowKit Plain
theorem Plain.Fits.inv {k:Nat}{q:Rat}(h:Fits k q):Fits k q⁻¹:=by
 have hp:=h.pos;rw[Rat.inv_def]
 by_cases hn:q.num<0
 · rw[←Rat.neg_divInt_neg,show -q.num=(q.num.natAbs:Int) by omega,Rat.divInt_ofNat];exact fits_mk (by have:=h.2;omega) h.1
 · rw[show q.num=((q.num.natAbs:Nat):Int) by omega,Rat.divInt_ofNat];exact fits_mk (by have:=h.2;omega) h.1
theorem Plain.Fits.div {j k:Nat}{p q:Rat}(hp:Fits j p) (hq:Fits k q):Fits (j+k) (p / q):=by
 rw[Rat.div_def];exact hp.mul hq.inv
theorem MFits.get {K:Nat}{M:Mat}(h:MFits K M){i:Nat}(hi:i<M.length):QFits K (M.getD i []):=by
 rw[List.getD_eq_getElem?_getD,List.getElem?_eq_getElem hi];exact h _ (List.getElem_mem hi)
theorem QFits.get {K:Nat}{l:List Rat}(h:QFits K l){k:Nat}(hk:k<l.length):Fits K (l.getD k 0):=by
 rw[List.getD_eq_getElem?_getD,List.getElem?_eq_getElem hk];exact h _ (List.getElem_mem hk)
theorem MFits.fn {K n i k:Nat}{M:Mat}(h:MFits K M) (hr:rect M n) (hi:i<M.length) (hk:k<n):Fits K (fn M i k):=(h.get hi).get (by rw[rect_row hr hi];exact hk)
theorem headL_fits {K n p c:Nat}{M:Mat}(h:MFits K M) (hr:rect M n) (hp:p<M.length) (hc:c<n):QFits (K+K) (headL M p c):=fun q hq=>by
 obtain⟨x,hx,rfl⟩:=List.mem_map.1 hq;exact (h.get hp x hx).div (h.fn hr hp hc)
theorem lessL_fits {J K L:Nat}{a b:List Rat}{f:Rat}(ha:QFits J a) (hf:Fits K f) (hb:QFits L b):QFits (J+(K+L)+1) (lessL a f b):=fun q hq=>by
 unfold lessL at hq;obtain⟨i,hi,rfl⟩:=List.getElem_of_mem hq;rw[List.getElem_zipWith];exact (ha _ (List.getElem_mem _)).sub (hf.mul (hb _ (List.getElem_mem _)))
theorem pivL_fits {K n p c:Nat}{M:Mat}(h:MFits K M) (hr:rect M n) (hp:p<M.length) (hc:c<n):MFits (4*K+1) (pivL M p c):=fun r hr'=>by
 have hh:=headL_fits h hr hp hc;unfold pivL at hr';obtain⟨i,hi,rfl⟩:=List.mem_map.1 hr';rw[List.mem_range] at hi
 split
 · exact hh.mono (by omega)
 · exact (lessL_fits (h.get hi) (h.fn hr hi hc) hh).mono (by omega)
theorem moveUp_fits {K row t:Nat}{M:Mat}(h:MFits K M) (ht:t<M.length):MFits K (moveUp M row t):=fun r hr=>by
 unfold moveUp at hr
 simp only[List.mem_append,List.mem_cons] at hr
 rcases hr with h3 | rfl | h3 | h3
 · exact h r (List.mem_of_mem_take h3)
 · exact h.get ht
 · exact h r (List.mem_of_mem_drop (List.mem_of_mem_take h3))
 · exact h r (List.mem_of_mem_drop h3)
def gK (K:Nat):Nat→Nat
 | 0=>K
 | n+1=>4*gK K n+1
theorem gK_succ (K n:Nat):gK K (n+1)=4*gK K n+1:=rfl
theorem gK_le (K:Nat):∀ n,K≤gK K n:=by
 intro n
 induction n with
 | zero=>exact Nat.le_refl _
 | succ n ih=>rw[gK_succ];omega
theorem gK_mono (K:Nat){m n:Nat}(h:m≤n):gK K m≤gK K n:=by
 induction h with
 | refl=>exact Nat.le_refl _
 | step _ ih=>rw[gK_succ];omega
theorem reduceL_fits {K w:Nat}{M:Mat}(h:MFits K M) (hr:rect M w):∀ n,n≤w→MFits (gK K n) (reduceL M n).1:=by
 intro n
 induction n with
 | zero=>exact fun _=>h
 | succ n ih =>
  intro hn;have h1:=ih (by omega);have h2:=reduceL_ok hr n (by omega);rw[reduceL_succ]
  generalize reduceL M n=S at *
  unfold redStep
  split
  · rename_i hlt
    split
    · rename_i hat
      exact pivL_fits (moveUp_fits h1 hat) (moveUp_rect h2.rct hat) (by rw[moveUp_length (findRow_ge _ _ _) hat];exact hlt) (by omega)
    · exact h1.mono (by rw[gK_succ];omega)
  · exact h1.mono (by rw[gK_succ];omega)
end Go.Proofs.Ytjhkapjadfpimaa
namespace Go.Proofs.Ytjhkapjadfpimaa
set_option linter.unusedVariables false
set_option linter.unusedSimpArgs false
open Go.RowKit Plain
attribute [local go_sem ↓] Go.wp_at_zero Go.wp_at_succ
set_option maxRecDepth 100000 in
set_option maxHeartbeats 4000000 in
theorem subF_any {v u:Value}{p q:Rat}{j k:Nat}{w:World}(hv:FV w v p) (hu:FV w u q) (hj:Fits j p) (hk:Fits k q) (hJ:j+k<400000000) :
 Calls Try.prog 34 #[v,u] w (RetQ (p-q) w):=by
 have hv0:=hv;have hu0:=hu;obtain⟨n1,A,ca,la,B,cb,lb,rfl,na,nb,iq⟩:=hv;obtain⟨n2,C,cc,lc,D,cd,ld,rfl,nc,nd,ir⟩:=hu;clear na nb iq nc nd ir;rw[Rat.sub_eq_add_neg];obtain⟨w0,hw0,bw0,hlt0,hB0⟩:=boxed w #[.bool n1,.slice A la.length ca,.slice B lb.length cb] 28;obtain⟨w1,hw1,bw1,hlt1,hB1⟩:=boxed w0 #[.bool n2,.slice C lc.length cc,.slice D ld.length cd] 28;obtain⟨w2,hw2,bw2,hlt2,hB2⟩:=boxed w1 #[.bool false,.slice none 0 0,.slice none 0 0] 28;have hA2:=(hB0.keep bw1).keep bw2;have hC2:=hB1.keep bw2;have b01:=bw0.trans (bw1.mono (Nat.le_of_lt hlt0));have b02:=b01.trans (bw2.mono b01.size);have hv1:=hv0.below b02;have hu1:=hu0.below b02;have x0:=hA2.f0;have x1:=hA2.f1;have x2:=hA2.f2;have y0:=hC2.f0;have y1:=hC2.f1;have y2:=hC2.f2;have h3f:Blk3 w2 w1.heap.size 28:=hB2.b3;have hrf:Only w2 w2 w1.heap.size:=Only.refl _ _;have hl1:w.heap.size<w1.heap.size:=by omega
 have hS:∀ w',Only w2 w' w1.heap.size→w'.cell? ⟨w.heap.size,0,none⟩=some (.bool n1)∧w'.cell? ⟨w.heap.size,1,none⟩=some (.slice A la.length ca)∧w'.cell? ⟨w.heap.size,2,none⟩=some (.slice B lb.length cb)∧w'.cell? ⟨w0.heap.size,0,none⟩=some (.bool n2)∧w'.cell? ⟨w0.heap.size,1,none⟩=some (.slice C lc.length cc)∧w'.cell? ⟨w0.heap.size,2,none⟩=some (.slice D ld.length cd):=fun w' o =>
  have p:=hA2.only o (Nat.ne_of_lt hl1);have q:=hC2.only o (Nat.ne_of_lt hlt1);⟨p.f0,p.f1,p.f2,q.f0,q.f1,q.f2⟩
 obtain⟨d0,d1,d2,d3,d4,d5⟩:=hS _ hrf.drew;have d6:=hrf.drew;have d7:=h3f.drew;clear hv0 hu0;go_enter Try.func34,Try.ntmps34;go_wp2_with fail
 go_region_held3 (fun w'=>w'.cell? ⟨w.heap.size,0,none⟩=some (.bool n1)∧w'.cell? ⟨w.heap.size,1,none⟩=some (.slice A la.length ca)∧w'.cell? ⟨w.heap.size,2,none⟩=some (.slice B lb.length cb)∧w'.cell? ⟨w0.heap.size,0,none⟩=some (.bool n2)∧w'.cell? ⟨w0.heap.size,1,none⟩=some (.slice C lc.length cc)∧w'.cell? ⟨w0.heap.size,2,none⟩=some (.slice D ld.length cd)∧Only w2 w' w1.heap.size∧Blk3 w' w1.heap.size 28) (((try go_split_ands);(try dsimp only);(repeat' with_reducible apply And.intro) <;> with_reducible assumption)) (first
  | (go_at_call 59;go_split_ands;(with_reducible refine (neg_any (hu1.only_blk hB2 (noDig3 _ _ _ _ _ _ _) (by assumption)) hk (by omega)).mono ?_);rintro e w3 ⟨v3,rfl,hv3,b3⟩;have q4:=Blk3.keep (by assumption) b3;have b4:=(show Only w2 _ w1.heap.size by assumption).trans (Only.of_below b3 _);obtain⟨f0,f1,f2,f3,f4,f5⟩:=hS _ b4)
  | (go_at_call 29;go_split_ands;(with_reducible refine (addF_any (hv1.only_blk hB2 (noDig3 _ _ _ _ _ _ _) (by assumption)) hv3 hj hk.neg hJ).mono ?_);rintro e w7 ⟨v,rfl,⟨m0,A1,c1,l1,B1,d1,m1,rfl,ma,mb,hQ⟩,b7⟩;have b8:=(show Only w2 _ w1.heap.size by assumption).trans (Only.of_below b7 _);obtain⟨k0,k1,k2,k3,k4,k5⟩:=hS _ b8;have q8:=Blk3.keep (t:=28) (by assumption) b7;have q9:=q8.set m0 A1 l1.length c1 B1 m1.length d1;obtain⟨qa,qb,qc,qd,qe,qf,qg,hB3⟩:=id q8;have b9:=((b8.set 0 (.bool m0)).set 1 (.slice A1 l1.length c1)).set 2 (.slice B1 m1.length d1);obtain⟨j0,j1,j2,j3,j4,j5⟩:=hS _ b9;have u0:=hB3.f0;have u1:=hB3.f1;have u2:=hB3.f2;have t0:=hB3.free 0;have t1:=hB3.free 1;have t2:=hB3.free 2))
 clear j0 j1 j2 j3 j4 j5 q9;go_wp2;obtain⟨w9,hw9,hB9,o9⟩:=hB3.set3 (.bool m0) (.slice A1 l1.length c1) (.slice B1 m1.length d1);rw[hw9];have e0:=hB9.f0;have e1:=hB9.f1;have e2:=hB9.f2;refine bodyPost_ret (v:=fracV m0 A1 l1.length c1 B1 m1.length d1) (by simp[results,Try.results34,go_sem,e0,e1,e2]) rfl ?_;have m1':=ma.only_blk hB3 (noDig3 _ _ _ _ _ _ _) o9;have m2':=mb.only_blk hB3 (noDig3 _ _ _ _ _ _ _) o9;have bT:=(b8.trans o9).to_below b02 b01.size b02.size;exact⟨_,rfl,⟨m0,A1,c1,l1,B1,d1,m1,rfl,m1',m2',hQ⟩,bT⟩
end Go.Proofs.Ytjhkapjadfpimaa
