/- Contracts of functions, for the law. -/
import Derived.Test.YtjhkapjadfpimaaFDiv
import Derived.Test.YtjhkapjadfpimaaMPivot
import Derived.Deep.RegionHeld3
import Derived.Test.YtjhkapjadfpimaaMSmall
namespace Go.Proofs.Ytjhkapjadfpimaa
set_option linter.unusedVariables false
set_option linter.unusedSimpArgs false
open Go.RowKit Plain
attribute [local go_sem ↓] Go.wp_at_zero Go.wp_at_succ
theorem reduceL_stop {M:Mat}{k:Nat}(h:¬ (reduceL M k).2.length<(reduceL M k).1.length):∀ n,reduceL M (k+n)=reduceL M k:=by
 intro n
 induction n with
 | zero=>rfl
 | succ n ih =>
  rw[←Nat.add_assoc,reduceL_succ,ih];unfold redStep;rw[if_neg h]
theorem reduceL_skip {M:Mat}{k:Nat}(h:¬ findRow (reduceL M k).1 k (reduceL M k).2.length<(reduceL M k).1.length):reduceL M (k+1)=reduceL M k:=by
 rw[reduceL_succ];unfold redStep;rw[if_neg h,ite_self]
theorem reduceL_step {M:Mat}{k t:Nat}(h1:(reduceL M k).2.length<(reduceL M k).1.length) (ht:findRow (reduceL M k).1 k (reduceL M k).2.length=t) (h2:t<(reduceL M k).1.length) :
 reduceL M (k+1)=(pivL (moveUp (reduceL M k).1 (reduceL M k).2.length t) (reduceL M k).2.length k,(reduceL M k).2++[k]):=by
 rw[reduceL_succ];unfold redStep;rw[if_pos h1,ht,if_pos h2]
theorem findRow_eq {M:Mat}{col row t:Nat}(h1:row≤t) (h2:t<M.length) (h3:∀ i,row≤i→i<t→fn M i col=0) (h4:fn M t col≠0):findRow M col row=t:=by
 rcases Nat.lt_trichotomy (findRow M col row) t with h | h | h
 · exact absurd (h3 _ (findRow_ge _ _ _) h) (findRow_ne (by omega))
 · exact h
 · exact absurd (findRow_zero h1 h h2) h4
theorem findRow_no {M:Mat}{col row:Nat}(h3:∀ i,row≤i→i<M.length→fn M i col=0):¬ findRow M col row<M.length:=fun h=>findRow_ne h (h3 _ (findRow_ge _ _ _) h)
def RedInv (M:Mat) (n:Nat) (root:World) (m l i:Value) (wr:World):Prop :=
 ∃ (k:Nat) (A:Option Addr) (c:Nat) (rows:List RwD) (is:List Nat),k≤n∧i=.int .i64 (k:Int)∧m=.slice A rows.length c∧ML wr A c rows∧Hid (qsM rows=(reduceL M k).1)∧Hid (is=(reduceL M k).2)∧OwnI wr root.heap.size l is∧Below root.heap.size root wr
def FindInv (Q:Mat) (col row:Nat) (root:World) (i:Value) (wr:World):Prop :=
 ∃ t:Nat,row≤t∧t≤Q.length∧i=.int .i64 (t:Int)∧Hid (∀ i,row≤i→i<t→fn Q i col=0)∧Below root.heap.size root wr
def RetRed (S:Mat × List Nat) (W:World) (e:Ending) (w':World):Prop :=
 ∃ A c rows L cl,e=.returned (.tuple #[.slice A rows.length c,.slice L S.2.length cl])∧ML w' A c rows∧Hid (qsM rows=S.1)∧ILs w' L cl S.2∧Below W.heap.size W w'
set_option maxRecDepth 100000 in
set_option maxHeartbeats 4000000 in
theorem reduce_any {K N n:Nat}{A:Option Addr}{c:Nat}{rows:List RwD}{w:World}(h:ML w A c rows) (hr:rect (qsM rows) N) (hn:n≤N) (hfm:MFits K (qsM rows)) (hK:4*gK K n+1<400000000) (hrn:rows.length<1000000000) (hN:N<1000000000) :
 Calls Try.prog 97 #[.slice A rows.length c,.int .i64 (n:Int)] w (RetRed (reduceL (qsM rows) n) w):=by
 obtain⟨M,hM⟩:∃ M,Hid (qsM rows=M):=⟨_,rfl⟩;rw[hM.out] at hr hfm ⊢;have hr':=Lib.hid hr;have hfm':=Lib.hid hfm;have hrM:=Lib.hid (show M.length=rows.length by rw[←hM.out,qsM_len]);obtain⟨R,hR⟩:∃ R,Hid (reduceL M n=R):=⟨_,rfl⟩;rw[hR.out];clear hr hfm;go_enter Try.func97,Try.ntmps97;go_wp2
 go_loopw [0,6,7] (fun m l i wr=>RedInv M n w m l i wr) (fun _ _ i _=>n-(intOf i).toNat)
 case atStart=>exact⟨0,A,c,rows,[],by omega,rfl,rfl,h,hM,rfl,OwnI.nil _ _,Below.refl _ _⟩
 case round =>
  obtain⟨k,A,c,rs,is,hk,rfl,rfl,h1,hq,his,hI,hb⟩:=hrel;obtain⟨L,cl,rfl,hil1,hil2⟩:=hI.form;have hred:=Lib.hid (reduceL_ok hr'.out k (by omega));have hfk:=Lib.hid (reduceL_fits hfm'.out hr'.out k (by omega));have hlen:=Lib.hid (show rs.length=rows.length by rw[←qsM_len,hq.out,hred.out.len,hrM.out]);have hl1:=h1.len
  by_cases hkl:k<n
  · have hki:(k:Int)<(n:Int):=by omega
    by_cases hil:is.length<rs.length
    · have hili:(is.length:Int)<(rs.length:Int):=by omega
      have hrs:rs.length<1000000000:=by rw[hlen.out];exact hrn
      have hnr:=Lib.hid (show ∀ r∈rs,r.ds.length=N from fun r hr=>by
       have:=hred.out.rct r.qs (by rw[←hq.out];exact List.mem_map.2 ⟨r,hr,rfl⟩);rw[RwD.qs_len] at this;exact this)
      obtain⟨a0,r0,rfl,-⟩:=h1.at (k:=0) (by omega);have hQl:=Lib.hid (show (qsM rs).length=rs.length from qsM_len rs);go_wp2
      go_loopw [9] (fun i w'=>FindInv (qsM rs) k is.length wr i w') (fun i _=>rs.length-(intOf i).toNat)
      case atStart=>exact⟨is.length,Nat.le_refl _,by rw[hQl.out];omega,rfl,fun i h1 h2=>by omega,Below.refl _ _⟩
      case round =>
       obtain⟨t,ht1,ht2,rfl,hz,b2⟩:=hrel;rw[hQl.out] at ht2;have hbw:=hb.trans (b2.mono hb.size)
       by_cases htl:t<rs.length
       · have hti:(t:Int)<(rs.length:Int):=by omega
         obtain⟨a',r,ea,hab,hc0,hfr,hrk⟩:=(h1.below b2).at htl;have ea':a'=a0:=by injection ea with e;exact e.symm
         subst ea';clear ea;have hlr:=hfr.len;have hkr:k<r.ds.length:=by rw[hnr.out r (List.mem_of_getElem? hrk.out)];omega
         obtain⟨b,d,eb,hbb,hd0,hd1,hd2,hfd,hdk⟩:=hfr.at hkr
         have hfe:=Lib.hid (show fn (qsM rs) t k=d.q by
          unfold fn qsM;rw[List.getD_eq_getElem?_getD (l:=rs.map _),List.getElem?_map,hrk.out]
          show (r.ds.map FrD.q).getD k 0=_
          rw[List.getD_eq_getElem?_getD,List.getElem?_map,hdk.out];rfl)
         rw[eb] at hc0;clear hfr eb;have hkri:(k:Int)<(r.ds.length:Int):=by omega
         go_wp2_with fail;refine (sign_any hfd).mono ?_;rintro e w3 ⟨rfl,b3⟩;have b23:=b2.trans (b3.mono b2.size);have b03:=hb.trans (b23.mono hb.size)
         by_cases hzd:d.q=0
         · have hs:Hid (cmpR d.q 0=0):=cmpR_zero.2 hzd;rw[hs.out]
           have hz':=Lib.hid (show ∀ i,is.length≤i→i<t+1→fn (qsM rs) i k=0 from fun i h1 h2=>by
            rcases Nat.lt_or_ge i t with h | h
            · exact hz.out i h1 h
            · rw[show i=t by omega,hfe.out];exact hzd)
           clear hzd;go_wp2;go_roundw
           case rel=>exact⟨t+1,by omega,by rw[hQl.out];omega,by go_num,hz',b23⟩
           case measure=>simp[intOf];omega
         · obtain⟨s,hs⟩:∃ s,Hid (cmpR d.q 0=s):=⟨_,rfl⟩;have hs0:(s == 0)=false:=by rw[beq_eq_false_iff_ne];intro e;exact hzd (cmpR_zero.1 (by rw[hs.out];exact e))
           rw[hs.out]
           have hfind:=Lib.hid (show findRow (reduceL M k).1 k (reduceL M k).2.length=t by
            rw[←hq.out,←his.out];exact findRow_eq ht1 (by rw[hQl.out];exact htl) hz.out (by rw[hfe.out];exact hzd))
           clear hzd;have hne:((t:Int) == (rs.length:Int))=false:=by rw[beq_eq_false_iff_ne];omega
           have h3:=h1.below b23;have hI3:=hI.below b23
           by_cases htr:t=is.length
           · subst htr;have hne2:((is.length:Int) != (is.length:Int))=false:=by simp
             have hmv:=Lib.hid (show qsM rs=moveUp (reduceL M k).1 is.length is.length by
              rw[moveUp_self (by rw[←hq.out,hQl.out];exact hil)];exact hq.out)
             go_wp2_with fail;have hstep:=Lib.hid (reduceL_step (M:=M) (k:=k) (t:=is.length) (by rw[←hq.out,←his.out,hQl.out];exact hil) hfind.out (by rw[←hq.out,hQl.out];exact htl));have hml:=Lib.hid (show rs.length=rs.length by rw[←qsM_len,hmv.out,moveUp_length ht1 (by rw[←hq.out,hQl.out];exact htl),←hq.out,hQl.out]);have hgK:=gK_mono K hk;have hrm:=Lib.hid (show rect (qsM rs) N by rw[hmv.out];exact moveUp_rect hred.out.rct (by rw[←hq.out,hQl.out];exact htl));have hfm2:=Lib.hid (show MFits (gK K k) (qsM rs) by rw[hmv.out];exact moveUp_fits hfk.out (by rw[←hq.out,hQl.out];exact htl))
             have hnz:=Lib.hid (show fn (qsM rs) is.length k≠0 by
              rw[hmv.out];unfold fn;rw[moveUp_get ht1 (by rw[←hq.out,hQl.out];exact htl) (by rw[←hq.out,hQl.out];exact hil)];have h5:=findRow_ne (M:=(reduceL M k).1) (col:=k) (row:=(reduceL M k).2.length) (by rw[hfind.out,←hq.out,hQl.out];exact htl);rw[hfind.out] at h5;unfold fn at h5;have e5:upS is.length is.length is.length=is.length:=by unfold upS;simp
              rw[e5];exact h5)
             refine (pivot_any (K:=gK K k) (p:=is.length) (j:=k) (n:=N) h3 hrm.out (by rw[hml.out];exact hil) (by omega) hfm2.out hnz.out (by omega) (by rw[hml.out];exact hrs) hN).mono ?_;rintro e w4 ⟨B,cb,es,rfl,hfl,hqe,b4⟩;have b04:=b03.trans (b4.mono b03.size);have ba:=(Below.refl w4.heap.size w4).alloc (Nat.le_refl _) (.cells #[.int .i64 (k:Int)] 3);have hIa:=(hI3.below b4).below ba
             go_wp2_with (at_builtin;go_loud (refine wpList_appI rfl Try.underlying97 rfl _ _ rfl w.heap.size (.slice L is.length cl) is rfl hIa ⟨w4.heap.size,0,none⟩ 1 k rfl ((Blk.new w4 3 #[.int .i64 (k:Int)]).cell 0) (by omega) (Nat.le_trans b04.size ba.size) ?_;intro v6 w6 ho6 hg6))
             have hfl6:=(hfl.below ba).ownI hIa hg6;have b06:=(b04.alloc b04.size (.cells #[.int .i64 (k:Int)] 3)).grown hg6 (Nat.le_trans b04.size ba.size) fun g hg=>OwnG.block hIa hg;have hq6:=Lib.hid (show qsM es=(reduceL M (k+1)).1 by rw[hstep.out,hqe.out,hmv.out,←his.out]);have hi6:=Lib.hid (show is++[k]=(reduceL M (k+1)).2 by rw[hstep.out,←his.out]);clear hg6;go_wp2;go_roundw
             case rel=>exact⟨k+1,B,cb,es,is++[k],by omega,by go_num,rfl,hfl6,hq6,hi6,ho6,b06⟩
             case measure=>simp[intOf];omega
           · have hne2:((t:Int) != (is.length:Int))=true:=by simp;omega
             have htlt:is.length<t:=by omega
             have hpt:(is.length:Int)≤(t:Int):=by omega
             have hpc:(is.length:Int)≤(c:Int):=by omega
             have ba:=(Below.refl w3.heap.size w3).alloc (Nat.le_refl _) (.cells #[] 22);have hE:=OwnM.empty w3 (Nat.le_refl _)
             by_cases hct:c=t+1
             · obtain rfl:=hct
               go_wp2_with (at_builtin;first
                | (refine wpList_appMs rfl Try.underlying118 rfl _ _ rfl w3.heap.size (.slice (some ⟨w3.heap.size,0,none⟩) 0 0) [] rfl hE a' is.length _ (rs.take is.length) (by simp;omega) rfl (fun j r hj=>(h3.below ba).cellAt (by rw[List.getElem?_take] at hj;split at hj;exact hj;cases hj)) (by simp;omega) (by simp) ?_;intro vA wA hoA hgA;have ch1:ChAt w3 (rs.take is.length) vA wA:=ChAt.app (ws:=w3) (rows:=[]) ⟨hE,ba⟩ hoA hgA;have cA:wA.cell? (a'.add t)=some (.slice r.a r.ds.length r.c):=(h3.below ch1.2).cellAt hrk.out;have baA:=(Below.refl wA.heap.size wA).alloc (Nat.le_refl _) (.cells #[.slice r.a r.ds.length r.c] 22);have ch1a:=ch1.below baA;clear hoA hgA ch1 baA)
                | (refine wpList_appM rfl Try.underlying118 rfl _ _ rfl w3.heap.size vA (rs.take is.length) rfl ch1a.1 ⟨wA.heap.size,0,none⟩ 1 r rfl (row_cell wA r) (by simp;omega) ch1a.2.size ?_;intro vB wB hoB hgB;have ch2:=ch1a.app hoB hgB;clear hoB hgB ch1a cA)
                | (refine wpList_appMs rfl Try.underlying118 rfl _ _ rfl w3.heap.size vB _ rfl ch2.1 (a'.add is.length) (t-is.length) _ ((rs.drop is.length).take (t-is.length)) (by simp;omega) rfl (fun j r hj=>by rw[Addr.add_add];exact (h3.below ch2.2).cellAt (by rw[List.getElem?_take] at hj;split at hj;rwa [List.getElem?_drop] at hj;cases hj)) (by simp;omega) ch2.2.size ?_;intro vC wC hoC hgC;have ch3:=ch2.app hoC hgC;clear hoC hgC ch2)
                | (refine wpList_appMs rfl Try.underlying118 rfl _ _ rfl w3.heap.size vC _ rfl ch3.1 a' _ _ (rs.drop (t+1)) (by first | (rw[List.length_drop];omega) | simp) rfl (fun j r hj=>by rw[List.getElem?_drop,List.getElem?_eq_none (by omega)] at hj;cases hj) (by simp;omega) ch3.2.size ?_;intro vD wD hoD hgD;have ch4:=ch3.app hoD hgD;clear hoD hgD ch3))
               obtain⟨rs4,hr4⟩:∃ x,Hid (((rs.take is.length++[r])++(rs.drop is.length).take (t-is.length))++rs.drop (t+1)=x):=⟨_,rfl⟩;rw[hr4.out] at ch4
               obtain⟨A4,c4,rfl,hM4⟩:=ch4.1.ml (fun x hx=>(h3.fl x (by
                rw[←hr4.out] at hx
                simp only[List.mem_append,List.mem_singleton] at hx
                rcases hx with ((hx | rfl) | hx) | hx
                · exact List.mem_of_mem_take hx
                · exact List.mem_of_getElem? hrk.out
                · exact List.mem_of_mem_drop (List.mem_of_mem_take hx)
                · exact List.mem_of_mem_drop hx)).below ch4.2)
               have hmv:=Lib.hid (show qsM rs4=moveUp (reduceL M k).1 is.length t by
                rw[←hr4.out,←hq.out];unfold moveUp
                have e:(qsM rs).getD t []=r.qs:=by
                 unfold qsM;rw[List.getD_eq_getElem?_getD,List.getElem?_map,hrk.out];rfl
                rw[e]
                simp[qsM,List.map_take,List.map_drop])
               have hI4:=hI3.below ch4.2;have b24:=b03.trans (ch4.2.mono b03.size);have hml4:=hM4.len;have hstep:=Lib.hid (reduceL_step (M:=M) (k:=k) (t:=t) (by rw[←hq.out,←his.out,hQl.out];exact hil) hfind.out (by rw[←hq.out,hQl.out];exact htl));have hml:=Lib.hid (show rs4.length=rs.length by rw[←qsM_len,hmv.out,moveUp_length ht1 (by rw[←hq.out,hQl.out];exact htl),←hq.out,hQl.out]);have hgK:=gK_mono K hk;have hrm:=Lib.hid (show rect (qsM rs4) N by rw[hmv.out];exact moveUp_rect hred.out.rct (by rw[←hq.out,hQl.out];exact htl));have hfm2:=Lib.hid (show MFits (gK K k) (qsM rs4) by rw[hmv.out];exact moveUp_fits hfk.out (by rw[←hq.out,hQl.out];exact htl))
               have hnz:=Lib.hid (show fn (qsM rs4) is.length k≠0 by
                rw[hmv.out];unfold fn;rw[moveUp_get ht1 (by rw[←hq.out,hQl.out];exact htl) (by rw[←hq.out,hQl.out];exact hil)];have h5:=findRow_ne (M:=(reduceL M k).1) (col:=k) (row:=(reduceL M k).2.length) (by rw[hfind.out,←hq.out,hQl.out];exact htl);rw[hfind.out] at h5;unfold fn at h5;have e5:upS is.length t is.length=t:=by unfold upS;simp
                rw[e5];exact h5)
               refine (pivot_any (K:=gK K k) (p:=is.length) (j:=k) (n:=N) hM4 hrm.out (by rw[hml.out];exact hil) (by omega) hfm2.out hnz.out (by omega) (by rw[hml.out];exact hrs) hN).mono ?_;rintro e w4 ⟨B,cb,es,rfl,hfl,hqe,b4⟩;have b04:=b24.trans (b4.mono b24.size);have ba:=(Below.refl w4.heap.size w4).alloc (Nat.le_refl _) (.cells #[.int .i64 (k:Int)] 3);have hIa:=(hI4.below b4).below ba
               go_wp2_with (at_builtin;go_loud (refine wpList_appI rfl Try.underlying97 rfl _ _ rfl w.heap.size (.slice L is.length cl) is rfl hIa ⟨w4.heap.size,0,none⟩ 1 k rfl ((Blk.new w4 3 #[.int .i64 (k:Int)]).cell 0) (by omega) (Nat.le_trans b04.size ba.size) ?_;intro v6 w6 ho6 hg6))
               have hfl6:=(hfl.below ba).ownI hIa hg6;have b06:=(b04.alloc b04.size (.cells #[.int .i64 (k:Int)] 3)).grown hg6 (Nat.le_trans b04.size ba.size) fun g hg=>OwnG.block hIa hg;have hq6:=Lib.hid (show qsM es=(reduceL M (k+1)).1 by rw[hstep.out,hqe.out,hmv.out,←his.out]);have hi6:=Lib.hid (show is++[k]=(reduceL M (k+1)).2 by rw[hstep.out,←his.out]);clear hg6;go_wp2;go_roundw
               case rel=>exact⟨k+1,B,cb,es,is++[k],by omega,by go_num,rfl,hfl6,hq6,hi6,ho6,b06⟩
               case measure=>simp[intOf];omega
             · have hct':¬ (c=t+1):=hct
               go_wp2_with (at_builtin;first
                | (refine wpList_appMs rfl Try.underlying118 rfl _ _ rfl w3.heap.size (.slice (some ⟨w3.heap.size,0,none⟩) 0 0) [] rfl hE a' is.length _ (rs.take is.length) (by simp;omega) rfl (fun j r hj=>(h3.below ba).cellAt (by rw[List.getElem?_take] at hj;split at hj;exact hj;cases hj)) (by simp;omega) (by simp) ?_;intro vA wA hoA hgA;have ch1:ChAt w3 (rs.take is.length) vA wA:=ChAt.app (ws:=w3) (rows:=[]) ⟨hE,ba⟩ hoA hgA;have cA:wA.cell? (a'.add t)=some (.slice r.a r.ds.length r.c):=(h3.below ch1.2).cellAt hrk.out;have baA:=(Below.refl wA.heap.size wA).alloc (Nat.le_refl _) (.cells #[.slice r.a r.ds.length r.c] 22);have ch1a:=ch1.below baA;clear hoA hgA ch1 baA)
                | (refine wpList_appM rfl Try.underlying118 rfl _ _ rfl w3.heap.size vA (rs.take is.length) rfl ch1a.1 ⟨wA.heap.size,0,none⟩ 1 r rfl (row_cell wA r) (by simp;omega) ch1a.2.size ?_;intro vB wB hoB hgB;have ch2:=ch1a.app hoB hgB;clear hoB hgB ch1a cA)
                | (refine wpList_appMs rfl Try.underlying118 rfl _ _ rfl w3.heap.size vB _ rfl ch2.1 (a'.add is.length) (t-is.length) _ ((rs.drop is.length).take (t-is.length)) (by simp;omega) rfl (fun j r hj=>by rw[Addr.add_add];exact (h3.below ch2.2).cellAt (by rw[List.getElem?_take] at hj;split at hj;rwa [List.getElem?_drop] at hj;cases hj)) (by simp;omega) ch2.2.size ?_;intro vC wC hoC hgC;have ch3:=ch2.app hoC hgC;clear hoC hgC ch2)
                | (refine wpList_appMs rfl Try.underlying118 rfl _ _ rfl w3.heap.size vC _ rfl ch3.1 (a'.add (t+1)) (rs.length-(t+1)) _ (rs.drop (t+1)) (by simp) rfl (fun j r hj=>by rw[Addr.add_add];exact (h3.below ch3.2).cellAt (by rwa [List.getElem?_drop] at hj)) (by simp;omega) ch3.2.size ?_;intro vD wD hoD hgD;have ch4:=ch3.app hoD hgD;clear hoD hgD ch3))
               obtain⟨rs4,hr4⟩:∃ x,Hid (((rs.take is.length++[r])++(rs.drop is.length).take (t-is.length))++rs.drop (t+1)=x):=⟨_,rfl⟩;rw[hr4.out] at ch4
               obtain⟨A4,c4,rfl,hM4⟩:=ch4.1.ml (fun x hx=>(h3.fl x (by
                rw[←hr4.out] at hx
                simp only[List.mem_append,List.mem_singleton] at hx
                rcases hx with ((hx | rfl) | hx) | hx
                · exact List.mem_of_mem_take hx
                · exact List.mem_of_getElem? hrk.out
                · exact List.mem_of_mem_drop (List.mem_of_mem_take hx)
                · exact List.mem_of_mem_drop hx)).below ch4.2)
               have hmv:=Lib.hid (show qsM rs4=moveUp (reduceL M k).1 is.length t by
                rw[←hr4.out,←hq.out];unfold moveUp
                have e:(qsM rs).getD t []=r.qs:=by
                 unfold qsM;rw[List.getD_eq_getElem?_getD,List.getElem?_map,hrk.out];rfl
                rw[e]
                simp[qsM,List.map_take,List.map_drop])
               have hI4:=hI3.below ch4.2;have b24:=b03.trans (ch4.2.mono b03.size);have hml4:=hM4.len;have hstep:=Lib.hid (reduceL_step (M:=M) (k:=k) (t:=t) (by rw[←hq.out,←his.out,hQl.out];exact hil) hfind.out (by rw[←hq.out,hQl.out];exact htl));have hml:=Lib.hid (show rs4.length=rs.length by rw[←qsM_len,hmv.out,moveUp_length ht1 (by rw[←hq.out,hQl.out];exact htl),←hq.out,hQl.out]);have hgK:=gK_mono K hk;have hrm:=Lib.hid (show rect (qsM rs4) N by rw[hmv.out];exact moveUp_rect hred.out.rct (by rw[←hq.out,hQl.out];exact htl));have hfm2:=Lib.hid (show MFits (gK K k) (qsM rs4) by rw[hmv.out];exact moveUp_fits hfk.out (by rw[←hq.out,hQl.out];exact htl))
               have hnz:=Lib.hid (show fn (qsM rs4) is.length k≠0 by
                rw[hmv.out];unfold fn;rw[moveUp_get ht1 (by rw[←hq.out,hQl.out];exact htl) (by rw[←hq.out,hQl.out];exact hil)];have h5:=findRow_ne (M:=(reduceL M k).1) (col:=k) (row:=(reduceL M k).2.length) (by rw[hfind.out,←hq.out,hQl.out];exact htl);rw[hfind.out] at h5;unfold fn at h5;have e5:upS is.length t is.length=t:=by unfold upS;simp
                rw[e5];exact h5)
               refine (pivot_any (K:=gK K k) (p:=is.length) (j:=k) (n:=N) hM4 hrm.out (by rw[hml.out];exact hil) (by omega) hfm2.out hnz.out (by omega) (by rw[hml.out];exact hrs) hN).mono ?_;rintro e w4 ⟨B,cb,es,rfl,hfl,hqe,b4⟩;have b04:=b24.trans (b4.mono b24.size);have ba:=(Below.refl w4.heap.size w4).alloc (Nat.le_refl _) (.cells #[.int .i64 (k:Int)] 3);have hIa:=(hI4.below b4).below ba
               go_wp2_with (at_builtin;go_loud (refine wpList_appI rfl Try.underlying97 rfl _ _ rfl w.heap.size (.slice L is.length cl) is rfl hIa ⟨w4.heap.size,0,none⟩ 1 k rfl ((Blk.new w4 3 #[.int .i64 (k:Int)]).cell 0) (by omega) (Nat.le_trans b04.size ba.size) ?_;intro v6 w6 ho6 hg6))
               have hfl6:=(hfl.below ba).ownI hIa hg6;have b06:=(b04.alloc b04.size (.cells #[.int .i64 (k:Int)] 3)).grown hg6 (Nat.le_trans b04.size ba.size) fun g hg=>OwnG.block hIa hg;have hq6:=Lib.hid (show qsM es=(reduceL M (k+1)).1 by rw[hstep.out,hqe.out,hmv.out,←his.out]);have hi6:=Lib.hid (show is++[k]=(reduceL M (k+1)).2 by rw[hstep.out,←his.out]);clear hg6;go_wp2;go_roundw
               case rel=>exact⟨k+1,B,cb,es,is++[k],by omega,by go_num,rfl,hfl6,hq6,hi6,ho6,b06⟩
               case measure=>simp[intOf];omega
       · obtain rfl:t=rs.length:=by omega
         have hlt':decide ((rs.length:Int)<(rs.length:Int))=false:=decide_eq_false (by omega);have heq:((rs.length:Int) == (rs.length:Int))=true:=by simp
         have hno:=Lib.hid (reduceL_skip (M:=M) (k:=k) (by rw[←hq.out,←his.out];exact findRow_no (by rw[hQl.out];exact hz.out)));go_wp2
         trace_state
         go_roundw
         case rel=>exact⟨k+1,_,c,rs,is,by omega,by go_num,rfl,h1.below b2,by rw[hno.out];exact hq,by rw[hno.out];exact his,hI.below b2,hbw⟩
         case measure=>simp[intOf];omega
    · have hili:decide ((is.length:Int)<(rs.length:Int))=false:=decide_eq_false (by omega);have hki':decide ((k:Int)<(n:Int))=true:=decide_eq_true hki
      have hst:=Lib.hid (show reduceL M k=R by
       rw[←hR.out];have:=reduceL_stop (M:=M) (k:=k) (by rw[←hq.out,←his.out,qsM_len];exact hil) (n-k);rw[←this];congr 1;omega)
      obtain⟨L',cl',eL,hL⟩:=hI.il
      injection eL with e1 e2 e3
      subst e1 e3;go_wp2
      go_ret2
      exact⟨A,c,rs,L,cl,by rw[←hst.out,←his.out];rfl,h1,by rw[←hst.out];exact hq,by rw[←hst.out,←his.out];exact hL,hb⟩
  · obtain rfl:k=n:=by omega
    have hlt':decide ((k:Int)<(k:Int))=false:=decide_eq_false (by omega);obtain⟨L',cl',eL,hL⟩:=hI.il
    injection eL with e1 e2 e3
    subst e1 e3;go_wp2
    go_ret2
    exact⟨A,c,rs,L,cl,by rw[←hR.out,←his.out];rfl,h1,by rw[←hR.out];exact hq,by rw[←hR.out,←his.out];exact hL,hb⟩
end Go.Proofs.Ytjhkapjadfpimaa
namespace Go.Proofs.Ytjhkapjadfpimaa
set_option linter.unusedVariables false
set_option linter.unusedSimpArgs false
open Go.RowKit Plain
def putAll (ps:List (Nat × Nat)) (f:Nat→Rat) (qs:List Rat):List Rat:=ps.foldl (fun qs p=>qs.set p.1 (f p.2)) qs
theorem putAll_length (ps:List (Nat × Nat)) (f:Nat→Rat):∀ qs,(putAll ps f qs).length=qs.length:=by
 induction ps with
 | nil=>intro qs;rfl
 | cons p ps ih=>intro qs;show (putAll ps f (qs.set p.1 (f p.2))).length=_;rw[ih,List.length_set]
theorem putAll_get (ps:List (Nat × Nat)) (f:Nat→Rat) (k:Nat) (hc:ps.Pairwise fun p q=>p.1<q.1):∀ qs:List Rat,(∀ p∈ps,p.1<qs.length) →
 (putAll ps f qs).getD k 0=if ∃ p∈ps,p.1=k then xval ps f k else qs.getD k 0:=by
 induction ps with
 | nil=>intro qs _;rw[if_neg (by simp)];rfl
 | cons p ps ih =>
  intro qs hl;obtain⟨h1,h2⟩:=List.pairwise_cons.1 hc
  show (putAll ps f (qs.set p.1 (f p.2))).getD k 0=_
  rw[ih h2 _ (fun q hq=>by rw[List.length_set];exact hl q (List.mem_cons_of_mem _ hq))]
  by_cases e:p.1=k
  · rw[if_neg (by rintro ⟨q,hq,rfl⟩;have:=h1 q hq;omega),if_pos ⟨p,List.mem_cons_self,e⟩];have hp:=hl p List.mem_cons_self;unfold xval;rw[if_pos e,List.getD_eq_getElem?_getD,List.getElem?_set,if_pos e,if_pos hp];rfl
  · by_cases h3:∃ q∈ps,q.1=k
    · obtain⟨q,hq,e2⟩:=h3;rw[if_pos ⟨q,hq,e2⟩,if_pos ⟨q,List.mem_cons_of_mem _ hq,e2⟩]
      show _=if p.1=k then _ else _
      rw[if_neg e]
    · rw[if_neg h3,if_neg (by
       rintro ⟨q,hq,e2⟩
       rcases List.mem_cons.1 hq with rfl | hq
       · exact e e2
       · exact h3 ⟨q,hq,e2⟩),List.getD_eq_getElem?_getD,List.getElem?_set,if_neg e,←List.getD_eq_getElem?_getD]
theorem putAll_step {ps:List (Nat × Nat)}{f:Nat→Rat}{qs:List Rat}{i:Nat}{p:Nat × Nat}(h:ps[i]?=some p):putAll (ps.take (i+1)) f qs=(putAll (ps.take i) f qs).set p.1 (f p.2):=by
 unfold putAll;rw[List.take_add_one,h,List.foldl_append];rfl
theorem zipIdx_at {is:List Nat}{i x:Nat}(h:is[i]?=some x):is.zipIdx[i]?=some (x,i):=by
 rw[List.getElem?_zipIdx,h];simp
theorem rat_ext {a b:List Rat}(hl:a.length=b.length) (h:∀ k,k<a.length→a.getD k 0=b.getD k 0):a=b:=by
 refine List.ext_getElem hl fun k h1 h2=>?_;have:=h k h1;rw[List.getD_eq_getElem?_getD,List.getD_eq_getElem?_getD,List.getElem?_eq_getElem h1,List.getElem?_eq_getElem h2] at this;exact this
theorem putAll_out {m c:Nat}{R:Nat→Nat→Rat}{ps:List (Nat × Nat)}(h:Red m c R ps) (f:Nat→Rat){n:Nat}(hn:c≤n):putAll ps f (List.replicate n 0)=outL n ps f:=by
 refine rat_ext (by rw[putAll_length,outL_length,List.length_replicate]) fun k hk=>?_;rw[putAll_length,List.length_replicate] at hk;rw[putAll_get ps f k h.col _ (fun p hp=>by rw[List.length_replicate];have:=(h.lt p hp).1;omega),outL_get hk]
 by_cases e:∃ p∈ps,p.1=k
 · rw[if_pos e]
 · rw[if_neg e,xval_none (fun p hp e2=>e ⟨p,hp,e2⟩),List.getD_eq_getElem?_getD,List.getElem?_replicate,if_pos hk];rfl
def ColAt (g:Nat) (T:List Rat) (root w:World):Prop:=∃ ds:List FrD,ArrQ w g ds∧(∀ d∈ds,FV w d.v d.q)∧ds.map FrD.q=T∧Below root.heap.size root w
theorem ColAt.bel {g:Nat}{T:List Rat}{root w:World}(h:ColAt g T root w):Below root.heap.size root w:=by
 obtain⟨ds,h1,h2,h3,h4⟩:=h;exact h4
theorem ColAt.store {g k:Nat}{T:List Rat}{root w:World}(h:ColAt g T root w) (hk:k<T.length) (hg:root.heap.size≤g){n1:Bool}{A1:Option Addr}{a1:Nat}{l1:List Nat}{B1:Option Addr}{c1:Nat}{m1:List Nat}(na:Nv w A1 a1 l1) (nb:Nv w B1 c1 m1){q:Rat}(iq:QIs n1 l1 m1 q) :
 ∃ (u0 u1 u2:Value) (w9:World),w.cell? ⟨g,k*3,none⟩=some u0∧w.cell? ⟨g,k*3+1,none⟩=some u1∧w.cell? ⟨g,k*3+2,none⟩=some u2∧w.frozen? ⟨g,k*3,none⟩=false∧w.frozen? ⟨g,k*3+1,none⟩=false∧w.frozen? ⟨g,k*3+2,none⟩=false ∧
  ((w.setCell ⟨g,k*3,none⟩ (.bool n1)).setCell ⟨g,k*3+1,none⟩ (.slice A1 l1.length a1)).setCell ⟨g,k*3+2,none⟩ (.slice B1 m1.length c1)=w9∧ColAt g (T.set k q) root w9:=by
 obtain⟨ds,h1,h2,h3,h4⟩:=h;have hkd:k<ds.length:=by rw[←List.length_map (f:=FrD.q),h3];exact hk
 have hd0:=List.getElem?_eq_getElem hkd;obtain⟨w9,e9,hA9,o9⟩:=h1.set hkd ⟨n1,A1,a1,l1,B1,c1,m1⟩
 have hq0:FrD.q ⟨n1,A1,a1,l1,B1,c1,m1⟩=q:=by
  show mkRat (sg n1 (val l1)) (val m1)=q
  rw[←iq.mk]
 refine⟨_,_,_,w9,h1.cell (i:=0) hd0 rfl,h1.cell (i:=1) hd0 rfl,h1.cell (i:=2) hd0 rfl,Blk.free h1 _,Blk.free h1 _,Blk.free h1 _,e9,_,hA9,fun d hd=>?_,?_,o9.to_below h4 hg h4.size⟩
 · rcases List.mem_or_eq_of_mem_set hd with hd | rfl
   · exact (h2 d hd).only_blk h1 (ArrQ.noDig ds) o9
   · rw[hq0];have hf:FV w (FrD.v ⟨n1,A1,a1,l1,B1,c1,m1⟩) q:=⟨n1,A1,a1,l1,B1,c1,m1,rfl,na,nb,iq⟩;exact hf.only_blk h1 (ArrQ.noDig ds) o9
 · rw[List.map_set,h3,hq0]
theorem ColAt.done {g:Nat}{T:List Rat}{root w:World}(h:ColAt g T root w) (hm:T.length≤9223372036854775807):∃ ds:List FrD,ds.length=T.length∧FL w (some ⟨g,0,none⟩) ds.length ds∧Hid (ds.map FrD.q=T):=by
 obtain⟨ds,h1,h2,h3,h4⟩:=h;have hl:ds.length=T.length:=by rw[←List.length_map (f:=FrD.q),h3]
 exact⟨ds,hl,h1.fl h2 (by omega),h3⟩
end Go.Proofs.Ytjhkapjadfpimaa
namespace Go.Proofs.Ytjhkapjadfpimaa
set_option linter.unusedVariables false
set_option linter.unusedSimpArgs false
open Go.RowKit Plain
attribute [local go_sem ↓] Go.wp_at_zero Go.wp_at_succ
theorem made_one (z:Value) (n:Nat):madeCells #[z] (n*1)=(List.replicate n z).toArray:=by
 apply Array.ext'
 apply List.ext_getElem?
 intro i;rw[Array.getElem?_toList]
 by_cases hi:i<n
 · have hs:i<(madeCells #[z] (n*1)).size:=by rw[size_madeCells];omega
   rw[Array.getElem?_eq_getElem hs]
   simp only[madeCells,Array.getElem_map,Array.getElem_range]
   have hz:(#[z]:Array Value).size=1:=rfl;rw[hz,Nat.mod_one]
   simp[hi]
 · rw[Array.getElem?_eq_none (by rw[size_madeCells];omega)]
   simp;omega
def IsZ (u:Value):Prop:=∃ z,u=.int .i64 z
section
variable {w w':World}{g:Nat}
end
end Go.Proofs.Ytjhkapjadfpimaa
