/- Contracts of functions, for the law. -/
import Derived.Test.YtjhkapjadfpimaaGreatMPivot
namespace Go.Proofs.YtjhkapjadfpimaaGreat
set_option linter.unusedVariables false
set_option linter.unusedSimpArgs false
open Go.RowKit Plain
attribute [local go_sem ↓] Go.wp_at_zero Go.wp_at_succ
set_option maxRecDepth 100000
set_option maxHeartbeats 40000000
theorem pO {M:C4}{k:Nat}(h:¬ (reduceL M k).2.length<(reduceL M k).1.length):∀ n,reduceL M (k+n)=reduceL M k:=by
 intro n
 induction n with
 | zero=>rfl
 | succ n ih =>
  rw[←Nat.add_assoc,O5,ih];unfold Z9;rw[if_neg h]
theorem pP {M:C4}{k:Nat}(h:¬ H6 (reduceL M k).1 k (reduceL M k).2.length<(reduceL M k).1.length):reduceL M (k+1)=reduceL M k:=by
 rw[O5];unfold Z9;rw[if_neg h,ite_self]
theorem Z7 {M:C4}{k t:Nat}(h1:(reduceL M k).2.length<(reduceL M k).1.length) (ht:H6 (reduceL M k).1 k (reduceL M k).2.length=t) (h2:t<(reduceL M k).1.length) :
 reduceL M (k+1)=(O0 (G7 (reduceL M k).1 (reduceL M k).2.length t) (reduceL M k).2.length k,(reduceL M k).2++[k]):=by
 rw[O5];unfold Z9;rw[if_pos h1,ht,if_pos h2]
theorem vL {M:C4}{col row t:Nat}(h1:row≤t) (h2:t<M.length) (h3:∀ i,row≤i→i<t→fn M i col=0) (h4:fn M t col≠0):H6 M col row=t:=by
 rcases Nat.lt_trichotomy (H6 M col row) t with h | h | h
 · exact absurd (h3 _ (U8 _ _ _) h) (Q5 (by omega))
 · exact h
 · exact absurd (fY h1 h h2) h4
theorem vK {M:C4}{col row:Nat}(h3:∀ i,row≤i→i<M.length→fn M i col=0):¬ H6 M col row<M.length:=fun h=>Q5 h (h3 _ (U8 _ _ _) h)
def RedInv (M:C4) (n:Nat) (root:World) (m l i:Value) (wr:World):Prop :=
 ∃ (k:Nat) (A:Option Addr) (c:Nat) (rows:List RwD) (is:List Nat),k≤n∧i=.int .i64 (k:Int)∧m=.slice A rows.length c∧ML wr A c rows∧Hid (B9 rows=(reduceL M k).1)∧Hid (is=(reduceL M k).2)∧OwnI wr root.heap.size l is∧Below root.heap.size root wr
def FindInv (Q:C4) (col row:Nat) (root:World) (i:Value) (wr:World):Prop :=
 ∃ t:Nat,row≤t∧t≤Q.length∧i=.int .i64 (t:Int)∧Hid (∀ i,row≤i→i<t→fn Q i col=0)∧Below root.heap.size root wr
def RetRed (S:C4 × List Nat) (W:World) (e:Ending) (w':World):Prop :=
 ∃ A c rows L cl,e=.returned (.tuple #[.slice A rows.length c,.slice L S.2.length cl])∧ML w' A c rows∧Hid (B9 rows=S.1)∧ILs w' L cl S.2∧Below W.heap.size W w'
theorem uP {K N n:Nat}{A:Option Addr}{c:Nat}{rows:List RwD}{w:World}(h:ML w A c rows) (hr:E9 (B9 rows) N) (hn:n≤N) (hfm:MFits K (B9 rows)) (hK:4*gK K n+1<400000000) (hrn:rows.length<1000000000) (hN:N<1000000000) :
 Calls Tryz.prog 103 #[.slice A rows.length c,.int .i64 (n:Int)] w (RetRed (reduceL (B9 rows) n) w):=by
 obtain⟨M,hM⟩:∃ M,Hid (B9 rows=M):=⟨_,rfl⟩;rw[hM.out] at hr hfm ⊢;have f9:=a1k hr;have g5:=a1k hfm;have g6:=a1k (show M.length=rows.length by rw[←hM.out,p8]);obtain⟨R,hR⟩:∃ R,Hid (reduceL M n=R):=⟨_,rfl⟩;rw[hR.out];clear hr hfm;go_enter Tryz.func103,Tryz.ntmps103;go_wp2
 go_loopw [0,6,7] (fun m l i wr=>RedInv M n w m l i wr) (fun _ _ i _=>n-(intOf i).toNat)
 case atStart=>exact⟨0,A,c,rows,[],by omega,rfl,rfl,h,hM,rfl,OwnI.nil _ _,a3t _ _⟩
 case round =>
  obtain⟨k,A,c,rs,is,hk,rfl,rfl,h1,hq,v,hI,hb⟩:=hrel;obtain⟨L,cl,rfl,j3,k0⟩:=hI.form;have T:=a1k (L3 f9.out k (by omega));have f2:=a1k (Z8 g5.out f9.out k (by omega));have g4:=a1k (show rs.length=rows.length by rw[←p8,hq.out,T.out.len,g6.out]);have k2:=h1.len
  by_cases hkl:k<n
  · have j1:(k:Int)<(n:Int):=by omega
    by_cases hil:is.length<rs.length
    · have g0:(is.length:Int)<(rs.length:Int):=by omega
      have f3:rs.length<1000000000:=by rw[g4.out];exact hrn
      have j0:=a1k (show ∀ r∈rs,r.ds.length=N from fun r hr=>by
       have:=T.out.rct r.qs (by rw[←hq.out];exact a2v.2 ⟨r,hr,rfl⟩);rw[a4l] at this;exact this)
      obtain⟨a0,r0,rfl,-⟩:=h1.at (k:=0) (by omega);have f:=a1k (show (B9 rs).length=rs.length from p8 rs);go_wp2
      go_loopw [9] (fun i w'=>FindInv (B9 rs) k is.length wr i w') (fun i _=>rs.length-(intOf i).toNat)
      case atStart=>exact⟨is.length,a1u _,by rw[f.out];omega,rfl,fun i h1 h2=>by omega,a3t _ _⟩
      case round =>
       obtain⟨t,Z,h9,rfl,hz,b2⟩:=hrel;rw[f.out] at h9;have h7:=a1j hb b2
       by_cases htl:t<rs.length
       · have l7:(t:Int)<(rs.length:Int):=by omega
         obtain⟨a',r,ea,k4,h6,d7,U⟩:=(h1.below b2).at htl;have g7:a'=a0:=by injection ea with e;exact e.symm
         subst g7;clear ea;have l0:=d7.len;have h4:k<r.ds.length:=by rw[j0.out r (a1n U.out)];omega
         obtain⟨b,d,eb,l2,k5,l6,l4,h0,g8⟩:=d7.at h4
         have f5:=a1k (show fn (B9 rs) t k=d.q by
          unfold fn B9;rw[a1l (l:=rs.map _),a1r,U.out]
          show (r.ds.map FrD.q).getD k 0=_
          rw[a1l,a1r,g8.out];rfl)
         rw[eb] at h6;clear d7 eb;have k1:(k:Int)<(r.ds.length:Int):=by omega
         go_wp2_with fail;refine (F4 h0).mono ?_;rintro e w3 ⟨rfl,b3⟩;have d5:=a1j b2 b3;have d6:=a1j hb d5
         by_cases hzd:d.q=0
         · have hs:Hid (D0 d.q 0=0):=cmpR_zero.2 hzd;rw[hs.out]
           have g9:=a1k (show ∀ i,is.length≤i→i<t+1→fn (B9 rs) i k=0 from fun i h1 h2=>by
            rcases a3h i t with h | h
            · exact hz.out i h1 h
            · rw[show i=t by omega,f5.out];exact hzd)
           clear hzd;go_wp2;go_roundw
           case rel=>exact⟨t+1,by omega,by rw[f.out];omega,by go_num,g9,d5⟩
           case measure=>simp[intOf];omega
         · obtain⟨s,hs⟩:∃ s,Hid (D0 d.q 0=s):=⟨_,rfl⟩;have l5:(s == 0)=false:=by rw[beq_eq_false_iff_ne];intro e;exact hzd (cmpR_zero.1 (by rw[hs.out];exact e))
           rw[hs.out]
           have o:=a1k (show H6 (reduceL M k).1 k (reduceL M k).2.length=t by
            rw[←hq.out,←v.out];exact vL Z (by rw[f.out];exact htl) hz.out (by rw[f5.out];exact hzd))
           clear hzd;have k3:((t:Int) == (rs.length:Int))=false:=by rw[beq_eq_false_iff_ne];omega
           have h3:=h1.below d5;have d9:=hI.below d5
           by_cases htr:t=is.length
           · subst htr;have f4:((is.length:Int) != (is.length:Int))=false:=by simp
             have y:=a1k (show B9 rs=G7 (reduceL M k).1 is.length is.length by
              rw[sJ (by rw[←hq.out,f.out];exact hil)];exact hq.out)
             go_wp2_with fail;have z:=a1k (Z7 (M:=M) (k:=k) (t:=is.length) (by rw[←hq.out,←v.out,f.out];exact hil) o.out (by rw[←hq.out,f.out];exact htl));have O:=a1k (show rs.length=rs.length by rw[←p8,y.out,G0 Z (by rw[←hq.out,f.out];exact htl),←hq.out,f.out]);have g3:=W6 K hk;have c2:=a1k (show E9 (B9 rs) N by rw[y.out];exact R5 T.out.rct (by rw[←hq.out,f.out];exact htl));have X:=a1k (show MFits (gK K k) (B9 rs) by rw[y.out];exact W3 f2.out (by rw[←hq.out,f.out];exact htl))
             have b1:=a1k (show fn (B9 rs) is.length k≠0 by
              rw[y.out];unfold fn;rw[U4 Z (by rw[←hq.out,f.out];exact htl) (by rw[←hq.out,f.out];exact hil)];have h5:=Q5 (M:=(reduceL M k).1) (col:=k) (row:=(reduceL M k).2.length) (by rw[o.out,←hq.out,f.out];exact htl);rw[o.out] at h5;unfold fn at h5;have e5:qW is.length is.length is.length=is.length:=by unfold qW;simp
              rw[e5];exact h5)
             refine (hH (K:=gK K k) (p:=is.length) (j:=k) (n:=N) h3 c2.out (by rw[O.out];exact hil) (by omega) X.out b1.out (by omega) (by rw[O.out];exact f3) hN).mono ?_;rintro e w4 ⟨B,cb,es,rfl,c5,c3,b4⟩;have C:=a1j d6 b4;have ba:=(a3t w4.heap.size w4).alloc (a1u _) (.cells #[.int .i64 (k:Int)] 3);have H:=(d9.below b4).below ba
             go_wp2_with (at_builtin;go_loud (refine bH rfl Tryz.underlying72 rfl _ _ rfl w.heap.size (.slice L is.length cl) is rfl H ⟨w4.heap.size,0,none⟩ 1 k rfl ((a4h w4 3 #[.int .i64 (k:Int)]).cell 0) (by omega) (a1t C.size ba.size) ?_;intro v6 w6 d4 G))
             have V:=(c5.below ba).ownI H G;have b5:=(C.alloc C.size (.cells #[.int .i64 (k:Int)] 3)).grown G (a1t C.size ba.size) fun g hg=>a4o H hg;have c8:=a1k (show B9 es=(reduceL M (k+1)).1 by rw[z.out,c3.out,y.out,←v.out]);have b7:=a1k (show is++[k]=(reduceL M (k+1)).2 by rw[z.out,←v.out]);clear G;go_wp2;go_roundw
             case rel=>exact⟨k+1,B,cb,es,is++[k],by omega,by go_num,rfl,V,c8,b7,d4,b5⟩
             case measure=>simp[intOf];omega
           · have f4:((t:Int) != (is.length:Int))=true:=by simp;omega
             have j4:is.length<t:=by omega
             have k6:(is.length:Int)≤(t:Int):=by omega
             have l1:(is.length:Int)≤(c:Int):=by omega
             have ba:=(a3t w3.heap.size w3).alloc (a1u _) (.cells #[] 22);have hE:=OwnM.empty w3 (a1u _)
             by_cases hct:c=t+1
             · obtain rfl:=hct
               go_wp2_with (at_builtin;first
                | (refine L8 rfl Tryz.underlying129 rfl _ _ rfl w3.heap.size (.slice (some ⟨w3.heap.size,0,none⟩) 0 0) [] rfl hE a' is.length _ (rs.take is.length) (by simp;omega) rfl (fun j r hj=>(h3.below ba).cellAt (by rw[a2w] at hj;split at hj;exact hj;cases hj)) (by simp;omega) (by simp) ?_;intro vA wA c7 c9;have Y:ChAt w3 (rs.take is.length) vA wA:=ChAt.app (ws:=w3) (rows:=[]) ⟨hE,ba⟩ c7 c9;have cA:wA.cell? (a'.add t)=some (.slice r.a r.ds.length r.c):=(h3.below Y.2).cellAt U.out;have d2:=(a3t wA.heap.size wA).alloc (a1u _) (.cells #[.slice r.a r.ds.length r.c] 22);have D:=Y.below d2;clear c7 c9 Y d2)
                | (refine J1 rfl Tryz.underlying129 rfl _ _ rfl w3.heap.size vA (rs.take is.length) rfl D.1 ⟨wA.heap.size,0,none⟩ 1 r rfl (M6 wA r) (by simp;omega) D.2.size ?_;intro vB wB d0 d1;have I:=D.app d0 d1;clear d0 d1 D cA)
                | (refine L8 rfl Tryz.underlying129 rfl _ _ rfl w3.heap.size vB _ rfl I.1 (a'.add is.length) (t-is.length) _ ((rs.drop is.length).take (t-is.length)) (by simp;omega) rfl (fun j r hj=>by rw[Addr.add_add];exact (h3.below I.2).cellAt (by rw[a2w] at hj;split at hj;rwa [a2x] at hj;cases hj)) (by simp;omega) I.2.size ?_;intro vC wC c0 b8;have J:=I.app c0 b8;clear c0 b8 I)
                | (refine L8 rfl Tryz.underlying129 rfl _ _ rfl w3.heap.size vC _ rfl J.1 a' _ _ (rs.drop (t+1)) (by first | (rw[a2d];omega) | simp) rfl (fun j r hj=>by rw[a2x,a2j (by omega)] at hj;cases hj) (by simp;omega) J.2.size ?_;intro vD wD b6 b9;have F:=J.app b6 b9;clear b6 b9 J))
               obtain⟨E,b0⟩:∃ x,Hid (((rs.take is.length++[r])++(rs.drop is.length).take (t-is.length))++rs.drop (t+1)=x):=⟨_,rfl⟩;rw[b0.out] at F
               obtain⟨A4,c4,rfl,d3⟩:=F.1.ml (fun x hx=>(h3.fl x (by
                rw[←b0.out] at hx
                simp only[a3b,List.mem_singleton] at hx
                rcases hx with ((hx | rfl) | hx) | hx
                · exact a2k hx
                · exact a1n U.out
                · exact a2l (a2k hx)
                · exact a2l hx)).below F.2)
               have y:=a1k (show B9 E=G7 (reduceL M k).1 is.length t by
                rw[←b0.out,←hq.out];unfold G7
                have e:(B9 rs).getD t []=r.qs:=by
                 unfold B9;rw[a1l,a1r,U.out];rfl
                rw[e]
                simp[B9,a2f,a2g])
               have d8:=d9.below F.2;have f0:=a1j d6 F.2;have g1:=d3.len;have z:=a1k (Z7 (M:=M) (k:=k) (t:=t) (by rw[←hq.out,←v.out,f.out];exact hil) o.out (by rw[←hq.out,f.out];exact htl));have O:=a1k (show E.length=rs.length by rw[←p8,y.out,G0 Z (by rw[←hq.out,f.out];exact htl),←hq.out,f.out]);have g3:=W6 K hk;have c2:=a1k (show E9 (B9 E) N by rw[y.out];exact R5 T.out.rct (by rw[←hq.out,f.out];exact htl));have X:=a1k (show MFits (gK K k) (B9 E) by rw[y.out];exact W3 f2.out (by rw[←hq.out,f.out];exact htl))
               have b1:=a1k (show fn (B9 E) is.length k≠0 by
                rw[y.out];unfold fn;rw[U4 Z (by rw[←hq.out,f.out];exact htl) (by rw[←hq.out,f.out];exact hil)];have h5:=Q5 (M:=(reduceL M k).1) (col:=k) (row:=(reduceL M k).2.length) (by rw[o.out,←hq.out,f.out];exact htl);rw[o.out] at h5;unfold fn at h5;have e5:qW is.length t is.length=t:=by unfold qW;simp
                rw[e5];exact h5)
               refine (hH (K:=gK K k) (p:=is.length) (j:=k) (n:=N) d3 c2.out (by rw[O.out];exact hil) (by omega) X.out b1.out (by omega) (by rw[O.out];exact f3) hN).mono ?_;rintro e w4 ⟨B,cb,es,rfl,c5,c3,b4⟩;have C:=a1j f0 b4;have ba:=(a3t w4.heap.size w4).alloc (a1u _) (.cells #[.int .i64 (k:Int)] 3);have H:=(d8.below b4).below ba
               go_wp2_with (at_builtin;go_loud (refine bH rfl Tryz.underlying72 rfl _ _ rfl w.heap.size (.slice L is.length cl) is rfl H ⟨w4.heap.size,0,none⟩ 1 k rfl ((a4h w4 3 #[.int .i64 (k:Int)]).cell 0) (by omega) (a1t C.size ba.size) ?_;intro v6 w6 d4 G))
               have V:=(c5.below ba).ownI H G;have b5:=(C.alloc C.size (.cells #[.int .i64 (k:Int)] 3)).grown G (a1t C.size ba.size) fun g hg=>a4o H hg;have c8:=a1k (show B9 es=(reduceL M (k+1)).1 by rw[z.out,c3.out,y.out,←v.out]);have b7:=a1k (show is++[k]=(reduceL M (k+1)).2 by rw[z.out,←v.out]);clear G;go_wp2;go_roundw
               case rel=>exact⟨k+1,B,cb,es,is++[k],by omega,by go_num,rfl,V,c8,b7,d4,b5⟩
               case measure=>simp[intOf];omega
             · have j2:¬ (c=t+1):=hct
               go_wp2_with (at_builtin;first
                | (refine L8 rfl Tryz.underlying129 rfl _ _ rfl w3.heap.size (.slice (some ⟨w3.heap.size,0,none⟩) 0 0) [] rfl hE a' is.length _ (rs.take is.length) (by simp;omega) rfl (fun j r hj=>(h3.below ba).cellAt (by rw[a2w] at hj;split at hj;exact hj;cases hj)) (by simp;omega) (by simp) ?_;intro vA wA c7 c9;have Y:ChAt w3 (rs.take is.length) vA wA:=ChAt.app (ws:=w3) (rows:=[]) ⟨hE,ba⟩ c7 c9;have cA:wA.cell? (a'.add t)=some (.slice r.a r.ds.length r.c):=(h3.below Y.2).cellAt U.out;have d2:=(a3t wA.heap.size wA).alloc (a1u _) (.cells #[.slice r.a r.ds.length r.c] 22);have D:=Y.below d2;clear c7 c9 Y d2)
                | (refine J1 rfl Tryz.underlying129 rfl _ _ rfl w3.heap.size vA (rs.take is.length) rfl D.1 ⟨wA.heap.size,0,none⟩ 1 r rfl (M6 wA r) (by simp;omega) D.2.size ?_;intro vB wB d0 d1;have I:=D.app d0 d1;clear d0 d1 D cA)
                | (refine L8 rfl Tryz.underlying129 rfl _ _ rfl w3.heap.size vB _ rfl I.1 (a'.add is.length) (t-is.length) _ ((rs.drop is.length).take (t-is.length)) (by simp;omega) rfl (fun j r hj=>by rw[Addr.add_add];exact (h3.below I.2).cellAt (by rw[a2w] at hj;split at hj;rwa [a2x] at hj;cases hj)) (by simp;omega) I.2.size ?_;intro vC wC c0 b8;have J:=I.app c0 b8;clear c0 b8 I)
                | (refine L8 rfl Tryz.underlying129 rfl _ _ rfl w3.heap.size vC _ rfl J.1 (a'.add (t+1)) (rs.length-(t+1)) _ (rs.drop (t+1)) (by simp) rfl (fun j r hj=>by rw[Addr.add_add];exact (h3.below J.2).cellAt (by rwa [a2x] at hj)) (by simp;omega) J.2.size ?_;intro vD wD b6 b9;have F:=J.app b6 b9;clear b6 b9 J))
               obtain⟨E,b0⟩:∃ x,Hid (((rs.take is.length++[r])++(rs.drop is.length).take (t-is.length))++rs.drop (t+1)=x):=⟨_,rfl⟩;rw[b0.out] at F
               obtain⟨A4,c4,rfl,d3⟩:=F.1.ml (fun x hx=>(h3.fl x (by
                rw[←b0.out] at hx
                simp only[a3b,List.mem_singleton] at hx
                rcases hx with ((hx | rfl) | hx) | hx
                · exact a2k hx
                · exact a1n U.out
                · exact a2l (a2k hx)
                · exact a2l hx)).below F.2)
               have y:=a1k (show B9 E=G7 (reduceL M k).1 is.length t by
                rw[←b0.out,←hq.out];unfold G7
                have e:(B9 rs).getD t []=r.qs:=by
                 unfold B9;rw[a1l,a1r,U.out];rfl
                rw[e]
                simp[B9,a2f,a2g])
               have d8:=d9.below F.2;have f0:=a1j d6 F.2;have g1:=d3.len;have z:=a1k (Z7 (M:=M) (k:=k) (t:=t) (by rw[←hq.out,←v.out,f.out];exact hil) o.out (by rw[←hq.out,f.out];exact htl));have O:=a1k (show E.length=rs.length by rw[←p8,y.out,G0 Z (by rw[←hq.out,f.out];exact htl),←hq.out,f.out]);have g3:=W6 K hk;have c2:=a1k (show E9 (B9 E) N by rw[y.out];exact R5 T.out.rct (by rw[←hq.out,f.out];exact htl));have X:=a1k (show MFits (gK K k) (B9 E) by rw[y.out];exact W3 f2.out (by rw[←hq.out,f.out];exact htl))
               have b1:=a1k (show fn (B9 E) is.length k≠0 by
                rw[y.out];unfold fn;rw[U4 Z (by rw[←hq.out,f.out];exact htl) (by rw[←hq.out,f.out];exact hil)];have h5:=Q5 (M:=(reduceL M k).1) (col:=k) (row:=(reduceL M k).2.length) (by rw[o.out,←hq.out,f.out];exact htl);rw[o.out] at h5;unfold fn at h5;have e5:qW is.length t is.length=t:=by unfold qW;simp
                rw[e5];exact h5)
               refine (hH (K:=gK K k) (p:=is.length) (j:=k) (n:=N) d3 c2.out (by rw[O.out];exact hil) (by omega) X.out b1.out (by omega) (by rw[O.out];exact f3) hN).mono ?_;rintro e w4 ⟨B,cb,es,rfl,c5,c3,b4⟩;have C:=a1j f0 b4;have ba:=(a3t w4.heap.size w4).alloc (a1u _) (.cells #[.int .i64 (k:Int)] 3);have H:=(d8.below b4).below ba
               go_wp2_with (at_builtin;go_loud (refine bH rfl Tryz.underlying72 rfl _ _ rfl w.heap.size (.slice L is.length cl) is rfl H ⟨w4.heap.size,0,none⟩ 1 k rfl ((a4h w4 3 #[.int .i64 (k:Int)]).cell 0) (by omega) (a1t C.size ba.size) ?_;intro v6 w6 d4 G))
               have V:=(c5.below ba).ownI H G;have b5:=(C.alloc C.size (.cells #[.int .i64 (k:Int)] 3)).grown G (a1t C.size ba.size) fun g hg=>a4o H hg;have c8:=a1k (show B9 es=(reduceL M (k+1)).1 by rw[z.out,c3.out,y.out,←v.out]);have b7:=a1k (show is++[k]=(reduceL M (k+1)).2 by rw[z.out,←v.out]);clear G;go_wp2;go_roundw
               case rel=>exact⟨k+1,B,cb,es,is++[k],by omega,by go_num,rfl,V,c8,b7,d4,b5⟩
               case measure=>simp[intOf];omega
       · obtain rfl:t=rs.length:=by omega
         have f6:decide ((rs.length:Int)<(rs.length:Int))=false:=a1v (by omega);have l3:((rs.length:Int) == (rs.length:Int))=true:=by simp
         have g2:=a1k (pP (M:=M) (k:=k) (by rw[←hq.out,←v.out];exact vK (by rw[f.out];exact hz.out)));go_wp2
         trace_state
         go_roundw
         case rel=>exact⟨k+1,_,c,rs,is,by omega,by go_num,rfl,h1.below b2,by rw[g2.out];exact hq,by rw[g2.out];exact v,hI.below b2,h7⟩
         case measure=>simp[intOf];omega
    · have g0:decide ((is.length:Int)<(rs.length:Int))=false:=a1v (by omega);have j5:decide ((k:Int)<(n:Int))=true:=a1w j1
      have f1:=a1k (show reduceL M k=R by
       rw[←hR.out];have:=pO (M:=M) (k:=k) (by rw[←hq.out,←v.out,p8];exact hil) (n-k);rw[←this];congr 1;omega)
      obtain⟨L',h8,eL,hL⟩:=hI.il
      injection eL with e1 e2 e3
      subst e1 e3;go_wp2
      go_ret2
      exact⟨A,c,rs,L,cl,by rw[←f1.out,←v.out];rfl,h1,by rw[←f1.out];exact hq,by rw[←f1.out,←v.out];exact hL,hb⟩
  · obtain rfl:k=n:=by omega
    have f6:decide ((k:Int)<(k:Int))=false:=a1v (by omega);obtain⟨L',h8,eL,hL⟩:=hI.il
    injection eL with e1 e2 e3
    subst e1 e3;go_wp2
    go_ret2
    exact⟨A,c,rs,L,cl,by rw[←hR.out,←v.out];rfl,h1,by rw[←hR.out];exact hq,by rw[←hR.out,←v.out];exact hL,hb⟩
def M5 (ps:List (Nat × Nat)) (f:Nat→Rat) (qs:List Rat):List Rat:=ps.foldl (fun qs p=>qs.set p.1 (f p.2)) qs
theorem I1 (ps:List (Nat × Nat)) (f:Nat→Rat):∀ qs,(M5 ps f qs).length=qs.length:=by
 induction ps with
 | nil=>intro qs;rfl
 | cons p ps ih=>intro qs;show (M5 ps f (qs.set p.1 (f p.2))).length=_;rw[ih,a2i]
theorem uT (ps:List (Nat × Nat)) (f:Nat→Rat) (k:Nat) (hc:ps.Pairwise fun p q=>p.1<q.1):∀ qs:List Rat,(∀ p∈ps,p.1<qs.length) →
 (M5 ps f qs).getD k 0=if ∃ p∈ps,p.1=k then R9 ps f k else qs.getD k 0:=by
 induction ps with
 | nil=>intro qs _;rw[if_neg (by simp)];rfl
 | cons p ps ih =>
  intro qs hl;obtain⟨h1,h2⟩:=List.pairwise_cons.1 hc
  show (M5 ps f (qs.set p.1 (f p.2))).getD k 0=_
  rw[ih h2 _ (fun q hq=>by rw[a2i];exact hl q (a2n _ hq))]
  by_cases e:p.1=k
  · rw[if_neg (by rintro ⟨q,hq,rfl⟩;have:=h1 q hq;omega),if_pos ⟨p,a2o,e⟩];have hp:=hl p a2o;unfold R9;rw[if_pos e,a1l,a2h,if_pos e,if_pos hp];rfl
  · by_cases h3:∃ q∈ps,q.1=k
    · obtain⟨q,hq,e2⟩:=h3;rw[if_pos ⟨q,hq,e2⟩,if_pos ⟨q,a2n _ hq,e2⟩]
      show _=if p.1=k then _ else _
      rw[if_neg e]
    · rw[if_neg h3,if_neg (by
       rintro ⟨q,hq,e2⟩
       rcases a3i.1 hq with rfl | hq
       · exact e e2
       · exact h3 ⟨q,hq,e2⟩),a1l,a2h,if_neg e,←a1l]
theorem jF {ps:List (Nat × Nat)}{f:Nat→Rat}{qs:List Rat}{i:Nat}{p:Nat × Nat}(h:ps[i]?=some p):M5 (ps.take (i+1)) f qs=(M5 (ps.take i) f qs).set p.1 (f p.2):=by
 unfold M5;rw[a3e,h,List.foldl_append];rfl
theorem gM {is:List Nat}{i x:Nat}(h:is[i]?=some x):is.zipIdx[i]?=some (x,i):=by
 rw[List.getElem?_zipIdx,h];simp
theorem rat_ext {a b:List Rat}(hl:a.length=b.length) (h:∀ k,k<a.length→a.getD k 0=b.getD k 0):a=b:=by
 refine List.ext_getElem hl fun k h1 h2=>?_;have:=h k h1;rw[a1l,a1l,a1m h1,a1m h2] at this;exact this
theorem uS {m c:Nat}{R:Nat→Nat→Rat}{ps:List (Nat × Nat)}(h:Red m c R ps) (f:Nat→Rat){n:Nat}(hn:c≤n):M5 ps f (List.replicate n 0)=jQ n ps f:=by
 refine rat_ext (by rw[I1,W2,a1p]) fun k hk=>?_;rw[I1,a1p] at hk;rw[uT ps f k h.col _ (fun p hp=>by rw[a1p];have:=(h.lt p hp).1;omega),lH hk]
 by_cases e:∃ p∈ps,p.1=k
 · rw[if_pos e]
 · rw[if_neg e,N3 (fun p hp e2=>e ⟨p,hp,e2⟩),a1l,a2m,if_pos hk];rfl
def ColAt (g:Nat) (T:List Rat) (root w:World):Prop:=∃ ds:List FrD,ArrQ w g ds∧(∀ d∈ds,FV w d.v d.q)∧ds.map FrD.q=T∧Below root.heap.size root w
theorem ColAt.bel {g:Nat}{T:List Rat}{root w:World}(h:ColAt g T root w):Below root.heap.size root w:=by
 obtain⟨ds,h1,h2,h3,h4⟩:=h;exact h4
theorem ColAt.store {g k:Nat}{T:List Rat}{root w:World}(h:ColAt g T root w) (hk:k<T.length) (hg:root.heap.size≤g){n1:Bool}{A1:Option Addr}{a1:Nat}{l1:List Nat}{B1:Option Addr}{c1:Nat}{m1:List Nat}(na:Nv w A1 a1 l1) (nb:Nv w B1 c1 m1){q:Rat}(iq:QIs n1 l1 m1 q) :
 ∃ (u0 u1 u2:Value) (w9:World),w.cell? ⟨g,k*3,none⟩=some u0∧w.cell? ⟨g,k*3+1,none⟩=some u1∧w.cell? ⟨g,k*3+2,none⟩=some u2∧w.frozen? ⟨g,k*3,none⟩=false∧w.frozen? ⟨g,k*3+1,none⟩=false∧w.frozen? ⟨g,k*3+2,none⟩=false ∧
  ((w.setCell ⟨g,k*3,none⟩ (.bool n1)).setCell ⟨g,k*3+1,none⟩ (.slice A1 l1.length a1)).setCell ⟨g,k*3+2,none⟩ (.slice B1 m1.length c1)=w9∧ColAt g (T.set k q) root w9:=by
 obtain⟨ds,h1,h2,h3,h4⟩:=h;have j:k<ds.length:=by rw[←a1s (f:=FrD.q),h3];exact hk
 have b:=a1m j;obtain⟨w9,e9,l,o9⟩:=h1.set j ⟨n1,A1,a1,l1,B1,c1,m1⟩
 have c:FrD.q ⟨n1,A1,a1,l1,B1,c1,m1⟩=q:=by
  show mkRat (sg n1 (val l1)) (val m1)=q
  rw[←iq.mk]
 refine⟨_,_,_,w9,h1.cell (i:=0) b rfl,h1.cell (i:=1) b rfl,h1.cell (i:=2) b rfl,a4g h1 _,a4g h1 _,a4g h1 _,e9,_,l,fun d hd=>?_,?_,o9.to_below h4 hg h4.size⟩
 · rcases List.mem_or_eq_of_mem_set hd with hd | rfl
   · exact (h2 d hd).only_blk h1 (ArrQ.noDig ds) o9
   · rw[c];have hf:FV w (FrD.v ⟨n1,A1,a1,l1,B1,c1,m1⟩) q:=⟨n1,A1,a1,l1,B1,c1,m1,rfl,na,nb,iq⟩;exact hf.only_blk h1 (ArrQ.noDig ds) o9
 · rw[List.map_set,h3,c]
theorem ColAt.done {g:Nat}{T:List Rat}{root w:World}(h:ColAt g T root w) (hm:T.length≤9223372036854775807):∃ ds:List FrD,ds.length=T.length∧FL w (some ⟨g,0,none⟩) ds.length ds∧Hid (ds.map FrD.q=T):=by
 obtain⟨ds,h1,h2,h3,h4⟩:=h;have hl:ds.length=T.length:=by rw[←a1s (f:=FrD.q),h3]
 exact⟨ds,hl,h1.fl h2 (by omega),h3⟩
theorem lP (z:Value) (n:Nat):madeCells #[z] (n*1)=(List.replicate n z).toArray:=by
 apply Array.ext'
 apply List.ext_getElem?
 intro i;rw[Array.getElem?_toList]
 by_cases hi:i<n
 · have hs:i<(madeCells #[z] (n*1)).size:=by rw[size_madeCells];omega
   rw[Array.getElem?_eq_getElem hs]
   simp only[madeCells,Array.getElem_map,Array.getElem_range]
   have hz:(#[z]:Array Value).size=1:=rfl;rw[hz,Nat.mod_one]
   simp[hi]
 · rw[Array.getElem?_eq_none (by rw[size_madeCells];omega)]
   simp;omega
def IntA (w:World) (g:Nat) (av:List Int):Prop:=Blk w g 3 (av.map (Value.int .i64)).toArray
def BoolA (w:World) (g:Nat) (ub:List Bool):Prop:=Blk w g 4 (ub.map Value.bool).toArray
def IsZ (u:Value):Prop:=∃ z,u=.int .i64 z
def IsB (u:Value):Prop:=∃ b,u=.bool b
theorem isZ_u32 (d:Int):¬ IsZ (.int .u32 d):=by rintro ⟨z,h⟩;cases h
theorem isB_u32 (d:Int):¬ IsB (.int .u32 d):=by rintro ⟨z,h⟩;cases h
theorem IntA.all (av:List Int):AllP IsZ (av.map (Value.int .i64)).toArray:=AllPL.toAll (l:=av.map (Value.int .i64)) (fun u hu=>by
 obtain⟨z,_,rfl⟩:=a2v.1 hu;exact⟨z,rfl⟩) rfl
theorem BoolA.all (ub:List Bool):AllP IsB (ub.map Value.bool).toArray:=AllPL.toAll (l:=ub.map Value.bool) (fun u hu=>by
 obtain⟨z,_,rfl⟩:=a2v.1 hu;exact⟨z,rfl⟩) rfl
section
variable {w w':World}{g:Nat}
theorem IntA.below {av:List Int}(h:IntA w g av) (hb:Below w.heap.size w w'):IntA w' g av:=a4f h hb
theorem BoolA.below {ub:List Bool}(h:BoolA w g ub) (hb:Below w.heap.size w w'):BoolA w' g ub:=a4f h hb
theorem IntA.only {g':Nat}{av:List Int}(h:IntA w g av) (ho:Only w w' g') (hne:g≠g'):IntA w' g av:=Blk.only h ho hne
theorem BoolA.only {g':Nat}{ub:List Bool}(h:BoolA w g ub) (ho:Only w w' g') (hne:g≠g'):BoolA w' g ub:=Blk.only h ho hne
theorem IntA.cell {av:List Int}{j:Nat}{z:Int}(h:IntA w g av) (hj:av[j]?=some z):w.cell? ⟨g,j,none⟩=some (.int .i64 z):=by
 rw[a4e h,List.getElem?_toArray,a1r,hj];rfl
theorem BoolA.cell {ub:List Bool}{j:Nat}{z:Bool}(h:BoolA w g ub) (hj:ub[j]?=some z):w.cell? ⟨g,j,none⟩=some (.bool z):=by
 rw[a4e h,List.getElem?_toArray,a1r,hj];rfl
theorem IntA.set {av:List Int}(h:IntA w g av) (j:Nat) (z:Int):∃ w',w.setCell ⟨g,j,none⟩ (.int .i64 z)=w'∧IntA w' g (av.set j z)∧Only w w' g:=by
 refine⟨_,rfl,?_,(a4m w g).set _ _⟩;have h1:=Blk.set h j (.int .i64 z);unfold IntA;rw[List.map_set]
 simpa using h1
theorem BoolA.set {ub:List Bool}(h:BoolA w g ub) (j:Nat) (z:Bool):∃ w',w.setCell ⟨g,j,none⟩ (.bool z)=w'∧BoolA w' g (ub.set j z)∧Only w w' g:=by
 refine⟨_,rfl,?_,(a4m w g).set _ _⟩;have h1:=Blk.set h j (.bool z);unfold BoolA;rw[List.map_set]
 simpa using h1
theorem IntA.free {av:List Int}(h:IntA w g av) (j:Nat):w.frozen? ⟨g,j,none⟩=false:=a4g h j
theorem BoolA.free {ub:List Bool}(h:BoolA w g ub) (j:Nat):w.frozen? ⟨g,j,none⟩=false:=a4g h j
theorem FL.onlyI {av:List Int}{A:Option Addr}{c:Nat}{ds:List FrD}(h:FL w A c ds) (hB:IntA w g av) (ho:Only w w' g):FL w' A c ds :=
 ⟨h.row.only_p (P:=IsZ) (fun d=>⟨0,.bool d.neg,rfl,by rintro ⟨z,h⟩;cases h⟩) hB (IntA.all av) ho,fun d hd=>(h.fv d hd).only_blk hB (fun i u hi=>isZ_u32 u (IntA.all av i _ hi)) ho⟩
theorem FL.onlyB {ub:List Bool}{A:Option Addr}{c:Nat}{ds:List FrD}(h:FL w A c ds) (hB:BoolA w g ub) (ho:Only w w' g):FL w' A c ds :=
 ⟨h.row.only_p (P:=IsB) (fun d=>⟨1,.slice d.a d.la.length d.ca,rfl,by rintro ⟨z,h⟩;cases h⟩) hB (BoolA.all ub) ho,fun d hd=>(h.fv d hd).only_blk hB (fun i u hi=>isB_u32 u (BoolA.all ub i _ hi)) ho⟩
theorem ML.onlyI {av:List Int}{A:Option Addr}{c:Nat}{rows:List RwD}(h:ML w A c rows) (hB:IntA w g av) (ho:Only w w' g):ML w' A c rows :=
 ⟨h.row.only_p (P:=IsZ) (fun r=>⟨0,r.v,rfl,by rintro ⟨z,h⟩;cases h⟩) hB (IntA.all av) ho,fun r hr=>(h.fl r hr).onlyI hB ho⟩
theorem ML.onlyB {ub:List Bool}{A:Option Addr}{c:Nat}{rows:List RwD}(h:ML w A c rows) (hB:BoolA w g ub) (ho:Only w w' g):ML w' A c rows :=
 ⟨h.row.only_p (P:=IsB) (fun r=>⟨0,r.v,rfl,by rintro ⟨z,h⟩;cases h⟩) hB (BoolA.all ub) ho,fun r hr=>(h.fl r hr).onlyB hB ho⟩
end
theorem infoI1:(Tryz.prog.info? 3).map (fun i=>(i.zero,i.size,i.bytes))=some (some (.int .i64 0),1,8):=by kernel_rfl
theorem infoBool:(Tryz.prog.info? 4).map (fun i=>(i.zero,i.size,i.bytes))=some (some (.bool false),1,1):=by kernel_rfl
theorem a0b (w:World) (n:Nat) (hn:n≤100000000000) :
 ∃ w',(Instr.makeSlice 72 (.int .i64 (n:Int)) (.int .i64 (n:Int))).run Tryz.prog w=.ok (.slice (some ⟨w.heap.size,0,none⟩) n n) w'∧IntA w' w.heap.size (List.replicate n 0)∧Below w.heap.size w w'∧w.heap.size<w'.heap.size:=by
 obtain⟨i,hi,d,c,b⟩:=info_parts infoI1;have hr:=run_make (P:=Tryz.prog) w 72 3 i _ Tryz.underlying72 hi d .i64 .i64 n n (by omega) (by omega) (by rw[b];omega) (by omega);refine⟨w.alloc (.cells ((List.replicate n (0:Int)).map (Value.int .i64)).toArray 3),?_,a4h w _ _,(a3t _ _).alloc (a1u _) _,by simp⟩;rw[hr,c,Int.toNat_natCast,List.map_replicate,←lP]
 rfl
theorem uY (w:World) (n:Nat) (hn:n≤100000000000) :
 ∃ w',(Instr.makeSlice 123 (.int .i64 (n:Int)) (.int .i64 (n:Int))).run Tryz.prog w=.ok (.slice (some ⟨w.heap.size,0,none⟩) n n) w'∧BoolA w' w.heap.size (List.replicate n false)∧Below w.heap.size w w'∧w.heap.size<w'.heap.size:=by
 obtain⟨i,hi,d,c,b⟩:=info_parts infoBool;have hr:=run_make (P:=Tryz.prog) w 123 4 i _ Tryz.underlying123 hi d .i64 .i64 n n (by omega) (by omega) (by rw[b];omega) (by omega);refine⟨w.alloc (.cells ((List.replicate n false).map Value.bool).toArray 4),?_,a4h w _ _,(a3t _ _).alloc (a1u _) _,by simp⟩;rw[hr,c,Int.toNat_natCast,List.map_replicate,←lP]
 rfl
theorem FV.frd {w:World}{v:Value}{q:Rat}(h:FV w v q):∃ d:FrD,v=B8 d.neg d.a d.la.length d.ca d.b d.lb.length d.cb∧FV w d.v d.q∧Hid (d.q=q):=by
 obtain⟨n,A,ca,la,B,cb,lb,rfl,na,nb,iq⟩:=h;have e:=iq.mk;refine⟨⟨n,A,ca,la,B,cb,lb⟩,rfl,⟨n,A,ca,la,B,cb,lb,rfl,na,nb,?_⟩,e.symm⟩
 show QIs n la lb (mkRat (sg n (val la)) (val lb))
 rw[←e];exact iq
def VarQ (w:World) (g:Nat) (d:FrD):Prop:=Blk w g 28 #[.bool d.neg,.slice d.a d.la.length d.ca,.slice d.b d.lb.length d.cb]
section
variable {w w':World}{g:Nat}{d:FrD}
theorem VarQ.below (h:VarQ w g d) (hb:Below w.heap.size w w'):VarQ w' g d:=a4f h hb
theorem VarQ.only {g':Nat}(h:VarQ w g d) (ho:Only w w' g') (hne:g≠g'):VarQ w' g d:=Blk.only h ho hne
theorem VarQ.cells (h:VarQ w g d):w.cell? ⟨g,0,none⟩=some (.bool d.neg)∧w.cell? ⟨g,1,none⟩=some (.slice d.a d.la.length d.ca)∧w.cell? ⟨g,2,none⟩=some (.slice d.b d.lb.length d.cb):=⟨Blk.f0 h,Blk.f1 h,Blk.f2 h⟩
theorem VarQ.store (h:VarQ w g d) (e:FrD):∃ w9,w.cell? ⟨g,0,none⟩=some (.bool d.neg)∧w.cell? ⟨g,1,none⟩=some (.slice d.a d.la.length d.ca)∧w.cell? ⟨g,2,none⟩=some (.slice d.b d.lb.length d.cb)∧w.frozen? ⟨g,0,none⟩=false∧w.frozen? ⟨g,1,none⟩=false∧w.frozen? ⟨g,2,none⟩=false∧((w.setCell ⟨g,0,none⟩ (.bool e.neg)).setCell ⟨g,1,none⟩ (.slice e.a e.la.length e.ca)).setCell ⟨g,2,none⟩ (.slice e.b e.lb.length e.cb)=w9∧VarQ w9 g e∧Only w w9 g:=by
 obtain⟨w9,e9,h9,o9⟩:=Blk.set3 h (.bool e.neg) (.slice e.a e.la.length e.ca) (.slice e.b e.lb.length e.cb);exact⟨w9,Blk.f0 h,Blk.f1 h,Blk.f2 h,a4g h 0,a4g h 1,a4g h 2,e9,h9,o9⟩
theorem FV.onlyV {u:Value}{q:Rat}(h:FV w u q) (hB:VarQ w g d) (o:Only w w' g):FV w' u q:=h.only_blk hB (k7 _ _ _ _ _ _ _) o
theorem p9 (h:Blk w g 28 #[.bool false,.slice none 0 0,.slice none 0 0]) (e:FrD):∃ w9,w.cell? ⟨g,0,none⟩=some (.bool false)∧w.cell? ⟨g,1,none⟩=some (.slice none 0 0)∧w.cell? ⟨g,2,none⟩=some (.slice none 0 0)∧w.frozen? ⟨g,0,none⟩=false∧w.frozen? ⟨g,1,none⟩=false∧w.frozen? ⟨g,2,none⟩=false∧((w.setCell ⟨g,0,none⟩ (.bool e.neg)).setCell ⟨g,1,none⟩ (.slice e.a e.la.length e.ca)).setCell ⟨g,2,none⟩ (.slice e.b e.lb.length e.cb)=w9∧VarQ w9 g e∧Only w w9 g:=by
 obtain⟨w9,e9,h9,o9⟩:=Blk.set3 h (.bool e.neg) (.slice e.a e.la.length e.ca) (.slice e.b e.lb.length e.cb);exact⟨w9,Blk.f0 h,Blk.f1 h,Blk.f2 h,a4g h 0,a4g h 1,a4g h 2,e9,h9,o9⟩
end
theorem D5 (w:World) (d:FrD):∃ wA wB,w.alloc (.cells #[.bool false,.slice none 0 0,.slice none 0 0] 28)=wA∧wA.cell? ⟨w.heap.size,0,none⟩=some (.bool false)∧wA.cell? ⟨w.heap.size,1,none⟩=some (.slice none 0 0)∧wA.cell? ⟨w.heap.size,2,none⟩=some (.slice none 0 0)∧wA.frozen? ⟨w.heap.size,0,none⟩=false∧wA.frozen? ⟨w.heap.size,1,none⟩=false∧wA.frozen? ⟨w.heap.size,2,none⟩=false ∧
 ((wA.setCell ⟨w.heap.size,0,none⟩ (.bool d.neg)).setCell ⟨w.heap.size,1,none⟩ (.slice d.a d.la.length d.ca)).setCell ⟨w.heap.size,2,none⟩ (.slice d.b d.lb.length d.cb)=wB∧VarQ wB w.heap.size d∧Below w.heap.size w wB∧w.heap.size<wB.heap.size:=by
 obtain⟨wA,eA,bA,lA,BA⟩:=f8 w #[.bool false,.slice none 0 0,.slice none 0 0] 28;obtain⟨wB,p0,p1,p2,r0,r1,r2,eB,hB,oB⟩:=p9 BA d;exact⟨wA,wB,eA,p0,p1,p2,r0,r1,r2,eB,hB,oB.to_below bA (a1u _) bA.size,a1o lA oB.size⟩
structure NdD where
 p:Int
 l:Int
def NdD.cells (d:NdD):List Value:=[.int .i64 d.p,.int .i64 d.l]
def NL (w:World) (A:Option Addr) (c:Nat) (ns:List NdD):Prop:=Srow w 2 NdD.cells A c ns
def ZL (w:World) (A:Option Addr) (c:Nat) (zs:List Int):Prop:=Srow w 1 (fun z:Int=>[Value.int .i64 z]) A c zs
theorem NL.below {w w':World}{A:Option Addr}{c:Nat}{ns:List NdD}(h:NL w A c ns) (hb:Below w.heap.size w w'):NL w' A c ns:=Srow.below h hb
theorem ZL.below {w w':World}{A:Option Addr}{c:Nat}{zs:List Int}(h:ZL w A c zs) (hb:Below w.heap.size w w'):ZL w' A c zs:=Srow.below h hb
theorem NL.len {w:World}{A:Option Addr}{c:Nat}{ns:List NdD}(h:NL w A c ns):ns.length≤c∧c≤9223372036854775807:=⟨h.1,h.2.1⟩
theorem ZL.len {w:World}{A:Option Addr}{c:Nat}{zs:List Int}(h:ZL w A c zs):zs.length≤c∧c≤9223372036854775807:=⟨h.1,h.2.1⟩
theorem ZL.at {w:World}{A:Option Addr}{c:Nat}{zs:List Int}(h:ZL w A c zs){k:Nat}(hk:k<zs.length) :
 ∃ a z,A=some a∧a.block<w.heap.size∧w.cell? (a.add k)=some (.int .i64 z)∧Hid (zs[k]?=some z):=by
 obtain⟨a,e,h1,h2⟩:=h.2.2 k hk;have h3:=h2 0 _ rfl;rw[Nat.mul_one,Nat.add_zero] at h3;exact⟨a,zs[k],e,h1,h3,a1m hk⟩
theorem NL.at {w:World}{A:Option Addr}{c:Nat}{ns:List NdD}(h:NL w A c ns){k:Nat}(hk:k<ns.length) :
 ∃ a d,A=some a∧a.block<w.heap.size∧w.cell? (a.add (k*2))=some (.int .i64 d.p)∧w.cell? ⟨(a.add (k*2)).block,(a.add (k*2)).off+1,none⟩=some (.int .i64 d.l)∧Hid (ns[k]?=some d):=by
 obtain⟨a,e,h1,h2⟩:=h.2.2 k hk;have h3:=h2 0 _ rfl;rw[Nat.add_zero] at h3;exact⟨a,ns[k],e,h1,h3,gI (a:=a.add (k*2)) (by rw[add_add];exact h2 1 _ rfl) (by decide),a1m hk⟩
def VarN (w:World) (g:Nat) (d:NdD):Prop:=Blk w g 45 #[.int .i64 d.p,.int .i64 d.l]
theorem VarN.cells {w:World}{g:Nat}{d:NdD}(h:VarN w g d):w.cell? ⟨g,0,none⟩=some (.int .i64 d.p)∧w.cell? ⟨g,1,none⟩=some (.int .i64 d.l):=⟨a4e h 0,a4e h 1⟩
theorem VarN.below {w w':World}{g:Nat}{d:NdD}(h:VarN w g d) (hb:Below w.heap.size w w'):VarN w' g d:=a4f h hb
theorem VarN.only {w w':World}{g g':Nat}{d:NdD}(h:VarN w g d) (ho:Only w w' g') (hne:g≠g'):VarN w' g d:=Blk.only h ho hne
theorem fO (w:World) (d:NdD):∃ wA wB,w.alloc (.cells #[.int .i64 0,.int .i64 0] 45)=wA∧wA.cell? ⟨w.heap.size,0,none⟩=some (.int .i64 0)∧wA.cell? ⟨w.heap.size,1,none⟩=some (.int .i64 0)∧wA.frozen? ⟨w.heap.size,0,none⟩=false∧wA.frozen? ⟨w.heap.size,1,none⟩=false ∧
 (wA.setCell ⟨w.heap.size,0,none⟩ (.int .i64 d.p)).setCell ⟨w.heap.size,1,none⟩ (.int .i64 d.l)=wB∧VarN wB w.heap.size d∧Below w.heap.size w wB∧w.heap.size<wB.heap.size:=by
 obtain⟨wA,eA,bA,lA,BA⟩:=f8 w #[.int .i64 0,.int .i64 0] 45;have h1:=(BA.set 0 (.int .i64 d.p)).set 1 (.int .i64 d.l);have o1:=((a4m wA w.heap.size).set 0 (.int .i64 d.p)).set 1 (.int .i64 d.l);exact⟨wA,_,eA,BA.cell 0,BA.cell 1,BA.free 0,BA.free 1,rfl,h1,o1.to_below bA (a1u _) bA.size,a1o lA o1.size⟩
def dG (m:Int):Bool:=decide (m<0) || decide (1000000<m)
def bC (n:Nat) (d:NdD):Bool:=decide (d.p<0) || (decide ((2:Int) ^ n≤d.p) || (decide (d.l < -1099511627776) || decide (1099511627776<d.l)))
def argsE (tl:Nat) (ns:List NdD) (ms:List Int):Int :=
 if 8<ms.length∨300<ns.length then 3 else if tl≠ms.length then 2 else if ms.any dG=true∨ns.any (bC ms.length)=true then 4 else 0
theorem K3 {tl:Nat}{ns:List NdD}{ms:List Int}(h:argsE tl ns ms=0):ms.length≤8∧ns.length≤300∧tl=ms.length∧(∀ m∈ms,0≤m∧m≤1000000)∧∀ d∈ns,0≤d.p∧d.p<2 ^ ms.length∧-1099511627776≤d.l∧d.l≤1099511627776:=by
 unfold argsE at h
 split at h
 · cases h
 · split at h
   · cases h
   · split at h
     · cases h
     · rename_i h1 h2 h3
       refine⟨by omega,by omega,by omega,fun m hm=>?_,fun d hd=>?_⟩
       · have:ms.any dG=false:=by
          cases e:ms.any dG with
          | false=>rfl
          | true=>exact absurd (.inl e) h3
         have:=List.any_eq_false.1 this m hm;unfold dG at this
         simp at this
         omega
       · have:ns.any (bC ms.length)=false:=by
          cases e:ns.any (bC ms.length) with
          | false=>rfl
          | true=>exact absurd (.inr e) h3
         have:=List.any_eq_false.1 this d hd;unfold bC at this
         simp at this
         omega
end Go.Proofs.YtjhkapjadfpimaaGreat
