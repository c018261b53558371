/- Contracts of functions, for the law. -/
import Derived.Test.YtjhkapjadfpimaaGreatMPivot
namespace Go.Proofs.YtjhkapjadfpimaaGreat
set_option linter.unusedVariables false
set_option linter.unusedSimpArgs false
open Go.RowKit Plain
attribute [local go_sem ↓] Go.wp_at_zero Go.wp_at_succ
set_option maxRecDepth 100000
set_option maxHeartbeats 40000000
theorem qZ {M:bp}{k:Nat}(h:¬ (reduceL M k).2.length<(reduceL M k).1.length):∀ n,reduceL M (k+n)=reduceL M k:=by
 intro n
 induction n with
 | zero=>rfl
 | succ n ih =>
  rw[←Nat.add_assoc,fj,ih];unfold ji;rw[if_neg h]
theorem q7 {M:bp}{k:Nat}(h:¬ dc (reduceL M k).1 k (reduceL M k).2.length<(reduceL M k).1.length):reduceL M (k+1)=reduceL M k:=by
 rw[fj];unfold ji;rw[if_neg h,ite_self]
theorem jg {M:bp}{k t:Nat}(h1:(reduceL M k).2.length<(reduceL M k).1.length) (ht:dc (reduceL M k).1 k (reduceL M k).2.length=t) (h2:t<(reduceL M k).1.length) :
 reduceL M (k+1)=(fe (cO (reduceL M k).1 (reduceL M k).2.length t) (reduceL M k).2.length k,(reduceL M k).2++[k]):=by
 rw[fj];unfold ji;rw[if_pos h1,ht,if_pos h2]
theorem uq {M:bp}{col row t:Nat}(h1:row≤t) (h2:t<M.length) (h3:∀ i,row≤i→i<t→fn M i col=0) (h4:fn M t col≠0):dc M col row=t:=by
 rcases Nat.lt_trichotomy (dc M col row) t with h | h | h
 · exact absurd (h3 _ (gU _ _ _) h) (fO (by omega))
 · exact h
 · exact absurd (lP h1 h h2) h4
theorem uo {M:bp}{col row:Nat}(h3:∀ i,row≤i→i<M.length→fn M i col=0):¬ dc M col row<M.length:=fun h=>fO h (h3 _ (gU _ _ _) h)
def CL (M:bp) (n:Nat) (root:World) (m l i:Value) (wr:World):Prop :=
 ∃ (k:Nat) (A:Option Addr) (c:Nat) (rows:List RwD) (is:List Nat),k≤n∧i=.int .i64 (k:Int)∧m=.slice A rows.length c∧ML wr A c rows∧Hid (bh rows=(reduceL M k).1)∧Hid (is=(reduceL M k).2)∧OwnI wr root.heap.size l is∧Below root.heap.size root wr
def BO (Q:bp) (col row:Nat) (root:World) (i:Value) (wr:World):Prop :=
 ∃ t:Nat,row≤t∧t≤Q.length∧i=.int .i64 (t:Int)∧Hid (∀ i,row≤i→i<t→fn Q i col=0)∧Below root.heap.size root wr
def CF (S:bp × List Nat) (W:World) (e:Ending) (w':World):Prop :=
 ∃ A c rows L cl,e=.returned (.tuple #[.slice A rows.length c,.slice L S.2.length cl])∧ML w' A c rows∧Hid (bh rows=S.1)∧ILs w' L cl S.2∧Below W.heap.size W w'
theorem tX {K N n:Nat}{A:Option Addr}{c:Nat}{rows:List RwD}{w:World}(h:ML w A c rows) (hr:cj (bh rows) N) (hn:n≤N) (hfm:MFits K (bh rows)) (hK:4*gK K n+1<400000000) (hrn:rows.length<1000000000) (hN:N<1000000000) :
 Calls Tryz.prog 103 #[.slice A rows.length c,.int .i64 (n:Int)] w (CF (reduceL (bh rows) n) w):=by
 obtain⟨M,hM⟩:∃ M,Hid (bh rows=M):=⟨_,rfl⟩;rw[hM.out] at hr hfm ⊢;have cs:=Dj hr;have ch:=Dj hfm;have d6:=Dj (show M.length=rows.length by rw[←hM.out,aE]);obtain⟨R,hR⟩:∃ R,Hid (reduceL M n=R):=⟨_,rfl⟩;rw[hR.out];clear hr hfm;go_enter Tryz.func103,Tryz.ntmps103;go_wp2
 go_loopw [0,6,7] (fun m l i wr=>CL M n w m l i wr) (fun _ _ i _=>n-(intOf i).toNat)
 case atStart=>exact⟨0,A,c,rows,[],by omega,rfl,rfl,h,hM,rfl,OwnI.nil _ _,DY _ _⟩
 case round =>
  obtain⟨k,A,c,rs,is,hk,rfl,rfl,h1,hq,z,hI,hb⟩:=hrel;obtain⟨L,cl,rfl,dm,dr⟩:=hI.form;have U:=Dj (eg cs.out k (by omega));have c9:=Dj (jh ch.out cs.out k (by omega));have cx:=Dj (show rs.length=rows.length by rw[←aE,hq.out,U.out.len,d6.out]);have dx:=h1.len
  by_cases hkl:k<n
  · have d4:(k:Int)<(n:Int):=by omega
    by_cases hil:is.length<rs.length
    · have cz:(is.length:Int)<(rs.length:Int):=by omega
      have c8:rs.length<1000000000:=by rw[cx.out];exact hrn
      have d0:=Dj (show ∀ r∈rs,r.ds.length=N from fun r hr=>by
       have:=U.out.rct r.qs (by rw[←hq.out];exact DU.2 ⟨r,hr,rfl⟩);rw[Eg] at this;exact this)
      obtain⟨a0,r0,rfl,-⟩:=h1.at (k:=0) (by omega);have f:=Dj (show (bh rs).length=rs.length from aE rs);go_wp2
      go_loopw [9] (fun i w'=>BO (bh rs) k is.length wr i w') (fun i _=>rs.length-(intOf i).toNat)
      case atStart=>exact⟨is.length,Dt _,by rw[f.out];omega,rfl,fun i h1 h2=>by omega,DY _ _⟩
      case round =>
       obtain⟨t,Z,d3,rfl,hz,b2⟩:=hrel;rw[f.out] at d3;have d5:=Di hb b2
       by_cases htl:t<rs.length
       · have f4:(t:Int)<(rs.length:Int):=by omega
         obtain⟨a',r,ea,f3,db,c5,V⟩:=(h1.below b2).at htl;have d1:a'=a0:=by injection ea with e;exact e.symm
         subst d1;clear ea;have f2:=c5.len;have d7:k<r.ds.length:=by rw[d0.out r (Dm V.out)];omega
         obtain⟨b,d,eb,fr,f6,fm,f0,dh,d2⟩:=c5.at d7
         have cr:=Dj (show fn (bh rs) t k=d.q by
          unfold fn bh;rw[Dk (l:=rs.map _),Dq,V.out]
          show (r.ds.map FrD.q).getD k 0=_
          rw[Dk,Dq,d2.out];rfl)
         rw[eb] at db;clear c5 eb;have dq:(k:Int)<(r.ds.length:Int):=by omega
         go_wp2_with fail;refine (ct dh).mono ?_;rintro e w3 ⟨rfl,b3⟩;have bz:=Di b2 b3;have c2:=Di hb bz
         by_cases hzd:d.q=0
         · have hs:Hid (bH d.q 0=0):=cmpR_zero.2 hzd;rw[hs.out]
           have d8:=Dj (show ∀ i,is.length≤i→i<t+1→fn (bh rs) i k=0 from fun i h1 h2=>by
            rcases Nat.lt_or_ge i t with h | h
            · exact hz.out i h1 h
            · rw[show i=t by omega,cr.out];exact hzd)
           clear hzd;go_wp2;go_roundw
           case rel=>exact⟨t+1,by omega,by rw[f.out];omega,by go_num,d8,bz⟩
           case measure=>simp[intOf];omega
         · obtain⟨s,hs⟩:∃ s,Hid (bH d.q 0=s):=⟨_,rfl⟩;have f9:(s == 0)=false:=by rw[beq_eq_false_iff_ne];intro e;exact hzd (cmpR_zero.1 (by rw[hs.out];exact e))
           rw[hs.out]
           have o:=Dj (show dc (reduceL M k).1 k (reduceL M k).2.length=t by
            rw[←hq.out,←z.out];exact uq Z (by rw[f.out];exact htl) hz.out (by rw[cr.out];exact hzd))
           clear hzd;have f1:((t:Int) == (rs.length:Int))=false:=by rw[beq_eq_false_iff_ne];omega
           have h3:=h1.below bz;have cd:=hI.below bz
           by_cases htr:t=is.length
           · subst htr;have cq:((is.length:Int) != (is.length:Int))=false:=by simp
             have y:=Dj (show bh rs=cO (reduceL M k).1 is.length is.length by
              rw[sK (by rw[←hq.out,f.out];exact hil)];exact hq.out)
             go_wp2_with fail;have v:=Dj (jg (M:=M) (k:=k) (t:=is.length) (by rw[←hq.out,←z.out,f.out];exact hil) o.out (by rw[←hq.out,f.out];exact htl));have O:=Dj (show rs.length=rs.length by rw[←aE,y.out,cF Z (by rw[←hq.out,f.out];exact htl),←hq.out,f.out]);have cm:=iD K hk;have bq:=Dj (show cj (bh rs) N by rw[y.out];exact fX U.out.rct (by rw[←hq.out,f.out];exact htl));have X:=Dj (show MFits (gK K k) (bh rs) by rw[y.out];exact iu c9.out (by rw[←hq.out,f.out];exact htl))
             have bg:=Dj (show fn (bh rs) is.length k≠0 by
              rw[y.out];unfold fn;rw[gQ Z (by rw[←hq.out,f.out];exact htl) (by rw[←hq.out,f.out];exact hil)];have h5:=fO (M:=(reduceL M k).1) (col:=k) (row:=(reduceL M k).2.length) (by rw[o.out,←hq.out,f.out];exact htl);rw[o.out] at h5;unfold fn at h5;have e5:rR is.length is.length is.length=is.length:=by unfold rR;simp
              rw[e5];exact h5)
             refine (mE (K:=gK K k) (p:=is.length) (j:=k) (n:=N) h3 bq.out (by rw[O.out];exact hil) (by omega) X.out bg.out (by omega) (by rw[O.out];exact c8) hN).mono ?_;rintro e w4 ⟨B,cb,es,rfl,bc,bn,b4⟩;have C:=Di c2 b4;have ba:=(DY w4.heap.size w4).alloc (Dt _) (.cells #[.int .i64 (k:Int)] 3);have F:=(cd.below b4).below ba
             go_wp2_with (at_builtin;go_loud (refine jD rfl Tryz.underlying72 rfl _ _ rfl w.heap.size (.slice L is.length cl) is rfl F ⟨w4.heap.size,0,none⟩ 1 k rfl ((Ec w4 3 #[.int .i64 (k:Int)]).cell 0) (by omega) (Ds C.size ba.size) ?_;intro v6 w6 bm G))
             have T:=(bc.below ba).ownI F G;have b8:=(C.alloc C.size (.cells #[.int .i64 (k:Int)] 3)).grown G (Ds C.size ba.size) fun g hg=>Ej F hg;have b7:=Dj (show bh es=(reduceL M (k+1)).1 by rw[v.out,bn.out,y.out,←z.out]);have b1:=Dj (show is++[k]=(reduceL M (k+1)).2 by rw[v.out,←z.out]);clear G;go_wp2;go_roundw
             case rel=>exact⟨k+1,B,cb,es,is++[k],by omega,by go_num,rfl,T,b7,b1,bm,b8⟩
             case measure=>simp[intOf];omega
           · have cq:((t:Int) != (is.length:Int))=true:=by simp;omega
             have dk:is.length<t:=by omega
             have fq:(is.length:Int)≤(t:Int):=by omega
             have fb:(is.length:Int)≤(c:Int):=by omega
             have ba:=(DY w3.heap.size w3).alloc (Dt _) (.cells #[] 22);have hE:=OwnM.empty w3 (Dt _)
             by_cases hct:c=t+1
             · obtain rfl:=hct
               go_wp2_with (at_builtin;first
                | (refine ew rfl Tryz.underlying129 rfl _ _ rfl w3.heap.size (.slice (some ⟨w3.heap.size,0,none⟩) 0 0) [] rfl hE a' is.length _ (rs.take is.length) (by simp;omega) rfl (fun j r hj=>(h3.below ba).cellAt (by rw[DW] at hj;split at hj;exact hj;cases hj)) (by simp;omega) (by simp) ?_;intro vA wA bs b6;have b0:ChAt w3 (rs.take is.length) vA wA:=ChAt.app (ws:=w3) (rows:=[]) ⟨hE,ba⟩ bs b6;have cA:wA.cell? (a'.add t)=some (.slice r.a r.ds.length r.c):=(h3.below b0.2).cellAt V.out;have b9:=(DY wA.heap.size wA).alloc (Dt _) (.cells #[.slice r.a r.ds.length r.c] 22);have D:=b0.below b9;clear bs b6 b0 b9)
                | (refine dD rfl Tryz.underlying129 rfl _ _ rfl w3.heap.size vA (rs.take is.length) rfl D.1 ⟨wA.heap.size,0,none⟩ 1 r rfl (eO wA r) (by simp;omega) D.2.size ?_;intro vB wB bd b5;have I:=D.app bd b5;clear bd b5 D cA)
                | (refine ew rfl Tryz.underlying129 rfl _ _ rfl w3.heap.size vB _ rfl I.1 (a'.add is.length) (t-is.length) _ ((rs.drop is.length).take (t-is.length)) (by simp;omega) rfl (fun j r hj=>by rw[Addr.add_add];exact (h3.below I.2).cellAt (by rw[DW] at hj;split at hj;rwa [DX] at hj;cases hj)) (by simp;omega) I.2.size ?_;intro vC wC bf bo;have J:=I.app bf bo;clear bf bo I)
                | (refine ew rfl Tryz.underlying129 rfl _ _ rfl w3.heap.size vC _ rfl J.1 a' _ _ (rs.drop (t+1)) (by first | (rw[DC];omega) | simp) rfl (fun j r hj=>by rw[DX,DI (by omega)] at hj;cases hj) (by simp;omega) J.2.size ?_;intro vD wD bv bb;have E:=J.app bv bb;clear bv bb J))
               obtain⟨H,Y⟩:∃ x,Hid (((rs.take is.length++[r])++(rs.drop is.length).take (t-is.length))++rs.drop (t+1)=x):=⟨_,rfl⟩;rw[Y.out] at E
               obtain⟨A4,c4,rfl,bx⟩:=E.1.ml (fun x hx=>(h3.fl x (by
                rw[←Y.out] at hx
                simp only[List.mem_append,List.mem_singleton] at hx
                rcases hx with ((hx | rfl) | hx) | hx
                · exact DJ hx
                · exact Dm V.out
                · exact DK (DJ hx)
                · exact DK hx)).below E.2)
               have y:=Dj (show bh H=cO (reduceL M k).1 is.length t by
                rw[←Y.out,←hq.out];unfold cO
                have e:(bh rs).getD t []=r.qs:=by
                 unfold bh;rw[Dk,Dq,V.out];rfl
                rw[e]
                simp[bh,DE,DF])
               have c3:=cd.below E.2;have c0:=Di c2 E.2;have cg:=bx.len;have v:=Dj (jg (M:=M) (k:=k) (t:=t) (by rw[←hq.out,←z.out,f.out];exact hil) o.out (by rw[←hq.out,f.out];exact htl));have O:=Dj (show H.length=rs.length by rw[←aE,y.out,cF Z (by rw[←hq.out,f.out];exact htl),←hq.out,f.out]);have cm:=iD K hk;have bq:=Dj (show cj (bh H) N by rw[y.out];exact fX U.out.rct (by rw[←hq.out,f.out];exact htl));have X:=Dj (show MFits (gK K k) (bh H) by rw[y.out];exact iu c9.out (by rw[←hq.out,f.out];exact htl))
               have bg:=Dj (show fn (bh H) is.length k≠0 by
                rw[y.out];unfold fn;rw[gQ Z (by rw[←hq.out,f.out];exact htl) (by rw[←hq.out,f.out];exact hil)];have h5:=fO (M:=(reduceL M k).1) (col:=k) (row:=(reduceL M k).2.length) (by rw[o.out,←hq.out,f.out];exact htl);rw[o.out] at h5;unfold fn at h5;have e5:rR is.length t is.length=t:=by unfold rR;simp
                rw[e5];exact h5)
               refine (mE (K:=gK K k) (p:=is.length) (j:=k) (n:=N) bx bq.out (by rw[O.out];exact hil) (by omega) X.out bg.out (by omega) (by rw[O.out];exact c8) hN).mono ?_;rintro e w4 ⟨B,cb,es,rfl,bc,bn,b4⟩;have C:=Di c0 b4;have ba:=(DY w4.heap.size w4).alloc (Dt _) (.cells #[.int .i64 (k:Int)] 3);have F:=(c3.below b4).below ba
               go_wp2_with (at_builtin;go_loud (refine jD rfl Tryz.underlying72 rfl _ _ rfl w.heap.size (.slice L is.length cl) is rfl F ⟨w4.heap.size,0,none⟩ 1 k rfl ((Ec w4 3 #[.int .i64 (k:Int)]).cell 0) (by omega) (Ds C.size ba.size) ?_;intro v6 w6 bm G))
               have T:=(bc.below ba).ownI F G;have b8:=(C.alloc C.size (.cells #[.int .i64 (k:Int)] 3)).grown G (Ds C.size ba.size) fun g hg=>Ej F hg;have b7:=Dj (show bh es=(reduceL M (k+1)).1 by rw[v.out,bn.out,y.out,←z.out]);have b1:=Dj (show is++[k]=(reduceL M (k+1)).2 by rw[v.out,←z.out]);clear G;go_wp2;go_roundw
               case rel=>exact⟨k+1,B,cb,es,is++[k],by omega,by go_num,rfl,T,b7,b1,bm,b8⟩
               case measure=>simp[intOf];omega
             · have dp:¬ (c=t+1):=hct
               go_wp2_with (at_builtin;first
                | (refine ew rfl Tryz.underlying129 rfl _ _ rfl w3.heap.size (.slice (some ⟨w3.heap.size,0,none⟩) 0 0) [] rfl hE a' is.length _ (rs.take is.length) (by simp;omega) rfl (fun j r hj=>(h3.below ba).cellAt (by rw[DW] at hj;split at hj;exact hj;cases hj)) (by simp;omega) (by simp) ?_;intro vA wA bs b6;have b0:ChAt w3 (rs.take is.length) vA wA:=ChAt.app (ws:=w3) (rows:=[]) ⟨hE,ba⟩ bs b6;have cA:wA.cell? (a'.add t)=some (.slice r.a r.ds.length r.c):=(h3.below b0.2).cellAt V.out;have b9:=(DY wA.heap.size wA).alloc (Dt _) (.cells #[.slice r.a r.ds.length r.c] 22);have D:=b0.below b9;clear bs b6 b0 b9)
                | (refine dD rfl Tryz.underlying129 rfl _ _ rfl w3.heap.size vA (rs.take is.length) rfl D.1 ⟨wA.heap.size,0,none⟩ 1 r rfl (eO wA r) (by simp;omega) D.2.size ?_;intro vB wB bd b5;have I:=D.app bd b5;clear bd b5 D cA)
                | (refine ew rfl Tryz.underlying129 rfl _ _ rfl w3.heap.size vB _ rfl I.1 (a'.add is.length) (t-is.length) _ ((rs.drop is.length).take (t-is.length)) (by simp;omega) rfl (fun j r hj=>by rw[Addr.add_add];exact (h3.below I.2).cellAt (by rw[DW] at hj;split at hj;rwa [DX] at hj;cases hj)) (by simp;omega) I.2.size ?_;intro vC wC bf bo;have J:=I.app bf bo;clear bf bo I)
                | (refine ew rfl Tryz.underlying129 rfl _ _ rfl w3.heap.size vC _ rfl J.1 (a'.add (t+1)) (rs.length-(t+1)) _ (rs.drop (t+1)) (by simp) rfl (fun j r hj=>by rw[Addr.add_add];exact (h3.below J.2).cellAt (by rwa [DX] at hj)) (by simp;omega) J.2.size ?_;intro vD wD bv bb;have E:=J.app bv bb;clear bv bb J))
               obtain⟨H,Y⟩:∃ x,Hid (((rs.take is.length++[r])++(rs.drop is.length).take (t-is.length))++rs.drop (t+1)=x):=⟨_,rfl⟩;rw[Y.out] at E
               obtain⟨A4,c4,rfl,bx⟩:=E.1.ml (fun x hx=>(h3.fl x (by
                rw[←Y.out] at hx
                simp only[List.mem_append,List.mem_singleton] at hx
                rcases hx with ((hx | rfl) | hx) | hx
                · exact DJ hx
                · exact Dm V.out
                · exact DK (DJ hx)
                · exact DK hx)).below E.2)
               have y:=Dj (show bh H=cO (reduceL M k).1 is.length t by
                rw[←Y.out,←hq.out];unfold cO
                have e:(bh rs).getD t []=r.qs:=by
                 unfold bh;rw[Dk,Dq,V.out];rfl
                rw[e]
                simp[bh,DE,DF])
               have c3:=cd.below E.2;have c0:=Di c2 E.2;have cg:=bx.len;have v:=Dj (jg (M:=M) (k:=k) (t:=t) (by rw[←hq.out,←z.out,f.out];exact hil) o.out (by rw[←hq.out,f.out];exact htl));have O:=Dj (show H.length=rs.length by rw[←aE,y.out,cF Z (by rw[←hq.out,f.out];exact htl),←hq.out,f.out]);have cm:=iD K hk;have bq:=Dj (show cj (bh H) N by rw[y.out];exact fX U.out.rct (by rw[←hq.out,f.out];exact htl));have X:=Dj (show MFits (gK K k) (bh H) by rw[y.out];exact iu c9.out (by rw[←hq.out,f.out];exact htl))
               have bg:=Dj (show fn (bh H) is.length k≠0 by
                rw[y.out];unfold fn;rw[gQ Z (by rw[←hq.out,f.out];exact htl) (by rw[←hq.out,f.out];exact hil)];have h5:=fO (M:=(reduceL M k).1) (col:=k) (row:=(reduceL M k).2.length) (by rw[o.out,←hq.out,f.out];exact htl);rw[o.out] at h5;unfold fn at h5;have e5:rR is.length t is.length=t:=by unfold rR;simp
                rw[e5];exact h5)
               refine (mE (K:=gK K k) (p:=is.length) (j:=k) (n:=N) bx bq.out (by rw[O.out];exact hil) (by omega) X.out bg.out (by omega) (by rw[O.out];exact c8) hN).mono ?_;rintro e w4 ⟨B,cb,es,rfl,bc,bn,b4⟩;have C:=Di c0 b4;have ba:=(DY w4.heap.size w4).alloc (Dt _) (.cells #[.int .i64 (k:Int)] 3);have F:=(c3.below b4).below ba
               go_wp2_with (at_builtin;go_loud (refine jD rfl Tryz.underlying72 rfl _ _ rfl w.heap.size (.slice L is.length cl) is rfl F ⟨w4.heap.size,0,none⟩ 1 k rfl ((Ec w4 3 #[.int .i64 (k:Int)]).cell 0) (by omega) (Ds C.size ba.size) ?_;intro v6 w6 bm G))
               have T:=(bc.below ba).ownI F G;have b8:=(C.alloc C.size (.cells #[.int .i64 (k:Int)] 3)).grown G (Ds C.size ba.size) fun g hg=>Ej F hg;have b7:=Dj (show bh es=(reduceL M (k+1)).1 by rw[v.out,bn.out,y.out,←z.out]);have b1:=Dj (show is++[k]=(reduceL M (k+1)).2 by rw[v.out,←z.out]);clear G;go_wp2;go_roundw
               case rel=>exact⟨k+1,B,cb,es,is++[k],by omega,by go_num,rfl,T,b7,b1,bm,b8⟩
               case measure=>simp[intOf];omega
       · obtain rfl:t=rs.length:=by omega
         have cy:decide ((rs.length:Int)<(rs.length:Int))=false:=Du (by omega);have f5:((rs.length:Int) == (rs.length:Int))=true:=by simp
         have cv:=Dj (q7 (M:=M) (k:=k) (by rw[←hq.out,←z.out];exact uo (by rw[f.out];exact hz.out)));go_wp2
         trace_state
         go_roundw
         case rel=>exact⟨k+1,_,c,rs,is,by omega,by go_num,rfl,h1.below b2,by rw[cv.out];exact hq,by rw[cv.out];exact z,hI.below b2,d5⟩
         case measure=>simp[intOf];omega
    · have cz:decide ((is.length:Int)<(rs.length:Int))=false:=Du (by omega);have dt:decide ((k:Int)<(n:Int))=true:=Dv d4
      have c7:=Dj (show reduceL M k=R by
       rw[←hR.out];have:=qZ (M:=M) (k:=k) (by rw[←hq.out,←z.out,aE];exact hil) (n-k);rw[←this];congr 1;omega)
      obtain⟨L',d9,eL,hL⟩:=hI.il
      injection eL with e1 e2 e3
      subst e1 e3;go_wp2
      go_ret2
      exact⟨A,c,rs,L,cl,by rw[←c7.out,←z.out];rfl,h1,by rw[←c7.out];exact hq,by rw[←c7.out,←z.out];exact hL,hb⟩
  · obtain rfl:k=n:=by omega
    have cy:decide ((k:Int)<(k:Int))=false:=Du (by omega);obtain⟨L',d9,eL,hL⟩:=hI.il
    injection eL with e1 e2 e3
    subst e1 e3;go_wp2
    go_ret2
    exact⟨A,c,rs,L,cl,by rw[←hR.out,←z.out];rfl,h1,by rw[←hR.out];exact hq,by rw[←hR.out,←z.out];exact hL,hb⟩
def eM (ps:List (Nat × Nat)) (f:Nat→Rat) (qs:List Rat):List Rat:=ps.foldl (fun qs p=>qs.set p.1 (f p.2)) qs
theorem di (ps:List (Nat × Nat)) (f:Nat→Rat):∀ qs,(eM ps f qs).length=qs.length:=by
 induction ps with
 | nil=>intro qs;rfl
 | cons p ps ih=>intro qs;show (eM ps f (qs.set p.1 (f p.2))).length=_;rw[ih,DH]
theorem t8 (ps:List (Nat × Nat)) (f:Nat→Rat) (k:Nat) (hc:ps.Pairwise fun p q=>p.1<q.1):∀ qs:List Rat,(∀ p∈ps,p.1<qs.length) →
 (eM ps f qs).getD k 0=if ∃ p∈ps,p.1=k then f8 ps f k else qs.getD k 0:=by
 induction ps with
 | nil=>intro qs _;rw[if_neg (by simp)];rfl
 | cons p ps ih =>
  intro qs hl;obtain⟨h1,h2⟩:=List.pairwise_cons.1 hc
  show (eM ps f (qs.set p.1 (f p.2))).getD k 0=_
  rw[ih h2 _ (fun q hq=>by rw[DH];exact hl q (DM _ hq))]
  by_cases e:p.1=k
  · rw[if_neg (by rintro ⟨q,hq,rfl⟩;have:=h1 q hq;omega),if_pos ⟨p,DN,e⟩];have hp:=hl p DN;unfold f8;rw[if_pos e,Dk,DG,if_pos e,if_pos hp];rfl
  · by_cases h3:∃ q∈ps,q.1=k
    · obtain⟨q,hq,e2⟩:=h3;rw[if_pos ⟨q,hq,e2⟩,if_pos ⟨q,DM _ hq,e2⟩]
      show _=if p.1=k then _ else _
      rw[if_neg e]
    · rw[if_neg h3,if_neg (by
       rintro ⟨q,hq,e2⟩
       rcases List.mem_cons.1 hq with rfl | hq
       · exact e e2
       · exact h3 ⟨q,hq,e2⟩),Dk,DG,if_neg e,←Dk]
theorem nu {ps:List (Nat × Nat)}{f:Nat→Rat}{qs:List Rat}{i:Nat}{p:Nat × Nat}(h:ps[i]?=some p):eM (ps.take (i+1)) f qs=(eM (ps.take i) f qs).set p.1 (f p.2):=by
 unfold eM;rw[List.take_add_one,h,List.foldl_append];rfl
theorem lZ {is:List Nat}{i x:Nat}(h:is[i]?=some x):is.zipIdx[i]?=some (x,i):=by
 rw[List.getElem?_zipIdx,h];simp
theorem AV {a b:List Rat}(hl:a.length=b.length) (h:∀ k,k<a.length→a.getD k 0=b.getD k 0):a=b:=by
 refine List.ext_getElem hl fun k h1 h2=>?_;have:=h k h1;rw[Dk,Dk,Dl h1,Dl h2] at this;exact this
theorem t7 {m c:Nat}{R:Nat→Nat→Rat}{ps:List (Nat × Nat)}(h:Red m c R ps) (f:Nat→Rat){n:Nat}(hn:c≤n):eM ps f (List.replicate n 0)=nJ n ps f:=by
 refine AV (by rw[di,it,Do]) fun k hk=>?_;rw[di,Do] at hk;rw[t8 ps f k h.col _ (fun p hp=>by rw[Do];have:=(h.lt p hp).1;omega),oM hk]
 by_cases e:∃ p∈ps,p.1=k
 · rw[if_pos e]
 · rw[if_neg e,eV (fun p hp e2=>e ⟨p,hp,e2⟩),Dk,DL,if_pos hk];rfl
def ColAt (g:Nat) (T:List Rat) (root w:World):Prop:=∃ ds:List FrD,ArrQ w g ds∧(∀ d∈ds,FV w d.v d.q)∧ds.map FrD.q=T∧Below root.heap.size root w
theorem ColAt.bel {g:Nat}{T:List Rat}{root w:World}(h:ColAt g T root w):Below root.heap.size root w:=by
 obtain⟨ds,h1,h2,h3,h4⟩:=h;exact h4
theorem ColAt.store {g k:Nat}{T:List Rat}{root w:World}(h:ColAt g T root w) (hk:k<T.length) (hg:root.heap.size≤g){n1:Bool}{A1:Option Addr}{a1:Nat}{l1:List Nat}{B1:Option Addr}{c1:Nat}{m1:List Nat}(na:Nv w A1 a1 l1) (nb:Nv w B1 c1 m1){q:Rat}(iq:QIs n1 l1 m1 q) :
 ∃ (u0 u1 u2:Value) (w9:World),w.cell? ⟨g,k*3,none⟩=some u0∧w.cell? ⟨g,k*3+1,none⟩=some u1∧w.cell? ⟨g,k*3+2,none⟩=some u2∧w.frozen? ⟨g,k*3,none⟩=false∧w.frozen? ⟨g,k*3+1,none⟩=false∧w.frozen? ⟨g,k*3+2,none⟩=false ∧
  ((w.setCell ⟨g,k*3,none⟩ (.bool n1)).setCell ⟨g,k*3+1,none⟩ (.slice A1 l1.length a1)).setCell ⟨g,k*3+2,none⟩ (.slice B1 m1.length c1)=w9∧ColAt g (T.set k q) root w9:=by
 obtain⟨ds,h1,h2,h3,h4⟩:=h;have c:k<ds.length:=by rw[←Dr (f:=FrD.q),h3];exact hk
 have b:=Dl c;obtain⟨w9,e9,l,o9⟩:=h1.set c ⟨n1,A1,a1,l1,B1,c1,m1⟩
 have j:FrD.q ⟨n1,A1,a1,l1,B1,c1,m1⟩=q:=by
  show mkRat (sg n1 (val l1)) (val m1)=q
  rw[←iq.mk]
 refine⟨_,_,_,w9,h1.cell (i:=0) b rfl,h1.cell (i:=1) b rfl,h1.cell (i:=2) b rfl,Eb h1 _,Eb h1 _,Eb h1 _,e9,_,l,fun d hd=>?_,?_,o9.to_below h4 hg h4.size⟩
 · rcases List.mem_or_eq_of_mem_set hd with hd | rfl
   · exact (h2 d hd).only_blk h1 (ArrQ.noDig ds) o9
   · rw[j];have hf:FV w (FrD.v ⟨n1,A1,a1,l1,B1,c1,m1⟩) q:=⟨n1,A1,a1,l1,B1,c1,m1,rfl,na,nb,iq⟩;exact hf.only_blk h1 (ArrQ.noDig ds) o9
 · rw[List.map_set,h3,j]
theorem ColAt.done {g:Nat}{T:List Rat}{root w:World}(h:ColAt g T root w) (hm:T.length≤9223372036854775807):∃ ds:List FrD,ds.length=T.length∧FL w (some ⟨g,0,none⟩) ds.length ds∧Hid (ds.map FrD.q=T):=by
 obtain⟨ds,h1,h2,h3,h4⟩:=h;have hl:ds.length=T.length:=by rw[←Dr (f:=FrD.q),h3]
 exact⟨ds,hl,h1.fl h2 (by omega),h3⟩
theorem oU (z:Value) (n:Nat):madeCells #[z] (n*1)=(List.replicate n z).toArray:=by
 apply Array.ext'
 apply List.ext_getElem?
 intro i;rw[Array.getElem?_toList]
 by_cases hi:i<n
 · have hs:i<(madeCells #[z] (n*1)).size:=by rw[size_madeCells];omega
   rw[Array.getElem?_eq_getElem hs]
   simp only[madeCells,Array.getElem_map,Array.getElem_range]
   have hz:(#[z]:Array Value).size=1:=rfl;rw[hz,Nat.mod_one]
   simp[hi]
 · rw[Array.getElem?_eq_none (by rw[size_madeCells];omega)]
   simp;omega
def IntA (w:World) (g:Nat) (av:List Int):Prop:=Blk w g 3 (av.map (Value.int .i64)).toArray
def BoolA (w:World) (g:Nat) (ub:List Bool):Prop:=Blk w g 4 (ub.map Value.bool).toArray
def CQ (u:Value):Prop:=∃ z,u=.int .i64 z
def Dd (u:Value):Prop:=∃ b,u=.bool b
theorem Bk (d:Int):¬ CQ (.int .u32 d):=by rintro ⟨z,h⟩;cases h
theorem Bm (d:Int):¬ Dd (.int .u32 d):=by rintro ⟨z,h⟩;cases h
theorem IntA.all (av:List Int):AllP CQ (av.map (Value.int .i64)).toArray:=AllPL.toAll (l:=av.map (Value.int .i64)) (fun u hu=>by
 obtain⟨z,_,rfl⟩:=DU.1 hu;exact⟨z,rfl⟩) rfl
theorem BoolA.all (ub:List Bool):AllP Dd (ub.map Value.bool).toArray:=AllPL.toAll (l:=ub.map Value.bool) (fun u hu=>by
 obtain⟨z,_,rfl⟩:=DU.1 hu;exact⟨z,rfl⟩) rfl
section
variable {w w':World}{g:Nat}
theorem IntA.below {av:List Int}(h:IntA w g av) (hb:Below w.heap.size w w'):IntA w' g av:=Ea h hb
theorem BoolA.below {ub:List Bool}(h:BoolA w g ub) (hb:Below w.heap.size w w'):BoolA w' g ub:=Ea h hb
theorem IntA.only {g':Nat}{av:List Int}(h:IntA w g av) (ho:Only w w' g') (hne:g≠g'):IntA w' g av:=Blk.only h ho hne
theorem BoolA.only {g':Nat}{ub:List Bool}(h:BoolA w g ub) (ho:Only w w' g') (hne:g≠g'):BoolA w' g ub:=Blk.only h ho hne
theorem IntA.cell {av:List Int}{j:Nat}{z:Int}(h:IntA w g av) (hj:av[j]?=some z):w.cell? ⟨g,j,none⟩=some (.int .i64 z):=by
 rw[D9 h,List.getElem?_toArray,Dq,hj];rfl
theorem BoolA.cell {ub:List Bool}{j:Nat}{z:Bool}(h:BoolA w g ub) (hj:ub[j]?=some z):w.cell? ⟨g,j,none⟩=some (.bool z):=by
 rw[D9 h,List.getElem?_toArray,Dq,hj];rfl
theorem IntA.set {av:List Int}(h:IntA w g av) (j:Nat) (z:Int):∃ w',w.setCell ⟨g,j,none⟩ (.int .i64 z)=w'∧IntA w' g (av.set j z)∧Only w w' g:=by
 refine⟨_,rfl,?_,(Eh w g).set _ _⟩;have h1:=Blk.set h j (.int .i64 z);unfold IntA;rw[List.map_set]
 simpa using h1
theorem BoolA.set {ub:List Bool}(h:BoolA w g ub) (j:Nat) (z:Bool):∃ w',w.setCell ⟨g,j,none⟩ (.bool z)=w'∧BoolA w' g (ub.set j z)∧Only w w' g:=by
 refine⟨_,rfl,?_,(Eh w g).set _ _⟩;have h1:=Blk.set h j (.bool z);unfold BoolA;rw[List.map_set]
 simpa using h1
theorem IntA.free {av:List Int}(h:IntA w g av) (j:Nat):w.frozen? ⟨g,j,none⟩=false:=Eb h j
theorem BoolA.free {ub:List Bool}(h:BoolA w g ub) (j:Nat):w.frozen? ⟨g,j,none⟩=false:=Eb h j
theorem FL.onlyI {av:List Int}{A:Option Addr}{c:Nat}{ds:List FrD}(h:FL w A c ds) (hB:IntA w g av) (ho:Only w w' g):FL w' A c ds :=
 ⟨h.row.only_p (P:=CQ) (fun d=>⟨0,.bool d.neg,rfl,by rintro ⟨z,h⟩;cases h⟩) hB (IntA.all av) ho,fun d hd=>(h.fv d hd).only_blk hB (fun i u hi=>Bk u (IntA.all av i _ hi)) ho⟩
theorem FL.onlyB {ub:List Bool}{A:Option Addr}{c:Nat}{ds:List FrD}(h:FL w A c ds) (hB:BoolA w g ub) (ho:Only w w' g):FL w' A c ds :=
 ⟨h.row.only_p (P:=Dd) (fun d=>⟨1,.slice d.a d.la.length d.ca,rfl,by rintro ⟨z,h⟩;cases h⟩) hB (BoolA.all ub) ho,fun d hd=>(h.fv d hd).only_blk hB (fun i u hi=>Bm u (BoolA.all ub i _ hi)) ho⟩
theorem ML.onlyI {av:List Int}{A:Option Addr}{c:Nat}{rows:List RwD}(h:ML w A c rows) (hB:IntA w g av) (ho:Only w w' g):ML w' A c rows :=
 ⟨h.row.only_p (P:=CQ) (fun r=>⟨0,r.v,rfl,by rintro ⟨z,h⟩;cases h⟩) hB (IntA.all av) ho,fun r hr=>(h.fl r hr).onlyI hB ho⟩
theorem ML.onlyB {ub:List Bool}{A:Option Addr}{c:Nat}{rows:List RwD}(h:ML w A c rows) (hB:BoolA w g ub) (ho:Only w w' g):ML w' A c rows :=
 ⟨h.row.only_p (P:=Dd) (fun r=>⟨0,r.v,rfl,by rintro ⟨z,h⟩;cases h⟩) hB (BoolA.all ub) ho,fun r hr=>(h.fl r hr).onlyB hB ho⟩
end
theorem Cz:(Tryz.prog.info? 3).map (fun i=>(i.zero,i.size,i.bytes))=some (some (.int .i64 0),1,8):=by kernel_rfl
theorem zE:(Tryz.prog.info? 4).map (fun i=>(i.zero,i.size,i.bytes))=some (some (.bool false),1,1):=by kernel_rfl
theorem xy (w:World) (n:Nat) (hn:n≤100000000000) :
 ∃ w',(Instr.makeSlice 72 (.int .i64 (n:Int)) (.int .i64 (n:Int))).run Tryz.prog w=.ok (.slice (some ⟨w.heap.size,0,none⟩) n n) w'∧IntA w' w.heap.size (List.replicate n 0)∧Below w.heap.size w w'∧w.heap.size<w'.heap.size:=by
 obtain⟨i,hi,d,c,b⟩:=info_parts Cz;have hr:=run_make (P:=Tryz.prog) w 72 3 i _ Tryz.underlying72 hi d .i64 .i64 n n (by omega) (by omega) (by rw[b];omega) (by omega);refine⟨w.alloc (.cells ((List.replicate n (0:Int)).map (Value.int .i64)).toArray 3),?_,Ec w _ _,(DY _ _).alloc (Dt _) _,by simp⟩;rw[hr,c,Int.toNat_natCast,List.map_replicate,←oU]
 rfl
theorem ue (w:World) (n:Nat) (hn:n≤100000000000) :
 ∃ w',(Instr.makeSlice 123 (.int .i64 (n:Int)) (.int .i64 (n:Int))).run Tryz.prog w=.ok (.slice (some ⟨w.heap.size,0,none⟩) n n) w'∧BoolA w' w.heap.size (List.replicate n false)∧Below w.heap.size w w'∧w.heap.size<w'.heap.size:=by
 obtain⟨i,hi,d,c,b⟩:=info_parts zE;have hr:=run_make (P:=Tryz.prog) w 123 4 i _ Tryz.underlying123 hi d .i64 .i64 n n (by omega) (by omega) (by rw[b];omega) (by omega);refine⟨w.alloc (.cells ((List.replicate n false).map Value.bool).toArray 4),?_,Ec w _ _,(DY _ _).alloc (Dt _) _,by simp⟩;rw[hr,c,Int.toNat_natCast,List.map_replicate,←oU]
 rfl
theorem FV.frd {w:World}{v:Value}{q:Rat}(h:FV w v q):∃ d:FrD,v=aZ d.neg d.a d.la.length d.ca d.b d.lb.length d.cb∧FV w d.v d.q∧Hid (d.q=q):=by
 obtain⟨n,A,ca,la,B,cb,lb,rfl,na,nb,iq⟩:=h;have e:=iq.mk;refine⟨⟨n,A,ca,la,B,cb,lb⟩,rfl,⟨n,A,ca,la,B,cb,lb,rfl,na,nb,?_⟩,e.symm⟩
 show QIs n la lb (mkRat (sg n (val la)) (val lb))
 rw[←e];exact iq
def VarQ (w:World) (g:Nat) (d:FrD):Prop:=Blk w g 28 #[.bool d.neg,.slice d.a d.la.length d.ca,.slice d.b d.lb.length d.cb]
section
variable {w w':World}{g:Nat}{d:FrD}
theorem VarQ.below (h:VarQ w g d) (hb:Below w.heap.size w w'):VarQ w' g d:=Ea h hb
theorem VarQ.only {g':Nat}(h:VarQ w g d) (ho:Only w w' g') (hne:g≠g'):VarQ w' g d:=Blk.only h ho hne
theorem VarQ.cells (h:VarQ w g d):w.cell? ⟨g,0,none⟩=some (.bool d.neg)∧w.cell? ⟨g,1,none⟩=some (.slice d.a d.la.length d.ca)∧w.cell? ⟨g,2,none⟩=some (.slice d.b d.lb.length d.cb):=⟨Blk.f0 h,Blk.f1 h,Blk.f2 h⟩
theorem VarQ.store (h:VarQ w g d) (e:FrD):∃ w9,w.cell? ⟨g,0,none⟩=some (.bool d.neg)∧w.cell? ⟨g,1,none⟩=some (.slice d.a d.la.length d.ca)∧w.cell? ⟨g,2,none⟩=some (.slice d.b d.lb.length d.cb)∧w.frozen? ⟨g,0,none⟩=false∧w.frozen? ⟨g,1,none⟩=false∧w.frozen? ⟨g,2,none⟩=false∧((w.setCell ⟨g,0,none⟩ (.bool e.neg)).setCell ⟨g,1,none⟩ (.slice e.a e.la.length e.ca)).setCell ⟨g,2,none⟩ (.slice e.b e.lb.length e.cb)=w9∧VarQ w9 g e∧Only w w9 g:=by
 obtain⟨w9,e9,h9,o9⟩:=Blk.set3 h (.bool e.neg) (.slice e.a e.la.length e.ca) (.slice e.b e.lb.length e.cb);exact⟨w9,Blk.f0 h,Blk.f1 h,Blk.f2 h,Eb h 0,Eb h 1,Eb h 2,e9,h9,o9⟩
theorem FV.onlyV {u:Value}{q:Rat}(h:FV w u q) (hB:VarQ w g d) (o:Only w w' g):FV w' u q:=h.only_blk hB (ar _ _ _ _ _ _ _) o
theorem aF (h:Blk w g 28 #[.bool false,.slice none 0 0,.slice none 0 0]) (e:FrD):∃ w9,w.cell? ⟨g,0,none⟩=some (.bool false)∧w.cell? ⟨g,1,none⟩=some (.slice none 0 0)∧w.cell? ⟨g,2,none⟩=some (.slice none 0 0)∧w.frozen? ⟨g,0,none⟩=false∧w.frozen? ⟨g,1,none⟩=false∧w.frozen? ⟨g,2,none⟩=false∧((w.setCell ⟨g,0,none⟩ (.bool e.neg)).setCell ⟨g,1,none⟩ (.slice e.a e.la.length e.ca)).setCell ⟨g,2,none⟩ (.slice e.b e.lb.length e.cb)=w9∧VarQ w9 g e∧Only w w9 g:=by
 obtain⟨w9,e9,h9,o9⟩:=Blk.set3 h (.bool e.neg) (.slice e.a e.la.length e.ca) (.slice e.b e.lb.length e.cb);exact⟨w9,Blk.f0 h,Blk.f1 h,Blk.f2 h,Eb h 0,Eb h 1,Eb h 2,e9,h9,o9⟩
end
theorem bM (w:World) (d:FrD):∃ wA wB,w.alloc (.cells #[.bool false,.slice none 0 0,.slice none 0 0] 28)=wA∧wA.cell? ⟨w.heap.size,0,none⟩=some (.bool false)∧wA.cell? ⟨w.heap.size,1,none⟩=some (.slice none 0 0)∧wA.cell? ⟨w.heap.size,2,none⟩=some (.slice none 0 0)∧wA.frozen? ⟨w.heap.size,0,none⟩=false∧wA.frozen? ⟨w.heap.size,1,none⟩=false∧wA.frozen? ⟨w.heap.size,2,none⟩=false ∧
 ((wA.setCell ⟨w.heap.size,0,none⟩ (.bool d.neg)).setCell ⟨w.heap.size,1,none⟩ (.slice d.a d.la.length d.ca)).setCell ⟨w.heap.size,2,none⟩ (.slice d.b d.lb.length d.cb)=wB∧VarQ wB w.heap.size d∧Below w.heap.size w wB∧w.heap.size<wB.heap.size:=by
 obtain⟨wA,eA,bA,lA,BA⟩:=ag w #[.bool false,.slice none 0 0,.slice none 0 0] 28;obtain⟨wB,p0,p1,p2,r0,r1,r2,eB,hB,oB⟩:=aF BA d;exact⟨wA,wB,eA,p0,p1,p2,r0,r1,r2,eB,hB,oB.to_below bA (Dt _) bA.size,Dn lA oB.size⟩
structure NdD where
 p:Int
 l:Int
def NdD.cells (d:NdD):List Value:=[.int .i64 d.p,.int .i64 d.l]
def NL (w:World) (A:Option Addr) (c:Nat) (ns:List NdD):Prop:=Srow w 2 NdD.cells A c ns
def ZL (w:World) (A:Option Addr) (c:Nat) (zs:List Int):Prop:=Srow w 1 (fun z:Int=>[Value.int .i64 z]) A c zs
theorem NL.below {w w':World}{A:Option Addr}{c:Nat}{ns:List NdD}(h:NL w A c ns) (hb:Below w.heap.size w w'):NL w' A c ns:=Srow.below h hb
theorem ZL.below {w w':World}{A:Option Addr}{c:Nat}{zs:List Int}(h:ZL w A c zs) (hb:Below w.heap.size w w'):ZL w' A c zs:=Srow.below h hb
theorem NL.len {w:World}{A:Option Addr}{c:Nat}{ns:List NdD}(h:NL w A c ns):ns.length≤c∧c≤9223372036854775807:=⟨h.1,h.2.1⟩
theorem ZL.len {w:World}{A:Option Addr}{c:Nat}{zs:List Int}(h:ZL w A c zs):zs.length≤c∧c≤9223372036854775807:=⟨h.1,h.2.1⟩
theorem ZL.at {w:World}{A:Option Addr}{c:Nat}{zs:List Int}(h:ZL w A c zs){k:Nat}(hk:k<zs.length) :
 ∃ a z,A=some a∧a.block<w.heap.size∧w.cell? (a.add k)=some (.int .i64 z)∧Hid (zs[k]?=some z):=by
 obtain⟨a,e,h1,h2⟩:=h.2.2 k hk;have h3:=h2 0 _ rfl;rw[Nat.mul_one,Nat.add_zero] at h3;exact⟨a,zs[k],e,h1,h3,Dl hk⟩
theorem NL.at {w:World}{A:Option Addr}{c:Nat}{ns:List NdD}(h:NL w A c ns){k:Nat}(hk:k<ns.length) :
 ∃ a d,A=some a∧a.block<w.heap.size∧w.cell? (a.add (k*2))=some (.int .i64 d.p)∧w.cell? ⟨(a.add (k*2)).block,(a.add (k*2)).off+1,none⟩=some (.int .i64 d.l)∧Hid (ns[k]?=some d):=by
 obtain⟨a,e,h1,h2⟩:=h.2.2 k hk;have h3:=h2 0 _ rfl;rw[Nat.add_zero] at h3;exact⟨a,ns[k],e,h1,h3,lW (a:=a.add (k*2)) (by rw[add_add];exact h2 1 _ rfl) (by decide),Dl hk⟩
def VarN (w:World) (g:Nat) (d:NdD):Prop:=Blk w g 45 #[.int .i64 d.p,.int .i64 d.l]
theorem VarN.cells {w:World}{g:Nat}{d:NdD}(h:VarN w g d):w.cell? ⟨g,0,none⟩=some (.int .i64 d.p)∧w.cell? ⟨g,1,none⟩=some (.int .i64 d.l):=⟨D9 h 0,D9 h 1⟩
theorem VarN.below {w w':World}{g:Nat}{d:NdD}(h:VarN w g d) (hb:Below w.heap.size w w'):VarN w' g d:=Ea h hb
theorem VarN.only {w w':World}{g g':Nat}{d:NdD}(h:VarN w g d) (ho:Only w w' g') (hne:g≠g'):VarN w' g d:=Blk.only h ho hne
theorem lG (w:World) (d:NdD):∃ wA wB,w.alloc (.cells #[.int .i64 0,.int .i64 0] 45)=wA∧wA.cell? ⟨w.heap.size,0,none⟩=some (.int .i64 0)∧wA.cell? ⟨w.heap.size,1,none⟩=some (.int .i64 0)∧wA.frozen? ⟨w.heap.size,0,none⟩=false∧wA.frozen? ⟨w.heap.size,1,none⟩=false ∧
 (wA.setCell ⟨w.heap.size,0,none⟩ (.int .i64 d.p)).setCell ⟨w.heap.size,1,none⟩ (.int .i64 d.l)=wB∧VarN wB w.heap.size d∧Below w.heap.size w wB∧w.heap.size<wB.heap.size:=by
 obtain⟨wA,eA,bA,lA,BA⟩:=ag w #[.int .i64 0,.int .i64 0] 45;have h1:=(BA.set 0 (.int .i64 d.p)).set 1 (.int .i64 d.l);have o1:=((Eh wA w.heap.size).set 0 (.int .i64 d.p)).set 1 (.int .i64 d.l);exact⟨wA,_,eA,BA.cell 0,BA.cell 1,BA.free 0,BA.free 1,rfl,h1,o1.to_below bA (Dt _) bA.size,Dn lA o1.size⟩
def ko (m:Int):Bool:=decide (m<0) || decide (1000000<m)
def jB (n:Nat) (d:NdD):Bool:=decide (d.p<0) || (decide ((2:Int) ^ n≤d.p) || (decide (d.l < -1099511627776) || decide (1099511627776<d.l)))
def argsE (tl:Nat) (ns:List NdD) (ms:List Int):Int :=
 if 8<ms.length∨300<ns.length then 3 else if tl≠ms.length then 2 else if ms.any ko=true∨ns.any (jB ms.length)=true then 4 else 0
theorem dP {tl:Nat}{ns:List NdD}{ms:List Int}(h:argsE tl ns ms=0):ms.length≤8∧ns.length≤300∧tl=ms.length∧(∀ m∈ms,0≤m∧m≤1000000)∧∀ d∈ns,0≤d.p∧d.p<2 ^ ms.length∧-1099511627776≤d.l∧d.l≤1099511627776:=by
 unfold argsE at h
 split at h
 · cases h
 · split at h
   · cases h
   · split at h
     · cases h
     · rename_i h1 h2 h3
       refine⟨by omega,by omega,by omega,fun m hm=>?_,fun d hd=>?_⟩
       · have:ms.any ko=false:=by
          cases e:ms.any ko with
          | false=>rfl
          | true=>exact absurd (.inl e) h3
         have:=List.any_eq_false.1 this m hm;unfold ko at this
         simp at this
         omega
       · have:ns.any (jB ms.length)=false:=by
          cases e:ns.any (jB ms.length) with
          | false=>rfl
          | true=>exact absurd (.inr e) h3
         have:=List.any_eq_false.1 this d hd;unfold jB at this
         simp at this
         omega
end Go.Proofs.YtjhkapjadfpimaaGreat
