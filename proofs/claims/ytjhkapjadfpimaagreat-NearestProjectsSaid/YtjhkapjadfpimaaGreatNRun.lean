/- Contracts of functions, for the law. -/
import Derived.Test.YtjhkapjadfpimaaGreatNVio
namespace Go.Proofs.YtjhkapjadfpimaaGreat
set_option linter.unusedVariables false
set_option linter.unusedSimpArgs false
open Go.RowKit Plain
attribute [local go_sem ↓] Go.wp_at_zero Go.wp_at_succ
set_option maxRecDepth 100000
set_option maxHeartbeats 40000000
def RetLim (r:Option Nat × Rat) (W:World) (e:Ending) (w':World):Prop:=∃ d:FrD,e=.returned (.tuple #[.int .i64 (oi r.1),B8 d.neg d.a d.la.length d.ca d.b d.lb.length d.cb])∧Hid (r.1≠none→FV w' d.v d.q∧d.q=r.2)∧Below W.heap.size W w'
theorem iG (mults rates:List Rat) (j:Nat):F5 mults rates (j+1)=if 0<rates.getD j 0∧((F5 mults rates j).1=none∨mults.getD j 0 / rates.getD j 0<(F5 mults rates j).2) then (some j,mults.getD j 0 / rates.getD j 0) else F5 mults rates j:=rfl
theorem lS {J K:Nat}{mults rates:List Rat}(hJ:0<J) (hK:0<K) (hm:QFits J mults) (hr:QFits K rates):∀ k j t,F5 mults rates k=(some j,t)→Fits (J+K) t:=by
 intro k
 induction k with
 | zero=>intro j t e;cases e
 | succ k ih =>
  intro j t e;rw[iG] at e
  split at e
  · injection e with e1 e2
    rw[←e2];exact (hm.getD hJ k).div (hr.getD hK k)
  · exact ih j t e
theorem a0c {S:Sv}{s:Sm}{ent:Value}{R:Option Addr}{cr:Nat}{rs:List FrD}{w:World}(h:SolM S s ent w) (hr:FL w R cr rs) (hl:s.dm.length=rs.length) (hfm:QFits KN (s.dm.map FrD.q)) (hfr:QFits 87381 (rs.map FrD.q)) :
 Calls Tryz.prog 74 #[.pointer (some ⟨S.gs,0,none⟩),.slice R rs.length cr] w (RetLim (F5 (s.dm.map FrD.q) (rs.map FrD.q) rs.length) w):=by
 obtain⟨w0,m8,b0,l0,B0⟩:=f8 w #[.bool false,.slice none 0 0,.slice none 0 0] 28;obtain⟨w1,n2,b1,l1,B1⟩:=f8 w0 #[.bool false,.slice none 0 0,.slice none 0 0] 28;have l6:=a1j b0 b1;have j4:=a4f B0 b1;have m6:=hr.len;obtain⟨mu,d9⟩:∃ mu,Hid (s.dm.map FrD.q=mu):=⟨_,rfl⟩;obtain⟨ra,d8⟩:∃ ra,Hid (rs.map FrD.q=ra):=⟨_,rfl⟩;have h3:=a1k hl;have d3:=a1k (show QFits KN mu by rw[←d9.out];exact hfm);have d1:=a1k (show QFits 87381 ra by rw[←d8.out];exact hfr);rw[d9.out,d8.out];have z:MaybeQ w1 w0.heap.size (F5 mu ra 0).1 (F5 mu ra 0).2:=MaybeQ.zero B1 _;have d4:=a1k (show w.heap.size≠w0.heap.size by omega);have V:=a1k (show w.heap.size≤w0.heap.size by omega);clear hl hfm hfr B1 B0;go_enter Tryz.func74,Tryz.ntmps74;go_wp2
 go_loopw [6,14] (fun v i wr=>∃ k:Nat,k≤rs.length∧i=.int .i64 (k:Int)∧v=.int .i64 (oi (F5 mu ra k).1)∧MaybeQ wr w0.heap.size (F5 mu ra k).1 (F5 mu ra k).2∧Blk wr w.heap.size 28 #[.bool false,.slice none 0 0,.slice none 0 0]∧Below w.heap.size w wr) (fun _ i _=>rs.length-(intOf i).toNat)
 case atStart=>exact⟨0,by omega,rfl,rfl,z,j4,l6⟩
 case round =>
  clear z j4;obtain⟨k,hk,rfl,rfl,z,hB,G⟩:=hrel;obtain⟨o,t,A⟩:∃ o t,Hid (F5 mu ra k=(o,t)):=⟨_,_,rfl⟩;rw[A.out] at z;rw[A.out]
  dsimp only at z ⊢
  by_cases hkl:k<rs.length
  · have n8:(k:Int)<(rs.length:Int):=by omega
    obtain⟨a,d,ea,n0,c0,c1,c2,hd,k5⟩:=(hr.below G).at hkl;rw[ea];obtain⟨wA,w4,eA,p0,p1,p2,r0,r1,r2,eB,g9,b4,l4⟩:=D5 wr d;have g3:=a1j G b4;have c8:=z.below b4;have j5:=a4f hB b4;have d6:=hd.below b4;have g0:=a1k (show ra.getD k 0=d.q by rw[←d8.out,a1l,a1r,k5.out];rfl);obtain⟨x0,x1,x2⟩:=g9.cells;obtain⟨sg,g6⟩:∃ s',Hid (D0 d.q 0=s'):=⟨_,rfl⟩;have g7:=F4 d6;rw[g6.out] at g7;go_wp2_with fail;refine g7.mono ?_;rintro e w5 ⟨rfl,b5⟩;clear g7 p0 p1 p2 r0 r1 r2 eA eB c0 c1 c2 x0 x1 x2 hd z hB;have E:=a1j g3 b5;have U:=c8.below b5;have f9:=a4f j5 b5;have h8:=g9.below b5;have j3:=d6.below b5;clear c8 j5 g9 d6
    by_cases hs0:sg≤0
    · have l3:decide (sg≤0)=true:=a1w hs0
      have x:=a1k (show F5 mu ra (k+1)=(o,t) by
       rw[iG,g0.out,if_neg fun hh=>by have h9:=cmpR_pos.2 hh.1;rw[g6.out] at h9;omega,A.out])
      clear hs0;go_wp2;go_roundw
      case rel=>exact⟨k+1,by omega,by go_num,by rw[x.out],by rw[x.out];exact U,f9,E⟩
      case measure=>simp[intOf];omega
    · have l3:decide (sg≤0)=false:=a1v hs0;have M:=a1k (show 0<d.q from cmpR_pos.1 (by rw[g6.out];omega));have h2:=a1k (show d.q≠0 from fun e=>by have h9:=M.out;rw[e] at h9;exact Rat.lt_irrefl h9);clear hs0;have hM:=h.below E;obtain⟨AM,c2,ev,c9⟩:=hM.mul.fl hM.mf;obtain⟨am,l,em,h0,h4,j2,k2,c7,k3⟩:=c9.at (k:=k) (by rw[h3.out];exact hkl);have k1:=a1k (show mu.getD k 0=l.q by rw[←d9.out,a1l,a1r,k3.out];rfl);have m1:=a1k (show s.vm=.slice (some am) s.dm.length c2 by rw[ev,em]);have n4:(k:Int)<(s.dm.length:Int):=by have:=h3.out;omega
      have f3:=a1k (show Fits KN l.q by rw[←k1.out];exact d3.out.getD (by decide) k);have f6:=a1k (show Fits 87381 d.q by rw[←g0.out];exact d1.out.getD (by decide) k);have l9:=a1k (show Fits (KN+87381) (l.q / d.q) from f3.out.div f6.out);obtain⟨w6,l8⟩:∃ w6,w6=w5:=⟨_,rfl⟩;subst l8;have j1:=hM.b;have Z:=h8;have n:=j3;have f:=c7;clear hM ev em c9 h8 j3 c7;go_upto_region 7 with fail
      go_cut [10] (fun v wx=>∃ g t,v=.pointer (some ⟨g,0,none⟩)∧VarQ wx g t∧FV wx t.v t.q∧Hid (t.q=l.q / d.q)∧Below w6.heap.size w6 wx∧w6.heap.size≤g)
      case first =>
       have bT:=a3t w6.heap.size w6
       have hS:∀ w',Below w6.heap.size w6 w'→w'.cell? ⟨wr.heap.size,0,none⟩=some (.bool d.neg)∧w'.cell? ⟨wr.heap.size,1,none⟩=some (.slice d.a d.la.length d.ca)∧w'.cell? ⟨wr.heap.size,2,none⟩=some (.slice d.b d.lb.length d.cb)∧w'.cell? ⟨S.gs,11,none⟩=some (.slice (some am) s.dm.length c2)∧w'.cell? (am.add (k*3))=some (.bool l.neg)∧w'.cell? ⟨(am.add (k*3)).block,(am.add (k*3)).off+1,none⟩=some (.slice l.a l.la.length l.ca)∧w'.cell? ⟨(am.add (k*3)).block,(am.add (k*3)).off+2,none⟩=some (.slice l.b l.lb.length l.cb)∧Below w6.heap.size w6 w':=by
        intro w' o;exact⟨(Z.below o).cells.1,(Z.below o).cells.2.1,(Z.below o).cells.2.2,by rw[←m1.out];exact (j1.below o).cells.2.2.2.2.2.2.2.2.2.2.2.1,(o.cell (by show (am.add (k*3)).block<_;rw[f7];exact h0)).trans h4,(o.cell (by show (am.add (k*3)).block<_;rw[f7];exact h0)).trans j2,(o.cell (by show (am.add (k*3)).block<_;rw[f7];exact h0)).trans k2,o⟩
       have bo:Below w6.heap.size w6 w6:=a3t _ _;have dS:Below w6.heap.size w6 w6.drew:=bo.drew;go_wp2_with fail;refine a3u ?_;refine a3v (S:=fun w'=>w'.cell? ⟨wr.heap.size,0,none⟩=some (.bool d.neg)∧w'.cell? ⟨wr.heap.size,1,none⟩=some (.slice d.a d.la.length d.ca)∧w'.cell? ⟨wr.heap.size,2,none⟩=some (.slice d.b d.lb.length d.cb)∧w'.cell? ⟨S.gs,11,none⟩=some (.slice (some am) s.dm.length c2)∧w'.cell? (am.add (k*3))=some (.bool l.neg)∧w'.cell? ⟨(am.add (k*3)).block,(am.add (k*3)).off+1,none⟩=some (.slice l.a l.la.length l.ca)∧w'.cell? ⟨(am.add (k*3)).block,(am.add (k*3)).off+2,none⟩=some (.slice l.b l.lb.length l.cb)∧Below w6.heap.size w6 w') (by kernel_rfl) (hS _ dS) (fun c=>?_);refine mX 0 1 2 3 4 5 6 7 c ?_;refine a4b (rs:=[8,12]) (by kernel_rfl) (by simp) ?_;refine a3x rfl (fun K hK=>?_) ?_
       · go_simp;have Y:Below w6.heap.size w6 w6.drew:=(a3t _ _).drew;replace f:=f.below Y;replace n:=n.below Y;replace bT:=a1j bT Y;replace bo:=a1j bo Y;have L:=P0 f n f3.out f6.out (by decide) h2.out;go_at_call 45;refine (L).mono ?_;rintro e u1 ⟨vs,rfl,N,b6⟩;replace f:=f.below b6;replace n:=n.below b6;replace bT:=a1j bT b6;replace bo:=a1j bo b6;clear L;obtain⟨gq,rfl,r,g2⟩:=N.frd;clear N;go_wp2_with fail;refine hK.out _ _ (hS _ bo) (fun c=>?_);clear hK K;(try simp only[j9]);refine P2 9 10 c ?_;refine K4 11 rfl c ?_;refine z8 12 rfl fun K hK=>?_;have d7:=bT.size;obtain⟨u2,n1,T,n7,k0⟩:=f8 u1 #[.bool false,.slice none 0 0,.slice none 0 0] 28;replace f:=f.below T;replace n:=n.below T;replace r:=r.below T;replace bT:=a1j bT T;replace bo:=a1j bo T;have hA:=k0;clear k0;go_simp;refine hK.out _ _ (hS _ bo) (fun c=>?_);clear hK K;(try simp only[j9]);refine z8 13 rfl fun K hK=>?_;have D:=d7;have j0:=r;obtain⟨u3,q0,q1,q2,f0,f1,f2,n3,m2,g4⟩:=p9 hA gq;have bT:=g4.to_below bT D bT.size;have bo:=g4.to_below bo D bo.size;have O:=r.only_blk hA (k7 _ _ _ _ _ _ _) g4;go_simp
         refine hK.out _ _ (hS _ bo) (fun c=>?_);clear hK K;(try simp only[j9]);refine K4 14 rfl c ?_;refine a4c (by kernel_rfl) ?_ _;refine a3w ?_;(try go_simp);clear c;go_wp2_with fail;go_meet;exact⟨_,gq,rfl,m2,O,g2,bT,D⟩
       refine a3x rfl (fun K hK=>?_) ?_
       · have d7:=bT.size;have c3:Below w6.heap.size w6 w6.drew:=(a3t _ _).drew;replace f:=f.below c3;replace n:=n.below c3;replace bT:=a1j bT c3;replace bo:=a1j bo c3;obtain⟨u4,n9,c4,n5,b3⟩:=f8 w6.drew #[.bool false,.slice none 0 0,.slice none 0 0] 28;replace f:=f.below c4;replace n:=n.below c4;replace bT:=a1j bT c4;replace bo:=a1j bo c4;replace b3:Blk u4 w6.heap.size 28 #[.bool false,.slice none 0 0,.slice none 0 0]:=b3;have hA:=b3;clear b3;go_simp;refine hK.out _ _ (hS _ bo) (fun c=>?_);clear hK K;(try simp only[j9]);refine z8 8 rfl fun K hK=>?_;go_simp;have L:=P0 f n f3.out f6.out (by decide) h2.out;go_at_call 45;refine (L).mono ?_;rintro e u5 ⟨vs,rfl,N,h1⟩;replace hA:=hA.keep h1;replace bT:=a1j bT h1;replace bo:=a1j bo h1;clear L;obtain⟨gq,rfl,r,g2⟩:=N.frd;clear N;go_wp2_with fail;refine hK.out _ _ (hS _ bo) (fun c=>?_);clear hK K;(try simp only[j9]);refine P2 9 10 c ?_;refine K4 11 rfl c ?_;refine z8 13 rfl fun K hK=>?_;have D:=d7;have j0:=r;obtain⟨u6,q0,q1,q2,f0,f1,f2,n6,l2,g8⟩:=p9 hA gq;have bT:=g8.to_below bT D bT.size;have bo:=g8.to_below bo D bo.size
         have O:=r.only_blk hA (k7 _ _ _ _ _ _ _) g8;go_simp;refine hK.out _ _ (hS _ bo) (fun c=>?_);clear hK K;(try simp only[j9]);refine K4 14 rfl c ?_;refine a4c (by kernel_rfl) ?_ _;refine a3w ?_;(try go_simp);clear c;go_wp2_with fail;go_meet;exact⟨_,gq,rfl,l2,O,g2,bT,D⟩
       exact a3y
      case rest =>
       obtain⟨g,s1,rfl,f5,X,c5,b7,m9⟩:=hcut;obtain⟨w7,l5⟩:∃ w7,w7=wc:=⟨_,rfl⟩;subst l5;have C:=a1j E b7;obtain⟨m,I,d2⟩:=U.below b7;have b2:=a4f f9 b7;clear U f9 j1 Z n f h4 j2 k2;have y:=a1k d2;clear d2
       have g5:=a1k (show F5 mu ra (k+1)=if 0<d.q∧(o=none∨s1.q<t) then (some k,s1.q) else (o,t) by
        rw[iG,g0.out,k1.out,A.out,c5.out])
       have m4:=a1k (show Fits (KN+87381) s1.q by rw[c5.out];exact l9.out);obtain⟨y0,y1,y2⟩:=f5.cells;obtain⟨z0,z1,z2⟩:=I.cells
       cases o with
       | none =>
        have x:=a1k (show F5 mu ra (k+1)=(some k,s1.q) by rw[g5.out,if_pos ⟨M.out,.inl rfl⟩]);obtain⟨w8,q0,q1,q2,f0,f1,f2,e8,H,o8⟩:=I.store s1;have k6:=X.onlyV I o8;have J:=Blk.only b2 o8 d4.out;have p:=o8.to_below C V.out C.size;clear I X o8 b2;go_wp2
        go_region
        go_wp2;go_roundw
        case rel=>exact⟨k+1,by omega,by go_num,by rw[x.out];rfl,by rw[x.out];exact⟨s1,H,fun _=>⟨k6.below (a3t _ _).drew,rfl⟩⟩,J,p.drew⟩
        case measure=>simp[intOf];omega
       | some j =>
        have d5:=(y.out (by simp)).1;have F:=a1k (y.out (by simp)).2
        have d0:Fits (KN+87381) m.q:=by
         rw[F.out];exact lS (by decide) (by decide) d3.out d1.out k j t A.out
        obtain⟨cc,g1⟩:∃ s',Hid (D0 s1.q m.q=s'):=⟨_,rfl⟩;have f4:=I8 X d5 m4.out d0 (by decide) (by decide);rw[g1.out] at f4;have p3:decide (oi (some j)<0)=false:=a1v (by show ¬ ((j:Nat):Int)<0;omega);clear d0;go_wp2_with fail;refine f4.mono ?_;rintro e w8 ⟨rfl,b8⟩;clear f4;have p:=a1j C b8;have l7:=f5.below b8;have H:=I.below b8;have h5:=X.below b8;have h6:=d5.below b8;have J:=a4f b2 b8;clear y0 y1 y2 z0 z1 z2 f5 I X d5 b2;obtain⟨y0,y1,y2⟩:=l7.cells
        by_cases hc0:cc<0
        · have m3:decide (cc<0)=true:=a1w hc0
          have x:=a1k (show F5 mu ra (k+1)=(some k,s1.q) by
           rw[g5.out,if_pos ⟨M.out,.inr (by rw[←F.out];exact cmpR_neg.1 (by rw[g1.out];exact hc0))⟩])
          clear hc0;obtain⟨w9,q0,q1,q2,f0,f1,f2,e9,m0,o9⟩:=H.store s1;have b9:=h5.onlyV H o9;have k4:=Blk.only J o9 d4.out;have B:=o9.to_below p V.out p.size;clear H h5 o9 h6 J;go_wp2
          go_region
          go_wp2;go_roundw
          case rel=>exact⟨k+1,by omega,by go_num,by rw[x.out];rfl,by rw[x.out];exact⟨s1,m0,fun _=>⟨b9.below (a3t _ _).drew,rfl⟩⟩,k4,B.drew⟩
          case measure=>simp[intOf];omega
        · have m3:decide (cc<0)=false:=a1v hc0
          have x:=a1k (show F5 mu ra (k+1)=(some j,t) by
           rw[g5.out,if_neg fun hh=>hc0 (by
            rcases hh.2 with h9 | h9
            · cases h9
            · rw[←F.out] at h9;rw[←g1.out];exact cmpR_neg.2 h9)])
          clear hc0;go_wp2;go_roundw
          case rel=>exact⟨k+1,by omega,by go_num,by rw[x.out],by rw[x.out];exact⟨m,H,fun _=>⟨h6,F.out⟩⟩,J,p⟩
          case measure=>simp[intOf];omega
  · obtain rfl:k=rs.length:=by omega
    have m5:decide ((rs.length:Int)<(rs.length:Int))=false:=a1v (by omega);obtain⟨m,hM,h7⟩:=z;have y:=a1k h7;clear h7;obtain⟨x0,x1,x2⟩:=hM.cells;obtain⟨w9,p0,p1,p2,r0,r1,r2,e9,h9,o9⟩:=p9 hB m;obtain⟨y0,y1,y2⟩:=h9.cells;have b9:=a1k (show o≠none→FV w9 m.v m.q∧m.q=t from fun ho=>⟨(y.out ho).1.only_blk hB (k7 _ _ _ _ _ _ _) o9,(y.out ho).2⟩);have B:=o9.to_below G (a1u _) G.size;clear hM hB;go_wp2
    go_region
    go_wp2;refine a3z (v:=.tuple #[.int .i64 (oi o),B8 m.neg m.a m.la.length m.ca m.b m.lb.length m.cb]) (by simp[results,Tryz.results74,go_sem,show w9.drew.cell? ⟨w.heap.size,0,none⟩=_ from y0,show w9.drew.cell? ⟨w.heap.size,1,none⟩=_ from y1,show w9.drew.cell? ⟨w.heap.size,2,none⟩=_ from y2]) rfl ?_;exact⟨m,by rw[A.out],fun ho=>by rw[A.out] at ho ⊢;exact⟨(b9.out ho).1.below (a3t _ _).drew,(b9.out ho).2⟩,B.drew⟩
def iF (L:Nat):Nat→List (List Nat)
 | 0=>[[]]
 | n+1=>[]::(iF L n).flatMap fun l=>(List.range L).map fun a=>a::l
theorem lQ (L n:Nat):[] ∈ iF L n:=by cases n <;> simp[iF]
theorem lO {L:Nat}:∀ {n:Nat}{l:List Nat},l.length≤n→(∀ a∈l,a<L)→l∈iF L n:=by
 intro n
 induction n with
 | zero =>
  intro l h1 h2;have:l=[]:=a2a (by omega);subst this;exact lQ _ _
 | succ n ih =>
  intro l h1 h2
  cases l with
  | nil=>exact lQ _ _
  | cons a l =>
   refine a2n _ (List.mem_flatMap.2 ⟨l,ih (by simp at h1;omega) fun b hb=>h2 b (a2n _ hb),a2v.2 ⟨a,a2u.2 (h2 a a2o),rfl⟩⟩)
theorem vR {α:Type}{p q:α→Bool}:∀ {l:List α},(∀ a∈l,p a=true→q a=true)→l.countP p≤l.countP q:=fun {l} h=>by
 induction l with
 | nil=>exact a1u _
 | cons a l ih =>
  rw[List.countP_cons,List.countP_cons];have h1:=ih fun b hb=>h b (a2n _ hb);have h2:=h a a2o
  cases hp:p a with
  | false=>simp;omega
  | true=>rw[h2 hp];simp;omega
theorem a0v {α:Type}{p q:α→Bool}{b:α}:∀ {l:List α},(∀ a∈l,p a=true→q a=true)→b∈l→p b=false→q b=true→l.countP p<l.countP q:=fun {l} h hb h1 h2=>by
 induction l with
 | nil=>cases hb
 | cons a l ih =>
  rw[List.countP_cons,List.countP_cons]
  rcases a3i.1 hb with rfl | hb
  · have h3:=vR (l:=l) fun c hc=>h c (a2n _ hc);rw[h1,h2];simp;omega
  · have h3:=ih (fun c hc=>h c (a2n _ hc)) hb;have h4:=h a a2o
    cases hp:p a with
    | false=>simp;omega
    | true=>rw[h4 hp];simp;omega
section
variable {n k:Nat}{all:List Con}{tg:List Rat}{sum m:Rat}{s:St}
def FinV (n:Nat) (all:List Con) (tg:List Rat) (sum:Rat) (A:List Nat) (D:Rat):Prop:=∃ s:St,s.active=A∧(∃ k,Okk n all tg sum s k 0)∧R8 n tg s.x=D
theorem FinV.unique {A:List Nat}{D D':Rat}(h:FinV n all tg sum A D) (h':FinV n all tg sum A D'):D=D':=by
 obtain⟨s,rfl,⟨k,hk⟩,rfl⟩:=h;obtain⟨s',e,⟨k',b⟩,rfl⟩:=h';have hp:=b.pt;rw[e] at hp;have hu:=(Pt.unique hk.li hk.pt hp).1;unfold R8;exact D3 (fun i hi=>by rw[hu i hi]) fun i hi=>by rw[hu i hi]
open Classical in
noncomputable def cntV (n:Nat) (all:List Con) (tg:List Rat) (sum:Rat) (D:Rat):Nat:=(iF all.length 8).countP fun A=>decide (∃ D',FinV n all tg sum A D'∧D<D')
theorem yA {D D':Rat}{A:List Nat}(hA:A∈iF all.length 8) (h:FinV n all tg sum A D') (hD:D<D'):cntV n all tg sum D'<cntV n all tg sum D:=by
 classical
 unfold cntV;refine a0v (b:=A) (fun B _ hB=>?_) hA ?_ ?_
 · have hB:=of_decide_eq_true hB;obtain⟨E,h1,h2⟩:=hB;exact a1w ⟨E,h1,by grind⟩
 · refine a1v fun ⟨E,h1,h2⟩=>?_;rw[h.unique h1] at h2;exact Rat.lt_irrefl h2
 · exact a1w ⟨D',h,hD⟩
structure Best (n:Nat) (all:List Con) (tg:List Rat) (sum:Rat) (s:St):Prop where
 hA:∀ a∈s.active,a<all.length
 lx:s.x.length=n
 lm:s.mults.length=s.active.length
 li:0<n→LI (s.active.length+1) n (fn (j8 n all s.active))
 pt:Pt (s.active.length+1) n (fn (j8 n all s.active)) (gt (sum::s.active.map (lst all))) (gt tg) (gt (s.level::s.mults)) (gt s.x) (fun _=>0) 0
 nn:∀ j,j<s.mults.length→0≤gt s.mults j
 ok:∀ k,k<all.length→lst all k≤ip n (gt (nrm all k)) (gt s.x)
 act:n≤8→s.active.length≤7
 fit:QFits KN s.x∧Fits KN s.level∧QFits KN s.mults
theorem Okk.entering (h:Okk n all tg sum s k 0) (k':Nat):Okk n all tg sum s k' 0 :=
 ⟨h.hA,h.lx,h.lm,h.li,⟨fun i hi=>by rw[h.pt.kkt i hi];grind,h.pt.eqs⟩,h.nn⟩
theorem Okk.best (h:Okk n all tg sum s k 0) (hf:OkS KN n all s) (ok:∀ k,k<all.length→lst all k≤ip n (gt (nrm all k)) (gt s.x)):Best n all tg sum s :=
 ⟨h.hA,h.lx,h.lm,fun _=>h.li,⟨fun i hi=>by rw[h.pt.kkt i hi];grind,h.pt.eqs⟩,h.nn,ok,fun _=>hf.la,hf.x,hf.lev,hf.mults⟩
theorem Okk.oks0 (h:ConI n all) (hn:n≤8) (ht:QFits 2 tg) (hs:Fits 2 sum) (ok:Okk n all tg sum s k 0):xK KN n all s=true:=by
 obtain⟨h1,h2⟩:=pT (y:=gt (s.level::s.mults)) (x:=gt s.x) (v:=fun _=>0) h ok.hA hn ht hs ok.li ⟨fun i hi=>by rw[ok.pt.kkt i hi];grind,ok.pt.eqs⟩;have b:s.active.length+1≤8:=a1t ok.li.le hn;refine okS_iff.2 ⟨QFits.of_gt (N:=n) (by rw[ok.lx];exact a1u _) fun i hi=>(h2 i hi).mono (by decide),(h1 0 (by omega)).mono (by decide),QFits.of_gt (N:=s.active.length) (by rw[ok.lm];exact a1u _) fun i hi=>(h1 (i+1) (by omega)).mono (by decide),ok.lx,ok.lm,by omega,ok.hA⟩
theorem wW {f : Nat} (ho : xK KN n all s = true) : jO KN n all (f + 1) s = match (x5 all s.x all.length).1 with
      | none => some (some s)
      | some k => match aZ KN n all k f s 0 with
        | none => none
        | some none => some none
        | some (some t) => jO KN n all f t := by
  show (if xK KN n all s = true then _ else none) = _
  rw [if_pos ho];rfl
theorem run_ok (h:ConI n all) (hn:n≤8) (ht:QFits 2 tg) (hs:Fits 2 sum):∀ (c f:Nat) (s:St),Okk n all tg sum s 0 0→cntV n all tg sum (R8 n tg s.x)≤c→c+10≤f →
 (jO KN n all f s=some none∧Infeas n all sum)∨∃ t,jO KN n all f s=some (some t)∧Best n all tg sum t:=by
 intro c
 induction c with
 | zero =>
  intro f s ok hc hf;obtain⟨f,rfl⟩:∃ g,f=g+1:=⟨f-1,by omega⟩;have ho:=ok.oks0 h hn ht hs;rw[wW ho];have hw:=fC all s.x all.length;obtain⟨o,D,b⟩:∃ o D,x5 all s.x all.length=(o,D):=⟨_,_,rfl⟩;rw[b] at hw ⊢
  cases o with
  | none=>exact .inr ⟨s,rfl,ok.best (okS_iff.1 ho) fun k hk=>by rw[←O9 (h.len.nrm hk) ok.lx];exact hw k hk⟩
  | some k =>
   have j:s.active.length+1≤8:=a1t ok.li.le hn;have hx:ip n (gt (nrm all k)) (gt s.x)<lst all k:=by rw[←O9 (h.len.nrm hw.1) ok.lx];exact hw.2
   rcases sat_ok h hw.1 hn ht hs 8 f s 0 (by omega) (by omega) (ok.entering k) Rat.le_refl (Fits.zero (by decide)) hx with ⟨h1,h2⟩ | ⟨t,h1,h2,h3⟩
   · dsimp only;rw[h1];exact .inl ⟨rfl,h2⟩
   · exfalso
     rw[yL] at h3;have d:t.active.length+1≤8:=a1t (h2 0).li.le hn;have:=yA (lO (by omega) (h2 0).hA) ⟨t,rfl,⟨0,h2 0⟩,rfl⟩ h3;omega
 | succ c ih =>
  intro f s ok hc hf;obtain⟨f,rfl⟩:∃ g,f=g+1:=⟨f-1,by omega⟩;have ho:=ok.oks0 h hn ht hs;rw[wW ho];have hw:=fC all s.x all.length;obtain⟨o,D,b⟩:∃ o D,x5 all s.x all.length=(o,D):=⟨_,_,rfl⟩;rw[b] at hw ⊢
  cases o with
  | none=>exact .inr ⟨s,rfl,ok.best (okS_iff.1 ho) fun k hk=>by rw[←O9 (h.len.nrm hk) ok.lx];exact hw k hk⟩
  | some k =>
   have j:s.active.length+1≤8:=a1t ok.li.le hn;have hx:ip n (gt (nrm all k)) (gt s.x)<lst all k:=by rw[←O9 (h.len.nrm hw.1) ok.lx];exact hw.2
   rcases sat_ok h hw.1 hn ht hs 8 f s 0 (by omega) (by omega) (ok.entering k) Rat.le_refl (Fits.zero (by decide)) hx with ⟨h1,h2⟩ | ⟨t,h1,h2,h3⟩
   · dsimp only;rw[h1];exact .inl ⟨rfl,h2⟩
   · dsimp only;rw[h1]
     rw[yL] at h3;have d:t.active.length+1≤8:=a1t (h2 0).li.le hn;have h4:=yA (lO (by omega) (h2 0).hA) ⟨t,rfl,⟨0,h2 0⟩,rfl⟩ h3;exact ih f t (h2 0) (by omega) (by omega)
theorem sm_const (n:Nat) (c:Rat):sm n (fun _=>c)=(n:Rat)*c:=by
 induction n with
 | zero=>show (0:Rat)=_;simp
 | succ n ih =>
  show sm n (fun _=>c)+c=_
  rw[ih,Rat.natCast_add]
  grind
theorem V7 (l:List Rat):o5 l=sm l.length (gt l):=sW l
theorem start_ok (hn0:0<n) (hl:tg.length=n):Okk n all tg sum (T7 tg sum n) 0 0:=by
 have d:(n:Rat)≠0:=by
  intro e;have:(n:Rat)=((0:Nat):Rat):=by rw[e];rfl
  have:=Rat.natCast_inj.1 this;omega
 have hx:∀ i,i<n→gt (T7 tg sum n).x i=gt tg i+(sum-o5 tg) / (n:Rat):=fun i hi=>by
  show gt (tg.map fun q=>q+(sum-o5 tg) / (n:Rat)) i=_
  unfold gt;rw[p7 0 (by simpa [hl] using hi),p7 0 (by omega),List.getElem_map]
 refine⟨fun a ha=>(by cases ha),(by show (tg.map _).length=n;rw[a1s,hl]),rfl,?_,⟨fun i hi=>?_,fun j hj=>?_⟩,fun j hj=>(by cases hj)⟩
 · intro c hc j hj;have b:j=0:=by have:j<0+1:=hj;omega
   subst b;have h1:=hc 0 hn0;have h2:(0:Rat)+c 0*fn (j8 n all []) 0 0=0:=h1;rw[S7 n all [] hn0] at h2
   grind
 · rw[hx i hi];have h2:lc ((T7 tg sum n).active.length+1) (gt ((T7 tg sum n).level::(T7 tg sum n).mults)) (fn (j8 n all (T7 tg sum n).active)) i=0+(sum-o5 tg) / (n:Rat)*fn (j8 n all []) 0 i:=rfl;rw[h2,S7 n all [] hi];grind
 · have b:j=0:=by have:j<0+1:=hj;omega
   subst b
   show ip n (fn (j8 n all []) 0) (gt (T7 tg sum n).x)=sum
   rw[D3 (a':=fun _=>1) (b':=fun i=>gt tg i+(sum-o5 tg) / (n:Rat)) (fun i hi=>S7 n all [] hi) hx];unfold ip;rw[j7 (g:=fun i=>gt tg i+(sum-o5 tg) / (n:Rat)) (fun i _=>by grind),bK,sm_const,←hl,←V7,hl]
   grind
theorem proj_ok (h:ConI n all) (hn:n≤8) (ht:QFits 2 tg) (hs:Fits 2 sum) (hl:tg.length=n):∃ f,(fN KN all tg sum n f=some none∧Infeas n all sum)∨∃ t,fN KN all tg sum n f=some (some t)∧Best n all tg sum t:=by
 by_cases h0:n=0
 · subst h0;have l:tg=[]:=a2a hl;subst l;refine⟨0,?_⟩;unfold fN;rw[if_pos rfl];have hw:=fC all [] all.length;obtain⟨o,D,d⟩:∃ o D,x5 all [] all.length=(o,D):=⟨_,_,rfl⟩;rw[d] at hw ⊢;have b:o5 ([]:List Rat)=0:=rfl;have c:∀ k,k<all.length→F8 (nrm all k) []=0:=fun k hk=>by rw[O9 (n:=0) (h.len.nrm hk) rfl];rfl
   cases o with
   | none =>
    by_cases hz:sum-o5 ([]:List Rat)=0
    · rw[if_pos ⟨hz,rfl⟩];refine .inr ⟨_,rfl,⟨fun a ha=>(by cases ha),rfl,rfl,fun h=>(by omega),⟨fun i hi=>(by omega),fun j hj=>?_⟩,fun j hj=>(by cases hj),fun k hk=>?_,fun _=>(by decide:(0:Nat)≤7),fun q hq=>(by cases hq),Fits.zero (by decide),fun q hq=>(by cases hq)⟩⟩
      · have m:j=0:=by have:j<0+1:=hj;omega
        subst m
        show (0:Rat)=sum
        rw[b] at hz;grind
      · have:=hw k hk;rw[c k hk] at this;exact this
    · rw[if_neg fun hh=>hz hh.1];refine .inl ⟨rfl,fun u hu h1 _=>hz ?_⟩;have h2:(0:Rat)=sum:=h1;rw[b];grind
   | some k =>
    rw[if_neg fun hh=>by cases hh.2];refine .inl ⟨rfl,fun u hu _ h2=>?_⟩;have h3:=h2 k hw.1;have h4:=hw.2;rw[c k hw.1] at h4;have h5:lst all k≤0:=h3
    grind
 · have g:=start_ok (all:=all) (sum:=sum) (show 0<n by omega) hl;refine⟨cntV n all tg sum (R8 n tg (T7 tg sum n).x)+10,?_⟩;unfold fN;rw[if_neg h0];exact run_ok h hn ht hs _ _ _ g (a1u _) (a1u _)
end
end Go.Proofs.YtjhkapjadfpimaaGreat
