/- Contracts of functions, for the law. -/
import Derived.Test.YtjhkapjadfpimaaGreatNVio
namespace Go.Proofs.YtjhkapjadfpimaaGreat
set_option linter.unusedVariables false
set_option linter.unusedSimpArgs false
open Go.RowKit Plain
attribute [local go_sem ↓] Go.wp_at_zero Go.wp_at_succ
set_option maxRecDepth 100000
set_option maxHeartbeats 40000000
def CK (r:Option Nat × Rat) (W:World) (e:Ending) (w':World):Prop:=∃ d:FrD,e=.returned (.tuple #[.int .i64 (oi r.1),aZ d.neg d.a d.la.length d.ca d.b d.lb.length d.cb])∧Hid (r.1≠none→FV w' d.v d.q∧d.q=r.2)∧Below W.heap.size W w'
theorem mJ (mults rates:List Rat) (j:Nat):cu mults rates (j+1)=if 0<rates.getD j 0∧((cu mults rates j).1=none∨mults.getD j 0 / rates.getD j 0<(cu mults rates j).2) then (some j,mults.getD j 0 / rates.getD j 0) else cu mults rates j:=rfl
theorem oX {J K:Nat}{mults rates:List Rat}(hJ:0<J) (hK:0<K) (hm:QFits J mults) (hr:QFits K rates):∀ k j t,cu mults rates k=(some j,t)→Fits (J+K) t:=by
 intro k
 induction k with
 | zero=>intro j t e;cases e
 | succ k ih =>
  intro j t e;rw[mJ] at e
  split at e
  · injection e with e1 e2
    rw[←e2];exact (hm.getD hJ k).div (hr.getD hK k)
  · exact ih j t e
theorem xA {S:Sv}{s:Sm}{ent:Value}{R:Option Addr}{cr:Nat}{rs:List FrD}{w:World}(h:SolM S s ent w) (hr:FL w R cr rs) (hl:s.dm.length=rs.length) (hfm:QFits KN (s.dm.map FrD.q)) (hfr:QFits 87381 (rs.map FrD.q)) :
 Calls Tryz.prog 74 #[.pointer (some ⟨S.gs,0,none⟩),.slice R rs.length cr] w (CK (cu (s.dm.map FrD.q) (rs.map FrD.q) rs.length) w):=by
 obtain⟨w0,g8,b0,l0,B0⟩:=ag w #[.bool false,.slice none 0 0,.slice none 0 0] 28;obtain⟨w1,g9,b1,l1,B1⟩:=ag w0 #[.bool false,.slice none 0 0,.slice none 0 0] 28;have fz:=Di b0 b1;have dp:=Ea B0 b1;have g3:=hr.len;obtain⟨mu,d3⟩:∃ mu,Hid (s.dm.map FrD.q=mu):=⟨_,rfl⟩;obtain⟨ra,ch⟩:∃ ra,Hid (rs.map FrD.q=ra):=⟨_,rfl⟩;have d4:=Dj hl;have bg:=Dj (show QFits KN mu by rw[←d3.out];exact hfm);have bd:=Dj (show QFits 87381 ra by rw[←ch.out];exact hfr);rw[d3.out,ch.out];have z:MaybeQ w1 w0.heap.size (cu mu ra 0).1 (cu mu ra 0).2:=MaybeQ.zero B1 _;have bf:=Dj (show w.heap.size≠w0.heap.size by omega);have U:=Dj (show w.heap.size≤w0.heap.size by omega);clear hl hfm hfr B1 B0;go_enter Tryz.func74,Tryz.ntmps74;go_wp2
 go_loopw [6,14] (fun v i wr=>∃ k:Nat,k≤rs.length∧i=.int .i64 (k:Int)∧v=.int .i64 (oi (cu mu ra k).1)∧MaybeQ wr w0.heap.size (cu mu ra k).1 (cu mu ra k).2∧Blk wr w.heap.size 28 #[.bool false,.slice none 0 0,.slice none 0 0]∧Below w.heap.size w wr) (fun _ i _=>rs.length-(intOf i).toNat)
 case atStart=>exact⟨0,by omega,rfl,rfl,z,dp,fz⟩
 case round =>
  clear z dp;obtain⟨k,hk,rfl,rfl,z,hB,F⟩:=hrel;obtain⟨o,t,D⟩:∃ o t,Hid (cu mu ra k=(o,t)):=⟨_,_,rfl⟩;rw[D.out] at z;rw[D.out]
  dsimp only at z ⊢
  by_cases hkl:k<rs.length
  · have g7:(k:Int)<(rs.length:Int):=by omega
    obtain⟨a,d,ea,gb,c0,c1,c2,hd,f4⟩:=(hr.below F).at hkl;rw[ea];obtain⟨wA,w4,eA,p0,p1,p2,r0,r1,r2,eB,cs,b4,l4⟩:=bM wr d;have cm:=Di F b4;have bn:=z.below b4;have d8:=Ea hB b4;have c4:=hd.below b4;have c8:=Dj (show ra.getD k 0=d.q by rw[←ch.out,Dk,Dq,f4.out];rfl);obtain⟨x0,x1,x2⟩:=cs.cells;obtain⟨sg,cq⟩:∃ s',Hid (bH d.q 0=s'):=⟨_,rfl⟩;have d0:=ct c4;rw[cq.out] at d0;go_wp2_with fail;refine d0.mono ?_;rintro e w5 ⟨rfl,b5⟩;clear d0 p0 p1 p2 r0 r1 r2 eA eB c0 c1 c2 x0 x1 x2 hd z hB;have C:=Di cm b5;have J:=bn.below b5;have cg:=Ea d8 b5;have dk:=cs.below b5;have f3:=c4.below b5;clear bn d8 cs c4
    by_cases hs0:sg≤0
    · have fv:decide (sg≤0)=true:=Dv hs0
      have p:=Dj (show cu mu ra (k+1)=(o,t) by
       rw[mJ,c8.out,if_neg fun hh=>by have h9:=cmpR_pos.2 hh.1;rw[cq.out] at h9;omega,D.out])
      clear hs0;go_wp2;go_roundw
      case rel=>exact⟨k+1,by omega,by go_num,by rw[p.out],by rw[p.out];exact J,cg,C⟩
      case measure=>simp[intOf];omega
    · have fv:decide (sg≤0)=false:=Du hs0;have T:=Dj (show 0<d.q from cmpR_pos.1 (by rw[cq.out];omega));have db:=Dj (show d.q≠0 from fun e=>by have h9:=T.out;rw[e] at h9;exact Rat.lt_irrefl h9);clear hs0;have hM:=h.below C;obtain⟨AM,c2,ev,bx⟩:=hM.mul.fl hM.mf;obtain⟨am,l,em,c5,dt,d6,d5,bv,f9⟩:=bx.at (k:=k) (by rw[d4.out];exact hkl);have dr:=Dj (show mu.getD k 0=l.q by rw[←d3.out,Dk,Dq,f9.out];rfl);have fq:=Dj (show s.vm=.slice (some am) s.dm.length c2 by rw[ev,em]);have gv:(k:Int)<(s.dm.length:Int):=by have:=d4.out;omega
      have c7:=Dj (show Fits KN l.q by rw[←dr.out];exact bg.out.getD (by decide) k);have cd:=Dj (show Fits 87381 d.q by rw[←c8.out];exact bd.out.getD (by decide) k);have fx:=Dj (show Fits (KN+87381) (l.q / d.q) from c7.out.div cd.out);obtain⟨w6,f6⟩:∃ w6,w6=w5:=⟨_,rfl⟩;subst f6;have dq:=hM.b;have bc:=dk;have n:=f3;have f:=bv;clear hM ev em bx dk f3 bv;go_upto_region 7 with fail
      go_cut [10] (fun v wx=>∃ g t,v=.pointer (some ⟨g,0,none⟩)∧VarQ wx g t∧FV wx t.v t.q∧Hid (t.q=l.q / d.q)∧Below w6.heap.size w6 wx∧w6.heap.size≤g)
      case first =>
       have bT:=DY w6.heap.size w6
       have hS:∀ w',Below w6.heap.size w6 w'→w'.cell? ⟨wr.heap.size,0,none⟩=some (.bool d.neg)∧w'.cell? ⟨wr.heap.size,1,none⟩=some (.slice d.a d.la.length d.ca)∧w'.cell? ⟨wr.heap.size,2,none⟩=some (.slice d.b d.lb.length d.cb)∧w'.cell? ⟨S.gs,11,none⟩=some (.slice (some am) s.dm.length c2)∧w'.cell? (am.add (k*3))=some (.bool l.neg)∧w'.cell? ⟨(am.add (k*3)).block,(am.add (k*3)).off+1,none⟩=some (.slice l.a l.la.length l.ca)∧w'.cell? ⟨(am.add (k*3)).block,(am.add (k*3)).off+2,none⟩=some (.slice l.b l.lb.length l.cb)∧Below w6.heap.size w6 w':=by
        intro w' o;exact⟨(bc.below o).cells.1,(bc.below o).cells.2.1,(bc.below o).cells.2.2,by rw[←fq.out];exact (dq.below o).cells.2.2.2.2.2.2.2.2.2.2.2.1,(o.cell (by show (am.add (k*3)).block<_;rw[ac];exact c5)).trans dt,(o.cell (by show (am.add (k*3)).block<_;rw[ac];exact c5)).trans d6,(o.cell (by show (am.add (k*3)).block<_;rw[ac];exact c5)).trans d5,o⟩
       have bo:Below w6.heap.size w6 w6:=DY _ _;have dS:Below w6.heap.size w6 w6.drew:=bo.drew;go_wp2_with fail;refine DZ ?_;refine D0 (S:=fun w'=>w'.cell? ⟨wr.heap.size,0,none⟩=some (.bool d.neg)∧w'.cell? ⟨wr.heap.size,1,none⟩=some (.slice d.a d.la.length d.ca)∧w'.cell? ⟨wr.heap.size,2,none⟩=some (.slice d.b d.lb.length d.cb)∧w'.cell? ⟨S.gs,11,none⟩=some (.slice (some am) s.dm.length c2)∧w'.cell? (am.add (k*3))=some (.bool l.neg)∧w'.cell? ⟨(am.add (k*3)).block,(am.add (k*3)).off+1,none⟩=some (.slice l.a l.la.length l.ca)∧w'.cell? ⟨(am.add (k*3)).block,(am.add (k*3)).off+2,none⟩=some (.slice l.b l.lb.length l.cb)∧Below w6.heap.size w6 w') (by kernel_rfl) (hS _ dS) (fun c=>?_);refine pE 0 1 2 3 4 5 6 7 c ?_;refine D6 (rs:=[8,12]) (by kernel_rfl) (by simp) ?_;refine D2 rfl (fun K hK=>?_) ?_
       · go_simp;have b9:Below w6.heap.size w6 w6.drew:=(DY _ _).drew;replace f:=f.below b9;replace n:=n.below b9;replace bT:=Di bT b9;replace bo:=Di bo b9;have L:=fw f n c7.out cd.out (by decide) db.out;go_at_call 45;refine (L).mono ?_;rintro e u1 ⟨vs,rfl,O,Z⟩;replace f:=f.below Z;replace n:=n.below Z;replace bT:=Di bT Z;replace bo:=Di bo Z;clear L;obtain⟨gq,rfl,x,cz⟩:=O.frd;clear O;go_wp2_with fail;refine hK.out _ _ (hS _ bo) (fun c=>?_);clear hK K;(try simp only[aq]);refine fA 9 10 c ?_;refine dQ 11 rfl c ?_;refine aV 12 rfl fun K hK=>?_;have d1:=bT.size;obtain⟨u2,gm,X,gc,d7⟩:=ag u1 #[.bool false,.slice none 0 0,.slice none 0 0] 28;replace f:=f.below X;replace n:=n.below X;replace x:=x.below X;replace bT:=Di bT X;replace bo:=Di bo X;have hA:=d7;clear d7;go_simp;refine hK.out _ _ (hS _ bo) (fun c=>?_);clear hK K;(try simp only[aq]);refine aV 13 rfl fun K hK=>?_;have A:=d1;have dx:=x;obtain⟨u3,q0,q1,q2,f0,f1,f2,gk,f5,cx⟩:=aF hA gq;have bT:=cx.to_below bT A bT.size;have bo:=cx.to_below bo A bo.size;have N:=x.only_blk hA (ar _ _ _ _ _ _ _) cx;go_simp
         refine hK.out _ _ (hS _ bo) (fun c=>?_);clear hK K;(try simp only[aq]);refine dQ 14 rfl c ?_;refine D7 (by kernel_rfl) ?_ _;refine D1 ?_;(try go_simp);clear c;go_wp2_with fail;go_meet;exact⟨_,gq,rfl,f5,N,cz,bT,A⟩
       refine D2 rfl (fun K hK=>?_) ?_
       · have d1:=bT.size;have b6:Below w6.heap.size w6 w6.drew:=(DY _ _).drew;replace f:=f.below b6;replace n:=n.below b6;replace bT:=Di bT b6;replace bo:=Di bo b6;obtain⟨u4,gp,Y,g5,b3⟩:=ag w6.drew #[.bool false,.slice none 0 0,.slice none 0 0] 28;replace f:=f.below Y;replace n:=n.below Y;replace bT:=Di bT Y;replace bo:=Di bo Y;replace b3:Blk u4 w6.heap.size 28 #[.bool false,.slice none 0 0,.slice none 0 0]:=b3;have hA:=b3;clear b3;go_simp;refine hK.out _ _ (hS _ bo) (fun c=>?_);clear hK K;(try simp only[aq]);refine aV 8 rfl fun K hK=>?_;go_simp;have L:=fw f n c7.out cd.out (by decide) db.out;go_at_call 45;refine (L).mono ?_;rintro e u5 ⟨vs,rfl,O,cy⟩;replace hA:=hA.keep cy;replace bT:=Di bT cy;replace bo:=Di bo cy;clear L;obtain⟨gq,rfl,x,cz⟩:=O.frd;clear O;go_wp2_with fail;refine hK.out _ _ (hS _ bo) (fun c=>?_);clear hK K;(try simp only[aq]);refine fA 9 10 c ?_;refine dQ 11 rfl c ?_;refine aV 13 rfl fun K hK=>?_;have A:=d1;have dx:=x;obtain⟨u6,q0,q1,q2,f0,f1,f2,gr,fm,d2⟩:=aF hA gq;have bT:=d2.to_below bT A bT.size;have bo:=d2.to_below bo A bo.size
         have N:=x.only_blk hA (ar _ _ _ _ _ _ _) d2;go_simp;refine hK.out _ _ (hS _ bo) (fun c=>?_);clear hK K;(try simp only[aq]);refine dQ 14 rfl c ?_;refine D7 (by kernel_rfl) ?_ _;refine D1 ?_;(try go_simp);clear c;go_wp2_with fail;go_meet;exact⟨_,gq,rfl,fm,N,cz,bT,A⟩
       exact D3
      case rest =>
       obtain⟨g,s1,rfl,c9,M,bq,b7,g6⟩:=hcut;obtain⟨w7,ft⟩:∃ w7,w7=wc:=⟨_,rfl⟩;subst ft;have E:=Di C b7;obtain⟨m,H,bm⟩:=J.below b7;have b2:=Ea cg b7;clear J cg dq bc n f dt d6 d5;have y:=Dj bm;clear bm
       have cv:=Dj (show cu mu ra (k+1)=if 0<d.q∧(o=none∨s1.q<t) then (some k,s1.q) else (o,t) by
        rw[mJ,c8.out,dr.out,D.out,bq.out])
       have fs:=Dj (show Fits (KN+87381) s1.q by rw[bq.out];exact fx.out);obtain⟨y0,y1,y2⟩:=c9.cells;obtain⟨z0,z1,z2⟩:=H.cells
       cases o with
       | none =>
        have p:=Dj (show cu mu ra (k+1)=(some k,s1.q) by rw[cv.out,if_pos ⟨T.out,.inl rfl⟩]);obtain⟨w8,q0,q1,q2,f0,f1,f2,e8,I,o8⟩:=H.store s1;have fb:=M.onlyV H o8;have V:=Blk.only b2 o8 bf.out;have r:=o8.to_below E U.out E.size;clear H M o8 b2;go_wp2
        go_region
        go_wp2;go_roundw
        case rel=>exact⟨k+1,by omega,by go_num,by rw[p.out];rfl,by rw[p.out];exact⟨s1,I,fun _=>⟨fb.below (DY _ _).drew,rfl⟩⟩,V,r.drew⟩
        case measure=>simp[intOf];omega
       | some j =>
        have cl:=(y.out (by simp)).1;have G:=Dj (y.out (by simp)).2
        have bs:Fits (KN+87381) m.q:=by
         rw[G.out];exact oX (by decide) (by decide) bg.out bd.out k j t D.out
        obtain⟨cc,c3⟩:∃ s',Hid (bH s1.q m.q=s'):=⟨_,rfl⟩;have bz:=dz M cl fs.out bs (by decide) (by decide);rw[c3.out] at bz;have gx:decide (oi (some j)<0)=false:=Du (by show ¬ ((j:Nat):Int)<0;omega);clear bs;go_wp2_with fail;refine bz.mono ?_;rintro e w8 ⟨rfl,b8⟩;clear bz;have r:=Di E b8;have fr:=c9.below b8;have I:=H.below b8;have d9:=M.below b8;have dh:=cl.below b8;have V:=Ea b2 b8;clear y0 y1 y2 z0 z1 z2 c9 H M cl b2;obtain⟨y0,y1,y2⟩:=fr.cells
        by_cases hc0:cc<0
        · have g0:decide (cc<0)=true:=Dv hc0
          have p:=Dj (show cu mu ra (k+1)=(some k,s1.q) by
           rw[cv.out,if_pos ⟨T.out,.inr (by rw[←G.out];exact cmpR_neg.1 (by rw[c3.out];exact hc0))⟩])
          clear hc0;obtain⟨w9,q0,q1,q2,f0,f1,f2,e9,g2,o9⟩:=I.store s1;have bb:=d9.onlyV I o9;have g1:=Blk.only V o9 bf.out;have B:=o9.to_below r U.out r.size;clear I d9 o9 dh V;go_wp2
          go_region
          go_wp2;go_roundw
          case rel=>exact⟨k+1,by omega,by go_num,by rw[p.out];rfl,by rw[p.out];exact⟨s1,g2,fun _=>⟨bb.below (DY _ _).drew,rfl⟩⟩,g1,B.drew⟩
          case measure=>simp[intOf];omega
        · have g0:decide (cc<0)=false:=Du hc0
          have p:=Dj (show cu mu ra (k+1)=(some j,t) by
           rw[cv.out,if_neg fun hh=>hc0 (by
            rcases hh.2 with h9 | h9
            · cases h9
            · rw[←G.out] at h9;rw[←c3.out];exact cmpR_neg.2 h9)])
          clear hc0;go_wp2;go_roundw
          case rel=>exact⟨k+1,by omega,by go_num,by rw[p.out],by rw[p.out];exact⟨m,I,fun _=>⟨dh,G.out⟩⟩,V,r⟩
          case measure=>simp[intOf];omega
  · obtain rfl:k=rs.length:=by omega
    have g4:decide ((rs.length:Int)<(rs.length:Int))=false:=Du (by omega);obtain⟨m,hM,ds⟩:=z;have y:=Dj ds;clear ds;obtain⟨x0,x1,x2⟩:=hM.cells;obtain⟨w9,p0,p1,p2,r0,r1,r2,e9,h9,o9⟩:=aF hB m;obtain⟨y0,y1,y2⟩:=h9.cells;have bb:=Dj (show o≠none→FV w9 m.v m.q∧m.q=t from fun ho=>⟨(y.out ho).1.only_blk hB (ar _ _ _ _ _ _ _) o9,(y.out ho).2⟩);have B:=o9.to_below F (Dt _) F.size;clear hM hB;go_wp2
    go_region
    go_wp2;refine D4 (v:=.tuple #[.int .i64 (oi o),aZ m.neg m.a m.la.length m.ca m.b m.lb.length m.cb]) (by simp[results,Tryz.results74,go_sem,show w9.drew.cell? ⟨w.heap.size,0,none⟩=_ from y0,show w9.drew.cell? ⟨w.heap.size,1,none⟩=_ from y1,show w9.drew.cell? ⟨w.heap.size,2,none⟩=_ from y2]) rfl ?_;exact⟨m,by rw[D.out],fun ho=>by rw[D.out] at ho ⊢;exact⟨(bb.out ho).1.below (DY _ _).drew,(bb.out ho).2⟩,B.drew⟩
def mI (L:Nat):Nat→List (List Nat)
 | 0=>[[]]
 | n+1=>[]::(mI L n).flatMap fun l=>(List.range L).map fun a=>a::l
theorem oV (L n:Nat):[] ∈ mI L n:=by cases n <;> simp[mI]
theorem oT {L:Nat}:∀ {n:Nat}{l:List Nat},l.length≤n→(∀ a∈l,a<L)→l∈mI L n:=by
 intro n
 induction n with
 | zero =>
  intro l h1 h2;have:l=[]:=Dz (by omega);subst this;exact oV _ _
 | succ n ih =>
  intro l h1 h2
  cases l with
  | nil=>exact oV _ _
  | cons a l =>
   refine DM _ (List.mem_flatMap.2 ⟨l,ih (by simp at h1;omega) fun b hb=>h2 b (DM _ hb),DU.2 ⟨a,DT.2 (h2 a DN),rfl⟩⟩)
theorem uw {α:Type}{p q:α→Bool}:∀ {l:List α},(∀ a∈l,p a=true→q a=true)→l.countP p≤l.countP q:=fun {l} h=>by
 induction l with
 | nil=>exact Dt _
 | cons a l ih =>
  rw[List.countP_cons,List.countP_cons];have h1:=ih fun b hb=>h b (DM _ hb);have h2:=h a DN
  cases hp:p a with
  | false=>simp;omega
  | true=>rw[h2 hp];simp;omega
theorem xT {α:Type}{p q:α→Bool}{b:α}:∀ {l:List α},(∀ a∈l,p a=true→q a=true)→b∈l→p b=false→q b=true→l.countP p<l.countP q:=fun {l} h hb h1 h2=>by
 induction l with
 | nil=>cases hb
 | cons a l ih =>
  rw[List.countP_cons,List.countP_cons]
  rcases List.mem_cons.1 hb with rfl | hb
  · have h3:=uw (l:=l) fun c hc=>h c (DM _ hc);rw[h1,h2];simp;omega
  · have h3:=ih (fun c hc=>h c (DM _ hc)) hb;have h4:=h a DN
    cases hp:p a with
    | false=>simp;omega
    | true=>rw[h4 hp];simp;omega
section
variable {n k:Nat}{all:List Con}{tg:List Rat}{sum m:Rat}{s:St}
def FinV (n:Nat) (all:List Con) (tg:List Rat) (sum:Rat) (A:List Nat) (D:Rat):Prop:=∃ s:St,s.active=A∧(∃ k,Okk n all tg sum s k 0)∧f7 n tg s.x=D
theorem FinV.unique {A:List Nat}{D D':Rat}(h:FinV n all tg sum A D) (h':FinV n all tg sum A D'):D=D':=by
 obtain⟨s,rfl,⟨k,hk⟩,rfl⟩:=h;obtain⟨s',e,⟨k',b⟩,rfl⟩:=h';have hp:=b.pt;rw[e] at hp;have hu:=(Pt.unique hk.li hk.pt hp).1;unfold f7;exact bK (fun i hi=>by rw[hu i hi]) fun i hi=>by rw[hu i hi]
open Classical in
noncomputable def cntV (n:Nat) (all:List Con) (tg:List Rat) (sum:Rat) (D:Rat):Nat:=(mI all.length 8).countP fun A=>decide (∃ D',FinV n all tg sum A D'∧D<D')
theorem vO {D D':Rat}{A:List Nat}(hA:A∈mI all.length 8) (h:FinV n all tg sum A D') (hD:D<D'):cntV n all tg sum D'<cntV n all tg sum D:=by
 classical
 unfold cntV;refine xT (b:=A) (fun B _ hB=>?_) hA ?_ ?_
 · have hB:=of_decide_eq_true hB;obtain⟨E,h1,h2⟩:=hB;exact Dv ⟨E,h1,by grind⟩
 · refine Du fun ⟨E,h1,h2⟩=>?_;rw[h.unique h1] at h2;exact Rat.lt_irrefl h2
 · exact Dv ⟨D',h,hD⟩
structure Best (n:Nat) (all:List Con) (tg:List Rat) (sum:Rat) (s:St):Prop where
 hA:∀ a∈s.active,a<all.length
 lx:s.x.length=n
 lm:s.mults.length=s.active.length
 li:0<n→LI (s.active.length+1) n (fn (ao n all s.active))
 pt:Pt (s.active.length+1) n (fn (ao n all s.active)) (gt (sum::s.active.map (lst all))) (gt tg) (gt (s.level::s.mults)) (gt s.x) (fun _=>0) 0
 nn:∀ j,j<s.mults.length→0≤gt s.mults j
 ok:∀ k,k<all.length→lst all k≤ip n (gt (nrm all k)) (gt s.x)
 act:n≤8→s.active.length≤7
 fit:QFits KN s.x∧Fits KN s.level∧QFits KN s.mults
theorem Okk.entering (h:Okk n all tg sum s k 0) (k':Nat):Okk n all tg sum s k' 0 :=
 ⟨h.hA,h.lx,h.lm,h.li,⟨fun i hi=>by rw[h.pt.kkt i hi];grind,h.pt.eqs⟩,h.nn⟩
theorem Okk.best (h:Okk n all tg sum s k 0) (hf:OkS KN n all s) (ok:∀ k,k<all.length→lst all k≤ip n (gt (nrm all k)) (gt s.x)):Best n all tg sum s :=
 ⟨h.hA,h.lx,h.lm,fun _=>h.li,⟨fun i hi=>by rw[h.pt.kkt i hi];grind,h.pt.eqs⟩,h.nn,ok,fun _=>hf.la,hf.x,hf.lev,hf.mults⟩
theorem Okk.oks0 (h:ConI n all) (hn:n≤8) (ht:QFits 2 tg) (hs:Fits 2 sum) (ok:Okk n all tg sum s k 0):vo KN n all s=true:=by
 obtain⟨h1,h2⟩:=rh (y:=gt (s.level::s.mults)) (x:=gt s.x) (v:=fun _=>0) h ok.hA hn ht hs ok.li ⟨fun i hi=>by rw[ok.pt.kkt i hi];grind,ok.pt.eqs⟩;have b:s.active.length+1≤8:=Ds ok.li.le hn;refine okS_iff.2 ⟨QFits.of_gt (N:=n) (by rw[ok.lx];exact Dt _) fun i hi=>(h2 i hi).mono (by decide),(h1 0 (by omega)).mono (by decide),QFits.of_gt (N:=s.active.length) (by rw[ok.lm];exact Dt _) fun i hi=>(h1 (i+1) (by omega)).mono (by decide),ok.lx,ok.lm,by omega,ok.hA⟩
theorem uU {f : Nat} (ho : vo KN n all s = true) : nH KN n all (f + 1) s = match (aP all s.x all.length).1 with
      | none => some (some s)
      | some k => match jA KN n all k f s 0 with
        | none => none
        | some none => some none
        | some (some t) => nH KN n all f t := by
  show (if vo KN n all s = true then _ else none) = _
  rw [if_pos ho];rfl
theorem Ct (h:ConI n all) (hn:n≤8) (ht:QFits 2 tg) (hs:Fits 2 sum):∀ (c f:Nat) (s:St),Okk n all tg sum s 0 0→cntV n all tg sum (f7 n tg s.x)≤c→c+10≤f →
 (nH KN n all f s=some none∧Infeas n all sum)∨∃ t,nH KN n all f s=some (some t)∧Best n all tg sum t:=by
 intro c
 induction c with
 | zero =>
  intro f s ok hc hf;obtain⟨f,rfl⟩:∃ g,f=g+1:=⟨f-1,by omega⟩;have ho:=ok.oks0 h hn ht hs;rw[uU ho];have hw:=lh all s.x all.length;obtain⟨o,D,b⟩:∃ o D,aP all s.x all.length=(o,D):=⟨_,_,rfl⟩;rw[b] at hw ⊢
  cases o with
  | none=>exact .inr ⟨s,rfl,ok.best (okS_iff.1 ho) fun k hk=>by rw[←fu (h.len.nrm hk) ok.lx];exact hw k hk⟩
  | some k =>
   have d:s.active.length+1≤8:=Ds ok.li.le hn;have hx:ip n (gt (nrm all k)) (gt s.x)<lst all k:=by rw[←fu (h.len.nrm hw.1) ok.lx];exact hw.2
   rcases yH h hw.1 hn ht hs 8 f s 0 (by omega) (by omega) (ok.entering k) Rat.le_refl (Fits.zero (by decide)) hx with ⟨h1,h2⟩ | ⟨t,h1,h2,h3⟩
   · dsimp only;rw[h1];exact .inl ⟨rfl,h2⟩
   · exfalso
     rw[vY] at h3;have j:t.active.length+1≤8:=Ds (h2 0).li.le hn;have:=vO (oT (by omega) (h2 0).hA) ⟨t,rfl,⟨0,h2 0⟩,rfl⟩ h3;omega
 | succ c ih =>
  intro f s ok hc hf;obtain⟨f,rfl⟩:∃ g,f=g+1:=⟨f-1,by omega⟩;have ho:=ok.oks0 h hn ht hs;rw[uU ho];have hw:=lh all s.x all.length;obtain⟨o,D,b⟩:∃ o D,aP all s.x all.length=(o,D):=⟨_,_,rfl⟩;rw[b] at hw ⊢
  cases o with
  | none=>exact .inr ⟨s,rfl,ok.best (okS_iff.1 ho) fun k hk=>by rw[←fu (h.len.nrm hk) ok.lx];exact hw k hk⟩
  | some k =>
   have d:s.active.length+1≤8:=Ds ok.li.le hn;have hx:ip n (gt (nrm all k)) (gt s.x)<lst all k:=by rw[←fu (h.len.nrm hw.1) ok.lx];exact hw.2
   rcases yH h hw.1 hn ht hs 8 f s 0 (by omega) (by omega) (ok.entering k) Rat.le_refl (Fits.zero (by decide)) hx with ⟨h1,h2⟩ | ⟨t,h1,h2,h3⟩
   · dsimp only;rw[h1];exact .inl ⟨rfl,h2⟩
   · dsimp only;rw[h1]
     rw[vY] at h3;have j:t.active.length+1≤8:=Ds (h2 0).li.le hn;have h4:=vO (oT (by omega) (h2 0).hA) ⟨t,rfl,⟨0,h2 0⟩,rfl⟩ h3;exact ih f t (h2 0) (by omega) (by omega)
theorem yz (n:Nat) (c:Rat):sm n (fun _=>c)=(n:Rat)*c:=by
 induction n with
 | zero=>show (0:Rat)=_;simp
 | succ n ih =>
  show sm n (fun _=>c)+c=_
  rw[ih,Rat.natCast_add]
  grind
theorem ii (l:List Rat):aB l=sm l.length (gt l):=sX l
theorem yv (hn0:0<n) (hl:tg.length=n):Okk n all tg sum (gI tg sum n) 0 0:=by
 have d:(n:Rat)≠0:=by
  intro e;have:(n:Rat)=((0:Nat):Rat):=by rw[e];rfl
  have:=Rat.natCast_inj.1 this;omega
 have hx:∀ i,i<n→gt (gI tg sum n).x i=gt tg i+(sum-aB tg) / (n:Rat):=fun i hi=>by
  show gt (tg.map fun q=>q+(sum-aB tg) / (n:Rat)) i=_
  unfold gt;rw[aD 0 (by simpa [hl] using hi),aD 0 (by omega),List.getElem_map]
 refine⟨fun a ha=>(by cases ha),(by show (tg.map _).length=n;rw[Dr,hl]),rfl,?_,⟨fun i hi=>?_,fun j hj=>?_⟩,fun j hj=>(by cases hj)⟩
 · intro c hc j hj;have b:j=0:=by have:j<0+1:=hj;omega
   subst b;have h1:=hc 0 hn0;have h2:(0:Rat)+c 0*fn (ao n all []) 0 0=0:=h1;rw[gj n all [] hn0] at h2
   grind
 · rw[hx i hi];have h2:lc ((gI tg sum n).active.length+1) (gt ((gI tg sum n).level::(gI tg sum n).mults)) (fn (ao n all (gI tg sum n).active)) i=0+(sum-aB tg) / (n:Rat)*fn (ao n all []) 0 i:=rfl;rw[h2,gj n all [] hi];grind
 · have b:j=0:=by have:j<0+1:=hj;omega
   subst b
   show ip n (fn (ao n all []) 0) (gt (gI tg sum n).x)=sum
   rw[bK (a':=fun _=>1) (b':=fun i=>gt tg i+(sum-aB tg) / (n:Rat)) (fun i hi=>gj n all [] hi) hx];unfold ip;rw[ak (g:=fun i=>gt tg i+(sum-aB tg) / (n:Rat)) (fun i _=>by grind),jG,yz,←hl,←ii,hl]
   grind
theorem AX (h:ConI n all) (hn:n≤8) (ht:QFits 2 tg) (hs:Fits 2 sum) (hl:tg.length=n):∃ f,(lF KN all tg sum n f=some none∧Infeas n all sum)∨∃ t,lF KN all tg sum n f=some (some t)∧Best n all tg sum t:=by
 by_cases h0:n=0
 · subst h0;have g:tg=[]:=Dz hl;subst g;refine⟨0,?_⟩;unfold lF;rw[if_pos rfl];have hw:=lh all [] all.length;obtain⟨o,D,d⟩:∃ o D,aP all [] all.length=(o,D):=⟨_,_,rfl⟩;rw[d] at hw ⊢;have b:aB ([]:List Rat)=0:=rfl;have c:∀ k,k<all.length→cD (nrm all k) []=0:=fun k hk=>by rw[fu (n:=0) (h.len.nrm hk) rfl];rfl
   cases o with
   | none =>
    by_cases hz:sum-aB ([]:List Rat)=0
    · rw[if_pos ⟨hz,rfl⟩];refine .inr ⟨_,rfl,⟨fun a ha=>(by cases ha),rfl,rfl,fun h=>(by omega),⟨fun i hi=>(by omega),fun j hj=>?_⟩,fun j hj=>(by cases hj),fun k hk=>?_,fun _=>(by decide:(0:Nat)≤7),fun q hq=>(by cases hq),Fits.zero (by decide),fun q hq=>(by cases hq)⟩⟩
      · have m:j=0:=by have:j<0+1:=hj;omega
        subst m
        show (0:Rat)=sum
        rw[b] at hz;grind
      · have:=hw k hk;rw[c k hk] at this;exact this
    · rw[if_neg fun hh=>hz hh.1];refine .inl ⟨rfl,fun u hu h1 _=>hz ?_⟩;have h2:(0:Rat)=sum:=h1;rw[b];grind
   | some k =>
    rw[if_neg fun hh=>by cases hh.2];refine .inl ⟨rfl,fun u hu _ h2=>?_⟩;have h3:=h2 k hw.1;have h4:=hw.2;rw[c k hw.1] at h4;have h5:lst all k≤0:=h3
    grind
 · have l:=yv (all:=all) (sum:=sum) (show 0<n by omega) hl;refine⟨cntV n all tg sum (f7 n tg (gI tg sum n).x)+10,?_⟩;unfold lF;rw[if_neg h0];exact Ct h hn ht hs _ _ _ l (Dt _) (Dt _)
end
end Go.Proofs.YtjhkapjadfpimaaGreat
