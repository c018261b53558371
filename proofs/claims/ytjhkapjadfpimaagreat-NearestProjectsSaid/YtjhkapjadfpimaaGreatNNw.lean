/- Contracts of functions, for the law. -/
import Derived.Test.YtjhkapjadfpimaaGreatNSat
namespace Go.Proofs.YtjhkapjadfpimaaGreat
set_option linter.unusedVariables false
set_option linter.unusedSimpArgs false
open Go.RowKit Plain
attribute [local go_sem ↓] Go.wp_at_zero Go.wp_at_succ
set_option maxRecDepth 100000
set_option maxHeartbeats 40000000
theorem OkS.lx' {K n:Nat}{all:List Con}{s:Sm}(h:OkS K n all s.st):s.dx.length=n:=by
 have h1:(s.dx.map FrD.q).length=n:=h.lx;rw[a1s] at h1;exact h1
theorem SolM.lv8 {S:Sv}{s:Sm}{ent:Value}{w:World}(h:SolM S s ent w){y:FrD}(hy:s.lv=y):w.cell? ⟨S.gs,7,none⟩=some (.bool y.neg)∧w.cell? ⟨S.gs,8,none⟩=some (.slice y.a y.la.length y.ca)∧w.cell? ⟨S.gs,9,none⟩=some (.slice y.b y.lb.length y.cb):=by
 subst hy;exact⟨h.b.cells.2.2.2.2.2.2.2.1,h.b.cells.2.2.2.2.2.2.2.2.1,h.b.cells.2.2.2.2.2.2.2.2.2.1⟩
theorem SolM.lvF {S:Sv}{s:Sm}{ent:Value}{w:World}(h:SolM S s ent w){y:FrD}(hy:s.lv=y):FV w y.v y.q:=by
 subst hy;exact h.b.lev
theorem eJ {K n f:Nat}{all:List Con}{s:St}{r:Option St}(h:jO K n all f s=some r):∃ g,f=g+1∧OkS K n all s ∧
 ((x5 all s.x all.length).1=none∧r=some s∨∃ k q,(x5 all s.x all.length).1=some k∧k<all.length∧aZ K n all k g s 0=some q∧(q=none∧r=none∨∃ t,q=some t∧jO K n all g t=some r)):=by
 cases f with
 | zero=>cases h
 | succ g =>
  have h0:(if xK K n all s=true then
   match (x5 all s.x all.length).1 with
   | none=>some (some s)
   | some k=>match aZ K n all k g s 0 with
    | none=>none
    | some none=>some none
    | some (some t)=>jO K n all g t
   else none)=some r:=h
  by_cases hc:xK K n all s=true
  · rw[if_pos hc] at h0;refine⟨g,rfl,okS_iff.1 hc,?_⟩;have hw:=fC all s.x all.length;obtain⟨o,D,b⟩:∃ o D,x5 all s.x all.length=(o,D):=⟨_,_,rfl⟩;rw[b] at h0 hw ⊢
    cases o with
    | none=>injection h0 with h0;exact .inl ⟨rfl,h0.symm⟩
    | some k =>
     dsimp only at h0
     cases e:aZ K n all k g s 0 with
     | none=>rw[e] at h0;cases h0
     | some q =>
      rw[e] at h0;refine .inr ⟨k,q,rfl,hw.1,e,?_⟩
      cases q with
      | none=>injection h0 with h0;exact .inl ⟨rfl,h0.symm⟩
      | some t=>exact .inr ⟨t,rfl,h0⟩
  · rw[if_neg hc] at h0;cases h0
def fA (S:Sv) (B:Nat) (root:World) (r:Option St) (f:Nat) (v:Value) (w:World):Prop:=∃ s:Sm,SolM S s (.pointer none) w∧Below B root w∧v=.int .i64 (oi (x5 (S.cs.map CoD.con) s.st.x S.cs.length).1)∧jO KN S.n (S.cs.map CoD.con) f s.st=some r
theorem kL {S:Sv}{s:Sm}{f0 B Kt:Nat}{r:Option St}{w:World}(hKt0:2≤Kt) (hKt:Kt≤6000000) (h:SolM S s (.pointer none) w) (hc0:ConI S.n (S.cs.map CoD.con)) (hn:S.n≤8) (hl0:s.dx.length=S.n) (hi0:s.lv.q=0∧s.ia=[]∧s.dm=[]) (ht0:QFits Kt (s.dx.map FrD.q)) (hs0:Fits 2 S.sum.q) (hr0:fN KN (S.cs.map CoD.con) (s.dx.map FrD.q) S.sum.q S.n f0=some r) (hB1:B≤S.gs) (hB2:B≤S.gx) :
 Calls Tryz.prog 24 #[.pointer (some ⟨S.gs,0,none⟩)] w (RetSat S r B w):=by
 have hc:=a1k hc0;have hl:=a1k hl0;have hi:=a1k hi0;have ht:=a1k ht0;have hs:=a1k hs0;have hr:=a1k hr0;have k5:=a1k hB1;have k2:=a1k hB2;obtain⟨q4,c9⟩:∃ q,Hid (o5 (s.dx.map FrD.q)=q):=⟨_,rfl⟩;obtain⟨ms,c7⟩:∃ q,Hid (S.sum.q-q4=q):=⟨_,rfl⟩
 have j4:=a1k (show Fits (1+8*(Kt+1)) q4 by
  rw[←c9.out];refine (fX (k:=Kt) ht0).mono ?_;rw[a1s,hl0];have:=a1y (Kt+1) hn
  omega)
 have n3:=a1k (show Fits (2+(1+8*(Kt+1))+1) ms by rw[←c7.out];exact hs0.sub j4.out)
 have q5:=a1k (show 1+(s.dx.length+1)*(Kt+1)<400000000 by
  rw[hl0];have:=a1y (Kt+1) (show S.n+1≤9 by omega)
  omega)
 have q6:=a1k (show ∀ d∈s.dx,Fits Kt d.q from QFits.fr0 ht0);have s0:=a1k (show QFits KN (s.dx.map FrD.q) from fun q hq=>(ht0 q hq).mono (show Kt≤10000000 by omega));have U:FL w (some ⟨S.gx,0,none⟩) S.cx s.dx:=h.b.xo.fl h.b.xf;have p:FV w S.sum.v S.sum.q:=h.b.sum;have V:=a1k (show B≤w.heap.size by have h1:=h.b.hs;have h2:=h.b.hR;omega);obtain⟨N,hN⟩:∃ N,Hid (S.n=N):=⟨_,rfl⟩;have p3:=a1k (show (S.cs.map CoD.con).length=S.cs.length from a1s _);clear hc0 hl0 hi0 ht0 hs0 hr0;go_enter Tryz.func24,Tryz.ntmps24;go_upto_region 1 with fail
 go_cut [3] (fun v wx=>∃ g t,v=.pointer (some ⟨g,0,none⟩)∧VarQ wx g t∧FV wx t.v t.q∧Hid (t.q=ms)∧Below w.heap.size w wx∧w.heap.size≤g)
 case first =>
  have bT:=a3t w.heap.size w
  have hS:∀ w',Below w.heap.size w w'→w'.cell? ⟨S.gs,3,none⟩=some (.slice (some ⟨S.gx,0,none⟩) s.dx.length S.cx)∧w'.cell? ⟨S.gs,4,none⟩=some (.bool S.sum.neg)∧w'.cell? ⟨S.gs,5,none⟩=some (.slice S.sum.a S.sum.la.length S.sum.ca)∧w'.cell? ⟨S.gs,6,none⟩=some (.slice S.sum.b S.sum.lb.length S.sum.cb)∧Below w.heap.size w w':=by
   intro w' o;exact⟨(h.below o).b.cells.2.2.2.1,(h.below o).b.cells.2.2.2.2.1,(h.below o).b.cells.2.2.2.2.2.1,(h.below o).b.cells.2.2.2.2.2.2.1,o⟩
  have bo:Below w.heap.size w w:=a3t _ _;have dS:Below w.heap.size w w.drew:=bo.drew;go_wp2_with fail;refine a3u ?_;refine a3v (S:=fun w'=>w'.cell? ⟨S.gs,3,none⟩=some (.slice (some ⟨S.gx,0,none⟩) s.dx.length S.cx)∧w'.cell? ⟨S.gs,4,none⟩=some (.bool S.sum.neg)∧w'.cell? ⟨S.gs,5,none⟩=some (.slice S.sum.a S.sum.la.length S.sum.ca)∧w'.cell? ⟨S.gs,6,none⟩=some (.slice S.sum.b S.sum.lb.length S.sum.cb)∧Below w.heap.size w w') (by kernel_rfl) (hS _ dS) (fun c=>?_);refine mX 0 1 2 3 4 5 6 7 c ?_;refine a4b (rs:=[8,10]) (by kernel_rfl) (by simp) ?_;refine a3x rfl (fun K hK=>?_) ?_
  · go_simp;have C:Below w.heap.size w w.drew:=(a3t _ _).drew;replace U:=U.below C;replace p:=p.below C;replace bT:=a1j bT C;replace bo:=a1j bo C;have l:=fF (K:=Kt) U q6.out q5.out;rw[c9.out] at l;go_at_call 43;refine (l).mono ?_;rintro e u1 ⟨vd,rfl,X,F⟩;replace U:=U.below F;replace p:=p.below F;replace bT:=a1j bT F;replace bo:=a1j bo F;clear l;go_wp2_with fail;refine hK.out _ _ (hS _ bo) (fun c=>?_);clear hK K;(try simp only[j9]);refine a4b (rs:=[9,10]) (by kernel_rfl) (by simp) ?_;refine a3x rfl (fun K hK=>?_) ?_
    · go_simp;have l:=D1 p X hs.out j4.out (by omega);go_at_call 32;refine (l).mono ?_;rintro e u2 ⟨vs,rfl,b9,c4⟩;replace p:=p.below c4;replace X:=X.below c4;replace bT:=a1j bT c4;replace bo:=a1j bo c4;clear l;obtain⟨gs,rfl,H,g6⟩:=b9.frd;clear b9;go_wp2_with fail;refine hK.out _ _ (hS _ bo) (fun c=>?_);clear hK K;(try simp only[j9]);refine z8 10 rfl fun K hK=>?_;have d2:=bT.size;obtain⟨u3,v7,f4,y3,n9⟩:=f8 u2 #[.bool false,.slice none 0 0,.slice none 0 0] 28;replace p:=p.below f4;replace X:=X.below f4;replace H:=H.below f4;replace bT:=a1j bT f4;replace bo:=a1j bo f4;have hA:=n9;clear n9;go_simp;refine hK.out _ _ (hS _ bo) (fun c=>?_);clear hK K;(try simp only[j9]);refine z8 11 rfl fun K hK=>?_;have O:=d2;obtain⟨u4,q0,q1,q2,f0,f1,f2,y6,t4,m0⟩:=p9 hA gs;have bT:=m0.to_below bT O bT.size;have bo:=m0.to_below bo O bo.size;replace H:=H.only_blk hA (k7 _ _ _ _ _ _ _) m0;go_simp;refine hK.out _ _ (hS _ bo) (fun c=>?_);clear hK K;(try simp only[j9]);refine a4c (by kernel_rfl) ?_ _;refine a3w ?_;(try go_simp);clear c;go_wp2_with fail;go_meet;exact⟨_,gs,rfl,t4,H,g6.out.trans c7.out,bT,O⟩
    refine a3x rfl (fun K hK=>?_) ?_
    · have d2:=bT.size;obtain⟨u5,v8,j1,x4,n7⟩:=f8 u1 #[.bool false,.slice none 0 0,.slice none 0 0] 28;replace p:=p.below j1;replace X:=X.below j1;replace bT:=a1j bT j1;replace bo:=a1j bo j1;have hA:=n7;clear n7;go_simp;refine hK.out _ _ (hS _ bo) (fun c=>?_);clear hK K;(try simp only[j9]);refine z8 9 rfl fun K hK=>?_;go_simp;have l:=D1 p X hs.out j4.out (by omega);go_at_call 32;refine (l).mono ?_;rintro e u6 ⟨vs,rfl,b9,l5⟩;replace hA:=hA.keep l5;replace bT:=a1j bT l5;replace bo:=a1j bo l5;clear l;obtain⟨gs,rfl,H,g6⟩:=b9.frd;clear b9;go_wp2_with fail;refine hK.out _ _ (hS _ bo) (fun c=>?_);clear hK K;(try simp only[j9]);refine z8 11 rfl fun K hK=>?_;have O:=d2;obtain⟨u7,q0,q1,q2,f0,f1,f2,y2,t5,l3⟩:=p9 hA gs;have bT:=l3.to_below bT O bT.size;have bo:=l3.to_below bo O bo.size;replace H:=H.only_blk hA (k7 _ _ _ _ _ _ _) l3;go_simp;refine hK.out _ _ (hS _ bo) (fun c=>?_);clear hK K;(try simp only[j9]);refine a4c (by kernel_rfl) ?_ _;refine a3w ?_;(try go_simp);clear c;go_wp2_with fail;go_meet;exact⟨_,gs,rfl,t5,H,g6.out.trans c7.out,bT,O⟩
    exact a3y
  refine a3x rfl (fun K hK=>?_) ?_
  · have d2:=bT.size;have j0:Below w.heap.size w w.drew:=(a3t _ _).drew;replace U:=U.below j0;replace p:=p.below j0;replace bT:=a1j bT j0;replace bo:=a1j bo j0;obtain⟨u8,x3,h7,y0,j3⟩:=f8 w.drew #[.bool false,.slice none 0 0,.slice none 0 0] 28;replace U:=U.below h7;replace p:=p.below h7;replace bT:=a1j bT h7;replace bo:=a1j bo h7;replace j3:Blk u8 w.heap.size 28 #[.bool false,.slice none 0 0,.slice none 0 0]:=j3;have hA:=j3;clear j3;go_simp;refine hK.out _ _ (hS _ bo) (fun c=>?_);clear hK K;(try simp only[j9]);refine z8 8 rfl fun K hK=>?_;go_simp;have l:=fF (K:=Kt) U q6.out q5.out;rw[c9.out] at l;go_at_call 43;refine (l).mono ?_;rintro e u9 ⟨vd,rfl,X,h3⟩;replace p:=p.below h3;replace hA:=hA.keep h3;replace bT:=a1j bT h3;replace bo:=a1j bo h3;clear l;go_wp2_with fail;refine hK.out _ _ (hS _ bo) (fun c=>?_);clear hK K;(try simp only[j9]);refine z8 9 rfl fun K hK=>?_;go_simp;have l:=D1 p X hs.out j4.out (by omega);go_at_call 32;refine (l).mono ?_;rintro e y8 ⟨vs,rfl,b9,d5⟩;replace hA:=hA.keep d5;replace bT:=a1j bT d5
    replace bo:=a1j bo d5;clear l;obtain⟨gs,rfl,H,g6⟩:=b9.frd;clear b9;go_wp2_with fail;refine hK.out _ _ (hS _ bo) (fun c=>?_);clear hK K;(try simp only[j9]);refine z8 11 rfl fun K hK=>?_;have O:=d2;obtain⟨v9,q0,q1,q2,f0,f1,f2,v4,n5,f6⟩:=p9 hA gs;have bT:=f6.to_below bT O bT.size;have bo:=f6.to_below bo O bo.size;replace H:=H.only_blk hA (k7 _ _ _ _ _ _ _) f6;go_simp;refine hK.out _ _ (hS _ bo) (fun c=>?_);clear hK K;(try simp only[j9]);refine a4c (by kernel_rfl) ?_ _;refine a3w ?_;(try go_simp);clear c;go_wp2_with fail;go_meet;exact⟨_,gs,rfl,n5,H,g6.out.trans c7.out,bT,O⟩
  exact a3y
 case rest =>
  obtain⟨g,mt,rfl,A,M,m8,b1,d9⟩:=hcut;obtain⟨w1,t1⟩:∃ w1,w1=wc:=⟨_,rfl⟩;subst t1;have E:=h.below b1;have G:Below B w w1:=b1.mono V.out;have s5:=a1k (show g≠S.gs by have h1:=h.b.hs;have h2:=h.b.hR;omega);clear U p d9;have hc0:w1.cell? ⟨S.gs,0,none⟩=some (.int .i64 (N:Int)):=by rw[←hN.out];exact E.b.cells.1
  by_cases h0:N=0
  · subst h0;have n2:w1.cell? ⟨S.gs,0,none⟩=some (.int .i64 0):=hc0;obtain⟨x0,x1,x2⟩:=A.cells;obtain⟨o,ho⟩:∃ o,Hid ((x5 (S.cs.map CoD.con) (s.dx.map FrD.q) S.cs.length).1=o):=⟨_,rfl⟩
    have f9:=a1k (show r=if ms=0∧o=none then some ⟨s.dx.map FrD.q,0,[],[]⟩ else none by
     have h1:=hr.out;unfold fN at h1;rw[if_pos hN.out,c9.out,c7.out,p3.out,ho.out] at h1
     split at h1 <;> rename_i hh
     · rw[if_pos hh];injection h1 with h1;exact h1.symm
     · rw[if_neg hh];injection h1 with h1;exact h1.symm)
    have m1:=a1k (show s.st=⟨s.dx.map FrD.q,0,[],[]⟩ by unfold Sm.st;rw[hi.out.1,hi.out.2.1,hi.out.2.2];rfl);obtain⟨sg,m5⟩:∃ s',Hid (D0 ms 0=s'):=⟨_,rfl⟩;have m6:=F4 M;rw[m8.out,m5.out] at m6;clear hc0;go_wp2_with fail;refine m6.mono ?_;rintro e w2 ⟨rfl,b2⟩;clear m6 n2 x0 x1 x2;have b8:=E.below b2;have I:=G.trans (b2.mono (a1t V.out G.size))
    by_cases hs0:sg=0
    · have hz:(sg == 0)=true:=by rw[beq_iff_eq];exact hs0
      have l6:=a1k (show ms=0 from cmpR_zero.1 (by rw[m5.out];exact hs0));have R:=Z0 b8.b hc.out hl.out hn s0.out;rw[ho.out] at R;go_wp2_with fail;refine R.mono ?_;rintro e w3 ⟨rfl,b3⟩;clear R;have n8:=b8.below b3;have d1:=I.trans (b3.mono (a1t V.out I.size))
      cases o with
      | none =>
       have c5:=a1k (show r=some ⟨s.dx.map FrD.q,0,[],[]⟩ by rw[f9.out,if_pos ⟨l6.out,rfl⟩]);have m9:decide (oi none<0)=true:=by decide
       go_wp2;go_ret;exact⟨s,by rw[c5.out];rfl,n8,fun t e=>(by rw[c5.out] at e;injection e with e;rw[←e];exact m1.out),d1⟩
      | some k =>
       have c5:=a1k (show r=none by rw[f9.out,if_neg (fun hh=>by cases hh.2)]);have m9:decide (oi (some k)<0)=false:=a1v (by show ¬ ((k:Nat):Int)<0;omega);go_wp2;go_ret;exact⟨s,by rw[c5.out];rfl,n8,fun t e=>(by rw[c5.out] at e;cases e),d1⟩
    · have hz:(sg == 0)=false:=by rw[beq_eq_false_iff_ne];exact hs0
      have l6:=a1k (show ¬ ms=0 from fun e=>hs0 (by rw[←m5.out];exact cmpR_zero.2 e));have c5:=a1k (show r=none by rw[f9.out,if_neg (fun hh=>l6.out hh.1)]);go_wp2;go_ret;exact⟨s,by rw[c5.out];rfl,b8,fun t e=>(by rw[c5.out] at e;cases e),I⟩
  · have hz:((N:Int) == 0)=false:=by rw[beq_eq_false_iff_ne];omega
    have y5:decide ((N:Int)=0)=false:=a1v (by omega);have r8:-9223372036854775808≤(N:Int):=by omega
    have y1:N≤8:=by rw[←hN.out];exact hn
    have s7:(N:Int)≤9223372036854775807:=by omega
    have p5:=a1k (show Fits 1 (((N:Nat):Int):Rat) by
     refine⟨?_,?_⟩
     · rw[Rat.num_intCast];show N<pw 1;have:pw 1=4294967296:=rfl;omega
     · rw[Rat.den_intCast];decide)
    have q8:=a1k (show Fits (2+(1+8*(Kt+1))+1) mt.q by rw[m8.out];exact n3.out);have d7:=a1k (show (((N:Nat):Int):Rat)=((N:Nat):Rat) from rfl)
    have v0:=a1k (show (((N:Nat):Int):Rat)≠0 by
     intro e;have:(((N:Nat):Int):Rat)=((0:Int):Rat):=by rw[e];rfl
     have:=Rat.intCast_inj.1 this
     omega)
    have he:=a1k (show ∀ x,(Value.pointer none)≠.int .u32 x from fun x e=>by cases e);go_upto_region 4 with fail
    go_cut [] (fun wx=>∃ y:FrD,Hid (y.q=ms / (((N:Nat):Int):Rat))∧SolM S { s with lv:=y } (.pointer none) wx∧Below B w wx)
    case first =>
     clear hc0;have bT:=a3t w1.heap.size w1;have C:Below w1.heap.size w1 w1.drew:=(a3t _ _).drew;replace E:=E.below C;replace A:=A.below C;replace M:=M.below C;replace bT:=a1j bT C;clear C;go_wp2_with fail;refine a3u ?_;refine k9 (J:=[]) (S:=fun w'=>w'.cell? ⟨S.gs,0,none⟩=some (.int .i64 (N:Int))∧w'.cell? ⟨g,0,none⟩=some (.bool mt.neg)∧w'.cell? ⟨g,1,none⟩=some (.slice mt.a mt.la.length mt.ca)∧w'.cell? ⟨g,2,none⟩=some (.slice mt.b mt.lb.length mt.cb)) (by kernel_rfl) (⟨by rw[←hN.out];exact E.b.cells.1,A.cells.1,A.cells.2.1,A.cells.2.2⟩) (fun c=>?_);refine mR 0 1 2 3 c ?_;refine dU 4 5 c ?_;refine I0 6 rfl fun K hK=>?_;go_simp;have l:=r7 (N:Int) (w1.drew) r8 s7;go_at_call 26;refine (l).mono ?_;rintro e u1 ⟨vn,rfl,t0,F⟩;clear l;replace E:=E.below F;replace A:=A.below F;replace M:=M.below F;replace bT:=a1j bT F;go_wp2_with fail;refine hK.out _ _ (⟨by rw[←hN.out];exact E.b.cells.1,A.cells.1,A.cells.2.1,A.cells.2.2⟩) (fun c=>?_);clear hK K;(try simp only[j9]);refine I0 7 rfl fun K hK=>?_;go_simp;have l:=P0 M t0 q8.out p5.out (by omega) v0.out
     go_at_call 45;refine (l).mono ?_;rintro e u2 ⟨va,rfl,g7,c4⟩;clear l;replace E:=E.below c4;replace A:=A.below c4;replace bT:=a1j bT c4;obtain⟨y,rfl,hy,g1⟩:=g7.frd;clear g7;go_wp2_with fail;refine hK.out _ _ (⟨by rw[←hN.out];exact E.b.cells.1,A.cells.1,A.cells.2.1,A.cells.2.2⟩) (fun c=>?_);clear hK K;(try simp only[j9]);refine mR 8 9 10 11 c ?_;refine dJ 12 rfl c ?_;refine I0 13 rfl fun K hK=>?_;obtain⟨x7,x8,x9⟩:=E.lv8 rfl;obtain⟨w9,f0,f1,f2,e9,j2,o9⟩:=E.setLev he.out hy;have l7:=A.only o9 s5.out;have r4:=o9.to_below (G.trans (bT.mono (a1t V.out G.size))) k5.out (a1t (a1t V.out G.size) bT.size);go_simp;refine hK.out _ _ (⟨by rw[←hN.out];exact j2.b.cells.1,l7.cells.1,l7.cells.2.1,l7.cells.2.2⟩) (fun c=>?_);clear hK K;(try simp only[j9]);refine k8 (by kernel_rfl) ?_ _;refine a3w ?_;(try go_simp);(try clear c);go_wp2_with fail;go_meet;exact⟨y,g1.out.trans (by rw[m8.out]),j2,r4⟩
    case rest =>
     obtain⟨y,g1,b8,I⟩:=hcut;obtain⟨s2,h6⟩:∃ s2:Sm,Hid (s2={ s with lv:=y }):=⟨_,rfl⟩;rw[←h6.out] at b8;have k4:=a1k (show s2.lv=y by rw[h6.out]);have d8:=a1k (show s2.dx=s.dx by rw[h6.out]);have l1:=a1k (show s2.ia=[]∧s2.dm=[] by rw[h6.out];exact hi.out.2);obtain⟨w2,v1⟩:∃ w2,w2=wc:=⟨_,rfl⟩;subst v1;obtain⟨L,hL⟩:∃ L,Hid (s.dx.length=L):=⟨_,rfl⟩;have y4:L≤8:=by rw[←hL.out,hl.out];exact hn
     have g9:=a1k (show s2.dx.length=L by rw[d8.out,hL.out]);have r6:=b8.c3 g9.out;have s9:=a1k (show Fits (2+(1+8*(Kt+1))+1+1) y.q by rw[g1.out];exact n3.out.div p5.out);clear E A M hc0 G;go_wp2
     go_loopw [48] (fun i wr=>∃ k:Nat,k≤L∧i=.int .i64 (k:Int)∧∃ s1:Sm,SolM S s1 (.pointer none) wr∧Hid (s1.dx.length=L)∧Hid (∀ j,gt (s1.dx.map FrD.q) j=if j<k then gt (s.dx.map FrD.q) j+y.q else gt (s.dx.map FrD.q) j)∧Hid (s1.lv=y)∧Hid (s1.ia=[]∧s1.dm=[])∧Below B w wr) (fun i _=>L-(intOf i).toNat)
     case atStart=>exact⟨0,by omega,rfl,s2,b8,g9.out,fun j=>by rw[if_neg (by omega),d8.out],k4.out,l1.out,I⟩
     case round =>
      clear b8 r6 I k4 d8 l1 g9;obtain⟨k,hk,rfl,s1,hS,d0,m2,Z,m3,D⟩:=hrel
      by_cases hkl:k<L
      · have y7:(k:Int)<(L:Int):=by omega
        have n0:=a1k (show k<s1.dx.length by rw[d0.out];exact hkl);obtain⟨xk,Y⟩:∃ xk,Hid (s1.dx[k]?=some xk):=⟨_,a1m n0.out⟩;obtain⟨c0,c1,c2⟩:=hS.xc Y.out;obtain⟨wA,w4,eA,p0,p1,p2,r0,r1,r2,eB,T,b4,l4⟩:=D5 wr xk;have m:=hS.below b4;have l9:=D.trans (b4.mono (a1t V.out D.size));have h4:FV w4 xk.v xk.q:=m.b.xf xk (a1n Y.out);have n4:=a1k (show xk.q=gt (s.dx.map FrD.q) k by rw[←X2 Y.out,m2.out,if_neg (by omega)]);have t6:=a1k (show Fits Kt xk.q by rw[n4.out];exact ht.out.getD (by omega) k)
        have f3:∀ j (z:FrD),z.q=xk.q+y.q→gt ((s1.dx.set k z).map FrD.q) j=if j<k+1 then gt (s.dx.map FrD.q) j+y.q else gt (s.dx.map FrD.q) j:=fun j z hz=>by
         rw[pG n0.out]
         by_cases e:j=k
         · subst e;rw[if_pos rfl,if_pos (by omega),hz,n4.out]
         · rw[if_neg e,m2.out]
           by_cases e2:j<k
           · rw[if_pos e2,if_pos (by omega)]
           · rw[if_neg e2,if_neg (by omega)]
        replace f3:=a1k f3;clear hS D;go_upto_region 8 with fail;clear p0 p1 p2 r0 r1 r2 eA eB c0 c1 c2;have bT:=a3t w4.heap.size w4;have C:Below w4.heap.size w4 w4.drew:=(a3t _ _).drew;replace m:=m.below C;replace T:=T.below C;replace h4:=h4.below C;replace bT:=a1j bT C;clear C;go_wp2_with fail;refine a3u ?_;refine k9 (J:=[12]) (S:=fun w'=>w'.cell? ⟨S.gs,3,none⟩=some (.slice (some ⟨S.gx,0,none⟩) L S.cx)∧w'.cell? ⟨S.gx,k*3,none⟩=some (.bool xk.neg)∧w'.cell? ⟨S.gx,k*3+1,none⟩=some (.slice xk.a xk.la.length xk.ca)∧w'.cell? ⟨S.gx,k*3+2,none⟩=some (.slice xk.b xk.lb.length xk.cb)∧w'.cell? ⟨S.gs,7,none⟩=some (.bool y.neg)∧w'.cell? ⟨S.gs,8,none⟩=some (.slice y.a y.la.length y.ca)∧w'.cell? ⟨S.gs,9,none⟩=some (.slice y.b y.lb.length y.cb)∧w'.cell? ⟨wr.heap.size,0,none⟩=some (.bool xk.neg)∧w'.cell? ⟨wr.heap.size,1,none⟩=some (.slice xk.a xk.la.length xk.ca)∧w'.cell? ⟨wr.heap.size,2,none⟩=some (.slice xk.b xk.lb.length xk.cb)) (by kernel_rfl) (⟨m.c3 d0.out,(m.xc Y.out).1,(m.xc Y.out).2.1,(m.xc Y.out).2.2,(m.lv8 Z.out).1,(m.lv8 Z.out).2.1,(m.lv8 Z.out).2.2,T.cells.1,T.cells.2.1,T.cells.2.2⟩) (fun c=>?_);refine mR 0 1 2 3 c ?_
        refine mR 4 5 6 7 c ?_;refine dU 8 9 c ?_;refine I0 10 rfl fun K hK=>?_;go_simp;have l:=J0 h4 (m.lvF Z.out) t6.out s9.out (by omega);go_at_call 27;refine (l).mono ?_;rintro e u1 ⟨va,rfl,g7,F⟩;clear l;replace m:=m.below F;replace T:=T.below F;replace bT:=a1j bT F;obtain⟨z,rfl,hz,t2⟩:=g7.frd;clear g7;obtain⟨w9,f0,f1,f2,e9,j2,o9⟩:=m.setX n0.out hz;go_wp2_with fail;refine hK.out _ _ (⟨m.c3 d0.out,(m.xc Y.out).1,(m.xc Y.out).2.1,(m.xc Y.out).2.2,(m.lv8 Z.out).1,(m.lv8 Z.out).2.1,(m.lv8 Z.out).2.2,T.cells.1,T.cells.2.1,T.cells.2.2⟩) (fun c=>?_);clear hK K;(try simp only[j9]);refine dJ 11 rfl c ?_;refine j6 (rs:=[12]) (by kernel_rfl) (by simp) ?_;refine a4j rfl (by decide) (fun K hK=>?_) a4i;go_simp;refine hK.out _ _ ?_;clear hK K;(try clear c);(try simp only[j9]);refine k8 (by kernel_rfl) ?_ _;refine a3w ?_;(try go_simp);(try clear c);have s8:=o9.to_below (l9.trans (bT.mono (a1t V.out l9.size))) k2.out (a1t (a1t V.out l9.size) bT.size);clear m T h4 hz o9;go_wp2;go_roundw
        case rel =>
         refine⟨k+1,by omega,by go_num,_,j2,?_,?_,Z.out,m3.out,s8⟩
         · show (s1.dx.set k z).length=_
           rw[a2i];exact d0.out
         · intro j;exact (f3 j z t2.out)
        case measure=>simp[intOf];omega
      · obtain rfl:k=L:=by omega
        have v2:decide ((k:Int)<(k:Int))=false:=a1v (by omega)
        have m1:=a1k (show s1.st=T7 (s.dx.map FrD.q) S.sum.q S.n by
         unfold Sm.st T7
         have e1:s1.dx.map FrD.q=(s.dx.map FrD.q).map (fun q=>q+(S.sum.q-o5 (s.dx.map FrD.q)) / (S.n:Rat)):=by
          refine R6 (by simp[d0.out,hL.out]) fun j hj=>?_;have m4:j<s.dx.length:=by simpa using hj
          rw[m2.out,if_pos (by rw[←hL.out];exact m4),g1.out,d7.out,←c7.out,←c9.out,←hN.out];unfold gt;rw[p7 0 (by simpa using m4),p7 0 (by simpa using m4)]
          simp only[List.getElem_map]
         rw[e1,Z.out,m3.out.1,m3.out.2,g1.out,d7.out,←c7.out,←c9.out,←hN.out];rfl)
        have k1:=a1k (show jO KN S.n (S.cs.map CoD.con) f0 s1.st=some r by
         have h1:=hr.out;unfold fN at h1;rw[if_neg (by rw[hN.out];exact h0)] at h1;rw[m1.out];exact h1)
        obtain⟨g0,d9,c8,-⟩:=eJ k1.out;have v6:=a1k c8;obtain⟨o,ho⟩:∃ o,Hid ((x5 (S.cs.map CoD.con) s1.st.x S.cs.length).1=o):=⟨_,rfl⟩;have R:=Z0 hS.b hc.out c8.lx' hn c8.x;rw[show (x5 (S.cs.map CoD.con) (s1.dx.map FrD.q) S.cs.length).1=o from ho.out] at R;clear d9 c8;go_wp2_with fail;refine R.mono ?_;rintro e w5 ⟨rfl,b5⟩;clear R;have q9:=hS.below b5;have g3:=D.trans (b5.mono (a1t V.out D.size));have l2:fA S B w r f0 (.int .i64 (oi o)) w5:=⟨s1,q9,g3,by rw[ho.out],k1.out⟩;clear hS D q9 g3;go_wp2
        go_loopw [6] (fun v wr=>∃ f,fA S B w r f v wr) (fun v wr=>leastN fun f=>fA S B w r f v wr)
        case atStart=>exact⟨f0,l2⟩
        case round =>
         clear l2;have n6:∀ v wq,(∃ f,fA S B w r f v wq)→∃ f,Hid (leastN (fun f=>fA S B w r f v wq)=f)∧fA S B w r f v wq:=fun v wq hv=>⟨_,rfl,nY hv⟩;obtain⟨f,hf,s3,hS,D,rfl,g8⟩:=n6 _ _ hrel;clear n6 hrel;obtain⟨f1,rfl,k6,g4⟩:=eJ g8;have v5:=a1k k6;rw[p3.out] at g4;clear g8 k6
         rcases g4 with ⟨g5,f5⟩ | ⟨k3,q3,g5,l8,g2,r5⟩
         · rw[g5] at hf ⊢;have k0:=a1k f5;have m9:decide (0≤oi none)=false:=by decide
           clear f5 g5;go_wp2;go_ret;exact⟨s3,by rw[k0.out];rfl,hS,fun t e=>(by rw[k0.out] at e;injection e),D⟩
         · rw[g5] at hf ⊢;have v3:=a1k l8;have m9:decide (0≤((k3:Nat):Int))=true:=a1w (by omega);have p4:=rQ hS l8 hc.out hn g2 k5.out k2.out;have l0:=a1k r5;rw[show oi (some k3)=((k3:Nat):Int) from rfl] at hf ⊢;clear l8 g5 g2 r5;go_wp2_with fail;refine p4.mono ?_;rintro e w6 ⟨s6,rfl,h5,n1,b6⟩;clear p4;have b0:=D.trans b6;clear hS D b6
           cases q3 with
           | none =>
            have f5:=a1k (show r=none by
             rcases l0.out with ⟨-,h9⟩ | ⟨t,h9,-⟩
             · exact h9
             · cases h9)
            have s4:(none:Option St).isSome=false:=rfl;go_wp2;go_ret;exact⟨s6,by rw[f5.out];rfl,h5,fun t e=>(by rw[f5.out] at e;cases e),b0⟩
           | some t3 =>
            have d4:=a1k (show jO KN S.n (S.cs.map CoD.con) f1 s6.st=some r by
             rcases l0.out with ⟨h9,-⟩ | ⟨t,h9,h8⟩
             · cases h9
             · cases h9;rw[n1.out _ rfl];exact h8)
            obtain⟨g0,d9,d3,-⟩:=eJ d4.out;have s4:(some t3).isSome=true:=rfl;obtain⟨o6,r3⟩:∃ o,Hid ((x5 (S.cs.map CoD.con) s6.st.x S.cs.length).1=o):=⟨_,rfl⟩;have R:=Z0 h5.b hc.out d3.lx' hn d3.x;rw[show (x5 (S.cs.map CoD.con) (s6.dx.map FrD.q) S.cs.length).1=o6 from r3.out] at R;clear d9 d3;go_wp2_with fail;refine R.mono ?_;rintro e w7 ⟨rfl,b7⟩;clear R;have p6:=h5.below b7;have d6:=b0.trans (b7.mono (a1t V.out b0.size));have j5:=a1k (show fA S B w r f1 (.int .i64 (oi o6)) w7 from ⟨s6,p6,d6,by rw[r3.out],d4.out⟩);clear h5 b0 p6 d6;go_wp2;go_roundw
            case rel=>exact⟨f1,j5.out⟩
            case measure=>rw[hf.out];exact Nat.lt_succ_of_le (iI j5.out)
structure NwP where
 n:Nat
 m:Nat
 gv:Nat
 gs:Nat
 gx:Nat
 cx:Nat
 sum:FrD
 z:FrD
 dx:List FrD
 base:Nat
structure Nw (P:NwP) (vC:Value) (cs:List CoD) (w:World):Prop where
 v:Blk w P.gv 61 #[.pointer (some ⟨P.gs,0,none⟩)]
 blk:Blk w P.gs 82 #[.int .i64 (P.n:Int),.int .i64 (P.m:Int),vC,.slice (some ⟨P.gx,0,none⟩) P.dx.length P.cx,.bool P.sum.neg,.slice P.sum.a P.sum.la.length P.sum.ca,.slice P.sum.b P.sum.lb.length P.sum.cb,.bool P.z.neg,.slice P.z.a P.z.la.length P.z.ca,.slice P.z.b P.z.lb.length P.z.cb,.slice none 0 0,.slice none 0 0,.pointer none]
 sum:FV w P.sum.v P.sum.q
 z:FV w P.z.v P.z.q
 xo:XO w P.gx P.cx P.dx
 xf:AllFV w P.dx
 own:OwnC w P.base vC cs
 row:∀ d∈cs,∃ g,d.r.a=some ⟨g,0,none⟩∧d.r.c=d.r.ds.length∧ArrQ w g d.r.ds∧AllFV w d.r.ds∧g≠P.gx∧d.r.ds.length≤1000
 fv:∀ d∈cs,FV w d.l.v d.l.q
 hgv:P.base≤P.gv
 hgs:P.base≤P.gs
 hgx:P.base≤P.gx
theorem OwnC.notU {w:World}{base:Nat}{v:Value}{cs:List CoD}(h:OwnC w base v cs):∀ x,v≠.int .u32 x:=by
 rcases h.1.2 with ⟨rfl,h0⟩ | ⟨g,b,c,rfl,-⟩ <;> intro x e <;> cases e
theorem OwnC.far {w w':World}{base g:Nat}{v:Value}{cs:List CoD}(h:OwnC w base v cs) (hne:∀ g',v.ownBlock=some g'→g'≠g) (ho:Only w w' g):OwnC w' base v cs:=by
 rcases h.1.2 with ⟨rfl,h0⟩ | ⟨g',f,b,rfl,hb,hg,hn,hm,hs,ht⟩
 · have:cs=[]:=a2a h0;subst this;exact OwnC.nil _ _
 · have hB:Blk w g' 85 b:=hg;have c:g'≠g:=hne g' rfl;refine⟨⟨h.1.1,.inr ⟨g',f,b,rfl,hb,hB.only ho c,hn,hm,hs,ht⟩⟩,fun g2 h2=>?_⟩;obtain⟨d,k1,k2⟩:=h.2 g2 h2;exact⟨d,k1.only ho (hne g2 h2),k2⟩
section
variable {P:NwP}{vC:Value}{cs:List CoD}{w w':World}
theorem Nw.below (h:Nw P vC cs w) (hb:Below w.heap.size w w'):Nw P vC cs w' :=
 ⟨h.v.keep hb,h.blk.keep hb,h.sum.below hb,h.z.below hb,h.xo.below hb,h.xf.below hb,h.own.below hb,fun d hd=>by
  obtain⟨g,e,e2,hA,hV,hn⟩:=h.row d hd;exact⟨g,e,e2,hA.below hb,hV.below hb,hn⟩,fun d hd=>(h.fv d hd).below hb,h.hgv,h.hgs,h.hgx⟩
theorem Nw.c1 (h:Nw P vC cs w):w.cell? ⟨P.gv,0,none⟩=some (.pointer (some ⟨P.gs,0,none⟩)):=a4e h.v 0
theorem Nw.c0 (h:Nw P vC cs w):w.cell? ⟨P.gs,0,none⟩=some (.int .i64 (P.n:Int)):=a4e h.blk 0
theorem Nw.c2 (h:Nw P vC cs w):w.cell? ⟨P.gs,2,none⟩=some vC:=a4e h.blk 2
theorem Nw.app (h:Nw P vC cs w){d:CoD}(hr:∃ g,d.r.a=some ⟨g,0,none⟩∧d.r.c=d.r.ds.length∧ArrQ w g d.r.ds∧AllFV w d.r.ds∧g≠P.gx∧d.r.ds.length≤1000) (hl:FV w d.l.v d.l.q){ad:Addr}{c:Nat}(hnews:∀ j u,d.cells[j]?=some u→w.cell? (ad.add j)=some u) (h63:cs.length+1≤1000000000000) (hbase:P.base≤w.heap.size) :
 ∃ v' w' w9,(Builtin.append_ #[79,79] 79 #[vC,.slice (some ad) 1 c]).run Tryz.prog w=.ok v' w'∧w'.cell? ⟨P.gv,0,none⟩=some (.pointer (some ⟨P.gs,0,none⟩))∧w'.cell? ⟨P.gs,2,none⟩=some vC∧w'.frozen? ⟨P.gs,2,none⟩=false ∧
  w'.setCell ⟨P.gs,2,none⟩ v'=w9∧Nw P v' (cs++[d]) w9∧(∀ g t cur,Blk w g t cur→t≠85→Blk w' g t cur)∧∀ (B:Nat) (a:World),Below B a w→B≤P.base→Below B a w9:=by
 obtain⟨v',w',F,ho,hg⟩:=run_appC w P.base vC cs h.own ad c d hnews h63 hbase
 have o:∀ g t cur,Blk w g t cur→t≠85→Blk w' g t cur:=fun g t cur hB ht=>by
  cases hv:vC.ownBlock with
  | none =>
   rw[hv] at hg;exact hB.keep ⟨hg.os,hg.tape,hg.output,hg.size,fun k hk=>hg.block k hk (by simp)⟩
  | some gC =>
   rw[hv] at hg;obtain⟨M,k1,k2⟩:=h.own.2 gC hv;exact hB.only hg (hB.ne_type k1 ht)
 have p:∀ {u:Value} {q:Rat},FV w u q→FV w' u q:=fun hf=>hf.own (P:=iU) (fun x hx=>hx x rfl) h.own hg;have s:=o _ _ _ h.v (by decide);have f:=o _ _ _ h.blk (by decide)
 have I:XO w' P.gx P.cx P.dx:=by
  obtain⟨cur,h1,h2⟩:=h.xo;exact⟨cur,o _ _ _ h1 (by decide),h2⟩
 have hu:=h.own.notU
 have hn:NoDig #[.int .i64 (P.n:Int),.int .i64 (P.m:Int),vC,.slice (some ⟨P.gx,0,none⟩) P.dx.length P.cx,.bool P.sum.neg,.slice P.sum.a P.sum.la.length P.sum.ca,.slice P.sum.b P.sum.lb.length P.sum.cb,.bool P.z.neg,.slice P.z.a P.z.la.length P.z.ca,.slice P.z.b P.z.lb.length P.z.cb,.slice none 0 0,.slice none 0 0,.pointer none] :=
  NoDigL.noDig (l:=[.int .i64 (P.n:Int),.int .i64 (P.m:Int),vC,.slice (some ⟨P.gx,0,none⟩) P.dx.length P.cx,.bool P.sum.neg,.slice P.sum.a P.sum.la.length P.sum.ca,.slice P.sum.b P.sum.lb.length P.sum.cb,.bool P.z.neg,.slice P.z.a P.z.la.length P.z.ca,.slice P.z.b P.z.lb.length P.z.cb,.slice none 0 0,.slice none 0 0,.pointer none]) (fun u D x e=>by
   subst e
   simp only[a3i,List.not_mem_nil,or_false] at D
   rcases D with h | h | h | h | h | h | h | h | h | h | h | h | h
   all_goals first
    | exact hu _ h.symm
    | cases h) rfl
 have o9:=(a4m w' P.gs).set 2 v';have b9:=f.set 2 v'
 have E:∀ x∈cs++[d],∃ g,x.r.a=some ⟨g,0,none⟩∧x.r.c=x.r.ds.length∧ArrQ w g x.r.ds∧AllFV w x.r.ds∧g≠P.gx∧x.r.ds.length≤1000:=fun x hx=>by
  rcases a3b.1 hx with hx | hx
  · exact h.row x hx
  · simp at hx;subst hx;exact hr
 have J:∀ x∈cs++[d],FV w x.l.v x.l.q:=fun x hx=>by
  rcases a3b.1 hx with hx | hx
  · exact h.fv x hx
  · simp at hx;subst hx;exact hl
 refine⟨v',w',_,F,a4e s 0,a4e f 2,a4g f 2,rfl,⟨s.only o9 (s.ne_type f (by decide)),b9,(p h.sum).only_blk f hn o9,(p h.z).only_blk f hn o9,?_,fun x hx=>(p (h.xf x hx)).only_blk f hn o9,ho.far (fun g' C=>?_) o9,fun x hx=>?_,fun x hx=>(p (J x hx)).only_blk f hn o9,h.hgv,h.hgs,h.hgx⟩,o,fun B a hB A=>?_⟩
 · obtain⟨cur,h1,h2⟩:=I;exact⟨cur,h1.only o9 (h1.ne_type f (by decide)),h2⟩
 · obtain⟨cur,k1,k2⟩:=ho.2 g' C;exact k1.ne_type f (by decide)
 · obtain⟨g,e,e2,hA,hV,H⟩:=E x hx;have L:ArrQ w' g x.r.ds:=o _ _ _ hA (by decide);have G:Blk w' g 28 _:=L;exact⟨g,e,e2,G.only o9 (G.ne_type f (by decide)),fun y hy=>(p (hV y hy)).only_blk f hn o9,H⟩
 · have h1:Below B a w':=hB.grown hg (a1t A hbase) fun g' C=>a1t A (a4o h.own C);exact o9.to_below h1 (a1t A h.hgs) (by have:=h.hgs;have:=f.lt;omega)
end
theorem CoD.news {w:World}{g:Nat}{t:TypeId}{d:CoD}(h:Blk w g t #[.slice d.r.a d.r.ds.length d.r.c,.bool d.l.neg,.slice d.l.a d.l.la.length d.l.ca,.slice d.l.b d.l.lb.length d.l.cb]) (j:Nat) (u:Value) (hj:d.cells[j]?=some u):w.cell? ((⟨g,0,none⟩:Addr).add j)=some u:=by
 rw[D6,a4e h];have:#[Value.slice d.r.a d.r.ds.length d.r.c,.bool d.l.neg,.slice d.l.a d.l.la.length d.l.ca,.slice d.l.b d.l.lb.length d.l.cb][j]?=d.cells[j]?:=by rw[←Array.getElem?_toList];rfl
 rw[this];exact hj
end Go.Proofs.YtjhkapjadfpimaaGreat
