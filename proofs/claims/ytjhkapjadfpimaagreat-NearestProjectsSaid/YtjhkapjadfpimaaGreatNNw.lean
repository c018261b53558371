/- Contracts of functions, for the law. -/
import Derived.Test.YtjhkapjadfpimaaGreatNSat
namespace Go.Proofs.YtjhkapjadfpimaaGreat
set_option linter.unusedVariables false
set_option linter.unusedSimpArgs false
open Go.RowKit Plain
attribute [local go_sem ↓] Go.wp_at_zero Go.wp_at_succ
set_option maxRecDepth 100000
set_option maxHeartbeats 40000000
theorem OkS.lx' {K n:Nat}{all:List Con}{s:Sm}(h:OkS K n all s.st):s.dx.length=n:=by
 have h1:(s.dx.map FrD.q).length=n:=h.lx;rw[Dr] at h1;exact h1
theorem SolM.lv8 {S:Sv}{s:Sm}{ent:Value}{w:World}(h:SolM S s ent w){y:FrD}(hy:s.lv=y):w.cell? ⟨S.gs,7,none⟩=some (.bool y.neg)∧w.cell? ⟨S.gs,8,none⟩=some (.slice y.a y.la.length y.ca)∧w.cell? ⟨S.gs,9,none⟩=some (.slice y.b y.lb.length y.cb):=by
 subst hy;exact⟨h.b.cells.2.2.2.2.2.2.2.1,h.b.cells.2.2.2.2.2.2.2.2.1,h.b.cells.2.2.2.2.2.2.2.2.2.1⟩
theorem SolM.lvF {S:Sv}{s:Sm}{ent:Value}{w:World}(h:SolM S s ent w){y:FrD}(hy:s.lv=y):FV w y.v y.q:=by
 subst hy;exact h.b.lev
theorem kL {K n f:Nat}{all:List Con}{s:St}{r:Option St}(h:nH K n all f s=some r):∃ g,f=g+1∧OkS K n all s ∧
 ((aP all s.x all.length).1=none∧r=some s∨∃ k q,(aP all s.x all.length).1=some k∧k<all.length∧jA K n all k g s 0=some q∧(q=none∧r=none∨∃ t,q=some t∧nH K n all g t=some r)):=by
 cases f with
 | zero=>cases h
 | succ g =>
  have h0:(if vo K n all s=true then
   match (aP all s.x all.length).1 with
   | none=>some (some s)
   | some k=>match jA K n all k g s 0 with
    | none=>none
    | some none=>some none
    | some (some t)=>nH K n all g t
   else none)=some r:=h
  by_cases hc:vo K n all s=true
  · rw[if_pos hc] at h0;refine⟨g,rfl,okS_iff.1 hc,?_⟩;have hw:=lh all s.x all.length;obtain⟨o,D,b⟩:∃ o D,aP all s.x all.length=(o,D):=⟨_,_,rfl⟩;rw[b] at h0 hw ⊢
    cases o with
    | none=>injection h0 with h0;exact .inl ⟨rfl,h0.symm⟩
    | some k =>
     dsimp only at h0
     cases e:jA K n all k g s 0 with
     | none=>rw[e] at h0;cases h0
     | some q =>
      rw[e] at h0;refine .inr ⟨k,q,rfl,hw.1,e,?_⟩
      cases q with
      | none=>injection h0 with h0;exact .inl ⟨rfl,h0.symm⟩
      | some t=>exact .inr ⟨t,rfl,h0⟩
  · rw[if_neg hc] at h0;cases h0
def k8 (S:Sv) (B:Nat) (root:World) (r:Option St) (f:Nat) (v:Value) (w:World):Prop:=∃ s:Sm,SolM S s (.pointer none) w∧Below B root w∧v=.int .i64 (oi (aP (S.cs.map CoD.con) s.st.x S.cs.length).1)∧nH KN S.n (S.cs.map CoD.con) f s.st=some r
theorem og {S:Sv}{s:Sm}{f0 B Kt:Nat}{r:Option St}{w:World}(hKt0:2≤Kt) (hKt:Kt≤6000000) (h:SolM S s (.pointer none) w) (hc0:ConI S.n (S.cs.map CoD.con)) (hn:S.n≤8) (hl0:s.dx.length=S.n) (hi0:s.lv.q=0∧s.ia=[]∧s.dm=[]) (ht0:QFits Kt (s.dx.map FrD.q)) (hs0:Fits 2 S.sum.q) (hr0:lF KN (S.cs.map CoD.con) (s.dx.map FrD.q) S.sum.q S.n f0=some r) (hB1:B≤S.gs) (hB2:B≤S.gx) :
 Calls Tryz.prog 24 #[.pointer (some ⟨S.gs,0,none⟩)] w (Aj S r B w):=by
 have hc:=Dj hc0;have hl:=Dj hl0;have hi:=Dj hi0;have ht:=Dj ht0;have hs:=Dj hs0;have hr:=Dj hr0;have dq:=Dj hB1;have f4:=Dj hB2;obtain⟨gq,bg⟩:∃ q,Hid (aB (s.dx.map FrD.q)=q):=⟨_,rfl⟩;obtain⟨ms,bd⟩:∃ q,Hid (S.sum.q-gq=q):=⟨_,rfl⟩
 have d8:=Dj (show Fits (1+8*(Kt+1)) gq by
  rw[←bg.out];refine (lO (k:=Kt) ht0).mono ?_;rw[Dr,hl0];have:=Dx (Kt+1) hn
  omega)
 have gk:=Dj (show Fits (2+(1+8*(Kt+1))+1) ms by rw[←bd.out];exact hs0.sub d8.out)
 have g9:=Dj (show 1+(s.dx.length+1)*(Kt+1)<400000000 by
  rw[hl0];have:=Dx (Kt+1) (show S.n+1≤9 by omega)
  omega)
 have h6:=Dj (show ∀ d∈s.dx,Fits Kt d.q from QFits.fr0 ht0);have j0:=Dj (show QFits KN (s.dx.map FrD.q) from fun q hq=>(ht0 q hq).mono (show Kt≤10000000 by omega));have R:FL w (some ⟨S.gx,0,none⟩) S.cx s.dx:=h.b.xo.fl h.b.xf;have p:FV w S.sum.v S.sum.q:=h.b.sum;have V:=Dj (show B≤w.heap.size by have h1:=h.b.hs;have h2:=h.b.hR;omega);obtain⟨N,hN⟩:∃ N,Hid (S.n=N):=⟨_,rfl⟩;have g7:=Dj (show (S.cs.map CoD.con).length=S.cs.length from Dr _);clear hc0 hl0 hi0 ht0 hs0 hr0;go_enter Tryz.func24,Tryz.ntmps24;go_upto_region 1 with fail
 go_cut [3] (fun v wx=>∃ g t,v=.pointer (some ⟨g,0,none⟩)∧VarQ wx g t∧FV wx t.v t.q∧Hid (t.q=ms)∧Below w.heap.size w wx∧w.heap.size≤g)
 case first =>
  have bT:=DY w.heap.size w
  have hS:∀ w',Below w.heap.size w w'→w'.cell? ⟨S.gs,3,none⟩=some (.slice (some ⟨S.gx,0,none⟩) s.dx.length S.cx)∧w'.cell? ⟨S.gs,4,none⟩=some (.bool S.sum.neg)∧w'.cell? ⟨S.gs,5,none⟩=some (.slice S.sum.a S.sum.la.length S.sum.ca)∧w'.cell? ⟨S.gs,6,none⟩=some (.slice S.sum.b S.sum.lb.length S.sum.cb)∧Below w.heap.size w w':=by
   intro w' o;exact⟨(h.below o).b.cells.2.2.2.1,(h.below o).b.cells.2.2.2.2.1,(h.below o).b.cells.2.2.2.2.2.1,(h.below o).b.cells.2.2.2.2.2.2.1,o⟩
  have bo:Below w.heap.size w w:=DY _ _;have dS:Below w.heap.size w w.drew:=bo.drew;go_wp2_with fail;refine DZ ?_;refine D0 (S:=fun w'=>w'.cell? ⟨S.gs,3,none⟩=some (.slice (some ⟨S.gx,0,none⟩) s.dx.length S.cx)∧w'.cell? ⟨S.gs,4,none⟩=some (.bool S.sum.neg)∧w'.cell? ⟨S.gs,5,none⟩=some (.slice S.sum.a S.sum.la.length S.sum.ca)∧w'.cell? ⟨S.gs,6,none⟩=some (.slice S.sum.b S.sum.lb.length S.sum.cb)∧Below w.heap.size w w') (by kernel_rfl) (hS _ dS) (fun c=>?_);refine pE 0 1 2 3 4 5 6 7 c ?_;refine D6 (rs:=[8,10]) (by kernel_rfl) (by simp) ?_;refine D2 rfl (fun K hK=>?_) ?_
  · go_simp;have C:Below w.heap.size w w.drew:=(DY _ _).drew;replace R:=R.below C;replace p:=p.below C;replace bT:=Di bT C;replace bo:=Di bo C;have l:=lk (K:=Kt) R h6.out g9.out;rw[bg.out] at l;go_at_call 43;refine (l).mono ?_;rintro e u1 ⟨vd,rfl,X,G⟩;replace R:=R.below G;replace p:=p.below G;replace bT:=Di bT G;replace bo:=Di bo G;clear l;go_wp2_with fail;refine hK.out _ _ (hS _ bo) (fun c=>?_);clear hK K;(try simp only[aq]);refine D6 (rs:=[9,10]) (by kernel_rfl) (by simp) ?_;refine D2 rfl (fun K hK=>?_) ?_
    · go_simp;have l:=bI p X hs.out d8.out (by omega);go_at_call 32;refine (l).mono ?_;rintro e u2 ⟨vs,rfl,b9,bc⟩;replace p:=p.below bc;replace X:=X.below bc;replace bT:=Di bT bc;replace bo:=Di bo bc;clear l;obtain⟨gs,rfl,F,cq⟩:=b9.frd;clear b9;go_wp2_with fail;refine hK.out _ _ (hS _ bo) (fun c=>?_);clear hK K;(try simp only[aq]);refine aV 10 rfl fun K hK=>?_;have cv:=bT.size;obtain⟨u3,l3,bm,lo,hg⟩:=ag u2 #[.bool false,.slice none 0 0,.slice none 0 0] 28;replace p:=p.below bm;replace X:=X.below bm;replace F:=F.below bm;replace bT:=Di bT bm;replace bo:=Di bo bm;have hA:=hg;clear hg;go_simp;refine hK.out _ _ (hS _ bo) (fun c=>?_);clear hK K;(try simp only[aq]);refine aV 11 rfl fun K hK=>?_;have M:=cv;obtain⟨u4,q0,q1,q2,f0,f1,f2,lg,j5,ft⟩:=aF hA gs;have bT:=ft.to_below bT M bT.size;have bo:=ft.to_below bo M bo.size;replace F:=F.only_blk hA (ar _ _ _ _ _ _ _) ft;go_simp;refine hK.out _ _ (hS _ bo) (fun c=>?_);clear hK K;(try simp only[aq]);refine D7 (by kernel_rfl) ?_ _;refine D1 ?_;(try go_simp);clear c;go_wp2_with fail;go_meet;exact⟨_,gs,rfl,j5,F,cq.out.trans bd.out,bT,M⟩
    refine D2 rfl (fun K hK=>?_) ?_
    · have cv:=bT.size;obtain⟨u5,l6,dh,l8,h5⟩:=ag u1 #[.bool false,.slice none 0 0,.slice none 0 0] 28;replace p:=p.below dh;replace X:=X.below dh;replace bT:=Di bT dh;replace bo:=Di bo dh;have hA:=h5;clear h5;go_simp;refine hK.out _ _ (hS _ bo) (fun c=>?_);clear hK K;(try simp only[aq]);refine aV 9 rfl fun K hK=>?_;go_simp;have l:=bI p X hs.out d8.out (by omega);go_at_call 32;refine (l).mono ?_;rintro e u6 ⟨vs,rfl,b9,g3⟩;replace hA:=hA.keep g3;replace bT:=Di bT g3;replace bo:=Di bo g3;clear l;obtain⟨gs,rfl,F,cq⟩:=b9.frd;clear b9;go_wp2_with fail;refine hK.out _ _ (hS _ bo) (fun c=>?_);clear hK K;(try simp only[aq]);refine aV 11 rfl fun K hK=>?_;have M:=cv;obtain⟨u7,q0,q1,q2,f0,f1,f2,lq,j3,f9⟩:=aF hA gs;have bT:=f9.to_below bT M bT.size;have bo:=f9.to_below bo M bo.size;replace F:=F.only_blk hA (ar _ _ _ _ _ _ _) f9;go_simp;refine hK.out _ _ (hS _ bo) (fun c=>?_);clear hK K;(try simp only[aq]);refine D7 (by kernel_rfl) ?_ _;refine D1 ?_;(try go_simp);clear c;go_wp2_with fail;go_meet;exact⟨_,gs,rfl,j3,F,cq.out.trans bd.out,bT,M⟩
    exact D3
  refine D2 rfl (fun K hK=>?_) ?_
  · have cv:=bT.size;have d2:Below w.heap.size w w.drew:=(DY _ _).drew;replace R:=R.below d2;replace p:=p.below d2;replace bT:=Di bT d2;replace bo:=Di bo d2;obtain⟨u8,l7,d5,ln,d4⟩:=ag w.drew #[.bool false,.slice none 0 0,.slice none 0 0] 28;replace R:=R.below d5;replace p:=p.below d5;replace bT:=Di bT d5;replace bo:=Di bo d5;replace d4:Blk u8 w.heap.size 28 #[.bool false,.slice none 0 0,.slice none 0 0]:=d4;have hA:=d4;clear d4;go_simp;refine hK.out _ _ (hS _ bo) (fun c=>?_);clear hK K;(try simp only[aq]);refine aV 8 rfl fun K hK=>?_;go_simp;have l:=lk (K:=Kt) R h6.out g9.out;rw[bg.out] at l;go_at_call 43;refine (l).mono ?_;rintro e u9 ⟨vd,rfl,X,d3⟩;replace p:=p.below d3;replace hA:=hA.keep d3;replace bT:=Di bT d3;replace bo:=Di bo d3;clear l;go_wp2_with fail;refine hK.out _ _ (hS _ bo) (fun c=>?_);clear hK K;(try simp only[aq]);refine aV 9 rfl fun K hK=>?_;go_simp;have l:=bI p X hs.out d8.out (by omega);go_at_call 32;refine (l).mono ?_;rintro e ld ⟨vs,rfl,b9,bx⟩;replace hA:=hA.keep bx;replace bT:=Di bT bx
    replace bo:=Di bo bx;clear l;obtain⟨gs,rfl,F,cq⟩:=b9.frd;clear b9;go_wp2_with fail;refine hK.out _ _ (hS _ bo) (fun c=>?_);clear hK K;(try simp only[aq]);refine aV 11 rfl fun K hK=>?_;have M:=cv;obtain⟨lm,q0,q1,q2,f0,f1,f2,kv,gm,ch⟩:=aF hA gs;have bT:=ch.to_below bT M bT.size;have bo:=ch.to_below bo M bo.size;replace F:=F.only_blk hA (ar _ _ _ _ _ _ _) ch;go_simp;refine hK.out _ _ (hS _ bo) (fun c=>?_);clear hK K;(try simp only[aq]);refine D7 (by kernel_rfl) ?_ _;refine D1 ?_;(try go_simp);clear c;go_wp2_with fail;go_meet;exact⟨_,gs,rfl,gm,F,cq.out.trans bd.out,bT,M⟩
  exact D3
 case rest =>
  obtain⟨g,mt,rfl,A,O,fv,b1,bz⟩:=hcut;obtain⟨w1,j2⟩:∃ w1,w1=wc:=⟨_,rfl⟩;subst j2;have E:=h.below b1;have I:Below B w w1:=b1.mono V.out;have kg:=Dj (show g≠S.gs by have h1:=h.b.hs;have h2:=h.b.hR;omega);clear R p bz;have hc0:w1.cell? ⟨S.gs,0,none⟩=some (.int .i64 (N:Int)):=by rw[←hN.out];exact E.b.cells.1
  by_cases h0:N=0
  · subst h0;have h7:w1.cell? ⟨S.gs,0,none⟩=some (.int .i64 0):=hc0;obtain⟨x0,x1,x2⟩:=A.cells;obtain⟨o,ho⟩:∃ o,Hid ((aP (S.cs.map CoD.con) (s.dx.map FrD.q) S.cs.length).1=o):=⟨_,rfl⟩
    have bn:=Dj (show r=if ms=0∧o=none then some ⟨s.dx.map FrD.q,0,[],[]⟩ else none by
     have h1:=hr.out;unfold lF at h1;rw[if_pos hN.out,bg.out,bd.out,g7.out,ho.out] at h1
     split at h1 <;> rename_i hh
     · rw[if_pos hh];injection h1 with h1;exact h1.symm
     · rw[if_neg hh];injection h1 with h1;exact h1.symm)
    have fr:=Dj (show s.st=⟨s.dx.map FrD.q,0,[],[]⟩ by unfold Sm.st;rw[hi.out.1,hi.out.2.1,hi.out.2.2];rfl);obtain⟨sg,fx⟩:∃ s',Hid (bH ms 0=s'):=⟨_,rfl⟩;have fz:=ct O;rw[fv.out,fx.out] at fz;clear hc0;go_wp2_with fail;refine fz.mono ?_;rintro e w2 ⟨rfl,b2⟩;clear fz h7 x0 x1 x2;have bb:=E.below b2;have H:=I.trans (b2.mono (Ds V.out I.size))
    by_cases hs0:sg=0
    · have hz:(sg == 0)=true:=by rw[beq_iff_eq];exact hs0
      have g4:=Dj (show ms=0 from cmpR_zero.1 (by rw[fx.out];exact hs0));have U:=iZ bb.b hc.out hl.out hn j0.out;rw[ho.out] at U;go_wp2_with fail;refine U.mono ?_;rintro e w3 ⟨rfl,b3⟩;clear U;have hb:=bb.below b3;have d1:=H.trans (b3.mono (Ds V.out H.size))
      cases o with
      | none =>
       have b8:=Dj (show r=some ⟨s.dx.map FrD.q,0,[],[]⟩ by rw[bn.out,if_pos ⟨g4.out,rfl⟩]);have g6:decide (oi none<0)=true:=by decide
       go_wp2;go_ret;exact⟨s,by rw[b8.out];rfl,hb,fun t e=>(by rw[b8.out] at e;injection e with e;rw[←e];exact fr.out),d1⟩
      | some k =>
       have b8:=Dj (show r=none by rw[bn.out,if_neg (fun hh=>by cases hh.2)]);have g6:decide (oi (some k)<0)=false:=Du (by show ¬ ((k:Nat):Int)<0;omega);go_wp2;go_ret;exact⟨s,by rw[b8.out];rfl,hb,fun t e=>(by rw[b8.out] at e;cases e),d1⟩
    · have hz:(sg == 0)=false:=by rw[beq_eq_false_iff_ne];exact hs0
      have g4:=Dj (show ¬ ms=0 from fun e=>hs0 (by rw[←fx.out];exact cmpR_zero.2 e));have b8:=Dj (show r=none by rw[bn.out,if_neg (fun hh=>g4.out hh.1)]);go_wp2;go_ret;exact⟨s,by rw[b8.out];rfl,bb,fun t e=>(by rw[b8.out] at e;cases e),H⟩
  · have hz:((N:Int) == 0)=false:=by rw[beq_eq_false_iff_ne];omega
    have lr:decide ((N:Int)=0)=false:=Du (by omega);have kf:-9223372036854775808≤(N:Int):=by omega
    have l9:N≤8:=by rw[←hN.out];exact hn
    have k5:(N:Int)≤9223372036854775807:=by omega
    have g8:=Dj (show Fits 1 (((N:Nat):Int):Rat) by
     refine⟨?_,?_⟩
     · rw[Rat.num_intCast];show N<pw 1;have:pw 1=4294967296:=rfl;omega
     · rw[Rat.den_intCast];decide)
    have hm:=Dj (show Fits (2+(1+8*(Kt+1))+1) mt.q by rw[fv.out];exact gk.out);have cl:=Dj (show (((N:Nat):Int):Rat)=((N:Nat):Rat) from rfl)
    have k2:=Dj (show (((N:Nat):Int):Rat)≠0 by
     intro e;have:(((N:Nat):Int):Rat)=((0:Int):Rat):=by rw[e];rfl
     have:=Rat.intCast_inj.1 this
     omega)
    have he:=Dj (show ∀ x,(Value.pointer none)≠.int .u32 x from fun x e=>by cases e);go_upto_region 4 with fail
    go_cut [] (fun wx=>∃ y:FrD,Hid (y.q=ms / (((N:Nat):Int):Rat))∧SolM S { s with lv:=y } (.pointer none) wx∧Below B w wx)
    case first =>
     clear hc0;have bT:=DY w1.heap.size w1;have C:Below w1.heap.size w1 w1.drew:=(DY _ _).drew;replace E:=E.below C;replace A:=A.below C;replace O:=O.below C;replace bT:=Di bT C;clear C;go_wp2_with fail;refine DZ ?_;refine aw (J:=[]) (S:=fun w'=>w'.cell? ⟨S.gs,0,none⟩=some (.int .i64 (N:Int))∧w'.cell? ⟨g,0,none⟩=some (.bool mt.neg)∧w'.cell? ⟨g,1,none⟩=some (.slice mt.a mt.la.length mt.ca)∧w'.cell? ⟨g,2,none⟩=some (.slice mt.b mt.lb.length mt.cb)) (by kernel_rfl) (⟨by rw[←hN.out];exact E.b.cells.1,A.cells.1,A.cells.2.1,A.cells.2.2⟩) (fun c=>?_);refine py 0 1 2 3 c ?_;refine kB 4 5 c ?_;refine dg 6 rfl fun K hK=>?_;go_simp;have l:=aH (N:Int) (w1.drew) kf k5;go_at_call 26;refine (l).mono ?_;rintro e u1 ⟨vn,rfl,k0,G⟩;clear l;replace E:=E.below G;replace A:=A.below G;replace O:=O.below G;replace bT:=Di bT G;go_wp2_with fail;refine hK.out _ _ (⟨by rw[←hN.out];exact E.b.cells.1,A.cells.1,A.cells.2.1,A.cells.2.2⟩) (fun c=>?_);clear hK K;(try simp only[aq]);refine dg 7 rfl fun K hK=>?_;go_simp;have l:=fw O k0 hm.out g8.out (by omega) k2.out
     go_at_call 45;refine (l).mono ?_;rintro e u2 ⟨va,rfl,cy,bc⟩;clear l;replace E:=E.below bc;replace A:=A.below bc;replace bT:=Di bT bc;obtain⟨y,rfl,hy,bq⟩:=cy.frd;clear cy;go_wp2_with fail;refine hK.out _ _ (⟨by rw[←hN.out];exact E.b.cells.1,A.cells.1,A.cells.2.1,A.cells.2.2⟩) (fun c=>?_);clear hK K;(try simp only[aq]);refine py 8 9 10 11 c ?_;refine kr 12 rfl c ?_;refine dg 13 rfl fun K hK=>?_;obtain⟨x7,x8,x9⟩:=E.lv8 rfl;obtain⟨w9,f0,f1,f2,e9,d6,o9⟩:=E.setLev he.out hy;have g5:=A.only o9 kg.out;have gv:=o9.to_below (I.trans (bT.mono (Ds V.out I.size))) dq.out (Ds (Ds V.out I.size) bT.size);go_simp;refine hK.out _ _ (⟨by rw[←hN.out];exact d6.b.cells.1,g5.cells.1,g5.cells.2.1,g5.cells.2.2⟩) (fun c=>?_);clear hK K;(try simp only[aq]);refine au (by kernel_rfl) ?_ _;refine D1 ?_;(try go_simp);(try clear c);go_wp2_with fail;go_meet;exact⟨y,bq.out.trans (by rw[fv.out]),d6,gv⟩
    case rest =>
     obtain⟨y,bq,bb,H⟩:=hcut;obtain⟨s2,db⟩:∃ s2:Sm,Hid (s2={ s with lv:=y }):=⟨_,rfl⟩;rw[←db.out] at bb;have f5:=Dj (show s2.lv=y by rw[db.out]);have c7:=Dj (show s2.dx=s.dx by rw[db.out]);have f3:=Dj (show s2.ia=[]∧s2.dm=[] by rw[db.out];exact hi.out.2);obtain⟨w2,j4⟩:∃ w2,w2=wc:=⟨_,rfl⟩;subst j4;obtain⟨L,hL⟩:∃ L,Hid (s.dx.length=L):=⟨_,rfl⟩;have l2:L≤8:=by rw[←hL.out,hl.out];exact hn
     have cg:=Dj (show s2.dx.length=L by rw[c7.out,hL.out]);have js:=bb.c3 cg.out;have j1:=Dj (show Fits (2+(1+8*(Kt+1))+1+1) y.q by rw[bq.out];exact gk.out.div g8.out);clear E A O hc0 I;go_wp2
     go_loopw [48] (fun i wr=>∃ k:Nat,k≤L∧i=.int .i64 (k:Int)∧∃ s1:Sm,SolM S s1 (.pointer none) wr∧Hid (s1.dx.length=L)∧Hid (∀ j,gt (s1.dx.map FrD.q) j=if j<k then gt (s.dx.map FrD.q) j+y.q else gt (s.dx.map FrD.q) j)∧Hid (s1.lv=y)∧Hid (s1.ia=[]∧s1.dm=[])∧Below B w wr) (fun i _=>L-(intOf i).toNat)
     case atStart=>exact⟨0,by omega,rfl,s2,bb,cg.out,fun j=>by rw[if_neg (by omega),c7.out],f5.out,f3.out,H⟩
     case round =>
      clear bb js H f5 c7 f3 cg;obtain⟨k,hk,rfl,s1,hS,cr,g1,Y,fq,D⟩:=hrel
      by_cases hkl:k<L
      · have l5:(k:Int)<(L:Int):=by omega
        have fs:=Dj (show k<s1.dx.length by rw[cr.out];exact hkl);obtain⟨xk,b0⟩:∃ xk,Hid (s1.dx[k]?=some xk):=⟨_,Dl fs.out⟩;obtain⟨c0,c1,c2⟩:=hS.xc b0.out;obtain⟨wA,w4,eA,p0,p1,p2,r0,r1,r2,eB,T,b4,l4⟩:=bM wr xk;have m:=hS.below b4;have g2:=D.trans (b4.mono (Ds V.out D.size));have d9:FV w4 xk.v xk.q:=m.b.xf xk (Dm b0.out);have gz:=Dj (show xk.q=gt (s.dx.map FrD.q) k by rw[←iI b0.out,g1.out,if_neg (by omega)]);have k6:=Dj (show Fits Kt xk.q by rw[gz.out];exact ht.out.getD (by omega) k)
        have bv:∀ j (z:FrD),z.q=xk.q+y.q→gt ((s1.dx.set k z).map FrD.q) j=if j<k+1 then gt (s.dx.map FrD.q) j+y.q else gt (s.dx.map FrD.q) j:=fun j z hz=>by
         rw[qS fs.out]
         by_cases e:j=k
         · subst e;rw[if_pos rfl,if_pos (by omega),hz,gz.out]
         · rw[if_neg e,g1.out]
           by_cases e2:j<k
           · rw[if_pos e2,if_pos (by omega)]
           · rw[if_neg e2,if_neg (by omega)]
        replace bv:=Dj bv;clear hS D;go_upto_region 8 with fail;clear p0 p1 p2 r0 r1 r2 eA eB c0 c1 c2;have bT:=DY w4.heap.size w4;have C:Below w4.heap.size w4 w4.drew:=(DY _ _).drew;replace m:=m.below C;replace T:=T.below C;replace d9:=d9.below C;replace bT:=Di bT C;clear C;go_wp2_with fail;refine DZ ?_;refine aw (J:=[12]) (S:=fun w'=>w'.cell? ⟨S.gs,3,none⟩=some (.slice (some ⟨S.gx,0,none⟩) L S.cx)∧w'.cell? ⟨S.gx,k*3,none⟩=some (.bool xk.neg)∧w'.cell? ⟨S.gx,k*3+1,none⟩=some (.slice xk.a xk.la.length xk.ca)∧w'.cell? ⟨S.gx,k*3+2,none⟩=some (.slice xk.b xk.lb.length xk.cb)∧w'.cell? ⟨S.gs,7,none⟩=some (.bool y.neg)∧w'.cell? ⟨S.gs,8,none⟩=some (.slice y.a y.la.length y.ca)∧w'.cell? ⟨S.gs,9,none⟩=some (.slice y.b y.lb.length y.cb)∧w'.cell? ⟨wr.heap.size,0,none⟩=some (.bool xk.neg)∧w'.cell? ⟨wr.heap.size,1,none⟩=some (.slice xk.a xk.la.length xk.ca)∧w'.cell? ⟨wr.heap.size,2,none⟩=some (.slice xk.b xk.lb.length xk.cb)) (by kernel_rfl) (⟨m.c3 cr.out,(m.xc b0.out).1,(m.xc b0.out).2.1,(m.xc b0.out).2.2,(m.lv8 Y.out).1,(m.lv8 Y.out).2.1,(m.lv8 Y.out).2.2,T.cells.1,T.cells.2.1,T.cells.2.2⟩) (fun c=>?_);refine py 0 1 2 3 c ?_
        refine py 4 5 6 7 c ?_;refine kB 8 9 c ?_;refine dg 10 rfl fun K hK=>?_;go_simp;have l:=dB d9 (m.lvF Y.out) k6.out j1.out (by omega);go_at_call 27;refine (l).mono ?_;rintro e u1 ⟨va,rfl,cy,G⟩;clear l;replace m:=m.below G;replace T:=T.below G;replace bT:=Di bT G;obtain⟨z,rfl,hz,k1⟩:=cy.frd;clear cy;obtain⟨w9,f0,f1,f2,e9,d6,o9⟩:=m.setX fs.out hz;go_wp2_with fail;refine hK.out _ _ (⟨m.c3 cr.out,(m.xc b0.out).1,(m.xc b0.out).2.1,(m.xc b0.out).2.2,(m.lv8 Y.out).1,(m.lv8 Y.out).2.1,(m.lv8 Y.out).2.2,T.cells.1,T.cells.2.1,T.cells.2.2⟩) (fun c=>?_);clear hK K;(try simp only[aq]);refine kr 11 rfl c ?_;refine aj (rs:=[12]) (by kernel_rfl) (by simp) ?_;refine Ee rfl (by decide) (fun K hK=>?_) Ed;go_simp;refine hK.out _ _ ?_;clear hK K;(try clear c);(try simp only[aq]);refine au (by kernel_rfl) ?_ _;refine D1 ?_;(try go_simp);(try clear c);have hx:=o9.to_below (g2.trans (bT.mono (Ds V.out g2.size))) f4.out (Ds (Ds V.out g2.size) bT.size);clear m T d9 hz o9;go_wp2;go_roundw
        case rel =>
         refine⟨k+1,by omega,by go_num,_,d6,?_,?_,Y.out,fq.out,hx⟩
         · show (s1.dx.set k z).length=_
           rw[DH];exact cr.out
         · intro j;exact (bv j z k1.out)
        case measure=>simp[intOf];omega
      · obtain rfl:k=L:=by omega
        have l1:decide ((k:Int)<(k:Int))=false:=Du (by omega)
        have fr:=Dj (show s1.st=gI (s.dx.map FrD.q) S.sum.q S.n by
         unfold Sm.st gI
         have e1:s1.dx.map FrD.q=(s.dx.map FrD.q).map (fun q=>q+(S.sum.q-aB (s.dx.map FrD.q)) / (S.n:Rat)):=by
          refine fY (by simp[cr.out,hL.out]) fun j hj=>?_;have fb:j<s.dx.length:=by simpa using hj
          rw[g1.out,if_pos (by rw[←hL.out];exact fb),bq.out,cl.out,←bd.out,←bg.out,←hN.out];unfold gt;rw[aD 0 (by simpa using fb),aD 0 (by simpa using fb)]
          simp only[List.getElem_map]
         rw[e1,Y.out,fq.out.1,fq.out.2,bq.out,cl.out,←bd.out,←bg.out,←hN.out];rfl)
        have ds:=Dj (show nH KN S.n (S.cs.map CoD.con) f0 s1.st=some r by
         have h1:=hr.out;unfold lF at h1;rw[if_neg (by rw[hN.out];exact h0)] at h1;rw[fr.out];exact h1)
        obtain⟨g0,bz,bf,-⟩:=kL ds.out;have lf:=Dj bf;obtain⟨o,ho⟩:∃ o,Hid ((aP (S.cs.map CoD.con) s1.st.x S.cs.length).1=o):=⟨_,rfl⟩;have U:=iZ hS.b hc.out bf.lx' hn bf.x;rw[show (aP (S.cs.map CoD.con) (s1.dx.map FrD.q) S.cs.length).1=o from ho.out] at U;clear bz bf;go_wp2_with fail;refine U.mono ?_;rintro e w5 ⟨rfl,b5⟩;clear U;have gr:=hS.below b5;have c8:=D.trans (b5.mono (Ds V.out D.size));have f6:k8 S B w r f0 (.int .i64 (oi o)) w5:=⟨s1,gr,c8,by rw[ho.out],ds.out⟩;clear hS D gr c8;go_wp2
        go_loopw [6] (fun v wr=>∃ f,k8 S B w r f v wr) (fun v wr=>leastN fun f=>k8 S B w r f v wr)
        case atStart=>exact⟨f0,f6⟩
        case round =>
         clear f6;have h3:∀ v wq,(∃ f,k8 S B w r f v wq)→∃ f,Hid (leastN (fun f=>k8 S B w r f v wq)=f)∧k8 S B w r f v wq:=fun v wq hv=>⟨_,rfl,ql hv⟩;obtain⟨f,hf,s3,hS,D,rfl,cd⟩:=h3 _ _ hrel;clear h3 hrel;obtain⟨f1,rfl,dt,cz⟩:=kL cd;have kk:=Dj dt;rw[g7.out] at cz;clear cd dt
         rcases cz with ⟨c5,c4⟩ | ⟨k3,q3,c5,fm,cm,gc⟩
         · rw[c5] at hf ⊢;have dr:=Dj c4;have g6:decide (0≤oi none)=false:=by decide
           clear c4 c5;go_wp2;go_ret;exact⟨s3,by rw[dr.out];rfl,hS,fun t e=>(by rw[dr.out] at e;injection e),D⟩
         · rw[c5] at hf ⊢;have l0:=Dj fm;have g6:decide (0≤((k3:Nat):Int))=true:=Dv (by omega);have hp:=sl hS fm hc.out hn cm dq.out f4.out;have dp:=Dj gc;rw[show oi (some k3)=((k3:Nat):Int) from rfl] at hf ⊢;clear fm c5 cm gc;go_wp2_with fail;refine hp.mono ?_;rintro e w6 ⟨s6,rfl,d7,h4,b6⟩;clear hp;have Z:=D.trans b6;clear hS D b6
           cases q3 with
           | none =>
            have c4:=Dj (show r=none by
             rcases dp.out with ⟨-,h9⟩ | ⟨t,h9,-⟩
             · exact h9
             · cases h9)
            have k4:(none:Option St).isSome=false:=rfl;go_wp2;go_ret;exact⟨s6,by rw[c4.out];rfl,d7,fun t e=>(by rw[c4.out] at e;cases e),Z⟩
           | some t3 =>
            have bs:=Dj (show nH KN S.n (S.cs.map CoD.con) f1 s6.st=some r by
             rcases dp.out with ⟨h9,-⟩ | ⟨t,h9,h8⟩
             · cases h9
             · cases h9;rw[h4.out _ rfl];exact h8)
            obtain⟨g0,bz,c9,-⟩:=kL bs.out;have k4:(some t3).isSome=true:=rfl;obtain⟨o6,gp⟩:∃ o,Hid ((aP (S.cs.map CoD.con) s6.st.x S.cs.length).1=o):=⟨_,rfl⟩;have U:=iZ d7.b hc.out c9.lx' hn c9.x;rw[show (aP (S.cs.map CoD.con) (s6.dx.map FrD.q) S.cs.length).1=o6 from gp.out] at U;clear bz c9;go_wp2_with fail;refine U.mono ?_;rintro e w7 ⟨rfl,b7⟩;clear U;have gb:=d7.below b7;have d0:=Z.trans (b7.mono (Ds V.out Z.size));have dk:=Dj (show k8 S B w r f1 (.int .i64 (oi o6)) w7 from ⟨s6,gb,d0,by rw[gp.out],bs.out⟩);clear d7 Z gb d0;go_wp2;go_roundw
            case rel=>exact⟨f1,dk.out⟩
            case measure=>rw[hf.out];exact Nat.lt_succ_of_le (mL dk.out)
structure NwP where
 n:Nat
 m:Nat
 gv:Nat
 gs:Nat
 gx:Nat
 cx:Nat
 sum:FrD
 z:FrD
 dx:List FrD
 base:Nat
structure Nw (P:NwP) (vC:Value) (cs:List CoD) (w:World):Prop where
 v:Blk w P.gv 61 #[.pointer (some ⟨P.gs,0,none⟩)]
 blk:Blk w P.gs 82 #[.int .i64 (P.n:Int),.int .i64 (P.m:Int),vC,.slice (some ⟨P.gx,0,none⟩) P.dx.length P.cx,.bool P.sum.neg,.slice P.sum.a P.sum.la.length P.sum.ca,.slice P.sum.b P.sum.lb.length P.sum.cb,.bool P.z.neg,.slice P.z.a P.z.la.length P.z.ca,.slice P.z.b P.z.lb.length P.z.cb,.slice none 0 0,.slice none 0 0,.pointer none]
 sum:FV w P.sum.v P.sum.q
 z:FV w P.z.v P.z.q
 xo:XO w P.gx P.cx P.dx
 xf:AllFV w P.dx
 own:OwnC w P.base vC cs
 row:∀ d∈cs,∃ g,d.r.a=some ⟨g,0,none⟩∧d.r.c=d.r.ds.length∧ArrQ w g d.r.ds∧AllFV w d.r.ds∧g≠P.gx∧d.r.ds.length≤1000
 fv:∀ d∈cs,FV w d.l.v d.l.q
 hgv:P.base≤P.gv
 hgs:P.base≤P.gs
 hgx:P.base≤P.gx
theorem OwnC.notU {w:World}{base:Nat}{v:Value}{cs:List CoD}(h:OwnC w base v cs):∀ x,v≠.int .u32 x:=by
 rcases h.1.2 with ⟨rfl,h0⟩ | ⟨g,c,b,rfl,-⟩ <;> intro x e <;> cases e
theorem OwnC.far {w w':World}{base g:Nat}{v:Value}{cs:List CoD}(h:OwnC w base v cs) (hne:∀ g',v.ownBlock=some g'→g'≠g) (ho:Only w w' g):OwnC w' base v cs:=by
 rcases h.1.2 with ⟨rfl,h0⟩ | ⟨g',f,d,rfl,hb,hg,hn,hm,hs,ht⟩
 · have:cs=[]:=Dz h0;subst this;exact OwnC.nil _ _
 · have hB:Blk w g' 85 d:=hg;have b:g'≠g:=hne g' rfl;refine⟨⟨h.1.1,.inr ⟨g',f,d,rfl,hb,hB.only ho b,hn,hm,hs,ht⟩⟩,fun g2 h2=>?_⟩;obtain⟨c,k1,k2⟩:=h.2 g2 h2;exact⟨c,k1.only ho (hne g2 h2),k2⟩
section
variable {P:NwP}{vC:Value}{cs:List CoD}{w w':World}
theorem Nw.below (h:Nw P vC cs w) (hb:Below w.heap.size w w'):Nw P vC cs w' :=
 ⟨h.v.keep hb,h.blk.keep hb,h.sum.below hb,h.z.below hb,h.xo.below hb,h.xf.below hb,h.own.below hb,fun d hd=>by
  obtain⟨g,e,e2,hA,hV,hn⟩:=h.row d hd;exact⟨g,e,e2,hA.below hb,hV.below hb,hn⟩,fun d hd=>(h.fv d hd).below hb,h.hgv,h.hgs,h.hgx⟩
theorem Nw.c1 (h:Nw P vC cs w):w.cell? ⟨P.gv,0,none⟩=some (.pointer (some ⟨P.gs,0,none⟩)):=D9 h.v 0
theorem Nw.c0 (h:Nw P vC cs w):w.cell? ⟨P.gs,0,none⟩=some (.int .i64 (P.n:Int)):=D9 h.blk 0
theorem Nw.c2 (h:Nw P vC cs w):w.cell? ⟨P.gs,2,none⟩=some vC:=D9 h.blk 2
theorem Nw.app (h:Nw P vC cs w){d:CoD}(hr:∃ g,d.r.a=some ⟨g,0,none⟩∧d.r.c=d.r.ds.length∧ArrQ w g d.r.ds∧AllFV w d.r.ds∧g≠P.gx∧d.r.ds.length≤1000) (hl:FV w d.l.v d.l.q){ad:Addr}{c:Nat}(hnews:∀ j u,d.cells[j]?=some u→w.cell? (ad.add j)=some u) (h63:cs.length+1≤1000000000000) (hbase:P.base≤w.heap.size) :
 ∃ v' w' w9,(Builtin.append_ #[79,79] 79 #[vC,.slice (some ad) 1 c]).run Tryz.prog w=.ok v' w'∧w'.cell? ⟨P.gv,0,none⟩=some (.pointer (some ⟨P.gs,0,none⟩))∧w'.cell? ⟨P.gs,2,none⟩=some vC∧w'.frozen? ⟨P.gs,2,none⟩=false ∧
  w'.setCell ⟨P.gs,2,none⟩ v'=w9∧Nw P v' (cs++[d]) w9∧(∀ g t cur,Blk w g t cur→t≠85→Blk w' g t cur)∧∀ (B:Nat) (a:World),Below B a w→B≤P.base→Below B a w9:=by
 obtain⟨v',w',F,ho,hg⟩:=yM w P.base vC cs h.own ad c d hnews h63 hbase
 have o:∀ g t cur,Blk w g t cur→t≠85→Blk w' g t cur:=fun g t cur hB ht=>by
  cases hv:vC.ownBlock with
  | none =>
   rw[hv] at hg;exact hB.keep ⟨hg.os,hg.tape,hg.output,hg.size,fun k hk=>hg.block k hk (by simp)⟩
  | some gC =>
   rw[hv] at hg;obtain⟨M,k1,k2⟩:=h.own.2 gC hv;exact hB.only hg (hB.ne_type k1 ht)
 have p:∀ {u:Value} {q:Rat},FV w u q→FV w' u q:=fun hf=>hf.own (P:=mX) (fun x hx=>hx x rfl) h.own hg;have A:=o _ _ _ h.v (by decide);have f:=o _ _ _ h.blk (by decide)
 have H:XO w' P.gx P.cx P.dx:=by
  obtain⟨cur,h1,h2⟩:=h.xo;exact⟨cur,o _ _ _ h1 (by decide),h2⟩
 have hu:=h.own.notU
 have hn:NoDig #[.int .i64 (P.n:Int),.int .i64 (P.m:Int),vC,.slice (some ⟨P.gx,0,none⟩) P.dx.length P.cx,.bool P.sum.neg,.slice P.sum.a P.sum.la.length P.sum.ca,.slice P.sum.b P.sum.lb.length P.sum.cb,.bool P.z.neg,.slice P.z.a P.z.la.length P.z.ca,.slice P.z.b P.z.lb.length P.z.cb,.slice none 0 0,.slice none 0 0,.pointer none] :=
  NoDigL.noDig (l:=[.int .i64 (P.n:Int),.int .i64 (P.m:Int),vC,.slice (some ⟨P.gx,0,none⟩) P.dx.length P.cx,.bool P.sum.neg,.slice P.sum.a P.sum.la.length P.sum.ca,.slice P.sum.b P.sum.lb.length P.sum.cb,.bool P.z.neg,.slice P.z.a P.z.la.length P.z.ca,.slice P.z.b P.z.lb.length P.z.cb,.slice none 0 0,.slice none 0 0,.pointer none]) (fun u E x e=>by
   subst e
   simp only[List.mem_cons,List.not_mem_nil,or_false] at E
   rcases E with h | h | h | h | h | h | h | h | h | h | h | h | h
   all_goals first
    | exact hu _ h.symm
    | cases h) rfl
 have o9:=(Eh w' P.gs).set 2 v';have b9:=f.set 2 v'
 have G:∀ x∈cs++[d],∃ g,x.r.a=some ⟨g,0,none⟩∧x.r.c=x.r.ds.length∧ArrQ w g x.r.ds∧AllFV w x.r.ds∧g≠P.gx∧x.r.ds.length≤1000:=fun x hx=>by
  rcases List.mem_append.1 hx with hx | hx
  · exact h.row x hx
  · simp at hx;subst hx;exact hr
 have J:∀ x∈cs++[d],FV w x.l.v x.l.q:=fun x hx=>by
  rcases List.mem_append.1 hx with hx | hx
  · exact h.fv x hx
  · simp at hx;subst hx;exact hl
 refine⟨v',w',_,F,D9 A 0,D9 f 2,Eb f 2,rfl,⟨A.only o9 (A.ne_type f (by decide)),b9,(p h.sum).only_blk f hn o9,(p h.z).only_blk f hn o9,?_,fun x hx=>(p (h.xf x hx)).only_blk f hn o9,ho.far (fun g' C=>?_) o9,fun x hx=>?_,fun x hx=>(p (J x hx)).only_blk f hn o9,h.hgv,h.hgs,h.hgx⟩,o,fun B a hB s=>?_⟩
 · obtain⟨cur,h1,h2⟩:=H;exact⟨cur,h1.only o9 (h1.ne_type f (by decide)),h2⟩
 · obtain⟨cur,k1,k2⟩:=ho.2 g' C;exact k1.ne_type f (by decide)
 · obtain⟨g,e,e2,hA,hV,L⟩:=G x hx;have I:ArrQ w' g x.r.ds:=o _ _ _ hA (by decide);have D:Blk w' g 28 _:=I;exact⟨g,e,e2,D.only o9 (D.ne_type f (by decide)),fun y hy=>(p (hV y hy)).only_blk f hn o9,L⟩
 · have h1:Below B a w':=hB.grown hg (Ds s hbase) fun g' C=>Ds s (Ej h.own C);exact o9.to_below h1 (Ds s h.hgs) (by have:=h.hgs;have:=f.lt;omega)
end
theorem CoD.news {w:World}{g:Nat}{t:TypeId}{d:CoD}(h:Blk w g t #[.slice d.r.a d.r.ds.length d.r.c,.bool d.l.neg,.slice d.l.a d.l.la.length d.l.ca,.slice d.l.b d.l.lb.length d.l.cb]) (j:Nat) (u:Value) (hj:d.cells[j]?=some u):w.cell? ((⟨g,0,none⟩:Addr).add j)=some u:=by
 rw[bO,D9 h];have:#[Value.slice d.r.a d.r.ds.length d.r.c,.bool d.l.neg,.slice d.l.a d.l.la.length d.l.ca,.slice d.l.b d.l.lb.length d.l.cb][j]?=d.cells[j]?:=by rw[←Array.getElem?_toList];rfl
 rw[this];exact hj
end Go.Proofs.YtjhkapjadfpimaaGreat
