/- Contracts of functions, for the law. -/
import Derived.Test.YtjhkapjadfpimaaGreatNSrD
namespace Go.Proofs.YtjhkapjadfpimaaGreat
set_option linter.unusedVariables false
set_option linter.unusedSimpArgs false
open Go.RowKit Plain
def LrAt (L:List (List Int × Int)) (root:World) (k:Nat) (v:Value) (w:World):Prop :=
 ∃ ls:List LmD,OwnL w root.heap.size v ls∧(∀ l∈ls,ZL root l.a l.c l.zs)∧ls.length=k∧ls.map LmD.p=L.take k∧Below root.heap.size root w
section
variable {L:List (List Int × Int)}{root w w':World}{k:Nat}{v:Value}
theorem LrAt.one {l:LmD}(hB:Blk w root.heap.size 103 #[.slice l.a l.zs.length l.c,.int .i64 l.b]) (hr:ZL root l.a l.c l.zs) (hq:L[0]?=some l.p) (hbel:Below root.heap.size root w):LrAt L root 1 (.slice (some ⟨root.heap.size,0,none⟩) 1 1) w:=by
 refine⟨[l],⟨⟨rfl,.inr ⟨root.heap.size,1,_,rfl,a1u _,hB,a1u _,by decide,rfl,rfl⟩⟩,fun g' hg=>?_⟩,fun x hx=>by simp at hx;subst hx;exact hr,rfl,by rw[a3e,hq];rfl,hbel⟩
 simp[Value.ownBlock] at hg
 subst hg;refine⟨_,hB,fun i x hx y e=>?_⟩;subst e
 match i with
 | 0=>injection hx with hx;cases hx
 | 1=>injection hx with hx;cases hx
 | i+2=>simp at hx
theorem LrAt.bel (h:LrAt L root k v w):Below root.heap.size root w:=by obtain⟨ls,h1,h2,h3,h4,h5⟩:=h;exact h5
theorem LrAt.app (h:LrAt L root k v w) (hk:k<1000000000){l:LmD}(hq:L[k]?=some l.p) (hr:ZL root l.a l.c l.zs) :
 ∃ v6 w6,(Builtin.append_ #[99,99] 99 #[v,.slice (some ⟨w.heap.size,0,none⟩) 1 1]).run Tryz.prog (w.alloc (.cells #[.slice l.a l.zs.length l.c,.int .i64 l.b] 103))=.ok v6 w6∧LrAt L root (k+1) v6 w6:=by
 obtain⟨ls,h1,h2,h3,h4,h5⟩:=h;have ba:=(a3t w.heap.size w).alloc (a1u _) (.cells #[.slice l.a l.zs.length l.c,.int .i64 l.b] 103);have hB:=a4h w 103 #[.slice l.a l.zs.length l.c,.int .i64 l.b];have ho:=OwnG.below h1 ba
 obtain⟨v6,w6,d,g1,g2⟩:=rR _ root.heap.size v ls ho ⟨w.heap.size,0,none⟩ 1 l (fun j u hj=>by
  rw[D6,a4e hB];have:(#[Value.slice l.a l.zs.length l.c,.int .i64 l.b]:Array Value)[j]?=l.cells[j]?:=by rw[←Array.getElem?_toList];rfl
  rw[this];exact hj) (by omega) (a1t h5.size ba.size)
 refine⟨v6,w6,d,ls++[l],g1,fun x hx=>?_,by rw[a1x,h3];rfl,?_,?_⟩
 · rcases a3b.1 hx with hx | hx
   · exact h2 x hx
   · simp at hx;subst hx;exact hr
 · rw[a2r,h4,a3e,hq];rfl
 · exact ((a1j h5 ba)).grown g2 (a1t h5.size ba.size) fun g hg=>a4o ho hg
theorem LrAt.done (h:LrAt L root k v w) (hk:k=L.length):∃ A c ls,v=.slice A ls.length c∧LmL w A c ls∧Hid (ls.map LmD.p=L):=by
 obtain⟨ls,h1,h2,h3,h4,h5⟩:=h;obtain⟨A,c,e,hs⟩:=h1.srow;exact⟨A,c,ls,e,⟨hs,fun l hl=>(h2 l hl).below h5⟩,by show _=_;rw[h4,hk,a2z]⟩
end
theorem GrAt.appM2 {G:C4}{rt:List Rat}{root w:World}{k l:Nat}{vg vr:Value}(h:GrAt G rt root k l vg vr w){r:RwD}(hk:k<1000000000000) (hq:G[k]?=some r.qs) (hr:FL w r.a r.c r.ds) (hra:∀ a,r.a=some a→vr.ownBlock≠some a.block∧a.block<w.heap.size) :
 ∃ v6 w6,(Builtin.append_ #[56,56] 56 #[vg,.slice (some ⟨w.heap.size,0,none⟩) 1 1]).run Tryz.prog (w.alloc (.cells #[.slice r.a r.ds.length r.c] 22))=.ok v6 w6∧GrAt G rt root (k+1) l v6 vr w6:=by
 obtain⟨b,os,h1,h2,h3,h4,h5,h6,h7,h8,h9⟩:=h;have ba:=(a3t w.heap.size w).alloc (a1u _) (.cells #[.slice r.a r.ds.length r.c] 22);have ho:=h1.below ba;obtain⟨v6,w6,f,g1,g2⟩:=fK Tryz.underlying56 _ root.heap.size vg b ho ⟨w.heap.size,0,none⟩ 1 r (M6 w r) (by omega) (a1t h9.size ba.size);refine⟨v6,w6,f,b++[r],os,g1,(h2.below ba).ownM ho g2,fun x hx=>?_,fun d hd=>((h4 d hd).below ba).own lY ho g2,by rw[a1x,h5];rfl,h6,?_,h8,?_⟩
 · rcases a3b.1 hx with hx | hx
   · exact⟨((h3 x hx).1.below ba).ownM ho g2,fun a e=>⟨((h3 x hx).2 a e).1,a1o ((h3 x hx).2 a e).2 (a1t ba.size g2.size)⟩⟩
   · simp at hx;subst hx
     exact⟨(hr.below ba).ownM ho g2,fun a e=>⟨(hra a e).1,a1o (hra a e).2 (a1t ba.size g2.size)⟩⟩
 · rw[a3e,hq,←h7];simp[B9]
 · exact ((a1j h9 ba)).grown g2 (a1t h9.size ba.size) fun g hg=>a4o h1 hg
structure PaAt (root:World) (g:Nat) (x:PtD) (w:World):Prop where
 blk:Blk w g 34 #[.slice x.pay.a x.pay.ds.length x.pay.c,.slice x.mults.a x.mults.ds.length x.mults.c,.slice x.low.a x.low.ds.length x.low.c,.slice x.high.a x.high.ds.length x.high.c,.bool x.lev.neg,.slice x.lev.a x.lev.la.length x.lev.ca,.slice x.lev.b x.lev.lb.length x.lev.cb]
 own:OwnQ w root.heap.size (.slice x.pay.a x.pay.ds.length x.pay.c) x.pay.ds
 fv:AllFV w x.pay.ds
 mu:FL root x.mults.a x.mults.c x.mults.ds
 lo:FL root x.low.a x.low.c x.low.ds
 hi:FL root x.high.a x.high.c x.high.ds
 lv:FV root x.lev.v x.lev.q
 bel:Below root.heap.size root w
section
variable {root w w':World}{g:Nat}{x:PtD}
theorem PaAt.below (h:PaAt root g x w) (hb:Below w.heap.size w w'):PaAt root g x w' :=
 ⟨h.blk.keep hb,h.own.below hb,h.fv.below hb,h.mu,h.lo,h.hi,h.lv,h.bel.trans (hb.mono h.bel.size)⟩
theorem PaAt.ptl (h:PaAt root g x w):PtL w x:=by
 obtain⟨A,c,e,hf⟩:=h.own.fl h.fv
 injection e with e1 _ e3
 subst e1 e3;exact⟨hf,h.mu.below h.bel,h.lo.below h.bel,h.hi.below h.bel,h.lv.below h.bel⟩
theorem PaAt.app (h:PaAt root g x w) (hg:root.heap.size≤g){d:FrD}(hd:FV w d.v d.q) (h63:x.pay.ds.length<1000000000) :
 ∃ A' c2 w6 w9,(Builtin.append_ #[22,22] 22 #[.slice x.pay.a x.pay.ds.length x.pay.c,.slice (some ⟨w.heap.size,0,none⟩) 1 1]).run Tryz.prog (w.alloc (.cells #[.bool d.neg,.slice d.a d.la.length d.ca,.slice d.b d.lb.length d.cb] 28))=.ok (.slice A' (x.pay.ds.length+1) c2) w6∧w6.cell? ⟨g,0,none⟩=some (.slice x.pay.a x.pay.ds.length x.pay.c)∧w6.frozen? ⟨g,0,none⟩=false ∧
  w6.setCell ⟨g,0,none⟩ (.slice A' (x.pay.ds.length+1) c2)=w9∧PaAt root g { x with pay:=⟨A',c2,x.pay.ds++[d]⟩ } w9:=by
 have ba:=(a3t w.heap.size w).alloc (a1u _) (.cells #[.bool d.neg,.slice d.a d.la.length d.ca,.slice d.b d.lb.length d.cb] 28);have hB:=a4h w 28 #[.bool d.neg,.slice d.a d.la.length d.ca,.slice d.b d.lb.length d.cb];have ho:=h.own.below ba;have n:=h.bel.trans (ba.mono h.bel.size)
 obtain⟨v',w6,h1,h2,h3⟩:=T9 _ root.heap.size _ x.pay.ds ho ⟨w.heap.size,0,none⟩ 1 d (fun j u hj=>by
  match j with
  | 0=>injection hj with hj;subst hj;exact Blk.f0 hB
  | 1=>injection hj with hj;subst hj;exact Blk.f1 hB
  | 2=>injection hj with hj;subst hj;exact Blk.f2 hB
  | j+3=>simp[FrD.cells] at hj) (by omega) n.size
 have o:AllFV w6 (x.pay.ds++[d]):=fun y hy=>by
  have p:FV (w.alloc (.cells #[.bool d.neg,.slice d.a d.la.length d.ca,.slice d.b d.lb.length d.cb] 28)) y.v y.q:=by
   rcases a3b.1 hy with hy | hy
   · exact (h.fv y hy).below ba
   · simp at hy;subst hy;exact hd.below ba
  exact p.row ho h3
 obtain⟨A',c2,rfl,-⟩:=h2.fl o;rw[show (x.pay.ds++[d]).length=x.pay.ds.length+1 by simp] at h1 h2;have f:=h.blk.keep ba
 have k:Blk w6 g 34 #[.slice x.pay.a x.pay.ds.length x.pay.c,.slice x.mults.a x.mults.ds.length x.mults.c,.slice x.low.a x.low.ds.length x.low.c,.slice x.high.a x.high.ds.length x.high.c,.bool x.lev.neg,.slice x.lev.a x.lev.la.length x.lev.ca,.slice x.lev.b x.lev.lb.length x.lev.cb]:=by
  cases hv:(Value.slice x.pay.a x.pay.ds.length x.pay.c).ownBlock with
  | none=>rw[hv] at h3;exact f.keep ⟨h3.os,h3.tape,h3.output,h3.size,fun i hi=>h3.block i hi (by simp)⟩
  | some g' =>
   rw[hv] at h3;obtain⟨s,k1,k2⟩:=ho.2 g' hv;exact f.only h3 (f.ne_type k1 (by decide))
 have l:Below root.heap.size root w6:=n.grown h3 n.size fun g' m=>ho.block m;have o9:=(a4m w6 g).set 0 (.slice A' (x.pay.ds.length+1) c2);refine⟨A',c2,w6,_,h1,a4e k 0,a4g k 0,rfl,⟨?_,?_,o.only k (lK x) o9,h.mu,h.lo,h.hi,h.lv,o9.to_below l hg l.size⟩⟩
 · show Blk _ g _ #[.slice A' (x.pay.ds++[d]).length c2,_,_,_,_,_,_]
   rw[show (x.pay.ds++[d]).length=x.pay.ds.length+1 by simp];exact k.set 0 _
 · show OwnQ _ _ (.slice A' (x.pay.ds++[d]).length c2) _
   rw[show (x.pay.ds++[d]).length=x.pay.ds.length+1 by simp];refine h2.far (fun g' m=>?_) o9;obtain⟨r,k1,k2⟩:=h2.2 g' m;exact a4p k1 k (by decide)
end
theorem LsAt.run {qs:List Rat}{root w:World}{k:Nat}{v:Value}{d:FrD}(h:LsAt qs root k v w) (hk:k<1000000000) (hq:qs[k]?=some d.q) (hd:FV w d.v d.q) :
 ∃ v6 w6,(Builtin.append_ #[22,22] 22 #[v,.slice (some ⟨w.heap.size,0,none⟩) 1 1]).run Tryz.prog (w.alloc (.cells #[.bool d.neg,.slice d.a d.la.length d.ca,.slice d.b d.lb.length d.cb] 28))=.ok v6 w6∧LsAt qs root (k+1) v6 w6:=by
 obtain⟨os,h1,h2,h3,h4,h5⟩:=h;have ba:=(a3t w.heap.size w).alloc (a1u _) (.cells #[.bool d.neg,.slice d.a d.la.length d.ca,.slice d.b d.lb.length d.cb] 28);have hB:=a4h w 28 #[.bool d.neg,.slice d.a d.la.length d.ca,.slice d.b d.lb.length d.cb];have ho:=h1.below ba
 obtain⟨v6,w6,c,g1,g2⟩:=T9 _ root.heap.size v os ho ⟨w.heap.size,0,none⟩ 1 d (fun j u hj=>by
  match j with
  | 0=>injection hj with hj;subst hj;exact Blk.f0 hB
  | 1=>injection hj with hj;subst hj;exact Blk.f1 hB
  | 2=>injection hj with hj;subst hj;exact Blk.f2 hB
  | j+3=>simp[FrD.cells] at hj) (by omega) (a1t h5.size ba.size)
 refine⟨v6,w6,c,os++[d],g1,fun x hx=>?_,by rw[a1x,h3];rfl,X9 h4 hq,((a1j h5 ba)).grown g2 (a1t h5.size ba.size) fun g hg=>h1.block hg⟩
 rcases a3b.1 hx with hx | hx
 · exact ((h2 x hx).below ba).row ho g2
 · simp at hx;subst hx;exact (hd.below ba).row ho g2
theorem T3 {t:TypeId}{w:World}{g:Nat}(h:Blk w g t #[.slice none 0 0,.slice none 0 0,.slice none 0 0,.slice none 0 0,.bool false,.slice none 0 0,.slice none 0 0]):w.cell? ⟨g,0,none⟩=some (.slice none 0 0)∧w.cell? ⟨g,1,none⟩=some (.slice none 0 0)∧w.cell? ⟨g,2,none⟩=some (.slice none 0 0)∧w.cell? ⟨g,3,none⟩=some (.slice none 0 0)∧w.cell? ⟨g,4,none⟩=some (.bool false)∧w.cell? ⟨g,5,none⟩=some (.slice none 0 0)∧w.cell? ⟨g,6,none⟩=some (.slice none 0 0)∧w.frozen? ⟨g,0,none⟩=false∧w.frozen? ⟨g,1,none⟩=false∧w.frozen? ⟨g,2,none⟩=false∧w.frozen? ⟨g,3,none⟩=false∧w.frozen? ⟨g,4,none⟩=false∧w.frozen? ⟨g,5,none⟩=false∧w.frozen? ⟨g,6,none⟩=false ∧
 w.setCell ⟨g,0,none⟩ (.slice none 0 0)=w∧w.setCell ⟨g,1,none⟩ (.slice none 0 0)=w∧w.setCell ⟨g,2,none⟩ (.slice none 0 0)=w∧w.setCell ⟨g,3,none⟩ (.slice none 0 0)=w∧w.setCell ⟨g,4,none⟩ (.bool false)=w∧w.setCell ⟨g,5,none⟩ (.slice none 0 0)=w∧w.setCell ⟨g,6,none⟩ (.slice none 0 0)=w :=
 ⟨a4e h 0,a4e h 1,a4e h 2,a4e h 3,a4e h 4,a4e h 5,a4e h 6,a4g h 0,a4g h 1,a4g h 2,a4g h 3,a4g h 4,a4g h 5,a4g h 6,Blk.same h (i:=0) rfl,Blk.same h (i:=1) rfl,Blk.same h (i:=2) rfl,Blk.same h (i:=3) rfl,Blk.same h (i:=4) rfl,Blk.same h (i:=5) rfl,Blk.same h (i:=6) rfl⟩
def RetNr (tg:List Rat) (ns:List NdD) (ms:List Int) (sq:Rat) (b:Bool) (W:World) (e:Ending) (w':World):Prop :=
 ∃ x:PtD,e=.returned (.tuple #[x.v,.bool b])∧Hid (b=true→PtL w' x∧PtIn x W.heap.size w'.heap.size∧O4 tg ns ms sq x.pay.qs x.mults.qs x.low.qs x.high.qs x.lev.q=true)∧Below W.heap.size W w'
theorem rows_one {ns:List NdD}{ms:List Int}(hn:ms.length≤8){ch:List Nat}(hc:∀ a∈ch,a<(C5 ns ms).length):∀ p∈H3 ns ms ch,∀ z∈p.1,z.natAbs≤1:=fun p hp z hz=>by
 unfold H3 at hp
 rcases a3i.1 hp with rfl | hp
 · rw[(a3q.1 hz).2];decide
 · obtain⟨a,ha,rfl⟩:=a2v.1 hp;have hk:=hc a ha
   have hu:∀ i v,v.natAbs≤1→z∈J2 ms.length i v→z.natAbs≤1:=fun i v hv h=>by
    rcases List.mem_or_eq_of_mem_set h with h | rfl
    · rw[(a3q.1 h).2];decide
    · exact hv
   unfold ceC at hz;rw[G5] at hk
   by_cases e1:a<ns.length
   · rw[Y2 e1] at hz;obtain⟨i,_,rfl⟩:=a2v.1 hz
     unfold jR;split <;> decide
   · by_cases e2:a<ns.length+ms.length
     · obtain⟨i,rfl⟩:∃ i,a=ns.length+i:=⟨a-ns.length,by omega⟩;rw[cB (by omega)] at hz;exact hu _ _ (by decide) hz
     · obtain⟨i,rfl⟩:∃ i,a=ns.length+ms.length+i:=⟨a-(ns.length+ms.length),by omega⟩;rw[fQ (by omega)] at hz;exact hu _ _ (by decide) hz
theorem uL {ns:List NdD}{ms:List Int}{ch:List Nat}{tl:Nat}{R:List (List Int × Int)}{j:Nat}{l:LmD}(hok:ms.length≤8∧ns.length≤300∧tl=ms.length∧(∀ m∈ms,0≤m∧m≤1000000)∧∀ d∈ns,0≤d.p∧d.p<2 ^ ms.length∧-1099511627776≤d.l∧d.l≤1099511627776) (hR:H3 ns ms ch=R) (hc:∀ a∈ch,a<(C5 ns ms).length) (hp:R[j]?=some l.p):-1099511627776≤l.b∧l.b≤1099511627776:=by
 have hp:=a1n hp;rw[←hR] at hp;unfold H3 at hp
 rcases a3i.1 hp with e | hp
 · have:l.b=0:=congrArg Prod.snd e;rw[this];decide
 · obtain⟨a,ha,e⟩:=a2v.1 hp;have e2:l.b=(ceC ns ms a).2:=(congrArg Prod.snd e).symm;rw[e2];have hk:=hc a ha;unfold ceC;rw[G5] at hk
   by_cases e1:a<ns.length
   · rw[Y2 e1];have h1:=hok.2.2.2.2 (ns.getD a ⟨0,0⟩) (by rw[p7 _ e1];exact a1z e1);exact⟨h1.2.2.1,h1.2.2.2⟩
   · by_cases e2:a<ns.length+ms.length
     · obtain⟨i,rfl⟩:∃ i,a=ns.length+i:=⟨a-ns.length,by omega⟩;rw[cB (by omega)]
       show -1099511627776≤(0:Int)∧(0:Int)≤1099511627776
       decide
     · obtain⟨i,rfl⟩:∃ i,a=ns.length+ms.length+i:=⟨a-(ns.length+ms.length),by omega⟩;rw[fQ (by omega)];have hi:i<ms.length:=by omega
       have h1:=hok.2.2.2.1 (ms.getD i 0) (by rw[p7 _ hi];exact a1z hi)
       show -1099511627776≤-(ms.getD i 0)∧-(ms.getD i 0)≤1099511627776
       omega
theorem PaAt.pin {root w:World}{g:Nat}{x:PtD}(h:PaAt root g x w):∀ a,x.pay.a=some a→root.heap.size≤a.block∧a.block<w.heap.size:=fun a ea=>by
 rcases h.own.1.2 with ⟨e0,h0⟩ | ⟨g',cap,cur,e1,hb,hg,hn,hm,hs,ht⟩
 · injection e0 with e _ _;rw[e] at ea;cases ea
 · injection e1 with e _ _;rw[e] at ea;cases ea
   exact⟨hb,Blk.lt (show Blk w g' 28 cur from hg)⟩
attribute [local go_sem ↓] Go.wp_at_zero Go.wp_at_succ
set_option maxRecDepth 100000
set_option maxHeartbeats 40000000
theorem OwnQ.alloc {w:World}{base:Nat}{v:Value}{ds:List FrD}(h:OwnQ w base v ds) (o:Obj):OwnQ (w.alloc o) base v ds:=h.below ((a3t w.heap.size w).alloc (a1u _) o)
theorem with_any {N:Nat}{A X:Option Addr}{c cx:Nat}{rows:List RwD}{bs:List FrD}{w:World}(h:ML w A c rows) (hx:FL w X cx bs) (hr:E9 (B9 rows) N) (hle:rows.length=bs.length) (hrn:rows.length<1000000000) (hN:N<1000000000) :
 Calls Tryz.prog 82 #[.slice A rows.length c,.slice X bs.length cx] w (RetM (C9 (B9 rows) (bs.map FrD.q)) w):=by
 have hl:=h.len;have f5:=hx.len;obtain⟨T,hT⟩:∃ T,Hid (C9 (B9 rows) (bs.map FrD.q)=T):=⟨_,rfl⟩;have V:=a1k (show T.length=rows.length by rw[←hT.out,O2 (by rw[a1s,p8,hle]),p8]);rw[hT.out]
 have c9:=a1k (show ∀ r∈rows,r.ds.length=N from fun r d0=>by
  have:=hr r.qs (a2v.2 ⟨r,d0,rfl⟩);rw[a4l] at this;exact this)
 have f2:bs.length≤rows.length:=by omega
 have d6:rows.length≤bs.length:=by omega
 clear hr hle;go_enter Tryz.func82,Tryz.ntmps82;go_wp2
 go_loopw [5,6] (fun v i wr=>yK T w v i wr) (fun _ i _=>rows.length-(intOf i).toNat)
 case atStart=>exact⟨0,by omega,rfl,MtAt.start _ (a3t _ _)⟩
 case round =>
  obtain⟨k,hk,rfl,E⟩:=hrel;rw[V.out] at hk;have C:=E.bel
  by_cases hkl:k<rows.length
  · have f1:(k:Int)<(rows.length:Int):=by omega
    have c0:k<bs.length:=by omega
    have d7:(k:Int)<(bs.length:Int):=by omega
    have c4:k<1000000000000:=by omega
    obtain⟨yE,d5,y,f3,f0⟩:=f8 wr #[] 28;have b2:=a1j C y;obtain⟨a,r,rfl,f4,Z,M,c5⟩:=(h.below b2).at hkl;obtain⟨e,d,rfl,F,b4,c3,c2,hd,d4⟩:=hx.at c0;have b1:=c9.out r (a1n c5.out);have b9:=M.len;have hE:OwnQ yE wr.heap.size (.slice (some ⟨wr.heap.size,0,none⟩) 0 0) []:=by rw[←d5];exact OwnQ.empty wr (a1u _)
    have b6:T[k]?=some (r.ds.map FrD.q++[d.q]):=by
     rw[←hT.out];unfold C9 B9;rw[List.getElem?_zipWith,a1r,a1r,c5.out,d4.out];rfl
    have c8:=a1k b6;clear b6;obtain⟨rA,b8⟩:∃ x,r.a=x:=⟨_,rfl⟩;rw[b8] at M Z;clear b8;obtain⟨t,o⟩:∃ x,Hid (r.ds=x):=⟨_,rfl⟩
    cases rA with
    | none =>
     have h0:r.ds.length=0:=by
      rcases a3a r.ds.length with h0 | h0
      · exact h0
      · obtain⟨a,e,_⟩:=M.row.2.2 0 h0
        cases e
     have d2:=a1k (show r.ds=[] from a2a h0);rw[h0] at Z;clear h0 b1 b9
     go_wp2_with (at_builtin;first
      | (refine wpList_appQ0 rfl rfl _ _ rfl wr.heap.size _ rfl rfl ?_;have n:=b2.trans ((a3t wr.heap.size yE).mono C.size);have q0:=(n.cell (by show (e.add (k*3)).block<_;rw[f7];exact F)).trans b4;have q1:=(n.cell (by show (e.add (k*3)).block<_;rw[f7];exact F)).trans c3;have q2:=(n.cell (by show (e.add (k*3)).block<_;rw[f7];exact F)).trans c2;have H:=hd.below n;have s:AllFV yE ([]:List FrD):=fun x hx=>(by simp at hx);have l:OwnQ (yE.alloc (.cells #[.bool d.neg,.slice d.a d.la.length d.ca,.slice d.b d.lb.length d.cb] 28)) wr.heap.size (.slice (some ⟨wr.heap.size,0,none⟩) 0 0) ([]:List FrD):=OwnQ.alloc hE _;have I:wr.heap.size≤yE.heap.size:=a1t y.size (a3t wr.heap.size yE).size;have U:wr.heap.size≤(yE.alloc (.cells #[.bool d.neg,.slice d.a d.la.length d.ca,.slice d.b d.lb.length d.cb] 28)).heap.size:=a1t I (by simp))
      | (refine G9 rfl rfl _ _ rfl wr.heap.size (.slice (some ⟨wr.heap.size,0,none⟩) 0 0) ([]:List FrD) rfl l ⟨yE.heap.size,0,none⟩ 1 d rfl (a4d (heap_alloc_new yE _)) (by (try simp only[List.length_nil]);omega) U ?_;intro v7 w7 O z;have b7:Below wr.heap.size yE w7:=((a3t wr.heap.size yE).alloc I _).grown z U (fun g hg=>OwnQ.block hE hg);obtain⟨A7,c7,e7,G⟩:=OwnQ.fl O (V3 s H l z);obtain⟨f,p⟩:∃ x,Hid (([]:List FrD)++[d]=x):=⟨_,rfl⟩;rw[p.out] at e7 G;subst e7;have hq:=a1k (c8.out.trans (show some _=some (RwD.qs ⟨A7,c7,f⟩) from congrArg some (show _=f.map FrD.q by rw[←p.out,a2r];rw[d2.out];rfl)));obtain⟨os,ho,b0,Y,m⟩:=(E.below (y.trans b7)).app (r:=⟨A7,c7,f⟩) c4 hq.out G;clear z O H s l)
      | (refine J1 rfl Tryz.underlying56 rfl _ _ rfl _ _ os rfl ho ⟨w7.heap.size,0,none⟩ 1 ⟨A7,c7,f⟩ rfl (M6 w7 ⟨A7,c7,f⟩) b0 Y ?_;intro v6 w6 J L;have R:=m.out v6 w6 J L;clear m ho L J E))
     go_roundw
     case rel=>exact⟨k+1,by rw[V.out];omega,by go_num,R⟩
     case measure=>simp[intOf];omega
    | some ra =>
     have d9:t.length<1000000000:=by rw[←o.out,b1];exact hN
     rw[o.out] at Z b9;clear b1
     go_wp2_with (at_builtin;first
      | (refine oY rfl rfl _ _ rfl wr.heap.size (.slice (some ⟨wr.heap.size,0,none⟩) 0 0) [] rfl hE ra t.length r.c t rfl rfl (fun j u hj=>M.flat j u (by rw[o.out];exact hj)) (by simp only[List.length_nil];omega) y.size ?_;intro v5 w5 b3 D;rw[List.nil_append] at b3;have b5:Below wr.heap.size yE w5:=⟨D.os,D.tape,D.output,D.size,fun g hg=>D.block g (a1o hg y.size) (fun e=>by simp[Value.ownBlock] at e;omega)⟩;have n:=b2.trans (b5.mono C.size);have q0:=(n.cell (by show (e.add (k*3)).block<_;rw[f7];exact F)).trans b4;have q1:=(n.cell (by show (e.add (k*3)).block<_;rw[f7];exact F)).trans c3;have q2:=(n.cell (by show (e.add (k*3)).block<_;rw[f7];exact F)).trans c2;have H:=hd.below n;have s:AllFV w5 t:=fun x hx=>(M.fv x (by rw[o.out];exact hx)).row hE D;have l:OwnQ (w5.alloc (.cells #[.bool d.neg,.slice d.a d.la.length d.ca,.slice d.b d.lb.length d.cb] 28)) wr.heap.size v5 t:=OwnQ.alloc b3 _;have I:wr.heap.size≤w5.heap.size:=a1t y.size b5.size;have U:wr.heap.size≤(w5.alloc (.cells #[.bool d.neg,.slice d.a d.la.length d.ca,.slice d.b d.lb.length d.cb] 28)).heap.size:=a1t I (by simp))
      | (refine G9 rfl rfl _ _ rfl wr.heap.size v5 t rfl l ⟨w5.heap.size,0,none⟩ 1 d rfl (a4d (heap_alloc_new w5 _)) (by (try simp only[List.length_nil]);omega) U ?_;intro v7 w7 O z;have b7:Below wr.heap.size yE w7:=(b5.alloc I _).grown z U (fun g hg=>OwnQ.block b3 hg);obtain⟨A7,c7,e7,G⟩:=OwnQ.fl O (V3 s H l z);obtain⟨f,p⟩:∃ x,Hid (t++[d]=x):=⟨_,rfl⟩;rw[p.out] at e7 G;subst e7;have hq:=a1k (c8.out.trans (show some _=some (RwD.qs ⟨A7,c7,f⟩) from congrArg some (show _=f.map FrD.q by rw[←p.out,a2r];rw[←o.out];rfl)));obtain⟨os,ho,b0,Y,m⟩:=(E.below (y.trans b7)).app (r:=⟨A7,c7,f⟩) c4 hq.out G;clear z O H s l)
      | (refine J1 rfl Tryz.underlying56 rfl _ _ rfl _ _ os rfl ho ⟨w7.heap.size,0,none⟩ 1 ⟨A7,c7,f⟩ rfl (M6 w7 ⟨A7,c7,f⟩) b0 Y ?_;intro v6 w6 J L;have R:=m.out v6 w6 J L;clear m ho L J E))
     go_roundw
     case rel=>exact⟨k+1,by rw[V.out];omega,by go_num,R⟩
     case measure=>simp[intOf];omega
  · obtain rfl:k=rows.length:=by omega
    have d8:decide ((rows.length:Int)<(rows.length:Int))=false:=a1v (by omega);obtain⟨B,cb,es,rfl,d3,d1⟩:=E.done V.out.symm;go_wp2;go_ret;exact⟨B,cb,es,rfl,d3,d1,C⟩
theorem zG {J K L:Nat}{A B:Option Addr}{ca cb:Nat}{us vs:List FrD}{v:Value}{q:Rat}{w:World}(ha:FL w A ca us) (hf:FV w v q) (hb:FL w B cb vs) (hlen:us.length=vs.length) (hfa:QFits J (us.map FrD.q)) (hfq:Fits K q) (hfb:QFits L (vs.map FrD.q)) (hK:J+(K+L)+1<400000000) (hn:us.length<1000000000) :
 Calls Tryz.prog 95 #[.slice A us.length ca,v,.slice B vs.length cb] w (RetLs (W4 (us.map FrD.q) q (vs.map FrD.q)) w):=by
 obtain⟨nf,Af,af,lf,Bf,bf,mf,rfl,V,X,Z⟩:=id hf;clear V X Z;obtain⟨w1,d3,j,c7,b7⟩:=f8 w #[.bool nf,.slice Af lf.length af,.slice Bf mf.length bf] 28;obtain⟨qs,n⟩:∃ qs,Hid (W4 (us.map FrD.q) q (vs.map FrD.q)=qs):=⟨_,rfl⟩;have r:=a1k (show qs.length=us.length by rw[←n.out];unfold W4;rw[a3o,a1s,a1s,hlen,Nat.min_self]);rw[n.out];have d7:us.length≤vs.length:=by omega
 have c9:vs.length≤us.length:=by omega
 clear hlen;have I:=a1k hfa;have E:=a1k hfb;have M:=a1k hfq;clear hfa hfb hfq;have d2:=ha.len;have d6:=hb.len;have b6:=ha.below j;have b3:=hb.below j;have b1:=hf.below j;clear hf;go_enter Tryz.func95,Tryz.ntmps95;go_wp2
 go_loopw [7,8] (fun v i wr=>oW qs w1 v i wr) (fun _ i _=>us.length-(intOf i).toNat)
 case atStart=>exact⟨0,by omega,rfl,LsAt.nil _ _⟩
 case round =>
  obtain⟨k,hk,rfl,d⟩:=hrel;rw[r.out] at hk;have f:=d.bel
  by_cases hkl:k<us.length
  · have d5:(k:Int)<(us.length:Int):=by omega
    have c8:(k:Int)<(vs.length:Int):=by omega
    have c0:k<1000000000000:=by omega
    obtain⟨a,x,rfl,t,c5,b5,c2,hx,H⟩:=b6.at hkl;obtain⟨e,z,rfl,C,U,Y,R,hz,F⟩:=b3.at (k:=k) (by omega);have b0:=a1k (I.out.fr x (a1n H.out));have O:=a1k (E.out.fr z (a1n F.out))
    have hq:Hid (qs[k]?=some (x.q-q*z.q)):=by
     show _=_
     rw[←n.out];unfold W4;rw[List.getElem?_zipWith,a1r,a1r,H.out,F.out];rfl
    obtain⟨qk,N⟩:∃ q',Hid (x.q-q*z.q=q'):=⟨_,rfl⟩;rw[N.out] at hq;have D:=b1.below f;replace hx:=hx.below f;replace hz:=hz.below f;have bT:=d.bel
    have hS:∀ w',Below w1.heap.size w1 w'→w'.cell? (a.add (k*3))=some (.bool x.neg)∧w'.cell? ⟨(a.add (k*3)).block,(a.add (k*3)).off+1,none⟩=some (.slice x.a x.la.length x.ca)∧w'.cell? ⟨(a.add (k*3)).block,(a.add (k*3)).off+2,none⟩=some (.slice x.b x.lb.length x.cb)∧w'.cell? (e.add (k*3))=some (.bool z.neg)∧w'.cell? ⟨(e.add (k*3)).block,(e.add (k*3)).off+1,none⟩=some (.slice z.a z.la.length z.ca)∧w'.cell? ⟨(e.add (k*3)).block,(e.add (k*3)).off+2,none⟩=some (.slice z.b z.lb.length z.cb)∧w'.cell? ⟨w.heap.size,0,none⟩=some (.bool nf)∧w'.cell? ⟨w.heap.size,1,none⟩=some (.slice Af lf.length af)∧w'.cell? ⟨w.heap.size,2,none⟩=some (.slice Bf mf.length bf)∧Below w1.heap.size w1 w':=by
     intro w' o;have h4:=b7.keep o;exact⟨(o.cell (by show (a.add (k*3)).block<_;rw[f7];exact t)).trans c5,(o.cell (by show (a.add (k*3)).block<_;rw[f7];exact t)).trans b5,(o.cell (by show (a.add (k*3)).block<_;rw[f7];exact t)).trans c2,(o.cell (by show (e.add (k*3)).block<_;rw[f7];exact C)).trans U,(o.cell (by show (e.add (k*3)).block<_;rw[f7];exact C)).trans Y,(o.cell (by show (e.add (k*3)).block<_;rw[f7];exact C)).trans R,h4.f0,h4.f1,h4.f2,o⟩
    have bo:Below w1.heap.size w1 wr:=d.bel;have dS:Below w1.heap.size w1 wr.drew:=bo.drew;go_wp2_with fail;refine a3u ?_;refine a3v (S:=fun w'=>w'.cell? (a.add (k*3))=some (.bool x.neg)∧w'.cell? ⟨(a.add (k*3)).block,(a.add (k*3)).off+1,none⟩=some (.slice x.a x.la.length x.ca)∧w'.cell? ⟨(a.add (k*3)).block,(a.add (k*3)).off+2,none⟩=some (.slice x.b x.lb.length x.cb)∧w'.cell? (e.add (k*3))=some (.bool z.neg)∧w'.cell? ⟨(e.add (k*3)).block,(e.add (k*3)).off+1,none⟩=some (.slice z.a z.la.length z.ca)∧w'.cell? ⟨(e.add (k*3)).block,(e.add (k*3)).off+2,none⟩=some (.slice z.b z.lb.length z.cb)∧w'.cell? ⟨w.heap.size,0,none⟩=some (.bool nf)∧w'.cell? ⟨w.heap.size,1,none⟩=some (.slice Af lf.length af)∧w'.cell? ⟨w.heap.size,2,none⟩=some (.slice Bf mf.length bf)∧Below w1.heap.size w1 w') (by kernel_rfl) (hS _ dS) (fun c=>?_);refine mX 0 1 2 3 4 5 6 7 c ?_;refine P2 8 9 c ?_;refine z8 10 rfl fun K hK=>?_;go_simp;have g:Below wr.heap.size wr wr.drew:=(a3t _ _).drew;replace hx:=hx.below g;replace hz:=hz.below g;replace D:=D.below g;replace d:=d.below g;replace bT:=a1j bT g
    replace bo:=a1j bo g;go_at_call 79;refine (jB D hz M.out O.out (by omega)).mono ?_;rintro e u1 ⟨v1,rfl,fm,l⟩;replace hx:=hx.below l;replace d:=d.below l;replace bT:=a1j bT l;replace bo:=a1j bo l;go_wp2_with fail;refine hK.out _ _ (hS _ bo) (fun c=>?_);clear hK K;(try simp only[j9]);refine z8 11 rfl fun K hK=>?_;go_simp;go_at_call 59;refine (J3 hx fm b0.out (M.out.mul O.out) (by omega)).mono ?_;rintro e u2 ⟨v2,rfl,⟨n1,A1,a1,l1,B1,c1,m1,rfl,na,nb,iq⟩,s⟩;replace d:=d.below s;replace bT:=a1j bT s;replace bo:=a1j bo s;rw[N.out] at iq;clear fm;go_wp2_with fail;refine hK.out _ _ (hS _ bo) (fun c=>?_);clear hK K;(try simp only[j9]);refine z8 12 rfl fun K hK=>?_;obtain⟨os,ho,b8,T,h⟩:=d.app c0 hq.out na nb iq;clear na nb iq;have d4:=bT;obtain⟨u3,p,b9,d1,b4⟩:=f8 u2 #[.bool n1,.slice A1 l1.length a1,.slice B1 m1.length c1] 28;replace bo:=a1j bo b9;go_simp;refine hK.out _ _ (hS _ bo) (fun c=>?_)
    clear hK K;(try simp only[j9]);refine z8 13 rfl fun K hK=>?_;refine cK rfl _ _ rfl rfl w1.heap.size _ os rfl (by rw[←p];exact ho) ⟨u2.heap.size,0,none⟩ 1 ⟨n1,A1,a1,l1,B1,c1,m1⟩ rfl (a4d b4) b8 (by rw[←p];exact T) ?_;intro v6 w6 G y;rw[←p] at y;have m:=h.out v6 w6 G y;replace bo:=m.bel;clear h ho y G;refine hK.out _ _ (hS _ bo) (fun c=>?_);clear hK K;(try simp only[j9]);refine K4 14 rfl c ?_;refine a4c (by kernel_rfl) ?_ _;refine a3w ?_;(try go_simp);clear c;clear hS dS bo;go_wp2;go_roundw
    case rel=>exact⟨k+1,by rw[r.out];omega,by go_num,m⟩
    case measure=>simp[intOf];omega
  · obtain rfl:k=us.length:=by omega
    have d0:decide ((us.length:Int)<(us.length:Int))=false:=a1v (by omega);obtain⟨B',c4,es,rfl,c3,b2⟩:=d.done r.out.symm;go_wp2;go_ret;exact⟨B',c4,es,rfl,c3,b2,(a1j j f)⟩
theorem jD {v u:Value}{p q:Rat}{j k:Nat}{w:World}(hv:FV w v p) (hu:FV w u q) (hj:Fits j p) (hk:Fits k q) (hJ:j+k≤400000000) (hz:q≠0) :
 Calls Tryz.prog 94 #[v,u] w (tO (p / q) w):=by
 obtain⟨n1,A,ca,la,B,cb,lb,rfl,na,nb,iq⟩:=hv;obtain⟨n2,C,cc,lc,D,cd,ld,rfl,nc,nd,ir⟩:=hu;have hf:=a4q iq hj;have hg:=a4q ir hk;have h0:val lb*val lc≠0:=Nat.mul_ne_zero (QIs.den_ne iq) (fun e=>hz ((pR ir).1 ((QIs.natA ir).zero_iff.2 e)));have hq:=q_div iq ir hz;obtain⟨r,hr⟩:∃ r,p / q=r:=⟨_,rfl⟩;rw[hr] at hq ⊢;have U:=a1k hq;clear iq ir hq hr;obtain⟨w0,c2,R,z,J⟩:=f8 w #[.bool n1,.slice A la.length ca,.slice B lb.length cb] 28;obtain⟨w1,c3,F,s,M⟩:=f8 w0 #[.bool n2,.slice C lc.length cc,.slice D ld.length cd] 28;obtain⟨w2,c0,l,b2,c⟩:=f8 w1 #[.bool false,.slice none 0 0,.slice none 0 0] 28;have h:=(J.keep F).keep l;have g:=M.keep l;have E:=R.trans (F.mono (a3f z));have d:=a1j E l;have L:=na.below d;have b0:=nb.below d;have N:=nc.below d;have T:=nd.below d;have x0:=h.f0;have x1:=h.f1;have x2:=h.f2;have y0:=g.f0;have y1:=g.f1;have y2:=g.f2;have z0:=c.f0;have z1:=c.f1;have z2:=c.f2;have Z:Blk3 w2 w1.heap.size 28:=c.b3;have G:Only w2 w2 w1.heap.size:=a4m _ _;have f:=k7 false none 0 0 none 0 0;have O:w.heap.size<w1.heap.size:=by omega
 have hS:∀ w',Only w2 w' w1.heap.size→w'.cell? ⟨w.heap.size,0,none⟩=some (.bool n1)∧w'.cell? ⟨w.heap.size,1,none⟩=some (.slice A la.length ca)∧w'.cell? ⟨w.heap.size,2,none⟩=some (.slice B lb.length cb)∧w'.cell? ⟨w0.heap.size,0,none⟩=some (.bool n2)∧w'.cell? ⟨w0.heap.size,1,none⟩=some (.slice C lc.length cc)∧w'.cell? ⟨w0.heap.size,2,none⟩=some (.slice D ld.length cd):=fun w' o =>
  have p:=h.only o (Nat.ne_of_lt O);have q:=g.only o (Nat.ne_of_lt s);⟨p.f0,p.f1,p.f2,q.f0,q.f1,q.f2⟩
 obtain⟨d0,d1,d2,d3,d4,d5⟩:=hS _ G.drew;have d6:=G.drew;have d7:=Z.drew;clear na nb nc nd;go_enter Tryz.func94,Tryz.ntmps94;go_wp2_with fail
 go_region_held3 (fun w'=>w'.cell? ⟨w.heap.size,0,none⟩=some (.bool n1)∧w'.cell? ⟨w.heap.size,1,none⟩=some (.slice A la.length ca)∧w'.cell? ⟨w.heap.size,2,none⟩=some (.slice B lb.length cb)∧w'.cell? ⟨w0.heap.size,0,none⟩=some (.bool n2)∧w'.cell? ⟨w0.heap.size,1,none⟩=some (.slice C lc.length cc)∧w'.cell? ⟨w0.heap.size,2,none⟩=some (.slice D ld.length cd)∧Only w2 w' w1.heap.size∧Blk3 w' w1.heap.size 28) (((try go_split_ands);(try dsimp only);(repeat' with_reducible apply And.intro) <;> with_reducible assumption)) (first
  | (go_at_call 84;go_split_ands;(with_reducible refine (N1 A D ca cd la ld _ (L.only_blk c f (by assumption)) (T.only_blk c f (by assumption)) (by omega) (by omega)).mono ?_);rintro e w3 ⟨X,cx,x,rfl,nx,ix,mx,b3⟩;have H:=a1k ix;clear ix;have q4:=Blk3.keep (by assumption) b3;have b4:=(show Only w2 _ w1.heap.size by assumption).trans (a4n b3 _);obtain⟨f0,f1,f2,f3,f4,f5⟩:=hS _ b4)
  | (go_at_call 84;go_split_ands;(with_reducible refine (N1 B C cb cc lb lc _ (b0.only_blk c f (by assumption)) (N.only_blk c f (by assumption)) (by omega) (by omega)).mono ?_);rintro e w5 ⟨Y,cy,y,rfl,ny,iy,my,b5⟩;have m:=a1k iy;clear iy;have q6:=Blk3.keep (by assumption) b5;have b6:=(show Only w2 _ w1.heap.size by assumption).trans (a4n b5 _);obtain⟨g0,g1,g2,g3,g4,g5⟩:=hS _ b6)
  | (go_at_call 40;go_split_ands;(with_reducible refine (N4 (by first | exact nx.below b5 | exact nx) (by first | exact ny | exact ny.below b3) (by rw[m.out.val];exact h0) H.out.canon m.out.canon (by omega) (by omega)).mono ?_);rintro e w7 ⟨v,rfl,⟨m0,A1,c1,l1,B1,d1,m1,rfl,ma,mb,hQ⟩,b7⟩;rw[H.out.val,m.out.val] at hQ;have b8:=(show Only w2 _ w1.heap.size by assumption).trans (a4n b7 _);obtain⟨k0,k1,k2,k3,k4,k5⟩:=hS _ b8;have q8:=Blk3.keep (t:=28) (by assumption) b7;have q9:=q8.set m0 A1 l1.length c1 B1 m1.length d1;obtain⟨qa,qb,qc,qd,qe,qf,qg,b⟩:=id q8;have b9:=((b8.set 0 (.bool m0)).set 1 (.slice A1 l1.length c1)).set 2 (.slice B1 m1.length d1);obtain⟨j0,j1,j2,j3,j4,j5⟩:=hS _ b9;have u0:=b.f0;have u1:=b.f1;have u2:=b.f2;have t0:=b.free 0;have t1:=b.free 1;have t2:=b.free 2))
 all_goals
  clear j0 j1 j2 j3 j4 j5 q9;go_wp2;obtain⟨w9,V,n,o9⟩:=b.set3 (.bool m0) (.slice A1 l1.length c1) (.slice B1 m1.length d1);rw[V];have e0:=n.f0;have e1:=n.f1;have e2:=n.f2;refine a3z (v:=.tuple #[B8 m0 A1 l1.length c1 B1 m1.length d1,.int .i64 0]) (by simp[results,Tryz.results94,go_sem,e0,e1,e2]) rfl ?_;have I:=ma.only_blk b (k7 _ _ _ _ _ _ _) o9;have b1:=mb.only_blk b (k7 _ _ _ _ _ _ _) o9;have bT:=(b8.trans o9).to_below d E.size d.size;exact⟨_,rfl,⟨m0,A1,c1,l1,B1,d1,m1,rfl,I,b1,by rw[←U.out];exact hQ⟩,bT⟩
end Go.Proofs.YtjhkapjadfpimaaGreat
