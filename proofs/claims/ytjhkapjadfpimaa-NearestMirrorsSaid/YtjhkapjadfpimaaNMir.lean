/- Contracts of functions, for the law. -/
import Derived.Test.YtjhkapjadfpimaaNRPl
import Derived.Test.YtjhkapjadfpimaaNAlg
import Derived.Test.YtjhkapjadfpimaaNBest
import Derived.Deep.RegionHeld3
import Derived.Test.YtjhkapjadfpimaaNUq
namespace Go.Proofs.Ytjhkapjadfpimaa
set_option linter.unusedVariables false
set_option linter.unusedSimpArgs false
open Go.RowKit Plain
attribute [local go_sem ↓] Go.wp_at_zero Go.wp_at_succ
section
variable {E E2:TypeId}{C:Nat}{P:Value→Prop}{w w':World}{base n g:Nat}{v u:Value}{xs:List Value}{ds:List FrD}
theorem OwnG.far (h:OwnG E C P w base v n xs) (hne:∀ g',v.ownBlock=some g'→g'≠g) (ho:Only w w' g):OwnG E C P w' base v n xs:=by
 rcases h.1.2 with ⟨rfl,h0⟩ | ⟨g',cap,cur,rfl,hb,hg,hn,hm,hs,ht⟩
 · exact⟨⟨h.1.1,.inl ⟨rfl,h0⟩⟩,fun g hg=>by simp[Value.ownBlock] at hg⟩
 · have hB:Blk w g' E cur:=hg;have hne':g'≠g:=hne g' rfl;refine⟨⟨h.1.1,.inr ⟨g',cap,cur,rfl,hb,hB.only ho hne',hn,hm,hs,ht⟩⟩,fun g2 h2=>?_⟩;obtain⟨cur2,k1,k2⟩:=h.2 g2 h2;exact⟨cur2,k1.only ho (hne g2 h2),k2⟩
theorem OwnG.other {t:TypeId}{cs:Array Value}(h:OwnG E C P w base v n xs) (hB:Blk w g t cs) (ht:E≠t) (ho:Only w w' g):OwnG E C P w' base v n xs :=
 h.far (fun g' hg'=>by obtain⟨cur,k1,-⟩:=h.2 g' hg';exact k1.ne_type hB ht) ho
theorem OwnG.with (h:OwnG E C P w base v n xs) (hu:∀ g,u.ownBlock=some g→∃ cur,Blk w g E2 cur) (ht:E≠E2) (hg:w.grownBy w' u.ownBlock):OwnG E C P w' base v n xs:=by
 cases hv:u.ownBlock with
 | none=>rw[hv] at hg;exact h.below ⟨hg.os,hg.tape,hg.output,hg.size,fun k hk=>hg.block k hk (by simp)⟩
 | some g =>
  rw[hv] at hg;obtain⟨cur,k1⟩:=hu g hv;exact h.other k1 ht hg
theorem OwnQ.other9 {t:TypeId}{cs:Array Value}(h:OwnQ w base v ds) (hB:Blk w g t cs) (ht:28≠t) (ho:Only w w' g):OwnQ w' base v ds :=
 h.far (fun g' hg'=>by obtain⟨cur,k1,-⟩:=h.2 g' hg';exact k1.ne_type hB ht) ho
theorem OwnQ.with (h:OwnQ w base v ds) (hu:∀ g,u.ownBlock=some g→∃ cur,Blk w g E2 cur) (ht:28≠E2) (hg:w.grownBy w' u.ownBlock):OwnQ w' base v ds:=by
 cases hv:u.ownBlock with
 | none=>rw[hv] at hg;exact h.below ⟨hg.os,hg.tape,hg.output,hg.size,fun k hk=>hg.block k hk (by simp)⟩
 | some g =>
  rw[hv] at hg;obtain⟨cur,k1⟩:=hu g hv;exact h.other9 k1 ht hg
theorem Blk.with {t:TypeId}{cs:Array Value}(h:Blk w g t cs) (hu:∀ g,u.ownBlock=some g→∃ cur,Blk w g E2 cur) (ht:t≠E2) (hg:w.grownBy w' u.ownBlock):Blk w' g t cs:=by
 cases hv:u.ownBlock with
 | none=>rw[hv] at hg;exact h.keep ⟨hg.os,hg.tape,hg.output,hg.size,fun k hk=>hg.block k hk (by simp)⟩
 | some g2 =>
  rw[hv] at hg;obtain⟨cur,k1⟩:=hu g2 hv;exact h.only hg (h.ne_type k1 ht)
end
theorem infoNeed:(Try.prog.info? 53).map (fun i=>(i.zero,i.size,i.bytes))=some (some (.agg #[.int .i64 0,.int .i64 0]),2,16):=by kernel_rfl
def OwnN (w:World) (base:Nat) (v:Value) (ds:List NdD):Prop:=OwnG 53 2 IsZ w base v ds.length (ds.flatMap NdD.cells)
theorem isZ_nd (ds:List NdD):AllPL IsZ (ds.flatMap NdD.cells):=fun u hu=>by
 obtain⟨d,_,hd⟩:=List.mem_flatMap.1 hu
 simp only[NdD.cells,List.mem_cons,List.not_mem_nil,or_false] at hd
 rcases hd with rfl | rfl <;> exact⟨_,rfl⟩
theorem nd2:∀ (ds:List NdD) (j i:Nat) (hj:j<ds.length),i<2→(ds.flatMap NdD.cells)[j*2+i]?=(ds[j]).cells[i]?
 | d::ds,0,i,_,hi=>by
  rw[List.flatMap_cons,List.getElem?_append_left (by simp[NdD.cells];omega)]
  simp
 | d::ds,j+1,i,hj,hi=>by
  rw[List.flatMap_cons,List.getElem?_append_right (by simp[NdD.cells];omega)];have e:(j+1)*2+i-d.cells.length=j*2+i:=by simp[NdD.cells];omega
  rw[e,nd2 ds j i (by simpa using hj) hi]
  rfl
theorem run_appNd (w:World) (base:Nat) (v:Value) (cs:List NdD) (hown:OwnN w base v cs) (ad:Addr) (c:Nat) (d:NdD) (hnews:∀ j u,d.cells[j]?=some u→w.cell? (ad.add j)=some u) (h63:cs.length+1≤1000000000000) (hbase:base≤w.heap.size) :
 ∃ v' w',(Builtin.append_ #[23,23] 23 #[v,.slice (some ad) 1 c]).run Try.prog w=.ok v' w'∧OwnN w' base v' (cs++[d])∧w.grownBy w' v.ownBlock:=by
 obtain⟨v',w',h1,h2,h3⟩:=run_appG (P:=IsZ) w base v cs.length _ Try.underlying23 infoNeed rfl (by decide) (fun i u hi=>by
  match i with
  | 0=>injection hi with hi;exact⟨_,hi.symm⟩
  | 1=>injection hi with hi;exact⟨_,hi.symm⟩
  | i+2=>simp[Value.cells] at hi) (by decide) hown ad 1 c d.cells (by decide) rfl hnews (fun u hu=>by
   simp only[NdD.cells,List.mem_cons,List.not_mem_nil,or_false] at hu
   rcases hu with rfl | rfl <;> rfl) (fun u hu=>by
   simp only[NdD.cells,List.mem_cons,List.not_mem_nil,or_false] at hu
   rcases hu with rfl | rfl <;> exact⟨_,rfl⟩) h63 hbase (isZ_nd cs)
 refine⟨v',w',h1,?_,h3⟩;unfold OwnN;rw[List.length_append,List.flatMap_append]
 simpa using h2
theorem OwnN.nl {w:World}{base:Nat}{v:Value}{cs:List NdD}(h:OwnN w base v cs):∃ A c,v=.slice A cs.length c∧NL w A c cs:=by
 have hm2:maxLen=9223372036854775807:=rfl
 rcases h.1.2 with ⟨rfl,h0⟩ | ⟨g,cap,cur,rfl,hb,hg,hn,hm,hs,ht⟩
 · have:cs=[]:=List.eq_nil_of_length_eq_zero h0;subst this;exact⟨none,0,rfl,⟨by simp,by omega,fun j hj=>by simp at hj⟩⟩
 · have hB:Blk w g 53 cur:=hg;refine⟨_,cap,rfl,⟨hn,by omega,fun j hj=>⟨_,rfl,hB.lt,fun i u hu=>?_⟩⟩⟩
   have hi:i<2:=by
    have:=(List.getElem?_eq_some_iff.1 hu).1
    simpa [NdD.cells] using this
   rw[add_zero_,World.ownsRow.cellAt (n:=cs.length) (base:=base) (e:=53) (size:=2) (cap:=cap) h.1 (j*2+i) (by omega),nd2 cs j i hj hi];exact hu
structure MB (root:World) (gb:Nat) (s:FrD) (T:List FrD) (Ns:List NdD) (Ms:List Int) (AT:Option Addr) (cT:Nat) (AN:Option Addr) (cN:Nat) (AM:Option Addr) (cM:Nat) (w:World):Prop where
 blk:Blk w gb 30 #[.slice AT T.length cT,.slice AN Ns.length cN,.slice AM Ms.length cM,.bool s.neg,.slice s.a s.la.length s.ca,.slice s.b s.lb.length s.cb]
 ot:OwnQ w root.heap.size (.slice AT T.length cT) T
 on:OwnN w root.heap.size (.slice AN Ns.length cN) Ns
 om:OwnZ w root.heap.size (.slice AM Ms.length cM) Ms
 bel:Below root.heap.size root w
section
variable {root w w':World}{gb:Nat}{s:FrD}{T:List FrD}{Ns:List NdD}{Ms:List Int}{AT AN AM:Option Addr}{cT cN cM:Nat}
theorem MB.below (h:MB root gb s T Ns Ms AT cT AN cN AM cM w) (hb:Below w.heap.size w w'):MB root gb s T Ns Ms AT cT AN cN AM cM w':=⟨h.blk.keep hb,h.ot.below hb,OwnG.below h.on hb,h.om.below hb,h.bel.trans (hb.mono h.bel.size)⟩
theorem MB.appT (h:MB root gb s T Ns Ms AT cT AN cN AM cM w) (hg:root.heap.size≤gb){ad:Addr}{c':Nat}{d:FrD}(hnews:∀ j u,d.cells[j]?=some u→w.cell? (ad.add j)=some u) (h63:T.length<1000000000) :
 ∃ A' c2 w6 w9,(Builtin.append_ #[22,22] 22 #[.slice AT T.length cT,.slice (some ad) 1 c']).run Try.prog w=.ok (.slice A' (T.length+1) c2) w6∧w6.cell? ⟨gb,0,none⟩=some (.slice AT T.length cT)∧w6.frozen? ⟨gb,0,none⟩=false ∧
  w6.setCell ⟨gb,0,none⟩ (.slice A' (T.length+1) c2)=w9∧MB root gb s (T++[d]) Ns Ms A' c2 AN cN AM cM w9∧Below root.heap.size root w6:=by
 obtain⟨v',w6,h1,h2,h3⟩:=run_appQ w root.heap.size _ T h.ot ad c' d hnews (by omega) h.bel.size;have hu:∀ g,(Value.slice AT T.length cT).ownBlock=some g→∃ cur,Blk w g 28 cur:=fun g hg=>by obtain⟨cur,k1,-⟩:=h.ot.2 g hg;exact⟨cur,k1⟩
 obtain⟨A',c2,rfl⟩:∃ A c,v'=.slice A (T.length+1) c:=by
  rcases h2.1.2 with ⟨e,h0⟩ | ⟨g,cap,cur,e,-⟩
  · simp at h0
  · exact⟨some ⟨g,0,none⟩,cap,by rw[e];simp⟩
 have hb6:=h.blk.with hu (by decide) h3;have hbel6:Below root.heap.size root w6:=h.bel.grown h3 h.bel.size fun g hg=>OwnQ.block h.ot hg;have o9:=(Only.refl w6 gb).set 0 (.slice A' (T.length+1) c2);refine⟨A',c2,w6,_,h1,Blk.cell hb6 0,Blk.free hb6 0,rfl,⟨by rw[show (T++[d]).length=T.length+1 by simp];exact hb6.set 0 _,by rw[show (T++[d]).length=T.length+1 by simp];exact h2.other9 hb6 (by decide) o9,(h.on.with hu (by decide) h3).other hb6 (by decide) o9,(OwnG.with h.om hu (by decide) h3).other hb6 (by decide) o9,o9.to_below hbel6 hg hbel6.size⟩,hbel6⟩
theorem MB.appM (h:MB root gb s T Ns Ms AT cT AN cN AM cM w) (hg:root.heap.size≤gb){ad:Addr}{c':Nat}{z:Int}(hnews:w.cell? ad=some (.int .i64 z)) (h63:Ms.length<1000000000) :
 ∃ A' c2 w6 w9,(Builtin.append_ #[24,24] 24 #[.slice AM Ms.length cM,.slice (some ad) 1 c']).run Try.prog w=.ok (.slice A' (Ms.length+1) c2) w6∧w6.cell? ⟨gb,2,none⟩=some (.slice AM Ms.length cM)∧w6.frozen? ⟨gb,2,none⟩=false ∧
  w6.setCell ⟨gb,2,none⟩ (.slice A' (Ms.length+1) c2)=w9∧MB root gb s T Ns (Ms++[z]) AT cT AN cN A' c2 w9∧Below root.heap.size root w6:=by
 obtain⟨v',w6,h1,h2,h3⟩:=run_appZ w root.heap.size _ Ms h.om ad c' z hnews (by omega) h.bel.size;have hu:∀ g,(Value.slice AM Ms.length cM).ownBlock=some g→∃ cur,Blk w g 2 cur:=fun g hg=>by obtain⟨cur,k1,-⟩:=h.om.2 g hg;exact⟨cur,k1⟩
 obtain⟨A',c2,rfl,-⟩:=h2.zt;rw[show (Ms++[z]).length=Ms.length+1 by simp] at h1 h2;have hb6:=h.blk.with hu (by decide) h3;have hbel6:Below root.heap.size root w6:=h.bel.grown h3 h.bel.size fun g hg=>OwnG.block h.om hg;have o9:=(Only.refl w6 gb).set 2 (.slice A' (Ms.length+1) c2);refine⟨A',c2,w6,_,h1,Blk.cell hb6 2,Blk.free hb6 2,rfl,⟨by rw[show (Ms++[z]).length=Ms.length+1 by simp];exact hb6.set 2 _,(h.ot.with hu (by decide) h3).other9 hb6 (by decide) o9,(h.on.with hu (by decide) h3).other hb6 (by decide) o9,by rw[show (Ms++[z]).length=Ms.length+1 by simp];exact OwnG.other h2 hb6 (by decide) o9,o9.to_below hbel6 hg hbel6.size⟩,hbel6⟩
theorem MB.appN (h:MB root gb s T Ns Ms AT cT AN cN AM cM w) (hg:root.heap.size≤gb){ad:Addr}{c':Nat}{d:NdD}(hnews:∀ j u,d.cells[j]?=some u→w.cell? (ad.add j)=some u) (h63:Ns.length<1000000000) :
 ∃ A' c2 w6 w9,(Builtin.append_ #[23,23] 23 #[.slice AN Ns.length cN,.slice (some ad) 1 c']).run Try.prog w=.ok (.slice A' (Ns.length+1) c2) w6∧w6.cell? ⟨gb,1,none⟩=some (.slice AN Ns.length cN)∧w6.frozen? ⟨gb,1,none⟩=false ∧
  w6.setCell ⟨gb,1,none⟩ (.slice A' (Ns.length+1) c2)=w9∧MB root gb s T (Ns++[d]) Ms AT cT A' c2 AM cM w9∧Below root.heap.size root w6:=by
 obtain⟨v',w6,h1,h2,h3⟩:=run_appNd w root.heap.size _ Ns h.on ad c' d hnews (by omega) h.bel.size;have hu:∀ g,(Value.slice AN Ns.length cN).ownBlock=some g→∃ cur,Blk w g 53 cur:=fun g hg=>by obtain⟨cur,k1,-⟩:=h.on.2 g hg;exact⟨cur,k1⟩
 obtain⟨A',c2,rfl,-⟩:=h2.nl;rw[show (Ns++[d]).length=Ns.length+1 by simp] at h1 h2;have hb6:=h.blk.with hu (by decide) h3;have hbel6:Below root.heap.size root w6:=h.bel.grown h3 h.bel.size fun g hg=>OwnG.block h.on hg;have o9:=(Only.refl w6 gb).set 1 (.slice A' (Ns.length+1) c2);refine⟨A',c2,w6,_,h1,Blk.cell hb6 1,Blk.free hb6 1,rfl,⟨by rw[show (Ns++[d]).length=Ns.length+1 by simp];exact hb6.set 1 _,(h.ot.with hu (by decide) h3).other9 hb6 (by decide) o9,by rw[show (Ns++[d]).length=Ns.length+1 by simp];exact OwnG.other h2 hb6 (by decide) o9,(OwnG.with h.om hu (by decide) h3).other hb6 (by decide) o9,o9.to_below hbel6 hg hbel6.size⟩,hbel6⟩
theorem MB.fl (h:MB root gb s T Ns Ms AT cT AN cN AM cM w) (hf:∀ d∈T,FV w d.v d.q):FL w AT cT T∧NL w AN cN Ns∧ZL w AM cM Ms:=by
 obtain⟨A,c,e,h1⟩:=h.ot.fl hf
 injection e with e1 _ e3
 subst e1 e3;obtain⟨A,c,e,h2⟩:=h.on.nl
 injection e with e1 _ e3
 subst e1 e3;obtain⟨A,c,e,h3⟩:=h.om.zt
 injection e with e1 _ e3
 subst e1 e3;exact⟨h1,h2,h3.1⟩
end
end Go.Proofs.Ytjhkapjadfpimaa
namespace Go.Proofs.Ytjhkapjadfpimaa
set_option linter.unusedVariables false
set_option linter.unusedSimpArgs false
open Go.RowKit Plain
def revK (n p:Nat):Nat→Nat
 | 0=>0
 | k+1=>revK n p k+(if bitP p k=true then 2 ^ (n-1-k) else 0)
def revN (n:Nat) (d:NdD):NdD:=⟨(revK n d.p.toNat n:Nat),d.l⟩
set_option maxRecDepth 100000 in
theorem rev_bit {n p i:Nat}(hn:n≤8) (hp:p<256) (hi:i<n):bitP (revK n p n) i=bitP p (n-1-i):=by
 have key:∀ a:Fin 9,∀ q:Fin 256,∀ j:Fin 8,j.val<a.val→bitP (revK a.val q.val a.val) j.val=bitP q.val (a.val-1-j.val):=by decide +kernel
 exact key ⟨n,by omega⟩ ⟨p,hp⟩ ⟨i,by omega⟩ hi
set_option maxRecDepth 100000 in
theorem rev_lt {n p:Nat}(hn:n≤8) (hp:p<256):revK n p n<2 ^ n:=by
 have key:∀ a:Fin 9,∀ q:Fin 256,revK a.val q.val a.val<2 ^ a.val:=by decide +kernel
 exact key ⟨n,by omega⟩ ⟨p,hp⟩
theorem gt_rev {l:List Rat}{n i:Nat}(hl:l.length=n) (hi:i<n):gt l.reverse i=gt l (n-1-i):=by
 unfold gt;rw[List.getD_eq_getElem?_getD,List.getElem?_reverse (by omega),hl,←List.getD_eq_getElem?_getD]
theorem sm_rev (n:Nat):∀ f:Nat→Rat,sm n f=sm n fun i=>f (n-1-i):=by
 induction n with
 | zero=>intro f;rfl
 | succ n ih =>
  intro f
  have h1:sm (n+1) (fun i=>f (n+1-1-i))=f n+sm n (fun i=>f (n-1-i)):=by
   rw[sm_head]
   congr 1
   exact sm_congr fun i hi=>by show f (n+1-1-(i+1))=f (n-1-i);congr 1;omega
  rw[h1,←ih f]
  show sm n f+f n=_
  grind
section
variable {ns:List NdD}{ms:List Int}{tg u x x':List Rat}{sum:Rat}{t t':St}
theorem args_rev {tl:Nat}(h:argsE tl ns ms=0):argsE tl (ns.map (revN ms.length)) ms.reverse=0:=by
 obtain⟨h1,h2,h3,h4,h5⟩:=argsE_ok h;unfold argsE;rw[if_neg (by simp;omega),if_neg (by simp;exact h3),if_neg]
 simp only[List.any_eq_true,not_or,not_exists,not_and]
 refine⟨fun m hm=>?_,fun d hd=>?_⟩
 · have:=h4 m (List.mem_reverse.1 hm);unfold badM;rw[decide_eq_false (by omega),decide_eq_false (by omega)];decide
 · obtain⟨e,he,rfl⟩:=List.mem_map.1 hd;have hb:=h5 e he;have hpw:=pow_le h1;have h6:=rev_lt (n:=ms.length) (p:=e.p.toNat) h1 (by omega);have h7:((2 ^ ms.length:Nat):Int)=(2:Int) ^ ms.length:=by norm_cast
   unfold badN revN;rw[List.length_reverse];rw[decide_eq_false (show ¬ ((revK ms.length e.p.toNat ms.length:Nat):Int)<0 by omega),decide_eq_false (show ¬ (2:Int) ^ ms.length≤((revK ms.length e.p.toNat ms.length:Nat):Int) by rw[←h7];omega),decide_eq_false (show ¬ e.l < -1099511627776 by omega),decide_eq_false (show ¬ 1099511627776<e.l by omega)];decide
theorem poss_rev (hE:argsE ms.length ns ms=0) (h:Poss ms.length (allS ns ms) sum u):Poss ms.reverse.length (allS (ns.map (revN ms.length)) ms.reverse) sum u.reverse:=by
 obtain⟨e1,e2,e3,e4,e5⟩:=argsE_ok hE;obtain⟨h1,h2,h3,h4,h5⟩:=(poss_iff e1).1 h;refine (poss_iff (by rw[List.length_reverse];exact e1)).2 ⟨by simp[h1],?_,fun k hk=>?_,fun i hi=>?_,fun i hi=>?_⟩
 · rw[←h2,sumR_sm,sumR_sm,List.length_reverse,h1,sm_rev];exact sm_congr fun i hi=>by rw[gt_rev h1 (by omega)];congr 1;omega
 · rw[List.length_map] at hk;have hd:=h3 k hk
   have hg:(ns.map (revN ms.length)).getD k ⟨0,0⟩=revN ms.length (ns.getD k ⟨0,0⟩):=by
    rw[getD_of _ (by simpa using hk),getD_of _ hk,List.getElem_map]
   have hp:(ns.getD k ⟨0,0⟩).p.toNat<256:=by
    rw[getD_of _ hk];have:=(e5 _ (List.getElem_mem hk)).2.1;have:=(e5 _ (List.getElem_mem hk)).1;have:=pow_le e1;omega
   have e:sumR (paidL (pOf (ns.map (revN ms.length)) k) u.reverse)=sumR (paidL (pOf ns k) u):=by
    unfold pOf;rw[hg]
    show sumR (paidL ((revK ms.length _ ms.length:Nat):Int).toNat u.reverse)=_
    rw[Int.toNat_natCast,sumR_sm,sumR_sm,paidL_len,paidL_len,List.length_reverse,h1,sm_rev];refine sm_congr fun i hi=>?_
    have g1:∀ (p:Nat) (l:List Rat) (j:Nat),j<l.length→gt (paidL p l) j=if bitP p j=true then gt l j else 0:=fun p l j hj=>by
     unfold gt;rw[List.getD_eq_getElem?_getD,paidL_get (List.getElem?_eq_getElem hj),getD_of 0 hj];rfl
    rw[g1 _ _ _ (by rw[List.length_reverse];omega),g1 _ _ _ (by omega),rev_bit e1 hp (by omega),gt_rev h1 (by omega)];rw[show ms.length-1-(ms.length-1-i)=i by omega]
   rw[e];have el:lOf (ns.map (revN ms.length)) k=lOf ns k:=by unfold lOf;rw[hg];rfl
   rw[el];exact hd
 · rw[List.length_reverse] at hi;rw[gt_rev h1 hi];exact h4 _ (by omega)
 · rw[List.length_reverse] at hi;rw[gt_rev h1 hi];have h6:=h5 (ms.length-1-i) (by omega);have e:ms.reverse.getD i 0=ms.getD (ms.length-1-i) 0:=by rw[List.getD_eq_getElem?_getD,List.getElem?_reverse hi,←List.getD_eq_getElem?_getD]
   rw[e];exact h6
theorem dist_rev {n:Nat}(h1:tg.length=n) (h2:u.length=n):distV n tg.reverse u.reverse=distV n tg u:=by
 unfold distV ip;rw[sm_rev n (fun i=>(gt u i-gt tg i)*(gt u i-gt tg i))]
 exact sm_congr fun i hi=>by
  show (gt u.reverse i-gt tg.reverse i)*(gt u.reverse i-gt tg.reverse i)=_
  rw[gt_rev h1 hi,gt_rev h2 hi]
theorem poss_back (hE:argsE ms.length ns ms=0) (h:Poss ms.length (allS (ns.map (revN ms.length)) ms.reverse) sum u):Poss ms.length (allS ns ms) sum u.reverse:=by
 obtain⟨e1,e2,e3,e4,e5⟩:=argsE_ok hE;have hl:ms.reverse.length=ms.length:=List.length_reverse;have h':Poss ms.reverse.length (allS (ns.map (revN ms.length)) ms.reverse) sum u:=by rw[hl];exact h
 obtain⟨h1,h2,h3,h4,h5⟩:=(poss_iff (by rw[hl];exact e1)).1 h';rw[hl] at h1;refine (poss_iff e1).2 ⟨by simp[h1],?_,fun k hk=>?_,fun i hi=>?_,fun i hi=>?_⟩
 · rw[←h2,sumR_sm,sumR_sm,List.length_reverse,h1,sm_rev];exact sm_congr fun i hi=>by rw[gt_rev h1 (by omega)];congr 1;omega
 · have hd:=h3 k (by rw[List.length_map];exact hk)
   have hg:(ns.map (revN ms.length)).getD k ⟨0,0⟩=revN ms.length (ns.getD k ⟨0,0⟩):=by
    rw[getD_of _ (by simpa using hk),getD_of _ hk,List.getElem_map]
   have hp:(ns.getD k ⟨0,0⟩).p.toNat<256:=by
    rw[getD_of _ hk];have:=(e5 _ (List.getElem_mem hk)).2.1;have:=(e5 _ (List.getElem_mem hk)).1;have:=pow_le e1;omega
   have e:sumR (paidL (pOf (ns.map (revN ms.length)) k) u)=sumR (paidL (pOf ns k) u.reverse):=by
    unfold pOf;rw[hg]
    show sumR (paidL ((revK ms.length _ ms.length:Nat):Int).toNat u)=_
    rw[Int.toNat_natCast,sumR_sm,sumR_sm,paidL_len,paidL_len,List.length_reverse,h1,sm_rev];refine sm_congr fun i hi=>?_
    have g1:∀ (p:Nat) (l:List Rat) (j:Nat),j<l.length→gt (paidL p l) j=if bitP p j=true then gt l j else 0:=fun p l j hj=>by
     unfold gt;rw[List.getD_eq_getElem?_getD,paidL_get (List.getElem?_eq_getElem hj),getD_of 0 hj];rfl
    rw[g1 _ _ _ (by omega),g1 _ _ _ (by rw[List.length_reverse];omega),rev_bit e1 hp (by omega),gt_rev h1 (by omega)];rw[show ms.length-1-(ms.length-1-i)=i by omega]
   rw[←e];have el:lOf (ns.map (revN ms.length)) k=lOf ns k:=by unfold lOf;rw[hg];rfl
   rw[←el];exact hd
 · rw[gt_rev h1 hi];exact h4 _ (by omega)
 · rw[gt_rev h1 hi];have h6:=h5 (ms.length-1-i) (by omega)
   have e:ms.reverse.getD (ms.length-1-i) 0=ms.getD i 0:=by
    rw[List.getD_eq_getElem?_getD,List.getElem?_reverse (by omega),show ms.length-1-(ms.length-1-i)=i by omega,←List.getD_eq_getElem?_getD]
   rw[e] at h6;exact h6
theorem best_rev (hE:argsE ms.length ns ms=0) (ht:tg.length=ms.length) (h:Best ms.length (allS ns ms) tg sum t) (h':Best ms.length (allS (ns.map (revN ms.length)) ms.reverse) tg.reverse sum t'):t'.x.reverse=t.x:=by
 have hl:ms.reverse.length=ms.length:=List.length_reverse;have p1:=poss_back hE h'.poss;have p2:Poss ms.length (allS (ns.map (revN ms.length)) ms.reverse) sum t.x.reverse:=by have:=poss_rev hE h.poss;rwa [hl] at this
 have n1:=h'.nearest p2;rw[dist_rev ht h.lx] at n1
 have e1:distV ms.length tg t'.x.reverse=distV ms.length tg.reverse t'.x:=by
  rw[←dist_rev ht (show t'.x.reverse.length=ms.length by rw[List.length_reverse];exact h'.lx),List.reverse_reverse]
 have h2:0≤distV ms.length t'.x t.x.reverse:=ip_self _ _;exact h.only p1 (by rw[e1];grind)
end
end Go.Proofs.Ytjhkapjadfpimaa
