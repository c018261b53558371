/- Contracts of functions, for the law. -/
import Derived.Test.YtjhkapjadfpimaaMAppQ
import Derived.Test.YtjhkapjadfpimaaNCut
import Derived.Test.YtjhkapjadfpimaaNDir
import Derived.Test.YtjhkapjadfpimaaNLim
import Derived.Test.YtjhkapjadfpimaaFCmp
import Derived.Test.YtjhkapjadfpimaaNRun
import Derived.Test.YtjhkapjadfpimaaNDr
import Derived.Defers
import Derived.Recover
import Derived.WalkMore
import Derived.Deep.DeepCutAuto
import Derived.Deep.RegionHeld3
namespace Go.Proofs.Ytjhkapjadfpimaa
set_option linter.unusedVariables false
set_option linter.unusedSimpArgs false
open Go.RowKit Plain
attribute [local go_sem ↓] Go.wp_at_zero Go.wp_at_succ
def RetSat (S:Sv) (r:Option St) (B:Nat) (W:World) (e:Ending) (w':World):Prop :=
 ∃ s':Sm,e=.returned (.bool r.isSome)∧SolM S s' (.pointer none) w'∧Hid (∀ t,r=some t→s'.st=t)∧Below B W w'
theorem leave_any {gb gs:Nat}{u:FrameMode}{w:World}{x:Value}(hb:w.cell? ⟨gb,0,none⟩=some (.pointer (some ⟨gs,0,none⟩))) (hx:w.cell? ⟨gs,12,none⟩=some x) (hf:w.frozen? ⟨gs,12,none⟩=false) :
 CallsD Try.prog 86 #[.pointer (some ⟨gb,0,none⟩)] u w fun e u' w'=>u'=u∧(e=.returned (.tuple #[])∧w'=w.setCell ⟨gs,12,none⟩ (.pointer none)):=by
 go_enter_d Try.func86,Try.ntmps86
 go_wp2
 go_end0
 exact⟨rfl,rfl⟩
structure SatI (S:Sv) (aS:Addr) (k gb gm B:Nat) (root:World) (s:Sm) (md:FrD) (w:World):Prop where
 sol:SolM S s (.pointer (some (aS.add (k*4)))) w
 box:Blk w gb 77 #[.pointer (some ⟨S.gs,0,none⟩)]
 var:VarQ w gm md
 fv:FV w md.v md.q
 ne:∀ g,s.vm.ownBlock=some g→g≠gm
 bel:Below B root w
theorem SatI.below {S:Sv}{aS:Addr}{k gb gm B:Nat}{root:World}{s:Sm}{md:FrD}{w w':World}(h:SatI S aS k gb gm B root s md w) (hB:B≤w.heap.size) (hb:Below w.heap.size w w'):SatI S aS k gb gm B root s md w' :=
 ⟨h.sol.below hb,h.box.keep hb,h.var.below hb,h.fv.below hb,h.ne,h.bel.trans (hb.mono hB)⟩
def SatRel (S:Sv) (aS:Addr) (k gb gm B:Nat) (root:World) (r:Option St) (f:Nat) (w:World):Prop:=∃ (s:Sm) (md:FrD),SatI S aS k gb gm B root s md w∧satR KN S.n (S.cs.map CoD.con) k f s.st md.q=some r
theorem sat_unfold {K n k f:Nat}{all:List Con}{s:St}{m:Rat}{r:Option St}(h:satR K n all k (f+1) s m=some r):OkS K n all s∧Fits K m∧∃ z lev rates,dirS n all s.active k=some (z,lev,rates) ∧
 (if 0<dotR z (nrm all k)∧((limK s.mults rates rates.length).1=none∨fullT all k s.x z≤(limK s.mults rates rates.length).2) then
  r=some ⟨(moveS s z lev rates (fullT all k s.x z)).x,(moveS s z lev rates (fullT all k s.x z)).level,s.active++[k],(moveS s z lev rates (fullT all k s.x z)).mults++[m+fullT all k s.x z]⟩
 else match (limK s.mults rates rates.length).1 with
  | none=>r=none
  | some j=>satR K n all k f (dropS (moveS s z lev rates (limK s.mults rates rates.length).2) j) (m+(limK s.mults rates rates.length).2)=some r):=by
 have h0:(if okS K n all s=true∧fitsB K m=true then
  match stepS n all k s m with
  | none=>none
  | some none=>some none
  | some (some (true,t,m'))=>some (some ⟨t.x,t.level,t.active++[k],t.mults++[m']⟩)
  | some (some (false,t,m'))=>satR K n all k f t m'
  else none)=some r:=h
 by_cases hc:okS K n all s=true∧fitsB K m=true
 · rw[if_pos hc] at h0;refine⟨okS_iff.1 hc.1,fitsB_iff.1 hc.2,?_⟩;unfold stepS at h0
   cases e:dirS n all s.active k with
   | none=>rw[e] at h0;cases h0
   | some p =>
    obtain⟨z,lev,rates⟩:=p;rw[e] at h0;refine⟨z,lev,rates,rfl,?_⟩;dsimp only at h0
    by_cases hf:0<dotR z (nrm all k)∧((limK s.mults rates rates.length).1=none∨fullT all k s.x z≤(limK s.mults rates rates.length).2)
    · rw[if_pos hf] at h0 ⊢
      injection h0 with h0
      exact h0.symm
    · rw[if_neg hf] at h0 ⊢
      cases e2:(limK s.mults rates rates.length).1 with
      | none=>rw[e2] at h0;injection h0 with h0;exact h0.symm
      | some j=>rw[e2] at h0;exact h0
 · rw[if_neg hc] at h0;cases h0
theorem dir_len {n k:Nat}{all:List Con}{A:List Nat}{z rates:List Rat}{lev:Rat}(h:ConI n all) (hA:∀ a∈A,a<all.length) (hk:k<all.length) (hd:dirS n all A k=some (z,lev,rates)):z.length=n∧rates.length=A.length:=by
 have hM:=normalsS_len n all A;have hr:=normalsS_rect (n:=n) h.len hA;unfold dirS at hd
 cases e:solveL (gramS (normalsS n all A)) (rightS (normalsS n all A) (nrm all k)) with
 | none=>rw[e] at hd;cases hd
 | some r =>
  rw[e] at hd
  injection hd with hd
  injection hd with h1 hd
  injection hd with h2 h3
  have hf:=rect_form (gramS_rect (normalsS n all A)) (by rw[gramS_len,hM];omega);have h4:=(solve_sol hf.1 (by rw[rightS_len,gramS_len]) e).1;rw[hf.2,hM] at h4;exact⟨by rw[←h1];exact (zAt_ok hr (h.len.nrm hk) _ (Nat.le_refl _)).1,by rw[←h3,List.length_drop,h4];omega⟩
theorem SolM.con {S:Sv}{s:Sm}{ent:Value}{w:World}(h:SolM S s ent w){aS:Addr}{k:Nat}{c0:CoD}(hSA:S.A=some aS) (hck:S.cs[k]?=some c0) (i:Fin 4):w.cell? (if i=0 then aS.add (k*4) else ⟨(aS.add (k*4)).block,(aS.add (k*4)).off+i.val,none⟩)=some (c0.cells.getD i.val undef):=by
 obtain⟨a,d,ea,hab,h0,h1,h2,h3,h4,h5,h6⟩:=h.b.all.at (List.getElem?_eq_some_iff.1 hck).1;rw[hSA] at ea
 cases ea
 have e:d=c0:=by have h7:=h6.out;rw[hck] at h7;injection h7 with h7;exact h7.symm
 subst e
 match i with
 | 0=>exact h0
 | 1=>exact h1
 | 2=>exact h2
 | 3=>exact h3
section
variable {S:Sv}{aS:Addr}{k gb gm B:Nat}{root:World}{s:Sm}{md:FrD}{w:World}
theorem SatI.hE (h:SatI S aS k gb gm B root s md w):∀ x,(Value.pointer (some (aS.add (k*4))))≠.int .u32 x:=fun x e=>by cases e
theorem SatI.gbs (h:SatI S aS k gb gm B root s md w):gb≠S.gs:=h.box.ne_type h.sol.b.blk (by decide)
theorem SatI.gms (h:SatI S aS k gb gm B root s md w):gm≠S.gs:=Blk.ne_type h.var h.sol.b.blk (by decide)
theorem SatI.pushA (h:SatI S aS k gb gm B root s md w) (hl:s.ia.length≤1000) (hB1:B≤S.gs) (hBR:B≤S.R) (hB:B≤w.heap.size) :
 ∃ A n c w6 w9,(Builtin.append_ #[97,97] 97 #[s.va,.slice (some ⟨w.heap.size,0,none⟩) 1 1]).run Try.prog (w.alloc (.cells #[.int .i64 (k:Int)] 3))=.ok (.slice A n c) w6∧w6.cell? ⟨gb,0,none⟩=some (.pointer (some ⟨S.gs,0,none⟩))∧w6.cell? ⟨S.gs,10,none⟩=some s.va∧w6.frozen? ⟨S.gs,10,none⟩=false ∧
  w6.setCell ⟨S.gs,10,none⟩ (.slice A n c)=w9∧SatI S aS k gb gm B root { s with va:=.slice A n c,ia:=s.ia++[k] } md w9:=by
 obtain⟨v6,w6,w9,hr,hB6,f,e9,h9,ht,o9⟩:=h.sol.pushA h.hE k hl;obtain⟨A,n,c,ev⟩:∃ A n c,v6=.slice A n c:=by obtain⟨A,c,e,-⟩:=h9.act.form;exact⟨A,_,c,e⟩
 subst ev
 have hx6:=h.box.trn ht fun e=>by
  obtain⟨cur,k1,k2⟩:=h.sol.act.2 _ e;exact k1.ne_type h.box (by decide) rfl
 have hv6:VarQ w6 gm md:=h.var.trn ht fun e=>by
  obtain⟨cur,k1,k2⟩:=h.sol.act.2 _ e;exact k1.ne_type h.var (by decide) rfl
 refine⟨A,n,c,w6,w9,hr,Blk.cell hx6 0,hB6.cells.2.2.2.2.2.2.2.2.2.2.1,f,e9,h9,hx6.only o9 h.gbs,hv6.only o9 h.gms,(h.fv.trn ht).only_blk hB6.blk (SolB.noDig h.sol.vaU h.sol.vmU h.hE) o9,h.ne,?_⟩;exact o9.to_below (ht.to_below h.bel hB fun g hg=>Nat.le_trans hBR (h.sol.act.block hg)) hB1 (Nat.le_trans hB ht.size)
theorem SatI.pushM (h:SatI S aS k gb gm B root s md w) (hl:s.dm.length≤1000) (hB1:B≤S.gs) (hBR:B≤S.R) (hB:B≤w.heap.size) :
 ∃ A n c w6 w9,(Builtin.append_ #[22,22] 22 #[s.vm,.slice (some ⟨w.heap.size,0,none⟩) 1 1]).run Try.prog (w.alloc (.cells #[.bool md.neg,.slice md.a md.la.length md.ca,.slice md.b md.lb.length md.cb] 28))=.ok (.slice A n c) w6∧w6.cell? ⟨gb,0,none⟩=some (.pointer (some ⟨S.gs,0,none⟩))∧w6.cell? ⟨S.gs,11,none⟩=some s.vm∧VarQ w6 gm md∧w6.frozen? ⟨S.gs,11,none⟩=false ∧
  w6.setCell ⟨S.gs,11,none⟩ (.slice A n c)=w9∧SolM S { s with vm:=.slice A n c,dm:=s.dm++[md] } (.pointer (some (aS.add (k*4)))) w9∧Blk w9 gb 77 #[.pointer (some ⟨S.gs,0,none⟩)]∧Below B root w9∧B≤w9.heap.size:=by
 obtain⟨v6,w6,w9,hr,hB6,f,e9,h9,ht,o9⟩:=h.sol.pushM h.hE h.fv hl;obtain⟨A,n,c,ev⟩:∃ A n c,v6=.slice A n c:=by obtain⟨A,c,e,-⟩:=h9.mul.fl h9.mf;exact⟨A,_,c,e⟩
 subst ev
 have hx6:=h.box.trn ht fun e=>by
  obtain⟨cur,k1,k2⟩:=h.sol.mul.2 _ e;exact k1.ne_type h.box (by decide) rfl
 have hv6:VarQ w6 gm md:=h.var.trn ht fun e=>h.ne _ e rfl;exact⟨A,n,c,w6,w9,hr,Blk.cell hx6 0,hB6.cells.2.2.2.2.2.2.2.2.2.2.2.1,hv6,f,e9,h9,hx6.only o9 h.gbs,o9.to_below (ht.to_below h.bel hB fun g hg=>Nat.le_trans hBR (h.sol.mul.block hg)) hB1 (Nat.le_trans hB ht.size),Nat.le_trans hB (Nat.le_trans ht.size o9.size)⟩
end
section
variable {S:Sv}{aS:Addr}{k gb gm B:Nat}{root:World}{s:Sm}{md:FrD}{w:World}
theorem SatI.formA (h:SatI S aS k gb gm B root s md w){j:Nat}(hj:j<s.ia.length):∃ g c,s.va=.slice (some ⟨g,0,none⟩) s.ia.length c∧s.ia.length≤c∧c≤9223372036854775807:=by
 have hm2:maxLen=9223372036854775807:=rfl
 rcases h.sol.act.1.2 with ⟨e,h0⟩ | ⟨g,cap,cur,e,hb,hg,hn,hm,hs,ht⟩
 · omega
 · exact⟨g,cap,e,hn,by omega⟩
theorem SatI.formM (h:SatI S aS k gb gm B root s md w){j:Nat}(hj:j<s.dm.length):∃ g c,s.vm=.slice (some ⟨g,0,none⟩) s.dm.length c∧s.dm.length≤c∧c≤9223372036854775807:=by
 obtain⟨g,c,e⟩:=h.sol.vform hj;have hm:=h.sol.mul;rw[e] at hm;obtain⟨cur,k1,k2,k3,k4,k5,k6⟩:=hm.xo.2.2;exact⟨g,c,e,k3,k4⟩
theorem SatI.cutA (h:SatI S aS k gb gm B root s md w){j g c:Nat}(hj:j<s.ia.length) (ev:s.va=.slice (some ⟨g,0,none⟩) s.ia.length c) (hl:s.ia.length≤1000) (hB1:B≤S.gs) (hB:B≤w.heap.size) (ad:Addr) (had:(ad=⟨g,j+1,none⟩)∨s.ia.length=j+1∧ad.block=g) (c1 c2:Nat) :
 ∃ v1 w1 A n c' w2 w9,(Builtin.append_ #[97,97] 97 #[.slice (some ⟨w.heap.size,0,none⟩) 0 0,.slice (some ⟨g,0,none⟩) j c1]).run Try.prog (w.alloc (.cells #[] 3))=.ok v1 w1∧w1.cell? ⟨gb,0,none⟩=some (.pointer (some ⟨S.gs,0,none⟩))∧w1.cell? ⟨S.gs,10,none⟩=some s.va ∧
  (Builtin.append_ #[97,97] 97 #[v1,.slice (some ad) (s.ia.length-(j+1)) c2]).run Try.prog w1=.ok (.slice A n c') w2∧w2.cell? ⟨gb,0,none⟩=some (.pointer (some ⟨S.gs,0,none⟩))∧w2.cell? ⟨S.gs,10,none⟩=some s.va∧w2.frozen? ⟨S.gs,10,none⟩=false ∧
  w2.setCell ⟨S.gs,10,none⟩ (.slice A n c')=w9∧SatI S aS k gb gm B root { s with va:=.slice A n c',ia:=s.ia.take j++s.ia.drop (j+1) } md w9:=by
 have hA:=h.sol.act;rw[ev] at hA;obtain⟨v1,w1,v2,w2,r1,b1,r2,o2,b2⟩:=run_cutI hA hj hl ad had c1 c2;have h1:=h.sol.below b1;have h2:=h.sol.below b2;obtain⟨A,n,c',e2⟩:∃ A n c,v2=.slice A n c:=by obtain⟨A,c,e,-⟩:=o2.form;exact⟨A,_,c,e⟩
 subst e2;obtain⟨w9,f,e9,h9,o9⟩:=h2.newAct h.hE (o2.rebase h.sol.b.hR);have hx2:=h.box.keep b2;have hv2:=h.var.below b2;exact⟨v1,w1,A,n,c',w2,w9,r1,Blk.cell (h.box.keep b1) 0,h1.b.cells.2.2.2.2.2.2.2.2.2.2.1,r2,Blk.cell hx2 0,h2.b.cells.2.2.2.2.2.2.2.2.2.2.1,f,e9,h9,hx2.only o9 h.gbs,hv2.only o9 h.gms,(h.fv.below b2).only_blk h2.b.blk (SolB.noDig h.sol.vaU h.sol.vmU h.hE) o9,h.ne,o9.to_below (h.bel.trans (b2.mono hB)) hB1 (Nat.le_trans hB b2.size)⟩
theorem SatI.cutM (h:SatI S aS k gb gm B root s md w){j g c:Nat}(hj:j<s.dm.length) (ev:s.vm=.slice (some ⟨g,0,none⟩) s.dm.length c) (hl:s.dm.length≤1000) (hB1:B≤S.gs) (hB:B≤w.heap.size) (ad:Addr) (had:(ad=⟨g,(j+1)*3,none⟩)∨s.dm.length=j+1∧ad.block=g) (c1 c2:Nat) :
 ∃ v1 w1 A n c' w2 w9,(Builtin.append_ #[22,22] 22 #[.slice (some ⟨w.heap.size,0,none⟩) 0 0,.slice (some ⟨g,0,none⟩) j c1]).run Try.prog (w.alloc (.cells #[] 28))=.ok v1 w1∧w1.cell? ⟨gb,0,none⟩=some (.pointer (some ⟨S.gs,0,none⟩))∧w1.cell? ⟨S.gs,11,none⟩=some s.vm ∧
  (Builtin.append_ #[22,22] 22 #[v1,.slice (some ad) (s.dm.length-(j+1)) c2]).run Try.prog w1=.ok (.slice A n c') w2∧w2.cell? ⟨gb,0,none⟩=some (.pointer (some ⟨S.gs,0,none⟩))∧w2.cell? ⟨S.gs,11,none⟩=some s.vm∧w2.frozen? ⟨S.gs,11,none⟩=false ∧
  w2.setCell ⟨S.gs,11,none⟩ (.slice A n c')=w9∧SatI S aS k gb gm B root { s with vm:=.slice A n c',dm:=s.dm.take j++s.dm.drop (j+1) } md w9:=by
 have hm:=h.sol.mul;rw[ev] at hm;obtain⟨v1,w1,v2,w2,r1,b1,r2,o2,b2⟩:=run_cutQ (n:=0) (c:=c) hm.xo.2.2 hj h.sol.mf hl ad had c1 c2;have h1:=h.sol.below b1;have h2:=h.sol.below b2;have hf2:AllFV w2 (s.dm.take j++s.dm.drop (j+1)):=fun d hd=>(h.sol.mf d (erase_mem hd)).below b2;obtain⟨A,n,c',e2⟩:∃ A n c,v2=.slice A n c:=by obtain⟨A,c,e,-⟩:=o2.fl hf2;exact⟨A,_,c,e⟩
 subst e2;obtain⟨w9,f,e9,h9,o9⟩:=h2.newMul h.hE (o2.rebase h.sol.b.hR) hf2;have hx2:=h.box.keep b2;have hv2:=h.var.below b2;exact⟨v1,w1,A,n,c',w2,w9,r1,Blk.cell (h.box.keep b1) 0,h1.b.cells.2.2.2.2.2.2.2.2.2.2.2.1,r2,Blk.cell hx2 0,h2.b.cells.2.2.2.2.2.2.2.2.2.2.2.1,f,e9,h9,hx2.only o9 h.gbs,hv2.only o9 h.gms,(h.fv.below b2).only_blk h2.b.blk (SolB.noDig h.sol.vaU h.sol.vmU h.hE) o9,fun g' hg'=>by have h3:=o2.block hg';have h4:=Blk.lt h.var;omega,o9.to_below (h.bel.trans (b2.mono hB)) hB1 (Nat.le_trans hB b2.size)⟩
end
theorem SatI.put {S:Sv}{aS:Addr}{k gb gm B:Nat}{root:World}{s:Sm}{md m2:FrD}{w w9:World}(h:SatI S aS k gb gm B root s md w) (o:Only w w9 gm) (hv:VarQ w9 gm m2) (hm:FV w m2.v m2.q) (hR:S.R≤gm) (hBg:B≤gm) (hgb:gb≠gm) (hB:B≤w.heap.size):SatI S aS k gb gm B root s m2 w9 where
 sol:=⟨h.sol.b.far hR h.var (noDig3 _ _ _ _ _ _ _) o,h.sol.act.far (fun g' hg'=>by
  obtain⟨cur,k1,k2⟩:=h.sol.act.2 g' hg';exact k1.ne_type h.var (by decide)) o,h.sol.mul.far h.ne o,fun x hx=>(h.sol.mf x hx).onlyV h.var o⟩
 box:=h.box.only o hgb
 var:=hv
 fv:=hm.onlyV h.var o
 ne:=h.ne
 bel:=o.to_below h.bel hBg hB
def stopB (o:Option Nat) (full:Bool):Bool:=o.isNone && !full
set_option maxRecDepth 100000 in
set_option maxHeartbeats 40000000 in
theorem satisfy_any {S:Sv}{s:Sm}{k f0 B:Nat}{r:Option St}{w:World}(h:SolM S s (.pointer none) w) (hk:k<S.cs.length) (hc0:ConI S.n (S.cs.map CoD.con)) (hn:S.n≤8) (hr0:satR KN S.n (S.cs.map CoD.con) k f0 s.st 0=some r) (hB1:B≤S.gs) (hB2:B≤S.gx) :
 Calls Try.prog 74 #[.pointer (some ⟨S.gs,0,none⟩),.int .i64 (k:Int)] w (RetSat S r B w):=by
 have hc:=Lib.hid hc0;have hr:=Lib.hid hr0;clear hc0 hr0;obtain⟨w1,hw1,b1,l1,BX⟩:=boxed w #[.pointer (some ⟨S.gs,0,none⟩)] 77;have hS1:=h.below b1;obtain⟨s0,s1,s2,s3,s4,s5,s6,s7,s8,s9,s10,s11,s12⟩:=hS1.b.cells;obtain⟨aS,d9,ea9,hab9,g0,g1,g2,g3,hfl9,hfv9,hck9⟩:=hS1.b.all.at hk;have hSA:=Lib.hid ea9;rw[ea9] at s2;have hki:(k:Int)<(S.cs.length:Int):=by omega
 have hb0:w1.cell? ⟨w.heap.size,0,none⟩=some (.pointer (some ⟨S.gs,0,none⟩)):=Blk.cell BX 0;have he0:∀ x,(Value.pointer none)≠.int .u32 x:=fun x e=>by cases e
 have he0':=Lib.hid he0;have hE:=Lib.hid (show ∀ x,(Value.pointer (some (aS.add (k*4))))≠.int .u32 x from fun x e=>by cases e);obtain⟨w2,f2,e2,hS2,o2⟩:=hS1.setEnt he0 (.pointer (some (aS.add (k*4))));have hmf:∀ (fn:Fn) (first cap:Array Value) (w:World),(Instr.makeFunc fn first cap).run Try.prog w=.ok (.func fn first cap) w:=fun _ _ _ _=>rfl;have hgsR:=h.b.hs;have hRw:=h.b.hR;have hgxR:=h.b.hx;have hBX2:Blk w2 w.heap.size 77 #[.pointer (some ⟨S.gs,0,none⟩)]:=BX.only o2 (by omega);have hbel2:Below B w w2:=o2.to_below (b1.mono (by omega)) hB1 (by have:=b1.size;omega);have hRb:=Lib.hid (show S.R≤w.heap.size from hRw);have hk':=Lib.hid hk;have hgsR':=Lib.hid hgsR;have hgxR':=Lib.hid hgxR;have hbr:=b1.size;have hB1':=Lib.hid hB1;have hB2':=Lib.hid hB2;have h2s:=Lib.hid (show w.heap.size<w2.heap.size by have:=o2.size;omega);clear he0 hfl9 hfv9 hck9 ea9 hS1 hgsR hRw hgxR BX o2 b1
 go_enter_defers Try.func74,Try.ntmps74
 go_wp2
 go_step3
 go_wp2
 go_region
 clear s0 s1 s2 s3 s4 s5 s6 s7 s8 s9 s10 s11 s12 g0 g1 g2 g3;go_wp2_with fail;refine (fromInt_any 0 _ (by decide) (by decide)).mono ?_;rintro e w3 ⟨v3,rfl,hv3,b3⟩;obtain⟨zz,rfl,hz,hzq⟩:=hv3.frd;clear hv3;obtain⟨wA,w4,eA,p0,p1,p2,r0,r1,r2,eB,hV4,b4,l4⟩:=new_var w3 zz;have hS3:=(hS2.below (Below.refl _ _).drew).below b3;have hS4:=hS3.below b4;have hbel3:=hbel2.drew.trans (b3.mono (by have:=h2s.out;have:=hB1'.out;have:=hgsR'.out;have:=hRb.out;show B≤w2.heap.size;omega));have hbel4:=hbel3.trans (b4.mono (by have:=h2s.out;have h33:w2.heap.size≤w3.heap.size:=b3.size;have:=hB1'.out;have:=hgsR'.out;have:=hRb.out;omega));have hBX4:=(Blk.keep (Blk.keep hBX2 (Below.refl _ _).drew) b3).keep b4;have h3s:w2.heap.size≤w3.heap.size:=b3.size;have hgm:=Lib.hid (show w.heap.size<w3.heap.size by have:=h2s.out;omega);have hI4:SatI S aS k w.heap.size w3.heap.size B w s zz w4:=⟨hS4,hBX4,hV4,hz.below b4,fun g hg=>by have:=h.wlt g (.inr (.inr hg));have:=hgm.out;omega,hbel4⟩;have hst:SatRel S aS k w.heap.size w3.heap.size B w r f0 w4:=⟨s,zz,hI4,by rw[hzq.out];exact hr.out⟩;clear hI4 hBX4 hbel4 hbel3 hS4 hS3 hV4 hz hBX2 hbel2 hb0 e2 f2 hS2;have hBR:=Lib.hid (show B≤S.R by have:=hB1'.out;have:=hgsR'.out;omega);go_wp2
 go_step3
 go_wp2;clear p0 p1 p2 r0 r1 r2 eA eB
 go_loopw [137] (fun v wr=>∃ f,SatRel S aS k w.heap.size w3.heap.size B w r f wr) (fun _ wr=>leastN fun f=>SatRel S aS k w.heap.size w3.heap.size B w r f wr)
 case atStart=>exact⟨f0,hst⟩
 case round =>
  clear hst;obtain⟨f,hf⟩:∃ f,Hid (leastN (fun f=>SatRel S aS k w.heap.size w3.heap.size B w r f wr)=f):=⟨_,rfl⟩;have hrl:=leastN_is hrel;rw[hf.out] at hrl;obtain⟨s1,md,hI,hsat⟩:=hrl
  cases f with
  | zero=>cases hsat
  | succ f =>
   obtain⟨hok0,hmF0,z,lev,rates,hdir0,hres0⟩:=sat_unfold hsat;have hok:=Lib.hid hok0;have hmF:=Lib.hid hmF0;have hdir:=Lib.hid hdir0;have hres:=Lib.hid hres0;have hal:s1.ia.length≤7:=hok0.la;have hact:=Lib.hid (show ∀ a∈s1.ia,a<S.cs.length from fun a ha=>by have h1:=hok0.act a ha;rw[List.length_map] at h1;exact h1);clear hsat hok0 hmF0 hdir0 hres0 hrel;have hBw:B≤wr.heap.size:=Nat.le_trans hBR.out hI.sol.b.hR;obtain⟨c0,hck⟩:∃ c0,Hid (S.cs[k]?=some c0):=⟨_,List.getElem?_eq_getElem hk'.out⟩;have hkm:=Lib.hid (show k<(S.cs.map CoD.con).length by rw[List.length_map];exact hk'.out);have hact2:=Lib.hid (show ∀ a∈s1.ia,a<(S.cs.map CoD.con).length from fun a ha=>by rw[List.length_map];exact hact.out a ha);have hdl:=Lib.hid (dir_len hc.out hact2.out hkm.out hdir.out);have hdf:=Lib.hid (dir_fits hc.out hact2.out hkm.out hn (by omega) hdir.out);have hcq:=Lib.hid (show nrm (S.cs.map CoD.con) k=c0.r.ds.map FrD.q by rw[nrm_of (c:=c0.con) (by rw[List.getElem?_map,hck.out];rfl)];rfl);have hclq:=Lib.hid (show lst (S.cs.map CoD.con) k=c0.l.q by rw[lst_of (c:=c0.con) (by rw[List.getElem?_map,hck.out];rfl)];rfl);have hcn:=Lib.hid (show c0.r.ds.length=S.n by have h1:=hc.out.len.nrm hkm.out;rw[hcq.out,List.length_map] at h1;exact h1);have hni:=Lib.hid (show QFits 1 (c0.r.ds.map FrD.q) from fun q hq=>by rw[←hcq.out] at hq;exact (hc.out.nrmk hkm.out q hq).fits (by decide))
   have hwl:=Lib.hid hI.sol.wlt;have hvmR:=Lib.hid (fun g (hg:s1.vm.ownBlock=some g)=>hI.sol.mul.block hg);have hb1:=Blk.cell hI.box 0;have hdr:=directions_any hI.sol hSA.out hk'.out hc.out hn hact.out (by omega) hdir.out;go_wp2_with fail;refine hdr.mono ?_;rintro e wa ⟨Z,cz,zs,R,cr,rs,l,rfl,hfz,hfr,hfl,hval,hZn,hRn,ba⟩;clear hdr hb1;have hIa:=hI.below hBw ba;have hBa:B≤wa.heap.size:=Nat.le_trans hBw ba.size;obtain⟨wA,wb,eA,p0,p1,p2,r0,r1,r2,eB,hLb,bb,lb⟩:=new_var wa l;have hIb:=hIa.below hBa bb;have hBb:B≤wb.heap.size:=Nat.le_trans hBa bb.size;have hb1:=Blk.cell hIb.box 0
   have hrl:=Lib.hid (show s1.dm.length=rs.length by
    have h1:=hok.out.lm;have h2:=hdl.out.2;rw[←hval.out.2.2,List.length_map] at h2;have h3:(s1.dm.map FrD.q).length=s1.ia.length:=h1;rw[List.length_map] at h3
    omega)
   have hlm:=limit_any hIb.sol (hfr.below bb) hrl.out hok.out.mults (fun q hq=>hdf.out.1 q (List.mem_cons_of_mem _ (by rw[←hval.out.2.2];exact hq)));have hZn':=Lib.hid hZn;have hRn':=Lib.hid hRn;clear hI hIa hZn hRn;go_wp2_with fail;refine hlm.mono ?_;rintro e wl ⟨d,rfl,hdv,bc⟩;clear hlm hb1 p0 p1 p2 r0 r1 r2 eA eB;obtain⟨o,T,hot⟩:∃ o T,Hid (limK (s1.dm.map FrD.q) (rs.map FrD.q) rs.length=(o,T)):=⟨_,_,rfl⟩;rw[hot.out] at hdv ⊢;have hIc:=hIb.below hBb bc;have hBc:B≤wl.heap.size:=Nat.le_trans hBb bc.size;have hLc:=hLb.below bc;have hfzc:=(hfz.below bb).below bc;have hfrc:=(hfr.below bb).below bc;have hflc:=(hfl.below bb).below bc;obtain⟨wA,wd,eA,p0,p1,p2,r0,r1,r2,eB,hTd,bd,ld⟩:=new_var wl d;have hId:=hIc.below hBc bd;have hb1:=Blk.cell hId.box 0;have hb2:=hId.sol.b.cells.2.2.2.2.2.2.2.2.2.2.2.2;have hb3:wd.cell? (aS.add (k*4))=some (.slice c0.r.a c0.r.ds.length c0.r.c):=hId.sol.con hSA.out hck.out 0;have hzl:=Lib.hid (show zs.length=S.n by have h1:=hdl.out.1;rw[←hval.out.1,List.length_map] at h1;exact h1);have hzf:=Lib.hid (show ∀ d∈zs,Fits 699067 d.q from QFits.fr0 (by rw[hval.out.1];exact hdf.out.2));have hnf7:=Lib.hid (show ∀ d∈c0.r.ds,Fits 699067 d.q from fun d hd=>(QFits.fr0 hni.out d hd).mono (by decide));have hcd:=dotF_any (K:=699067) (hfzc.below bd) (hId.sol.b.all.fl c0 (List.mem_of_getElem? hck.out)) hzf.out hnf7.out (by rw[hzl.out];have h1:=Nat.mul_le_mul_right (699067+699067+1) (show S.n+1≤9 by omega);omega)
   rw[show sumR (prods zs c0.r.ds)=dotR z (nrm (S.cs.map CoD.con) k) by rw[prods_dot,hval.out.1,hcq.out]] at hcd;obtain⟨sp,hspq⟩:∃ sp,Hid (dotR z (nrm (S.cs.map CoD.con) k)=sp):=⟨_,rfl⟩;rw[hspq.out] at hcd;go_wp2_with fail;refine hcd.mono ?_;rintro e we ⟨vs,rfl,hvs,be⟩;obtain⟨spd,rfl,hspd,hspd2⟩:=hvs.frd;clear hcd hvs hb1 hb2 hb3 p0 p1 p2 r0 r1 r2 eA eB;obtain⟨wA,wf,eA,p0,p1,p2,r0,r1,r2,eB,hSf,bf,lf⟩:=new_var we spd;have hspf:=hspd.below bf;obtain⟨y0,y1,y2⟩:=hSf.cells;obtain⟨sg,hsg⟩:∃ s',Hid (cmpR sp 0=s'):=⟨_,rfl⟩;have hcs:=sign_any hspf;rw[hspd2.out,hsg.out] at hcs;go_wp2_with fail;refine hcs.mono ?_;rintro e wg ⟨rfl,bg⟩;clear hcs p0 p1 p2 r0 r1 r2 eA eB y0 y1 y2;have hBd:B≤wd.heap.size:=Nat.le_trans hBc bd.size;have hIg:=((hId.below hBd be).below (Nat.le_trans hBd be.size) bf).below (Nat.le_trans (Nat.le_trans hBd be.size) bf.size) bg;have hTg:=((hTd.below be).below bf).below bg;have hSg:=hSf.below bg;have hsp:=hspf.below bg;have bcg:Below wl.heap.size wl wg:=((bd.trans (be.mono bd.size)).trans (bf.mono (Nat.le_trans bd.size be.size))).trans (bg.mono (Nat.le_trans (Nat.le_trans bd.size be.size) bf.size));obtain⟨ft,hft⟩:∃ ft,Hid (fullT (S.cs.map CoD.con) k (s1.dx.map FrD.q) z=ft):=⟨_,rfl⟩
   have hftF:=Lib.hid (show Fits 190000000 ft by
    rw[←hft.out];have e1:Fits 2 (lst (S.cs.map CoD.con) k):=hc.out.lstk hkm.out;have e2:Fits (1+8*(KN+KN+1)) (dotR (nrm (S.cs.map CoD.con) k) (s1.dx.map FrD.q)):=by rw[hcq.out];exact dot_fits (hni.out.mono (by decide)) hok.out.x (by rw[List.length_map,hcn.out];exact hn)
    have e3:Fits (1+8*(699067+699067+1)) (dotR z (nrm (S.cs.map CoD.con) k)):=by rw[hcq.out];exact dot_fits hdf.out.2 (hni.out.mono (by decide)) (by rw[hdl.out.1];exact hn)
    exact ((e1.sub e2).div e3).mono (by decide))
   clear hIb hId hTd hSf hspf hspd hLb hfz hfr hfl
   go_upto_if 49 with fail
   go_cut [12,13,14] from 26 to 138 (fun v _x13 _x14 wx=>∃ (full:Bool) (sd:FrD),v=.bool full∧VarQ wx wl.heap.size sd∧Hid (full=true→(0<sp∧(o=none∨ft≤T))∧FV wx sd.v sd.q∧sd.q=ft)∧Hid (full=false→¬ (0<sp∧(o=none∨ft≤T))∧(o≠none→FV wx sd.v sd.q∧sd.q=T))∧Below wl.heap.size wl wx)
   case first =>
    as_aux_lemma =>
    by_cases hs0:0<sg
    · have hd0:decide (0<sg)=true:=decide_eq_true hs0;have hpos:=Lib.hid (show 0<sp from cmpR_pos.1 (by rw[hsg.out];exact hs0));have hlf:FV wg c0.l.v c0.l.q:=hIg.sol.b.all.fv c0 (List.mem_of_getElem? hck.out);obtain⟨dq,hdq⟩:∃ dq,Hid (dotR (nrm (S.cs.map CoD.con) k) (s1.dx.map FrD.q)=dq):=⟨_,rfl⟩;have hdq2:=Lib.hid (show sumR (prods c0.r.ds s1.dx)=dq by rw[prods_dot,←hdq.out,hcq.out]);have hnf:=Lib.hid (show ∀ d∈c0.r.ds,Fits KN d.q from fun d hd=>(QFits.fr0 hni.out d hd).mono (by decide));have hxf:=Lib.hid (show ∀ d∈s1.dx,Fits KN d.q from QFits.fr0 hok.out.x);have hdb2:=Lib.hid (show 1+(c0.r.ds.length+1)*(KN+KN+1)<400000000 by rw[hcn.out];show 1+(S.n+1)*20000001<400000000;have h2:(S.n+1)*20000001≤9*20000001:=Nat.mul_le_mul_right _ (by omega);omega);have hlF:=Lib.hid (show Fits 2 c0.l.q by rw[←hclq.out];exact hc.out.lstk hkm.out);have hdF:=Lib.hid (show Fits (1+8*(KN+KN+1)) dq by rw[←hdq.out,hcq.out];exact dot_fits (hni.out.mono (by decide)) hok.out.x (by rw[List.length_map,hcn.out];exact hn));have hspF:=Lib.hid (show Fits (1+8*(699067+699067+1)) spd.q by rw[hspd2.out,←hspq.out,hcq.out];exact dot_fits hdf.out.2 (hni.out.mono (by decide)) (by rw[hdl.out.1];exact hn));have hspn:=Lib.hid (show spd.q≠0 by rw[hspd2.out];intro e;have h9:=hpos.out;rw[e] at h9;exact Rat.lt_irrefl h9);have hft2:=Lib.hid (show (c0.l.q-dq) / spd.q=ft by rw[←hft.out,hspd2.out,←hspq.out,←hdq.out,←hclq.out];rfl)
      go_upto_region 9 with fail
      go_cut [13,14] from 26 to 138 (fun v _x14 wx=>∃ g t,v=.pointer (some ⟨g,0,none⟩)∧VarQ wx g t∧FV wx t.v t.q∧Hid (t.q=ft)∧Below wg.heap.size wg wx∧wg.heap.size≤g)
      case first =>
       as_aux_lemma =>
       have bT:=Below.refl wg.heap.size wg
       have hS:∀ w',Below wg.heap.size wg w'→w'.cell? ⟨w.heap.size,0,none⟩=some (.pointer (some ⟨S.gs,0,none⟩))∧w'.cell? ⟨S.gs,12,none⟩=some (.pointer (some (aS.add (k*4))))∧w'.cell? ⟨S.gs,3,none⟩=some (.slice (some ⟨S.gx,0,none⟩) s1.dx.length S.cx)∧w'.cell? (aS.add (k*4))=some (.slice c0.r.a c0.r.ds.length c0.r.c)∧w'.cell? ⟨(aS.add (k*4)).block,(aS.add (k*4)).off+1,none⟩=some (.bool c0.l.neg)∧w'.cell? ⟨(aS.add (k*4)).block,(aS.add (k*4)).off+2,none⟩=some (.slice c0.l.a c0.l.la.length c0.l.ca)∧w'.cell? ⟨(aS.add (k*4)).block,(aS.add (k*4)).off+3,none⟩=some (.slice c0.l.b c0.l.lb.length c0.l.cb)∧w'.cell? ⟨we.heap.size,0,none⟩=some (.bool spd.neg)∧w'.cell? ⟨we.heap.size,1,none⟩=some (.slice spd.a spd.la.length spd.ca)∧w'.cell? ⟨we.heap.size,2,none⟩=some (.slice spd.b spd.lb.length spd.cb)∧Below wg.heap.size wg w':=by
        intro w' o;exact⟨Blk.cell (hIg.box.keep o) 0,(hIg.sol.below o).b.cells.2.2.2.2.2.2.2.2.2.2.2.2,(hIg.sol.below o).c3 rfl,(hIg.sol.below o).con hSA.out hck.out 0,(hIg.sol.below o).con hSA.out hck.out 1,(hIg.sol.below o).con hSA.out hck.out 2,(hIg.sol.below o).con hSA.out hck.out 3,(hSg.below o).cells.1,(hSg.below o).cells.2.1,(hSg.below o).cells.2.2,o⟩
       have bo:Below wg.heap.size wg wg:=Below.refl _ _;have dS:Below wg.heap.size wg wg.drew:=bo.drew;go_wp2_with fail;refine wp_region_noPanic ?_;refine wp_region_held_drew (S:=fun w'=>w'.cell? ⟨w.heap.size,0,none⟩=some (.pointer (some ⟨S.gs,0,none⟩))∧w'.cell? ⟨S.gs,12,none⟩=some (.pointer (some (aS.add (k*4))))∧w'.cell? ⟨S.gs,3,none⟩=some (.slice (some ⟨S.gx,0,none⟩) s1.dx.length S.cx)∧w'.cell? (aS.add (k*4))=some (.slice c0.r.a c0.r.ds.length c0.r.c)∧w'.cell? ⟨(aS.add (k*4)).block,(aS.add (k*4)).off+1,none⟩=some (.bool c0.l.neg)∧w'.cell? ⟨(aS.add (k*4)).block,(aS.add (k*4)).off+2,none⟩=some (.slice c0.l.a c0.l.la.length c0.l.ca)∧w'.cell? ⟨(aS.add (k*4)).block,(aS.add (k*4)).off+3,none⟩=some (.slice c0.l.b c0.l.lb.length c0.l.cb)∧w'.cell? ⟨we.heap.size,0,none⟩=some (.bool spd.neg)∧w'.cell? ⟨we.heap.size,1,none⟩=some (.slice spd.a spd.la.length spd.ca)∧w'.cell? ⟨we.heap.size,2,none⟩=some (.slice spd.b spd.lb.length spd.cb)∧Below wg.heap.size wg w') (by kernel_rfl) (hS _ dS) (fun hHeld=>?_);refine tkH 0 rfl hHeld ?_;refine tkH 1 rfl hHeld ?_;refine tkH 2 rfl hHeld ?_;refine tkH 3 rfl hHeld ?_;refine tkH 4 rfl hHeld ?_;refine tkH 5 rfl hHeld ?_;refine tkH 6 rfl hHeld ?_;refine tkH 7 rfl hHeld ?_;refine tkH 8 rfl hHeld ?_;refine tkH 9 rfl hHeld ?_;refine tkH 10 rfl hHeld ?_;refine tkH 11 rfl hHeld ?_;refine tkH 12 rfl hHeld ?_
       refine tkH 13 rfl hHeld ?_;refine tkH 14 rfl hHeld ?_;refine tkH 15 rfl hHeld ?_;refine tkH 16 rfl hHeld ?_;refine tkH 17 rfl hHeld ?_;refine tkH 20 rfl hHeld ?_;refine wpAnyH_ready (rs:=[18,25]) (by kernel_rfl) (by simp) ?_;refine AllReadyH.cons rfl (fun K hK=>?_) ?_
       · go_simp;have dw0:Below wg.heap.size wg wg.drew:=(Below.refl _ _).drew;replace hlf:=hlf.below dw0;replace hsp:=hsp.below dw0;replace bT:=bT.trans (dw0.mono bT.size);replace bo:=bo.trans (dw0.mono bo.size);have hcl:=dotF_any (K:=KN) (hIg.sol.b.all.fl c0 (List.mem_of_getElem? hck.out) |> fun hh=>hh.below bT) ((hIg.sol.b.xo.fl hIg.sol.b.xf).below bT) hnf.out hxf.out hdb2.out;rw[hdq2.out] at hcl;go_at_call 85;refine (hcl).mono ?_;rintro e u1 ⟨vd,rfl,hvd,bu1⟩;replace hlf:=hlf.below bu1;replace hsp:=hsp.below bu1;replace bT:=bT.trans (bu1.mono bT.size);replace bo:=bo.trans (bu1.mono bo.size);clear hcl;go_wp2_with fail;refine hK.out _ _ (hS _ bo) (fun hHeld=>?_);clear hK K;(try simp only[lay]);refine wpAnyH_ready (rs:=[19,25]) (by kernel_rfl) (by simp) ?_;refine AllReadyH.cons rfl (fun K hK=>?_) ?_
         · go_simp;have hcl:=subF_any hlf hvd hlF.out hdF.out (by decide);go_at_call 34;refine (hcl).mono ?_;rintro e u2 ⟨vs,rfl,hvs,bu2⟩;replace hlf:=hlf.below bu2;replace hsp:=hsp.below bu2;replace hvd:=hvd.below bu2;replace bT:=bT.trans (bu2.mono bT.size);replace bo:=bo.trans (bu2.mono bo.size);clear hcl;go_wp2_with fail;refine hK.out _ _ (hS _ bo) (fun hHeld=>?_);clear hK K;(try simp only[lay]);refine wpAnyH_ready (rs:=[21,25]) (by kernel_rfl) (by simp) ?_;refine AllReadyH.cons rfl (fun K hK=>?_) ?_
           · go_simp;have hcl:=divF_any hvs hsp (hlF.out.sub hdF.out) hspF.out (by decide) hspn.out;go_at_call 73;refine (hcl).mono ?_;rintro e u3 ⟨vt,rfl,hvt,bu3⟩;replace hlf:=hlf.below bu3;replace hsp:=hsp.below bu3;replace hvd:=hvd.below bu3;replace hvs:=hvs.below bu3;replace bT:=bT.trans (bu3.mono bT.size);replace bo:=bo.trans (bu3.mono bo.size);clear hcl;obtain⟨gq,rfl,hgq0,hgq⟩:=hvt.frd;clear hvt;go_wp2_with fail;refine hK.out _ _ (hS _ bo) (fun hHeld=>?_);clear hK K;(try simp only[lay]);refine tkH 22 rfl hHeld ?_;refine tkH 23 rfl hHeld ?_;refine tkH 24 rfl hHeld ?_;refine rdH 25 rfl fun K hK=>?_;have hBl:=bT.size;obtain⟨u4,hu4,bu4,lu4,Bu4⟩:=boxed u3 #[.bool false,.slice none 0 0,.slice none 0 0] 28;replace hlf:=hlf.below bu4;replace hsp:=hsp.below bu4;replace hvd:=hvd.below bu4;replace hvs:=hvs.below bu4;replace hgq0:=hgq0.below bu4;replace bT:=bT.trans (bu4.mono bT.size);replace bo:=bo.trans (bu4.mono bo.size);have hA:=Bu4;clear Bu4;go_simp;refine hK.out _ _ (hS _ bo) (fun hHeld=>?_);clear hK K;(try simp only[lay]);refine rdH 26 rfl fun K hK=>?_;have hge:=hBl;obtain⟨u5,q0,q1,q2,f0,f1,f2,eu5,Su5,ou5⟩:=zero_store hA gq;have bT:=ou5.to_below bT hge bT.size;have bo:=ou5.to_below bo hge bo.size;have hgq1:=hgq0.only_blk hA (noDig3 _ _ _ _ _ _ _) ou5;go_simp;refine hK.out _ _ (hS _ bo) (fun hHeld=>?_);clear hK K;(try simp only[lay]);refine tkH 27 rfl hHeld ?_
             refine wpAnyH_done (by kernel_rfl) ?_ _;refine NoPanic.normal ?_;(try go_simp);clear hHeld;go_wp2_with fail;go_meet;exact⟨_,gq,rfl,Su5,hgq1,hgq.out.trans hft2.out,bT,hge⟩
           refine AllReadyH.cons rfl (fun K hK=>?_) ?_
           · have hBl:=bT.size;obtain⟨u6,hu6,bu6,lu6,Bu6⟩:=boxed u2 #[.bool false,.slice none 0 0,.slice none 0 0] 28;replace hlf:=hlf.below bu6;replace hsp:=hsp.below bu6;replace hvd:=hvd.below bu6;replace hvs:=hvs.below bu6;replace bT:=bT.trans (bu6.mono bT.size);replace bo:=bo.trans (bu6.mono bo.size);have hA:=Bu6;clear Bu6;go_simp;refine hK.out _ _ (hS _ bo) (fun hHeld=>?_);clear hK K;(try simp only[lay]);refine rdH 21 rfl fun K hK=>?_;go_simp;have hcl:=divF_any hvs hsp (hlF.out.sub hdF.out) hspF.out (by decide) hspn.out;go_at_call 73;refine (hcl).mono ?_;rintro e u7 ⟨vt,rfl,hvt,bu7⟩;replace hlf:=hlf.below bu7;replace hsp:=hsp.below bu7;replace hvd:=hvd.below bu7;replace hvs:=hvs.below bu7;replace hA:=hA.keep bu7;replace bT:=bT.trans (bu7.mono bT.size);replace bo:=bo.trans (bu7.mono bo.size);clear hcl;obtain⟨gq,rfl,hgq0,hgq⟩:=hvt.frd;clear hvt;go_wp2_with fail;refine hK.out _ _ (hS _ bo) (fun hHeld=>?_);clear hK K;(try simp only[lay]);refine tkH 22 rfl hHeld ?_;refine tkH 23 rfl hHeld ?_;refine tkH 24 rfl hHeld ?_;refine rdH 26 rfl fun K hK=>?_;have hge:=hBl;obtain⟨u8,q0,q1,q2,f0,f1,f2,eu8,Su8,ou8⟩:=zero_store hA gq;have bT:=ou8.to_below bT hge bT.size;have bo:=ou8.to_below bo hge bo.size;have hgq1:=hgq0.only_blk hA (noDig3 _ _ _ _ _ _ _) ou8;go_simp;refine hK.out _ _ (hS _ bo) (fun hHeld=>?_);clear hK K;(try simp only[lay]);refine tkH 27 rfl hHeld ?_
             refine wpAnyH_done (by kernel_rfl) ?_ _;refine NoPanic.normal ?_;(try go_simp);clear hHeld;go_wp2_with fail;go_meet;exact⟨_,gq,rfl,Su8,hgq1,hgq.out.trans hft2.out,bT,hge⟩
           exact AllReadyH.nil
         refine AllReadyH.cons rfl (fun K hK=>?_) ?_
         · have hBl:=bT.size;obtain⟨u9,hu9,bu9,lu9,Bu9⟩:=boxed u1 #[.bool false,.slice none 0 0,.slice none 0 0] 28;replace hlf:=hlf.below bu9;replace hsp:=hsp.below bu9;replace hvd:=hvd.below bu9;replace bT:=bT.trans (bu9.mono bT.size);replace bo:=bo.trans (bu9.mono bo.size);have hA:=Bu9;clear Bu9;go_simp;refine hK.out _ _ (hS _ bo) (fun hHeld=>?_);clear hK K;(try simp only[lay]);refine rdH 19 rfl fun K hK=>?_;go_simp;have hcl:=subF_any hlf hvd hlF.out hdF.out (by decide);go_at_call 34;refine (hcl).mono ?_;rintro e u10 ⟨vs,rfl,hvs,bu10⟩;replace hlf:=hlf.below bu10;replace hsp:=hsp.below bu10;replace hvd:=hvd.below bu10;replace hA:=hA.keep bu10;replace bT:=bT.trans (bu10.mono bT.size);replace bo:=bo.trans (bu10.mono bo.size);clear hcl;go_wp2_with fail;refine hK.out _ _ (hS _ bo) (fun hHeld=>?_);clear hK K;(try simp only[lay]);refine rdH 21 rfl fun K hK=>?_;go_simp;have hcl:=divF_any hvs hsp (hlF.out.sub hdF.out) hspF.out (by decide) hspn.out;go_at_call 73;refine (hcl).mono ?_;rintro e u11 ⟨vt,rfl,hvt,bu11⟩;replace hlf:=hlf.below bu11;replace hsp:=hsp.below bu11;replace hvd:=hvd.below bu11;replace hA:=hA.keep bu11;replace hvs:=hvs.below bu11;replace bT:=bT.trans (bu11.mono bT.size);replace bo:=bo.trans (bu11.mono bo.size);clear hcl;obtain⟨gq,rfl,hgq0,hgq⟩:=hvt.frd;clear hvt;go_wp2_with fail;refine hK.out _ _ (hS _ bo) (fun hHeld=>?_);clear hK K;(try simp only[lay])
           refine tkH 22 rfl hHeld ?_;refine tkH 23 rfl hHeld ?_;refine tkH 24 rfl hHeld ?_;refine rdH 26 rfl fun K hK=>?_;have hge:=hBl;obtain⟨u12,q0,q1,q2,f0,f1,f2,eu12,Su12,ou12⟩:=zero_store hA gq;have bT:=ou12.to_below bT hge bT.size;have bo:=ou12.to_below bo hge bo.size;have hgq1:=hgq0.only_blk hA (noDig3 _ _ _ _ _ _ _) ou12;go_simp;refine hK.out _ _ (hS _ bo) (fun hHeld=>?_);clear hK K;(try simp only[lay]);refine tkH 27 rfl hHeld ?_;refine wpAnyH_done (by kernel_rfl) ?_ _;refine NoPanic.normal ?_;(try go_simp);clear hHeld;go_wp2_with fail;go_meet;exact⟨_,gq,rfl,Su12,hgq1,hgq.out.trans hft2.out,bT,hge⟩
         exact AllReadyH.nil
       refine AllReadyH.cons rfl (fun K hK=>?_) ?_
       · have hBl:=bT.size;have dw12:Below wg.heap.size wg wg.drew:=(Below.refl _ _).drew;replace hlf:=hlf.below dw12;replace hsp:=hsp.below dw12;replace bT:=bT.trans (dw12.mono bT.size);replace bo:=bo.trans (dw12.mono bo.size);obtain⟨u13,hu13,bu13,lu13,Bu13⟩:=boxed wg.drew #[.bool false,.slice none 0 0,.slice none 0 0] 28;replace hlf:=hlf.below bu13;replace hsp:=hsp.below bu13;replace bT:=bT.trans (bu13.mono bT.size);replace bo:=bo.trans (bu13.mono bo.size);replace Bu13:Blk u13 wg.heap.size 28 #[.bool false,.slice none 0 0,.slice none 0 0]:=Bu13;have hA:=Bu13;clear Bu13;go_simp;refine hK.out _ _ (hS _ bo) (fun hHeld=>?_);clear hK K;(try simp only[lay]);refine rdH 18 rfl fun K hK=>?_;go_simp;have hcl:=dotF_any (K:=KN) (hIg.sol.b.all.fl c0 (List.mem_of_getElem? hck.out) |> fun hh=>hh.below bT) ((hIg.sol.b.xo.fl hIg.sol.b.xf).below bT) hnf.out hxf.out hdb2.out;rw[hdq2.out] at hcl;go_at_call 85;refine (hcl).mono ?_;rintro e u14 ⟨vd,rfl,hvd,bu14⟩;replace hlf:=hlf.below bu14;replace hsp:=hsp.below bu14;replace hA:=hA.keep bu14;replace bT:=bT.trans (bu14.mono bT.size);replace bo:=bo.trans (bu14.mono bo.size);clear hcl;go_wp2_with fail;refine hK.out _ _ (hS _ bo) (fun hHeld=>?_);clear hK K;(try simp only[lay]);refine rdH 19 rfl fun K hK=>?_;go_simp;have hcl:=subF_any hlf hvd hlF.out hdF.out (by decide);go_at_call 34;refine (hcl).mono ?_;rintro e u15 ⟨vs,rfl,hvs,bu15⟩;replace hlf:=hlf.below bu15
         replace hsp:=hsp.below bu15;replace hA:=hA.keep bu15;replace hvd:=hvd.below bu15;replace bT:=bT.trans (bu15.mono bT.size);replace bo:=bo.trans (bu15.mono bo.size);clear hcl;go_wp2_with fail;refine hK.out _ _ (hS _ bo) (fun hHeld=>?_);clear hK K;(try simp only[lay]);refine rdH 21 rfl fun K hK=>?_;go_simp;have hcl:=divF_any hvs hsp (hlF.out.sub hdF.out) hspF.out (by decide) hspn.out;go_at_call 73;refine (hcl).mono ?_;rintro e u16 ⟨vt,rfl,hvt,bu16⟩;replace hlf:=hlf.below bu16;replace hsp:=hsp.below bu16;replace hA:=hA.keep bu16;replace hvd:=hvd.below bu16;replace hvs:=hvs.below bu16;replace bT:=bT.trans (bu16.mono bT.size);replace bo:=bo.trans (bu16.mono bo.size);clear hcl;obtain⟨gq,rfl,hgq0,hgq⟩:=hvt.frd;clear hvt;go_wp2_with fail;refine hK.out _ _ (hS _ bo) (fun hHeld=>?_);clear hK K;(try simp only[lay]);refine tkH 22 rfl hHeld ?_;refine tkH 23 rfl hHeld ?_;refine tkH 24 rfl hHeld ?_;refine rdH 26 rfl fun K hK=>?_;have hge:=hBl;obtain⟨u17,q0,q1,q2,f0,f1,f2,eu17,Su17,ou17⟩:=zero_store hA gq;have bT:=ou17.to_below bT hge bT.size;have bo:=ou17.to_below bo hge bo.size;have hgq1:=hgq0.only_blk hA (noDig3 _ _ _ _ _ _ _) ou17;go_simp;refine hK.out _ _ (hS _ bo) (fun hHeld=>?_);clear hK K;(try simp only[lay]);refine tkH 27 rfl hHeld ?_;refine wpAnyH_done (by kernel_rfl) ?_ _;refine NoPanic.normal ?_;(try go_simp);clear hHeld;go_wp2_with fail;go_meet;exact⟨_,gq,rfl,Su17,hgq1,hgq.out.trans hft2.out,bT,hge⟩
       exact AllReadyH.nil
      case rest =>
       as_aux_lemma =>
       obtain⟨g9,td,rfl,hT9,ht9,htq9,b9,hgw9⟩:=hcut;obtain⟨w9,hw9⟩:∃ w9,w9=wc:=⟨_,rfl⟩;subst hw9;have hTs:=hTg.below b9;have b9l:=bcg.trans (b9.mono bcg.size);have hlsz:=Lib.hid (show wl.heap.size≤wl.heap.size from Nat.le_refl _);obtain⟨y0,y1,y2⟩:=hT9.cells;obtain⟨z0,z1,z2⟩:=hTs.cells;clear hIg hIc hLc hfzc hfrc hflc hSg hsp hlf hTg
       cases o with
       | none =>
        obtain⟨wz,q0,q1,q2,f0,f1,f2,ez,hZ,oz⟩:=hTs.store td;have htz:=Lib.hid (show FV wz.drew td.v td.q from (ht9.onlyV hTs oz).below (Below.refl _ _).drew);have bz:=(oz.to_below b9l (Nat.le_refl _) b9l.size).drew;clear hTs hT9 ht9 oz;go_wp2
        go_region
        go_wp2;go_meet;exact⟨true,td,rfl,hZ,fun _=>⟨⟨hpos.out,.inl (by first | trivial | rfl)⟩,htz.out,htq9.out⟩,fun h=>(by cases h),bz⟩
       | some j =>
        have hd9:=Lib.hid (show FV w9 d.v d.q∧d.q=T from ⟨(hdv.out (by simp)).1.below b9l,(hdv.out (by simp)).2⟩);obtain⟨cc,hcc⟩:∃ s',Hid (cmpR td.q d.q=s'):=⟨_,rfl⟩
        have hcm:=cmpF_any ht9 hd9.out.1 (by rw[htq9.out];exact hftF.out) (show Fits (KN+87381) d.q by
         rw[hd9.out.2];exact lim_fits (by decide) (by decide) hok.out.mults (fun q hq=>hdf.out.1 q (List.mem_cons_of_mem _ (by rw[←hval.out.2.2];exact hq))) rs.length j T hot.out) (by decide) (by decide)
        rw[hcc.out] at hcm;have hoi:decide (oi (some j)<0)=false:=decide_eq_false (by show ¬ ((j:Nat):Int)<0;omega);have hoi2:¬ oi (some j)<0:=by show ¬ ((j:Nat):Int)<0;omega
        go_wp2_with fail;refine hcm.mono ?_;rintro e w10 ⟨rfl,b10⟩;clear hcm y0 y1 y2 z0 z1 z2;have hT10:=hT9.below b10;have hTs10:=hTs.below b10;have ht10:=ht9.below b10;have b10l:=b9l.trans (b10.mono b9l.size);have hd10:=Lib.hid (show FV w10 d.v d.q∧d.q=T from ⟨hd9.out.1.below b10,hd9.out.2⟩);clear hTs hT9 ht9;obtain⟨y0,y1,y2⟩:=hT10.cells
        by_cases hc9:cc≤0
        · have hd1:decide (cc≤0)=true:=decide_eq_true hc9
          have hle:=Lib.hid (show ft≤T from Rat.not_lt.1 fun hh=>by
           have h8:0<cmpR td.q d.q:=cmpR_pos.2 (by rw[htq9.out,hd10.out.2];exact hh);rw[hcc.out] at h8;omega)
          obtain⟨wz,q0,q1,q2,f0,f1,f2,ez,hZ,oz⟩:=hTs10.store td;have htz:=Lib.hid (show FV wz.drew td.v td.q from (ht10.onlyV hTs10 oz).below (Below.refl _ _).drew);have bz:=(oz.to_below b10l (Nat.le_refl _) b10l.size).drew;clear hTs10 hT10 ht10 oz;go_wp2
          go_region
          go_wp2;go_meet;exact⟨true,td,rfl,hZ,fun _=>⟨⟨hpos.out,.inr hle.out⟩,htz.out,htq9.out⟩,fun h=>(by cases h),bz⟩
        · have hd1:decide (cc≤0)=false:=decide_eq_false hc9
          have hgt:=Lib.hid (show ¬ (0<sp∧(some j=none∨ft≤T)) from fun hh=>hc9 (by
           rcases hh.2 with h8 | h8
           · cases h8
           · have h7:¬ 0<cmpR td.q d.q:=fun h6=>by
              have h5:=cmpR_pos.1 h6;rw[htq9.out,hd10.out.2] at h5;exact absurd h8 (Rat.not_le.2 h5)
             rw[hcc.out] at h7;omega))
          clear hT10 ht10;go_wp2;go_meet;exact⟨false,d,rfl,hTs10,fun h=>(by cases h),fun _=>⟨hgt.out,fun _=>hd10.out⟩,b10l⟩
    · have hd0:decide (0<sg)=false:=decide_eq_false hs0;have hneg:=Lib.hid (show ¬ 0<sp from fun hh=>hs0 (by rw[←hsg.out];exact cmpR_pos.2 hh));have hdvg:=Lib.hid (show o≠none→FV wg d.v d.q∧d.q=T from fun ho=>⟨(hdv.out ho).1.below bcg,(hdv.out ho).2⟩);clear hIg hIc hLc hfzc hfrc hflc hSg hsp;go_wp2;go_meet;exact⟨false,d,rfl,hTg,fun h=>(by cases h),fun _=>⟨fun hh=>hneg.out hh.1,hdvg.out⟩,bcg⟩
   case rest =>
    obtain⟨full,sd,rfl,hVs,hF1,hF2,bx⟩:=hcut;obtain⟨wx,hwx⟩:∃ wx,wx=wc:=⟨_,rfl⟩;subst hwx;have hIx:=hIc.below hBc bx;have hLx:=hLc.below bx;have hfzx:=hfzc.below bx;have hfrx:=hfrc.below bx;have hflx:=hflc.below bx;have hBx:B≤wx.heap.size:=Nat.le_trans hBc bx.size;clear hIg hIc hLc hfzc hfrc hflc hSg hsp hTg;go_upto_region 12 with fail
    go_cut [89] from 26 to 138 (fun v wy=>v=.bool (stopB o full)∧wy=wx)
    case first =>
     cases o with
     | none =>
      have hoi:decide (oi none<0)=true:=by decide
      cases full with
      | true=>go_wp2;go_meet;exact⟨rfl,rfl⟩
      | false=>go_wp2;go_meet;exact⟨rfl,rfl⟩
     | some j =>
      have hoi:decide (oi (some j)<0)=false:=decide_eq_false (by show ¬ ((j:Nat):Int)<0;omega);have hoi2:¬ oi (some j)<0:=by show ¬ ((j:Nat):Int)<0;omega
      cases full with
      | true=>go_wp2;go_meet;exact⟨rfl,rfl⟩
      | false=>go_wp2;go_meet;exact⟨rfl,rfl⟩
    case rest =>
     obtain⟨rfl,hwy⟩:=hcut;subst hwy
     by_cases hstop:stopB o full=true
     · rw[hstop]
       have hrn:=Lib.hid (show r=none by
        cases o with
        | some j=>cases hstop
        | none =>
         cases full with
         | true=>cases hstop
         | false =>
          have h1:=hres.out;have h2:=(hF2.out rfl).1
          have e1:limK s1.st.mults rates rates.length=(none,T):=by
           rw[←hot.out,←hval.out.2.2,List.length_map];rfl
          rw[e1,hspq.out] at h1
          rw[if_neg (by
           intro hh;exact h2 ⟨hh.1,.inl rfl⟩)] at h1
          exact h1)
       obtain⟨w9,f9,e9,hS9,o9⟩:=hIx.sol.setEnt hE.out (.pointer none);have b9:=Lib.hid (o9.to_below hIx.bel hB1'.out hBx);have hc12:=hIx.sol.b.cells.2.2.2.2.2.2.2.2.2.2.2.2;have hcb:=Blk.cell hIx.box 0;go_wp2;rw[Exit.noGoto_ret];refine leaves_cons (f:=86) (args:=#[.pointer (some ⟨w.heap.size,0,none⟩)]) (by simp) (by simp[go_sem]) ?_;refine (leave_any (u:=.returning) hcb hc12 f9).mono ?_;rintro e u' w'' ⟨rfl,rfl,rfl⟩;rw[e9];exact⟨_,results_tmp rfl _ _ _,s1,by rw[hrn.out];rfl,hS9,fun t ht=>(by rw[hrn.out] at ht;cases ht),b9.out⟩
     · have hstop2:stopB o full=false:=by simpa using hstop
       rw[hstop2];obtain⟨wX,hwX⟩:∃ x,x=wc:=⟨_,rfl⟩;subst hwX
       have hsd:FV wX sd.v sd.q∧Fits 190000000 sd.q:=by
        cases full with
        | true=>exact⟨(hF1.out rfl).2.1,by rw[(hF1.out rfl).2.2];exact hftF.out⟩
        | false =>
         cases o with
         | none=>cases hstop2
         | some j =>
          refine⟨((hF2.out rfl).2 (by simp)).1,?_⟩;rw[((hF2.out rfl).2 (by simp)).2];exact (lim_fits (by decide) (by decide) hok.out.mults (fun q hq=>hdf.out.1 q (List.mem_cons_of_mem _ (by rw[←hval.out.2.2];exact hq))) rs.length j T hot.out).mono (by decide)
       have hsdF:=Lib.hid hsd.2;have hsdv:=hsd.1;have hWw:=Lib.hid (show ∀ g,wr.heap.size≤g→¬ S.W s1.vm g from fun g hg hW=>by have:=hwl.out g hW;omega);have hmv:=move_any hIx.sol hE.out hfzx (fun a e=>hWw.out _ (hZn'.out a e)) (by rw[hzl.out];have h1:=hok.out.lx;have h2:(s1.dx.map FrD.q).length=S.n:=h1;rw[List.length_map] at h2;exact h2.symm) hfrx (fun a e=>hWw.out _ (hRn'.out a e)) hrl.out.symm hflx hsdv hok.out.x (by rw[hval.out.1];exact hdf.out.2) hok.out.lev (by rw[hval.out.2.1];exact hdf.out.1 lev List.mem_cons_self) hsdF.out hok.out.mults (fun q hq=>hdf.out.1 q (List.mem_cons_of_mem _ (by rw[←hval.out.2.2];exact hq)));have hb1:=Blk.cell hIx.box 0;obtain⟨x0,x1,x2⟩:=hLx.cells;obtain⟨y0,y1,y2⟩:=hVs.cells;clear hsd hstop;go_wp2_with fail;refine hmv.mono ?_;rintro e wm ⟨s2,rfl,hM,hst2,hun2,htr⟩;clear hmv hb1 x0 x1 x2 y0 y1 y2 hfzx hfrx hflx hLx;have hwrl:=Lib.hid (show wr.heap.size≤wl.heap.size by have h1:=ba.size;have h2:=bb.size;have h3:=bc.size;omega);have hVm:VarQ wm wl.heap.size sd:=hVs.trn htr (hWw.out _ hwrl.out);have hsdm:FV wm sd.v sd.q:=hsdv.trn htr
       have hWm:=Lib.hid (show ¬ S.W s1.vm w3.heap.size from fun hW=>by
        have h1:=hgm.out;have h2:=hgsR'.out;have h3:=hgxR'.out;have h4:=hRb.out
        rcases hW with e | e | e
        · omega
        · omega
        · exact hIx.ne _ e rfl)
       have hWb:=Lib.hid (show ¬ S.W s1.vm w.heap.size from fun hW=>by
        have h2:=hgsR'.out;have h3:=hgxR'.out;have h4:=hRb.out
        rcases hW with e | e | e
        · omega
        · omega
        · obtain⟨cur,k1,k2⟩:=hIx.sol.mul.2 _ e;exact k1.ne_type hIx.box (by decide) rfl)
       have hIm:SatI S aS k w.heap.size w3.heap.size B w s2 md wm:=⟨hM,hIx.box.trn htr hWb.out,hIx.var.trn htr hWm.out,hIx.fv.trn htr,fun g hg=>hIx.ne g (by rw[←hun2.out.2.2];exact hg),htr.to_below hIx.bel hBx fun g hW=>by
        rcases hW with e | e | e
        · rw[e];exact hB1'.out
        · rw[e];exact hB2'.out
        · exact Nat.le_trans hBR.out (hvmR.out g e)⟩
       have hBm:B≤wm.heap.size:=Nat.le_trans hBx htr.size;have hb1:=Blk.cell hIm.box 0;obtain⟨x0,x1,x2⟩:=hIm.var.cells;obtain⟨y0,y1,y2⟩:=hVm.cells;have hadd:=addF_any hIm.fv hsdm hmF.out hsdF.out (by decide);clear hIx hVs hsdv htr;go_wp2_with fail;refine hadd.mono ?_;rintro e wn ⟨vn,rfl,hvn,bn⟩;obtain⟨m2,rfl,hm2,hm2q⟩:=hvn.frd;clear hadd hb1 x0 x1 x2 y0 y1 y2 hvn;have hIn:=hIm.below hBm bn;have hVn:=hVm.below bn;have hBn:B≤wn.heap.size:=Nat.le_trans hBm bn.size;obtain⟨wo,q0,q1,q2,f0,f1,f2,eo,hVo,oo⟩:=hIn.var.store m2;have hIo:=hIn.put oo hVo hm2 (by have:=hgm.out;have:=hRb.out;omega) (by have:=hgm.out;have:=hRb.out;have:=hBR.out;omega) (by have:=hgm.out;omega) hBn;have hBo:B≤wo.heap.size:=Nat.le_trans hBn oo.size;clear hIm hVm hVn hm2 hVo oo hIn hsdm
       cases full with
       | true =>
        as_aux_lemma =>
        have hst3:s2.st=moveS s1.st z lev rates ft:=by
         obtain⟨e1,e2,e3⟩:=hval.out;have h1:=hst2.out;rw[e1,e2,e3,(hF1.out rfl).2.2] at h1;exact h1
        have hrS:=Lib.hid (show r=some ⟨s2.dx.map FrD.q,s2.lv.q,s2.ia++[k],(s2.dm++[m2]).map FrD.q⟩ by
         have h1:=hres.out
         have e1:limK s1.st.mults rates rates.length=(o,T):=by
          rw[←hot.out,←hval.out.2.2,List.length_map];rfl
         have e4:fullT (S.cs.map CoD.con) k s1.st.x z=ft:=hft.out;rw[e1,hspq.out,e4,if_pos (hF1.out rfl).1,←hst3] at h1;rw[h1,List.map_append]
         show some (St.mk _ _ (s1.ia++[k]) (_++[md.q+ft]))=some (St.mk _ _ (s2.ia++[k]) (_++[m2.q]))
         rw[hm2q.out,(hF1.out rfl).2.2,hun2.out.2.1];rfl)
        have hia:=Lib.hid (show s2.ia.length=s1.ia.length by rw[hun2.out.2.1])
        have hdmn:=Lib.hid (show s2.dm.length=s1.ia.length by
         have h1:=congrArg (fun t:St=>t.mults.length) hst3;have h2:(s2.dm.map FrD.q).length=(List.zipWith (fun a b=>a-ft*b) (s1.dm.map FrD.q) rates).length:=h1
         have h4:s1.dm.length=s1.ia.length:=by
          have h5:(s1.dm.map FrD.q).length=s1.ia.length:=hok.out.lm
          rwa [List.length_map] at h5
         have h6:rates.length=s1.ia.length:=hdl.out.2;rw[List.length_map,List.length_zipWith,List.length_map,h6,h4,Nat.min_self] at h2;exact h2)
        clear hst3;go_wp2;go_upto_region 19 with fail;have bT:=Below.refl wo.heap.size wo;have hbx:=hIo.box;have hsl:=hIo.sol;have dw0:Below wo.heap.size wo wo.drew:=(Below.refl _ _).drew;replace hbx:=hbx.keep dw0;replace hsl:=hsl.below dw0;replace bT:=bT.trans (dw0.mono bT.size);clear dw0;go_wp2_with fail;refine wp_region_noPanic ?_;refine wp_region_wait (J:=[10]) (S:=fun w'=>w'.cell? ⟨w.heap.size,0,none⟩=some (.pointer (some ⟨S.gs,0,none⟩))∧w'.cell? ⟨S.gs,10,none⟩=some s2.va) (by kernel_rfl) (⟨Blk.cell hbx 0,hsl.b.cells.2.2.2.2.2.2.2.2.2.2.1⟩) (fun hHeld=>?_);refine tkW 0 rfl hHeld ?_;refine tkW 1 rfl hHeld ?_;refine tkW 2 rfl hHeld ?_;refine tkW 3 rfl hHeld ?_;refine tkW 4 rfl hHeld ?_;refine tkW 5 rfl hHeld ?_;refine rdW 6 rfl fun K hK=>?_;have hIq:SatI S aS k w.heap.size w3.heap.size B w s2 m2 wo.drew:=hIo.below hBo bT;obtain⟨A6,n6,c6,w6,w7,hr6,ka1,ka2,kf,e7,hI7⟩:=hIq.pushA (by rw[hia.out];omega) hB1'.out hBR.out (Nat.le_trans hBo bT.size);clear hIq;obtain⟨u1,hu1,bu1,lu1,Bu1⟩:=boxed wo.drew #[.int .i64 (k:Int)] 3;replace Bu1:Blk u1 wo.heap.size 3 #[.int .i64 (k:Int)]:=Bu1;replace hbx:=hbx.keep bu1;replace hsl:=hsl.below bu1;replace bT:=bT.trans (bu1.mono bT.size);rw[hu1] at hr6;go_simp;refine hK.out _ _ (⟨Blk.cell hbx 0,hsl.b.cells.2.2.2.2.2.2.2.2.2.2.1⟩) (fun hHeld=>?_);clear hK K;(try simp only[lay]);refine rdW 7 rfl fun K hK=>?_
        refine step_appR (T:=97) rfl (.tmp 143) (.tmp 145) rfl rfl rfl rfl hr6 ?_;clear hr6 hbx hsl bT;refine hK.out _ _ (⟨ka1,ka2⟩) (fun hHeld=>?_);clear hK K;(try simp only[lay]);refine tkW 8 rfl hHeld ?_;refine tkW 9 rfl hHeld ?_;refine wpAnyW_ready (rs:=[10]) (by kernel_rfl) (by simp) ?_;refine AllReadyW.last rfl (by decide) (fun K hK=>?_) AllReadyW.nil;go_simp;refine hK.out _ _ ?_;clear hK K;(try clear hHeld);(try simp only[lay]);refine wpAnyW_done (by kernel_rfl) ?_ _;refine NoPanic.normal ?_;(try go_simp);(try clear hHeld);go_wp2;have hB7:B≤w7.heap.size:=Nat.le_trans hBR.out hI7.sol.b.hR;go_upto_region 20 with fail;have bT:=Below.refl w7.heap.size w7;have hbx:=hI7.box;have hsl:=hI7.sol;have hvr:=hI7.var;have dw0:Below w7.heap.size w7 w7.drew:=(Below.refl _ _).drew;replace hbx:=hbx.keep dw0;replace hsl:=hsl.below dw0;replace hvr:=hvr.below dw0;replace bT:=bT.trans (dw0.mono bT.size);clear dw0;go_wp2_with fail;refine wp_region_noPanic ?_;refine wp_region_wait (J:=[10]) (S:=fun w'=>w'.cell? ⟨w.heap.size,0,none⟩=some (.pointer (some ⟨S.gs,0,none⟩))∧w'.cell? ⟨S.gs,11,none⟩=some s2.vm∧w'.cell? ⟨w3.heap.size,0,none⟩=some (.bool m2.neg)∧w'.cell? ⟨w3.heap.size,1,none⟩=some (.slice m2.a m2.la.length m2.ca)∧w'.cell? ⟨w3.heap.size,2,none⟩=some (.slice m2.b m2.lb.length m2.cb)) (by kernel_rfl) (⟨Blk.cell hbx 0,hsl.b.cells.2.2.2.2.2.2.2.2.2.2.2.1,hvr.cells.1,hvr.cells.2.1,hvr.cells.2.2⟩) (fun hHeld=>?_)
        refine tkW 0 rfl hHeld ?_;refine tkW 1 rfl hHeld ?_;refine tkW 2 rfl hHeld ?_;refine tkW 3 rfl hHeld ?_;refine tkW 4 rfl hHeld ?_;refine tkW 5 rfl hHeld ?_;refine rdW 6 rfl fun K hK=>?_;have hIq:=hI7.below hB7 bT;obtain⟨A8,n8,c8,w8,w9,hr8,kb1,kb2,kb3,kg,e9,hS9,hb9,hbel9,hB9⟩:=hIq.pushM (by show s2.dm.length≤1000;rw[hdmn.out];omega) hB1'.out hBR.out (Nat.le_trans hB7 bT.size);clear hIq;obtain⟨u1,hu1,bu1,lu1,Bu1⟩:=boxed w7.drew #[.bool m2.neg,.slice m2.a m2.la.length m2.ca,.slice m2.b m2.lb.length m2.cb] 28;replace Bu1:Blk u1 w7.heap.size 28 #[.bool m2.neg,.slice m2.a m2.la.length m2.ca,.slice m2.b m2.lb.length m2.cb]:=Bu1;replace hbx:=hbx.keep bu1;replace hsl:=hsl.below bu1;replace hvr:=hvr.below bu1;replace bT:=bT.trans (bu1.mono bT.size);rw[hu1] at hr8;go_simp;refine hK.out _ _ (⟨Blk.cell hbx 0,hsl.b.cells.2.2.2.2.2.2.2.2.2.2.2.1,hvr.cells.1,hvr.cells.2.1,hvr.cells.2.2⟩) (fun hHeld=>?_);clear hK K;(try simp only[lay]);refine rdW 7 rfl fun K hK=>?_;refine step_appR (T:=22) rfl (.tmp 153) (.tmp 155) rfl rfl rfl rfl hr8 ?_;clear hr8 hbx hsl hvr bT;refine hK.out _ _ (⟨kb1,kb2,kb3.cells.1,kb3.cells.2.1,kb3.cells.2.2⟩) (fun hHeld=>?_);clear hK K;(try simp only[lay]);refine tkW 8 rfl hHeld ?_;refine tkW 9 rfl hHeld ?_;refine wpAnyW_ready (rs:=[10]) (by kernel_rfl) (by simp) ?_;refine AllReadyW.last rfl (by decide) (fun K hK=>?_) AllReadyW.nil;go_simp;refine hK.out _ _ ?_
        clear hK K;(try clear hHeld);(try simp only[lay]);refine wpAnyW_done (by kernel_rfl) ?_ _;refine NoPanic.normal ?_;(try go_simp);(try clear hHeld);obtain⟨wE,fE,eE,hSE,oE⟩:=hS9.setEnt hE.out (.pointer none);have bE:=Lib.hid (oE.to_below hbel9 hB1'.out hB9);have hc12:=hS9.b.cells.2.2.2.2.2.2.2.2.2.2.2.2;have hcb:=Blk.cell hb9 0;clear kb1 kb2 kb3 kg;go_wp2
        try rw[Exit.noGoto_ret]
        refine leaves_cons (f:=86) (args:=#[.pointer (some ⟨w.heap.size,0,none⟩)]) (by simp) (by simp[go_sem]) ?_;refine (leave_any (u:=.returning) hcb hc12 fE).mono ?_;rintro e u' w'' ⟨rfl,rfl,rfl⟩;rw[eE];exact⟨_,results_tmp rfl _ _ _,_,by rw[hrS.out];rfl,hSE,fun t ht=>(by rw[hrS.out] at ht;injection ht),bE.out⟩
       | false =>
        cases o with
        | none=>cases hstop2
        | some j =>
         as_aux_lemma =>
         rw[show oi (some j)=((j:Nat):Int) from rfl];have hia:=Lib.hid (show s2.ia.length=s1.ia.length by rw[hun2.out.2.1])
         have hlimj:=Lib.hid (show j<rates.length by
          have h1:=limK_ok (s1.dm.map FrD.q) (rs.map FrD.q) rs.length;rw[hot.out] at h1;have h2:j<rs.length:=h1.1;rw[←hval.out.2.2,List.length_map];exact h2)
         have hjl:=Lib.hid (show j<s2.ia.length by rw[hia.out];have h1:=hlimj.out;have h2:rates.length=s1.ia.length:=hdl.out.2;omega);have hjm:=Lib.hid (show s2.ia.length≤7 by rw[hia.out];exact hal);obtain⟨gv,cv,hev0,hcv1,hcv2⟩:=hIo.formA hjl.out;have hev:=Lib.hid hev0;have hjn:j<s2.ia.length:=hjl.out;have hj7:j<7:=by have:=hjm.out;omega
         have hji:(j:Int)≤(cv:Int):=by omega
         obtain⟨j1,hj1e⟩:∃ j1:Nat,Hid (j1=j+1):=⟨_,rfl⟩;have hwr:IntKind.i64.wrap ((j:Int)+1)=(j1:Int):=by have h1:=hj1e.out;rw[IntKind.wrap_i64];omega
         have hj1:j1≤s2.ia.length:=by have h1:=hj1e.out;omega
         have hj1i:(j1:Int)≤(s2.ia.length:Int):=by omega
         have hj1c:j1≤cv:=by omega
         clear hev0;have hgv0:=Lib.hid (show 0≤gv from Nat.zero_le _);go_wp2;go_upto_region 16 with fail
         go_cut [] from 26 to 138 (fun wx=>∃ va:Value,SatI S aS k w.heap.size w3.heap.size B w { s2 with va:=va,ia:=s2.ia.take j++s2.ia.drop (j+1) } m2 wx)
         case first =>
          by_cases hcj:cv=j1
          · as_aux_lemma =>
            have hcj2:=hcj.symm;clear hcj;subst hcj2;have bT:=Below.refl wo.heap.size wo;have hbx:=hIo.box;have hsl:=hIo.sol;have dw0:Below wo.heap.size wo wo.drew:=(Below.refl _ _).drew;replace hbx:=hbx.keep dw0;replace hsl:=hsl.below dw0;replace bT:=bT.trans (dw0.mono bT.size);clear dw0;go_wp2_with fail;refine wp_region_noPanic ?_;refine wp_region_wait (J:=[19]) (S:=fun w'=>w'.cell? ⟨w.heap.size,0,none⟩=some (.pointer (some ⟨S.gs,0,none⟩))∧w'.cell? ⟨S.gs,10,none⟩=some (.slice (some ⟨gv,0,none⟩) s2.ia.length j1)) (by kernel_rfl) (⟨Blk.cell hbx 0,(hsl.b.cells.2.2.2.2.2.2.2.2.2.2.1).trans (by rw[←hev.out])⟩) (fun hHeld=>?_);refine tkW 0 rfl hHeld ?_;refine tkW 2 rfl hHeld ?_;refine tkW 3 rfl hHeld ?_;refine tkW 4 rfl hHeld ?_;refine tkW 5 rfl hHeld ?_;refine tkW 6 rfl hHeld ?_;refine tkW 7 rfl hHeld ?_;refine tkW 9 rfl hHeld ?_;refine tkW 10 rfl hHeld ?_;refine tkW 11 rfl hHeld ?_;refine tkW 12 rfl hHeld ?_;refine tkW 13 rfl hHeld ?_;refine tkW 14 rfl hHeld ?_;refine tkW 15 rfl hHeld ?_;refine rdW 1 rfl fun K hK=>?_;have hIq:=hIo.below hBo bT;obtain⟨v1,x1,A6,n6,c6,x2,x9,hr1,ka1,ka2,hr2,kb1,kb2,kf,e7,hI8⟩:=hIq.cutA (j:=j) (g:=gv) (c:=j1) hjl.out hev.out (by have:=hjm.out;omega) hB1'.out (Nat.le_trans hBo bT.size) ⟨gv,0,none⟩ (.inr ⟨by have h1:=hj1e.out;omega,rfl⟩) j1 (0);rw[show s2.ia.length-(j+1)=0 by have h1:=hj1e.out;omega] at hr2;clear hIq
            obtain⟨u1,hu1,bu1,lu1,Bu1⟩:=boxed wo.drew #[] 3;replace Bu1:Blk u1 wo.heap.size 3 #[]:=Bu1;replace hbx:=hbx.keep bu1;replace hsl:=hsl.below bu1;replace bT:=bT.trans (bu1.mono bT.size);rw[hu1] at hr1;go_simp;refine hK.out _ _ (⟨Blk.cell hbx 0,(hsl.b.cells.2.2.2.2.2.2.2.2.2.2.1).trans (by rw[←hev.out])⟩) (fun hHeld=>?_);clear hK K;(try simp only[lay]);refine rdW 8 rfl fun K hK=>?_;refine step_appR (T:=97) rfl (.tmp 100) (.tmp 106) rfl rfl rfl rfl hr1 ?_;clear hr1 hbx hsl bT;refine hK.out _ _ (⟨ka1,ka2.trans (by rw[←hev.out])⟩) (fun hHeld=>?_);clear hK K;(try simp only[lay]);refine rdW 16 rfl fun K hK=>?_;refine step_appR (T:=97) rfl (.tmp 107) (.tmp 114) rfl rfl rfl rfl hr2 ?_;clear hr2;refine hK.out _ _ (⟨kb1,kb2.trans (by rw[←hev.out])⟩) (fun hHeld=>?_);clear hK K;(try simp only[lay]);refine tkW 17 rfl hHeld ?_;refine tkW 18 rfl hHeld ?_;refine wpAnyW_ready (rs:=[19]) (by kernel_rfl) (by simp) ?_;refine AllReadyW.last rfl (by decide) (fun K hK=>?_) AllReadyW.nil;go_simp;refine hK.out _ _ ?_;clear hK K;(try clear hHeld);(try simp only[lay]);refine wpAnyW_done (by kernel_rfl) ?_ _;refine NoPanic.normal ?_;(try go_simp);(try clear hHeld);go_wp2_with fail;go_meet;exact⟨_,hI8⟩
          · as_aux_lemma =>
            have bT:=Below.refl wo.heap.size wo;have hbx:=hIo.box;have hsl:=hIo.sol;have dw0:Below wo.heap.size wo wo.drew:=(Below.refl _ _).drew;replace hbx:=hbx.keep dw0;replace hsl:=hsl.below dw0;replace bT:=bT.trans (dw0.mono bT.size);clear dw0;go_wp2_with fail;refine wp_region_noPanic ?_;refine wp_region_wait (J:=[19]) (S:=fun w'=>w'.cell? ⟨w.heap.size,0,none⟩=some (.pointer (some ⟨S.gs,0,none⟩))∧w'.cell? ⟨S.gs,10,none⟩=some (.slice (some ⟨gv,0,none⟩) s2.ia.length cv)) (by kernel_rfl) (⟨Blk.cell hbx 0,(hsl.b.cells.2.2.2.2.2.2.2.2.2.2.1).trans (by rw[←hev.out])⟩) (fun hHeld=>?_);refine tkW 0 rfl hHeld ?_;refine tkW 2 rfl hHeld ?_;refine tkW 3 rfl hHeld ?_;refine tkW 4 rfl hHeld ?_;refine tkW 5 rfl hHeld ?_;refine tkW 6 rfl hHeld ?_;refine tkW 7 rfl hHeld ?_;refine tkW 9 rfl hHeld ?_;refine tkW 10 rfl hHeld ?_;refine tkW 11 rfl hHeld ?_;refine tkW 12 rfl hHeld ?_;refine tkW 13 rfl hHeld ?_;refine tkW 14 rfl hHeld ?_;refine tkW 15 rfl hHeld ?_;refine rdW 1 rfl fun K hK=>?_;have hIq:=hIo.below hBo bT;obtain⟨v1,x1,A6,n6,c6,x2,x9,hr1,ka1,ka2,hr2,kb1,kb2,kf,e7,hI8⟩:=hIq.cutA (j:=j) (g:=gv) (c:=cv) hjl.out hev.out (by have:=hjm.out;omega) hB1'.out (Nat.le_trans hBo bT.size) ⟨gv,j1,none⟩ (.inl (by rw[hj1e.out])) cv (cv-j1);rw[←hj1e.out] at hr2;clear hIq;obtain⟨u1,hu1,bu1,lu1,Bu1⟩:=boxed wo.drew #[] 3;replace Bu1:Blk u1 wo.heap.size 3 #[]:=Bu1
            replace hbx:=hbx.keep bu1;replace hsl:=hsl.below bu1;replace bT:=bT.trans (bu1.mono bT.size);rw[hu1] at hr1;go_simp;refine hK.out _ _ (⟨Blk.cell hbx 0,(hsl.b.cells.2.2.2.2.2.2.2.2.2.2.1).trans (by rw[←hev.out])⟩) (fun hHeld=>?_);clear hK K;(try simp only[lay]);refine rdW 8 rfl fun K hK=>?_;refine step_appR (T:=97) rfl (.tmp 100) (.tmp 106) rfl rfl rfl rfl hr1 ?_;clear hr1 hbx hsl bT;refine hK.out _ _ (⟨ka1,ka2.trans (by rw[←hev.out])⟩) (fun hHeld=>?_);clear hK K;(try simp only[lay]);refine rdW 16 rfl fun K hK=>?_;refine step_appR (T:=97) rfl (.tmp 107) (.tmp 114) rfl rfl rfl rfl hr2 ?_;clear hr2;refine hK.out _ _ (⟨kb1,kb2.trans (by rw[←hev.out])⟩) (fun hHeld=>?_);clear hK K;(try simp only[lay]);refine tkW 17 rfl hHeld ?_;refine tkW 18 rfl hHeld ?_;refine wpAnyW_ready (rs:=[19]) (by kernel_rfl) (by simp) ?_;refine AllReadyW.last rfl (by decide) (fun K hK=>?_) AllReadyW.nil;go_simp;refine hK.out _ _ ?_;clear hK K;(try clear hHeld);(try simp only[lay]);refine wpAnyW_done (by kernel_rfl) ?_ _;refine NoPanic.normal ?_;(try go_simp);(try clear hHeld);go_wp2_with fail;go_meet;exact⟨_,hI8⟩
         case rest =>
          obtain⟨va3,hI8⟩:=hcut;obtain⟨x9,hx9⟩:∃ x9,x9=wc:=⟨_,rfl⟩;subst hx9;clear hIo hji hj1 hj1i hj1c hcv1 hcv2 hjn hev;obtain⟨s3,hs3⟩:∃ s3:Sm,Hid (s3={ s2 with va:=va3,ia:=s2.ia.take j++s2.ia.drop (j+1) }):=⟨_,rfl⟩;rw[←hs3.out] at hI8
          have hdmn:=Lib.hid (show s3.dm.length=s1.ia.length by
           rw[hs3.out];have h1:=congrArg (fun t:St=>t.mults.length) hst2.out;have h2:(s2.dm.map FrD.q).length=(List.zipWith (fun a b=>a-sd.q*b) (s1.dm.map FrD.q) (rs.map FrD.q)).length:=h1
           have h4:s1.dm.length=s1.ia.length:=by
            have h5:(s1.dm.map FrD.q).length=s1.ia.length:=hok.out.lm
            rwa [List.length_map] at h5
           rw[List.length_map,List.length_zipWith,List.length_map,List.length_map,←hrl.out,h4,Nat.min_self] at h2;exact h2)
          have hjlM:=Lib.hid (show j<s3.dm.length by rw[hdmn.out,←hia.out];exact hjl.out);have hjmM:=Lib.hid (show s3.dm.length≤7 by rw[hdmn.out];exact hal);obtain⟨gw,cw,hevM0,hcw1,hcw2⟩:=hI8.formM hjlM.out;have hevM:=Lib.hid hevM0;have hjn:j<s3.dm.length:=hjlM.out;have hji:(j:Int)≤(cw:Int):=by omega
          have hj1:j1≤s3.dm.length:=by have h1:=hj1e.out;omega
          have hj1i:(j1:Int)≤(s3.dm.length:Int):=by omega
          have hj1c:j1≤cw:=by omega
          have hB8:B≤x9.heap.size:=Nat.le_trans hBR.out hI8.sol.b.hR;clear hevM0
          have hfin:∀ (vm3:Value) (wq:World),SatI S aS k w.heap.size w3.heap.size B w { s3 with vm:=vm3,dm:=s3.dm.take j++s3.dm.drop (j+1) } m2 wq→SatRel S aS k w.heap.size w3.heap.size B w r f wq:=fun vm3 wq hI9=>by
           have hsat9:satR KN S.n (S.cs.map CoD.con) k f ({ s3 with vm:=vm3,dm:=s3.dm.take j++s3.dm.drop (j+1) }:Sm).st m2.q=some r:=by
            have h1:=hres.out
            have e1:limK s1.st.mults rates rates.length=(some j,T):=by
             rw[←hot.out,←hval.out.2.2,List.length_map];rfl
            have e4:fullT (S.cs.map CoD.con) k s1.st.x z=ft:=hft.out;rw[e1,hspq.out,e4,if_neg (hF2.out (by trivial)).1] at h1;have hTq:sd.q=T:=((hF2.out (by trivial)).2 (by first | trivial | simp)).2;obtain⟨k1,k2,k3⟩:=hval.out
            have h2:s2.st=moveS s1.st z lev rates T:=by
             have h3:=hst2.out;rw[k1,k2,k3,hTq] at h3;exact h3
            have e5:({ s3 with vm:=vm3,dm:=s3.dm.take j++s3.dm.drop (j+1) }:Sm).st=dropS s2.st j:=by
             rw[hs3.out]
             show St.mk (s2.dx.map FrD.q) s2.lv.q (s2.ia.take j++s2.ia.drop (j+1)) ((s2.dm.take j++s2.dm.drop (j+1)).map FrD.q)=_
             rw[erase_map];rfl
            have e6:m2.q=md.q+T:=by rw[hm2q.out,hTq]
            rw[e5,e6,h2];exact h1
           exact⟨_,m2,hI9,hsat9⟩
          replace hfin:=Lib.hid hfin;go_upto_region 17 with fail
          by_cases hcj:cw=j1
          · as_aux_lemma =>
            have hcj2:=hcj.symm;clear hcj;subst hcj2;have bT:=Below.refl x9.heap.size x9;have hbx:=hI8.box;have hsl:=hI8.sol;have dw0:Below x9.heap.size x9 x9.drew:=(Below.refl _ _).drew;replace hbx:=hbx.keep dw0;replace hsl:=hsl.below dw0;replace bT:=bT.trans (dw0.mono bT.size);clear dw0;go_wp2_with fail;refine wp_region_noPanic ?_;refine wp_region_wait (J:=[19]) (S:=fun w'=>w'.cell? ⟨w.heap.size,0,none⟩=some (.pointer (some ⟨S.gs,0,none⟩))∧w'.cell? ⟨S.gs,11,none⟩=some (.slice (some ⟨gw,0,none⟩) s3.dm.length j1)) (by kernel_rfl) (⟨Blk.cell hbx 0,(hsl.b.cells.2.2.2.2.2.2.2.2.2.2.2.1).trans (by rw[←hevM.out])⟩) (fun hHeld=>?_);refine tkW 0 rfl hHeld ?_;refine tkW 2 rfl hHeld ?_;refine tkW 3 rfl hHeld ?_;refine tkW 4 rfl hHeld ?_;refine tkW 5 rfl hHeld ?_;refine tkW 6 rfl hHeld ?_;refine tkW 7 rfl hHeld ?_;refine tkW 9 rfl hHeld ?_;refine tkW 10 rfl hHeld ?_;refine tkW 11 rfl hHeld ?_;refine tkW 12 rfl hHeld ?_;refine tkW 13 rfl hHeld ?_;refine tkW 14 rfl hHeld ?_;refine tkW 15 rfl hHeld ?_;refine rdW 1 rfl fun K hK=>?_;have hIq:=hI8.below hB8 bT;obtain⟨v1,z1,A7,n7,c7,z2,z9,hr1,ka1,ka2,hr2,kb1,kb2,kf,e7,hI9⟩:=hIq.cutM (j:=j) (g:=gw) (c:=j1) hjlM.out hevM.out (by have:=hjmM.out;omega) hB1'.out (Nat.le_trans hB8 bT.size) ⟨gw,0,none⟩ (.inr ⟨by have h1:=hj1e.out;omega,rfl⟩) j1 (0);rw[show s3.dm.length-(j+1)=0 by have h1:=hj1e.out;omega] at hr2
            clear hIq;obtain⟨u1,hu1,bu1,lu1,Bu1⟩:=boxed x9.drew #[] 28;replace Bu1:Blk u1 x9.heap.size 28 #[]:=Bu1;replace hbx:=hbx.keep bu1;replace hsl:=hsl.below bu1;replace bT:=bT.trans (bu1.mono bT.size);rw[hu1] at hr1;go_simp;refine hK.out _ _ (⟨Blk.cell hbx 0,(hsl.b.cells.2.2.2.2.2.2.2.2.2.2.2.1).trans (by rw[←hevM.out])⟩) (fun hHeld=>?_);clear hK K;(try simp only[lay]);refine rdW 8 rfl fun K hK=>?_;refine step_appR (T:=22) rfl (.tmp 119) (.tmp 125) rfl rfl rfl rfl hr1 ?_;clear hr1 hbx hsl bT;refine hK.out _ _ (⟨ka1,ka2.trans (by rw[←hevM.out])⟩) (fun hHeld=>?_);clear hK K;(try simp only[lay]);refine rdW 16 rfl fun K hK=>?_;refine step_appR (T:=22) rfl (.tmp 126) (.tmp 133) rfl rfl rfl rfl hr2 ?_;clear hr2;refine hK.out _ _ (⟨kb1,kb2.trans (by rw[←hevM.out])⟩) (fun hHeld=>?_);clear hK K;(try simp only[lay]);refine tkW 17 rfl hHeld ?_;refine tkW 18 rfl hHeld ?_;refine wpAnyW_ready (rs:=[19]) (by kernel_rfl) (by simp) ?_;refine AllReadyW.last rfl (by decide) (fun K hK=>?_) AllReadyW.nil;go_simp;refine hK.out _ _ ?_;clear hK K;(try clear hHeld);(try simp only[lay]);refine wpAnyW_done (by kernel_rfl) ?_ _;refine NoPanic.normal ?_;(try go_simp);(try clear hHeld);have hrel9:=Lib.hid (hfin.out _ _ hI9);clear hI8 hI9 hfin hevM;go_wp2;go_roundw
            case rel=>exact⟨f,hrel9.out⟩
            case measure=>rw[hf.out];exact Nat.lt_succ_of_le (leastN_le hrel9.out)
          · as_aux_lemma =>
            have bT:=Below.refl x9.heap.size x9;have hbx:=hI8.box;have hsl:=hI8.sol;have dw0:Below x9.heap.size x9 x9.drew:=(Below.refl _ _).drew;replace hbx:=hbx.keep dw0;replace hsl:=hsl.below dw0;replace bT:=bT.trans (dw0.mono bT.size);clear dw0;go_wp2_with fail;refine wp_region_noPanic ?_;refine wp_region_wait (J:=[19]) (S:=fun w'=>w'.cell? ⟨w.heap.size,0,none⟩=some (.pointer (some ⟨S.gs,0,none⟩))∧w'.cell? ⟨S.gs,11,none⟩=some (.slice (some ⟨gw,0,none⟩) s3.dm.length cw)) (by kernel_rfl) (⟨Blk.cell hbx 0,(hsl.b.cells.2.2.2.2.2.2.2.2.2.2.2.1).trans (by rw[←hevM.out])⟩) (fun hHeld=>?_);refine tkW 0 rfl hHeld ?_;refine tkW 2 rfl hHeld ?_;refine tkW 3 rfl hHeld ?_;refine tkW 4 rfl hHeld ?_;refine tkW 5 rfl hHeld ?_;refine tkW 6 rfl hHeld ?_;refine tkW 7 rfl hHeld ?_;refine tkW 9 rfl hHeld ?_;refine tkW 10 rfl hHeld ?_;refine tkW 11 rfl hHeld ?_;refine tkW 12 rfl hHeld ?_;refine tkW 13 rfl hHeld ?_;refine tkW 14 rfl hHeld ?_;refine tkW 15 rfl hHeld ?_;refine rdW 1 rfl fun K hK=>?_;have hIq:=hI8.below hB8 bT;obtain⟨v1,z1,A7,n7,c7,z2,z9,hr1,ka1,ka2,hr2,kb1,kb2,kf,e7,hI9⟩:=hIq.cutM (j:=j) (g:=gw) (c:=cw) hjlM.out hevM.out (by have:=hjmM.out;omega) hB1'.out (Nat.le_trans hB8 bT.size) ⟨gw,j1*3,none⟩ (.inl (by rw[hj1e.out])) cw (cw-j1);rw[←hj1e.out] at hr2;clear hIq;obtain⟨u1,hu1,bu1,lu1,Bu1⟩:=boxed x9.drew #[] 28;replace Bu1:Blk u1 x9.heap.size 28 #[]:=Bu1
            replace hbx:=hbx.keep bu1;replace hsl:=hsl.below bu1;replace bT:=bT.trans (bu1.mono bT.size);rw[hu1] at hr1;go_simp;refine hK.out _ _ (⟨Blk.cell hbx 0,(hsl.b.cells.2.2.2.2.2.2.2.2.2.2.2.1).trans (by rw[←hevM.out])⟩) (fun hHeld=>?_);clear hK K;(try simp only[lay]);refine rdW 8 rfl fun K hK=>?_;refine step_appR (T:=22) rfl (.tmp 119) (.tmp 125) rfl rfl rfl rfl hr1 ?_;clear hr1 hbx hsl bT;refine hK.out _ _ (⟨ka1,ka2.trans (by rw[←hevM.out])⟩) (fun hHeld=>?_);clear hK K;(try simp only[lay]);refine rdW 16 rfl fun K hK=>?_;refine step_appR (T:=22) rfl (.tmp 126) (.tmp 133) rfl rfl rfl rfl hr2 ?_;clear hr2;refine hK.out _ _ (⟨kb1,kb2.trans (by rw[←hevM.out])⟩) (fun hHeld=>?_);clear hK K;(try simp only[lay]);refine tkW 17 rfl hHeld ?_;refine tkW 18 rfl hHeld ?_;refine wpAnyW_ready (rs:=[19]) (by kernel_rfl) (by simp) ?_;refine AllReadyW.last rfl (by decide) (fun K hK=>?_) AllReadyW.nil;go_simp;refine hK.out _ _ ?_;clear hK K;(try clear hHeld);(try simp only[lay]);refine wpAnyW_done (by kernel_rfl) ?_ _;refine NoPanic.normal ?_;(try go_simp);(try clear hHeld);have hrel9:=Lib.hid (hfin.out _ _ hI9);clear hI8 hI9 hfin hevM;go_wp2;go_roundw
            case rel=>exact⟨f,hrel9.out⟩
            case measure=>rw[hf.out];exact Nat.lt_succ_of_le (leastN_le hrel9.out)
end Go.Proofs.Ytjhkapjadfpimaa
