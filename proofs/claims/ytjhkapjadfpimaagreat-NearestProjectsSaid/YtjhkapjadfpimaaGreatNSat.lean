/- Contracts of functions, for the law. -/
import Derived.Test.YtjhkapjadfpimaaGreatNSeg
import Derived.Test.YtjhkapjadfpimaaGreatNRun
import Derived.Defers
import Derived.Recover
import Derived.WalkMore
namespace Go.Proofs.YtjhkapjadfpimaaGreat
set_option linter.unusedVariables false
set_option linter.unusedSimpArgs false
open Go.RowKit Plain
attribute [local go_sem ↓] Go.wp_at_zero Go.wp_at_succ
set_option maxRecDepth 100000
set_option maxHeartbeats 40000000
def Aj (S:Sv) (r:Option St) (B:Nat) (W:World) (e:Ending) (w':World):Prop :=
 ∃ s':Sm,e=.returned (.bool r.isSome)∧SolM S s' (.pointer none) w'∧Hid (∀ t,r=some t→s'.st=t)∧Below B W w'
theorem qj {gb gs:Nat}{u:FrameMode}{w:World}{x:Value}(hb:w.cell? ⟨gb,0,none⟩=some (.pointer (some ⟨gs,0,none⟩))) (hx:w.cell? ⟨gs,12,none⟩=some x) (hf:w.frozen? ⟨gs,12,none⟩=false) :
 CallsD Tryz.prog 72 #[.pointer (some ⟨gb,0,none⟩)] u w fun e u' w'=>u'=u∧(e=.returned (.tuple #[])∧w'=w.setCell ⟨gs,12,none⟩ (.pointer none)):=by
 go_enter_d Tryz.func72,Tryz.ntmps72
 go_wp2
 go_end0
 exact⟨rfl,rfl⟩
structure SatI (S:Sv) (aS:Addr) (k gb gm B:Nat) (root:World) (s:Sm) (md:FrD) (w:World):Prop where
 sol:SolM S s (.pointer (some (aS.add (k*4)))) w
 box:Blk w gb 61 #[.pointer (some ⟨S.gs,0,none⟩)]
 var:VarQ w gm md
 fv:FV w md.v md.q
 ne:∀ g,s.vm.ownBlock=some g→g≠gm
 bel:Below B root w
theorem SatI.below {S:Sv}{aS:Addr}{k gb gm B:Nat}{root:World}{s:Sm}{md:FrD}{w w':World}(h:SatI S aS k gb gm B root s md w) (hB:B≤w.heap.size) (hb:Below w.heap.size w w'):SatI S aS k gb gm B root s md w' :=
 ⟨h.sol.below hb,h.box.keep hb,h.var.below hb,h.fv.below hb,h.ne,h.bel.trans (hb.mono hB)⟩
def px (S:Sv) (aS:Addr) (k gb gm B:Nat) (root:World) (r:Option St) (f:Nat) (w:World):Prop:=∃ (s:Sm) (md:FrD),SatI S aS k gb gm B root s md w∧jA KN S.n (S.cs.map CoD.con) k f s.st md.q=some r
theorem tN {K n k f:Nat}{all:List Con}{s:St}{m:Rat}{r:Option St}(h:jA K n all k (f+1) s m=some r):OkS K n all s∧Fits K m∧∃ z lev rates,pm n all s.active k=some (z,lev,rates) ∧
 (if 0<cD z (nrm all k)∧((cu s.mults rates rates.length).1=none∨eu all k s.x z≤(cu s.mults rates rates.length).2) then
  r=some ⟨(cK s z lev rates (eu all k s.x z)).x,(cK s z lev rates (eu all k s.x z)).level,s.active++[k],(cK s z lev rates (eu all k s.x z)).mults++[m+eu all k s.x z]⟩
 else match (cu s.mults rates rates.length).1 with
  | none=>r=none
  | some j=>jA K n all k f (gV (cK s z lev rates (cu s.mults rates rates.length).2) j) (m+(cu s.mults rates rates.length).2)=some r):=by
 have h0:(if vo K n all s=true∧jy K m=true then
  match kt n all k s m with
  | none=>none
  | some none=>some none
  | some (some (true,t,m'))=>some (some ⟨t.x,t.level,t.active++[k],t.mults++[m']⟩)
  | some (some (false,t,m'))=>jA K n all k f t m'
  else none)=some r:=h
 by_cases hc:vo K n all s=true∧jy K m=true
 · rw[if_pos hc] at h0;refine⟨okS_iff.1 hc.1,fitsB_iff.1 hc.2,?_⟩;unfold kt at h0
   cases e:pm n all s.active k with
   | none=>rw[e] at h0;cases h0
   | some p =>
    obtain⟨z,lev,rates⟩:=p;rw[e] at h0;refine⟨z,lev,rates,rfl,?_⟩;dsimp only at h0
    by_cases hf:0<cD z (nrm all k)∧((cu s.mults rates rates.length).1=none∨eu all k s.x z≤(cu s.mults rates rates.length).2)
    · rw[if_pos hf] at h0 ⊢
      injection h0 with h0
      exact h0.symm
    · rw[if_neg hf] at h0 ⊢
      cases e2:(cu s.mults rates rates.length).1 with
      | none=>rw[e2] at h0;injection h0 with h0;exact h0.symm
      | some j=>rw[e2] at h0;exact h0
 · rw[if_neg hc] at h0;cases h0
theorem By {n k:Nat}{all:List Con}{A:List Nat}{z rates:List Rat}{lev:Rat}(h:ConI n all) (hA:∀ a∈A,a<all.length) (hk:k<all.length) (hd:pm n all A k=some (z,lev,rates)):z.length=n∧rates.length=A.length:=by
 have hM:=aM n all A;have hr:=cE (n:=n) h.len hA;unfold pm at hd
 cases e:cN (eI (ao n all A)) (eK (ao n all A) (nrm all k)) with
 | none=>rw[e] at hd;cases hd
 | some r =>
  rw[e] at hd
  injection hd with hd
  injection hd with h1 hd
  injection hd with h2 h3
  have hf:=fJ (er (ao n all A)) (by rw[bC,hM];omega);have h4:=(jZ hf.1 (by rw[dI,bC]) e).1;rw[hf.2,hM] at h4;exact⟨by rw[←h1];exact (kG hr (h.len.nrm hk) _ (Dt _)).1,by rw[←h3,DC,h4];omega⟩
theorem SolM.con {S:Sv}{s:Sm}{ent:Value}{w:World}(h:SolM S s ent w){aS:Addr}{k:Nat}{c0:CoD}(hSA:S.A=some aS) (hck:S.cs[k]?=some c0) (i:Fin 4):w.cell? (if i=0 then aS.add (k*4) else ⟨(aS.add (k*4)).block,(aS.add (k*4)).off+i.val,none⟩)=some (c0.cells.getD i.val undef):=by
 obtain⟨a,d,ea,c,h0,h1,h2,h3,h4,h5,h6⟩:=h.b.all.at (DD.1 hck).1;rw[hSA] at ea
 cases ea
 have e:d=c0:=by have h7:=h6.out;rw[hck] at h7;injection h7 with h7;exact h7.symm
 subst e
 match i with
 | 0=>exact h0
 | 1=>exact h1
 | 2=>exact h2
 | 3=>exact h3
section
variable {S:Sv}{aS:Addr}{k gb gm B:Nat}{root:World}{s:Sm}{md:FrD}{w:World}
theorem SatI.hE (h:SatI S aS k gb gm B root s md w):∀ x,(Value.pointer (some (aS.add (k*4))))≠.int .u32 x:=fun x e=>by cases e
theorem SatI.gbs (h:SatI S aS k gb gm B root s md w):gb≠S.gs:=h.box.ne_type h.sol.b.blk (by decide)
theorem SatI.gms (h:SatI S aS k gb gm B root s md w):gm≠S.gs:=Ek h.var h.sol.b.blk (by decide)
theorem SatI.pushA (h:SatI S aS k gb gm B root s md w) (hl:s.ia.length≤1000) (hB1:B≤S.gs) (hBR:B≤S.R) (hB:B≤w.heap.size) :
 ∃ A n c w6 w9,(Builtin.append_ #[72,72] 72 #[s.va,.slice (some ⟨w.heap.size,0,none⟩) 1 1]).run Tryz.prog (w.alloc (.cells #[.int .i64 (k:Int)] 3))=.ok (.slice A n c) w6∧w6.cell? ⟨gb,0,none⟩=some (.pointer (some ⟨S.gs,0,none⟩))∧w6.cell? ⟨S.gs,10,none⟩=some s.va∧w6.frozen? ⟨S.gs,10,none⟩=false ∧
  w6.setCell ⟨S.gs,10,none⟩ (.slice A n c)=w9∧SatI S aS k gb gm B root { s with va:=.slice A n c,ia:=s.ia++[k] } md w9:=by
 obtain⟨v6,w6,w9,hr,b,f,e9,h9,ht,o9⟩:=h.sol.pushA h.hE k hl;obtain⟨A,n,c,ev⟩:∃ A n c,v6=.slice A n c:=by obtain⟨A,c,e,-⟩:=h9.act.form;exact⟨A,_,c,e⟩
 subst ev
 have d:=h.box.trn ht fun e=>by
  obtain⟨j,k1,k2⟩:=h.sol.act.2 _ e;exact k1.ne_type h.box (by decide) rfl
 have l:VarQ w6 gm md:=h.var.trn ht fun e=>by
  obtain⟨j,k1,k2⟩:=h.sol.act.2 _ e;exact k1.ne_type h.var (by decide) rfl
 refine⟨A,n,c,w6,w9,hr,D9 d 0,b.cells.2.2.2.2.2.2.2.2.2.2.1,f,e9,h9,d.only o9 h.gbs,l.only o9 h.gms,(h.fv.trn ht).only_blk b.blk (SolB.noDig h.sol.vaU h.sol.vmU h.hE) o9,h.ne,?_⟩;exact o9.to_below (ht.to_below h.bel hB fun g hg=>Ds hBR (h.sol.act.block hg)) hB1 (Ds hB ht.size)
theorem SatI.pushM (h:SatI S aS k gb gm B root s md w) (hl:s.dm.length≤1000) (hB1:B≤S.gs) (hBR:B≤S.R) (hB:B≤w.heap.size) :
 ∃ A n c w6 w9,(Builtin.append_ #[22,22] 22 #[s.vm,.slice (some ⟨w.heap.size,0,none⟩) 1 1]).run Tryz.prog (w.alloc (.cells #[.bool md.neg,.slice md.a md.la.length md.ca,.slice md.b md.lb.length md.cb] 28))=.ok (.slice A n c) w6∧w6.cell? ⟨gb,0,none⟩=some (.pointer (some ⟨S.gs,0,none⟩))∧w6.cell? ⟨S.gs,11,none⟩=some s.vm∧VarQ w6 gm md∧w6.frozen? ⟨S.gs,11,none⟩=false ∧
  w6.setCell ⟨S.gs,11,none⟩ (.slice A n c)=w9∧SolM S { s with vm:=.slice A n c,dm:=s.dm++[md] } (.pointer (some (aS.add (k*4)))) w9∧Blk w9 gb 61 #[.pointer (some ⟨S.gs,0,none⟩)]∧Below B root w9∧B≤w9.heap.size:=by
 obtain⟨v6,w6,w9,hr,j,f,e9,h9,ht,o9⟩:=h.sol.pushM h.hE h.fv hl;obtain⟨A,n,c,ev⟩:∃ A n c,v6=.slice A n c:=by obtain⟨A,c,e,-⟩:=h9.mul.fl h9.mf;exact⟨A,_,c,e⟩
 subst ev
 have d:=h.box.trn ht fun e=>by
  obtain⟨m,k1,k2⟩:=h.sol.mul.2 _ e;exact k1.ne_type h.box (by decide) rfl
 have l:VarQ w6 gm md:=h.var.trn ht fun e=>h.ne _ e rfl;exact⟨A,n,c,w6,w9,hr,D9 d 0,j.cells.2.2.2.2.2.2.2.2.2.2.2.1,l,f,e9,h9,d.only o9 h.gbs,o9.to_below (ht.to_below h.bel hB fun g hg=>Ds hBR (h.sol.mul.block hg)) hB1 (Ds hB ht.size),Ds hB (Ds ht.size o9.size)⟩
end
section
variable {S:Sv}{aS:Addr}{k gb gm B:Nat}{root:World}{s:Sm}{md:FrD}{w:World}
theorem SatI.formA (h:SatI S aS k gb gm B root s md w){j:Nat}(hj:j<s.ia.length):∃ g c,s.va=.slice (some ⟨g,0,none⟩) s.ia.length c∧s.ia.length≤c∧c≤9223372036854775807:=by
 have f:maxLen=9223372036854775807:=rfl
 rcases h.sol.act.1.2 with ⟨e,h0⟩ | ⟨g,b,d,e,hb,hg,hn,hm,hs,ht⟩
 · omega
 · exact⟨g,b,e,hn,by omega⟩
theorem SatI.formM (h:SatI S aS k gb gm B root s md w){j:Nat}(hj:j<s.dm.length):∃ g c,s.vm=.slice (some ⟨g,0,none⟩) s.dm.length c∧s.dm.length≤c∧c≤9223372036854775807:=by
 obtain⟨g,c,e⟩:=h.sol.vform hj;have hm:=h.sol.mul;rw[e] at hm;obtain⟨b,k1,k2,k3,k4,k5,k6⟩:=hm.xo.2.2;exact⟨g,c,e,k3,k4⟩
theorem SatI.cutA (h:SatI S aS k gb gm B root s md w){j g c:Nat}(hj:j<s.ia.length) (ev:s.va=.slice (some ⟨g,0,none⟩) s.ia.length c) (hl:s.ia.length≤1000) (hB1:B≤S.gs) (hB:B≤w.heap.size) (ad:Addr) (had:(ad=⟨g,j+1,none⟩)∨s.ia.length=j+1∧ad.block=g) (c1 c2:Nat) :
 ∃ v1 w1 A n c' w2 w9,(Builtin.append_ #[72,72] 72 #[.slice (some ⟨w.heap.size,0,none⟩) 0 0,.slice (some ⟨g,0,none⟩) j c1]).run Tryz.prog (w.alloc (.cells #[] 3))=.ok v1 w1∧w1.cell? ⟨gb,0,none⟩=some (.pointer (some ⟨S.gs,0,none⟩))∧w1.cell? ⟨S.gs,10,none⟩=some s.va ∧
  (Builtin.append_ #[72,72] 72 #[v1,.slice (some ad) (s.ia.length-(j+1)) c2]).run Tryz.prog w1=.ok (.slice A n c') w2∧w2.cell? ⟨gb,0,none⟩=some (.pointer (some ⟨S.gs,0,none⟩))∧w2.cell? ⟨S.gs,10,none⟩=some s.va∧w2.frozen? ⟨S.gs,10,none⟩=false ∧
  w2.setCell ⟨S.gs,10,none⟩ (.slice A n c')=w9∧SatI S aS k gb gm B root { s with va:=.slice A n c',ia:=s.ia.take j++s.ia.drop (j+1) } md w9:=by
 have hA:=h.sol.act;rw[ev] at hA;obtain⟨v1,w1,v2,w2,r1,b1,r2,o2,b2⟩:=yJ hA hj hl ad had c1 c2;have h1:=h.sol.below b1;have h2:=h.sol.below b2;obtain⟨A,n,c',e2⟩:∃ A n c,v2=.slice A n c:=by obtain⟨A,c,e,-⟩:=o2.form;exact⟨A,_,c,e⟩
 subst e2;obtain⟨w9,f,e9,h9,o9⟩:=h2.newAct h.hE (o2.rebase h.sol.b.hR);have d:=h.box.keep b2;have l:=h.var.below b2;exact⟨v1,w1,A,n,c',w2,w9,r1,D9 (h.box.keep b1) 0,h1.b.cells.2.2.2.2.2.2.2.2.2.2.1,r2,D9 d 0,h2.b.cells.2.2.2.2.2.2.2.2.2.2.1,f,e9,h9,d.only o9 h.gbs,l.only o9 h.gms,(h.fv.below b2).only_blk h2.b.blk (SolB.noDig h.sol.vaU h.sol.vmU h.hE) o9,h.ne,o9.to_below (h.bel.trans (b2.mono hB)) hB1 (Ds hB b2.size)⟩
theorem SatI.cutM (h:SatI S aS k gb gm B root s md w){j g c:Nat}(hj:j<s.dm.length) (ev:s.vm=.slice (some ⟨g,0,none⟩) s.dm.length c) (hl:s.dm.length≤1000) (hB1:B≤S.gs) (hB:B≤w.heap.size) (ad:Addr) (had:(ad=⟨g,(j+1)*3,none⟩)∨s.dm.length=j+1∧ad.block=g) (c1 c2:Nat) :
 ∃ v1 w1 A n c' w2 w9,(Builtin.append_ #[22,22] 22 #[.slice (some ⟨w.heap.size,0,none⟩) 0 0,.slice (some ⟨g,0,none⟩) j c1]).run Tryz.prog (w.alloc (.cells #[] 28))=.ok v1 w1∧w1.cell? ⟨gb,0,none⟩=some (.pointer (some ⟨S.gs,0,none⟩))∧w1.cell? ⟨S.gs,11,none⟩=some s.vm ∧
  (Builtin.append_ #[22,22] 22 #[v1,.slice (some ad) (s.dm.length-(j+1)) c2]).run Tryz.prog w1=.ok (.slice A n c') w2∧w2.cell? ⟨gb,0,none⟩=some (.pointer (some ⟨S.gs,0,none⟩))∧w2.cell? ⟨S.gs,11,none⟩=some s.vm∧w2.frozen? ⟨S.gs,11,none⟩=false ∧
  w2.setCell ⟨S.gs,11,none⟩ (.slice A n c')=w9∧SatI S aS k gb gm B root { s with vm:=.slice A n c',dm:=s.dm.take j++s.dm.drop (j+1) } md w9:=by
 have hm:=h.sol.mul;rw[ev] at hm;obtain⟨v1,w1,v2,w2,r1,b1,r2,o2,b2⟩:=yI (n:=0) (c:=c) hm.xo.2.2 hj h.sol.mf hl ad had c1 c2;have h1:=h.sol.below b1;have h2:=h.sol.below b2;have l:AllFV w2 (s.dm.take j++s.dm.drop (j+1)):=fun d hd=>(h.sol.mf d (qz hd)).below b2;obtain⟨A,n,c',e2⟩:∃ A n c,v2=.slice A n c:=by obtain⟨A,c,e,-⟩:=o2.fl l;exact⟨A,_,c,e⟩
 subst e2;obtain⟨w9,f,e9,h9,o9⟩:=h2.newMul h.hE (o2.rebase h.sol.b.hR) l;have m:=h.box.keep b2;have o:=h.var.below b2;exact⟨v1,w1,A,n,c',w2,w9,r1,D9 (h.box.keep b1) 0,h1.b.cells.2.2.2.2.2.2.2.2.2.2.2.1,r2,D9 m 0,h2.b.cells.2.2.2.2.2.2.2.2.2.2.2.1,f,e9,h9,m.only o9 h.gbs,o.only o9 h.gms,(h.fv.below b2).only_blk h2.b.blk (SolB.noDig h.sol.vaU h.sol.vmU h.hE) o9,fun g' p=>by have h3:=o2.block p;have h4:=Blk.lt h.var;omega,o9.to_below (h.bel.trans (b2.mono hB)) hB1 (Ds hB b2.size)⟩
end
theorem SatI.put {S:Sv}{aS:Addr}{k gb gm B:Nat}{root:World}{s:Sm}{md m2:FrD}{w w9:World}(h:SatI S aS k gb gm B root s md w) (o:Only w w9 gm) (hv:VarQ w9 gm m2) (hm:FV w m2.v m2.q) (hR:S.R≤gm) (hBg:B≤gm) (hgb:gb≠gm) (hB:B≤w.heap.size):SatI S aS k gb gm B root s m2 w9 where
 sol:=⟨h.sol.b.far hR h.var (ar _ _ _ _ _ _ _) o,h.sol.act.far (fun g' hg'=>by
  obtain⟨cur,k1,k2⟩:=h.sol.act.2 g' hg';exact k1.ne_type h.var (by decide)) o,h.sol.mul.far h.ne o,fun x hx=>(h.sol.mf x hx).onlyV h.var o⟩
 box:=h.box.only o hgb
 var:=hv
 fv:=hm.onlyV h.var o
 ne:=h.ne
 bel:=o.to_below h.bel hBg hB
def yu (o:Option Nat) (full:Bool):Bool:=o.isNone && !full
theorem sl {S:Sv}{s:Sm}{k f0 B:Nat}{r:Option St}{w:World}(h:SolM S s (.pointer none) w) (hk:k<S.cs.length) (hc0:ConI S.n (S.cs.map CoD.con)) (hn:S.n≤8) (hr0:jA KN S.n (S.cs.map CoD.con) k f0 s.st 0=some r) (hB1:B≤S.gs) (hB2:B≤S.gx) :
 Calls Tryz.prog 46 #[.pointer (some ⟨S.gs,0,none⟩),.int .i64 (k:Int)] w (Aj S r B w):=by
 have hc:=Dj hc0;have hr:=Dj hr0;clear hc0 hr0;obtain⟨w1,hw1,b1,l1,BX⟩:=ag w #[.pointer (some ⟨S.gs,0,none⟩)] 61;have mt:=h.below b1;obtain⟨s0,s1,s2,s3,s4,s5,s6,s7,s8,s9,z6,yq,s12⟩:=mt.b.cells;obtain⟨aS,d9,pt,hab9,g0,g1,g2,g3,y4,t4,vf⟩:=mt.b.all.at hk;have gm:=Dj pt;rw[pt] at s2;have hki:(k:Int)<(S.cs.length:Int):=by omega
 have hb0:w1.cell? ⟨w.heap.size,0,none⟩=some (.pointer (some ⟨S.gs,0,none⟩)):=D9 BX 0;have r3:∀ x,(Value.pointer none)≠.int .u32 x:=fun x e=>by cases e
 have he0':=Dj r3;have hE:=Dj (show ∀ x,(Value.pointer (some (aS.add (k*4))))≠.int .u32 x from fun x e=>by cases e);obtain⟨w2,f2,e2,vl,o2⟩:=mt.setEnt r3 (.pointer (some (aS.add (k*4))));have hmf:∀ (fn:Fn) (first cap:Array Value) (w:World),(Instr.makeFunc fn first cap).run Tryz.prog w=.ok (.func fn first cap) w:=fun _ _ _ _=>rfl;have o8:=h.b.hs;have rj:=h.b.hR;have o3:=h.b.hx;have nq:Blk w2 w.heap.size 61 #[.pointer (some ⟨S.gs,0,none⟩)]:=BX.only o2 (by omega);have lo:Below B w w2:=o2.to_below (b1.mono (by omega)) hB1 (by have:=b1.size;omega);have hb:=Dj (show S.R≤w.heap.size from rj);have q9:=Dj hk;have c5:=Dj o8;have k4:=Dj o3;have hbr:=b1.size;have H:=Dj hB1;have sr:=Dj hB2;have qc:=Dj (show w.heap.size<w2.heap.size by have:=o2.size;omega);clear r3 y4 t4 vf pt mt o8 rj o3 BX o2 b1
 go_enter_defers Tryz.func46,Tryz.ntmps46
 go_wp2
 go_step3
 go_wp2
 go_region
 clear s0 s1 s2 s3 s4 s5 s6 s7 s8 s9 z6 yq s12 g0 g1 g2 g3;go_wp2_with fail;refine (aH 0 _ (by decide) (by decide)).mono ?_;rintro e w3 ⟨v3,rfl,tg,b3⟩;obtain⟨zz,rfl,hz,hzq⟩:=tg.frd;clear tg;obtain⟨wA,w4,eA,p0,p1,p2,r0,r1,r2,eB,vr,b4,l4⟩:=bM w3 zz;have vp:=(vl.below (DY _ _).drew).below b3;have xs:=vp.below b4;have m0:=lo.drew.trans (b3.mono (by have:=qc.out;have:=H.out;have:=c5.out;have:=hb.out;show B≤w2.heap.size;omega));have l6:=m0.trans (b4.mono (by have:=qc.out;have h33:w2.heap.size≤w3.heap.size:=b3.size;have:=H.out;have:=c5.out;have:=hb.out;omega));have o1:=(Ea (Ea nq (DY _ _).drew) b3).keep b4;have h3s:w2.heap.size≤w3.heap.size:=b3.size;have l5:=Dj (show w.heap.size<w3.heap.size by have:=qc.out;omega);have xq:SatI S aS k w.heap.size w3.heap.size B w s zz w4:=⟨xs,o1,vr,hz.below b4,fun g hg=>by have:=h.wlt g (.inr (.inr hg));have:=l5.out;omega,l6⟩;have rb:px S aS k w.heap.size w3.heap.size B w r f0 w4:=⟨s,zz,xq,by rw[hzq.out];exact hr.out⟩;clear xq o1 l6 m0 xs vp vr hz nq lo hb0 e2 f2 vl;have dp:=Dj (show B≤S.R by have:=H.out;have:=c5.out;omega);go_wp2
 go_step3
 go_wp2;clear p0 p1 p2 r0 r1 r2 eA eB
 go_loopw [137] (fun v wr=>∃ f,px S aS k w.heap.size w3.heap.size B w r f wr) (fun _ wr=>leastN fun f=>px S aS k w.heap.size w3.heap.size B w r f wr)
 case atStart=>exact⟨f0,rb⟩
 case round =>
  clear rb;obtain⟨f,hf⟩:∃ f,Hid (leastN (fun f=>px S aS k w.heap.size w3.heap.size B w r f wr)=f):=⟨_,rfl⟩;have hm:=ql hrel;rw[hf.out] at hm;obtain⟨s1,md,hI,lq⟩:=hm
  cases f with
  | zero=>cases lq
  | succ f =>
   obtain⟨fx,nr,z,lev,E,mc,m3⟩:=tN lq;have bm:=Dj fx;have z4:=Dj nr;have m5:=Dj mc;have mf:=Dj m3;have rv:s1.ia.length≤7:=fx.la;have ns:=Dj (show ∀ a∈s1.ia,a<S.cs.length from fun a ha=>by have h1:=fx.act a ha;rw[Dr] at h1;exact h1);clear lq fx nr mc m3 hrel;have t6:B≤wr.heap.size:=Ds dp.out hI.sol.b.hR;obtain⟨c0,bq⟩:∃ c0,Hid (S.cs[k]?=some c0):=⟨_,Dl q9.out⟩;have gr:=Dj (show k<(S.cs.map CoD.con).length by rw[Dr];exact q9.out);have l8:=Dj (show ∀ a∈s1.ia,a<(S.cs.map CoD.con).length from fun a ha=>by rw[Dr];exact ns.out a ha);have h0:=Dj (By hc.out l8.out gr.out m5.out);have d0:=Dj (pl hc.out l8.out gr.out hn (by omega) m5.out);have d7:=Dj (show nrm (S.cs.map CoD.con) k=c0.r.ds.map FrD.q by rw[fK (c:=c0.con) (by rw[Dq,bq.out];rfl)];rfl);have no:=Dj (show lst (S.cs.map CoD.con) k=c0.l.q by rw[kS (c:=c0.con) (by rw[Dq,bq.out];rfl)];rfl);have qd:=Dj (show c0.r.ds.length=S.n by have h1:=hc.out.len.nrm gr.out;rw[d7.out,Dr] at h1;exact h1);have hj:=Dj (show QFits 1 (c0.r.ds.map FrD.q) from fun q hq=>by rw[←d7.out] at hq;exact (hc.out.nrmk gr.out q hq).fits (by decide))
   have hwl:=Dj hI.sol.wlt;have y6:=Dj (fun g (hg:s1.vm.ownBlock=some g)=>hI.sol.mul.block hg);have d4:=D9 hI.box 0;have vk:=pk hI.sol gm.out q9.out hc.out hn ns.out (by omega) m5.out;go_wp2_with fail;refine vk.mono ?_;rintro e wa ⟨Z,cz,zs,R,cr,rs,l,rfl,x3,p4,t5,F,tl,xc,ba⟩;clear vk d4;have vg:=hI.below t6 ba;have vz:B≤wa.heap.size:=Ds t6 ba.size;obtain⟨wA,wb,eA,p0,p1,p2,r0,r1,r2,eB,v7,bb,lb⟩:=bM wa l;have mx:=vg.below vz bb;have xk:B≤wb.heap.size:=Ds vz bb.size;have d4:=D9 mx.box 0
   have hm:=Dj (show s1.dm.length=rs.length by
    have h1:=bm.out.lm;have h2:=h0.out.2;rw[←F.out.2.2,Dr] at h2;have h3:(s1.dm.map FrD.q).length=s1.ia.length:=h1;rw[Dr] at h3
    omega)
   have t0:=xA mx.sol (p4.below bb) hm.out bm.out.mults (fun q hq=>d0.out.1 q (DM _ (by rw[←F.out.2.2];exact hq)));have sv:=Dj tl;have v4:=Dj xc;clear hI vg tl xc;go_wp2_with fail;refine t0.mono ?_;rintro e wl ⟨d,rfl,kk,bc⟩;clear t0 d4 p0 p1 p2 r0 r1 r2 eA eB;obtain⟨o,T,dt⟩:∃ o T,Hid (cu (s1.dm.map FrD.q) (rs.map FrD.q) rs.length=(o,T)):=⟨_,_,rfl⟩;rw[dt.out] at kk ⊢;have m1:=mx.below xk bc;have n5:B≤wl.heap.size:=Ds xk bc.size;have n9:=v7.below bc;have db:=(x3.below bb).below bc;have g4:=(p4.below bb).below bc;have fr:=(t5.below bb).below bc;obtain⟨wA,wd,eA,p0,p1,p2,r0,r1,r2,eB,y8,bd,ld⟩:=bM wl d;have gk:=m1.below n5 bd;have d4:=D9 gk.box 0;have hb2:=gk.sol.b.cells.2.2.2.2.2.2.2.2.2.2.2.2;have z3:wd.cell? (aS.add (k*4))=some (.slice c0.r.a c0.r.ds.length c0.r.c):=gk.sol.con gm.out bq.out 0;have t3:=Dj (show zs.length=S.n by have h1:=h0.out.1;rw[←F.out.1,Dr] at h1;exact h1);have zb:=Dj (show ∀ d∈zs,Fits 699067 d.q from QFits.fr0 (by rw[F.out.1];exact d0.out.2));have tk:=Dj (show ∀ d∈c0.r.ds,Fits 699067 d.q from fun d hd=>(QFits.fr0 hj.out d hd).mono (by decide));have mp:=gW (K:=699067) (db.below bd) (gk.sol.b.all.fl c0 (Dm bq.out)) zb.out tk.out (by rw[t3.out];have h1:=Dx (699067+699067+1) (show S.n+1≤9 by omega);omega)
   rw[show aB (gP zs c0.r.ds)=cD z (nrm (S.cs.map CoD.con) k) by rw[iL,F.out.1,d7.out]] at mp;obtain⟨sp,cq⟩:∃ sp,Hid (cD z (nrm (S.cs.map CoD.con) k)=sp):=⟨_,rfl⟩;rw[cq.out] at mp;go_wp2_with fail;refine mp.mono ?_;rintro e we ⟨vs,rfl,b7,be⟩;obtain⟨M,rfl,o4,d3⟩:=b7.frd;clear mp b7 d4 hb2 z3 p0 p1 p2 r0 r1 r2 eA eB;obtain⟨wA,wf,eA,p0,p1,p2,r0,r1,r2,eB,on,bf,lf⟩:=bM we M;have m8:=o4.below bf;obtain⟨y0,y1,y2⟩:=on.cells;obtain⟨sg,q3⟩:∃ s',Hid (bH sp 0=s'):=⟨_,rfl⟩;have r5:=ct m8;rw[d3.out,q3.out] at r5;go_wp2_with fail;refine r5.mono ?_;rintro e wg ⟨rfl,bg⟩;clear r5 p0 p1 p2 r0 r1 r2 eA eB y0 y1 y2;have ps:B≤wd.heap.size:=Ds n5 bd.size;have O:=((gk.below ps be).below (Ds ps be.size) bf).below (Ds (Ds ps be.size) bf.size) bg;have n3:=((y8.below be).below bf).below bg;have gp:=on.below bg;have C:=m8.below bg;have q6:Below wl.heap.size wl wg:=(((Di bd be)).trans (bf.mono (Ds bd.size be.size))).trans (bg.mono (Ds (Ds bd.size be.size) bf.size));obtain⟨ft,mg⟩:∃ ft,Hid (eu (S.cs.map CoD.con) k (s1.dx.map FrD.q) z=ft):=⟨_,rfl⟩
   have nb:=Dj (show Fits 190000000 ft by
    rw[←mg.out];have e1:Fits 2 (lst (S.cs.map CoD.con) k):=hc.out.lstk gr.out;have e2:Fits (1+8*(KN+KN+1)) (cD (nrm (S.cs.map CoD.con) k) (s1.dx.map FrD.q)):=by rw[d7.out];exact iY (hj.out.mono (by decide)) bm.out.x (by rw[Dr,qd.out];exact hn)
    have e3:Fits (1+8*(699067+699067+1)) (cD z (nrm (S.cs.map CoD.con) k)):=by rw[d7.out];exact iY d0.out.2 (hj.out.mono (by decide)) (by rw[h0.out.1];exact hn)
    exact ((e1.sub e2).div e3).mono (by decide))
   clear mx gk y8 on m8 o4 v7 x3 p4 t5
   go_upto_if 49 with fail
   go_cut [12,13,14] from 26 to 138 (fun v _x13 _x14 wx=>∃ (I:Bool) (sd:FrD),v=.bool I∧VarQ wx wl.heap.size sd∧Hid (I=true→(0<sp∧(o=none∨ft≤T))∧FV wx sd.v sd.q∧sd.q=ft)∧Hid (I=false→¬ (0<sp∧(o=none∨ft≤T))∧(o≠none→FV wx sd.v sd.q∧sd.q=T))∧Below wl.heap.size wl wx)
   case first =>
    as_aux_lemma =>
    by_cases hs0:0<sg
    · have hd0:decide (0<sg)=true:=Dv hs0;have l7:=Dj (show 0<sp from cmpR_pos.1 (by rw[q3.out];exact hs0));have N:FV wg c0.l.v c0.l.q:=O.sol.b.all.fv c0 (Dm bq.out);obtain⟨dq,qf⟩:∃ dq,Hid (cD (nrm (S.cs.map CoD.con) k) (s1.dx.map FrD.q)=dq):=⟨_,rfl⟩;have nx:=Dj (show aB (gP c0.r.ds s1.dx)=dq by rw[iL,←qf.out,d7.out]);have y3:=Dj (show ∀ d∈c0.r.ds,Fits KN d.q from fun d hd=>(QFits.fr0 hj.out d hd).mono (by decide));have sq:=Dj (show ∀ d∈s1.dx,Fits KN d.q from QFits.fr0 bm.out.x);have nz:=Dj (show 1+(c0.r.ds.length+1)*(KN+KN+1)<400000000 by rw[qd.out];show 1+(S.n+1)*20000001<400000000;have h2:(S.n+1)*20000001≤9*20000001:=Dx _ (by omega);omega);have f3:=Dj (show Fits 2 c0.l.q by rw[←no.out];exact hc.out.lstk gr.out);have f4:=Dj (show Fits (1+8*(KN+KN+1)) dq by rw[←qf.out,d7.out];exact iY (hj.out.mono (by decide)) bm.out.x (by rw[Dr,qd.out];exact hn));have fs:=Dj (show Fits (1+8*(699067+699067+1)) M.q by rw[d3.out,←cq.out,d7.out];exact iY d0.out.2 (hj.out.mono (by decide)) (by rw[h0.out.1];exact hn));have fz:=Dj (show M.q≠0 by rw[d3.out];intro e;have h9:=l7.out;rw[e] at h9;exact Rat.lt_irrefl h9);have g6:=Dj (show (c0.l.q-dq) / M.q=ft by rw[←mg.out,d3.out,←cq.out,←qf.out,←no.out];rfl)
      go_upto_region 9 with fail
      go_cut [13,14] from 26 to 138 (fun v _x14 wx=>∃ g t,v=.pointer (some ⟨g,0,none⟩)∧VarQ wx g t∧FV wx t.v t.q∧Hid (t.q=ft)∧Below wg.heap.size wg wx∧wg.heap.size≤g)
      case first =>
       as_aux_lemma =>
       have bT:=DY wg.heap.size wg
       have hS:∀ w',Below wg.heap.size wg w'→w'.cell? ⟨w.heap.size,0,none⟩=some (.pointer (some ⟨S.gs,0,none⟩))∧w'.cell? ⟨S.gs,12,none⟩=some (.pointer (some (aS.add (k*4))))∧w'.cell? ⟨S.gs,3,none⟩=some (.slice (some ⟨S.gx,0,none⟩) s1.dx.length S.cx)∧w'.cell? (aS.add (k*4))=some (.slice c0.r.a c0.r.ds.length c0.r.c)∧w'.cell? ⟨(aS.add (k*4)).block,(aS.add (k*4)).off+1,none⟩=some (.bool c0.l.neg)∧w'.cell? ⟨(aS.add (k*4)).block,(aS.add (k*4)).off+2,none⟩=some (.slice c0.l.a c0.l.la.length c0.l.ca)∧w'.cell? ⟨(aS.add (k*4)).block,(aS.add (k*4)).off+3,none⟩=some (.slice c0.l.b c0.l.lb.length c0.l.cb)∧w'.cell? ⟨we.heap.size,0,none⟩=some (.bool M.neg)∧w'.cell? ⟨we.heap.size,1,none⟩=some (.slice M.a M.la.length M.ca)∧w'.cell? ⟨we.heap.size,2,none⟩=some (.slice M.b M.lb.length M.cb)∧Below wg.heap.size wg w':=by
        intro w' o;exact⟨D9 (O.box.keep o) 0,(O.sol.below o).b.cells.2.2.2.2.2.2.2.2.2.2.2.2,(O.sol.below o).c3 rfl,(O.sol.below o).con gm.out bq.out 0,(O.sol.below o).con gm.out bq.out 1,(O.sol.below o).con gm.out bq.out 2,(O.sol.below o).con gm.out bq.out 3,(gp.below o).cells.1,(gp.below o).cells.2.1,(gp.below o).cells.2.2,o⟩
       have bo:Below wg.heap.size wg wg:=DY _ _;have dS:Below wg.heap.size wg wg.drew:=bo.drew;go_wp2_with fail;refine DZ ?_;refine D0 (S:=fun w'=>w'.cell? ⟨w.heap.size,0,none⟩=some (.pointer (some ⟨S.gs,0,none⟩))∧w'.cell? ⟨S.gs,12,none⟩=some (.pointer (some (aS.add (k*4))))∧w'.cell? ⟨S.gs,3,none⟩=some (.slice (some ⟨S.gx,0,none⟩) s1.dx.length S.cx)∧w'.cell? (aS.add (k*4))=some (.slice c0.r.a c0.r.ds.length c0.r.c)∧w'.cell? ⟨(aS.add (k*4)).block,(aS.add (k*4)).off+1,none⟩=some (.bool c0.l.neg)∧w'.cell? ⟨(aS.add (k*4)).block,(aS.add (k*4)).off+2,none⟩=some (.slice c0.l.a c0.l.la.length c0.l.ca)∧w'.cell? ⟨(aS.add (k*4)).block,(aS.add (k*4)).off+3,none⟩=some (.slice c0.l.b c0.l.lb.length c0.l.cb)∧w'.cell? ⟨we.heap.size,0,none⟩=some (.bool M.neg)∧w'.cell? ⟨we.heap.size,1,none⟩=some (.slice M.a M.la.length M.ca)∧w'.cell? ⟨we.heap.size,2,none⟩=some (.slice M.b M.lb.length M.cb)∧Below wg.heap.size wg w') (by kernel_rfl) (hS _ dS) (fun m=>?_);refine pE 0 1 2 3 4 5 6 7 m ?_;refine pz 8 9 10 11 m ?_;refine dQ 12 rfl m ?_
       refine pz 13 14 15 16 m ?_;refine fA 17 20 m ?_;refine D6 (rs:=[18,25]) (by kernel_rfl) (by simp) ?_;refine D2 rfl (fun K hK=>?_) ?_
       · go_simp;have A:Below wg.heap.size wg wg.drew:=(DY _ _).drew;replace N:=N.below A;replace C:=C.below A;replace bT:=Di bT A;replace bo:=Di bo A;have D:=gW (K:=KN) (O.sol.b.all.fl c0 (Dm bq.out) |> fun hh=>hh.below bT) ((O.sol.b.xo.fl O.sol.b.xf).below bT) y3.out sq.out nz.out;rw[nx.out] at D;go_at_call 70;refine (D).mono ?_;rintro e u1 ⟨vd,rfl,d6,G⟩;replace N:=N.below G;replace C:=C.below G;replace bT:=Di bT G;replace bo:=Di bo G;clear D;go_wp2_with fail;refine hK.out _ _ (hS _ bo) (fun m=>?_);clear hK K;(try simp only[aq]);refine D6 (rs:=[19,25]) (by kernel_rfl) (by simp) ?_;refine D2 rfl (fun K hK=>?_) ?_
         · go_simp;have D:=bI N d6 f3.out f4.out (by decide);go_at_call 32;refine (D).mono ?_;rintro e u2 ⟨vs,rfl,b7,l9⟩;replace N:=N.below l9;replace C:=C.below l9;replace d6:=d6.below l9;replace bT:=Di bT l9;replace bo:=Di bo l9;clear D;go_wp2_with fail;refine hK.out _ _ (hS _ bo) (fun m=>?_);clear hK K;(try simp only[aq]);refine D6 (rs:=[21,25]) (by kernel_rfl) (by simp) ?_;refine D2 rfl (fun K hK=>?_) ?_
           · go_simp;have D:=fw b7 C (f3.out.sub f4.out) fs.out (by decide) fz.out;go_at_call 45;refine (D).mono ?_;rintro e u3 ⟨vt,rfl,c4,n1⟩;replace C:=C.below n1;replace b7:=b7.below n1;replace bT:=Di bT n1;replace bo:=Di bo n1;clear D;obtain⟨gq,rfl,b8,dr⟩:=c4.frd;clear c4;go_wp2_with fail;refine hK.out _ _ (hS _ bo) (fun m=>?_);clear hK K;(try simp only[aq]);refine fA 22 23 m ?_;refine dQ 24 rfl m ?_;refine aV 25 rfl fun K hK=>?_;have f5:=bT.size;obtain⟨u4,hu4,lg,lu4,rl⟩:=ag u3 #[.bool false,.slice none 0 0,.slice none 0 0] 28;replace C:=C.below lg;replace b7:=b7.below lg;replace b8:=b8.below lg;replace bT:=Di bT lg;replace bo:=Di bo lg;have hA:=rl;clear rl;go_simp;refine hK.out _ _ (hS _ bo) (fun m=>?_);clear hK K;(try simp only[aq]);refine aV 26 rfl fun K hK=>?_;have b6:=f5;obtain⟨u5,q0,q1,q2,f0,f1,f2,eu5,Su5,qg⟩:=aF hA gq;have bT:=qg.to_below bT b6 bT.size;have bo:=qg.to_below bo b6 bo.size;have bs:=b8.only_blk hA (ar _ _ _ _ _ _ _) qg;go_simp;refine hK.out _ _ (hS _ bo) (fun m=>?_);clear hK K;(try simp only[aq]);refine dQ 27 rfl m ?_
             refine D7 (by kernel_rfl) ?_ _;refine D1 ?_;(try go_simp);clear m;go_wp2_with fail;go_meet;exact⟨_,gq,rfl,Su5,bs,dr.out.trans g6.out,bT,b6⟩
           refine D2 rfl (fun K hK=>?_) ?_
           · have f5:=bT.size;obtain⟨u6,hu6,mz,lu6,v9⟩:=ag u2 #[.bool false,.slice none 0 0,.slice none 0 0] 28;replace C:=C.below mz;replace b7:=b7.below mz;replace bT:=Di bT mz;replace bo:=Di bo mz;have hA:=v9;clear v9;go_simp;refine hK.out _ _ (hS _ bo) (fun m=>?_);clear hK K;(try simp only[aq]);refine aV 21 rfl fun K hK=>?_;go_simp;have D:=fw b7 C (f3.out.sub f4.out) fs.out (by decide) fz.out;go_at_call 45;refine (D).mono ?_;rintro e u7 ⟨vt,rfl,c4,op⟩;replace hA:=hA.keep op;replace bT:=Di bT op;replace bo:=Di bo op;clear D;obtain⟨gq,rfl,b8,dr⟩:=c4.frd;clear c4;go_wp2_with fail;refine hK.out _ _ (hS _ bo) (fun m=>?_);clear hK K;(try simp only[aq]);refine fA 22 23 m ?_;refine dQ 24 rfl m ?_;refine aV 26 rfl fun K hK=>?_;have b6:=f5;obtain⟨u8,q0,q1,q2,f0,f1,f2,eu8,Su8,pb⟩:=aF hA gq;have bT:=pb.to_below bT b6 bT.size;have bo:=pb.to_below bo b6 bo.size;have bs:=b8.only_blk hA (ar _ _ _ _ _ _ _) pb;go_simp;refine hK.out _ _ (hS _ bo) (fun m=>?_);clear hK K;(try simp only[aq]);refine dQ 27 rfl m ?_
             refine D7 (by kernel_rfl) ?_ _;refine D1 ?_;(try go_simp);clear m;go_wp2_with fail;go_meet;exact⟨_,gq,rfl,Su8,bs,dr.out.trans g6.out,bT,b6⟩
           exact D3
         refine D2 rfl (fun K hK=>?_) ?_
         · have f5:=bT.size;obtain⟨u9,hu9,k5,lu9,x7⟩:=ag u1 #[.bool false,.slice none 0 0,.slice none 0 0] 28;replace N:=N.below k5;replace C:=C.below k5;replace d6:=d6.below k5;replace bT:=Di bT k5;replace bo:=Di bo k5;have hA:=x7;clear x7;go_simp;refine hK.out _ _ (hS _ bo) (fun m=>?_);clear hK K;(try simp only[aq]);refine aV 19 rfl fun K hK=>?_;go_simp;have D:=bI N d6 f3.out f4.out (by decide);go_at_call 32;refine (D).mono ?_;rintro e u10 ⟨vs,rfl,b7,gb⟩;replace C:=C.below gb;replace hA:=hA.keep gb;replace bT:=Di bT gb;replace bo:=Di bo gb;clear D;go_wp2_with fail;refine hK.out _ _ (hS _ bo) (fun m=>?_);clear hK K;(try simp only[aq]);refine aV 21 rfl fun K hK=>?_;go_simp;have D:=fw b7 C (f3.out.sub f4.out) fs.out (by decide) fz.out;go_at_call 45;refine (D).mono ?_;rintro e u11 ⟨vt,rfl,c4,j5⟩;replace hA:=hA.keep j5;replace bT:=Di bT j5;replace bo:=Di bo j5;clear D;obtain⟨gq,rfl,b8,dr⟩:=c4.frd;clear c4;go_wp2_with fail;refine hK.out _ _ (hS _ bo) (fun m=>?_);clear hK K;(try simp only[aq])
           refine fA 22 23 m ?_;refine dQ 24 rfl m ?_;refine aV 26 rfl fun K hK=>?_;have b6:=f5;obtain⟨u12,q0,q1,q2,f0,f1,f2,eu12,r8,m6⟩:=aF hA gq;have bT:=m6.to_below bT b6 bT.size;have bo:=m6.to_below bo b6 bo.size;have bs:=b8.only_blk hA (ar _ _ _ _ _ _ _) m6;go_simp;refine hK.out _ _ (hS _ bo) (fun m=>?_);clear hK K;(try simp only[aq]);refine dQ 27 rfl m ?_;refine D7 (by kernel_rfl) ?_ _;refine D1 ?_;(try go_simp);clear m;go_wp2_with fail;go_meet;exact⟨_,gq,rfl,r8,bs,dr.out.trans g6.out,bT,b6⟩
         exact D3
       refine D2 rfl (fun K hK=>?_) ?_
       · have f5:=bT.size;have fm:Below wg.heap.size wg wg.drew:=(DY _ _).drew;replace N:=N.below fm;replace C:=C.below fm;replace bT:=Di bT fm;replace bo:=Di bo fm;obtain⟨u13,hu13,fq,lu13,g7⟩:=ag wg.drew #[.bool false,.slice none 0 0,.slice none 0 0] 28;replace N:=N.below fq;replace C:=C.below fq;replace bT:=Di bT fq;replace bo:=Di bo fq;replace g7:Blk u13 wg.heap.size 28 #[.bool false,.slice none 0 0,.slice none 0 0]:=g7;have hA:=g7;clear g7;go_simp;refine hK.out _ _ (hS _ bo) (fun m=>?_);clear hK K;(try simp only[aq]);refine aV 18 rfl fun K hK=>?_;go_simp;have D:=gW (K:=KN) (O.sol.b.all.fl c0 (Dm bq.out) |> fun hh=>hh.below bT) ((O.sol.b.xo.fl O.sol.b.xf).below bT) y3.out sq.out nz.out;rw[nx.out] at D;go_at_call 70;refine (D).mono ?_;rintro e u14 ⟨vd,rfl,d6,dk⟩;replace N:=N.below dk;replace C:=C.below dk;replace hA:=hA.keep dk;replace bT:=Di bT dk;replace bo:=Di bo dk;clear D;go_wp2_with fail;refine hK.out _ _ (hS _ bo) (fun m=>?_);clear hK K;(try simp only[aq]);refine aV 19 rfl fun K hK=>?_;go_simp;have D:=bI N d6 f3.out f4.out (by decide);go_at_call 32;refine (D).mono ?_;rintro e u15 ⟨vs,rfl,b7,g8⟩
         replace C:=C.below g8;replace hA:=hA.keep g8;replace bT:=Di bT g8;replace bo:=Di bo g8;clear D;go_wp2_with fail;refine hK.out _ _ (hS _ bo) (fun m=>?_);clear hK K;(try simp only[aq]);refine aV 21 rfl fun K hK=>?_;go_simp;have D:=fw b7 C (f3.out.sub f4.out) fs.out (by decide) fz.out;go_at_call 45;refine (D).mono ?_;rintro e u16 ⟨vt,rfl,c4,m4⟩;replace hA:=hA.keep m4;replace bT:=Di bT m4;replace bo:=Di bo m4;clear D;obtain⟨gq,rfl,b8,dr⟩:=c4.frd;clear c4;go_wp2_with fail;refine hK.out _ _ (hS _ bo) (fun m=>?_);clear hK K;(try simp only[aq]);refine fA 22 23 m ?_;refine dQ 24 rfl m ?_;refine aV 26 rfl fun K hK=>?_;have b6:=f5;obtain⟨u17,q0,q1,q2,f0,f1,f2,eu17,r6,hv⟩:=aF hA gq;have bT:=hv.to_below bT b6 bT.size;have bo:=hv.to_below bo b6 bo.size;have bs:=b8.only_blk hA (ar _ _ _ _ _ _ _) hv;go_simp;refine hK.out _ _ (hS _ bo) (fun m=>?_);clear hK K;(try simp only[aq]);refine dQ 27 rfl m ?_;refine D7 (by kernel_rfl) ?_ _;refine D1 ?_;(try go_simp);clear m;go_wp2_with fail;go_meet;exact⟨_,gq,rfl,r6,bs,dr.out.trans g6.out,bT,b6⟩
       exact D3
      case rest =>
       as_aux_lemma =>
       obtain⟨g9,td,rfl,n0,l3,dh,b9,hgw9⟩:=hcut;obtain⟨w9,hw9⟩:∃ w9,w9=wc:=⟨_,rfl⟩;subst hw9;have hl:=n3.below b9;have n2:=Di q6 b9;have hlsz:=Dj (show wl.heap.size≤wl.heap.size from Dt _);obtain⟨y0,y1,y2⟩:=n0.cells;obtain⟨z0,z1,z2⟩:=hl.cells;clear O m1 n9 db g4 fr gp C N n3
       cases o with
       | none =>
        obtain⟨wz,q0,q1,q2,f0,f1,f2,ez,hZ,oz⟩:=hl.store td;have r4:=Dj (show FV wz.drew td.v td.q from (l3.onlyV hl oz).below (DY _ _).drew);have bz:=(oz.to_below n2 (Dt _) n2.size).drew;clear hl n0 l3 oz;go_wp2
        go_region
        go_wp2;go_meet;exact⟨true,td,rfl,hZ,fun _=>⟨⟨l7.out,.inl (by first | trivial | rfl)⟩,r4.out,dh.out⟩,fun h=>(by cases h),bz⟩
       | some j =>
        have ml:=Dj (show FV w9 d.v d.q∧d.q=T from ⟨(kk.out (by simp)).1.below n2,(kk.out (by simp)).2⟩);obtain⟨cc,qs⟩:∃ s',Hid (bH td.q d.q=s'):=⟨_,rfl⟩
        have qq:=dz l3 ml.out.1 (by rw[dh.out];exact nb.out) (show Fits (KN+87381) d.q by
         rw[ml.out.2];exact oX (by decide) (by decide) bm.out.mults (fun q hq=>d0.out.1 q (DM _ (by rw[←F.out.2.2];exact hq))) rs.length j T dt.out) (by decide) (by decide)
        rw[qs.out] at qq;have v8:decide (oi (some j)<0)=false:=Du (by show ¬ ((j:Nat):Int)<0;omega);have tv:¬ oi (some j)<0:=by show ¬ ((j:Nat):Int)<0;omega
        go_wp2_with fail;refine qq.mono ?_;rintro e zt ⟨rfl,kv⟩;clear qq y0 y1 y2 z0 z1 z2;have ln:=n0.below kv;have d1:=hl.below kv;have js:=l3.below kv;have ls:=Di n2 kv;have k0:=Dj (show FV zt d.v d.q∧d.q=T from ⟨ml.out.1.below kv,ml.out.2⟩);clear hl n0 l3;obtain⟨y0,y1,y2⟩:=ln.cells
        by_cases hc9:cc≤0
        · have zp:decide (cc≤0)=true:=Dv hc9
          have hle:=Dj (show ft≤T from Rat.not_lt.1 fun hh=>by
           have h8:0<bH td.q d.q:=cmpR_pos.2 (by rw[dh.out,k0.out.2];exact hh);rw[qs.out] at h8;omega)
          obtain⟨wz,q0,q1,q2,f0,f1,f2,ez,hZ,oz⟩:=d1.store td;have r4:=Dj (show FV wz.drew td.v td.q from (js.onlyV d1 oz).below (DY _ _).drew);have bz:=(oz.to_below ls (Dt _) ls.size).drew;clear d1 ln js oz;go_wp2
          go_region
          go_wp2;go_meet;exact⟨true,td,rfl,hZ,fun _=>⟨⟨l7.out,.inr hle.out⟩,r4.out,dh.out⟩,fun h=>(by cases h),bz⟩
        · have zp:decide (cc≤0)=false:=Du hc9
          have hgt:=Dj (show ¬ (0<sp∧(some j=none∨ft≤T)) from fun hh=>hc9 (by
           rcases hh.2 with h8 | h8
           · cases h8
           · have h7:¬ 0<bH td.q d.q:=fun h6=>by
              have h5:=cmpR_pos.1 h6;rw[dh.out,k0.out.2] at h5;exact absurd h8 (Rat.not_le.2 h5)
             rw[qs.out] at h7;omega))
          clear ln js;go_wp2;go_meet;exact⟨false,d,rfl,d1,fun h=>(by cases h),fun _=>⟨hgt.out,fun _=>k0.out⟩,ls⟩
    · have hd0:decide (0<sg)=false:=Du hs0;have v2:=Dj (show ¬ 0<sp from fun hh=>hs0 (by rw[←q3.out];exact cmpR_pos.2 hh));have x4:=Dj (show o≠none→FV wg d.v d.q∧d.q=T from fun ho=>⟨(kk.out ho).1.below q6,(kk.out ho).2⟩);clear O m1 n9 db g4 fr gp C;go_wp2;go_meet;exact⟨false,d,rfl,n3,fun h=>(by cases h),fun _=>⟨fun hh=>v2.out hh.1,x4.out⟩,q6⟩
   case rest =>
    obtain⟨I,sd,rfl,pn,l0,j2,bx⟩:=hcut;obtain⟨wx,hwx⟩:∃ wx,wx=wc:=⟨_,rfl⟩;subst hwx;have b2:=m1.below n5 bx;have v5:=n9.below bx;have nc:=db.below bx;have nv:=g4.below bx;have ob:=fr.below bx;have q4:B≤wx.heap.size:=Ds n5 bx.size;clear O m1 n9 db g4 fr gp C n3;go_upto_region 12 with fail
    go_cut [89] from 26 to 138 (fun v wy=>v=.bool (yu o I)∧wy=wx)
    case first =>
     cases o with
     | none =>
      have v8:decide (oi none<0)=true:=by decide
      cases I with
      | true=>go_wp2;go_meet;exact⟨rfl,rfl⟩
      | false=>go_wp2;go_meet;exact⟨rfl,rfl⟩
     | some j =>
      have v8:decide (oi (some j)<0)=false:=Du (by show ¬ ((j:Nat):Int)<0;omega);have tv:¬ oi (some j)<0:=by show ¬ ((j:Nat):Int)<0;omega
      cases I with
      | true=>go_wp2;go_meet;exact⟨rfl,rfl⟩
      | false=>go_wp2;go_meet;exact⟨rfl,rfl⟩
    case rest =>
     obtain⟨rfl,z5⟩:=hcut;subst z5
     by_cases hstop:yu o I=true
     · rw[hstop]
       have rd:=Dj (show r=none by
        cases o with
        | some j=>cases hstop
        | none =>
         cases I with
         | true=>cases hstop
         | false =>
          have h1:=mf.out;have h2:=(j2.out rfl).1
          have e1:cu s1.st.mults E E.length=(none,T):=by
           rw[←dt.out,←F.out.2.2,Dr];rfl
          rw[e1,cq.out] at h1
          rw[if_neg (by
           intro hh;exact h2 ⟨hh.1,.inl rfl⟩)] at h1
          exact h1)
       obtain⟨w9,f9,e9,mm,o9⟩:=b2.sol.setEnt hE.out (.pointer none);have b9:=Dj (o9.to_below b2.bel H.out q4);have k6:=b2.sol.b.cells.2.2.2.2.2.2.2.2.2.2.2.2;have qb:=D9 b2.box 0;go_wp2;rw[Exit.noGoto_ret];refine leaves_cons (f:=72) (args:=#[.pointer (some ⟨w.heap.size,0,none⟩)]) (by simp) (by simp[go_sem]) ?_;refine (qj (u:=.returning) qb k6 f9).mono ?_;rintro e u' w'' ⟨rfl,rfl,rfl⟩;rw[e9];exact⟨_,results_tmp rfl _ _ _,s1,by rw[rd.out];rfl,mm,fun t ht=>(by rw[rd.out] at ht;cases ht),b9.out⟩
     · have d5:yu o I=false:=by simpa using hstop
       rw[d5];obtain⟨wX,hwX⟩:∃ x,x=wc:=⟨_,rfl⟩;subst hwX
       have oj:FV wX sd.v sd.q∧Fits 190000000 sd.q:=by
        cases I with
        | true=>exact⟨(l0.out rfl).2.1,by rw[(l0.out rfl).2.2];exact nb.out⟩
        | false =>
         cases o with
         | none=>cases d5
         | some j =>
          refine⟨((j2.out rfl).2 (by simp)).1,?_⟩;rw[((j2.out rfl).2 (by simp)).2];exact (oX (by decide) (by decide) bm.out.mults (fun q hq=>d0.out.1 q (DM _ (by rw[←F.out.2.2];exact hq))) rs.length j T dt.out).mono (by decide)
       have nl:=Dj oj.2;have lz:=oj.1;have os:=Dj (show ∀ g,wr.heap.size≤g→¬ S.W s1.vm g from fun g hg hW=>by have:=hwl.out g hW;omega);have y9:=zA b2.sol hE.out nc (fun a e=>os.out _ (sv.out a e)) (by rw[t3.out];have h1:=bm.out.lx;have h2:(s1.dx.map FrD.q).length=S.n:=h1;rw[Dr] at h2;exact h2.symm) nv (fun a e=>os.out _ (v4.out a e)) hm.out.symm ob lz bm.out.x (by rw[F.out.1];exact d0.out.2) bm.out.lev (by rw[F.out.2.1];exact d0.out.1 lev DN) nl.out bm.out.mults (fun q hq=>d0.out.1 q (DM _ (by rw[←F.out.2.2];exact hq)));have d4:=D9 b2.box 0;obtain⟨x0,x1,x2⟩:=v5.cells;obtain⟨y0,y1,y2⟩:=pn.cells;clear oj hstop;go_wp2_with fail;refine y9.mono ?_;rintro e wm ⟨s2,rfl,hM,l2,g5,d8⟩;clear y9 d4 x0 x1 x2 y0 y1 y2 nc nv ob v5;have xz:=Dj (show wr.heap.size≤wl.heap.size by have h1:=ba.size;have h2:=bb.size;have h3:=bc.size;omega);have od:VarQ wm wl.heap.size sd:=pn.trn d8 (os.out _ xz.out);have ng:FV wm sd.v sd.q:=lz.trn d8
       have hWm:=Dj (show ¬ S.W s1.vm w3.heap.size from fun hW=>by
        have h1:=l5.out;have h2:=c5.out;have h3:=k4.out;have h4:=hb.out
        rcases hW with e | e | e
        · omega
        · omega
        · exact b2.ne _ e rfl)
       have ys:=Dj (show ¬ S.W s1.vm w.heap.size from fun hW=>by
        have h2:=c5.out;have h3:=k4.out;have h4:=hb.out
        rcases hW with e | e | e
        · omega
        · omega
        · obtain⟨cur,k1,k2⟩:=b2.sol.mul.2 _ e;exact k1.ne_type b2.box (by decide) rfl)
       have j4:SatI S aS k w.heap.size w3.heap.size B w s2 md wm:=⟨hM,b2.box.trn d8 ys.out,b2.var.trn d8 hWm.out,b2.fv.trn d8,fun g hg=>b2.ne g (by rw[←g5.out.2.2];exact hg),d8.to_below b2.bel q4 fun g hW=>by
        rcases hW with e | e | e
        · rw[e];exact H.out
        · rw[e];exact sr.out
        · exact Ds dp.out (y6.out g e)⟩
       have t2:B≤wm.heap.size:=Ds q4 d8.size;have d4:=D9 j4.box 0;obtain⟨x0,x1,x2⟩:=j4.var.cells;obtain⟨y0,y1,y2⟩:=od.cells;have nd:=dB j4.fv ng z4.out nl.out (by decide);clear b2 pn lz d8;go_wp2_with fail;refine nd.mono ?_;rintro e wn ⟨vn,rfl,v0,bn⟩;obtain⟨m2,rfl,x8,o7⟩:=v0.frd;clear nd d4 x0 x1 x2 y0 y1 y2 v0;have qx:=j4.below t2 bn;have hVn:=od.below bn;have sf:B≤wn.heap.size:=Ds t2 bn.size;obtain⟨wo,q0,q1,q2,f0,f1,f2,eo,y7,oo⟩:=qx.var.store m2;have c2:=qx.put oo y7 x8 (by have:=l5.out;have:=hb.out;omega) (by have:=l5.out;have:=hb.out;have:=dp.out;omega) (by have:=l5.out;omega) sf;have gz:B≤wo.heap.size:=Ds sf oo.size;clear j4 od hVn x8 y7 oo qx ng
       cases I with
       | true =>
        as_aux_lemma =>
        have hp:s2.st=cK s1.st z lev E ft:=by
         obtain⟨e1,e2,e3⟩:=F.out;have h1:=l2.out;rw[e1,e2,e3,(l0.out rfl).2.2] at h1;exact h1
        have xb:=Dj (show r=some ⟨s2.dx.map FrD.q,s2.lv.q,s2.ia++[k],(s2.dm++[m2]).map FrD.q⟩ by
         have h1:=mf.out
         have e1:cu s1.st.mults E E.length=(o,T):=by
          rw[←dt.out,←F.out.2.2,Dr];rfl
         have e4:eu (S.cs.map CoD.con) k s1.st.x z=ft:=mg.out;rw[e1,cq.out,e4,if_pos (l0.out rfl).1,←hp] at h1;rw[h1,DQ]
         show some (St.mk _ _ (s1.ia++[k]) (_++[md.q+ft]))=some (St.mk _ _ (s2.ia++[k]) (_++[m2.q]))
         rw[o7.out,(l0.out rfl).2.2,g5.out.2.1];rfl)
        have j3:=Dj (show s2.ia.length=s1.ia.length by rw[g5.out.2.1])
        have fb:=Dj (show s2.dm.length=s1.ia.length by
         have h1:=congrArg (fun t:St=>t.mults.length) hp;have h2:(s2.dm.map FrD.q).length=(List.zipWith (fun a b=>a-ft*b) (s1.dm.map FrD.q) E).length:=h1
         have h4:s1.dm.length=s1.ia.length:=by
          have h5:(s1.dm.map FrD.q).length=s1.ia.length:=bm.out.lm
          rwa [Dr] at h5
         have h6:E.length=s1.ia.length:=h0.out.2;rw[Dr,List.length_zipWith,Dr,h6,h4,Nat.min_self] at h2;exact h2)
        clear hp;go_wp2;go_upto_region 19 with fail;have bT:=DY wo.heap.size wo;have p:=c2.box;have y:=c2.sol;have A:Below wo.heap.size wo wo.drew:=(DY _ _).drew;replace p:=p.keep A;replace y:=y.below A;replace bT:=Di bT A;clear A;go_wp2_with fail;refine DZ ?_;refine aw (J:=[10]) (S:=fun w'=>w'.cell? ⟨w.heap.size,0,none⟩=some (.pointer (some ⟨S.gs,0,none⟩))∧w'.cell? ⟨S.gs,10,none⟩=some s2.va) (by kernel_rfl) (⟨D9 p 0,y.b.cells.2.2.2.2.2.2.2.2.2.2.1⟩) (fun m=>?_);refine py 0 1 2 3 m ?_;refine kB 4 5 m ?_;refine dg 6 rfl fun K hK=>?_;have U:SatI S aS k w.heap.size w3.heap.size B w s2 m2 wo.drew:=c2.below gz bT;obtain⟨A6,n6,c6,w6,w7,qk,d2,cy,kf,e7,m9⟩:=U.pushA (by rw[j3.out];omega) H.out dp.out (Ds gz bT.size);clear U;obtain⟨u1,cd,G,j0,V⟩:=ag wo.drew #[.int .i64 (k:Int)] 3;replace V:Blk u1 wo.heap.size 3 #[.int .i64 (k:Int)]:=V;replace p:=p.keep G;replace y:=y.below G;replace bT:=Di bT G;rw[cd] at qk;go_simp;refine hK.out _ _ (⟨D9 p 0,y.b.cells.2.2.2.2.2.2.2.2.2.2.1⟩) (fun m=>?_);clear hK K;(try simp only[aq]);refine dg 7 rfl fun K hK=>?_
        refine aG (T:=72) rfl (.tmp 143) (.tmp 145) rfl rfl rfl rfl qk ?_;clear qk p y bT;refine hK.out _ _ (⟨d2,cy⟩) (fun m=>?_);clear hK K;(try simp only[aq]);refine kB 8 9 m ?_;refine aj (rs:=[10]) (by kernel_rfl) (by simp) ?_;refine Ee rfl (by decide) (fun K hK=>?_) Ed;go_simp;refine hK.out _ _ ?_;clear hK K;(try clear m);(try simp only[aq]);refine au (by kernel_rfl) ?_ _;refine D1 ?_;(try go_simp);(try clear m);go_wp2;have tf:B≤w7.heap.size:=Ds dp.out m9.sol.b.hR;go_upto_region 20 with fail;have bT:=DY w7.heap.size w7;have p:=m9.box;have y:=m9.sol;have c9:=m9.var;have A:Below w7.heap.size w7 w7.drew:=(DY _ _).drew;replace p:=p.keep A;replace y:=y.below A;replace c9:=c9.below A;replace bT:=Di bT A;clear A;go_wp2_with fail;refine DZ ?_;refine aw (J:=[10]) (S:=fun w'=>w'.cell? ⟨w.heap.size,0,none⟩=some (.pointer (some ⟨S.gs,0,none⟩))∧w'.cell? ⟨S.gs,11,none⟩=some s2.vm∧w'.cell? ⟨w3.heap.size,0,none⟩=some (.bool m2.neg)∧w'.cell? ⟨w3.heap.size,1,none⟩=some (.slice m2.a m2.la.length m2.ca)∧w'.cell? ⟨w3.heap.size,2,none⟩=some (.slice m2.b m2.lb.length m2.cb)) (by kernel_rfl) (⟨D9 p 0,y.b.cells.2.2.2.2.2.2.2.2.2.2.2.1,c9.cells.1,c9.cells.2.1,c9.cells.2.2⟩) (fun m=>?_)
        refine py 0 1 2 3 m ?_;refine kB 4 5 m ?_;refine dg 6 rfl fun K hK=>?_;have U:=m9.below tf bT;obtain⟨A8,n8,c8,w8,w9,q5,ch,cl,n4,kg,e9,mm,hb9,qy,hB9⟩:=U.pushM (by show s2.dm.length≤1000;rw[fb.out];omega) H.out dp.out (Ds tf bT.size);clear U;obtain⟨u1,cd,G,j0,V⟩:=ag w7.drew #[.bool m2.neg,.slice m2.a m2.la.length m2.ca,.slice m2.b m2.lb.length m2.cb] 28;replace V:Blk u1 w7.heap.size 28 #[.bool m2.neg,.slice m2.a m2.la.length m2.ca,.slice m2.b m2.lb.length m2.cb]:=V;replace p:=p.keep G;replace y:=y.below G;replace c9:=c9.below G;rw[cd] at q5;go_simp;refine hK.out _ _ (⟨D9 p 0,y.b.cells.2.2.2.2.2.2.2.2.2.2.2.1,c9.cells.1,c9.cells.2.1,c9.cells.2.2⟩) (fun m=>?_);clear hK K;(try simp only[aq]);refine dg 7 rfl fun K hK=>?_;refine aG (T:=22) rfl (.tmp 153) (.tmp 155) rfl rfl rfl rfl q5 ?_;clear q5 p y c9 bT;refine hK.out _ _ (⟨ch,cl,n4.cells.1,n4.cells.2.1,n4.cells.2.2⟩) (fun m=>?_);clear hK K;(try simp only[aq]);refine kB 8 9 m ?_;refine aj (rs:=[10]) (by kernel_rfl) (by simp) ?_;refine Ee rfl (by decide) (fun K hK=>?_) Ed;go_simp;refine hK.out _ _ ?_
        clear hK K;(try clear m);(try simp only[aq]);refine au (by kernel_rfl) ?_ _;refine D1 ?_;(try go_simp);(try clear m);obtain⟨wE,fE,eE,hSE,oE⟩:=mm.setEnt hE.out (.pointer none);have bE:=Dj (oE.to_below qy H.out hB9);have k6:=mm.b.cells.2.2.2.2.2.2.2.2.2.2.2.2;have qb:=D9 hb9 0;clear ch cl n4 kg;go_wp2
        try rw[Exit.noGoto_ret]
        refine leaves_cons (f:=72) (args:=#[.pointer (some ⟨w.heap.size,0,none⟩)]) (by simp) (by simp[go_sem]) ?_;refine (qj (u:=.returning) qb k6 fE).mono ?_;rintro e u' w'' ⟨rfl,rfl,rfl⟩;rw[eE];exact⟨_,results_tmp rfl _ _ _,_,by rw[xb.out];rfl,hSE,fun t ht=>(by rw[xb.out] at ht;injection ht),bE.out⟩
       | false =>
        cases o with
        | none=>cases d5
        | some j =>
         as_aux_lemma =>
         rw[show oi (some j)=((j:Nat):Int) from rfl];have j3:=Dj (show s2.ia.length=s1.ia.length by rw[g5.out.2.1])
         have q8:=Dj (show j<E.length by
          have h1:=vx (s1.dm.map FrD.q) (rs.map FrD.q) rs.length;rw[dt.out] at h1;have h2:j<rs.length:=h1.1;rw[←F.out.2.2,Dr];exact h2)
         have lr:=Dj (show j<s2.ia.length by rw[j3.out];have h1:=q8.out;have h2:E.length=s1.ia.length:=h0.out.2;omega);have p5:=Dj (show s2.ia.length≤7 by rw[j3.out];exact rv);obtain⟨gv,cv,ny,v6,t1⟩:=c2.formA lr.out;have cg:=Dj ny;have rt:j<s2.ia.length:=lr.out;have hj7:j<7:=by have:=p5.out;omega
         have yk:(j:Int)≤(cv:Int):=by omega
         obtain⟨j1,X⟩:∃ j1:Nat,Hid (j1=j+1):=⟨_,rfl⟩;have hwr:IntKind.i64.wrap ((j:Int)+1)=(j1:Int):=by have h1:=X.out;rw[IntKind.wrap_i64];omega
         have y5:j1≤s2.ia.length:=by have h1:=X.out;omega
         have nn:(j1:Int)≤(s2.ia.length:Int):=by omega
         have nf:j1≤cv:=by omega
         clear ny;have hgv0:=Dj (show 0≤gv from D8 _);go_wp2;go_upto_region 16 with fail
         go_cut [] from 26 to 138 (fun wx=>∃ va:Value,SatI S aS k w.heap.size w3.heap.size B w { s2 with va:=va,ia:=s2.ia.take j++s2.ia.drop (j+1) } m2 wx)
         case first =>
          by_cases hcj:cv=j1
          · as_aux_lemma =>
            have hy:=hcj.symm;clear hcj;subst hy;have bT:=DY wo.heap.size wo;have p:=c2.box;have y:=c2.sol;have A:Below wo.heap.size wo wo.drew:=(DY _ _).drew;replace p:=p.keep A;replace y:=y.below A;replace bT:=Di bT A;clear A;go_wp2_with fail;refine DZ ?_;refine aw (J:=[19]) (S:=fun w'=>w'.cell? ⟨w.heap.size,0,none⟩=some (.pointer (some ⟨S.gs,0,none⟩))∧w'.cell? ⟨S.gs,10,none⟩=some (.slice (some ⟨gv,0,none⟩) s2.ia.length j1)) (by kernel_rfl) (⟨D9 p 0,(y.b.cells.2.2.2.2.2.2.2.2.2.2.1).trans (by rw[←cg.out])⟩) (fun m=>?_);refine mN 0 2 3 4 5 6 7 9 m ?_;refine py 10 11 12 13 m ?_;refine kB 14 15 m ?_;refine dg 1 rfl fun K hK=>?_;have U:=c2.below gz bT;obtain⟨v1,x1,A6,n6,c6,x2,x9,b5,d2,cy,Y,ch,cl,kf,e7,b0⟩:=U.cutA (j:=j) (g:=gv) (c:=j1) lr.out cg.out (by have:=p5.out;omega) H.out (Ds gz bT.size) ⟨gv,0,none⟩ (.inr ⟨by have h1:=X.out;omega,rfl⟩) j1 (0);rw[show s2.ia.length-(j+1)=0 by have h1:=X.out;omega] at Y;clear U
            obtain⟨u1,cd,G,j0,V⟩:=ag wo.drew #[] 3;replace V:Blk u1 wo.heap.size 3 #[]:=V;replace p:=p.keep G;replace y:=y.below G;rw[cd] at b5;go_simp;refine hK.out _ _ (⟨D9 p 0,(y.b.cells.2.2.2.2.2.2.2.2.2.2.1).trans (by rw[←cg.out])⟩) (fun m=>?_);clear hK K;(try simp only[aq]);refine dg 8 rfl fun K hK=>?_;refine aG (T:=72) rfl (.tmp 100) (.tmp 106) rfl rfl rfl rfl b5 ?_;clear b5 p y bT;refine hK.out _ _ (⟨d2,cy.trans (by rw[←cg.out])⟩) (fun m=>?_);clear hK K;(try simp only[aq]);refine dg 16 rfl fun K hK=>?_;refine aG (T:=72) rfl (.tmp 107) (.tmp 114) rfl rfl rfl rfl Y ?_;clear Y;refine hK.out _ _ (⟨ch,cl.trans (by rw[←cg.out])⟩) (fun m=>?_);clear hK K;(try simp only[aq]);refine kB 17 18 m ?_;refine aj (rs:=[19]) (by kernel_rfl) (by simp) ?_;refine Ee rfl (by decide) (fun K hK=>?_) Ed;go_simp;refine hK.out _ _ ?_;clear hK K;(try clear m);(try simp only[aq]);refine au (by kernel_rfl) ?_ _;refine D1 ?_;(try go_simp);(try clear m);go_wp2_with fail;go_meet;exact⟨_,b0⟩
          · as_aux_lemma =>
            have bT:=DY wo.heap.size wo;have p:=c2.box;have y:=c2.sol;have A:Below wo.heap.size wo wo.drew:=(DY _ _).drew;replace p:=p.keep A;replace y:=y.below A;replace bT:=Di bT A;clear A;go_wp2_with fail;refine DZ ?_;refine aw (J:=[19]) (S:=fun w'=>w'.cell? ⟨w.heap.size,0,none⟩=some (.pointer (some ⟨S.gs,0,none⟩))∧w'.cell? ⟨S.gs,10,none⟩=some (.slice (some ⟨gv,0,none⟩) s2.ia.length cv)) (by kernel_rfl) (⟨D9 p 0,(y.b.cells.2.2.2.2.2.2.2.2.2.2.1).trans (by rw[←cg.out])⟩) (fun m=>?_);refine mN 0 2 3 4 5 6 7 9 m ?_;refine py 10 11 12 13 m ?_;refine kB 14 15 m ?_;refine dg 1 rfl fun K hK=>?_;have U:=c2.below gz bT;obtain⟨v1,x1,A6,n6,c6,x2,x9,b5,d2,cy,Y,ch,cl,kf,e7,b0⟩:=U.cutA (j:=j) (g:=gv) (c:=cv) lr.out cg.out (by have:=p5.out;omega) H.out (Ds gz bT.size) ⟨gv,j1,none⟩ (.inl (by rw[X.out])) cv (cv-j1);rw[←X.out] at Y;clear U;obtain⟨u1,cd,G,j0,V⟩:=ag wo.drew #[] 3;replace V:Blk u1 wo.heap.size 3 #[]:=V
            replace p:=p.keep G;replace y:=y.below G;rw[cd] at b5;go_simp;refine hK.out _ _ (⟨D9 p 0,(y.b.cells.2.2.2.2.2.2.2.2.2.2.1).trans (by rw[←cg.out])⟩) (fun m=>?_);clear hK K;(try simp only[aq]);refine dg 8 rfl fun K hK=>?_;refine aG (T:=72) rfl (.tmp 100) (.tmp 106) rfl rfl rfl rfl b5 ?_;clear b5 p y bT;refine hK.out _ _ (⟨d2,cy.trans (by rw[←cg.out])⟩) (fun m=>?_);clear hK K;(try simp only[aq]);refine dg 16 rfl fun K hK=>?_;refine aG (T:=72) rfl (.tmp 107) (.tmp 114) rfl rfl rfl rfl Y ?_;clear Y;refine hK.out _ _ (⟨ch,cl.trans (by rw[←cg.out])⟩) (fun m=>?_);clear hK K;(try simp only[aq]);refine kB 17 18 m ?_;refine aj (rs:=[19]) (by kernel_rfl) (by simp) ?_;refine Ee rfl (by decide) (fun K hK=>?_) Ed;go_simp;refine hK.out _ _ ?_;clear hK K;(try clear m);(try simp only[aq]);refine au (by kernel_rfl) ?_ _;refine D1 ?_;(try go_simp);(try clear m);go_wp2_with fail;go_meet;exact⟨_,b0⟩
         case rest =>
          obtain⟨va3,b0⟩:=hcut;obtain⟨x9,hx9⟩:∃ x9,x9=wc:=⟨_,rfl⟩;subst hx9;clear c2 yk y5 nn nf v6 t1 rt cg;obtain⟨s3,p6⟩:∃ s3:Sm,Hid (s3={ s2 with va:=va3,ia:=s2.ia.take j++s2.ia.drop (j+1) }):=⟨_,rfl⟩;rw[←p6.out] at b0
          have fb:=Dj (show s3.dm.length=s1.ia.length by
           rw[p6.out];have h1:=congrArg (fun t:St=>t.mults.length) l2.out;have h2:(s2.dm.map FrD.q).length=(List.zipWith (fun a b=>a-sd.q*b) (s1.dm.map FrD.q) (rs.map FrD.q)).length:=h1
           have h4:s1.dm.length=s1.ia.length:=by
            have h5:(s1.dm.map FrD.q).length=s1.ia.length:=bm.out.lm
            rwa [Dr] at h5
           rw[Dr,List.length_zipWith,Dr,Dr,←hm.out,h4,Nat.min_self] at h2;exact h2)
          have gc:=Dj (show j<s3.dm.length by rw[fb.out,←j3.out];exact lr.out);have o6:=Dj (show s3.dm.length≤7 by rw[fb.out];exact rv);obtain⟨gw,cw,mb,hcw1,hcw2⟩:=b0.formM gc.out;have L:=Dj mb;have rt:j<s3.dm.length:=gc.out;have yk:(j:Int)≤(cw:Int):=by omega
          have y5:j1≤s3.dm.length:=by have h1:=X.out;omega
          have nn:(j1:Int)≤(s3.dm.length:Int):=by omega
          have nf:j1≤cw:=by omega
          have my:B≤x9.heap.size:=Ds dp.out b0.sol.b.hR;clear mb
          have cm:∀ (ms:Value) (wq:World),SatI S aS k w.heap.size w3.heap.size B w { s3 with vm:=ms,dm:=s3.dm.take j++s3.dm.drop (j+1) } m2 wq→px S aS k w.heap.size w3.heap.size B w r f wq:=fun ms wq f6=>by
           have p3:jA KN S.n (S.cs.map CoD.con) k f ({ s3 with vm:=ms,dm:=s3.dm.take j++s3.dm.drop (j+1) }:Sm).st m2.q=some r:=by
            have h1:=mf.out
            have e1:cu s1.st.mults E E.length=(some j,T):=by
             rw[←dt.out,←F.out.2.2,Dr];rfl
            have e4:eu (S.cs.map CoD.con) k s1.st.x z=ft:=mg.out;rw[e1,cq.out,e4,if_neg (j2.out (by trivial)).1] at h1;have rc:sd.q=T:=((j2.out (by trivial)).2 (by first | trivial | simp)).2;obtain⟨k1,k2,k3⟩:=F.out
            have h2:s2.st=cK s1.st z lev E T:=by
             have h3:=l2.out;rw[k1,k2,k3,rc] at h3;exact h3
            have e5:({ s3 with vm:=ms,dm:=s3.dm.take j++s3.dm.drop (j+1) }:Sm).st=gV s2.st j:=by
             rw[p6.out]
             show St.mk (s2.dx.map FrD.q) s2.lv.q (s2.ia.take j++s2.ia.drop (j+1)) ((s2.dm.take j++s2.dm.drop (j+1)).map FrD.q)=_
             rw[mR];rfl
            have e6:m2.q=md.q+T:=by rw[o7.out,rc]
            rw[e5,e6,h2];exact h1
           exact⟨_,m2,f6,p3⟩
          replace cm:=Dj cm;go_upto_region 17 with fail
          by_cases hcj:cw=j1
          · as_aux_lemma =>
            have hy:=hcj.symm;clear hcj;subst hy;have bT:=DY x9.heap.size x9;have p:=b0.box;have y:=b0.sol;have A:Below x9.heap.size x9 x9.drew:=(DY _ _).drew;replace p:=p.keep A;replace y:=y.below A;replace bT:=Di bT A;clear A;go_wp2_with fail;refine DZ ?_;refine aw (J:=[19]) (S:=fun w'=>w'.cell? ⟨w.heap.size,0,none⟩=some (.pointer (some ⟨S.gs,0,none⟩))∧w'.cell? ⟨S.gs,11,none⟩=some (.slice (some ⟨gw,0,none⟩) s3.dm.length j1)) (by kernel_rfl) (⟨D9 p 0,(y.b.cells.2.2.2.2.2.2.2.2.2.2.2.1).trans (by rw[←L.out])⟩) (fun m=>?_);refine mN 0 2 3 4 5 6 7 9 m ?_;refine py 10 11 12 13 m ?_;refine kB 14 15 m ?_;refine dg 1 rfl fun K hK=>?_;have U:=b0.below my bT;obtain⟨v1,z1,A7,n7,c7,z2,z9,b5,d2,cy,Y,ch,cl,kf,e7,f6⟩:=U.cutM (j:=j) (g:=gw) (c:=j1) gc.out L.out (by have:=o6.out;omega) H.out (Ds my bT.size) ⟨gw,0,none⟩ (.inr ⟨by have h1:=X.out;omega,rfl⟩) j1 (0);rw[show s3.dm.length-(j+1)=0 by have h1:=X.out;omega] at Y
            clear U;obtain⟨u1,cd,G,j0,V⟩:=ag x9.drew #[] 28;replace V:Blk u1 x9.heap.size 28 #[]:=V;replace p:=p.keep G;replace y:=y.below G;rw[cd] at b5;go_simp;refine hK.out _ _ (⟨D9 p 0,(y.b.cells.2.2.2.2.2.2.2.2.2.2.2.1).trans (by rw[←L.out])⟩) (fun m=>?_);clear hK K;(try simp only[aq]);refine dg 8 rfl fun K hK=>?_;refine aG (T:=22) rfl (.tmp 119) (.tmp 125) rfl rfl rfl rfl b5 ?_;clear b5 p y bT;refine hK.out _ _ (⟨d2,cy.trans (by rw[←L.out])⟩) (fun m=>?_);clear hK K;(try simp only[aq]);refine dg 16 rfl fun K hK=>?_;refine aG (T:=22) rfl (.tmp 126) (.tmp 133) rfl rfl rfl rfl Y ?_;clear Y;refine hK.out _ _ (⟨ch,cl.trans (by rw[←L.out])⟩) (fun m=>?_);clear hK K;(try simp only[aq]);refine kB 17 18 m ?_;refine aj (rs:=[19]) (by kernel_rfl) (by simp) ?_;refine Ee rfl (by decide) (fun K hK=>?_) Ed;go_simp;refine hK.out _ _ ?_;clear hK K;(try clear m);(try simp only[aq]);refine au (by kernel_rfl) ?_ _;refine D1 ?_;(try go_simp);(try clear m);have bv:=Dj (cm.out _ _ f6);clear b0 f6 cm L;go_wp2;go_roundw
            case rel=>exact⟨f,bv.out⟩
            case measure=>rw[hf.out];exact Nat.lt_succ_of_le (mL bv.out)
          · as_aux_lemma =>
            have bT:=DY x9.heap.size x9;have p:=b0.box;have y:=b0.sol;have A:Below x9.heap.size x9 x9.drew:=(DY _ _).drew;replace p:=p.keep A;replace y:=y.below A;replace bT:=Di bT A;clear A;go_wp2_with fail;refine DZ ?_;refine aw (J:=[19]) (S:=fun w'=>w'.cell? ⟨w.heap.size,0,none⟩=some (.pointer (some ⟨S.gs,0,none⟩))∧w'.cell? ⟨S.gs,11,none⟩=some (.slice (some ⟨gw,0,none⟩) s3.dm.length cw)) (by kernel_rfl) (⟨D9 p 0,(y.b.cells.2.2.2.2.2.2.2.2.2.2.2.1).trans (by rw[←L.out])⟩) (fun m=>?_);refine mN 0 2 3 4 5 6 7 9 m ?_;refine py 10 11 12 13 m ?_;refine kB 14 15 m ?_;refine dg 1 rfl fun K hK=>?_;have U:=b0.below my bT;obtain⟨v1,z1,A7,n7,c7,z2,z9,b5,d2,cy,Y,ch,cl,kf,e7,f6⟩:=U.cutM (j:=j) (g:=gw) (c:=cw) gc.out L.out (by have:=o6.out;omega) H.out (Ds my bT.size) ⟨gw,j1*3,none⟩ (.inl (by rw[X.out])) cw (cw-j1);rw[←X.out] at Y;clear U;obtain⟨u1,cd,G,j0,V⟩:=ag x9.drew #[] 28;replace V:Blk u1 x9.heap.size 28 #[]:=V
            replace p:=p.keep G;replace y:=y.below G;rw[cd] at b5;go_simp;refine hK.out _ _ (⟨D9 p 0,(y.b.cells.2.2.2.2.2.2.2.2.2.2.2.1).trans (by rw[←L.out])⟩) (fun m=>?_);clear hK K;(try simp only[aq]);refine dg 8 rfl fun K hK=>?_;refine aG (T:=22) rfl (.tmp 119) (.tmp 125) rfl rfl rfl rfl b5 ?_;clear b5 p y bT;refine hK.out _ _ (⟨d2,cy.trans (by rw[←L.out])⟩) (fun m=>?_);clear hK K;(try simp only[aq]);refine dg 16 rfl fun K hK=>?_;refine aG (T:=22) rfl (.tmp 126) (.tmp 133) rfl rfl rfl rfl Y ?_;clear Y;refine hK.out _ _ (⟨ch,cl.trans (by rw[←L.out])⟩) (fun m=>?_);clear hK K;(try simp only[aq]);refine kB 17 18 m ?_;refine aj (rs:=[19]) (by kernel_rfl) (by simp) ?_;refine Ee rfl (by decide) (fun K hK=>?_) Ed;go_simp;refine hK.out _ _ ?_;clear hK K;(try clear m);(try simp only[aq]);refine au (by kernel_rfl) ?_ _;refine D1 ?_;(try go_simp);(try clear m);have bv:=Dj (cm.out _ _ f6);clear b0 f6 cm L;go_wp2;go_roundw
            case rel=>exact⟨f,bv.out⟩
            case measure=>rw[hf.out];exact Nat.lt_succ_of_le (mL bv.out)
end Go.Proofs.YtjhkapjadfpimaaGreat
