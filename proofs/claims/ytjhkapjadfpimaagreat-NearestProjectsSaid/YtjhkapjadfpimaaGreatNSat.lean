/- Contracts of functions, for the law. -/
import Derived.Test.YtjhkapjadfpimaaGreatNSeg
import Derived.Test.YtjhkapjadfpimaaGreatNRun
import Derived.Defers
import Derived.Recover
import Derived.WalkMore
namespace Go.Proofs.YtjhkapjadfpimaaGreat
set_option linter.unusedVariables false
set_option linter.unusedSimpArgs false
open Go.RowKit Plain
attribute [local go_sem ↓] Go.wp_at_zero Go.wp_at_succ
set_option maxRecDepth 100000
set_option maxHeartbeats 40000000
def RetSat (S:Sv) (r:Option St) (B:Nat) (W:World) (e:Ending) (w':World):Prop :=
 ∃ s':Sm,e=.returned (.bool r.isSome)∧SolM S s' (.pointer none) w'∧Hid (∀ t,r=some t→s'.st=t)∧Below B W w'
theorem nX {gb gs:Nat}{u:FrameMode}{w:World}{x:Value}(hb:w.cell? ⟨gb,0,none⟩=some (.pointer (some ⟨gs,0,none⟩))) (hx:w.cell? ⟨gs,12,none⟩=some x) (hf:w.frozen? ⟨gs,12,none⟩=false) :
 CallsD Tryz.prog 72 #[.pointer (some ⟨gb,0,none⟩)] u w fun e u' w'=>u'=u∧(e=.returned (.tuple #[])∧w'=w.setCell ⟨gs,12,none⟩ (.pointer none)):=by
 go_enter_d Tryz.func72,Tryz.ntmps72
 go_wp2
 go_end0
 exact⟨rfl,rfl⟩
structure SatI (S:Sv) (aS:Addr) (k gb gm B:Nat) (root:World) (s:Sm) (md:FrD) (w:World):Prop where
 sol:SolM S s (.pointer (some (aS.add (k*4)))) w
 box:Blk w gb 61 #[.pointer (some ⟨S.gs,0,none⟩)]
 var:VarQ w gm md
 fv:FV w md.v md.q
 ne:∀ g,s.vm.ownBlock=some g→g≠gm
 bel:Below B root w
theorem SatI.below {S:Sv}{aS:Addr}{k gb gm B:Nat}{root:World}{s:Sm}{md:FrD}{w w':World}(h:SatI S aS k gb gm B root s md w) (hB:B≤w.heap.size) (hb:Below w.heap.size w w'):SatI S aS k gb gm B root s md w' :=
 ⟨h.sol.below hb,h.box.keep hb,h.var.below hb,h.fv.below hb,h.ne,h.bel.trans (hb.mono hB)⟩
def mQ (S:Sv) (aS:Addr) (k gb gm B:Nat) (root:World) (r:Option St) (f:Nat) (w:World):Prop:=∃ (s:Sm) (md:FrD),SatI S aS k gb gm B root s md w∧aZ KN S.n (S.cs.map CoD.con) k f s.st md.q=some r
theorem uF {K n k f:Nat}{all:List Con}{s:St}{m:Rat}{r:Option St}(h:aZ K n all k (f+1) s m=some r):OkS K n all s∧Fits K m∧∃ z lev rates,mJ n all s.active k=some (z,lev,rates) ∧
 (if 0<F8 z (nrm all k)∧((F5 s.mults rates rates.length).1=none∨L7 all k s.x z≤(F5 s.mults rates rates.length).2) then
  r=some ⟨(G4 s z lev rates (L7 all k s.x z)).x,(G4 s z lev rates (L7 all k s.x z)).level,s.active++[k],(G4 s z lev rates (L7 all k s.x z)).mults++[m+L7 all k s.x z]⟩
 else match (F5 s.mults rates rates.length).1 with
  | none=>r=none
  | some j=>aZ K n all k f (U9 (G4 s z lev rates (F5 s.mults rates rates.length).2) j) (m+(F5 s.mults rates rates.length).2)=some r):=by
 have h0:(if xK K n all s=true∧aW K m=true then
  match dL n all k s m with
  | none=>none
  | some none=>some none
  | some (some (true,t,m'))=>some (some ⟨t.x,t.level,t.active++[k],t.mults++[m']⟩)
  | some (some (false,t,m'))=>aZ K n all k f t m'
  else none)=some r:=h
 by_cases hc:xK K n all s=true∧aW K m=true
 · rw[if_pos hc] at h0;refine⟨okS_iff.1 hc.1,fitsB_iff.1 hc.2,?_⟩;unfold dL at h0
   cases e:mJ n all s.active k with
   | none=>rw[e] at h0;cases h0
   | some p =>
    obtain⟨z,lev,rates⟩:=p;rw[e] at h0;refine⟨z,lev,rates,rfl,?_⟩;dsimp only at h0
    by_cases hf:0<F8 z (nrm all k)∧((F5 s.mults rates rates.length).1=none∨L7 all k s.x z≤(F5 s.mults rates rates.length).2)
    · rw[if_pos hf] at h0 ⊢
      injection h0 with h0
      exact h0.symm
    · rw[if_neg hf] at h0 ⊢
      cases e2:(F5 s.mults rates rates.length).1 with
      | none=>rw[e2] at h0;injection h0 with h0;exact h0.symm
      | some j=>rw[e2] at h0;exact h0
 · rw[if_neg hc] at h0;cases h0
theorem dir_len {n k:Nat}{all:List Con}{A:List Nat}{z rates:List Rat}{lev:Rat}(h:ConI n all) (hA:∀ a∈A,a<all.length) (hk:k<all.length) (hd:mJ n all A k=some (z,lev,rates)):z.length=n∧rates.length=A.length:=by
 have hM:=t8 n all A;have hr:=F9 (n:=n) h.len hA;unfold mJ at hd
 cases e:G6 (M2 (j8 n all A)) (M4 (j8 n all A) (nrm all k)) with
 | none=>rw[e] at hd;cases hd
 | some r =>
  rw[e] at hd
  injection hd with hd
  injection hd with h1 hd
  injection hd with h2 h3
  have hf:=Q0 (L6 (j8 n all A)) (by rw[C8,hM];omega);have h4:=(cL hf.1 (by rw[J6,C8]) e).1;rw[hf.2,hM] at h4;exact⟨by rw[←h1];exact (dZ hr (h.len.nrm hk) _ (a1u _)).1,by rw[←h3,a2d,h4];omega⟩
theorem SolM.con {S:Sv}{s:Sm}{ent:Value}{w:World}(h:SolM S s ent w){aS:Addr}{k:Nat}{c0:CoD}(hSA:S.A=some aS) (hck:S.cs[k]?=some c0) (i:Fin 4):w.cell? (if i=0 then aS.add (k*4) else ⟨(aS.add (k*4)).block,(aS.add (k*4)).off+i.val,none⟩)=some (c0.cells.getD i.val undef):=by
 obtain⟨a,d,ea,c,h0,h1,h2,h3,h4,h5,h6⟩:=h.b.all.at (a2e.1 hck).1;rw[hSA] at ea
 cases ea
 have e:d=c0:=by have h7:=h6.out;rw[hck] at h7;injection h7 with h7;exact h7.symm
 subst e
 match i with
 | 0=>exact h0
 | 1=>exact h1
 | 2=>exact h2
 | 3=>exact h3
section
variable {S:Sv}{aS:Addr}{k gb gm B:Nat}{root:World}{s:Sm}{md:FrD}{w:World}
theorem SatI.hE (h:SatI S aS k gb gm B root s md w):∀ x,(Value.pointer (some (aS.add (k*4))))≠.int .u32 x:=fun x e=>by cases e
theorem SatI.gbs (h:SatI S aS k gb gm B root s md w):gb≠S.gs:=h.box.ne_type h.sol.b.blk (by decide)
theorem SatI.gms (h:SatI S aS k gb gm B root s md w):gm≠S.gs:=a4p h.var h.sol.b.blk (by decide)
theorem SatI.pushA (h:SatI S aS k gb gm B root s md w) (hl:s.ia.length≤1000) (hB1:B≤S.gs) (hBR:B≤S.R) (hB:B≤w.heap.size) :
 ∃ A n c w6 w9,(Builtin.append_ #[72,72] 72 #[s.va,.slice (some ⟨w.heap.size,0,none⟩) 1 1]).run Tryz.prog (w.alloc (.cells #[.int .i64 (k:Int)] 3))=.ok (.slice A n c) w6∧w6.cell? ⟨gb,0,none⟩=some (.pointer (some ⟨S.gs,0,none⟩))∧w6.cell? ⟨S.gs,10,none⟩=some s.va∧w6.frozen? ⟨S.gs,10,none⟩=false ∧
  w6.setCell ⟨S.gs,10,none⟩ (.slice A n c)=w9∧SatI S aS k gb gm B root { s with va:=.slice A n c,ia:=s.ia++[k] } md w9:=by
 obtain⟨v6,w6,w9,hr,d,f,e9,h9,ht,o9⟩:=h.sol.pushA h.hE k hl;obtain⟨A,n,c,ev⟩:∃ A n c,v6=.slice A n c:=by obtain⟨A,c,e,-⟩:=h9.act.form;exact⟨A,_,c,e⟩
 subst ev
 have b:=h.box.trn ht fun e=>by
  obtain⟨l,k1,k2⟩:=h.sol.act.2 _ e;exact k1.ne_type h.box (by decide) rfl
 have j:VarQ w6 gm md:=h.var.trn ht fun e=>by
  obtain⟨l,k1,k2⟩:=h.sol.act.2 _ e;exact k1.ne_type h.var (by decide) rfl
 refine⟨A,n,c,w6,w9,hr,a4e b 0,d.cells.2.2.2.2.2.2.2.2.2.2.1,f,e9,h9,b.only o9 h.gbs,j.only o9 h.gms,(h.fv.trn ht).only_blk d.blk (SolB.noDig h.sol.vaU h.sol.vmU h.hE) o9,h.ne,?_⟩;exact o9.to_below (ht.to_below h.bel hB fun g hg=>a1t hBR (h.sol.act.block hg)) hB1 (a1t hB ht.size)
theorem SatI.pushM (h:SatI S aS k gb gm B root s md w) (hl:s.dm.length≤1000) (hB1:B≤S.gs) (hBR:B≤S.R) (hB:B≤w.heap.size) :
 ∃ A n c w6 w9,(Builtin.append_ #[22,22] 22 #[s.vm,.slice (some ⟨w.heap.size,0,none⟩) 1 1]).run Tryz.prog (w.alloc (.cells #[.bool md.neg,.slice md.a md.la.length md.ca,.slice md.b md.lb.length md.cb] 28))=.ok (.slice A n c) w6∧w6.cell? ⟨gb,0,none⟩=some (.pointer (some ⟨S.gs,0,none⟩))∧w6.cell? ⟨S.gs,11,none⟩=some s.vm∧VarQ w6 gm md∧w6.frozen? ⟨S.gs,11,none⟩=false ∧
  w6.setCell ⟨S.gs,11,none⟩ (.slice A n c)=w9∧SolM S { s with vm:=.slice A n c,dm:=s.dm++[md] } (.pointer (some (aS.add (k*4)))) w9∧Blk w9 gb 61 #[.pointer (some ⟨S.gs,0,none⟩)]∧Below B root w9∧B≤w9.heap.size:=by
 obtain⟨v6,w6,w9,hr,l,f,e9,h9,ht,o9⟩:=h.sol.pushM h.hE h.fv hl;obtain⟨A,n,c,ev⟩:∃ A n c,v6=.slice A n c:=by obtain⟨A,c,e,-⟩:=h9.mul.fl h9.mf;exact⟨A,_,c,e⟩
 subst ev
 have d:=h.box.trn ht fun e=>by
  obtain⟨m,k1,k2⟩:=h.sol.mul.2 _ e;exact k1.ne_type h.box (by decide) rfl
 have j:VarQ w6 gm md:=h.var.trn ht fun e=>h.ne _ e rfl;exact⟨A,n,c,w6,w9,hr,a4e d 0,l.cells.2.2.2.2.2.2.2.2.2.2.2.1,j,f,e9,h9,d.only o9 h.gbs,o9.to_below (ht.to_below h.bel hB fun g hg=>a1t hBR (h.sol.mul.block hg)) hB1 (a1t hB ht.size),a1t hB (a1t ht.size o9.size)⟩
end
section
variable {S:Sv}{aS:Addr}{k gb gm B:Nat}{root:World}{s:Sm}{md:FrD}{w:World}
theorem SatI.formA (h:SatI S aS k gb gm B root s md w){j:Nat}(hj:j<s.ia.length):∃ g c,s.va=.slice (some ⟨g,0,none⟩) s.ia.length c∧s.ia.length≤c∧c≤9223372036854775807:=by
 have d:maxLen=9223372036854775807:=rfl
 rcases h.sol.act.1.2 with ⟨e,h0⟩ | ⟨g,b,f,e,hb,hg,hn,hm,hs,ht⟩
 · omega
 · exact⟨g,b,e,hn,by omega⟩
theorem SatI.formM (h:SatI S aS k gb gm B root s md w){j:Nat}(hj:j<s.dm.length):∃ g c,s.vm=.slice (some ⟨g,0,none⟩) s.dm.length c∧s.dm.length≤c∧c≤9223372036854775807:=by
 obtain⟨g,c,e⟩:=h.sol.vform hj;have hm:=h.sol.mul;rw[e] at hm;obtain⟨b,k1,k2,k3,k4,k5,k6⟩:=hm.xo.2.2;exact⟨g,c,e,k3,k4⟩
theorem SatI.cutA (h:SatI S aS k gb gm B root s md w){j g c:Nat}(hj:j<s.ia.length) (ev:s.va=.slice (some ⟨g,0,none⟩) s.ia.length c) (hl:s.ia.length≤1000) (hB1:B≤S.gs) (hB:B≤w.heap.size) (ad:Addr) (had:(ad=⟨g,j+1,none⟩)∨s.ia.length=j+1∧ad.block=g) (c1 c2:Nat) :
 ∃ v1 w1 A n c' w2 w9,(Builtin.append_ #[72,72] 72 #[.slice (some ⟨w.heap.size,0,none⟩) 0 0,.slice (some ⟨g,0,none⟩) j c1]).run Tryz.prog (w.alloc (.cells #[] 3))=.ok v1 w1∧w1.cell? ⟨gb,0,none⟩=some (.pointer (some ⟨S.gs,0,none⟩))∧w1.cell? ⟨S.gs,10,none⟩=some s.va ∧
  (Builtin.append_ #[72,72] 72 #[v1,.slice (some ad) (s.ia.length-(j+1)) c2]).run Tryz.prog w1=.ok (.slice A n c') w2∧w2.cell? ⟨gb,0,none⟩=some (.pointer (some ⟨S.gs,0,none⟩))∧w2.cell? ⟨S.gs,10,none⟩=some s.va∧w2.frozen? ⟨S.gs,10,none⟩=false ∧
  w2.setCell ⟨S.gs,10,none⟩ (.slice A n c')=w9∧SatI S aS k gb gm B root { s with va:=.slice A n c',ia:=s.ia.take j++s.ia.drop (j+1) } md w9:=by
 have hA:=h.sol.act;rw[ev] at hA;obtain⟨v1,w1,v2,w2,r1,b1,r2,o2,b2⟩:=run_cutI hA hj hl ad had c1 c2;have h1:=h.sol.below b1;have h2:=h.sol.below b2;obtain⟨A,n,c',e2⟩:∃ A n c,v2=.slice A n c:=by obtain⟨A,c,e,-⟩:=o2.form;exact⟨A,_,c,e⟩
 subst e2;obtain⟨w9,f,e9,h9,o9⟩:=h2.newAct h.hE (o2.rebase h.sol.b.hR);have d:=h.box.keep b2;have l:=h.var.below b2;exact⟨v1,w1,A,n,c',w2,w9,r1,a4e (h.box.keep b1) 0,h1.b.cells.2.2.2.2.2.2.2.2.2.2.1,r2,a4e d 0,h2.b.cells.2.2.2.2.2.2.2.2.2.2.1,f,e9,h9,d.only o9 h.gbs,l.only o9 h.gms,(h.fv.below b2).only_blk h2.b.blk (SolB.noDig h.sol.vaU h.sol.vmU h.hE) o9,h.ne,o9.to_below (h.bel.trans (b2.mono hB)) hB1 (a1t hB b2.size)⟩
theorem SatI.cutM (h:SatI S aS k gb gm B root s md w){j g c:Nat}(hj:j<s.dm.length) (ev:s.vm=.slice (some ⟨g,0,none⟩) s.dm.length c) (hl:s.dm.length≤1000) (hB1:B≤S.gs) (hB:B≤w.heap.size) (ad:Addr) (had:(ad=⟨g,(j+1)*3,none⟩)∨s.dm.length=j+1∧ad.block=g) (c1 c2:Nat) :
 ∃ v1 w1 A n c' w2 w9,(Builtin.append_ #[22,22] 22 #[.slice (some ⟨w.heap.size,0,none⟩) 0 0,.slice (some ⟨g,0,none⟩) j c1]).run Tryz.prog (w.alloc (.cells #[] 28))=.ok v1 w1∧w1.cell? ⟨gb,0,none⟩=some (.pointer (some ⟨S.gs,0,none⟩))∧w1.cell? ⟨S.gs,11,none⟩=some s.vm ∧
  (Builtin.append_ #[22,22] 22 #[v1,.slice (some ad) (s.dm.length-(j+1)) c2]).run Tryz.prog w1=.ok (.slice A n c') w2∧w2.cell? ⟨gb,0,none⟩=some (.pointer (some ⟨S.gs,0,none⟩))∧w2.cell? ⟨S.gs,11,none⟩=some s.vm∧w2.frozen? ⟨S.gs,11,none⟩=false ∧
  w2.setCell ⟨S.gs,11,none⟩ (.slice A n c')=w9∧SatI S aS k gb gm B root { s with vm:=.slice A n c',dm:=s.dm.take j++s.dm.drop (j+1) } md w9:=by
 have hm:=h.sol.mul;rw[ev] at hm;obtain⟨v1,w1,v2,w2,r1,b1,r2,o2,b2⟩:=run_cutQ (n:=0) (c:=c) hm.xo.2.2 hj h.sol.mf hl ad had c1 c2;have h1:=h.sol.below b1;have h2:=h.sol.below b2;have l:AllFV w2 (s.dm.take j++s.dm.drop (j+1)):=fun d hd=>(h.sol.mf d (oN hd)).below b2;obtain⟨A,n,c',e2⟩:∃ A n c,v2=.slice A n c:=by obtain⟨A,c,e,-⟩:=o2.fl l;exact⟨A,_,c,e⟩
 subst e2;obtain⟨w9,f,e9,h9,o9⟩:=h2.newMul h.hE (o2.rebase h.sol.b.hR) l;have m:=h.box.keep b2;have p:=h.var.below b2;exact⟨v1,w1,A,n,c',w2,w9,r1,a4e (h.box.keep b1) 0,h1.b.cells.2.2.2.2.2.2.2.2.2.2.2.1,r2,a4e m 0,h2.b.cells.2.2.2.2.2.2.2.2.2.2.2.1,f,e9,h9,m.only o9 h.gbs,p.only o9 h.gms,(h.fv.below b2).only_blk h2.b.blk (SolB.noDig h.sol.vaU h.sol.vmU h.hE) o9,fun g' o=>by have h3:=o2.block o;have h4:=Blk.lt h.var;omega,o9.to_below (h.bel.trans (b2.mono hB)) hB1 (a1t hB b2.size)⟩
end
theorem SatI.put {S:Sv}{aS:Addr}{k gb gm B:Nat}{root:World}{s:Sm}{md m2:FrD}{w w9:World}(h:SatI S aS k gb gm B root s md w) (o:Only w w9 gm) (hv:VarQ w9 gm m2) (hm:FV w m2.v m2.q) (hR:S.R≤gm) (hBg:B≤gm) (hgb:gb≠gm) (hB:B≤w.heap.size):SatI S aS k gb gm B root s m2 w9 where
 sol:=⟨h.sol.b.far hR h.var (k7 _ _ _ _ _ _ _) o,h.sol.act.far (fun g' hg'=>by
  obtain⟨cur,k1,k2⟩:=h.sol.act.2 g' hg';exact k1.ne_type h.var (by decide)) o,h.sol.mul.far h.ne o,fun x hx=>(h.sol.mf x hx).onlyV h.var o⟩
 box:=h.box.only o hgb
 var:=hv
 fv:=hm.onlyV h.var o
 ne:=h.ne
 bel:=o.to_below h.bel hBg hB
def stopB (o:Option Nat) (full:Bool):Bool:=o.isNone && !full
theorem rQ {S:Sv}{s:Sm}{k f0 B:Nat}{r:Option St}{w:World}(h:SolM S s (.pointer none) w) (hk:k<S.cs.length) (hc0:ConI S.n (S.cs.map CoD.con)) (hn:S.n≤8) (hr0:aZ KN S.n (S.cs.map CoD.con) k f0 s.st 0=some r) (hB1:B≤S.gs) (hB2:B≤S.gx) :
 Calls Tryz.prog 46 #[.pointer (some ⟨S.gs,0,none⟩),.int .i64 (k:Int)] w (RetSat S r B w):=by
 have hc:=a1k hc0;have hr:=a1k hr0;clear hc0 hr0;obtain⟨w1,hw1,b1,l1,BX⟩:=f8 w #[.pointer (some ⟨S.gs,0,none⟩)] 61;have z6:=h.below b1;obtain⟨s0,s1,s2,s3,s4,s5,s6,s7,s8,s9,s10,s11,s12⟩:=z6.b.cells;obtain⟨aS,d9,hY,hab9,g0,g1,g2,g3,hfl9,hfv9,hck9⟩:=z6.b.all.at hk;have p4:=a1k hY;rw[hY] at s2;have hki:(k:Int)<(S.cs.length:Int):=by omega
 have hb0:w1.cell? ⟨w.heap.size,0,none⟩=some (.pointer (some ⟨S.gs,0,none⟩)):=a4e BX 0;have he0:∀ x,(Value.pointer none)≠.int .u32 x:=fun x e=>by cases e
 have he0':=a1k he0;have hE:=a1k (show ∀ x,(Value.pointer (some (aS.add (k*4))))≠.int .u32 x from fun x e=>by cases e);obtain⟨w2,f2,e2,hS2,o2⟩:=z6.setEnt he0 (.pointer (some (aS.add (k*4))));have hmf:∀ (fn:Fn) (first cap:Array Value) (w:World),(Instr.makeFunc fn first cap).run Tryz.prog w=.ok (.func fn first cap) w:=fun _ _ _ _=>rfl;have hO:=h.b.hs;have hRw:=h.b.hR;have fT:=h.b.hx;have hQ:Blk w2 w.heap.size 61 #[.pointer (some ⟨S.gs,0,none⟩)]:=BX.only o2 (by omega);have z5:Below B w w2:=o2.to_below (b1.mono (by omega)) hB1 (by have:=b1.size;omega);have p3:=a1k (show S.R≤w.heap.size from hRw);have yE:=a1k hk;have c5:=a1k hO;have q6:=a1k fT;have hbr:=b1.size;have L:=a1k hB1;have hB2':=a1k hB2;have vM:=a1k (show w.heap.size<w2.heap.size by have:=o2.size;omega);clear he0 hfl9 hfv9 hck9 hY z6 hO hRw fT BX o2 b1
 go_enter_defers Tryz.func46,Tryz.ntmps46
 go_wp2
 go_step3
 go_wp2
 go_region
 clear s0 s1 s2 s3 s4 s5 s6 s7 s8 s9 s10 s11 s12 g0 g1 g2 g3;go_wp2_with fail;refine (r7 0 _ (by decide) (by decide)).mono ?_;rintro e w3 ⟨v3,rfl,hv3,b3⟩;obtain⟨zz,rfl,hz,hzq⟩:=hv3.frd;clear hv3;obtain⟨wA,w4,eA,p0,p1,p2,r0,r1,r2,eB,hV4,b4,l4⟩:=D5 w3 zz;have hS3:=(hS2.below (a3t _ _).drew).below b3;have hS4:=hS3.below b4;have y5:=z5.drew.trans (b3.mono (by have:=vM.out;have:=L.out;have:=c5.out;have:=p3.out;show B≤w2.heap.size;omega));have v5:=y5.trans (b4.mono (by have:=vM.out;have h33:w2.heap.size≤w3.heap.size:=b3.size;have:=L.out;have:=c5.out;have:=p3.out;omega));have hU:=(a4f (a4f hQ (a3t _ _).drew) b3).keep b4;have h3s:w2.heap.size≤w3.heap.size:=b3.size;have r6:=a1k (show w.heap.size<w3.heap.size by have:=vM.out;omega);have hI4:SatI S aS k w.heap.size w3.heap.size B w s zz w4:=⟨hS4,hU,hV4,hz.below b4,fun g hg=>by have:=h.wlt g (.inr (.inr hg));have:=r6.out;omega,v5⟩;have hst:mQ S aS k w.heap.size w3.heap.size B w r f0 w4:=⟨s,zz,hI4,by rw[hzq.out];exact hr.out⟩;clear hI4 hU v5 y5 hS4 hS3 hV4 hz hQ z5 hb0 e2 f2 hS2;have k6:=a1k (show B≤S.R by have:=L.out;have:=c5.out;omega);go_wp2
 go_step3
 go_wp2;clear p0 p1 p2 r0 r1 r2 eA eB
 go_loopw [137] (fun v wr=>∃ f,mQ S aS k w.heap.size w3.heap.size B w r f wr) (fun _ wr=>leastN fun f=>mQ S aS k w.heap.size w3.heap.size B w r f wr)
 case atStart=>exact⟨f0,hst⟩
 case round =>
  clear hst;obtain⟨f,hf⟩:∃ f,Hid (leastN (fun f=>mQ S aS k w.heap.size w3.heap.size B w r f wr)=f):=⟨_,rfl⟩;have p5:=nY hrel;rw[hf.out] at p5;obtain⟨s1,md,hI,y6⟩:=p5
  cases f with
  | zero=>cases y6
  | succ f =>
   obtain⟨m0,gB,z,lev,E,v2,y9⟩:=uF y6;have c2:=a1k m0;have hmF:=a1k gB;have y3:=a1k v2;have t3:=a1k y9;have hal:s1.ia.length≤7:=m0.la;have hB:=a1k (show ∀ a∈s1.ia,a<S.cs.length from fun a ha=>by have h1:=m0.act a ha;rw[a1s] at h1;exact h1);clear y6 m0 gB v2 y9 hrel;have hBw:B≤wr.heap.size:=a1t k6.out hI.sol.b.hR;obtain⟨c0,d4⟩:∃ c0,Hid (S.cs[k]?=some c0):=⟨_,a1m yE.out⟩;have n0:=a1k (show k<(S.cs.map CoD.con).length by rw[a1s];exact yE.out);have v6:=a1k (show ∀ a∈s1.ia,a<(S.cs.map CoD.con).length from fun a ha=>by rw[a1s];exact hB.out a ha);have n2:=a1k (dir_len hc.out v6.out n0.out y3.out);have f6:=a1k (mI hc.out v6.out n0.out hn (by omega) y3.out);have j4:=a1k (show nrm (S.cs.map CoD.con) k=c0.r.ds.map FrD.q by rw[Q1 (c:=c0.con) (by rw[a1r,d4.out];rfl)];rfl);have fL:=a1k (show lst (S.cs.map CoD.con) k=c0.l.q by rw[eR (c:=c0.con) (by rw[a1r,d4.out];rfl)];rfl);have hcn:=a1k (show c0.r.ds.length=S.n by have h1:=hc.out.len.nrm n0.out;rw[j4.out,a1s] at h1;exact h1);have n9:=a1k (show QFits 1 (c0.r.ds.map FrD.q) from fun q hq=>by rw[←j4.out] at hq;exact (hc.out.nrmk n0.out q hq).fits (by decide))
   have hwl:=a1k hI.sol.wlt;have hvmR:=a1k (fun g (hg:s1.vm.ownBlock=some g)=>hI.sol.mul.block hg);have f5:=a4e hI.box 0;have hdr:=mH hI.sol p4.out yE.out hc.out hn hB.out (by omega) y3.out;go_wp2_with fail;refine hdr.mono ?_;rintro e wa ⟨Z,cz,zs,R,cr,rs,l,rfl,hfz,hfr,hfl,F,hZn,hRn,ba⟩;clear hdr f5;have hIa:=hI.below hBw ba;have hBa:B≤wa.heap.size:=a1t hBw ba.size;obtain⟨wA,wb,eA,p0,p1,p2,r0,r1,r2,eB,hLb,bb,lb⟩:=D5 wa l;have cM:=hIa.below hBa bb;have hBb:B≤wb.heap.size:=a1t hBa bb.size;have f5:=a4e cM.box 0
   have p5:=a1k (show s1.dm.length=rs.length by
    have h1:=c2.out.lm;have h2:=n2.out.2;rw[←F.out.2.2,a1s] at h2;have h3:(s1.dm.map FrD.q).length=s1.ia.length:=h1;rw[a1s] at h3
    omega)
   have hlm:=a0c cM.sol (hfr.below bb) p5.out c2.out.mults (fun q hq=>f6.out.1 q (a2n _ (by rw[←F.out.2.2];exact hq)));have hZn':=a1k hZn;have hRn':=a1k hRn;clear hI hIa hZn hRn;go_wp2_with fail;refine hlm.mono ?_;rintro e wl ⟨d,rfl,z3,bc⟩;clear hlm f5 p0 p1 p2 r0 r1 r2 eA eB;obtain⟨o,T,k0⟩:∃ o T,Hid (F5 (s1.dm.map FrD.q) (rs.map FrD.q) rs.length=(o,T)):=⟨_,_,rfl⟩;rw[k0.out] at z3 ⊢;have v9:=cM.below hBb bc;have bA:B≤wl.heap.size:=a1t hBb bc.size;have bV:=hLb.below bc;have h0:=(hfz.below bb).below bc;have m1:=(hfr.below bb).below bc;have l8:=(hfl.below bb).below bc;obtain⟨wA,wd,eA,p0,p1,p2,r0,r1,r2,eB,hTd,bd,ld⟩:=D5 wl d;have n1:=v9.below bA bd;have f5:=a4e n1.box 0;have hb2:=n1.sol.b.cells.2.2.2.2.2.2.2.2.2.2.2.2;have hb3:wd.cell? (aS.add (k*4))=some (.slice c0.r.a c0.r.ds.length c0.r.c):=n1.sol.con p4.out d4.out 0;have hzl:=a1k (show zs.length=S.n by have h1:=n2.out.1;rw[←F.out.1,a1s] at h1;exact h1);have hzf:=a1k (show ∀ d∈zs,Fits 699067 d.q from QFits.fr0 (by rw[F.out.1];exact f6.out.2));have hnf7:=a1k (show ∀ d∈c0.r.ds,Fits 699067 d.q from fun d hd=>(QFits.fr0 n9.out d hd).mono (by decide));have bP:=V0 (K:=699067) (h0.below bd) (n1.sol.b.all.fl c0 (a1n d4.out)) hzf.out hnf7.out (by rw[hzl.out];have h1:=a1y (699067+699067+1) (show S.n+1≤9 by omega);omega)
   rw[show o5 (U3 zs c0.r.ds)=F8 z (nrm (S.cs.map CoD.con) k) by rw[X5,F.out.1,j4.out]] at bP;obtain⟨sp,d8⟩:∃ sp,Hid (F8 z (nrm (S.cs.map CoD.con) k)=sp):=⟨_,rfl⟩;rw[d8.out] at bP;go_wp2_with fail;refine bP.mono ?_;rintro e we ⟨vs,rfl,b0,be⟩;obtain⟨N,rfl,hP,g6⟩:=b0.frd;clear bP b0 f5 hb2 hb3 p0 p1 p2 r0 r1 r2 eA eB;obtain⟨wA,wf,eA,p0,p1,p2,r0,r1,r2,eB,vB,bf,lf⟩:=D5 we N;have p6:=hP.below bf;obtain⟨y0,y1,y2⟩:=vB.cells;obtain⟨sg,hsg⟩:∃ s',Hid (D0 sp 0=s'):=⟨_,rfl⟩;have lB:=F4 p6;rw[g6.out,hsg.out] at lB;go_wp2_with fail;refine lB.mono ?_;rintro e wg ⟨rfl,bg⟩;clear lB p0 p1 p2 r0 r1 r2 eA eB y0 y1 y2;have lE:B≤wd.heap.size:=a1t bA bd.size;have V:=((n1.below lE be).below (a1t lE be.size) bf).below (a1t (a1t lE be.size) bf.size) bg;have bZ:=((hTd.below be).below bf).below bg;have n3:=vB.below bg;have C:=p6.below bg;have bcg:Below wl.heap.size wl wg:=(((a1j bd be)).trans (bf.mono (a1t bd.size be.size))).trans (bg.mono (a1t (a1t bd.size be.size) bf.size));obtain⟨ft,cU⟩:∃ ft,Hid (L7 (S.cs.map CoD.con) k (s1.dx.map FrD.q) z=ft):=⟨_,rfl⟩
   have hF:=a1k (show Fits 190000000 ft by
    rw[←cU.out];have e1:Fits 2 (lst (S.cs.map CoD.con) k):=hc.out.lstk n0.out;have e2:Fits (1+8*(KN+KN+1)) (F8 (nrm (S.cs.map CoD.con) k) (s1.dx.map FrD.q)):=by rw[j4.out];exact Y9 (n9.out.mono (by decide)) c2.out.x (by rw[a1s,hcn.out];exact hn)
    have e3:Fits (1+8*(699067+699067+1)) (F8 z (nrm (S.cs.map CoD.con) k)):=by rw[j4.out];exact Y9 f6.out.2 (n9.out.mono (by decide)) (by rw[n2.out.1];exact hn)
    exact ((e1.sub e2).div e3).mono (by decide))
   clear cM n1 hTd vB p6 hP hLb hfz hfr hfl
   go_upto_if 49 with fail
   go_cut [12,13,14] from 26 to 138 (fun v _x13 _x14 wx=>∃ (I:Bool) (sd:FrD),v=.bool I∧VarQ wx wl.heap.size sd∧Hid (I=true→(0<sp∧(o=none∨ft≤T))∧FV wx sd.v sd.q∧sd.q=ft)∧Hid (I=false→¬ (0<sp∧(o=none∨ft≤T))∧(o≠none→FV wx sd.v sd.q∧sd.q=T))∧Below wl.heap.size wl wx)
   case first =>
    as_aux_lemma =>
    by_cases hs0:0<sg
    · have hd0:decide (0<sg)=true:=a1w hs0;have t6:=a1k (show 0<sp from cmpR_pos.1 (by rw[hsg.out];exact hs0));have M:FV wg c0.l.v c0.l.q:=V.sol.b.all.fv c0 (a1n d4.out);obtain⟨dq,hdq⟩:∃ dq,Hid (F8 (nrm (S.cs.map CoD.con) k) (s1.dx.map FrD.q)=dq):=⟨_,rfl⟩;have hT:=a1k (show o5 (U3 c0.r.ds s1.dx)=dq by rw[X5,←hdq.out,j4.out]);have hnf:=a1k (show ∀ d∈c0.r.ds,Fits KN d.q from fun d hd=>(QFits.fr0 n9.out d hd).mono (by decide));have hxf:=a1k (show ∀ d∈s1.dx,Fits KN d.q from QFits.fr0 c2.out.x);have hL:=a1k (show 1+(c0.r.ds.length+1)*(KN+KN+1)<400000000 by rw[hcn.out];show 1+(S.n+1)*20000001<400000000;have h2:(S.n+1)*20000001≤9*20000001:=a1y _ (by omega);omega);have k5:=a1k (show Fits 2 c0.l.q by rw[←fL.out];exact hc.out.lstk n0.out);have l2:=a1k (show Fits (1+8*(KN+KN+1)) dq by rw[←hdq.out,j4.out];exact Y9 (n9.out.mono (by decide)) c2.out.x (by rw[a1s,hcn.out];exact hn));have m4:=a1k (show Fits (1+8*(699067+699067+1)) N.q by rw[g6.out,←d8.out,j4.out];exact Y9 f6.out.2 (n9.out.mono (by decide)) (by rw[n2.out.1];exact hn));have m5:=a1k (show N.q≠0 by rw[g6.out];intro e;have h9:=t6.out;rw[e] at h9;exact Rat.lt_irrefl h9);have m3:=a1k (show (c0.l.q-dq) / N.q=ft by rw[←cU.out,g6.out,←d8.out,←hdq.out,←fL.out];rfl)
      go_upto_region 9 with fail
      go_cut [13,14] from 26 to 138 (fun v _x14 wx=>∃ g t,v=.pointer (some ⟨g,0,none⟩)∧VarQ wx g t∧FV wx t.v t.q∧Hid (t.q=ft)∧Below wg.heap.size wg wx∧wg.heap.size≤g)
      case first =>
       as_aux_lemma =>
       have bT:=a3t wg.heap.size wg
       have hS:∀ w',Below wg.heap.size wg w'→w'.cell? ⟨w.heap.size,0,none⟩=some (.pointer (some ⟨S.gs,0,none⟩))∧w'.cell? ⟨S.gs,12,none⟩=some (.pointer (some (aS.add (k*4))))∧w'.cell? ⟨S.gs,3,none⟩=some (.slice (some ⟨S.gx,0,none⟩) s1.dx.length S.cx)∧w'.cell? (aS.add (k*4))=some (.slice c0.r.a c0.r.ds.length c0.r.c)∧w'.cell? ⟨(aS.add (k*4)).block,(aS.add (k*4)).off+1,none⟩=some (.bool c0.l.neg)∧w'.cell? ⟨(aS.add (k*4)).block,(aS.add (k*4)).off+2,none⟩=some (.slice c0.l.a c0.l.la.length c0.l.ca)∧w'.cell? ⟨(aS.add (k*4)).block,(aS.add (k*4)).off+3,none⟩=some (.slice c0.l.b c0.l.lb.length c0.l.cb)∧w'.cell? ⟨we.heap.size,0,none⟩=some (.bool N.neg)∧w'.cell? ⟨we.heap.size,1,none⟩=some (.slice N.a N.la.length N.ca)∧w'.cell? ⟨we.heap.size,2,none⟩=some (.slice N.b N.lb.length N.cb)∧Below wg.heap.size wg w':=by
        intro w' o;exact⟨a4e (V.box.keep o) 0,(V.sol.below o).b.cells.2.2.2.2.2.2.2.2.2.2.2.2,(V.sol.below o).c3 rfl,(V.sol.below o).con p4.out d4.out 0,(V.sol.below o).con p4.out d4.out 1,(V.sol.below o).con p4.out d4.out 2,(V.sol.below o).con p4.out d4.out 3,(n3.below o).cells.1,(n3.below o).cells.2.1,(n3.below o).cells.2.2,o⟩
       have bo:Below wg.heap.size wg wg:=a3t _ _;have dS:Below wg.heap.size wg wg.drew:=bo.drew;go_wp2_with fail;refine a3u ?_;refine a3v (S:=fun w'=>w'.cell? ⟨w.heap.size,0,none⟩=some (.pointer (some ⟨S.gs,0,none⟩))∧w'.cell? ⟨S.gs,12,none⟩=some (.pointer (some (aS.add (k*4))))∧w'.cell? ⟨S.gs,3,none⟩=some (.slice (some ⟨S.gx,0,none⟩) s1.dx.length S.cx)∧w'.cell? (aS.add (k*4))=some (.slice c0.r.a c0.r.ds.length c0.r.c)∧w'.cell? ⟨(aS.add (k*4)).block,(aS.add (k*4)).off+1,none⟩=some (.bool c0.l.neg)∧w'.cell? ⟨(aS.add (k*4)).block,(aS.add (k*4)).off+2,none⟩=some (.slice c0.l.a c0.l.la.length c0.l.ca)∧w'.cell? ⟨(aS.add (k*4)).block,(aS.add (k*4)).off+3,none⟩=some (.slice c0.l.b c0.l.lb.length c0.l.cb)∧w'.cell? ⟨we.heap.size,0,none⟩=some (.bool N.neg)∧w'.cell? ⟨we.heap.size,1,none⟩=some (.slice N.a N.la.length N.ca)∧w'.cell? ⟨we.heap.size,2,none⟩=some (.slice N.b N.lb.length N.cb)∧Below wg.heap.size wg w') (by kernel_rfl) (hS _ dS) (fun m=>?_);refine mX 0 1 2 3 4 5 6 7 m ?_;refine mS 8 9 10 11 m ?_;refine K4 12 rfl m ?_
       refine mS 13 14 15 16 m ?_;refine P2 17 20 m ?_;refine a4b (rs:=[18,25]) (by kernel_rfl) (by simp) ?_;refine a3x rfl (fun K hK=>?_) ?_
       · go_simp;have A:Below wg.heap.size wg wg.drew:=(a3t _ _).drew;replace M:=M.below A;replace C:=C.below A;replace bT:=a1j bT A;replace bo:=a1j bo A;have D:=V0 (K:=KN) (V.sol.b.all.fl c0 (a1n d4.out) |> fun hh=>hh.below bT) ((V.sol.b.xo.fl V.sol.b.xf).below bT) hnf.out hxf.out hL.out;rw[hT.out] at D;go_at_call 70;refine (D).mono ?_;rintro e u1 ⟨vd,rfl,j3,G⟩;replace M:=M.below G;replace C:=C.below G;replace bT:=a1j bT G;replace bo:=a1j bo G;clear D;go_wp2_with fail;refine hK.out _ _ (hS _ bo) (fun m=>?_);clear hK K;(try simp only[j9]);refine a4b (rs:=[19,25]) (by kernel_rfl) (by simp) ?_;refine a3x rfl (fun K hK=>?_) ?_
         · go_simp;have D:=D1 M j3 k5.out l2.out (by decide);go_at_call 32;refine (D).mono ?_;rintro e u2 ⟨vs,rfl,b0,r4⟩;replace M:=M.below r4;replace C:=C.below r4;replace j3:=j3.below r4;replace bT:=a1j bT r4;replace bo:=a1j bo r4;clear D;go_wp2_with fail;refine hK.out _ _ (hS _ bo) (fun m=>?_);clear hK K;(try simp only[j9]);refine a4b (rs:=[21,25]) (by kernel_rfl) (by simp) ?_;refine a3x rfl (fun K hK=>?_) ?_
           · go_simp;have D:=P0 b0 C (k5.out.sub l2.out) m4.out (by decide) m5.out;go_at_call 45;refine (D).mono ?_;rintro e u3 ⟨vt,rfl,d5,bD⟩;replace C:=C.below bD;replace b0:=b0.below bD;replace bT:=a1j bT bD;replace bo:=a1j bo bD;clear D;obtain⟨gq,rfl,b8,l0⟩:=d5.frd;clear d5;go_wp2_with fail;refine hK.out _ _ (hS _ bo) (fun m=>?_);clear hK K;(try simp only[j9]);refine P2 22 23 m ?_;refine K4 24 rfl m ?_;refine z8 25 rfl fun K hK=>?_;have j5:=bT.size;obtain⟨u4,hu4,t0,lu4,Bu4⟩:=f8 u3 #[.bool false,.slice none 0 0,.slice none 0 0] 28;replace C:=C.below t0;replace b0:=b0.below t0;replace b8:=b8.below t0;replace bT:=a1j bT t0;replace bo:=a1j bo t0;have hA:=Bu4;clear Bu4;go_simp;refine hK.out _ _ (hS _ bo) (fun m=>?_);clear hK K;(try simp only[j9]);refine z8 26 rfl fun K hK=>?_;have Y:=j5;obtain⟨u5,q0,q1,q2,f0,f1,f2,eu5,Su5,ou5⟩:=p9 hA gq;have bT:=ou5.to_below bT Y bT.size;have bo:=ou5.to_below bo Y bo.size;have d0:=b8.only_blk hA (k7 _ _ _ _ _ _ _) ou5;go_simp;refine hK.out _ _ (hS _ bo) (fun m=>?_);clear hK K;(try simp only[j9]);refine K4 27 rfl m ?_
             refine a4c (by kernel_rfl) ?_ _;refine a3w ?_;(try go_simp);clear m;go_wp2_with fail;go_meet;exact⟨_,gq,rfl,Su5,d0,l0.out.trans m3.out,bT,Y⟩
           refine a3x rfl (fun K hK=>?_) ?_
           · have j5:=bT.size;obtain⟨u6,hu6,bS,lu6,Bu6⟩:=f8 u2 #[.bool false,.slice none 0 0,.slice none 0 0] 28;replace C:=C.below bS;replace b0:=b0.below bS;replace bT:=a1j bT bS;replace bo:=a1j bo bS;have hA:=Bu6;clear Bu6;go_simp;refine hK.out _ _ (hS _ bo) (fun m=>?_);clear hK K;(try simp only[j9]);refine z8 21 rfl fun K hK=>?_;go_simp;have D:=P0 b0 C (k5.out.sub l2.out) m4.out (by decide) m5.out;go_at_call 45;refine (D).mono ?_;rintro e u7 ⟨vt,rfl,d5,bu7⟩;replace hA:=hA.keep bu7;replace bT:=a1j bT bu7;replace bo:=a1j bo bu7;clear D;obtain⟨gq,rfl,b8,l0⟩:=d5.frd;clear d5;go_wp2_with fail;refine hK.out _ _ (hS _ bo) (fun m=>?_);clear hK K;(try simp only[j9]);refine P2 22 23 m ?_;refine K4 24 rfl m ?_;refine z8 26 rfl fun K hK=>?_;have Y:=j5;obtain⟨u8,q0,q1,q2,f0,f1,f2,eu8,Su8,rA⟩:=p9 hA gq;have bT:=rA.to_below bT Y bT.size;have bo:=rA.to_below bo Y bo.size;have d0:=b8.only_blk hA (k7 _ _ _ _ _ _ _) rA;go_simp;refine hK.out _ _ (hS _ bo) (fun m=>?_);clear hK K;(try simp only[j9]);refine K4 27 rfl m ?_
             refine a4c (by kernel_rfl) ?_ _;refine a3w ?_;(try go_simp);clear m;go_wp2_with fail;go_meet;exact⟨_,gq,rfl,Su8,d0,l0.out.trans m3.out,bT,Y⟩
           exact a3y
         refine a3x rfl (fun K hK=>?_) ?_
         · have j5:=bT.size;obtain⟨u9,hu9,y7,lu9,Bu9⟩:=f8 u1 #[.bool false,.slice none 0 0,.slice none 0 0] 28;replace M:=M.below y7;replace C:=C.below y7;replace j3:=j3.below y7;replace bT:=a1j bT y7;replace bo:=a1j bo y7;have hA:=Bu9;clear Bu9;go_simp;refine hK.out _ _ (hS _ bo) (fun m=>?_);clear hK K;(try simp only[j9]);refine z8 19 rfl fun K hK=>?_;go_simp;have D:=D1 M j3 k5.out l2.out (by decide);go_at_call 32;refine (D).mono ?_;rintro e u10 ⟨vs,rfl,b0,l5⟩;replace C:=C.below l5;replace hA:=hA.keep l5;replace bT:=a1j bT l5;replace bo:=a1j bo l5;clear D;go_wp2_with fail;refine hK.out _ _ (hS _ bo) (fun m=>?_);clear hK K;(try simp only[j9]);refine z8 21 rfl fun K hK=>?_;go_simp;have D:=P0 b0 C (k5.out.sub l2.out) m4.out (by decide) m5.out;go_at_call 45;refine (D).mono ?_;rintro e u11 ⟨vt,rfl,d5,q5⟩;replace hA:=hA.keep q5;replace bT:=a1j bT q5;replace bo:=a1j bo q5;clear D;obtain⟨gq,rfl,b8,l0⟩:=d5.frd;clear d5;go_wp2_with fail;refine hK.out _ _ (hS _ bo) (fun m=>?_);clear hK K;(try simp only[j9])
           refine P2 22 23 m ?_;refine K4 24 rfl m ?_;refine z8 26 rfl fun K hK=>?_;have Y:=j5;obtain⟨u12,q0,q1,q2,f0,f1,f2,eu12,Su12,q3⟩:=p9 hA gq;have bT:=q3.to_below bT Y bT.size;have bo:=q3.to_below bo Y bo.size;have d0:=b8.only_blk hA (k7 _ _ _ _ _ _ _) q3;go_simp;refine hK.out _ _ (hS _ bo) (fun m=>?_);clear hK K;(try simp only[j9]);refine K4 27 rfl m ?_;refine a4c (by kernel_rfl) ?_ _;refine a3w ?_;(try go_simp);clear m;go_wp2_with fail;go_meet;exact⟨_,gq,rfl,Su12,d0,l0.out.trans m3.out,bT,Y⟩
         exact a3y
       refine a3x rfl (fun K hK=>?_) ?_
       · have j5:=bT.size;have l7:Below wg.heap.size wg wg.drew:=(a3t _ _).drew;replace M:=M.below l7;replace C:=C.below l7;replace bT:=a1j bT l7;replace bo:=a1j bo l7;obtain⟨u13,hu13,l9,lu13,l3⟩:=f8 wg.drew #[.bool false,.slice none 0 0,.slice none 0 0] 28;replace M:=M.below l9;replace C:=C.below l9;replace bT:=a1j bT l9;replace bo:=a1j bo l9;replace l3:Blk u13 wg.heap.size 28 #[.bool false,.slice none 0 0,.slice none 0 0]:=l3;have hA:=l3;clear l3;go_simp;refine hK.out _ _ (hS _ bo) (fun m=>?_);clear hK K;(try simp only[j9]);refine z8 18 rfl fun K hK=>?_;go_simp;have D:=V0 (K:=KN) (V.sol.b.all.fl c0 (a1n d4.out) |> fun hh=>hh.below bT) ((V.sol.b.xo.fl V.sol.b.xf).below bT) hnf.out hxf.out hL.out;rw[hT.out] at D;go_at_call 70;refine (D).mono ?_;rintro e u14 ⟨vd,rfl,j3,j0⟩;replace M:=M.below j0;replace C:=C.below j0;replace hA:=hA.keep j0;replace bT:=a1j bT j0;replace bo:=a1j bo j0;clear D;go_wp2_with fail;refine hK.out _ _ (hS _ bo) (fun m=>?_);clear hK K;(try simp only[j9]);refine z8 19 rfl fun K hK=>?_;go_simp;have D:=D1 M j3 k5.out l2.out (by decide);go_at_call 32;refine (D).mono ?_;rintro e u15 ⟨vs,rfl,b0,m6⟩
         replace C:=C.below m6;replace hA:=hA.keep m6;replace bT:=a1j bT m6;replace bo:=a1j bo m6;clear D;go_wp2_with fail;refine hK.out _ _ (hS _ bo) (fun m=>?_);clear hK K;(try simp only[j9]);refine z8 21 rfl fun K hK=>?_;go_simp;have D:=P0 b0 C (k5.out.sub l2.out) m4.out (by decide) m5.out;go_at_call 45;refine (D).mono ?_;rintro e u16 ⟨vt,rfl,d5,z4⟩;replace hA:=hA.keep z4;replace bT:=a1j bT z4;replace bo:=a1j bo z4;clear D;obtain⟨gq,rfl,b8,l0⟩:=d5.frd;clear d5;go_wp2_with fail;refine hK.out _ _ (hS _ bo) (fun m=>?_);clear hK K;(try simp only[j9]);refine P2 22 23 m ?_;refine K4 24 rfl m ?_;refine z8 26 rfl fun K hK=>?_;have Y:=j5;obtain⟨u17,q0,q1,q2,f0,f1,f2,eu17,Su17,t5⟩:=p9 hA gq;have bT:=t5.to_below bT Y bT.size;have bo:=t5.to_below bo Y bo.size;have d0:=b8.only_blk hA (k7 _ _ _ _ _ _ _) t5;go_simp;refine hK.out _ _ (hS _ bo) (fun m=>?_);clear hK K;(try simp only[j9]);refine K4 27 rfl m ?_;refine a4c (by kernel_rfl) ?_ _;refine a3w ?_;(try go_simp);clear m;go_wp2_with fail;go_meet;exact⟨_,gq,rfl,Su17,d0,l0.out.trans m3.out,bT,Y⟩
       exact a3y
      case rest =>
       as_aux_lemma =>
       obtain⟨g9,td,rfl,cA,v0,j2,b9,hgw9⟩:=hcut;obtain⟨w9,hw9⟩:∃ w9,w9=wc:=⟨_,rfl⟩;subst hw9;have n5:=bZ.below b9;have bF:=a1j bcg b9;obtain⟨y0,y1,y2⟩:=cA.cells;obtain⟨z0,z1,z2⟩:=n5.cells;clear V v9 bV h0 m1 l8 n3 C M bZ
       cases o with
       | none =>
        obtain⟨wz,q0,q1,q2,f0,f1,f2,ez,hZ,oz⟩:=n5.store td;have vD:=a1k (show FV wz.drew td.v td.q from (v0.onlyV n5 oz).below (a3t _ _).drew);have bz:=(oz.to_below bF (a1u _) bF.size).drew;clear n5 cA v0 oz;go_wp2
        go_region
        go_wp2;go_meet;exact⟨true,td,rfl,hZ,fun _=>⟨⟨t6.out,.inl (by first | trivial | rfl)⟩,vD.out,j2.out⟩,fun h=>(by cases h),bz⟩
       | some j =>
        have bB:=a1k (show FV w9 d.v d.q∧d.q=T from ⟨(z3.out (by simp)).1.below bF,(z3.out (by simp)).2⟩);obtain⟨cc,hcc⟩:∃ s',Hid (D0 td.q d.q=s'):=⟨_,rfl⟩
        have sB:=I8 v0 bB.out.1 (by rw[j2.out];exact hF.out) (show Fits (KN+87381) d.q by
         rw[bB.out.2];exact lS (by decide) (by decide) c2.out.mults (fun q hq=>f6.out.1 q (a2n _ (by rw[←F.out.2.2];exact hq))) rs.length j T k0.out) (by decide) (by decide)
        rw[hcc.out] at sB;have hoi:decide (oi (some j)<0)=false:=a1v (by show ¬ ((j:Nat):Int)<0;omega);have hoi2:¬ oi (some j)<0:=by show ¬ ((j:Nat):Int)<0;omega
        go_wp2_with fail;refine sB.mono ?_;rintro e w10 ⟨rfl,r8⟩;clear sB y0 y1 y2 z0 z1 z2;have q9:=cA.below r8;have f4:=n5.below r8;have t4:=v0.below r8;have x4:=a1j bF r8;have y8:=a1k (show FV w10 d.v d.q∧d.q=T from ⟨bB.out.1.below r8,bB.out.2⟩);clear n5 cA v0;obtain⟨y0,y1,y2⟩:=q9.cells
        by_cases hc9:cc≤0
        · have hd1:decide (cc≤0)=true:=a1w hc9
          have hle:=a1k (show ft≤T from Rat.not_lt.1 fun hh=>by
           have h8:0<D0 td.q d.q:=cmpR_pos.2 (by rw[j2.out,y8.out.2];exact hh);rw[hcc.out] at h8;omega)
          obtain⟨wz,q0,q1,q2,f0,f1,f2,ez,hZ,oz⟩:=f4.store td;have vD:=a1k (show FV wz.drew td.v td.q from (t4.onlyV f4 oz).below (a3t _ _).drew);have bz:=(oz.to_below x4 (a1u _) x4.size).drew;clear f4 q9 t4 oz;go_wp2
          go_region
          go_wp2;go_meet;exact⟨true,td,rfl,hZ,fun _=>⟨⟨t6.out,.inr hle.out⟩,vD.out,j2.out⟩,fun h=>(by cases h),bz⟩
        · have hd1:decide (cc≤0)=false:=a1v hc9
          have hgt:=a1k (show ¬ (0<sp∧(some j=none∨ft≤T)) from fun hh=>hc9 (by
           rcases hh.2 with h8 | h8
           · cases h8
           · have h7:¬ 0<D0 td.q d.q:=fun h6=>by
              have h5:=cmpR_pos.1 h6;rw[j2.out,y8.out.2] at h5;exact absurd h8 (Rat.not_le.2 h5)
             rw[hcc.out] at h7;omega))
          clear q9 t4;go_wp2;go_meet;exact⟨false,d,rfl,f4,fun h=>(by cases h),fun _=>⟨hgt.out,fun _=>y8.out⟩,x4⟩
    · have hd0:decide (0<sg)=false:=a1v hs0;have hneg:=a1k (show ¬ 0<sp from fun hh=>hs0 (by rw[←hsg.out];exact cmpR_pos.2 hh));have hdvg:=a1k (show o≠none→FV wg d.v d.q∧d.q=T from fun ho=>⟨(z3.out ho).1.below bcg,(z3.out ho).2⟩);clear V v9 bV h0 m1 l8 n3 C;go_wp2;go_meet;exact⟨false,d,rfl,bZ,fun h=>(by cases h),fun _=>⟨fun hh=>hneg.out hh.1,hdvg.out⟩,bcg⟩
   case rest =>
    obtain⟨I,sd,rfl,hX,t2,r3,bx⟩:=hcut;obtain⟨wx,hwx⟩:∃ wx,wx=wc:=⟨_,rfl⟩;subst hwx;have b6:=v9.below bA bx;have hLx:=bV.below bx;have dT:=h0.below bx;have hN:=m1.below bx;have hD:=l8.below bx;have hV:B≤wx.heap.size:=a1t bA bx.size;clear V v9 bV h0 m1 l8 n3 C bZ;go_upto_region 12 with fail
    go_cut [89] from 26 to 138 (fun v wy=>v=.bool (stopB o I)∧wy=wx)
    case first =>
     cases o with
     | none =>
      have hoi:decide (oi none<0)=true:=by decide
      cases I with
      | true=>go_wp2;go_meet;exact⟨rfl,rfl⟩
      | false=>go_wp2;go_meet;exact⟨rfl,rfl⟩
     | some j =>
      have hoi:decide (oi (some j)<0)=false:=a1v (by show ¬ ((j:Nat):Int)<0;omega);have hoi2:¬ oi (some j)<0:=by show ¬ ((j:Nat):Int)<0;omega
      cases I with
      | true=>go_wp2;go_meet;exact⟨rfl,rfl⟩
      | false=>go_wp2;go_meet;exact⟨rfl,rfl⟩
    case rest =>
     obtain⟨rfl,hwy⟩:=hcut;subst hwy
     by_cases hstop:stopB o I=true
     · rw[hstop]
       have hrn:=a1k (show r=none by
        cases o with
        | some j=>cases hstop
        | none =>
         cases I with
         | true=>cases hstop
         | false =>
          have h1:=t3.out;have h2:=(r3.out rfl).1
          have e1:F5 s1.st.mults E E.length=(none,T):=by
           rw[←k0.out,←F.out.2.2,a1s];rfl
          rw[e1,d8.out] at h1
          rw[if_neg (by
           intro hh;exact h2 ⟨hh.1,.inl rfl⟩)] at h1
          exact h1)
       obtain⟨w9,f9,e9,cI,o9⟩:=b6.sol.setEnt hE.out (.pointer none);have b9:=a1k (o9.to_below b6.bel L.out hV);have x8:=b6.sol.b.cells.2.2.2.2.2.2.2.2.2.2.2.2;have vC:=a4e b6.box 0;go_wp2;rw[Exit.noGoto_ret];refine leaves_cons (f:=72) (args:=#[.pointer (some ⟨w.heap.size,0,none⟩)]) (by simp) (by simp[go_sem]) ?_;refine (nX (u:=.returning) vC x8 f9).mono ?_;rintro e u' w'' ⟨rfl,rfl,rfl⟩;rw[e9];exact⟨_,results_tmp rfl _ _ _,s1,by rw[hrn.out];rfl,cI,fun t ht=>(by rw[hrn.out] at ht;cases ht),b9.out⟩
     · have g5:stopB o I=false:=by simpa using hstop
       rw[g5];obtain⟨wX,hwX⟩:∃ x,x=wc:=⟨_,rfl⟩;subst hwX
       have lV:FV wX sd.v sd.q∧Fits 190000000 sd.q:=by
        cases I with
        | true=>exact⟨(t2.out rfl).2.1,by rw[(t2.out rfl).2.2];exact hF.out⟩
        | false =>
         cases o with
         | none=>cases g5
         | some j =>
          refine⟨((r3.out rfl).2 (by simp)).1,?_⟩;rw[((r3.out rfl).2 (by simp)).2];exact (lS (by decide) (by decide) c2.out.mults (fun q hq=>f6.out.1 q (a2n _ (by rw[←F.out.2.2];exact hq))) rs.length j T k0.out).mono (by decide)
       have dR:=a1k lV.2;have q8:=lV.1;have hWw:=a1k (show ∀ g,wr.heap.size≤g→¬ S.W s1.vm g from fun g hg hW=>by have:=hwl.out g hW;omega);have hmv:=move_any b6.sol hE.out dT (fun a e=>hWw.out _ (hZn'.out a e)) (by rw[hzl.out];have h1:=c2.out.lx;have h2:(s1.dx.map FrD.q).length=S.n:=h1;rw[a1s] at h2;exact h2.symm) hN (fun a e=>hWw.out _ (hRn'.out a e)) p5.out.symm hD q8 c2.out.x (by rw[F.out.1];exact f6.out.2) c2.out.lev (by rw[F.out.2.1];exact f6.out.1 lev a2o) dR.out c2.out.mults (fun q hq=>f6.out.1 q (a2n _ (by rw[←F.out.2.2];exact hq)));have f5:=a4e b6.box 0;obtain⟨x0,x1,x2⟩:=hLx.cells;obtain⟨y0,y1,y2⟩:=hX.cells;clear lV hstop;go_wp2_with fail;refine hmv.mono ?_;rintro e wm ⟨s2,rfl,hM,v4,m9,g8⟩;clear hmv f5 x0 x1 x2 y0 y1 y2 dT hN hD hLx;have hwrl:=a1k (show wr.heap.size≤wl.heap.size by have h1:=ba.size;have h2:=bb.size;have h3:=bc.size;omega);have vA:VarQ wm wl.heap.size sd:=hX.trn g8 (hWw.out _ hwrl.out);have gC:FV wm sd.v sd.q:=q8.trn g8
       have hWm:=a1k (show ¬ S.W s1.vm w3.heap.size from fun hW=>by
        have h1:=r6.out;have h2:=c5.out;have h3:=q6.out;have h4:=p3.out
        rcases hW with e | e | e
        · omega
        · omega
        · exact b6.ne _ e rfl)
       have hWb:=a1k (show ¬ S.W s1.vm w.heap.size from fun hW=>by
        have h2:=c5.out;have h3:=q6.out;have h4:=p3.out
        rcases hW with e | e | e
        · omega
        · omega
        · obtain⟨cur,k1,k2⟩:=b6.sol.mul.2 _ e;exact k1.ne_type b6.box (by decide) rfl)
       have t1:SatI S aS k w.heap.size w3.heap.size B w s2 md wm:=⟨hM,b6.box.trn g8 hWb.out,b6.var.trn g8 hWm.out,b6.fv.trn g8,fun g hg=>b6.ne g (by rw[←m9.out.2.2];exact hg),g8.to_below b6.bel hV fun g hW=>by
        rcases hW with e | e | e
        · rw[e];exact L.out
        · rw[e];exact hB2'.out
        · exact a1t k6.out (hvmR.out g e)⟩
       have hBm:B≤wm.heap.size:=a1t hV g8.size;have f5:=a4e t1.box 0;obtain⟨x0,x1,x2⟩:=t1.var.cells;obtain⟨y0,y1,y2⟩:=vA.cells;have hJ:=J0 t1.fv gC hmF.out dR.out (by decide);clear b6 hX q8 g8;go_wp2_with fail;refine hJ.mono ?_;rintro e wn ⟨vn,rfl,hvn,bn⟩;obtain⟨m2,rfl,hm2,gA⟩:=hvn.frd;clear hJ f5 x0 x1 x2 y0 y1 y2 hvn;have kA:=t1.below hBm bn;have hVn:=vA.below bn;have hBn:B≤wn.heap.size:=a1t hBm bn.size;obtain⟨wo,q0,q1,q2,f0,f1,f2,eo,hVo,oo⟩:=kA.var.store m2;have d3:=kA.put oo hVo hm2 (by have:=r6.out;have:=p3.out;omega) (by have:=r6.out;have:=p3.out;have:=k6.out;omega) (by have:=r6.out;omega) hBn;have n4:B≤wo.heap.size:=a1t hBn oo.size;clear t1 vA hVn hm2 hVo oo kA gC
       cases I with
       | true =>
        as_aux_lemma =>
        have x3:s2.st=G4 s1.st z lev E ft:=by
         obtain⟨e1,e2,e3⟩:=F.out;have h1:=v4.out;rw[e1,e2,e3,(t2.out rfl).2.2] at h1;exact h1
        have hrS:=a1k (show r=some ⟨s2.dx.map FrD.q,s2.lv.q,s2.ia++[k],(s2.dm++[m2]).map FrD.q⟩ by
         have h1:=t3.out
         have e1:F5 s1.st.mults E E.length=(o,T):=by
          rw[←k0.out,←F.out.2.2,a1s];rfl
         have e4:L7 (S.cs.map CoD.con) k s1.st.x z=ft:=cU.out;rw[e1,d8.out,e4,if_pos (t2.out rfl).1,←x3] at h1;rw[h1,a2r]
         show some (St.mk _ _ (s1.ia++[k]) (_++[md.q+ft]))=some (St.mk _ _ (s2.ia++[k]) (_++[m2.q]))
         rw[gA.out,(t2.out rfl).2.2,m9.out.2.1];rfl)
        have r5:=a1k (show s2.ia.length=s1.ia.length by rw[m9.out.2.1])
        have m8:=a1k (show s2.dm.length=s1.ia.length by
         have h1:=congrArg (fun t:St=>t.mults.length) x3;have h2:(s2.dm.map FrD.q).length=(List.zipWith (fun a b=>a-ft*b) (s1.dm.map FrD.q) E).length:=h1
         have h4:s1.dm.length=s1.ia.length:=by
          have h5:(s1.dm.map FrD.q).length=s1.ia.length:=c2.out.lm
          rwa [a1s] at h5
         have h6:E.length=s1.ia.length:=n2.out.2;rw[a1s,a3o,a1s,h6,h4,Nat.min_self] at h2;exact h2)
        clear x3;go_wp2;go_upto_region 19 with fail;have bT:=a3t wo.heap.size wo;have p:=d3.box;have y:=d3.sol;have A:Below wo.heap.size wo wo.drew:=(a3t _ _).drew;replace p:=p.keep A;replace y:=y.below A;replace bT:=a1j bT A;clear A;go_wp2_with fail;refine a3u ?_;refine k9 (J:=[10]) (S:=fun w'=>w'.cell? ⟨w.heap.size,0,none⟩=some (.pointer (some ⟨S.gs,0,none⟩))∧w'.cell? ⟨S.gs,10,none⟩=some s2.va) (by kernel_rfl) (⟨a4e p 0,y.b.cells.2.2.2.2.2.2.2.2.2.2.1⟩) (fun m=>?_);refine mR 0 1 2 3 m ?_;refine dU 4 5 m ?_;refine I0 6 rfl fun K hK=>?_;have X:SatI S aS k w.heap.size w3.heap.size B w s2 m2 wo.drew:=d3.below n4 bT;obtain⟨A6,n6,c6,w6,w7,hr6,g7,g4,kf,e7,q4⟩:=X.pushA (by rw[r5.out];omega) L.out k6.out (a1t n4 bT.size);clear X;obtain⟨u1,c9,G,y4,U⟩:=f8 wo.drew #[.int .i64 (k:Int)] 3;replace U:Blk u1 wo.heap.size 3 #[.int .i64 (k:Int)]:=U;replace p:=p.keep G;replace y:=y.below G;replace bT:=a1j bT G;rw[c9] at hr6;go_simp;refine hK.out _ _ (⟨a4e p 0,y.b.cells.2.2.2.2.2.2.2.2.2.2.1⟩) (fun m=>?_);clear hK K;(try simp only[j9]);refine I0 7 rfl fun K hK=>?_
        refine q7 (T:=72) rfl (.tmp 143) (.tmp 145) rfl rfl rfl rfl hr6 ?_;clear hr6 p y bT;refine hK.out _ _ (⟨g7,g4⟩) (fun m=>?_);clear hK K;(try simp only[j9]);refine dU 8 9 m ?_;refine j6 (rs:=[10]) (by kernel_rfl) (by simp) ?_;refine a4j rfl (by decide) (fun K hK=>?_) a4i;go_simp;refine hK.out _ _ ?_;clear hK K;(try clear m);(try simp only[j9]);refine k8 (by kernel_rfl) ?_ _;refine a3w ?_;(try go_simp);(try clear m);go_wp2;have hB7:B≤w7.heap.size:=a1t k6.out q4.sol.b.hR;go_upto_region 20 with fail;have bT:=a3t w7.heap.size w7;have p:=q4.box;have y:=q4.sol;have d2:=q4.var;have A:Below w7.heap.size w7 w7.drew:=(a3t _ _).drew;replace p:=p.keep A;replace y:=y.below A;replace d2:=d2.below A;replace bT:=a1j bT A;clear A;go_wp2_with fail;refine a3u ?_;refine k9 (J:=[10]) (S:=fun w'=>w'.cell? ⟨w.heap.size,0,none⟩=some (.pointer (some ⟨S.gs,0,none⟩))∧w'.cell? ⟨S.gs,11,none⟩=some s2.vm∧w'.cell? ⟨w3.heap.size,0,none⟩=some (.bool m2.neg)∧w'.cell? ⟨w3.heap.size,1,none⟩=some (.slice m2.a m2.la.length m2.ca)∧w'.cell? ⟨w3.heap.size,2,none⟩=some (.slice m2.b m2.lb.length m2.cb)) (by kernel_rfl) (⟨a4e p 0,y.b.cells.2.2.2.2.2.2.2.2.2.2.2.1,d2.cells.1,d2.cells.2.1,d2.cells.2.2⟩) (fun m=>?_)
        refine mR 0 1 2 3 m ?_;refine dU 4 5 m ?_;refine I0 6 rfl fun K hK=>?_;have X:=q4.below hB7 bT;obtain⟨A8,n8,c8,w8,w9,zH,d7,d6,cR,kg,e9,cI,hb9,hbel9,hB9⟩:=X.pushM (by show s2.dm.length≤1000;rw[m8.out];omega) L.out k6.out (a1t hB7 bT.size);clear X;obtain⟨u1,c9,G,y4,U⟩:=f8 w7.drew #[.bool m2.neg,.slice m2.a m2.la.length m2.ca,.slice m2.b m2.lb.length m2.cb] 28;replace U:Blk u1 w7.heap.size 28 #[.bool m2.neg,.slice m2.a m2.la.length m2.ca,.slice m2.b m2.lb.length m2.cb]:=U;replace p:=p.keep G;replace y:=y.below G;replace d2:=d2.below G;rw[c9] at zH;go_simp;refine hK.out _ _ (⟨a4e p 0,y.b.cells.2.2.2.2.2.2.2.2.2.2.2.1,d2.cells.1,d2.cells.2.1,d2.cells.2.2⟩) (fun m=>?_);clear hK K;(try simp only[j9]);refine I0 7 rfl fun K hK=>?_;refine q7 (T:=22) rfl (.tmp 153) (.tmp 155) rfl rfl rfl rfl zH ?_;clear zH p y d2 bT;refine hK.out _ _ (⟨d7,d6,cR.cells.1,cR.cells.2.1,cR.cells.2.2⟩) (fun m=>?_);clear hK K;(try simp only[j9]);refine dU 8 9 m ?_;refine j6 (rs:=[10]) (by kernel_rfl) (by simp) ?_;refine a4j rfl (by decide) (fun K hK=>?_) a4i;go_simp;refine hK.out _ _ ?_
        clear hK K;(try clear m);(try simp only[j9]);refine k8 (by kernel_rfl) ?_ _;refine a3w ?_;(try go_simp);(try clear m);obtain⟨wE,fE,eE,hSE,oE⟩:=cI.setEnt hE.out (.pointer none);have bE:=a1k (oE.to_below hbel9 L.out hB9);have x8:=cI.b.cells.2.2.2.2.2.2.2.2.2.2.2.2;have vC:=a4e hb9 0;clear d7 d6 cR kg;go_wp2
        try rw[Exit.noGoto_ret]
        refine leaves_cons (f:=72) (args:=#[.pointer (some ⟨w.heap.size,0,none⟩)]) (by simp) (by simp[go_sem]) ?_;refine (nX (u:=.returning) vC x8 fE).mono ?_;rintro e u' w'' ⟨rfl,rfl,rfl⟩;rw[eE];exact⟨_,results_tmp rfl _ _ _,_,by rw[hrS.out];rfl,hSE,fun t ht=>(by rw[hrS.out] at ht;injection ht),bE.out⟩
       | false =>
        cases o with
        | none=>cases g5
        | some j =>
         as_aux_lemma =>
         rw[show oi (some j)=((j:Nat):Int) from rfl];have r5:=a1k (show s2.ia.length=s1.ia.length by rw[m9.out.2.1])
         have lA:=a1k (show j<E.length by
          have h1:=xP (s1.dm.map FrD.q) (rs.map FrD.q) rs.length;rw[k0.out] at h1;have h2:j<rs.length:=h1.1;rw[←F.out.2.2,a1s];exact h2)
         have v7:=a1k (show j<s2.ia.length by rw[r5.out];have h1:=lA.out;have h2:E.length=s1.ia.length:=n2.out.2;omega);have hjm:=a1k (show s2.ia.length≤7 by rw[r5.out];exact hal);obtain⟨gv,cv,hG,hcv1,hcv2⟩:=d3.formA v7.out;have d1:=a1k hG;have hjn:j<s2.ia.length:=v7.out;have hj7:j<7:=by have:=hjm.out;omega
         have hji:(j:Int)≤(cv:Int):=by omega
         obtain⟨j1,O⟩:∃ j1:Nat,Hid (j1=j+1):=⟨_,rfl⟩;have hwr:IntKind.i64.wrap ((j:Int)+1)=(j1:Int):=by have h1:=O.out;rw[IntKind.wrap_i64];omega
         have hj1:j1≤s2.ia.length:=by have h1:=O.out;omega
         have dC:(j1:Int)≤(s2.ia.length:Int):=by omega
         have gE:j1≤cv:=by omega
         clear hG;go_wp2;go_upto_region 16 with fail
         go_cut [] from 26 to 138 (fun wx=>∃ va:Value,SatI S aS k w.heap.size w3.heap.size B w { s2 with va:=va,ia:=s2.ia.take j++s2.ia.drop (j+1) } m2 wx)
         case first =>
          by_cases hcj:cv=j1
          · as_aux_lemma =>
            have v8:=hcj.symm;clear hcj;subst v8;have bT:=a3t wo.heap.size wo;have p:=d3.box;have y:=d3.sol;have A:Below wo.heap.size wo wo.drew:=(a3t _ _).drew;replace p:=p.keep A;replace y:=y.below A;replace bT:=a1j bT A;clear A;go_wp2_with fail;refine a3u ?_;refine k9 (J:=[19]) (S:=fun w'=>w'.cell? ⟨w.heap.size,0,none⟩=some (.pointer (some ⟨S.gs,0,none⟩))∧w'.cell? ⟨S.gs,10,none⟩=some (.slice (some ⟨gv,0,none⟩) s2.ia.length j1)) (by kernel_rfl) (⟨a4e p 0,(y.b.cells.2.2.2.2.2.2.2.2.2.2.1).trans (by rw[←d1.out])⟩) (fun m=>?_);refine iK 0 2 3 4 5 6 7 9 m ?_;refine mR 10 11 12 13 m ?_;refine dU 14 15 m ?_;refine I0 1 rfl fun K hK=>?_;have X:=d3.below n4 bT;obtain⟨v1,x1,A6,n6,c6,x2,x9,b7,g7,g4,b2,d7,d6,kf,e7,b5⟩:=X.cutA (j:=j) (g:=gv) (c:=j1) v7.out d1.out (by have:=hjm.out;omega) L.out (a1t n4 bT.size) ⟨gv,0,none⟩ (.inr ⟨by have h1:=O.out;omega,rfl⟩) j1 (0);rw[show s2.ia.length-(j+1)=0 by have h1:=O.out;omega] at b2;clear X
            obtain⟨u1,c9,G,y4,U⟩:=f8 wo.drew #[] 3;replace U:Blk u1 wo.heap.size 3 #[]:=U;replace p:=p.keep G;replace y:=y.below G;rw[c9] at b7;go_simp;refine hK.out _ _ (⟨a4e p 0,(y.b.cells.2.2.2.2.2.2.2.2.2.2.1).trans (by rw[←d1.out])⟩) (fun m=>?_);clear hK K;(try simp only[j9]);refine I0 8 rfl fun K hK=>?_;refine q7 (T:=72) rfl (.tmp 100) (.tmp 106) rfl rfl rfl rfl b7 ?_;clear b7 p y bT;refine hK.out _ _ (⟨g7,g4.trans (by rw[←d1.out])⟩) (fun m=>?_);clear hK K;(try simp only[j9]);refine I0 16 rfl fun K hK=>?_;refine q7 (T:=72) rfl (.tmp 107) (.tmp 114) rfl rfl rfl rfl b2 ?_;clear b2;refine hK.out _ _ (⟨d7,d6.trans (by rw[←d1.out])⟩) (fun m=>?_);clear hK K;(try simp only[j9]);refine dU 17 18 m ?_;refine j6 (rs:=[19]) (by kernel_rfl) (by simp) ?_;refine a4j rfl (by decide) (fun K hK=>?_) a4i;go_simp;refine hK.out _ _ ?_;clear hK K;(try clear m);(try simp only[j9]);refine k8 (by kernel_rfl) ?_ _;refine a3w ?_;(try go_simp);(try clear m);go_wp2_with fail;go_meet;exact⟨_,b5⟩
          · as_aux_lemma =>
            have bT:=a3t wo.heap.size wo;have p:=d3.box;have y:=d3.sol;have A:Below wo.heap.size wo wo.drew:=(a3t _ _).drew;replace p:=p.keep A;replace y:=y.below A;replace bT:=a1j bT A;clear A;go_wp2_with fail;refine a3u ?_;refine k9 (J:=[19]) (S:=fun w'=>w'.cell? ⟨w.heap.size,0,none⟩=some (.pointer (some ⟨S.gs,0,none⟩))∧w'.cell? ⟨S.gs,10,none⟩=some (.slice (some ⟨gv,0,none⟩) s2.ia.length cv)) (by kernel_rfl) (⟨a4e p 0,(y.b.cells.2.2.2.2.2.2.2.2.2.2.1).trans (by rw[←d1.out])⟩) (fun m=>?_);refine iK 0 2 3 4 5 6 7 9 m ?_;refine mR 10 11 12 13 m ?_;refine dU 14 15 m ?_;refine I0 1 rfl fun K hK=>?_;have X:=d3.below n4 bT;obtain⟨v1,x1,A6,n6,c6,x2,x9,b7,g7,g4,b2,d7,d6,kf,e7,b5⟩:=X.cutA (j:=j) (g:=gv) (c:=cv) v7.out d1.out (by have:=hjm.out;omega) L.out (a1t n4 bT.size) ⟨gv,j1,none⟩ (.inl (by rw[O.out])) cv (cv-j1);rw[←O.out] at b2;clear X;obtain⟨u1,c9,G,y4,U⟩:=f8 wo.drew #[] 3;replace U:Blk u1 wo.heap.size 3 #[]:=U
            replace p:=p.keep G;replace y:=y.below G;rw[c9] at b7;go_simp;refine hK.out _ _ (⟨a4e p 0,(y.b.cells.2.2.2.2.2.2.2.2.2.2.1).trans (by rw[←d1.out])⟩) (fun m=>?_);clear hK K;(try simp only[j9]);refine I0 8 rfl fun K hK=>?_;refine q7 (T:=72) rfl (.tmp 100) (.tmp 106) rfl rfl rfl rfl b7 ?_;clear b7 p y bT;refine hK.out _ _ (⟨g7,g4.trans (by rw[←d1.out])⟩) (fun m=>?_);clear hK K;(try simp only[j9]);refine I0 16 rfl fun K hK=>?_;refine q7 (T:=72) rfl (.tmp 107) (.tmp 114) rfl rfl rfl rfl b2 ?_;clear b2;refine hK.out _ _ (⟨d7,d6.trans (by rw[←d1.out])⟩) (fun m=>?_);clear hK K;(try simp only[j9]);refine dU 17 18 m ?_;refine j6 (rs:=[19]) (by kernel_rfl) (by simp) ?_;refine a4j rfl (by decide) (fun K hK=>?_) a4i;go_simp;refine hK.out _ _ ?_;clear hK K;(try clear m);(try simp only[j9]);refine k8 (by kernel_rfl) ?_ _;refine a3w ?_;(try go_simp);(try clear m);go_wp2_with fail;go_meet;exact⟨_,b5⟩
         case rest =>
          obtain⟨va3,b5⟩:=hcut;obtain⟨x9,hx9⟩:∃ x9,x9=wc:=⟨_,rfl⟩;subst hx9;clear d3 hji hj1 dC gE hcv1 hcv2 hjn d1;obtain⟨s3,kN⟩:∃ s3:Sm,Hid (s3={ s2 with va:=va3,ia:=s2.ia.take j++s2.ia.drop (j+1) }):=⟨_,rfl⟩;rw[←kN.out] at b5
          have m8:=a1k (show s3.dm.length=s1.ia.length by
           rw[kN.out];have h1:=congrArg (fun t:St=>t.mults.length) v4.out;have h2:(s2.dm.map FrD.q).length=(List.zipWith (fun a b=>a-sd.q*b) (s1.dm.map FrD.q) (rs.map FrD.q)).length:=h1
           have h4:s1.dm.length=s1.ia.length:=by
            have h5:(s1.dm.map FrD.q).length=s1.ia.length:=c2.out.lm
            rwa [a1s] at h5
           rw[a1s,a3o,a1s,a1s,←p5.out,h4,Nat.min_self] at h2;exact h2)
          have l6:=a1k (show j<s3.dm.length by rw[m8.out,←r5.out];exact v7.out);have hC:=a1k (show s3.dm.length≤7 by rw[m8.out];exact hal);obtain⟨gw,cw,x7,hcw1,hcw2⟩:=b5.formM l6.out;have H:=a1k x7;have hjn:j<s3.dm.length:=l6.out;have hji:(j:Int)≤(cw:Int):=by omega
          have hj1:j1≤s3.dm.length:=by have h1:=O.out;omega
          have dC:(j1:Int)≤(s3.dm.length:Int):=by omega
          have gE:j1≤cw:=by omega
          have bN:B≤x9.heap.size:=a1t k6.out b5.sol.b.hR;clear x7
          have f3:∀ (cY:Value) (wq:World),SatI S aS k w.heap.size w3.heap.size B w { s3 with vm:=cY,dm:=s3.dm.take j++s3.dm.drop (j+1) } m2 wq→mQ S aS k w.heap.size w3.heap.size B w r f wq:=fun cY wq k4=>by
           have hsat9:aZ KN S.n (S.cs.map CoD.con) k f ({ s3 with vm:=cY,dm:=s3.dm.take j++s3.dm.drop (j+1) }:Sm).st m2.q=some r:=by
            have h1:=t3.out
            have e1:F5 s1.st.mults E E.length=(some j,T):=by
             rw[←k0.out,←F.out.2.2,a1s];rfl
            have e4:L7 (S.cs.map CoD.con) k s1.st.x z=ft:=cU.out;rw[e1,d8.out,e4,if_neg (r3.out (by trivial)).1] at h1;have hTq:sd.q=T:=((r3.out (by trivial)).2 (by first | trivial | simp)).2;obtain⟨k1,k2,k3⟩:=F.out
            have h2:s2.st=G4 s1.st z lev E T:=by
             have h3:=v4.out;rw[k1,k2,k3,hTq] at h3;exact h3
            have e5:({ s3 with vm:=cY,dm:=s3.dm.take j++s3.dm.drop (j+1) }:Sm).st=U9 s2.st j:=by
             rw[kN.out]
             show St.mk (s2.dx.map FrD.q) s2.lv.q (s2.ia.take j++s2.ia.drop (j+1)) ((s2.dm.take j++s2.dm.drop (j+1)).map FrD.q)=_
             rw[iO];rfl
            have e6:m2.q=md.q+T:=by rw[gA.out,hTq]
            rw[e5,e6,h2];exact h1
           exact⟨_,m2,k4,hsat9⟩
          replace f3:=a1k f3;go_upto_region 17 with fail
          by_cases hcj:cw=j1
          · as_aux_lemma =>
            have v8:=hcj.symm;clear hcj;subst v8;have bT:=a3t x9.heap.size x9;have p:=b5.box;have y:=b5.sol;have A:Below x9.heap.size x9 x9.drew:=(a3t _ _).drew;replace p:=p.keep A;replace y:=y.below A;replace bT:=a1j bT A;clear A;go_wp2_with fail;refine a3u ?_;refine k9 (J:=[19]) (S:=fun w'=>w'.cell? ⟨w.heap.size,0,none⟩=some (.pointer (some ⟨S.gs,0,none⟩))∧w'.cell? ⟨S.gs,11,none⟩=some (.slice (some ⟨gw,0,none⟩) s3.dm.length j1)) (by kernel_rfl) (⟨a4e p 0,(y.b.cells.2.2.2.2.2.2.2.2.2.2.2.1).trans (by rw[←H.out])⟩) (fun m=>?_);refine iK 0 2 3 4 5 6 7 9 m ?_;refine mR 10 11 12 13 m ?_;refine dU 14 15 m ?_;refine I0 1 rfl fun K hK=>?_;have X:=b5.below bN bT;obtain⟨v1,z1,A7,n7,c7,z2,z9,b7,g7,g4,b2,d7,d6,kf,e7,k4⟩:=X.cutM (j:=j) (g:=gw) (c:=j1) l6.out H.out (by have:=hC.out;omega) L.out (a1t bN bT.size) ⟨gw,0,none⟩ (.inr ⟨by have h1:=O.out;omega,rfl⟩) j1 (0);rw[show s3.dm.length-(j+1)=0 by have h1:=O.out;omega] at b2
            clear X;obtain⟨u1,c9,G,y4,U⟩:=f8 x9.drew #[] 28;replace U:Blk u1 x9.heap.size 28 #[]:=U;replace p:=p.keep G;replace y:=y.below G;rw[c9] at b7;go_simp;refine hK.out _ _ (⟨a4e p 0,(y.b.cells.2.2.2.2.2.2.2.2.2.2.2.1).trans (by rw[←H.out])⟩) (fun m=>?_);clear hK K;(try simp only[j9]);refine I0 8 rfl fun K hK=>?_;refine q7 (T:=22) rfl (.tmp 119) (.tmp 125) rfl rfl rfl rfl b7 ?_;clear b7 p y bT;refine hK.out _ _ (⟨g7,g4.trans (by rw[←H.out])⟩) (fun m=>?_);clear hK K;(try simp only[j9]);refine I0 16 rfl fun K hK=>?_;refine q7 (T:=22) rfl (.tmp 126) (.tmp 133) rfl rfl rfl rfl b2 ?_;clear b2;refine hK.out _ _ (⟨d7,d6.trans (by rw[←H.out])⟩) (fun m=>?_);clear hK K;(try simp only[j9]);refine dU 17 18 m ?_;refine j6 (rs:=[19]) (by kernel_rfl) (by simp) ?_;refine a4j rfl (by decide) (fun K hK=>?_) a4i;go_simp;refine hK.out _ _ ?_;clear hK K;(try clear m);(try simp only[j9]);refine k8 (by kernel_rfl) ?_ _;refine a3w ?_;(try go_simp);(try clear m);have c4:=a1k (f3.out _ _ k4);clear b5 k4 f3 H;go_wp2;go_roundw
            case rel=>exact⟨f,c4.out⟩
            case measure=>rw[hf.out];exact Nat.lt_succ_of_le (iI c4.out)
          · as_aux_lemma =>
            have bT:=a3t x9.heap.size x9;have p:=b5.box;have y:=b5.sol;have A:Below x9.heap.size x9 x9.drew:=(a3t _ _).drew;replace p:=p.keep A;replace y:=y.below A;replace bT:=a1j bT A;clear A;go_wp2_with fail;refine a3u ?_;refine k9 (J:=[19]) (S:=fun w'=>w'.cell? ⟨w.heap.size,0,none⟩=some (.pointer (some ⟨S.gs,0,none⟩))∧w'.cell? ⟨S.gs,11,none⟩=some (.slice (some ⟨gw,0,none⟩) s3.dm.length cw)) (by kernel_rfl) (⟨a4e p 0,(y.b.cells.2.2.2.2.2.2.2.2.2.2.2.1).trans (by rw[←H.out])⟩) (fun m=>?_);refine iK 0 2 3 4 5 6 7 9 m ?_;refine mR 10 11 12 13 m ?_;refine dU 14 15 m ?_;refine I0 1 rfl fun K hK=>?_;have X:=b5.below bN bT;obtain⟨v1,z1,A7,n7,c7,z2,z9,b7,g7,g4,b2,d7,d6,kf,e7,k4⟩:=X.cutM (j:=j) (g:=gw) (c:=cw) l6.out H.out (by have:=hC.out;omega) L.out (a1t bN bT.size) ⟨gw,j1*3,none⟩ (.inl (by rw[O.out])) cw (cw-j1);rw[←O.out] at b2;clear X;obtain⟨u1,c9,G,y4,U⟩:=f8 x9.drew #[] 28;replace U:Blk u1 x9.heap.size 28 #[]:=U
            replace p:=p.keep G;replace y:=y.below G;rw[c9] at b7;go_simp;refine hK.out _ _ (⟨a4e p 0,(y.b.cells.2.2.2.2.2.2.2.2.2.2.2.1).trans (by rw[←H.out])⟩) (fun m=>?_);clear hK K;(try simp only[j9]);refine I0 8 rfl fun K hK=>?_;refine q7 (T:=22) rfl (.tmp 119) (.tmp 125) rfl rfl rfl rfl b7 ?_;clear b7 p y bT;refine hK.out _ _ (⟨g7,g4.trans (by rw[←H.out])⟩) (fun m=>?_);clear hK K;(try simp only[j9]);refine I0 16 rfl fun K hK=>?_;refine q7 (T:=22) rfl (.tmp 126) (.tmp 133) rfl rfl rfl rfl b2 ?_;clear b2;refine hK.out _ _ (⟨d7,d6.trans (by rw[←H.out])⟩) (fun m=>?_);clear hK K;(try simp only[j9]);refine dU 17 18 m ?_;refine j6 (rs:=[19]) (by kernel_rfl) (by simp) ?_;refine a4j rfl (by decide) (fun K hK=>?_) a4i;go_simp;refine hK.out _ _ ?_;clear hK K;(try clear m);(try simp only[j9]);refine k8 (by kernel_rfl) ?_ _;refine a3w ?_;(try go_simp);(try clear m);have c4:=a1k (f3.out _ _ k4);clear b5 k4 f3 H;go_wp2;go_roundw
            case rel=>exact⟨f,c4.out⟩
            case measure=>rw[hf.out];exact Nat.lt_succ_of_le (iI c4.out)
end Go.Proofs.YtjhkapjadfpimaaGreat
