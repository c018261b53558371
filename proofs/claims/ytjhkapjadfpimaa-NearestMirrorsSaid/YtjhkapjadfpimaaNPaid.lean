/- Contracts of functions, for the law. -/
import Derived.Test.YtjhkapjadfpimaaMOne
import Derived.Deep.RegionHeld3
import Derived.Test.YtjhkapjadfpimaaMSmall
import Derived.Deep.QuietTactic
import Derived.BigQuiet
import Derived.Test.YtjhkapjadfpimaaPLp
import Derived.Test.YtjhkapjadfpimaaFSum
import Derived.Test.YtjhkapjadfpimaaFSub
namespace Go.Proofs.Ytjhkapjadfpimaa
set_option linter.unusedVariables false
set_option linter.unusedSimpArgs false
open Go.RowKit Plain
attribute [local go_sem ↓] Go.wp_at_zero Go.wp_at_succ
theorem FV.frd {w:World}{v:Value}{q:Rat}(h:FV w v q):∃ d:FrD,v=fracV d.neg d.a d.la.length d.ca d.b d.lb.length d.cb∧FV w d.v d.q∧Hid (d.q=q):=by
 obtain⟨n,A,ca,la,B,cb,lb,rfl,na,nb,iq⟩:=h;have e:=iq.mk;refine⟨⟨n,A,ca,la,B,cb,lb⟩,rfl,⟨n,A,ca,la,B,cb,lb,rfl,na,nb,?_⟩,e.symm⟩
 show QIs n la lb (mkRat (sg n (val la)) (val lb))
 rw[←e];exact iq
def VarQ (w:World) (g:Nat) (d:FrD):Prop:=Blk w g 28 #[.bool d.neg,.slice d.a d.la.length d.ca,.slice d.b d.lb.length d.cb]
section
variable {w w':World}{g:Nat}{d:FrD}
theorem VarQ.below (h:VarQ w g d) (hb:Below w.heap.size w w'):VarQ w' g d:=Blk.keep h hb
theorem VarQ.only {g':Nat}(h:VarQ w g d) (ho:Only w w' g') (hne:g≠g'):VarQ w' g d:=Blk.only h ho hne
theorem VarQ.cells (h:VarQ w g d):w.cell? ⟨g,0,none⟩=some (.bool d.neg)∧w.cell? ⟨g,1,none⟩=some (.slice d.a d.la.length d.ca)∧w.cell? ⟨g,2,none⟩=some (.slice d.b d.lb.length d.cb):=⟨Blk.f0 h,Blk.f1 h,Blk.f2 h⟩
theorem VarQ.store (h:VarQ w g d) (e:FrD):∃ w9,w.cell? ⟨g,0,none⟩=some (.bool d.neg)∧w.cell? ⟨g,1,none⟩=some (.slice d.a d.la.length d.ca)∧w.cell? ⟨g,2,none⟩=some (.slice d.b d.lb.length d.cb)∧w.frozen? ⟨g,0,none⟩=false∧w.frozen? ⟨g,1,none⟩=false∧w.frozen? ⟨g,2,none⟩=false∧((w.setCell ⟨g,0,none⟩ (.bool e.neg)).setCell ⟨g,1,none⟩ (.slice e.a e.la.length e.ca)).setCell ⟨g,2,none⟩ (.slice e.b e.lb.length e.cb)=w9∧VarQ w9 g e∧Only w w9 g:=by
 obtain⟨w9,e9,h9,o9⟩:=Blk.set3 h (.bool e.neg) (.slice e.a e.la.length e.ca) (.slice e.b e.lb.length e.cb);exact⟨w9,Blk.f0 h,Blk.f1 h,Blk.f2 h,Blk.free h 0,Blk.free h 1,Blk.free h 2,e9,h9,o9⟩
theorem FV.onlyV {u:Value}{q:Rat}(h:FV w u q) (hB:VarQ w g d) (o:Only w w' g):FV w' u q:=h.only_blk hB (noDig3 _ _ _ _ _ _ _) o
theorem zero_store (h:Blk w g 28 #[.bool false,.slice none 0 0,.slice none 0 0]) (e:FrD):∃ w9,w.cell? ⟨g,0,none⟩=some (.bool false)∧w.cell? ⟨g,1,none⟩=some (.slice none 0 0)∧w.cell? ⟨g,2,none⟩=some (.slice none 0 0)∧w.frozen? ⟨g,0,none⟩=false∧w.frozen? ⟨g,1,none⟩=false∧w.frozen? ⟨g,2,none⟩=false∧((w.setCell ⟨g,0,none⟩ (.bool e.neg)).setCell ⟨g,1,none⟩ (.slice e.a e.la.length e.ca)).setCell ⟨g,2,none⟩ (.slice e.b e.lb.length e.cb)=w9∧VarQ w9 g e∧Only w w9 g:=by
 obtain⟨w9,e9,h9,o9⟩:=Blk.set3 h (.bool e.neg) (.slice e.a e.la.length e.ca) (.slice e.b e.lb.length e.cb);exact⟨w9,Blk.f0 h,Blk.f1 h,Blk.f2 h,Blk.free h 0,Blk.free h 1,Blk.free h 2,e9,h9,o9⟩
end
theorem new_var (w:World) (d:FrD):∃ wA wB,w.alloc (.cells #[.bool false,.slice none 0 0,.slice none 0 0] 28)=wA∧wA.cell? ⟨w.heap.size,0,none⟩=some (.bool false)∧wA.cell? ⟨w.heap.size,1,none⟩=some (.slice none 0 0)∧wA.cell? ⟨w.heap.size,2,none⟩=some (.slice none 0 0)∧wA.frozen? ⟨w.heap.size,0,none⟩=false∧wA.frozen? ⟨w.heap.size,1,none⟩=false∧wA.frozen? ⟨w.heap.size,2,none⟩=false ∧
 ((wA.setCell ⟨w.heap.size,0,none⟩ (.bool d.neg)).setCell ⟨w.heap.size,1,none⟩ (.slice d.a d.la.length d.ca)).setCell ⟨w.heap.size,2,none⟩ (.slice d.b d.lb.length d.cb)=wB∧VarQ wB w.heap.size d∧Below w.heap.size w wB∧w.heap.size<wB.heap.size:=by
 obtain⟨wA,eA,bA,lA,BA⟩:=boxed w #[.bool false,.slice none 0 0,.slice none 0 0] 28;obtain⟨wB,p0,p1,p2,r0,r1,r2,eB,hB,oB⟩:=zero_store BA d;exact⟨wA,wB,eA,p0,p1,p2,r0,r1,r2,eB,hB,oB.to_below bA (Nat.le_refl _) bA.size,Nat.lt_of_lt_of_le lA oB.size⟩
structure NdD where
 p:Int
 l:Int
def NdD.cells (d:NdD):List Value:=[.int .i64 d.p,.int .i64 d.l]
def NL (w:World) (A:Option Addr) (c:Nat) (ns:List NdD):Prop:=Srow w 2 NdD.cells A c ns
def ZL (w:World) (A:Option Addr) (c:Nat) (zs:List Int):Prop:=Srow w 1 (fun z:Int=>[Value.int .i64 z]) A c zs
theorem NL.below {w w':World}{A:Option Addr}{c:Nat}{ns:List NdD}(h:NL w A c ns) (hb:Below w.heap.size w w'):NL w' A c ns:=Srow.below h hb
theorem ZL.below {w w':World}{A:Option Addr}{c:Nat}{zs:List Int}(h:ZL w A c zs) (hb:Below w.heap.size w w'):ZL w' A c zs:=Srow.below h hb
theorem NL.len {w:World}{A:Option Addr}{c:Nat}{ns:List NdD}(h:NL w A c ns):ns.length≤c∧c≤9223372036854775807:=⟨h.1,h.2.1⟩
theorem ZL.len {w:World}{A:Option Addr}{c:Nat}{zs:List Int}(h:ZL w A c zs):zs.length≤c∧c≤9223372036854775807:=⟨h.1,h.2.1⟩
theorem ZL.at {w:World}{A:Option Addr}{c:Nat}{zs:List Int}(h:ZL w A c zs){k:Nat}(hk:k<zs.length) :
 ∃ a z,A=some a∧a.block<w.heap.size∧w.cell? (a.add k)=some (.int .i64 z)∧Hid (zs[k]?=some z):=by
 obtain⟨a,e,h1,h2⟩:=h.2.2 k hk;have h3:=h2 0 _ rfl;rw[Nat.mul_one,Nat.add_zero] at h3;exact⟨a,zs[k],e,h1,h3,List.getElem?_eq_getElem hk⟩
theorem NL.at {w:World}{A:Option Addr}{c:Nat}{ns:List NdD}(h:NL w A c ns){k:Nat}(hk:k<ns.length) :
 ∃ a d,A=some a∧a.block<w.heap.size∧w.cell? (a.add (k*2))=some (.int .i64 d.p)∧w.cell? ⟨(a.add (k*2)).block,(a.add (k*2)).off+1,none⟩=some (.int .i64 d.l)∧Hid (ns[k]?=some d):=by
 obtain⟨a,e,h1,h2⟩:=h.2.2 k hk;have h3:=h2 0 _ rfl;rw[Nat.add_zero] at h3;exact⟨a,ns[k],e,h1,h3,cellK (a:=a.add (k*2)) (by rw[add_add];exact h2 1 _ rfl) (by decide),List.getElem?_eq_getElem hk⟩
def VarN (w:World) (g:Nat) (d:NdD):Prop:=Blk w g 53 #[.int .i64 d.p,.int .i64 d.l]
theorem VarN.cells {w:World}{g:Nat}{d:NdD}(h:VarN w g d):w.cell? ⟨g,0,none⟩=some (.int .i64 d.p)∧w.cell? ⟨g,1,none⟩=some (.int .i64 d.l):=⟨Blk.cell h 0,Blk.cell h 1⟩
theorem VarN.below {w w':World}{g:Nat}{d:NdD}(h:VarN w g d) (hb:Below w.heap.size w w'):VarN w' g d:=Blk.keep h hb
theorem VarN.only {w w':World}{g g':Nat}{d:NdD}(h:VarN w g d) (ho:Only w w' g') (hne:g≠g'):VarN w' g d:=Blk.only h ho hne
theorem new_need (w:World) (d:NdD):∃ wA wB,w.alloc (.cells #[.int .i64 0,.int .i64 0] 53)=wA∧wA.cell? ⟨w.heap.size,0,none⟩=some (.int .i64 0)∧wA.cell? ⟨w.heap.size,1,none⟩=some (.int .i64 0)∧wA.frozen? ⟨w.heap.size,0,none⟩=false∧wA.frozen? ⟨w.heap.size,1,none⟩=false ∧
 (wA.setCell ⟨w.heap.size,0,none⟩ (.int .i64 d.p)).setCell ⟨w.heap.size,1,none⟩ (.int .i64 d.l)=wB∧VarN wB w.heap.size d∧Below w.heap.size w wB∧w.heap.size<wB.heap.size:=by
 obtain⟨wA,eA,bA,lA,BA⟩:=boxed w #[.int .i64 0,.int .i64 0] 53;have h1:=(BA.set 0 (.int .i64 d.p)).set 1 (.int .i64 d.l);have o1:=((Only.refl wA w.heap.size).set 0 (.int .i64 d.p)).set 1 (.int .i64 d.l);exact⟨wA,_,eA,BA.cell 0,BA.cell 1,BA.free 0,BA.free 1,rfl,h1,o1.to_below bA (Nat.le_refl _) bA.size,Nat.lt_of_lt_of_le lA o1.size⟩
def badM (m:Int):Bool:=decide (m<0) || decide (1000000<m)
def badN (n:Nat) (d:NdD):Bool:=decide (d.p<0) || (decide ((2:Int) ^ n≤d.p) || (decide (d.l < -1099511627776) || decide (1099511627776<d.l)))
def argsE (tl:Nat) (ns:List NdD) (ms:List Int):Int :=
 if 8<ms.length∨300<ns.length then 3 else if tl≠ms.length then 2 else if ms.any badM=true∨ns.any (badN ms.length)=true then 4 else 0
theorem argsE_ok {tl:Nat}{ns:List NdD}{ms:List Int}(h:argsE tl ns ms=0):ms.length≤8∧ns.length≤300∧tl=ms.length∧(∀ m∈ms,0≤m∧m≤1000000)∧∀ d∈ns,0≤d.p∧d.p<2 ^ ms.length∧-1099511627776≤d.l∧d.l≤1099511627776:=by
 unfold argsE at h
 split at h
 · cases h
 · split at h
   · cases h
   · split at h
     · cases h
     · rename_i h1 h2 h3
       refine⟨by omega,by omega,by omega,fun m hm=>?_,fun d hd=>?_⟩
       · have:ms.any badM=false:=by
          cases e:ms.any badM with
          | false=>rfl
          | true=>exact absurd (.inl e) h3
         have:=List.any_eq_false.1 this m hm;unfold badM at this
         simp at this
         omega
       · have:ns.any (badN ms.length)=false:=by
          cases e:ns.any (badN ms.length) with
          | false=>rfl
          | true=>exact absurd (.inr e) h3
         have:=List.any_eq_false.1 this d hd;unfold badN at this
         simp at this
         omega
def NoneInv {α:Type}(f:α→Bool) (l:List α) (root:World) (i:Value) (wr:World):Prop:=∃ k:Nat,k≤l.length∧i=.int .i64 (k:Int)∧Hid ((l.take k).any f=false)∧Below root.heap.size root wr
theorem none_take {α:Type}{f:α→Bool}{l:List α}{k:Nat}{x:α}(h:(l.take k).any f=false) (hk:l[k]?=some x) (hx:f x=false):(l.take (k+1)).any f=false:=by
 rw[List.take_add_one,hk,List.any_append,h];simp[hx]
theorem wrap_pow {n:Nat}(h:n≤8):IntKind.i64.wrap (2 ^ n)=(2:Int) ^ n:=by
 have h9:n=0∨n=1∨n=2∨n=3∨n=4∨n=5∨n=6∨n=7∨n=8:=by omega
 rcases h9 with rfl | rfl | rfl | rfl | rfl | rfl | rfl | rfl | rfl <;> decide
theorem Below.drewN {B:Nat}{a w:World}(h:Below B a w) (n:Nat):Below B a (w.drewN n):=⟨h.os,h.tape,h.output,h.size,h.block⟩
theorem none_yes {α:Type}{f:α→Bool}{l:List α}{k:Nat}{x:α}(hk:l[k]?=some x) (h:f x=true):l.any f=true:=List.any_eq_true.2 ⟨x,List.mem_of_getElem? hk,h⟩
set_option maxRecDepth 100000 in
set_option maxHeartbeats 4000000 in
theorem args_any {A B C:Option Addr}{ca cb cc tl:Nat}{ns:List NdD}{ms:List Int}{w:World}(ht:tl≤ca∧ca≤9223372036854775807) (hn:NL w B cb ns) (hm:ZL w C cc ms) :
 Calls Try.prog 27 #[.slice A tl ca,.slice B ns.length cb,.slice C ms.length cc] w (RetI (argsE tl ns ms) w):=by
 obtain⟨r,hr⟩:∃ r,Hid (argsE tl ns ms=r):=⟨_,rfl⟩;rw[hr.out];have ln:=hn.len;have lm:=hm.len;have bT:=Below.refl w.heap.size w
 by_cases h1:8<ms.length
 · have t1:decide ((8:Int)<(ms.length:Int))=true:=decide_eq_true (by omega);have hf:=Lib.hid (show r=3 by rw[←hr.out];unfold argsE;rw[if_pos (.inl h1)]);go_enter Try.func27,Try.ntmps27;go_wp2;go_ret;exact⟨by rw[hf.out];rfl,bT⟩
 have t1:decide ((8:Int)<(ms.length:Int))=false:=decide_eq_false (by omega)
 by_cases h2:300<ns.length
 · have t2:decide ((300:Int)<(ns.length:Int))=true:=decide_eq_true (by omega);have hf:=Lib.hid (show r=3 by rw[←hr.out];unfold argsE;rw[if_pos (.inr h2)]);go_enter Try.func27,Try.ntmps27;go_wp2;go_ret;exact⟨by rw[hf.out];rfl,bT⟩
 have t2:decide ((300:Int)<(ns.length:Int))=false:=decide_eq_false (by omega)
 by_cases h3:¬ tl=ms.length
 · have t3:((tl:Int) != (ms.length:Int))=true:=by rw[bne_iff_ne];omega
   have hf:=Lib.hid (show r=2 by rw[←hr.out];unfold argsE;rw[if_neg (by omega),if_pos h3]);go_enter Try.func27,Try.ntmps27;go_wp2;go_ret;exact⟨by rw[hf.out];rfl,bT⟩
 have h3':=Lib.hid (Decidable.not_not.1 h3);have t3:((tl:Int) != (ms.length:Int))=false:=by rw[bne_eq_false_iff_eq];have:=h3'.out;omega
 clear h3;have hm8:ms.length≤8:=by omega
 have hr2:=Lib.hid (show r=if ms.any badM=true∨ns.any (badN ms.length)=true then 4 else 0 by rw[←hr.out];unfold argsE;rw[if_neg (by omega),if_neg (by have:=h3'.out;omega)]);go_enter Try.func27,Try.ntmps27;go_wp2
 go_loopw [26] (fun i wr=>NoneInv badM ms w i wr) (fun i _=>ms.length-(intOf i).toNat)
 case atStart=>exact⟨0,by omega,rfl,rfl,bT⟩
 case round =>
  obtain⟨k,hk,rfl,hall,hb⟩:=hrel
  by_cases hkl:k<ms.length
  · have hki:(k:Int)<(ms.length:Int):=by omega
    obtain⟨a,z,rfl,hab,hc0,hzk⟩:=(hm.below hb).at hkl
    by_cases c1:z<0
    · have d1:decide (z<0)=true:=decide_eq_true c1;have hf:=Lib.hid (show r=4 by rw[hr2.out,if_pos (.inl (none_yes hzk.out (by unfold badM;rw[d1];rfl)))]);clear c1;go_wp2;go_ret;exact⟨by rw[hf.out];rfl,hb⟩
    have d1:decide (z<0)=false:=decide_eq_false c1
    by_cases c2:1000000<z
    · have d2:decide (1000000<z)=true:=decide_eq_true c2;have hf:=Lib.hid (show r=4 by rw[hr2.out,if_pos (.inl (none_yes hzk.out (by unfold badM;rw[d1,d2];rfl)))]);clear c1 c2;go_wp2;go_ret;exact⟨by rw[hf.out];rfl,hb⟩
    have d2:decide (1000000<z)=false:=decide_eq_false c2;have hall2:=Lib.hid (none_take hall.out hzk.out (by unfold badM;rw[d1,d2];rfl));clear c1 c2;go_wp2;go_roundw
    case rel=>exact⟨k+1,by omega,by go_num,hall2,hb⟩
    case measure=>simp[intOf];omega
  · obtain rfl:k=ms.length:=by omega
    have hlt':decide ((ms.length:Int)<(ms.length:Int))=false:=decide_eq_false (by omega);have hall':=Lib.hid (show ms.any badM=false by have:=hall.out;rwa [List.take_length] at this);obtain⟨wo,hwo⟩:∃ wo:World,wo=wr:=⟨_,rfl⟩;subst hwo;have hsh:((1:Int)*2 ^ min ms.length 64)=2 ^ ms.length:=by rw[Nat.min_eq_left (by omega),Int.one_mul]
    go_wp2
    go_loopw [39] (fun i wr=>NoneInv (badN ms.length) ns w i wr) (fun i _=>ns.length-(intOf i).toNat)
    case atStart=>exact⟨0,by omega,rfl,rfl,hb⟩
    case round =>
     obtain⟨k,hk,rfl,hall,hb⟩:=hrel
     by_cases hkl:k<ns.length
     · have hki:(k:Int)<(ns.length:Int):=by omega
       obtain⟨a,d,ea,hab,hc0,hc1,hdk⟩:=(hn.below hb).at hkl;rw[ea];obtain⟨wA,wB,eA,p0,p1,r0,r1,eB,hV,bV,lV⟩:=new_need wr d;obtain⟨x0,x1⟩:=hV.cells;have hb2:=hb.trans (bV.mono hb.size);obtain⟨P,hP⟩:∃ P:Int,P=(2:Int) ^ ms.length:=⟨_,rfl⟩
       by_cases c1:d.p<0
       · have d1:decide (d.p<0)=true:=decide_eq_true c1;have hf:=Lib.hid (show r=4 by rw[hr2.out,if_pos (.inr (none_yes hdk.out (by unfold badN;rw[d1];rfl)))]);clear c1;go_wp2_with fail
         go_quiet (fail)
         go_wp2;go_ret;exact⟨by rw[hf.out];rfl,Below.drewN hb2 _⟩
       have d1:decide (d.p<0)=false:=decide_eq_false c1
       by_cases c2:(2:Int) ^ ms.length≤d.p
       · have d2:decide (IntKind.i64.wrap (2 ^ ms.length)≤d.p)=true:=by rw[wrap_pow hm8];exact decide_eq_true c2
         have hf:=Lib.hid (show r=4 by rw[hr2.out,if_pos (.inr (none_yes hdk.out (by unfold badN;rw[d1,decide_eq_true c2];rfl)))]);clear c1 c2;go_wp2_with fail
         go_quiet (fail)
         go_wp2;go_ret;exact⟨by rw[hf.out];rfl,Below.drewN hb2 _⟩
       have d2:decide (IntKind.i64.wrap (2 ^ ms.length)≤d.p)=false:=by rw[wrap_pow hm8];exact decide_eq_false c2
       by_cases c3:d.l < -1099511627776
       · have d3:decide (d.l < -1099511627776)=true:=decide_eq_true c3;have hf:=Lib.hid (show r=4 by rw[hr2.out,if_pos (.inr (none_yes hdk.out (by unfold badN;rw[d1,decide_eq_false c2,d3];rfl)))]);clear c1 c2 c3;go_wp2_with fail
         go_quiet (fail)
         go_wp2;go_ret;exact⟨by rw[hf.out];rfl,Below.drewN hb2 _⟩
       have d3:decide (d.l < -1099511627776)=false:=decide_eq_false c3
       by_cases c4:1099511627776<d.l
       · have d4:decide (1099511627776<d.l)=true:=decide_eq_true c4;have hf:=Lib.hid (show r=4 by rw[hr2.out,if_pos (.inr (none_yes hdk.out (by unfold badN;rw[d1,decide_eq_false c2,d3,d4];rfl)))]);clear c1 c2 c3 c4;go_wp2_with fail
         go_quiet (fail)
         go_wp2;go_ret;exact⟨by rw[hf.out];rfl,Below.drewN hb2 _⟩
       have d4:decide (1099511627776<d.l)=false:=decide_eq_false c4;have hall2:=Lib.hid (none_take hall.out hdk.out (by unfold badN;rw[d1,decide_eq_false c2,d3,d4];rfl));clear c1 c2 c3 c4;go_wp2_with fail
       go_quiet (fail)
       go_wp2;go_roundw
       case rel=>exact⟨k+1,by omega,by go_num,hall2,Below.drewN hb2 _⟩
       case measure=>simp[intOf];omega
     · obtain rfl:k=ns.length:=by omega
       have hlt2:decide ((ns.length:Int)<(ns.length:Int))=false:=decide_eq_false (by omega);have hf:=Lib.hid (show r=0 by rw[hr2.out,if_neg];rw[hall'.out];have:=hall.out;rw[List.take_length] at this;rw[this];simp);go_wp2;go_ret;exact⟨by rw[hf.out];rfl,hb⟩
def slackB (q:Rat) (t:Bool):Bool:=decide (q=0) || (t&&decide (0<q))
set_option maxRecDepth 100000 in
set_option maxHeartbeats 4000000 in
theorem slack_any {v:Value}{q:Rat}{t:Bool}{w:World}(hv:FV w v q) :
 Calls Try.prog 32 #[v,.bool t] w (RetB (slackB q t) w):=by
 obtain⟨d,rfl,hd,hq⟩:=hv.frd;obtain⟨w0,hw0,b0,l0,B0⟩:=boxed w #[.bool d.neg,.slice d.a d.la.length d.ca,.slice d.b d.lb.length d.cb] 28;obtain⟨x0,x1,x2⟩:=VarQ.cells B0;obtain⟨s,hs⟩:∃ s,Hid (cmpR q 0=s):=⟨_,rfl⟩;obtain⟨r,hr⟩:∃ r,Hid (slackB q t=r):=⟨_,rfl⟩;rw[hr.out];have hc:=sign_any (hd.below b0);rw[hq.out,hs.out] at hc;have hbd:=cmpR_bd q 0;rw[hs.out] at hbd;go_enter Try.func32,Try.ntmps32;go_wp2_with fail;refine hc.mono ?_;rintro e w1 ⟨rfl,b1⟩;have b01:=b0.trans (b1.mono b0.size)
 by_cases h0:s=0
 · have hz:(s == 0)=true:=by rw[beq_iff_eq];exact h0
   have hr2:=Lib.hid (show r=true by rw[←hr.out];unfold slackB;rw[decide_eq_true (cmpR_zero.1 (by rw[hs.out];exact h0))];rfl);clear hc h0;go_wp2;go_ret;exact⟨by rw[hr2.out];rfl,b01⟩
 · have hz:(s == 0)=false:=by rw[beq_eq_false_iff_ne];exact h0
   have hn:=Lib.hid (show ¬ q=0 from fun e=>h0 (by rw[←hs.out];exact cmpR_zero.2 e))
   cases t with
   | false =>
    have hr2:=Lib.hid (show r=false by rw[←hr.out];unfold slackB;rw[decide_eq_false hn.out];rfl);clear hc h0;go_wp2;go_ret;exact⟨by rw[hr2.out];rfl,b01⟩
   | true =>
    obtain⟨y0,y1,y2⟩:=VarQ.cells (VarQ.below B0 b1);have hc2:=sign_any ((hd.below b0).below b1);rw[hq.out,hs.out] at hc2
    have hr2:=Lib.hid (show decide ((0:Int)<s)=r by
     rw[←hr.out];unfold slackB;rw[decide_eq_false hn.out,Bool.false_or,Bool.true_and,←hs.out];exact decide_eq_decide.2 cmpR_pos)
    clear hc;go_wp2_with fail;refine hc2.mono ?_;rintro e w2 ⟨rfl,b2⟩;clear hc2
    by_cases h9:(0:Int)<s
    · have h9d:decide ((0:Int)<s)=true:=decide_eq_true h9;go_wp2;go_ret;exact⟨by rw[←hr2.out,h9d];rfl,b01.trans (b2.mono b01.size)⟩
    · have h9d:decide ((0:Int)<s)=false:=decide_eq_false h9;go_wp2;go_ret;exact⟨by rw[←hr2.out,h9d];rfl,b01.trans (b2.mono b01.size)⟩
set_option maxRecDepth 100000 in
set_option maxHeartbeats 4000000 in
theorem at_any {A:Option Addr}{c i:Nat}{ds:List FrD}{w:World}(h:FL w A c ds) (hi:i<1000000000000) :
 Calls Try.prog 41 #[.slice A ds.length c,.int .i64 (i:Int)] w (RetQ ((ds.map FrD.q).getD i 0) w):=by
 obtain⟨w0,hw0,b0,l0,B0⟩:=boxed w #[.bool false,.slice none 0 0,.slice none 0 0] 28;have hl:=h.len;obtain⟨q,hq⟩:∃ q,Hid ((ds.map FrD.q).getD i 0=q):=⟨_,rfl⟩;rw[hq.out];go_enter Try.func41,Try.ntmps41
 by_cases hil:i<ds.length
 · have hii:(i:Int)<(ds.length:Int):=by omega
   obtain⟨a,d,rfl,hab,hc0,hc1,hc2,hd,hdk⟩:=(h.below b0).at hil;have hdq:=Lib.hid (show d.q=q by rw[←hq.out,List.getD_eq_getElem?_getD,List.getElem?_map,hdk.out];rfl);obtain⟨w9,p0,p1,p2,r0,r1,r2,e9,h9,o9⟩:=zero_store B0 d;obtain⟨x0,x1,x2⟩:=VarQ.cells h9;go_wp2;refine bodyPost_ret (v:=fracV d.neg d.a d.la.length d.ca d.b d.lb.length d.cb) (by simp[results,Try.results41,go_sem,x0,x1,x2]) rfl ?_;exact⟨_,rfl,by rw[←hdq.out];exact hd.only_blk B0 (noDig3 _ _ _ _ _ _ _) o9,o9.to_below b0 (Nat.le_refl _) b0.size⟩
 · have hii:decide ((i:Int)<(ds.length:Int))=false:=decide_eq_false (by omega);go_wp2_with fail;refine (fromInt_any 0 _ (by decide) (by decide)).mono ?_;rintro e w1 ⟨v1,rfl,hv1,b1⟩;obtain⟨d,rfl,hd,hdq⟩:=hv1.frd;have B1:=Blk.keep B0 b1;obtain⟨w9,p0,p1,p2,r0,r1,r2,e9,h9,o9⟩:=zero_store B1 d;obtain⟨x0,x1,x2⟩:=VarQ.cells h9;have b01:=b0.trans (b1.mono b0.size);have hq2:=Lib.hid (show d.q=q by rw[hdq.out,←hq.out,List.getD_eq_getElem?_getD,List.getElem?_eq_none (by rw[List.length_map];omega)];rfl);clear hv1;go_wp2;refine bodyPost_ret (v:=fracV d.neg d.a d.la.length d.ca d.b d.lb.length d.cb) (by simp[results,Try.results41,go_sem,x0,x1,x2]) rfl ?_;exact⟨_,rfl,by rw[←hq2.out];exact hd.only_blk B1 (noDig3 _ _ _ _ _ _ _) o9,o9.to_below b01 (Nat.le_refl _) b01.size⟩
def bitP (p i:Nat):Bool:=p / 2 ^ i % 2 == 1
theorem bits_one {p i:Nat}(hp:p<256) (hi:i<8):(bits BinOp.and IntKind.i64 ((p:Int) / 2 ^ i) 1 == 1)=bitP p i:=by
 have key:∀ q:Fin 256,∀ j:Fin 8,(bits BinOp.and IntKind.i64 ((q.val:Int) / 2 ^ j.val) 1 == 1)=bitP q.val j.val:=by decide +kernel
 exact key ⟨p,hp⟩ ⟨i,hi⟩
def paidL (p:Nat) (qs:List Rat):List Rat:=(List.range qs.length).map fun i=>if bitP p i=true then qs.getD i 0 else 0
theorem paidL_len (p:Nat) (qs:List Rat):(paidL p qs).length=qs.length:=by simp[paidL]
theorem paidL_get {p:Nat}{qs:List Rat}{k:Nat}{q:Rat}(h:qs[k]?=some q):(paidL p qs)[k]?=some (if bitP p k=true then q else 0):=by
 have hk:=(List.getElem?_eq_some_iff.1 h).1;unfold paidL;rw[List.getElem?_map,List.getElem?_range hk]
 show some (if bitP p k=true then qs.getD k 0 else 0)=_
 rw[List.getD_eq_getElem?_getD,h];rfl
theorem paidL_fits {K:Nat}{p:Nat}{qs:List Rat}(hK:0<K) (h:QFits K qs):QFits K (paidL p qs):=fun q hq=>by
 obtain⟨i,hi,rfl⟩:=List.mem_map.1 hq
 split
 · exact h.get (List.mem_range.1 hi)
 · exact Fits.zero hK
def SumAt (ps:List Rat) (g:Nat) (root:World) (k:Nat) (wr:World):Prop:=∃ d:FrD,VarQ wr g d∧FV wr d.v d.q∧d.q=sumR (ps.take k)∧Below root.heap.size root wr
theorem SumAt.below {ps:List Rat}{g:Nat}{root:World}{k:Nat}{w w':World}(h:SumAt ps g root k w) (hb:Below w.heap.size w w'):SumAt ps g root k w':=by
 obtain⟨d,h1,h2,h3,h4⟩:=h;exact⟨d,h1.below hb,h2.below hb,h3,h4.trans (hb.mono h4.size)⟩
theorem SumAt.bel {ps:List Rat}{g:Nat}{root:World}{k:Nat}{w:World}(h:SumAt ps g root k w):Below root.heap.size root w:=by obtain⟨d,h1,h2,h3,h4⟩:=h;exact h4
theorem SumAt.skip {ps:List Rat}{g:Nat}{root:World}{k:Nat}{w:World}(h:SumAt ps g root k w) (hk:ps[k]?=some 0):SumAt ps g root (k+1) w:=by
 obtain⟨d,h1,h2,h3,h4⟩:=h;exact⟨d,h1,h2,by rw[sumR_takeL hk,h3,Rat.add_zero],h4⟩
theorem sum_fits {K n:Nat}{ps:List Rat}(h:QFits K ps) (hn:ps.length≤n) (k:Nat):Fits (1+n*(K+1)) (sumR (ps.take k)):=by
 refine (fits_sum (k:=K) (fun q hq=>h q (List.mem_of_mem_take hq))).mono ?_;have h1:(ps.take k).length≤n:=by rw[List.length_take];omega
 have:=Nat.mul_le_mul_right (K+1) h1;omega
set_option maxRecDepth 100000 in
set_option maxHeartbeats 4000000 in
theorem paid_any {K p:Nat}{l:Int}{A:Option Addr}{c:Nat}{ds:List FrD}{w:World}(h:FL w A c ds) (hf:QFits K (ds.map FrD.q)) (hK0:0<K) (hK:1+8*(K+1)+K<400000000) (hp:p<256) (hl:ds.length≤8) :
 Calls Try.prog 33 #[.agg #[.int .i64 (p:Int),.int .i64 l],.slice A ds.length c] w (RetQ (sumR (paidL p (ds.map FrD.q))) w):=by
 have hlen:=h.len;obtain⟨ps,hps⟩:∃ ps,Hid (paidL p (ds.map FrD.q)=ps):=⟨_,rfl⟩;have hpl:=Lib.hid (show ps.length=ds.length by rw[←hps.out,paidL_len,List.length_map]);have hpf:=Lib.hid (show QFits K ps by rw[←hps.out];exact paidL_fits hK0 hf);rw[hps.out];obtain⟨w0,hw0,b0,l0,B0⟩:=boxed w #[.int .i64 (p:Int),.int .i64 l] 53;obtain⟨w1,hw1,b1,l1,B1⟩:=boxed w0 #[.bool false,.slice none 0 0,.slice none 0 0] 28;have b01:=b0.trans (b1.mono b0.size);have hV0:VarN w1 w.heap.size ⟨p,l⟩:=Blk.keep B0 b1;have hf':=Lib.hid hf;clear hf;go_enter Try.func33,Try.ntmps33;go_wp2_with fail;refine (fromInt_any 0 _ (by decide) (by decide)).mono ?_;rintro e w2 ⟨v1,rfl,hv1,b2⟩;obtain⟨z,rfl,hz,hzq⟩:=hv1.frd;clear hv1;obtain⟨wA,w3,eA,p0,p1,p2,r0,r1,r2,eB,hS3,b3,l3⟩:=new_var w2 z;have b12:=b01.trans (b2.mono b01.size);have b03:=b12.trans (b3.mono b12.size);have hV3:=(hV0.below b2).below b3;have B3:=(Blk.keep B1 b2).keep b3;have hat:SumAt ps w2.heap.size w 0 w3:=⟨z,hS3,hz.below b3,by rw[hzq.out];simp[sumR_nil],b03⟩;have hfl3:=h.below b03;have hgs:=Lib.hid (show w.heap.size≤w2.heap.size from b12.size);have hg1:w.heap.size≠w2.heap.size:=by have:=b2.size;have:=b1.size;omega
 have hg2:w0.heap.size≠w2.heap.size:=by have:=b2.size;omega
 have hg1':=Lib.hid hg1;have hg2':=Lib.hid hg2;have hg0':=Lib.hid (show w.heap.size≤w0.heap.size from b0.size);go_wp2;clear p0 p1 p2 r0 r1 r2 eA eB hg1 hg2
 go_loopw [11] (fun i wr=>∃ k:Nat,k≤ds.length∧i=.int .i64 (k:Int)∧SumAt ps w2.heap.size w k wr∧VarN wr w.heap.size ⟨p,l⟩∧Blk wr w0.heap.size 28 #[.bool false,.slice none 0 0,.slice none 0 0]) (fun i _=>ds.length-(intOf i).toNat)
 case atStart=>exact⟨0,by omega,rfl,hat,hV3,B3⟩
 case round =>
  clear hat hV3 B3 hS3 hfl3;obtain⟨k,hk,rfl,hat,hV,hB⟩:=hrel;have hbel:=hat.bel;obtain⟨s,hS,hs,hsq,-⟩:=hat
  by_cases hkl:k<ds.length
  · have hki:(k:Int)<(ds.length:Int):=by omega
    have hk8:k<8:=by omega
    obtain⟨a,d,ea,hab,hc0,hc1,hc2,hd,hdk⟩:=(h.below hbel).at hkl;rw[ea];obtain⟨wA,w4,eA,p0,p1,p2,r0,r1,r2,eB,hD,b4,l4⟩:=new_var wr d;have hbel4:=hbel.trans (b4.mono hbel.size);have hS4:=hS.below b4;have hs4:=hs.below b4;have hd4:=hd.below b4;have hV4:=hV.below b4;have hB4:=Blk.keep hB b4;obtain⟨x0,x1,x2⟩:=hS4.cells;obtain⟨y0,y1,y2⟩:=hD.cells;obtain⟨n0,n1⟩:=hV4.cells;have hpk:=Lib.hid (paidL_get (p:=p) (show (ds.map FrD.q)[k]?=some d.q by rw[List.getElem?_map,hdk.out];rfl));rw[hps.out] at hpk;obtain⟨b,hb⟩:∃ b,Hid (bitP p k=b):=⟨_,rfl⟩;have hbit:(bits BinOp.and IntKind.i64 ((p:Int) / 2 ^ k) 1 == 1)=b:=by rw[bits_one hp hk8];exact hb.out
    have hsq':=Lib.hid hsq;clear hsq hS hs hd hV hB ea
    cases b with
    | false =>
     have hpk2:=Lib.hid (show ps[k]?=some 0 by rw[hpk.out,hb.out];rfl);go_wp2;go_roundw
     case rel=>exact⟨k+1,by omega,by go_num,SumAt.skip ⟨s,hS4,hs4,hsq'.out,hbel4⟩ hpk2.out,hV4,hB4⟩
     case measure=>simp[intOf];omega
    | true =>
     have hpk2:=Lib.hid (show ps[k]?=some d.q by rw[hpk.out,hb.out];rfl);have hfs:=Lib.hid (sum_fits (n:=8) hpf.out (by rw[hpl.out];exact hl) k);have hfd:=Lib.hid (hf'.out.fr d (List.mem_of_getElem? hdk.out));have hadd:=addF_any hs4 hd4 (j:=1+8*(K+1)) (k:=K) (by rw[hsq'.out];exact hfs.out) hfd.out hK;go_wp2_with fail;refine hadd.mono ?_;rintro e w5 ⟨v5,rfl,hv5,b5⟩;clear hadd;obtain⟨t,rfl,ht,htq⟩:=hv5.frd;clear hv5;obtain⟨w6,q0,q1,q2,f0,f1,f2,e6,hS6,o6⟩:=(hS4.below b5).store t;have hbel5:=hbel4.trans (b5.mono hbel4.size);have hbel6:=o6.to_below hbel5 hgs.out hbel5.size;have ht6:=ht.onlyV (hS4.below b5) o6;have hV6:=(hV4.below b5).only o6 hg1'.out;have hB6:=Blk.only (Blk.keep hB4 b5) o6 hg2'.out;have htq':=Lib.hid (show t.q=sumR (ps.take (k+1)) by rw[htq.out,hsq'.out,sumR_takeL hpk2.out]);clear ht o6 hS4 hs4 hd4 hV4 hB4;go_wp2;go_roundw
     case rel=>exact⟨k+1,by omega,by go_num,⟨t,hS6,ht6,htq'.out,hbel6⟩,hV6,hB6⟩
     case measure=>simp[intOf];omega
  · obtain rfl:k=ds.length:=by omega
    have hlt':decide ((ds.length:Int)<(ds.length:Int))=false:=decide_eq_false (by omega);obtain⟨x0,x1,x2⟩:=hS.cells;obtain⟨w9,p0,p1,p2,r0,r1,r2,e9,h9,o9⟩:=zero_store hB s;obtain⟨y0,y1,y2⟩:=h9.cells;have hsq':=Lib.hid (show s.q=sumR ps by rw[hsq,List.take_of_length_le (by rw[hpl.out];exact Nat.le_refl _)]);have hs9:=hs.only_blk hB (noDig3 _ _ _ _ _ _ _) o9;have hbel9:=o9.to_below hbel hg0'.out hbel.size;clear hsq hs hV;go_wp2;refine bodyPost_ret (v:=fracV s.neg s.a s.la.length s.ca s.b s.lb.length s.cb) (by simp[results,Try.results33,go_sem,y0,y1,y2]) rfl ?_;exact⟨_,rfl,by rw[←hsq'.out];exact hs9,hbel9⟩
end Go.Proofs.Ytjhkapjadfpimaa
