/- Contracts of functions, for the law. -/
import Derived.Test.YtjhkapjadfpimaaGMake
import Derived.Test.YtjhkapjadfpimaaWSmall
import Derived.Test.YtjhkapjadfpimaaWGcd
import Derived.ChangeSlices
import Derived.Deep.Slices
import Derived.Deep.Strs
import Derived.ProofKit
import Derived.OpenShut
namespace Go.Proofs.Ytjhkapjadfpimaa
set_option linter.unusedVariables false
set_option linter.unusedSimpArgs false
open Go.RowKit Plain
def sameF (n1:Bool) (a1 b1:List Nat) (n2:Bool) (a2 b2:List Nat):Bool:=(n1 == n2)&&(decide (a1=a2)&&decide (b1=b2))
def PartInv (la lb:List Nat) (w:World) (i:Value) (wr:World):Prop :=
 ∃ k:Nat,k≤la.length∧i=.int .i64 k∧Hid (la.take k=lb.take k)∧Below w.heap.size w wr
set_option maxRecDepth 100000 in
set_option maxHeartbeats 2000000 in
theorem sameF_any {n1 n2:Bool}{A B C D:Option Addr}{ca cb cc cd:Nat}{a1 b1 a2 b2:List Nat}{w:World}(ha:Nv w A ca a1) (hb:Nv w B cb b1) (hc:Nv w C cc a2) (hd:Nv w D cd b2) :
 Calls Try.prog 20 #[fracV n1 A a1.length ca B b1.length cb,fracV n2 C a2.length cc D b2.length cd] w fun e w'=>e=.returned (.bool (sameF n1 a1 b1 n2 a2 b2))∧Below w.heap.size w w':=by
 by_cases hn:n1=n2
 · subst hn;obtain⟨wa,hwa,bwa,hlta,hBa⟩:=boxed w #[.bool n1,.slice A a1.length ca,.slice B b1.length cb] 28;obtain⟨w0,hw0,bw0,hlt0,hB0⟩:=boxed wa #[.bool n1,.slice C a2.length cc,.slice D b2.length cd] 28;have b0:=bwa.trans (bw0.mono (Nat.le_of_lt hlta));have hA:=hBa.keep bw0;have x0:=hA.f0;have x1:=hA.f1;have x2:=hA.f2;have y0:=hB0.f0;have y1:=hB0.f1;have y2:=hB0.f2;have g1:=ha.big;have g2:=hb.big;have g3:=hc.big;have g4:=hd.big;have ha0:=ha.below b0;have hb0:=hb.below b0;have hc0:=hc.below b0;have hd0:=hd.below b0
   by_cases hl1:a1.length=a2.length
   · have hne1:(((a1.length:Nat):Int) != ((a2.length:Nat):Int))=false:=by rw[bne_eq_false_iff_eq];omega
     have hl1':=Lib.hid hl1;have hle1:a1.length≤a2.length:=by omega
     clear hl1
     by_cases hl2:b1.length=b2.length
     · have hne2:(((b1.length:Nat):Int) != ((b2.length:Nat):Int))=false:=by rw[bne_eq_false_iff_eq];omega
       have hl2':=Lib.hid hl2;have hle2:b1.length≤b2.length:=by omega
       have hr:Hid (sameF n1 a1 b1 n1 a2 b2=(decide (a1=a2)&&decide (b1=b2))):=by show _=_;unfold sameF;rw[beq_self_eq_true,Bool.true_and]
       rw[hr.out];clear hl2 hr;go_enter Try.func20,Try.ntmps20;go_wp2
       go_loopw [5] (fun i wr=>PartInv a1 a2 w0 i wr) (fun i _=>a1.length-(intOf i).toNat)
       case atStart=>exact⟨0,by omega,rfl,rfl,Below.refl _ _⟩
       case round =>
        obtain⟨k,hk,rfl,hdd,hbel⟩:=hrel;have k1:=(hA.keep hbel).f1;have m1:=(hB0.keep hbel).f1;have bT:=b0.trans (hbel.mono b0.size)
        by_cases hkl:k<a1.length
        · obtain⟨a,d,rfl,hab,hac,hda,hga⟩:=(ha0.below hbel).at (k:=k) hkl;obtain⟨b,f,rfl,hbb,hbc,hdb,hgb⟩:=(hc0.below hbel).at (k:=k) (by omega)
          by_cases hdf:d=f
          · subst hdf;have hf:=Lib.hid (show a1.take (k+1)=a2.take (k+1) by rw[take_snoc' a1 k hkl,take_snoc' a2 k (by omega),hdd.out,hga.out,hgb.out]);go_wp2
            go_quiet (fail)
            go_wp2;go_roundw
            case rel=>exact⟨k+1,by omega,by go_num,hf,below_drewN hbel _⟩
            case measure=>simp[intOf];omega
          · have hf:=Lib.hid (show a1≠a2 by intro e;subst e;exact hdf (hga.out.symm.trans hgb.out));have hdf':((d:Int) != (f:Int))=true:=by rw[bne_iff_ne];omega
            go_wp2
            go_quiet (fail)
            go_wp2;go_ret;refine⟨?_,below_drewN bT _⟩;rw[decide_eq_false hf.out];rfl
        · obtain rfl:k=a1.length:=by omega
          have hf:=Lib.hid (show a1=a2 by
           have:=hdd.out;rw[List.take_length,hl1'.out,List.take_length] at this;exact this)
          clear x0 x1 x2 y0 y1 y2 ha0 hc0 hdd;go_wp2
          rename_i wr
          go_loopw [6] (fun i wr=>PartInv b1 b2 w0 i wr) (fun i _=>b1.length-(intOf i).toNat)
          case atStart=>exact⟨0,by omega,rfl,rfl,hbel⟩
          case round =>
           obtain⟨k,hk,rfl,hdd,hbel⟩:=hrel;have k2:=(hA.keep hbel).f2;have m2:=(hB0.keep hbel).f2;have bT:=b0.trans (hbel.mono b0.size)
           by_cases hkl:k<b1.length
           · obtain⟨a,d,rfl,hab,hac,hda,hga⟩:=(hb0.below hbel).at (k:=k) hkl;obtain⟨b,f,rfl,hbb,hbc,hdb,hgb⟩:=(hd0.below hbel).at (k:=k) (by omega)
             by_cases hdf:d=f
             · subst hdf;have hf:=Lib.hid (show b1.take (k+1)=b2.take (k+1) by rw[take_snoc' b1 k hkl,take_snoc' b2 k (by omega),hdd.out,hga.out,hgb.out]);go_wp2
               go_quiet (fail)
               go_wp2;go_roundw
               case rel=>exact⟨k+1,by omega,by go_num,hf,below_drewN hbel _⟩
               case measure=>simp[intOf];omega
             · have hf2:=Lib.hid (show b1≠b2 by intro e;subst e;exact hdf (hga.out.symm.trans hgb.out));have hdf':((d:Int) != (f:Int))=true:=by rw[bne_iff_ne];omega
               go_wp2
               go_quiet (fail)
               go_wp2;go_ret;refine⟨?_,below_drewN bT _⟩;rw[decide_eq_false hf2.out,Bool.and_false];rfl
           · obtain rfl:k=b1.length:=by omega
             have hf2:=Lib.hid (show b1=b2 by
              have:=hdd.out;rw[List.take_length,hl2'.out,List.take_length] at this;exact this)
             go_wp2;go_ret;refine⟨?_,bT⟩;rw[decide_eq_true hf.out,decide_eq_true hf2.out];rfl
     · have hne2:(((b1.length:Nat):Int) != ((b2.length:Nat):Int))=true:=by rw[bne_iff_ne];omega
       have hr:Hid (sameF n1 a1 b1 n1 a2 b2=false):=by
        show _=_;unfold sameF
        rw[decide_eq_false (show ¬ b1=b2 from fun e=>hl2 (by rw[e])),Bool.and_false,Bool.and_false]
       rw[hr.out];clear hl2 hr;go_enter Try.func20,Try.ntmps20;go_wp2;go_ret;exact⟨rfl,b0⟩
   · have hne1:(((a1.length:Nat):Int) != ((a2.length:Nat):Int))=true:=by rw[bne_iff_ne];omega
     have hr:Hid (sameF n1 a1 b1 n1 a2 b2=false):=by
      show _=_;unfold sameF
      rw[decide_eq_false (show ¬ a1=a2 from fun e=>hl1 (by rw[e])),Bool.false_and,Bool.and_false]
     rw[hr.out];clear hl1 hr;go_enter Try.func20,Try.ntmps20;go_wp2;go_ret;exact⟨rfl,b0⟩
 · have hnb:(n1 == n2)=false:=by simpa using hn
   obtain⟨wa,hwa,bwa,hlta,hBa⟩:=boxed w #[.bool n1,.slice A a1.length ca,.slice B b1.length cb] 28;obtain⟨w0,hw0,bw0,hlt0,hB0⟩:=boxed wa #[.bool n2,.slice C a2.length cc,.slice D b2.length cd] 28;have b0:=bwa.trans (bw0.mono (Nat.le_of_lt hlta));have hA:=hBa.keep bw0;have x0:=hA.f0;have x1:=hA.f1;have x2:=hA.f2;have y0:=hB0.f0;have y1:=hB0.f1;have y2:=hB0.f2;have g1:=ha.big;have g2:=hb.big;have g3:=hc.big;have g4:=hd.big;have ha0:=ha.below b0;have hb0:=hb.below b0;have hc0:=hc.below b0;have hd0:=hd.below b0;have hr:Hid (sameF n1 a1 b1 n2 a2 b2=false):=by show _=_;unfold sameF;rw[hnb,Bool.false_and]
   rw[hr.out];clear hn hr;go_enter Try.func20,Try.ntmps20;go_wp2;go_ret;exact⟨rfl,b0⟩
theorem same_q {n1 n2:Bool}{a1 b1 a2 b2:List Nat}{p q:Rat}(h1:QIs n1 a1 b1 p) (h2:QIs n2 a2 b2 q):sameF n1 a1 b1 n2 a2 b2=decide (p=q):=by
 unfold sameF;rw[Bool.eq_iff_iff,Bool.and_eq_true,Bool.and_eq_true,beq_iff_eq,decide_eq_true_eq,decide_eq_true_eq,decide_eq_true_eq]
 constructor
 · rintro ⟨rfl,rfl,rfl⟩;exact h1.inj h2
 · rintro rfl;exact h1.uniq h2
def RetB (b:Bool) (W:World) (e:Ending) (w':World):Prop:=e=.returned (.bool b)∧Below W.heap.size W w'
theorem sameQ_any {v u:Value}{p q:Rat}{w:World}(hv:FV w v p) (hu:FV w u q):Calls Try.prog 20 #[v,u] w (RetB (decide (p=q)) w):=by
 obtain⟨n1,A,ca,la,B,cb,lb,rfl,na,nb,iq⟩:=hv;obtain⟨n2,C,cc,lc,D,cd,ld,rfl,nc,nd,ir⟩:=hu;rw[←same_q iq ir];exact sameF_any na nb nc nd
end Go.Proofs.Ytjhkapjadfpimaa
namespace Go.Proofs.Ytjhkapjadfpimaa
set_option linter.unusedVariables false
set_option linter.unusedSimpArgs false
open Go.RowKit Plain
attribute [local go_sem ↓] Go.wp_at_zero Go.wp_at_succ
theorem single_len {l:List Nat}(h:l.length=1):l=[l.getD 0 0]:=by
 match l,h with
 | [d],_=>rfl
theorem one_len {l:List Nat}(h:l.length≠1):decide (l=[1])=false:=decide_eq_false fun e=>h (by rw[e];rfl)
theorem one_head {l:List Nat}{d:Nat}(h:l.length=1) (hd:l.getD 0 0=d):decide (l=[1])=decide (d=1):=by
 rw[decide_eq_decide,single_len h,hd]
 simp
theorem gcd_nil {l:List Nat}(h:Canon l) (hd:Dig l):decide (Nat.gcd (val []) (val l)=1)=decide (l=[1]):=by
 rw[one_iff (n:=val l) ⟨hd,h,rfl⟩,decide_eq_decide,val_nil,Nat.gcd_zero_left]
theorem refValid_eq {A:Option Addr}{c:Nat}{l:List Nat}{w:World}(h:Nv w A c l) (b:Bool) (hb:validL l=b) :
 Calls Try.prog 45 #[.slice A l.length c] w fun e w'=>e=.returned (.bool b)∧w=w':=by
 subst hb;exact refValid_any h
set_option maxRecDepth 100000 in
set_option maxHeartbeats 2000000 in
theorem refValidF_any {neg:Bool}{A B:Option Addr}{ca cb:Nat}{la lb:List Nat}{w:World}(ha:Nv w A ca la) (hb:Nv w B cb lb) (hla:la.length≤400000000) (hlb:lb.length≤400000000) :
 Calls Try.prog 23 #[fracV neg A la.length ca B lb.length cb] w (RetB (vldF neg la lb) w):=by
 obtain⟨w0,hw0,bw0,hlt0,hB0⟩:=boxed w #[.bool neg,.slice A la.length ca,.slice B lb.length cb] 28;have k0:=hB0.f0;have k1:=hB0.f1;have k2:=hB0.f2;have ha0:=ha.below bw0;have hb0:=hb.below bw0;have hbg:=hb.big;have hag:=ha.big
 by_cases hv1:validL la=true
 · by_cases hv2:validL lb=true
   · have hca:=canon_of_validL hv1;have hcb:=canon_of_validL hv2;have hv1':=Lib.hid hv1;have hv2':=Lib.hid hv2
     by_cases hz2:lb.length=0
     · have hr:Hid (vldF neg la lb=false):=by show _=_;unfold vldF;rw[hv1,hv2,←zeroB_len,hz2];rfl
       have hz:(((lb.length:Nat):Int) == 0)=true:=by rw[hz2];rfl
       rw[hr.out];clear hr hz2 hv1 hv2;go_enter Try.func23,Try.ntmps23;go_wp2_with fail;refine (refValid_eq ha0 true hv1'.out).mono ?_;rintro e w1 ⟨rfl,rfl⟩;go_wp2_with fail;refine (refValid_eq hb0 true hv2'.out).mono ?_;rintro e w1 ⟨rfl,rfl⟩;go_wp2;go_ret;exact⟨rfl,bw0⟩
     · have hz:(((lb.length:Nat):Int) == 0)=false:=by rw[beq_eq_false_iff_ne];omega
       have hzb:zeroB lb=false:=by rw[←zeroB_len];exact hz
       by_cases hz1:la.length=0
       · obtain rfl:la=[]:=List.eq_nil_of_length_eq_zero hz1
         have hr:Hid (vldF neg [] lb=(!neg&&decide (lb=[1]))):=by
          show _=_
          unfold vldF;rw[hv1,hv2,hzb,show zeroB []=true from rfl,gcd_nil hcb hb.dig]
          cases neg <;> simp
         rw[hr.out];clear hr hz1 hv1 hv2 hzb hca
         simp only[List.length_nil] at *
         rcases neg with _ | _
         · by_cases h1:lb.length=1
           · have h1t:(((lb.length:Nat):Int) == 1)=true:=by rw[beq_iff_eq];omega
             obtain⟨b,d,rfl,hbb,hbc,hdb,hgb⟩:=hb0.at (k:=0) (by omega);have hbc0:=cell0 hbc;have hlp:0<lb.length:=by omega
             have ho:=Lib.hid (one_head h1 hgb.out);rw[ho.out];have hde:((d:Int) == 1)=decide (d=1):=by rw[Bool.eq_iff_iff,beq_iff_eq,decide_eq_true_eq];omega
             clear h1;go_enter Try.func23,Try.ntmps23;go_wp2_with fail;refine (refValid_eq (l:=[]) ha0 true hv1'.out).mono ?_;rintro e w1 ⟨rfl,rfl⟩;go_wp2_with fail;refine (refValid_eq hb0 true hv2'.out).mono ?_;rintro e w1 ⟨rfl,rfl⟩;go_wp2;go_ret;exact⟨rfl,bw0⟩
           · have h1t:(((lb.length:Nat):Int) == 1)=false:=by rw[beq_eq_false_iff_ne];omega
             rw[one_len h1];clear h1;go_enter Try.func23,Try.ntmps23;go_wp2_with fail;refine (refValid_eq (l:=[]) ha0 true hv1'.out).mono ?_;rintro e w1 ⟨rfl,rfl⟩;go_wp2_with fail;refine (refValid_eq hb0 true hv2'.out).mono ?_;rintro e w1 ⟨rfl,rfl⟩;go_wp2;go_ret;exact⟨rfl,bw0⟩
         · go_enter Try.func23,Try.ntmps23;go_wp2_with fail;refine (refValid_eq (l:=[]) ha0 true hv1'.out).mono ?_;rintro e w1 ⟨rfl,rfl⟩;go_wp2_with fail;refine (refValid_eq hb0 true hv2'.out).mono ?_;rintro e w1 ⟨rfl,rfl⟩;go_wp2;go_ret;exact⟨rfl,bw0⟩
       · have hz1f:(((la.length:Nat):Int) == 0)=false:=by rw[beq_eq_false_iff_ne];omega
         have hza:zeroB la=false:=by rw[←zeroB_len];exact hz1f
         have hr:Hid (vldF neg la lb=decide (Nat.gcd (val la) (val lb)=1)):=by
          show _=_
          unfold vldF;rw[hv1,hv2,hzb,hza]
          simp
         rw[hr.out];clear hr hz1 hv1 hv2 hzb hza;go_enter Try.func23,Try.ntmps23;go_wp2_with fail;refine (refValid_eq ha0 true hv1'.out).mono ?_;rintro e w1 ⟨rfl,rfl⟩;go_wp2_with fail;refine (refValid_eq hb0 true hv2'.out).mono ?_;rintro e w1 ⟨rfl,rfl⟩;go_wp2_with fail;refine (refGcd_any ha0 hb0 hca hcb hla hlb).mono ?_;rintro e w3 ⟨G,cg,lg,rfl,ng,ig,mg,b3⟩;have b03:=bw0.trans (b3.mono (Nat.le_of_lt hlt0));have hone:=Lib.hid (one_iff ig);clear ig;have hgg:=ng.big
         by_cases h1:lg.length=1
         · have h1t:(((lg.length:Nat):Int) == 1)=true:=by rw[beq_iff_eq];omega
           obtain⟨b,d,rfl,hbb,hbc,hdb,hgb⟩:=ng.at (k:=0) (by omega);have hbc0:=cell0 hbc;have hlp:0<lg.length:=by omega
           have ho:=Lib.hid (one_head h1 hgb.out);have hde:((d:Int) == 1)=decide (d=1):=by rw[Bool.eq_iff_iff,beq_iff_eq,decide_eq_true_eq];omega
           clear h1;go_wp2;go_ret;exact⟨by rw[←hone.out,ho.out];rfl,b03⟩
         · have h1t:(((lg.length:Nat):Int) == 1)=false:=by rw[beq_eq_false_iff_ne];omega
           have ho:=Lib.hid (one_len h1);clear h1;go_wp2;go_ret;exact⟨by rw[←hone.out,ho.out];rfl,b03⟩
   · have hr:Hid (vldF neg la lb=false):=by show _=_;unfold vldF;rw[hv1,eq_false_of_ne_true hv2];rfl
     rw[hr.out];have hv1':=Lib.hid hv1;have hv2':=Lib.hid (eq_false_of_ne_true hv2);clear hr hv1 hv2;go_enter Try.func23,Try.ntmps23;go_wp2_with fail;refine (refValid_eq ha0 true hv1'.out).mono ?_;rintro e w1 ⟨rfl,rfl⟩;go_wp2_with fail;refine (refValid_eq hb0 false hv2'.out).mono ?_;rintro e w1 ⟨rfl,rfl⟩;go_wp2;go_ret;exact⟨rfl,bw0⟩
 · have hr:Hid (vldF neg la lb=false):=by show _=_;unfold vldF;rw[eq_false_of_ne_true hv1];rfl
   rw[hr.out];have hv1':=Lib.hid (eq_false_of_ne_true hv1);clear hr hv1;go_enter Try.func23,Try.ntmps23;go_wp2_with fail;refine (refValid_eq ha0 false hv1'.out).mono ?_;rintro e w1 ⟨rfl,rfl⟩;go_wp2;go_ret;exact⟨rfl,bw0⟩
theorem vldF_qIs {neg:Bool}{la lb:List Nat}(ha:Dig la) (hb:Dig lb) (h:vldF neg la lb=true):QIs neg la lb (mkRat (sg neg (val la)) (val lb)):=by
 unfold vldF at h
 simp only[Bool.and_eq_true,Bool.not_eq_true',decide_eq_true_eq] at h
 obtain⟨h1,h2,h3,h4,h5⟩:=h;refine qIs_valid ⟨ha,canon_of_validL h1,rfl⟩ ⟨hb,canon_of_validL h2,rfl⟩ (by unfold zeroB at h3;simpa using h3) ?_ h5;rintro ⟨rfl,rfl⟩
 simp[zeroB] at h4
theorem validL_canon {l:List Nat}(h:Canon l):validL l=true:=by unfold validL;simpa using trimN_canon h
theorem qIs_vldF {neg:Bool}{la lb:List Nat}{q:Rat}(h:QIs neg la lb q):vldF neg la lb=true:=by
 unfold vldF
 simp only[Bool.and_eq_true,Bool.not_eq_true',decide_eq_true_eq]
 refine⟨validL_canon h.na.canon,validL_canon h.nb.canon,?_,?_,QIs.gcd h⟩
 · unfold zeroB;simpa using QIs.ne h
 · cases neg with
   | false=>rfl
   | true =>
    have:=QIs.sign h;unfold zeroB
    simpa using this
theorem refValidQ_any {v:Value}{q:Rat}{k:Nat}{w:World}(hv:FV w v q) (hk:Fits k q) (hK:k≤400000000):Calls Try.prog 23 #[v] w (RetB true w):=by
 obtain⟨neg,A,ca,la,B,cb,lb,rfl,na,nb,iq⟩:=hv;have hf:=QIs.fits iq hk;have:=refValidF_any (neg:=neg) na nb (by omega) (by omega);rw[qIs_vldF iq] at this;exact this
end Go.Proofs.Ytjhkapjadfpimaa
namespace Go.Proofs.Ytjhkapjadfpimaa
set_option linter.unusedVariables false
set_option linter.unusedSimpArgs false
open Go.RowKit Plain Go.ChangeShapes Go.WideShapes
structure InRow (w:World) (A:Option Addr) (c:Nat) (l:List Nat):Prop where
 len:l.length≤c
 big:l.length≤9223372036854775807
 rd:Rd w A l
 dig:Dig l
theorem InRow.nv {w:World}{A:Option Addr}{c:Nat}{l:List Nat}(h:InRow w A c l) (hl:l.length≤70368744177664):Nv w A c l:=⟨h.len,hl,h.rd,h.dig⟩
theorem cell_lt {w:World}{a:Addr}{v:Value}(h:w.cell? a=some v):a.block<w.heap.size:=by
 rcases Nat.lt_or_ge a.block w.heap.size with hlt | hge
 · exact hlt
 · simp[World.cell?,Array.getElem?_eq_none hge] at h
theorem inRow_of {w:World}{a:Option Addr}{len cap:Nat}{zs:List Int}
 (h:(a=none∧len=0∧cap=0∧zs=[]) ∨
  ∃ x,a=some x∧len≤cap∧cap≤maxLen∧zs.length=cap∧(∀ i,i<zs.length→w.cell? (x.add i)=some (.int .u32 (zs.getD i 0)))∧∀ n∈zs,(Lit.int .u32 n).wf=true) :
 ∃ l,Hid (l=(zs.take len).map Int.toNat)∧l.length=len∧InRow w a cap l:=by
 rcases h with ⟨rfl,rfl,rfl,rfl⟩ | ⟨x,rfl,h1,h2,h3,h4,h5⟩
 · exact⟨[],rfl,rfl,by simp,by simp,fun hx=>by simp[u32s] at hx,Dig.nil⟩
 · have hlen:((zs.take len).map Int.toNat).length=len:=by rw[List.length_map,List.length_take];omega
   have hm:maxLen=9223372036854775807:=rfl
   have hb:∀ n∈zs,0≤n∧n<4294967296:=fun n hn=>by
    have:=h5 n hn
    simp[Lit.wf,IntKind.min,IntKind.max,IntKind.bits,IntKind.signed] at this
    omega
   refine⟨_,rfl,hlen,by rw[hlen];exact h1,by rw[hlen];omega,fun hx=>⟨x,rfl,?_,fun j hj=>?_⟩,?_⟩
   · rw[u32s_length,hlen] at hx;have:=h4 0 (by omega);exact cell_lt (by simpa [Addr.add] using this)
   · rw[u32s_length,hlen] at hj;rw[h4 j (by omega)];have hz:=hb (zs.getD j 0) (by rw[List.getD_eq_getElem?_getD,List.getElem?_eq_getElem (by omega)];exact List.getElem_mem _)
     simp[u32s,List.getElem?_eq_getElem (show j<zs.length by omega)] at hz ⊢
     omega
   · intro d hd;rw[List.mem_map] at hd;obtain⟨n,hn,rfl⟩:=hd;have:=hb n (List.mem_of_mem_take hn);omega
section
variable {H:Type}{enc:TypeId × Value→H}{w:World}{fuel:Nat}{cs:List Value}{x:DataW H × List MemPlace}
theorem trod_nat (h:DataW.trod enc Try.prog w 0 (fun _=>true) true fuel 26 cs=some x):∃ A c l,cs=[.slice A l.length c]∧InRow w A c l:=by
 rcases Go.ChangeShapes.open_ints Try.underlying26 Try.underlying72 (by kernel_rfl) h with ⟨rfl,_⟩ | ⟨a,l,c,zs,rfl,_,hl,hm,hz,_,hcell,hwz⟩
 · exact⟨none,0,[],rfl,by simp,by simp,fun hx=>by simp[u32s] at hx,Dig.nil⟩
 · obtain⟨la,ha,rfl,ra⟩:=inRow_of (w:=w) (a:=some a) (len:=l) (cap:=c) (zs:=zs) (.inr ⟨a,rfl,hl,hm,by simpa using hz,hcell,hwz⟩);exact⟨some a,c,la,rfl,ra⟩
theorem cellsFrac:Try.prog.cellsOf 28=3:=by kernel_rfl
theorem cellsBool:Try.prog.cellsOf 4=1:=by kernel_rfl
theorem cellsNat:Try.prog.cellsOf 26=1:=by kernel_rfl
theorem list3 {α:Type}{l:List α}(h:l.length=3):∃ a b c,l=[a,b,c]:=by
 match l,h with
 | [a,b,c],_=>exact⟨a,b,c,rfl⟩
structure FrD where
 neg:Bool
 a:Option Addr
 ca:Nat
 la:List Nat
 b:Option Addr
 cb:Nat
 lb:List Nat
def FrD.cells (f:FrD):List Value:=[.bool f.neg,.slice f.a f.la.length f.ca,.slice f.b f.lb.length f.cb]
def FrD.ok (w:World) (f:FrD):Prop:=InRow w f.a f.ca f.la∧InRow w f.b f.cb f.lb
theorem trod_frac (h:DataW.trod enc Try.prog w 0 (fun _=>true) true fuel 28 cs=some x):∃ f:FrD,cs=f.cells∧f.ok w:=by
 obtain⟨y0,y1,y2,n,rfl,hl,h0,h1,h2⟩:=Go.Deep.trod_struct3 Try.underlying28 h;rw[cellsFrac] at hl;obtain⟨c0,c1,c2,rfl⟩:=list3 hl
 simp only[cellsBool,cellsNat] at h0 h1 h2
 obtain⟨b,hb,_⟩:=DataW.trod_bool Try.underlying4 h0;obtain⟨A,ca,la,hA,iA⟩:=trod_nat h1;obtain⟨B,cb,lb,hB,iB⟩:=trod_nat h2
 simp at hb hA hB
 subst hb hA hB;exact⟨⟨b,A,ca,la,B,cb,lb⟩,rfl,iA,iB⟩
def Srow {δ:Type}(w:World) (C:Nat) (cells:δ→List Value) (A:Option Addr) (c:Nat) (ds:List δ):Prop :=
 ds.length≤c∧c≤9223372036854775807∧∀ (j:Nat) (hj:j<ds.length),∃ a,A=some a∧a.block<w.heap.size∧∀ i u,(cells ds[j])[i]?=some u→w.cell? (a.add (j*C+i))=some u
theorem Srow.below {δ:Type}{w w':World}{C:Nat}{cells:δ→List Value}{A:Option Addr}{c:Nat}{ds:List δ}(h:Srow w C cells A c ds) (hb:Below w.heap.size w w'):Srow w' C cells A c ds :=
 ⟨h.1,h.2.1,fun j hj=>by
  obtain⟨a,e,h1,h2⟩:=h.2.2 j hj;exact⟨a,e,Nat.lt_of_lt_of_le h1 hb.size,fun i u hu=>(hb.cell (by rw[block_add];exact h1)).trans (h2 i u hu)⟩⟩
theorem trod_rows {δ:Type}{t e:TypeId}{C:Nat}{cells:δ→List Value}{P:δ→Prop}(ht:Try.prog.underlying t=some (.slice e)) (hC:Try.prog.cellsOf e=C) (hpos:∀ d,0<(cells d).length)
 (hel:∀ n cs x,DataW.trod enc Try.prog w 0 (fun _=>true) true n e cs=some x→∃ d,cs=cells d∧P d) (h:DataW.trod enc Try.prog w 0 (fun _=>true) true fuel t cs=some x) :
 ∃ A c ds,cs=[.slice A ds.length c]∧Srow w C cells A c ds∧∀ d∈ds,P d:=by
 rcases Go.Deep.open_slice ht h with ⟨rfl,_⟩ | ⟨a,len,cap,m,n,D,Pl,rfl,hb,hl,hm,hmm,_,hi⟩
 · exact⟨none,0,[],rfl,⟨by simp,by omega,fun j hj=>by simp at hj⟩,by simp⟩
 · rw[hC] at hi;have hlm:len≤m:=by rw[hmm];split <;> omega
   have key:∀ n,n≤m→∃ ds:List δ,ds.length=n∧∀ j (hj:j<ds.length),w.cells? 0 (a.add (j*C)) C=some (cells ds[j])∧P ds[j]:=by
    intro n
    induction n with
    | zero=>exact fun _=>⟨[],rfl,fun j hj=>by simp at hj⟩
    | succ n ih =>
     intro hn;obtain⟨ds,h1,h2⟩:=ih (by omega);obtain⟨cs',h3,h4⟩:=hi n (by omega);obtain⟨d,rfl,h5⟩:=hel _ _ _ h4;refine⟨ds++[d],by simp[h1],fun j hj=>?_⟩
     by_cases hjn:j<ds.length
     · rw[List.getElem_append_left hjn];exact h2 j hjn
     · have:j=ds.length:=by rw[List.length_append] at hj;simp at hj;omega
       subst this;rw[List.getElem_append_right (Nat.le_refl _)]
       simp only[Nat.sub_self,List.getElem_cons_zero]
       rw[h1];exact⟨h3,h5⟩
   obtain⟨ds,h1,h2⟩:=key len hlm;subst h1;have hm63:maxLen=9223372036854775807:=rfl;refine⟨some a,cap,ds,rfl,⟨hl,by omega,fun j hj=>?_⟩,fun d hd=>?_⟩
   · obtain⟨h3,h4⟩:=h2 j hj;obtain⟨_,h5,h6⟩:=World.cells?_some h3
     have hc:∀ i u,(cells ds[j])[i]?=some u→w.cell? (a.add (j*C+i))=some u:=fun i u hu=>by
      have hic:i<C:=by
       rw[←h5];exact (List.getElem?_eq_some_iff.1 hu).1
      rw[←add_add,h6 i hic,hu]
     refine⟨a,rfl,?_,hc⟩;have h0:=hpos ds[j];have:=cell_lt (hc 0 _ (List.getElem?_eq_getElem h0));rw[block_add] at this;exact this
   · obtain⟨j,hj,rfl⟩:=List.getElem_of_mem hd;exact (h2 j hj).2
set_option maxRecDepth 100000 in
theorem open_fracs {b0:Nat}{v:Value}{d:DataW H}{p:List MemPlace}(hv:Value.okWide Try.prog w .any b0 22 v) (h:DataW.Trod enc Try.prog w 0 (fun _=>true) true 22 v d p) :
 ∃ A c ds,v=.slice A ds.length c∧Srow w 3 FrD.cells A c ds∧∀ f∈ds,f.ok w:=by
 obtain⟨a,len,cap,rfl⟩:=okWide_slice Try.underlying22 hv;obtain⟨fuel,hf⟩:=h;obtain⟨A,c,ds,hc,h1,h2⟩:=trod_rows (cells:=FrD.cells) (P:=FrD.ok w) Try.underlying22 cellsFrac (fun _=>by simp[FrD.cells]) (fun _ _ _ h=>trod_frac h) hf
 simp[Value.cells] at hc
 obtain⟨rfl,rfl,rfl⟩:=hc;exact⟨_,_,ds,rfl,h1,h2⟩
end
abbrev FrD.v (f:FrD):Value:=fracV f.neg f.a f.la.length f.ca f.b f.lb.length f.cb
def FrD.q (f:FrD):Rat:=mkRat (sg f.neg (val f.la)) (val f.lb)
theorem InRow.below {w w':World}{A:Option Addr}{c:Nat}{l:List Nat}(h:InRow w A c l) (hb:Below w.heap.size w w'):InRow w' A c l:=⟨h.len,h.big,h.rd.below hb,h.dig⟩
theorem FrD.ok.below {w w':World}{f:FrD}(h:f.ok w) (hb:Below w.heap.size w w'):f.ok w':=⟨h.1.below hb,h.2.below hb⟩
end Go.Proofs.Ytjhkapjadfpimaa
namespace Go.Proofs.Ytjhkapjadfpimaa
set_option linter.unusedVariables false
set_option linter.unusedSimpArgs false
open Go.RowKit Plain
structure FL (w:World) (A:Option Addr) (c:Nat) (ds:List FrD):Prop where
 row:Srow w 3 FrD.cells A c ds
 fv:∀ d∈ds,FV w d.v d.q
theorem FL.below {w w':World}{A:Option Addr}{c:Nat}{ds:List FrD}(h:FL w A c ds) (hb:Below w.heap.size w w'):FL w' A c ds :=
 ⟨h.row.below hb,fun d hd=>(h.fv d hd).below hb⟩
theorem FL.len {w:World}{A:Option Addr}{c:Nat}{ds:List FrD}(h:FL w A c ds):ds.length≤c∧c≤9223372036854775807:=⟨h.row.1,h.row.2.1⟩
theorem FL.at {w:World}{A:Option Addr}{c:Nat}{ds:List FrD}(h:FL w A c ds){k:Nat}(hk:k<ds.length) :
 ∃ a d,A=some a∧a.block<w.heap.size∧w.cell? (a.add (k*3))=some (.bool d.neg)∧w.cell? ⟨(a.add (k*3)).block,(a.add (k*3)).off+1,none⟩=some (.slice d.a d.la.length d.ca) ∧
  w.cell? ⟨(a.add (k*3)).block,(a.add (k*3)).off+2,none⟩=some (.slice d.b d.lb.length d.cb)∧FV w d.v d.q∧Hid (ds[k]?=some d):=by
 obtain⟨a,e,h1,h2⟩:=h.row.2.2 k hk
 have hc:∀ i u,(ds[k]).cells[i]?=some u→w.cell? ((a.add (k*3)).add i)=some u:=fun i u hu=>by
  rw[add_add];exact h2 i u hu
 refine⟨a,ds[k],e,h1,cell0 (hc 0 _ rfl),cellK (hc 1 _ rfl) (by decide),cellK (hc 2 _ rfl) (by decide),h.fv _ (List.getElem_mem hk),List.getElem?_eq_getElem hk⟩
def sumR (l:List Rat):Rat:=l.foldl (·+·) 0
theorem sumR_nil:sumR []=0:=rfl
theorem sumR_snoc (l:List Rat) (q:Rat):sumR (l++[q])=sumR l+q:=by unfold sumR;rw[List.foldl_append];rfl
theorem sumR_take {ds:List FrD}{k:Nat}{d:FrD}(h:ds[k]?=some d):sumR ((ds.take (k+1)).map FrD.q)=sumR ((ds.take k).map FrD.q)+d.q:=by
 have hk:k<ds.length:=(List.getElem?_eq_some_iff.1 h).1;have e:ds.take (k+1)=ds.take k++[d]:=by rw[List.take_add_one,h];rfl
 rw[e,List.map_append,List.map_singleton,sumR_snoc]
theorem fits_sum {k:Nat}:∀ {l:List Rat},(∀ q∈l,Fits k q)→Fits (1+l.length*(k+1)) (sumR l):=by
 intro l h
 have key:∀ n,n≤l.length→Fits (1+n*(k+1)) (sumR (l.take n)):=by
  intro n
  induction n with
  | zero=>exact fun _=>Fits.zero (by omega)
  | succ n ih =>
   intro hn;rw[show l.take (n+1)=l.take n++[l[n]] by rw[List.take_add_one,List.getElem?_eq_getElem (by omega)];rfl,sumR_snoc];have:=(ih (by omega)).add (h _ (List.getElem_mem (show n<l.length by omega)));exact this.mono (by rw[Nat.add_mul];omega)
 have:=key l.length (Nat.le_refl _);rw[List.take_length] at this;exact this
theorem FrD.mem_q {P:Rat→Prop}{ds:List FrD}(h:∀ d∈ds,P d.q):∀ q∈ds.map FrD.q,P q:=fun q hq=>by
 obtain⟨d,hd,rfl⟩:=List.mem_map.1 hq;exact h d hd
end Go.Proofs.Ytjhkapjadfpimaa
