/- Contracts of functions, for the law. -/
import Derived.Test.YtjhkapjadfpimaaWSmall
import Derived.Test.YtjhkapjadfpimaaWGcd
import Derived.Test.YtjhkapjadfpimaaQ
import Derived.Test.YtjhkapjadfpimaaWAdd
namespace Go.Proofs.Ytjhkapjadfpimaa
set_option linter.unusedVariables false
set_option linter.unusedSimpArgs false
open Go.RowKit Plain
attribute [local go_sem ↓] Go.wp_at_zero Go.wp_at_succ
theorem fromUint_val (x:Nat) (n:Int) (w:World) (hn:n=(x:Int)) (hx:x<pw 2):Calls Try.prog 53 #[.int .u64 n] w (RetNat x 2 w):=by
 subst hn;exact fromUint_any x w hx
set_option maxRecDepth 100000 in
set_option maxHeartbeats 400000 in
theorem size_any (n:Int) (w:World) (h1:-9223372036854775808≤n) (h2:n≤9223372036854775807) :
 Calls Try.prog 52 #[.int .i64 n] w (RetNat n.natAbs 2 w):=by
 have hb:n.natAbs<pw 2:=by simp only[pw];omega
 by_cases hn:n<0
 · go_enter Try.func52,Try.ntmps52;go_wp2_with fail;refine (fromUint_val n.natAbs _ _ (by omega) hb).mono ?_;rintro e w1 ⟨A,c,l,rfl,h1,h2,h3,h4⟩;go_wp2;go_ret;exact⟨A,c,l,rfl,h1,h2,h3,h4⟩
 · go_enter Try.func52,Try.ntmps52;go_wp2_with fail;refine (fromUint_val n.natAbs _ _ (by omega) hb).mono ?_;rintro e w1 ⟨A,c,l,rfl,h1,h2,h3,h4⟩;go_wp2;go_ret;exact⟨A,c,l,rfl,h1,h2,h3,h4⟩
set_option maxRecDepth 100000 in
set_option maxHeartbeats 1000000 in
theorem make_any {neg:Bool}{A B:Option Addr}{ca cb:Nat}{la lb:List Nat}{w:World}(ha:Nv w A ca la) (hb:Nv w B cb lb) (h0:val lb≠0) (hla:la.length≤400000000) (hlb:lb.length≤400000000) :
 Calls Try.prog 75 #[.bool neg,.slice A la.length ca,.slice B lb.length cb] w (RetQE (mkRat (sg neg (val la)) (val lb)) w):=by
 have hlp:lb≠[]:=fun e=>h0 (by rw[e];rfl);have hlen:(((lb.length:Nat):Int) == 0)=false:=by rw[beq_eq_false_iff_ne];have:=List.length_pos_iff.2 hlp;omega
 have hbg:=hb.big;obtain⟨w0,hw0,bw0,hlt0,hB0⟩:=boxed w #[.bool false,.slice none 0 0,.slice none 0 0] 28;have ha0:=ha.below bw0;have hb0:=hb.below bw0;have hg0:Nat.gcd (val la) (val lb)≠0:=fun e=>h0 (Nat.eq_zero_of_gcd_eq_zero_right e);clear hlp;go_enter Try.func75,Try.ntmps75;go_wp2_with fail;refine (gcd_any ha0 hb0 hla hlb).mono ?_;rintro e w1 ⟨G,cg,lg,rfl,ng,ig,mg,b1⟩;have ig':=Lib.hid ig;clear ig;go_wp2_with fail;refine (divMod_any (ha0.below b1) ng (by omega) (by omega)).mono ?_;rintro e w2 ⟨A2,c2,q2,R2,s2,r2,rfl,nq,nr,iq,ir,lq,lr,b2⟩;rw[ig'.out.val,if_neg hg0] at iq;have iq':=Lib.hid iq;have hz1:(if val lg=0 then (8:Int) else 0)=0:=by rw[ig'.out.val,if_neg hg0]
 rw[hz1];clear iq ir hz1;go_wp2_with fail;refine (divMod_any ((hb0.below b1).below b2) (ng.below b2) (by omega) (by omega)).mono ?_;rintro e w3 ⟨A3,c3,q3,R3,s3,r3,rfl,nq3,nr3,iq3,ir3,lq3,lr3,b3⟩;rw[ig'.out.val,if_neg hg0] at iq3;have iq3':=Lib.hid iq3;have hz1:(if val lg=0 then (8:Int) else 0)=0:=by rw[ig'.out.val,if_neg hg0]
 rw[hz1];clear iq3 ir3 hz1;have b13:=(b1.trans (b2.mono b1.size));have b13:=b13.trans (b3.mono b13.size);have hB3:=hB0.keep b13;have bw3:=bw0.trans (b13.mono (Nat.le_of_lt hlt0));have y0:=hB3.f0;have y1:=hB3.f1;have y2:=hB3.f2;have z0:=hB3.free 0;have z1:=hB3.free 1;have z2:=hB3.free 2
 have hqp:decide (0<q2.length)=decide (0<val la / Nat.gcd (val la) (val lb)):=by
  rw[decide_eq_decide]
  constructor
  · intro h
    rcases Nat.eq_zero_or_pos (val la / Nat.gcd (val la) (val lb)) with h1 | h1
    · have:=iq'.out.zero_iff.2 h1;rw[this] at h;simp at h
    · exact h1
  · exact fun h=>iq'.out.pos h
 obtain⟨nz,hnz⟩:∃ b,decide (0<val la / Nat.gcd (val la) (val lb))=b:=⟨_,rfl⟩;rw[hnz] at hqp;have hQ:=Lib.hid (fun (neg':Bool) (h:neg'=(neg&&nz))=>qIs_make (neg:=neg) (neg':=neg') h0 iq'.out iq3'.out (by rw[hnz];exact h));clear hnz;have nq1:=nq.below b3;clear b1 b2 b3
 rcases neg with _ | _
 · go_wp2;obtain⟨w9,hw9,hB9,o9⟩:=hB3.set3 (.bool false) (.slice A2 q2.length c2) (.slice A3 q3.length c3);rw[hw9];have e0:=hB9.f0;have e1:=hB9.f1;have e2:=hB9.f2;have m1:=nq1.only_blk hB3 (noDig3 _ _ _ _ _ _ _) o9;have m2:=nq3.only_blk hB3 (noDig3 _ _ _ _ _ _ _) o9;refine bodyPost_ret (v:=.tuple #[fracV false A2 q2.length c2 A3 q3.length c3,.int .i64 0]) (by simp[results,Try.results75,go_sem,e0,e1,e2]) rfl ?_;exact⟨_,rfl,⟨_,A2,c2,q2,A3,c3,q3,rfl,m1,m2,hQ.out _ (by simp)⟩,o9.to_below bw3 (Nat.le_refl _) bw3.size⟩
 · go_wp2;obtain⟨w9,hw9,hB9,o9⟩:=hB3.set3 (.bool nz) (.slice A2 q2.length c2) (.slice A3 q3.length c3);rw[hw9];have e0:=hB9.f0;have e1:=hB9.f1;have e2:=hB9.f2;have m1:=nq1.only_blk hB3 (noDig3 _ _ _ _ _ _ _) o9;have m2:=nq3.only_blk hB3 (noDig3 _ _ _ _ _ _ _) o9;refine bodyPost_ret (v:=.tuple #[fracV nz A2 q2.length c2 A3 q3.length c3,.int .i64 0]) (by simp[results,Try.results75,go_sem,e0,e1,e2]) rfl ?_;exact⟨_,rfl,⟨_,A2,c2,q2,A3,c3,q3,rfl,m1,m2,hQ.out _ (by simp)⟩,o9.to_below bw3 (Nat.le_refl _) bw3.size⟩
set_option maxRecDepth 100000 in
set_option maxHeartbeats 1000000 in
theorem made_any {neg:Bool}{A B:Option Addr}{ca cb:Nat}{la lb:List Nat}{w:World}(ha:Nv w A ca la) (hb:Nv w B cb lb) (h0:val lb≠0) (hla:la.length≤400000000) (hlb:lb.length≤400000000) :
 Calls Try.prog 51 #[.bool neg,.slice A la.length ca,.slice B lb.length cb] w (RetQ (mkRat (sg neg (val la)) (val lb)) w):=by
 obtain⟨w0,hw0,bw0,hlt0,hB0⟩:=boxed w #[.bool false,.slice none 0 0,.slice none 0 0] 28;obtain⟨q,hq⟩:∃ q,Hid (mkRat (sg neg (val la)) (val lb)=q):=⟨_,rfl⟩;have ha0:=ha.below bw0;have hb0:=hb.below bw0;rw[hq.out];go_enter Try.func51,Try.ntmps51;go_wp2_with fail;refine (make_any ha0 hb0 h0 hla hlb).mono ?_;rintro e w1 ⟨v,rfl,⟨n1,A1,c1,l1,B1,d1,m1,rfl,na,nb,hQ⟩,b1⟩;rw[hq.out] at hQ;have hQ':=Lib.hid hQ;clear hQ;have hB1:=hB0.keep b1;have bw1:=bw0.trans (b1.mono (Nat.le_of_lt hlt0));obtain⟨w2,hw2,bw2,hlt2,hB2⟩:=boxed w1 #[.bool n1,.slice A1 l1.length c1,.slice B1 m1.length d1] 28;have hR2:=hB1.keep bw2;have y0:=hR2.f0;have y1:=hR2.f1;have y2:=hR2.f2;have z0:=hR2.free 0;have z1:=hR2.free 1;have z2:=hR2.free 2;have x0:=hB2.f0;have x1:=hB2.f1;have x2:=hB2.f2;go_wp2;obtain⟨w9,hw9,hB9,o9⟩:=hR2.set3 (.bool n1) (.slice A1 l1.length c1) (.slice B1 m1.length d1);rw[hw9];have e0:=hB9.f0;have e1:=hB9.f1;have e2:=hB9.f2;refine bodyPost_ret (v:=fracV n1 A1 l1.length c1 B1 m1.length d1) (by simp[results,Try.results51,go_sem,e0,e1,e2]) rfl ?_;have m1':=(na.below bw2).only_blk hR2 (noDig3 _ _ _ _ _ _ _) o9;have m2':=(nb.below bw2).only_blk hR2 (noDig3 _ _ _ _ _ _ _) o9;exact⟨_,rfl,⟨n1,A1,c1,l1,B1,d1,m1,rfl,m1',m2',hQ'.out⟩,o9.to_below (bw1.trans (bw2.mono bw1.size)) (Nat.le_refl _) (Nat.le_trans bw1.size bw2.size)⟩
end Go.Proofs.Ytjhkapjadfpimaa
namespace Go.Proofs.Ytjhkapjadfpimaa
set_option linter.unusedVariables false
set_option linter.unusedSimpArgs false
open Go.RowKit Plain
def refValidL (l:List Nat):Bool:=decide (l.length=0∨l.getD (l.length-1) 0≠0)
theorem refValidL_eq (l:List Nat):refValidL l=validL l:=by
 unfold refValidL validL;rw[Bool.eq_iff_iff,decide_eq_true_eq,decide_eq_true_eq,←canon_iff];exact⟨trimN_canon,canon_of_trimN⟩
set_option maxRecDepth 100000 in
set_option maxHeartbeats 400000 in
theorem refValid_any {A:Option Addr}{c:Nat}{l:List Nat}{w:World}(h:Nv w A c l) :
 Calls Try.prog 45 #[.slice A l.length c] w fun e w'=>e=.returned (.bool (validL l))∧w=w':=by
 have hb:=h.big;rw[←refValidL_eq]
 rcases Nat.eq_zero_or_pos l.length with h0 | h0
 · obtain rfl:l=[]:=List.eq_nil_of_length_eq_zero h0;clear h0;go_enter Try.func45,Try.ntmps45;go_wp2;go_ret;exact⟨rfl,rfl⟩
 · obtain⟨a,d,rfl,hab,hac,hda,hga⟩:=h.at (k:=l.length-1) (by omega);have hne:(((l.length:Nat):Int) == 0)=false:=by rw[beq_eq_false_iff_ne];omega
   have hv:Hid (refValidL l=((d:Int) != 0)):=by
    show _=_
    rw[Bool.eq_iff_iff];unfold refValidL;rw[hga.out,decide_eq_true_eq,bne_iff_ne];omega
   go_enter Try.func45,Try.ntmps45;go_wp2;go_ret;refine⟨?_,rfl⟩;rw[hv.out];rfl
set_option maxRecDepth 100000 in
set_option maxHeartbeats 400000 in
theorem refDigit_any {A:Option Addr}{c i:Nat}{l:List Nat}{w:World}(h:Nv w A c l) (hi:i≤1000000000000) :
 Calls Try.prog 79 #[.slice A l.length c,.int .i64 (i:Int)] w fun e w'=>e=.returned (.int .u64 ((l.getD i 0:Nat):Int))∧w=w':=by
 have hb:=h.big
 by_cases hlt:i<l.length
 · obtain⟨a,d,rfl,hab,hac,hda,hga⟩:=h.at (k:=i) hlt;go_enter Try.func79,Try.ntmps79;go_wp2;go_ret;refine⟨?_,rfl⟩;rw[hga.out];rfl
 · have hd:decide (i<l.length)=false:=decide_eq_false hlt;have hv:=Lib.hid (show l.getD i 0=0 by rw[List.getD_eq_getElem?_getD,List.getElem?_eq_none (by omega)];rfl);go_enter Try.func79,Try.ntmps79;go_wp2;go_ret;refine⟨?_,rfl⟩;rw[hv.out];rfl
theorem refDigit_at {A:Option Addr}{c i d:Nat}{l:List Nat}{w:World}(h:Nv w A c l) (x:Int) (hx:x=(i:Int)) (hi:i≤1000000000000) (hd:Hid (l.getD i 0=d)) :
 Calls Try.prog 79 #[.slice A l.length c,.int .i64 x] w fun e w'=>e=.returned (.int .u64 (d:Int))∧w=w':=by
 subst hx;have:=refDigit_any h hi;rw[hd.out] at this;exact this
set_option maxRecDepth 100000 in
set_option maxHeartbeats 400000 in
theorem refTrim_any {A:Option Addr}{c:Nat}{l:List Nat}{w:World}(h:Nv w A c l) (hl:l.length≤50000000000) :
 Calls Try.prog 68 #[.slice A l.length c] w (RetNat (val l) l.length w):=by
 have hb:=h.big;have hlc:=h.len;go_enter Try.func68,Try.ntmps68;go_wp2
 go_loop [0] (fun v=>∃ k:Nat,k≤l.length∧v=.slice A k c∧Hid (trimN l l.length=trimN l k)) (fun v=>match v with | .slice _ n _=>n | _=>0)
 case atStart=>exact⟨_,Nat.le_refl _,rfl,rfl⟩
 case round =>
  obtain⟨k,hk,rfl,hr⟩:=hrel
  by_cases hz:k=0∨l.getD (k-1) 0≠0
  · have ek:=Lib.hid (show trimL l=l.take k by
     unfold trimL;rw[hr.out]
     congr 1
     have h1:=trimN_le l k;have h2:=trimN_ge (Nat.le_refl k) hz
     omega)
    have hNat:Hid (NatIs (l.take k) (val l)):=by rw[←ek.out];exact natIs_trimL h.dig
    have hrd:Rd (w.alloc (.cells #[] 72)) A (l.take k):=(h.rd.take k).alloc _;have hlk:=Lib.hid (show (l.take k).length=k by rw[List.length_take];omega);have hown0:=OwnD.empty w w.heap.size (Nat.le_refl _);have hbel0:=(Below.refl w.heap.size w).alloc (Nat.le_refl _) (.cells #[] 72)
    have fin:∀ (v':Value) (w1:World),OwnD w1 w.heap.size v' ([]++l.take k)→(w.alloc (.cells #[] 72)).grownBy w1 (Value.ownBlock (.slice (some ⟨w.heap.size,0,none⟩) 0 0))→RetNat (val l) l.length w (.returned v') w1:=fun v' w1 h1 h2 =>
     OwnD.ret (l:=l.take k) h1 hNat.out (by rw[hlk.out];exact hk) (hown0.grown_below hbel0 h2 (Nat.le_refl _) (by simp)) (by rw[hlk.out];omega)
    rcases Nat.eq_zero_or_pos k with h0 | h0
    · subst h0;clear hz
      go_wp2_with (at_builtin;(refine wpList_app _ rfl rfl _ _ rfl w.heap.size _ [] rfl hown0 A 0 c (l.take 0) rfl ?_ ?_ ?_ ?_ ?_);(exact hrd);(exact hlk.out);(exact Nat.zero_le _);(exact Nat.le_of_lt (by simp));intro v' w1 hown1 hgrow1)
      go_ret;exact fin _ _ hown1 hgrow1
    · have hz':l.getD (k-1) 0≠0:=by omega
      obtain⟨a,d,rfl,hab,hac,hda,hga⟩:=h.at (k:=k-1) (by omega);rw[hga.out] at hz';have hz2:((d:Int) == 0)=false:=by rw[beq_eq_false_iff_ne];omega
      clear hz hz'
      go_wp2_with (at_builtin;refine wpList_app _ rfl rfl _ _ rfl w.heap.size _ [] rfl hown0 (some a) k c (l.take k) rfl hrd hlk.out (by simp;omega) (by simp) ?_;intro v' w1 hown1 hgrow1)
      go_ret;exact fin _ _ hown1 hgrow1
  · have h0:0<k:=by omega
    obtain⟨a,d,rfl,hab,hac,hda,hga⟩:=h.at (k:=k-1) (by omega);have hd0:d=0:=by have:=hga.out;omega
    have e1:=Lib.hid (hr.out.trans (trimN_step h0 (hga.out.trans hd0)));subst hd0;clear hz;go_wp2
    go_round
    case rel=>exact⟨k-1,by omega,rfl,e1⟩
    case measure=>simp;omega
set_option maxRecDepth 100000 in
set_option maxHeartbeats 400000 in
theorem refFromUint_any (x:Nat) (w:World) (hx:x<pw 2) :
 Calls Try.prog 83 #[.int .u64 (x:Int)] w (RetNat x 2 w):=by
 have hrow:=row_alloc w (cs:=#[Value.int IntKind.u32 ((x:Int) % 4294967296),Value.int IntKind.u32 ((x:Int) / 4294967296 % 4294967296)]) (l:=[x % 4294967296,x / 4294967296 % 4294967296]) (by simp[u32s]);have hd:Dig [x % 4294967296,x / 4294967296 % 4294967296]:=Dig.cons (by omega) (Dig.cons (by omega) Dig.nil);have hv:=Lib.hid (val_two x hx);have hnv:Nv (w.alloc (.cells #[Value.int IntKind.u32 ((x:Int) % 4294967296),Value.int IntKind.u32 ((x:Int) / 4294967296 % 4294967296)] 72)) (some ⟨w.heap.size,0,none⟩) 2 [x % 4294967296,x / 4294967296 % 4294967296]:=⟨by simp,by simp,hrow.rd,hd⟩;have hw:IntKind.u64.wrap ((x:Int) / 4294967296)=(x:Int) / 4294967296:=by simp only[pw] at hx;rw[wrap_u64];omega
 clear hx;go_enter Try.func83,Try.ntmps83;go_wp2_with fail;refine (refTrim_any hnv (by simp)).mono ?_;rintro e w' ⟨A,c,l',rfl,h1,h2,h3,h4⟩;go_wp2;go_ret;exact⟨_,_,_,rfl,h1,hv.out ▸ h2,h3,((Below.refl _ _).alloc (Nat.le_refl _) _).trans (h4.mono (by simp))⟩
def CmpRInv (la lb:List Nat) (w:World) (n:Nat) (i:Value) (wr:World):Prop :=
 ∃ k:Nat,k≤n∧i=.int .i64 ((k:Int)-1)∧Hid (∀ j,k≤j→la.getD j 0=lb.getD j 0)∧w=wr
theorem getD_ext_val:∀ (a b:List Nat),Dig a→Dig b→(∀ j,a.getD j 0=b.getD j 0)→val a=val b
 | [],[],_,_,_=>rfl
 | [],y::b,ha,hb,h=>by
  have h0:=h 0;have ih:=getD_ext_val [] b ha hb.tail (fun j=>h (j+1))
  simp only[val] at *
  simp at h0
  omega
 | x::a,[],ha,hb,h=>by
  have h0:=h 0;have ih:=getD_ext_val a [] ha.tail hb (fun j=>h (j+1))
  simp only[val] at *
  simp at h0
  omega
 | x::a,y::b,ha,hb,h=>by
  have h0:=h 0;have ih:=getD_ext_val a b ha.tail hb.tail (fun j=>h (j+1))
  simp only[val] at *
  simp at h0
  omega
theorem getD_lt_val {a b:List Nat}(ha:Dig a) (hb:Dig b) (k:Nat) (h:∀ j,k+1≤j→a.getD j 0=b.getD j 0) (hk:a.getD k 0<b.getD k 0):val a<val b:=by
 induction k generalizing a b with
 | zero =>
  cases b with
  | nil=>simp at hk
  | cons y b =>
   cases a with
   | nil =>
    have:=getD_ext_val [] b Dig.nil hb.tail (fun j=>h (j+1) (by omega))
    simp only[val,List.getD_cons_zero,List.getD_nil] at *
    omega
   | cons x a =>
    have:=getD_ext_val a b ha.tail hb.tail (fun j=>h (j+1) (by omega))
    simp only[val,List.getD_cons_zero] at *
    omega
 | succ k ih =>
  cases b with
  | nil=>simp at hk
  | cons y b =>
   cases a with
   | nil =>
    have:=ih (a:=[]) (b:=b) Dig.nil hb.tail (fun j hj=>h (j+1) (by omega)) (by simpa using hk)
    simp only[val] at *
    omega
   | cons x a =>
    have h1:=ih (a:=a) (b:=b) ha.tail hb.tail (fun j hj=>h (j+1) (by omega)) (by simpa using hk);have h2:=ha.head;have h3:=hb.head
    simp only[val] at *
    omega
set_option maxRecDepth 100000 in
set_option maxHeartbeats 400000 in
theorem refCmp_any {A B:Option Addr}{ca cb:Nat}{la lb:List Nat}{w:World}(ha:Nv w A ca la) (hb:Nv w B cb lb) (hna:la.length≤5000000000) (hnb:lb.length≤5000000000) :
 Calls Try.prog 80 #[.slice A la.length ca,.slice B lb.length cb] w fun e w'=>e=.returned (.int .i64 (cmpI (val la) (val lb)))∧w=w':=by
 by_cases hlt:la.length<lb.length
 all_goals
  obtain⟨n,hn,hn1,hn2,hn3⟩:∃ n,Hid (n=if la.length<lb.length then lb.length else la.length)∧la.length≤n∧lb.length≤n∧n≤5000000000:=by
   first
    | exact⟨lb.length,(if_pos hlt).symm,by omega,by omega,by omega⟩
    | exact⟨la.length,(if_neg hlt).symm,by omega,by omega,by omega⟩
  go_enter Try.func80,Try.ntmps80;go_wp2
  go_loopw [5] (fun i wr=>CmpRInv la lb w n i wr) (fun i _=>(intOf i+1).toNat)
  case atStart=>exact⟨n,by omega,by rw[hn.out];first | rw[if_pos hlt] | rw[if_neg hlt],fun j hj=>by rw[List.getD_eq_getElem?_getD,List.getD_eq_getElem?_getD,List.getElem?_eq_none (by omega),List.getElem?_eq_none (by omega)],rfl⟩
  case round =>
   obtain⟨k,hk,rfl,hd,rfl⟩:=hrel
   rcases Nat.eq_zero_or_pos k with h0 | h0
   · have hf:=Lib.hid (cmpI_eq (getD_ext_val la lb ha.dig hb.dig (fun j=>hd.out j (by omega))));subst h0;go_wp2;go_ret;refine⟨?_,rfl⟩;rw[hf.out];rfl
   · obtain⟨d,hda⟩:∃ d,Hid (la.getD (k-1) 0=d):=⟨_,rfl⟩;obtain⟨f,hfa⟩:∃ f,Hid (lb.getD (k-1) 0=f):=⟨_,rfl⟩;have hdb:d<4294967296:=hda.out ▸ ha.dig.getD _;have hfb:f<4294967296:=hfa.out ▸ hb.dig.getD _
     rcases Nat.lt_trichotomy d f with hdf | hdf | hdf
     · have hf:=Lib.hid (cmpI_lt (getD_lt_val ha.dig hb.dig (k-1) (fun j hj=>hd.out j (by omega)) (by rw[hda.out,hfa.out];exact hdf)));go_wp2_with fail;refine (refDigit_at (i:=k-1) ha _ (by omega) (by omega) hda).mono ?_;rintro e w1 ⟨rfl,rfl⟩;go_wp2_with fail;refine (refDigit_at (i:=k-1) hb _ (by omega) (by omega) hfa).mono ?_;rintro e w1 ⟨rfl,rfl⟩;go_wp2;go_ret;refine⟨?_,rfl⟩;rw[hf.out];rfl
     · subst hdf;go_wp2_with fail;refine (refDigit_at (i:=k-1) ha _ (by omega) (by omega) hda).mono ?_;rintro e w1 ⟨rfl,rfl⟩;go_wp2_with fail;refine (refDigit_at (i:=k-1) hb _ (by omega) (by omega) hfa).mono ?_;rintro e w1 ⟨rfl,rfl⟩;go_wp2_with fail;refine (refDigit_at (i:=k-1) ha _ (by omega) (by omega) hda).mono ?_;rintro e w1 ⟨rfl,rfl⟩;go_wp2_with fail;refine (refDigit_at (i:=k-1) hb _ (by omega) (by omega) hfa).mono ?_;rintro e w1 ⟨rfl,rfl⟩;go_wp2;go_roundw
       case rel=>exact⟨k-1,by omega,by congr 1;omega,fun j hj=>by
        by_cases hj2:j=k-1
        · rw[hj2,hda.out,hfa.out]
        · exact hd.out j (by omega),rfl⟩
       case measure=>simp[intOf];omega
     · have hf:=Lib.hid (cmpI_gt (getD_lt_val hb.dig ha.dig (k-1) (fun j hj=>(hd.out j (by omega)).symm) (by rw[hda.out,hfa.out];exact hdf)));go_wp2_with fail;refine (refDigit_at (i:=k-1) ha _ (by omega) (by omega) hda).mono ?_;rintro e w1 ⟨rfl,rfl⟩;go_wp2_with fail;refine (refDigit_at (i:=k-1) hb _ (by omega) (by omega) hfa).mono ?_;rintro e w1 ⟨rfl,rfl⟩;go_wp2_with fail;refine (refDigit_at (i:=k-1) ha _ (by omega) (by omega) hda).mono ?_;rintro e w1 ⟨rfl,rfl⟩;go_wp2_with fail;refine (refDigit_at (i:=k-1) hb _ (by omega) (by omega) hfa).mono ?_;rintro e w1 ⟨rfl,rfl⟩;go_wp2;go_ret;refine⟨?_,rfl⟩;rw[hf.out];rfl
def SubInv (la lb:List Nat) (w:World) (g:Nat) (c i:Value) (wr:World):Prop :=
 ∃ (k cv:Nat) (o:List Nat),k≤la.length∧i=.int .i64 k∧c=.int .u64 cv∧cv≤1∧Hid (o.length=k)∧Dig o ∧
  Row wr g (o++List.replicate (la.length-k) 0)∧Hid (val o+val (lb.take k)=val (la.take k)+pw k*cv)∧Below w.heap.size w wr
def RetSub (m n k:Nat) (W:World) (e:Ending) (w':World):Prop :=
 ∃ A c l,e=.returned (.tuple #[.slice A l.length c,.bool (decide (n≤m))])∧Nv w' A c l∧NatIs l (m-n)∧l.length≤k∧Below W.heap.size W w'
theorem sub_wrap (da cv db:Nat) (h1:da<4294967296) (h2:cv≤1) (h3:db<4294967296) :
 ∃ x c:Nat,IntKind.u64.wrap (IntKind.u64.wrap ((da:Int)-cv)-db) % 4294967296=(x:Int)∧IntKind.u64.wrap (IntKind.u64.wrap ((da:Int)-cv)-db) / 9223372036854775808=(c:Int) ∧
  x<4294967296∧c≤1∧x+db+cv=da+4294967296*c:=by
 rw[wrap_u64,wrap_u64]
 by_cases h:db+cv≤da
 · refine⟨da - cv - db,0,?_,?_,by omega,by omega,by omega⟩ <;> omega
 · refine⟨da+4294967296 - cv - db,1,?_,?_,by omega,by omega,by omega⟩ <;> omega
theorem sub_wrap0 (da cv:Nat) (h1:da<4294967296) (h2:cv≤1) :
 ∃ x c:Nat,IntKind.u64.wrap ((da:Int)-cv) % 4294967296=(x:Int)∧IntKind.u64.wrap ((da:Int)-cv) / 9223372036854775808=(c:Int) ∧
  x<4294967296∧c≤1∧x+0+cv=da+4294967296*c:=by
 rw[wrap_u64]
 by_cases h:cv≤da
 · refine⟨da - cv,0,?_,?_,by omega,by omega,by omega⟩ <;> omega
 · refine⟨da+4294967296 - cv,1,?_,?_,by omega,by omega,by omega⟩ <;> omega
theorem sub_digit (P x a b cv y c' da db:Nat) (h:x+b=a+P*cv) (hs:y+db+cv=da+4294967296*c') :
 x+P*y+(b+P*db)=a+P*da+4294967296*P*c':=by
 have h1:P*(y+db+cv)=P*(da+4294967296*c'):=by rw[hs]
 rw[Nat.mul_add,Nat.mul_add,Nat.mul_add,←Nat.mul_assoc,Nat.mul_comm P 4294967296] at h1;omega
theorem sub_step {la lb:List Nat}{w wr:World}{g k cv:Nat}{o:List Nat}(hkl:k<la.length) (ho:Hid (o.length=k)) (hod:Dig o)
 (hrow:Row wr g (o++List.replicate (la.length-k) 0)) (hval:Hid (val o+val (lb.take k)=val (la.take k)+pw k*cv)) (hbel:Below w.heap.size w wr) (hg:w.heap.size≤g)
 (y c':Nat) (hy:y<4294967296) (hc:c'≤1) (hs:y+lb.getD k 0+cv=la.getD k 0+4294967296*c') (xi ci i':Int) (hx:xi=(y:Int)) (hci:ci=(c':Int)) (hi:i'=((k+1:Nat):Int)) :
 SubInv la lb w g (.int .u64 ci) (.int .i64 i') (wr.setCell ⟨g,k,none⟩ (.int .u32 xi)):=by
 refine⟨k+1,c',o++[y],by omega,by rw[hi],by rw[hci],hc,?_,hod.snoc hy,?_,?_,hbel.setCell hg _⟩
 · show (o++[_]).length=k+1
   rw[List.length_append,ho.out];rfl
 · rw[rep_succ (by omega)] at hrow;exact hrow.push ho.out xi hx
 · show val (o++[_])+_=_+pw (k+1)*_
   rw[val_snoc,ho.out,val_take_succ,val_take_succ,pw];exact sub_digit _ _ _ _ _ _ _ _ _ hval.out hs
theorem sub_last {la lb o:List Nat}{cv:Nat}(hval:Hid (val o+val (lb.take la.length)=val (la.take la.length)+pw la.length*cv)) (ho:Hid (o.length=la.length)) (hod:Dig o) (hl:lb.length≤la.length) (h:val lb≤val la) :
 val o=val la-val lb:=by
 have h1:=hval.out;rw[val_take_ge _ _ (Nat.le_refl _),val_take_ge _ _ hl] at h1;have h2:=val_lt hod;rw[ho.out] at h2
 have h3:cv=0:=by
  rcases Nat.eq_zero_or_pos cv with h0 | h0
  · exact h0
  · have:pw la.length*1≤pw la.length*cv:=Nat.mul_le_mul_left _ h0;omega
 subst h3;omega
set_option maxRecDepth 100000 in
set_option maxHeartbeats 400000 in
theorem sub_any (A B:Option Addr) (ca cb:Nat) (la lb:List Nat) (w:World) (ha:Nv w A ca la) (hb:Nv w B cb lb) :
 Calls Try.prog 57 #[.slice A la.length ca,.slice B lb.length cb] w (RetSub (val la) (val lb) la.length w):=by
 go_enter Try.func57,Try.ntmps57;go_wp2_with fail;refine (trim_nv ha).mono ?_;rintro e w' ⟨l1,rfl,h1,n1,b1,rfl⟩;go_wp2_with fail;refine (trim_nv hb).mono ?_;rintro e w' ⟨l2,rfl,h2,n2,b2,rfl⟩;clear b2 ha hb;have hg1:=h1.big;have hg2:=h2.big;go_wp2_with fail;refine (cmp_any h1 h2).mono ?_;rintro e w1 ⟨rfl,hb1⟩
 by_cases hlt:val la<val lb
 · have hc:=Lib.hid (show cmpI (val l1) (val l2)=-1 from cmpI_lt (by rw[n1.val,n2.val];exact hlt));rw[hc.out];clear hc;go_wp2
   go_ret2
   refine⟨none,0,[],?_,⟨by simp,by simp,fun hx=>by simp[u32s] at hx,Dig.nil⟩,?_,by simp,hb1⟩
   · rw[decide_eq_false (show ¬ val lb≤val la by omega)];rfl
   · rw[show val la-val lb=0 by omega];exact NatIs.nil
 · have hc:0≤cmpI (val l1) (val l2):=by
    have h:=cmpI_neg_iff (val l1) (val l2);rw[n1.val,n2.val] at *;omega
   have hc2:=cmpI_bd (val l1) (val l2);obtain⟨c,hcc⟩:∃ c,c=cmpI (val l1) (val l2):=⟨_,rfl⟩;rw[←hcc] at hc hc2 ⊢;clear hcc;have hmk:=make_u32 w1 l1.length .i64 (l1.length:Int) rfl (by omega)
   have hll:l2.length≤l1.length:=by
    rcases Nat.lt_or_ge l1.length l2.length with h | h
    · have:=val_lt_of_len h1.dig n2.canon h;rw[n1.val,n2.val] at this;omega
    · exact h
   have h1':=h1.below hb1;have h2':=h2.below hb1;go_wp2
   go_loopw [7,23] (fun c i wr=>SubInv l1 l2 w1 w1.heap.size c i wr) (fun _ i _=>l1.length-(intOf i).toNat)
   case atStart=>exact⟨0,0,[],by omega,rfl,rfl,by omega,rfl,Dig.nil,Row.new _ _,rfl,(Below.refl _ _).alloc (Nat.le_refl _) _⟩
   case round =>
    obtain⟨k,cv,o,hk,rfl,rfl,hcv,ho,hod,hrow,hval,hbel⟩:=hrel
    by_cases hkl:k<l1.length
    · have hf:=hrow.free k;obtain⟨d0,hc0,_,_⟩:=hrow.cell' (i:=k) (hod.append (Dig.replicate _)) (by rw[List.length_append,List.length_replicate,ho.out];omega);obtain⟨a,da,rfl,hab,hac,hda,hga⟩:=(h1'.below hbel).at hkl
      by_cases hkb:k<l2.length
      · obtain⟨b,db,rfl,hbb,hbc,hdb,hgb⟩:=(h2'.below hbel).at hkb;go_wp2;obtain⟨y,c',e1,e2,hy,hc',hs⟩:=sub_wrap da cv db hda hcv hdb;go_roundw
        case rel=>exact sub_step hkl ho hod hrow hval hbel (Nat.le_refl _) y c' hy hc' (by rw[hga.out,hgb.out];exact hs) _ _ _ e1 e2 (by omega)
        case measure=>simp[intOf];omega
      · have hgb:=Lib.hid (show l2.getD k 0=0 by rw[List.getD_eq_getElem?_getD,List.getElem?_eq_none (by omega)];rfl);go_wp2;obtain⟨y,c',e1,e2,hy,hc',hs⟩:=sub_wrap0 da cv hda hcv;go_roundw
        case rel=>exact sub_step hkl ho hod hrow hval hbel (Nat.le_refl _) y c' hy hc' (by rw[hga.out,hgb.out];exact hs) _ _ _ e1 e2 (by omega)
        case measure=>simp[intOf];omega
    · obtain rfl:k=l1.length:=by omega
      have hfin:=Lib.hid (sub_last hval ho hod hll (by rw[n1.val,n2.val];omega));have hrow2:Row wr w1.heap.size o:=hrow.eq (by simp);go_wp2_with fail;refine (trim_row hrow2 ho.out hod (by omega)).mono ?_;rintro e w2 ⟨l',rfl,h3,h4,h5,rfl⟩;go_wp2
      go_ret2
      refine⟨_,_,l',?_,h3,?_,by omega,hb1.trans (hbel.mono hb1.size)⟩
      · rw[decide_eq_true (show val lb≤val la by omega)];rfl
      · rw[hfin.out,n1.val,n2.val] at h4;exact h4
def RAddInv (la lb:List Nat) (n:Nat) (w:World) (v c i:Value) (wr:World):Prop :=
 ∃ (k cv:Nat) (o:List Nat),k≤n+1∧i=.int .i64 (k:Int)∧c=.int .u64 (cv:Int)∧cv≤1∧Hid (o.length=k)∧Dig o∧OwnD wr w.heap.size v o ∧
  Hid (val o+pw k*cv=val (la.take k)+val (lb.take k))∧Below w.heap.size w wr
theorem raddstep {la lb o:List Nat}{k cv s:Nat}(ho:Hid (o.length=k)) (hval:Hid (val o+pw k*cv=val (la.take k)+val (lb.take k))) (hs:s=la.getD k 0+cv+lb.getD k 0) :
 val (o++[s % 4294967296])+pw (k+1)*(s / 4294967296)=val (la.take (k+1))+val (lb.take (k+1)):=by
 rw[val_snoc,ho.out,val_take_succ,val_take_succ,pw];exact add_digit _ _ _ _ _ _ hval.out _ _ hs
theorem radd_fin {la lb o:List Nat}{n cv:Nat}(ho:Hid (o.length=n+1)) (hval:Hid (val o+pw (n+1)*cv=val (la.take (n+1))+val (lb.take (n+1)))) (ha:Dig la) (hb:Dig lb) (h1:la.length≤n) (h2:lb.length≤n):val o=val la+val lb:=by
 have h:=hval.out;rw[val_take_ge _ _ (by omega),val_take_ge _ _ (by omega)] at h;have h3:=Nat.lt_of_lt_of_le (val_lt ha) (pw_mono h1);have h4:=Nat.lt_of_lt_of_le (val_lt hb) (pw_mono h2)
 rcases Nat.eq_zero_or_pos cv with h0 | h0
 · subst h0;omega
 · have h5:pw (n+1)*1≤pw (n+1)*cv:=Nat.mul_le_mul_left _ h0
   simp only[pw] at h5 h
   omega
set_option maxRecDepth 100000 in
set_option maxHeartbeats 1000000 in
theorem refAdd_any (A B:Option Addr) (ca cb:Nat) (la lb:List Nat) (w:World) (ha:Nv w A ca la) (hb:Nv w B cb lb) (hna:la.length≤5000000000) (hnb:lb.length≤5000000000) :
 Calls Try.prog 65 #[.slice A la.length ca,.slice B lb.length cb] w (RetNat (val la+val lb) (max la.length lb.length+1) w):=by
 by_cases hlt:la.length<lb.length
 all_goals
  obtain⟨n,hn,hn1,hn2,hn3,hn4⟩:∃ n,Hid (n=if la.length<lb.length then lb.length else la.length)∧la.length≤n∧lb.length≤n∧n≤5000000000∧Hid (n≤max la.length lb.length):=by
   first
    | exact⟨lb.length,(if_pos hlt).symm,by omega,by omega,by omega,by show _≤_;omega⟩
    | exact⟨la.length,(if_neg hlt).symm,by omega,by omega,by omega,by show _≤_;omega⟩
  go_enter Try.func65,Try.ntmps65;go_wp2
  go_loopw [5,6,7] (fun v c i wr=>RAddInv la lb n w v c i wr) (fun _ _ i _=>n+1-(intOf i).toNat)
  case atStart=>exact⟨0,0,[],by omega,rfl,rfl,by omega,rfl,Dig.nil,OwnD.nil _ _,rfl,Below.refl _ _⟩
  case round =>
   obtain⟨k,cv,o,hk,rfl,rfl,hcv,ho,hod,hown,hval,hbel⟩:=hrel
   by_cases hkn:k≤n
   · obtain⟨da,hda⟩:∃ d,Hid (la.getD k 0=d):=⟨_,rfl⟩;obtain⟨db,hdb⟩:∃ d,Hid (lb.getD k 0=d):=⟨_,rfl⟩;have hdab:da<4294967296:=hda.out ▸ ha.dig.getD _;have hdbb:db<4294967296:=hdb.out ▸ hb.dig.getD _;have hstep:=Lib.hid (raddstep ho hval (show da+cv+db=la.getD k 0+cv+lb.getD k 0 by rw[hda.out,hdb.out]));have hcs:(#[Value.int .u32 (((da:Int)+(db:Int)+(cv:Int)) % 4294967296)]:Array Value)=(u32s [(da+cv+db) % 4294967296]).toArray:=by simp[u32s];omega
     have hrd:=(row_alloc wr hcs).rd;clear hcs;have hle:decide (k≤n)=true:=decide_eq_true hkn;rw[hn.out] at hle
     first | rw[if_pos hlt] at hle | rw[if_neg hlt] at hle
     go_wp2_with fail;refine (refDigit_at (i:=k) (ha.below hbel) _ rfl (by omega) hda).mono ?_;rintro e w1 ⟨rfl,rfl⟩;go_wp2_with fail;refine (refDigit_at (i:=k) (hb.below hbel) _ rfl (by omega) hdb).mono ?_;rintro e w1 ⟨rfl,rfl⟩
     go_wp2_with (at_builtin;refine wpList_app _ rfl rfl _ _ rfl w.heap.size _ o rfl (hown.alloc _) (some ⟨wr.heap.size,0,none⟩) 1 1 [(da+cv+db) % 4294967296] rfl hrd rfl ?_ ?_ ?_;(rw[ho.out];omega);(have:=hbel.size;simp;omega);intro v' w2 hown2 hgrow2)
     go_roundw
     case rel=>exact⟨k+1,(da+cv+db) / 4294967296,o++[(da+cv+db) % 4294967296],by omega,rfl,by congr 1;omega,by omega,by show (o++[_]).length=k+1;rw[List.length_append,ho.out];rfl,hod.snoc (Nat.mod_lt _ (by omega)),hown2,hstep.out,own_snoc hown hbel hown2 hgrow2⟩
     case measure=>simp[intOf];omega
   · obtain rfl:k=n+1:=by omega
     have hle:decide (n+1≤if la.length<lb.length then lb.length else la.length)=false:=by rw[←hn.out];exact decide_eq_false (by omega)
     first | rw[if_pos hlt] at hle | rw[if_neg hlt] at hle
     obtain⟨A',c',rfl,hnv⟩:=hown.nv hod (by rw[ho.out];omega);have hv2:=Lib.hid (radd_fin ho hval ha.dig hb.dig hn1 hn2);go_wp2_with fail;refine (refTrim_any hnv (by rw[ho.out];omega)).mono ?_;rintro e w1 ⟨A1,c1,l1,rfl,h1,h2,h3,h4⟩;go_wp2;go_ret;exact⟨A1,c1,l1,rfl,h1,hv2.out ▸ h2,by have:=hn4.out;rw[ho.out] at h3;omega,hbel.trans (h4.mono hbel.size)⟩
end Go.Proofs.Ytjhkapjadfpimaa
