/- Contracts of functions, for the law. -/
import Derived.Test.YtjhkapjadfpimaaGreatB
namespace Go.Proofs.YtjhkapjadfpimaaGreat.Plain
set_option linter.unusedVariables false
set_option linter.unusedSimpArgs false
def sg (neg:Bool) (n:Nat):Int:=if neg=true then -(n:Int) else (n:Int)
theorem gU (neg:Bool) (n:Nat):(sg neg n).natAbs=n:=by
 unfold sg;split <;> simp
theorem sg_div {neg:Bool}{n g:Nat}(h:g ∣ n):sg neg n / (g:Int)=sg neg (n / g):=by
 unfold sg
 split
 · rw[Int.neg_ediv_of_dvd (Int.natCast_dvd_natCast.2 h)]
   simp
 · simp
theorem sg_neg {neg:Bool}{n:Nat}:sg neg n<0 ↔ neg=true∧0<n:=by
 unfold sg
 split <;> rename_i h
 · simp[h]
   try omega
 · simp[h]
   try omega
theorem wU (z:Int):sg (decide (z<0)) z.natAbs=z:=by
 unfold sg
 by_cases h:z<0
 · simp[h];omega
 · simp[h];omega
theorem sg_not (neg:Bool) (n:Nat):sg (!neg) n=-sg neg n:=by
 unfold sg;cases neg <;> simp
theorem sg_add (neg:Bool) (a b:Nat):sg neg (a+b)=sg neg a+sg neg b:=by
 unfold sg;cases neg <;> simp <;> omega
theorem sg_mul (p q:Bool) (a b:Nat):sg p a*sg q b=sg (p != q) (a*b):=by
 unfold sg;cases p <;> cases q <;> simp[Int.mul_neg,Int.neg_mul]
def QIs (neg:Bool) (la lb:List Nat) (q:Rat):Prop:=NatIs la q.num.natAbs∧NatIs lb q.den∧neg=decide (q.num<0)
theorem QIs.num {neg:Bool}{la lb:List Nat}{q:Rat}(h:QIs neg la lb q):sg neg (val la)=q.num:=by
 rw[h.2.2,h.1.val,wU]
theorem QIs.den {neg:Bool}{la lb:List Nat}{q:Rat}(h:QIs neg la lb q):val lb=q.den:=h.2.1.val
theorem QIs.na {neg:Bool}{la lb:List Nat}{q:Rat}(h:QIs neg la lb q):NatIs la q.num.natAbs:=h.1
theorem QIs.nb {neg:Bool}{la lb:List Nat}{q:Rat}(h:QIs neg la lb q):NatIs lb q.den:=h.2.1
theorem QIs.uniq {neg neg':Bool}{la lb la' lb':List Nat}{q:Rat}(h:QIs neg la lb q) (h':QIs neg' la' lb' q):neg=neg'∧la=la'∧lb=lb' :=
 ⟨h.2.2.trans h'.2.2.symm,h.1.uniq h'.1,h.2.1.uniq h'.2.1⟩
theorem QIs.inj {neg:Bool}{la lb:List Nat}{q r:Rat}(h:QIs neg la lb q) (h':QIs neg la lb r):q=r :=
 Rat.ext (h.num.symm.trans h'.num) (h.den.symm.trans h'.den)
theorem QIs.mk {neg:Bool}{la lb:List Nat}{q:Rat}(h:QIs neg la lb q):q=mkRat (sg neg (val la)) (val lb):=by
 rw[h.num,h.den,Rat.mkRat_self]
theorem make_q (neg:Bool) (n:Nat){d:Nat}(hd:d≠0):(mkRat (sg neg n) d).num.natAbs=n / Nat.gcd n d∧(mkRat (sg neg n) d).den=d / Nat.gcd n d∧decide ((mkRat (sg neg n) d).num<0)=(neg&&decide (0<n / Nat.gcd n d)):=by
 have hn:(mkRat (sg neg n) d).num=sg neg (n / Nat.gcd n d):=by
  rw[Rat.num_mkRat,if_neg hd,gU,Nat.gcd_comm d n,sg_div (Nat.gcd_dvd_left n d)]
 refine⟨by rw[hn,gU],?_,?_⟩
 · rw[Rat.den_mkRat,if_neg hd,gU,Nat.gcd_comm d n]
 · rw[hn,Bool.eq_iff_iff,decide_eq_true_eq,sg_neg,a3m,decide_eq_true_eq]
theorem kX {neg neg':Bool}{n d:Nat}{la lb:List Nat}(hd:d≠0) (ha:NatIs la (n / Nat.gcd n d)) (hb:NatIs lb (d / Nat.gcd n d)) (hn:neg'=(neg&&decide (0<n / Nat.gcd n d))):QIs neg' la lb (mkRat (sg neg n) d):=by
 obtain⟨h1,h2,h3⟩:=make_q neg n hd;exact⟨by rw[h1];exact ha,by rw[h2];exact hb,by rw[h3];exact hn⟩
theorem zK {neg:Bool}{la lb:List Nat}(ha:NatIs la (val la)) (hb:NatIs lb (val lb)) (h0:lb≠[]) (hz:¬ (neg=true∧la=[])) (hg:Nat.gcd (val la) (val lb)=1):QIs neg la lb (mkRat (sg neg (val la)) (val lb)):=by
 have hd:val lb≠0:=fun e=>h0 (by rw[e] at hb;exact hb.uniq NatIs.nil);refine kX hd (by rw[hg,Nat.div_one];exact ha) (by rw[hg,Nat.div_one];exact hb) ?_;rw[hg,Nat.div_one]
 cases neg with
 | false=>rfl
 | true =>
  have:val la≠0:=fun e=>hz ⟨rfl,by rw[e] at ha;exact ha.uniq NatIs.nil⟩
  simp;omega
theorem QIs.ne {neg:Bool}{la lb:List Nat}{q:Rat}(h:QIs neg la lb q):lb≠[]:=fun e=>by
 have:=h.nb;rw[e] at this;exact q.den_nz this.val.symm
theorem QIs.gcd {neg:Bool}{la lb:List Nat}{q:Rat}(h:QIs neg la lb q):Nat.gcd (val la) (val lb)=1:=by
 rw[h.na.val,h.nb.val];exact q.reduced
theorem QIs.sign {neg:Bool}{la lb:List Nat}{q:Rat}(h:QIs neg la lb q):¬ (neg=true∧la=[]):=fun ⟨h1,h2⟩=>by
 have h3:=h.2.2;rw[h1] at h3;have h4:=h.na;rw[h2] at h4;have h5:q.num.natAbs=0:=h4.val.symm;have:q.num<0:=of_decide_eq_true h3.symm;omega
def Fits (k:Nat) (q:Rat):Prop:=q.num.natAbs<pw k∧q.den<pw k
theorem Fits.mono {j k:Nat}{q:Rat}(h:Fits j q) (hk:j≤k):Fits k q:=⟨a1o h.1 (I3 hk),a1o h.2 (I3 hk)⟩
theorem jY {k d:Nat}{z:Int}(hz:z.natAbs<pw k) (hd:d<pw k) (hk:0<k:=by omega):Fits k (mkRat z d):=by
 by_cases h0:d=0
 · subst h0
   simp only[Rat.mkRat_zero,Fits,Rat.zero_num,Rat.zero_den]
   have:=I3 (a:=1) (b:=k) hk
   simp only[kY] at this
   exact⟨by omega,by omega⟩
 · have h1:=make_q (decide (z<0)) z.natAbs h0;rw[wU] at h1;exact⟨by rw[h1.1];exact a2p (Nat.div_le_self _ _) hz,by rw[h1.2.1];exact a2p (Nat.div_le_self _ _) hd⟩
theorem X8 {j k m n:Nat}(h1:m<pw j) (h2:n<pw k):m*n<pw (j+k):=by
 rw[bR];exact Nat.mul_lt_mul'' h1 h2
theorem Fits.pos {k:Nat}{q:Rat}(h:Fits k q):0<k:=by
 rcases a3a k with h0 | h0
 · subst h0;have h1:=h.2;have h2:=a2s q.den_nz
   simp only[pw] at h1
   omega
 · exact h0
theorem a1f {k m n:Nat}(h1:m<pw k) (h2:n<pw k):m+n<pw (k+1):=by
 simp only[pw]
 omega
theorem Fits.add {j k:Nat}{p q:Rat}(hp:Fits j p) (hq:Fits k q):Fits (j+k+1) (p+q):=by
 rw[Rat.add_def'];refine jY ?_ (a1o (X8 hp.2 hq.2) (I3 (by omega)));have h1:(p.num*(q.den:Int)).natAbs<pw (j+k):=by rw[Int.natAbs_mul];exact X8 hp.1 hq.2
 have h2:(q.num*(p.den:Int)).natAbs<pw (j+k):=by rw[Int.natAbs_mul,Nat.add_comm];exact X8 hq.1 hp.2
 exact a2p (Int.natAbs_add_le _ _) (a1f h1 h2)
theorem Fits.neg {k:Nat}{q:Rat}(h:Fits k q):Fits k (-q):=⟨by rw[Rat.neg_num,Int.natAbs_neg];exact h.1,h.2⟩
theorem Fits.sub {j k:Nat}{p q:Rat}(hp:Fits j p) (hq:Fits k q):Fits (j+k+1) (p-q):=by
 rw[Rat.sub_eq_add_neg];exact hp.add hq.neg
theorem Fits.mul {j k:Nat}{p q:Rat}(hp:Fits j p) (hq:Fits k q):Fits (j+k) (p*q):=by
 rw[Rat.mul_def'];have:=hp.pos;exact jY (by rw[Int.natAbs_mul];exact X8 hp.1 hq.1) (X8 hp.2 hq.2)
theorem Fits.zero {k:Nat}(h:0<k):Fits k 0:=by
 have:=I3 (a:=1) (b:=k) h
 simp only[kY] at this
 exact⟨by simp;omega,by simp;omega⟩
section
variable {n1 n2:Bool}{a1 b1 a2 b2:List Nat}{p q:Rat}
theorem S8 (neg:Bool) (a b:Nat):sg neg (a*b)=sg neg a*(b:Int):=by
 unfold sg;split <;> simp[Int.neg_mul]
theorem q_add (h1:QIs n1 a1 b1 p) (h2:QIs n1 a2 b2 q):mkRat (sg n1 (val a1*val b2+val a2*val b1)) (val b1*val b2)=p+q:=by
 rw[sg_add,S8,S8,h1.num,h2.num,h1.den,h2.den,Rat.add_def']
theorem q_sub1 (h1:QIs n1 a1 b1 p) (h2:QIs n2 a2 b2 q) (hn:n1≠n2) (hle:val a2*val b1≤val a1*val b2):mkRat (sg n1 (val a1*val b2-val a2*val b1)) (val b1*val b2)=p+q:=by
 have e:sg n1 (val a1*val b2-val a2*val b1)=sg n1 (val a1*val b2)+sg n2 (val a2*val b1):=by
  unfold sg
  cases n1 <;> cases n2 <;> simp at hn ⊢ <;> omega
 rw[e,S8,S8,h1.num,h2.num,h1.den,h2.den,Rat.add_def']
theorem q_sub2 (h1:QIs n1 a1 b1 p) (h2:QIs n2 a2 b2 q) (hn:n1≠n2) (hle:val a1*val b2≤val a2*val b1):mkRat (sg n2 (val a2*val b1-val a1*val b2)) (val b1*val b2)=p+q:=by
 have e:sg n2 (val a2*val b1-val a1*val b2)=sg n1 (val a1*val b2)+sg n2 (val a2*val b1):=by
  unfold sg
  cases n1 <;> cases n2 <;> simp at hn ⊢ <;> omega
 rw[e,S8,S8,h1.num,h2.num,h1.den,h2.den,Rat.add_def']
theorem q_mul (h1:QIs n1 a1 b1 p) (h2:QIs n2 a2 b2 q):mkRat (sg (n1 != n2) (val a1*val a2)) (val b1*val b2)=p*q:=by
 rw[←sg_mul,h1.num,h2.num,h1.den,h2.den,Rat.mul_def']
theorem q_neg (h1:QIs n1 a1 b1 p):mkRat (sg (!n1) (val a1)) (val b1)=-p:=by
 rw[sg_not,h1.num,h1.den,←Rat.neg_mkRat,Rat.mkRat_self]
theorem q_div (h1:QIs n1 a1 b1 p) (h2:QIs n2 a2 b2 q) (h0:q≠0):mkRat (sg (n1 != n2) (val a1*val b2)) (val b1*val a2)=p / q:=by
 have hq:q.num≠0:=fun e=>h0 (Rat.num_eq_zero.1 e)
 have e1:q⁻¹=mkRat (sg n2 (val b2)) (val a2):=by
  rw[Rat.inv_def,h2.den,h2.na.val];have e:q.num=sg n2 q.num.natAbs:=by rw[h2.2.2,wU]
  by_cases hneg:q.num<0
  · have hn:n2=true:=by rw[h2.2.2];simpa using hneg
    rw[hn] at e ⊢
    unfold sg at e ⊢
    simp at e ⊢
    rw[←Rat.neg_divInt_neg,show -q.num=(q.num.natAbs:Int) by omega,Rat.divInt_ofNat]
  · have hn:n2=false:=by rw[h2.2.2];simpa using hneg
    rw[hn];unfold sg
    simp
    rw[←Rat.divInt_ofNat,show ((q.num.natAbs:Nat):Int)=q.num by omega]
 rw[Rat.div_def,e1,h1.mk,Rat.mkRat_mul_mkRat,sg_mul]
theorem pR (h:QIs n1 a1 b1 p):a1=[] ↔ p=0:=by
 rw[h.na.zero_iff,Int.natAbs_eq_zero,Rat.num_eq_zero]
end
def D0 (p q:Rat):Int:=if p<q then -1 else if q<p then 1 else 0
theorem yB (p q:Rat):-1≤D0 p q∧D0 p q≤1:=by
 unfold D0
 split
 · omega
 · split <;> omega
theorem cmpR_sub (p q:Rat):D0 (p-q) 0=D0 p q:=by
 unfold D0;have h1:p-q<0 ↔ p<q:=by grind
 have h2:0<p-q ↔ q<p:=by grind
 simp only[h1,h2]
theorem cmpR_zero {p q:Rat}:D0 p q=0 ↔ p=q:=by
 unfold D0
 constructor
 · intro h
   split at h
   · omega
   · split at h
     · omega
     · grind
 · rintro rfl;rw[if_neg Rat.lt_irrefl,if_neg Rat.lt_irrefl]
theorem cmpR_neg {p q:Rat}:D0 p q<0 ↔ p<q:=by
 unfold D0
 split
 · simp_all
 · split <;> simp_all
theorem cmpR_pos {p q:Rat}:0<D0 p q ↔ q<p:=by
 unfold D0
 split
 · rename_i h
   constructor
   · omega
   · intro h2;exact absurd (Rat.not_le.2 h2) (by simpa using Rat.le_of_lt h)
 · split <;> simp_all
section
variable {n1 n2:Bool}{a1 b1 a2 b2:List Nat}{p q:Rat}
theorem zI (h1:QIs n1 a1 b1 p) (h2:QIs n2 a2 b2 q) (hn:n1=false) (hm:n2=false):O1 (val a1*val b2) (val a2*val b1)=D0 p q:=by
 have e1:=h1.num;have e2:=h2.num;rw[hn] at e1;rw[hm] at e2;unfold O1 D0
 simp only[Rat.lt_iff,←e1,←e2,h1.den.symm,h2.den.symm,sg]
 simp only[Bool.false_eq_true,if_false]
 have c1:((val a1:Int)*(val b2:Int)<(val a2:Int)*(val b1:Int)) ↔ val a1*val b2<val a2*val b1:=by
  rw[←Int.natCast_mul,←Int.natCast_mul];omega
 have c2:((val a2:Int)*(val b1:Int)<(val a1:Int)*(val b2:Int)) ↔ val a2*val b1<val a1*val b2:=by
  rw[←Int.natCast_mul,←Int.natCast_mul];omega
 simp only[c1,c2]
theorem zJ (h1:QIs n1 a1 b1 p) (h2:QIs n2 a2 b2 q) (hn:n1=true) (hm:n2=true):O1 (val a2*val b1) (val a1*val b2)=D0 p q:=by
 have e1:=h1.num;have e2:=h2.num;rw[hn] at e1;rw[hm] at e2;unfold O1 D0
 simp only[Rat.lt_iff,←e1,←e2,h1.den.symm,h2.den.symm,sg]
 simp only[if_true,Int.neg_mul]
 have c1:(-((val a1:Int)*(val b2:Int)) < -((val a2:Int)*(val b1:Int))) ↔ val a2*val b1<val a1*val b2:=by
  rw[←Int.natCast_mul,←Int.natCast_mul];omega
 have c2:(-((val a2:Int)*(val b1:Int)) < -((val a1:Int)*(val b2:Int))) ↔ val a1*val b2<val a2*val b1:=by
  rw[←Int.natCast_mul,←Int.natCast_mul];omega
 simp only[c1,c2]
theorem S9 (h1:QIs n1 a1 b1 p):n1=true ↔ p<0:=by
 rw[h1.2.2,decide_eq_true_eq,Rat.lt_iff]
 simp
theorem q_cmp_np (h1:QIs n1 a1 b1 p) (h2:QIs n2 a2 b2 q) (hn:n1=true) (hm:n2=false):D0 p q=-1:=by
 have e1:=(S9 h1).1 hn;have e2:¬ q<0:=fun h=>by rw[(S9 h2).2 h] at hm;cases hm
 unfold D0;rw[if_pos (by grind)]
theorem q_cmp_pn (h1:QIs n1 a1 b1 p) (h2:QIs n2 a2 b2 q) (hn:n1=false) (hm:n2=true):D0 p q=1:=by
 have e2:=(S9 h2).1 hm;have e1:¬ p<0:=fun h=>by rw[(S9 h1).2 h] at hn;cases hn
 unfold D0;rw[if_neg (by grind),if_pos (by grind)]
theorem q_sign (h1:QIs n1 a1 b1 p):D0 p 0=if a1=[] then 0 else if n1=true then -1 else 1:=by
 by_cases h0:a1=[]
 · rw[if_pos h0,(pR h1).1 h0];exact cmpR_zero.2 rfl
 · rw[if_neg h0];have hp:p≠0:=fun e=>h0 ((pR h1).2 e)
   by_cases hn:n1=true
   · rw[if_pos hn];unfold D0;rw[if_pos ((S9 h1).1 hn)]
   · rw[if_neg hn];have:¬ p<0:=fun h=>hn ((S9 h1).2 h);unfold D0;rw[if_neg this,if_pos (by grind)]
end
end Go.Proofs.YtjhkapjadfpimaaGreat.Plain
namespace Go.Proofs.YtjhkapjadfpimaaGreat
set_option linter.unusedVariables false
set_option linter.unusedSimpArgs false
open Go.RowKit Plain
set_option maxRecDepth 100000
set_option maxHeartbeats 40000000
def NoDig (cs:Array Value):Prop:=∀ (i:Nat) (d:Int),cs[i]?≠some (.int .u32 d)
theorem k7 (b:Bool) (A:Option Addr) (n c:Nat) (B:Option Addr) (m d:Nat):NoDig #[.bool b,.slice A n c,.slice B m d]:=fun i x=>by
 match i with
 | 0=>simp
 | 1=>simp
 | 2=>simp
 | i+3=>simp
theorem Nv.only_blk {w w':World}{g:Nat}{t:TypeId}{cs:Array Value}{A:Option Addr}{c:Nat}{l:List Nat}(h:Nv w A c l) (hB:Blk w g t cs) (hd:NoDig cs) (ho:Only w w' g):Nv w' A c l:=by
 refine⟨h.len,h.big,fun hx=>?_,h.dig⟩;obtain⟨a,e,h1,h2⟩:=h.rd hx
 have b:a.block≠g:=fun hg=>by
  have h3:=h2 0 hx;have hl:0<l.length:=by rw[C7] at hx;exact hx
  unfold Blk at hB
  unfold World.cell? at h3
  rw[f7,hg,hB] at h3
  simp only at h3
  split at h3
  · cases h3
  · rw[List.getElem_of_eq (show F1 l=F1 l from rfl)] at h3
    simp only[F1,List.getElem_map] at h3
    exact hd _ _ h3
 have hk:=ho.block a.block h1 (by simpa using b)
 exact⟨a,e,a1o h1 ho.size,fun j hj=>by
  rw[World.cell?_of_block (w:=w) (by rw[f7];exact hk)];exact h2 j hj⟩
theorem Blk.same {w:World}{g i:Nat}{t:TypeId}{cs:Array Value}{u:Value}(h:Blk w g t cs) (hi:cs[i]?=some u):w.setCell ⟨g,i,none⟩ u=w:=by
 unfold Blk at h
 have e:cs.setIfInBounds i u=cs:=by
  apply Array.ext_getElem?
  intro j;rw[Array.getElem?_setIfInBounds]
  split
  · rename_i h1
    subst h1
    split
    · exact hi.symm
    · rename_i h2
      rw[Array.getElem?_eq_none (by omega)] at hi
      cases hi
  · rfl
 have hh:(w.setCell ⟨g,i,none⟩ u).heap=w.heap:=by
  unfold World.setCell
  apply Array.ext_getElem?
  intro j;rw[Array.getElem?_modify]
  split
  · rename_i h1
    subst h1;rw[h]
    simp[e]
  · rfl
 unfold World.setCell at hh ⊢
 simp only at hh
 rw[hh]
def Blk3 (w:World) (g:Nat) (t:TypeId):Prop:=∃ b A n c B m d,Blk w g t #[.bool b,.slice A n c,.slice B m d]
theorem Blk.b3 {w:World}{g:Nat}{t:TypeId}{b:Bool}{A:Option Addr}{n c:Nat}{B:Option Addr}{m d:Nat}(h:Blk w g t #[.bool b,.slice A n c,.slice B m d]):Blk3 w g t:=⟨b,A,n,c,B,m,d,h⟩
theorem Blk3.drew {w:World}{g:Nat}{t:TypeId}(h:Blk3 w g t):Blk3 w.drew g t:=h
theorem Blk3.keep {w w':World}{g:Nat}{t:TypeId}(h:Blk3 w g t) (b:Below w.heap.size w w'):Blk3 w' g t:=by
 obtain⟨b',A,n,c,B,m,d,h⟩:=h;exact (h.keep b).b3
theorem Blk3.set {w:World}{g:Nat}{t:TypeId}(h:Blk3 w g t) (b:Bool) (A:Option Addr) (n c:Nat) (B:Option Addr) (m d:Nat):Blk3 (((w.setCell ⟨g,0,none⟩ (.bool b)).setCell ⟨g,1,none⟩ (.slice A n c)).setCell ⟨g,2,none⟩ (.slice B m d)) g t:=by
 obtain⟨b',A',n',c',B',m',d',h⟩:=h;obtain⟨w',e,h',-⟩:=h.set3 (.bool b) (.slice A n c) (.slice B m d);rw[e];exact h'.b3
theorem Nv.alloc {w:World}{A:Option Addr}{c:Nat}{l:List Nat}(h:Nv w A c l) (o:Obj):Nv (w.alloc o) A c l:=h.below ((a3t _ _).alloc (a1u _) o)
theorem mN {B:Nat}{a w:World}{g:Nat}(h:Below B a w) (hg:B≤g) (x y z:Value):Below B a (((w.setCell ⟨g,0,none⟩ x).setCell ⟨g,1,none⟩ y).setCell ⟨g,2,none⟩ z):=((h.setCell hg x).setCell hg y).setCell hg z
def FV (w:World) (v:Value) (q:Rat):Prop :=
 ∃ (neg:Bool) (A:Option Addr) (ca:Nat) (la:List Nat) (B:Option Addr) (cb:Nat) (lb:List Nat),v=B8 neg A la.length ca B lb.length cb∧Nv w A ca la∧Nv w B cb lb∧QIs neg la lb q
theorem FV.below {w w':World}{v:Value}{q:Rat}(h:FV w v q) (hb:Below w.heap.size w w'):FV w' v q:=by
 obtain⟨c,A,ca,la,B,cb,lb,e,ha,b,hq⟩:=h;exact⟨c,A,ca,la,B,cb,lb,e,ha.below hb,b.below hb,hq⟩
theorem FV.only_blk {w w':World}{g:Nat}{t:TypeId}{cs:Array Value}{v:Value}{q:Rat}(h:FV w v q) (hB:Blk w g t cs) (hd:NoDig cs) (ho:Only w w' g):FV w' v q:=by
 obtain⟨c,A,ca,la,B,cb,lb,e,ha,b,hq⟩:=h;exact⟨c,A,ca,la,B,cb,lb,e,ha.only_blk hB hd ho,b.only_blk hB hd ho,hq⟩
def V6 (q:Rat) (W:World) (e:Ending) (w':World):Prop:=∃ v,e=.returned v∧FV w' v q∧Below W.heap.size W w'
def tO (q:Rat) (W:World) (e:Ending) (w':World):Prop:=∃ v,e=.returned (.tuple #[v,.int .i64 0])∧FV w' v q∧Below W.heap.size W w'
theorem sH {l:List Nat}{n k:Nat}(h:NatIs l n) (hk:n<pw k):l.length≤k:=C0 h.canon (by rw[h.val];exact hk)
theorem QIs.fits {neg:Bool}{la lb:List Nat}{q:Rat}{k:Nat}(h:QIs neg la lb q) (hk:Fits k q):la.length≤k∧lb.length≤k:=⟨sH h.na hk.1,sH h.nb hk.2⟩
theorem QIs.natA {neg:Bool}{la lb:List Nat}{q:Rat}(h:QIs neg la lb q):NatIs la (val la):=by have:=h.na;rw[←this.val] at this;exact this
theorem QIs.den_ne {neg:Bool}{la lb:List Nat}{q:Rat}(h:QIs neg la lb q):val lb≠0:=by rw[h.den];exact q.den_nz
def tN (la:List Nat) (d:Nat) (w:World) (g:Nat) (c i:Value) (wr:World):Prop :=
 ∃ (k r:Nat) (hi:List Nat),k≤la.length∧i=.int .i64 k∧c=.int .u64 r∧r<d∧Hid (hi.length=k)∧Dig hi ∧
  Row wr g (List.replicate (la.length-k) 0++hi)∧Hid (val (la.drop (la.length-k))=val hi*d+r)∧Below w.heap.size w wr
def RetSmall (n d k:Nat) (W:World) (e:Ending) (w':World):Prop :=
 ∃ A c l,e=.returned (.tuple #[.slice A l.length c,.int .u32 ((n % d:Nat):Int)])∧Nv w' A c l∧NatIs l (n / d)∧l.length≤k∧Below W.heap.size W w'∧U32Blk w' A
theorem dN (n x:Nat) (t:List Nat):(List.replicate (n+1) 0++t).set n x=List.replicate n 0++x::t:=by
 rw[List.replicate_succ',List.append_assoc];have h:=wV (List.replicate n 0) 0 x t;rw[a1p] at h;exact h
theorem tZ {la:List Nat}{d k r da:Nat}{hi:List Nat}{w wr:World}{g:Nat}(hkl:k<la.length) (hr:r<d) (hd2:d<4294967296) (hhi:Hid (hi.length=k)) (hhd:Dig hi) (hda:da<4294967296)
 (hga:Hid (la.getD (la.length-1-k) 0=da)) (hrow:Row wr g (List.replicate (la.length-k) 0++hi)) (hval:Hid (val (la.drop (la.length-k))=val hi*d+r)) (hbel:Below w.heap.size w wr)
 (x r' i':Int) (hx:x=((da:Int)+4294967296*(r:Int)) / (d:Int) % 4294967296) (hr':r'=((da:Int)+4294967296*(r:Int)) % (d:Int)) (hi':i'=(k:Int)+1) (hg:w.heap.size≤g:=by exact a1u _) (nq:Nat:=1) :
 tN la d w g (.int .u64 r') (.int .i64 i') ((wr.drewN nq).setCell ⟨g,la.length-1-k,none⟩ (.int .u32 x)):=by
 obtain⟨t,ht⟩:∃ t,t=da+4294967296*r:=⟨_,rfl⟩;have f:(da:Int)+4294967296*(r:Int)=(t:Int):=by rw[ht];omega
 have b:t / d<4294967296:=by
  rw[Nat.div_lt_iff_lt_mul (by omega)];have:4294967296*(r+1)≤4294967296*d:=a3g _ hr;omega
 rw[f] at hx hr'
 have h:x=((t / d:Nat):Int):=by
  rw[hx,←Int.natCast_ediv]
  generalize t / d=q at *
  omega
 have c:r'=((t % d:Nat):Int):=by rw[hr',Int.natCast_emod]
 refine⟨k+1,t % d,(t / d)::hi,by omega,by rw[hi'];rfl,by rw[c],a3l _ (by omega),?_,Dig.cons b hhd,?_,?_,(G1 hbel nq).setCell hg _⟩
 · show (_::hi).length=k+1
   rw[a3r,hhi.out]
 · obtain⟨m,hm⟩:∃ m,la.length-k=m+1:=⟨la.length-k-1,by omega⟩;have e1:la.length-1-k=m:=by omega
   have e2:la.length-(k+1)=m:=by omega
   have h1:Row (wr.drewN nq) g (List.replicate (m+1) 0++hi):=hrow.eq (by rw[hm]);rw[e1,e2,h];exact (h1.set m (t / d)).eq (dN _ _ _)
 · show val (la.drop (la.length-(k+1)))=_
   have e1:la.length-(k+1)=la.length-1-k:=by omega
   rw[e1,kF _ _ (by omega),show la.length-1-k+1=la.length-k by omega,hval.out,hga.out]
   simp only[val]
   have h3:=Nat.div_add_mod t d;rw[a3d] at h3;rw[a3k,a2y,←a3c];omega
theorem uA {la:List Nat}{d r:Nat}{hi:List Nat}(hr:r<d) (hval:Hid (val (la.drop (la.length-la.length))=val hi*d+r)):val hi=val la / d∧r=val la % d:=by
 have h:=hval.out;rw[Nat.sub_self,List.drop_zero] at h
 have h1:val la / d=val hi:=by
  rw[h,a3d,Nat.mul_add_div (by omega),Nat.div_eq_of_lt hr];omega
 have h2:val la % d=r:=by
  rw[h,a3d,Nat.mul_add_mod,Nat.mod_eq_of_lt hr]
 exact⟨h1.symm,h2.symm⟩
theorem yY (A:Option Addr) (ca d:Nat) (la:List Nat) (w:World) (ha:Nv w A ca la) (hna:la.length≤5000000000) (hd:0<d) (hd2:d<4294967296) :
 Calls Tryz.prog 99 #[.slice A la.length ca,.int .u32 (d:Int)] w (RetSmall (val la) d la.length w):=by
 have s:=U5 w la.length .i64 (la.length:Int) (by omega) (by omega);go_enter Tryz.func99,Tryz.ntmps99;go_wp2
 go_loopw [7,16] (fun c i wr=>tN la d w w.heap.size c i wr) (fun _ i _=>la.length-(intOf i).toNat)
 case atStart=>exact⟨0,0,[],by omega,rfl,rfl,hd,rfl,Dig.nil,(Row.new _ _).eq (by simp),by show val _=_;simp[val],(a3t _ _).alloc (a1u _) _⟩
 case round =>
  obtain⟨k,r,hi,hk,rfl,rfl,hr,m,l,b,h,g⟩:=hrel
  by_cases hkl:k<la.length
  · obtain⟨a,da,rfl,q,v,n,o⟩:=(ha.below g).at (k:=la.length-1-k) (by omega);have x:=qA da r n (by omega);have hf:=b.free (la.length-1-k);obtain⟨d0,t,_,_⟩:=b.cell' (i:=la.length-1-k) ((Dig.replicate _).append l) (by rw[a1x,a1p,m.out];omega);have p:((d:Int) == 0)=false:=by rw[beq_eq_false_iff_ne];omega
    go_wp2
    go_region
    go_wp2;go_roundw
    case rel=>exact tZ hkl hr hd2 m l n o b h g _ _ _ rfl rfl rfl
    case measure=>simp[intOf];omega
  · obtain rfl:k=la.length:=by omega
    have f:Row wr w.heap.size hi:=b.eq (by simp);have j:=a1k (uA hr h);go_wp2_with fail;refine (R0 f m.out l (by omega)).mono ?_;rintro e w2 ⟨l',rfl,h3,h4,h5,rfl⟩;go_wp2
    go_ret2
    refine⟨_,_,l',?_,h3,j.out.1 ▸ h4,h5,g,f.u32⟩;rw[j.out.2];rfl
def ShInv (la:List Nat) (s:Nat) (w:World) (g:Nat) (i:Value) (wr:World):Prop :=
 ∃ (k t:Nat) (o:List Nat),k≤la.length∧i=.int .i64 k∧t<2 ^ s∧Hid (o.length=k)∧Dig o ∧
  Row wr g (o++t::List.replicate (la.length-k) 0)∧Hid (val o+pw k*t=val (la.take k)*2 ^ s)∧Below w.heap.size w wr
def RetSh (la:List Nat) (s:Nat) (W:World) (e:Ending) (w':World):Prop :=
 ∃ l,e=.returned (.slice (some ⟨W.heap.size,0,none⟩) (la.length+1) (la.length+1))∧Row w' W.heap.size l∧Hid (l.length=la.length+1)∧Dig l∧Hid (val l=val la*2 ^ s)∧Below W.heap.size W w'
theorem sh_top {t s:Nat}(ht:t<2 ^ s) (hs:s<32):t<4294967296:=by
 have:2 ^ s≤2 ^ 32:=Nat.pow_le_pow_right (by omega) (by omega)
 simp only[Nat.reducePow] at this
 omega
theorem sh_cell0 {w:World}{g k t n:Nat}{o:List Nat}(hrow:Row w g (o++t::List.replicate n 0)) (ho:Hid (o.length=k)):w.cell? ⟨g,k,none⟩=some (.int .u32 (t:Int)):=by
 have:=hrow.cell (i:=k) (by simp[ho.out]);rw[this,a1l,←ho.out,a2b (a1u _)]
 simp
theorem sh_cell1 {w:World}{g k t n:Nat}{o:List Nat}(hrow:Row w g (o++t::List.replicate (n-k) 0)) (ho:Hid (o.length=k)) (hk:k<n):w.cell? ⟨g,k+1,none⟩=some (.int .u32 (0:Int)):=by
 have:=hrow.cell (i:=k+1) (by simp[ho.out];omega);rw[this,a1l,a2b (by rw[ho.out];omega),ho.out,O3 hk]
 simp
theorem sh_digit (da t s:Nat) (hda:da<4294967296) (ht:t<2 ^ s) (hs:s<32) :
 ∃ x:Nat,Hid (x=da*2 ^ s)∧IntKind.u64.wrap ((da:Int)*2 ^ s)=(x:Int)∧x<9223372036854775808∧bits .or .u32 (t:Int) ((x:Int) % 4294967296)=((t+x % 4294967296:Nat):Int):=by
 have hp:2 ^ s≤2 ^ 31:=Nat.pow_le_pow_right (by omega) (by omega)
 have hx:da*2 ^ s<9223372036854775808:=by
  have h1:da*2 ^ s≤4294967295*2 ^ 31:=Nat.mul_le_mul (by omega) hp
  simp only[Nat.reducePow,Nat.reduceMul] at h1
  omega
 refine⟨da*2 ^ s,rfl,?_,hx,?_⟩
 · have e:((da:Int)*2 ^ s)=((da*2 ^ s:Nat):Int):=by rw[Int.natCast_mul];rfl
   rw[e,G2]
   generalize da*2 ^ s=x at *
   omega
 · have h2:=u32_or_nat t (da*2 ^ s % 4294967296) (sh_top ht hs) (a3l _ (by omega))
   have h3:da*2 ^ s % 4294967296 % 2 ^ s=0:=by
    have:4294967296=2 ^ s*2 ^ (32-s):=by rw[←Nat.pow_add,show s+(32-s)=32 by omega]
    rw[this,Nat.mod_mul_right_mod,Nat.mul_mod_left]
   rw[show ((da*2 ^ s:Nat):Int) % 4294967296=((da*2 ^ s % 4294967296:Nat):Int) from rfl,h2,Nat.or_comm,nat_join s _ _ h3 ht,Nat.add_comm]
theorem sh_step {la:List Nat}{s da k t x:Nat}{o:List Nat}{w wr:World}{g:Nat}(hkl:k<la.length) (hx:Hid (x=da*2 ^ s)) (ht:t<2 ^ s) (hs:s<32) (ho:Hid (o.length=k)) (hod:Dig o) (hga:Hid (la.getD k 0=da))
 (hxb:x<9223372036854775808) (hrow:Row wr g (o++t::List.replicate (la.length-k) 0)) (hval:Hid (val o+pw k*t=val (la.take k)*2 ^ s)) (hbel:Below w.heap.size w wr)
 (y z i':Int) (hy:y=((t+x % 4294967296:Nat):Int)) (hz:z=(x:Int) / 4294967296) (hi':i'=(k:Int)+1) (hda:da<4294967296:=by assumption) (hg:w.heap.size≤g:=by exact a1u _) :
 ShInv la s w g (.int .i64 i') ((wr.setCell ⟨g,k,none⟩ (.int .u32 y)).setCell ⟨g,k+1,none⟩ (.int .u32 z)):=by
 have b:=hx.out
 have c:t+x % 4294967296<4294967296:=by
  have h4:4294967296=2 ^ s*2 ^ (32-s):=by rw[←Nat.pow_add,show s+(32-s)=32 by omega]
  have h3:x % 4294967296 % 2 ^ s=0:=by rw[b,h4,Nat.mod_mul_right_mod,Nat.mul_mod_left]
  have h5:x % 4294967296<2 ^ s*2 ^ (32-s):=by rw[←h4];exact a3l _ (by omega)
  obtain⟨q,hq⟩:∃ q,x % 4294967296=2 ^ s*q:=Nat.dvd_of_mod_eq_zero h3;rw[hq] at h5 ⊢;have h6:=Nat.lt_of_mul_lt_mul_left h5;have h7:2 ^ s*(q+1)≤2 ^ s*2 ^ (32-s):=a3g _ h6;rw[a2y,Nat.mul_one,←h4] at h7;omega
 have d:x / 4294967296<2 ^ s:=by
  rw[b,Nat.div_lt_iff_lt_mul (by omega),a3d];exact Nat.mul_lt_mul_of_pos_left hda (a3p s)
 have f:z=((x / 4294967296:Nat):Int):=by rw[hz];omega
 refine⟨k+1,x / 4294967296,o++[t+x % 4294967296],by omega,by rw[hi'];rfl,d,?_,hod.snoc c,?_,?_,(hbel.setCell hg _).setCell hg _⟩
 · show (o++[_]).length=_
   rw[a1x,ho.out];rfl
 · rw[O3 hkl] at hrow;have h1:=hrow.push ho.out y hy;have h2:Row (wr.setCell ⟨g,k,none⟩ (.int .u32 y)) g ((o++[t+x % 4294967296])++0::List.replicate (la.length-(k+1)) 0):=h1;exact (h2.push (by rw[a1x,ho.out];rfl) z f).eq (by simp)
 · show val (o++[_])+pw (k+1)*_=_
   have h1:pw k*x=pw k*(x % 4294967296)+4294967296*pw k*(x / 4294967296):=by
    rw[a3d 4294967296 (pw k),a3c,←a2y,Nat.mod_add_div]
   have h2:pw k*da*2 ^ s=pw k*x:=by rw[b,a3c]
   rw[E8,ho.out,m7,hga.out,pw,a3k,←hval.out,h2,h1,a2y];omega
theorem iY (A:Option Addr) (ca s:Nat) (la:List Nat) (w:World) (ha:Nv w A ca la) (hna:la.length≤5000000000) (hs:s<32) :
 Calls Tryz.prog 100 #[.slice A la.length ca,.int .u64 (s:Int)] w (RetSh la s w):=by
 have v:=U5 w (la.length+1) .i64 ((la.length:Int)+1) (by omega) (by omega);go_enter Tryz.func100,Tryz.ntmps100;go_wp2
 go_loopw [14] (fun i wr=>ShInv la s w w.heap.size i wr) (fun i _=>la.length-(intOf i).toNat)
 case atStart=>exact⟨0,0,[],by omega,rfl,a3p s,rfl,Dig.nil,(Row.new _ _).eq (by simp[List.replicate_succ]),by show val _+_=_;simp[val],(a3t _ _).alloc (a1u _) _⟩
 case round =>
  obtain⟨k,t,o,hk,rfl,ht,ho,h,b,d,c⟩:=hrel
  by_cases hkl:k<la.length
  · obtain⟨a,da,rfl,B,z,p,l⟩:=(ha.below c).at hkl;have hf:=b.free k;have C:=b.free (k+1);have y:=sh_cell0 b ho;have q:=sh_cell1 b ho hkl;obtain⟨x,hx,hw,j,r⟩:=sh_digit da t s p ht hs;go_wp2;go_roundw
    case rel=>exact sh_step hkl hx ht hs ho h l j b d c _ _ _ rfl rfl rfl
    case measure=>simp[intOf];omega
  · obtain rfl:k=la.length:=by omega
    have f:Row wr w.heap.size (o++[t]):=b.eq (by simp);have n:t<4294967296:=sh_top ht hs;have g:=a1k (show val (o++[t])=val la*2 ^ s by rw[E8,ho.out,d.out,t7 _ _ (a1u _)]);have m:=a1k (show (o++[t]).length=la.length+1 by rw[a1x,ho.out];rfl);go_wp2;go_ret;exact⟨o++[t],rfl,f,m,h.snoc n,g,c⟩
abbrev a4a:=@World.cell?_of_block
abbrev a4q:=@QIs.fits
end Go.Proofs.YtjhkapjadfpimaaGreat
namespace Go.Proofs.YtjhkapjadfpimaaGreat.Plain
set_option linter.unusedVariables false
set_option linter.unusedSimpArgs false
theorem sT (un u1 u2 v1 v2 w u' v':Nat) (hu2:u2<4294967296) (hu':u'<w) (hv1:0<v1) :
 (((un*4294967296+u1)*4294967296+u2)*w+u') / ((v1*4294967296+v2)*w+v')≤(un*4294967296+u1) / v1:=by
 have hw:0<w:=by omega
 have hV:0<(v1*4294967296+v2)*w+v':=by
  have:0<(v1*4294967296+v2)*w:=Nat.mul_pos (by omega) hw;omega
 rw[Nat.le_div_iff_mul_le hv1]
 generalize hq:(((un*4294967296+u1)*4294967296+u2)*w+u') / ((v1*4294967296+v2)*w+v')=q
 have h1:q*((v1*4294967296+v2)*w+v')≤((un*4294967296+u1)*4294967296+u2)*w+u':=by
  rw[←hq];exact Nat.div_mul_le_self _ _
 have h2:q*v1*(4294967296*w)≤q*((v1*4294967296+v2)*w+v'):=by
  have e:q*v1*(4294967296*w)=q*(v1*4294967296*w):=by simp[a3c]
  rw[e]
  apply a3g
  have:v1*4294967296*w≤(v1*4294967296+v2)*w:=a1y _ (by omega);omega
 have h3:((un*4294967296+u1)*4294967296+u2)*w+u'<(un*4294967296+u1+1)*(4294967296*w):=by
  have e:(un*4294967296+u1+1)*(4294967296*w)=((un*4294967296+u1)*4294967296+4294967296)*w:=by
   rw[←a3c,a3k (un*4294967296+u1) 1,Nat.one_mul]
  rw[e];have h4:((un*4294967296+u1)*4294967296+u2+1)*w≤((un*4294967296+u1)*4294967296+4294967296)*w:=a1y _ (by omega);have h5:((un*4294967296+u1)*4294967296+u2+1)*w=((un*4294967296+u1)*4294967296+u2)*w+w:=by rw[a3k];simp
  omega
 have h6:q*v1*(4294967296*w)<(un*4294967296+u1+1)*(4294967296*w):=by omega
 have h7:=Nat.lt_of_mul_lt_mul_right h6;omega
theorem vF (un u1 u2 v1 v2 w u' v' g:Nat) (hu':u'<w)
 (h:(un*4294967296+u1)*4294967296+u2<g*(v1*4294967296+v2)) :
 (((un*4294967296+u1)*4294967296+u2)*w+u') / ((v1*4294967296+v2)*w+v')<g:=by
 have hw:0<w:=by omega
 have hV:0<(v1*4294967296+v2)*w+v':=by
  have h0:v1*4294967296+v2≠0:=by intro e;rw[e] at h;simp at h
  have:0<(v1*4294967296+v2)*w:=Nat.mul_pos (by omega) hw;omega
 rw[Nat.div_lt_iff_lt_mul hV];have h1:((un*4294967296+u1)*4294967296+u2+1)*w≤g*(v1*4294967296+v2)*w:=a1y _ h;have h2:((un*4294967296+u1)*4294967296+u2+1)*w=((un*4294967296+u1)*4294967296+u2)*w+w:=by rw[a3k];simp
 have h3:g*((v1*4294967296+v2)*w+v')=g*(v1*4294967296+v2)*w+g*v':=by rw[a2y,a3c]
 rw[h3];refine a1o ?_ (Nat.le_add_right _ _);refine a1o ?_ h1;rw[h2];exact Nat.add_lt_add_left hu' _
theorem oH (un u1 u2 v1 v2 w u' v' g:Nat) (hv':v'<w) (hg:g<4294967296) (hv1:0<v1)
 (h:g*(v1*4294967296+v2)≤(un*4294967296+u1)*4294967296+u2) :
 g≤(((un*4294967296+u1)*4294967296+u2)*w+u') / ((v1*4294967296+v2)*w+v')+1:=by
 have hw:0<w:=by omega
 have b:4294967296*w≤(v1*4294967296+v2)*w:=a1y _ (by omega);have hV:0<(v1*4294967296+v2)*w+v':=by omega
 rcases a3a g with h0 | h0
 · rw[h0];exact Nat.zero_le _
 obtain⟨p,rfl⟩:∃ p,g=p+1:=⟨g-1,by omega⟩
 apply Nat.succ_le_succ
 rw[Nat.le_div_iff_mul_le hV];have h1:(p+1)*(v1*4294967296+v2)*w≤((un*4294967296+u1)*4294967296+u2)*w:=a1y _ h;have h2:p*((v1*4294967296+v2)*w+v')=p*(v1*4294967296+v2)*w+p*v':=by rw[a2y,a3c]
 have h3:(p+1)*(v1*4294967296+v2)*w=p*(v1*4294967296+v2)*w+(v1*4294967296+v2)*w:=by rw[a3k,a3k,Nat.one_mul]
 have h4:p*v'≤4294967296*w:=Nat.mul_le_mul (by omega) (by omega);omega
structure GCtx (U V un u1 u2 v1 v2 w u' v':Nat):Prop where
 hU:U=((un*4294967296+u1)*4294967296+u2)*w+u'
 hV:V=(v1*4294967296+v2)*w+v'
 hu':u'<w
 hv':v'<w
 dun:un<4294967296
 du1:u1<4294967296
 du2:u2<4294967296
 dv1:v1<4294967296
 dv2:v2<4294967296
 norm:2147483648≤v1
 lt:U<4294967296*V
structure GInv (U V un u1 v1 g r:Nat):Prop where
 eq:g*v1+r=un*4294967296+u1
 le:U / V≤g
 r:r<4294967296
 g:g≤4294967297
section
variable {U V un u1 u2 v1 v2 w u' v' g r:Nat}
theorem GCtx.pos (h:GCtx U V un u1 u2 v1 v2 w u' v'):0<V:=by
 have h1:=h.lt
 rcases a3a V with h0 | h0
 · rw[h0] at h1;omega
 · exact h0
theorem GCtx.q (h:GCtx U V un u1 u2 v1 v2 w u' v'):U / V<4294967296:=by
 rw[Nat.div_lt_iff_lt_mul h.pos];exact h.lt
theorem GCtx.un_le (h:GCtx U V un u1 u2 v1 v2 w u' v'):un≤v1:=by
 have h1:=h.lt;have hw:0<w:=by have:=h.hu';omega
 rcases a3h v1 un with hc | hc
 · exfalso
   have h2:(v1+1)*(4294967296*(4294967296*w))≤un*(4294967296*(4294967296*w)):=a1y _ hc
   have h3:un*(4294967296*(4294967296*w))≤U:=by
    rw[h.hU];have e:un*(4294967296*(4294967296*w))=un*4294967296*4294967296*w:=by simp only[a3c]
    rw[e];have:un*4294967296*4294967296*w≤((un*4294967296+u1)*4294967296+u2)*w:=a1y _ (by omega);exact a1t this (Nat.le_add_right _ _)
   have h4:V<(v1+1)*(4294967296*w):=by
    rw[h.hV];have h5:=h.hv';have h6:=h.dv2;have h7:(v1*4294967296+v2+1)*w≤(v1+1)*4294967296*w:=a1y _ (by omega);rw[a3k (v1*4294967296+v2),Nat.one_mul] at h7;rw[←a3c];exact a1o (Nat.add_lt_add_left h5 _) h7
   have h5:4294967296*V<4294967296*((v1+1)*(4294967296*w)):=Nat.mul_lt_mul_of_pos_left h4 (by omega);have e:4294967296*((v1+1)*(4294967296*w))=(v1+1)*(4294967296*(4294967296*w)):=Nat.mul_left_comm _ _ _;rw[e] at h5;exact absurd (a1o h1 (a3f h5)) (Nat.not_lt.2 (a1t h2 h3))
 · exact hc
theorem GCtx.start (h:GCtx U V un u1 u2 v1 v2 w u' v'):GInv U V un u1 v1 ((un*4294967296+u1) / v1) ((un*4294967296+u1) % v1):=by
 have hn:=h.norm;have h1:=h.un_le;have h2:=h.du1;refine⟨?_,?_,Nat.lt_trans (a3l _ (by omega)) h.dv1,?_⟩
 · rw[a3d];exact Nat.div_add_mod _ _
 · rw[h.hU,h.hV];exact sT un u1 u2 v1 v2 w u' v' h.du2 h.hu' (by omega)
 · apply Nat.le_of_lt_succ
   rw[Nat.div_lt_iff_lt_mul (by omega)];omega
theorem GCtx.more (h:GCtx U V un u1 u2 v1 v2 w u' v') (i:GInv U V un u1 v1 g r) (t:4294967296≤g∨r*4294967296+u2<g*v2) :
 1≤g∧U / V≤g-1∧(g-1)*v1+(r+v1)=un*4294967296+u1:=by
 have hq:=h.q;have he:=i.eq
 have hg:U / V<g:=by
  rcases t with t | t
  · omega
  · rw[h.hU,h.hV];refine vF un u1 u2 v1 v2 w u' v' g h.hu' ?_;have e:g*(v1*4294967296+v2)=g*v1*4294967296+g*v2:=by rw[a2y,a3c]
    rw[e,←he];clear e he hq i h
    generalize g*v1=a at *
    generalize g*v2=b at *
    rw[a3d r] at t;rw[a3d (a+r),a3d a];omega
 have h1:1≤g:=a2p (Nat.zero_le _) hg;refine⟨h1,Nat.le_sub_one_of_lt hg,?_⟩;obtain⟨p,rfl⟩:∃ p,g=p+1:=⟨g-1,by omega⟩;rw[a3k,Nat.one_mul] at he;rw[a3n];omega
theorem GCtx.next (i:GInv U V un u1 v1 g r) (m:1≤g∧U / V≤g-1∧(g-1)*v1+(r+v1)=un*4294967296+u1) (hr:r+v1<4294967296):GInv U V un u1 v1 (g-1) (r+v1) :=
 ⟨m.2.2,m.2.1,hr,by have:=i.g;omega⟩
theorem GCtx.done (h:GCtx U V un u1 u2 v1 v2 w u' v') (i:GInv U V un u1 v1 g r) (hg:g<4294967296) (t:g*v2≤r*4294967296+u2):U / V≤g∧g≤U / V+1∧g<4294967296:=by
 refine⟨i.le,?_,hg⟩;rw[h.hU,h.hV];have hn:=h.norm;refine oH un u1 u2 v1 v2 w u' v' g h.hv' hg (by omega) ?_;have e:g*(v1*4294967296+v2)=g*v1*4294967296+g*v2:=by rw[a2y,a3c]
 rw[e,←i.eq];clear e hn
 generalize g*v1=a at *
 generalize g*v2=b at *
 rw[a3d r] at t;rw[a3d (a+r),a3d a];omega
theorem GCtx.stop (h:GCtx U V un u1 u2 v1 v2 w u' v') (m:1≤g∧U / V≤g-1∧(g-1)*v1+(r+v1)=un*4294967296+u1) (hr:4294967296≤r+v1) :
 U / V≤g-1∧g-1≤U / V+1∧g-1<4294967296:=by
 obtain⟨m1,m2,m3⟩:=m;have hn:=h.norm;have h1:=h.un_le;have h2:=h.du1
 have c:g-1<4294967296:=by
  have h3:(g-1)*v1<4294967296*v1:=by
   have:un*4294967296≤v1*4294967296:=a1y _ h1;rw[a3d 4294967296 v1];omega
  exact Nat.lt_of_mul_lt_mul_right h3
 refine⟨m2,?_,c⟩;rw[h.hU,h.hV];refine oH un u1 u2 v1 v2 w u' v' (g-1) h.hv' c (by omega) ?_;have e:(g-1)*(v1*4294967296+v2)=(g-1)*v1*4294967296+(g-1)*v2:=by rw[a2y,a3c]
 rw[e,←m3];have h4:(g-1)*v2≤4294967296*4294967296:=Nat.mul_le_mul (by omega) (by have:=h.dv2;omega);have h5:4294967296*4294967296≤(r+v1)*4294967296:=a1y _ hr;clear e m3 m2 h1 h2 hn c
 generalize (g-1)*v1=a at *
 generalize (g-1)*v2=b at *
 rw[a3d (r+v1)] at h5;rw[a3d (a+(r+v1)),a3d a];omega
end
theorem pow_up {d s:Nat}(hs:s<32) (h:d*2 ^ s<4294967296):(d+1)*2 ^ s≤4294967296:=by
 have e:4294967296=2 ^ (32-s)*2 ^ s:=by rw[←Nat.pow_add,show 32-s+s=32 by omega]
 rw[e] at h ⊢;exact a1y _ (Nat.lt_of_mul_lt_mul_right h)
theorem norm_of {l2 lv:List Nat}{n s d x:Nat}(hl:l2.length=n) (hn:2≤n) (hd:Dig l2) (ht:l2.getD (n-1) 0=d) (hs:s<32) (hx:x=d*2 ^ s) (hx1:2147483648≤x) (hx2:x<4294967296) (hv:NatIs lv (val l2*2 ^ s)) :
 lv.length=n∧2147483648≤lv.getD (n-1) 0:=by
 obtain⟨m,rfl⟩:∃ m,n=m+1:=⟨n-1,by omega⟩;rw[a3n] at *;have h1:val l2=val (l2.take m)+pw m*d:=by rw[←t7 l2 (m+1) (by omega),m7,ht]
 have h2:=L0 hd m;have h3:val l2<pw m*(d+1):=by rw[a2y,Nat.mul_one];omega
 have h4:val l2*2 ^ s<pw (m+1):=by
  have h5:val l2*2 ^ s<pw m*(d+1)*2 ^ s:=Nat.mul_lt_mul_of_pos_right h3 (a3p s);have h6:pw m*((d+1)*2 ^ s)≤pw m*4294967296:=a3g _ (pow_up hs (by rw[←hx];exact hx2));rw[←a3c,a3d (pw m) 4294967296] at h6;exact a1o h5 h6
 have h7:pw m*x≤val l2*2 ^ s:=by
  rw[h1,hx,←a3c];exact a1y _ (Nat.le_add_left _ _)
 have h8:pw m*2147483648≤val lv:=by
  rw[hv.val];exact a1t (a3g _ hx1) h7
 have h9:=C0 (k:=m+1) hv.canon (by rw[hv.val];exact h4)
 have b:lv.length=m+1:=by
  rcases a3h m lv.length with h | h
  · omega
  · have g:=E0 hv.dig;have j:=I3 h;have l:pw m*1≤pw m*2147483648:=a3g _ (by omega);omega
 refine⟨b,?_⟩;have f:val lv=val (lv.take m)+pw m*lv.getD m 0:=by rw[←t7 lv (m+1) (by omega),m7]
 have o:=L0 hv.dig m;have c:pw m*2147483648<pw m*(lv.getD m 0+1):=by rw[a2y,Nat.mul_one];omega
 have:=Nat.lt_of_mul_lt_mul_left c;omega
theorem a0q {l1 l2 lu:List Nat}{n m s V:Nat}(h1:Dig l1) (h2:Canon l2) (hn:l2.length=n) (hn2:2≤n) (hm:l1.length=m+n) (hlu:val lu=val l1*2 ^ s) (hll:lu.length=m+n+1) (hV:V=val l2*2 ^ s):val (lu.drop (m+1))<V:=by
 have h3:=E6 lu (m+1) (by omega);have h4:=E0 h1;have h5:=mK h2 (by intro e;subst e;simp at hn;omega)
 have h6:pw (m+1)*val (lu.drop (m+1))<pw (m+1)*V:=by
  have h7:val l1*2 ^ s<pw (m+n)*2 ^ s:=Nat.mul_lt_mul_of_pos_right (by rw[←hm];exact h4) (a3p s);have h8:pw (m+n)*2 ^ s=pw (m+1)*(pw (n-1)*2 ^ s):=by rw[←a3c,←bR,show m+1+(n-1)=m+n by omega]
  have h9:pw (m+1)*(pw (n-1)*2 ^ s)≤pw (m+1)*V:=by
   rw[hV,←hn];exact a3g _ (a1y _ h5)
  omega
 exact Nat.lt_of_mul_lt_mul_left h6
theorem div_mid {us:List Nat}{n j V:Nat}(hd:Dig us) (hl:j+n+1≤us.length) (hV:V<pw n) (h:val (us.drop (j+1))<V) :
 val ((us.drop j).take (n+1))<4294967296*V∧val (us.drop (j+n+1))=0:=by
 have h1:=kF us j (by omega);have h2:=hd.getD j;have h3:val (us.drop j)<4294967296*V:=by omega
 have h4:=E6 (us.drop j) (n+1) (by rw[a2d];omega);rw[List.drop_drop] at h4
 have h5:val (us.drop (j+(n+1)))=0:=by
  rcases a3a (val (us.drop (j+(n+1)))) with h0 | h0
  · exact h0
  · have h6:pw (n+1)*1≤pw (n+1)*val (us.drop (j+(n+1))):=a3g _ h0
    simp only[pw] at h6 h4
    omega
 rw[show j+n+1=j+(n+1) by omega];refine⟨?_,h5⟩;rw[h5] at h4;omega
theorem a0s {us mid':List Nat}{n j V k:Nat}{qs:List Nat}{U:Nat}(hl:j+n+1≤us.length) (hpost:val (us.drop (j+n+1))=0) (hm:val mid'=val ((us.drop j).take (n+1)) % V) (hml:mid'.length=n+1) (hk:k=j+1)
 (hU:U=val us+V*(pw k*val qs)):U=val (us.take j++mid'++us.drop (j+n+1))+V*(pw j*val (val ((us.drop j).take (n+1)) / V::qs))∧val ((us.take j++mid'++us.drop (j+n+1)).drop j)=val mid':=by
 have h1:=E6 us j (by omega);have h2:=E6 (us.drop j) (n+1) (by rw[a2d];omega);rw[List.drop_drop,show j+(n+1)=j+n+1 by omega,hpost,Nat.mul_zero,Nat.add_zero] at h2;have hj:(us.take j).length=j:=by rw[a2c];omega
 constructor
 · rw[P5,P5,hpost,Nat.mul_zero,Nat.add_zero,hj,hm,hU,←h1,←h2,hk]
   generalize val ((us.drop j).take (n+1))=M
   generalize val (us.take j)=P
   have h3:=Nat.div_add_mod M V
   simp only[pw,val]
   have e1:pw j*M=V*(pw j*(M / V))+pw j*(M % V):=by
    rw[Nat.mul_left_comm V,←a2y,h3]
   have e2:pw j*(M / V+4294967296*val qs)=pw j*(M / V)+4294967296*pw j*val qs:=by
    rw[a2y,←a3c,a3d (pw j) 4294967296]
   rw[e2,a2y,e1];omega
 · rw[List.append_assoc,List.drop_append_of_le_length (by omega),List.drop_of_length_le (by omega),List.nil_append,P5,hpost]
   simp
theorem pB {us rs:List Nat}{k s t tk u:Nat}(hs:s<32) (hu:us.getD k 0=u) (hlen:rs.length=k) (htk:tk=u % 2 ^ s) (h:2 ^ s*val rs+t=val (us.take k)+pw k*tk) (t1:Nat) (r:Nat) (hr:r=u / 2 ^ s+t1*2 ^ (32-s)) :
 2 ^ s*val (rs++[r])+t=val (us.take (k+1))+pw (k+1)*t1:=by
 rw[E8,hlen,m7,hu,pw,hr,a2y];have e:(4294967296:Nat)=2 ^ s*2 ^ (32-s):=by rw[←Nat.pow_add,show s+(32-s)=32 by omega]
 have h1:=Nat.div_add_mod u (2 ^ s);rw[←htk] at h1
 have e1:2 ^ s*(pw k*(u / 2 ^ s+t1*2 ^ (32-s)))=pw k*(2 ^ s*(u / 2 ^ s))+4294967296*pw k*t1:=by
  rw[Nat.mul_left_comm,a2y (2 ^ s),a2y (pw k),Nat.mul_left_comm (2 ^ s) t1,←e]
  congr 1
  rw[a3d t1,←a3c,a3d (pw k)]
 rw[e1];have e2:pw k*u=pw k*(2 ^ s*(u / 2 ^ s))+pw k*tk:=by rw[←a2y,h1]
 rw[e2];omega
theorem rC {us rs:List Nat}{n s t R:Nat}(ht:t<2 ^ s) (h:2 ^ s*val rs+t=val (us.take n)+pw n*0) (hu:val (us.take n)=R*2 ^ s):val rs=R:=by
 rw[hu,Nat.mul_zero,Nat.add_zero,a3d R] at h;have h1:(2 ^ s*val rs+t) / 2 ^ s=(2 ^ s*R) / 2 ^ s:=by rw[h]
 rw[Nat.mul_add_div (a3p s),Nat.div_eq_of_lt ht,Nat.mul_div_cancel_left _ (a3p s)] at h1;omega
end Go.Proofs.YtjhkapjadfpimaaGreat.Plain
