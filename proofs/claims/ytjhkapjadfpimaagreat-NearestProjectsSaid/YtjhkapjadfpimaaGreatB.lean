/- Contracts of functions, for the law. -/
import Derived.Test.YtjhkapjadfpimaaGreatProg
import Derived.WalkKit
import Derived.WalkSpells
import Derived.WalkLawsBesides
import Derived.Deep.Draws
import Derived.Deep.QuietTactic
import Derived.BigQuiet
import Derived.Deep.DeepCutAuto
import Derived.Deep.CutBlock
import Derived.Deep.DeepFit
import Derived.Lib.Hide
import Derived.Laws.AppendOwnNone
import Derived.Deep.DeepMust
import Derived.Laws.OwnMore
import Derived.Deep.AppendLies
import Derived.Deep.RegionHeld3
import Derived.Deep.DrawnRows
namespace Go.Proofs.YtjhkapjadfpimaaGreat.Plain
set_option linter.unusedVariables false
set_option linter.unusedSimpArgs false
def val:List Nat→Nat
 | []=>0
 | d::ds=>d+4294967296*val ds
def pw:Nat→Nat
 | 0=>1
 | k+1=>4294967296*pw k
def Dig (l:List Nat):Prop:=∀ d∈l,d<4294967296
theorem uR (k:Nat):0<pw k:=by induction k with
 | zero=>simp[pw]
 | succ k ih=>simp only[pw];omega
theorem bR (a b:Nat):pw (a+b)=pw a*pw b:=by
 induction b with
 | zero=>simp[pw]
 | succ b ih=>rw[Nat.add_succ];simp only[pw];rw[ih,Nat.mul_left_comm]
theorem I3 {a b:Nat}(h:a≤b):pw a≤pw b:=by
 obtain⟨c,rfl⟩:=Nat.exists_eq_add_of_le h;rw[bR];exact Nat.le_mul_of_pos_right _ (uR c)
theorem kY:pw 1=4294967296:=rfl
theorem wL:val []=0:=rfl
theorem P5 (a b:List Nat):val (a++b)=val a+pw a.length*val b:=by
 induction a with
 | nil=>simp[val,pw]
 | cons d a ih =>
  simp only[List.cons_append,val,List.length_cons,pw,ih,Nat.mul_add,Nat.mul_assoc]
  omega
theorem E8 (a:List Nat) (d:Nat):val (a++[d])=val a+pw a.length*d:=by
 rw[P5];simp[val]
theorem dI (n:Nat):val (List.replicate n 0)=0:=by
 induction n with
 | zero=>rfl
 | succ n ih=>simp[List.replicate_succ,val,ih]
theorem Dig.nil:Dig []:=fun _ h=>by simp at h
theorem Dig.cons {d:Nat}{l:List Nat}(h:d<4294967296) (hl:Dig l):Dig (d::l):=by
 intro x hx
 rcases List.mem_cons.1 hx with rfl | hx
 · exact h
 · exact hl x hx
theorem Dig.head {d:Nat}{l:List Nat}(h:Dig (d::l)):d<4294967296:=h d (by simp)
theorem Dig.tail {d:Nat}{l:List Nat}(h:Dig (d::l)):Dig l:=fun x hx=>h x (by simp[hx])
theorem Dig.append {a b:List Nat}(ha:Dig a) (hb:Dig b):Dig (a++b):=by
 intro x hx
 rcases List.mem_append.1 hx with hx | hx
 · exact ha x hx
 · exact hb x hx
theorem Dig.snoc {a:List Nat}{d:Nat}(ha:Dig a) (hd:d<4294967296):Dig (a++[d]):=ha.append (Dig.cons hd Dig.nil)
theorem Dig.take {a:List Nat}(ha:Dig a) (k:Nat):Dig (a.take k):=fun x hx=>ha x (List.mem_of_mem_take hx)
theorem Dig.drop {a:List Nat}(ha:Dig a) (k:Nat):Dig (a.drop k):=fun x hx=>ha x (List.mem_of_mem_drop hx)
theorem Dig.getD {a:List Nat}(ha:Dig a) (k:Nat):a.getD k 0<4294967296:=by
 by_cases h:k<a.length
 · rw[List.getD_eq_getElem?_getD,List.getElem?_eq_getElem h];exact ha _ (List.getElem_mem h)
 · rw[List.getD_eq_getElem?_getD,List.getElem?_eq_none (by omega)]
   simp
theorem Dig.replicate (n:Nat):Dig (List.replicate n 0):=fun x hx=>by
 have:=List.eq_of_mem_replicate hx;omega
theorem E0 {l:List Nat}(h:Dig l):val l<pw l.length:=by
 induction l with
 | nil=>simp[val,pw]
 | cons d l ih =>
  have h1:=h.head;have h2:=ih h.tail
  simp only[val,List.length_cons,pw]
  omega
theorem wM:∀ {a b:List Nat},Dig a→Dig b→a.length=b.length→val a=val b→a=b
 | [],[],_,_,_,_=>rfl
 | [],_::_,_,_,h,_=>by simp at h
 | _::_,[],_,_,h,_=>by simp at h
 | x::a,y::b,ha,hb,hl,hv=>by
  have h1:=ha.head;have h2:=hb.head
  simp only[val] at hv
  have hxy:x=y:=by omega
  have c:val a=val b:=by omega
  rw[hxy,wM ha.tail hb.tail (by simpa using hl) c]
theorem P7 (l:List Nat) (k:Nat) (h:k<l.length):l.take (k+1)=l.take k++[l.getD k 0]:=by
 rw[List.take_succ_eq_append_getElem h,List.getD_eq_getElem?_getD,List.getElem?_eq_getElem h];rfl
theorem m7 (l:List Nat) (k:Nat):val (l.take (k+1))=val (l.take k)+pw k*l.getD k 0:=by
 by_cases h:k<l.length
 · rw[P7 l k h,E8,List.length_take,Nat.min_eq_left (by omega)]
 · rw[List.take_of_length_le (by omega),List.take_of_length_le (by omega),List.getD_eq_getElem?_getD,List.getElem?_eq_none (by omega)]
   simp
theorem kF (l:List Nat) (k:Nat) (h:k<l.length):val (l.drop k)=l.getD k 0+4294967296*val (l.drop (k+1)):=by
 rw[List.drop_eq_getElem_cons h,val,List.getD_eq_getElem?_getD,List.getElem?_eq_getElem h];rfl
theorem E6 (l:List Nat) (k:Nat) (h:k≤l.length):val (l.take k)+pw k*val (l.drop k)=val l:=by
 have:=P5 (l.take k) (l.drop k);rw[List.take_append_drop,List.length_take,Nat.min_eq_left h] at this;exact this.symm
theorem t7 (l:List Nat) (k:Nat) (h:l.length≤k):val (l.take k)=val l:=by rw[List.take_of_length_le h]
theorem L0 {l:List Nat}(h:Dig l) (k:Nat):val (l.take k)<pw k:=by
 have:=E0 (h.take k);exact Nat.lt_of_lt_of_le this (I3 (by rw[List.length_take];omega))
theorem gQ (l:List Nat) (j:Nat) (h:j<l.length):val l=val (l.take j)+pw j*l.getD j 0+pw (j+1)*val (l.drop (j+1)):=by
 rw[←m7,E6 l (j+1) (by omega)]
theorem nA {a b:List Nat}{j:Nat}(ha:Dig a) (h1:j<a.length) (h2:j<b.length) (hd:a.drop (j+1)=b.drop (j+1)) (h:a.getD j 0<b.getD j 0):val a<val b:=by
 rw[gQ a j h1,gQ b j h2,hd];have h3:=L0 ha j;have h4:pw j*(a.getD j 0+1)≤pw j*b.getD j 0:=Nat.mul_le_mul_left _ h;rw[Nat.mul_add,Nat.mul_one] at h4;omega
theorem vO {a b:List Nat}{j:Nat}(h1:j<a.length) (h2:j<b.length) (hd:a.drop (j+1)=b.drop (j+1)) (h:a.getD j 0=b.getD j 0):a.drop j=b.drop j:=by
 rw[List.drop_eq_getElem_cons h1,List.drop_eq_getElem_cons h2,hd]
 congr 1
 rw[List.getD_eq_getElem?_getD,List.getD_eq_getElem?_getD,List.getElem?_eq_getElem h1,List.getElem?_eq_getElem h2] at h;exact h
def Canon (l:List Nat):Prop:=l.getLast?≠some 0
def H0:List Nat→Nat→Nat
 | _,0=>0
 | l,n+1=>if l.getD n 0=0 then H0 l n else n+1
def trimL (l:List Nat):List Nat:=l.take (H0 l l.length)
theorem kJ {l:List Nat}{k:Nat}(hk:0<k) (h:l.getD (k-1) 0=0):H0 l k=H0 l (k-1):=by
 obtain⟨n,rfl⟩:∃ n,k=n+1:=⟨k-1,by omega⟩
 simp only[H0,Nat.add_sub_cancel] at *
 rw[if_pos h]
theorem tT {l:List Nat}{k:Nat}(hk:0<k) (h:l.getD (k-1) 0≠0):H0 l k=k:=by
 obtain⟨n,rfl⟩:∃ n,k=n+1:=⟨k-1,by omega⟩
 simp only[H0,Nat.add_sub_cancel] at *
 rw[if_neg h]
theorem T4 (l:List Nat) (n:Nat):H0 l n≤n:=by
 induction n with
 | zero=>simp[H0]
 | succ n ih=>simp only[H0];split <;> omega
theorem trimN_nz (l : List Nat) (n : Nat) : H0 l n = 0 ∨ l.getD (H0 l n - 1) 0 ≠ 0 := by
  induction n with
  | zero => simp [H0]
  | succ n ih => simp only [H0]; split
                 · exact ih
                 · right;simpa using ‹_›
theorem yS (l : List Nat) (n : Nat) : val (l.take (H0 l n)) = val (l.take n) := by
  induction n with
  | zero => simp [H0]
  | succ n ih => simp only [H0]; split
                 · rename_i h;rw [ih, m7, h];simp
                 · rfl
theorem rI {l:List Nat}{n k:Nat}(hk:k≤n) (h:k=0∨l.getD (k-1) 0≠0):k≤H0 l n:=by
 induction n with
 | zero=>omega
 | succ n ih =>
  simp only[H0]
  split
  · rename_i h0
    rcases Nat.lt_or_ge n k with h' | h'
    · have:k=n+1:=by omega
      subst this
      rcases h with h | h
      · omega
      · exact absurd (by simpa using h0) h
    · exact ih h'
  · exact hk
theorem yN (l:List Nat):val (trimL l)=val l:=by
 unfold trimL;rw[yS,List.take_length]
theorem L9 (l:List Nat):(trimL l).length=H0 l l.length:=by
 unfold trimL;rw[List.length_take];exact Nat.min_eq_left (T4 _ _)
theorem getLast?_take {l:List Nat}{n:Nat}(h:n+1≤l.length):(l.take (n+1)).getLast?=some (l.getD n 0):=by
 rw[P7 l n (by omega)];simp
theorem vW {l:List Nat}{n:Nat}(hn:n≤l.length) (h:n=0∨l.getD (n-1) 0≠0):Canon (l.take n):=by
 unfold Canon
 cases n with
 | zero=>simp
 | succ n =>
  rw[getLast?_take hn]
  rcases h with h | h
  · omega
  · simpa using h
theorem jN (l:List Nat):Canon (trimL l):=vW (T4 _ _) (trimN_nz _ _)
theorem Dig.trimL {l:List Nat}(h:Dig l):Dig (trimL l):=h.take _
theorem Canon.nil:Canon []:=by simp[Canon]
theorem dE (l:List Nat):Canon l ↔ l.length=0∨l.getD (l.length-1) 0≠0:=by
 unfold Canon
 cases hl:l.length with
 | zero=>simp[List.eq_nil_of_length_eq_zero hl]
 | succ n =>
  have:=getLast?_take (l:=l) (n:=n) (by omega);rw[←hl,List.take_length] at this;rw[this]
  simp
theorem iW {l:List Nat}(h:Canon l):H0 l l.length=l.length:=by
 have h1:=T4 l l.length;have h2:=rI (l:=l) (n:=l.length) (k:=l.length) (Nat.le_refl _) ((dE l).1 h);omega
theorem cG {l:List Nat}(h:H0 l l.length=l.length):Canon l:=by
 have:=jN l;unfold trimL at this
 rwa [h,List.take_length] at this
theorem mK {l:List Nat}(h:Canon l) (hl:l≠[]):pw (l.length-1)≤val l:=by
 have h0:l.length≠0:=fun e=>hl (List.eq_nil_of_length_eq_zero e)
 have hz:l.getD (l.length-1) 0≠0:=by
  rcases (dE l).1 h with h1 | h1
  · exact absurd h1 h0
  · exact h1
 have e:val l=val (l.take (l.length-1+1)):=by rw[List.take_of_length_le (by omega)]
 rw[e,m7];have:pw (l.length-1)*1≤pw (l.length-1)*l.getD (l.length-1) 0:=Nat.mul_le_mul_left _ (by omega);omega
theorem Q6 {a b:List Nat}(ha:Dig a) (hb:Canon b) (h:a.length<b.length):val a<val b:=by
 have h1:=E0 ha;have h2:=I3 (show a.length≤b.length-1 by omega);have h3:=mK hb (by intro e;subst e;simp at h);omega
def NatIs (l:List Nat) (n:Nat):Prop:=Dig l∧Canon l∧val l=n
theorem NatIs.dig {l:List Nat}{n:Nat}(h:NatIs l n):Dig l:=h.1
theorem NatIs.canon {l:List Nat}{n:Nat}(h:NatIs l n):Canon l:=h.2.1
theorem NatIs.val {l:List Nat}{n:Nat}(h:NatIs l n):val l=n:=h.2.2
theorem NatIs.nil:NatIs [] 0:=⟨Dig.nil,Canon.nil,rfl⟩
theorem bY {l:List Nat}(h:Dig l):NatIs (trimL l) (val l):=⟨h.trimL,jN l,yN l⟩
theorem C0 {l:List Nat}{k:Nat}(hc:Canon l) (h:val l<pw k):l.length≤k:=by
 by_cases hn:l=[]
 · subst hn;simp
 · have h1:=mK hc hn
   rcases Nat.lt_or_ge k l.length with h2 | h2
   · have:=I3 (show k≤l.length-1 by omega);omega
   · exact h2
theorem NatIs.len_eq {a b:List Nat}{n:Nat}(ha:NatIs a n) (hb:NatIs b n):a.length=b.length:=by
 have h1:=C0 (k:=b.length) ha.canon (by rw[ha.val,←hb.val];exact E0 hb.dig);have h2:=C0 (k:=a.length) hb.canon (by rw[hb.val,←ha.val];exact E0 ha.dig);omega
theorem NatIs.uniq {a b:List Nat}{n:Nat}(ha:NatIs a n) (hb:NatIs b n):a=b :=
 wM ha.dig hb.dig (ha.len_eq hb) (by rw[ha.val,hb.val])
theorem NatIs.zero_iff {l:List Nat}{n:Nat}(h:NatIs l n):l=[] ↔ n=0:=by
 constructor
 · rintro rfl;exact h.val.symm
 · rintro rfl;exact h.uniq NatIs.nil
theorem NatIs.pos {l:List Nat}{n:Nat}(h:NatIs l n) (hn:0<n):0<l.length:=by
 rcases Nat.eq_zero_or_pos l.length with h0 | h0
 · have:=(h.zero_iff).1 (List.eq_nil_of_length_eq_zero h0);omega
 · exact h0
def O1 (m n:Nat):Int:=if m<n then -1 else if n<m then 1 else 0
theorem dB {m n:Nat}(h:m<n):O1 m n=-1:=if_pos h
theorem qN {m n:Nat}(h:n<m):O1 m n=1:=by unfold O1;rw[if_neg (by omega),if_pos h]
theorem yC {m n:Nat}(h:m=n):O1 m n=0:=by unfold O1;rw[if_neg (by omega),if_neg (by omega)]
theorem qO (m n:Nat):-1≤O1 m n∧O1 m n≤1:=by
 unfold O1
 split
 · omega
 · split <;> omega
theorem J8 (m n:Nat):O1 m n<0 ↔ m<n:=by
 unfold O1
 split
 · omega
 · split <;> omega
end Go.Proofs.YtjhkapjadfpimaaGreat.Plain
namespace Go.Proofs.YtjhkapjadfpimaaGreat
set_option linter.unusedVariables false
set_option linter.unusedSimpArgs false
open Go.RowKit Plain
set_option maxRecDepth 100000
set_option maxHeartbeats 40000000
def At (w:World) (a:Addr) (xs:List Value):Prop:=a.block<w.heap.size∧∀ (j:Nat) (h:j<xs.length),w.cell? (a.add j)=some xs[j]
theorem f7 (a:Addr) (n:Nat):(a.add n).block=a.block:=by unfold Addr.add;split <;> rfl
theorem add_add (a:Addr) (i j:Nat):(a.add i).add j=a.add (i+j):=by
 unfold Addr.add
 by_cases hi:i=0 <;> by_cases hj:j=0 <;> simp[hi,hj,Nat.add_assoc]
theorem jM {w:World}{a:Addr}{u:Value}(h:w.cell? (a.add 0)=some u):w.cell? a=some u:=by simpa [Addr.add] using h
theorem gI {w:World}{a:Addr}{u:Value}{k:Nat}(h:w.cell? (a.add k)=some u) (hk:k≠0):w.cell? ⟨a.block,a.off+k,none⟩=some u:=by simpa [Addr.add,hk] using h
theorem At.below {w w':World}{a:Addr}{xs:List Value}(h:At w a xs) (hb:Below w.heap.size w w'):At w' a xs :=
 ⟨Nat.lt_of_lt_of_le h.1 hb.size,fun j hj=>(hb.cell (by rw[f7];exact h.1)).trans (h.2 j hj)⟩
def Sl (w:World) (A:Option Addr) (xs:List Value):Prop:=0<xs.length→∃ a,A=some a∧At w a xs
theorem Sl.below {w w':World}{A:Option Addr}{xs:List Value}(h:Sl w A xs) (hb:Below w.heap.size w w'):Sl w' A xs:=fun hx=>by
 obtain⟨a,e,h1⟩:=h hx;exact⟨a,e,h1.below hb⟩
theorem G2 (n:Int):IntKind.u64.wrap n=n % 18446744073709551616:=by simp[IntKind.wrap,IntKind.bits,IntKind.signed]
theorem rB (n:Int) (h1:0≤n) (h2:n<9223372036854775808):IntKind.i64.wrap n=n:=by rw[IntKind.wrap_i64];omega
theorem mul_le {a b:Nat}(ha:a<4294967296) (hb:b<4294967296):a*b≤18446744065119617025:=Nat.mul_le_mul (show a≤4294967295 by omega) (show b≤4294967295 by omega)
theorem aG {a b h c:Nat}(ha:a<4294967296) (hb:b<4294967296) (hh:h<4294967296) (hc:c<4294967296) :
 ∃ p:Nat,Hid (a*b=p)∧p≤18446744065119617025∧IntKind.u64.wrap ((a:Int)*(b:Int))=(p:Int)∧IntKind.u64.wrap ((p:Int)+(h:Int))=(p:Int)+(h:Int)∧IntKind.u64.wrap ((p:Int)+(h:Int)+(c:Int))=(p:Int)+(h:Int)+(c:Int):=by
 have hp:=mul_le ha hb;refine⟨a*b,rfl,hp,?_,?_,?_⟩
 · rw[G2,←Int.natCast_mul]
   generalize a*b=p at *
   omega
 · rw[G2]
   generalize a*b=p at *
   omega
 · rw[G2]
   generalize a*b=p at *
   omega
def F1 (l:List Nat):List Value:=l.map fun d:Nat=>.int .u32 (d:Int)
theorem C7 (l:List Nat):(F1 l).length=l.length:=by simp[F1]
def Rd (w:World) (A:Option Addr) (l:List Nat):Prop:=Sl w A (F1 l)
theorem rE (a b:List Nat):F1 (a++b)=F1 a++F1 b:=by simp[F1]
theorem rD {l:List Nat}{k:Nat}(h:k<l.length):(F1 l)[k]?=some (.int .u32 ((l.getD k 0:Nat):Int)):=by simp[F1,List.getElem?_eq_getElem h]
theorem Rd.below {w w':World}{A:Option Addr}{l:List Nat}(h:Rd w A l) (hb:Below w.heap.size w w'):Rd w' A l:=Sl.below h hb
theorem Rd.at {w:World}{A:Option Addr}{l:List Nat}(h:Rd w A l){k:Nat}(hk:k<l.length) :
 ∃ a d,A=some a∧a.block<w.heap.size∧w.cell? (a.add k)=some (.int .u32 ((d:Nat):Int))∧Hid (l.getD k 0=d):=by
 obtain⟨a,e,h1,h2⟩:=h (by rw[C7];omega);refine⟨a,_,e,h1,?_,rfl⟩;rw[h2 k (by rw[C7];exact hk)]
 simp[F1,List.getElem?_eq_getElem hk]
theorem World.drewN_drewN' (w:World) (a b:Nat):(w.drewN a).drewN b=w.drewN (a+b):=World.drewN_drewN w a b
theorem Rd.take {w:World}{A:Option Addr}{l:List Nat}(h:Rd w A l) (k:Nat):Rd w A (l.take k):=fun hx=>by
 rw[C7,List.length_take] at hx;obtain⟨a,e,h1,h2⟩:=h (by rw[C7];omega);refine⟨a,e,h1,fun j hj=>?_⟩;rw[C7,List.length_take] at hj;rw[h2 j (by rw[C7];omega)]
 simp[F1]
structure Nv (w:World) (A:Option Addr) (c:Nat) (l:List Nat):Prop where
 len:l.length≤c
 big:l.length≤70368744177664
 rd:Rd w A l
 dig:Dig l
theorem Nv.below {w w':World}{A:Option Addr}{c:Nat}{l:List Nat}(h:Nv w A c l) (hb:Below w.heap.size w w'):Nv w' A c l:=⟨h.len,h.big,h.rd.below hb,h.dig⟩
theorem Nv.at {w:World}{A:Option Addr}{c:Nat}{l:List Nat}(h:Nv w A c l){k:Nat}(hk:k<l.length) :
 ∃ a d,A=some a∧a.block<w.heap.size∧w.cell? (a.add k)=some (.int .u32 ((d:Nat):Int))∧d<4294967296∧Hid (l.getD k 0=d):=by
 obtain⟨a,d,h1,h2,h3,h4⟩:=h.rd.at hk;refine⟨a,d,h1,h2,h3,?_,h4⟩;rw[←h4.out];exact h.dig.getD k
theorem aE (w:World):Nv w none 0 []:=⟨by simp,by simp,fun hx=>by simp[F1] at hx,Dig.nil⟩
def Row (w:World) (g:Nat) (l:List Nat):Prop:=w.heap[g]?=some (.cells (F1 l).toArray 69 (0,0))
section
variable {w w':World}{g:Nat}{l:List Nat}
theorem Row.lt (h:Row w g l):g<w.heap.size:=by
 rcases Nat.lt_or_ge g w.heap.size with hlt | hge
 · exact hlt
 · unfold Row at h;rw[Array.getElem?_eq_none hge] at h;cases h
theorem Row.cell (h:Row w g l){i:Nat}(hi:i<l.length):w.cell? ⟨g,i,none⟩=some (.int .u32 ((l.getD i 0:Nat):Int)):=by
 unfold Row at h
 simp only[World.cell?,h]
 have:=rD hi
 simpa using this
theorem Row.cell' (h:Row w g l) (hd:Dig l){i:Nat}(hi:i<l.length):∃ d,w.cell? ⟨g,i,none⟩=some (.int .u32 ((d:Nat):Int))∧d<4294967296∧Hid (l.getD i 0=d) :=
 ⟨_,h.cell hi,hd.getD i,rfl⟩
theorem Row.free (h:Row w g l) (i:Nat):w.frozen? ⟨g,i,none⟩=false:=by
 unfold Row at h
 simp[World.frozen?,h]
theorem Row.set (h:Row w g l) (i d:Nat):Row (w.setCell ⟨g,i,none⟩ (.int .u32 (d:Int))) g (l.set i d):=by
 unfold Row at h ⊢
 simp[World.setCell,Array.getElem?_modify,h,F1,List.map_set]
theorem Row.keep (h:Row w g l){B:Nat}(hb:Below B w w') (hg:g<B):Row w' g l:=(hb.block g hg).trans h
theorem Row.far (h:Row w g l){p:Addr}(hp:g≠p.block) (u:Value):Row (w.setCell p u) g l:=(Below.heap_setCell w p u g hp).trans h
theorem Row.new (w:World) (l:List Nat):Row (w.alloc (.cells (F1 l).toArray 69)) w.heap.size l:=heap_alloc_new w _
theorem Row.eq (h:Row w g l){l':List Nat}(e:l=l'):Row w g l':=e ▸ h
theorem wV (o:List Nat) (d x:Nat) (z:List Nat):(o++d::z).set o.length x=o++x::z:=by
 induction o with
 | nil=>rfl
 | cons y o ih=>simp[ih]
theorem Row.push {o z:List Nat}{d x k:Nat}(h:Row w g (o++d::z)) (hk:o.length=k) (v:Int) (hv:v=(x:Int)):Row (w.setCell ⟨g,k,none⟩ (.int .u32 v)) g ((o++[x])++z):=by
 subst hv hk;exact (h.set o.length x).eq (by rw[wV];simp)
theorem O3 {n k:Nat}(h:k<n):List.replicate (n-k) 0=(0:Nat)::List.replicate (n-(k+1)) 0:=by
 obtain⟨m,hm⟩:∃ m,n-k=m+1:=⟨n-k-1,by omega⟩;rw[hm,List.replicate_succ,show n-(k+1)=m by omega]
theorem D6 (g i:Nat):(⟨g,0,none⟩:Addr).add i=⟨g,i,none⟩:=by unfold Addr.add;split <;> simp_all
theorem Row.rd (h:Row w g l):Rd w (some ⟨g,0,none⟩) l:=fun hx=>by
 refine⟨_,rfl,h.lt,fun j hj=>?_⟩;rw[C7] at hj;rw[D6,h.cell hj];have:=rD hj;rw[List.getElem?_eq_getElem (by rw[C7];exact hj)] at this;exact this.symm
end
theorem xT:(Tryz.prog.info? 69).map (fun i=>(i.zero,i.size,i.bytes))=some (some (.int .u32 0),1,4):=by kernel_rfl
theorem made_u32 (n:Nat):madeCells #[.int .u32 0] n=(F1 (List.replicate n 0)).toArray:=by
 apply Array.ext'
 rw[toList_madeCells_one]
 simp[F1]
theorem U5 (w:World) (n:Nat) (k:IntKind) (L:Int) (hL:L=(n:Int)) (hn:n≤70368744177664) :
 (Instr.makeSlice 26 (.int k L) (.int k L)).run Tryz.prog w=.ok (.slice (some ⟨w.heap.size,0,none⟩) n n) (w.alloc (.cells (F1 (List.replicate n 0)).toArray 69)):=by
 obtain⟨i,hi,d,c,b⟩:=info_parts xT;subst hL;have hr:=run_make (P:=Tryz.prog) w 26 69 i (.int .u32 0) Tryz.underlying26 hi d k k n n (by omega) (by omega) (by rw[b];omega) (by omega);rw[hr,c,Nat.mul_one,Int.toNat_natCast,←made_u32]
 rfl
def U32Blk (w:World) (A:Option Addr):Prop:=∀ a,A=some a→∃ cs,w.heap[a.block]?=some (.cells cs 69 (0,0))
theorem Row.u32 {w:World}{g i:Nat}{l:List Nat}(h:Row w g l):U32Blk w (some ⟨g,i,none⟩):=fun a e=>by
 cases e;exact⟨_,h⟩
def K5 (n m:Nat) (W:World) (e:Ending) (w':World):Prop :=
 ∃ A c l,e=.returned (.slice A l.length c)∧Nv w' A c l∧NatIs l n∧l.length≤m∧Below W.heap.size W w'
theorem rH (A:Option Addr) (c:Nat) (l:List Nat) (w:World) (h:Rd w A l) (hc:l.length≤c) (hm:l.length≤70368744177664) :
 Calls Tryz.prog 76 #[.slice A l.length c] w fun e w'=>e=.returned (.slice A (H0 l l.length) (H0 l l.length))∧w=w':=by
 go_enter Tryz.func76,Tryz.ntmps76;go_wp2
 go_loop [3] (fun n=>∃ k:Nat,k≤l.length∧n=.int .i64 k∧Hid (H0 l l.length=H0 l k)) (fun n=>(intOf n).toNat)
 case atStart=>exact⟨_,Nat.le_refl _,rfl,rfl⟩
 case round =>
  obtain⟨k,hk,rfl,hr⟩:=hrel
  rcases Nat.eq_zero_or_pos k with h0 | h0
  · subst h0;go_wp2;go_ret;refine⟨?_,rfl⟩;rw[hr.out]
    rfl
  · obtain⟨a,d,rfl,hb,b,hd⟩:=h.at (k:=k-1) (by omega)
    by_cases hz:d=0
    · have e1:=Lib.hid (hr.out.trans (kJ h0 (hd.out.trans hz)));subst hz;go_wp2
      go_round
      case rel=>exact⟨k-1,by omega,by go_num,e1⟩
      case measure=>simp[intOf];omega
    · have e1:=Lib.hid (hr.out.trans (tT h0 (by rw[hd.out];exact hz)));have f:((d:Int) == 0)=false:=by rw[beq_eq_false_iff_ne];omega
      go_wp2;go_ret;refine⟨?_,rfl⟩;rw[e1.out]
      rfl
theorem R0 {g n:Nat}{l:List Nat}{w:World}(h:Row w g l) (hn:l.length=n) (hd:Dig l) (hm:n≤70368744177664) :
 Calls Tryz.prog 76 #[.slice (some ⟨g,0,none⟩) n n] w fun e w'=>∃ l',e=.returned (.slice (some ⟨g,0,none⟩) l'.length l'.length)∧Nv w (some ⟨g,0,none⟩) l'.length l'∧NatIs l' (val l)∧l'.length≤n∧w=w':=by
 subst hn;refine (rH _ _ _ _ h.rd (Nat.le_refl _) hm).mono ?_;rintro e w' ⟨rfl,rfl⟩;refine⟨trimL l,?_,⟨Nat.le_refl _,by rw[L9];have:=T4 l l.length;omega,h.rd.take _,hd.trimL⟩,bY hd,by rw[L9];exact T4 _ _,rfl⟩;rw[L9]
theorem cH {A:Option Addr}{c:Nat}{l:List Nat}{w:World}(h:Nv w A c l) :
 Calls Tryz.prog 76 #[.slice A l.length c] w fun e w'=>∃ l',e=.returned (.slice A l'.length l'.length)∧Nv w A l'.length l'∧NatIs l' (val l)∧l'.length≤l.length∧w=w':=by
 refine (rH _ _ _ _ h.rd h.len h.big).mono ?_;rintro e w' ⟨rfl,rfl⟩;have b:=T4 l l.length;refine⟨trimL l,?_,⟨Nat.le_refl _,by rw[L9];have:=h.big;omega,h.rd.take _,h.dig.trimL⟩,bY h.dig,by rw[L9];exact b,rfl⟩;rw[L9]
def S0 (l:List Nat):Bool:=decide (H0 l l.length=l.length)
theorem G1 {B:Nat}{a w:World}(h:Below B a w) (n:Nat):Below B a (w.drewN n):=⟨h.os,h.tape,h.output,h.size,h.block⟩
theorem P9 (w:World){cs:Array Value}{l:List Nat}(e:cs=(F1 l).toArray):Row (w.alloc (.cells cs 69)) w.heap.size l:=by
 subst e;exact Row.new w l
theorem wK (x:Nat) (hx:x<pw 2):val [x % 4294967296,x / 4294967296 % 4294967296]=x:=by
 simp only[val,pw] at *
 omega
theorem fV (x:Nat) (w:World) (hx:x<pw 2) :
 Calls Tryz.prog 49 #[.int .u64 (x:Int)] w (K5 x 2 w):=by
 have b:=P9 w (cs:=#[Value.int IntKind.u32 ((x:Int) % 4294967296),Value.int IntKind.u32 ((x:Int) / 4294967296 % 4294967296)]) (l:=[x % 4294967296,x / 4294967296 % 4294967296]) (by simp[F1]);have hd:Dig [x % 4294967296,x / 4294967296 % 4294967296]:=Dig.cons (by omega) (Dig.cons (by omega) Dig.nil);have hv:=Lib.hid (wK x hx);clear hx;go_enter Tryz.func49,Tryz.ntmps49;go_wp2_with fail;refine (R0 b rfl hd (by simp)).mono ?_;rintro e w' ⟨l',rfl,h1,h2,h3,rfl⟩;go_wp2;go_ret;exact⟨_,_,_,rfl,h1,hv.out ▸ h2,h3,(Below.refl _ _).alloc (Nat.le_refl _) _⟩
theorem qA (d0 d1:Nat) (h0:d0<4294967296) (h1:d1<4294967296):bits .or .u64 ((d1:Int)*4294967296) (d0:Int)=((d0+4294967296*d1:Nat):Int):=by
 have:=u64_or_nat (d1*4294967296) d0 (by omega) (by omega);rw[nat_join 32 _ _ (by simp) (by simpa using h0)] at this;rw[show ((d1:Int)*4294967296)=((d1*4294967296:Nat):Int) by omega,this];omega
theorem a0w {l1 l2:List Nat}{m n j j1:Nat}(n1:NatIs l1 m) (n2:NatIs l2 n) (h1:j<l1.length) (h2:j<l2.length) (hj:j1=j+1) (hd:Hid (l1.drop j1=l2.drop j1)) (h:l1.getD j 0<l2.getD j 0):O1 m n=-1:=by
 subst hj;exact dB (by rw[←n1.val,←n2.val];exact nA n1.dig h1 h2 hd.out h)
theorem a0x {l1 l2:List Nat}{m n j j1:Nat}(n1:NatIs l1 m) (n2:NatIs l2 n) (h1:j<l1.length) (h2:j<l2.length) (hj:j1=j+1) (hd:Hid (l1.drop j1=l2.drop j1)) (h:l2.getD j 0<l1.getD j 0):O1 m n=1:=by
 subst hj;exact qN (by rw[←n1.val,←n2.val];exact nA n2.dig h2 h1 hd.out.symm h)
theorem a0y {l1 l2:List Nat}{j j1:Nat}(h1:j<l1.length) (h2:j<l2.length) (hj:j1=j+1) (hd:Hid (l1.drop j1=l2.drop j1)) (h:l1.getD j 0=l2.getD j 0):l1.drop j=l2.drop j:=by
 subst hj;exact vO h1 h2 hd.out h
def CmpInv (l1 l2:List Nat) (w:World) (i:Value) (wr:World):Prop :=
 ∃ k:Nat,k≤l1.length∧i=.int .i64 k∧Hid (l1.drop (l1.length-k)=l2.drop (l1.length-k))∧Below w.heap.size w wr
theorem kB {A B:Option Addr}{ca cb:Nat}{la lb:List Nat}{w:World}(ha:Nv w A ca la) (hb:Nv w B cb lb) :
 Calls Tryz.prog 54 #[.slice A la.length ca,.slice B lb.length cb] w fun e w'=>e=.returned (.int .i64 (O1 (val la) (val lb)))∧Below w.heap.size w w':=by
 go_enter Tryz.func54,Tryz.ntmps54;go_wp2_with fail;refine (cH ha).mono ?_;rintro e w' ⟨l1,rfl,h1,n1,b1,rfl⟩;go_wp2_with fail;refine (cH hb).mono ?_;rintro e w' ⟨l2,rfl,h2,n2,b2,rfl⟩;clear b1 b2 ha hb;have C:=h1.big;have r:=h2.big
 rcases Nat.lt_trichotomy l1.length l2.length with hl | hl | hl
 · have hf:=Lib.hid (dB (n1.val ▸ n2.val ▸ Q6 h1.dig n2.canon hl));have l:(((l1.length:Nat):Int) != ((l2.length:Nat):Int))=true:=by rw[bne_iff_ne];omega
   go_wp2;go_ret;refine⟨?_,Below.refl _ _⟩;rw[hf.out];rfl
 · have l:(((l1.length:Nat):Int) != ((l2.length:Nat):Int))=false:=by rw[bne_eq_false_iff_eq];omega
   have o:=Lib.hid hl;have x:l1.length≤l2.length:=by omega
   clear hl;go_wp2
   go_loopw [23] (fun i wr=>CmpInv l1 l2 w i wr) (fun i _=>l1.length-(intOf i).toNat)
   case atStart=>exact⟨0,by omega,rfl,by show l1.drop _=l2.drop _;rw[List.drop_of_length_le (by omega),List.drop_of_length_le (by rw[←o.out];omega)],Below.refl _ _⟩
   case round =>
    obtain⟨k,hk,rfl,hd,c⟩:=hrel
    by_cases hkl:k<l1.length
    · obtain⟨a,d,rfl,t,y,z,g⟩:=(h1.below c).at (k:=l1.length-1-k) (by omega);obtain⟨b,f,rfl,q,v,s,h⟩:=(h2.below c).at (k:=l1.length-1-k) (by omega)
      rcases Nat.lt_trichotomy d f with hdf | hdf | hdf
      · have hf:=Lib.hid (a0w (j:=l1.length-1-k) n1 n2 (by omega) (by omega) (by omega) hd (by rw[g.out,h.out];exact hdf));go_wp2
        go_quiet (fail)
        go_wp2;go_ret;refine⟨?_,G1 c _⟩;rw[hf.out];rfl
      · subst hdf;have hf:=Lib.hid (a0y (j:=l1.length-1-k) (by omega) (by omega) (by omega) hd (by rw[g.out,h.out]));go_wp2
        go_quiet (fail)
        go_wp2
        go_quiet (fail)
        go_wp2;go_roundw
        case rel=>exact⟨k+1,by omega,by go_num,by show l1.drop _=l2.drop _;rw[show l1.length-(k+1)=l1.length-1-k by omega];exact hf.out,G1 c _⟩
        case measure=>simp[intOf];omega
      · have hf:=Lib.hid (a0x (j:=l1.length-1-k) n1 n2 (by omega) (by omega) (by omega) hd (by rw[g.out,h.out];exact hdf));go_wp2
        go_quiet (fail)
        go_wp2
        go_quiet (fail)
        go_wp2;go_ret;refine⟨?_,G1 (G1 c _) _⟩;rw[hf.out];rfl
    · have p:=Lib.hid (show l1.length-k=0 by omega)
      have hf:=Lib.hid (yC (m:=val la) (n:=val lb) (by
       have:=hd.out;rw[p.out,List.drop_zero,List.drop_zero] at this;rw[←n1.val,←n2.val,this]))
      go_wp2;go_ret;refine⟨?_,c⟩;rw[hf.out];rfl
 · have hf:=Lib.hid (qN (n1.val ▸ n2.val ▸ Q6 h2.dig n1.canon hl));have l:(((l1.length:Nat):Int) != ((l2.length:Nat):Int))=true:=by rw[bne_iff_ne];omega
   go_wp2;go_ret;refine⟨?_,Below.refl _ _⟩;rw[hf.out];rfl
def OwnD (w:World) (base:Nat) (v:Value) (l:List Nat):Prop:=w.ownsRow base 69 1 v l.length (F1 l)
theorem OwnD.nil (w:World) (base:Nat):OwnD w base (.slice none 0 0) []:=World.ownsRow_nil w base _ _
theorem OwnD.eq {w:World}{base:Nat}{v:Value}{l l':List Nat}(h:OwnD w base v l) (e:l=l'):OwnD w base v l':=e ▸ h
theorem OwnD.form {w:World}{base:Nat}{v:Value}{l:List Nat}(h:OwnD w base v l):∃ A c,v=.slice A l.length c∧l.length≤c∧Rd w A l:=by
 rcases h.2 with ⟨rfl,h0⟩ | ⟨g,cap,b,rfl,hb,hg,hn,hm,hs,ht⟩
 · have:l=[]:=List.eq_nil_of_length_eq_zero h0;subst this;exact⟨none,0,rfl,by simp,fun hx=>by simp[F1] at hx⟩
 · refine⟨_,cap,rfl,hn,fun hx=>⟨_,rfl,(Array.getElem?_eq_some_iff.1 hg).1,fun j hj=>?_⟩⟩;have h2:w.cell? ⟨g,j,none⟩=(F1 l)[j]?:=World.ownsRow.cellAt (n:=l.length) (xs:=F1 l) (e:=69) (size:=1) (base:=base) (cap:=cap) ⟨by simp[F1],.inr ⟨g,cap,b,rfl,hb,hg,hn,hm,hs,ht⟩⟩ j (by rw[C7] at hj;omega);rw[D6,h2,List.getElem?_eq_getElem hj]
theorem OwnD.nv {w:World}{base:Nat}{v:Value}{l:List Nat}(h:OwnD w base v l) (hd:Dig l) (hm:l.length≤70368744177664):∃ A c,v=.slice A l.length c∧Nv w A c l:=by
 obtain⟨A,c,e,h1,h2⟩:=h.form;exact⟨A,c,e,h1,hm,h2,hd⟩
theorem OwnD.alloc {w:World}{base:Nat}{v:Value}{l:List Nat}(h:OwnD w base v l) (o:Obj):OwnD (w.alloc o) base v l:=World.ownsRow.alloc h o
theorem OwnD.empty (w:World) (base:Nat) (hb:base≤w.heap.size):OwnD (w.alloc (.cells #[] 69)) base (.slice (some ⟨w.heap.size,0,none⟩) 0 0) [] :=
 World.ownsRow_lit w #[] 0 hb (Nat.zero_le _) rfl
theorem Rd.alloc {w:World}{A:Option Addr}{l:List Nat}(h:Rd w A l) (o:Obj):Rd (w.alloc o) A l:=h.below ((Below.refl _ _).alloc (Nat.le_refl _) o)
theorem OwnD.ret {w W:World}{v:Value}{l:List Nat}{n m:Nat}(h:OwnD w W.heap.size v l) (hn:NatIs l n) (hm:l.length≤m) (hb:Below W.heap.size W w) (h46:l.length≤70368744177664):K5 n m W (.returned v) w:=by
 obtain⟨A,c,rfl,hv⟩:=h.nv hn.dig h46;exact⟨A,c,l,rfl,hv,hn,hm,hb⟩
theorem OwnD.grown_below {a w w':World}{B base:Nat}{v:Value}{l:List Nat}(h:OwnD w base v l) (hb:Below B a w) (hg:w.grownBy w' v.ownBlock) (hB:B≤base) (hB2:B≤w.heap.size):Below B a w' :=
 hb.grown hg hB2 (fun k hk=>by have:=(World.ownsRow.lt h k hk).1;omega)
theorem bW {w wr w2:World}{v v':Value}{o:List Nat}{x:Nat}{ob:Obj}(hown:OwnD wr w.heap.size v o) (hbel:Below w.heap.size w wr) (h2:OwnD w2 w.heap.size v' (o++[x])) (hg:(wr.alloc ob).grownBy w2 v.ownBlock):Below w.heap.size w w2 :=
 (hown.alloc ob).grown_below (hbel.alloc hbel.size ob) hg (Nat.le_refl _) (by have:=hbel.size;simp;omega)
section
variable (w:World)
theorem run_app (base:Nat) (v:Value) (l:List Nat) (hown:OwnD w base v l) (A:Option Addr) (m c:Nat) (l2:List Nat) (hr:Rd w A l2) (hm:l2.length=m) (h63:l.length+m≤1000000000000) (hbase:base≤w.heap.size) :
 ∃ v' w',(Builtin.append_ #[26,26] 26 #[v,.slice A m c]).run Tryz.prog w=.ok v' w'∧OwnD w' base v' (l++l2)∧w.grownBy w' v.ownBlock:=by
 subst hm;obtain⟨i,hi,h,k,f⟩:=info_parts xT
 by_cases h0:l2=[]
 · subst h0
   rcases A with _ | ad
   · have b:(Builtin.append_ #[26,26] 26 #[v,.slice none 0 c]).run Tryz.prog w=.ok v w:=by
      rcases hown.2 with ⟨rfl,h0⟩ | ⟨g,o,p,rfl,_,_,n,_⟩
      · simp[Builtin.append_,run_underlying Tryz.underlying26,sizeOf,typeInfo,hi,Builtin.lenOf,Builtin.firstCells]
      · simp[Builtin.append_,run_underlying Tryz.underlying26,sizeOf,typeInfo,hi,Builtin.lenOf,Builtin.firstCells,n,storeCells]
     exact⟨v,w,b,hown.eq (by simp),World.grownBy.refl w _⟩
   · obtain⟨v',w',b,h2,h3,_⟩:=run_append_own (P:=Tryz.prog) w base 26 26 69 i (.int .u32 0) 1 4 Tryz.underlying26 hi h k f rfl (by decide) v l.length (F1 l) hown ad 0 c [] rfl (by simp) (by simp) (by unfold maxLen;omega) (by omega) hbase;exact⟨v',w',b,by simpa [OwnD] using h2,h3⟩
 · obtain⟨ad,rfl,h1,h2⟩:=hr (by rw[C7];exact List.length_pos_iff.2 h0)
   obtain⟨v',w',b,h4,h5,_⟩:=run_append_own (P:=Tryz.prog) w base 26 26 69 i (.int .u32 0) 1 4 Tryz.underlying26 hi h k f rfl (by decide) v l.length (F1 l) hown ad l2.length c (F1 l2) (by simp[F1])
    (fun j u hu=>by
     obtain⟨hj,rfl⟩:=List.getElem?_eq_some_iff.1 hu;exact h2 j hj) (by intro u hu;simp[F1] at hu;obtain⟨d,_,rfl⟩:=hu;rfl) (by unfold maxLen;omega) (by omega) hbase
   refine⟨v',w',b,?_,h5⟩;unfold OwnD;rw[rE,List.length_append];exact h4
theorem K9 {ops:Array Oper}{rest:List Oper}{o:Oper}{a:Act}{Q:Exit→Act→World→Prop}(hgd:o.guard=none) (hty:o.type=26) (s x:Operand)
 (ho:o.op=.call { callee:=.builtin .append,args:=#[s,x],argTypes:=#[26,26] })
 (base:Nat) (v:Value) (l:List Nat) (hs:a.eval s=v) (hown:OwnD w base v l) (A:Option Addr) (m c:Nat) (l2:List Nat) (hx:a.eval x=.slice A m c) (hr:Rd w A l2) (hm:l2.length=m)
 (h63:l.length+m≤1000000000000) (hbase:base≤w.heap.size)
 (h:∀ v' w',OwnD w' base v' (l++l2)→w.grownBy w' v.ownBlock→wpList Tryz.prog ops Q rest (a.put o.dst v') w'):wpList Tryz.prog ops Q (o::rest) a w:=by
 refine wpList_plain hgd fun K hK=>?_;obtain⟨v',w',b,h2,h3⟩:=run_app w base v l hown A m c l2 hr hm h63 hbase
 unfold Oper.wp execOp
 simp only[ho,hty,resolve,invoke,builtin,Sem.run_bind,Sem.run_pure,Result.andThen_ok,List.map_toArray,List.map_cons,List.map_nil,hs,hx,b]
 exact hK _ _ (h v' w' h2 h3)
end
abbrev Only (w w':World) (g:Nat):Prop:=w.grownBy w' (some g)
section
variable {w w' w'':World}{g:Nat}
theorem Only.refl (w:World) (g:Nat):Only w w g:=World.grownBy.refl w _
theorem Only.trans (h:Only w w' g) (k:Only w' w'' g):Only w w'' g :=
 ⟨k.os.trans h.os,k.tape.trans h.tape,k.output.trans h.output,Nat.le_trans h.size k.size,fun i hi hn=>(k.block i (Nat.lt_of_lt_of_le hi h.size) hn).trans (h.block i hi hn)⟩
theorem Only.set (h:Only w w' g) (o:Nat) (u:Value):Only w (w'.setCell ⟨g,o,none⟩ u) g :=
 ⟨h.os,h.tape,h.output,by simpa [World.setCell] using h.size,fun i hi hn=>(Below.heap_setCell w' ⟨g,o,none⟩ u i (by rintro rfl;exact hn rfl)).trans (h.block i hi hn)⟩
theorem Only.drew (h:Only w w' g):Only w w'.drew g:=⟨h.os,h.tape,h.output,h.size,h.block⟩
theorem Only.of_below (h:Below w.heap.size w w') (g:Nat):Only w w' g:=⟨h.os,h.tape,h.output,h.size,fun i hi _=>h.block i hi⟩
theorem Only.to_below {B:Nat}{a:World}(hb:Below B a w) (h:Only w w' g) (hg:B≤g) (hB:B≤w.heap.size):Below B a w' :=
 hb.grown h hB (fun k hk=>by simp at hk;omega)
end
abbrev B8 (neg:Bool) (A:Option Addr) (n c:Nat) (B:Option Addr) (m d:Nat):Value:=.agg #[.bool neg,.slice A n c,.slice B m d]
def Blk (w:World) (g:Nat) (t:TypeId) (cs:Array Value):Prop:=w.heap[g]?=some (.cells cs t (0,0))
section
variable {w w':World}{g:Nat}{t:TypeId}{cs:Array Value}
theorem Blk.lt (h:Blk w g t cs):g<w.heap.size:=by
 rcases Nat.lt_or_ge g w.heap.size with hlt | hge
 · exact hlt
 · unfold Blk at h;rw[Array.getElem?_eq_none hge] at h;cases h
theorem Blk.cell (h:Blk w g t cs) (i:Nat):w.cell? ⟨g,i,none⟩=cs[i]?:=by
 unfold Blk at h
 simp[World.cell?,h]
theorem Blk.free (h:Blk w g t cs) (i:Nat):w.frozen? ⟨g,i,none⟩=false:=by
 unfold Blk at h
 simp[World.frozen?,h]
theorem Blk.new (w:World) (t:TypeId) (cs:Array Value):Blk (w.alloc (.cells cs t)) w.heap.size t cs:=heap_alloc_new w _
theorem Blk.set (h:Blk w g t cs) (i:Nat) (u:Value):Blk (w.setCell ⟨g,i,none⟩ u) g t (cs.setIfInBounds i u):=by
 unfold Blk at h ⊢
 simp[World.setCell,Array.getElem?_modify,h]
theorem Blk.below {B:Nat}(h:Blk w g t cs) (hb:Below B w w') (hg:g<B):Blk w' g t cs:=(hb.block g hg).trans h
theorem Blk.keep (h:Blk w g t cs) (hb:Below w.heap.size w w'):Blk w' g t cs:=h.below hb h.lt
theorem Blk.only {g':Nat}(h:Blk w g t cs) (hb:Only w w' g') (hg:g≠g'):Blk w' g t cs:=(hb.block g h.lt (by simpa using hg)).trans h
end
theorem f8 (w:World) (cs:Array Value) (t:TypeId):∃ w0,w.alloc (.cells cs t)=w0∧Below w.heap.size w w0∧w.heap.size<w0.heap.size∧Blk w0 w.heap.size t cs :=
 ⟨_,rfl,(Below.refl _ _).alloc (Nat.le_refl _) _,by simp,Blk.new w t cs⟩
theorem Blk.f0 {w:World}{g:Nat}{t:TypeId}{a b c:Value}(h:Blk w g t #[a,b,c]):w.cell? ⟨g,0,none⟩=some a:=h.cell 0
theorem Blk.f1 {w:World}{g:Nat}{t:TypeId}{a b c:Value}(h:Blk w g t #[a,b,c]):w.cell? ⟨g,1,none⟩=some b:=h.cell 1
theorem Blk.f2 {w:World}{g:Nat}{t:TypeId}{a b c:Value}(h:Blk w g t #[a,b,c]):w.cell? ⟨g,2,none⟩=some c:=h.cell 2
theorem mM {w0 W w3:World}(h:Below w0.heap.size w0 W) (b3:Below W.heap.size W w3):Below w0.heap.size w0 w3:=h.trans (b3.mono h.size)
theorem Blk.set3 {w:World}{g:Nat}{t:TypeId}{a b c:Value}(h:Blk w g t #[a,b,c]) (x y z:Value):∃ w',((w.setCell ⟨g,0,none⟩ x).setCell ⟨g,1,none⟩ y).setCell ⟨g,2,none⟩ z=w'∧Blk w' g t #[x,y,z]∧Only w w' g :=
 ⟨_,rfl,((h.set 0 x).set 1 y).set 2 z,(((Only.refl w g).set 0 x).set 1 y).set 2 z⟩
def bG (l:List Nat):Bool:=decide (l=[])
theorem gO (l:List Nat):(((l.length:Nat):Int) == 0)=bG l:=by
 unfold bG;rw[Bool.eq_iff_iff,beq_iff_eq,decide_eq_true_eq]
 constructor
 · intro h;exact List.eq_nil_of_length_eq_zero (by omega)
 · rintro rfl;rfl
def bI (neg:Bool) (la lb:List Nat):Bool:=S0 la&&(S0 lb&&(!bG lb&&(!(neg&&bG la)&&decide (Nat.gcd (val la) (val lb)=1))))
theorem xJ {l:List Nat}{n:Nat}(h:NatIs l n):decide (l=[1])=decide (n=1):=by
 have h1:NatIs [1] 1:=⟨Dig.cons (by omega) Dig.nil,by simp[Canon],rfl⟩;rw[decide_eq_decide]
 constructor
 · rintro rfl;rw[←h.val];rfl
 · rintro rfl;exact h.uniq h1
theorem M9 {l:List Nat}(h:S0 l=true):Canon l:=cG (by unfold S0 at h;simpa using h)
theorem a1j {w w1 w2:World} (h1:Below w.heap.size w w1) (h2:Below w1.heap.size w1 w2):Below w.heap.size w w2:=h1.trans (h2.mono h1.size)
theorem a1k {p:Prop} (h:p):Hid p:=Lib.hid h
abbrev a1l:=@List.getD_eq_getElem?_getD
abbrev a1m:=@List.getElem?_eq_getElem
abbrev a1n:=@List.mem_of_getElem?
abbrev a1o:=@Nat.lt_of_lt_of_le
abbrev a1p:=@List.length_replicate
abbrev a1q:=@List.take_of_length_le
abbrev a1r:=@List.getElem?_map
abbrev a1s:=@List.length_map
abbrev a1t:=@Nat.le_trans
abbrev a1u:=@Nat.le_refl
abbrev a1v:=@decide_eq_false
abbrev a1w:=@decide_eq_true
abbrev a1x:=@List.length_append
abbrev a1y:=@Nat.mul_le_mul_right
abbrev a1z:=@List.getElem_mem
abbrev a2a:=@List.eq_nil_of_length_eq_zero
abbrev a2b:=@List.getElem?_append_right
abbrev a2c:=@List.length_take
abbrev a2d:=@List.length_drop
abbrev a2e:=@List.getElem?_eq_some_iff
abbrev a2f:=@List.map_take
abbrev a2g:=@List.map_drop
abbrev a2h:=@List.getElem?_set
abbrev a2i:=@List.length_set
abbrev a2j:=@List.getElem?_eq_none
abbrev a2k:=@List.mem_of_mem_take
abbrev a2l:=@List.mem_of_mem_drop
abbrev a2m:=@List.getElem?_replicate
abbrev a2n:=@List.mem_cons_of_mem
abbrev a2o:=@List.mem_cons_self
abbrev a2p:=@Nat.lt_of_le_of_lt
abbrev a2q:=@List.getElem?_append_left
abbrev a2r:=@List.map_append
abbrev a2s:=@Nat.pos_of_ne_zero
abbrev a2t:=@List.getElem?_range
abbrev a2u:=@List.mem_range
abbrev a2v:=@List.mem_map
abbrev a2w:=@List.getElem?_take
abbrev a2x:=@List.getElem?_drop
abbrev a2y:=@Nat.mul_add
abbrev a2z:=@List.take_length
abbrev a3a:=@Nat.eq_zero_or_pos
abbrev a3b:=@List.mem_append
abbrev a3c:=@Nat.mul_assoc
abbrev a3d:=@Nat.mul_comm
abbrev a3e:=@List.take_add_one
abbrev a3f:=@Nat.le_of_lt
abbrev a3g:=@Nat.mul_le_mul_left
abbrev a3h:=@Nat.lt_or_ge
abbrev a3i:=@List.mem_cons
abbrev a3j:=@List.getElem_of_mem
abbrev a3k:=@Nat.add_mul
abbrev a3l:=@Nat.mod_lt
abbrev a3m:=@Bool.and_eq_true
abbrev a3n:=@Nat.add_sub_cancel
abbrev a3o:=@List.length_zipWith
abbrev a3p:=@Nat.two_pow_pos
abbrev a3q:=@List.mem_replicate
abbrev a3r:=@List.length_cons
abbrev a3s:=@Decidable.not_not
abbrev a3t:=@Below.refl
abbrev a4e:=@Blk.cell
abbrev a4f:=@Blk.keep
abbrev a4g:=@Blk.free
abbrev a4h:=@Blk.new
abbrev a4m:=@Only.refl
abbrev a4n:=@Only.of_below
end Go.Proofs.YtjhkapjadfpimaaGreat
