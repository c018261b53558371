/- Contracts of functions, for the law. -/
import Derived.Test.YtjhkapjadfpimaaGreatProg
import Derived.WalkKit
import Derived.WalkSpells
import Derived.WalkLawsBesides
import Derived.Deep.Draws
import Derived.Deep.QuietTactic
import Derived.BigQuiet
import Derived.Deep.DeepCutAuto
import Derived.Deep.CutBlock
import Derived.Deep.DeepFit
import Derived.Lib.Hide
import Derived.Laws.AppendOwnNone
import Derived.Deep.DeepMust
import Derived.Laws.OwnMore
import Derived.Deep.AppendLies
import Derived.Deep.RegionHeld3
import Derived.Deep.DrawnRows
namespace Go.Proofs.YtjhkapjadfpimaaGreat.Plain
set_option linter.unusedVariables false
set_option linter.unusedSimpArgs false
def val:List Nat→Nat
 | []=>0
 | d::ds=>d+4294967296*val ds
def pw:Nat→Nat
 | 0=>1
 | k+1=>4294967296*pw k
def Dig (l:List Nat):Prop:=∀ d∈l,d<4294967296
theorem tZ (k:Nat):0<pw k:=by induction k with
 | zero=>simp[pw]
 | succ k ih=>simp only[pw];omega
theorem jL (a b:Nat):pw (a+b)=pw a*pw b:=by
 induction b with
 | zero=>simp[pw]
 | succ b ih=>rw[Nat.add_succ];simp only[pw];rw[ih,Nat.mul_left_comm]
theorem dn {a b:Nat}(h:a≤b):pw a≤pw b:=by
 obtain⟨c,rfl⟩:=Nat.exists_eq_add_of_le h;rw[jL];exact Nat.le_mul_of_pos_right _ (tZ c)
theorem oG:pw 1=4294967296:=rfl
theorem uK:val []=0:=rfl
theorem fD (a b:List Nat):val (a++b)=val a+pw a.length*val b:=by
 induction a with
 | nil=>simp[val,pw]
 | cons d a ih =>
  simp only[List.cons_append,val,List.length_cons,pw,ih,Nat.mul_add,Nat.mul_assoc]
  omega
theorem cf (a:List Nat) (d:Nat):val (a++[d])=val a+pw a.length*d:=by
 rw[fD];simp[val]
theorem kq (n:Nat):val (List.replicate n 0)=0:=by
 induction n with
 | zero=>rfl
 | succ n ih=>simp[List.replicate_succ,val,ih]
theorem Dig.nil:Dig []:=fun _ h=>by simp at h
theorem Dig.cons {d:Nat}{l:List Nat}(h:d<4294967296) (hl:Dig l):Dig (d::l):=by
 intro x hx
 rcases List.mem_cons.1 hx with rfl | hx
 · exact h
 · exact hl x hx
theorem Dig.head {d:Nat}{l:List Nat}(h:Dig (d::l)):d<4294967296:=h d (by simp)
theorem Dig.tail {d:Nat}{l:List Nat}(h:Dig (d::l)):Dig l:=fun x hx=>h x (by simp[hx])
theorem Dig.append {a b:List Nat}(ha:Dig a) (hb:Dig b):Dig (a++b):=by
 intro x hx
 rcases List.mem_append.1 hx with hx | hx
 · exact ha x hx
 · exact hb x hx
theorem Dig.snoc {a:List Nat}{d:Nat}(ha:Dig a) (hd:d<4294967296):Dig (a++[d]):=ha.append (Dig.cons hd Dig.nil)
theorem Dig.take {a:List Nat}(ha:Dig a) (k:Nat):Dig (a.take k):=fun x hx=>ha x (List.mem_of_mem_take hx)
theorem Dig.drop {a:List Nat}(ha:Dig a) (k:Nat):Dig (a.drop k):=fun x hx=>ha x (List.mem_of_mem_drop hx)
theorem Dig.getD {a:List Nat}(ha:Dig a) (k:Nat):a.getD k 0<4294967296:=by
 by_cases h:k<a.length
 · rw[List.getD_eq_getElem?_getD,List.getElem?_eq_getElem h];exact ha _ (List.getElem_mem h)
 · rw[List.getD_eq_getElem?_getD,List.getElem?_eq_none (by omega)]
   simp
theorem Dig.replicate (n:Nat):Dig (List.replicate n 0):=fun x hx=>by
 have:=List.eq_of_mem_replicate hx;omega
theorem bW {l:List Nat}(h:Dig l):val l<pw l.length:=by
 induction l with
 | nil=>simp[val,pw]
 | cons d l ih =>
  have h1:=h.head;have h2:=ih h.tail
  simp only[val,List.length_cons,pw]
  omega
theorem uL:∀ {a b:List Nat},Dig a→Dig b→a.length=b.length→val a=val b→a=b
 | [],[],_,_,_,_=>rfl
 | [],_::_,_,_,h,_=>by simp at h
 | _::_,[],_,_,h,_=>by simp at h
 | x::a,y::b,ha,hb,hl,hv=>by
  have h1:=ha.head;have h2:=hb.head
  simp only[val] at hv
  have hxy:x=y:=by omega
  have c:val a=val b:=by omega
  rw[hxy,uL ha.tail hb.tail (by simpa using hl) c]
theorem fG (l:List Nat) (k:Nat) (h:k<l.length):l.take (k+1)=l.take k++[l.getD k 0]:=by
 rw[List.take_succ_eq_append_getElem h,List.getD_eq_getElem?_getD,List.getElem?_eq_getElem h];rfl
theorem ax (l:List Nat) (k:Nat):val (l.take (k+1))=val (l.take k)+pw k*l.getD k 0:=by
 by_cases h:k<l.length
 · rw[fG l k h,cf,List.length_take,Nat.min_eq_left (by omega)]
 · rw[List.take_of_length_le (by omega),List.take_of_length_le (by omega),List.getD_eq_getElem?_getD,List.getElem?_eq_none (by omega)]
   simp
theorem nX (l:List Nat) (k:Nat) (h:k<l.length):val (l.drop k)=l.getD k 0+4294967296*val (l.drop (k+1)):=by
 rw[List.drop_eq_getElem_cons h,val,List.getD_eq_getElem?_getD,List.getElem?_eq_getElem h];rfl
theorem bX (l:List Nat) (k:Nat) (h:k≤l.length):val (l.take k)+pw k*val (l.drop k)=val l:=by
 have:=fD (l.take k) (l.drop k);rw[List.take_append_drop,List.length_take,Nat.min_eq_left h] at this;exact this.symm
theorem aK (l:List Nat) (k:Nat) (h:l.length≤k):val (l.take k)=val l:=by rw[List.take_of_length_le h]
theorem dZ {l:List Nat}(h:Dig l) (k:Nat):val (l.take k)<pw k:=by
 have:=bW (h.take k);exact Nat.lt_of_lt_of_le this (dn (by rw[List.length_take];omega))
theorem mn (l:List Nat) (j:Nat) (h:j<l.length):val l=val (l.take j)+pw j*l.getD j 0+pw (j+1)*val (l.drop (j+1)):=by
 rw[←ax,bX l (j+1) (by omega)]
theorem pH {a b:List Nat}{j:Nat}(ha:Dig a) (h1:j<a.length) (h2:j<b.length) (hd:a.drop (j+1)=b.drop (j+1)) (h:a.getD j 0<b.getD j 0):val a<val b:=by
 rw[mn a j h1,mn b j h2,hd];have h3:=dZ ha j;have h4:pw j*(a.getD j 0+1)≤pw j*b.getD j 0:=Nat.mul_le_mul_left _ h;rw[Nat.mul_add,Nat.mul_one] at h4;omega
theorem ut {a b:List Nat}{j:Nat}(h1:j<a.length) (h2:j<b.length) (hd:a.drop (j+1)=b.drop (j+1)) (h:a.getD j 0=b.getD j 0):a.drop j=b.drop j:=by
 rw[List.drop_eq_getElem_cons h1,List.drop_eq_getElem_cons h2,hd]
 congr 1
 rw[List.getD_eq_getElem?_getD,List.getD_eq_getElem?_getD,List.getElem?_eq_getElem h1,List.getElem?_eq_getElem h2] at h;exact h
def Canon (l:List Nat):Prop:=l.getLast?≠some 0
def cS:List Nat→Nat→Nat
 | _,0=>0
 | l,n+1=>if l.getD n 0=0 then cS l n else n+1
def trimL (l:List Nat):List Nat:=l.take (cS l l.length)
theorem oc {l:List Nat}{k:Nat}(hk:0<k) (h:l.getD (k-1) 0=0):cS l k=cS l (k-1):=by
 obtain⟨n,rfl⟩:∃ n,k=n+1:=⟨k-1,by omega⟩
 simp only[cS,Nat.add_sub_cancel] at *
 rw[if_pos h]
theorem tB {l:List Nat}{k:Nat}(hk:0<k) (h:l.getD (k-1) 0≠0):cS l k=k:=by
 obtain⟨n,rfl⟩:∃ n,k=n+1:=⟨k-1,by omega⟩
 simp only[cS,Nat.add_sub_cancel] at *
 rw[if_neg h]
theorem gF (l:List Nat) (n:Nat):cS l n≤n:=by
 induction n with
 | zero=>simp[cS]
 | succ n ih=>simp only[cS];split <;> omega
theorem yp (l : List Nat) (n : Nat) : cS l n = 0 ∨ l.getD (cS l n - 1) 0 ≠ 0 := by
  induction n with
  | zero => simp [cS]
  | succ n ih => simp only [cS]; split
                 · exact ih
                 · right;simpa using ‹_›
theorem ww (l : List Nat) (n : Nat) : val (l.take (cS l n)) = val (l.take n) := by
  induction n with
  | zero => simp [cS]
  | succ n ih => simp only [cS]; split
                 · rename_i h;rw [ih, ax, h];simp
                 · rfl
theorem sa {l:List Nat}{n k:Nat}(hk:k≤n) (h:k=0∨l.getD (k-1) 0≠0):k≤cS l n:=by
 induction n with
 | zero=>omega
 | succ n ih =>
  simp only[cS]
  split
  · rename_i h0
    rcases Nat.lt_or_ge n k with h' | h'
    · have:k=n+1:=by omega
      subst this
      rcases h with h | h
      · omega
      · exact absurd (by simpa using h0) h
    · exact ih h'
  · exact hk
theorem wh (l:List Nat):val (trimL l)=val l:=by
 unfold trimL;rw[ww,List.take_length]
theorem eC (l:List Nat):(trimL l).length=cS l l.length:=by
 unfold trimL;rw[List.length_take];exact Nat.min_eq_left (gF _ _)
theorem getLast?_take {l:List Nat}{n:Nat}(h:n+1≤l.length):(l.take (n+1)).getLast?=some (l.getD n 0):=by
 rw[fG l n (by omega)];simp
theorem uB {l:List Nat}{n:Nat}(hn:n≤l.length) (h:n=0∨l.getD (n-1) 0≠0):Canon (l.take n):=by
 unfold Canon
 cases n with
 | zero=>simp
 | succ n =>
  rw[getLast?_take hn]
  rcases h with h | h
  · omega
  · simpa using h
theorem nG (l:List Nat):Canon (trimL l):=uB (gF _ _) (yp _ _)
theorem Dig.trimL {l:List Nat}(h:Dig l):Dig (trimL l):=h.take _
theorem Canon.nil:Canon []:=by simp[Canon]
theorem km (l:List Nat):Canon l ↔ l.length=0∨l.getD (l.length-1) 0≠0:=by
 unfold Canon
 cases hl:l.length with
 | zero=>simp[List.eq_nil_of_length_eq_zero hl]
 | succ n =>
  have:=getLast?_take (l:=l) (n:=n) (by omega);rw[←hl,List.take_length] at this;rw[this]
  simp
theorem mZ {l:List Nat}(h:Canon l):cS l l.length=l.length:=by
 have h1:=gF l l.length;have h2:=sa (l:=l) (n:=l.length) (k:=l.length) (Nat.le_refl _) ((km l).1 h);omega
theorem jV {l:List Nat}(h:cS l l.length=l.length):Canon l:=by
 have:=nG l;unfold trimL at this
 rwa [h,List.take_length] at this
theorem po {l:List Nat}(h:Canon l) (hl:l≠[]):pw (l.length-1)≤val l:=by
 have h0:l.length≠0:=fun e=>hl (List.eq_nil_of_length_eq_zero e)
 have hz:l.getD (l.length-1) 0≠0:=by
  rcases (km l).1 h with h1 | h1
  · exact absurd h1 h0
  · exact h1
 have e:val l=val (l.take (l.length-1+1)):=by rw[List.take_of_length_le (by omega)]
 rw[e,ax];have:pw (l.length-1)*1≤pw (l.length-1)*l.getD (l.length-1) 0:=Nat.mul_le_mul_left _ (by omega);omega
theorem fP {a b:List Nat}(ha:Dig a) (hb:Canon b) (h:a.length<b.length):val a<val b:=by
 have h1:=bW ha;have h2:=dn (show a.length≤b.length-1 by omega);have h3:=po hb (by intro e;subst e;simp at h);omega
def NatIs (l:List Nat) (n:Nat):Prop:=Dig l∧Canon l∧val l=n
theorem NatIs.dig {l:List Nat}{n:Nat}(h:NatIs l n):Dig l:=h.1
theorem NatIs.canon {l:List Nat}{n:Nat}(h:NatIs l n):Canon l:=h.2.1
theorem NatIs.val {l:List Nat}{n:Nat}(h:NatIs l n):val l=n:=h.2.2
theorem NatIs.nil:NatIs [] 0:=⟨Dig.nil,Canon.nil,rfl⟩
theorem jP {l:List Nat}(h:Dig l):NatIs (trimL l) (val l):=⟨h.trimL,nG l,wh l⟩
theorem bi {l:List Nat}{k:Nat}(hc:Canon l) (h:val l<pw k):l.length≤k:=by
 by_cases hn:l=[]
 · subst hn;simp
 · have h1:=po hc hn
   rcases Nat.lt_or_ge k l.length with h2 | h2
   · have:=dn (show k≤l.length-1 by omega);omega
   · exact h2
theorem NatIs.len_eq {a b:List Nat}{n:Nat}(ha:NatIs a n) (hb:NatIs b n):a.length=b.length:=by
 have h1:=bi (k:=b.length) ha.canon (by rw[ha.val,←hb.val];exact bW hb.dig);have h2:=bi (k:=a.length) hb.canon (by rw[hb.val,←ha.val];exact bW ha.dig);omega
theorem NatIs.uniq {a b:List Nat}{n:Nat}(ha:NatIs a n) (hb:NatIs b n):a=b :=
 uL ha.dig hb.dig (ha.len_eq hb) (by rw[ha.val,hb.val])
theorem NatIs.zero_iff {l:List Nat}{n:Nat}(h:NatIs l n):l=[] ↔ n=0:=by
 constructor
 · rintro rfl;exact h.val.symm
 · rintro rfl;exact h.uniq NatIs.nil
theorem NatIs.pos {l:List Nat}{n:Nat}(h:NatIs l n) (hn:0<n):0<l.length:=by
 rcases Nat.eq_zero_or_pos l.length with h0 | h0
 · have:=(h.zero_iff).1 (List.eq_nil_of_length_eq_zero h0);omega
 · exact h0
def ff (m n:Nat):Int:=if m<n then -1 else if n<m then 1 else 0
theorem kj {m n:Nat}(h:m<n):ff m n=-1:=if_pos h
theorem rI {m n:Nat}(h:n<m):ff m n=1:=by unfold ff;rw[if_neg (by omega),if_pos h]
theorem vQ {m n:Nat}(h:m=n):ff m n=0:=by unfold ff;rw[if_neg (by omega),if_neg (by omega)]
theorem rJ (m n:Nat):-1≤ff m n∧ff m n≤1:=by
 unfold ff
 split
 · omega
 · split <;> omega
theorem dK (m n:Nat):ff m n<0 ↔ m<n:=by
 unfold ff
 split
 · omega
 · split <;> omega
end Go.Proofs.YtjhkapjadfpimaaGreat.Plain
namespace Go.Proofs.YtjhkapjadfpimaaGreat
set_option linter.unusedVariables false
set_option linter.unusedSimpArgs false
open Go.RowKit Plain
set_option maxRecDepth 100000
set_option maxHeartbeats 40000000
def At (w:World) (a:Addr) (xs:List Value):Prop:=a.block<w.heap.size∧∀ (j:Nat) (h:j<xs.length),w.cell? (a.add j)=some xs[j]
theorem ac (a:Addr) (n:Nat):(a.add n).block=a.block:=by unfold Addr.add;split <;> rfl
theorem add_add (a:Addr) (i j:Nat):(a.add i).add j=a.add (i+j):=by
 unfold Addr.add
 by_cases hi:i=0 <;> by_cases hj:j=0 <;> simp[hi,hj,Nat.add_assoc]
theorem nF {w:World}{a:Addr}{u:Value}(h:w.cell? (a.add 0)=some u):w.cell? a=some u:=by simpa [Addr.add] using h
theorem lW {w:World}{a:Addr}{u:Value}{k:Nat}(h:w.cell? (a.add k)=some u) (hk:k≠0):w.cell? ⟨a.block,a.off+k,none⟩=some u:=by simpa [Addr.add,hk] using h
theorem At.below {w w':World}{a:Addr}{xs:List Value}(h:At w a xs) (hb:Below w.heap.size w w'):At w' a xs :=
 ⟨Nat.lt_of_lt_of_le h.1 hb.size,fun j hj=>(hb.cell (by rw[ac];exact h.1)).trans (h.2 j hj)⟩
def Sl (w:World) (A:Option Addr) (xs:List Value):Prop:=0<xs.length→∃ a,A=some a∧At w a xs
theorem Sl.below {w w':World}{A:Option Addr}{xs:List Value}(h:Sl w A xs) (hb:Below w.heap.size w w'):Sl w' A xs:=fun hx=>by
 obtain⟨a,e,h1⟩:=h hx;exact⟨a,e,h1.below hb⟩
theorem cH (n:Int):IntKind.u64.wrap n=n % 18446744073709551616:=by simp[IntKind.wrap,IntKind.bits,IntKind.signed]
theorem rV (n:Int) (h1:0≤n) (h2:n<9223372036854775808):IntKind.i64.wrap n=n:=by rw[IntKind.wrap_i64];omega
theorem zw {a b:Nat}(ha:a<4294967296) (hb:b<4294967296):a*b≤18446744065119617025:=Nat.mul_le_mul (show a≤4294967295 by omega) (show b≤4294967295 by omega)
theorem jn {a b h c:Nat}(ha:a<4294967296) (hb:b<4294967296) (hh:h<4294967296) (hc:c<4294967296) :
 ∃ p:Nat,Hid (a*b=p)∧p≤18446744065119617025∧IntKind.u64.wrap ((a:Int)*(b:Int))=(p:Int)∧IntKind.u64.wrap ((p:Int)+(h:Int))=(p:Int)+(h:Int)∧IntKind.u64.wrap ((p:Int)+(h:Int)+(c:Int))=(p:Int)+(h:Int)+(c:Int):=by
 have hp:=zw ha hb;refine⟨a*b,rfl,hp,?_,?_,?_⟩
 · rw[cH,←Int.natCast_mul]
   generalize a*b=p at *
   omega
 · rw[cH]
   generalize a*b=p at *
   omega
 · rw[cH]
   generalize a*b=p at *
   omega
def cn (l:List Nat):List Value:=l.map fun d:Nat=>.int .u32 (d:Int)
theorem bu (l:List Nat):(cn l).length=l.length:=by simp[cn]
def Rd (w:World) (A:Option Addr) (l:List Nat):Prop:=Sl w A (cn l)
theorem rY (a b:List Nat):cn (a++b)=cn a++cn b:=by simp[cn]
theorem rX {l:List Nat}{k:Nat}(h:k<l.length):(cn l)[k]?=some (.int .u32 ((l.getD k 0:Nat):Int)):=by simp[cn,List.getElem?_eq_getElem h]
theorem Rd.below {w w':World}{A:Option Addr}{l:List Nat}(h:Rd w A l) (hb:Below w.heap.size w w'):Rd w' A l:=Sl.below h hb
theorem Rd.at {w:World}{A:Option Addr}{l:List Nat}(h:Rd w A l){k:Nat}(hk:k<l.length) :
 ∃ a d,A=some a∧a.block<w.heap.size∧w.cell? (a.add k)=some (.int .u32 ((d:Nat):Int))∧Hid (l.getD k 0=d):=by
 obtain⟨a,e,h1,h2⟩:=h (by rw[bu];omega);refine⟨a,_,e,h1,?_,rfl⟩;rw[h2 k (by rw[bu];exact hk)]
 simp[cn,List.getElem?_eq_getElem hk]
theorem World.drewN_drewN' (w:World) (a b:Nat):(w.drewN a).drewN b=w.drewN (a+b):=World.drewN_drewN w a b
theorem Rd.take {w:World}{A:Option Addr}{l:List Nat}(h:Rd w A l) (k:Nat):Rd w A (l.take k):=fun hx=>by
 rw[bu,List.length_take] at hx;obtain⟨a,e,h1,h2⟩:=h (by rw[bu];omega);refine⟨a,e,h1,fun j hj=>?_⟩;rw[bu,List.length_take] at hj;rw[h2 j (by rw[bu];omega)]
 simp[cn]
structure Nv (w:World) (A:Option Addr) (c:Nat) (l:List Nat):Prop where
 len:l.length≤c
 big:l.length≤70368744177664
 rd:Rd w A l
 dig:Dig l
theorem Nv.below {w w':World}{A:Option Addr}{c:Nat}{l:List Nat}(h:Nv w A c l) (hb:Below w.heap.size w w'):Nv w' A c l:=⟨h.len,h.big,h.rd.below hb,h.dig⟩
theorem Nv.at {w:World}{A:Option Addr}{c:Nat}{l:List Nat}(h:Nv w A c l){k:Nat}(hk:k<l.length) :
 ∃ a d,A=some a∧a.block<w.heap.size∧w.cell? (a.add k)=some (.int .u32 ((d:Nat):Int))∧d<4294967296∧Hid (l.getD k 0=d):=by
 obtain⟨a,d,h1,h2,h3,h4⟩:=h.rd.at hk;refine⟨a,d,h1,h2,h3,?_,h4⟩;rw[←h4.out];exact h.dig.getD k
theorem jl (w:World):Nv w none 0 []:=⟨by simp,by simp,fun hx=>by simp[cn] at hx,Dig.nil⟩
def Row (w:World) (g:Nat) (l:List Nat):Prop:=w.heap[g]?=some (.cells (cn l).toArray 69 (0,0))
section
variable {w w':World}{g:Nat}{l:List Nat}
theorem Row.lt (h:Row w g l):g<w.heap.size:=by
 rcases Nat.lt_or_ge g w.heap.size with hlt | hge
 · exact hlt
 · unfold Row at h;rw[Array.getElem?_eq_none hge] at h;cases h
theorem Row.cell (h:Row w g l){i:Nat}(hi:i<l.length):w.cell? ⟨g,i,none⟩=some (.int .u32 ((l.getD i 0:Nat):Int)):=by
 unfold Row at h
 simp only[World.cell?,h]
 have:=rX hi
 simpa using this
theorem Row.cell' (h:Row w g l) (hd:Dig l){i:Nat}(hi:i<l.length):∃ d,w.cell? ⟨g,i,none⟩=some (.int .u32 ((d:Nat):Int))∧d<4294967296∧Hid (l.getD i 0=d) :=
 ⟨_,h.cell hi,hd.getD i,rfl⟩
theorem Row.free (h:Row w g l) (i:Nat):w.frozen? ⟨g,i,none⟩=false:=by
 unfold Row at h
 simp[World.frozen?,h]
theorem Row.set (h:Row w g l) (i d:Nat):Row (w.setCell ⟨g,i,none⟩ (.int .u32 (d:Int))) g (l.set i d):=by
 unfold Row at h ⊢
 simp[World.setCell,Array.getElem?_modify,h,cn,List.map_set]
theorem Row.keep (h:Row w g l){B:Nat}(hb:Below B w w') (hg:g<B):Row w' g l:=(hb.block g hg).trans h
theorem Row.far (h:Row w g l){p:Addr}(hp:g≠p.block) (u:Value):Row (w.setCell p u) g l:=(Below.heap_setCell w p u g hp).trans h
theorem Row.new (w:World) (l:List Nat):Row (w.alloc (.cells (cn l).toArray 69)) w.heap.size l:=heap_alloc_new w _
theorem Row.eq (h:Row w g l){l':List Nat}(e:l=l'):Row w g l':=e ▸ h
theorem uT (o:List Nat) (d x:Nat) (z:List Nat):(o++d::z).set o.length x=o++x::z:=by
 induction o with
 | nil=>rfl
 | cons y o ih=>simp[ih]
theorem Row.push {o z:List Nat}{d x k:Nat}(h:Row w g (o++d::z)) (hk:o.length=k) (v:Int) (hv:v=(x:Int)):Row (w.setCell ⟨g,k,none⟩ (.int .u32 v)) g ((o++[x])++z):=by
 subst hv hk;exact (h.set o.length x).eq (by rw[uT];simp)
theorem fh {n k:Nat}(h:k<n):List.replicate (n-k) 0=(0:Nat)::List.replicate (n-(k+1)) 0:=by
 obtain⟨m,hm⟩:∃ m,n-k=m+1:=⟨n-k-1,by omega⟩;rw[hm,List.replicate_succ,show n-(k+1)=m by omega]
theorem bO (g i:Nat):(⟨g,0,none⟩:Addr).add i=⟨g,i,none⟩:=by unfold Addr.add;split <;> simp_all
theorem Row.rd (h:Row w g l):Rd w (some ⟨g,0,none⟩) l:=fun hx=>by
 refine⟨_,rfl,h.lt,fun j hj=>?_⟩;rw[bu] at hj;rw[bO,h.cell hj];have:=rX hj;rw[List.getElem?_eq_getElem (by rw[bu];exact hj)] at this;exact this.symm
end
theorem vG:(Tryz.prog.info? 69).map (fun i=>(i.zero,i.size,i.bytes))=some (some (.int .u32 0),1,4):=by kernel_rfl
theorem zC (n:Nat):madeCells #[.int .u32 0] n=(cn (List.replicate n 0)).toArray:=by
 apply Array.ext'
 rw[toList_madeCells_one]
 simp[cn]
theorem gR (w:World) (n:Nat) (k:IntKind) (L:Int) (hL:L=(n:Int)) (hn:n≤70368744177664) :
 (Instr.makeSlice 26 (.int k L) (.int k L)).run Tryz.prog w=.ok (.slice (some ⟨w.heap.size,0,none⟩) n n) (w.alloc (.cells (cn (List.replicate n 0)).toArray 69)):=by
 obtain⟨i,hi,d,c,b⟩:=info_parts vG;subst hL;have hr:=run_make (P:=Tryz.prog) w 26 69 i (.int .u32 0) Tryz.underlying26 hi d k k n n (by omega) (by omega) (by rw[b];omega) (by omega);rw[hr,c,Nat.mul_one,Int.toNat_natCast,←zC]
 rfl
def Ae (w:World) (A:Option Addr):Prop:=∀ a,A=some a→∃ cs,w.heap[a.block]?=some (.cells cs 69 (0,0))
theorem Row.u32 {w:World}{g i:Nat}{l:List Nat}(h:Row w g l):Ae w (some ⟨g,i,none⟩):=fun a e=>by
 cases e;exact⟨_,h⟩
def dU (n m:Nat) (W:World) (e:Ending) (w':World):Prop :=
 ∃ A c l,e=.returned (.slice A l.length c)∧Nv w' A c l∧NatIs l n∧l.length≤m∧Below W.heap.size W w'
theorem r9 (A:Option Addr) (c:Nat) (l:List Nat) (w:World) (h:Rd w A l) (hc:l.length≤c) (hm:l.length≤70368744177664) :
 Calls Tryz.prog 76 #[.slice A l.length c] w fun e w'=>e=.returned (.slice A (cS l l.length) (cS l l.length))∧w=w':=by
 go_enter Tryz.func76,Tryz.ntmps76;go_wp2
 go_loop [3] (fun n=>∃ k:Nat,k≤l.length∧n=.int .i64 k∧Hid (cS l l.length=cS l k)) (fun n=>(intOf n).toNat)
 case atStart=>exact⟨_,Nat.le_refl _,rfl,rfl⟩
 case round =>
  obtain⟨k,hk,rfl,hr⟩:=hrel
  rcases Nat.eq_zero_or_pos k with h0 | h0
  · subst h0;go_wp2;go_ret;refine⟨?_,rfl⟩;rw[hr.out]
    rfl
  · obtain⟨a,d,rfl,hb,b,hd⟩:=h.at (k:=k-1) (by omega)
    by_cases hz:d=0
    · have e1:=Lib.hid (hr.out.trans (oc h0 (hd.out.trans hz)));subst hz;go_wp2
      go_round
      case rel=>exact⟨k-1,by omega,by go_num,e1⟩
      case measure=>simp[intOf];omega
    · have e1:=Lib.hid (hr.out.trans (tB h0 (by rw[hd.out];exact hz)));have f:((d:Int) == 0)=false:=by rw[beq_eq_false_iff_ne];omega
      go_wp2;go_ret;refine⟨?_,rfl⟩;rw[e1.out]
      rfl
theorem fU {g n:Nat}{l:List Nat}{w:World}(h:Row w g l) (hn:l.length=n) (hd:Dig l) (hm:n≤70368744177664) :
 Calls Tryz.prog 76 #[.slice (some ⟨g,0,none⟩) n n] w fun e w'=>∃ l',e=.returned (.slice (some ⟨g,0,none⟩) l'.length l'.length)∧Nv w (some ⟨g,0,none⟩) l'.length l'∧NatIs l' (val l)∧l'.length≤n∧w=w':=by
 subst hn;refine (r9 _ _ _ _ h.rd (Nat.le_refl _) hm).mono ?_;rintro e w' ⟨rfl,rfl⟩;refine⟨trimL l,?_,⟨Nat.le_refl _,by rw[eC];have:=gF l l.length;omega,h.rd.take _,hd.trimL⟩,jP hd,by rw[eC];exact gF _ _,rfl⟩;rw[eC]
theorem jW {A:Option Addr}{c:Nat}{l:List Nat}{w:World}(h:Nv w A c l) :
 Calls Tryz.prog 76 #[.slice A l.length c] w fun e w'=>∃ l',e=.returned (.slice A l'.length l'.length)∧Nv w A l'.length l'∧NatIs l' (val l)∧l'.length≤l.length∧w=w':=by
 refine (r9 _ _ _ _ h.rd h.len h.big).mono ?_;rintro e w' ⟨rfl,rfl⟩;have b:=gF l l.length;refine⟨trimL l,?_,⟨Nat.le_refl _,by rw[eC];have:=h.big;omega,h.rd.take _,h.dig.trimL⟩,jP h.dig,by rw[eC];exact b,rfl⟩;rw[eC]
def gd (l:List Nat):Bool:=decide (cS l l.length=l.length)
theorem cG {B:Nat}{a w:World}(h:Below B a w) (n:Nat):Below B a (w.drewN n):=⟨h.os,h.tape,h.output,h.size,h.block⟩
theorem fI (w:World){cs:Array Value}{l:List Nat}(e:cs=(cn l).toArray):Row (w.alloc (.cells cs 69)) w.heap.size l:=by
 subst e;exact Row.new w l
theorem uJ (x:Nat) (hx:x<pw 2):val [x % 4294967296,x / 4294967296 % 4294967296]=x:=by
 simp only[val,pw] at *
 omega
theorem lM (x:Nat) (w:World) (hx:x<pw 2) :
 Calls Tryz.prog 49 #[.int .u64 (x:Int)] w (dU x 2 w):=by
 have b:=fI w (cs:=#[Value.int IntKind.u32 ((x:Int) % 4294967296),Value.int IntKind.u32 ((x:Int) / 4294967296 % 4294967296)]) (l:=[x % 4294967296,x / 4294967296 % 4294967296]) (by simp[cn]);have hd:Dig [x % 4294967296,x / 4294967296 % 4294967296]:=Dig.cons (by omega) (Dig.cons (by omega) Dig.nil);have hv:=Lib.hid (uJ x hx);clear hx;go_enter Tryz.func49,Tryz.ntmps49;go_wp2_with fail;refine (fU b rfl hd (by simp)).mono ?_;rintro e w' ⟨l',rfl,h1,h2,h3,rfl⟩;go_wp2;go_ret;exact⟨_,_,_,rfl,h1,hv.out ▸ h2,h3,(Below.refl _ _).alloc (Nat.le_refl _) _⟩
theorem rq (d0 d1:Nat) (h0:d0<4294967296) (h1:d1<4294967296):bits .or .u64 ((d1:Int)*4294967296) (d0:Int)=((d0+4294967296*d1:Nat):Int):=by
 have:=u64_or_nat (d1*4294967296) d0 (by omega) (by omega);rw[nat_join 32 _ _ (by simp) (by simpa using h0)] at this;rw[show ((d1:Int)*4294967296)=((d1*4294967296:Nat):Int) by omega,this];omega
theorem xU {l1 l2:List Nat}{m n j j1:Nat}(n1:NatIs l1 m) (n2:NatIs l2 n) (h1:j<l1.length) (h2:j<l2.length) (hj:j1=j+1) (hd:Hid (l1.drop j1=l2.drop j1)) (h:l1.getD j 0<l2.getD j 0):ff m n=-1:=by
 subst hj;exact kj (by rw[←n1.val,←n2.val];exact pH n1.dig h1 h2 hd.out h)
theorem xV {l1 l2:List Nat}{m n j j1:Nat}(n1:NatIs l1 m) (n2:NatIs l2 n) (h1:j<l1.length) (h2:j<l2.length) (hj:j1=j+1) (hd:Hid (l1.drop j1=l2.drop j1)) (h:l2.getD j 0<l1.getD j 0):ff m n=1:=by
 subst hj;exact rI (by rw[←n1.val,←n2.val];exact pH n2.dig h2 h1 hd.out.symm h)
theorem xW {l1 l2:List Nat}{j j1:Nat}(h1:j<l1.length) (h2:j<l2.length) (hj:j1=j+1) (hd:Hid (l1.drop j1=l2.drop j1)) (h:l1.getD j 0=l2.getD j 0):l1.drop j=l2.drop j:=by
 subst hj;exact ut h1 h2 hd.out h
def CS (l1 l2:List Nat) (w:World) (i:Value) (wr:World):Prop :=
 ∃ k:Nat,k≤l1.length∧i=.int .i64 k∧Hid (l1.drop (l1.length-k)=l2.drop (l1.length-k))∧Below w.heap.size w wr
theorem nT {A B:Option Addr}{ca cb:Nat}{la lb:List Nat}{w:World}(ha:Nv w A ca la) (hb:Nv w B cb lb) :
 Calls Tryz.prog 54 #[.slice A la.length ca,.slice B lb.length cb] w fun e w'=>e=.returned (.int .i64 (ff (val la) (val lb)))∧Below w.heap.size w w':=by
 go_enter Tryz.func54,Tryz.ntmps54;go_wp2_with fail;refine (jW ha).mono ?_;rintro e w' ⟨l1,rfl,h1,n1,b1,rfl⟩;go_wp2_with fail;refine (jW hb).mono ?_;rintro e w' ⟨l2,rfl,h2,n2,b2,rfl⟩;clear b1 b2 ha hb;have v:=h1.big;have z:=h2.big
 rcases Nat.lt_trichotomy l1.length l2.length with hl | hl | hl
 · have hf:=Lib.hid (kj (n1.val ▸ n2.val ▸ fP h1.dig n2.canon hl));have l:(((l1.length:Nat):Int) != ((l2.length:Nat):Int))=true:=by rw[bne_iff_ne];omega
   go_wp2;go_ret;refine⟨?_,Below.refl _ _⟩;rw[hf.out];rfl
 · have l:(((l1.length:Nat):Int) != ((l2.length:Nat):Int))=false:=by rw[bne_eq_false_iff_eq];omega
   have o:=Lib.hid hl;have C:l1.length≤l2.length:=by omega
   clear hl;go_wp2
   go_loopw [23] (fun i wr=>CS l1 l2 w i wr) (fun i _=>l1.length-(intOf i).toNat)
   case atStart=>exact⟨0,by omega,rfl,by show l1.drop _=l2.drop _;rw[List.drop_of_length_le (by omega),List.drop_of_length_le (by rw[←o.out];omega)],Below.refl _ _⟩
   case round =>
    obtain⟨k,hk,rfl,hd,c⟩:=hrel
    by_cases hkl:k<l1.length
    · obtain⟨a,d,rfl,q,t,x,g⟩:=(h1.below c).at (k:=l1.length-1-k) (by omega);obtain⟨b,f,rfl,y,r,s,h⟩:=(h2.below c).at (k:=l1.length-1-k) (by omega)
      rcases Nat.lt_trichotomy d f with hdf | hdf | hdf
      · have hf:=Lib.hid (xU (j:=l1.length-1-k) n1 n2 (by omega) (by omega) (by omega) hd (by rw[g.out,h.out];exact hdf));go_wp2
        go_quiet (fail)
        go_wp2;go_ret;refine⟨?_,cG c _⟩;rw[hf.out];rfl
      · subst hdf;have hf:=Lib.hid (xW (j:=l1.length-1-k) (by omega) (by omega) (by omega) hd (by rw[g.out,h.out]));go_wp2
        go_quiet (fail)
        go_wp2
        go_quiet (fail)
        go_wp2;go_roundw
        case rel=>exact⟨k+1,by omega,by go_num,by show l1.drop _=l2.drop _;rw[show l1.length-(k+1)=l1.length-1-k by omega];exact hf.out,cG c _⟩
        case measure=>simp[intOf];omega
      · have hf:=Lib.hid (xV (j:=l1.length-1-k) n1 n2 (by omega) (by omega) (by omega) hd (by rw[g.out,h.out];exact hdf));go_wp2
        go_quiet (fail)
        go_wp2
        go_quiet (fail)
        go_wp2;go_ret;refine⟨?_,cG (cG c _) _⟩;rw[hf.out];rfl
    · have p:=Lib.hid (show l1.length-k=0 by omega)
      have hf:=Lib.hid (vQ (m:=val la) (n:=val lb) (by
       have:=hd.out;rw[p.out,List.drop_zero,List.drop_zero] at this;rw[←n1.val,←n2.val,this]))
      go_wp2;go_ret;refine⟨?_,c⟩;rw[hf.out];rfl
 · have hf:=Lib.hid (rI (n1.val ▸ n2.val ▸ fP h2.dig n1.canon hl));have l:(((l1.length:Nat):Int) != ((l2.length:Nat):Int))=true:=by rw[bne_iff_ne];omega
   go_wp2;go_ret;refine⟨?_,Below.refl _ _⟩;rw[hf.out];rfl
def OwnD (w:World) (base:Nat) (v:Value) (l:List Nat):Prop:=w.ownsRow base 69 1 v l.length (cn l)
theorem OwnD.nil (w:World) (base:Nat):OwnD w base (.slice none 0 0) []:=World.ownsRow_nil w base _ _
theorem OwnD.eq {w:World}{base:Nat}{v:Value}{l l':List Nat}(h:OwnD w base v l) (e:l=l'):OwnD w base v l':=e ▸ h
theorem OwnD.form {w:World}{base:Nat}{v:Value}{l:List Nat}(h:OwnD w base v l):∃ A c,v=.slice A l.length c∧l.length≤c∧Rd w A l:=by
 rcases h.2 with ⟨rfl,h0⟩ | ⟨g,cap,b,rfl,hb,hg,hn,hm,hs,ht⟩
 · have:l=[]:=List.eq_nil_of_length_eq_zero h0;subst this;exact⟨none,0,rfl,by simp,fun hx=>by simp[cn] at hx⟩
 · refine⟨_,cap,rfl,hn,fun hx=>⟨_,rfl,(Array.getElem?_eq_some_iff.1 hg).1,fun j hj=>?_⟩⟩;have h2:w.cell? ⟨g,j,none⟩=(cn l)[j]?:=World.ownsRow.cellAt (n:=l.length) (xs:=cn l) (e:=69) (size:=1) (base:=base) (cap:=cap) ⟨by simp[cn],.inr ⟨g,cap,b,rfl,hb,hg,hn,hm,hs,ht⟩⟩ j (by rw[bu] at hj;omega);rw[bO,h2,List.getElem?_eq_getElem hj]
theorem OwnD.nv {w:World}{base:Nat}{v:Value}{l:List Nat}(h:OwnD w base v l) (hd:Dig l) (hm:l.length≤70368744177664):∃ A c,v=.slice A l.length c∧Nv w A c l:=by
 obtain⟨A,c,e,h1,h2⟩:=h.form;exact⟨A,c,e,h1,hm,h2,hd⟩
theorem OwnD.alloc {w:World}{base:Nat}{v:Value}{l:List Nat}(h:OwnD w base v l) (o:Obj):OwnD (w.alloc o) base v l:=World.ownsRow.alloc h o
theorem OwnD.empty (w:World) (base:Nat) (hb:base≤w.heap.size):OwnD (w.alloc (.cells #[] 69)) base (.slice (some ⟨w.heap.size,0,none⟩) 0 0) [] :=
 World.ownsRow_lit w #[] 0 hb (Nat.zero_le _) rfl
theorem Rd.alloc {w:World}{A:Option Addr}{l:List Nat}(h:Rd w A l) (o:Obj):Rd (w.alloc o) A l:=h.below ((Below.refl _ _).alloc (Nat.le_refl _) o)
theorem OwnD.ret {w W:World}{v:Value}{l:List Nat}{n m:Nat}(h:OwnD w W.heap.size v l) (hn:NatIs l n) (hm:l.length≤m) (hb:Below W.heap.size W w) (h46:l.length≤70368744177664):dU n m W (.returned v) w:=by
 obtain⟨A,c,rfl,hv⟩:=h.nv hn.dig h46;exact⟨A,c,l,rfl,hv,hn,hm,hb⟩
theorem OwnD.grown_below {a w w':World}{B base:Nat}{v:Value}{l:List Nat}(h:OwnD w base v l) (hb:Below B a w) (hg:w.grownBy w' v.ownBlock) (hB:B≤base) (hB2:B≤w.heap.size):Below B a w' :=
 hb.grown hg hB2 (fun k hk=>by have:=(World.ownsRow.lt h k hk).1;omega)
theorem jN {w wr w2:World}{v v':Value}{o:List Nat}{x:Nat}{ob:Obj}(hown:OwnD wr w.heap.size v o) (hbel:Below w.heap.size w wr) (h2:OwnD w2 w.heap.size v' (o++[x])) (hg:(wr.alloc ob).grownBy w2 v.ownBlock):Below w.heap.size w w2 :=
 (hown.alloc ob).grown_below (hbel.alloc hbel.size ob) hg (Nat.le_refl _) (by have:=hbel.size;simp;omega)
section
variable (w:World)
theorem AL (base:Nat) (v:Value) (l:List Nat) (hown:OwnD w base v l) (A:Option Addr) (m c:Nat) (l2:List Nat) (hr:Rd w A l2) (hm:l2.length=m) (h63:l.length+m≤1000000000000) (hbase:base≤w.heap.size) :
 ∃ v' w',(Builtin.append_ #[26,26] 26 #[v,.slice A m c]).run Tryz.prog w=.ok v' w'∧OwnD w' base v' (l++l2)∧w.grownBy w' v.ownBlock:=by
 subst hm;obtain⟨i,hi,f,k,h⟩:=info_parts vG
 by_cases h0:l2=[]
 · subst h0
   rcases A with _ | ad
   · have b:(Builtin.append_ #[26,26] 26 #[v,.slice none 0 c]).run Tryz.prog w=.ok v w:=by
      rcases hown.2 with ⟨rfl,h0⟩ | ⟨g,p,o,rfl,_,_,n,_⟩
      · simp[Builtin.append_,run_underlying Tryz.underlying26,sizeOf,typeInfo,hi,Builtin.lenOf,Builtin.firstCells]
      · simp[Builtin.append_,run_underlying Tryz.underlying26,sizeOf,typeInfo,hi,Builtin.lenOf,Builtin.firstCells,n,storeCells]
     exact⟨v,w,b,hown.eq (by simp),World.grownBy.refl w _⟩
   · obtain⟨v',w',b,h2,h3,_⟩:=run_append_own (P:=Tryz.prog) w base 26 26 69 i (.int .u32 0) 1 4 Tryz.underlying26 hi f k h rfl (by decide) v l.length (cn l) hown ad 0 c [] rfl (by simp) (by simp) (by unfold maxLen;omega) (by omega) hbase;exact⟨v',w',b,by simpa [OwnD] using h2,h3⟩
 · obtain⟨ad,rfl,h1,h2⟩:=hr (by rw[bu];exact List.length_pos_iff.2 h0)
   obtain⟨v',w',b,h4,h5,_⟩:=run_append_own (P:=Tryz.prog) w base 26 26 69 i (.int .u32 0) 1 4 Tryz.underlying26 hi f k h rfl (by decide) v l.length (cn l) hown ad l2.length c (cn l2) (by simp[cn])
    (fun j u hu=>by
     obtain⟨hj,rfl⟩:=List.getElem?_eq_some_iff.1 hu;exact h2 j hj) (by intro u hu;simp[cn] at hu;obtain⟨d,_,rfl⟩:=hu;rfl) (by unfold maxLen;omega) (by omega) hbase
   refine⟨v',w',b,?_,h5⟩;unfold OwnD;rw[rY,List.length_append];exact h4
theorem dY {ops:Array Oper}{rest:List Oper}{o:Oper}{a:Act}{Q:Exit→Act→World→Prop}(hgd:o.guard=none) (hty:o.type=26) (s x:Operand)
 (ho:o.op=.call { callee:=.builtin .append,args:=#[s,x],argTypes:=#[26,26] })
 (base:Nat) (v:Value) (l:List Nat) (hs:a.eval s=v) (hown:OwnD w base v l) (A:Option Addr) (m c:Nat) (l2:List Nat) (hx:a.eval x=.slice A m c) (hr:Rd w A l2) (hm:l2.length=m)
 (h63:l.length+m≤1000000000000) (hbase:base≤w.heap.size)
 (h:∀ v' w',OwnD w' base v' (l++l2)→w.grownBy w' v.ownBlock→wpList Tryz.prog ops Q rest (a.put o.dst v') w'):wpList Tryz.prog ops Q (o::rest) a w:=by
 refine wpList_plain hgd fun K hK=>?_;obtain⟨v',w',b,h2,h3⟩:=AL w base v l hown A m c l2 hr hm h63 hbase
 unfold Oper.wp execOp
 simp only[ho,hty,resolve,invoke,builtin,Sem.run_bind,Sem.run_pure,Result.andThen_ok,List.map_toArray,List.map_cons,List.map_nil,hs,hx,b]
 exact hK _ _ (h v' w' h2 h3)
end
abbrev Only (w w':World) (g:Nat):Prop:=w.grownBy w' (some g)
section
variable {w w' w'':World}{g:Nat}
theorem Only.refl (w:World) (g:Nat):Only w w g:=World.grownBy.refl w _
theorem Only.trans (h:Only w w' g) (k:Only w' w'' g):Only w w'' g :=
 ⟨k.os.trans h.os,k.tape.trans h.tape,k.output.trans h.output,Nat.le_trans h.size k.size,fun i hi hn=>(k.block i (Nat.lt_of_lt_of_le hi h.size) hn).trans (h.block i hi hn)⟩
theorem Only.set (h:Only w w' g) (o:Nat) (u:Value):Only w (w'.setCell ⟨g,o,none⟩ u) g :=
 ⟨h.os,h.tape,h.output,by simpa [World.setCell] using h.size,fun i hi hn=>(Below.heap_setCell w' ⟨g,o,none⟩ u i (by rintro rfl;exact hn rfl)).trans (h.block i hi hn)⟩
theorem Only.drew (h:Only w w' g):Only w w'.drew g:=⟨h.os,h.tape,h.output,h.size,h.block⟩
theorem Only.of_below (h:Below w.heap.size w w') (g:Nat):Only w w' g:=⟨h.os,h.tape,h.output,h.size,fun i hi _=>h.block i hi⟩
theorem Only.to_below {B:Nat}{a:World}(hb:Below B a w) (h:Only w w' g) (hg:B≤g) (hB:B≤w.heap.size):Below B a w' :=
 hb.grown h hB (fun k hk=>by simp at hk;omega)
end
abbrev aZ (neg:Bool) (A:Option Addr) (n c:Nat) (B:Option Addr) (m d:Nat):Value:=.agg #[.bool neg,.slice A n c,.slice B m d]
def Blk (w:World) (g:Nat) (t:TypeId) (cs:Array Value):Prop:=w.heap[g]?=some (.cells cs t (0,0))
section
variable {w w':World}{g:Nat}{t:TypeId}{cs:Array Value}
theorem Blk.lt (h:Blk w g t cs):g<w.heap.size:=by
 rcases Nat.lt_or_ge g w.heap.size with hlt | hge
 · exact hlt
 · unfold Blk at h;rw[Array.getElem?_eq_none hge] at h;cases h
theorem Blk.cell (h:Blk w g t cs) (i:Nat):w.cell? ⟨g,i,none⟩=cs[i]?:=by
 unfold Blk at h
 simp[World.cell?,h]
theorem Blk.free (h:Blk w g t cs) (i:Nat):w.frozen? ⟨g,i,none⟩=false:=by
 unfold Blk at h
 simp[World.frozen?,h]
theorem Blk.new (w:World) (t:TypeId) (cs:Array Value):Blk (w.alloc (.cells cs t)) w.heap.size t cs:=heap_alloc_new w _
theorem Blk.set (h:Blk w g t cs) (i:Nat) (u:Value):Blk (w.setCell ⟨g,i,none⟩ u) g t (cs.setIfInBounds i u):=by
 unfold Blk at h ⊢
 simp[World.setCell,Array.getElem?_modify,h]
theorem Blk.below {B:Nat}(h:Blk w g t cs) (hb:Below B w w') (hg:g<B):Blk w' g t cs:=(hb.block g hg).trans h
theorem Blk.keep (h:Blk w g t cs) (hb:Below w.heap.size w w'):Blk w' g t cs:=h.below hb h.lt
theorem Blk.only {g':Nat}(h:Blk w g t cs) (hb:Only w w' g') (hg:g≠g'):Blk w' g t cs:=(hb.block g h.lt (by simpa using hg)).trans h
end
theorem ag (w:World) (cs:Array Value) (t:TypeId):∃ w0,w.alloc (.cells cs t)=w0∧Below w.heap.size w w0∧w.heap.size<w0.heap.size∧Blk w0 w.heap.size t cs :=
 ⟨_,rfl,(Below.refl _ _).alloc (Nat.le_refl _) _,by simp,Blk.new w t cs⟩
theorem Blk.f0 {w:World}{g:Nat}{t:TypeId}{a b c:Value}(h:Blk w g t #[a,b,c]):w.cell? ⟨g,0,none⟩=some a:=h.cell 0
theorem Blk.f1 {w:World}{g:Nat}{t:TypeId}{a b c:Value}(h:Blk w g t #[a,b,c]):w.cell? ⟨g,1,none⟩=some b:=h.cell 1
theorem Blk.f2 {w:World}{g:Nat}{t:TypeId}{a b c:Value}(h:Blk w g t #[a,b,c]):w.cell? ⟨g,2,none⟩=some c:=h.cell 2
theorem pq {w0 W w3:World}(h:Below w0.heap.size w0 W) (b3:Below W.heap.size W w3):Below w0.heap.size w0 w3:=h.trans (b3.mono h.size)
theorem Blk.set3 {w:World}{g:Nat}{t:TypeId}{a b c:Value}(h:Blk w g t #[a,b,c]) (x y z:Value):∃ w',((w.setCell ⟨g,0,none⟩ x).setCell ⟨g,1,none⟩ y).setCell ⟨g,2,none⟩ z=w'∧Blk w' g t #[x,y,z]∧Only w w' g :=
 ⟨_,rfl,((h.set 0 x).set 1 y).set 2 z,(((Only.refl w g).set 0 x).set 1 y).set 2 z⟩
def jC (l:List Nat):Bool:=decide (l=[])
theorem mh (l:List Nat):(((l.length:Nat):Int) == 0)=jC l:=by
 unfold jC;rw[Bool.eq_iff_iff,beq_iff_eq,decide_eq_true_eq]
 constructor
 · intro h;exact List.eq_nil_of_length_eq_zero (by omega)
 · rintro rfl;rfl
def jE (neg:Bool) (la lb:List Nat):Bool:=gd la&&(gd lb&&(!jC lb&&(!(neg&&jC la)&&decide (Nat.gcd (val la) (val lb)=1))))
theorem vj {l:List Nat}{n:Nat}(h:NatIs l n):decide (l=[1])=decide (n=1):=by
 have h1:NatIs [1] 1:=⟨Dig.cons (by omega) Dig.nil,by simp[Canon],rfl⟩;rw[decide_eq_decide]
 constructor
 · rintro rfl;rw[←h.val];rfl
 · rintro rfl;exact h.uniq h1
theorem eR {l:List Nat}(h:gd l=true):Canon l:=jV (by unfold gd at h;simpa using h)
theorem Di {w w1 w2:World} (h1:Below w.heap.size w w1) (h2:Below w1.heap.size w1 w2):Below w.heap.size w w2:=h1.trans (h2.mono h1.size)
theorem Dj {p:Prop} (h:p):Hid p:=Lib.hid h
abbrev Dk:=@List.getD_eq_getElem?_getD
abbrev Dl:=@List.getElem?_eq_getElem
abbrev Dm:=@List.mem_of_getElem?
abbrev Dn:=@Nat.lt_of_lt_of_le
abbrev Do:=@List.length_replicate
abbrev Dp:=@List.take_of_length_le
abbrev Dq:=@List.getElem?_map
abbrev Dr:=@List.length_map
abbrev Ds:=@Nat.le_trans
abbrev Dt:=@Nat.le_refl
abbrev Du:=@decide_eq_false
abbrev Dv:=@decide_eq_true
abbrev Dw:=@List.length_append
abbrev Dx:=@Nat.mul_le_mul_right
abbrev Dy:=@List.getElem_mem
abbrev Dz:=@List.eq_nil_of_length_eq_zero
abbrev DA:=@List.getElem?_append_right
abbrev DB:=@List.length_take
abbrev DC:=@List.length_drop
abbrev DD:=@List.getElem?_eq_some_iff
abbrev DE:=@List.map_take
abbrev DF:=@List.map_drop
abbrev DG:=@List.getElem?_set
abbrev DH:=@List.length_set
abbrev DI:=@List.getElem?_eq_none
abbrev DJ:=@List.mem_of_mem_take
abbrev DK:=@List.mem_of_mem_drop
abbrev DL:=@List.getElem?_replicate
abbrev DM:=@List.mem_cons_of_mem
abbrev DN:=@List.mem_cons_self
abbrev DO:=@Nat.lt_of_le_of_lt
abbrev DP:=@List.getElem?_append_left
abbrev DQ:=@List.map_append
abbrev DR:=@Nat.pos_of_ne_zero
abbrev DS:=@List.getElem?_range
abbrev DT:=@List.mem_range
abbrev DU:=@List.mem_map
abbrev DW:=@List.getElem?_take
abbrev DX:=@List.getElem?_drop
abbrev DY:=@Below.refl
abbrev D8:=@Nat.zero_le
abbrev D9:=@Blk.cell
abbrev Ea:=@Blk.keep
abbrev Eb:=@Blk.free
abbrev Ec:=@Blk.new
abbrev Eh:=@Only.refl
abbrev Ei:=@Only.of_below
end Go.Proofs.YtjhkapjadfpimaaGreat
