/- Contracts of functions, for the law. -/
import Derived.Test.YtjhkapjadfpimaaProg
import Derived.WalkKit
import Derived.Deep.RegionHeld3
import Derived.WalkSpells
import Derived.WalkLawsBesides
import Derived.Deep.Draws
import Derived.Deep.QuietTactic
import Derived.BigQuiet
import Derived.Deep.DeepCutAuto
import Derived.Deep.CutBlock
import Derived.Deep.DeepFit
import Derived.Lib.Hide
namespace Go.Proofs.Ytjhkapjadfpimaa
set_option linter.unusedVariables false
set_option linter.unusedSimpArgs false
open Go.RowKit
theorem lay:(∀ (a:Act) (d:Nat) (v:Value),a.put (some d) v={ a with tmps:=a.tmps.setIfInBounds d v })∧(∀ (a:Act) (v:Value),a.put none v=a)∧(∀ (l:List Value) (i:Nat) (v:Value),l.toArray.setIfInBounds i v=(l.set i v).toArray)∧(∀ (l:List Bool) (i:Nat) (v:Bool),l.toArray.setIfInBounds i v=(l.set i v).toArray) ∧
 (∀ (x:Value) (l:List Value) (v:Value),(x::l).set 0 v=v::l)∧(∀ (x:Value) (l:List Value) (n:Nat) (v:Value),(x::l).set (n+1) v=x::l.set n v)∧(∀ (x:Bool) (l:List Bool) (v:Bool),(x::l).set 0 v=v::l)∧(∀ (x:Bool) (l:List Bool) (n:Nat) (v:Bool),(x::l).set (n+1) v=x::l.set n v) ∧
 (∀ (l:List Oper) (i:Nat) (h:i<l.toArray.size),l.toArray[i]=l[i]'(by simpa using h))∧(∀ (x:Oper) (l:List Oper) (h:0<(x::l).length),(x::l)[0]=x)∧(∀ (x:Oper) (l:List Oper) (i:Nat) (h:i+1<(x::l).length),(x::l)[i+1]=l[i]'(by simpa using h)) :=
 ⟨fun _ _ _=>rfl,fun _ _=>rfl,fun _ _ _=>by simp,fun _ _ _=>by simp,fun _ _ _=>rfl,fun _ _ _ _=>rfl,fun _ _ _=>rfl,fun _ _ _ _=>rfl,fun _ _ _=>rfl,fun _ _ _=>rfl,fun _ _ _ _=>rfl⟩
section
variable {P:Program}{ops:Array Oper}{Q:Exit→Act→World→Prop}{md:Region.Mode}{S:World→Prop}{fuel:Nat}{listed:Array Bool}{a:Act}{w:World}{oi:Oper}{v:Value}
theorem tkH {a':Act}{l':Array Bool}(i:Nat) (hi:ops[i]?=some oi) (hS:S w) (h:wpAnyH P md ops Q S fuel l' a' w) (hs:Region.noSelect ops=true:=by kernel_rfl) (hf:Region.free md ops listed i=true:=by kernel_rfl) (hr:(Region.ready md ops listed).contains i=true:=by kernel_rfl) (hw:Region.wanted oi (yielded ops a.tmps)=true:=by rfl)
 (hy:∀ w,S w→(execOp a.eval oi).run P w=.ok (.value v) w:=by (intro w hSw;(try dsimp only at hSw);go_simp;all_goals with_reducible rfl)) (hQ:∀ c a w,Q (.panic c) (a.put oi.dst v) w→Q (.panic c) a w:=by exact fun _ _ _ h=>h) (ha:a.put oi.dst v=a':=by ((try simp only[lay]);first | done | rfl)) (hl:listed.setIfInBounds i true=l':=by ((try simp only[lay]);first | done | rfl)):wpAnyH P md ops Q S (fuel+1) listed a w:=by
 subst ha hl
 exact
 wpAnyH_take hi hs hf hr hQ (Or.inl ⟨hw,hy⟩) hS h
theorem tkN {a':Act}{l':Array Bool}(i:Nat) (hi:ops[i]?=some oi) (hS:S w) (h:wpAnyH P md ops Q S fuel l' a' w) (hs:Region.noSelect ops=true:=by kernel_rfl) (hf:Region.free md ops listed i=true:=by kernel_rfl) (hr:(Region.ready md ops listed).contains i=true:=by kernel_rfl) (hw:Region.wanted oi (yielded ops a.tmps)=false:=by kernel_rfl)
 (hQ:∀ c a w,Q (.panic c) (a.put oi.dst undef) w→Q (.panic c) a w:=by exact fun _ _ _ h=>h) (ha:a.put oi.dst undef=a':=by ((try simp only[lay]);first | done | rfl)) (hl:listed.setIfInBounds i true=l':=by ((try simp only[lay]);first | done | rfl)):wpAnyH P md ops Q S (fuel+1) listed a w:=by
 subst ha hl
 exact
 wpAnyH_take hi hs hf hr hQ (Or.inr ⟨hw,rfl⟩) hS h
theorem rdH (i:Nat) (ho:ops[i]?=some oi) (h:∀ K':Act→World→Prop,Shut (∀ a w,S w→(S w→wpAnyH P md ops Q S fuel (listed.setIfInBounds i true) a w)→K' a w)→if Region.wanted oi (yielded ops a.tmps)=true then Oper.wp P oi a w K' Q else K' (a.put oi.dst undef) w)
 (hr:Region.ready md ops listed=[i]:=by kernel_rfl):wpAnyH P md ops Q S (fuel+1) listed a w:=wpAnyH_ready hr (by simp) (AllReadyH.cons ho h AllReadyH.nil)
end
end Go.Proofs.Ytjhkapjadfpimaa
namespace Go.Proofs.Ytjhkapjadfpimaa.Plain
set_option linter.unusedVariables false
set_option linter.unusedSimpArgs false
def val:List Nat→Nat
 | []=>0
 | d::ds=>d+4294967296*val ds
def pw:Nat→Nat
 | 0=>1
 | k+1=>4294967296*pw k
def Dig (l:List Nat):Prop:=∀ d∈l,d<4294967296
theorem pw_pos (k:Nat):0<pw k:=by induction k with
 | zero=>simp[pw]
 | succ k ih=>simp only[pw];omega
theorem pw_add (a b:Nat):pw (a+b)=pw a*pw b:=by
 induction b with
 | zero=>simp[pw]
 | succ b ih=>rw[Nat.add_succ];simp only[pw];rw[ih,Nat.mul_left_comm]
theorem pw_mono {a b:Nat}(h:a≤b):pw a≤pw b:=by
 obtain⟨c,rfl⟩:=Nat.exists_eq_add_of_le h;rw[pw_add];exact Nat.le_mul_of_pos_right _ (pw_pos c)
theorem pw_one:pw 1=4294967296:=rfl
theorem val_nil:val []=0:=rfl
theorem val_append (a b:List Nat):val (a++b)=val a+pw a.length*val b:=by
 induction a with
 | nil=>simp[val,pw]
 | cons d a ih =>
  simp only[List.cons_append,val,List.length_cons,pw,ih,Nat.mul_add,Nat.mul_assoc]
  omega
theorem val_snoc (a:List Nat) (d:Nat):val (a++[d])=val a+pw a.length*d:=by
 rw[val_append];simp[val]
theorem val_replicate (n:Nat):val (List.replicate n 0)=0:=by
 induction n with
 | zero=>rfl
 | succ n ih=>simp[List.replicate_succ,val,ih]
theorem Dig.nil:Dig []:=fun _ h=>by simp at h
theorem Dig.cons {d:Nat}{l:List Nat}(h:d<4294967296) (hl:Dig l):Dig (d::l):=by
 intro x hx
 rcases List.mem_cons.1 hx with rfl | hx
 · exact h
 · exact hl x hx
theorem Dig.head {d:Nat}{l:List Nat}(h:Dig (d::l)):d<4294967296:=h d (by simp)
theorem Dig.tail {d:Nat}{l:List Nat}(h:Dig (d::l)):Dig l:=fun x hx=>h x (by simp[hx])
theorem Dig.append {a b:List Nat}(ha:Dig a) (hb:Dig b):Dig (a++b):=by
 intro x hx
 rcases List.mem_append.1 hx with hx | hx
 · exact ha x hx
 · exact hb x hx
theorem Dig.snoc {a:List Nat}{d:Nat}(ha:Dig a) (hd:d<4294967296):Dig (a++[d]):=ha.append (Dig.cons hd Dig.nil)
theorem Dig.take {a:List Nat}(ha:Dig a) (k:Nat):Dig (a.take k):=fun x hx=>ha x (List.mem_of_mem_take hx)
theorem Dig.drop {a:List Nat}(ha:Dig a) (k:Nat):Dig (a.drop k):=fun x hx=>ha x (List.mem_of_mem_drop hx)
theorem Dig.getD {a:List Nat}(ha:Dig a) (k:Nat):a.getD k 0<4294967296:=by
 by_cases h:k<a.length
 · rw[List.getD_eq_getElem?_getD,List.getElem?_eq_getElem h];exact ha _ (List.getElem_mem h)
 · rw[List.getD_eq_getElem?_getD,List.getElem?_eq_none (by omega)]
   simp
theorem Dig.replicate (n:Nat):Dig (List.replicate n 0):=fun x hx=>by
 have:=List.eq_of_mem_replicate hx;omega
theorem val_lt {l:List Nat}(h:Dig l):val l<pw l.length:=by
 induction l with
 | nil=>simp[val,pw]
 | cons d l ih =>
  have h1:=h.head;have h2:=ih h.tail
  simp only[val,List.length_cons,pw]
  omega
theorem val_inj:∀ {a b:List Nat},Dig a→Dig b→a.length=b.length→val a=val b→a=b
 | [],[],_,_,_,_=>rfl
 | [],_::_,_,_,h,_=>by simp at h
 | _::_,[],_,_,h,_=>by simp at h
 | x::a,y::b,ha,hb,hl,hv=>by
  have h1:=ha.head;have h2:=hb.head
  simp only[val] at hv
  have hxy:x=y:=by omega
  have hv':val a=val b:=by omega
  rw[hxy,val_inj ha.tail hb.tail (by simpa using hl) hv']
theorem take_snoc' (l:List Nat) (k:Nat) (h:k<l.length):l.take (k+1)=l.take k++[l.getD k 0]:=by
 rw[List.take_succ_eq_append_getElem h,List.getD_eq_getElem?_getD,List.getElem?_eq_getElem h];rfl
theorem val_take_succ (l:List Nat) (k:Nat):val (l.take (k+1))=val (l.take k)+pw k*l.getD k 0:=by
 by_cases h:k<l.length
 · rw[take_snoc' l k h,val_snoc,List.length_take,Nat.min_eq_left (by omega)]
 · rw[List.take_of_length_le (by omega),List.take_of_length_le (by omega),List.getD_eq_getElem?_getD,List.getElem?_eq_none (by omega)]
   simp
theorem val_drop (l:List Nat) (k:Nat) (h:k<l.length):val (l.drop k)=l.getD k 0+4294967296*val (l.drop (k+1)):=by
 rw[List.drop_eq_getElem_cons h,val,List.getD_eq_getElem?_getD,List.getElem?_eq_getElem h];rfl
theorem val_take_drop (l:List Nat) (k:Nat) (h:k≤l.length):val (l.take k)+pw k*val (l.drop k)=val l:=by
 have:=val_append (l.take k) (l.drop k);rw[List.take_append_drop,List.length_take,Nat.min_eq_left h] at this;exact this.symm
theorem val_take_ge (l:List Nat) (k:Nat) (h:l.length≤k):val (l.take k)=val l:=by rw[List.take_of_length_le h]
theorem val_take_lt {l:List Nat}(h:Dig l) (k:Nat):val (l.take k)<pw k:=by
 have:=val_lt (h.take k);exact Nat.lt_of_lt_of_le this (pw_mono (by rw[List.length_take];omega))
theorem val_split (l:List Nat) (j:Nat) (h:j<l.length):val l=val (l.take j)+pw j*l.getD j 0+pw (j+1)*val (l.drop (j+1)):=by
 rw[←val_take_succ,val_take_drop l (j+1) (by omega)]
theorem val_lt_at {a b:List Nat}{j:Nat}(ha:Dig a) (h1:j<a.length) (h2:j<b.length) (hd:a.drop (j+1)=b.drop (j+1)) (h:a.getD j 0<b.getD j 0):val a<val b:=by
 rw[val_split a j h1,val_split b j h2,hd];have h3:=val_take_lt ha j;have h4:pw j*(a.getD j 0+1)≤pw j*b.getD j 0:=Nat.mul_le_mul_left _ h;rw[Nat.mul_add,Nat.mul_one] at h4;omega
theorem drop_eq_of {a b:List Nat}{j:Nat}(h1:j<a.length) (h2:j<b.length) (hd:a.drop (j+1)=b.drop (j+1)) (h:a.getD j 0=b.getD j 0):a.drop j=b.drop j:=by
 rw[List.drop_eq_getElem_cons h1,List.drop_eq_getElem_cons h2,hd]
 congr 1
 rw[List.getD_eq_getElem?_getD,List.getD_eq_getElem?_getD,List.getElem?_eq_getElem h1,List.getElem?_eq_getElem h2] at h;exact h
def Canon (l:List Nat):Prop:=l.getLast?≠some 0
def trimN:List Nat→Nat→Nat
 | _,0=>0
 | l,n+1=>if l.getD n 0=0 then trimN l n else n+1
def trimL (l:List Nat):List Nat:=l.take (trimN l l.length)
theorem trimN_step {l:List Nat}{k:Nat}(hk:0<k) (h:l.getD (k-1) 0=0):trimN l k=trimN l (k-1):=by
 obtain⟨n,rfl⟩:∃ n,k=n+1:=⟨k-1,by omega⟩
 simp only[trimN,Nat.add_sub_cancel] at *
 rw[if_pos h]
theorem trimN_stop {l:List Nat}{k:Nat}(hk:0<k) (h:l.getD (k-1) 0≠0):trimN l k=k:=by
 obtain⟨n,rfl⟩:∃ n,k=n+1:=⟨k-1,by omega⟩
 simp only[trimN,Nat.add_sub_cancel] at *
 rw[if_neg h]
theorem trimN_le (l:List Nat) (n:Nat):trimN l n≤n:=by
 induction n with
 | zero=>simp[trimN]
 | succ n ih=>simp only[trimN];split <;> omega
theorem trimN_nz (l : List Nat) (n : Nat) : trimN l n = 0 ∨ l.getD (trimN l n - 1) 0 ≠ 0 := by
  induction n with
  | zero => simp [trimN]
  | succ n ih => simp only [trimN]; split
                 · exact ih
                 · right; simpa using ‹_›
theorem trimN_val (l : List Nat) (n : Nat) : val (l.take (trimN l n)) = val (l.take n) := by
  induction n with
  | zero => simp [trimN]
  | succ n ih => simp only [trimN]; split
                 · rename_i h; rw [ih, val_take_succ, h]; simp
                 · rfl
theorem trimN_ge {l:List Nat}{n k:Nat}(hk:k≤n) (h:k=0∨l.getD (k-1) 0≠0):k≤trimN l n:=by
 induction n with
 | zero=>omega
 | succ n ih =>
  simp only[trimN]
  split
  · rename_i h0
    rcases Nat.lt_or_ge n k with h' | h'
    · have:k=n+1:=by omega
      subst this
      rcases h with h | h
      · omega
      · exact absurd (by simpa using h0) h
    · exact ih h'
  · exact hk
theorem val_trimL (l:List Nat):val (trimL l)=val l:=by
 unfold trimL;rw[trimN_val,List.take_length]
theorem trimL_length (l:List Nat):(trimL l).length=trimN l l.length:=by
 unfold trimL;rw[List.length_take];exact Nat.min_eq_left (trimN_le _ _)
theorem getLast?_take {l:List Nat}{n:Nat}(h:n+1≤l.length):(l.take (n+1)).getLast?=some (l.getD n 0):=by
 rw[take_snoc' l n (by omega)];simp
theorem canon_take {l:List Nat}{n:Nat}(hn:n≤l.length) (h:n=0∨l.getD (n-1) 0≠0):Canon (l.take n):=by
 unfold Canon
 cases n with
 | zero=>simp
 | succ n =>
  rw[getLast?_take hn]
  rcases h with h | h
  · omega
  · simpa using h
theorem canon_trimL (l:List Nat):Canon (trimL l):=canon_take (trimN_le _ _) (trimN_nz _ _)
theorem Dig.trimL {l:List Nat}(h:Dig l):Dig (trimL l):=h.take _
theorem Canon.nil:Canon []:=by simp[Canon]
theorem canon_iff (l:List Nat):Canon l ↔ l.length=0∨l.getD (l.length-1) 0≠0:=by
 unfold Canon
 cases hl:l.length with
 | zero=>simp[List.eq_nil_of_length_eq_zero hl]
 | succ n =>
  have:=getLast?_take (l:=l) (n:=n) (by omega);rw[←hl,List.take_length] at this;rw[this]
  simp
theorem trimN_canon {l:List Nat}(h:Canon l):trimN l l.length=l.length:=by
 have h1:=trimN_le l l.length;have h2:=trimN_ge (l:=l) (n:=l.length) (k:=l.length) (Nat.le_refl _) ((canon_iff l).1 h);omega
theorem canon_of_trimN {l:List Nat}(h:trimN l l.length=l.length):Canon l:=by
 have:=canon_trimL l;unfold trimL at this
 rwa [h,List.take_length] at this
theorem canon_ge {l:List Nat}(h:Canon l) (hl:l≠[]):pw (l.length-1)≤val l:=by
 have h0:l.length≠0:=fun e=>hl (List.eq_nil_of_length_eq_zero e)
 have hz:l.getD (l.length-1) 0≠0:=by
  rcases (canon_iff l).1 h with h1 | h1
  · exact absurd h1 h0
  · exact h1
 have e:val l=val (l.take (l.length-1+1)):=by rw[List.take_of_length_le (by omega)]
 rw[e,val_take_succ];have:pw (l.length-1)*1≤pw (l.length-1)*l.getD (l.length-1) 0:=Nat.mul_le_mul_left _ (by omega);omega
theorem val_lt_of_len {a b:List Nat}(ha:Dig a) (hb:Canon b) (h:a.length<b.length):val a<val b:=by
 have h1:=val_lt ha;have h2:=pw_mono (show a.length≤b.length-1 by omega);have h3:=canon_ge hb (by intro e;subst e;simp at h);omega
def NatIs (l:List Nat) (n:Nat):Prop:=Dig l∧Canon l∧val l=n
theorem NatIs.dig {l:List Nat}{n:Nat}(h:NatIs l n):Dig l:=h.1
theorem NatIs.canon {l:List Nat}{n:Nat}(h:NatIs l n):Canon l:=h.2.1
theorem NatIs.val {l:List Nat}{n:Nat}(h:NatIs l n):val l=n:=h.2.2
theorem NatIs.nil:NatIs [] 0:=⟨Dig.nil,Canon.nil,rfl⟩
theorem natIs_trimL {l:List Nat}(h:Dig l):NatIs (trimL l) (val l):=⟨h.trimL,canon_trimL l,val_trimL l⟩
theorem length_le_of_lt {l:List Nat}{k:Nat}(hc:Canon l) (h:val l<pw k):l.length≤k:=by
 by_cases hn:l=[]
 · subst hn;simp
 · have h1:=canon_ge hc hn
   rcases Nat.lt_or_ge k l.length with h2 | h2
   · have:=pw_mono (show k≤l.length-1 by omega);omega
   · exact h2
theorem NatIs.len_eq {a b:List Nat}{n:Nat}(ha:NatIs a n) (hb:NatIs b n):a.length=b.length:=by
 have h1:=length_le_of_lt (k:=b.length) ha.canon (by rw[ha.val,←hb.val];exact val_lt hb.dig);have h2:=length_le_of_lt (k:=a.length) hb.canon (by rw[hb.val,←ha.val];exact val_lt ha.dig);omega
theorem NatIs.uniq {a b:List Nat}{n:Nat}(ha:NatIs a n) (hb:NatIs b n):a=b :=
 val_inj ha.dig hb.dig (ha.len_eq hb) (by rw[ha.val,hb.val])
theorem NatIs.zero_iff {l:List Nat}{n:Nat}(h:NatIs l n):l=[] ↔ n=0:=by
 constructor
 · rintro rfl;exact h.val.symm
 · rintro rfl;exact h.uniq NatIs.nil
theorem NatIs.pos {l:List Nat}{n:Nat}(h:NatIs l n) (hn:0<n):0<l.length:=by
 rcases Nat.eq_zero_or_pos l.length with h0 | h0
 · have:=(h.zero_iff).1 (List.eq_nil_of_length_eq_zero h0);omega
 · exact h0
def cmpI (m n:Nat):Int:=if m<n then -1 else if n<m then 1 else 0
theorem cmpI_lt {m n:Nat}(h:m<n):cmpI m n=-1:=if_pos h
theorem cmpI_gt {m n:Nat}(h:n<m):cmpI m n=1:=by unfold cmpI;rw[if_neg (by omega),if_pos h]
theorem cmpI_eq {m n:Nat}(h:m=n):cmpI m n=0:=by unfold cmpI;rw[if_neg (by omega),if_neg (by omega)]
theorem cmpI_bd (m n:Nat):-1≤cmpI m n∧cmpI m n≤1:=by
 unfold cmpI
 split
 · omega
 · split <;> omega
theorem cmpI_neg_iff (m n:Nat):cmpI m n<0 ↔ m<n:=by
 unfold cmpI
 split
 · omega
 · split <;> omega
end Go.Proofs.Ytjhkapjadfpimaa.Plain
namespace Go.Proofs.Ytjhkapjadfpimaa
set_option linter.unusedVariables false
set_option linter.unusedSimpArgs false
open Go.RowKit Plain
def At (w:World) (a:Addr) (xs:List Value):Prop:=a.block<w.heap.size∧∀ (j:Nat) (h:j<xs.length),w.cell? (a.add j)=some xs[j]
theorem block_add (a:Addr) (n:Nat):(a.add n).block=a.block:=by unfold Addr.add;split <;> rfl
theorem add_add (a:Addr) (i j:Nat):(a.add i).add j=a.add (i+j):=by
 unfold Addr.add
 by_cases hi:i=0 <;> by_cases hj:j=0 <;> simp[hi,hj,Nat.add_assoc]
theorem cell0 {w:World}{a:Addr}{u:Value}(h:w.cell? (a.add 0)=some u):w.cell? a=some u:=by simpa [Addr.add] using h
theorem cellK {w:World}{a:Addr}{u:Value}{k:Nat}(h:w.cell? (a.add k)=some u) (hk:k≠0):w.cell? ⟨a.block,a.off+k,none⟩=some u:=by simpa [Addr.add,hk] using h
theorem At.below {w w':World}{a:Addr}{xs:List Value}(h:At w a xs) (hb:Below w.heap.size w w'):At w' a xs :=
 ⟨Nat.lt_of_lt_of_le h.1 hb.size,fun j hj=>(hb.cell (by rw[block_add];exact h.1)).trans (h.2 j hj)⟩
def Sl (w:World) (A:Option Addr) (xs:List Value):Prop:=0<xs.length→∃ a,A=some a∧At w a xs
theorem Sl.below {w w':World}{A:Option Addr}{xs:List Value}(h:Sl w A xs) (hb:Below w.heap.size w w'):Sl w' A xs:=fun hx=>by
 obtain⟨a,e,h1⟩:=h hx;exact⟨a,e,h1.below hb⟩
theorem wrap_u64 (n:Int):IntKind.u64.wrap n=n % 18446744073709551616:=by simp[IntKind.wrap,IntKind.bits,IntKind.signed]
theorem wrap_i64_id (n:Int) (h1:0≤n) (h2:n<9223372036854775808):IntKind.i64.wrap n=n:=by rw[IntKind.wrap_i64];omega
theorem mul_le {a b:Nat}(ha:a<4294967296) (hb:b<4294967296):a*b≤18446744065119617025:=Nat.mul_le_mul (show a≤4294967295 by omega) (show b≤4294967295 by omega)
theorem mul_add_fits {a b h c:Nat}(ha:a<4294967296) (hb:b<4294967296) (hh:h<4294967296) (hc:c<4294967296) :
 ∃ p:Nat,Hid (a*b=p)∧p≤18446744065119617025∧IntKind.u64.wrap ((a:Int)*(b:Int))=(p:Int)∧IntKind.u64.wrap ((p:Int)+(h:Int))=(p:Int)+(h:Int)∧IntKind.u64.wrap ((p:Int)+(h:Int)+(c:Int))=(p:Int)+(h:Int)+(c:Int):=by
 have hp:=mul_le ha hb;refine⟨a*b,rfl,hp,?_,?_,?_⟩
 · rw[wrap_u64,←Int.natCast_mul]
   generalize a*b=p at *
   omega
 · rw[wrap_u64]
   generalize a*b=p at *
   omega
 · rw[wrap_u64]
   generalize a*b=p at *
   omega
def u32s (l:List Nat):List Value:=l.map fun d:Nat=>.int .u32 (d:Int)
theorem u32s_length (l:List Nat):(u32s l).length=l.length:=by simp[u32s]
def Rd (w:World) (A:Option Addr) (l:List Nat):Prop:=Sl w A (u32s l)
theorem u32s_append (a b:List Nat):u32s (a++b)=u32s a++u32s b:=by simp[u32s]
theorem u32s_get {l:List Nat}{k:Nat}(h:k<l.length):(u32s l)[k]?=some (.int .u32 ((l.getD k 0:Nat):Int)):=by simp[u32s,List.getElem?_eq_getElem h]
theorem Rd.below {w w':World}{A:Option Addr}{l:List Nat}(h:Rd w A l) (hb:Below w.heap.size w w'):Rd w' A l:=Sl.below h hb
theorem Rd.at {w:World}{A:Option Addr}{l:List Nat}(h:Rd w A l){k:Nat}(hk:k<l.length) :
 ∃ a d,A=some a∧a.block<w.heap.size∧w.cell? (a.add k)=some (.int .u32 ((d:Nat):Int))∧Hid (l.getD k 0=d):=by
 obtain⟨a,e,h1,h2⟩:=h (by rw[u32s_length];omega);refine⟨a,_,e,h1,?_,rfl⟩;rw[h2 k (by rw[u32s_length];exact hk)]
 simp[u32s,List.getElem?_eq_getElem hk]
theorem World.drewN_drewN' (w:World) (a b:Nat):(w.drewN a).drewN b=w.drewN (a+b):=World.drewN_drewN w a b
theorem Rd.take {w:World}{A:Option Addr}{l:List Nat}(h:Rd w A l) (k:Nat):Rd w A (l.take k):=fun hx=>by
 rw[u32s_length,List.length_take] at hx;obtain⟨a,e,h1,h2⟩:=h (by rw[u32s_length];omega);refine⟨a,e,h1,fun j hj=>?_⟩;rw[u32s_length,List.length_take] at hj;rw[h2 j (by rw[u32s_length];omega)]
 simp[u32s]
structure Nv (w:World) (A:Option Addr) (c:Nat) (l:List Nat):Prop where
 len:l.length≤c
 big:l.length≤70368744177664
 rd:Rd w A l
 dig:Dig l
theorem Nv.below {w w':World}{A:Option Addr}{c:Nat}{l:List Nat}(h:Nv w A c l) (hb:Below w.heap.size w w'):Nv w' A c l:=⟨h.len,h.big,h.rd.below hb,h.dig⟩
theorem Nv.at {w:World}{A:Option Addr}{c:Nat}{l:List Nat}(h:Nv w A c l){k:Nat}(hk:k<l.length) :
 ∃ a d,A=some a∧a.block<w.heap.size∧w.cell? (a.add k)=some (.int .u32 ((d:Nat):Int))∧d<4294967296∧Hid (l.getD k 0=d):=by
 obtain⟨a,d,h1,h2,h3,h4⟩:=h.rd.at hk;refine⟨a,d,h1,h2,h3,?_,h4⟩;rw[←h4.out];exact h.dig.getD k
theorem nv_nil' (w:World):Nv w none 0 []:=⟨by simp,by simp,fun hx=>by simp[u32s] at hx,Dig.nil⟩
def Row (w:World) (g:Nat) (l:List Nat):Prop:=w.heap[g]?=some (.cells (u32s l).toArray 72 (0,0))
section
variable {w w':World}{g:Nat}{l:List Nat}
theorem Row.lt (h:Row w g l):g<w.heap.size:=by
 rcases Nat.lt_or_ge g w.heap.size with hlt | hge
 · exact hlt
 · unfold Row at h;rw[Array.getElem?_eq_none hge] at h;cases h
theorem Row.cell (h:Row w g l){i:Nat}(hi:i<l.length):w.cell? ⟨g,i,none⟩=some (.int .u32 ((l.getD i 0:Nat):Int)):=by
 unfold Row at h
 simp only[World.cell?,h]
 have:=u32s_get hi
 simpa using this
theorem Row.cell' (h:Row w g l) (hd:Dig l){i:Nat}(hi:i<l.length):∃ d,w.cell? ⟨g,i,none⟩=some (.int .u32 ((d:Nat):Int))∧d<4294967296∧Hid (l.getD i 0=d) :=
 ⟨_,h.cell hi,hd.getD i,rfl⟩
theorem Row.free (h:Row w g l) (i:Nat):w.frozen? ⟨g,i,none⟩=false:=by
 unfold Row at h
 simp[World.frozen?,h]
theorem Row.set (h:Row w g l) (i d:Nat):Row (w.setCell ⟨g,i,none⟩ (.int .u32 (d:Int))) g (l.set i d):=by
 unfold Row at h ⊢
 simp[World.setCell,Array.getElem?_modify,h,u32s,List.map_set]
theorem Row.keep (h:Row w g l){B:Nat}(hb:Below B w w') (hg:g<B):Row w' g l:=(hb.block g hg).trans h
theorem Row.far (h:Row w g l){p:Addr}(hp:g≠p.block) (u:Value):Row (w.setCell p u) g l:=(Below.heap_setCell w p u g hp).trans h
theorem Row.new (w:World) (l:List Nat):Row (w.alloc (.cells (u32s l).toArray 72)) w.heap.size l:=heap_alloc_new w _
theorem Row.eq (h:Row w g l){l':List Nat}(e:l=l'):Row w g l':=e ▸ h
theorem set_mid (o:List Nat) (d x:Nat) (z:List Nat):(o++d::z).set o.length x=o++x::z:=by
 induction o with
 | nil=>rfl
 | cons y o ih=>simp[ih]
theorem Row.push {o z:List Nat}{d x k:Nat}(h:Row w g (o++d::z)) (hk:o.length=k) (v:Int) (hv:v=(x:Int)):Row (w.setCell ⟨g,k,none⟩ (.int .u32 v)) g ((o++[x])++z):=by
 subst hv hk;exact (h.set o.length x).eq (by rw[set_mid];simp)
theorem rep_succ {n k:Nat}(h:k<n):List.replicate (n-k) 0=(0:Nat)::List.replicate (n-(k+1)) 0:=by
 obtain⟨m,hm⟩:∃ m,n-k=m+1:=⟨n-k-1,by omega⟩;rw[hm,List.replicate_succ,show n-(k+1)=m by omega]
theorem add_zero_ (g i:Nat):(⟨g,0,none⟩:Addr).add i=⟨g,i,none⟩:=by unfold Addr.add;split <;> simp_all
theorem Row.rd (h:Row w g l):Rd w (some ⟨g,0,none⟩) l:=fun hx=>by
 refine⟨_,rfl,h.lt,fun j hj=>?_⟩;rw[u32s_length] at hj;rw[add_zero_,h.cell hj];have:=u32s_get hj;rw[List.getElem?_eq_getElem (by rw[u32s_length];exact hj)] at this;exact this.symm
end
theorem infoU32:(Try.prog.info? 72).map (fun i=>(i.zero,i.size,i.bytes))=some (some (.int .u32 0),1,4):=by kernel_rfl
theorem made_u32 (n:Nat):madeCells #[.int .u32 0] n=(u32s (List.replicate n 0)).toArray:=by
 apply Array.ext'
 rw[toList_madeCells_one]
 simp[u32s]
theorem make_u32 (w:World) (n:Nat) (k:IntKind) (L:Int) (hL:L=(n:Int)) (hn:n≤70368744177664) :
 (Instr.makeSlice 26 (.int k L) (.int k L)).run Try.prog w=.ok (.slice (some ⟨w.heap.size,0,none⟩) n n) (w.alloc (.cells (u32s (List.replicate n 0)).toArray 72)):=by
 obtain⟨i,hi,hz0,hz1,hz2⟩:=info_parts infoU32;subst hL;have hr:=run_make (P:=Try.prog) w 26 72 i (.int .u32 0) Try.underlying26 hi hz0 k k n n (by omega) (by omega) (by rw[hz2];omega) (by omega);rw[hr,hz1,Nat.mul_one,Int.toNat_natCast,←made_u32]
 rfl
def U32Blk (w:World) (A:Option Addr):Prop:=∀ a,A=some a→∃ cs,w.heap[a.block]?=some (.cells cs 72 (0,0))
theorem Row.u32 {w:World}{g i:Nat}{l:List Nat}(h:Row w g l):U32Blk w (some ⟨g,i,none⟩):=fun a e=>by
 cases e;exact⟨_,h⟩
def RetNat (n m:Nat) (W:World) (e:Ending) (w':World):Prop :=
 ∃ A c l,e=.returned (.slice A l.length c)∧Nv w' A c l∧NatIs l n∧l.length≤m∧Below W.heap.size W w'
set_option maxRecDepth 100000 in
set_option maxHeartbeats 400000 in
theorem trim_any (A:Option Addr) (c:Nat) (l:List Nat) (w:World) (h:Rd w A l) (hc:l.length≤c) (hm:l.length≤70368744177664) :
 Calls Try.prog 76 #[.slice A l.length c] w fun e w'=>e=.returned (.slice A (trimN l l.length) (trimN l l.length))∧w=w':=by
 go_enter Try.func76,Try.ntmps76;go_wp2
 go_loop [3] (fun n=>∃ k:Nat,k≤l.length∧n=.int .i64 k∧Hid (trimN l l.length=trimN l k)) (fun n=>(intOf n).toNat)
 case atStart=>exact⟨_,Nat.le_refl _,rfl,rfl⟩
 case round =>
  obtain⟨k,hk,rfl,hr⟩:=hrel
  rcases Nat.eq_zero_or_pos k with h0 | h0
  · subst h0;go_wp2;go_ret;refine⟨?_,rfl⟩;rw[hr.out]
    rfl
  · obtain⟨a,d,rfl,hb,hcell,hd⟩:=h.at (k:=k-1) (by omega)
    by_cases hz:d=0
    · have e1:=Lib.hid (hr.out.trans (trimN_step h0 (hd.out.trans hz)));subst hz;go_wp2
      go_round
      case rel=>exact⟨k-1,by omega,by go_num,e1⟩
      case measure=>simp[intOf];omega
    · have e1:=Lib.hid (hr.out.trans (trimN_stop h0 (by rw[hd.out];exact hz)));have hz':((d:Int) == 0)=false:=by rw[beq_eq_false_iff_ne];omega
      go_wp2;go_ret;refine⟨?_,rfl⟩;rw[e1.out]
      rfl
theorem trim_row {g n:Nat}{l:List Nat}{w:World}(h:Row w g l) (hn:l.length=n) (hd:Dig l) (hm:n≤70368744177664) :
 Calls Try.prog 76 #[.slice (some ⟨g,0,none⟩) n n] w fun e w'=>∃ l',e=.returned (.slice (some ⟨g,0,none⟩) l'.length l'.length)∧Nv w (some ⟨g,0,none⟩) l'.length l'∧NatIs l' (val l)∧l'.length≤n∧w=w':=by
 subst hn;refine (trim_any _ _ _ _ h.rd (Nat.le_refl _) hm).mono ?_;rintro e w' ⟨rfl,rfl⟩;refine⟨trimL l,?_,⟨Nat.le_refl _,by rw[trimL_length];have:=trimN_le l l.length;omega,h.rd.take _,hd.trimL⟩,natIs_trimL hd,by rw[trimL_length];exact trimN_le _ _,rfl⟩;rw[trimL_length]
end Go.Proofs.Ytjhkapjadfpimaa
