/- Contracts of functions, for the law. -/
import Derived.Test.YtjhkapjadfpimaaQ
namespace Go.Proofs.Ytjhkapjadfpimaa
set_option linter.unusedVariables false
set_option linter.unusedSimpArgs false
open Go.RowKit Plain
def NoDig (cs:Array Value):Prop:=∀ (i:Nat) (d:Int),cs[i]?≠some (.int .u32 d)
theorem noDig3 (b:Bool) (A:Option Addr) (n c:Nat) (B:Option Addr) (m d:Nat):NoDig #[.bool b,.slice A n c,.slice B m d]:=fun i x=>by
 match i with
 | 0=>simp
 | 1=>simp
 | 2=>simp
 | i+3=>simp
theorem Nv.only_blk {w w':World}{g:Nat}{t:TypeId}{cs:Array Value}{A:Option Addr}{c:Nat}{l:List Nat}(h:Nv w A c l) (hB:Blk w g t cs) (hd:NoDig cs) (ho:Only w w' g):Nv w' A c l:=by
 refine⟨h.len,h.big,fun hx=>?_,h.dig⟩;obtain⟨a,e,h1,h2⟩:=h.rd hx
 have hne:a.block≠g:=fun hg=>by
  have h3:=h2 0 hx;have hl:0<l.length:=by rw[u32s_length] at hx;exact hx
  unfold Blk at hB
  unfold World.cell? at h3
  rw[block_add,hg,hB] at h3
  simp only at h3
  split at h3
  · cases h3
  · rw[List.getElem_of_eq (show u32s l=u32s l from rfl)] at h3
    simp only[u32s,List.getElem_map] at h3
    exact hd _ _ h3
 have hk:=ho.block a.block h1 (by simpa using hne)
 exact⟨a,e,Nat.lt_of_lt_of_le h1 ho.size,fun j hj=>by
  rw[World.cell?_of_block (w:=w) (by rw[block_add];exact hk)];exact h2 j hj⟩
theorem Blk.same {w:World}{g i:Nat}{t:TypeId}{cs:Array Value}{u:Value}(h:Blk w g t cs) (hi:cs[i]?=some u):w.setCell ⟨g,i,none⟩ u=w:=by
 unfold Blk at h
 have e:cs.setIfInBounds i u=cs:=by
  apply Array.ext_getElem?
  intro j;rw[Array.getElem?_setIfInBounds]
  split
  · rename_i h1
    subst h1
    split
    · exact hi.symm
    · rename_i h2
      rw[Array.getElem?_eq_none (by omega)] at hi
      cases hi
  · rfl
 have hh:(w.setCell ⟨g,i,none⟩ u).heap=w.heap:=by
  unfold World.setCell
  apply Array.ext_getElem?
  intro j;rw[Array.getElem?_modify]
  split
  · rename_i h1
    subst h1;rw[h]
    simp[e]
  · rfl
 unfold World.setCell at hh ⊢
 simp only at hh
 rw[hh]
def Blk3 (w:World) (g:Nat) (t:TypeId):Prop:=∃ b A n c B m d,Blk w g t #[.bool b,.slice A n c,.slice B m d]
theorem Blk.b3 {w:World}{g:Nat}{t:TypeId}{b:Bool}{A:Option Addr}{n c:Nat}{B:Option Addr}{m d:Nat}(h:Blk w g t #[.bool b,.slice A n c,.slice B m d]):Blk3 w g t:=⟨b,A,n,c,B,m,d,h⟩
theorem Blk3.drew {w:World}{g:Nat}{t:TypeId}(h:Blk3 w g t):Blk3 w.drew g t:=h
theorem Blk3.keep {w w':World}{g:Nat}{t:TypeId}(h:Blk3 w g t) (b:Below w.heap.size w w'):Blk3 w' g t:=by
 obtain⟨b',A,n,c,B,m,d,h⟩:=h;exact (h.keep b).b3
theorem Blk3.set {w:World}{g:Nat}{t:TypeId}(h:Blk3 w g t) (b:Bool) (A:Option Addr) (n c:Nat) (B:Option Addr) (m d:Nat):Blk3 (((w.setCell ⟨g,0,none⟩ (.bool b)).setCell ⟨g,1,none⟩ (.slice A n c)).setCell ⟨g,2,none⟩ (.slice B m d)) g t:=by
 obtain⟨b',A',n',c',B',m',d',h⟩:=h;obtain⟨w',e,h',-⟩:=h.set3 (.bool b) (.slice A n c) (.slice B m d);rw[e];exact h'.b3
theorem Nv.alloc {w:World}{A:Option Addr}{c:Nat}{l:List Nat}(h:Nv w A c l) (o:Obj):Nv (w.alloc o) A c l:=h.below ((Below.refl _ _).alloc (Nat.le_refl _) o)
theorem below_set3 {B:Nat}{a w:World}{g:Nat}(h:Below B a w) (hg:B≤g) (x y z:Value):Below B a (((w.setCell ⟨g,0,none⟩ x).setCell ⟨g,1,none⟩ y).setCell ⟨g,2,none⟩ z):=((h.setCell hg x).setCell hg y).setCell hg z
def FV (w:World) (v:Value) (q:Rat):Prop :=
 ∃ (neg:Bool) (A:Option Addr) (ca:Nat) (la:List Nat) (B:Option Addr) (cb:Nat) (lb:List Nat),v=fracV neg A la.length ca B lb.length cb∧Nv w A ca la∧Nv w B cb lb∧QIs neg la lb q
theorem FV.below {w w':World}{v:Value}{q:Rat}(h:FV w v q) (hb:Below w.heap.size w w'):FV w' v q:=by
 obtain⟨neg,A,ca,la,B,cb,lb,e,ha,hb',hq⟩:=h;exact⟨neg,A,ca,la,B,cb,lb,e,ha.below hb,hb'.below hb,hq⟩
theorem FV.only_blk {w w':World}{g:Nat}{t:TypeId}{cs:Array Value}{v:Value}{q:Rat}(h:FV w v q) (hB:Blk w g t cs) (hd:NoDig cs) (ho:Only w w' g):FV w' v q:=by
 obtain⟨neg,A,ca,la,B,cb,lb,e,ha,hb',hq⟩:=h;exact⟨neg,A,ca,la,B,cb,lb,e,ha.only_blk hB hd ho,hb'.only_blk hB hd ho,hq⟩
def RetQ (q:Rat) (W:World) (e:Ending) (w':World):Prop:=∃ v,e=.returned v∧FV w' v q∧Below W.heap.size W w'
def RetQE (q:Rat) (W:World) (e:Ending) (w':World):Prop:=∃ v,e=.returned (.tuple #[v,.int .i64 0])∧FV w' v q∧Below W.heap.size W w'
theorem nat_fits {l:List Nat}{n k:Nat}(h:NatIs l n) (hk:n<pw k):l.length≤k:=length_le_of_lt h.canon (by rw[h.val];exact hk)
theorem QIs.fits {neg:Bool}{la lb:List Nat}{q:Rat}{k:Nat}(h:QIs neg la lb q) (hk:Fits k q):la.length≤k∧lb.length≤k:=⟨nat_fits h.na hk.1,nat_fits h.nb hk.2⟩
theorem QIs.natA {neg:Bool}{la lb:List Nat}{q:Rat}(h:QIs neg la lb q):NatIs la (val la):=by have:=h.na;rw[←this.val] at this;exact this
theorem QIs.den_ne {neg:Bool}{la lb:List Nat}{q:Rat}(h:QIs neg la lb q):val lb≠0:=by rw[h.den];exact q.den_nz
def SmallInv (la:List Nat) (d:Nat) (w:World) (g:Nat) (c i:Value) (wr:World):Prop :=
 ∃ (k r:Nat) (hi:List Nat),k≤la.length∧i=.int .i64 k∧c=.int .u64 r∧r<d∧Hid (hi.length=k)∧Dig hi ∧
  Row wr g (List.replicate (la.length-k) 0++hi)∧Hid (val (la.drop (la.length-k))=val hi*d+r)∧Below w.heap.size w wr
def RetSmall (n d k:Nat) (W:World) (e:Ending) (w':World):Prop :=
 ∃ A c l,e=.returned (.tuple #[.slice A l.length c,.int .u32 ((n % d:Nat):Int)])∧Nv w' A c l∧NatIs l (n / d)∧l.length≤k∧Below W.heap.size W w'∧U32Blk w' A
theorem set_zero_last (n x:Nat) (t:List Nat):(List.replicate (n+1) 0++t).set n x=List.replicate n 0++x::t:=by
 rw[List.replicate_succ',List.append_assoc];have h:=set_mid (List.replicate n 0) 0 x t;rw[List.length_replicate] at h;exact h
theorem small_step {la:List Nat}{d k r da:Nat}{hi:List Nat}{w wr:World}{g:Nat}(hkl:k<la.length) (hr:r<d) (hd2:d<4294967296) (hhi:Hid (hi.length=k)) (hhd:Dig hi) (hda:da<4294967296)
 (hga:Hid (la.getD (la.length-1-k) 0=da)) (hrow:Row wr g (List.replicate (la.length-k) 0++hi)) (hval:Hid (val (la.drop (la.length-k))=val hi*d+r)) (hbel:Below w.heap.size w wr)
 (x r' i':Int) (hx:x=((da:Int)+4294967296*(r:Int)) / (d:Int) % 4294967296) (hr':r'=((da:Int)+4294967296*(r:Int)) % (d:Int)) (hi':i'=(k:Int)+1) (hg:w.heap.size≤g:=by exact Nat.le_refl _) (nq:Nat:=1) :
 SmallInv la d w g (.int .u64 r') (.int .i64 i') ((wr.drewN nq).setCell ⟨g,la.length-1-k,none⟩ (.int .u32 x)):=by
 obtain⟨t,ht⟩:∃ t,t=da+4294967296*r:=⟨_,rfl⟩;have hti:(da:Int)+4294967296*(r:Int)=(t:Int):=by rw[ht];omega
 have htd:t / d<4294967296:=by
  rw[Nat.div_lt_iff_lt_mul (by omega)];have:4294967296*(r+1)≤4294967296*d:=Nat.mul_le_mul_left _ hr;omega
 rw[hti] at hx hr'
 have hx2:x=((t / d:Nat):Int):=by
  rw[hx,←Int.natCast_ediv]
  generalize t / d=q at *
  omega
 have hr2:r'=((t % d:Nat):Int):=by rw[hr',Int.natCast_emod]
 refine⟨k+1,t % d,(t / d)::hi,by omega,by rw[hi'];rfl,by rw[hr2],Nat.mod_lt _ (by omega),?_,Dig.cons htd hhd,?_,?_,(below_drewN hbel nq).setCell hg _⟩
 · show (_::hi).length=k+1
   rw[List.length_cons,hhi.out]
 · obtain⟨m,hm⟩:∃ m,la.length-k=m+1:=⟨la.length-k-1,by omega⟩;have e1:la.length-1-k=m:=by omega
   have e2:la.length-(k+1)=m:=by omega
   have h1:Row (wr.drewN nq) g (List.replicate (m+1) 0++hi):=hrow.eq (by rw[hm]);rw[e1,e2,hx2];exact (h1.set m (t / d)).eq (set_zero_last _ _ _)
 · show val (la.drop (la.length-(k+1)))=_
   have e1:la.length-(k+1)=la.length-1-k:=by omega
   rw[e1,val_drop _ _ (by omega),show la.length-1-k+1=la.length-k by omega,hval.out,hga.out]
   simp only[val]
   have h3:=Nat.div_add_mod t d;rw[Nat.mul_comm] at h3;rw[Nat.add_mul,Nat.mul_add,←Nat.mul_assoc];omega
theorem small_last {la:List Nat}{d r:Nat}{hi:List Nat}(hr:r<d) (hval:Hid (val (la.drop (la.length-la.length))=val hi*d+r)):val hi=val la / d∧r=val la % d:=by
 have h:=hval.out;rw[Nat.sub_self,List.drop_zero] at h
 have h1:val la / d=val hi:=by
  rw[h,Nat.mul_comm,Nat.mul_add_div (by omega),Nat.div_eq_of_lt hr];omega
 have h2:val la % d=r:=by
  rw[h,Nat.mul_comm,Nat.mul_add_mod,Nat.mod_eq_of_lt hr]
 exact⟨h1.symm,h2.symm⟩
set_option maxRecDepth 100000 in
set_option maxHeartbeats 400000 in
theorem small_any (A:Option Addr) (ca d:Nat) (la:List Nat) (w:World) (ha:Nv w A ca la) (hna:la.length≤5000000000) (hd:0<d) (hd2:d<4294967296) :
 Calls Try.prog 93 #[.slice A la.length ca,.int .u32 (d:Int)] w (RetSmall (val la) d la.length w):=by
 have hmk:=make_u32 w la.length .i64 (la.length:Int) (by omega) (by omega);go_enter Try.func93,Try.ntmps93;go_wp2
 go_loopw [7,16] (fun c i wr=>SmallInv la d w w.heap.size c i wr) (fun _ i _=>la.length-(intOf i).toNat)
 case atStart=>exact⟨0,0,[],by omega,rfl,rfl,hd,rfl,Dig.nil,(Row.new _ _).eq (by simp),by show val _=_;simp[val],(Below.refl _ _).alloc (Nat.le_refl _) _⟩
 case round =>
  obtain⟨k,r,hi,hk,rfl,rfl,hr,hhi,hhd,hrow,hval,hbel⟩:=hrel
  by_cases hkl:k<la.length
  · obtain⟨a,da,rfl,hab,hac,hda,hga⟩:=(ha.below hbel).at (k:=la.length-1-k) (by omega);have hor:=or_join da r hda (by omega);have hf:=hrow.free (la.length-1-k);obtain⟨d0,hc0,_,_⟩:=hrow.cell' (i:=la.length-1-k) ((Dig.replicate _).append hhd) (by rw[List.length_append,List.length_replicate,hhi.out];omega);have hne:((d:Int) == 0)=false:=by rw[beq_eq_false_iff_ne];omega
    go_wp2
    go_region
    go_wp2;go_roundw
    case rel=>exact small_step hkl hr hd2 hhi hhd hda hga hrow hval hbel _ _ _ rfl rfl rfl
    case measure=>simp[intOf];omega
  · obtain rfl:k=la.length:=by omega
    have hrow2:Row wr w.heap.size hi:=hrow.eq (by simp);have hfin:=Lib.hid (small_last hr hval);go_wp2_with fail;refine (trim_row hrow2 hhi.out hhd (by omega)).mono ?_;rintro e w2 ⟨l',rfl,h3,h4,h5,rfl⟩;go_wp2
    go_ret2
    refine⟨_,_,l',?_,h3,hfin.out.1 ▸ h4,h5,hbel,hrow2.u32⟩;rw[hfin.out.2];rfl
def ShInv (la:List Nat) (s:Nat) (w:World) (g:Nat) (i:Value) (wr:World):Prop :=
 ∃ (k t:Nat) (o:List Nat),k≤la.length∧i=.int .i64 k∧t<2 ^ s∧Hid (o.length=k)∧Dig o ∧
  Row wr g (o++t::List.replicate (la.length-k) 0)∧Hid (val o+pw k*t=val (la.take k)*2 ^ s)∧Below w.heap.size w wr
def RetSh (la:List Nat) (s:Nat) (W:World) (e:Ending) (w':World):Prop :=
 ∃ l,e=.returned (.slice (some ⟨W.heap.size,0,none⟩) (la.length+1) (la.length+1))∧Row w' W.heap.size l∧Hid (l.length=la.length+1)∧Dig l∧Hid (val l=val la*2 ^ s)∧Below W.heap.size W w'
theorem sh_top {t s:Nat}(ht:t<2 ^ s) (hs:s<32):t<4294967296:=by
 have:2 ^ s≤2 ^ 32:=Nat.pow_le_pow_right (by omega) (by omega)
 simp only[Nat.reducePow] at this
 omega
theorem sh_cell0 {w:World}{g k t n:Nat}{o:List Nat}(hrow:Row w g (o++t::List.replicate n 0)) (ho:Hid (o.length=k)):w.cell? ⟨g,k,none⟩=some (.int .u32 (t:Int)):=by
 have:=hrow.cell (i:=k) (by simp[ho.out]);rw[this,List.getD_eq_getElem?_getD,←ho.out,List.getElem?_append_right (Nat.le_refl _)]
 simp
theorem sh_cell1 {w:World}{g k t n:Nat}{o:List Nat}(hrow:Row w g (o++t::List.replicate (n-k) 0)) (ho:Hid (o.length=k)) (hk:k<n):w.cell? ⟨g,k+1,none⟩=some (.int .u32 (0:Int)):=by
 have:=hrow.cell (i:=k+1) (by simp[ho.out];omega);rw[this,List.getD_eq_getElem?_getD,List.getElem?_append_right (by rw[ho.out];omega),ho.out,rep_succ hk]
 simp
theorem sh_digit (da t s:Nat) (hda:da<4294967296) (ht:t<2 ^ s) (hs:s<32) :
 ∃ x:Nat,Hid (x=da*2 ^ s)∧IntKind.u64.wrap ((da:Int)*2 ^ s)=(x:Int)∧x<9223372036854775808∧bits .or .u32 (t:Int) ((x:Int) % 4294967296)=((t+x % 4294967296:Nat):Int):=by
 have hp:2 ^ s≤2 ^ 31:=Nat.pow_le_pow_right (by omega) (by omega)
 have hx:da*2 ^ s<9223372036854775808:=by
  have h1:da*2 ^ s≤4294967295*2 ^ 31:=Nat.mul_le_mul (by omega) hp
  simp only[Nat.reducePow,Nat.reduceMul] at h1
  omega
 refine⟨da*2 ^ s,rfl,?_,hx,?_⟩
 · have e:((da:Int)*2 ^ s)=((da*2 ^ s:Nat):Int):=by rw[Int.natCast_mul];rfl
   rw[e,wrap_u64]
   generalize da*2 ^ s=x at *
   omega
 · have h2:=u32_or_nat t (da*2 ^ s % 4294967296) (sh_top ht hs) (Nat.mod_lt _ (by omega))
   have h3:da*2 ^ s % 4294967296 % 2 ^ s=0:=by
    have:4294967296=2 ^ s*2 ^ (32-s):=by rw[←Nat.pow_add,show s+(32-s)=32 by omega]
    rw[this,Nat.mod_mul_right_mod,Nat.mul_mod_left]
   rw[show ((da*2 ^ s:Nat):Int) % 4294967296=((da*2 ^ s % 4294967296:Nat):Int) from rfl,h2,Nat.or_comm,nat_join s _ _ h3 ht,Nat.add_comm]
theorem sh_step {la:List Nat}{s da k t x:Nat}{o:List Nat}{w wr:World}{g:Nat}(hkl:k<la.length) (hx:Hid (x=da*2 ^ s)) (ht:t<2 ^ s) (hs:s<32) (ho:Hid (o.length=k)) (hod:Dig o) (hga:Hid (la.getD k 0=da))
 (hxb:x<9223372036854775808) (hrow:Row wr g (o++t::List.replicate (la.length-k) 0)) (hval:Hid (val o+pw k*t=val (la.take k)*2 ^ s)) (hbel:Below w.heap.size w wr)
 (y z i':Int) (hy:y=((t+x % 4294967296:Nat):Int)) (hz:z=(x:Int) / 4294967296) (hi':i'=(k:Int)+1) (hda:da<4294967296:=by assumption) (hg:w.heap.size≤g:=by exact Nat.le_refl _) :
 ShInv la s w g (.int .i64 i') ((wr.setCell ⟨g,k,none⟩ (.int .u32 y)).setCell ⟨g,k+1,none⟩ (.int .u32 z)):=by
 have hxe:=hx.out
 have hsum:t+x % 4294967296<4294967296:=by
  have h4:4294967296=2 ^ s*2 ^ (32-s):=by rw[←Nat.pow_add,show s+(32-s)=32 by omega]
  have h3:x % 4294967296 % 2 ^ s=0:=by rw[hxe,h4,Nat.mod_mul_right_mod,Nat.mul_mod_left]
  have h5:x % 4294967296<2 ^ s*2 ^ (32-s):=by rw[←h4];exact Nat.mod_lt _ (by omega)
  obtain⟨q,hq⟩:∃ q,x % 4294967296=2 ^ s*q:=Nat.dvd_of_mod_eq_zero h3;rw[hq] at h5 ⊢;have h6:=Nat.lt_of_mul_lt_mul_left h5;have h7:2 ^ s*(q+1)≤2 ^ s*2 ^ (32-s):=Nat.mul_le_mul_left _ h6;rw[Nat.mul_add,Nat.mul_one,←h4] at h7;omega
 have hz2:x / 4294967296<2 ^ s:=by
  rw[hxe,Nat.div_lt_iff_lt_mul (by omega),Nat.mul_comm];exact Nat.mul_lt_mul_of_pos_left hda (Nat.two_pow_pos s)
 have hz3:z=((x / 4294967296:Nat):Int):=by rw[hz];omega
 refine⟨k+1,x / 4294967296,o++[t+x % 4294967296],by omega,by rw[hi'];rfl,hz2,?_,hod.snoc hsum,?_,?_,(hbel.setCell hg _).setCell hg _⟩
 · show (o++[_]).length=_
   rw[List.length_append,ho.out];rfl
 · rw[rep_succ hkl] at hrow;have h1:=hrow.push ho.out y hy;have h2:Row (wr.setCell ⟨g,k,none⟩ (.int .u32 y)) g ((o++[t+x % 4294967296])++0::List.replicate (la.length-(k+1)) 0):=h1;exact (h2.push (by rw[List.length_append,ho.out];rfl) z hz3).eq (by simp)
 · show val (o++[_])+pw (k+1)*_=_
   have h1:pw k*x=pw k*(x % 4294967296)+4294967296*pw k*(x / 4294967296):=by
    rw[Nat.mul_comm 4294967296 (pw k),Nat.mul_assoc,←Nat.mul_add,Nat.mod_add_div]
   have h2:pw k*da*2 ^ s=pw k*x:=by rw[hxe,Nat.mul_assoc]
   rw[val_snoc,ho.out,val_take_succ,hga.out,pw,Nat.add_mul,←hval.out,h2,h1,Nat.mul_add];omega
set_option maxRecDepth 100000 in
set_option maxHeartbeats 400000 in
theorem shifted_any (A:Option Addr) (ca s:Nat) (la:List Nat) (w:World) (ha:Nv w A ca la) (hna:la.length≤5000000000) (hs:s<32) :
 Calls Try.prog 94 #[.slice A la.length ca,.int .u64 (s:Int)] w (RetSh la s w):=by
 have hmk:=make_u32 w (la.length+1) .i64 ((la.length:Int)+1) (by omega) (by omega);go_enter Try.func94,Try.ntmps94;go_wp2
 go_loopw [14] (fun i wr=>ShInv la s w w.heap.size i wr) (fun i _=>la.length-(intOf i).toNat)
 case atStart=>exact⟨0,0,[],by omega,rfl,Nat.two_pow_pos s,rfl,Dig.nil,(Row.new _ _).eq (by simp[List.replicate_succ]),by show val _+_=_;simp[val],(Below.refl _ _).alloc (Nat.le_refl _) _⟩
 case round =>
  obtain⟨k,t,o,hk,rfl,ht,ho,hod,hrow,hval,hbel⟩:=hrel
  by_cases hkl:k<la.length
  · obtain⟨a,da,rfl,hab,hac,hda,hga⟩:=(ha.below hbel).at hkl;have hf:=hrow.free k;have hf1:=hrow.free (k+1);have hc0:=sh_cell0 hrow ho;have hc1:=sh_cell1 hrow ho hkl;obtain⟨x,hx,hw,hxb,hor⟩:=sh_digit da t s hda ht hs;go_wp2;go_roundw
    case rel=>exact sh_step hkl hx ht hs ho hod hga hxb hrow hval hbel _ _ _ rfl rfl rfl
    case measure=>simp[intOf];omega
  · obtain rfl:k=la.length:=by omega
    have hrow2:Row wr w.heap.size (o++[t]):=hrow.eq (by simp);have ht2:t<4294967296:=sh_top ht hs;have hfin:=Lib.hid (show val (o++[t])=val la*2 ^ s by rw[val_snoc,ho.out,hval.out,val_take_ge _ _ (Nat.le_refl _)]);have hl2:=Lib.hid (show (o++[t]).length=la.length+1 by rw[List.length_append,ho.out];rfl);go_wp2;go_ret;exact⟨o++[t],rfl,hrow2,hl2,hod.snoc ht2,hfin,hbel⟩
end Go.Proofs.Ytjhkapjadfpimaa
