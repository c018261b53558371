/- Contracts of functions, for the law. -/
import Derived.Test.YtjhkapjadfpimaaWRef2
import Derived.Test.YtjhkapjadfpimaaWTrim
import Derived.Test.YtjhkapjadfpimaaWGcd
namespace Go.Proofs.Ytjhkapjadfpimaa
set_option linter.unusedVariables false
set_option linter.unusedSimpArgs false
open Go.RowKit Plain
def RSubInv (la lb:List Nat) (w:World) (v c i:Value) (wr:World):Prop :=
 ∃ (k cv:Nat) (o:List Nat),k≤la.length∧i=.int .i64 (k:Int)∧c=.int .u64 (cv:Int)∧cv≤1∧Hid (o.length=k)∧Dig o∧OwnD wr w.heap.size v o ∧
  Hid (val o+val (lb.take k)=val (la.take k)+pw k*cv)∧Below w.heap.size w wr
theorem rsub_digit (da db bv:Nat) (h1:da<4294967296) (h2:db<4294967296) (h3:bv≤1):∃ y c:Nat,y<4294967296∧c≤1∧Hid (y+db+bv=da+4294967296*c) ∧
 Hid ((4294967296+(da:Int)-db-bv) % 4294967296=(y:Int))∧Hid (1-(4294967296+(da:Int)-db-bv) / 4294967296=(c:Int)):=by
 by_cases h:db+bv≤da
 · exact⟨da-db-bv,0,by omega,by omega,by show _=_;omega,by show _=_;omega,by show _=_;omega⟩
 · exact⟨da+4294967296-db-bv,1,by omega,by omega,by show _=_;omega,by show _=_;omega,by show _=_;omega⟩
theorem rsub_fin {la lb o:List Nat}{cv:Nat}(ho:Hid (o.length=la.length)) (hval:Hid (val o+val (lb.take la.length)=val (la.take la.length)+pw la.length*cv)) (hod:Dig o) (had:Dig la) (h:val lb≤val la):val o=val la-val lb:=by
 have h1:=hval.out;rw[val_take_ge _ _ (Nat.le_refl _)] at h1;have h2:=val_lt hod;rw[ho.out] at h2;have h4:=val_lt had
 have h5:val (lb.take la.length)=val lb:=by
  rcases Nat.lt_or_ge la.length lb.length with hl | hl
  · have h6:=val_take_drop lb la.length (by omega)
    rcases Nat.eq_zero_or_pos (val (lb.drop la.length)) with h7 | h7
    · rw[h7] at h6;omega
    · have:pw la.length*1≤pw la.length*val (lb.drop la.length):=Nat.mul_le_mul_left _ h7;omega
  · exact val_take_ge _ _ hl
 rw[h5] at h1
 have h3:cv=0:=by
  rcases Nat.eq_zero_or_pos cv with h0 | h0
  · exact h0
  · have:pw la.length*1≤pw la.length*cv:=Nat.mul_le_mul_left _ h0;omega
 subst h3;omega
set_option maxRecDepth 100000 in
set_option maxHeartbeats 1000000 in
theorem refSub_any (A B:Option Addr) (ca cb:Nat) (la lb:List Nat) (w:World) (ha:Nv w A ca la) (hb:Nv w B cb lb) (hna:la.length≤5000000000) (hnb:lb.length≤5000000000) :
 Calls Try.prog 66 #[.slice A la.length ca,.slice B lb.length cb] w (RetSub (val la) (val lb) la.length w):=by
 go_enter Try.func66,Try.ntmps66;go_wp2_with fail;refine (refCmp_any ha hb hna hnb).mono ?_;rintro e w1 ⟨rfl,rfl⟩
 by_cases hlt:val la<val lb
 · have hc:=Lib.hid (cmpI_lt hlt);rw[hc.out];clear hc;go_wp2
   go_ret2
   refine⟨none,0,[],?_,nv_nil' _,?_,by simp,Below.refl _ _⟩
   · rw[decide_eq_false (show ¬ val lb≤val la by omega)];rfl
   · rw[show val la-val lb=0 by omega];exact NatIs.nil
 · have hc:0≤cmpI (val la) (val lb):=by
    have h:=cmpI_neg_iff (val la) (val lb);omega
   have hc2:=cmpI_bd (val la) (val lb);obtain⟨c,hcc⟩:∃ c,c=cmpI (val la) (val lb):=⟨_,rfl⟩;rw[←hcc] at hc hc2 ⊢;clear hcc;have hlt':=Lib.hid hlt;clear hlt;go_wp2
   go_loopw [6,7,8] (fun v c i wr=>RSubInv la lb w v c i wr) (fun _ _ i _=>la.length-(intOf i).toNat)
   case atStart=>exact⟨0,0,[],by omega,rfl,rfl,by omega,rfl,Dig.nil,OwnD.nil _ _,rfl,Below.refl _ _⟩
   case round =>
    obtain⟨k,cv,o,hk,rfl,rfl,hcv,ho,hod,hown,hval,hbel⟩:=hrel
    by_cases hkn:k<la.length
    · obtain⟨da,hda⟩:∃ d,Hid (la.getD k 0=d):=⟨_,rfl⟩;obtain⟨db,hdb⟩:∃ d,Hid (lb.getD k 0=d):=⟨_,rfl⟩;have hdab:da<4294967296:=hda.out ▸ ha.dig.getD _;have hdbb:db<4294967296:=hdb.out ▸ hb.dig.getD _;obtain⟨y,c2,hy,hc2b,hs,e1,e2⟩:=rsub_digit da db cv hdab hdbb hcv;have hcs:(#[Value.int .u32 ((4294967296+(da:Int)-db-cv) % 4294967296)]:Array Value)=(u32s [y]).toArray:=by rw[e1.out];rfl
      have hrd:=(row_alloc wr hcs).rd;clear hcs;go_wp2_with fail;refine (refDigit_at (i:=k) (ha.below hbel) _ rfl (by omega) hda).mono ?_;rintro e w1 ⟨rfl,rfl⟩;go_wp2_with fail;refine (refDigit_at (i:=k) (hb.below hbel) _ rfl (by omega) hdb).mono ?_;rintro e w1 ⟨rfl,rfl⟩
      go_wp2_with (at_builtin;refine wpList_app _ rfl rfl _ _ rfl w.heap.size _ o rfl (hown.alloc _) (some ⟨wr.heap.size,0,none⟩) 1 1 [y] rfl hrd rfl ?_ ?_ ?_;(rw[ho.out];omega);(have:=hbel.size;simp;omega);intro v' w2 hown2 hgrow2)
      go_roundw
      case rel=>exact⟨k+1,c2,o++[y],by omega,rfl,by rw[←e2.out],by omega,by show (o++[_]).length=k+1;rw[List.length_append,ho.out];rfl,hod.snoc hy,hown2,by
       show val (o++[_])+_=_+pw (k+1)*_
       rw[val_snoc,ho.out,val_take_succ,val_take_succ,pw];exact sub_digit _ _ _ _ _ _ _ _ _ hval.out (by rw[hda.out,hdb.out];exact hs.out),own_snoc hown hbel hown2 hgrow2⟩
      case measure=>simp[intOf];omega
    · obtain rfl:k=la.length:=by omega
      obtain⟨A',c',rfl,hnv⟩:=hown.nv hod (by rw[ho.out];omega);have hv2:=Lib.hid (rsub_fin ho hval hod ha.dig (by have:=hlt'.out;omega));have hld:decide (la.length<la.length)=false:=decide_eq_false (by omega);go_wp2_with fail;refine (refTrim_any hnv (by rw[ho.out];omega)).mono ?_;rintro e w1 ⟨A1,c1,l1,rfl,h1,h2,h3,h4⟩;go_wp2
      go_ret2
      refine⟨A1,c1,l1,?_,h1,hv2.out ▸ h2,by rw[ho.out] at h3;omega,hbel.trans (h4.mono hbel.size)⟩;rw[decide_eq_true (show val lb≤val la by have:=hlt'.out;omega)];rfl
def RScInv (la:List Nat) (d:Nat) (w:World) (v c i:Value) (wr:World):Prop :=
 ∃ (k cv:Nat) (o:List Nat),k≤la.length+1∧i=.int .i64 (k:Int)∧c=.int .u64 (cv:Int)∧cv<4294967296∧Hid (o.length=k)∧Dig o∧OwnD wr w.heap.size v o ∧
  Hid (val o+pw k*cv=val (la.take k)*d)∧Below w.heap.size w wr
theorem rsc_step {la o:List Nat}{k cv d da p:Nat}(ho:Hid (o.length=k)) (hval:Hid (val o+pw k*cv=val (la.take k)*d)) (hda:Hid (la.getD k 0=da)) (hp:Hid (da*d=p)) :
 val (o++[(p+cv) % 4294967296])+pw (k+1)*((p+cv) / 4294967296)=val (la.take (k+1))*d:=by
 rw[val_snoc,ho.out,val_take_succ,hda.out,pw,Nat.add_mul,←hval.out,Nat.mul_assoc (pw k),hp.out]
 have h1:pw k*(p+cv)=pw k*((p+cv) % 4294967296)+4294967296*pw k*((p+cv) / 4294967296):=by
  rw[Nat.mul_comm 4294967296 (pw k),Nat.mul_assoc,←Nat.mul_add,Nat.mod_add_div]
 rw[Nat.mul_add] at h1;omega
theorem rsc_fin {la o:List Nat}{cv d:Nat}(ho:Hid (o.length=la.length+1)) (hval:Hid (val o+pw (la.length+1)*cv=val (la.take (la.length+1))*d)) (had:Dig la) (hd:d<4294967296):val o=val la*d:=by
 have h:=hval.out;rw[val_take_ge _ _ (by omega)] at h;have h3:=val_lt had
 rcases Nat.eq_zero_or_pos cv with h0 | h0
 · subst h0;omega
 · have h5:pw (la.length+1)*1≤pw (la.length+1)*cv:=Nat.mul_le_mul_left _ h0;have h6:val la*d≤pw la.length*4294967296:=Nat.mul_le_mul (by omega) (by omega)
   rcases Nat.eq_zero_or_pos d with hd0 | hd0
   · subst hd0;have:=pw_pos (la.length+1);omega
   · have h7:val la*d<pw la.length*d:=Nat.mul_lt_mul_of_pos_right h3 hd0;have h8:pw la.length*d≤pw la.length*4294967296:=Nat.mul_le_mul_left _ (by omega)
     simp only[pw] at h5 h
     rw[Nat.mul_comm _ 4294967296] at h8;omega
set_option maxRecDepth 100000 in
set_option maxHeartbeats 1000000 in
theorem refScale_any (A:Option Addr) (ca d:Nat) (la:List Nat) (w:World) (ha:Nv w A ca la) (hna:la.length≤5000000000) (hd:d<4294967296) :
 Calls Try.prog 78 #[.slice A la.length ca,.int .u64 (d:Int)] w (RetNat (val la*d) (la.length+1) w):=by
 go_enter Try.func78,Try.ntmps78;go_wp2
 go_loopw [5,6,7] (fun v c i wr=>RScInv la d w v c i wr) (fun _ _ i _=>la.length+1-(intOf i).toNat)
 case atStart=>exact⟨0,0,[],by omega,rfl,rfl,by omega,rfl,Dig.nil,OwnD.nil _ _,by show _=_;simp[val],Below.refl _ _⟩
 case round =>
  obtain⟨k,cv,o,hk,rfl,rfl,hcv,ho,hod,hown,hval,hbel⟩:=hrel
  by_cases hkn:k≤la.length
  · obtain⟨da,hda⟩:∃ d,Hid (la.getD k 0=d):=⟨_,rfl⟩;have hdab:da<4294967296:=hda.out ▸ ha.dig.getD _;obtain⟨p,hp,hpb,hw1,hw2,_⟩:=mul_add_fits (c:=0) hdab hd hcv (by omega);have hstep:=Lib.hid (rsc_step ho hval hda hp);have hcs:(#[Value.int .u32 (((p:Int)+(cv:Int)) % 4294967296)]:Array Value)=(u32s [(p+cv) % 4294967296]).toArray:=by simp[u32s]
    have hrd:=(row_alloc wr hcs).rd;clear hcs;go_wp2_with fail;refine (refDigit_at (i:=k) (ha.below hbel) _ rfl (by omega) hda).mono ?_;rintro e w1 ⟨rfl,rfl⟩
    go_wp2_with (at_builtin;refine wpList_app _ rfl rfl _ _ rfl w.heap.size _ o rfl (hown.alloc _) (some ⟨wr.heap.size,0,none⟩) 1 1 [(p+cv) % 4294967296] rfl hrd rfl ?_ ?_ ?_;(rw[ho.out];omega);(have:=hbel.size;simp;omega);intro v' w2 hown2 hgrow2)
    go_roundw
    case rel=>exact⟨k+1,(p+cv) / 4294967296,o++[(p+cv) % 4294967296],by omega,rfl,rfl,by omega,by show (o++[_]).length=k+1;rw[List.length_append,ho.out];rfl,hod.snoc (Nat.mod_lt _ (by omega)),hown2,hstep.out,own_snoc hown hbel hown2 hgrow2⟩
    case measure=>simp[intOf];omega
  · obtain rfl:k=la.length+1:=by omega
    obtain⟨A',c',rfl,hnv⟩:=hown.nv hod (by rw[ho.out];omega);have hv2:=Lib.hid (rsc_fin ho hval ha.dig hd);have hld:decide (la.length+1≤la.length)=false:=decide_eq_false (by omega);go_wp2_with fail;refine (refTrim_any hnv (by rw[ho.out];omega)).mono ?_;rintro e w1 ⟨A1,c1,l1,rfl,h1,h2,h3,h4⟩;go_wp2;go_ret;exact⟨A1,c1,l1,rfl,h1,hv2.out ▸ h2,by rw[ho.out] at h3;omega,hbel.trans (h4.mono hbel.size)⟩
def RShInv (n:Nat) (w:World) (v i:Value) (wr:World):Prop :=
 ∃ k:Nat,k≤n∧i=.int .i64 (k:Int)∧OwnD wr w.heap.size v (List.replicate k 0)∧Below w.heap.size w wr
theorem rep_len (k:Nat):Hid ((List.replicate k 0:List Nat).length=k):=List.length_replicate
theorem rep_snoc (k:Nat):List.replicate k (0:Nat)++[0]=List.replicate (k+1) 0:=by rw[List.replicate_succ']
set_option maxRecDepth 100000 in
set_option maxHeartbeats 1000000 in
theorem refShift_any (A:Option Addr) (ca n:Nat) (la:List Nat) (w:World) (ha:Nv w A ca la) (hna:la.length≤5000000000) (hn:n≤5000000000) :
 Calls Try.prog 77 #[.slice A la.length ca,.int .i64 (n:Int)] w (RetNat (pw n*val la) (n+la.length) w):=by
 go_enter Try.func77,Try.ntmps77;go_wp2
 go_loopw [5,6] (fun v i wr=>RShInv n w v i wr) (fun _ i _=>n-(intOf i).toNat)
 case atStart=>exact⟨0,by omega,rfl,OwnD.nil _ _,Below.refl _ _⟩
 case round =>
  obtain⟨k,hk,rfl,hown,hbel⟩:=hrel;have hlr:=rep_len k
  by_cases hkn:k<n
  · have hcs:(#[Value.int .u32 0]:Array Value)=(u32s [0]).toArray:=by simp[u32s]
    have hrd:=(row_alloc wr hcs).rd;clear hcs
    go_wp2_with (at_builtin;refine wpList_app _ rfl rfl _ _ rfl w.heap.size _ (List.replicate k 0) rfl (hown.alloc _) (some ⟨wr.heap.size,0,none⟩) 1 1 [0] rfl hrd rfl ?_ ?_ ?_;(rw[hlr.out];omega);(have:=hbel.size;simp;omega);intro v' w2 hown2 hgrow2)
    go_roundw
    case rel=>exact⟨k+1,by omega,rfl,hown2.eq (rep_snoc k),own_snoc hown hbel hown2 hgrow2⟩
    case measure=>simp[intOf];omega
  · obtain rfl:k=n:=by omega
    have hA:=ha.below hbel;have hrd:=hA.rd;have hln:=hA.len;have hd:=Lib.hid (show val (List.replicate k 0++la)=pw k*val la by rw[val_append,val_replicate,hlr.out,Nat.zero_add]);have hll:=Lib.hid (show (List.replicate k 0++la).length=k+la.length by rw[List.length_append,hlr.out]);have hdg:Dig (List.replicate k 0++la):=(Dig.replicate k).append ha.dig
    go_wp2_with (at_builtin;refine wpList_app _ rfl rfl _ _ rfl w.heap.size _ (List.replicate k 0) rfl hown A la.length ca la rfl hrd rfl ?_ ?_ ?_;(rw[hlr.out];omega);(exact hbel.size);intro v' w2 hown2 hgrow2)
    have hbel2:=hown.grown_below hbel hgrow2 (Nat.le_refl _) hbel.size;obtain⟨A',c',rfl,hnv⟩:=hown2.nv hdg (by rw[hll.out];omega);go_wp2_with fail;refine (refTrim_any hnv (by rw[hll.out];omega)).mono ?_;rintro e w1 ⟨A1,c1,l1,rfl,h1,h2,h3,h4⟩;go_wp2;go_ret;exact⟨A1,c1,l1,rfl,h1,hd.out ▸ h2,by rw[hll.out] at h3;omega,hbel2.trans (h4.mono hbel2.size)⟩
def RMulInv (la lb:List Nat) (w:World) (v i:Value) (wr:World):Prop :=
 ∃ (k c:Nat) (A:Option Addr) (l:List Nat),k≤lb.length∧i=.int .i64 (k:Int)∧v=.slice A l.length c∧Nv wr A c l∧Hid (NatIs l (val la*val (lb.take k)))∧l.length≤la.length+k∧Below w.heap.size w wr
theorem rmul_len {la lb l:List Nat}{k:Nat}(ha:Dig la) (hb:Dig lb) (h:NatIs l (val la*val (lb.take k))):l.length≤la.length+k:=by
 refine length_le_of_lt h.canon ?_;rw[h.val,pw_add];exact Nat.mul_lt_mul_of_lt_of_lt (val_lt ha) (val_take_lt hb k)
set_option maxRecDepth 100000 in
set_option maxHeartbeats 1000000 in
theorem refMul_any (A B:Option Addr) (ca cb:Nat) (la lb:List Nat) (w:World) (ha:Nv w A ca la) (hb:Nv w B cb lb) (hna:la.length≤500000000) (hnb:lb.length≤500000000) :
 Calls Try.prog 63 #[.slice A la.length ca,.slice B lb.length cb] w (RetNat (val la*val lb) (la.length+lb.length) w):=by
 go_enter Try.func63,Try.ntmps63;go_wp2
 go_loopw [5,6] (fun v i wr=>RMulInv la lb w v i wr) (fun _ i _=>lb.length-(intOf i).toNat)
 case atStart=>exact⟨0,0,none,[],by omega,rfl,rfl,nv_nil' _,by rw[List.take_zero];exact NatIs.nil,by simp,Below.refl _ _⟩
 case round =>
  obtain⟨k,c,Ao,l,hk,rfl,rfl,hl,hnat,hlen,hbel⟩:=hrel
  by_cases hkn:k<lb.length
  · have hA:=ha.below hbel;obtain⟨a,d,rfl,hab,hac,hda,hga⟩:=(hb.below hbel).at (k:=k) hkn;go_wp2_with fail;refine (refScale_any _ _ d _ _ hA (by omega) hda).mono ?_;rintro e w1 ⟨A1,c1,l1,rfl,n1,i1,h1,b1⟩;have i1':=Lib.hid i1;clear i1;go_wp2_with fail;refine (refShift_any _ _ k _ _ n1 (by omega) (by omega)).mono ?_;rintro e w2 ⟨A2,c2,l2,rfl,n2,i2,h2,b2⟩;have i2':=Lib.hid i2;clear i2;have b02:=hbel.trans ((b1.trans (b2.mono b1.size)).mono hbel.size);go_wp2_with fail;refine (refAdd_any _ _ _ _ _ _ _ ((hl.below b1).below b2) n2 (by omega) (by omega)).mono ?_;rintro e w3 ⟨A3,c3,l3,rfl,n3,i3,h3,b3⟩
    have i3':=Lib.hid (show NatIs l3 (val la*val (lb.take (k+1))) by
     have h:=i3;rw[hnat.out.val,i2'.out.val,i1'.out.val,←hga.out,Nat.mul_left_comm,←Nat.mul_add,←val_take_succ] at h;exact h)
    clear i3 h3;go_wp2;go_roundw
    case rel=>exact⟨k+1,c3,A3,l3,by omega,rfl,rfl,n3,i3',rmul_len ha.dig hb.dig i3'.out,b02.trans (b3.mono b02.size)⟩
    case measure=>simp[intOf];omega
  · obtain rfl:k=lb.length:=by omega
    go_wp2;go_ret;exact⟨Ao,c,l,rfl,hl,by have h:=hnat.out;rw[List.take_length] at h;exact h,hlen,hbel⟩
end Go.Proofs.Ytjhkapjadfpimaa
namespace Go.Proofs.Ytjhkapjadfpimaa
set_option linter.unusedVariables false
set_option linter.unusedSimpArgs false
open Plain
theorem pw_bits (k:Nat):pw k=2 ^ (32*k):=by
 induction k with
 | zero=>rfl
 | succ k ih=>rw[show 32*(k+1)=32*k+32 by omega,Nat.pow_add,←ih,pw_add k 1,pw_one]
theorem val_div_pw {l:List Nat}(hd:Dig l) (j:Nat):val l / pw j=val (l.drop j):=by
 rcases Nat.lt_or_ge l.length j with h | h
 · rw[List.drop_eq_nil_of_le (by omega),val_nil];exact Nat.div_eq_of_lt (Nat.lt_of_lt_of_le (val_lt hd) (pw_mono (by omega)))
 · have h1:=val_take_drop l j h;have h2:=val_take_lt hd j;rw[←h1,Nat.add_mul_div_left _ _ (pw_pos j),Nat.div_eq_of_lt h2,Nat.zero_add]
theorem getD_ge {l:List Nat}{j:Nat}(h:l.length≤j):l.getD j 0=0:=by
 rw[List.getD_eq_getElem?_getD,List.getElem?_eq_none h];rfl
theorem val_drop_any (l:List Nat) (j:Nat):val (l.drop j)=l.getD j 0+4294967296*val (l.drop (j+1)):=by
 rcases Nat.lt_or_ge j l.length with h | h
 · exact val_drop l j h
 · rw[getD_ge h,List.drop_eq_nil_of_le h,List.drop_eq_nil_of_le (by omega)];rfl
theorem div_mod_low (x a b:Nat) (h:a+b≤64):x % 2 ^ 64 / 2 ^ a % 2 ^ b=x / 2 ^ a % 2 ^ b:=by
 rw[show (2:Nat) ^ 64=2 ^ a*2 ^ (64-a) by rw[←Nat.pow_add];congr 1;omega,Nat.mod_mul_right_div_self];exact Nat.mod_mod_of_dvd _ (Nat.pow_dvd_pow 2 (by omega))
theorem div_bits (x i:Nat):x / 2 ^ i=x / pw (i / 32) / 2 ^ (i % 32):=by
 rw[pw_bits,Nat.div_div_eq_div_mul,←Nat.pow_add]
 congr 2
 omega
theorem bit_math {l:List Nat}(hd:Dig l) (i:Nat):l.getD (i / 32) 0 / 2 ^ (i % 32) % 2=val l / 2 ^ i % 2:=by
 have hr:i % 32<32:=Nat.mod_lt _ (by omega);rw[div_bits (val l),val_div_pw hd,val_drop_any];have h1:=div_mod_low (l.getD (i / 32) 0+4294967296*val (l.drop (i / 32+1))) (i % 32) 1 (by omega);have h3:=hd.getD (i / 32)
 generalize hx:l.getD (i / 32) 0=x at *
 generalize val (l.drop (i / 32+1))=y at *
 generalize i % 32=r at *
 rw[show (4294967296:Nat)=2 ^ r*2 ^ (32-r) by rw[←Nat.pow_add,show r+(32-r)=32 by omega],Nat.mul_assoc,Nat.add_mul_div_left _ _ (Nat.two_pow_pos r),show 32-r=(31-r)+1 by omega,Nat.pow_succ,Nat.mul_comm _ 2,Nat.mul_assoc,Nat.add_mul_mod_self_left]
theorem high_math {l:List Nat}(hd:Dig l) (k m:Nat):val l / 2 ^ k / pw m % 4294967296=(l.getD (k / 32+m) 0+4294967296*l.getD (k / 32+m+1) 0) / 2 ^ (k % 32) % 4294967296:=by
 have hr:k % 32<32:=Nat.mod_lt _ (by omega)
 have e1:val l / 2 ^ k / pw m=val (l.drop (k / 32+m)) / 2 ^ (k % 32):=by
  rw[div_bits (val l),Nat.div_div_eq_div_mul,Nat.mul_comm (2 ^ (k % 32)),←Nat.div_div_eq_div_mul,Nat.div_div_eq_div_mul _ (pw (k / 32)),←pw_add,val_div_pw hd]
 rw[e1,val_drop_any,val_drop_any l (k / 32+m+1)];have h2:=hd.getD (k / 32+m);have h3:=hd.getD (k / 32+m+1)
 generalize l.getD (k / 32+m) 0=x at *
 generalize l.getD (k / 32+m+1) 0=y at *
 generalize val (l.drop (k / 32+m+1+1))=z at *
 have h:=div_mod_low (x+4294967296*(y+4294967296*z)) (k % 32) 32 (by omega);rw[show (2:Nat) ^ 32=4294967296 by rfl,show (2:Nat) ^ 64=18446744073709551616 by rfl] at h;rw[←h]
 congr 2
 omega
theorem high_step {o:List Nat}{N m d:Nat}(ho:o.length=m) (hv:val o=N % pw m) (hd:N / pw m % 4294967296=d):val (o++[d])=N % pw (m+1):=by
 rw[val_snoc,ho,hv,←hd,show pw (m+1)=pw m*4294967296 by rw[pw_add,pw_one],Nat.mod_mul]
theorem high_fin {l o:List Nat}{k m:Nat}(hd:Dig l) (hm:l.length≤k / 32+m) (hv:val o=val l / 2 ^ k % pw m):val o=val l / 2 ^ k:=by
 rw[hv]
 apply Nat.mod_eq_of_lt
 rw[div_bits (val l),val_div_pw hd];refine Nat.lt_of_le_of_lt (Nat.div_le_self _ _) (Nat.lt_of_lt_of_le (val_lt (hd.drop _)) (pw_mono ?_));rw[List.length_drop];omega
end Go.Proofs.Ytjhkapjadfpimaa
namespace Go.Proofs.Ytjhkapjadfpimaa
set_option linter.unusedVariables false
set_option linter.unusedSimpArgs false
open Go.RowKit Plain
theorem below_drewN' (w:World) (n:Nat):Below w.heap.size w (w.drewN n):=⟨rfl,rfl,rfl,Nat.le_refl _,fun _ _=>rfl⟩
theorem pow_lt_31 {r:Nat}(h:r<32):(2:Nat) ^ r<4294967296:=Nat.lt_of_lt_of_le (Nat.pow_lt_pow_right (by omega) h) (by decide)
set_option maxRecDepth 100000 in
set_option maxHeartbeats 400000 in
theorem refBit_any {A:Option Addr}{c i:Nat}{l:List Nat}{w:World}(h:Nv w A c l) (hi:i≤1000000000000) :
 Calls Try.prog 84 #[.slice A l.length c,.int .i64 (i:Int)] w fun e w'=>e=.returned (.int .u64 ((val l / 2 ^ i % 2:Nat):Int))∧∃ n,w'=w.drewN n:=by
 have hm:=Lib.hid (bit_math h.dig i);obtain⟨d,hd⟩:∃ d,Hid (l.getD (i / 32) 0=d):=⟨_,rfl⟩;have h3:=Lib.hid (pow_lt_31 (Nat.mod_lt i (show 0<32 by omega)));have hdd:d<4294967296:=hd.out ▸ h.dig.getD _;obtain⟨p,hp,hp1,hp2⟩:∃ p:Nat,Hid (2 ^ (i % 32)=p)∧1≤p∧p<4294967296:=⟨_,rfl,Nat.one_le_two_pow,h3.out⟩;have ht:((i:Int) % 32).toNat=i % 32:=by omega
 have hpi:((2:Int) ^ (i % 32))=(p:Int):=by rw[←hp.out];simp
 have hw:IntKind.u64.wrap (p:Int)=(p:Int):=by rw[wrap_u64];omega
 obtain⟨x,hx,hxx⟩:∃ x:Nat,Hid (d / p=x)∧IntKind.u64.wrap ((d:Int) / (p:Int))=(x:Int):=⟨d / p,rfl,by
  have h1:d / p≤d:=Nat.div_le_self _ _;rw[wrap_u64,←Int.natCast_ediv]
  generalize d / p=x at *
  omega⟩
 go_enter Try.func84,Try.ntmps84;go_wp2
 go_quiet ((go_at_call 79;refine Calls.quiet_of_same ((refDigit_at (i:=i / 32) (h.below (below_drewN' _ _)) ((i:Int) / 32) (by omega) (by omega) hd).mono fun _ _ hh=>⟨hh.1,hh.2.symm⟩)))
 go_wp2;go_ret;refine⟨?_,_,rfl⟩;rw[←hm.out,hd.out,hp.out,hx.out]
 rfl
def RBtInv (l:List Nat) (w:World) (v:Value) (wr:World):Prop:=∃ k n:Nat,k≤32*l.length∧v=.int .i64 (k:Int)∧Hid (val l<2 ^ k)∧wr=w.drewN n
theorem rbits_end {x k:Nat}(h:x<2 ^ k) (hb:k=0∨x / 2 ^ (k-1) % 2=1):bitLen x=k:=by
 rcases Nat.eq_zero_or_pos k with h0 | h0
 · subst h0;rw[Nat.pow_zero] at h;rw[show x=0 by omega];rfl
 · obtain⟨j,rfl⟩:∃ j,k=j+1:=⟨k-1,by omega⟩;rw[Nat.add_sub_cancel] at hb;refine bitLen_eq ?_ h;have h1:x / 2 ^ j≠0:=by omega
   rcases Nat.lt_or_ge x (2 ^ j) with hlt | hge
   · exact absurd (Nat.div_eq_of_lt hlt) h1
   · exact hge
theorem rbits_step {x k:Nat}(h:x<2 ^ (k+1)) (hb:x / 2 ^ k % 2=0):x<2 ^ k:=by
 have h1:x / 2 ^ k<2:=Nat.div_lt_of_lt_mul (by rw[Nat.pow_succ] at h;omega)
 rcases Nat.lt_or_ge x (2 ^ k) with hlt | hge
 · exact hlt
 · have:=Nat.div_pos hge (Nat.two_pow_pos k);omega
set_option maxRecDepth 100000 in
set_option maxHeartbeats 1000000 in
theorem refBits_any {A:Option Addr}{c:Nat}{l:List Nat}{w:World}(h:Nv w A c l) (hl:l.length≤5000000000) :
 Calls Try.prog 81 #[.slice A l.length c] w fun e w'=>e=.returned (.int .i64 ((bitLen (val l):Nat):Int))∧∃ n,w'=w.drewN n:=by
 have hlt:=Lib.hid (show val l<2 ^ (32*l.length) by rw[←pw_bits];exact val_lt h.dig);go_enter Try.func81,Try.ntmps81;go_wp2
 go_loopw [3] (fun v wr=>RBtInv l w v wr) (fun v _=>(intOf v).toNat)
 case atStart=>exact⟨32*l.length,0,Nat.le_refl _,by simp,hlt,rfl⟩
 case round =>
  obtain⟨k,n,hk,rfl,hx,rfl⟩:=hrel
  rcases k with _ | j
  · have hv:=Lib.hid (rbits_end hx.out (.inl rfl));have hd0:decide ((0:Int)<((0:Nat):Int))=false:=by decide
    go_wp2;go_ret;exact⟨by rw[hv.out];rfl,_,rfl⟩
  · have hd0:decide (0<j+1)=true:=by simp
    have hj:((j+1:Nat):Int)-1=(j:Int):=by omega
    obtain⟨b,hb⟩:∃ b,Hid (val l / 2 ^ j % 2=b):=⟨_,rfl⟩;have hb2:b<2:=hb.out ▸ Nat.mod_lt _ (by omega);go_wp2_with fail;refine (refBit_any (i:=j) (h.below (below_drewN' w n)) (by omega)).mono ?_;rintro e w1 ⟨rfl,m,rfl⟩;rw[hb.out]
    rcases (show b=0∨b=1 by omega) with rfl | rfl
    · have hx2:=Lib.hid (rbits_step hx.out hb.out);go_wp2;go_roundw
      case rel=>exact⟨j,n+m,by omega,rfl,hx2,rfl⟩
      case measure=>simp[intOf]
    · have hv:=Lib.hid (rbits_end hx.out (.inr hb.out));go_wp2;go_ret;exact⟨by rw[hv.out];rfl,n+m,rfl⟩
def RHiInv (l:List Nat) (k q:Nat) (w:World) (v i:Value) (wr:World):Prop :=
 ∃ (m:Nat) (o:List Nat),i=.int .i64 ((q+m:Nat):Int)∧(m=0∨q+m≤l.length)∧Hid (o.length=m)∧Dig o∧OwnD wr w.heap.size v o∧Hid (val o=val l / 2 ^ k % pw m)∧Below w.heap.size w wr
set_option maxRecDepth 100000 in
set_option maxHeartbeats 1000000 in
theorem refHigh_any {A:Option Addr}{c k:Nat}{l:List Nat}{w:World}(h:Nv w A c l) (hl:l.length≤5000000000) (hk:k≤1000000000000) :
 Calls Try.prog 82 #[.slice A l.length c,.int .i64 (k:Int)] w (RetNat (val l / 2 ^ k) l.length w):=by
 have h3:=Lib.hid (pow_lt_31 (Nat.mod_lt k (show 0<32 by omega)));obtain⟨p,hp,hp1,hp2⟩:∃ p:Nat,Hid (2 ^ (k % 32)=p)∧1≤p∧p<4294967296:=⟨_,rfl,Nat.one_le_two_pow,h3.out⟩;have ht:((k:Int) % 32).toNat=k % 32:=by omega
 have hpi:((2:Int) ^ (k % 32))=(p:Int):=by rw[←hp.out];simp
 have hw:IntKind.u64.wrap (p:Int)=(p:Int):=by rw[wrap_u64];omega
 obtain⟨q,hq,hkd⟩:∃ q:Nat,Hid (k / 32=q)∧(k:Int) / 32=(q:Int):=⟨k / 32,rfl,by omega⟩;go_enter Try.func82,Try.ntmps82;go_wp2
 go_loopw [5,6] (fun v i wr=>RHiInv l k q w v i wr) (fun _ i _=>l.length-(intOf i).toNat)
 case atStart=>exact⟨0,[],by simp,.inl rfl,rfl,Dig.nil,OwnD.nil _ _,by show _=_;simp[val,pw,Nat.mod_one],Below.refl _ _⟩
 case round =>
  obtain⟨m,o,rfl,hmm,ho,hod,hown,hval,hbel⟩:=hrel;obtain⟨i,hi⟩:∃ i,Hid (q+m=i):=⟨_,rfl⟩;have hm1:m≤l.length:=by omega
  rw[hi.out] at hmm ⊢
  by_cases hlt:i<l.length
  · obtain⟨x,hx⟩:∃ d,Hid (l.getD i 0=d):=⟨_,rfl⟩;obtain⟨y,hy⟩:∃ d,Hid (l.getD (i+1) 0=d):=⟨_,rfl⟩;have hxb:x<4294967296:=hx.out ▸ h.dig.getD _;have hyb:y<4294967296:=hy.out ▸ h.dig.getD _;have hdig:=Lib.hid (high_math h.dig k m);obtain⟨s,hs,hsb,hsi⟩:∃ s:Nat,Hid (x+4294967296*y=s)∧s<18446744073709551616∧(x:Int)+(y:Int)*4294967296=(s:Int):=⟨_,rfl,by omega,by omega⟩;obtain⟨z,hz,hzz,hzb⟩:∃ z:Nat,Hid (s / p=z)∧(s:Int) / (p:Int)=(z:Int)∧z<18446744073709551616:=⟨s / p,rfl,by rw[←Int.natCast_ediv],Nat.lt_of_le_of_lt (Nat.div_le_self _ _) hsb⟩
    have hdg2:=Lib.hid (high_step ho.out hval.out (show val l / 2 ^ k / pw m % 4294967296=z % 4294967296 by
     rw[hdig.out,hq.out,hi.out,hx.out,hy.out,hp.out,hs.out,hz.out]))
    have hcs:(#[Value.int .u32 ((z:Int) % 4294967296)]:Array Value)=(u32s [z % 4294967296]).toArray:=by simp[u32s]
    have hrd:=(row_alloc wr hcs).rd;clear hcs;go_wp2_with fail;refine (refDigit_at (i:=i) (h.below hbel) _ rfl (by omega) hx).mono ?_;rintro e w1 ⟨rfl,rfl⟩;go_wp2_with fail;refine (refDigit_at (i:=i+1) (h.below hbel) _ rfl (by omega) hy).mono ?_;rintro e w1 ⟨rfl,rfl⟩
    go_wp2_with (at_builtin;refine wpList_app _ rfl rfl _ _ rfl w.heap.size _ o rfl (hown.alloc _) (some ⟨wr.heap.size,0,none⟩) 1 1 [z % 4294967296] rfl hrd rfl ?_ ?_ ?_;(rw[ho.out];omega);(have:=hbel.size;simp;omega);intro v' w2 hown2 hgrow2)
    go_roundw
    case rel=>exact⟨m+1,o++[z % 4294967296],by rw[←Nat.add_assoc,hi.out];rfl,.inr (by have:=hi.out;omega),by show (o++[_]).length=m+1;rw[List.length_append,ho.out];rfl,hod.snoc (Nat.mod_lt _ (by omega)),hown2,hdg2,own_snoc hown hbel hown2 hgrow2⟩
    case measure=>simp[intOf];omega
  · obtain⟨A',c',rfl,hnv⟩:=hown.nv hod (by rw[ho.out];omega);have hfin:=Lib.hid (high_fin h.dig (show l.length≤k / 32+m by rw[hq.out,hi.out];omega) hval.out);have hol:m≤l.length:=by omega
    go_wp2_with fail;refine (refTrim_any hnv (by rw[ho.out];omega)).mono ?_;rintro e w1 ⟨A1,c1,l1,rfl,h1,h2,h3,h4⟩;go_wp2;go_ret;exact⟨A1,c1,l1,rfl,h1,hfin.out ▸ h2,by rw[ho.out] at h3;omega,hbel.trans (h4.mono hbel.size)⟩
end Go.Proofs.Ytjhkapjadfpimaa
namespace Go.Proofs.Ytjhkapjadfpimaa
set_option linter.unusedVariables false
set_option linter.unusedSimpArgs false
open Plain
theorem half_step (a j:Nat):a / 2 ^ j=2*(a / 2 ^ (j+1))+a / 2 ^ j % 2:=by
 rw[Nat.pow_succ,←Nat.div_div_eq_div_mul];omega
theorem ldiv_lt {a b Q R Q2 R2 j:Nat}(h:Q*b+R=a / 2 ^ (j+1)) (h2:Q2=Q+Q) (h3:R2=R+R+a / 2 ^ j % 2):Q2*b+R2=a / 2 ^ j:=by
 rw[half_step a j,←h,h2,h3,Nat.add_mul];omega
theorem ldiv_ge {a b Q R Q2 R2 j:Nat}(h:Q*b+R=a / 2 ^ (j+1)) (h2:Q2=Q+Q+1) (h3:R2=R+R+a / 2 ^ j % 2-b) (hb:b≤R+R+a / 2 ^ j % 2):Q2*b+R2=a / 2 ^ j:=by
 rw[half_step a j,←h,h2,h3,Nat.add_mul,Nat.add_mul,Nat.one_mul];omega
theorem ldiv_end {a b Q R:Nat}(h:Q*b+R=a / 2 ^ 0) (hR:R<b):Q=a / b∧R=a % b:=by
 rw[Nat.pow_zero,Nat.div_one] at h;have hb:0<b:=by omega
 subst h;refine⟨?_,?_⟩
 · rw[Nat.add_comm,Nat.add_mul_div_right _ _ hb,Nat.div_eq_of_lt hR,Nat.zero_add]
 · rw[Nat.add_comm,Nat.add_mul_mod_self_right,Nat.mod_eq_of_lt hR]
end Go.Proofs.Ytjhkapjadfpimaa
