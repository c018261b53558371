/- Contracts of functions, for the law. -/
import Derived.Test.YtjhkapjadfpimaaRMath
import Derived.Test.YtjhkapjadfpimaaWSub
import Derived.Test.YtjhkapjadfpimaaQ
import Derived.Laws.BytesArg
import Derived.Test.YtjhkapjadfpimaaWTrim
import Derived.Test.YtjhkapjadfpimaaWSmall
import Derived.Deep.RegionHeld3
import Derived.Deep.DrawnRows
namespace Go.Proofs.Ytjhkapjadfpimaa
set_option linter.unusedVariables false
set_option linter.unusedSimpArgs false
open Go.RowKit Plain
theorem below_drewN' (w:World) (n:Nat):Below w.heap.size w (w.drewN n):=⟨rfl,rfl,rfl,Nat.le_refl _,fun _ _=>rfl⟩
theorem pow_lt_31 {r:Nat} (h:r < 32):(2:Nat) ^ r < 4294967296:=Nat.lt_of_lt_of_le (Nat.pow_lt_pow_right (by omega) h) (by decide)
set_option maxRecDepth 100000 in
set_option maxHeartbeats 400000 in
theorem refBit_any {A:Option Addr} {c i:Nat} {l:List Nat} {w:World} (h:Nv w A c l) (hi:i≤1000000000000) :
 Calls Try.prog 84 #[.slice A l.length c,.int .i64 (i:Int)] w fun e w'=>e=.returned (.int .u64 ((val l / 2 ^ i % 2:Nat):Int))∧∃ n,w'=w.drewN n:=by
 have hm:=Lib.hid (bit_math h.dig i);obtain ⟨d,hd⟩:∃ d,Hid (l.getD (i / 32) 0=d):=⟨_,rfl⟩;have h3:=Lib.hid (pow_lt_31 (Nat.mod_lt i (show 0 < 32 by omega)));have hdd:d < 4294967296:=hd.out ▸ h.dig.getD _;obtain ⟨p,hp,hp1,hp2⟩:∃ p:Nat,Hid (2 ^ (i % 32)=p)∧1≤p∧p < 4294967296:=⟨_,rfl,Nat.one_le_two_pow,h3.out⟩;have ht:((i:Int) % 32).toNat=i % 32:=by omega
 have hpi:((2:Int) ^ (i % 32))=(p:Int):=by rw [←hp.out];simp
 have hw:IntKind.u64.wrap (p:Int)=(p:Int):=by rw [wrap_u64];omega
 obtain ⟨x,hx,hxx⟩:∃ x:Nat,Hid (d / p=x)∧IntKind.u64.wrap ((d:Int) / (p:Int))=(x:Int):=⟨d / p,rfl,by
  have h1:d / p≤d:=Nat.div_le_self _ _;rw [wrap_u64,←Int.natCast_ediv]
  generalize d / p=x at *
  omega⟩
 go_enter Try.func84,Try.ntmps84;go_wp2
 go_quiet ((go_at_call 79;refine Calls.quiet_of_same ((refDigit_at (i:=i / 32) (h.below (below_drewN' _ _)) ((i:Int) / 32) (by omega) (by omega) hd).mono fun _ _ hh=>⟨hh.1,hh.2.symm⟩)))
 go_wp2;go_ret;refine ⟨?_,_,rfl⟩;rw [←hm.out,hd.out,hp.out,hx.out]
 rfl
def RBtInv (l:List Nat) (w:World) (v:Value) (wr:World):Prop:=∃ k n:Nat,k≤32*l.length∧v=.int .i64 (k:Int)∧Hid (val l < 2 ^ k)∧wr=w.drewN n
theorem rbits_end {x k:Nat} (h:x < 2 ^ k) (hb:k=0∨x / 2 ^ (k - 1) % 2=1):bitLen x=k:=by
 rcases Nat.eq_zero_or_pos k with h0 | h0
 · subst h0;rw [Nat.pow_zero] at h;rw [show x=0 by omega];rfl
 · obtain ⟨j,rfl⟩:∃ j,k=j+1:=⟨k - 1,by omega⟩;rw [Nat.add_sub_cancel] at hb;refine bitLen_eq ?_ h;have h1:x / 2 ^ j≠0:=by omega
   rcases Nat.lt_or_ge x (2 ^ j) with hlt | hge
   · exact absurd (Nat.div_eq_of_lt hlt) h1
   · exact hge
theorem rbits_step {x k:Nat} (h:x < 2 ^ (k+1)) (hb:x / 2 ^ k % 2=0):x < 2 ^ k:=by
 have h1:x / 2 ^ k < 2:=Nat.div_lt_of_lt_mul (by rw [Nat.pow_succ] at h;omega)
 rcases Nat.lt_or_ge x (2 ^ k) with hlt | hge
 · exact hlt
 · have:=Nat.div_pos hge (Nat.two_pow_pos k);omega
set_option maxRecDepth 100000 in
set_option maxHeartbeats 1000000 in
theorem refBits_any {A:Option Addr} {c:Nat} {l:List Nat} {w:World} (h:Nv w A c l) (hl:l.length≤5000000000) :
 Calls Try.prog 81 #[.slice A l.length c] w fun e w'=>e=.returned (.int .i64 ((bitLen (val l):Nat):Int))∧∃ n,w'=w.drewN n:=by
 have hlt:=Lib.hid (show val l < 2 ^ (32*l.length) by rw [←pw_bits];exact val_lt h.dig);go_enter Try.func81,Try.ntmps81;go_wp2
 go_loopw [3] (fun v wr=>RBtInv l w v wr) (fun v _=>(intOf v).toNat)
 case atStart=>exact ⟨32*l.length,0,Nat.le_refl _,by simp,hlt,rfl⟩
 case round =>
  obtain ⟨k,n,hk,rfl,hx,rfl⟩:=hrel
  rcases k with _ | j
  · have hv:=Lib.hid (rbits_end hx.out (.inl rfl));have hd0:decide ((0:Int) < ((0:Nat):Int))=false:=by decide
    go_wp2;go_ret;exact ⟨by rw [hv.out];rfl,_,rfl⟩
  · have hd0:decide (0 < j+1)=true:=by simp
    have hj:((j+1:Nat):Int) - 1=(j:Int):=by omega
    obtain ⟨b,hb⟩:∃ b,Hid (val l / 2 ^ j % 2=b):=⟨_,rfl⟩;have hb2:b < 2:=hb.out ▸ Nat.mod_lt _ (by omega);go_wp2_with fail;refine (refBit_any (i:=j) (h.below (below_drewN' w n)) (by omega)).mono ?_;rintro e w1 ⟨rfl,m,rfl⟩;rw [hb.out]
    rcases (show b=0∨b=1 by omega) with rfl | rfl
    · have hx2:=Lib.hid (rbits_step hx.out hb.out);go_wp2;go_roundw
      case rel=>exact ⟨j,n+m,by omega,rfl,hx2,rfl⟩
      case measure=>simp [intOf]
    · have hv:=Lib.hid (rbits_end hx.out (.inr hb.out));go_wp2;go_ret;exact ⟨by rw [hv.out];rfl,n+m,rfl⟩
def RHiInv (l:List Nat) (k q:Nat) (w:World) (v i:Value) (wr:World):Prop :=
 ∃ (m:Nat) (o:List Nat),i=.int .i64 ((q+m:Nat):Int)∧(m=0∨q+m≤l.length)∧Hid (o.length=m)∧Dig o∧OwnD wr w.heap.size v o∧Hid (val o=val l / 2 ^ k % pw m)∧Below w.heap.size w wr
set_option maxRecDepth 100000 in
set_option maxHeartbeats 1000000 in
theorem refHigh_any {A:Option Addr} {c k:Nat} {l:List Nat} {w:World} (h:Nv w A c l) (hl:l.length≤5000000000) (hk:k≤1000000000000) :
 Calls Try.prog 82 #[.slice A l.length c,.int .i64 (k:Int)] w (RetNat (val l / 2 ^ k) l.length w):=by
 have h3:=Lib.hid (pow_lt_31 (Nat.mod_lt k (show 0 < 32 by omega)));obtain ⟨p,hp,hp1,hp2⟩:∃ p:Nat,Hid (2 ^ (k % 32)=p)∧1≤p∧p < 4294967296:=⟨_,rfl,Nat.one_le_two_pow,h3.out⟩;have ht:((k:Int) % 32).toNat=k % 32:=by omega
 have hpi:((2:Int) ^ (k % 32))=(p:Int):=by rw [←hp.out];simp
 have hw:IntKind.u64.wrap (p:Int)=(p:Int):=by rw [wrap_u64];omega
 obtain ⟨q,hq,hkd⟩:∃ q:Nat,Hid (k / 32=q)∧(k:Int) / 32=(q:Int):=⟨k / 32,rfl,by omega⟩;go_enter Try.func82,Try.ntmps82;go_wp2
 go_loopw [5,6] (fun v i wr=>RHiInv l k q w v i wr) (fun _ i _=>l.length - (intOf i).toNat)
 case atStart=>exact ⟨0,[],by simp,.inl rfl,rfl,Dig.nil,OwnD.nil _ _,by show _=_;simp [val,pw,Nat.mod_one],Below.refl _ _⟩
 case round =>
  obtain ⟨m,o,rfl,hmm,ho,hod,hown,hval,hbel⟩:=hrel;obtain ⟨i,hi⟩:∃ i,Hid (q+m=i):=⟨_,rfl⟩;have hm1:m≤l.length:=by omega
  rw [hi.out] at hmm ⊢
  by_cases hlt:i < l.length
  · obtain ⟨x,hx⟩:∃ d,Hid (l.getD i 0=d):=⟨_,rfl⟩;obtain ⟨y,hy⟩:∃ d,Hid (l.getD (i+1) 0=d):=⟨_,rfl⟩;have hxb:x < 4294967296:=hx.out ▸ h.dig.getD _;have hyb:y < 4294967296:=hy.out ▸ h.dig.getD _;have hdig:=Lib.hid (high_math h.dig k m);obtain ⟨s,hs,hsb,hsi⟩:∃ s:Nat,Hid (x+4294967296*y=s)∧s < 18446744073709551616∧(x:Int)+(y:Int)*4294967296=(s:Int):=⟨_,rfl,by omega,by omega⟩;obtain ⟨z,hz,hzz,hzb⟩:∃ z:Nat,Hid (s / p=z)∧(s:Int) / (p:Int)=(z:Int)∧z < 18446744073709551616:=⟨s / p,rfl,by rw [←Int.natCast_ediv],Nat.lt_of_le_of_lt (Nat.div_le_self _ _) hsb⟩
    have hdg2:=Lib.hid (high_step ho.out hval.out (show val l / 2 ^ k / pw m % 4294967296=z % 4294967296 by
     rw [hdig.out,hq.out,hi.out,hx.out,hy.out,hp.out,hs.out,hz.out]))
    have hcs:(#[Value.int .u32 ((z:Int) % 4294967296)]:Array Value)=(u32s [z % 4294967296]).toArray:=by simp [u32s]
    have hrd:=(row_alloc wr hcs).rd;clear hcs;go_wp2_with fail;refine (refDigit_at (i:=i) (h.below hbel) _ rfl (by omega) hx).mono ?_;rintro e w1 ⟨rfl,rfl⟩;go_wp2_with fail;refine (refDigit_at (i:=i+1) (h.below hbel) _ rfl (by omega) hy).mono ?_;rintro e w1 ⟨rfl,rfl⟩
    go_wp2_with (at_builtin;refine wpList_app _ rfl rfl _ _ rfl w.heap.size _ o rfl (hown.alloc _) (some ⟨wr.heap.size,0,none⟩) 1 1 [z % 4294967296] rfl hrd rfl ?_ ?_ ?_;(rw [ho.out];omega);(have:=hbel.size;simp;omega);intro v' w2 hown2 hgrow2)
    go_roundw
    case rel=>exact ⟨m+1,o ++ [z % 4294967296],by rw [←Nat.add_assoc,hi.out];rfl,.inr (by have:=hi.out;omega),by show (o ++ [_]).length=m+1;rw [List.length_append,ho.out];rfl,hod.snoc (Nat.mod_lt _ (by omega)),hown2,hdg2,own_snoc hown hbel hown2 hgrow2⟩
    case measure=>simp [intOf];omega
  · obtain ⟨A',c',rfl,hnv⟩:=hown.nv hod (by rw [ho.out];omega);have hfin:=Lib.hid (high_fin h.dig (show l.length≤k / 32+m by rw [hq.out,hi.out];omega) hval.out);have hol:m≤l.length:=by omega
    go_wp2_with fail;refine (refTrim_any hnv (by rw [ho.out];omega)).mono ?_;rintro e w1 ⟨A1,c1,l1,rfl,h1,h2,h3,h4⟩;go_wp2;go_ret;exact ⟨A1,c1,l1,rfl,h1,hfin.out ▸ h2,by rw [ho.out] at h3;omega,hbel.trans (h4.mono hbel.size)⟩
end Go.Proofs.Ytjhkapjadfpimaa
namespace Go.Proofs.Ytjhkapjadfpimaa
set_option linter.unusedVariables false
set_option linter.unusedSimpArgs false
open Plain
theorem half_step (a j:Nat):a / 2 ^ j=2*(a / 2 ^ (j+1))+a / 2 ^ j % 2:=by
 rw [Nat.pow_succ,←Nat.div_div_eq_div_mul];omega
theorem ldiv_lt {a b Q R Q2 R2 j:Nat} (h:Q*b+R=a / 2 ^ (j+1)) (h2:Q2=Q+Q) (h3:R2=R+R+a / 2 ^ j % 2):Q2*b+R2=a / 2 ^ j:=by
 rw [half_step a j,←h,h2,h3,Nat.add_mul];omega
theorem ldiv_ge {a b Q R Q2 R2 j:Nat} (h:Q*b+R=a / 2 ^ (j+1)) (h2:Q2=Q+Q+1) (h3:R2=R+R+a / 2 ^ j % 2 - b) (hb:b≤R+R+a / 2 ^ j % 2):Q2*b+R2=a / 2 ^ j:=by
 rw [half_step a j,←h,h2,h3,Nat.add_mul,Nat.add_mul,Nat.one_mul];omega
theorem ldiv_end {a b Q R:Nat} (h:Q*b+R=a / 2 ^ 0) (hR:R < b):Q=a / b∧R=a % b:=by
 rw [Nat.pow_zero,Nat.div_one] at h;have hb:0 < b:=by omega
 subst h;refine ⟨?_,?_⟩
 · rw [Nat.add_comm,Nat.add_mul_div_right _ _ hb,Nat.div_eq_of_lt hR,Nat.zero_add]
 · rw [Nat.add_comm,Nat.add_mul_mod_self_right,Nat.mod_eq_of_lt hR]
end Go.Proofs.Ytjhkapjadfpimaa
namespace Go.Proofs.Ytjhkapjadfpimaa
set_option linter.unusedVariables false
set_option linter.unusedSimpArgs false
open Go.RowKit Plain
def RDivInv (a b la lb:Nat) (w:World) (q r i:Value) (wr:World):Prop :=
 ∃ (k Q R cq cr:Nat) (A B:Option Addr) (lq lr:List Nat),i=.int .i64 ((k:Int) - 1)∧k≤32*la+1∧q=.slice A lq.length cq∧r=.slice B lr.length cr∧Nv wr A cq lq∧Nv wr B cr lr∧Hid (NatIs lq Q)∧Hid (NatIs lr R) ∧
  Hid (Q*b+R=a / 2 ^ k)∧Hid (R < b)∧lq.length≤la∧lr.length≤lb∧Below w.heap.size w wr
theorem rd_len {a b Q R k la:Nat} {l lq:List Nat} (hl:Dig l) (ha:val l=a) (hla:l.length=la) (hb:0 < b) (hQ:NatIs lq Q) (h:Q*b+R=a / 2 ^ k):lq.length≤la:=by
 refine length_le_of_lt hQ.canon ?_;rw [hQ.val,←hla];have h1:Q*1≤Q*b:=Nat.mul_le_mul_left _ hb;have h2:a / 2 ^ k≤a:=Nat.div_le_self _ _;have h3:=val_lt hl;omega
theorem rd_rlen {b R:Nat} {lb lr:List Nat} (hl:Dig lb) (hb:val lb=b) (hR:NatIs lr R) (h:R < b):lr.length≤lb.length:=by
 refine length_le_of_lt hR.canon ?_;rw [hR.val];have:=val_lt hl;omega
theorem rd_start {a b k:Nat} (hb:0 < b) (hk:bitLen a≤k+(bitLen b - 1)):a / 2 ^ k < b:=by
 have hb1:2 ^ (bitLen b - 1)≤b:=by
  unfold bitLen;rw [if_neg (by omega),Nat.add_sub_cancel];exact Nat.log2_self_le (by omega)
 have ha1:a < 2 ^ bitLen a:=by
  unfold bitLen
  split
  · subst_vars;simp
  · exact Nat.lt_log2_self
 refine Nat.lt_of_lt_of_le ((Nat.div_lt_iff_lt_mul (Nat.two_pow_pos k)).2 ?_) hb1;rw [←Nat.pow_add];exact Nat.lt_of_lt_of_le ha1 (Nat.pow_le_pow_right (by omega) (by omega))
theorem bitLen_le {l:List Nat} (hd:Dig l):bitLen (val l)≤32*l.length:=by
 unfold bitLen
 split
 · omega
 · rename_i h
   have h1:=(Nat.log2_lt h (k:=32*l.length)).2 (by rw [←pw_bits];exact val_lt hd);omega
set_option maxRecDepth 100000 in
set_option maxHeartbeats 2000000 in
theorem refDivMod_any {A B:Option Addr} {ca cb:Nat} {la lb:List Nat} {w:World} (ha:Nv w A ca la) (hb:Nv w B cb lb) (hcb:Canon lb) (hna:la.length≤400000000) (hnb:lb.length≤400000000) :
 Calls Try.prog 67 #[.slice A la.length ca,.slice B lb.length cb] w (RetDiv (val la) (val lb) (la.length+lb.length) w):=by
 rcases Nat.eq_zero_or_pos lb.length with h0 | h0
 · obtain rfl:lb=[]:=List.eq_nil_of_length_eq_zero h0;clear h0;go_enter Try.func67,Try.ntmps67;go_wp2;refine bodyPost_ret (results_tmp3 rfl _ _ _) rfl ?_;exact ⟨none,0,[],none,0,[],rfl,nv_nil' _,nv_nil' _,NatIs.nil,NatIs.nil,by simp,by simp,Below.refl _ _⟩
 · have hbpos:Hid (0 < val lb):=by
    rcases Nat.eq_zero_or_pos (val lb) with hz | hz
    · have:NatIs lb 0:=⟨hb.dig,hcb,hz⟩;rw [this.zero_iff.2 rfl] at h0
      simp at h0
    · exact hz
   obtain ⟨a,hea⟩:∃ a,Hid (val la=a):=⟨_,rfl⟩;obtain ⟨b,heb⟩:∃ b,Hid (val lb=b):=⟨_,rfl⟩;rw [heb.out] at hbpos;rw [hea.out,heb.out];have hne:(((lb.length:Nat):Int) == 0)=false:=by rw [beq_eq_false_iff_ne];omega
   have hba:=bitLen_le ha.dig;have hbb:=bitLen_le hb.dig;rw [hea.out] at hba;rw [heb.out] at hbb;have hstart:=fun k=>rd_start (a:=a) (k:=k) hbpos.out;obtain ⟨x,hx⟩:∃ x,Hid (bitLen a=x):=⟨_,rfl⟩;obtain ⟨y,hy⟩:∃ y,Hid (bitLen b=y):=⟨_,rfl⟩;rw [hx.out] at hba;rw [hy.out] at hbb
   simp only [hx.out,hy.out] at hstart
   have hstart':=Lib.hid hstart;clear hstart
   have hy1:1≤y:=by
    rw [←hy.out];unfold bitLen;rw [if_neg (by have:=hbpos.out;omega)];omega
   have hm1:(if (1:Int) < (y:Int) then (y:Int) else 1)=(y:Int):=by split <;> omega
   clear h0;go_enter Try.func67,Try.ntmps67;go_wp2_with fail;refine (refBits_any ha (by omega)).mono ?_;rintro e w1 ⟨rfl,n1,rfl⟩;rw [hea.out,hx.out];go_wp2_with fail;refine (refBits_any (hb.below (below_drewN' w n1)) (by omega)).mono ?_;rintro e w1 ⟨rfl,n2,rfl⟩;rw [heb.out,hy.out]
   rcases (show (∃ k,(x:Int) - (y:Int)+1=(k:Nat)∧decide ((k:Int)≤0)=false∧1≤k∧k≤x∧x+1=y+k)∨(∃ k,k=0∧decide ((x:Int) - (y:Int)+1≤0)=true∧x+1≤y) by
    rcases Nat.lt_or_ge x y with h | h
    · exact .inr ⟨0,rfl,decide_eq_true (by omega),by omega⟩
    · exact .inl ⟨x+1 - y,by omega,decide_eq_false (by omega),by omega,by omega,by omega⟩) with ⟨k,hk1,hk2,hk3,hk4,hk5⟩ | ⟨k,rfl,hk2,hk3⟩
   · go_wp2_with fail;refine (refHigh_any (k:=k) (ha.below (below_drewN' w (n1+n2))) (by omega) (by omega)).mono ?_;rintro e w1 ⟨A1,c1,l1,rfl,h1,i1,m1,b1⟩;have hs:=Lib.hid (hstart'.out k (by omega));have hk0:k≤32*la.length+1:=by omega
     clear hk1 hk2 hk3 hk4 hk5;go_wp2
     go_loopw [8,9,10] (fun q r i wr=>RDivInv a b la.length lb.length w q r i wr) (fun _ _ i _=>(intOf i+1).toNat)
     case atStart=>exact ⟨k,0,a / 2 ^ k,0,c1,none,A1,[],l1,rfl,hk0,rfl,rfl,nv_nil' _,h1,NatIs.nil,hea.out ▸ i1,by show _=_;rw [Nat.zero_mul,Nat.zero_add],hs.out,by simp,rd_rlen hb.dig heb.out (hea.out ▸ i1) hs.out,(below_drewN' w (n1+n2)).trans b1⟩
     case round =>
      obtain ⟨k',Q,R,cq,cr,Aq,Br,lq,lr,rfl,hk',rfl,rfl,nq,nr,iq,ir,heq,hlt,lenq,lenr,hbel⟩:=hrel
      rcases k' with _ | j
      · have hfin:=ldiv_end heq.out hlt.out;have hf1:=Lib.hid (show NatIs lq (if b=0 then 0 else a / b) by rw [if_neg (by have:=hbpos.out;omega),←hfin.1];exact iq.out);have hf2:=Lib.hid (show NatIs lr (if b=0 then 0 else a % b) by rw [if_neg (by have:=hbpos.out;omega),←hfin.2];exact ir.out);have he:=Lib.hid (show (if b=0 then (8:Int) else 0)=0 by rw [if_neg (by have:=hbpos.out;omega)]);clear hfin;have hd0:decide ((0:Int)≤((0:Nat):Int) - 1)=false:=by decide
        go_wp2;refine bodyPost_ret (results_tmp3 rfl _ _ _) rfl ?_;exact ⟨Aq,cq,lq,Br,cr,lr,by rw [he.out];rfl,nq,nr,hf1,hf2,by omega,by omega,hbel⟩
      · have hj:((j+1:Nat):Int) - 1=(j:Int):=by omega
        have hd0:decide ((0:Int)≤(j:Int))=true:=decide_eq_true (by omega);obtain ⟨t,ht⟩:∃ t,Hid (a / 2 ^ j % 2=t):=⟨_,rfl⟩;have ht2:t < 2:=ht.out ▸ Nat.mod_lt _ (by omega);have htp:t < pw 2:=by simp only [pw];omega
        rw [hj];go_wp2_with fail;refine (refAdd_any _ _ _ _ _ _ _ nq nq (by omega) (by omega)).mono ?_;rintro e w2 ⟨A2,c2,l2,rfl,n2',i2,m2,b2⟩;have i2':=Lib.hid (show NatIs l2 (Q+Q) by have h:=i2;rw [iq.out.val] at h;exact h);have bb2:=hbel.trans (b2.mono hbel.size);clear i2;go_wp2_with fail;refine (refAdd_any _ _ _ _ _ _ _ (nr.below b2) (nr.below b2) (by omega) (by omega)).mono ?_;rintro e w3 ⟨A3,c3,l3,rfl,n3,i3,m3,b3⟩;have i3':=Lib.hid (show NatIs l3 (R+R) by have h:=i3;rw [ir.out.val] at h;exact h);have bb3:=bb2.trans (b3.mono bb2.size);clear i3;go_wp2_with fail;refine (refBit_any (i:=j) (ha.below bb3) (by omega)).mono ?_;rintro e w4 ⟨rfl,n4,rfl⟩;rw [hea.out,ht.out];have bb4:=bb3.trans ((below_drewN' w3 n4).mono bb3.size);go_wp2_with fail;refine (refFromUint_any t _ htp).mono ?_;rintro e w5 ⟨A5,c5,l5,rfl,n5,i5,m5,b5⟩;have i5':=Lib.hid i5;have bb5:=bb4.trans (b5.mono bb4.size);clear i5;go_wp2_with fail;refine (refAdd_any _ _ _ _ _ _ _ ((n3.below (below_drewN' w3 n4)).below b5) n5 (by omega) (by omega)).mono ?_;rintro e w6 ⟨A6,c6,l6,rfl,n6,i6,m6,b6⟩;have i6':=Lib.hid (show NatIs l6 (R+R+t) by have h:=i6;rw [i3'.out.val,i5'.out.val] at h;exact h);have bb6:=bb5.trans (b6.mono bb5.size);clear i6;go_wp2_with fail;refine (refCmp_any n6 (hb.below bb6) (by omega) (by omega)).mono ?_;rintro e w7 ⟨rfl,rfl⟩;obtain ⟨cc,hcc⟩:∃ cc,Hid (cmpI (val l6) (val lb)=cc):=⟨_,rfl⟩
        rw [hcc.out];have n26:=(((n2'.below b3).below (below_drewN' w3 n4)).below b5).below b6
        by_cases hge:b≤R+R+t
        · have hdc:decide ((0:Int)≤cc)=true:=decide_eq_true (by
           rw [←hcc.out];have h:=cmpI_neg_iff (val l6) (val lb);rw [i6'.out.val,heb.out] at h ⊢
           omega)
          have hge':=Lib.hid hge;clear hge;go_wp2_with fail;refine (refSub_any _ _ _ _ _ _ _ n6 (hb.below bb6) (by omega) (by omega)).mono ?_;rintro e w8 ⟨A8,c8,l8,rfl,n8,i8,m8,b8⟩;have i8':=Lib.hid (show NatIs l8 (R+R+t - b) by have h:=i8;rw [i6'.out.val,heb.out] at h;exact h);have bb8:=bb6.trans (b8.mono bb6.size);clear i8;go_wp2_with fail;refine (refFromUint_any 1 _ (by simp [pw])).mono ?_;rintro e w9 ⟨A9,c9,l9,rfl,n9,i9,m9,b9⟩;have i9':=Lib.hid i9;have bb9:=bb8.trans (b9.mono bb8.size);clear i9;go_wp2_with fail;refine (refAdd_any _ _ _ _ _ _ _ ((n26.below b8).below b9) n9 (by omega) (by omega)).mono ?_;rintro e w10 ⟨A10,c10,l10,rfl,n10,i10,m10,b10⟩;have i10':=Lib.hid (show NatIs l10 (Q+Q+1) by have h:=i10;rw [i2'.out.val,i9'.out.val] at h;exact h);have bb10:=bb9.trans (b10.mono bb9.size);clear i10;have hq:=Lib.hid (ldiv_ge (Q2:=Q+Q+1) (R2:=R+R+t - b) heq.out rfl (by rw [ht.out]) (by rw [ht.out];exact hge'.out));have hl2:=Lib.hid (show R+R+t - b < b by have:=hlt.out;omega);go_wp2;go_roundw
          case rel=>exact ⟨j,Q+Q+1,R+R+t - b,c10,c8,A10,A8,l10,l8,rfl,by omega,rfl,rfl,n10,(n8.below b9).below b10,i10',i8',hq,hl2,rd_len ha.dig hea.out rfl hbpos.out i10'.out hq.out,rd_rlen hb.dig heb.out i8'.out hl2.out,bb10⟩
          case measure=>simp [intOf]
        · have hdc:decide ((0:Int)≤cc)=false:=decide_eq_false (by
           rw [←hcc.out];have h:=cmpI_neg_iff (val l6) (val lb);rw [i6'.out.val,heb.out] at h ⊢
           omega)
          have hq:=Lib.hid (ldiv_lt (Q2:=Q+Q) (R2:=R+R+t) heq.out rfl (by rw [ht.out]));have hl2:=Lib.hid (show R+R+t < b by omega);clear hge;go_wp2;go_roundw
          case rel=>exact ⟨j,Q+Q,R+R+t,c2,c6,A2,A6,l2,l6,rfl,by omega,rfl,rfl,n26,n6,i2',i6',hq,hl2,rd_len ha.dig hea.out rfl hbpos.out i2'.out hq.out,rd_rlen hb.dig heb.out i6'.out hl2.out,bb6⟩
          case measure=>simp [intOf]
   · go_wp2_with fail;refine (refHigh_any (k:=0) (ha.below (below_drewN' w (n1+n2))) (by omega) (by omega)).mono ?_;rintro e w1 ⟨A1,c1,l1,rfl,h1,i1,m1,b1⟩;have hs:=Lib.hid (hstart'.out 0 (by omega));have hk0:0≤32*la.length+1:=by omega
     clear hk2 hk3;go_wp2
     go_loopw [8,9,10] (fun q r i wr=>RDivInv a b la.length lb.length w q r i wr) (fun _ _ i _=>(intOf i+1).toNat)
     case atStart=>exact ⟨0,0,a / 2 ^ 0,0,c1,none,A1,[],l1,rfl,hk0,rfl,rfl,nv_nil' _,h1,NatIs.nil,hea.out ▸ i1,by show _=_;rw [Nat.zero_mul,Nat.zero_add],hs.out,by simp,rd_rlen hb.dig heb.out (hea.out ▸ i1) hs.out,(below_drewN' w (n1+n2)).trans b1⟩
     case round =>
      obtain ⟨k',Q,R,cq,cr,Aq,Br,lq,lr,rfl,hk',rfl,rfl,nq,nr,iq,ir,heq,hlt,lenq,lenr,hbel⟩:=hrel
      rcases k' with _ | j
      · have hfin:=ldiv_end heq.out hlt.out;have hf1:=Lib.hid (show NatIs lq (if b=0 then 0 else a / b) by rw [if_neg (by have:=hbpos.out;omega),←hfin.1];exact iq.out);have hf2:=Lib.hid (show NatIs lr (if b=0 then 0 else a % b) by rw [if_neg (by have:=hbpos.out;omega),←hfin.2];exact ir.out);have he:=Lib.hid (show (if b=0 then (8:Int) else 0)=0 by rw [if_neg (by have:=hbpos.out;omega)]);clear hfin;have hd0:decide ((0:Int)≤((0:Nat):Int) - 1)=false:=by decide
        go_wp2;refine bodyPost_ret (results_tmp3 rfl _ _ _) rfl ?_;exact ⟨Aq,cq,lq,Br,cr,lr,by rw [he.out];rfl,nq,nr,hf1,hf2,by omega,by omega,hbel⟩
      · have hj:((j+1:Nat):Int) - 1=(j:Int):=by omega
        have hd0:decide ((0:Int)≤(j:Int))=true:=decide_eq_true (by omega);obtain ⟨t,ht⟩:∃ t,Hid (a / 2 ^ j % 2=t):=⟨_,rfl⟩;have ht2:t < 2:=ht.out ▸ Nat.mod_lt _ (by omega);have htp:t < pw 2:=by simp only [pw];omega
        rw [hj];go_wp2_with fail;refine (refAdd_any _ _ _ _ _ _ _ nq nq (by omega) (by omega)).mono ?_;rintro e w2 ⟨A2,c2,l2,rfl,n2',i2,m2,b2⟩;have i2':=Lib.hid (show NatIs l2 (Q+Q) by have h:=i2;rw [iq.out.val] at h;exact h);have bb2:=hbel.trans (b2.mono hbel.size);clear i2;go_wp2_with fail;refine (refAdd_any _ _ _ _ _ _ _ (nr.below b2) (nr.below b2) (by omega) (by omega)).mono ?_;rintro e w3 ⟨A3,c3,l3,rfl,n3,i3,m3,b3⟩;have i3':=Lib.hid (show NatIs l3 (R+R) by have h:=i3;rw [ir.out.val] at h;exact h);have bb3:=bb2.trans (b3.mono bb2.size);clear i3;go_wp2_with fail;refine (refBit_any (i:=j) (ha.below bb3) (by omega)).mono ?_;rintro e w4 ⟨rfl,n4,rfl⟩;rw [hea.out,ht.out];have bb4:=bb3.trans ((below_drewN' w3 n4).mono bb3.size);go_wp2_with fail;refine (refFromUint_any t _ htp).mono ?_;rintro e w5 ⟨A5,c5,l5,rfl,n5,i5,m5,b5⟩;have i5':=Lib.hid i5;have bb5:=bb4.trans (b5.mono bb4.size);clear i5;go_wp2_with fail;refine (refAdd_any _ _ _ _ _ _ _ ((n3.below (below_drewN' w3 n4)).below b5) n5 (by omega) (by omega)).mono ?_;rintro e w6 ⟨A6,c6,l6,rfl,n6,i6,m6,b6⟩;have i6':=Lib.hid (show NatIs l6 (R+R+t) by have h:=i6;rw [i3'.out.val,i5'.out.val] at h;exact h);have bb6:=bb5.trans (b6.mono bb5.size);clear i6;go_wp2_with fail;refine (refCmp_any n6 (hb.below bb6) (by omega) (by omega)).mono ?_;rintro e w7 ⟨rfl,rfl⟩;obtain ⟨cc,hcc⟩:∃ cc,Hid (cmpI (val l6) (val lb)=cc):=⟨_,rfl⟩
        rw [hcc.out];have n26:=(((n2'.below b3).below (below_drewN' w3 n4)).below b5).below b6
        by_cases hge:b≤R+R+t
        · have hdc:decide ((0:Int)≤cc)=true:=decide_eq_true (by
           rw [←hcc.out];have h:=cmpI_neg_iff (val l6) (val lb);rw [i6'.out.val,heb.out] at h ⊢
           omega)
          have hge':=Lib.hid hge;clear hge;go_wp2_with fail;refine (refSub_any _ _ _ _ _ _ _ n6 (hb.below bb6) (by omega) (by omega)).mono ?_;rintro e w8 ⟨A8,c8,l8,rfl,n8,i8,m8,b8⟩;have i8':=Lib.hid (show NatIs l8 (R+R+t - b) by have h:=i8;rw [i6'.out.val,heb.out] at h;exact h);have bb8:=bb6.trans (b8.mono bb6.size);clear i8;go_wp2_with fail;refine (refFromUint_any 1 _ (by simp [pw])).mono ?_;rintro e w9 ⟨A9,c9,l9,rfl,n9,i9,m9,b9⟩;have i9':=Lib.hid i9;have bb9:=bb8.trans (b9.mono bb8.size);clear i9;go_wp2_with fail;refine (refAdd_any _ _ _ _ _ _ _ ((n26.below b8).below b9) n9 (by omega) (by omega)).mono ?_;rintro e w10 ⟨A10,c10,l10,rfl,n10,i10,m10,b10⟩;have i10':=Lib.hid (show NatIs l10 (Q+Q+1) by have h:=i10;rw [i2'.out.val,i9'.out.val] at h;exact h);have bb10:=bb9.trans (b10.mono bb9.size);clear i10;have hq:=Lib.hid (ldiv_ge (Q2:=Q+Q+1) (R2:=R+R+t - b) heq.out rfl (by rw [ht.out]) (by rw [ht.out];exact hge'.out));have hl2:=Lib.hid (show R+R+t - b < b by have:=hlt.out;omega);go_wp2;go_roundw
          case rel=>exact ⟨j,Q+Q+1,R+R+t - b,c10,c8,A10,A8,l10,l8,rfl,by omega,rfl,rfl,n10,(n8.below b9).below b10,i10',i8',hq,hl2,rd_len ha.dig hea.out rfl hbpos.out i10'.out hq.out,rd_rlen hb.dig heb.out i8'.out hl2.out,bb10⟩
          case measure=>simp [intOf]
        · have hdc:decide ((0:Int)≤cc)=false:=decide_eq_false (by
           rw [←hcc.out];have h:=cmpI_neg_iff (val l6) (val lb);rw [i6'.out.val,heb.out] at h ⊢
           omega)
          have hq:=Lib.hid (ldiv_lt (Q2:=Q+Q) (R2:=R+R+t) heq.out rfl (by rw [ht.out]));have hl2:=Lib.hid (show R+R+t < b by omega);clear hge;go_wp2;go_roundw
          case rel=>exact ⟨j,Q+Q,R+R+t,c2,c6,A2,A6,l2,l6,rfl,by omega,rfl,rfl,n26,n6,i2',i6',hq,hl2,rd_len ha.dig hea.out rfl hbpos.out i2'.out hq.out,rd_rlen hb.dig heb.out i6'.out hl2.out,bb6⟩
          case measure=>simp [intOf]
set_option maxRecDepth 100000 in
set_option maxHeartbeats 1000000 in
theorem refGcd_any {A B:Option Addr} {ca cb:Nat} {la lb:List Nat} {w:World} (ha:Nv w A ca la) (hb:Nv w B cb lb) (hca:Canon la) (hcb:Canon lb) (hna:la.length≤400000000) (hnb:lb.length≤400000000) :
 Calls Try.prog 46 #[.slice A la.length ca,.slice B lb.length cb] w (RetNat (Nat.gcd (val la) (val lb)) 400000000 w):=by
 have ia:NatIs la (val la):=⟨ha.dig,hca,rfl⟩;have ib:NatIs lb (val lb):=⟨hb.dig,hcb,rfl⟩;go_enter Try.func46,Try.ntmps46;go_wp2
 go_loopg [0,1] (val lb) (fun g a b wr=>GcdInv (Nat.gcd (val la) (val lb)) 400000000 w g a b wr)
 case atStart=>exact ⟨A,ca,la,B,cb,lb,val la,val lb,rfl,rfl,ha,hb,ia,ib,rfl,rfl,hna,hnb,Below.refl _ _⟩
 case round =>
  obtain ⟨A,ca,la',B,cb,lb',x,y,rfl,rfl,h1,h2,n1,n2,rfl,hG,m1,m2,hbel⟩:=hrel;have hg2:=h2.big
  by_cases hz:lb'.length=0
  · have hy:Hid (gk=0):=by
     have:lb'=[]:=List.eq_nil_of_length_eq_zero hz
     show gk=0
     exact (n2.zero_iff).1 this
    have hd:decide (0 < lb'.length)=false:=decide_eq_false (by omega);have hG2:=Lib.hid (show val la'=Nat.gcd (val la) (val lb) by rw [n1.val,←hG.out,hy.out,Nat.gcd_zero_right]);go_wp2_with fail;refine (refTrim_any h1 (by omega)).mono ?_;rintro e w1 ⟨A1,c1,l1,rfl,k1,k2,k3,k4⟩;go_wp2;go_ret;exact ⟨A1,c1,l1,rfl,k1,hG2.out ▸ k2,by omega,hbel.trans (k4.mono hbel.size)⟩
  · have hy:Hid (gk≠0):=fun e=>hz (by rw [(n2.zero_iff).2 e];rfl);have hd:decide (0 < lb'.length)=true:=decide_eq_true (by omega);clear hz;go_wp2_with fail;refine (refDivMod_any h1 h2 n2.canon (by omega) (by omega)).mono ?_;rintro e w3 ⟨A3,c3,q,B3,d3,r,rfl,hq,hr,nq,nr,lq,lr,b3⟩;rw [n2.val,if_neg hy.out] at nr;rw [n2.val,if_neg hy.out];rw [n1.val] at nr;have hlt:=Lib.hid (Nat.mod_lt x (Nat.pos_of_ne_zero hy.out))
    have hrl:=Lib.hid (show r.length≤400000000 from Nat.le_trans (length_le_of_lt nr.canon (by
     have h:=val_lt n2.dig;rw [n2.val] at h;rw [nr.val];exact Nat.lt_trans hlt.out h)) m2)
    go_wp2
    go_roundg (x % gk)
    case measure=>exact hlt.out
    case rel=>exact ⟨B,cb,lb',B3,d3,r,gk,x % gk,rfl,rfl,h2.below b3,hr,n2,nr,rfl,by show Nat.gcd _ _=_;rw [gcd_step];exact hG.out,m2,hrl.out,hbel.trans (b3.mono hbel.size)⟩
end Go.Proofs.Ytjhkapjadfpimaa
namespace Go.Proofs.Ytjhkapjadfpimaa
set_option linter.unusedVariables false
set_option linter.unusedSimpArgs false
open Go.RowKit Plain
attribute [local go_sem ↓] Go.wp_at_zero Go.wp_at_succ
theorem refFromUint_val (x:Nat) (n:Int) (w:World) (hn:n=(x:Int)) (hx:x < pw 2):Calls Try.prog 83 #[.int .u64 n] w (RetNat x 2 w):=by
 subst hn;exact refFromUint_any x w hx
end Go.Proofs.Ytjhkapjadfpimaa
