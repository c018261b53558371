/- Contracts of functions, for the law. -/
import Derived.Test.YtjhkapjadfpimaaRDiv
import Derived.Test.YtjhkapjadfpimaaQ
import Derived.Laws.BytesArg
import Derived.Test.YtjhkapjadfpimaaWTrim
import Derived.Test.YtjhkapjadfpimaaWSmall
import Derived.Deep.RegionHeld3
import Derived.Deep.DrawnRows
import Derived.Test.YtjhkapjadfpimaaWRef2
namespace Go.Proofs.Ytjhkapjadfpimaa
set_option linter.unusedVariables false
set_option linter.unusedSimpArgs false
open Go.RowKit Plain
def RDivInv (a b la lb:Nat) (w:World) (q r i:Value) (wr:World):Prop :=
 ∃ (k Q R cq cr:Nat) (A B:Option Addr) (lq lr:List Nat),i=.int .i64 ((k:Int)-1)∧k≤32*la+1∧q=.slice A lq.length cq∧r=.slice B lr.length cr∧Nv wr A cq lq∧Nv wr B cr lr∧Hid (NatIs lq Q)∧Hid (NatIs lr R) ∧
  Hid (Q*b+R=a / 2 ^ k)∧Hid (R<b)∧lq.length≤la∧lr.length≤lb∧Below w.heap.size w wr
theorem rd_len {a b Q R k la:Nat}{l lq:List Nat}(hl:Dig l) (ha:val l=a) (hla:l.length=la) (hb:0<b) (hQ:NatIs lq Q) (h:Q*b+R=a / 2 ^ k):lq.length≤la:=by
 refine length_le_of_lt hQ.canon ?_;rw[hQ.val,←hla];have h1:Q*1≤Q*b:=Nat.mul_le_mul_left _ hb;have h2:a / 2 ^ k≤a:=Nat.div_le_self _ _;have h3:=val_lt hl;omega
theorem rd_rlen {b R:Nat}{lb lr:List Nat}(hl:Dig lb) (hb:val lb=b) (hR:NatIs lr R) (h:R<b):lr.length≤lb.length:=by
 refine length_le_of_lt hR.canon ?_;rw[hR.val];have:=val_lt hl;omega
theorem rd_start {a b k:Nat}(hb:0<b) (hk:bitLen a≤k+(bitLen b-1)):a / 2 ^ k<b:=by
 have hb1:2 ^ (bitLen b-1)≤b:=by
  unfold bitLen;rw[if_neg (by omega),Nat.add_sub_cancel];exact Nat.log2_self_le (by omega)
 have ha1:a<2 ^ bitLen a:=by
  unfold bitLen
  split
  · subst_vars;simp
  · exact Nat.lt_log2_self
 refine Nat.lt_of_lt_of_le ((Nat.div_lt_iff_lt_mul (Nat.two_pow_pos k)).2 ?_) hb1;rw[←Nat.pow_add];exact Nat.lt_of_lt_of_le ha1 (Nat.pow_le_pow_right (by omega) (by omega))
theorem bitLen_le {l:List Nat}(hd:Dig l):bitLen (val l)≤32*l.length:=by
 unfold bitLen
 split
 · omega
 · rename_i h
   have h1:=(Nat.log2_lt h (k:=32*l.length)).2 (by rw[←pw_bits];exact val_lt hd);omega
set_option maxRecDepth 100000 in
set_option maxHeartbeats 2000000 in
theorem refDivMod_any {A B:Option Addr}{ca cb:Nat}{la lb:List Nat}{w:World}(ha:Nv w A ca la) (hb:Nv w B cb lb) (hcb:Canon lb) (hna:la.length≤400000000) (hnb:lb.length≤400000000) :
 Calls Try.prog 67 #[.slice A la.length ca,.slice B lb.length cb] w (RetDiv (val la) (val lb) (la.length+lb.length) w):=by
 rcases Nat.eq_zero_or_pos lb.length with h0 | h0
 · obtain rfl:lb=[]:=List.eq_nil_of_length_eq_zero h0;clear h0;go_enter Try.func67,Try.ntmps67;go_wp2;refine bodyPost_ret (results_tmp3 rfl _ _ _) rfl ?_;exact⟨none,0,[],none,0,[],rfl,nv_nil' _,nv_nil' _,NatIs.nil,NatIs.nil,by simp,by simp,Below.refl _ _⟩
 · have hbpos:Hid (0<val lb):=by
    rcases Nat.eq_zero_or_pos (val lb) with hz | hz
    · have:NatIs lb 0:=⟨hb.dig,hcb,hz⟩;rw[this.zero_iff.2 rfl] at h0
      simp at h0
    · exact hz
   obtain⟨a,hea⟩:∃ a,Hid (val la=a):=⟨_,rfl⟩;obtain⟨b,heb⟩:∃ b,Hid (val lb=b):=⟨_,rfl⟩;rw[heb.out] at hbpos;rw[hea.out,heb.out];have hne:(((lb.length:Nat):Int) == 0)=false:=by rw[beq_eq_false_iff_ne];omega
   have hba:=bitLen_le ha.dig;have hbb:=bitLen_le hb.dig;rw[hea.out] at hba;rw[heb.out] at hbb;have hstart:=fun k=>rd_start (a:=a) (k:=k) hbpos.out;obtain⟨x,hx⟩:∃ x,Hid (bitLen a=x):=⟨_,rfl⟩;obtain⟨y,hy⟩:∃ y,Hid (bitLen b=y):=⟨_,rfl⟩;rw[hx.out] at hba;rw[hy.out] at hbb
   simp only[hx.out,hy.out] at hstart
   have hstart':=Lib.hid hstart;clear hstart
   have hy1:1≤y:=by
    rw[←hy.out];unfold bitLen;rw[if_neg (by have:=hbpos.out;omega)];omega
   have hm1:(if (1:Int) < (y:Int) then (y:Int) else 1)=(y:Int):=by split <;> omega
   clear h0;go_enter Try.func67,Try.ntmps67;go_wp2_with fail;refine (refBits_any ha (by omega)).mono ?_;rintro e w1 ⟨rfl,n1,rfl⟩;rw[hea.out,hx.out];go_wp2_with fail;refine (refBits_any (hb.below (below_drewN' w n1)) (by omega)).mono ?_;rintro e w1 ⟨rfl,n2,rfl⟩;rw[heb.out,hy.out]
   rcases (show (∃ k,(x:Int)-(y:Int)+1=(k:Nat)∧decide ((k:Int)≤0)=false∧1≤k∧k≤x∧x+1=y+k)∨(∃ k,k=0∧decide ((x:Int)-(y:Int)+1≤0)=true∧x+1≤y) by
    rcases Nat.lt_or_ge x y with h | h
    · exact .inr ⟨0,rfl,decide_eq_true (by omega),by omega⟩
    · exact .inl ⟨x+1-y,by omega,decide_eq_false (by omega),by omega,by omega,by omega⟩) with ⟨k,hk1,hk2,hk3,hk4,hk5⟩ | ⟨k,rfl,hk2,hk3⟩
   · go_wp2_with fail;refine (refHigh_any (k:=k) (ha.below (below_drewN' w (n1+n2))) (by omega) (by omega)).mono ?_;rintro e w1 ⟨A1,c1,l1,rfl,h1,i1,m1,b1⟩;have hs:=Lib.hid (hstart'.out k (by omega));have hk0:k≤32*la.length+1:=by omega
     clear hk1 hk2 hk3 hk4 hk5;go_wp2
     go_loopw [8,9,10] (fun q r i wr=>RDivInv a b la.length lb.length w q r i wr) (fun _ _ i _=>(intOf i+1).toNat)
     case atStart=>exact⟨k,0,a / 2 ^ k,0,c1,none,A1,[],l1,rfl,hk0,rfl,rfl,nv_nil' _,h1,NatIs.nil,hea.out ▸ i1,by show _=_;rw[Nat.zero_mul,Nat.zero_add],hs.out,by simp,rd_rlen hb.dig heb.out (hea.out ▸ i1) hs.out,(below_drewN' w (n1+n2)).trans b1⟩
     case round =>
      obtain⟨k',Q,R,cq,cr,Aq,Br,lq,lr,rfl,hk',rfl,rfl,nq,nr,iq,ir,heq,hlt,lenq,lenr,hbel⟩:=hrel
      rcases k' with _ | j
      · have hfin:=ldiv_end heq.out hlt.out;have hf1:=Lib.hid (show NatIs lq (if b=0 then 0 else a / b) by rw[if_neg (by have:=hbpos.out;omega),←hfin.1];exact iq.out);have hf2:=Lib.hid (show NatIs lr (if b=0 then 0 else a % b) by rw[if_neg (by have:=hbpos.out;omega),←hfin.2];exact ir.out);have he:=Lib.hid (show (if b=0 then (8:Int) else 0)=0 by rw[if_neg (by have:=hbpos.out;omega)]);clear hfin;have hd0:decide ((0:Int)≤((0:Nat):Int)-1)=false:=by decide
        go_wp2;refine bodyPost_ret (results_tmp3 rfl _ _ _) rfl ?_;exact⟨Aq,cq,lq,Br,cr,lr,by rw[he.out];rfl,nq,nr,hf1,hf2,by omega,by omega,hbel⟩
      · have hj:((j+1:Nat):Int)-1=(j:Int):=by omega
        have hd0:decide ((0:Int)≤(j:Int))=true:=decide_eq_true (by omega);obtain⟨t,ht⟩:∃ t,Hid (a / 2 ^ j % 2=t):=⟨_,rfl⟩;have ht2:t<2:=ht.out ▸ Nat.mod_lt _ (by omega);have htp:t<pw 2:=by simp only[pw];omega
        rw[hj];go_wp2_with fail;refine (refAdd_any _ _ _ _ _ _ _ nq nq (by omega) (by omega)).mono ?_;rintro e w2 ⟨A2,c2,l2,rfl,n2',i2,m2,b2⟩;have i2':=Lib.hid (show NatIs l2 (Q+Q) by have h:=i2;rw[iq.out.val] at h;exact h);have bb2:=hbel.trans (b2.mono hbel.size);clear i2;go_wp2_with fail;refine (refAdd_any _ _ _ _ _ _ _ (nr.below b2) (nr.below b2) (by omega) (by omega)).mono ?_;rintro e w3 ⟨A3,c3,l3,rfl,n3,i3,m3,b3⟩;have i3':=Lib.hid (show NatIs l3 (R+R) by have h:=i3;rw[ir.out.val] at h;exact h);have bb3:=bb2.trans (b3.mono bb2.size);clear i3;go_wp2_with fail;refine (refBit_any (i:=j) (ha.below bb3) (by omega)).mono ?_;rintro e w4 ⟨rfl,n4,rfl⟩;rw[hea.out,ht.out];have bb4:=bb3.trans ((below_drewN' w3 n4).mono bb3.size);go_wp2_with fail;refine (refFromUint_any t _ htp).mono ?_;rintro e w5 ⟨A5,c5,l5,rfl,n5,i5,m5,b5⟩;have i5':=Lib.hid i5;have bb5:=bb4.trans (b5.mono bb4.size);clear i5;go_wp2_with fail;refine (refAdd_any _ _ _ _ _ _ _ ((n3.below (below_drewN' w3 n4)).below b5) n5 (by omega) (by omega)).mono ?_;rintro e w6 ⟨A6,c6,l6,rfl,n6,i6,m6,b6⟩;have i6':=Lib.hid (show NatIs l6 (R+R+t) by have h:=i6;rw[i3'.out.val,i5'.out.val] at h;exact h);have bb6:=bb5.trans (b6.mono bb5.size);clear i6;go_wp2_with fail;refine (refCmp_any n6 (hb.below bb6) (by omega) (by omega)).mono ?_;rintro e w7 ⟨rfl,rfl⟩;obtain⟨cc,hcc⟩:∃ cc,Hid (cmpI (val l6) (val lb)=cc):=⟨_,rfl⟩
        rw[hcc.out];have n26:=(((n2'.below b3).below (below_drewN' w3 n4)).below b5).below b6
        by_cases hge:b≤R+R+t
        · have hdc:decide ((0:Int)≤cc)=true:=decide_eq_true (by
           rw[←hcc.out];have h:=cmpI_neg_iff (val l6) (val lb);rw[i6'.out.val,heb.out] at h ⊢
           omega)
          have hge':=Lib.hid hge;clear hge;go_wp2_with fail;refine (refSub_any _ _ _ _ _ _ _ n6 (hb.below bb6) (by omega) (by omega)).mono ?_;rintro e w8 ⟨A8,c8,l8,rfl,n8,i8,m8,b8⟩;have i8':=Lib.hid (show NatIs l8 (R+R+t-b) by have h:=i8;rw[i6'.out.val,heb.out] at h;exact h);have bb8:=bb6.trans (b8.mono bb6.size);clear i8;go_wp2_with fail;refine (refFromUint_any 1 _ (by simp[pw])).mono ?_;rintro e w9 ⟨A9,c9,l9,rfl,n9,i9,m9,b9⟩;have i9':=Lib.hid i9;have bb9:=bb8.trans (b9.mono bb8.size);clear i9;go_wp2_with fail;refine (refAdd_any _ _ _ _ _ _ _ ((n26.below b8).below b9) n9 (by omega) (by omega)).mono ?_;rintro e w10 ⟨A10,c10,l10,rfl,n10,i10,m10,b10⟩;have i10':=Lib.hid (show NatIs l10 (Q+Q+1) by have h:=i10;rw[i2'.out.val,i9'.out.val] at h;exact h);have bb10:=bb9.trans (b10.mono bb9.size);clear i10;have hq:=Lib.hid (ldiv_ge (Q2:=Q+Q+1) (R2:=R+R+t-b) heq.out rfl (by rw[ht.out]) (by rw[ht.out];exact hge'.out));have hl2:=Lib.hid (show R+R+t-b<b by have:=hlt.out;omega);go_wp2;go_roundw
          case rel=>exact⟨j,Q+Q+1,R+R+t-b,c10,c8,A10,A8,l10,l8,rfl,by omega,rfl,rfl,n10,(n8.below b9).below b10,i10',i8',hq,hl2,rd_len ha.dig hea.out rfl hbpos.out i10'.out hq.out,rd_rlen hb.dig heb.out i8'.out hl2.out,bb10⟩
          case measure=>simp[intOf]
        · have hdc:decide ((0:Int)≤cc)=false:=decide_eq_false (by
           rw[←hcc.out];have h:=cmpI_neg_iff (val l6) (val lb);rw[i6'.out.val,heb.out] at h ⊢
           omega)
          have hq:=Lib.hid (ldiv_lt (Q2:=Q+Q) (R2:=R+R+t) heq.out rfl (by rw[ht.out]));have hl2:=Lib.hid (show R+R+t<b by omega);clear hge;go_wp2;go_roundw
          case rel=>exact⟨j,Q+Q,R+R+t,c2,c6,A2,A6,l2,l6,rfl,by omega,rfl,rfl,n26,n6,i2',i6',hq,hl2,rd_len ha.dig hea.out rfl hbpos.out i2'.out hq.out,rd_rlen hb.dig heb.out i6'.out hl2.out,bb6⟩
          case measure=>simp[intOf]
   · go_wp2_with fail;refine (refHigh_any (k:=0) (ha.below (below_drewN' w (n1+n2))) (by omega) (by omega)).mono ?_;rintro e w1 ⟨A1,c1,l1,rfl,h1,i1,m1,b1⟩;have hs:=Lib.hid (hstart'.out 0 (by omega));have hk0:0≤32*la.length+1:=by omega
     clear hk2 hk3;go_wp2
     go_loopw [8,9,10] (fun q r i wr=>RDivInv a b la.length lb.length w q r i wr) (fun _ _ i _=>(intOf i+1).toNat)
     case atStart=>exact⟨0,0,a / 2 ^ 0,0,c1,none,A1,[],l1,rfl,hk0,rfl,rfl,nv_nil' _,h1,NatIs.nil,hea.out ▸ i1,by show _=_;rw[Nat.zero_mul,Nat.zero_add],hs.out,by simp,rd_rlen hb.dig heb.out (hea.out ▸ i1) hs.out,(below_drewN' w (n1+n2)).trans b1⟩
     case round =>
      obtain⟨k',Q,R,cq,cr,Aq,Br,lq,lr,rfl,hk',rfl,rfl,nq,nr,iq,ir,heq,hlt,lenq,lenr,hbel⟩:=hrel
      rcases k' with _ | j
      · have hfin:=ldiv_end heq.out hlt.out;have hf1:=Lib.hid (show NatIs lq (if b=0 then 0 else a / b) by rw[if_neg (by have:=hbpos.out;omega),←hfin.1];exact iq.out);have hf2:=Lib.hid (show NatIs lr (if b=0 then 0 else a % b) by rw[if_neg (by have:=hbpos.out;omega),←hfin.2];exact ir.out);have he:=Lib.hid (show (if b=0 then (8:Int) else 0)=0 by rw[if_neg (by have:=hbpos.out;omega)]);clear hfin;have hd0:decide ((0:Int)≤((0:Nat):Int)-1)=false:=by decide
        go_wp2;refine bodyPost_ret (results_tmp3 rfl _ _ _) rfl ?_;exact⟨Aq,cq,lq,Br,cr,lr,by rw[he.out];rfl,nq,nr,hf1,hf2,by omega,by omega,hbel⟩
      · have hj:((j+1:Nat):Int)-1=(j:Int):=by omega
        have hd0:decide ((0:Int)≤(j:Int))=true:=decide_eq_true (by omega);obtain⟨t,ht⟩:∃ t,Hid (a / 2 ^ j % 2=t):=⟨_,rfl⟩;have ht2:t<2:=ht.out ▸ Nat.mod_lt _ (by omega);have htp:t<pw 2:=by simp only[pw];omega
        rw[hj];go_wp2_with fail;refine (refAdd_any _ _ _ _ _ _ _ nq nq (by omega) (by omega)).mono ?_;rintro e w2 ⟨A2,c2,l2,rfl,n2',i2,m2,b2⟩;have i2':=Lib.hid (show NatIs l2 (Q+Q) by have h:=i2;rw[iq.out.val] at h;exact h);have bb2:=hbel.trans (b2.mono hbel.size);clear i2;go_wp2_with fail;refine (refAdd_any _ _ _ _ _ _ _ (nr.below b2) (nr.below b2) (by omega) (by omega)).mono ?_;rintro e w3 ⟨A3,c3,l3,rfl,n3,i3,m3,b3⟩;have i3':=Lib.hid (show NatIs l3 (R+R) by have h:=i3;rw[ir.out.val] at h;exact h);have bb3:=bb2.trans (b3.mono bb2.size);clear i3;go_wp2_with fail;refine (refBit_any (i:=j) (ha.below bb3) (by omega)).mono ?_;rintro e w4 ⟨rfl,n4,rfl⟩;rw[hea.out,ht.out];have bb4:=bb3.trans ((below_drewN' w3 n4).mono bb3.size);go_wp2_with fail;refine (refFromUint_any t _ htp).mono ?_;rintro e w5 ⟨A5,c5,l5,rfl,n5,i5,m5,b5⟩;have i5':=Lib.hid i5;have bb5:=bb4.trans (b5.mono bb4.size);clear i5;go_wp2_with fail;refine (refAdd_any _ _ _ _ _ _ _ ((n3.below (below_drewN' w3 n4)).below b5) n5 (by omega) (by omega)).mono ?_;rintro e w6 ⟨A6,c6,l6,rfl,n6,i6,m6,b6⟩;have i6':=Lib.hid (show NatIs l6 (R+R+t) by have h:=i6;rw[i3'.out.val,i5'.out.val] at h;exact h);have bb6:=bb5.trans (b6.mono bb5.size);clear i6;go_wp2_with fail;refine (refCmp_any n6 (hb.below bb6) (by omega) (by omega)).mono ?_;rintro e w7 ⟨rfl,rfl⟩;obtain⟨cc,hcc⟩:∃ cc,Hid (cmpI (val l6) (val lb)=cc):=⟨_,rfl⟩
        rw[hcc.out];have n26:=(((n2'.below b3).below (below_drewN' w3 n4)).below b5).below b6
        by_cases hge:b≤R+R+t
        · have hdc:decide ((0:Int)≤cc)=true:=decide_eq_true (by
           rw[←hcc.out];have h:=cmpI_neg_iff (val l6) (val lb);rw[i6'.out.val,heb.out] at h ⊢
           omega)
          have hge':=Lib.hid hge;clear hge;go_wp2_with fail;refine (refSub_any _ _ _ _ _ _ _ n6 (hb.below bb6) (by omega) (by omega)).mono ?_;rintro e w8 ⟨A8,c8,l8,rfl,n8,i8,m8,b8⟩;have i8':=Lib.hid (show NatIs l8 (R+R+t-b) by have h:=i8;rw[i6'.out.val,heb.out] at h;exact h);have bb8:=bb6.trans (b8.mono bb6.size);clear i8;go_wp2_with fail;refine (refFromUint_any 1 _ (by simp[pw])).mono ?_;rintro e w9 ⟨A9,c9,l9,rfl,n9,i9,m9,b9⟩;have i9':=Lib.hid i9;have bb9:=bb8.trans (b9.mono bb8.size);clear i9;go_wp2_with fail;refine (refAdd_any _ _ _ _ _ _ _ ((n26.below b8).below b9) n9 (by omega) (by omega)).mono ?_;rintro e w10 ⟨A10,c10,l10,rfl,n10,i10,m10,b10⟩;have i10':=Lib.hid (show NatIs l10 (Q+Q+1) by have h:=i10;rw[i2'.out.val,i9'.out.val] at h;exact h);have bb10:=bb9.trans (b10.mono bb9.size);clear i10;have hq:=Lib.hid (ldiv_ge (Q2:=Q+Q+1) (R2:=R+R+t-b) heq.out rfl (by rw[ht.out]) (by rw[ht.out];exact hge'.out));have hl2:=Lib.hid (show R+R+t-b<b by have:=hlt.out;omega);go_wp2;go_roundw
          case rel=>exact⟨j,Q+Q+1,R+R+t-b,c10,c8,A10,A8,l10,l8,rfl,by omega,rfl,rfl,n10,(n8.below b9).below b10,i10',i8',hq,hl2,rd_len ha.dig hea.out rfl hbpos.out i10'.out hq.out,rd_rlen hb.dig heb.out i8'.out hl2.out,bb10⟩
          case measure=>simp[intOf]
        · have hdc:decide ((0:Int)≤cc)=false:=decide_eq_false (by
           rw[←hcc.out];have h:=cmpI_neg_iff (val l6) (val lb);rw[i6'.out.val,heb.out] at h ⊢
           omega)
          have hq:=Lib.hid (ldiv_lt (Q2:=Q+Q) (R2:=R+R+t) heq.out rfl (by rw[ht.out]));have hl2:=Lib.hid (show R+R+t<b by omega);clear hge;go_wp2;go_roundw
          case rel=>exact⟨j,Q+Q,R+R+t,c2,c6,A2,A6,l2,l6,rfl,by omega,rfl,rfl,n26,n6,i2',i6',hq,hl2,rd_len ha.dig hea.out rfl hbpos.out i2'.out hq.out,rd_rlen hb.dig heb.out i6'.out hl2.out,bb6⟩
          case measure=>simp[intOf]
set_option maxRecDepth 100000 in
set_option maxHeartbeats 1000000 in
theorem refGcd_any {A B:Option Addr}{ca cb:Nat}{la lb:List Nat}{w:World}(ha:Nv w A ca la) (hb:Nv w B cb lb) (hca:Canon la) (hcb:Canon lb) (hna:la.length≤400000000) (hnb:lb.length≤400000000) :
 Calls Try.prog 46 #[.slice A la.length ca,.slice B lb.length cb] w (RetNat (Nat.gcd (val la) (val lb)) 400000000 w):=by
 have ia:NatIs la (val la):=⟨ha.dig,hca,rfl⟩;have ib:NatIs lb (val lb):=⟨hb.dig,hcb,rfl⟩;go_enter Try.func46,Try.ntmps46;go_wp2
 go_loopg [0,1] (val lb) (fun g a b wr=>GcdInv (Nat.gcd (val la) (val lb)) 400000000 w g a b wr)
 case atStart=>exact⟨A,ca,la,B,cb,lb,val la,val lb,rfl,rfl,ha,hb,ia,ib,rfl,rfl,hna,hnb,Below.refl _ _⟩
 case round =>
  obtain⟨A,ca,la',B,cb,lb',x,y,rfl,rfl,h1,h2,n1,n2,rfl,hG,m1,m2,hbel⟩:=hrel;have hg2:=h2.big
  by_cases hz:lb'.length=0
  · have hy:Hid (gk=0):=by
     have:lb'=[]:=List.eq_nil_of_length_eq_zero hz
     show gk=0
     exact (n2.zero_iff).1 this
    have hd:decide (0<lb'.length)=false:=decide_eq_false (by omega);have hG2:=Lib.hid (show val la'=Nat.gcd (val la) (val lb) by rw[n1.val,←hG.out,hy.out,Nat.gcd_zero_right]);go_wp2_with fail;refine (refTrim_any h1 (by omega)).mono ?_;rintro e w1 ⟨A1,c1,l1,rfl,k1,k2,k3,k4⟩;go_wp2;go_ret;exact⟨A1,c1,l1,rfl,k1,hG2.out ▸ k2,by omega,hbel.trans (k4.mono hbel.size)⟩
  · have hy:Hid (gk≠0):=fun e=>hz (by rw[(n2.zero_iff).2 e];rfl);have hd:decide (0<lb'.length)=true:=decide_eq_true (by omega);clear hz;go_wp2_with fail;refine (refDivMod_any h1 h2 n2.canon (by omega) (by omega)).mono ?_;rintro e w3 ⟨A3,c3,q,B3,d3,r,rfl,hq,hr,nq,nr,lq,lr,b3⟩;rw[n2.val,if_neg hy.out] at nr;rw[n2.val,if_neg hy.out];rw[n1.val] at nr;have hlt:=Lib.hid (Nat.mod_lt x (Nat.pos_of_ne_zero hy.out))
    have hrl:=Lib.hid (show r.length≤400000000 from Nat.le_trans (length_le_of_lt nr.canon (by
     have h:=val_lt n2.dig;rw[n2.val] at h;rw[nr.val];exact Nat.lt_trans hlt.out h)) m2)
    go_wp2
    go_roundg (x % gk)
    case measure=>exact hlt.out
    case rel=>exact⟨B,cb,lb',B3,d3,r,gk,x % gk,rfl,rfl,h2.below b3,hr,n2,nr,rfl,by show Nat.gcd _ _=_;rw[gcd_step];exact hG.out,m2,hrl.out,hbel.trans (b3.mono hbel.size)⟩
end Go.Proofs.Ytjhkapjadfpimaa
namespace Go.Proofs.Ytjhkapjadfpimaa
set_option linter.unusedVariables false
set_option linter.unusedSimpArgs false
open Go.RowKit Plain
attribute [local go_sem ↓] Go.wp_at_zero Go.wp_at_succ
theorem refFromUint_val (x:Nat) (n:Int) (w:World) (hn:n=(x:Int)) (hx:x<pw 2):Calls Try.prog 83 #[.int .u64 n] w (RetNat x 2 w):=by
 subst hn;exact refFromUint_any x w hx
set_option maxRecDepth 100000 in
set_option maxHeartbeats 400000 in
theorem refSize_any (n:Int) (w:World) (h1:-9223372036854775808≤n) (h2:n≤9223372036854775807) :
 Calls Try.prog 69 #[.int .i64 n] w (RetNat n.natAbs 2 w):=by
 have hb:n.natAbs<pw 2:=by simp only[pw];omega
 by_cases hn:n<0
 · go_enter Try.func69,Try.ntmps69;go_wp2_with fail;refine (refFromUint_val n.natAbs _ _ (by omega) hb).mono ?_;rintro e w1 ⟨A,c,l,rfl,h1,h2,h3,h4⟩;go_wp2;go_ret;exact⟨A,c,l,rfl,h1,h2,h3,h4⟩
 · go_enter Try.func69,Try.ntmps69;go_wp2_with fail;refine (refFromUint_val n.natAbs _ _ (by omega) hb).mono ?_;rintro e w1 ⟨A,c,l,rfl,h1,h2,h3,h4⟩;go_wp2;go_ret;exact⟨A,c,l,rfl,h1,h2,h3,h4⟩
set_option maxRecDepth 100000 in
set_option maxHeartbeats 1000000 in
theorem refMake_any {neg:Bool}{A B:Option Addr}{ca cb:Nat}{la lb:List Nat}{w:World}(ha:Nv w A ca la) (hb:Nv w B cb lb) (h0:val lb≠0) (hca:Canon la) (hcb:Canon lb) (hla:la.length≤400000000) (hlb:lb.length≤400000000) :
 Calls Try.prog 64 #[.bool neg,.slice A la.length ca,.slice B lb.length cb] w (RetQE (mkRat (sg neg (val la)) (val lb)) w):=by
 have hlp:lb≠[]:=fun e=>h0 (by rw[e];rfl);have hlen:(((lb.length:Nat):Int) == 0)=false:=by rw[beq_eq_false_iff_ne];have:=List.length_pos_iff.2 hlp;omega
 have hbg:=hb.big;obtain⟨w0,hw0,bw0,hlt0,hB0⟩:=boxed w #[.bool false,.slice none 0 0,.slice none 0 0] 28;have ha0:=ha.below bw0;have hb0:=hb.below bw0;have hg0:Nat.gcd (val la) (val lb)≠0:=fun e=>h0 (Nat.eq_zero_of_gcd_eq_zero_right e);clear hlp;go_enter Try.func64,Try.ntmps64;go_wp2_with fail;refine (refGcd_any ha0 hb0 hca hcb hla hlb).mono ?_;rintro e w1 ⟨G,cg,lg,rfl,ng,ig,mg,b1⟩;have ig':=Lib.hid ig;clear ig;go_wp2_with fail;refine (refDivMod_any (ha0.below b1) ng ig'.out.canon (by omega) (by omega)).mono ?_;rintro e w2 ⟨A2,c2,q2,R2,s2,r2,rfl,nq,nr,iq,ir,lq,lr,b2⟩;rw[ig'.out.val,if_neg hg0] at iq;have iq':=Lib.hid iq;have hz1:(if val lg=0 then (8:Int) else 0)=0:=by rw[ig'.out.val,if_neg hg0]
 rw[hz1];clear iq ir hz1;go_wp2_with fail;refine (refDivMod_any ((hb0.below b1).below b2) (ng.below b2) ig'.out.canon (by omega) (by omega)).mono ?_;rintro e w3 ⟨A3,c3,q3,R3,s3,r3,rfl,nq3,nr3,iq3,ir3,lq3,lr3,b3⟩;rw[ig'.out.val,if_neg hg0] at iq3;have iq3':=Lib.hid iq3;have hz1:(if val lg=0 then (8:Int) else 0)=0:=by rw[ig'.out.val,if_neg hg0]
 rw[hz1];clear iq3 ir3 hz1;have b13:=(b1.trans (b2.mono b1.size));have b13:=b13.trans (b3.mono b13.size);have hB3:=hB0.keep b13;have bw3:=bw0.trans (b13.mono (Nat.le_of_lt hlt0));have y0:=hB3.f0;have y1:=hB3.f1;have y2:=hB3.f2;have z0:=hB3.free 0;have z1:=hB3.free 1;have z2:=hB3.free 2
 have hqp:decide (0<la.length)=decide (0<val la / Nat.gcd (val la) (val lb)):=by
  rw[decide_eq_decide];have ila:NatIs la (val la):=⟨ha.dig,hca,rfl⟩
  constructor
  · intro h
    rcases Nat.eq_zero_or_pos (val la) with h1 | h1
    · rw[ila.zero_iff.2 h1] at h;simp at h
    · exact Nat.div_pos (Nat.le_of_dvd h1 (Nat.gcd_dvd_left _ _)) (Nat.pos_of_ne_zero hg0)
  · intro h;refine ila.pos (Nat.pos_of_ne_zero fun e=>?_);rw[e] at h;simp at h
 obtain⟨nz,hnz⟩:∃ b,decide (0<val la / Nat.gcd (val la) (val lb))=b:=⟨_,rfl⟩;rw[hnz] at hqp;have hQ:=Lib.hid (fun (neg':Bool) (h:neg'=(neg&&nz))=>qIs_make (neg:=neg) (neg':=neg') h0 iq'.out iq3'.out (by rw[hnz];exact h));clear hnz;have nq1:=nq.below b3;clear b1 b2 b3
 rcases neg with _ | _
 · go_wp2;obtain⟨w9,hw9,hB9,o9⟩:=hB3.set3 (.bool false) (.slice A2 q2.length c2) (.slice A3 q3.length c3);rw[hw9];have e0:=hB9.f0;have e1:=hB9.f1;have e2:=hB9.f2;have m1:=nq1.only_blk hB3 (noDig3 _ _ _ _ _ _ _) o9;have m2:=nq3.only_blk hB3 (noDig3 _ _ _ _ _ _ _) o9;refine bodyPost_ret (v:=.tuple #[fracV false A2 q2.length c2 A3 q3.length c3,.int .i64 0]) (by simp[results,Try.results64,go_sem,e0,e1,e2]) rfl ?_;exact⟨_,rfl,⟨_,A2,c2,q2,A3,c3,q3,rfl,m1,m2,hQ.out _ (by simp)⟩,o9.to_below bw3 (Nat.le_refl _) bw3.size⟩
 · go_wp2;obtain⟨w9,hw9,hB9,o9⟩:=hB3.set3 (.bool nz) (.slice A2 q2.length c2) (.slice A3 q3.length c3);rw[hw9];have e0:=hB9.f0;have e1:=hB9.f1;have e2:=hB9.f2;have m1:=nq1.only_blk hB3 (noDig3 _ _ _ _ _ _ _) o9;have m2:=nq3.only_blk hB3 (noDig3 _ _ _ _ _ _ _) o9;refine bodyPost_ret (v:=.tuple #[fracV nz A2 q2.length c2 A3 q3.length c3,.int .i64 0]) (by simp[results,Try.results64,go_sem,e0,e1,e2]) rfl ?_;exact⟨_,rfl,⟨_,A2,c2,q2,A3,c3,q3,rfl,m1,m2,hQ.out _ (by simp)⟩,o9.to_below bw3 (Nat.le_refl _) bw3.size⟩
end Go.Proofs.Ytjhkapjadfpimaa
