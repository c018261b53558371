/- Contracts of functions, for the law. -/
import Derived.Test.YtjhkapjadfpimaaGreatRDiv
import Derived.Laws.BytesArg
namespace Go.Proofs.YtjhkapjadfpimaaGreat
set_option linter.unusedVariables false
set_option linter.unusedSimpArgs false
open Go.RowKit Plain
set_option maxRecDepth 100000
set_option maxHeartbeats 40000000
def yH (a b la lb:Nat) (w:World) (q r i:Value) (wr:World):Prop :=
 ∃ (k Q R cq cr:Nat) (A B:Option Addr) (lq lr:List Nat),i=.int .i64 ((k:Int)-1)∧k≤32*la+1∧q=.slice A lq.length cq∧r=.slice B lr.length cr∧Nv wr A cq lq∧Nv wr B cr lr∧Hid (NatIs lq Q)∧Hid (NatIs lr R) ∧
  Hid (Q*b+R=a / 2 ^ k)∧Hid (R<b)∧lq.length≤la∧lr.length≤lb∧Below w.heap.size w wr
theorem pQ {a b Q R k la:Nat}{l lq:List Nat}(hl:Dig l) (ha:val l=a) (hla:l.length=la) (hb:0<b) (hQ:NatIs lq Q) (h:Q*b+R=a / 2 ^ k):lq.length≤la:=by
 refine C0 hQ.canon ?_;rw[hQ.val,←hla];have h1:Q*1≤Q*b:=a3g _ hb;have h2:a / 2 ^ k≤a:=Nat.div_le_self _ _;have h3:=E0 hl;omega
theorem cT {b R:Nat}{lb lr:List Nat}(hl:Dig lb) (hb:val lb=b) (hR:NatIs lr R) (h:R<b):lr.length≤lb.length:=by
 refine C0 hR.canon ?_;rw[hR.val];have:=E0 hl;omega
theorem rd_start {a b k:Nat}(hb:0<b) (hk:N2 a≤k+(N2 b-1)):a / 2 ^ k<b:=by
 have c:2 ^ (N2 b-1)≤b:=by
  unfold N2;rw[if_neg (by omega),a3n];exact Nat.log2_self_le (by omega)
 have d:a<2 ^ N2 a:=by
  unfold N2
  split
  · subst_vars;simp
  · exact Nat.lt_log2_self
 refine a1o ((Nat.div_lt_iff_lt_mul (a3p k)).2 ?_) c;rw[←Nat.pow_add];exact a1o d (Nat.pow_le_pow_right (by omega) (by omega))
theorem oS {l:List Nat}(hd:Dig l):N2 (val l)≤32*l.length:=by
 unfold N2
 split
 · omega
 · rename_i h
   have h1:=(Nat.log2_lt h (k:=32*l.length)).2 (by rw[←pS];exact E0 hd);omega
theorem W9 {A B:Option Addr}{ca cb:Nat}{la lb:List Nat}{w:World}(ha:Nv w A ca la) (hb:Nv w B cb lb) (hcb:Canon lb) (hna:la.length≤400000000) (hnb:lb.length≤400000000) :
 Calls Tryz.prog 64 #[.slice A la.length ca,.slice B lb.length cb] w (RetDiv (val la) (val lb) (la.length+lb.length) w):=by
 rcases a3a lb.length with h0 | h0
 · obtain rfl:lb=[]:=a2a h0;clear h0;go_enter Tryz.func64,Tryz.ntmps64;go_wp2;refine a3z (results_tmp3 rfl _ _ _) rfl ?_;exact⟨none,0,[],none,0,[],rfl,aE _,aE _,NatIs.nil,NatIs.nil,by simp,by simp,a3t _ _⟩
 · have c:Hid (0<val lb):=by
    rcases a3a (val lb) with hz | hz
    · have:NatIs lb 0:=⟨hb.dig,hcb,hz⟩;rw[this.zero_iff.2 rfl] at h0
      simp at h0
    · exact hz
   obtain⟨a,f⟩:∃ a,Hid (val la=a):=⟨_,rfl⟩;obtain⟨b,d⟩:∃ b,Hid (val lb=b):=⟨_,rfl⟩;rw[d.out] at c;rw[f.out,d.out];have f3:(((lb.length:Nat):Int) == 0)=false:=by rw[beq_eq_false_iff_ne];omega
   have d5:=oS ha.dig;have d7:=oS hb.dig;rw[f.out] at d5;rw[d.out] at d7;have n:=fun k=>rd_start (a:=a) (k:=k) c.out;obtain⟨x,hx⟩:∃ x,Hid (N2 a=x):=⟨_,rfl⟩;obtain⟨y,hy⟩:∃ y,Hid (N2 b=y):=⟨_,rfl⟩;rw[hx.out] at d5;rw[hy.out] at d7
   simp only[hx.out,hy.out] at n
   have p:=a1k n;clear n
   have f2:1≤y:=by
    rw[←hy.out];unfold N2;rw[if_neg (by have:=c.out;omega)];omega
   have f4:(if (1:Int) < (y:Int) then (y:Int) else 1)=(y:Int):=by split <;> omega
   clear h0;go_enter Tryz.func64,Tryz.ntmps64;go_wp2_with fail;refine (jE ha (by omega)).mono ?_;rintro e w1 ⟨rfl,n1,rfl⟩;rw[f.out,hx.out];go_wp2_with fail;refine (jE (hb.below (C3 w n1)) (by omega)).mono ?_;rintro e w1 ⟨rfl,n2,rfl⟩;rw[d.out,hy.out]
   rcases (show (∃ k,(x:Int)-(y:Int)+1=(k:Nat)∧decide ((k:Int)≤0)=false∧1≤k∧k≤x∧x+1=y+k)∨(∃ k,k=0∧decide ((x:Int)-(y:Int)+1≤0)=true∧x+1≤y) by
    rcases a3h x y with h | h
    · exact .inr ⟨0,rfl,a1w (by omega),by omega⟩
    · exact .inl ⟨x+1-y,by omega,a1v (by omega),by omega,by omega,by omega⟩) with ⟨k,hk1,hk2,hk3,hk4,hk5⟩ | ⟨k,rfl,hk2,hk3⟩
   · go_wp2_with fail;refine (jC (k:=k) (ha.below (C3 w (n1+n2))) (by omega) (by omega)).mono ?_;rintro e w1 ⟨A1,c1,l1,rfl,h1,i1,m1,b1⟩;have hs:=a1k (p.out k (by omega));have b4:k≤32*la.length+1:=by omega
     clear hk1 hk2 hk3 hk4 hk5;go_wp2
     go_loopw [8,9,10] (fun q r i wr=>yH a b la.length lb.length w q r i wr) (fun _ _ i _=>(intOf i+1).toNat)
     case atStart=>exact⟨k,0,a / 2 ^ k,0,c1,none,A1,[],l1,rfl,b4,rfl,rfl,aE _,h1,NatIs.nil,f.out ▸ i1,by show _=_;rw[Nat.zero_mul,Nat.zero_add],hs.out,by simp,cT hb.dig d.out (f.out ▸ i1) hs.out,(C3 w (n1+n2)).trans b1⟩
     case round =>
      obtain⟨k',Q,R,cq,cr,Aq,Br,lq,lr,rfl,f0,rfl,rfl,nq,nr,iq,ir,E,L,d4,d6,v⟩:=hrel
      rcases k' with _ | j
      · have l:=sO E.out L.out;have c4:=a1k (show NatIs lq (if b=0 then 0 else a / b) by rw[if_neg (by have:=c.out;omega),←l.1];exact iq.out);have O:=a1k (show NatIs lr (if b=0 then 0 else a % b) by rw[if_neg (by have:=c.out;omega),←l.2];exact ir.out);have he:=a1k (show (if b=0 then (8:Int) else 0)=0 by rw[if_neg (by have:=c.out;omega)]);clear l;have T:decide ((0:Int)≤((0:Nat):Int)-1)=false:=by decide
        go_wp2;refine a3z (results_tmp3 rfl _ _ _) rfl ?_;exact⟨Aq,cq,lq,Br,cr,lr,by rw[he.out];rfl,nq,nr,c4,O,by omega,by omega,v⟩
      · have hj:((j+1:Nat):Int)-1=(j:Int):=by omega
        have T:decide ((0:Int)≤(j:Int))=true:=a1w (by omega);obtain⟨t,ht⟩:∃ t,Hid (a / 2 ^ j % 2=t):=⟨_,rfl⟩;have d9:t<2:=ht.out ▸ a3l _ (by omega);have d0:t<pw 2:=by simp only[pw];omega
        rw[hj];go_wp2_with fail;refine (H9 _ _ _ _ _ _ _ nq nq (by omega) (by omega)).mono ?_;rintro e w2 ⟨A2,c2,l2,rfl,d1,i2,m2,b2⟩;have D:=a1k (show NatIs l2 (Q+Q) by have h:=i2;rw[iq.out.val] at h;exact h);have U:=a1j v b2;clear i2;go_wp2_with fail;refine (H9 _ _ _ _ _ _ _ (nr.below b2) (nr.below b2) (by omega) (by omega)).mono ?_;rintro e w3 ⟨A3,c3,l3,rfl,n3,i3,m3,b3⟩;have V:=a1k (show NatIs l3 (R+R) by have h:=i3;rw[ir.out.val] at h;exact h);have C:=a1j U b3;clear i3;go_wp2_with fail;refine (eM (i:=j) (ha.below C) (by omega)).mono ?_;rintro e w4 ⟨rfl,n4,rfl⟩;rw[f.out,ht.out];have Y:=C.trans ((C3 w3 n4).mono C.size);go_wp2_with fail;refine (K0 t _ d0).mono ?_;rintro e w5 ⟨A5,c5,l5,rfl,n5,i5,m5,b5⟩;have b0:=a1k i5;have Z:=a1j Y b5;clear i5;go_wp2_with fail;refine (H9 _ _ _ _ _ _ _ ((n3.below (C3 w3 n4)).below b5) n5 (by omega) (by omega)).mono ?_;rintro e w6 ⟨A6,c6,l6,rfl,n6,i6,m6,b6⟩;have g:=a1k (show NatIs l6 (R+R+t) by have h:=i6;rw[V.out.val,b0.out.val] at h;exact h);have o:=a1j Z b6;clear i6;go_wp2_with fail;refine (eK n6 (hb.below o) (by omega) (by omega)).mono ?_;rintro e w7 ⟨rfl,rfl⟩;obtain⟨cc,z⟩:∃ cc,Hid (O1 (val l6) (val lb)=cc):=⟨_,rfl⟩
        rw[z.out];have I:=(((d1.below b3).below (C3 w3 n4)).below b5).below b6
        by_cases hge:b≤R+R+t
        · have b7:decide ((0:Int)≤cc)=true:=a1w (by
           rw[←z.out];have h:=J8 (val l6) (val lb);rw[g.out.val,d.out] at h ⊢
           omega)
          have H:=a1k hge;clear hge;go_wp2_with fail;refine (U1 _ _ _ _ _ _ _ n6 (hb.below o) (by omega) (by omega)).mono ?_;rintro e w8 ⟨A8,c8,l8,rfl,n8,i8,m8,b8⟩;have F:=a1k (show NatIs l8 (R+R+t-b) by have h:=i8;rw[g.out.val,d.out] at h;exact h);have c7:=a1j o b8;clear i8;go_wp2_with fail;refine (K0 1 _ (by simp[pw])).mono ?_;rintro e w9 ⟨A9,c9,l9,rfl,n9,i9,m9,b9⟩;have d2:=a1k i9;have c0:=a1j c7 b9;clear i9;go_wp2_with fail;refine (H9 _ _ _ _ _ _ _ ((I.below b8).below b9) n9 (by omega) (by omega)).mono ?_;rintro e f1 ⟨d3,vX,N,rfl,X,G,d8,M⟩;have s:=a1k (show NatIs N (Q+Q+1) by have h:=G;rw[D.out.val,d2.out.val] at h;exact h);have J:=a1j c0 M;clear G;have hq:=a1k (xR (Q2:=Q+Q+1) (R2:=R+R+t-b) E.out rfl (by rw[ht.out]) (by rw[ht.out];exact H.out));have m:=a1k (show R+R+t-b<b by have:=L.out;omega);go_wp2;go_roundw
          case rel=>exact⟨j,Q+Q+1,R+R+t-b,vX,c8,d3,A8,N,l8,rfl,by omega,rfl,rfl,X,(n8.below b9).below M,s,F,hq,m,pQ ha.dig f.out rfl c.out s.out hq.out,cT hb.dig d.out F.out m.out,J⟩
          case measure=>simp[intOf]
        · have b7:decide ((0:Int)≤cc)=false:=a1v (by
           rw[←z.out];have h:=J8 (val l6) (val lb);rw[g.out.val,d.out] at h ⊢
           omega)
          have hq:=a1k (xQ (Q2:=Q+Q) (R2:=R+R+t) E.out rfl (by rw[ht.out]));have m:=a1k (show R+R+t<b by omega);clear hge;go_wp2;go_roundw
          case rel=>exact⟨j,Q+Q,R+R+t,c2,c6,A2,A6,l2,l6,rfl,by omega,rfl,rfl,I,n6,D,g,hq,m,pQ ha.dig f.out rfl c.out D.out hq.out,cT hb.dig d.out g.out m.out,o⟩
          case measure=>simp[intOf]
   · go_wp2_with fail;refine (jC (k:=0) (ha.below (C3 w (n1+n2))) (by omega) (by omega)).mono ?_;rintro e w1 ⟨A1,c1,l1,rfl,h1,i1,m1,b1⟩;have hs:=a1k (p.out 0 (by omega));have b4:0≤32*la.length+1:=by omega
     clear hk2 hk3;go_wp2
     go_loopw [8,9,10] (fun q r i wr=>yH a b la.length lb.length w q r i wr) (fun _ _ i _=>(intOf i+1).toNat)
     case atStart=>exact⟨0,0,a / 2 ^ 0,0,c1,none,A1,[],l1,rfl,b4,rfl,rfl,aE _,h1,NatIs.nil,f.out ▸ i1,by show _=_;rw[Nat.zero_mul,Nat.zero_add],hs.out,by simp,cT hb.dig d.out (f.out ▸ i1) hs.out,(C3 w (n1+n2)).trans b1⟩
     case round =>
      obtain⟨k',Q,R,cq,cr,Aq,Br,lq,lr,rfl,f0,rfl,rfl,nq,nr,iq,ir,E,L,d4,d6,v⟩:=hrel
      rcases k' with _ | j
      · have l:=sO E.out L.out;have c4:=a1k (show NatIs lq (if b=0 then 0 else a / b) by rw[if_neg (by have:=c.out;omega),←l.1];exact iq.out);have O:=a1k (show NatIs lr (if b=0 then 0 else a % b) by rw[if_neg (by have:=c.out;omega),←l.2];exact ir.out);have he:=a1k (show (if b=0 then (8:Int) else 0)=0 by rw[if_neg (by have:=c.out;omega)]);clear l;have T:decide ((0:Int)≤((0:Nat):Int)-1)=false:=by decide
        go_wp2;refine a3z (results_tmp3 rfl _ _ _) rfl ?_;exact⟨Aq,cq,lq,Br,cr,lr,by rw[he.out];rfl,nq,nr,c4,O,by omega,by omega,v⟩
      · have hj:((j+1:Nat):Int)-1=(j:Int):=by omega
        have T:decide ((0:Int)≤(j:Int))=true:=a1w (by omega);obtain⟨t,ht⟩:∃ t,Hid (a / 2 ^ j % 2=t):=⟨_,rfl⟩;have d9:t<2:=ht.out ▸ a3l _ (by omega);have d0:t<pw 2:=by simp only[pw];omega
        rw[hj];go_wp2_with fail;refine (H9 _ _ _ _ _ _ _ nq nq (by omega) (by omega)).mono ?_;rintro e w2 ⟨A2,c2,l2,rfl,d1,i2,m2,b2⟩;have D:=a1k (show NatIs l2 (Q+Q) by have h:=i2;rw[iq.out.val] at h;exact h);have U:=a1j v b2;clear i2;go_wp2_with fail;refine (H9 _ _ _ _ _ _ _ (nr.below b2) (nr.below b2) (by omega) (by omega)).mono ?_;rintro e w3 ⟨A3,c3,l3,rfl,n3,i3,m3,b3⟩;have V:=a1k (show NatIs l3 (R+R) by have h:=i3;rw[ir.out.val] at h;exact h);have C:=a1j U b3;clear i3;go_wp2_with fail;refine (eM (i:=j) (ha.below C) (by omega)).mono ?_;rintro e w4 ⟨rfl,n4,rfl⟩;rw[f.out,ht.out];have Y:=C.trans ((C3 w3 n4).mono C.size);go_wp2_with fail;refine (K0 t _ d0).mono ?_;rintro e w5 ⟨A5,c5,l5,rfl,n5,i5,m5,b5⟩;have b0:=a1k i5;have Z:=a1j Y b5;clear i5;go_wp2_with fail;refine (H9 _ _ _ _ _ _ _ ((n3.below (C3 w3 n4)).below b5) n5 (by omega) (by omega)).mono ?_;rintro e w6 ⟨A6,c6,l6,rfl,n6,i6,m6,b6⟩;have g:=a1k (show NatIs l6 (R+R+t) by have h:=i6;rw[V.out.val,b0.out.val] at h;exact h);have o:=a1j Z b6;clear i6;go_wp2_with fail;refine (eK n6 (hb.below o) (by omega) (by omega)).mono ?_;rintro e w7 ⟨rfl,rfl⟩;obtain⟨cc,z⟩:∃ cc,Hid (O1 (val l6) (val lb)=cc):=⟨_,rfl⟩
        rw[z.out];have I:=(((d1.below b3).below (C3 w3 n4)).below b5).below b6
        by_cases hge:b≤R+R+t
        · have b7:decide ((0:Int)≤cc)=true:=a1w (by
           rw[←z.out];have h:=J8 (val l6) (val lb);rw[g.out.val,d.out] at h ⊢
           omega)
          have H:=a1k hge;clear hge;go_wp2_with fail;refine (U1 _ _ _ _ _ _ _ n6 (hb.below o) (by omega) (by omega)).mono ?_;rintro e w8 ⟨A8,c8,l8,rfl,n8,i8,m8,b8⟩;have F:=a1k (show NatIs l8 (R+R+t-b) by have h:=i8;rw[g.out.val,d.out] at h;exact h);have c7:=a1j o b8;clear i8;go_wp2_with fail;refine (K0 1 _ (by simp[pw])).mono ?_;rintro e w9 ⟨A9,c9,l9,rfl,n9,i9,m9,b9⟩;have d2:=a1k i9;have c0:=a1j c7 b9;clear i9;go_wp2_with fail;refine (H9 _ _ _ _ _ _ _ ((I.below b8).below b9) n9 (by omega) (by omega)).mono ?_;rintro e f1 ⟨d3,vX,N,rfl,X,G,d8,M⟩;have s:=a1k (show NatIs N (Q+Q+1) by have h:=G;rw[D.out.val,d2.out.val] at h;exact h);have J:=a1j c0 M;clear G;have hq:=a1k (xR (Q2:=Q+Q+1) (R2:=R+R+t-b) E.out rfl (by rw[ht.out]) (by rw[ht.out];exact H.out));have m:=a1k (show R+R+t-b<b by have:=L.out;omega);go_wp2;go_roundw
          case rel=>exact⟨j,Q+Q+1,R+R+t-b,vX,c8,d3,A8,N,l8,rfl,by omega,rfl,rfl,X,(n8.below b9).below M,s,F,hq,m,pQ ha.dig f.out rfl c.out s.out hq.out,cT hb.dig d.out F.out m.out,J⟩
          case measure=>simp[intOf]
        · have b7:decide ((0:Int)≤cc)=false:=a1v (by
           rw[←z.out];have h:=J8 (val l6) (val lb);rw[g.out.val,d.out] at h ⊢
           omega)
          have hq:=a1k (xQ (Q2:=Q+Q) (R2:=R+R+t) E.out rfl (by rw[ht.out]));have m:=a1k (show R+R+t<b by omega);clear hge;go_wp2;go_roundw
          case rel=>exact⟨j,Q+Q,R+R+t,c2,c6,A2,A6,l2,l6,rfl,by omega,rfl,rfl,I,n6,D,g,hq,m,pQ ha.dig f.out rfl c.out D.out hq.out,cT hb.dig d.out g.out m.out,o⟩
          case measure=>simp[intOf]
theorem kU {A B:Option Addr}{ca cb:Nat}{la lb:List Nat}{w:World}(ha:Nv w A ca la) (hb:Nv w B cb lb) (hca:Canon la) (hcb:Canon lb) (hna:la.length≤400000000) (hnb:lb.length≤400000000) :
 Calls Tryz.prog 38 #[.slice A la.length ca,.slice B lb.length cb] w (K5 (Nat.gcd (val la) (val lb)) 400000000 w):=by
 have ia:NatIs la (val la):=⟨ha.dig,hca,rfl⟩;have ib:NatIs lb (val lb):=⟨hb.dig,hcb,rfl⟩;go_enter Tryz.func38,Tryz.ntmps38;go_wp2
 go_loopg [0,1] (val lb) (fun g a b wr=>GcdInv (Nat.gcd (val la) (val lb)) 400000000 w g a b wr)
 case atStart=>exact⟨A,ca,la,B,cb,lb,val la,val lb,rfl,rfl,ha,hb,ia,ib,rfl,rfl,hna,hnb,a3t _ _⟩
 case round =>
  obtain⟨A,ca,k,B,cb,c,x,y,rfl,rfl,h1,h2,n1,n2,rfl,hG,m1,m2,d⟩:=hrel;have m:=h2.big
  by_cases hz:c.length=0
  · have hy:Hid (gk=0):=by
     have:c=[]:=a2a hz
     show gk=0
     exact (n2.zero_iff).1 this
    have hd:decide (0<c.length)=false:=a1v (by omega);have l:=a1k (show val k=Nat.gcd (val la) (val lb) by rw[n1.val,←hG.out,hy.out,Nat.gcd_zero_right]);go_wp2_with fail;refine (L2 h1 (by omega)).mono ?_;rintro e w1 ⟨A1,c1,l1,rfl,k1,k2,k3,k4⟩;go_wp2;go_ret;exact⟨A1,c1,l1,rfl,k1,l.out ▸ k2,by omega,(a1j d k4)⟩
  · have hy:Hid (gk≠0):=fun e=>hz (by rw[(n2.zero_iff).2 e];rfl);have hd:decide (0<c.length)=true:=a1w (by omega);clear hz;go_wp2_with fail;refine (W9 h1 h2 n2.canon (by omega) (by omega)).mono ?_;rintro e w3 ⟨A3,c3,q,B3,d3,r,rfl,hq,hr,nq,nr,lq,lr,b3⟩;rw[n2.val,if_neg hy.out] at nr;rw[n2.val,if_neg hy.out];rw[n1.val] at nr;have f:=a1k (a3l x (a2s hy.out))
    have j:=a1k (show r.length≤400000000 from a1t (C0 nr.canon (by
     have h:=E0 n2.dig;rw[n2.val] at h;rw[nr.val];exact Nat.lt_trans f.out h)) m2)
    go_wp2
    go_roundg (x % gk)
    case measure=>exact f.out
    case rel=>exact⟨B,cb,c,B3,d3,r,gk,x % gk,rfl,rfl,h2.below b3,hr,n2,nr,rfl,by show Nat.gcd _ _=_;rw[sV];exact hG.out,m2,j.out,(a1j d b3)⟩
attribute [local go_sem ↓] Go.wp_at_zero Go.wp_at_succ
theorem aV (x:Nat) (n:Int) (w:World) (hn:n=(x:Int)) (hx:x<pw 2):Calls Tryz.prog 69 #[.int .u64 n] w (K5 x 2 w):=by
 subst hn;exact K0 x w hx
theorem jA (n:Int) (w:World) (h1:-9223372036854775808≤n) (h2:n≤9223372036854775807) :
 Calls Tryz.prog 41 #[.int .i64 n] w (K5 n.natAbs 2 w):=by
 have hb:n.natAbs<pw 2:=by simp only[pw];omega
 by_cases hn:n<0
 · go_enter Tryz.func41,Tryz.ntmps41;go_wp2_with fail;refine (aV n.natAbs _ _ (by omega) hb).mono ?_;rintro e w1 ⟨A,c,l,rfl,h1,h2,h3,h4⟩;go_wp2;go_ret;exact⟨A,c,l,rfl,h1,h2,h3,h4⟩
 · go_enter Tryz.func41,Tryz.ntmps41;go_wp2_with fail;refine (aV n.natAbs _ _ (by omega) hb).mono ?_;rintro e w1 ⟨A,c,l,rfl,h1,h2,h3,h4⟩;go_wp2;go_ret;exact⟨A,c,l,rfl,h1,h2,h3,h4⟩
theorem N4 {neg:Bool}{A B:Option Addr}{ca cb:Nat}{la lb:List Nat}{w:World}(ha:Nv w A ca la) (hb:Nv w B cb lb) (h0:val lb≠0) (hca:Canon la) (hcb:Canon lb) (hla:la.length≤400000000) (hlb:lb.length≤400000000) :
 Calls Tryz.prog 40 #[.bool neg,.slice A la.length ca,.slice B lb.length cb] w (tO (mkRat (sg neg (val la)) (val lb)) w):=by
 have s:lb≠[]:=fun e=>h0 (by rw[e];rfl);have I:(((lb.length:Nat):Int) == 0)=false:=by rw[beq_eq_false_iff_ne];have:=List.length_pos_iff.2 s;omega
 have N:=hb.big;obtain⟨w0,L,o,q,D⟩:=f8 w #[.bool false,.slice none 0 0,.slice none 0 0] 28;have z:=ha.below o;have x:=hb.below o;have j:Nat.gcd (val la) (val lb)≠0:=fun e=>h0 (Nat.eq_zero_of_gcd_eq_zero_right e);clear s;go_enter Tryz.func40,Tryz.ntmps40;go_wp2_with fail;refine (kU z x hca hcb hla hlb).mono ?_;rintro e w1 ⟨G,cg,lg,rfl,ng,ig,mg,b1⟩;have f:=a1k ig;clear ig;go_wp2_with fail;refine (W9 (z.below b1) ng f.out.canon (by omega) (by omega)).mono ?_;rintro e w2 ⟨A2,c2,q2,R2,s2,r2,rfl,nq,nr,iq,ir,lq,lr,b2⟩;rw[f.out.val,if_neg j] at iq;have F:=a1k iq;have g:(if val lg=0 then (8:Int) else 0)=0:=by rw[f.out.val,if_neg j]
 rw[g];clear iq ir g;go_wp2_with fail;refine (W9 ((x.below b1).below b2) (ng.below b2) f.out.canon (by omega) (by omega)).mono ?_;rintro e w3 ⟨A3,c3,q3,R3,s3,r3,rfl,r,J,n,E,O,M,b3⟩;rw[f.out.val,if_neg j] at n;have t:=a1k n;have g:(if val lg=0 then (8:Int) else 0)=0:=by rw[f.out.val,if_neg j]
 rw[g];clear n E g;have k:=((a1j b1 b2));have k:=a1j k b3;have c:=D.keep k;have l:=o.trans (k.mono (a3f q));have y0:=c.f0;have y1:=c.f1;have y2:=c.f2;have z0:=c.free 0;have z1:=c.free 1;have z2:=c.free 2
 have H:decide (0<la.length)=decide (0<val la / Nat.gcd (val la) (val lb)):=by
  rw[decide_eq_decide];have y:NatIs la (val la):=⟨ha.dig,hca,rfl⟩
  constructor
  · intro h
    rcases a3a (val la) with h1 | h1
    · rw[y.zero_iff.2 h1] at h;simp at h
    · exact Nat.div_pos (Nat.le_of_dvd h1 (Nat.gcd_dvd_left _ _)) (a2s j)
  · intro h;refine y.pos (a2s fun e=>?_);rw[e] at h;simp at h
 obtain⟨nz,m⟩:∃ b,decide (0<val la / Nat.gcd (val la) (val lb))=b:=⟨_,rfl⟩;rw[m] at H;have hQ:=a1k (fun (neg':Bool) (h:neg'=(neg&&nz))=>kX (neg:=neg) (neg':=neg') h0 F.out t.out (by rw[m];exact h));clear m;have C:=nq.below b3;clear b1 b2 b3
 rcases neg with _ | _
 · go_wp2;obtain⟨w9,p,d,o9⟩:=c.set3 (.bool false) (.slice A2 q2.length c2) (.slice A3 q3.length c3);rw[p];have e0:=d.f0;have e1:=d.f1;have e2:=d.f2;have m1:=C.only_blk c (k7 _ _ _ _ _ _ _) o9;have m2:=r.only_blk c (k7 _ _ _ _ _ _ _) o9;refine a3z (v:=.tuple #[B8 false A2 q2.length c2 A3 q3.length c3,.int .i64 0]) (by simp[results,Tryz.results40,go_sem,e0,e1,e2]) rfl ?_;exact⟨_,rfl,⟨_,A2,c2,q2,A3,c3,q3,rfl,m1,m2,hQ.out _ (by simp)⟩,o9.to_below l (a1u _) l.size⟩
 · go_wp2;obtain⟨w9,p,d,o9⟩:=c.set3 (.bool nz) (.slice A2 q2.length c2) (.slice A3 q3.length c3);rw[p];have e0:=d.f0;have e1:=d.f1;have e2:=d.f2;have m1:=C.only_blk c (k7 _ _ _ _ _ _ _) o9;have m2:=r.only_blk c (k7 _ _ _ _ _ _ _) o9;refine a3z (v:=.tuple #[B8 nz A2 q2.length c2 A3 q3.length c3,.int .i64 0]) (by simp[results,Tryz.results40,go_sem,e0,e1,e2]) rfl ?_;exact⟨_,rfl,⟨_,A2,c2,q2,A3,c3,q3,rfl,m1,m2,hQ.out _ (by simp)⟩,o9.to_below l (a1u _) l.size⟩
def bM (n1:Bool) (a1 b1:List Nat) (n2:Bool) (a2 b2:List Nat):Bool:=(n1 == n2)&&(decide (a1=a2)&&decide (b1=b2))
def yI (la lb:List Nat) (w:World) (i:Value) (wr:World):Prop :=
 ∃ k:Nat,k≤la.length∧i=.int .i64 k∧Hid (la.take k=lb.take k)∧Below w.heap.size w wr
theorem zC {n1 n2:Bool}{A B C D:Option Addr}{ca cb cc cd:Nat}{a1 b1 a2 b2:List Nat}{w:World}(ha:Nv w A ca a1) (hb:Nv w B cb b1) (hc:Nv w C cc a2) (hd:Nv w D cd b2) :
 Calls Tryz.prog 15 #[B8 n1 A a1.length ca B b1.length cb,B8 n2 C a2.length cc D b2.length cd] w fun e w'=>e=.returned (.bool (bM n1 a1 b1 n2 a2 b2))∧Below w.heap.size w w':=by
 by_cases hn:n1=n2
 · subst hn;obtain⟨wa,R,r,n,s⟩:=f8 w #[.bool n1,.slice A a1.length ca,.slice B b1.length cb] 28;obtain⟨w0,H,m,v,g⟩:=f8 wa #[.bool n1,.slice C a2.length cc,.slice D b2.length cd] 28;have b0:=r.trans (m.mono (a3f n));have hA:=s.keep m;have x0:=hA.f0;have x1:=hA.f1;have x2:=hA.f2;have y0:=g.f0;have y1:=g.f1;have y2:=g.f2;have g1:=ha.big;have g2:=hb.big;have g3:=hc.big;have g4:=hd.big;have q:=ha.below b0;have E:=hb.below b0;have p:=hc.below b0;have x:=hd.below b0
   by_cases hl1:a1.length=a2.length
   · have F:(((a1.length:Nat):Int) != ((a2.length:Nat):Int))=false:=by rw[bne_eq_false_iff_eq];omega
     have G:=a1k hl1;have U:a1.length≤a2.length:=by omega
     clear hl1
     by_cases hl2:b1.length=b2.length
     · have t:(((b1.length:Nat):Int) != ((b2.length:Nat):Int))=false:=by rw[bne_eq_false_iff_eq];omega
       have y:=a1k hl2;have V:b1.length≤b2.length:=by omega
       have hr:Hid (bM n1 a1 b1 n1 a2 b2=(decide (a1=a2)&&decide (b1=b2))):=by show _=_;unfold bM;rw[beq_self_eq_true,Bool.true_and]
       rw[hr.out];clear hl2 hr;go_enter Tryz.func15,Tryz.ntmps15;go_wp2
       go_loopw [5] (fun i wr=>yI a1 a2 w0 i wr) (fun i _=>a1.length-(intOf i).toNat)
       case atStart=>exact⟨0,by omega,rfl,rfl,a3t _ _⟩
       case round =>
        obtain⟨k,hk,rfl,h,c⟩:=hrel;have k1:=(hA.keep c).f1;have m1:=(g.keep c).f1;have bT:=a1j b0 c
        by_cases hkl:k<a1.length
        · obtain⟨a,d,rfl,M,J,T,l⟩:=(q.below c).at (k:=k) hkl;obtain⟨b,f,rfl,L,N,I,j⟩:=(p.below c).at (k:=k) (by omega)
          by_cases hdf:d=f
          · subst hdf;have hf:=a1k (show a1.take (k+1)=a2.take (k+1) by rw[P7 a1 k hkl,P7 a2 k (by omega),h.out,l.out,j.out]);go_wp2
            go_quiet (fail)
            go_wp2;go_roundw
            case rel=>exact⟨k+1,by omega,by go_num,hf,G1 c _⟩
            case measure=>simp[intOf];omega
          · have hf:=a1k (show a1≠a2 by intro e;subst e;exact hdf (l.out.symm.trans j.out));have z:((d:Int) != (f:Int))=true:=by rw[bne_iff_ne];omega
            go_wp2
            go_quiet (fail)
            go_wp2;go_ret;refine⟨?_,G1 bT _⟩;rw[a1v hf.out];rfl
        · obtain rfl:k=a1.length:=by omega
          have hf:=a1k (show a1=a2 by
           have:=h.out;rw[a2z,G.out,a2z] at this;exact this)
          clear x0 x1 x2 y0 y1 y2 q p h;go_wp2
          rename_i wr
          go_loopw [6] (fun i wr=>yI b1 b2 w0 i wr) (fun i _=>b1.length-(intOf i).toNat)
          case atStart=>exact⟨0,by omega,rfl,rfl,c⟩
          case round =>
           obtain⟨k,hk,rfl,h,c⟩:=hrel;have k2:=(hA.keep c).f2;have m2:=(g.keep c).f2;have bT:=a1j b0 c
           by_cases hkl:k<b1.length
           · obtain⟨a,d,rfl,M,J,T,l⟩:=(E.below c).at (k:=k) hkl;obtain⟨b,f,rfl,L,N,I,j⟩:=(x.below c).at (k:=k) (by omega)
             by_cases hdf:d=f
             · subst hdf;have hf:=a1k (show b1.take (k+1)=b2.take (k+1) by rw[P7 b1 k hkl,P7 b2 k (by omega),h.out,l.out,j.out]);go_wp2
               go_quiet (fail)
               go_wp2;go_roundw
               case rel=>exact⟨k+1,by omega,by go_num,hf,G1 c _⟩
               case measure=>simp[intOf];omega
             · have o:=a1k (show b1≠b2 by intro e;subst e;exact hdf (l.out.symm.trans j.out));have z:((d:Int) != (f:Int))=true:=by rw[bne_iff_ne];omega
               go_wp2
               go_quiet (fail)
               go_wp2;go_ret;refine⟨?_,G1 bT _⟩;rw[a1v o.out,Bool.and_false];rfl
           · obtain rfl:k=b1.length:=by omega
             have o:=a1k (show b1=b2 by
              have:=h.out;rw[a2z,y.out,a2z] at this;exact this)
             go_wp2;go_ret;refine⟨?_,bT⟩;rw[a1w hf.out,a1w o.out];rfl
     · have t:(((b1.length:Nat):Int) != ((b2.length:Nat):Int))=true:=by rw[bne_iff_ne];omega
       have hr:Hid (bM n1 a1 b1 n1 a2 b2=false):=by
        show _=_;unfold bM
        rw[a1v (show ¬ b1=b2 from fun e=>hl2 (by rw[e])),Bool.and_false,Bool.and_false]
       rw[hr.out];clear hl2 hr;go_enter Tryz.func15,Tryz.ntmps15;go_wp2;go_ret;exact⟨rfl,b0⟩
   · have F:(((a1.length:Nat):Int) != ((a2.length:Nat):Int))=true:=by rw[bne_iff_ne];omega
     have hr:Hid (bM n1 a1 b1 n1 a2 b2=false):=by
      show _=_;unfold bM
      rw[a1v (show ¬ a1=a2 from fun e=>hl1 (by rw[e])),Bool.false_and,Bool.and_false]
     rw[hr.out];clear hl1 hr;go_enter Tryz.func15,Tryz.ntmps15;go_wp2;go_ret;exact⟨rfl,b0⟩
 · have O:(n1 == n2)=false:=by simpa using hn
   obtain⟨wa,R,r,n,s⟩:=f8 w #[.bool n1,.slice A a1.length ca,.slice B b1.length cb] 28;obtain⟨w0,H,m,v,g⟩:=f8 wa #[.bool n2,.slice C a2.length cc,.slice D b2.length cd] 28;have b0:=r.trans (m.mono (a3f n));have hA:=s.keep m;have x0:=hA.f0;have x1:=hA.f1;have x2:=hA.f2;have y0:=g.f0;have y1:=g.f1;have y2:=g.f2;have g1:=ha.big;have g2:=hb.big;have g3:=hc.big;have g4:=hd.big;have q:=ha.below b0;have E:=hb.below b0;have p:=hc.below b0;have x:=hd.below b0;have hr:Hid (bM n1 a1 b1 n2 a2 b2=false):=by show _=_;unfold bM;rw[O,Bool.false_and]
   rw[hr.out];clear hn hr;go_enter Tryz.func15,Tryz.ntmps15;go_wp2;go_ret;exact⟨rfl,b0⟩
theorem same_q {n1 n2:Bool}{a1 b1 a2 b2:List Nat}{p q:Rat}(h1:QIs n1 a1 b1 p) (h2:QIs n2 a2 b2 q):bM n1 a1 b1 n2 a2 b2=decide (p=q):=by
 unfold bM;rw[Bool.eq_iff_iff,a3m,a3m,beq_iff_eq,decide_eq_true_eq,decide_eq_true_eq,decide_eq_true_eq]
 constructor
 · rintro ⟨rfl,rfl,rfl⟩;exact h1.inj h2
 · rintro rfl;exact h1.uniq h2
def gJ (b:Bool) (W:World) (e:Ending) (w':World):Prop:=e=.returned (.bool b)∧Below W.heap.size W w'
theorem cO {v u:Value}{p q:Rat}{w:World}(hv:FV w v p) (hu:FV w u q):Calls Tryz.prog 15 #[v,u] w (gJ (decide (p=q)) w):=by
 obtain⟨n1,A,ca,la,B,cb,lb,rfl,na,nb,iq⟩:=hv;obtain⟨n2,C,cc,lc,D,cd,ld,rfl,nc,nd,ir⟩:=hu;rw[←same_q iq ir];exact zC na nb nc nd
theorem uD {l:List Nat}(h:l.length=1):l=[l.getD 0 0]:=by
 match l,h with
 | [d],_=>rfl
theorem xI {l:List Nat}(h:l.length≠1):decide (l=[1])=false:=a1v fun e=>h (by rw[e];rfl)
theorem sE {l:List Nat}{d:Nat}(h:l.length=1) (hd:l.getD 0 0=d):decide (l=[1])=decide (d=1):=by
 rw[decide_eq_decide,uD h,hd]
 simp
theorem gcd_nil {l:List Nat}(h:Canon l) (hd:Dig l):decide (Nat.gcd (val []) (val l)=1)=decide (l=[1]):=by
 rw[xJ (n:=val l) ⟨hd,h,rfl⟩,decide_eq_decide,wL,Nat.gcd_zero_left]
theorem D2 {A:Option Addr}{c:Nat}{l:List Nat}{w:World}(h:Nv w A c l) (b:Bool) (hb:S0 l=b) :
 Calls Tryz.prog 37 #[.slice A l.length c] w fun e w'=>e=.returned (.bool b)∧w=w':=by
 subst hb;exact pJ h
theorem dQ {neg:Bool}{A B:Option Addr}{ca cb:Nat}{la lb:List Nat}{w:World}(ha:Nv w A ca la) (hb:Nv w B cb lb) (hla:la.length≤400000000) (hlb:lb.length≤400000000) :
 Calls Tryz.prog 19 #[B8 neg A la.length ca B lb.length cb] w (gJ (bI neg la lb) w):=by
 obtain⟨w0,J,g,s,o⟩:=f8 w #[.bool neg,.slice A la.length ca,.slice B lb.length cb] 28;have k0:=o.f0;have k1:=o.f1;have k2:=o.f2;have j:=ha.below g;have h:=hb.below g;have M:=hb.big;have L:=ha.big
 by_cases hv1:S0 la=true
 · by_cases hv2:S0 lb=true
   · have y:=M9 hv1;have t:=M9 hv2;have c:=a1k hv1;have f:=a1k hv2
     by_cases hz2:lb.length=0
     · have hr:Hid (bI neg la lb=false):=by show _=_;unfold bI;rw[hv1,hv2,←gO,hz2];rfl
       have hz:(((lb.length:Nat):Int) == 0)=true:=by rw[hz2];rfl
       rw[hr.out];clear hr hz2 hv1 hv2;go_enter Tryz.func19,Tryz.ntmps19;go_wp2_with fail;refine (D2 j true c.out).mono ?_;rintro e w1 ⟨rfl,rfl⟩;go_wp2_with fail;refine (D2 h true f.out).mono ?_;rintro e w1 ⟨rfl,rfl⟩;go_wp2;go_ret;exact⟨rfl,g⟩
     · have hz:(((lb.length:Nat):Int) == 0)=false:=by rw[beq_eq_false_iff_ne];omega
       have m:bG lb=false:=by rw[←gO];exact hz
       by_cases hz1:la.length=0
       · obtain rfl:la=[]:=a2a hz1
         have hr:Hid (bI neg [] lb=(!neg&&decide (lb=[1]))):=by
          show _=_
          unfold bI;rw[hv1,hv2,m,show bG []=true from rfl,gcd_nil t hb.dig]
          cases neg <;> simp
         rw[hr.out];clear hr hz1 hv1 hv2 m y
         simp only[List.length_nil] at *
         rcases neg with _ | _
         · by_cases h1:lb.length=1
           · have q:(((lb.length:Nat):Int) == 1)=true:=by rw[beq_iff_eq];omega
             obtain⟨b,d,rfl,H,r,F,p⟩:=h.at (k:=0) (by omega);have x:=jM r;have D:0<lb.length:=by omega
             have ho:=a1k (sE h1 p.out);rw[ho.out];have E:((d:Int) == 1)=decide (d=1):=by rw[Bool.eq_iff_iff,beq_iff_eq,decide_eq_true_eq];omega
             clear h1;go_enter Tryz.func19,Tryz.ntmps19;go_wp2_with fail;refine (D2 (l:=[]) j true c.out).mono ?_;rintro e w1 ⟨rfl,rfl⟩;go_wp2_with fail;refine (D2 h true f.out).mono ?_;rintro e w1 ⟨rfl,rfl⟩;go_wp2;go_ret;exact⟨rfl,g⟩
           · have q:(((lb.length:Nat):Int) == 1)=false:=by rw[beq_eq_false_iff_ne];omega
             rw[xI h1];clear h1;go_enter Tryz.func19,Tryz.ntmps19;go_wp2_with fail;refine (D2 (l:=[]) j true c.out).mono ?_;rintro e w1 ⟨rfl,rfl⟩;go_wp2_with fail;refine (D2 h true f.out).mono ?_;rintro e w1 ⟨rfl,rfl⟩;go_wp2;go_ret;exact⟨rfl,g⟩
         · go_enter Tryz.func19,Tryz.ntmps19;go_wp2_with fail;refine (D2 (l:=[]) j true c.out).mono ?_;rintro e w1 ⟨rfl,rfl⟩;go_wp2_with fail;refine (D2 h true f.out).mono ?_;rintro e w1 ⟨rfl,rfl⟩;go_wp2;go_ret;exact⟨rfl,g⟩
       · have z:(((la.length:Nat):Int) == 0)=false:=by rw[beq_eq_false_iff_ne];omega
         have C:bG la=false:=by rw[←gO];exact z
         have hr:Hid (bI neg la lb=decide (Nat.gcd (val la) (val lb)=1)):=by
          show _=_
          unfold bI;rw[hv1,hv2,m,C]
          simp
         rw[hr.out];clear hr hz1 hv1 hv2 m C;go_enter Tryz.func19,Tryz.ntmps19;go_wp2_with fail;refine (D2 j true c.out).mono ?_;rintro e w1 ⟨rfl,rfl⟩;go_wp2_with fail;refine (D2 h true f.out).mono ?_;rintro e w1 ⟨rfl,rfl⟩;go_wp2_with fail;refine (kU j h y t hla hlb).mono ?_;rintro e w3 ⟨G,cg,lg,rfl,ng,ig,mg,b3⟩;have v:=g.trans (b3.mono (a3f s));have n:=a1k (xJ ig);clear ig;have I:=ng.big
         by_cases h1:lg.length=1
         · have q:(((lg.length:Nat):Int) == 1)=true:=by rw[beq_iff_eq];omega
           obtain⟨b,d,rfl,H,r,F,p⟩:=ng.at (k:=0) (by omega);have x:=jM r;have D:0<lg.length:=by omega
           have ho:=a1k (sE h1 p.out);have E:((d:Int) == 1)=decide (d=1):=by rw[Bool.eq_iff_iff,beq_iff_eq,decide_eq_true_eq];omega
           clear h1;go_wp2;go_ret;exact⟨by rw[←n.out,ho.out];rfl,v⟩
         · have q:(((lg.length:Nat):Int) == 1)=false:=by rw[beq_eq_false_iff_ne];omega
           have ho:=a1k (xI h1);clear h1;go_wp2;go_ret;exact⟨by rw[←n.out,ho.out];rfl,v⟩
   · have hr:Hid (bI neg la lb=false):=by show _=_;unfold bI;rw[hv1,eq_false_of_ne_true hv2];rfl
     rw[hr.out];have c:=a1k hv1;have f:=a1k (eq_false_of_ne_true hv2);clear hr hv1 hv2;go_enter Tryz.func19,Tryz.ntmps19;go_wp2_with fail;refine (D2 j true c.out).mono ?_;rintro e w1 ⟨rfl,rfl⟩;go_wp2_with fail;refine (D2 h false f.out).mono ?_;rintro e w1 ⟨rfl,rfl⟩;go_wp2;go_ret;exact⟨rfl,g⟩
 · have hr:Hid (bI neg la lb=false):=by show _=_;unfold bI;rw[eq_false_of_ne_true hv1];rfl
   rw[hr.out];have c:=a1k (eq_false_of_ne_true hv1);clear hr hv1;go_enter Tryz.func19,Tryz.ntmps19;go_wp2_with fail;refine (D2 j false c.out).mono ?_;rintro e w1 ⟨rfl,rfl⟩;go_wp2;go_ret;exact⟨rfl,g⟩
theorem vldF_qIs {neg:Bool}{la lb:List Nat}(ha:Dig la) (hb:Dig lb) (h:bI neg la lb=true):QIs neg la lb (mkRat (sg neg (val la)) (val lb)):=by
 unfold bI at h
 simp only[a3m,Bool.not_eq_true',decide_eq_true_eq] at h
 obtain⟨h1,h2,h3,h4,h5⟩:=h;refine zK ⟨ha,M9 h1,rfl⟩ ⟨hb,M9 h2,rfl⟩ (by unfold bG at h3;simpa using h3) ?_ h5;rintro ⟨rfl,rfl⟩
 simp[bG] at h4
theorem fD {l:List Nat}(h:Canon l):S0 l=true:=by unfold S0;simpa using iW h
theorem qIs_vldF {neg:Bool}{la lb:List Nat}{q:Rat}(h:QIs neg la lb q):bI neg la lb=true:=by
 unfold bI
 simp only[a3m,Bool.not_eq_true',decide_eq_true_eq]
 refine⟨fD h.na.canon,fD h.nb.canon,?_,?_,QIs.gcd h⟩
 · unfold bG;simpa using QIs.ne h
 · cases neg with
   | false=>rfl
   | true =>
    have:=QIs.sign h;unfold bG
    simpa using this
theorem mT {v:Value}{q:Rat}{k:Nat}{w:World}(hv:FV w v q) (hk:Fits k q) (hK:k≤400000000):Calls Tryz.prog 19 #[v] w (gJ true w):=by
 obtain⟨neg,A,ca,la,B,cb,lb,rfl,na,nb,iq⟩:=hv;have hf:=a4q iq hk;have:=dQ (neg:=neg) na nb (by omega) (by omega);rw[qIs_vldF iq] at this;exact this
end Go.Proofs.YtjhkapjadfpimaaGreat
