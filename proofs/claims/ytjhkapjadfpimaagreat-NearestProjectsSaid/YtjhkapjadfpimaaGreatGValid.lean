/- Contracts of functions, for the law. -/
import Derived.Test.YtjhkapjadfpimaaGreatRDiv
import Derived.Laws.BytesArg
namespace Go.Proofs.YtjhkapjadfpimaaGreat
set_option linter.unusedVariables false
set_option linter.unusedSimpArgs false
open Go.RowKit Plain
set_option maxRecDepth 100000
set_option maxHeartbeats 40000000
def vU (a b la lb:Nat) (w:World) (q r i:Value) (wr:World):Prop :=
 ∃ (k Q R cq cr:Nat) (A B:Option Addr) (lq lr:List Nat),i=.int .i64 ((k:Int)-1)∧k≤32*la+1∧q=.slice A lq.length cq∧r=.slice B lr.length cr∧Nv wr A cq lq∧Nv wr B cr lr∧Hid (NatIs lq Q)∧Hid (NatIs lr R) ∧
  Hid (Q*b+R=a / 2 ^ k)∧Hid (R<b)∧lq.length≤la∧lr.length≤lb∧Below w.heap.size w wr
theorem re {a b Q R k la:Nat}{l lq:List Nat}(hl:Dig l) (ha:val l=a) (hla:l.length=la) (hb:0<b) (hQ:NatIs lq Q) (h:Q*b+R=a / 2 ^ k):lq.length≤la:=by
 refine bi hQ.canon ?_;rw[hQ.val,←hla];have h1:Q*1≤Q*b:=Nat.mul_le_mul_left _ hb;have h2:a / 2 ^ k≤a:=Nat.div_le_self _ _;have h3:=bW hl;omega
theorem kb {b R:Nat}{lb lr:List Nat}(hl:Dig lb) (hb:val lb=b) (hR:NatIs lr R) (h:R<b):lr.length≤lb.length:=by
 refine bi hR.canon ?_;rw[hR.val];have:=bW hl;omega
theorem yT {a b k:Nat}(hb:0<b) (hk:eU a≤k+(eU b-1)):a / 2 ^ k<b:=by
 have d:2 ^ (eU b-1)≤b:=by
  unfold eU;rw[if_neg (by omega),Nat.add_sub_cancel];exact Nat.log2_self_le (by omega)
 have c:a<2 ^ eU a:=by
  unfold eU
  split
  · subst_vars;simp
  · exact Nat.lt_log2_self
 refine Dn ((Nat.div_lt_iff_lt_mul (Nat.two_pow_pos k)).2 ?_) d;rw[←Nat.pow_add];exact Dn c (Nat.pow_le_pow_right (by omega) (by omega))
theorem qE {l:List Nat}(hd:Dig l):eU (val l)≤32*l.length:=by
 unfold eU
 split
 · omega
 · rename_i h
   have h1:=(Nat.log2_lt h (k:=32*l.length)).2 (by rw[←rg];exact bW hd);omega
theorem iG {A B:Option Addr}{ca cb:Nat}{la lb:List Nat}{w:World}(ha:Nv w A ca la) (hb:Nv w B cb lb) (hcb:Canon lb) (hna:la.length≤400000000) (hnb:lb.length≤400000000) :
 Calls Tryz.prog 64 #[.slice A la.length ca,.slice B lb.length cb] w (Ak (val la) (val lb) (la.length+lb.length) w):=by
 rcases Nat.eq_zero_or_pos lb.length with h0 | h0
 · obtain rfl:lb=[]:=Dz h0;clear h0;go_enter Tryz.func64,Tryz.ntmps64;go_wp2;refine D4 (results_tmp3 rfl _ _ _) rfl ?_;exact⟨none,0,[],none,0,[],rfl,jl _,jl _,NatIs.nil,NatIs.nil,by simp,by simp,DY _ _⟩
 · have c:Hid (0<val lb):=by
    rcases Nat.eq_zero_or_pos (val lb) with hz | hz
    · have:NatIs lb 0:=⟨hb.dig,hcb,hz⟩;rw[this.zero_iff.2 rfl] at h0
      simp at h0
    · exact hz
   obtain⟨a,f⟩:∃ a,Hid (val la=a):=⟨_,rfl⟩;obtain⟨b,d⟩:∃ b,Hid (val lb=b):=⟨_,rfl⟩;rw[d.out] at c;rw[f.out,d.out];have c7:(((lb.length:Nat):Int) == 0)=false:=by rw[beq_eq_false_iff_ne];omega
   have bo:=qE ha.dig;have bv:=qE hb.dig;rw[f.out] at bo;rw[d.out] at bv;have n:=fun k=>yT (a:=a) (k:=k) c.out;obtain⟨x,hx⟩:∃ x,Hid (eU a=x):=⟨_,rfl⟩;obtain⟨y,hy⟩:∃ y,Hid (eU b=y):=⟨_,rfl⟩;rw[hx.out] at bo;rw[hy.out] at bv
   simp only[hx.out,hy.out] at n
   have p:=Dj n;clear n
   have cg:1≤y:=by
    rw[←hy.out];unfold eU;rw[if_neg (by have:=c.out;omega)];omega
   have cd:(if (1:Int) < (y:Int) then (y:Int) else 1)=(y:Int):=by split <;> omega
   clear h0;go_enter Tryz.func64,Tryz.ntmps64;go_wp2_with fail;refine (nt ha (by omega)).mono ?_;rintro e w1 ⟨rfl,n1,rfl⟩;rw[f.out,hx.out];go_wp2_with fail;refine (nt (hb.below (bl w n1)) (by omega)).mono ?_;rintro e w1 ⟨rfl,n2,rfl⟩;rw[d.out,hy.out]
   rcases (show (∃ k,(x:Int)-(y:Int)+1=(k:Nat)∧decide ((k:Int)≤0)=false∧1≤k∧k≤x∧x+1=y+k)∨(∃ k,k=0∧decide ((x:Int)-(y:Int)+1≤0)=true∧x+1≤y) by
    rcases Nat.lt_or_ge x y with h | h
    · exact .inr ⟨0,rfl,Dv (by omega),by omega⟩
    · exact .inl ⟨x+1-y,by omega,Du (by omega),by omega,by omega,by omega⟩) with ⟨k,hk1,hk2,hk3,hk4,hk5⟩ | ⟨k,rfl,hk2,hk3⟩
   · go_wp2_with fail;refine (nm (k:=k) (ha.below (bl w (n1+n2))) (by omega) (by omega)).mono ?_;rintro e w1 ⟨A1,c1,l1,rfl,h1,i1,m1,b1⟩;have hs:=Dj (p.out k (by omega));have b7:k≤32*la.length+1:=by omega
     clear hk1 hk2 hk3 hk4 hk5;go_wp2
     go_loopw [8,9,10] (fun q r i wr=>vU a b la.length lb.length w q r i wr) (fun _ _ i _=>(intOf i+1).toNat)
     case atStart=>exact⟨k,0,a / 2 ^ k,0,c1,none,A1,[],l1,rfl,b7,rfl,rfl,jl _,h1,NatIs.nil,f.out ▸ i1,by show _=_;rw[Nat.zero_mul,Nat.zero_add],hs.out,by simp,kb hb.dig d.out (f.out ▸ i1) hs.out,(bl w (n1+n2)).trans b1⟩
     case round =>
      obtain⟨k',Q,R,cq,cr,Aq,Br,lq,lr,rfl,bx,rfl,rfl,nq,nr,iq,ir,C,I,bs,bq,v⟩:=hrel
      rcases k' with _ | j
      · have g:=sP C.out I.out;have bd:=Dj (show NatIs lq (if b=0 then 0 else a / b) by rw[if_neg (by have:=c.out;omega),←g.1];exact iq.out);have bm:=Dj (show NatIs lr (if b=0 then 0 else a % b) by rw[if_neg (by have:=c.out;omega),←g.2];exact ir.out);have he:=Dj (show (if b=0 then (8:Int) else 0)=0 by rw[if_neg (by have:=c.out;omega)]);clear g;have bg:decide ((0:Int)≤((0:Nat):Int)-1)=false:=by decide
        go_wp2;refine D4 (results_tmp3 rfl _ _ _) rfl ?_;exact⟨Aq,cq,lq,Br,cr,lr,by rw[he.out];rfl,nq,nr,bd,bm,by omega,by omega,v⟩
      · have hj:((j+1:Nat):Int)-1=(j:Int):=by omega
        have bg:decide ((0:Int)≤(j:Int))=true:=Dv (by omega);obtain⟨t,ht⟩:∃ t,Hid (a / 2 ^ j % 2=t):=⟨_,rfl⟩;have c0:t<2:=ht.out ▸ Nat.mod_lt _ (by omega);have b4:t<pw 2:=by simp only[pw];omega
        rw[hj];go_wp2_with fail;refine (df _ _ _ _ _ _ _ nq nq (by omega) (by omega)).mono ?_;rintro e w2 ⟨A2,c2,l2,rfl,X,i2,m2,b2⟩;have E:=Dj (show NatIs l2 (Q+Q) by have h:=i2;rw[iq.out.val] at h;exact h);have U:=Di v b2;clear i2;go_wp2_with fail;refine (df _ _ _ _ _ _ _ (nr.below b2) (nr.below b2) (by omega) (by omega)).mono ?_;rintro e w3 ⟨A3,c3,l3,rfl,n3,i3,m3,b3⟩;have Y:=Dj (show NatIs l3 (R+R) by have h:=i3;rw[ir.out.val] at h;exact h);have D:=Di U b3;clear i3;go_wp2_with fail;refine (kO (i:=j) (ha.below D) (by omega)).mono ?_;rintro e w4 ⟨rfl,n4,rfl⟩;rw[f.out,ht.out];have Z:=D.trans ((bl w3 n4).mono D.size);go_wp2_with fail;refine (dM t _ b4).mono ?_;rintro e w5 ⟨A5,c5,l5,rfl,n5,i5,m5,b5⟩;have T:=Dj i5;have V:=Di Z b5;clear i5;go_wp2_with fail;refine (df _ _ _ _ _ _ _ ((n3.below (bl w3 n4)).below b5) n5 (by omega) (by omega)).mono ?_;rintro e w6 ⟨A6,c6,l6,rfl,n6,i6,m6,b6⟩;have m:=Dj (show NatIs l6 (R+R+t) by have h:=i6;rw[Y.out.val,T.out.val] at h;exact h);have o:=Di V b6;clear i6;go_wp2_with fail;refine (kM n6 (hb.below o) (by omega) (by omega)).mono ?_;rintro e w7 ⟨rfl,rfl⟩;obtain⟨cc,z⟩:∃ cc,Hid (ff (val l6) (val lb)=cc):=⟨_,rfl⟩
        rw[z.out];have F:=(((X.below b3).below (bl w3 n4)).below b5).below b6
        by_cases hge:b≤R+R+t
        · have bc:decide ((0:Int)≤cc)=true:=Dv (by
           rw[←z.out];have h:=dK (val l6) (val lb);rw[m.out.val,d.out] at h ⊢
           omega)
          have G:=Dj hge;clear hge;go_wp2_with fail;refine (gN _ _ _ _ _ _ _ n6 (hb.below o) (by omega) (by omega)).mono ?_;rintro e w8 ⟨A8,c8,l8,rfl,n8,i8,m8,b8⟩;have J:=Dj (show NatIs l8 (R+R+t-b) by have h:=i8;rw[m.out.val,d.out] at h;exact h);have bn:=Di o b8;clear i8;go_wp2_with fail;refine (dM 1 _ (by simp[pw])).mono ?_;rintro e w9 ⟨A9,c9,l9,rfl,n9,i9,m9,b9⟩;have bb:=Dj i9;have O:=Di bn b9;clear i9;go_wp2_with fail;refine (df _ _ _ _ _ _ _ ((F.below b8).below b9) n9 (by omega) (by omega)).mono ?_;rintro e bz ⟨bf,uC,L,rfl,b0,N,c4,M⟩;have s:=Dj (show NatIs L (Q+Q+1) by have h:=N;rw[E.out.val,bb.out.val] at h;exact h);have H:=Di O M;clear N;have hq:=Dj (vE (Q2:=Q+Q+1) (R2:=R+R+t-b) C.out rfl (by rw[ht.out]) (by rw[ht.out];exact G.out));have l:=Dj (show R+R+t-b<b by have:=I.out;omega);go_wp2;go_roundw
          case rel=>exact⟨j,Q+Q+1,R+R+t-b,uC,c8,bf,A8,L,l8,rfl,by omega,rfl,rfl,b0,(n8.below b9).below M,s,J,hq,l,re ha.dig f.out rfl c.out s.out hq.out,kb hb.dig d.out J.out l.out,H⟩
          case measure=>simp[intOf]
        · have bc:decide ((0:Int)≤cc)=false:=Du (by
           rw[←z.out];have h:=dK (val l6) (val lb);rw[m.out.val,d.out] at h ⊢
           omega)
          have hq:=Dj (vy (Q2:=Q+Q) (R2:=R+R+t) C.out rfl (by rw[ht.out]));have l:=Dj (show R+R+t<b by omega);clear hge;go_wp2;go_roundw
          case rel=>exact⟨j,Q+Q,R+R+t,c2,c6,A2,A6,l2,l6,rfl,by omega,rfl,rfl,F,n6,E,m,hq,l,re ha.dig f.out rfl c.out E.out hq.out,kb hb.dig d.out m.out l.out,o⟩
          case measure=>simp[intOf]
   · go_wp2_with fail;refine (nm (k:=0) (ha.below (bl w (n1+n2))) (by omega) (by omega)).mono ?_;rintro e w1 ⟨A1,c1,l1,rfl,h1,i1,m1,b1⟩;have hs:=Dj (p.out 0 (by omega));have b7:0≤32*la.length+1:=by omega
     clear hk2 hk3;go_wp2
     go_loopw [8,9,10] (fun q r i wr=>vU a b la.length lb.length w q r i wr) (fun _ _ i _=>(intOf i+1).toNat)
     case atStart=>exact⟨0,0,a / 2 ^ 0,0,c1,none,A1,[],l1,rfl,b7,rfl,rfl,jl _,h1,NatIs.nil,f.out ▸ i1,by show _=_;rw[Nat.zero_mul,Nat.zero_add],hs.out,by simp,kb hb.dig d.out (f.out ▸ i1) hs.out,(bl w (n1+n2)).trans b1⟩
     case round =>
      obtain⟨k',Q,R,cq,cr,Aq,Br,lq,lr,rfl,bx,rfl,rfl,nq,nr,iq,ir,C,I,bs,bq,v⟩:=hrel
      rcases k' with _ | j
      · have g:=sP C.out I.out;have bd:=Dj (show NatIs lq (if b=0 then 0 else a / b) by rw[if_neg (by have:=c.out;omega),←g.1];exact iq.out);have bm:=Dj (show NatIs lr (if b=0 then 0 else a % b) by rw[if_neg (by have:=c.out;omega),←g.2];exact ir.out);have he:=Dj (show (if b=0 then (8:Int) else 0)=0 by rw[if_neg (by have:=c.out;omega)]);clear g;have bg:decide ((0:Int)≤((0:Nat):Int)-1)=false:=by decide
        go_wp2;refine D4 (results_tmp3 rfl _ _ _) rfl ?_;exact⟨Aq,cq,lq,Br,cr,lr,by rw[he.out];rfl,nq,nr,bd,bm,by omega,by omega,v⟩
      · have hj:((j+1:Nat):Int)-1=(j:Int):=by omega
        have bg:decide ((0:Int)≤(j:Int))=true:=Dv (by omega);obtain⟨t,ht⟩:∃ t,Hid (a / 2 ^ j % 2=t):=⟨_,rfl⟩;have c0:t<2:=ht.out ▸ Nat.mod_lt _ (by omega);have b4:t<pw 2:=by simp only[pw];omega
        rw[hj];go_wp2_with fail;refine (df _ _ _ _ _ _ _ nq nq (by omega) (by omega)).mono ?_;rintro e w2 ⟨A2,c2,l2,rfl,X,i2,m2,b2⟩;have E:=Dj (show NatIs l2 (Q+Q) by have h:=i2;rw[iq.out.val] at h;exact h);have U:=Di v b2;clear i2;go_wp2_with fail;refine (df _ _ _ _ _ _ _ (nr.below b2) (nr.below b2) (by omega) (by omega)).mono ?_;rintro e w3 ⟨A3,c3,l3,rfl,n3,i3,m3,b3⟩;have Y:=Dj (show NatIs l3 (R+R) by have h:=i3;rw[ir.out.val] at h;exact h);have D:=Di U b3;clear i3;go_wp2_with fail;refine (kO (i:=j) (ha.below D) (by omega)).mono ?_;rintro e w4 ⟨rfl,n4,rfl⟩;rw[f.out,ht.out];have Z:=D.trans ((bl w3 n4).mono D.size);go_wp2_with fail;refine (dM t _ b4).mono ?_;rintro e w5 ⟨A5,c5,l5,rfl,n5,i5,m5,b5⟩;have T:=Dj i5;have V:=Di Z b5;clear i5;go_wp2_with fail;refine (df _ _ _ _ _ _ _ ((n3.below (bl w3 n4)).below b5) n5 (by omega) (by omega)).mono ?_;rintro e w6 ⟨A6,c6,l6,rfl,n6,i6,m6,b6⟩;have m:=Dj (show NatIs l6 (R+R+t) by have h:=i6;rw[Y.out.val,T.out.val] at h;exact h);have o:=Di V b6;clear i6;go_wp2_with fail;refine (kM n6 (hb.below o) (by omega) (by omega)).mono ?_;rintro e w7 ⟨rfl,rfl⟩;obtain⟨cc,z⟩:∃ cc,Hid (ff (val l6) (val lb)=cc):=⟨_,rfl⟩
        rw[z.out];have F:=(((X.below b3).below (bl w3 n4)).below b5).below b6
        by_cases hge:b≤R+R+t
        · have bc:decide ((0:Int)≤cc)=true:=Dv (by
           rw[←z.out];have h:=dK (val l6) (val lb);rw[m.out.val,d.out] at h ⊢
           omega)
          have G:=Dj hge;clear hge;go_wp2_with fail;refine (gN _ _ _ _ _ _ _ n6 (hb.below o) (by omega) (by omega)).mono ?_;rintro e w8 ⟨A8,c8,l8,rfl,n8,i8,m8,b8⟩;have J:=Dj (show NatIs l8 (R+R+t-b) by have h:=i8;rw[m.out.val,d.out] at h;exact h);have bn:=Di o b8;clear i8;go_wp2_with fail;refine (dM 1 _ (by simp[pw])).mono ?_;rintro e w9 ⟨A9,c9,l9,rfl,n9,i9,m9,b9⟩;have bb:=Dj i9;have O:=Di bn b9;clear i9;go_wp2_with fail;refine (df _ _ _ _ _ _ _ ((F.below b8).below b9) n9 (by omega) (by omega)).mono ?_;rintro e bz ⟨bf,uC,L,rfl,b0,N,c4,M⟩;have s:=Dj (show NatIs L (Q+Q+1) by have h:=N;rw[E.out.val,bb.out.val] at h;exact h);have H:=Di O M;clear N;have hq:=Dj (vE (Q2:=Q+Q+1) (R2:=R+R+t-b) C.out rfl (by rw[ht.out]) (by rw[ht.out];exact G.out));have l:=Dj (show R+R+t-b<b by have:=I.out;omega);go_wp2;go_roundw
          case rel=>exact⟨j,Q+Q+1,R+R+t-b,uC,c8,bf,A8,L,l8,rfl,by omega,rfl,rfl,b0,(n8.below b9).below M,s,J,hq,l,re ha.dig f.out rfl c.out s.out hq.out,kb hb.dig d.out J.out l.out,H⟩
          case measure=>simp[intOf]
        · have bc:decide ((0:Int)≤cc)=false:=Du (by
           rw[←z.out];have h:=dK (val l6) (val lb);rw[m.out.val,d.out] at h ⊢
           omega)
          have hq:=Dj (vy (Q2:=Q+Q) (R2:=R+R+t) C.out rfl (by rw[ht.out]));have l:=Dj (show R+R+t<b by omega);clear hge;go_wp2;go_roundw
          case rel=>exact⟨j,Q+Q,R+R+t,c2,c6,A2,A6,l2,l6,rfl,by omega,rfl,rfl,F,n6,E,m,hq,l,re ha.dig f.out rfl c.out E.out hq.out,kb hb.dig d.out m.out l.out,o⟩
          case measure=>simp[intOf]
theorem ow {A B:Option Addr}{ca cb:Nat}{la lb:List Nat}{w:World}(ha:Nv w A ca la) (hb:Nv w B cb lb) (hca:Canon la) (hcb:Canon lb) (hna:la.length≤400000000) (hnb:lb.length≤400000000) :
 Calls Tryz.prog 38 #[.slice A la.length ca,.slice B lb.length cb] w (dU (Nat.gcd (val la) (val lb)) 400000000 w):=by
 have ia:NatIs la (val la):=⟨ha.dig,hca,rfl⟩;have ib:NatIs lb (val lb):=⟨hb.dig,hcb,rfl⟩;go_enter Tryz.func38,Tryz.ntmps38;go_wp2
 go_loopg [0,1] (val lb) (fun g a b wr=>Au (Nat.gcd (val la) (val lb)) 400000000 w g a b wr)
 case atStart=>exact⟨A,ca,la,B,cb,lb,val la,val lb,rfl,rfl,ha,hb,ia,ib,rfl,rfl,hna,hnb,DY _ _⟩
 case round =>
  obtain⟨A,ca,k,B,cb,c,x,y,rfl,rfl,h1,h2,n1,n2,rfl,hG,m1,m2,d⟩:=hrel;have m:=h2.big
  by_cases hz:c.length=0
  · have hy:Hid (gk=0):=by
     have:c=[]:=Dz hz
     show gk=0
     exact (n2.zero_iff).1 this
    have hd:decide (0<c.length)=false:=Du (by omega);have l:=Dj (show val k=Nat.gcd (val la) (val lb) by rw[n1.val,←hG.out,hy.out,Nat.gcd_zero_right]);go_wp2_with fail;refine (ef h1 (by omega)).mono ?_;rintro e w1 ⟨A1,c1,l1,rfl,k1,k2,k3,k4⟩;go_wp2;go_ret;exact⟨A1,c1,l1,rfl,k1,l.out ▸ k2,by omega,(Di d k4)⟩
  · have hy:Hid (gk≠0):=fun e=>hz (by rw[(n2.zero_iff).2 e];rfl);have hd:decide (0<c.length)=true:=Dv (by omega);clear hz;go_wp2_with fail;refine (iG h1 h2 n2.canon (by omega) (by omega)).mono ?_;rintro e w3 ⟨A3,c3,q,B3,d3,r,rfl,hq,hr,nq,nr,lq,lr,b3⟩;rw[n2.val,if_neg hy.out] at nr;rw[n2.val,if_neg hy.out];rw[n1.val] at nr;have f:=Dj (Nat.mod_lt x (DR hy.out))
    have j:=Dj (show r.length≤400000000 from Ds (bi nr.canon (by
     have h:=bW n2.dig;rw[n2.val] at h;rw[nr.val];exact Nat.lt_trans f.out h)) m2)
    go_wp2
    go_roundg (x % gk)
    case measure=>exact f.out
    case rel=>exact⟨B,cb,c,B3,d3,r,gk,x % gk,rfl,rfl,h2.below b3,hr,n2,nr,rfl,by show Nat.gcd _ _=_;rw[sW];exact hG.out,m2,j.out,(Di d b3)⟩
attribute [local go_sem ↓] Go.wp_at_zero Go.wp_at_succ
theorem jx (x:Nat) (n:Int) (w:World) (hn:n=(x:Int)) (hx:x<pw 2):Calls Tryz.prog 69 #[.int .u64 n] w (dU x 2 w):=by
 subst hn;exact dM x w hx
theorem nj (n:Int) (w:World) (h1:-9223372036854775808≤n) (h2:n≤9223372036854775807) :
 Calls Tryz.prog 41 #[.int .i64 n] w (dU n.natAbs 2 w):=by
 have hb:n.natAbs<pw 2:=by simp only[pw];omega
 by_cases hn:n<0
 · go_enter Tryz.func41,Tryz.ntmps41;go_wp2_with fail;refine (jx n.natAbs _ _ (by omega) hb).mono ?_;rintro e w1 ⟨A,c,l,rfl,h1,h2,h3,h4⟩;go_wp2;go_ret;exact⟨A,c,l,rfl,h1,h2,h3,h4⟩
 · go_enter Tryz.func41,Tryz.ntmps41;go_wp2_with fail;refine (jx n.natAbs _ _ (by omega) hb).mono ?_;rintro e w1 ⟨A,c,l,rfl,h1,h2,h3,h4⟩;go_wp2;go_ret;exact⟨A,c,l,rfl,h1,h2,h3,h4⟩
theorem eW {neg:Bool}{A B:Option Addr}{ca cb:Nat}{la lb:List Nat}{w:World}(ha:Nv w A ca la) (hb:Nv w B cb lb) (h0:val lb≠0) (hca:Canon la) (hcb:Canon lb) (hla:la.length≤400000000) (hlb:lb.length≤400000000) :
 Calls Tryz.prog 40 #[.bool neg,.slice A la.length ca,.slice B lb.length cb] w (tw (mkRat (sg neg (val la)) (val lb)) w):=by
 have s:lb≠[]:=fun e=>h0 (by rw[e];rfl);have I:(((lb.length:Nat):Int) == 0)=false:=by rw[beq_eq_false_iff_ne];have:=List.length_pos_iff.2 s;omega
 have L:=hb.big;obtain⟨w0,J,p,t,F⟩:=ag w #[.bool false,.slice none 0 0,.slice none 0 0] 28;have r:=ha.below p;have q:=hb.below p;have g:Nat.gcd (val la) (val lb)≠0:=fun e=>h0 (Nat.eq_zero_of_gcd_eq_zero_right e);clear s;go_enter Tryz.func40,Tryz.ntmps40;go_wp2_with fail;refine (ow r q hca hcb hla hlb).mono ?_;rintro e w1 ⟨G,cg,lg,rfl,ng,ig,mg,b1⟩;have f:=Dj ig;clear ig;go_wp2_with fail;refine (iG (r.below b1) ng f.out.canon (by omega) (by omega)).mono ?_;rintro e w2 ⟨A2,c2,q2,R2,s2,r2,rfl,nq,nr,iq,ir,lq,lr,b2⟩;rw[f.out.val,if_neg g] at iq;have H:=Dj iq;have j:(if val lg=0 then (8:Int) else 0)=0:=by rw[f.out.val,if_neg g]
 rw[j];clear iq ir j;go_wp2_with fail;refine (iG ((q.below b1).below b2) (ng.below b2) f.out.canon (by omega) (by omega)).mono ?_;rintro e w3 ⟨A3,c3,q3,R3,s3,r3,rfl,x,N,n,D,M,O,b3⟩;rw[f.out.val,if_neg g] at n;have z:=Dj n;have j:(if val lg=0 then (8:Int) else 0)=0:=by rw[f.out.val,if_neg g]
 rw[j];clear n D j;have k:=((Di b1 b2));have k:=Di k b3;have c:=F.keep k;have l:=p.trans (k.mono (Nat.le_of_lt t));have y0:=c.f0;have y1:=c.f1;have y2:=c.f2;have z0:=c.free 0;have z1:=c.free 1;have z2:=c.free 2
 have E:decide (0<la.length)=decide (0<val la / Nat.gcd (val la) (val lb)):=by
  rw[decide_eq_decide];have C:NatIs la (val la):=⟨ha.dig,hca,rfl⟩
  constructor
  · intro h
    rcases Nat.eq_zero_or_pos (val la) with h1 | h1
    · rw[C.zero_iff.2 h1] at h;simp at h
    · exact Nat.div_pos (Nat.le_of_dvd h1 (Nat.gcd_dvd_left _ _)) (DR g)
  · intro h;refine C.pos (DR fun e=>?_);rw[e] at h;simp at h
 obtain⟨nz,o⟩:∃ b,decide (0<val la / Nat.gcd (val la) (val lb))=b:=⟨_,rfl⟩;rw[o] at E;have hQ:=Dj (fun (neg':Bool) (h:neg'=(neg&&nz))=>oD (neg:=neg) (neg':=neg') h0 H.out z.out (by rw[o];exact h));clear o;have y:=nq.below b3;clear b1 b2 b3
 rcases neg with _ | _
 · go_wp2;obtain⟨w9,m,d,o9⟩:=c.set3 (.bool false) (.slice A2 q2.length c2) (.slice A3 q3.length c3);rw[m];have e0:=d.f0;have e1:=d.f1;have e2:=d.f2;have m1:=y.only_blk c (ar _ _ _ _ _ _ _) o9;have m2:=x.only_blk c (ar _ _ _ _ _ _ _) o9;refine D4 (v:=.tuple #[aZ false A2 q2.length c2 A3 q3.length c3,.int .i64 0]) (by simp[results,Tryz.results40,go_sem,e0,e1,e2]) rfl ?_;exact⟨_,rfl,⟨_,A2,c2,q2,A3,c3,q3,rfl,m1,m2,hQ.out _ (by simp)⟩,o9.to_below l (Dt _) l.size⟩
 · go_wp2;obtain⟨w9,m,d,o9⟩:=c.set3 (.bool nz) (.slice A2 q2.length c2) (.slice A3 q3.length c3);rw[m];have e0:=d.f0;have e1:=d.f1;have e2:=d.f2;have m1:=y.only_blk c (ar _ _ _ _ _ _ _) o9;have m2:=x.only_blk c (ar _ _ _ _ _ _ _) o9;refine D4 (v:=.tuple #[aZ nz A2 q2.length c2 A3 q3.length c3,.int .i64 0]) (by simp[results,Tryz.results40,go_sem,e0,e1,e2]) rfl ?_;exact⟨_,rfl,⟨_,A2,c2,q2,A3,c3,q3,rfl,m1,m2,hQ.out _ (by simp)⟩,o9.to_below l (Dt _) l.size⟩
def jI (n1:Bool) (a1 b1:List Nat) (n2:Bool) (a2 b2:List Nat):Bool:=(n1 == n2)&&(decide (a1=a2)&&decide (b1=b2))
def vV (la lb:List Nat) (w:World) (i:Value) (wr:World):Prop :=
 ∃ k:Nat,k≤la.length∧i=.int .i64 k∧Hid (la.take k=lb.take k)∧Below w.heap.size w wr
theorem wQ {n1 n2:Bool}{A B C D:Option Addr}{ca cb cc cd:Nat}{a1 b1 a2 b2:List Nat}{w:World}(ha:Nv w A ca a1) (hb:Nv w B cb b1) (hc:Nv w C cc a2) (hd:Nv w D cd b2) :
 Calls Tryz.prog 15 #[aZ n1 A a1.length ca B b1.length cb,aZ n2 C a2.length cc D b2.length cd] w fun e w'=>e=.returned (.bool (jI n1 a1 b1 n2 a2 b2))∧Below w.heap.size w w':=by
 by_cases hn:n1=n2
 · subst hn;obtain⟨wa,I,q,n,o⟩:=ag w #[.bool n1,.slice A a1.length ca,.slice B b1.length cb] 28;obtain⟨w0,H,l,z,g⟩:=ag wa #[.bool n1,.slice C a2.length cc,.slice D b2.length cd] 28;have b0:=q.trans (l.mono (Nat.le_of_lt n));have hA:=o.keep l;have x0:=hA.f0;have x1:=hA.f1;have x2:=hA.f2;have y0:=g.f0;have y1:=g.f1;have y2:=g.f2;have g1:=ha.big;have g2:=hb.big;have g3:=hc.big;have g4:=hd.big;have p:=ha.below b0;have x:=hb.below b0;have r:=hc.below b0;have F:=hd.below b0
   by_cases hl1:a1.length=a2.length
   · have v:(((a1.length:Nat):Int) != ((a2.length:Nat):Int))=false:=by rw[bne_eq_false_iff_eq];omega
     have y:=Dj hl1;have U:a1.length≤a2.length:=by omega
     clear hl1
     by_cases hl2:b1.length=b2.length
     · have E:(((b1.length:Nat):Int) != ((b2.length:Nat):Int))=false:=by rw[bne_eq_false_iff_eq];omega
       have G:=Dj hl2;have V:b1.length≤b2.length:=by omega
       have hr:Hid (jI n1 a1 b1 n1 a2 b2=(decide (a1=a2)&&decide (b1=b2))):=by show _=_;unfold jI;rw[beq_self_eq_true,Bool.true_and]
       rw[hr.out];clear hl2 hr;go_enter Tryz.func15,Tryz.ntmps15;go_wp2
       go_loopw [5] (fun i wr=>vV a1 a2 w0 i wr) (fun i _=>a1.length-(intOf i).toNat)
       case atStart=>exact⟨0,by omega,rfl,rfl,DY _ _⟩
       case round =>
        obtain⟨k,hk,rfl,h,c⟩:=hrel;have k1:=(hA.keep c).f1;have m1:=(g.keep c).f1;have bT:=Di b0 c
        by_cases hkl:k<a1.length
        · obtain⟨a,d,rfl,L,R,N,m⟩:=(p.below c).at (k:=k) hkl;obtain⟨b,f,rfl,T,J,M,j⟩:=(r.below c).at (k:=k) (by omega)
          by_cases hdf:d=f
          · subst hdf;have hf:=Dj (show a1.take (k+1)=a2.take (k+1) by rw[fG a1 k hkl,fG a2 k (by omega),h.out,m.out,j.out]);go_wp2
            go_quiet (fail)
            go_wp2;go_roundw
            case rel=>exact⟨k+1,by omega,by go_num,hf,cG c _⟩
            case measure=>simp[intOf];omega
          · have hf:=Dj (show a1≠a2 by intro e;subst e;exact hdf (m.out.symm.trans j.out));have t:((d:Int) != (f:Int))=true:=by rw[bne_iff_ne];omega
            go_wp2
            go_quiet (fail)
            go_wp2;go_ret;refine⟨?_,cG bT _⟩;rw[Du hf.out];rfl
        · obtain rfl:k=a1.length:=by omega
          have hf:=Dj (show a1=a2 by
           have:=h.out;rw[List.take_length,y.out,List.take_length] at this;exact this)
          clear x0 x1 x2 y0 y1 y2 p r h;go_wp2
          rename_i wr
          go_loopw [6] (fun i wr=>vV b1 b2 w0 i wr) (fun i _=>b1.length-(intOf i).toNat)
          case atStart=>exact⟨0,by omega,rfl,rfl,c⟩
          case round =>
           obtain⟨k,hk,rfl,h,c⟩:=hrel;have k2:=(hA.keep c).f2;have m2:=(g.keep c).f2;have bT:=Di b0 c
           by_cases hkl:k<b1.length
           · obtain⟨a,d,rfl,L,R,N,m⟩:=(x.below c).at (k:=k) hkl;obtain⟨b,f,rfl,T,J,M,j⟩:=(F.below c).at (k:=k) (by omega)
             by_cases hdf:d=f
             · subst hdf;have hf:=Dj (show b1.take (k+1)=b2.take (k+1) by rw[fG b1 k hkl,fG b2 k (by omega),h.out,m.out,j.out]);go_wp2
               go_quiet (fail)
               go_wp2;go_roundw
               case rel=>exact⟨k+1,by omega,by go_num,hf,cG c _⟩
               case measure=>simp[intOf];omega
             · have s:=Dj (show b1≠b2 by intro e;subst e;exact hdf (m.out.symm.trans j.out));have t:((d:Int) != (f:Int))=true:=by rw[bne_iff_ne];omega
               go_wp2
               go_quiet (fail)
               go_wp2;go_ret;refine⟨?_,cG bT _⟩;rw[Du s.out,Bool.and_false];rfl
           · obtain rfl:k=b1.length:=by omega
             have s:=Dj (show b1=b2 by
              have:=h.out;rw[List.take_length,G.out,List.take_length] at this;exact this)
             go_wp2;go_ret;refine⟨?_,bT⟩;rw[Dv hf.out,Dv s.out];rfl
     · have E:(((b1.length:Nat):Int) != ((b2.length:Nat):Int))=true:=by rw[bne_iff_ne];omega
       have hr:Hid (jI n1 a1 b1 n1 a2 b2=false):=by
        show _=_;unfold jI
        rw[Du (show ¬ b1=b2 from fun e=>hl2 (by rw[e])),Bool.and_false,Bool.and_false]
       rw[hr.out];clear hl2 hr;go_enter Tryz.func15,Tryz.ntmps15;go_wp2;go_ret;exact⟨rfl,b0⟩
   · have v:(((a1.length:Nat):Int) != ((a2.length:Nat):Int))=true:=by rw[bne_iff_ne];omega
     have hr:Hid (jI n1 a1 b1 n1 a2 b2=false):=by
      show _=_;unfold jI
      rw[Du (show ¬ a1=a2 from fun e=>hl1 (by rw[e])),Bool.false_and,Bool.and_false]
     rw[hr.out];clear hl1 hr;go_enter Tryz.func15,Tryz.ntmps15;go_wp2;go_ret;exact⟨rfl,b0⟩
 · have O:(n1 == n2)=false:=by simpa using hn
   obtain⟨wa,I,q,n,o⟩:=ag w #[.bool n1,.slice A a1.length ca,.slice B b1.length cb] 28;obtain⟨w0,H,l,z,g⟩:=ag wa #[.bool n2,.slice C a2.length cc,.slice D b2.length cd] 28;have b0:=q.trans (l.mono (Nat.le_of_lt n));have hA:=o.keep l;have x0:=hA.f0;have x1:=hA.f1;have x2:=hA.f2;have y0:=g.f0;have y1:=g.f1;have y2:=g.f2;have g1:=ha.big;have g2:=hb.big;have g3:=hc.big;have g4:=hd.big;have p:=ha.below b0;have x:=hb.below b0;have r:=hc.below b0;have F:=hd.below b0;have hr:Hid (jI n1 a1 b1 n2 a2 b2=false):=by show _=_;unfold jI;rw[O,Bool.false_and]
   rw[hr.out];clear hn hr;go_enter Tryz.func15,Tryz.ntmps15;go_wp2;go_ret;exact⟨rfl,b0⟩
theorem Cs {n1 n2:Bool}{a1 b1 a2 b2:List Nat}{p q:Rat}(h1:QIs n1 a1 b1 p) (h2:QIs n2 a2 b2 q):jI n1 a1 b1 n2 a2 b2=decide (p=q):=by
 unfold jI;rw[Bool.eq_iff_iff,Bool.and_eq_true,Bool.and_eq_true,beq_iff_eq,decide_eq_true_eq,decide_eq_true_eq,decide_eq_true_eq]
 constructor
 · rintro ⟨rfl,rfl,rfl⟩;exact h1.inj h2
 · rintro rfl;exact h1.uniq h2
def lX (b:Bool) (W:World) (e:Ending) (w':World):Prop:=e=.returned (.bool b)∧Below W.heap.size W w'
theorem j7 {v u:Value}{p q:Rat}{w:World}(hv:FV w v p) (hu:FV w u q):Calls Tryz.prog 15 #[v,u] w (lX (decide (p=q)) w):=by
 obtain⟨n1,A,ca,la,B,cb,lb,rfl,na,nb,iq⟩:=hv;obtain⟨n2,C,cc,lc,D,cd,ld,rfl,nc,nd,ir⟩:=hu;rw[←Cs iq ir];exact wQ na nb nc nd
theorem tL {l:List Nat}(h:l.length=1):l=[l.getD 0 0]:=by
 match l,h with
 | [d],_=>rfl
theorem vi {l:List Nat}(h:l.length≠1):decide (l=[1])=false:=Du fun e=>h (by rw[e];rfl)
theorem sF {l:List Nat}{d:Nat}(h:l.length=1) (hd:l.getD 0 0=d):decide (l=[1])=decide (d=1):=by
 rw[decide_eq_decide,tL h,hd]
 simp
theorem Bq {l:List Nat}(h:Canon l) (hd:Dig l):decide (Nat.gcd (val []) (val l)=1)=decide (l=[1]):=by
 rw[vj (n:=val l) ⟨hd,h,rfl⟩,decide_eq_decide,uK,Nat.gcd_zero_left]
theorem bJ {A:Option Addr}{c:Nat}{l:List Nat}{w:World}(h:Nv w A c l) (b:Bool) (hb:gd l=b) :
 Calls Tryz.prog 37 #[.slice A l.length c] w fun e w'=>e=.returned (.bool b)∧w=w':=by
 subst hb;exact qU h
theorem kz {neg:Bool}{A B:Option Addr}{ca cb:Nat}{la lb:List Nat}{w:World}(ha:Nv w A ca la) (hb:Nv w B cb lb) (hla:la.length≤400000000) (hlb:lb.length≤400000000) :
 Calls Tryz.prog 19 #[aZ neg A la.length ca B lb.length cb] w (lX (jE neg la lb) w):=by
 obtain⟨w0,J,g,v,r⟩:=ag w #[.bool neg,.slice A la.length ca,.slice B lb.length cb] 28;have k0:=r.f0;have k1:=r.f1;have k2:=r.f2;have j:=ha.below g;have h:=hb.below g;have M:=hb.big;have L:=ha.big
 by_cases hv1:gd la=true
 · by_cases hv2:gd lb=true
   · have x:=eR hv1;have s:=eR hv2;have c:=Dj hv1;have f:=Dj hv2
     by_cases hz2:lb.length=0
     · have hr:Hid (jE neg la lb=false):=by show _=_;unfold jE;rw[hv1,hv2,←mh,hz2];rfl
       have hz:(((lb.length:Nat):Int) == 0)=true:=by rw[hz2];rfl
       rw[hr.out];clear hr hz2 hv1 hv2;go_enter Tryz.func19,Tryz.ntmps19;go_wp2_with fail;refine (bJ j true c.out).mono ?_;rintro e w1 ⟨rfl,rfl⟩;go_wp2_with fail;refine (bJ h true f.out).mono ?_;rintro e w1 ⟨rfl,rfl⟩;go_wp2;go_ret;exact⟨rfl,g⟩
     · have hz:(((lb.length:Nat):Int) == 0)=false:=by rw[beq_eq_false_iff_ne];omega
       have m:jC lb=false:=by rw[←mh];exact hz
       by_cases hz1:la.length=0
       · obtain rfl:la=[]:=Dz hz1
         have hr:Hid (jE neg [] lb=(!neg&&decide (lb=[1]))):=by
          show _=_
          unfold jE;rw[hv1,hv2,m,show jC []=true from rfl,Bq s hb.dig]
          cases neg <;> simp
         rw[hr.out];clear hr hz1 hv1 hv2 m x
         simp only[List.length_nil] at *
         rcases neg with _ | _
         · by_cases h1:lb.length=1
           · have p:(((lb.length:Nat):Int) == 1)=true:=by rw[beq_iff_eq];omega
             obtain⟨b,d,rfl,H,o,E,q⟩:=h.at (k:=0) (by omega);have t:=nF o;have D:0<lb.length:=by omega
             have ho:=Dj (sF h1 q.out);rw[ho.out];have F:((d:Int) == 1)=decide (d=1):=by rw[Bool.eq_iff_iff,beq_iff_eq,decide_eq_true_eq];omega
             clear h1;go_enter Tryz.func19,Tryz.ntmps19;go_wp2_with fail;refine (bJ (l:=[]) j true c.out).mono ?_;rintro e w1 ⟨rfl,rfl⟩;go_wp2_with fail;refine (bJ h true f.out).mono ?_;rintro e w1 ⟨rfl,rfl⟩;go_wp2;go_ret;exact⟨rfl,g⟩
           · have p:(((lb.length:Nat):Int) == 1)=false:=by rw[beq_eq_false_iff_ne];omega
             rw[vi h1];clear h1;go_enter Tryz.func19,Tryz.ntmps19;go_wp2_with fail;refine (bJ (l:=[]) j true c.out).mono ?_;rintro e w1 ⟨rfl,rfl⟩;go_wp2_with fail;refine (bJ h true f.out).mono ?_;rintro e w1 ⟨rfl,rfl⟩;go_wp2;go_ret;exact⟨rfl,g⟩
         · go_enter Tryz.func19,Tryz.ntmps19;go_wp2_with fail;refine (bJ (l:=[]) j true c.out).mono ?_;rintro e w1 ⟨rfl,rfl⟩;go_wp2_with fail;refine (bJ h true f.out).mono ?_;rintro e w1 ⟨rfl,rfl⟩;go_wp2;go_ret;exact⟨rfl,g⟩
       · have C:(((la.length:Nat):Int) == 0)=false:=by rw[beq_eq_false_iff_ne];omega
         have z:jC la=false:=by rw[←mh];exact C
         have hr:Hid (jE neg la lb=decide (Nat.gcd (val la) (val lb)=1)):=by
          show _=_
          unfold jE;rw[hv1,hv2,m,z]
          simp
         rw[hr.out];clear hr hz1 hv1 hv2 m z;go_enter Tryz.func19,Tryz.ntmps19;go_wp2_with fail;refine (bJ j true c.out).mono ?_;rintro e w1 ⟨rfl,rfl⟩;go_wp2_with fail;refine (bJ h true f.out).mono ?_;rintro e w1 ⟨rfl,rfl⟩;go_wp2_with fail;refine (ow j h x s hla hlb).mono ?_;rintro e w3 ⟨G,cg,lg,rfl,ng,ig,mg,b3⟩;have y:=g.trans (b3.mono (Nat.le_of_lt v));have n:=Dj (vj ig);clear ig;have I:=ng.big
         by_cases h1:lg.length=1
         · have p:(((lg.length:Nat):Int) == 1)=true:=by rw[beq_iff_eq];omega
           obtain⟨b,d,rfl,H,o,E,q⟩:=ng.at (k:=0) (by omega);have t:=nF o;have D:0<lg.length:=by omega
           have ho:=Dj (sF h1 q.out);have F:((d:Int) == 1)=decide (d=1):=by rw[Bool.eq_iff_iff,beq_iff_eq,decide_eq_true_eq];omega
           clear h1;go_wp2;go_ret;exact⟨by rw[←n.out,ho.out];rfl,y⟩
         · have p:(((lg.length:Nat):Int) == 1)=false:=by rw[beq_eq_false_iff_ne];omega
           have ho:=Dj (vi h1);clear h1;go_wp2;go_ret;exact⟨by rw[←n.out,ho.out];rfl,y⟩
   · have hr:Hid (jE neg la lb=false):=by show _=_;unfold jE;rw[hv1,eq_false_of_ne_true hv2];rfl
     rw[hr.out];have c:=Dj hv1;have f:=Dj (eq_false_of_ne_true hv2);clear hr hv1 hv2;go_enter Tryz.func19,Tryz.ntmps19;go_wp2_with fail;refine (bJ j true c.out).mono ?_;rintro e w1 ⟨rfl,rfl⟩;go_wp2_with fail;refine (bJ h false f.out).mono ?_;rintro e w1 ⟨rfl,rfl⟩;go_wp2;go_ret;exact⟨rfl,g⟩
 · have hr:Hid (jE neg la lb=false):=by show _=_;unfold jE;rw[eq_false_of_ne_true hv1];rfl
   rw[hr.out];have c:=Dj (eq_false_of_ne_true hv1);clear hr hv1;go_enter Tryz.func19,Tryz.ntmps19;go_wp2_with fail;refine (bJ j false c.out).mono ?_;rintro e w1 ⟨rfl,rfl⟩;go_wp2;go_ret;exact⟨rfl,g⟩
theorem yj {neg:Bool}{la lb:List Nat}(ha:Dig la) (hb:Dig lb) (h:jE neg la lb=true):QIs neg la lb (mkRat (sg neg (val la)) (val lb)):=by
 unfold jE at h
 simp only[Bool.and_eq_true,Bool.not_eq_true',decide_eq_true_eq] at h
 obtain⟨h1,h2,h3,h4,h5⟩:=h;refine wY ⟨ha,eR h1,rfl⟩ ⟨hb,eR h2,rfl⟩ (by unfold jC at h3;simpa using h3) ?_ h5;rintro ⟨rfl,rfl⟩
 simp[jC] at h4
theorem lj {l:List Nat}(h:Canon l):gd l=true:=by unfold gd;simpa using mZ h
theorem zf {neg:Bool}{la lb:List Nat}{q:Rat}(h:QIs neg la lb q):jE neg la lb=true:=by
 unfold jE
 simp only[Bool.and_eq_true,Bool.not_eq_true',decide_eq_true_eq]
 refine⟨lj h.na.canon,lj h.nb.canon,?_,?_,QIs.gcd h⟩
 · unfold jC;simpa using QIs.ne h
 · cases neg with
   | false=>rfl
   | true =>
    have:=QIs.sign h;unfold jC
    simpa using this
theorem pA {v:Value}{q:Rat}{k:Nat}{w:World}(hv:FV w v q) (hk:Fits k q) (hK:k≤400000000):Calls Tryz.prog 19 #[v] w (lX true w):=by
 obtain⟨neg,A,ca,la,B,cb,lb,rfl,na,nb,iq⟩:=hv;have hf:=El iq hk;have:=kz (neg:=neg) na nb (by omega) (by omega);rw[zf iq] at this;exact this
end Go.Proofs.YtjhkapjadfpimaaGreat
