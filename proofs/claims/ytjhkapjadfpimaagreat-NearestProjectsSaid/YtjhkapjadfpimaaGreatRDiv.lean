/- Contracts of functions, for the law. -/
import Derived.Test.YtjhkapjadfpimaaGreatWRef1
namespace Go.Proofs.YtjhkapjadfpimaaGreat
set_option linter.unusedVariables false
set_option linter.unusedSimpArgs false
open Go.RowKit Plain
set_option maxRecDepth 100000
set_option maxHeartbeats 40000000
def SubInv (la lb:List Nat) (w:World) (g:Nat) (c i:Value) (wr:World):Prop :=
 ∃ (k cv:Nat) (o:List Nat),k≤la.length∧i=.int .i64 k∧c=.int .u64 cv∧cv≤1∧Hid (o.length=k)∧Dig o ∧
  Row wr g (o++List.replicate (la.length-k) 0)∧Hid (val o+val (lb.take k)=val (la.take k)+pw k*cv)∧Below w.heap.size w wr
def RetSub (m n k:Nat) (W:World) (e:Ending) (w':World):Prop :=
 ∃ A c l,e=.returned (.tuple #[.slice A l.length c,.bool (decide (n≤m))])∧Nv w' A c l∧NatIs l (m-n)∧l.length≤k∧Below W.heap.size W w'
theorem sub_wrap (da cv db:Nat) (h1:da<4294967296) (h2:cv≤1) (h3:db<4294967296) :
 ∃ x c:Nat,IntKind.u64.wrap (IntKind.u64.wrap ((da:Int)-cv)-db) % 4294967296=(x:Int)∧IntKind.u64.wrap (IntKind.u64.wrap ((da:Int)-cv)-db) / 9223372036854775808=(c:Int) ∧
  x<4294967296∧c≤1∧x+db+cv=da+4294967296*c:=by
 rw[G2,G2]
 by_cases h:db+cv≤da
 · refine⟨da - cv - db,0,?_,?_,by omega,by omega,by omega⟩ <;> omega
 · refine⟨da+4294967296 - cv - db,1,?_,?_,by omega,by omega,by omega⟩ <;> omega
theorem yU (da cv:Nat) (h1:da<4294967296) (h2:cv≤1) :
 ∃ x c:Nat,IntKind.u64.wrap ((da:Int)-cv) % 4294967296=(x:Int)∧IntKind.u64.wrap ((da:Int)-cv) / 9223372036854775808=(c:Int) ∧
  x<4294967296∧c≤1∧x+0+cv=da+4294967296*c:=by
 rw[G2]
 by_cases h:cv≤da
 · refine⟨da - cv,0,?_,?_,by omega,by omega,by omega⟩ <;> omega
 · refine⟨da+4294967296 - cv,1,?_,?_,by omega,by omega,by omega⟩ <;> omega
theorem nF (P x a b cv y c' da db:Nat) (h:x+b=a+P*cv) (hs:y+db+cv=da+4294967296*c') :
 x+P*y+(b+P*db)=a+P*da+4294967296*P*c':=by
 have h1:P*(y+db+cv)=P*(da+4294967296*c'):=by rw[hs]
 rw[a2y,a2y,a2y,←a3c,a3d P 4294967296] at h1;omega
theorem rK {la lb:List Nat}{w wr:World}{g k cv:Nat}{o:List Nat}(hkl:k<la.length) (ho:Hid (o.length=k)) (hod:Dig o)
 (hrow:Row wr g (o++List.replicate (la.length-k) 0)) (hval:Hid (val o+val (lb.take k)=val (la.take k)+pw k*cv)) (hbel:Below w.heap.size w wr) (hg:w.heap.size≤g)
 (y c':Nat) (hy:y<4294967296) (hc:c'≤1) (hs:y+lb.getD k 0+cv=la.getD k 0+4294967296*c') (xi ci i':Int) (hx:xi=(y:Int)) (hci:ci=(c':Int)) (hi:i'=((k+1:Nat):Int)) :
 SubInv la lb w g (.int .u64 ci) (.int .i64 i') (wr.setCell ⟨g,k,none⟩ (.int .u32 xi)):=by
 refine⟨k+1,c',o++[y],by omega,by rw[hi],by rw[hci],hc,?_,hod.snoc hy,?_,?_,hbel.setCell hg _⟩
 · show (o++[_]).length=k+1
   rw[a1x,ho.out];rfl
 · rw[O3 (by omega)] at hrow;exact hrow.push ho.out xi hx
 · show val (o++[_])+_=_+pw (k+1)*_
   rw[E8,ho.out,m7,m7,pw];exact nF _ _ _ _ _ _ _ _ _ hval.out hs
theorem sub_last {la lb o:List Nat}{cv:Nat}(hval:Hid (val o+val (lb.take la.length)=val (la.take la.length)+pw la.length*cv)) (ho:Hid (o.length=la.length)) (hod:Dig o) (hl:lb.length≤la.length) (h:val lb≤val la) :
 val o=val la-val lb:=by
 have h1:=hval.out;rw[t7 _ _ (a1u _),t7 _ _ hl] at h1;have h2:=E0 hod;rw[ho.out] at h2
 have h3:cv=0:=by
  rcases a3a cv with h0 | h0
  · exact h0
  · have:pw la.length*1≤pw la.length*cv:=a3g _ h0;omega
 subst h3;omega
theorem pD (A B:Option Addr) (ca cb:Nat) (la lb:List Nat) (w:World) (ha:Nv w A ca la) (hb:Nv w B cb lb) :
 Calls Tryz.prog 53 #[.slice A la.length ca,.slice B lb.length cb] w (RetSub (val la) (val lb) la.length w):=by
 go_enter Tryz.func53,Tryz.ntmps53;go_wp2_with fail;refine (cH ha).mono ?_;rintro e w' ⟨l1,rfl,h1,n1,b1,rfl⟩;go_wp2_with fail;refine (cH hb).mono ?_;rintro e w' ⟨l2,rfl,h2,n2,b2,rfl⟩;clear b2 ha hb;have J:=h1.big;have F:=h2.big;go_wp2_with fail;refine (kB h1 h2).mono ?_;rintro e w1 ⟨rfl,l⟩
 by_cases hlt:val la<val lb
 · have hc:=a1k (show O1 (val l1) (val l2)=-1 from dB (by rw[n1.val,n2.val];exact hlt));rw[hc.out];clear hc;go_wp2
   go_ret2
   refine⟨none,0,[],?_,⟨by simp,by simp,fun hx=>by simp[F1] at hx,Dig.nil⟩,?_,by simp,l⟩
   · rw[a1v (show ¬ val lb≤val la by omega)];rfl
   · rw[show val la-val lb=0 by omega];exact NatIs.nil
 · have hc:0≤O1 (val l1) (val l2):=by
    have h:=J8 (val l1) (val l2);rw[n1.val,n2.val] at *;omega
   have C:=qO (val l1) (val l2);obtain⟨c,q⟩:∃ c,c=O1 (val l1) (val l2):=⟨_,rfl⟩;rw[←q] at hc C ⊢;clear q;have G:=U5 w1 l1.length .i64 (l1.length:Int) rfl (by omega)
   have E:l2.length≤l1.length:=by
    rcases a3h l1.length l2.length with h | h
    · have:=Q6 h1.dig n2.canon h;rw[n1.val,n2.val] at this;omega
    · exact h
   have D:=h1.below l;have x:=h2.below l;go_wp2
   go_loopw [7,23] (fun c i wr=>SubInv l1 l2 w1 w1.heap.size c i wr) (fun _ i _=>l1.length-(intOf i).toNat)
   case atStart=>exact⟨0,0,[],by omega,rfl,rfl,by omega,rfl,Dig.nil,Row.new _ _,rfl,(a3t _ _).alloc (a1u _) _⟩
   case round =>
    obtain⟨k,cv,o,hk,rfl,rfl,t,ho,j,d,g,f⟩:=hrel
    by_cases hkl:k<l1.length
    · have hf:=d.free k;obtain⟨d0,H,_,_⟩:=d.cell' (i:=k) (j.append (Dig.replicate _)) (by rw[a1x,a1p,ho.out];omega);obtain⟨a,da,rfl,M,I,v,r⟩:=(D.below f).at hkl
      by_cases hkb:k<l2.length
      · obtain⟨b,db,rfl,L,N,z,m⟩:=(x.below f).at hkb;go_wp2;obtain⟨y,c',e1,e2,hy,n,hs⟩:=sub_wrap da cv db v t z;go_roundw
        case rel=>exact rK hkl ho j d g f (a1u _) y c' hy n (by rw[r.out,m.out];exact hs) _ _ _ e1 e2 (by omega)
        case measure=>simp[intOf];omega
      · have m:=a1k (show l2.getD k 0=0 by rw[a1l,a2j (by omega)];rfl);go_wp2;obtain⟨y,c',e1,e2,hy,n,hs⟩:=yU da cv v t;go_roundw
        case rel=>exact rK hkl ho j d g f (a1u _) y c' hy n (by rw[r.out,m.out];exact hs) _ _ _ e1 e2 (by omega)
        case measure=>simp[intOf];omega
    · obtain rfl:k=l1.length:=by omega
      have s:=a1k (sub_last g ho j E (by rw[n1.val,n2.val];omega));have p:Row wr w1.heap.size o:=d.eq (by simp);go_wp2_with fail;refine (R0 p ho.out j (by omega)).mono ?_;rintro e w2 ⟨l',rfl,h3,h4,h5,rfl⟩;go_wp2
      go_ret2
      refine⟨_,_,l',?_,h3,?_,by omega,(a1j l f)⟩
      · rw[a1w (show val lb≤val la by omega)];rfl
      · rw[s.out,n1.val,n2.val] at h4;exact h4
def RAddInv (la lb:List Nat) (n:Nat) (w:World) (v c i:Value) (wr:World):Prop :=
 ∃ (k cv:Nat) (o:List Nat),k≤n+1∧i=.int .i64 (k:Int)∧c=.int .u64 (cv:Int)∧cv≤1∧Hid (o.length=k)∧Dig o∧OwnD wr w.heap.size v o ∧
  Hid (val o+pw k*cv=val (la.take k)+val (lb.take k))∧Below w.heap.size w wr
theorem raddstep {la lb o:List Nat}{k cv s:Nat}(ho:Hid (o.length=k)) (hval:Hid (val o+pw k*cv=val (la.take k)+val (lb.take k))) (hs:s=la.getD k 0+cv+lb.getD k 0) :
 val (o++[s % 4294967296])+pw (k+1)*(s / 4294967296)=val (la.take (k+1))+val (lb.take (k+1)):=by
 rw[E8,ho.out,m7,m7,pw];exact oV _ _ _ _ _ _ hval.out _ _ hs
theorem radd_fin {la lb o:List Nat}{n cv:Nat}(ho:Hid (o.length=n+1)) (hval:Hid (val o+pw (n+1)*cv=val (la.take (n+1))+val (lb.take (n+1)))) (ha:Dig la) (hb:Dig lb) (h1:la.length≤n) (h2:lb.length≤n):val o=val la+val lb:=by
 have h:=hval.out;rw[t7 _ _ (by omega),t7 _ _ (by omega)] at h;have h3:=a1o (E0 ha) (I3 h1);have h4:=a1o (E0 hb) (I3 h2)
 rcases a3a cv with h0 | h0
 · subst h0;omega
 · have h5:pw (n+1)*1≤pw (n+1)*cv:=a3g _ h0
   simp only[pw] at h5 h
   omega
theorem H9 (A B:Option Addr) (ca cb:Nat) (la lb:List Nat) (w:World) (ha:Nv w A ca la) (hb:Nv w B cb lb) (hna:la.length≤5000000000) (hnb:lb.length≤5000000000) :
 Calls Tryz.prog 85 #[.slice A la.length ca,.slice B lb.length cb] w (K5 (val la+val lb) (max la.length lb.length+1) w):=by
 by_cases hlt:la.length<lb.length
 all_goals
  obtain⟨n,hn,y,t,H,x⟩:∃ n,Hid (n=if la.length<lb.length then lb.length else la.length)∧la.length≤n∧lb.length≤n∧n≤5000000000∧Hid (n≤max la.length lb.length):=by
   first
    | exact⟨lb.length,(if_pos hlt).symm,by omega,by omega,by omega,by show _≤_;omega⟩
    | exact⟨la.length,(if_neg hlt).symm,by omega,by omega,by omega,by show _≤_;omega⟩
  go_enter Tryz.func85,Tryz.ntmps85;go_wp2
  go_loopw [5,6,7] (fun v c i wr=>RAddInv la lb n w v c i wr) (fun _ _ i _=>n+1-(intOf i).toNat)
  case atStart=>exact⟨0,0,[],by omega,rfl,rfl,by omega,rfl,Dig.nil,OwnD.nil _ _,rfl,a3t _ _⟩
  case round =>
   obtain⟨k,cv,o,hk,rfl,rfl,G,ho,s,h,l,b⟩:=hrel
   by_cases hkn:k≤n
   · obtain⟨da,q⟩:∃ d,Hid (la.getD k 0=d):=⟨_,rfl⟩;obtain⟨db,p⟩:∃ d,Hid (lb.getD k 0=d):=⟨_,rfl⟩;have E:da<4294967296:=q.out ▸ ha.dig.getD _;have F:db<4294967296:=p.out ▸ hb.dig.getD _;have m:=a1k (raddstep ho l (show da+cv+db=la.getD k 0+cv+lb.getD k 0 by rw[q.out,p.out]));have r:(#[Value.int .u32 (((da:Int)+(db:Int)+(cv:Int)) % 4294967296)]:Array Value)=(F1 [(da+cv+db) % 4294967296]).toArray:=by simp[F1];omega
     have z:=(P9 wr r).rd;clear r;have f:decide (k≤n)=true:=a1w hkn;rw[hn.out] at f
     first | rw[if_pos hlt] at f | rw[if_neg hlt] at f
     go_wp2_with fail;refine (z7 (i:=k) (ha.below b) _ rfl (by omega) q).mono ?_;rintro e w1 ⟨rfl,rfl⟩;go_wp2_with fail;refine (z7 (i:=k) (hb.below b) _ rfl (by omega) p).mono ?_;rintro e w1 ⟨rfl,rfl⟩
     go_wp2_with (at_builtin;refine K9 _ rfl rfl _ _ rfl w.heap.size _ o rfl (h.alloc _) (some ⟨wr.heap.size,0,none⟩) 1 1 [(da+cv+db) % 4294967296] rfl z rfl ?_ ?_ ?_;(rw[ho.out];omega);(have:=b.size;simp;omega);intro v' w2 g j)
     go_roundw
     case rel=>exact⟨k+1,(da+cv+db) / 4294967296,o++[(da+cv+db) % 4294967296],by omega,rfl,by congr 1;omega,by omega,by show (o++[_]).length=k+1;rw[a1x,ho.out];rfl,s.snoc (a3l _ (by omega)),g,m.out,bW h b g j⟩
     case measure=>simp[intOf];omega
   · obtain rfl:k=n+1:=by omega
     have f:decide (n+1≤if la.length<lb.length then lb.length else la.length)=false:=by rw[←hn.out];exact a1v (by omega)
     first | rw[if_pos hlt] at f | rw[if_neg hlt] at f
     obtain⟨A',c',rfl,C⟩:=h.nv s (by rw[ho.out];omega);have D:=a1k (radd_fin ho l ha.dig hb.dig y t);go_wp2_with fail;refine (L2 C (by rw[ho.out];omega)).mono ?_;rintro e w1 ⟨A1,c1,l1,rfl,h1,h2,h3,h4⟩;go_wp2;go_ret;exact⟨A1,c1,l1,rfl,h1,D.out ▸ h2,by have:=x.out;rw[ho.out] at h3;omega,(a1j b h4)⟩
def RSubInv (la lb:List Nat) (w:World) (v c i:Value) (wr:World):Prop :=
 ∃ (k cv:Nat) (o:List Nat),k≤la.length∧i=.int .i64 (k:Int)∧c=.int .u64 (cv:Int)∧cv≤1∧Hid (o.length=k)∧Dig o∧OwnD wr w.heap.size v o ∧
  Hid (val o+val (lb.take k)=val (la.take k)+pw k*cv)∧Below w.heap.size w wr
theorem uI (da db bv:Nat) (h1:da<4294967296) (h2:db<4294967296) (h3:bv≤1):∃ y c:Nat,y<4294967296∧c≤1∧Hid (y+db+bv=da+4294967296*c) ∧
 Hid ((4294967296+(da:Int)-db-bv) % 4294967296=(y:Int))∧Hid (1-(4294967296+(da:Int)-db-bv) / 4294967296=(c:Int)):=by
 by_cases h:db+bv≤da
 · exact⟨da-db-bv,0,by omega,by omega,by show _=_;omega,by show _=_;omega,by show _=_;omega⟩
 · exact⟨da+4294967296-db-bv,1,by omega,by omega,by show _=_;omega,by show _=_;omega,by show _=_;omega⟩
theorem rsub_fin {la lb o:List Nat}{cv:Nat}(ho:Hid (o.length=la.length)) (hval:Hid (val o+val (lb.take la.length)=val (la.take la.length)+pw la.length*cv)) (hod:Dig o) (had:Dig la) (h:val lb≤val la):val o=val la-val lb:=by
 have h1:=hval.out;rw[t7 _ _ (a1u _)] at h1;have h2:=E0 hod;rw[ho.out] at h2;have h4:=E0 had
 have h5:val (lb.take la.length)=val lb:=by
  rcases a3h la.length lb.length with hl | hl
  · have h6:=E6 lb la.length (by omega)
    rcases a3a (val (lb.drop la.length)) with h7 | h7
    · rw[h7] at h6;omega
    · have:pw la.length*1≤pw la.length*val (lb.drop la.length):=a3g _ h7;omega
  · exact t7 _ _ hl
 rw[h5] at h1
 have h3:cv=0:=by
  rcases a3a cv with h0 | h0
  · exact h0
  · have:pw la.length*1≤pw la.length*cv:=a3g _ h0;omega
 subst h3;omega
theorem U1 (A B:Option Addr) (ca cb:Nat) (la lb:List Nat) (w:World) (ha:Nv w A ca la) (hb:Nv w B cb lb) (hna:la.length≤5000000000) (hnb:lb.length≤5000000000) :
 Calls Tryz.prog 86 #[.slice A la.length ca,.slice B lb.length cb] w (RetSub (val la) (val lb) la.length w):=by
 go_enter Tryz.func86,Tryz.ntmps86;go_wp2_with fail;refine (eK ha hb hna hnb).mono ?_;rintro e w1 ⟨rfl,rfl⟩
 by_cases hlt:val la<val lb
 · have hc:=a1k (dB hlt);rw[hc.out];clear hc;go_wp2
   go_ret2
   refine⟨none,0,[],?_,aE _,?_,by simp,a3t _ _⟩
   · rw[a1v (show ¬ val lb≤val la by omega)];rfl
   · rw[show val la-val lb=0 by omega];exact NatIs.nil
 · have hc:0≤O1 (val la) (val lb):=by
    have h:=J8 (val la) (val lb);omega
   have E:=qO (val la) (val lb);obtain⟨c,s⟩:∃ c,c=O1 (val la) (val lb):=⟨_,rfl⟩;rw[←s] at hc E ⊢;clear s;have m:=a1k hlt;clear hlt;go_wp2
   go_loopw [6,7,8] (fun v c i wr=>RSubInv la lb w v c i wr) (fun _ _ i _=>la.length-(intOf i).toNat)
   case atStart=>exact⟨0,0,[],by omega,rfl,rfl,by omega,rfl,Dig.nil,OwnD.nil _ _,rfl,a3t _ _⟩
   case round =>
    obtain⟨k,cv,o,hk,rfl,rfl,z,ho,n,g,l,b⟩:=hrel
    by_cases hkn:k<la.length
    · obtain⟨da,q⟩:∃ d,Hid (la.getD k 0=d):=⟨_,rfl⟩;obtain⟨db,p⟩:∃ d,Hid (lb.getD k 0=d):=⟨_,rfl⟩;have t:da<4294967296:=q.out ▸ ha.dig.getD _;have x:db<4294967296:=p.out ▸ hb.dig.getD _;obtain⟨y,c2,hy,G,hs,e1,e2⟩:=uI da db cv t x z;have r:(#[Value.int .u32 ((4294967296+(da:Int)-db-cv) % 4294967296)]:Array Value)=(F1 [y]).toArray:=by rw[e1.out];rfl
      have C:=(P9 wr r).rd;clear r;go_wp2_with fail;refine (z7 (i:=k) (ha.below b) _ rfl (by omega) q).mono ?_;rintro e w1 ⟨rfl,rfl⟩;go_wp2_with fail;refine (z7 (i:=k) (hb.below b) _ rfl (by omega) p).mono ?_;rintro e w1 ⟨rfl,rfl⟩
      go_wp2_with (at_builtin;refine K9 _ rfl rfl _ _ rfl w.heap.size _ o rfl (g.alloc _) (some ⟨wr.heap.size,0,none⟩) 1 1 [y] rfl C rfl ?_ ?_ ?_;(rw[ho.out];omega);(have:=b.size;simp;omega);intro v' w2 f j)
      go_roundw
      case rel=>exact⟨k+1,c2,o++[y],by omega,rfl,by rw[←e2.out],by omega,by show (o++[_]).length=k+1;rw[a1x,ho.out];rfl,n.snoc hy,f,by
       show val (o++[_])+_=_+pw (k+1)*_
       rw[E8,ho.out,m7,m7,pw];exact nF _ _ _ _ _ _ _ _ _ l.out (by rw[q.out,p.out];exact hs.out),bW g b f j⟩
      case measure=>simp[intOf];omega
    · obtain rfl:k=la.length:=by omega
      obtain⟨A',c',rfl,D⟩:=g.nv n (by rw[ho.out];omega);have F:=a1k (rsub_fin ho l n ha.dig (by have:=m.out;omega));have H:decide (la.length<la.length)=false:=a1v (by omega);go_wp2_with fail;refine (L2 D (by rw[ho.out];omega)).mono ?_;rintro e w1 ⟨A1,c1,l1,rfl,h1,h2,h3,h4⟩;go_wp2
      go_ret2
      refine⟨A1,c1,l1,?_,h1,F.out ▸ h2,by rw[ho.out] at h3;omega,(a1j b h4)⟩;rw[a1w (show val lb≤val la by have:=m.out;omega)];rfl
def RScInv (la:List Nat) (d:Nat) (w:World) (v c i:Value) (wr:World):Prop :=
 ∃ (k cv:Nat) (o:List Nat),k≤la.length+1∧i=.int .i64 (k:Int)∧c=.int .u64 (cv:Int)∧cv<4294967296∧Hid (o.length=k)∧Dig o∧OwnD wr w.heap.size v o ∧
  Hid (val o+pw k*cv=val (la.take k)*d)∧Below w.heap.size w wr
theorem rsc_step {la o:List Nat}{k cv d da p:Nat}(ho:Hid (o.length=k)) (hval:Hid (val o+pw k*cv=val (la.take k)*d)) (hda:Hid (la.getD k 0=da)) (hp:Hid (da*d=p)) :
 val (o++[(p+cv) % 4294967296])+pw (k+1)*((p+cv) / 4294967296)=val (la.take (k+1))*d:=by
 rw[E8,ho.out,m7,hda.out,pw,a3k,←hval.out,a3c (pw k),hp.out]
 have h1:pw k*(p+cv)=pw k*((p+cv) % 4294967296)+4294967296*pw k*((p+cv) / 4294967296):=by
  rw[a3d 4294967296 (pw k),a3c,←a2y,Nat.mod_add_div]
 rw[a2y] at h1;omega
theorem rsc_fin {la o:List Nat}{cv d:Nat}(ho:Hid (o.length=la.length+1)) (hval:Hid (val o+pw (la.length+1)*cv=val (la.take (la.length+1))*d)) (had:Dig la) (hd:d<4294967296):val o=val la*d:=by
 have h:=hval.out;rw[t7 _ _ (by omega)] at h;have h3:=E0 had
 rcases a3a cv with h0 | h0
 · subst h0;omega
 · have h5:pw (la.length+1)*1≤pw (la.length+1)*cv:=a3g _ h0;have h6:val la*d≤pw la.length*4294967296:=Nat.mul_le_mul (by omega) (by omega)
   rcases a3a d with hd0 | hd0
   · subst hd0;have:=uR (la.length+1);omega
   · have h7:val la*d<pw la.length*d:=Nat.mul_lt_mul_of_pos_right h3 hd0;have h8:pw la.length*d≤pw la.length*4294967296:=a3g _ (by omega)
     simp only[pw] at h5 h
     rw[a3d _ 4294967296] at h8;omega
theorem pM (A:Option Addr) (ca d:Nat) (la:List Nat) (w:World) (ha:Nv w A ca la) (hna:la.length≤5000000000) (hd:d<4294967296) :
 Calls Tryz.prog 97 #[.slice A la.length ca,.int .u64 (d:Int)] w (K5 (val la*d) (la.length+1) w):=by
 go_enter Tryz.func97,Tryz.ntmps97;go_wp2
 go_loopw [5,6,7] (fun v c i wr=>RScInv la d w v c i wr) (fun _ _ i _=>la.length+1-(intOf i).toNat)
 case atStart=>exact⟨0,0,[],by omega,rfl,rfl,by omega,rfl,Dig.nil,OwnD.nil _ _,by show _=_;simp[val],a3t _ _⟩
 case round =>
  obtain⟨k,cv,o,hk,rfl,rfl,s,ho,q,g,j,b⟩:=hrel
  by_cases hkn:k≤la.length
  · obtain⟨da,m⟩:∃ d,Hid (la.getD k 0=d):=⟨_,rfl⟩;have r:da<4294967296:=m.out ▸ ha.dig.getD _;obtain⟨p,hp,C,B,z,_⟩:=aG (c:=0) r hd s (by omega);have l:=a1k (rsc_step ho j m hp);have n:(#[Value.int .u32 (((p:Int)+(cv:Int)) % 4294967296)]:Array Value)=(F1 [(p+cv) % 4294967296]).toArray:=by simp[F1]
    have t:=(P9 wr n).rd;clear n;go_wp2_with fail;refine (z7 (i:=k) (ha.below b) _ rfl (by omega) m).mono ?_;rintro e w1 ⟨rfl,rfl⟩
    go_wp2_with (at_builtin;refine K9 _ rfl rfl _ _ rfl w.heap.size _ o rfl (g.alloc _) (some ⟨wr.heap.size,0,none⟩) 1 1 [(p+cv) % 4294967296] rfl t rfl ?_ ?_ ?_;(rw[ho.out];omega);(have:=b.size;simp;omega);intro v' w2 f h)
    go_roundw
    case rel=>exact⟨k+1,(p+cv) / 4294967296,o++[(p+cv) % 4294967296],by omega,rfl,rfl,by omega,by show (o++[_]).length=k+1;rw[a1x,ho.out];rfl,q.snoc (a3l _ (by omega)),f,l.out,bW g b f h⟩
    case measure=>simp[intOf];omega
  · obtain rfl:k=la.length+1:=by omega
    obtain⟨A',c',rfl,x⟩:=g.nv q (by rw[ho.out];omega);have y:=a1k (rsc_fin ho j ha.dig hd);have D:decide (la.length+1≤la.length)=false:=a1v (by omega);go_wp2_with fail;refine (L2 x (by rw[ho.out];omega)).mono ?_;rintro e w1 ⟨A1,c1,l1,rfl,h1,h2,h3,h4⟩;go_wp2;go_ret;exact⟨A1,c1,l1,rfl,h1,y.out ▸ h2,by rw[ho.out] at h3;omega,(a1j b h4)⟩
def RShInv (n:Nat) (w:World) (v i:Value) (wr:World):Prop :=
 ∃ k:Nat,k≤n∧i=.int .i64 (k:Int)∧OwnD wr w.heap.size v (List.replicate k 0)∧Below w.heap.size w wr
theorem rep_len (k:Nat):Hid ((List.replicate k 0:List Nat).length=k):=a1p
theorem rep_snoc (k:Nat):List.replicate k (0:Nat)++[0]=List.replicate (k+1) 0:=by rw[List.replicate_succ']
theorem pL (A:Option Addr) (ca n:Nat) (la:List Nat) (w:World) (ha:Nv w A ca la) (hna:la.length≤5000000000) (hn:n≤5000000000) :
 Calls Tryz.prog 96 #[.slice A la.length ca,.int .i64 (n:Int)] w (K5 (pw n*val la) (n+la.length) w):=by
 go_enter Tryz.func96,Tryz.ntmps96;go_wp2
 go_loopw [5,6] (fun v i wr=>RShInv n w v i wr) (fun _ i _=>n-(intOf i).toNat)
 case atStart=>exact⟨0,by omega,rfl,OwnD.nil _ _,a3t _ _⟩
 case round =>
  obtain⟨k,hk,rfl,f,b⟩:=hrel;have g:=rep_len k
  by_cases hkn:k<n
  · have m:(#[Value.int .u32 0]:Array Value)=(F1 [0]).toArray:=by simp[F1]
    have h:=(P9 wr m).rd;clear m
    go_wp2_with (at_builtin;refine K9 _ rfl rfl _ _ rfl w.heap.size _ (List.replicate k 0) rfl (f.alloc _) (some ⟨wr.heap.size,0,none⟩) 1 1 [0] rfl h rfl ?_ ?_ ?_;(rw[g.out];omega);(have:=b.size;simp;omega);intro v' w2 d c)
    go_roundw
    case rel=>exact⟨k+1,by omega,rfl,d.eq (rep_snoc k),bW f b d c⟩
    case measure=>simp[intOf];omega
  · obtain rfl:k=n:=by omega
    have hA:=ha.below b;have h:=hA.rd;have q:=hA.len;have hd:=a1k (show val (List.replicate k 0++la)=pw k*val la by rw[P5,dI,g.out,Nat.zero_add]);have j:=a1k (show (List.replicate k 0++la).length=k+la.length by rw[a1x,g.out]);have p:Dig (List.replicate k 0++la):=(Dig.replicate k).append ha.dig
    go_wp2_with (at_builtin;refine K9 _ rfl rfl _ _ rfl w.heap.size _ (List.replicate k 0) rfl f A la.length ca la rfl h rfl ?_ ?_ ?_;(rw[g.out];omega);(exact b.size);intro v' w2 d c)
    have l:=f.grown_below b c (a1u _) b.size;obtain⟨A',c',rfl,o⟩:=d.nv p (by rw[j.out];omega);go_wp2_with fail;refine (L2 o (by rw[j.out];omega)).mono ?_;rintro e w1 ⟨A1,c1,l1,rfl,h1,h2,h3,h4⟩;go_wp2;go_ret;exact⟨A1,c1,l1,rfl,h1,hd.out ▸ h2,by rw[j.out] at h3;omega,(a1j l h4)⟩
def RMulInv (la lb:List Nat) (w:World) (v i:Value) (wr:World):Prop :=
 ∃ (k c:Nat) (A:Option Addr) (l:List Nat),k≤lb.length∧i=.int .i64 (k:Int)∧v=.slice A l.length c∧Nv wr A c l∧Hid (NatIs l (val la*val (lb.take k)))∧l.length≤la.length+k∧Below w.heap.size w wr
theorem rmul_len {la lb l:List Nat}{k:Nat}(ha:Dig la) (hb:Dig lb) (h:NatIs l (val la*val (lb.take k))):l.length≤la.length+k:=by
 refine C0 h.canon ?_;rw[h.val,bR];exact Nat.mul_lt_mul_of_lt_of_lt (E0 ha) (L0 hb k)
theorem N1 (A B:Option Addr) (ca cb:Nat) (la lb:List Nat) (w:World) (ha:Nv w A ca la) (hb:Nv w B cb lb) (hna:la.length≤500000000) (hnb:lb.length≤500000000) :
 Calls Tryz.prog 84 #[.slice A la.length ca,.slice B lb.length cb] w (K5 (val la*val lb) (la.length+lb.length) w):=by
 go_enter Tryz.func84,Tryz.ntmps84;go_wp2
 go_loopw [5,6] (fun v i wr=>RMulInv la lb w v i wr) (fun _ i _=>lb.length-(intOf i).toNat)
 case atStart=>exact⟨0,0,none,[],by omega,rfl,rfl,aE _,by rw[List.take_zero];exact NatIs.nil,by simp,a3t _ _⟩
 case round =>
  obtain⟨k,c,Ao,l,hk,rfl,rfl,hl,f,j,b⟩:=hrel
  by_cases hkn:k<lb.length
  · have hA:=ha.below b;obtain⟨a,d,rfl,r,s,o,m⟩:=(hb.below b).at (k:=k) hkn;go_wp2_with fail;refine (pM _ _ d _ _ hA (by omega) o).mono ?_;rintro e w1 ⟨A1,c1,l1,rfl,n1,i1,h1,b1⟩;have n:=a1k i1;clear i1;go_wp2_with fail;refine (pL _ _ k _ _ n1 (by omega) (by omega)).mono ?_;rintro e w2 ⟨A2,c2,l2,rfl,n2,i2,h2,b2⟩;have q:=a1k i2;clear i2;have p:=b.trans (((a1j b1 b2)).mono b.size);go_wp2_with fail;refine (H9 _ _ _ _ _ _ _ ((hl.below b1).below b2) n2 (by omega) (by omega)).mono ?_;rintro e w3 ⟨A3,c3,l3,rfl,n3,i3,h3,b3⟩
    have g:=a1k (show NatIs l3 (val la*val (lb.take (k+1))) by
     have h:=i3;rw[f.out.val,q.out.val,n.out.val,←m.out,Nat.mul_left_comm,←a2y,←m7] at h;exact h)
    clear i3 h3;go_wp2;go_roundw
    case rel=>exact⟨k+1,c3,A3,l3,by omega,rfl,rfl,n3,g,rmul_len ha.dig hb.dig g.out,(a1j p b3)⟩
    case measure=>simp[intOf];omega
  · obtain rfl:k=lb.length:=by omega
    go_wp2;go_ret;exact⟨Ao,c,l,rfl,hl,by have h:=f.out;rw[a2z] at h;exact h,j,b⟩
theorem pS (k:Nat):pw k=2 ^ (32*k):=by
 induction k with
 | zero=>rfl
 | succ k ih=>rw[show 32*(k+1)=32*k+32 by omega,Nat.pow_add,←ih,bR k 1,kY]
theorem eD {l:List Nat}(hd:Dig l) (j:Nat):val l / pw j=val (l.drop j):=by
 rcases a3h l.length j with h | h
 · rw[List.drop_eq_nil_of_le (by omega),wL];exact Nat.div_eq_of_lt (a1o (E0 hd) (I3 (by omega)))
 · have h1:=E6 l j h;have h2:=L0 hd j;rw[←h1,Nat.add_mul_div_left _ _ (uR j),Nat.div_eq_of_lt h2,Nat.zero_add]
theorem getD_ge {l:List Nat}{j:Nat}(h:l.length≤j):l.getD j 0=0:=by
 rw[a1l,a2j h];rfl
theorem Z1 (l:List Nat) (j:Nat):val (l.drop j)=l.getD j 0+4294967296*val (l.drop (j+1)):=by
 rcases a3h j l.length with h | h
 · exact kF l j h
 · rw[getD_ge h,List.drop_eq_nil_of_le h,List.drop_eq_nil_of_le (by omega)];rfl
theorem jL (x a b:Nat) (h:a+b≤64):x % 2 ^ 64 / 2 ^ a % 2 ^ b=x / 2 ^ a % 2 ^ b:=by
 rw[show (2:Nat) ^ 64=2 ^ a*2 ^ (64-a) by rw[←Nat.pow_add];congr 1;omega,Nat.mod_mul_right_div_self];exact Nat.mod_mod_of_dvd _ (Nat.pow_dvd_pow 2 (by omega))
theorem mF (x i:Nat):x / 2 ^ i=x / pw (i / 32) / 2 ^ (i % 32):=by
 rw[pS,Nat.div_div_eq_div_mul,←Nat.pow_add]
 congr 2
 omega
theorem bit_math {l:List Nat}(hd:Dig l) (i:Nat):l.getD (i / 32) 0 / 2 ^ (i % 32) % 2=val l / 2 ^ i % 2:=by
 have hr:i % 32<32:=a3l _ (by omega);rw[mF (val l),eD hd,Z1];have h1:=jL (l.getD (i / 32) 0+4294967296*val (l.drop (i / 32+1))) (i % 32) 1 (by omega);have h3:=hd.getD (i / 32)
 generalize hx:l.getD (i / 32) 0=x at *
 generalize val (l.drop (i / 32+1))=y at *
 generalize i % 32=r at *
 rw[show (4294967296:Nat)=2 ^ r*2 ^ (32-r) by rw[←Nat.pow_add,show r+(32-r)=32 by omega],a3c,Nat.add_mul_div_left _ _ (a3p r),show 32-r=(31-r)+1 by omega,Nat.pow_succ,a3d _ 2,a3c,Nat.add_mul_mod_self_left]
theorem a0g {l:List Nat}(hd:Dig l) (k m:Nat):val l / 2 ^ k / pw m % 4294967296=(l.getD (k / 32+m) 0+4294967296*l.getD (k / 32+m+1) 0) / 2 ^ (k % 32) % 4294967296:=by
 have hr:k % 32<32:=a3l _ (by omega)
 have e1:val l / 2 ^ k / pw m=val (l.drop (k / 32+m)) / 2 ^ (k % 32):=by
  rw[mF (val l),Nat.div_div_eq_div_mul,a3d (2 ^ (k % 32)),←Nat.div_div_eq_div_mul,Nat.div_div_eq_div_mul _ (pw (k / 32)),←bR,eD hd]
 rw[e1,Z1,Z1 l (k / 32+m+1)];have h2:=hd.getD (k / 32+m);have h3:=hd.getD (k / 32+m+1)
 generalize l.getD (k / 32+m) 0=x at *
 generalize l.getD (k / 32+m+1) 0=y at *
 generalize val (l.drop (k / 32+m+1+1))=z at *
 have h:=jL (x+4294967296*(y+4294967296*z)) (k % 32) 32 (by omega);rw[show (2:Nat) ^ 32=4294967296 by rfl,show (2:Nat) ^ 64=18446744073709551616 by rfl] at h;rw[←h]
 congr 2
 omega
theorem a0f {o:List Nat}{N m d:Nat}(ho:o.length=m) (hv:val o=N % pw m) (hd:N / pw m % 4294967296=d):val (o++[d])=N % pw (m+1):=by
 rw[E8,ho,hv,←hd,show pw (m+1)=pw m*4294967296 by rw[bR,kY],Nat.mod_mul]
theorem high_fin {l o:List Nat}{k m:Nat}(hd:Dig l) (hm:l.length≤k / 32+m) (hv:val o=val l / 2 ^ k % pw m):val o=val l / 2 ^ k:=by
 rw[hv]
 apply Nat.mod_eq_of_lt
 rw[mF (val l),eD hd];refine a2p (Nat.div_le_self _ _) (a1o (E0 (hd.drop _)) (I3 ?_));rw[a2d];omega
theorem C3 (w:World) (n:Nat):Below w.heap.size w (w.drewN n):=⟨rfl,rfl,rfl,a1u _,fun _ _=>rfl⟩
theorem nP {r:Nat}(h:r<32):(2:Nat) ^ r<4294967296:=a1o (Nat.pow_lt_pow_right (by omega) h) (by decide)
theorem eM {A:Option Addr}{c i:Nat}{l:List Nat}{w:World}(h:Nv w A c l) (hi:i≤1000000000000) :
 Calls Tryz.prog 89 #[.slice A l.length c,.int .i64 (i:Int)] w fun e w'=>e=.returned (.int .u64 ((val l / 2 ^ i % 2:Nat):Int))∧∃ n,w'=w.drewN n:=by
 have hm:=a1k (bit_math h.dig i);obtain⟨d,hd⟩:∃ d,Hid (l.getD (i / 32) 0=d):=⟨_,rfl⟩;have h3:=a1k (nP (a3l i (show 0<32 by omega)));have f:d<4294967296:=hd.out ▸ h.dig.getD _;obtain⟨p,hp,k,j⟩:∃ p:Nat,Hid (2 ^ (i % 32)=p)∧1≤p∧p<4294967296:=⟨_,rfl,Nat.one_le_two_pow,h3.out⟩;have ht:((i:Int) % 32).toNat=i % 32:=by omega
 have g:((2:Int) ^ (i % 32))=(p:Int):=by rw[←hp.out];simp
 have hw:IntKind.u64.wrap (p:Int)=(p:Int):=by rw[G2];omega
 obtain⟨x,hx,b⟩:∃ x:Nat,Hid (d / p=x)∧IntKind.u64.wrap ((d:Int) / (p:Int))=(x:Int):=⟨d / p,rfl,by
  have h1:d / p≤d:=Nat.div_le_self _ _;rw[G2,←Int.natCast_ediv]
  generalize d / p=x at *
  omega⟩
 go_enter Tryz.func89,Tryz.ntmps89;go_wp2
 go_quiet ((go_at_call 98;refine Calls.quiet_of_same ((z7 (i:=i / 32) (h.below (C3 _ _)) ((i:Int) / 32) (by omega) (by omega) hd).mono fun _ _ hh=>⟨hh.1,hh.2.symm⟩)))
 go_wp2;go_ret;refine⟨?_,_,rfl⟩;rw[←hm.out,hd.out,hp.out,hx.out]
 rfl
def RBtInv (l:List Nat) (w:World) (v:Value) (wr:World):Prop:=∃ k n:Nat,k≤32*l.length∧v=.int .i64 (k:Int)∧Hid (val l<2 ^ k)∧wr=w.drewN n
theorem nN {x k:Nat}(h:x<2 ^ k) (hb:k=0∨x / 2 ^ (k-1) % 2=1):N2 x=k:=by
 rcases a3a k with h0 | h0
 · subst h0;rw[Nat.pow_zero] at h;rw[show x=0 by omega];rfl
 · obtain⟨j,rfl⟩:∃ j,k=j+1:=⟨k-1,by omega⟩;rw[a3n] at hb;refine a1e ?_ h;have h1:x / 2 ^ j≠0:=by omega
   rcases a3h x (2 ^ j) with hlt | hge
   · exact absurd (Nat.div_eq_of_lt hlt) h1
   · exact hge
theorem uQ {x k:Nat}(h:x<2 ^ (k+1)) (hb:x / 2 ^ k % 2=0):x<2 ^ k:=by
 have h1:x / 2 ^ k<2:=Nat.div_lt_of_lt_mul (by rw[Nat.pow_succ] at h;omega)
 rcases a3h x (2 ^ k) with hlt | hge
 · exact hlt
 · have:=Nat.div_pos hge (a3p k);omega
theorem jE {A:Option Addr}{c:Nat}{l:List Nat}{w:World}(h:Nv w A c l) (hl:l.length≤5000000000) :
 Calls Tryz.prog 87 #[.slice A l.length c] w fun e w'=>e=.returned (.int .i64 ((N2 (val l):Nat):Int))∧∃ n,w'=w.drewN n:=by
 have f:=a1k (show val l<2 ^ (32*l.length) by rw[←pS];exact E0 h.dig);go_enter Tryz.func87,Tryz.ntmps87;go_wp2
 go_loopw [3] (fun v wr=>RBtInv l w v wr) (fun v _=>(intOf v).toNat)
 case atStart=>exact⟨32*l.length,0,a1u _,by simp,f,rfl⟩
 case round =>
  obtain⟨k,n,hk,rfl,hx,rfl⟩:=hrel
  rcases k with _ | j
  · have hv:=a1k (nN hx.out (.inl rfl));have g:decide ((0:Int)<((0:Nat):Int))=false:=by decide
    go_wp2;go_ret;exact⟨by rw[hv.out];rfl,_,rfl⟩
  · have g:decide (0<j+1)=true:=by simp
    have hj:((j+1:Nat):Int)-1=(j:Int):=by omega
    obtain⟨b,hb⟩:∃ b,Hid (val l / 2 ^ j % 2=b):=⟨_,rfl⟩;have o:b<2:=hb.out ▸ a3l _ (by omega);go_wp2_with fail;refine (eM (i:=j) (h.below (C3 w n)) (by omega)).mono ?_;rintro e w1 ⟨rfl,m,rfl⟩;rw[hb.out]
    rcases (show b=0∨b=1 by omega) with rfl | rfl
    · have d:=a1k (uQ hx.out hb.out);go_wp2;go_roundw
      case rel=>exact⟨j,n+m,by omega,rfl,d,rfl⟩
      case measure=>simp[intOf]
    · have hv:=a1k (nN hx.out (.inr hb.out));go_wp2;go_ret;exact⟨by rw[hv.out];rfl,n+m,rfl⟩
def RHiInv (l:List Nat) (k q:Nat) (w:World) (v i:Value) (wr:World):Prop :=
 ∃ (m:Nat) (o:List Nat),i=.int .i64 ((q+m:Nat):Int)∧(m=0∨q+m≤l.length)∧Hid (o.length=m)∧Dig o∧OwnD wr w.heap.size v o∧Hid (val o=val l / 2 ^ k % pw m)∧Below w.heap.size w wr
theorem jC {A:Option Addr}{c k:Nat}{l:List Nat}{w:World}(h:Nv w A c l) (hl:l.length≤5000000000) (hk:k≤1000000000000) :
 Calls Tryz.prog 88 #[.slice A l.length c,.int .i64 (k:Int)] w (K5 (val l / 2 ^ k) l.length w):=by
 have h3:=a1k (nP (a3l k (show 0<32 by omega)));obtain⟨p,hp,V,J⟩:∃ p:Nat,Hid (2 ^ (k % 32)=p)∧1≤p∧p<4294967296:=⟨_,rfl,Nat.one_le_two_pow,h3.out⟩;have ht:((k:Int) % 32).toNat=k % 32:=by omega
 have O:((2:Int) ^ (k % 32))=(p:Int):=by rw[←hp.out];simp
 have hw:IntKind.u64.wrap (p:Int)=(p:Int):=by rw[G2];omega
 obtain⟨q,hq,T⟩:∃ q:Nat,Hid (k / 32=q)∧(k:Int) / 32=(q:Int):=⟨k / 32,rfl,by omega⟩;go_enter Tryz.func88,Tryz.ntmps88;go_wp2
 go_loopw [5,6] (fun v i wr=>RHiInv l k q w v i wr) (fun _ i _=>l.length-(intOf i).toNat)
 case atStart=>exact⟨0,[],by simp,.inl rfl,rfl,Dig.nil,OwnD.nil _ _,by show _=_;simp[val,pw,Nat.mod_one],a3t _ _⟩
 case round =>
  obtain⟨m,o,rfl,E,ho,C,g,n,b⟩:=hrel;obtain⟨i,hi⟩:∃ i,Hid (q+m=i):=⟨_,rfl⟩;have X:m≤l.length:=by omega
  rw[hi.out] at E ⊢
  by_cases hlt:i<l.length
  · obtain⟨x,hx⟩:∃ d,Hid (l.getD i 0=d):=⟨_,rfl⟩;obtain⟨y,hy⟩:∃ d,Hid (l.getD (i+1) 0=d):=⟨_,rfl⟩;have L:x<4294967296:=hx.out ▸ h.dig.getD _;have R:y<4294967296:=hy.out ▸ h.dig.getD _;have D:=a1k (a0g h.dig k m);obtain⟨s,hs,H,U⟩:∃ s:Nat,Hid (x+4294967296*y=s)∧s<18446744073709551616∧(x:Int)+(y:Int)*4294967296=(s:Int):=⟨_,rfl,by omega,by omega⟩;obtain⟨z,hz,I,N⟩:∃ z:Nat,Hid (s / p=z)∧(s:Int) / (p:Int)=(z:Int)∧z<18446744073709551616:=⟨s / p,rfl,by rw[←Int.natCast_ediv],a2p (Nat.div_le_self _ _) H⟩
    have t:=a1k (a0f ho.out n.out (show val l / 2 ^ k / pw m % 4294967296=z % 4294967296 by
     rw[D.out,hq.out,hi.out,hx.out,hy.out,hp.out,hs.out,hz.out]))
    have r:(#[Value.int .u32 ((z:Int) % 4294967296)]:Array Value)=(F1 [z % 4294967296]).toArray:=by simp[F1]
    have F:=(P9 wr r).rd;clear r;go_wp2_with fail;refine (z7 (i:=i) (h.below b) _ rfl (by omega) hx).mono ?_;rintro e w1 ⟨rfl,rfl⟩;go_wp2_with fail;refine (z7 (i:=i+1) (h.below b) _ rfl (by omega) hy).mono ?_;rintro e w1 ⟨rfl,rfl⟩
    go_wp2_with (at_builtin;refine K9 _ rfl rfl _ _ rfl w.heap.size _ o rfl (g.alloc _) (some ⟨wr.heap.size,0,none⟩) 1 1 [z % 4294967296] rfl F rfl ?_ ?_ ?_;(rw[ho.out];omega);(have:=b.size;simp;omega);intro v' w2 f j)
    go_roundw
    case rel=>exact⟨m+1,o++[z % 4294967296],by rw[←Nat.add_assoc,hi.out];rfl,.inr (by have:=hi.out;omega),by show (o++[_]).length=m+1;rw[a1x,ho.out];rfl,C.snoc (a3l _ (by omega)),f,t,bW g b f j⟩
    case measure=>simp[intOf];omega
  · obtain⟨A',c',rfl,G⟩:=g.nv C (by rw[ho.out];omega);have B:=a1k (high_fin h.dig (show l.length≤k / 32+m by rw[hq.out,hi.out];omega) n.out);have M:m≤l.length:=by omega
    go_wp2_with fail;refine (L2 G (by rw[ho.out];omega)).mono ?_;rintro e w1 ⟨A1,c1,l1,rfl,h1,h2,h3,h4⟩;go_wp2;go_ret;exact⟨A1,c1,l1,rfl,h1,B.out ▸ h2,by rw[ho.out] at h3;omega,(a1j b h4)⟩
theorem oG (a j:Nat):a / 2 ^ j=2*(a / 2 ^ (j+1))+a / 2 ^ j % 2:=by
 rw[Nat.pow_succ,←Nat.div_div_eq_div_mul];omega
theorem xQ {a b Q R Q2 R2 j:Nat}(h:Q*b+R=a / 2 ^ (j+1)) (h2:Q2=Q+Q) (h3:R2=R+R+a / 2 ^ j % 2):Q2*b+R2=a / 2 ^ j:=by
 rw[oG a j,←h,h2,h3,a3k];omega
theorem xR {a b Q R Q2 R2 j:Nat}(h:Q*b+R=a / 2 ^ (j+1)) (h2:Q2=Q+Q+1) (h3:R2=R+R+a / 2 ^ j % 2-b) (hb:b≤R+R+a / 2 ^ j % 2):Q2*b+R2=a / 2 ^ j:=by
 rw[oG a j,←h,h2,h3,a3k,a3k,Nat.one_mul];omega
theorem sO {a b Q R:Nat}(h:Q*b+R=a / 2 ^ 0) (hR:R<b):Q=a / b∧R=a % b:=by
 rw[Nat.pow_zero,Nat.div_one] at h;have hb:0<b:=by omega
 subst h;refine⟨?_,?_⟩
 · rw[Nat.add_comm,Nat.add_mul_div_right _ _ hb,Nat.div_eq_of_lt hR,Nat.zero_add]
 · rw[Nat.add_comm,Nat.add_mul_mod_self_right,Nat.mod_eq_of_lt hR]
end Go.Proofs.YtjhkapjadfpimaaGreat
