/- Contracts of functions, for the law. -/
import Derived.Test.YtjhkapjadfpimaaGreatWRef1
namespace Go.Proofs.YtjhkapjadfpimaaGreat
set_option linter.unusedVariables false
set_option linter.unusedSimpArgs false
open Go.RowKit Plain
set_option maxRecDepth 100000
set_option maxHeartbeats 40000000
def Ag (la lb:List Nat) (w:World) (g:Nat) (c i:Value) (wr:World):Prop :=
 ∃ (k cv:Nat) (o:List Nat),k≤la.length∧i=.int .i64 k∧c=.int .u64 cv∧cv≤1∧Hid (o.length=k)∧Dig o ∧
  Row wr g (o++List.replicate (la.length-k) 0)∧Hid (val o+val (lb.take k)=val (la.take k)+pw k*cv)∧Below w.heap.size w wr
def Ah (m n k:Nat) (W:World) (e:Ending) (w':World):Prop :=
 ∃ A c l,e=.returned (.tuple #[.slice A l.length c,.bool (decide (n≤m))])∧Nv w' A c l∧NatIs l (m-n)∧l.length≤k∧Below W.heap.size W w'
theorem yr (da cv db:Nat) (h1:da<4294967296) (h2:cv≤1) (h3:db<4294967296) :
 ∃ x c:Nat,IntKind.u64.wrap (IntKind.u64.wrap ((da:Int)-cv)-db) % 4294967296=(x:Int)∧IntKind.u64.wrap (IntKind.u64.wrap ((da:Int)-cv)-db) / 9223372036854775808=(c:Int) ∧
  x<4294967296∧c≤1∧x+db+cv=da+4294967296*c:=by
 rw[cH,cH]
 by_cases h:db+cv≤da
 · refine⟨da - cv - db,0,?_,?_,by omega,by omega,by omega⟩ <;> omega
 · refine⟨da+4294967296 - cv - db,1,?_,?_,by omega,by omega,by omega⟩ <;> omega
theorem wH (da cv:Nat) (h1:da<4294967296) (h2:cv≤1) :
 ∃ x c:Nat,IntKind.u64.wrap ((da:Int)-cv) % 4294967296=(x:Int)∧IntKind.u64.wrap ((da:Int)-cv) / 9223372036854775808=(c:Int) ∧
  x<4294967296∧c≤1∧x+0+cv=da+4294967296*c:=by
 rw[cH]
 by_cases h:cv≤da
 · refine⟨da - cv,0,?_,?_,by omega,by omega,by omega⟩ <;> omega
 · refine⟨da+4294967296 - cv,1,?_,?_,by omega,by omega,by omega⟩ <;> omega
theorem pN (P x a b cv y c' da db:Nat) (h:x+b=a+P*cv) (hs:y+db+cv=da+4294967296*c') :
 x+P*y+(b+P*db)=a+P*da+4294967296*P*c':=by
 have h1:P*(y+db+cv)=P*(da+4294967296*c'):=by rw[hs]
 rw[Nat.mul_add,Nat.mul_add,Nat.mul_add,←Nat.mul_assoc,Nat.mul_comm P 4294967296] at h1;omega
theorem sc {la lb:List Nat}{w wr:World}{g k cv:Nat}{o:List Nat}(hkl:k<la.length) (ho:Hid (o.length=k)) (hod:Dig o)
 (hrow:Row wr g (o++List.replicate (la.length-k) 0)) (hval:Hid (val o+val (lb.take k)=val (la.take k)+pw k*cv)) (hbel:Below w.heap.size w wr) (hg:w.heap.size≤g)
 (y c':Nat) (hy:y<4294967296) (hc:c'≤1) (hs:y+lb.getD k 0+cv=la.getD k 0+4294967296*c') (xi ci i':Int) (hx:xi=(y:Int)) (hci:ci=(c':Int)) (hi:i'=((k+1:Nat):Int)) :
 Ag la lb w g (.int .u64 ci) (.int .i64 i') (wr.setCell ⟨g,k,none⟩ (.int .u32 xi)):=by
 refine⟨k+1,c',o++[y],by omega,by rw[hi],by rw[hci],hc,?_,hod.snoc hy,?_,?_,hbel.setCell hg _⟩
 · show (o++[_]).length=k+1
   rw[Dw,ho.out];rfl
 · rw[fh (by omega)] at hrow;exact hrow.push ho.out xi hx
 · show val (o++[_])+_=_+pw (k+1)*_
   rw[cf,ho.out,ax,ax,pw];exact pN _ _ _ _ _ _ _ _ _ hval.out hs
theorem yt {la lb o:List Nat}{cv:Nat}(hval:Hid (val o+val (lb.take la.length)=val (la.take la.length)+pw la.length*cv)) (ho:Hid (o.length=la.length)) (hod:Dig o) (hl:lb.length≤la.length) (h:val lb≤val la) :
 val o=val la-val lb:=by
 have h1:=hval.out;rw[aK _ _ (Dt _),aK _ _ hl] at h1;have h2:=bW hod;rw[ho.out] at h2
 have h3:cv=0:=by
  rcases Nat.eq_zero_or_pos cv with h0 | h0
  · exact h0
  · have:pw la.length*1≤pw la.length*cv:=Nat.mul_le_mul_left _ h0;omega
 subst h3;omega
theorem qP (A B:Option Addr) (ca cb:Nat) (la lb:List Nat) (w:World) (ha:Nv w A ca la) (hb:Nv w B cb lb) :
 Calls Tryz.prog 53 #[.slice A la.length ca,.slice B lb.length cb] w (Ah (val la) (val lb) la.length w):=by
 go_enter Tryz.func53,Tryz.ntmps53;go_wp2_with fail;refine (jW ha).mono ?_;rintro e w' ⟨l1,rfl,h1,n1,b1,rfl⟩;go_wp2_with fail;refine (jW hb).mono ?_;rintro e w' ⟨l2,rfl,h2,n2,b2,rfl⟩;clear b2 ha hb;have M:=h1.big;have G:=h2.big;go_wp2_with fail;refine (nT h1 h2).mono ?_;rintro e w1 ⟨rfl,l⟩
 by_cases hlt:val la<val lb
 · have hc:=Dj (show ff (val l1) (val l2)=-1 from kj (by rw[n1.val,n2.val];exact hlt));rw[hc.out];clear hc;go_wp2
   go_ret2
   refine⟨none,0,[],?_,⟨by simp,by simp,fun hx=>by simp[cn] at hx,Dig.nil⟩,?_,by simp,l⟩
   · rw[Du (show ¬ val lb≤val la by omega)];rfl
   · rw[show val la-val lb=0 by omega];exact NatIs.nil
 · have hc:0≤ff (val l1) (val l2):=by
    have h:=dK (val l1) (val l2);rw[n1.val,n2.val] at *;omega
   have E:=rJ (val l1) (val l2);obtain⟨c,r⟩:∃ c,c=ff (val l1) (val l2):=⟨_,rfl⟩;rw[←r] at hc E ⊢;clear r;have H:=gR w1 l1.length .i64 (l1.length:Int) rfl (by omega)
   have z:l2.length≤l1.length:=by
    rcases Nat.lt_or_ge l1.length l2.length with h | h
    · have:=fP h1.dig n2.canon h;rw[n1.val,n2.val] at this;omega
    · exact h
   have x:=h1.below l;have D:=h2.below l;go_wp2
   go_loopw [7,23] (fun c i wr=>Ag l1 l2 w1 w1.heap.size c i wr) (fun _ i _=>l1.length-(intOf i).toNat)
   case atStart=>exact⟨0,0,[],by omega,rfl,rfl,by omega,rfl,Dig.nil,Row.new _ _,rfl,(DY _ _).alloc (Dt _) _⟩
   case round =>
    obtain⟨k,cv,o,hk,rfl,rfl,s,ho,j,d,g,f⟩:=hrel
    by_cases hkl:k<l1.length
    · have hf:=d.free k;obtain⟨d0,J,_,_⟩:=d.cell' (i:=k) (j.append (Dig.replicate _)) (by rw[Dw,Do,ho.out];omega);obtain⟨a,da,rfl,I,L,t,v⟩:=(x.below f).at hkl
      by_cases hkb:k<l2.length
      · obtain⟨b,db,rfl,N,F,C,p⟩:=(D.below f).at hkb;go_wp2;obtain⟨y,c',e1,e2,hy,n,hs⟩:=yr da cv db t s C;go_roundw
        case rel=>exact sc hkl ho j d g f (Dt _) y c' hy n (by rw[v.out,p.out];exact hs) _ _ _ e1 e2 (by omega)
        case measure=>simp[intOf];omega
      · have p:=Dj (show l2.getD k 0=0 by rw[Dk,DI (by omega)];rfl);go_wp2;obtain⟨y,c',e1,e2,hy,n,hs⟩:=wH da cv t s;go_roundw
        case rel=>exact sc hkl ho j d g f (Dt _) y c' hy n (by rw[v.out,p.out];exact hs) _ _ _ e1 e2 (by omega)
        case measure=>simp[intOf];omega
    · obtain rfl:k=l1.length:=by omega
      have q:=Dj (yt g ho j z (by rw[n1.val,n2.val];omega));have m:Row wr w1.heap.size o:=d.eq (by simp);go_wp2_with fail;refine (fU m ho.out j (by omega)).mono ?_;rintro e w2 ⟨l',rfl,h3,h4,h5,rfl⟩;go_wp2
      go_ret2
      refine⟨_,_,l',?_,h3,?_,by omega,(Di l f)⟩
      · rw[Dv (show val lb≤val la by omega)];rfl
      · rw[q.out,n1.val,n2.val] at h4;exact h4
def BL (la lb:List Nat) (n:Nat) (w:World) (v c i:Value) (wr:World):Prop :=
 ∃ (k cv:Nat) (o:List Nat),k≤n+1∧i=.int .i64 (k:Int)∧c=.int .u64 (cv:Int)∧cv≤1∧Hid (o.length=k)∧Dig o∧OwnD wr w.heap.size v o ∧
  Hid (val o+pw k*cv=val (la.take k)+val (lb.take k))∧Below w.heap.size w wr
theorem yW {la lb o:List Nat}{k cv s:Nat}(ho:Hid (o.length=k)) (hval:Hid (val o+pw k*cv=val (la.take k)+val (lb.take k))) (hs:s=la.getD k 0+cv+lb.getD k 0) :
 val (o++[s % 4294967296])+pw (k+1)*(s / 4294967296)=val (la.take (k+1))+val (lb.take (k+1)):=by
 rw[cf,ho.out,ax,ax,pw];exact qH _ _ _ _ _ _ hval.out _ _ hs
theorem yX {la lb o:List Nat}{n cv:Nat}(ho:Hid (o.length=n+1)) (hval:Hid (val o+pw (n+1)*cv=val (la.take (n+1))+val (lb.take (n+1)))) (ha:Dig la) (hb:Dig lb) (h1:la.length≤n) (h2:lb.length≤n):val o=val la+val lb:=by
 have h:=hval.out;rw[aK _ _ (by omega),aK _ _ (by omega)] at h;have h3:=Dn (bW ha) (dn h1);have h4:=Dn (bW hb) (dn h2)
 rcases Nat.eq_zero_or_pos cv with h0 | h0
 · subst h0;omega
 · have h5:pw (n+1)*1≤pw (n+1)*cv:=Nat.mul_le_mul_left _ h0
   simp only[pw] at h5 h
   omega
theorem df (A B:Option Addr) (ca cb:Nat) (la lb:List Nat) (w:World) (ha:Nv w A ca la) (hb:Nv w B cb lb) (hna:la.length≤5000000000) (hnb:lb.length≤5000000000) :
 Calls Tryz.prog 85 #[.slice A la.length ca,.slice B lb.length cb] w (dU (val la+val lb) (max la.length lb.length+1) w):=by
 by_cases hlt:la.length<lb.length
 all_goals
  obtain⟨n,hn,y,z,H,t⟩:∃ n,Hid (n=if la.length<lb.length then lb.length else la.length)∧la.length≤n∧lb.length≤n∧n≤5000000000∧Hid (n≤max la.length lb.length):=by
   first
    | exact⟨lb.length,(if_pos hlt).symm,by omega,by omega,by omega,by show _≤_;omega⟩
    | exact⟨la.length,(if_neg hlt).symm,by omega,by omega,by omega,by show _≤_;omega⟩
  go_enter Tryz.func85,Tryz.ntmps85;go_wp2
  go_loopw [5,6,7] (fun v c i wr=>BL la lb n w v c i wr) (fun _ _ i _=>n+1-(intOf i).toNat)
  case atStart=>exact⟨0,0,[],by omega,rfl,rfl,by omega,rfl,Dig.nil,OwnD.nil _ _,rfl,DY _ _⟩
  case round =>
   obtain⟨k,cv,o,hk,rfl,rfl,G,ho,s,g,l,b⟩:=hrel
   by_cases hkn:k≤n
   · obtain⟨da,p⟩:∃ d,Hid (la.getD k 0=d):=⟨_,rfl⟩;obtain⟨db,m⟩:∃ d,Hid (lb.getD k 0=d):=⟨_,rfl⟩;have F:da<4294967296:=p.out ▸ ha.dig.getD _;have E:db<4294967296:=m.out ▸ hb.dig.getD _;have q:=Dj (yW ho l (show da+cv+db=la.getD k 0+cv+lb.getD k 0 by rw[p.out,m.out]));have r:(#[Value.int .u32 (((da:Int)+(db:Int)+(cv:Int)) % 4294967296)]:Array Value)=(cn [(da+cv+db) % 4294967296]).toArray:=by simp[cn];omega
     have x:=(fI wr r).rd;clear r;have f:decide (k≤n)=true:=Dv hkn;rw[hn.out] at f
     first | rw[if_pos hlt] at f | rw[if_neg hlt] at f
     go_wp2_with fail;refine (aU (i:=k) (ha.below b) _ rfl (by omega) p).mono ?_;rintro e w1 ⟨rfl,rfl⟩;go_wp2_with fail;refine (aU (i:=k) (hb.below b) _ rfl (by omega) m).mono ?_;rintro e w1 ⟨rfl,rfl⟩
     go_wp2_with (at_builtin;refine dY _ rfl rfl _ _ rfl w.heap.size _ o rfl (g.alloc _) (some ⟨wr.heap.size,0,none⟩) 1 1 [(da+cv+db) % 4294967296] rfl x rfl ?_ ?_ ?_;(rw[ho.out];omega);(have:=b.size;simp;omega);intro v' w2 h j)
     go_roundw
     case rel=>exact⟨k+1,(da+cv+db) / 4294967296,o++[(da+cv+db) % 4294967296],by omega,rfl,by congr 1;omega,by omega,by show (o++[_]).length=k+1;rw[Dw,ho.out];rfl,s.snoc (Nat.mod_lt _ (by omega)),h,q.out,jN g b h j⟩
     case measure=>simp[intOf];omega
   · obtain rfl:k=n+1:=by omega
     have f:decide (n+1≤if la.length<lb.length then lb.length else la.length)=false:=by rw[←hn.out];exact Du (by omega)
     first | rw[if_pos hlt] at f | rw[if_neg hlt] at f
     obtain⟨A',c',rfl,D⟩:=g.nv s (by rw[ho.out];omega);have C:=Dj (yX ho l ha.dig hb.dig y z);go_wp2_with fail;refine (ef D (by rw[ho.out];omega)).mono ?_;rintro e w1 ⟨A1,c1,l1,rfl,h1,h2,h3,h4⟩;go_wp2;go_ret;exact⟨A1,c1,l1,rfl,h1,C.out ▸ h2,by have:=t.out;rw[ho.out] at h3;omega,(Di b h4)⟩
def BJ (la lb:List Nat) (w:World) (v c i:Value) (wr:World):Prop :=
 ∃ (k cv:Nat) (o:List Nat),k≤la.length∧i=.int .i64 (k:Int)∧c=.int .u64 (cv:Int)∧cv≤1∧Hid (o.length=k)∧Dig o∧OwnD wr w.heap.size v o ∧
  Hid (val o+val (lb.take k)=val (la.take k)+pw k*cv)∧Below w.heap.size w wr
theorem tQ (da db bv:Nat) (h1:da<4294967296) (h2:db<4294967296) (h3:bv≤1):∃ y c:Nat,y<4294967296∧c≤1∧Hid (y+db+bv=da+4294967296*c) ∧
 Hid ((4294967296+(da:Int)-db-bv) % 4294967296=(y:Int))∧Hid (1-(4294967296+(da:Int)-db-bv) / 4294967296=(c:Int)):=by
 by_cases h:db+bv≤da
 · exact⟨da-db-bv,0,by omega,by omega,by show _=_;omega,by show _=_;omega,by show _=_;omega⟩
 · exact⟨da+4294967296-db-bv,1,by omega,by omega,by show _=_;omega,by show _=_;omega,by show _=_;omega⟩
theorem yN {la lb o:List Nat}{cv:Nat}(ho:Hid (o.length=la.length)) (hval:Hid (val o+val (lb.take la.length)=val (la.take la.length)+pw la.length*cv)) (hod:Dig o) (had:Dig la) (h:val lb≤val la):val o=val la-val lb:=by
 have h1:=hval.out;rw[aK _ _ (Dt _)] at h1;have h2:=bW hod;rw[ho.out] at h2;have h4:=bW had
 have h5:val (lb.take la.length)=val lb:=by
  rcases Nat.lt_or_ge la.length lb.length with hl | hl
  · have h6:=bX lb la.length (by omega)
    rcases Nat.eq_zero_or_pos (val (lb.drop la.length)) with h7 | h7
    · rw[h7] at h6;omega
    · have:pw la.length*1≤pw la.length*val (lb.drop la.length):=Nat.mul_le_mul_left _ h7;omega
  · exact aK _ _ hl
 rw[h5] at h1
 have h3:cv=0:=by
  rcases Nat.eq_zero_or_pos cv with h0 | h0
  · exact h0
  · have:pw la.length*1≤pw la.length*cv:=Nat.mul_le_mul_left _ h0;omega
 subst h3;omega
theorem gN (A B:Option Addr) (ca cb:Nat) (la lb:List Nat) (w:World) (ha:Nv w A ca la) (hb:Nv w B cb lb) (hna:la.length≤5000000000) (hnb:lb.length≤5000000000) :
 Calls Tryz.prog 86 #[.slice A la.length ca,.slice B lb.length cb] w (Ah (val la) (val lb) la.length w):=by
 go_enter Tryz.func86,Tryz.ntmps86;go_wp2_with fail;refine (kM ha hb hna hnb).mono ?_;rintro e w1 ⟨rfl,rfl⟩
 by_cases hlt:val la<val lb
 · have hc:=Dj (kj hlt);rw[hc.out];clear hc;go_wp2
   go_ret2
   refine⟨none,0,[],?_,jl _,?_,by simp,DY _ _⟩
   · rw[Du (show ¬ val lb≤val la by omega)];rfl
   · rw[show val la-val lb=0 by omega];exact NatIs.nil
 · have hc:0≤ff (val la) (val lb):=by
    have h:=dK (val la) (val lb);omega
   have E:=rJ (val la) (val lb);obtain⟨c,r⟩:∃ c,c=ff (val la) (val lb):=⟨_,rfl⟩;rw[←r] at hc E ⊢;clear r;have m:=Dj hlt;clear hlt;go_wp2
   go_loopw [6,7,8] (fun v c i wr=>BJ la lb w v c i wr) (fun _ _ i _=>la.length-(intOf i).toNat)
   case atStart=>exact⟨0,0,[],by omega,rfl,rfl,by omega,rfl,Dig.nil,OwnD.nil _ _,rfl,DY _ _⟩
   case round =>
    obtain⟨k,cv,o,hk,rfl,rfl,C,ho,q,f,l,b⟩:=hrel
    by_cases hkn:k<la.length
    · obtain⟨da,p⟩:∃ d,Hid (la.getD k 0=d):=⟨_,rfl⟩;obtain⟨db,n⟩:∃ d,Hid (lb.getD k 0=d):=⟨_,rfl⟩;have x:da<4294967296:=p.out ▸ ha.dig.getD _;have s:db<4294967296:=n.out ▸ hb.dig.getD _;obtain⟨y,c2,hy,G,hs,e1,e2⟩:=tQ da db cv x s C;have t:(#[Value.int .u32 ((4294967296+(da:Int)-db-cv) % 4294967296)]:Array Value)=(cn [y]).toArray:=by rw[e1.out];rfl
      have z:=(fI wr t).rd;clear t;go_wp2_with fail;refine (aU (i:=k) (ha.below b) _ rfl (by omega) p).mono ?_;rintro e w1 ⟨rfl,rfl⟩;go_wp2_with fail;refine (aU (i:=k) (hb.below b) _ rfl (by omega) n).mono ?_;rintro e w1 ⟨rfl,rfl⟩
      go_wp2_with (at_builtin;refine dY _ rfl rfl _ _ rfl w.heap.size _ o rfl (f.alloc _) (some ⟨wr.heap.size,0,none⟩) 1 1 [y] rfl z rfl ?_ ?_ ?_;(rw[ho.out];omega);(have:=b.size;simp;omega);intro v' w2 g j)
      go_roundw
      case rel=>exact⟨k+1,c2,o++[y],by omega,rfl,by rw[←e2.out],by omega,by show (o++[_]).length=k+1;rw[Dw,ho.out];rfl,q.snoc hy,g,by
       show val (o++[_])+_=_+pw (k+1)*_
       rw[cf,ho.out,ax,ax,pw];exact pN _ _ _ _ _ _ _ _ _ l.out (by rw[p.out,n.out];exact hs.out),jN f b g j⟩
      case measure=>simp[intOf];omega
    · obtain rfl:k=la.length:=by omega
      obtain⟨A',c',rfl,F⟩:=f.nv q (by rw[ho.out];omega);have D:=Dj (yN ho l q ha.dig (by have:=m.out;omega));have H:decide (la.length<la.length)=false:=Du (by omega);go_wp2_with fail;refine (ef F (by rw[ho.out];omega)).mono ?_;rintro e w1 ⟨A1,c1,l1,rfl,h1,h2,h3,h4⟩;go_wp2
      go_ret2
      refine⟨A1,c1,l1,?_,h1,D.out ▸ h2,by rw[ho.out] at h3;omega,(Di b h4)⟩;rw[Dv (show val lb≤val la by have:=m.out;omega)];rfl
def CN (la:List Nat) (d:Nat) (w:World) (v c i:Value) (wr:World):Prop :=
 ∃ (k cv:Nat) (o:List Nat),k≤la.length+1∧i=.int .i64 (k:Int)∧c=.int .u64 (cv:Int)∧cv<4294967296∧Hid (o.length=k)∧Dig o∧OwnD wr w.heap.size v o ∧
  Hid (val o+pw k*cv=val (la.take k)*d)∧Below w.heap.size w wr
theorem yO {la o:List Nat}{k cv d da p:Nat}(ho:Hid (o.length=k)) (hval:Hid (val o+pw k*cv=val (la.take k)*d)) (hda:Hid (la.getD k 0=da)) (hp:Hid (da*d=p)) :
 val (o++[(p+cv) % 4294967296])+pw (k+1)*((p+cv) / 4294967296)=val (la.take (k+1))*d:=by
 rw[cf,ho.out,ax,hda.out,pw,Nat.add_mul,←hval.out,Nat.mul_assoc (pw k),hp.out]
 have h1:pw k*(p+cv)=pw k*((p+cv) % 4294967296)+4294967296*pw k*((p+cv) / 4294967296):=by
  rw[Nat.mul_comm 4294967296 (pw k),Nat.mul_assoc,←Nat.mul_add,Nat.mod_add_div]
 rw[Nat.mul_add] at h1;omega
theorem AN {la o:List Nat}{cv d:Nat}(ho:Hid (o.length=la.length+1)) (hval:Hid (val o+pw (la.length+1)*cv=val (la.take (la.length+1))*d)) (had:Dig la) (hd:d<4294967296):val o=val la*d:=by
 have h:=hval.out;rw[aK _ _ (by omega)] at h;have h3:=bW had
 rcases Nat.eq_zero_or_pos cv with h0 | h0
 · subst h0;omega
 · have h5:pw (la.length+1)*1≤pw (la.length+1)*cv:=Nat.mul_le_mul_left _ h0;have h6:val la*d≤pw la.length*4294967296:=Nat.mul_le_mul (by omega) (by omega)
   rcases Nat.eq_zero_or_pos d with hd0 | hd0
   · subst hd0;have:=tZ (la.length+1);omega
   · have h7:val la*d<pw la.length*d:=Nat.mul_lt_mul_of_pos_right h3 hd0;have h8:pw la.length*d≤pw la.length*4294967296:=Nat.mul_le_mul_left _ (by omega)
     simp only[pw] at h5 h
     rw[Nat.mul_comm _ 4294967296] at h8;omega
theorem qX (A:Option Addr) (ca d:Nat) (la:List Nat) (w:World) (ha:Nv w A ca la) (hna:la.length≤5000000000) (hd:d<4294967296) :
 Calls Tryz.prog 97 #[.slice A la.length ca,.int .u64 (d:Int)] w (dU (val la*d) (la.length+1) w):=by
 go_enter Tryz.func97,Tryz.ntmps97;go_wp2
 go_loopw [5,6,7] (fun v c i wr=>CN la d w v c i wr) (fun _ _ i _=>la.length+1-(intOf i).toNat)
 case atStart=>exact⟨0,0,[],by omega,rfl,rfl,by omega,rfl,Dig.nil,OwnD.nil _ _,by show _=_;simp[val],DY _ _⟩
 case round =>
  obtain⟨k,cv,o,hk,rfl,rfl,t,ho,r,f,j,b⟩:=hrel
  by_cases hkn:k≤la.length
  · obtain⟨da,l⟩:∃ d,Hid (la.getD k 0=d):=⟨_,rfl⟩;have q:da<4294967296:=l.out ▸ ha.dig.getD _;obtain⟨p,hp,B,z,C,_⟩:=jn (c:=0) q hd t (by omega);have m:=Dj (yO ho j l hp);have n:(#[Value.int .u32 (((p:Int)+(cv:Int)) % 4294967296)]:Array Value)=(cn [(p+cv) % 4294967296]).toArray:=by simp[cn]
    have s:=(fI wr n).rd;clear n;go_wp2_with fail;refine (aU (i:=k) (ha.below b) _ rfl (by omega) l).mono ?_;rintro e w1 ⟨rfl,rfl⟩
    go_wp2_with (at_builtin;refine dY _ rfl rfl _ _ rfl w.heap.size _ o rfl (f.alloc _) (some ⟨wr.heap.size,0,none⟩) 1 1 [(p+cv) % 4294967296] rfl s rfl ?_ ?_ ?_;(rw[ho.out];omega);(have:=b.size;simp;omega);intro v' w2 g h)
    go_roundw
    case rel=>exact⟨k+1,(p+cv) / 4294967296,o++[(p+cv) % 4294967296],by omega,rfl,rfl,by omega,by show (o++[_]).length=k+1;rw[Dw,ho.out];rfl,r.snoc (Nat.mod_lt _ (by omega)),g,m.out,jN f b g h⟩
    case measure=>simp[intOf];omega
  · obtain rfl:k=la.length+1:=by omega
    obtain⟨A',c',rfl,y⟩:=f.nv r (by rw[ho.out];omega);have x:=Dj (AN ho j ha.dig hd);have D:decide (la.length+1≤la.length)=false:=Du (by omega);go_wp2_with fail;refine (ef y (by rw[ho.out];omega)).mono ?_;rintro e w1 ⟨A1,c1,l1,rfl,h1,h2,h3,h4⟩;go_wp2;go_ret;exact⟨A1,c1,l1,rfl,h1,x.out ▸ h2,by rw[ho.out] at h3;omega,(Di b h4)⟩
def CM (n:Nat) (w:World) (v i:Value) (wr:World):Prop :=
 ∃ k:Nat,k≤n∧i=.int .i64 (k:Int)∧OwnD wr w.heap.size v (List.replicate k 0)∧Below w.heap.size w wr
theorem AO (k:Nat):Hid ((List.replicate k 0:List Nat).length=k):=Do
theorem yR (k:Nat):List.replicate k (0:Nat)++[0]=List.replicate (k+1) 0:=by rw[List.replicate_succ']
theorem qW (A:Option Addr) (ca n:Nat) (la:List Nat) (w:World) (ha:Nv w A ca la) (hna:la.length≤5000000000) (hn:n≤5000000000) :
 Calls Tryz.prog 96 #[.slice A la.length ca,.int .i64 (n:Int)] w (dU (pw n*val la) (n+la.length) w):=by
 go_enter Tryz.func96,Tryz.ntmps96;go_wp2
 go_loopw [5,6] (fun v i wr=>CM n w v i wr) (fun _ i _=>n-(intOf i).toNat)
 case atStart=>exact⟨0,by omega,rfl,OwnD.nil _ _,DY _ _⟩
 case round =>
  obtain⟨k,hk,rfl,f,b⟩:=hrel;have g:=AO k
  by_cases hkn:k<n
  · have m:(#[Value.int .u32 0]:Array Value)=(cn [0]).toArray:=by simp[cn]
    have j:=(fI wr m).rd;clear m
    go_wp2_with (at_builtin;refine dY _ rfl rfl _ _ rfl w.heap.size _ (List.replicate k 0) rfl (f.alloc _) (some ⟨wr.heap.size,0,none⟩) 1 1 [0] rfl j rfl ?_ ?_ ?_;(rw[g.out];omega);(have:=b.size;simp;omega);intro v' w2 d c)
    go_roundw
    case rel=>exact⟨k+1,by omega,rfl,d.eq (yR k),jN f b d c⟩
    case measure=>simp[intOf];omega
  · obtain rfl:k=n:=by omega
    have hA:=ha.below b;have j:=hA.rd;have q:=hA.len;have hd:=Dj (show val (List.replicate k 0++la)=pw k*val la by rw[fD,kq,g.out,Nat.zero_add]);have l:=Dj (show (List.replicate k 0++la).length=k+la.length by rw[Dw,g.out]);have p:Dig (List.replicate k 0++la):=(Dig.replicate k).append ha.dig
    go_wp2_with (at_builtin;refine dY _ rfl rfl _ _ rfl w.heap.size _ (List.replicate k 0) rfl f A la.length ca la rfl j rfl ?_ ?_ ?_;(rw[g.out];omega);(exact b.size);intro v' w2 d c)
    have h:=f.grown_below b c (Dt _) b.size;obtain⟨A',c',rfl,o⟩:=d.nv p (by rw[l.out];omega);go_wp2_with fail;refine (ef o (by rw[l.out];omega)).mono ?_;rintro e w1 ⟨A1,c1,l1,rfl,h1,h2,h3,h4⟩;go_wp2;go_ret;exact⟨A1,c1,l1,rfl,h1,hd.out ▸ h2,by rw[l.out] at h3;omega,(Di h h4)⟩
def BK (la lb:List Nat) (w:World) (v i:Value) (wr:World):Prop :=
 ∃ (k c:Nat) (A:Option Addr) (l:List Nat),k≤lb.length∧i=.int .i64 (k:Int)∧v=.slice A l.length c∧Nv wr A c l∧Hid (NatIs l (val la*val (lb.take k)))∧l.length≤la.length+k∧Below w.heap.size w wr
theorem yQ {la lb l:List Nat}{k:Nat}(ha:Dig la) (hb:Dig lb) (h:NatIs l (val la*val (lb.take k))):l.length≤la.length+k:=by
 refine bi h.canon ?_;rw[h.val,jL];exact Nat.mul_lt_mul_of_lt_of_lt (bW ha) (dZ hb k)
theorem eT (A B:Option Addr) (ca cb:Nat) (la lb:List Nat) (w:World) (ha:Nv w A ca la) (hb:Nv w B cb lb) (hna:la.length≤500000000) (hnb:lb.length≤500000000) :
 Calls Tryz.prog 84 #[.slice A la.length ca,.slice B lb.length cb] w (dU (val la*val lb) (la.length+lb.length) w):=by
 go_enter Tryz.func84,Tryz.ntmps84;go_wp2
 go_loopw [5,6] (fun v i wr=>BK la lb w v i wr) (fun _ i _=>lb.length-(intOf i).toNat)
 case atStart=>exact⟨0,0,none,[],by omega,rfl,rfl,jl _,by rw[List.take_zero];exact NatIs.nil,by simp,DY _ _⟩
 case round =>
  obtain⟨k,c,Ao,l,hk,rfl,rfl,hl,f,g,b⟩:=hrel
  by_cases hkn:k<lb.length
  · have hA:=ha.below b;obtain⟨a,d,rfl,r,s,p,m⟩:=(hb.below b).at (k:=k) hkn;go_wp2_with fail;refine (qX _ _ d _ _ hA (by omega) p).mono ?_;rintro e w1 ⟨A1,c1,l1,rfl,n1,i1,h1,b1⟩;have q:=Dj i1;clear i1;go_wp2_with fail;refine (qW _ _ k _ _ n1 (by omega) (by omega)).mono ?_;rintro e w2 ⟨A2,c2,l2,rfl,n2,i2,h2,b2⟩;have o:=Dj i2;clear i2;have n:=b.trans (((Di b1 b2)).mono b.size);go_wp2_with fail;refine (df _ _ _ _ _ _ _ ((hl.below b1).below b2) n2 (by omega) (by omega)).mono ?_;rintro e w3 ⟨A3,c3,l3,rfl,n3,i3,h3,b3⟩
    have j:=Dj (show NatIs l3 (val la*val (lb.take (k+1))) by
     have h:=i3;rw[f.out.val,o.out.val,q.out.val,←m.out,Nat.mul_left_comm,←Nat.mul_add,←ax] at h;exact h)
    clear i3 h3;go_wp2;go_roundw
    case rel=>exact⟨k+1,c3,A3,l3,by omega,rfl,rfl,n3,j,yQ ha.dig hb.dig j.out,(Di n b3)⟩
    case measure=>simp[intOf];omega
  · obtain rfl:k=lb.length:=by omega
    go_wp2;go_ret;exact⟨Ao,c,l,rfl,hl,by have h:=f.out;rw[List.take_length] at h;exact h,g,b⟩
theorem rg (k:Nat):pw k=2 ^ (32*k):=by
 induction k with
 | zero=>rfl
 | succ k ih=>rw[show 32*(k+1)=32*k+32 by omega,Nat.pow_add,←ih,jL k 1,oG]
theorem kI {l:List Nat}(hd:Dig l) (j:Nat):val l / pw j=val (l.drop j):=by
 rcases Nat.lt_or_ge l.length j with h | h
 · rw[List.drop_eq_nil_of_le (by omega),uK];exact Nat.div_eq_of_lt (Dn (bW hd) (dn (by omega)))
 · have h1:=bX l j h;have h2:=dZ hd j;rw[←h1,Nat.add_mul_div_left _ _ (tZ j),Nat.div_eq_of_lt h2,Nat.zero_add]
theorem Bp {l:List Nat}{j:Nat}(h:l.length≤j):l.getD j 0=0:=by
 rw[Dk,DI h];rfl
theorem ja (l:List Nat) (j:Nat):val (l.drop j)=l.getD j 0+4294967296*val (l.drop (j+1)):=by
 rcases Nat.lt_or_ge j l.length with h | h
 · exact nX l j h
 · rw[Bp h,List.drop_eq_nil_of_le h,List.drop_eq_nil_of_le (by omega)];rfl
theorem nE (x a b:Nat) (h:a+b≤64):x % 2 ^ 64 / 2 ^ a % 2 ^ b=x / 2 ^ a % 2 ^ b:=by
 rw[show (2:Nat) ^ 64=2 ^ a*2 ^ (64-a) by rw[←Nat.pow_add];congr 1;omega,Nat.mod_mul_right_div_self];exact Nat.mod_mod_of_dvd _ (Nat.pow_dvd_pow 2 (by omega))
theorem pi (x i:Nat):x / 2 ^ i=x / pw (i / 32) / 2 ^ (i % 32):=by
 rw[rg,Nat.div_div_eq_div_mul,←Nat.pow_add]
 congr 2
 omega
theorem z8 {l:List Nat}(hd:Dig l) (i:Nat):l.getD (i / 32) 0 / 2 ^ (i % 32) % 2=val l / 2 ^ i % 2:=by
 have hr:i % 32<32:=Nat.mod_lt _ (by omega);rw[pi (val l),kI hd,ja];have h1:=nE (l.getD (i / 32) 0+4294967296*val (l.drop (i / 32+1))) (i % 32) 1 (by omega);have h3:=hd.getD (i / 32)
 generalize hx:l.getD (i / 32) 0=x at *
 generalize val (l.drop (i / 32+1))=y at *
 generalize i % 32=r at *
 rw[show (4294967296:Nat)=2 ^ r*2 ^ (32-r) by rw[←Nat.pow_add,show r+(32-r)=32 by omega],Nat.mul_assoc,Nat.add_mul_div_left _ _ (Nat.two_pow_pos r),show 32-r=(31-r)+1 by omega,Nat.pow_succ,Nat.mul_comm _ 2,Nat.mul_assoc,Nat.add_mul_mod_self_left]
theorem xE {l:List Nat}(hd:Dig l) (k m:Nat):val l / 2 ^ k / pw m % 4294967296=(l.getD (k / 32+m) 0+4294967296*l.getD (k / 32+m+1) 0) / 2 ^ (k % 32) % 4294967296:=by
 have hr:k % 32<32:=Nat.mod_lt _ (by omega)
 have e1:val l / 2 ^ k / pw m=val (l.drop (k / 32+m)) / 2 ^ (k % 32):=by
  rw[pi (val l),Nat.div_div_eq_div_mul,Nat.mul_comm (2 ^ (k % 32)),←Nat.div_div_eq_div_mul,Nat.div_div_eq_div_mul _ (pw (k / 32)),←jL,kI hd]
 rw[e1,ja,ja l (k / 32+m+1)];have h2:=hd.getD (k / 32+m);have h3:=hd.getD (k / 32+m+1)
 generalize l.getD (k / 32+m) 0=x at *
 generalize l.getD (k / 32+m+1) 0=y at *
 generalize val (l.drop (k / 32+m+1+1))=z at *
 have h:=nE (x+4294967296*(y+4294967296*z)) (k % 32) 32 (by omega);rw[show (2:Nat) ^ 32=4294967296 by rfl,show (2:Nat) ^ 64=18446744073709551616 by rfl] at h;rw[←h]
 congr 2
 omega
theorem xD {o:List Nat}{N m d:Nat}(ho:o.length=m) (hv:val o=N % pw m) (hd:N / pw m % 4294967296=d):val (o++[d])=N % pw (m+1):=by
 rw[cf,ho,hv,←hd,show pw (m+1)=pw m*4294967296 by rw[jL,oG],Nat.mod_mul]
theorem zK {l o:List Nat}{k m:Nat}(hd:Dig l) (hm:l.length≤k / 32+m) (hv:val o=val l / 2 ^ k % pw m):val o=val l / 2 ^ k:=by
 rw[hv]
 apply Nat.mod_eq_of_lt
 rw[pi (val l),kI hd];refine DO (Nat.div_le_self _ _) (Dn (bW (hd.drop _)) (dn ?_));rw[DC];omega
theorem bl (w:World) (n:Nat):Below w.heap.size w (w.drewN n):=⟨rfl,rfl,rfl,Dt _,fun _ _=>rfl⟩
theorem pX {r:Nat}(h:r<32):(2:Nat) ^ r<4294967296:=Dn (Nat.pow_lt_pow_right (by omega) h) (by decide)
theorem kO {A:Option Addr}{c i:Nat}{l:List Nat}{w:World}(h:Nv w A c l) (hi:i≤1000000000000) :
 Calls Tryz.prog 89 #[.slice A l.length c,.int .i64 (i:Int)] w fun e w'=>e=.returned (.int .u64 ((val l / 2 ^ i % 2:Nat):Int))∧∃ n,w'=w.drewN n:=by
 have hm:=Dj (z8 h.dig i);obtain⟨d,hd⟩:∃ d,Hid (l.getD (i / 32) 0=d):=⟨_,rfl⟩;have h3:=Dj (pX (Nat.mod_lt i (show 0<32 by omega)));have k:d<4294967296:=hd.out ▸ h.dig.getD _;obtain⟨p,hp,g,f⟩:∃ p:Nat,Hid (2 ^ (i % 32)=p)∧1≤p∧p<4294967296:=⟨_,rfl,Nat.one_le_two_pow,h3.out⟩;have ht:((i:Int) % 32).toNat=i % 32:=by omega
 have j:((2:Int) ^ (i % 32))=(p:Int):=by rw[←hp.out];simp
 have hw:IntKind.u64.wrap (p:Int)=(p:Int):=by rw[cH];omega
 obtain⟨x,hx,b⟩:∃ x:Nat,Hid (d / p=x)∧IntKind.u64.wrap ((d:Int) / (p:Int))=(x:Int):=⟨d / p,rfl,by
  have h1:d / p≤d:=Nat.div_le_self _ _;rw[cH,←Int.natCast_ediv]
  generalize d / p=x at *
  omega⟩
 go_enter Tryz.func89,Tryz.ntmps89;go_wp2
 go_quiet ((go_at_call 98;refine Calls.quiet_of_same ((aU (i:=i / 32) (h.below (bl _ _)) ((i:Int) / 32) (by omega) (by omega) hd).mono fun _ _ hh=>⟨hh.1,hh.2.symm⟩)))
 go_wp2;go_ret;refine⟨?_,_,rfl⟩;rw[←hm.out,hd.out,hp.out,hx.out]
 rfl
def CP (l:List Nat) (w:World) (v:Value) (wr:World):Prop:=∃ k n:Nat,k≤32*l.length∧v=.int .i64 (k:Int)∧Hid (val l<2 ^ k)∧wr=w.drewN n
theorem pV {x k:Nat}(h:x<2 ^ k) (hb:k=0∨x / 2 ^ (k-1) % 2=1):eU x=k:=by
 rcases Nat.eq_zero_or_pos k with h0 | h0
 · subst h0;rw[Nat.pow_zero] at h;rw[show x=0 by omega];rfl
 · obtain⟨j,rfl⟩:∃ j,k=j+1:=⟨k-1,by omega⟩;rw[Nat.add_sub_cancel] at hb;refine ya ?_ h;have h1:x / 2 ^ j≠0:=by omega
   rcases Nat.lt_or_ge x (2 ^ j) with hlt | hge
   · exact absurd (Nat.div_eq_of_lt hlt) h1
   · exact hge
theorem tY {x k:Nat}(h:x<2 ^ (k+1)) (hb:x / 2 ^ k % 2=0):x<2 ^ k:=by
 have h1:x / 2 ^ k<2:=Nat.div_lt_of_lt_mul (by rw[Nat.pow_succ] at h;omega)
 rcases Nat.lt_or_ge x (2 ^ k) with hlt | hge
 · exact hlt
 · have:=Nat.div_pos hge (Nat.two_pow_pos k);omega
theorem nt {A:Option Addr}{c:Nat}{l:List Nat}{w:World}(h:Nv w A c l) (hl:l.length≤5000000000) :
 Calls Tryz.prog 87 #[.slice A l.length c] w fun e w'=>e=.returned (.int .i64 ((eU (val l):Nat):Int))∧∃ n,w'=w.drewN n:=by
 have g:=Dj (show val l<2 ^ (32*l.length) by rw[←rg];exact bW h.dig);go_enter Tryz.func87,Tryz.ntmps87;go_wp2
 go_loopw [3] (fun v wr=>CP l w v wr) (fun v _=>(intOf v).toNat)
 case atStart=>exact⟨32*l.length,0,Dt _,by simp,g,rfl⟩
 case round =>
  obtain⟨k,n,hk,rfl,hx,rfl⟩:=hrel
  rcases k with _ | j
  · have hv:=Dj (pV hx.out (.inl rfl));have f:decide ((0:Int)<((0:Nat):Int))=false:=by decide
    go_wp2;go_ret;exact⟨by rw[hv.out];rfl,_,rfl⟩
  · have f:decide (0<j+1)=true:=by simp
    have hj:((j+1:Nat):Int)-1=(j:Int):=by omega
    obtain⟨b,hb⟩:∃ b,Hid (val l / 2 ^ j % 2=b):=⟨_,rfl⟩;have o:b<2:=hb.out ▸ Nat.mod_lt _ (by omega);go_wp2_with fail;refine (kO (i:=j) (h.below (bl w n)) (by omega)).mono ?_;rintro e w1 ⟨rfl,m,rfl⟩;rw[hb.out]
    rcases (show b=0∨b=1 by omega) with rfl | rfl
    · have d:=Dj (tY hx.out hb.out);go_wp2;go_roundw
      case rel=>exact⟨j,n+m,by omega,rfl,d,rfl⟩
      case measure=>simp[intOf]
    · have hv:=Dj (pV hx.out (.inr hb.out));go_wp2;go_ret;exact⟨by rw[hv.out];rfl,n+m,rfl⟩
def CO (l:List Nat) (k q:Nat) (w:World) (v i:Value) (wr:World):Prop :=
 ∃ (m:Nat) (o:List Nat),i=.int .i64 ((q+m:Nat):Int)∧(m=0∨q+m≤l.length)∧Hid (o.length=m)∧Dig o∧OwnD wr w.heap.size v o∧Hid (val o=val l / 2 ^ k % pw m)∧Below w.heap.size w wr
theorem nm {A:Option Addr}{c k:Nat}{l:List Nat}{w:World}(h:Nv w A c l) (hl:l.length≤5000000000) (hk:k≤1000000000000) :
 Calls Tryz.prog 88 #[.slice A l.length c,.int .i64 (k:Int)] w (dU (val l / 2 ^ k) l.length w):=by
 have h3:=Dj (pX (Nat.mod_lt k (show 0<32 by omega)));obtain⟨p,hp,M,T⟩:∃ p:Nat,Hid (2 ^ (k % 32)=p)∧1≤p∧p<4294967296:=⟨_,rfl,Nat.one_le_two_pow,h3.out⟩;have ht:((k:Int) % 32).toNat=k % 32:=by omega
 have N:((2:Int) ^ (k % 32))=(p:Int):=by rw[←hp.out];simp
 have hw:IntKind.u64.wrap (p:Int)=(p:Int):=by rw[cH];omega
 obtain⟨q,hq,I⟩:∃ q:Nat,Hid (k / 32=q)∧(k:Int) / 32=(q:Int):=⟨k / 32,rfl,by omega⟩;go_enter Tryz.func88,Tryz.ntmps88;go_wp2
 go_loopw [5,6] (fun v i wr=>CO l k q w v i wr) (fun _ i _=>l.length-(intOf i).toNat)
 case atStart=>exact⟨0,[],by simp,.inl rfl,rfl,Dig.nil,OwnD.nil _ _,by show _=_;simp[val,pw,Nat.mod_one],DY _ _⟩
 case round =>
  obtain⟨m,o,rfl,F,ho,B,f,n,b⟩:=hrel;obtain⟨i,hi⟩:∃ i,Hid (q+m=i):=⟨_,rfl⟩;have J:m≤l.length:=by omega
  rw[hi.out] at F ⊢
  by_cases hlt:i<l.length
  · obtain⟨x,hx⟩:∃ d,Hid (l.getD i 0=d):=⟨_,rfl⟩;obtain⟨y,hy⟩:∃ d,Hid (l.getD (i+1) 0=d):=⟨_,rfl⟩;have X:x<4294967296:=hx.out ▸ h.dig.getD _;have R:y<4294967296:=hy.out ▸ h.dig.getD _;have C:=Dj (xE h.dig k m);obtain⟨s,hs,G,O⟩:∃ s:Nat,Hid (x+4294967296*y=s)∧s<18446744073709551616∧(x:Int)+(y:Int)*4294967296=(s:Int):=⟨_,rfl,by omega,by omega⟩;obtain⟨z,hz,V,U⟩:∃ z:Nat,Hid (s / p=z)∧(s:Int) / (p:Int)=(z:Int)∧z<18446744073709551616:=⟨s / p,rfl,by rw[←Int.natCast_ediv],DO (Nat.div_le_self _ _) G⟩
    have D:=Dj (xD ho.out n.out (show val l / 2 ^ k / pw m % 4294967296=z % 4294967296 by
     rw[C.out,hq.out,hi.out,hx.out,hy.out,hp.out,hs.out,hz.out]))
    have t:(#[Value.int .u32 ((z:Int) % 4294967296)]:Array Value)=(cn [z % 4294967296]).toArray:=by simp[cn]
    have E:=(fI wr t).rd;clear t;go_wp2_with fail;refine (aU (i:=i) (h.below b) _ rfl (by omega) hx).mono ?_;rintro e w1 ⟨rfl,rfl⟩;go_wp2_with fail;refine (aU (i:=i+1) (h.below b) _ rfl (by omega) hy).mono ?_;rintro e w1 ⟨rfl,rfl⟩
    go_wp2_with (at_builtin;refine dY _ rfl rfl _ _ rfl w.heap.size _ o rfl (f.alloc _) (some ⟨wr.heap.size,0,none⟩) 1 1 [z % 4294967296] rfl E rfl ?_ ?_ ?_;(rw[ho.out];omega);(have:=b.size;simp;omega);intro v' w2 g j)
    go_roundw
    case rel=>exact⟨m+1,o++[z % 4294967296],by rw[←Nat.add_assoc,hi.out];rfl,.inr (by have:=hi.out;omega),by show (o++[_]).length=m+1;rw[Dw,ho.out];rfl,B.snoc (Nat.mod_lt _ (by omega)),g,D,jN f b g j⟩
    case measure=>simp[intOf];omega
  · obtain⟨A',c',rfl,H⟩:=f.nv B (by rw[ho.out];omega);have r:=Dj (zK h.dig (show l.length≤k / 32+m by rw[hq.out,hi.out];omega) n.out);have L:m≤l.length:=by omega
    go_wp2_with fail;refine (ef H (by rw[ho.out];omega)).mono ?_;rintro e w1 ⟨A1,c1,l1,rfl,h1,h2,h3,h4⟩;go_wp2;go_ret;exact⟨A1,c1,l1,rfl,h1,r.out ▸ h2,by rw[ho.out] at h3;omega,(Di b h4)⟩
theorem qo (a j:Nat):a / 2 ^ j=2*(a / 2 ^ (j+1))+a / 2 ^ j % 2:=by
 rw[Nat.pow_succ,←Nat.div_div_eq_div_mul];omega
theorem vy {a b Q R Q2 R2 j:Nat}(h:Q*b+R=a / 2 ^ (j+1)) (h2:Q2=Q+Q) (h3:R2=R+R+a / 2 ^ j % 2):Q2*b+R2=a / 2 ^ j:=by
 rw[qo a j,←h,h2,h3,Nat.add_mul];omega
theorem vE {a b Q R Q2 R2 j:Nat}(h:Q*b+R=a / 2 ^ (j+1)) (h2:Q2=Q+Q+1) (h3:R2=R+R+a / 2 ^ j % 2-b) (hb:b≤R+R+a / 2 ^ j % 2):Q2*b+R2=a / 2 ^ j:=by
 rw[qo a j,←h,h2,h3,Nat.add_mul,Nat.add_mul,Nat.one_mul];omega
theorem sP {a b Q R:Nat}(h:Q*b+R=a / 2 ^ 0) (hR:R<b):Q=a / b∧R=a % b:=by
 rw[Nat.pow_zero,Nat.div_one] at h;have hb:0<b:=by omega
 subst h;refine⟨?_,?_⟩
 · rw[Nat.add_comm,Nat.add_mul_div_right _ _ hb,Nat.div_eq_of_lt hR,Nat.zero_add]
 · rw[Nat.add_comm,Nat.add_mul_mod_self_right,Nat.mod_eq_of_lt hR]
end Go.Proofs.YtjhkapjadfpimaaGreat
