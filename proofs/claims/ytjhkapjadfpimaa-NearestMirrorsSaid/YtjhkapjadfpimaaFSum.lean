/- Contracts of functions, for the law. -/
import Derived.Test.YtjhkapjadfpimaaQ
import Derived.Test.YtjhkapjadfpimaaWSmall
import Derived.Test.YtjhkapjadfpimaaPLp
import Derived.Test.YtjhkapjadfpimaaWRef2
import Derived.Test.YtjhkapjadfpimaaWAdd
import Derived.Test.YtjhkapjadfpimaaFL
namespace Go.Proofs.Ytjhkapjadfpimaa
set_option linter.unusedVariables false
set_option linter.unusedSimpArgs false
open Go.RowKit Plain
def MulInv (la lb:List Nat) (w:World) (g:Nat) (i:Value) (wr:World):Prop :=
 ∃ (k:Nat) (o:List Nat),k≤la.length∧i=.int .i64 k∧Hid (o.length=k+lb.length)∧Dig o ∧
  Row wr g (o++List.replicate (la.length-k) 0)∧Hid (val o=val (la.take k)*val lb)∧Below w.heap.size w wr
def MulInv2 (la lb:List Nat) (k da V:Nat) (z:List Nat) (w:World) (g:Nat) (c i:Value) (wr:World):Prop :=
 ∃ (j cv:Nat) (lo hi:List Nat),j≤lb.length∧i=.int .i64 j∧c=.int .u64 cv∧cv<4294967296∧Hid (lo.length=k+j)∧Hid (hi.length=lb.length-j)∧Dig lo∧Dig hi ∧
  Row wr g (lo++hi++z)∧Hid (val lo+pw (k+j)*cv+pw (k+j)*val hi=V+pw k*(da*val (lb.take j)))∧Below w.heap.size w wr
theorem mul_cell {w:World}{g k j h:Nat}{lo hi z:List Nat}(hrow:Row w g (lo++h::hi++z)) (hlo:Hid (lo.length=k+j)):w.cell? ⟨g,k+j,none⟩=some (.int .u32 (h:Int)):=by
 have:=hrow.cell (i:=k+j) (by simp[hlo.out]);rw[this]
 congr 3
 rw[List.append_assoc,List.getD_eq_getElem?_getD,←hlo.out,List.getElem?_append_right (Nat.le_refl _)]
 simp
theorem mul_cell0 {w:World}{g k n m:Nat}{lo hi:List Nat}(hrow:Row w g (lo++hi++List.replicate (m-k) 0)) (hlo:Hid (lo.length=k+n)) (hhi:Hid (hi.length=n-n)) (hk:k<m):w.cell? ⟨g,k+n,none⟩=some (.int .u32 (0:Int)):=by
 obtain rfl:hi=[]:=List.eq_nil_of_length_eq_zero (by rw[hhi.out];omega);rw[rep_succ hk] at hrow;exact mul_cell (hi:=[]) (h:=0) (z:=List.replicate (m-(k+1)) 0) (hrow.eq (by simp)) hlo
theorem mul_digit (P x c h v y da db t:Nat) (ht:t=da*db+h+c) (hs:x+P*c+P*(h+4294967296*v)=y) :
 x+P*(t % 4294967296)+4294967296*P*(t / 4294967296)+4294967296*P*v=y+P*(da*db):=by
 have h1:P*t=P*(t % 4294967296)+4294967296*P*(t / 4294967296):=by
  rw[Nat.mul_comm 4294967296 P,Nat.mul_assoc,←Nat.mul_add,Nat.mod_add_div]
 have h2:P*t=P*(da*db)+P*h+P*c:=by rw[ht,Nat.mul_add,Nat.mul_add]
 have h3:P*(h+4294967296*v)=P*h+4294967296*P*v:=by rw[Nat.mul_add,←Nat.mul_assoc,Nat.mul_comm P 4294967296]
 omega
theorem mul_step {la lb:List Nat}{k da da' db p V:Nat}{z:List Nat}{w wr:World}{g j cv h:Nat}{lo hi:List Nat}(hda:da'=da) (hp:Hid (da'*db=p)) (hjl:j<lb.length) (hcv:cv<4294967296)
 (hlo:Hid (lo.length=k+j)) (hhi:Hid ((h::hi).length=lb.length-j)) (hlod:Dig lo) (hhid:Dig (h::hi)) (hda2:da'<4294967296) (hpb:p≤18446744065119617025) (hgb:Hid (lb.getD j 0=db))
 (hrow:Row wr g (lo++h::hi++z)) (hval:Hid (val lo+pw (k+j)*cv+pw (k+j)*val (h::hi)=V+pw k*(da*val (lb.take j)))) (hbel:Below w.heap.size w wr) (nq:Nat)
 (x c' i':Int) (hx:x=((p:Int)+(h:Int)+(cv:Int)) % 4294967296) (hc:c'=((p:Int)+(h:Int)+(cv:Int)) / 4294967296) (hi':i'=(j:Int)+1) (hg:w.heap.size≤g:=by exact Nat.le_refl _) :
 MulInv2 la lb k da V z w g (.int .u64 c') (.int .i64 i') ((wr.drewN nq).setCell ⟨g,k+j,none⟩ (.int .u32 x)):=by
 have hh:=hhid.head;refine⟨j+1,(p+h+cv) / 4294967296,lo++[(p+h+cv) % 4294967296],hi,by omega,by rw[hi'];rfl,by rw[hc];congr 1,by omega,?_,?_,hlod.snoc (Nat.mod_lt _ (by omega)),hhid.tail,?_,?_,(below_drewN hbel nq).setCell hg _⟩
 · show (lo++[_]).length=k+(j+1)
   rw[List.length_append,hlo.out];rfl
 · show hi.length=lb.length-(j+1)
   have:=hhi.out
   simp only[List.length_cons] at this
   omega
 · have h1:Row (wr.drewN nq) g (lo++h::(hi++z)):=hrow.eq (by simp);exact (h1.push hlo.out x (x:=(p+h+cv) % 4294967296) (by rw[hx];rfl)).eq (by simp)
 · show val (lo++[_])+pw (k+j+1)*_+pw (k+j+1)*_=_
   rw[val_snoc,hlo.out,val_take_succ,pw,hgb.out];have h2:=mul_digit (pw (k+j)) (val lo) cv h (val hi) _ da db (p+h+cv) (by rw[←hp.out,hda]) hval.out;rw[h2,Nat.mul_add,Nat.mul_add,pw_add,Nat.add_assoc]
   congr 2
   rw[Nat.mul_left_comm,Nat.mul_assoc,Nat.mul_left_comm]
theorem mul_round {la lb:List Nat}{k da:Nat}{w wr:World}{cv:Nat}{o lo hi:List Nat}(hkl:k<la.length) (hcv:cv<4294967296) (ho:Hid (o.length=k+lb.length)) (hod:Dig o)
 (hlo:Hid (lo.length=k+lb.length)) (hhi:Hid (hi.length=lb.length-lb.length)) (hlod:Dig lo) (hga:Hid (la.getD k 0=da))
 (hrow:Row wr w.heap.size (lo++hi++List.replicate (la.length-k) 0)) (hval:Hid (val o=val (la.take k)*val lb))
 (hval2:Hid (val lo+pw (k+lb.length)*cv+pw (k+lb.length)*val hi=val o+pw k*(da*val (lb.take lb.length)))) (hbel:Below w.heap.size w wr)
 (x i':Int) (hx:x=(cv:Int)) (hi':i'=(k:Int)+1) :
 MulInv la lb w w.heap.size (.int .i64 i') (wr.setCell ⟨w.heap.size,k+lb.length,none⟩ (.int .u32 x)):=by
 obtain rfl:hi=[]:=List.eq_nil_of_length_eq_zero (by rw[hhi.out];omega);refine⟨k+1,lo++[cv],by omega,by rw[hi'];rfl,?_,hlod.snoc hcv,?_,?_,hbel.setCell (Nat.le_refl _) _⟩
 · show (lo++[_]).length=_
   rw[List.length_append,hlo.out];simp;omega
 · rw[rep_succ hkl,List.append_nil] at hrow;exact hrow.push hlo.out x hx
 · show val (lo++[_])=_
   have h2:=hval2.out;rw[val_take_ge _ _ (Nat.le_refl _),hval.out] at h2;rw[val_snoc,hlo.out,val_take_succ,hga.out,Nat.add_mul]
   simp only[val,Nat.mul_zero,Nat.add_zero] at h2
   rw[h2,Nat.mul_assoc]
set_option maxRecDepth 100000 in
set_option maxHeartbeats 400000 in
theorem mul_any (A B:Option Addr) (ca cb:Nat) (la lb:List Nat) (w:World) (ha:Nv w A ca la) (hb:Nv w B cb lb) (hna:la.length≤5000000000) (hnb:lb.length≤5000000000) :
 Calls Try.prog 55 #[.slice A la.length ca,.slice B lb.length cb] w (RetNat (val la*val lb) (la.length+lb.length) w):=by
 have hmk:=make_u32 w (la.length+lb.length) .i64 ((la.length:Int)+(lb.length:Int)) (by omega) (by omega);go_enter Try.func55,Try.ntmps55;go_wp2
 go_loopw [18] (fun i wr=>MulInv la lb w w.heap.size i wr) (fun i _=>la.length-(intOf i).toNat)
 case atStart=>exact⟨0,List.replicate lb.length 0,by omega,rfl,by show _=_;simp,Dig.replicate _,(Row.new _ _).eq (by rw[Nat.add_comm,←List.replicate_append_replicate];rfl),by show val _=_;simp[val_replicate,val],(Below.refl _ _).alloc (Nat.le_refl _) _⟩
 case round =>
  obtain⟨k,o,hk,rfl,ho,hod,hrow,hval,hbel⟩:=hrel
  by_cases hkl:k<la.length
  · obtain⟨wo,rfl⟩:∃ wo:World,wo=wr:=⟨_,rfl⟩;have hod0:=hod;go_wp2;obtain⟨a,da,hA,hab,hac,hda,hga⟩:=(ha.below hbel).at hkl
    go_loopw [7,23] (fun c i wr=>MulInv2 la lb k da (val o) (List.replicate (la.length-k) 0) w w.heap.size c i wr) (fun _ i _=>lb.length-(intOf i).toNat)
    case atStart=>exact⟨0,0,o.take k,o.drop k,by omega,rfl,rfl,by omega,by show _=_;rw[List.length_take,ho.out];omega,by show _=_;rw[List.length_drop,ho.out];omega,hod.take _,hod.drop _,hrow.eq (by rw[List.take_append_drop]),by show _=_;rw[Nat.add_zero,Nat.mul_zero,Nat.add_zero,val_take_drop _ _ (by rw[ho.out];omega)];simp[val],hbel⟩
    case round =>
     obtain⟨j,cv,lo,hi,hj,rfl,rfl,hcv,hlo,hhi,hlod,hhid,hrow,hval2,hbel⟩:=hrel
     by_cases hjl:j<lb.length
     · obtain⟨a',da',hA',hab',hac',hda',hga'⟩:=(ha.below hbel).at hkl;obtain⟨b,db,rfl,hbb,hbc,hdb,hgb⟩:=(hb.below hbel).at hjl;subst hA
       obtain⟨h,hi',rfl⟩:∃ h hi',hi=h::hi':=by
        cases hi with
        | nil=>have:=hhi.out;simp at this;omega
        | cons h hi'=>exact⟨h,hi',rfl⟩
       have hhd:=hhid.head;obtain⟨p,hp,hpb,hw1,hw2,hw3⟩:=mul_add_fits hda' hdb hhd hcv;have hc0:=mul_cell hrow hlo;have hf:=hrow.free (k+j);have hix:=wrap_i64_id ((k:Int)+(j:Int)) (by omega) (by omega);have hix2:((k:Int)+(j:Int)).toNat=k+j:=by omega
       have hix3:(0:Int)≤(k:Int)+(j:Int):=by omega
       have hix4:(k:Int)+(j:Int)<(la.length:Int)+(lb.length:Int):=by omega
       go_wp2
       go_quiet (fail)
       clear hix hix2;go_wp2;go_roundw
       case rel=>exact mul_step (hga'.out.symm.trans hga.out) hp hjl hcv hlo hhi hlod hhid hda' hpb hgb hrow hval2 hbel nq _ _ _ rfl rfl rfl
       case measure=>simp[intOf];omega
     · obtain rfl:j=lb.length:=by omega
       have hc0:=mul_cell0 (hi:=hi) hrow hlo hhi hkl;have hf:=hrow.free (k+lb.length);go_wp2;go_roundw
       case rel=>exact mul_round hkl hcv ho hod0 hlo hhi hlod hga hrow hval hval2 hbel _ _ rfl rfl
       case measure=>simp[intOf];omega
  · obtain rfl:k=la.length:=by omega
    have hrow2:Row wr w.heap.size o:=hrow.eq (by simp);have hfin:=Lib.hid (show val o=val la*val lb by rw[hval.out,val_take_ge _ _ (Nat.le_refl _)]);go_wp2_with fail;refine (trim_row hrow2 ho.out hod (by omega)).mono ?_;rintro e w2 ⟨l',rfl,h3,h4,h5,rfl⟩;go_wp2;go_ret;exact⟨_,_,l',rfl,h3,hfin.out ▸ h4,h5,hbel⟩
end Go.Proofs.Ytjhkapjadfpimaa
namespace Go.Proofs.Ytjhkapjadfpimaa
set_option linter.unusedVariables false
set_option linter.unusedSimpArgs false
open Go.RowKit Plain
attribute [local go_sem ↓] Go.wp_at_zero Go.wp_at_succ
def RetNN (m n k:Nat) (W:World) (e:Ending) (w':World):Prop :=
 ∃ (X:Option Addr) (cx:Nat) (x:List Nat) (Y:Option Addr) (cy:Nat) (y:List Nat),e=.returned (.tuple #[.slice X x.length cx,.slice Y y.length cy])∧Nv w' X cx x∧Nv w' Y cy y∧NatIs x m∧NatIs y n∧x.length≤k∧y.length≤k∧Below W.heap.size W w'
set_option maxRecDepth 100000 in
set_option maxHeartbeats 1000000 in
theorem cross_any {n1 n2:Bool}{A B C D:Option Addr}{ca cb cc cd:Nat}{la lb lc ld:List Nat}{w:World}(ha:Nv w A ca la) (hb:Nv w B cb lb) (hc:Nv w C cc lc) (hd:Nv w D cd ld)
 (hla:la.length≤400000000) (hlb:lb.length≤400000000) (hlc:lc.length≤400000000) (hld:ld.length≤400000000) :
 Calls Try.prog 54 #[fracV n1 A la.length ca B lb.length cb,fracV n2 C lc.length cc D ld.length cd] w (RetNN (val la*val ld) (val lc*val lb) (max (la.length+ld.length) (lc.length+lb.length)) w):=by
 obtain⟨w0,hw0,bw0,hlt0,hB0⟩:=boxed w #[.bool n1,.slice A la.length ca,.slice B lb.length cb] 28;obtain⟨w1,hw1,bw1,hlt1,hB1⟩:=boxed w0 #[.bool n2,.slice C lc.length cc,.slice D ld.length cd] 28;have hA1:=hB0.keep bw1;have b01:=bw0.trans (bw1.mono (Nat.le_of_lt hlt0));have ha1:=ha.below b01;have hb1:=hb.below b01;have hc1:=hc.below b01;have hd1:=hd.below b01;have x1:=hA1.f1;have x2:=hA1.f2;have y1:=hB1.f1;have y2:=hB1.f2;clear ha hb hc hd;have hrf:Below w1.heap.size w1 w1:=Below.refl _ _;go_enter Try.func54,Try.ntmps54;go_wp2_with fail
 go_region_held3 (fun w'=>w'.cell? ⟨w.heap.size,1,none⟩=some (.slice A la.length ca)∧w'.cell? ⟨w.heap.size,2,none⟩=some (.slice B lb.length cb)∧w'.cell? ⟨w0.heap.size,1,none⟩=some (.slice C lc.length cc)∧w'.cell? ⟨w0.heap.size,2,none⟩=some (.slice D ld.length cd)∧Below w1.heap.size w1 w') (first | (go_keep;done) | ((try go_split_ands);(try dsimp only);refine⟨?_,?_,?_,?_,?_⟩ <;> first | assumption | exact Below.drew (by assumption) | exact (hA1.keep (by assumption)).f1 | exact (hA1.keep (by assumption)).f2 | exact (hB1.keep (by assumption)).f1 | exact (hB1.keep (by assumption)).f2)) (first
  | (go_at_call 55;go_split_ands;(with_reducible refine (mul_any A D ca cd la ld _ (ha1.below (by assumption)) (hd1.below (by assumption)) (by omega) (by omega)).mono ?_);rintro e w2 ⟨X,cx,x,rfl,nx,ix,mx,b2⟩;have b4:=below_step (by assumption) b2)
  | (go_at_call 55;go_split_ands;(with_reducible refine (mul_any C B cc cb lc lb _ (hc1.below (by assumption)) (hb1.below (by assumption)) (by omega) (by omega)).mono ?_);rintro e w3 ⟨Y,cy,y,rfl,ny,iy,my,b3⟩;have b4:=below_step (by assumption) b3))
 go_wp2;refine bodyPost_ret (v:=.tuple #[.slice X x.length cx,.slice Y y.length cy]) (by simp[results,Try.results54,go_sem]) rfl ?_;refine⟨X,cx,x,Y,cy,y,rfl,?_,?_,ix,iy,by omega,by omega,?_⟩
 · first | exact nx | exact nx.below b3
 · first | exact ny | exact ny.below b2
 · exact b01.trans (b4.mono (by omega))
set_option maxRecDepth 100000 in
set_option maxHeartbeats 4000000 in
theorem addF_any {v u:Value}{p q:Rat}{j k:Nat}{w:World}(hv:FV w v p) (hu:FV w u q) (hj:Fits j p) (hk:Fits k q) (hJ:j+k<400000000) :
 Calls Try.prog 29 #[v,u] w (RetQ (p+q) w):=by
 obtain⟨n1,A,ca,la,B,cb,lb,rfl,na,nb,iq⟩:=hv;obtain⟨n2,C,cc,lc,D,cd,ld,rfl,nc,nd,ir⟩:=hu;have hf:=QIs.fits iq hj;have hg:=QIs.fits ir hk;have h0:val lb*val ld≠0:=Nat.mul_ne_zero (QIs.den_ne iq) (QIs.den_ne ir);obtain⟨r,hr⟩:∃ r,p+q=r:=⟨_,rfl⟩;have q1:=Lib.hid (show n1=n2→mkRat (sg n1 (val la*val ld+val lc*val lb)) (val lb*val ld)=r from fun e=>by rw[←hr];subst e;exact q_add iq ir);have q2:=Lib.hid (show n1≠n2→val lc*val lb≤val la*val ld→mkRat (sg n1 (val la*val ld-val lc*val lb)) (val lb*val ld)=r from fun e h=>by rw[←hr];exact q_sub1 iq ir e h);have q3:=Lib.hid (show n1≠n2→val la*val ld≤val lc*val lb→mkRat (sg n2 (val lc*val lb-val la*val ld)) (val lb*val ld)=r from fun e h=>by rw[←hr];exact q_sub2 iq ir e h);rw[hr];clear iq ir hr;obtain⟨w0,hw0,bw0,hlt0,hB0⟩:=boxed w #[.bool n1,.slice A la.length ca,.slice B lb.length cb] 28;obtain⟨w1,hw1,bw1,hlt1,hB1⟩:=boxed w0 #[.bool n2,.slice C lc.length cc,.slice D ld.length cd] 28;obtain⟨w2,hw2,bw2,hlt2,hB2⟩:=boxed w1 #[.bool false,.slice none 0 0,.slice none 0 0] 28;have hA2:=(hB0.keep bw1).keep bw2;have hC2:=hB1.keep bw2;have b01:=bw0.trans (bw1.mono (Nat.le_of_lt hlt0));have b02:=b01.trans (bw2.mono b01.size);have ha1:=na.below b02;have hb1:=nb.below b02;have hc1:=nc.below b02;have hd1:=nd.below b02
 have x0:=hA2.f0;have x1:=hA2.f1;have x2:=hA2.f2;have y0:=hC2.f0;have y1:=hC2.f1;have y2:=hC2.f2;clear na nb nc nd;go_enter Try.func29,Try.ntmps29;go_wp2_with fail;refine (cross_any (n1:=n1) (n2:=n2) ha1 hb1 hc1 hd1 (by omega) (by omega) (by omega) (by omega)).mono ?_;rintro e w3 ⟨X,cx,x,Y,cy,y,rfl,nx,ny,ix,iy,mx,my,b3⟩;have ix':=Lib.hid ix;have iy':=Lib.hid iy;clear ix iy x0 x1 x2 y0 y1 y2;have hA3:=hA2.keep b3;have hC3:=hC2.keep b3;have x0:=hA3.f0;have x1:=hA3.f1;have x2:=hA3.f2;have y0:=hC3.f0;have y1:=hC3.f1;have y2:=hC3.f2;go_wp2_with fail;refine (mul_any B D cb cd lb ld _ (hb1.below b3) (hd1.below b3) (by omega) (by omega)).mono ?_;rintro e w4 ⟨Z,cz,z,rfl,nz,iz,mz,b4⟩;have iz':=Lib.hid iz;clear iz x0 x1 x2 y0 y1 y2;have hA4:=hA3.keep b4;have hC4:=hC3.keep b4;have hB4:=(hB2.keep b3).keep b4;have x0:=hA4.f0;have y0:=hC4.f0;have nx4:=nx.below b4;have ny4:=ny.below b4;have b04:=(b02.trans (b3.mono b02.size)).trans (b4.mono (Nat.le_trans b02.size b3.size));have hrb:w.heap.size≤w1.heap.size:=b01.size;have hl1:w.heap.size<w1.heap.size:=by omega
 clear hA2 hC2 hA3 hC3 nx ny b3 b4 ha1 hb1 hc1 hd1 bw0 bw1 bw2 hw0 hw1 hw2
 by_cases hn:n1=n2
 · subst hn;have q1':=Lib.hid (q1.out rfl);clear q1 q2 q3;have hrf:Only w4 w4 w1.heap.size:=Only.refl _ _;have h3f:Blk3 w4 w1.heap.size 28:=hB4.b3;have hS:∀ w',Only w4 w' w1.heap.size→w'.cell? ⟨w.heap.size,0,none⟩=some (.bool n1):=fun w' o=>(hA4.only o (Nat.ne_of_lt hl1)).f0;have d0:=hS _ hrf.drew;have d6:=hrf.drew;have d7:=h3f.drew;go_wp2_with fail
   go_region_held3 (fun w'=>w'.cell? ⟨w.heap.size,0,none⟩=some (.bool n1)∧Only w4 w' w1.heap.size∧Blk3 w' w1.heap.size 28) (((try go_split_ands);(try dsimp only);(repeat' with_reducible apply And.intro) <;> with_reducible assumption)) (first
    | (go_at_call 56;go_split_ands;(with_reducible refine (add_any X Y cx cy x y _ (nx4.only_blk hB4 (noDig3 _ _ _ _ _ _ _) (by assumption)) (ny4.only_blk hB4 (noDig3 _ _ _ _ _ _ _) (by assumption)) (by omega) (by omega)).mono ?_);rintro e w5 ⟨S,cs,s,rfl,ns,is,ms,b5⟩;have is':=Lib.hid is;clear is;have q4:=Blk3.keep (by assumption) b5;have b6:=(show Only w4 _ w1.heap.size by assumption).trans (Only.of_below b5 _);have f0:=hS _ b6)
    | (go_at_call 51;go_split_ands;(with_reducible refine (made_any ns (nz.only_blk hB4 (noDig3 _ _ _ _ _ _ _) (by assumption)) (by rw[iz'.out.val];exact h0) (by omega) (by omega)).mono ?_);rintro e w7 ⟨v,rfl,⟨m0,A1,c1,l1,B1,d1,m1,rfl,ma,mb,hQ⟩,b7⟩;rw[is'.out.val,ix'.out.val,iy'.out.val,iz'.out.val] at hQ;have b8:=(show Only w4 _ w1.heap.size by assumption).trans (Only.of_below b7 _);have k0:=hS _ b8;have q8:=Blk3.keep (t:=28) (by assumption) b7;have q9:=q8.set m0 A1 l1.length c1 B1 m1.length d1;obtain⟨qa,qb,qc,qd,qe,qf,qg,hB3⟩:=id q8;have b9:=((b8.set 0 (.bool m0)).set 1 (.slice A1 l1.length c1)).set 2 (.slice B1 m1.length d1);have j0:=hS _ b9;have u0:=hB3.f0;have u1:=hB3.f1;have u2:=hB3.f2;have t0:=hB3.free 0;have t1:=hB3.free 1;have t2:=hB3.free 2))
   clear j0 q9;go_wp2;obtain⟨w9,hw9,hB9,o9⟩:=hB3.set3 (.bool m0) (.slice A1 l1.length c1) (.slice B1 m1.length d1);rw[hw9];have e0:=hB9.f0;have e1:=hB9.f1;have e2:=hB9.f2;refine bodyPost_ret (v:=fracV m0 A1 l1.length c1 B1 m1.length d1) (by simp[results,Try.results29,go_sem,e0,e1,e2]) rfl ?_;have m1':=ma.only_blk hB3 (noDig3 _ _ _ _ _ _ _) o9;have m2':=mb.only_blk hB3 (noDig3 _ _ _ _ _ _ _) o9;have bT:=(b8.trans o9).to_below b04 b01.size b04.size;exact⟨_,rfl,⟨m0,A1,c1,l1,B1,d1,m1,rfl,m1',m2',by rw[←q1'.out];exact hQ⟩,bT⟩
 · have hne:(n1 == n2)=false:=by simpa using hn
   have q2':=Lib.hid (q2.out hn);have q3':=Lib.hid (q3.out hn);clear q1 q2 q3 hn
   by_cases hle:val lc*val lb≤val la*val ld
   · have hd:Hid (decide (val y≤val x)=true):=Lib.hid (by rw[ix'.out.val,iy'.out.val];exact decide_eq_true hle);have qq:=Lib.hid (q2'.out hle);clear hle q2' q3';go_wp2_with fail;refine (sub_any X Y cx cy x y _ nx4 ny4).mono ?_;rintro e w5 ⟨S,cs,s,rfl,ns,is,ms,b5⟩;rw[hd.out];rw[ix'.out.val,iy'.out.val] at is;have is':=Lib.hid is;clear is;have hA5:=hA4.keep b5;have x0':=hA5.f0;have hB5:=hB4.keep b5;go_wp2_with fail;refine (made_any ns (nz.below b5) (by rw[iz'.out.val];exact h0) (by omega) (by omega)).mono ?_;rintro e w7 ⟨v,rfl,⟨m0,A1,c1,l1,B1,d1,m1,rfl,ma,mb,hQ⟩,b7⟩;rw[is'.out.val,iz'.out.val,qq.out] at hQ;have hQ':=Lib.hid hQ;clear hQ;have hB3:=hB5.keep b7;have u0:=hB3.f0;have u1:=hB3.f1;have u2:=hB3.f2;have t0:=hB3.free 0;have t1:=hB3.free 1;have t2:=hB3.free 2;have b07:=(b04.trans (b5.mono b04.size)).trans (b7.mono (Nat.le_trans b04.size b5.size));go_wp2;obtain⟨w9,hw9,hB9,o9⟩:=hB3.set3 (.bool m0) (.slice A1 l1.length c1) (.slice B1 m1.length d1);rw[hw9];have e0:=hB9.f0;have e1:=hB9.f1;have e2:=hB9.f2;refine bodyPost_ret (v:=fracV m0 A1 l1.length c1 B1 m1.length d1) (by simp[results,Try.results29,go_sem,e0,e1,e2]) rfl ?_;have m1':=ma.only_blk hB3 (noDig3 _ _ _ _ _ _ _) o9;have m2':=mb.only_blk hB3 (noDig3 _ _ _ _ _ _ _) o9;exact⟨_,rfl,⟨m0,A1,c1,l1,B1,d1,m1,rfl,m1',m2',hQ'.out⟩,o9.to_below b07 b01.size b07.size⟩
   · have hd:Hid (decide (val y≤val x)=false):=Lib.hid (by rw[ix'.out.val,iy'.out.val];exact decide_eq_false hle);have qq:=Lib.hid (q3'.out (by omega));have hle':val la*val ld≤val lc*val lb:=by omega
     have hd2:Hid (decide (val x≤val y)=true):=Lib.hid (by rw[ix'.out.val,iy'.out.val];exact decide_eq_true hle');clear hle q2' q3' hle';go_wp2_with fail;refine (sub_any X Y cx cy x y _ nx4 ny4).mono ?_;rintro e w5 ⟨S,cs,s,rfl,ns,is,ms,b5⟩;rw[hd.out];have is'':=Lib.hid is;clear is is'' ns ms;go_wp2_with fail;refine (sub_any Y X cy cx y x _ (ny4.below b5) (nx4.below b5)).mono ?_;rintro e w6 ⟨S2,cs2,s2,rfl,ns,is,ms,b6⟩;rw[hd2.out];rw[ix'.out.val,iy'.out.val] at is;have is':=Lib.hid is;clear is;have hC6:=(hC4.keep b5).keep b6;have y0':=hC6.f0;have hB6:=(hB4.keep b5).keep b6;go_wp2_with fail;refine (made_any ns ((nz.below b5).below b6) (by rw[iz'.out.val];exact h0) (by omega) (by omega)).mono ?_;rintro e w7 ⟨v,rfl,⟨m0,A1,c1,l1,B1,d1,m1,rfl,ma,mb,hQ⟩,b7⟩;rw[is'.out.val,iz'.out.val,qq.out] at hQ;have hQ':=Lib.hid hQ;clear hQ;have hB3:=hB6.keep b7;have u0:=hB3.f0;have u1:=hB3.f1;have u2:=hB3.f2;have t0:=hB3.free 0;have t1:=hB3.free 1;have t2:=hB3.free 2;have b06:=(b04.trans (b5.mono b04.size)).trans (b6.mono (Nat.le_trans b04.size b5.size));have b07:=b06.trans (b7.mono b06.size);go_wp2;obtain⟨w9,hw9,hB9,o9⟩:=hB3.set3 (.bool m0) (.slice A1 l1.length c1) (.slice B1 m1.length d1);rw[hw9];have e0:=hB9.f0;have e1:=hB9.f1;have e2:=hB9.f2;refine bodyPost_ret (v:=fracV m0 A1 l1.length c1 B1 m1.length d1) (by simp[results,Try.results29,go_sem,e0,e1,e2]) rfl ?_
     have m1':=ma.only_blk hB3 (noDig3 _ _ _ _ _ _ _) o9;have m2':=mb.only_blk hB3 (noDig3 _ _ _ _ _ _ _) o9;exact⟨_,rfl,⟨m0,A1,c1,l1,B1,d1,m1,rfl,m1',m2',hQ'.out⟩,o9.to_below b07 b01.size b07.size⟩
def SumInv (qs:List Rat) (g rb base:Nat) (w:World) (i:Value) (wr:World):Prop :=
 ∃ (k:Nat) (n:Bool) (A:Option Addr) (ca:Nat) (la:List Nat) (B:Option Addr) (cb:Nat) (lb:List Nat),k≤qs.length∧i=.int .i64 (k:Int)∧Blk wr g 28 #[.bool n,.slice A la.length ca,.slice B lb.length cb]∧Nv wr A ca la∧Nv wr B cb lb ∧
  Hid (QIs n la lb (sumR (qs.take k)))∧Blk wr rb 28 #[.bool false,.slice none 0 0,.slice none 0 0]∧Below base w wr
set_option maxRecDepth 100000 in
set_option maxHeartbeats 2000000 in
theorem sumF_any {A:Option Addr}{c K:Nat}{ds:List FrD}{w:World}(h:FL w A c ds) (hf:∀ d∈ds,Fits K d.q) (hK:1+(ds.length+1)*(K+1)<400000000) :
 Calls Try.prog 71 #[.slice A ds.length c] w (RetQ (sumR (ds.map FrD.q)) w):=by
 obtain⟨w0,hw0,bw0,hlt0,hB0⟩:=boxed w #[.bool false,.slice none 0 0,.slice none 0 0] 28;have hl:=h.len;have hqs:=Lib.hid (FrD.mem_q hf);obtain⟨r,hr⟩:∃ r,Hid (sumR (ds.map FrD.q)=r):=⟨_,rfl⟩;rw[hr.out];go_enter Try.func71,Try.ntmps71;go_wp2_with fail;refine (fromInt_any 0 _ (by omega) (by omega)).mono ?_;rintro e w1 ⟨v1,rfl,⟨n1,A1,c1,l1,B1,d1,m1,rfl,na,nb,iq⟩,b1⟩;have iq':=Lib.hid iq;clear iq;obtain⟨w2,hw2,bw2,hlt2,hX⟩:=boxed w1 #[.bool n1,.slice A1 l1.length c1,.slice B1 m1.length d1] 28;have hR:=(hB0.keep b1).keep bw2;have b01:=bw0.trans (b1.mono (Nat.le_of_lt hlt0));have b02:=b01.trans (bw2.mono b01.size);have na2:=na.below bw2;have nb2:=nb.below bw2;have hg1:w.heap.size<w1.heap.size:=Nat.lt_of_lt_of_le hlt0 b1.size;clear na nb b1 bw2;obtain⟨g,hg⟩:∃ g,w1.heap.size=g:=⟨_,rfl⟩;rw[hg] at hX hg1;go_wp2
 go_loopw [5,9] (fun b i wr=>SumInv (ds.map FrD.q) g w.heap.size w.heap.size w i wr) (fun _ i _=>ds.length-(intOf i).toNat)
 case atStart=>exact⟨0,n1,A1,c1,l1,B1,d1,m1,by omega,rfl,hX,na2,nb2,iq',hR,b02⟩
 case round =>
  obtain⟨k,n,A2,ca,la,B2,cb,lb,hk,rfl,hXk,na,nb,iq,hRk,hbel⟩:=hrel;rw[List.length_map] at hk;have hlk:=h.below hbel;have x0:=hXk.f0;have x1:=hXk.f1;have x2:=hXk.f2;have b0k:=hbel
  by_cases hkl:k<ds.length
  · obtain⟨a,d,rfl,hab,hc0,hc1,hc2,hfd,hdk⟩:=hlk.at hkl;have hfit:=Lib.hid (fits_sum (k:=K) (l:=(ds.map FrD.q).take k) (fun q hq=>hqs.out q (List.mem_of_mem_take hq)));have hlt:=Lib.hid (show ((ds.map FrD.q).take k).length≤ds.length by rw[List.length_take,List.length_map];omega)
    have hbnd:=Lib.hid (show (1+((ds.map FrD.q).take k).length*(K+1))+K<400000000 by
     have h1:=Nat.mul_le_mul_right (K+1) hlt.out;rw[Nat.add_mul] at hK
     omega)
    have hfq:=Lib.hid (show Fits K d.q from hqs.out _ (List.mem_map.2 ⟨d,List.mem_of_getElem? hdk.out,rfl⟩));have hsum:=Lib.hid (show sumR ((ds.map FrD.q).take (k+1))=sumR ((ds.map FrD.q).take k)+d.q by rw[←List.map_take,←List.map_take];exact sumR_take hdk.out);have fvS:FV wr (fracV n A2 la.length ca B2 lb.length cb) (sumR ((ds.map FrD.q).take k)):=⟨n,A2,ca,la,B2,cb,lb,rfl,na,nb,iq.out⟩;obtain⟨w4,hw4,bw4,hlt4,hY⟩:=boxed wr #[.bool d.neg,.slice d.a d.la.length d.ca,.slice d.b d.lb.length d.cb] 28;have hX4:=hXk.keep bw4;have u0:=hX4.f0;have u1:=hX4.f1;have u2:=hX4.f2;have v0:=hY.f0;have v1:=hY.f1;have v2:=hY.f2;go_wp2_with fail;refine (addF_any (fvS.below bw4) (hfd.below bw4) hfit.out hfq.out hbnd.out).mono ?_;rintro e w5 ⟨v5,rfl,⟨n5,A5,c5,l5,B5,d5,m5,rfl,na5,nb5,iq5⟩,b5⟩;rw[←hsum.out] at iq5;have iq5':=Lib.hid iq5;clear iq5;have hX5:=hX4.keep b5;have hR5:=(hRk.keep bw4).keep b5;have hbel5:=(hbel.trans (bw4.mono hbel.size)).trans (b5.mono (Nat.le_trans hbel.size bw4.size));have p0:=hX5.f0;have p1:=hX5.f1;have p2:=hX5.f2;have q0:=hX5.free 0;have q1:=hX5.free 1;have q2:=hX5.free 2;clear x0 x1 x2 u0 u1 u2 v0 v1 v2;go_wp2;obtain⟨w9,hw9,hB9,o9⟩:=hX5.set3 (.bool n5) (.slice A5 l5.length c5) (.slice B5 m5.length d5);rw[hw9];go_roundw
    case rel =>
     exact⟨k+1,n5,A5,c5,l5,B5,d5,m5,by rw[List.length_map];omega,by go_num,hB9,na5.only_blk hX5 (noDig3 _ _ _ _ _ _ _) o9,nb5.only_blk hX5 (noDig3 _ _ _ _ _ _ _) o9,iq5',hR5.only o9 (Nat.ne_of_lt hg1),o9.to_below hbel5 (Nat.le_of_lt hg1) hbel5.size⟩
    case measure=>simp[intOf];omega
  · obtain rfl:k=ds.length:=by omega
    have hSr:=Lib.hid (show sumR ((ds.map FrD.q).take ds.length)=r by rw[List.take_of_length_le (by simp)];exact hr.out);have hlt':decide ((ds.length:Int)<(ds.length:Int))=false:=decide_eq_false (by omega);have z0:=hRk.free 0;have z1:=hRk.free 1;have z2:=hRk.free 2;have y0:=hRk.f0;have y1:=hRk.f1;have y2:=hRk.f2;go_wp2;obtain⟨w9,hw9,hB9,o9⟩:=hRk.set3 (.bool n) (.slice A2 la.length ca) (.slice B2 lb.length cb);rw[hw9];have e0:=hB9.f0;have e1:=hB9.f1;have e2:=hB9.f2;refine bodyPost_ret (v:=fracV n A2 la.length ca B2 lb.length cb) (by simp[results,Try.results71,go_sem,e0,e1,e2]) rfl ?_;have m1':=na.only_blk hRk (noDig3 _ _ _ _ _ _ _) o9;have m2':=nb.only_blk hRk (noDig3 _ _ _ _ _ _ _) o9;exact⟨_,rfl,⟨n,A2,ca,la,B2,cb,lb,rfl,m1',m2',by rw[←hSr.out];exact iq.out⟩,o9.to_below b0k (Nat.le_refl _) b0k.size⟩
end Go.Proofs.Ytjhkapjadfpimaa
