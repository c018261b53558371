/- Contracts of functions, for the law. -/
import Derived.Test.YtjhkapjadfpimaaGreatWAdd
namespace Go.Proofs.YtjhkapjadfpimaaGreat
set_option linter.unusedVariables false
set_option linter.unusedSimpArgs false
open Go.RowKit Plain
set_option maxRecDepth 100000
set_option maxHeartbeats 40000000
def RetDiv (m n k:Nat) (W:World) (e:Ending) (w':World):Prop :=
 ∃ A c q B d r,e=.returned (.tuple #[.slice A q.length c,.slice B r.length d,.int .i64 (if n=0 then 8 else 0)])∧Nv w' A c q∧Nv w' B d r ∧
  NatIs q (if n=0 then 0 else m / n)∧NatIs r (if n=0 then 0 else m % n)∧q.length≤k∧r.length≤k∧Below W.heap.size W w'
theorem iE (w:World):Nv w none 0 []:=aE w
def BitsInv (d:Nat) (b:Value):Prop:=∃ s:Nat,b=.int .u64 (s:Int)∧s<32∧Hid (d*2 ^ s<4294967296)
theorem a1d {d s:Nat}(hd:0<d) (h:d*2 ^ s<2147483648):s+1<32∧d*2 ^ (s+1)<4294967296:=by
 have h1:d*2 ^ (s+1)<4294967296:=by rw[Nat.pow_succ,←a3c];omega
 refine⟨?_,h1⟩
 rcases a3h (s+1) 32 with h2 | h2
 · exact h2
 · have h3:2 ^ 32≤2 ^ (s+1):=Nat.pow_le_pow_right (by omega) h2;have h4:1*2 ^ (s+1)≤d*2 ^ (s+1):=a1y _ hd
   simp only[Nat.reducePow] at h3
   omega
theorem shl_u32 (d s:Nat) (h:d*2 ^ s<4294967296):∃ x:Nat,Hid (x=d*2 ^ s)∧x<4294967296∧IntKind.u32.wrap ((d:Int)*2 ^ s)=(x:Int):=by
 refine⟨_,rfl,h,?_⟩;have e:((d:Int)*2 ^ s)=((d*2 ^ s:Nat):Int):=by rw[Int.natCast_mul];rfl
 rw[e,IntKind.wrap_u32]
 generalize d*2 ^ s=x at *
 omega
def DivInv (U V m n:Nat) (w:World) (gu gq gv:Nat) (lv:List Nat) (i:Value) (wr:World):Prop :=
 ∃ (k:Nat) (us qs:List Nat),k≤m+1∧i=.int .i64 (k:Int)∧Hid (us.length=m+n+1)∧Dig us∧Hid (qs.length=k)∧Dig qs∧Row wr gu us∧Row wr gq (List.replicate (m+1-k) 0++qs) ∧
  Hid (U=val us+V*(pw (m+1-k)*val qs))∧Hid (val (us.drop (m+1-k))<V)∧Nv wr (some ⟨gv,0,none⟩) n lv∧Below w.heap.size w wr
theorem xZ {lv:List Nat}{V n:Nat}(h:NatIs lv V) (hl:lv.length=n):V<pw n:=by
 rw[←h.val,←hl];exact E0 h.dig
theorem a0r (us:List Nat) (j n:Nat):us=us.take j++(us.drop j).take (n+1)++us.drop (j+n+1):=by
 rw[List.append_assoc,show j+n+1=j+(n+1) by omega,←List.drop_drop,List.take_append_drop,List.take_append_drop]
theorem div_step {us qs mid' lv:List Nat}{U V m n k q:Nat}{w wr w5:World}{gu gq gv:Nat}(hkm:k≤m) (husl:Hid (us.length=m+n+1)) (husd:Dig us) (hqsl:Hid (qs.length=k)) (hqsd:Dig qs) (hml:Hid (mid'.length=n+1)) (hmd:Dig mid')
 (hmv:Hid (val mid'=val ((us.drop (m-k)).take (n+1)) % val lv)) (hmid:Hid (val ((us.drop (m-k)).take (n+1))<4294967296*V∧val (us.drop (m-k+n+1))=0)) (hVp:Hid (V<pw n)) (nv4:NatIs lv V) (hq:Hid (q=val ((us.drop (m-k)).take (n+1)) / val lv))
 (hrq5:Row w5 gq (List.replicate (m+1-k) 0++qs)) (hru5:Row w5 gu (us.take (m-k)++mid'++us.drop (m-k+n+1))) (hU:Hid (U=val us+V*(pw (m+1-k)*val qs))) (hnv:Nv wr (some ⟨gv,0,none⟩) n lv) (hgr:wr.grownBy w5 (some gu)) (hbel:Below w.heap.size w wr)
 (hqne:gq≠gu) (hgne:gv≠gu) (xq xi:Int) (h1:xq=(q:Int)) (h2:xi=((k+1:Nat):Int)) (hpos:gq≠gv∧w.heap.size≤gu∧w.heap.size≤gq∧0<V) :
 DivInv U V m n w gu gq gv lv (.int .i64 xi) (w5.setCell ⟨gq,m-k,none⟩ (.int .u32 xq)):=by
 obtain⟨g,h,f,c⟩:=hpos
 have d:q<4294967296:=by
  rw[hq.out,nv4.val,Nat.div_lt_iff_lt_mul c];exact hmid.out.1
 have hr:=a0s (us:=us) (mid':=mid') (n:=n) (j:=m-k) (V:=V) (k:=m+1-k) (qs:=qs) (U:=U) (by rw[husl.out];omega) hmid.out.2 (by rw[hmv.out,nv4.val]) hml.out (by omega) hU.out;have b:val mid'<V:=by rw[hmv.out,nv4.val];exact a3l _ c
 refine⟨k+1,us.take (m-k)++mid'++us.drop (m-k+n+1),q::qs,by omega,by rw[h2],?_,((husd.take _).append hmd).append (husd.drop _),?_,Dig.cons d hqsd,hru5.far (fun e=>hqne e.symm) _,?_,?_,?_,nv_set (bX hnv hgr hgne) g.symm _ _,?_⟩
 · show _=_
   rw[a1x,a1x,a2c,a2d,husl.out,hml.out];omega
 · show (q::qs).length=k+1
   rw[a3r,hqsl.out]
 · have e1:m+1-k=m-k+1:=by omega
   have e2:m+1-(k+1)=m-k:=by omega
   rw[e2,h1];rw[e1] at hrq5;exact (hrq5.set (m-k) q).eq (dN _ _ _)
 · show U=_
   rw[show m+1-(k+1)=m-k by omega,hq.out,nv4.val];exact hr.1
 · show _<V
   rw[show m+1-(k+1)=m-k by omega,hr.2];exact b
 · exact (hbel.trans ⟨hgr.os,hgr.tape,hgr.output,hgr.size,fun i hi=>hgr.block i (a1o hi hbel.size) (by intro e;injection e with e;omega)⟩).setCell f _
theorem div_fin {us qs lu:List Nat}{V A B s n m:Nat}(hU:val lu=val us+V*(pw (m+1-(m+1))*val qs)) (hd:val (us.drop (m+1-(m+1)))<V) (hA:val lu=A*2 ^ s) (hB:V=B*2 ^ s) (hV:0<V) (hVn:V<pw n) (hud:Dig us) :
 val qs=A / B∧val us=A % B*2 ^ s∧val (us.take n)=A % B*2 ^ s∧us.getD n 0=0:=by
 rw[Nat.sub_self] at hU hd
 simp only[pw,List.drop_zero,Nat.one_mul] at hU hd
 have h1:val lu / V=val qs:=by rw[hU,Nat.add_mul_div_left _ _ hV,Nat.div_eq_of_lt hd,Nat.zero_add]
 have h2:val lu % V=val us:=by rw[hU,Nat.add_mul_mod_self_left,Nat.mod_eq_of_lt hd]
 have h3:val qs=A / B:=by rw[←h1,hA,hB,Nat.mul_div_mul_right _ _ (a3p s)]
 have h4:val us=A % B*2 ^ s:=by rw[←h2,hA,hB,Nat.mul_mod_mul_right]
 have h5:val us<pw n:=by omega
 refine⟨h3,h4,?_,?_⟩
 · rcases a3h n us.length with hl | hl
   · have h6:=E6 us n (by omega)
     rcases a3a (val (us.drop n)) with h7 | h7
     · rw[h7] at h6;omega
     · have:pw n*1≤pw n*val (us.drop n):=a3g _ h7;omega
   · rw[t7 _ _ hl];exact h4
 · rcases a3h n us.length with hl | hl
   · rcases a3a (us.getD n 0) with h7 | h7
     · exact h7
     · have h6:=gQ us n hl;have:pw n*1≤pw n*us.getD n 0:=a3g _ h7;omega
   · rw[a1l,a2j hl];rfl
theorem un_fin {us rs:List Nat}{n s R:Nat}(h:2 ^ s*val rs+us.getD 0 0 % 2 ^ s=val (us.take n)+pw n*(us.getD n 0 % 2 ^ s)) (h1:val (us.take n)=R*2 ^ s) (h2:us.getD n 0=0):val rs=R:=by
 rw[h2,Nat.zero_mod] at h;exact rC (a3l _ (a3p s)) h h1
theorem un_cell {w:World}{g k n:Nat}{rs:List Nat}(h:Row w g (rs++List.replicate (n-k) 0)) (hl:Hid (rs.length=k)) (hk:k<n):w.cell? ⟨g,k,none⟩=some (.int .u32 (0:Int)):=by
 have:=h.cell (i:=k) (by simp[hl.out];omega);rw[this,a1l,a2b (by rw[hl.out];omega),hl.out,O3 hk]
 simp
def yG (us qs:List Nat) (n s:Nat) (w:World) (gu gq gr:Nat) (i:Value) (wr:World):Prop :=
 ∃ (k:Nat) (rs:List Nat),k≤n∧i=.int .i64 (k:Int)∧Hid (rs.length=k)∧Dig rs∧Row wr gr (rs++List.replicate (n-k) 0)∧Row wr gu us∧Row wr gq qs ∧
  Hid (2 ^ s*val rs+us.getD 0 0 % 2 ^ s=val (us.take k)+pw k*(us.getD k 0 % 2 ^ s))∧Below w.heap.size w wr
theorem un_shr (u s:Nat) (hu:u<4294967296) (hs:s<32):∃ r0:Nat,Hid (r0=u / 2 ^ s)∧r0<2 ^ (32-s)∧((u:Int) / 2 ^ s)=(r0:Int):=by
 refine⟨_,rfl,?_,?_⟩
 · rw[Nat.div_lt_iff_lt_mul (a3p s),←Nat.pow_add,show 32-s+s=32 by omega];exact hu
 · rw[Int.natCast_ediv];rfl
theorem un_shl (u r0 s:Nat) (hs:s<32) (hs0:0<s) (hr:r0<2 ^ (32-s)):∃ y:Nat,Hid (y=u % 2 ^ s*2 ^ (32-s))∧r0+y<4294967296∧IntKind.u32.wrap ((u:Int)*2 ^ (32-s))=(y:Int)∧bits .or .u32 (r0:Int) (y:Int)=((r0+y:Nat):Int):=by
 have e:(4294967296:Nat)=2 ^ s*2 ^ (32-s):=by rw[←Nat.pow_add,show s+(32-s)=32 by omega]
 have hm:=a3l u (a3p s)
 have hy:r0+u % 2 ^ s*2 ^ (32-s)<4294967296:=by
  rw[e];have h1:(u % 2 ^ s+1)*2 ^ (32-s)≤2 ^ s*2 ^ (32-s):=a1y _ hm;rw[a3k,Nat.one_mul] at h1;omega
 refine⟨_,rfl,hy,?_,?_⟩
 · have e2:((u:Int)*2 ^ (32-s))=((u*2 ^ (32-s):Nat):Int):=by rw[Int.natCast_mul];rfl
   have e3:u*2 ^ (32-s) % 4294967296=u % 2 ^ s*2 ^ (32-s):=by rw[e,Nat.mul_mod_mul_right]
   rw[e2,IntKind.wrap_u32,←e3]
   rfl
 · have h1:r0<4294967296:=by omega
   have h2:=u32_or_nat r0 (u % 2 ^ s*2 ^ (32-s)) h1 (by omega);rw[h2,Nat.or_comm,nat_join (32-s) _ _ (Nat.mul_mod_left _ _) hr,Nat.add_comm]
theorem un_drew {us qs:List Nat}{n s gu gq gr:Nat}{w wr:World}{i:Value}(h:yG us qs n s w gu gq gr i wr):yG us qs n s w gu gq gr i wr.drew:=by
 obtain⟨k,rs,h1,h2,h3,h4,h5,h6,h7,h8,h9⟩:=h;exact⟨k,rs,h1,h2,h3,h4,h5,h6,h7,h8,h9.drew⟩
theorem wO {us qs rs:List Nat}{n s k u u1 r0:Nat}{w wf:World}{gu gq gr:Nat}(hkn:k<n) (hrsl:Hid (rs.length=k)) (hrsd:Dig rs) (hru:Row wf gu us) (hrq:Row wf gq qs) (y:Nat) (hrr:Row wf gr (rs++[r0+y]++List.replicate (n-(k+1)) 0))
 (hval:Hid (2 ^ s*val rs+us.getD 0 0 % 2 ^ s=val (us.take k)+pw k*(us.getD k 0 % 2 ^ s))) (hbel:Below w.heap.size w wf) (hs:s<32) (hgu:Hid (us.getD k 0=u)) (hgu1:Hid (us.getD (k+1) 0=u1))
 (hr0:Hid (r0=u / 2 ^ s)) (hr0b:r0<2 ^ (32-s)) (hy:y=u1 % 2 ^ s*2 ^ (32-s)) (i':Int) (hi':i'=((k+1:Nat):Int)) :
 yG us qs n s w gu gq gr (.int .i64 i') wf:=by
 have hb:r0+y<4294967296:=by
  have e:(4294967296:Nat)=2 ^ s*2 ^ (32-s):=by rw[←Nat.pow_add,show s+(32-s)=32 by omega]
  have hm:=a3l u1 (a3p s);rw[e,hy];have h1:(u1 % 2 ^ s+1)*2 ^ (32-s)≤2 ^ s*2 ^ (32-s):=a1y _ hm;rw[a3k,Nat.one_mul] at h1;omega
 refine⟨k+1,rs++[r0+y],by omega,by rw[hi'],?_,hrsd.snoc hb,hrr,hru,hrq,?_,hbel⟩
 · show (rs++[_]).length=k+1
   rw[a1x,hrsl.out];rfl
 · show _=_
   refine pB hs hgu.out hrsl.out rfl ?_ (us.getD (k+1) 0 % 2 ^ s) (r0+y) (by rw[hr0.out,hy,hgu1.out]);rw[←hgu.out];exact hval.out
theorem un_put {rs:List Nat}{n k x:Nat}{wr:World}{gr:Nat}(hkn:k<n) (hrsl:Hid (rs.length=k)) (hrr:Row wr gr (rs++List.replicate (n-k) 0)) (v:Int) (hv:v=(x:Int)):Row (wr.setCell ⟨gr,k,none⟩ (.int .u32 v)) gr (rs++[x]++List.replicate (n-(k+1)) 0):=by
 rw[O3 hkn] at hrr;exact hrr.push hrsl.out v hv
theorem un_put2 {rs z:List Nat}{k x y:Nat}{wr:World}{gr:Nat}(hrsl:Hid (rs.length=k)) (hrr:Row wr gr (rs++[y]++z)) (v:Int) (hv:v=(x:Int)):Row (wr.setCell ⟨gr,k,none⟩ (.int .u32 v)) gr (rs++[x]++z):=by
 have h:Row wr gr (rs++y::z):=hrr.eq (by simp);exact h.push hrsl.out v hv
theorem eY {A B:Option Addr}{ca cb:Nat}{la lb:List Nat}{w:World}(ha:Nv w A ca la) (hb:Nv w B cb lb) (hna:la.length≤500000000) (hnb:lb.length≤500000000) :
 Calls Tryz.prog 92 #[.slice A la.length ca,.slice B lb.length cb] w (RetDiv (val la) (val lb) (la.length+1) w):=by
 go_enter Tryz.func92,Tryz.ntmps92;go_wp2_with fail;refine (cH ha).mono ?_;rintro e w' ⟨l1,rfl,h1,n1,b1,rfl⟩;go_wp2_with fail;refine (cH hb).mono ?_;rintro e w' ⟨l2,rfl,h2,n2,b2,rfl⟩;clear ha hb;have p1:=h1.big;have m2:=h2.big
 by_cases hz:l2=[]
 · have hv:Hid (val lb=0):=by subst hz;exact n2.val.symm
   subst hz;go_wp2;refine bodyPost_ret (results_tmp3 rfl _ _ _) rfl ?_;refine⟨none,0,[],none,0,[],?_,iE _,iE _,?_,?_,by simp,by simp,a3t _ _⟩
   · rw[if_pos hv.out];rfl
   · rw[if_pos hv.out];exact NatIs.nil
   · rw[if_pos hv.out];exact NatIs.nil
 have hv:Hid (val lb≠0):=fun e=>hz (n2.zero_iff.2 e);have m1:0<l2.length:=List.length_pos_iff.2 hz;have k6:(((l2.length:Nat):Int) == 0)=false:=by rw[beq_eq_false_iff_ne];omega
 clear hz;go_wp2_with fail;refine (kB h1 h2).mono ?_;rintro e w1 ⟨rfl,z⟩;have c9:=h1.below z;have c5:=h2.below z
 by_cases hlt:val la<val lb
 · have hc:=a1k (show O1 (val l1) (val l2)=-1 from dB (by rw[n1.val,n2.val];exact hlt));rw[hc.out];clear hc;go_wp2_with fail;refine (kC _ none _ 0 l1 [] _ c9 (iE _) (by omega) (by simp)).mono ?_;rintro e w2 ⟨A2,c2,r,rfl,hr,nr,k1,p⟩;go_wp2;refine bodyPost_ret (results_tmp3 rfl _ _ _) rfl ?_;refine⟨none,0,[],A2,c2,r,?_,iE _,hr,?_,?_,by simp,by simp at k1;omega,(a1j z p)⟩
   · rw[if_neg hv.out];rfl
   · rw[if_neg hv.out,Nat.div_eq_of_lt hlt];exact NatIs.nil
   · rw[if_neg hv.out,Nat.mod_eq_of_lt hlt,←n1.val];exact nr
 have hc:0≤O1 (val l1) (val l2):=by
  have h:=J8 (val l1) (val l2);rw[n1.val,n2.val] at *;omega
 have j3:=qO (val l1) (val l2);obtain⟨c,f6⟩:∃ c,c=O1 (val l1) (val l2):=⟨_,rfl⟩;rw[←f6] at hc j3 ⊢;clear f6;have d6:=a1k hlt;clear hlt
 by_cases h1l:l2.length=1
 · obtain⟨d,rfl⟩:∃ d,l2=[d]:=by
    match l2,h1l with
    | [d],_=>exact⟨d,rfl⟩
   obtain⟨a,d',rfl,h3,g4,f1,b3⟩:=c5.at (k:=0) (by simp);have l8:=jM g4
   have hd:Hid (val lb=d'):=by
    have e1:=b3.out;have e2:=n2.val
    simp only[List.getD_cons_zero,val] at e1 e2
    show val lb=d'
    omega
   have b0:0<d':=by have:=hv.out;rw[hd.out] at this;omega
   go_wp2_with fail;refine (yY _ _ d' l1 _ c9 (by omega) b0 f1).mono ?_;rintro e w2 ⟨A2,c2,q,rfl,hq,nq,n9,p,-⟩;have h7:val l1 % d'<d':=a3l _ b0;obtain⟨r,hr⟩:∃ r,Hid (r=val l1 % d'):=⟨_,rfl⟩;rw[←hr.out] at h7 ⊢;have g0:r<pw 2:=by simp only[pw];omega
   have d7:=a1k g0;clear g0;go_wp2_with fail;refine (fV r _ d7.out).mono ?_;rintro e w3 ⟨A3,c3,l3,rfl,h8,d2,l6,E⟩;go_wp2;refine bodyPost_ret (results_tmp3 rfl _ _ _) rfl ?_;refine⟨A2,c2,q,A3,c3,l3,?_,hq.below E,h8,?_,?_,by omega,?_,z.trans ((p.mono z.size).trans (E.mono (by have:=p.size;have:=z.size;omega)))⟩
   · rw[if_neg hv.out];rfl
   · rw[if_neg hv.out,hd.out,←n1.val];exact nq
   · rw[if_neg hv.out,hd.out,←n1.val,←hr.out];exact d2
   · have:=C0 (k:=1) d2.canon (by rw[d2.val,kY];omega);omega
 have Z:2≤l2.length:=by omega
 have l0:(((l2.length:Nat):Int) == 1)=false:=by rw[beq_eq_false_iff_ne];omega
 clear h1l;obtain⟨a,d,rfl,h3,g4,f1,b3⟩:=c5.at (k:=l2.length-1) (by omega)
 have b0:0<d:=by
  rcases (dE l2).1 n2.canon with h | h
  · omega
  · rw[b3.out] at h;omega
 go_wp2
 go_loop [9] (fun b=>BitsInv d b) (fun b=>32-(intOf b).toNat)
 case atStart=>exact⟨0,rfl,by omega,by show d*2 ^ 0<_;omega⟩
 case round =>
  obtain⟨s,rfl,hs,k0⟩:=hrel;obtain⟨x,hx,h5,hw⟩:=shl_u32 d s k0.out
  by_cases hlo:x<2147483648
  · have d8:=a1k (a1d b0 (by rw[←hx.out];exact hlo));have b7:decide ((x:Int)<2147483648)=true:=a1w (by omega);clear hlo;go_wp2
    go_round
    case rel=>exact⟨s+1,rfl,d8.out.1,d8.out.2⟩
    case measure=>simp[intOf];omega
  · have b7:decide ((x:Int)<2147483648)=false:=a1v (by omega);have d4:=a1k (show 2147483648≤x by omega);clear hlo;go_wp2_with fail;refine (iY _ _ s l1 _ c9 (by omega) hs).mono ?_;rintro e w2 ⟨lu,rfl,f,d9,c8,g8,p⟩;have f9:=c5.below p;go_wp2_with fail;refine (iY _ _ s l2 _ f9 (by omega) hs).mono ?_;rintro e w3 ⟨n8,rfl,d1,g3,j2,k5,E⟩;go_wp2_with fail;refine (R0 d1 g3.out j2 (by omega)).mono ?_;rintro e w4 ⟨lv,rfl,g7,G,l9,rfl⟩;rw[k5.out] at G;have g:=a1k (norm_of rfl Z h2.dig b3.out hs hx.out d4.out h5 G)
    have n5:l2.length≤l1.length:=by
     rcases a3h l1.length l2.length with h | h
     · have:=Q6 h1.dig n2.canon h;rw[n1.val,n2.val] at this;exact absurd this d6.out
     · exact h
    obtain⟨m,hm⟩:∃ m,Hid (l1.length=m+l2.length):=⟨l1.length-l2.length,by show _=_;omega⟩;have j0:=a1k (a0q h1.dig n2.canon rfl Z hm.out g8.out (by rw[d9.out,hm.out]) rfl);have b8:=f.keep E f.lt;have b9:w2.heap.size≠w1.heap.size:=by have:=p.size;have:=f.lt;omega
    have m5:=U5 w3 (m+1) .i64 ((l1.length:Int)-(l2.length:Int)+1) (by rw[hm.out];omega) (by have:=hm.out;omega);go_wp2;obtain⟨n,hn⟩:∃ n,Hid (l2.length=n):=⟨_,rfl⟩;rw[g.out.1,hm.out,hn.out];rw[g.out.1,hn.out] at g7;rw[hn.out] at Z;have b5:w3.heap.size≠w1.heap.size:=by have:=E.size;have:=p.size;have:=f.lt;have:=d1.lt;omega
    have b6:w3.heap.size≠w2.heap.size∧w1.heap.size≤w1.heap.size∧w1.heap.size≤w3.heap.size∧0<val l2*2 ^ s:=by
     have:=E.size;have:=p.size;have:=d1.lt;refine⟨by omega,by omega,by omega,Nat.mul_pos ?_ (a3p s)⟩;rw[n2.val];have:=hv.out;omega
    have J:=a1k b6;clear b6;have n0:m+n≤500000000:=by have:=hm.out;rw[hn.out] at this;omega
    simp only[Int.natCast_add,Int.add_sub_cancel]
    clear hw b7
    go_loopw [75] (fun i wr=>DivInv (val lu) (val l2*2 ^ s) m n w1 w1.heap.size w3.heap.size w2.heap.size lv i wr) (fun i _=>m+1-(intOf i).toNat)
    case atStart =>
     have g6:Below w1.heap.size w1 w3:=a1j p E;have C:Below w3.heap.size w3 (w3.alloc (.cells (F1 (List.replicate (m+1) 0)).toArray 69)):=(a3t _ _).alloc (a1u _) _;exact⟨0,lu,[],by omega,rfl,by show _=_;rw[d9.out,hm.out,hn.out],c8,rfl,Dig.nil,b8.keep C b8.lt,(Row.new _ _).eq (by simp),by show _=_;simp[val],j0.out,g7.below C,(a1j g6 C)⟩
    case round =>
     obtain⟨k,us,qs,hk,rfl,t,v,N,M,f,D,hU,d5,f5,l⟩:=hrel
     by_cases hkm:k≤m
     · have k3:decide ((k:Int)<(m:Int)+1)=true:=a1w (by omega);have f4:=a1k (xZ G (g.out.1.trans hn.out));have b4:=a1k (div_mid (j:=m-k) (n:=n) v (by rw[t.out];omega) f4.out (by rw[show m-k+1=m+1-k by omega];exact d5.out));have j4:=f.eq (a0r us (m-k) n);go_wp2_with fail;rw[show m-k+n+1-(m-k)=n+1 by omega]
       refine (a0u (lv:=lv) j4 (by show _=_;rw[a2c,t.out];omega) (by show _=_;rw[a2c,a2d,t.out];omega) (g.out.1.trans hn.out) Z (by omega) (by omega) f5 b9 ((v.drop _).take _)
        (by rw[←hn.out];exact g.out.2) (by rw[G.val];exact b4.out.1)).mono ?_
       rintro e w5 ⟨l4,rfl,g1,h4,h0,h6,f0⟩;obtain⟨q,hq⟩:∃ q,Hid (q=val ((us.drop (m-k)).take (n+1)) / val lv):=⟨_,rfl⟩;rw[←hq.out];have Y:Row w5 w3.heap.size (List.replicate (m+1-k) 0++qs):=(f0.block _ D.lt (by intro e;injection e with e;exact b5 e)).trans D;have hf:=Y.free (m-k);obtain⟨d0,f2,_,_⟩:=Y.cell' (i:=m-k) ((Dig.replicate _).append M) (by rw[a1x,a1p,N.out];omega);go_wp2;go_roundw
       case rel=>exact div_step hkm t v N M h4 h0 h6 b4 f4 G hq Y g1 hU f5 f0 l b5 b9 _ _ rfl (by omega) J.out
       case measure=>simp[intOf];omega
     · obtain rfl:k=m+1:=by omega
       have k3:decide ((m:Int)+1<(m:Int)+1)=false:=a1v (by omega);have T:=a1k (div_fin hU.out d5.out (V:=val l2*2 ^ s) (A:=val l1) (B:=val l2) (s:=s) g8.out rfl J.out.2.2.2 (xZ G (g.out.1.trans hn.out)) v);have O:Row wr w3.heap.size qs:=D.eq (by simp);have l5:=U5 wr n .i64 (n:Int) rfl (by omega);have c4:w1.heap.size<wr.heap.size:=f.lt;have n4:w3.heap.size<wr.heap.size:=O.lt;go_wp2;obtain⟨wq,rfl⟩:∃ wq:World,wq=wr:=⟨_,rfl⟩;have F:wq.heap.size≠w1.heap.size:=by omega
       have X:wq.heap.size≠w3.heap.size:=by omega
       have U:w1.heap.size≤wq.heap.size:=l.size
       go_loopw [101] (fun i wx=>yG us qs n s w1 w1.heap.size w3.heap.size wq.heap.size i wx) (fun i _=>n-(intOf i).toNat)
       case atStart=>exact⟨0,[],by omega,rfl,rfl,Dig.nil,(Row.new _ _).eq (by simp),f.keep ((a3t wq.heap.size wq).alloc (a1u _) _) f.lt,O.keep ((a3t wq.heap.size wq).alloc (a1u _) _) O.lt,by show _=_;simp[val,pw],l.alloc l.size _⟩
       case round =>
        obtain⟨k,rs,hk,rfl,o,R,H,f,D,I,l⟩:=hrel
        by_cases hkn:k<n
        · obtain⟨u,m9,c8,c4⟩:=f.cell' (i:=k) v (by rw[t.out];omega);obtain⟨u1,g2,l7,c0⟩:=f.cell' (i:=k+1) v (by rw[t.out];omega);have hf:=H.free k;have f2:_:=un_cell H o hkn;obtain⟨r0,d3,L,n3⟩:=un_shr u s c8 hs
          by_cases hs0:s=0
          · have g5:decide (0<s)=false:=a1v (by omega);go_wp2;go_roundw
            case rel=>exact wO hkn o R (f.far F.symm _) (D.far X.symm _) 0 (un_put hkn o H _ (by have:=d3.out;rw[hs0,Nat.pow_zero,Nat.div_one] at this;omega)) I (l.setCell U _) hs c4 c0 d3 L (by rw[hs0];omega) _ (by omega)
            case measure=>simp[intOf];omega
          · have g5:decide (0<s)=true:=a1w (by omega);obtain⟨y,hy,n6,n7,m4⟩:=un_shl u1 r0 s hs (by omega) L;have m3:(wr.setCell ⟨wq.heap.size,k,none⟩ (.int .u32 (r0:Int))).cell? ⟨wq.heap.size,k,none⟩=some (.int .u32 (r0:Int)):=World.cell?_setCell_same _ _ _ f2;have m0:(wr.setCell ⟨wq.heap.size,k,none⟩ (.int .u32 (r0:Int))).cell? ⟨w1.heap.size,k+1,none⟩=some (.int .u32 (u1:Int)):=(World.cell?_setCell_other _ _ _ _ (by intro e;injection e with e;exact F e)).trans g2;have m6:(wr.setCell ⟨wq.heap.size,k,none⟩ (.int .u32 (r0:Int))).frozen? ⟨wq.heap.size,k,none⟩=false:=(World.frozen?_setCell _ _ _ _).trans hf;go_wp2
            go_region
            go_wp2;go_roundw
            case rel=>exact un_drew (wO hkn o R ((f.far F.symm _).far F.symm _) ((D.far X.symm _).far X.symm _) y (un_put2 o (un_put hkn o H _ rfl) _ (by omega)) I ((l.setCell U _).setCell U _) hs c4 c0 d3 L hy.out _ (by omega))
            case measure=>simp[intOf];omega
        · obtain rfl:k=n:=by omega
          have f3:Row wr wq.heap.size rs:=H.eq (by simp);have c7:=a1k (un_fin I.out T.out.2.2.1 T.out.2.2.2);have j1:=a1k T.out.1;have g9:=a1k (show qs.length=m+1 from N.out);go_wp2_with fail;refine (R0 D g9.out M (by omega)).mono ?_;rintro e w8 ⟨q',rfl,h9,j5,m8,rfl⟩;go_wp2_with fail;refine (R0 f3 o.out R (by omega)).mono ?_;rintro e w8 ⟨r',rfl,k4,k2,p0,rfl⟩;go_wp2;refine bodyPost_ret (results_tmp3 rfl _ _ _) rfl ?_;refine⟨_,_,q',_,_,r',?_,h9,k4,?_,?_,?_,?_,(a1j z l)⟩
          · rw[if_neg hv.out];rfl
          · rw[if_neg hv.out,←n1.val,←n2.val,←j1.out];exact j5
          · rw[if_neg hv.out,←n1.val,←n2.val,←c7.out];exact k2
          · have:=hm.out;omega
          · have:=hm.out;rw[hn.out] at this;omega
def GcdInv (G N:Nat) (w:World) (g:Nat) (a b:Value) (wr:World):Prop :=
 ∃ A ca la B cb lb x y,a=.slice A la.length ca∧b=.slice B lb.length cb∧Nv wr A ca la∧Nv wr B cb lb∧NatIs la x∧NatIs lb y∧g=y∧Hid (Nat.gcd x y=G)∧la.length≤N∧lb.length≤N∧Below w.heap.size w wr
theorem sV (x y:Nat):Nat.gcd y (x % y)=Nat.gcd x y:=by
 rw[Nat.gcd_comm x y,Nat.gcd_rec y x,Nat.gcd_comm]
theorem gcd_any {A B:Option Addr}{ca cb:Nat}{la lb:List Nat}{w:World}(ha:Nv w A ca la) (hb:Nv w B cb lb) (hna:la.length≤400000000) (hnb:lb.length≤400000000) :
 Calls Tryz.prog 91 #[.slice A la.length ca,.slice B lb.length cb] w (K5 (Nat.gcd (val la) (val lb)) 400000001 w):=by
 go_enter Tryz.func91,Tryz.ntmps91;go_wp2_with fail;refine (kC _ none _ 0 la [] _ ha (iE _) (by omega) (by simp)).mono ?_;rintro e w1 ⟨A1,c1,l1,rfl,h1,n1,m1,b1⟩;go_wp2_with fail;refine (kC _ none _ 0 lb [] _ (hb.below b1) (iE _) (by omega) (by simp)).mono ?_;rintro e w2 ⟨A2,c2,l2,rfl,h2,n2,m2,b2⟩;go_wp2
 go_loopg [0,1] (val lb) (fun g a b wr=>GcdInv (Nat.gcd (val la) (val lb)) 400000001 w g a b wr)
 case atStart=>exact⟨A1,c1,l1,A2,c2,l2,val la,val lb,rfl,rfl,h1.below b2,h2,n1,n2,rfl,rfl,by simp at m1;omega,by simp at m2;omega,(a1j b1 b2)⟩
 case round =>
  obtain⟨A,ca,k,B,cb,c,x,y,rfl,rfl,h1,h2,n1,n2,rfl,hG,m1,m2,d⟩:=hrel;have m:=h2.big
  by_cases hz:c.length=0
  · have hy:Hid (gk=0):=by
     have:c=[]:=a2a hz
     show gk=0
     exact (n2.zero_iff).1 this
    have hd:decide (0<c.length)=false:=a1v (by omega);have l:=a1k (show x=Nat.gcd (val la) (val lb) by rw[←hG.out,hy.out,Nat.gcd_zero_right]);go_wp2;go_ret;exact⟨A,ca,k,rfl,h1,l.out ▸ n1,m1,d⟩
  · have hy:Hid (gk≠0):=fun e=>hz (by rw[(n2.zero_iff).2 e];rfl);have hd:decide (0<c.length)=true:=a1w (by omega);clear hz;go_wp2_with fail;refine (eY h1 h2 (by omega) (by omega)).mono ?_;rintro e w3 ⟨A3,c3,q,B3,d3,r,rfl,hq,hr,nq,nr,lq,lr,b3⟩;rw[n2.val,if_neg hy.out] at nr;rw[n2.val,if_neg hy.out];rw[n1.val] at nr;have f:=a1k (a3l x (a2s hy.out))
    have j:=a1k (show r.length≤400000001 from a1t (C0 nr.canon (by
     have h:=E0 n2.dig;rw[n2.val] at h;rw[nr.val];exact Nat.lt_trans f.out h)) m2)
    go_wp2
    go_roundg (x % gk)
    case measure=>exact f.out
    case rel=>exact⟨B,cb,c,B3,d3,r,gk,x % gk,rfl,rfl,h2.below b3,hr,n2,nr,rfl,by show Nat.gcd _ _=_;rw[sV];exact hG.out,m2,j.out,(a1j d b3)⟩
def N2 (n:Nat):Nat:=if n=0 then 0 else n.log2+1
theorem a1e {n b:Nat}(h1:2 ^ b≤n) (h2:n<2 ^ (b+1)):N2 n=b+1:=by
 have hn:n≠0:=by have:=a3p b;omega
 unfold N2;rw[if_neg hn];have h3:=(Nat.le_log2 hn).2 h1;have h4:=(Nat.log2_lt hn).2 h2;omega
attribute [local go_sem ↓] Go.wp_at_zero Go.wp_at_succ
theorem aK (x:Nat) (n:Int) (w:World) (hn:n=(x:Int)) (hx:x<pw 2):Calls Tryz.prog 49 #[.int .u64 n] w (K5 x 2 w):=by
 subst hn;exact fV x w hx
theorem size_any (n:Int) (w:World) (h1:-9223372036854775808≤n) (h2:n≤9223372036854775807) :
 Calls Tryz.prog 48 #[.int .i64 n] w (K5 n.natAbs 2 w):=by
 have hb:n.natAbs<pw 2:=by simp only[pw];omega
 by_cases hn:n<0
 · go_enter Tryz.func48,Tryz.ntmps48;go_wp2_with fail;refine (aK n.natAbs _ _ (by omega) hb).mono ?_;rintro e w1 ⟨A,c,l,rfl,h1,h2,h3,h4⟩;go_wp2;go_ret;exact⟨A,c,l,rfl,h1,h2,h3,h4⟩
 · go_enter Tryz.func48,Tryz.ntmps48;go_wp2_with fail;refine (aK n.natAbs _ _ (by omega) hb).mono ?_;rintro e w1 ⟨A,c,l,rfl,h1,h2,h3,h4⟩;go_wp2;go_ret;exact⟨A,c,l,rfl,h1,h2,h3,h4⟩
theorem sL {neg:Bool}{A B:Option Addr}{ca cb:Nat}{la lb:List Nat}{w:World}(ha:Nv w A ca la) (hb:Nv w B cb lb) (h0:val lb≠0) (hla:la.length≤400000000) (hlb:lb.length≤400000000) :
 Calls Tryz.prog 71 #[.bool neg,.slice A la.length ca,.slice B lb.length cb] w (tO (mkRat (sg neg (val la)) (val lb)) w):=by
 have t:lb≠[]:=fun e=>h0 (by rw[e];rfl);have H:(((lb.length:Nat):Int) == 0)=false:=by rw[beq_eq_false_iff_ne];have:=List.length_pos_iff.2 t;omega
 have M:=hb.big;obtain⟨w0,J,o,r,D⟩:=f8 w #[.bool false,.slice none 0 0,.slice none 0 0] 28;have z:=ha.below o;have y:=hb.below o;have l:Nat.gcd (val la) (val lb)≠0:=fun e=>h0 (Nat.eq_zero_of_gcd_eq_zero_right e);clear t;go_enter Tryz.func71,Tryz.ntmps71;go_wp2_with fail;refine (gcd_any z y hla hlb).mono ?_;rintro e w1 ⟨G,cg,lg,rfl,ng,ig,mg,b1⟩;have j:=a1k ig;clear ig;go_wp2_with fail;refine (eY (z.below b1) ng (by omega) (by omega)).mono ?_;rintro e w2 ⟨A2,c2,q2,R2,s2,r2,rfl,nq,nr,iq,ir,lq,lr,b2⟩;rw[j.out.val,if_neg l] at iq;have q:=a1k iq;have f:(if val lg=0 then (8:Int) else 0)=0:=by rw[j.out.val,if_neg l]
 rw[f];clear iq ir f;go_wp2_with fail;refine (eY ((y.below b1).below b2) (ng.below b2) (by omega) (by omega)).mono ?_;rintro e w3 ⟨A3,c3,q3,R3,s3,r3,rfl,s,I,n,E,N,L,b3⟩;rw[j.out.val,if_neg l] at n;have x:=a1k n;have f:(if val lg=0 then (8:Int) else 0)=0:=by rw[j.out.val,if_neg l]
 rw[f];clear n E f;have g:=((a1j b1 b2));have g:=a1j g b3;have c:=D.keep g;have k:=o.trans (g.mono (a3f r));have y0:=c.f0;have y1:=c.f1;have y2:=c.f2;have z0:=c.free 0;have z1:=c.free 1;have z2:=c.free 2
 have F:decide (0<q2.length)=decide (0<val la / Nat.gcd (val la) (val lb)):=by
  rw[decide_eq_decide]
  constructor
  · intro h
    rcases a3a (val la / Nat.gcd (val la) (val lb)) with h1 | h1
    · have:=q.out.zero_iff.2 h1;rw[this] at h;simp at h
    · exact h1
  · exact fun h=>q.out.pos h
 obtain⟨nz,m⟩:∃ b,decide (0<val la / Nat.gcd (val la) (val lb))=b:=⟨_,rfl⟩;rw[m] at F;have hQ:=a1k (fun (neg':Bool) (h:neg'=(neg&&nz))=>kX (neg:=neg) (neg':=neg') h0 q.out x.out (by rw[m];exact h));clear m;have C:=nq.below b3;clear b1 b2 b3
 rcases neg with _ | _
 · go_wp2;obtain⟨w9,p,d,o9⟩:=c.set3 (.bool false) (.slice A2 q2.length c2) (.slice A3 q3.length c3);rw[p];have e0:=d.f0;have e1:=d.f1;have e2:=d.f2;have m1:=C.only_blk c (k7 _ _ _ _ _ _ _) o9;have m2:=s.only_blk c (k7 _ _ _ _ _ _ _) o9;refine bodyPost_ret (v:=.tuple #[B8 false A2 q2.length c2 A3 q3.length c3,.int .i64 0]) (by simp[results,Tryz.results71,go_sem,e0,e1,e2]) rfl ?_;exact⟨_,rfl,⟨_,A2,c2,q2,A3,c3,q3,rfl,m1,m2,hQ.out _ (by simp)⟩,o9.to_below k (a1u _) k.size⟩
 · go_wp2;obtain⟨w9,p,d,o9⟩:=c.set3 (.bool nz) (.slice A2 q2.length c2) (.slice A3 q3.length c3);rw[p];have e0:=d.f0;have e1:=d.f1;have e2:=d.f2;have m1:=C.only_blk c (k7 _ _ _ _ _ _ _) o9;have m2:=s.only_blk c (k7 _ _ _ _ _ _ _) o9;refine bodyPost_ret (v:=.tuple #[B8 nz A2 q2.length c2 A3 q3.length c3,.int .i64 0]) (by simp[results,Tryz.results71,go_sem,e0,e1,e2]) rfl ?_;exact⟨_,rfl,⟨_,A2,c2,q2,A3,c3,q3,rfl,m1,m2,hQ.out _ (by simp)⟩,o9.to_below k (a1u _) k.size⟩
theorem Y1 {neg:Bool}{A B:Option Addr}{ca cb:Nat}{la lb:List Nat}{w:World}(ha:Nv w A ca la) (hb:Nv w B cb lb) (h0:val lb≠0) (hla:la.length≤400000000) (hlb:lb.length≤400000000) :
 Calls Tryz.prog 47 #[.bool neg,.slice A la.length ca,.slice B lb.length cb] w (V6 (mkRat (sg neg (val la)) (val lb)) w):=by
 obtain⟨w0,y,d,h,l⟩:=f8 w #[.bool false,.slice none 0 0,.slice none 0 0] 28;obtain⟨q,hq⟩:∃ q,Hid (mkRat (sg neg (val la)) (val lb)=q):=⟨_,rfl⟩;have p:=ha.below d;have o:=hb.below d;rw[hq.out];go_enter Tryz.func47,Tryz.ntmps47;go_wp2_with fail;refine (sL p o h0 hla hlb).mono ?_;rintro e w1 ⟨v,rfl,⟨n1,A1,c1,l1,B1,d1,m1,rfl,na,nb,hQ⟩,b1⟩;rw[hq.out] at hQ;have r:=a1k hQ;clear hQ;have m:=l.keep b1;have j:=d.trans (b1.mono (a3f h));obtain⟨w2,x,c,t,g⟩:=f8 w1 #[.bool n1,.slice A1 l1.length c1,.slice B1 m1.length d1] 28;have b:=m.keep c;have y0:=b.f0;have y1:=b.f1;have y2:=b.f2;have z0:=b.free 0;have z1:=b.free 1;have z2:=b.free 2;have x0:=g.f0;have x1:=g.f1;have x2:=g.f2;go_wp2;obtain⟨w9,n,f,o9⟩:=b.set3 (.bool n1) (.slice A1 l1.length c1) (.slice B1 m1.length d1);rw[n];have e0:=f.f0;have e1:=f.f1;have e2:=f.f2;refine bodyPost_ret (v:=B8 n1 A1 l1.length c1 B1 m1.length d1) (by simp[results,Tryz.results47,go_sem,e0,e1,e2]) rfl ?_;have k:=(na.below c).only_blk b (k7 _ _ _ _ _ _ _) o9;have s:=(nb.below c).only_blk b (k7 _ _ _ _ _ _ _) o9;exact⟨_,rfl,⟨n1,A1,c1,l1,B1,d1,m1,rfl,k,s,r.out⟩,o9.to_below ((a1j j c)) (a1u _) (a1t j.size c.size)⟩
def cQ (l:List Nat):Bool:=decide (l.length=0∨l.getD (l.length-1) 0≠0)
theorem pK (l:List Nat):cQ l=S0 l:=by
 unfold cQ S0;rw[Bool.eq_iff_iff,decide_eq_true_eq,decide_eq_true_eq,←dE];exact⟨iW,cG⟩
theorem pJ {A:Option Addr}{c:Nat}{l:List Nat}{w:World}(h:Nv w A c l) :
 Calls Tryz.prog 37 #[.slice A l.length c] w fun e w'=>e=.returned (.bool (S0 l))∧w=w':=by
 have hb:=h.big;rw[←pK]
 rcases a3a l.length with h0 | h0
 · obtain rfl:l=[]:=a2a h0;clear h0;go_enter Tryz.func37,Tryz.ntmps37;go_wp2;go_ret;exact⟨rfl,rfl⟩
 · obtain⟨a,d,rfl,g,j,m,b⟩:=h.at (k:=l.length-1) (by omega);have f:(((l.length:Nat):Int) == 0)=false:=by rw[beq_eq_false_iff_ne];omega
   have hv:Hid (cQ l=((d:Int) != 0)):=by
    show _=_
    rw[Bool.eq_iff_iff];unfold cQ;rw[b.out,decide_eq_true_eq,bne_iff_ne];omega
   go_enter Tryz.func37,Tryz.ntmps37;go_wp2;go_ret;refine⟨?_,rfl⟩;rw[hv.out];rfl
theorem pN {A:Option Addr}{c i:Nat}{l:List Nat}{w:World}(h:Nv w A c l) (hi:i≤1000000000000) :
 Calls Tryz.prog 98 #[.slice A l.length c,.int .i64 (i:Int)] w fun e w'=>e=.returned (.int .u64 ((l.getD i 0:Nat):Int))∧w=w':=by
 have hb:=h.big
 by_cases hlt:i<l.length
 · obtain⟨a,d,rfl,f,g,j,b⟩:=h.at (k:=i) hlt;go_enter Tryz.func98,Tryz.ntmps98;go_wp2;go_ret;refine⟨?_,rfl⟩;rw[b.out];rfl
 · have hd:decide (i<l.length)=false:=a1v hlt;have hv:=a1k (show l.getD i 0=0 by rw[a1l,a2j (by omega)];rfl);go_enter Tryz.func98,Tryz.ntmps98;go_wp2;go_ret;refine⟨?_,rfl⟩;rw[hv.out];rfl
theorem z7 {A:Option Addr}{c i d:Nat}{l:List Nat}{w:World}(h:Nv w A c l) (x:Int) (hx:x=(i:Int)) (hi:i≤1000000000000) (hd:Hid (l.getD i 0=d)) :
 Calls Tryz.prog 98 #[.slice A l.length c,.int .i64 x] w fun e w'=>e=.returned (.int .u64 (d:Int))∧w=w':=by
 subst hx;have:=pN h hi;rw[hd.out] at this;exact this
theorem L2 {A:Option Addr}{c:Nat}{l:List Nat}{w:World}(h:Nv w A c l) (hl:l.length≤50000000000) :
 Calls Tryz.prog 65 #[.slice A l.length c] w (K5 (val l) l.length w):=by
 have hb:=h.big;have C:=h.len;go_enter Tryz.func65,Tryz.ntmps65;go_wp2
 go_loop [0] (fun v=>∃ k:Nat,k≤l.length∧v=.slice A k c∧Hid (H0 l l.length=H0 l k)) (fun v=>match v with | .slice _ n _=>n | _=>0)
 case atStart=>exact⟨_,a1u _,rfl,rfl⟩
 case round =>
  obtain⟨k,hk,rfl,hr⟩:=hrel
  by_cases hz:k=0∨l.getD (k-1) 0≠0
  · have ek:=a1k (show trimL l=l.take k by
     unfold trimL;rw[hr.out]
     congr 1
     have h1:=T4 l k;have h2:=rI (a1u k) hz
     omega)
    have s:Hid (NatIs (l.take k) (val l)):=by rw[←ek.out];exact bY h.dig
    have r:Rd (w.alloc (.cells #[] 69)) A (l.take k):=(h.rd.take k).alloc _;have m:=a1k (show (l.take k).length=k by rw[a2c];omega);have f:=OwnD.empty w w.heap.size (a1u _);have o:=(a3t w.heap.size w).alloc (a1u _) (.cells #[] 69)
    have p:∀ (v':Value) (w1:World),OwnD w1 w.heap.size v' ([]++l.take k)→(w.alloc (.cells #[] 69)).grownBy w1 (Value.ownBlock (.slice (some ⟨w.heap.size,0,none⟩) 0 0))→K5 (val l) l.length w (.returned v') w1:=fun v' w1 h1 h2 =>
     OwnD.ret (l:=l.take k) h1 s.out (by rw[m.out];exact hk) (f.grown_below o h2 (a1u _) (by simp)) (by rw[m.out];omega)
    rcases a3a k with h0 | h0
    · subst h0;clear hz
      go_wp2_with (at_builtin;(refine K9 _ rfl rfl _ _ rfl w.heap.size _ [] rfl f A 0 c (l.take 0) rfl ?_ ?_ ?_ ?_ ?_);(exact r);(exact m.out);(exact Nat.zero_le _);(exact a3f (by simp));intro v' w1 g b)
      go_ret;exact p _ _ g b
    · have q:l.getD (k-1) 0≠0:=by omega
      obtain⟨a,d,rfl,x,y,z,j⟩:=h.at (k:=k-1) (by omega);rw[j.out] at q;have B:((d:Int) == 0)=false:=by rw[beq_eq_false_iff_ne];omega
      clear hz q
      go_wp2_with (at_builtin;refine K9 _ rfl rfl _ _ rfl w.heap.size _ [] rfl f (some a) k c (l.take k) rfl r m.out (by simp;omega) (by simp) ?_;intro v' w1 g b)
      go_ret;exact p _ _ g b
  · have h0:0<k:=by omega
    obtain⟨a,d,rfl,x,y,z,j⟩:=h.at (k:=k-1) (by omega);have t:d=0:=by have:=j.out;omega
    have e1:=a1k (hr.out.trans (kJ h0 (j.out.trans t)));subst t;clear hz;go_wp2
    go_round
    case rel=>exact⟨k-1,by omega,rfl,e1⟩
    case measure=>simp;omega
theorem K0 (x:Nat) (w:World) (hx:x<pw 2) :
 Calls Tryz.prog 69 #[.int .u64 (x:Int)] w (K5 x 2 w):=by
 have b:=P9 w (cs:=#[Value.int IntKind.u32 ((x:Int) % 4294967296),Value.int IntKind.u32 ((x:Int) / 4294967296 % 4294967296)]) (l:=[x % 4294967296,x / 4294967296 % 4294967296]) (by simp[F1]);have hd:Dig [x % 4294967296,x / 4294967296 % 4294967296]:=Dig.cons (by omega) (Dig.cons (by omega) Dig.nil);have hv:=a1k (wK x hx);have d:Nv (w.alloc (.cells #[Value.int IntKind.u32 ((x:Int) % 4294967296),Value.int IntKind.u32 ((x:Int) / 4294967296 % 4294967296)] 69)) (some ⟨w.heap.size,0,none⟩) 2 [x % 4294967296,x / 4294967296 % 4294967296]:=⟨by simp,by simp,b.rd,hd⟩;have hw:IntKind.u64.wrap ((x:Int) / 4294967296)=(x:Int) / 4294967296:=by simp only[pw] at hx;rw[G2];omega
 clear hx;go_enter Tryz.func69,Tryz.ntmps69;go_wp2_with fail;refine (L2 d (by simp)).mono ?_;rintro e w' ⟨A,c,l',rfl,h1,h2,h3,h4⟩;go_wp2;go_ret;exact⟨_,_,_,rfl,h1,hv.out ▸ h2,h3,((a3t _ _).alloc (a1u _) _).trans (h4.mono (by simp))⟩
def CmpRInv (la lb:List Nat) (w:World) (n:Nat) (i:Value) (wr:World):Prop :=
 ∃ k:Nat,k≤n∧i=.int .i64 ((k:Int)-1)∧Hid (∀ j,k≤j→la.getD j 0=lb.getD j 0)∧w=wr
theorem M1:∀ (a b:List Nat),Dig a→Dig b→(∀ j,a.getD j 0=b.getD j 0)→val a=val b
 | [],[],_,_,_=>rfl
 | [],y::b,ha,hb,h=>by
  have h0:=h 0;have ih:=M1 [] b ha hb.tail (fun j=>h (j+1))
  simp only[val] at *
  simp at h0
  omega
 | x::a,[],ha,hb,h=>by
  have h0:=h 0;have ih:=M1 a [] ha.tail hb (fun j=>h (j+1))
  simp only[val] at *
  simp at h0
  omega
 | x::a,y::b,ha,hb,h=>by
  have h0:=h 0;have ih:=M1 a b ha.tail hb.tail (fun j=>h (j+1))
  simp only[val] at *
  simp at h0
  omega
theorem jI {a b:List Nat}(ha:Dig a) (hb:Dig b) (k:Nat) (h:∀ j,k+1≤j→a.getD j 0=b.getD j 0) (hk:a.getD k 0<b.getD k 0):val a<val b:=by
 induction k generalizing a b with
 | zero =>
  cases b with
  | nil=>simp at hk
  | cons y b =>
   cases a with
   | nil =>
    have:=M1 [] b Dig.nil hb.tail (fun j=>h (j+1) (by omega))
    simp only[val,List.getD_cons_zero,List.getD_nil] at *
    omega
   | cons x a =>
    have:=M1 a b ha.tail hb.tail (fun j=>h (j+1) (by omega))
    simp only[val,List.getD_cons_zero] at *
    omega
 | succ k ih =>
  cases b with
  | nil=>simp at hk
  | cons y b =>
   cases a with
   | nil =>
    have:=ih (a:=[]) (b:=b) Dig.nil hb.tail (fun j hj=>h (j+1) (by omega)) (by simpa using hk)
    simp only[val] at *
    omega
   | cons x a =>
    have h1:=ih (a:=a) (b:=b) ha.tail hb.tail (fun j hj=>h (j+1) (by omega)) (by simpa using hk);have h2:=ha.head;have h3:=hb.head
    simp only[val] at *
    omega
theorem eK {A B:Option Addr}{ca cb:Nat}{la lb:List Nat}{w:World}(ha:Nv w A ca la) (hb:Nv w B cb lb) (hna:la.length≤5000000000) (hnb:lb.length≤5000000000) :
 Calls Tryz.prog 90 #[.slice A la.length ca,.slice B lb.length cb] w fun e w'=>e=.returned (.int .i64 (O1 (val la) (val lb)))∧w=w':=by
 by_cases hlt:la.length<lb.length
 all_goals
  obtain⟨n,hn,h,g,o⟩:∃ n,Hid (n=if la.length<lb.length then lb.length else la.length)∧la.length≤n∧lb.length≤n∧n≤5000000000:=by
   first
    | exact⟨lb.length,(if_pos hlt).symm,by omega,by omega,by omega⟩
    | exact⟨la.length,(if_neg hlt).symm,by omega,by omega,by omega⟩
  go_enter Tryz.func90,Tryz.ntmps90;go_wp2
  go_loopw [5] (fun i wr=>CmpRInv la lb w n i wr) (fun i _=>(intOf i+1).toNat)
  case atStart=>exact⟨n,by omega,by rw[hn.out];first | rw[if_pos hlt] | rw[if_neg hlt],fun j hj=>by rw[a1l,a1l,a2j (by omega),a2j (by omega)],rfl⟩
  case round =>
   obtain⟨k,hk,rfl,hd,rfl⟩:=hrel
   rcases a3a k with h0 | h0
   · have hf:=a1k (yC (M1 la lb ha.dig hb.dig (fun j=>hd.out j (by omega))));subst h0;go_wp2;go_ret;refine⟨?_,rfl⟩;rw[hf.out];rfl
   · obtain⟨d,c⟩:∃ d,Hid (la.getD (k-1) 0=d):=⟨_,rfl⟩;obtain⟨f,b⟩:∃ f,Hid (lb.getD (k-1) 0=f):=⟨_,rfl⟩;have m:d<4294967296:=c.out ▸ ha.dig.getD _;have l:f<4294967296:=b.out ▸ hb.dig.getD _
     rcases Nat.lt_trichotomy d f with hdf | hdf | hdf
     · have hf:=a1k (dB (jI ha.dig hb.dig (k-1) (fun j hj=>hd.out j (by omega)) (by rw[c.out,b.out];exact hdf)));go_wp2_with fail;refine (z7 (i:=k-1) ha _ (by omega) (by omega) c).mono ?_;rintro e w1 ⟨rfl,rfl⟩;go_wp2_with fail;refine (z7 (i:=k-1) hb _ (by omega) (by omega) b).mono ?_;rintro e w1 ⟨rfl,rfl⟩;go_wp2;go_ret;refine⟨?_,rfl⟩;rw[hf.out];rfl
     · subst hdf;go_wp2_with fail;refine (z7 (i:=k-1) ha _ (by omega) (by omega) c).mono ?_;rintro e w1 ⟨rfl,rfl⟩;go_wp2_with fail;refine (z7 (i:=k-1) hb _ (by omega) (by omega) b).mono ?_;rintro e w1 ⟨rfl,rfl⟩;go_wp2_with fail;refine (z7 (i:=k-1) ha _ (by omega) (by omega) c).mono ?_;rintro e w1 ⟨rfl,rfl⟩;go_wp2_with fail;refine (z7 (i:=k-1) hb _ (by omega) (by omega) b).mono ?_;rintro e w1 ⟨rfl,rfl⟩;go_wp2;go_roundw
       case rel=>exact⟨k-1,by omega,by congr 1;omega,fun j hj=>by
        by_cases hj2:j=k-1
        · rw[hj2,c.out,b.out]
        · exact hd.out j (by omega),rfl⟩
       case measure=>simp[intOf];omega
     · have hf:=a1k (qN (jI hb.dig ha.dig (k-1) (fun j hj=>(hd.out j (by omega)).symm) (by rw[c.out,b.out];exact hdf)));go_wp2_with fail;refine (z7 (i:=k-1) ha _ (by omega) (by omega) c).mono ?_;rintro e w1 ⟨rfl,rfl⟩;go_wp2_with fail;refine (z7 (i:=k-1) hb _ (by omega) (by omega) b).mono ?_;rintro e w1 ⟨rfl,rfl⟩;go_wp2_with fail;refine (z7 (i:=k-1) ha _ (by omega) (by omega) c).mono ?_;rintro e w1 ⟨rfl,rfl⟩;go_wp2_with fail;refine (z7 (i:=k-1) hb _ (by omega) (by omega) b).mono ?_;rintro e w1 ⟨rfl,rfl⟩;go_wp2;go_ret;refine⟨?_,rfl⟩;rw[hf.out];rfl
abbrev a3z:=@bodyPost_ret
end Go.Proofs.YtjhkapjadfpimaaGreat
