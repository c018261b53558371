/- Contracts of functions, for the law. -/
import Derived.Test.YtjhkapjadfpimaaWAdd
namespace Go.Proofs.Ytjhkapjadfpimaa
set_option linter.unusedVariables false
set_option linter.unusedSimpArgs false
open Go.RowKit Plain
def RetDiv (m n k:Nat) (W:World) (e:Ending) (w':World):Prop :=
 ∃ A c q B d r,e=.returned (.tuple #[.slice A q.length c,.slice B r.length d,.int .i64 (if n=0 then 8 else 0)])∧Nv w' A c q∧Nv w' B d r ∧
  NatIs q (if n=0 then 0 else m / n)∧NatIs r (if n=0 then 0 else m % n)∧q.length≤k∧r.length≤k∧Below W.heap.size W w'
theorem nv_nil (w:World):Nv w none 0 []:=nv_nil' w
def BitsInv (d:Nat) (b:Value):Prop:=∃ s:Nat,b=.int .u64 (s:Int)∧s<32∧Hid (d*2 ^ s<4294967296)
theorem bits_next {d s:Nat}(hd:0<d) (h:d*2 ^ s<2147483648):s+1<32∧d*2 ^ (s+1)<4294967296:=by
 have h1:d*2 ^ (s+1)<4294967296:=by rw[Nat.pow_succ,←Nat.mul_assoc];omega
 refine⟨?_,h1⟩
 rcases Nat.lt_or_ge (s+1) 32 with h2 | h2
 · exact h2
 · have h3:2 ^ 32≤2 ^ (s+1):=Nat.pow_le_pow_right (by omega) h2;have h4:1*2 ^ (s+1)≤d*2 ^ (s+1):=Nat.mul_le_mul_right _ hd
   simp only[Nat.reducePow] at h3
   omega
theorem shl_u32 (d s:Nat) (h:d*2 ^ s<4294967296):∃ x:Nat,Hid (x=d*2 ^ s)∧x<4294967296∧IntKind.u32.wrap ((d:Int)*2 ^ s)=(x:Int):=by
 refine⟨_,rfl,h,?_⟩;have e:((d:Int)*2 ^ s)=((d*2 ^ s:Nat):Int):=by rw[Int.natCast_mul];rfl
 rw[e,IntKind.wrap_u32]
 generalize d*2 ^ s=x at *
 omega
def DivInv (U V m n:Nat) (w:World) (gu gq gv:Nat) (lv:List Nat) (i:Value) (wr:World):Prop :=
 ∃ (k:Nat) (us qs:List Nat),k≤m+1∧i=.int .i64 (k:Int)∧Hid (us.length=m+n+1)∧Dig us∧Hid (qs.length=k)∧Dig qs∧Row wr gu us∧Row wr gq (List.replicate (m+1-k) 0++qs) ∧
  Hid (U=val us+V*(pw (m+1-k)*val qs))∧Hid (val (us.drop (m+1-k))<V)∧Nv wr (some ⟨gv,0,none⟩) n lv∧Below w.heap.size w wr
theorem div_vlt {lv:List Nat}{V n:Nat}(h:NatIs lv V) (hl:lv.length=n):V<pw n:=by
 rw[←h.val,←hl];exact val_lt h.dig
theorem div_split (us:List Nat) (j n:Nat):us=us.take j++(us.drop j).take (n+1)++us.drop (j+n+1):=by
 rw[List.append_assoc,show j+n+1=j+(n+1) by omega,←List.drop_drop,List.take_append_drop,List.take_append_drop]
theorem div_step {us qs mid' lv:List Nat}{U V m n k q:Nat}{w wr w5:World}{gu gq gv:Nat}(hkm:k≤m) (husl:Hid (us.length=m+n+1)) (husd:Dig us) (hqsl:Hid (qs.length=k)) (hqsd:Dig qs) (hml:Hid (mid'.length=n+1)) (hmd:Dig mid')
 (hmv:Hid (val mid'=val ((us.drop (m-k)).take (n+1)) % val lv)) (hmid:Hid (val ((us.drop (m-k)).take (n+1))<4294967296*V∧val (us.drop (m-k+n+1))=0)) (hVp:Hid (V<pw n)) (nv4:NatIs lv V) (hq:Hid (q=val ((us.drop (m-k)).take (n+1)) / val lv))
 (hrq5:Row w5 gq (List.replicate (m+1-k) 0++qs)) (hru5:Row w5 gu (us.take (m-k)++mid'++us.drop (m-k+n+1))) (hU:Hid (U=val us+V*(pw (m+1-k)*val qs))) (hnv:Nv wr (some ⟨gv,0,none⟩) n lv) (hgr:wr.grownBy w5 (some gu)) (hbel:Below w.heap.size w wr)
 (hqne:gq≠gu) (hgne:gv≠gu) (xq xi:Int) (h1:xq=(q:Int)) (h2:xi=((k+1:Nat):Int)) (hpos:gq≠gv∧w.heap.size≤gu∧w.heap.size≤gq∧0<V) :
 DivInv U V m n w gu gq gv lv (.int .i64 xi) (w5.setCell ⟨gq,m-k,none⟩ (.int .u32 xq)):=by
 obtain⟨hp1,hp2,hp3,hp4⟩:=hpos
 have hqb:q<4294967296:=by
  rw[hq.out,nv4.val,Nat.div_lt_iff_lt_mul hp4];exact hmid.out.1
 have hr:=div_round (us:=us) (mid':=mid') (n:=n) (j:=m-k) (V:=V) (k:=m+1-k) (qs:=qs) (U:=U) (by rw[husl.out];omega) hmid.out.2 (by rw[hmv.out,nv4.val]) hml.out (by omega) hU.out;have hmlt:val mid'<V:=by rw[hmv.out,nv4.val];exact Nat.mod_lt _ hp4
 refine⟨k+1,us.take (m-k)++mid'++us.drop (m-k+n+1),q::qs,by omega,by rw[h2],?_,((husd.take _).append hmd).append (husd.drop _),?_,Dig.cons hqb hqsd,hru5.far (fun e=>hqne e.symm) _,?_,?_,?_,nv_set (nv_grown hnv hgr hgne) hp1.symm _ _,?_⟩
 · show _=_
   rw[List.length_append,List.length_append,List.length_take,List.length_drop,husl.out,hml.out];omega
 · show (q::qs).length=k+1
   rw[List.length_cons,hqsl.out]
 · have e1:m+1-k=m-k+1:=by omega
   have e2:m+1-(k+1)=m-k:=by omega
   rw[e2,h1];rw[e1] at hrq5;exact (hrq5.set (m-k) q).eq (set_zero_last _ _ _)
 · show U=_
   rw[show m+1-(k+1)=m-k by omega,hq.out,nv4.val];exact hr.1
 · show _<V
   rw[show m+1-(k+1)=m-k by omega,hr.2];exact hmlt
 · exact (hbel.trans ⟨hgr.os,hgr.tape,hgr.output,hgr.size,fun i hi=>hgr.block i (Nat.lt_of_lt_of_le hi hbel.size) (by intro e;injection e with e;omega)⟩).setCell hp3 _
theorem div_fin {us qs lu:List Nat}{V A B s n m:Nat}(hU:val lu=val us+V*(pw (m+1-(m+1))*val qs)) (hd:val (us.drop (m+1-(m+1)))<V) (hA:val lu=A*2 ^ s) (hB:V=B*2 ^ s) (hV:0<V) (hVn:V<pw n) (hud:Dig us) :
 val qs=A / B∧val us=A % B*2 ^ s∧val (us.take n)=A % B*2 ^ s∧us.getD n 0=0:=by
 rw[Nat.sub_self] at hU hd
 simp only[pw,List.drop_zero,Nat.one_mul] at hU hd
 have h1:val lu / V=val qs:=by rw[hU,Nat.add_mul_div_left _ _ hV,Nat.div_eq_of_lt hd,Nat.zero_add]
 have h2:val lu % V=val us:=by rw[hU,Nat.add_mul_mod_self_left,Nat.mod_eq_of_lt hd]
 have h3:val qs=A / B:=by rw[←h1,hA,hB,Nat.mul_div_mul_right _ _ (Nat.two_pow_pos s)]
 have h4:val us=A % B*2 ^ s:=by rw[←h2,hA,hB,Nat.mul_mod_mul_right]
 have h5:val us<pw n:=by omega
 refine⟨h3,h4,?_,?_⟩
 · rcases Nat.lt_or_ge n us.length with hl | hl
   · have h6:=val_take_drop us n (by omega)
     rcases Nat.eq_zero_or_pos (val (us.drop n)) with h7 | h7
     · rw[h7] at h6;omega
     · have:pw n*1≤pw n*val (us.drop n):=Nat.mul_le_mul_left _ h7;omega
   · rw[val_take_ge _ _ hl];exact h4
 · rcases Nat.lt_or_ge n us.length with hl | hl
   · rcases Nat.eq_zero_or_pos (us.getD n 0) with h7 | h7
     · exact h7
     · have h6:=val_split us n hl;have:pw n*1≤pw n*us.getD n 0:=Nat.mul_le_mul_left _ h7;omega
   · rw[List.getD_eq_getElem?_getD,List.getElem?_eq_none hl];rfl
theorem un_fin {us rs:List Nat}{n s R:Nat}(h:2 ^ s*val rs+us.getD 0 0 % 2 ^ s=val (us.take n)+pw n*(us.getD n 0 % 2 ^ s)) (h1:val (us.take n)=R*2 ^ s) (h2:us.getD n 0=0):val rs=R:=by
 rw[h2,Nat.zero_mod] at h;exact unshift_end (Nat.mod_lt _ (Nat.two_pow_pos s)) h h1
theorem un_cell {w:World}{g k n:Nat}{rs:List Nat}(h:Row w g (rs++List.replicate (n-k) 0)) (hl:Hid (rs.length=k)) (hk:k<n):w.cell? ⟨g,k,none⟩=some (.int .u32 (0:Int)):=by
 have:=h.cell (i:=k) (by simp[hl.out];omega);rw[this,List.getD_eq_getElem?_getD,List.getElem?_append_right (by rw[hl.out];omega),hl.out,rep_succ hk]
 simp
def UnInv (us qs:List Nat) (n s:Nat) (w:World) (gu gq gr:Nat) (i:Value) (wr:World):Prop :=
 ∃ (k:Nat) (rs:List Nat),k≤n∧i=.int .i64 (k:Int)∧Hid (rs.length=k)∧Dig rs∧Row wr gr (rs++List.replicate (n-k) 0)∧Row wr gu us∧Row wr gq qs ∧
  Hid (2 ^ s*val rs+us.getD 0 0 % 2 ^ s=val (us.take k)+pw k*(us.getD k 0 % 2 ^ s))∧Below w.heap.size w wr
theorem un_shr (u s:Nat) (hu:u<4294967296) (hs:s<32):∃ r0:Nat,Hid (r0=u / 2 ^ s)∧r0<2 ^ (32-s)∧((u:Int) / 2 ^ s)=(r0:Int):=by
 refine⟨_,rfl,?_,?_⟩
 · rw[Nat.div_lt_iff_lt_mul (Nat.two_pow_pos s),←Nat.pow_add,show 32-s+s=32 by omega];exact hu
 · rw[Int.natCast_ediv];rfl
theorem un_shl (u r0 s:Nat) (hs:s<32) (hs0:0<s) (hr:r0<2 ^ (32-s)):∃ y:Nat,Hid (y=u % 2 ^ s*2 ^ (32-s))∧r0+y<4294967296∧IntKind.u32.wrap ((u:Int)*2 ^ (32-s))=(y:Int)∧bits .or .u32 (r0:Int) (y:Int)=((r0+y:Nat):Int):=by
 have e:(4294967296:Nat)=2 ^ s*2 ^ (32-s):=by rw[←Nat.pow_add,show s+(32-s)=32 by omega]
 have hm:=Nat.mod_lt u (Nat.two_pow_pos s)
 have hy:r0+u % 2 ^ s*2 ^ (32-s)<4294967296:=by
  rw[e];have h1:(u % 2 ^ s+1)*2 ^ (32-s)≤2 ^ s*2 ^ (32-s):=Nat.mul_le_mul_right _ hm;rw[Nat.add_mul,Nat.one_mul] at h1;omega
 refine⟨_,rfl,hy,?_,?_⟩
 · have e2:((u:Int)*2 ^ (32-s))=((u*2 ^ (32-s):Nat):Int):=by rw[Int.natCast_mul];rfl
   have e3:u*2 ^ (32-s) % 4294967296=u % 2 ^ s*2 ^ (32-s):=by rw[e,Nat.mul_mod_mul_right]
   rw[e2,IntKind.wrap_u32,←e3]
   rfl
 · have h1:r0<4294967296:=by omega
   have h2:=u32_or_nat r0 (u % 2 ^ s*2 ^ (32-s)) h1 (by omega);rw[h2,Nat.or_comm,nat_join (32-s) _ _ (Nat.mul_mod_left _ _) hr,Nat.add_comm]
theorem un_drew {us qs:List Nat}{n s gu gq gr:Nat}{w wr:World}{i:Value}(h:UnInv us qs n s w gu gq gr i wr):UnInv us qs n s w gu gq gr i wr.drew:=by
 obtain⟨k,rs,h1,h2,h3,h4,h5,h6,h7,h8,h9⟩:=h;exact⟨k,rs,h1,h2,h3,h4,h5,h6,h7,h8,h9.drew⟩
theorem un_step {us qs rs:List Nat}{n s k u u1 r0:Nat}{w wf:World}{gu gq gr:Nat}(hkn:k<n) (hrsl:Hid (rs.length=k)) (hrsd:Dig rs) (hru:Row wf gu us) (hrq:Row wf gq qs) (y:Nat) (hrr:Row wf gr (rs++[r0+y]++List.replicate (n-(k+1)) 0))
 (hval:Hid (2 ^ s*val rs+us.getD 0 0 % 2 ^ s=val (us.take k)+pw k*(us.getD k 0 % 2 ^ s))) (hbel:Below w.heap.size w wf) (hs:s<32) (hgu:Hid (us.getD k 0=u)) (hgu1:Hid (us.getD (k+1) 0=u1))
 (hr0:Hid (r0=u / 2 ^ s)) (hr0b:r0<2 ^ (32-s)) (hy:y=u1 % 2 ^ s*2 ^ (32-s)) (i':Int) (hi':i'=((k+1:Nat):Int)) :
 UnInv us qs n s w gu gq gr (.int .i64 i') wf:=by
 have hb:r0+y<4294967296:=by
  have e:(4294967296:Nat)=2 ^ s*2 ^ (32-s):=by rw[←Nat.pow_add,show s+(32-s)=32 by omega]
  have hm:=Nat.mod_lt u1 (Nat.two_pow_pos s);rw[e,hy];have h1:(u1 % 2 ^ s+1)*2 ^ (32-s)≤2 ^ s*2 ^ (32-s):=Nat.mul_le_mul_right _ hm;rw[Nat.add_mul,Nat.one_mul] at h1;omega
 refine⟨k+1,rs++[r0+y],by omega,by rw[hi'],?_,hrsd.snoc hb,hrr,hru,hrq,?_,hbel⟩
 · show (rs++[_]).length=k+1
   rw[List.length_append,hrsl.out];rfl
 · show _=_
   refine unshift_step hs hgu.out hrsl.out rfl ?_ (us.getD (k+1) 0 % 2 ^ s) (r0+y) (by rw[hr0.out,hy,hgu1.out]);rw[←hgu.out];exact hval.out
theorem un_put {rs:List Nat}{n k x:Nat}{wr:World}{gr:Nat}(hkn:k<n) (hrsl:Hid (rs.length=k)) (hrr:Row wr gr (rs++List.replicate (n-k) 0)) (v:Int) (hv:v=(x:Int)):Row (wr.setCell ⟨gr,k,none⟩ (.int .u32 v)) gr (rs++[x]++List.replicate (n-(k+1)) 0):=by
 rw[rep_succ hkn] at hrr;exact hrr.push hrsl.out v hv
theorem un_put2 {rs z:List Nat}{k x y:Nat}{wr:World}{gr:Nat}(hrsl:Hid (rs.length=k)) (hrr:Row wr gr (rs++[y]++z)) (v:Int) (hv:v=(x:Int)):Row (wr.setCell ⟨gr,k,none⟩ (.int .u32 v)) gr (rs++[x]++z):=by
 have h:Row wr gr (rs++y::z):=hrr.eq (by simp);exact h.push hrsl.out v hv
set_option maxRecDepth 100000 in
set_option maxHeartbeats 1000000 in
theorem divMod_any {A B:Option Addr}{ca cb:Nat}{la lb:List Nat}{w:World}(ha:Nv w A ca la) (hb:Nv w B cb lb) (hna:la.length≤500000000) (hnb:lb.length≤500000000) :
 Calls Try.prog 91 #[.slice A la.length ca,.slice B lb.length cb] w (RetDiv (val la) (val lb) (la.length+1) w):=by
 go_enter Try.func91,Try.ntmps91;go_wp2_with fail;refine (trim_nv ha).mono ?_;rintro e w' ⟨l1,rfl,h1,n1,b1,rfl⟩;go_wp2_with fail;refine (trim_nv hb).mono ?_;rintro e w' ⟨l2,rfl,h2,n2,b2,rfl⟩;clear ha hb;have hg1:=h1.big;have hg2:=h2.big
 by_cases hz:l2=[]
 · have hv:Hid (val lb=0):=by subst hz;exact n2.val.symm
   subst hz;go_wp2;refine bodyPost_ret (results_tmp3 rfl _ _ _) rfl ?_;refine⟨none,0,[],none,0,[],?_,nv_nil _,nv_nil _,?_,?_,by simp,by simp,Below.refl _ _⟩
   · rw[if_pos hv.out];rfl
   · rw[if_pos hv.out];exact NatIs.nil
   · rw[if_pos hv.out];exact NatIs.nil
 have hv:Hid (val lb≠0):=fun e=>hz (n2.zero_iff.2 e);have hlen:0<l2.length:=List.length_pos_iff.2 hz;have hne0:(((l2.length:Nat):Int) == 0)=false:=by rw[beq_eq_false_iff_ne];omega
 clear hz;go_wp2_with fail;refine (cmp_any h1 h2).mono ?_;rintro e w1 ⟨rfl,hb1⟩;have h1':=h1.below hb1;have h2':=h2.below hb1
 by_cases hlt:val la<val lb
 · have hc:=Lib.hid (show cmpI (val l1) (val l2)=-1 from cmpI_lt (by rw[n1.val,n2.val];exact hlt));rw[hc.out];clear hc;go_wp2_with fail;refine (add_any _ none _ 0 l1 [] _ h1' (nv_nil _) (by omega) (by simp)).mono ?_;rintro e w2 ⟨A2,c2,r,rfl,hr,nr,hrl,hb2⟩;go_wp2;refine bodyPost_ret (results_tmp3 rfl _ _ _) rfl ?_;refine⟨none,0,[],A2,c2,r,?_,nv_nil _,hr,?_,?_,by simp,by simp at hrl;omega,hb1.trans (hb2.mono hb1.size)⟩
   · rw[if_neg hv.out];rfl
   · rw[if_neg hv.out,Nat.div_eq_of_lt hlt];exact NatIs.nil
   · rw[if_neg hv.out,Nat.mod_eq_of_lt hlt,←n1.val];exact nr
 have hc:0≤cmpI (val l1) (val l2):=by
  have h:=cmpI_neg_iff (val l1) (val l2);rw[n1.val,n2.val] at *;omega
 have hc2:=cmpI_bd (val l1) (val l2);obtain⟨c,hcc⟩:∃ c,c=cmpI (val l1) (val l2):=⟨_,rfl⟩;rw[←hcc] at hc hc2 ⊢;clear hcc;have hlt':=Lib.hid hlt;clear hlt
 by_cases h1l:l2.length=1
 · obtain⟨d,rfl⟩:∃ d,l2=[d]:=by
    match l2,h1l with
    | [d],_=>exact⟨d,rfl⟩
   obtain⟨a,d',rfl,hab,hac,hdd,hgd⟩:=h2'.at (k:=0) (by simp);have hac':=cell0 hac
   have hd:Hid (val lb=d'):=by
    have e1:=hgd.out;have e2:=n2.val
    simp only[List.getD_cons_zero,val] at e1 e2
    show val lb=d'
    omega
   have hd0:0<d':=by have:=hv.out;rw[hd.out] at this;omega
   go_wp2_with fail;refine (small_any _ _ d' l1 _ h1' (by omega) hd0 hdd).mono ?_;rintro e w2 ⟨A2,c2,q,rfl,hq,nq,hql,hb2,-⟩;have hrb:val l1 % d'<d':=Nat.mod_lt _ hd0;obtain⟨r,hr⟩:∃ r,Hid (r=val l1 % d'):=⟨_,rfl⟩;rw[←hr.out] at hrb ⊢;have hrp:r<pw 2:=by simp only[pw];omega
   have hrp':=Lib.hid hrp;clear hrp;go_wp2_with fail;refine (fromUint_any r _ hrp'.out).mono ?_;rintro e w3 ⟨A3,c3,l3,rfl,hr3,nr3,hrl3,hb3⟩;go_wp2;refine bodyPost_ret (results_tmp3 rfl _ _ _) rfl ?_;refine⟨A2,c2,q,A3,c3,l3,?_,hq.below hb3,hr3,?_,?_,by omega,?_,hb1.trans ((hb2.mono hb1.size).trans (hb3.mono (by have:=hb2.size;have:=hb1.size;omega)))⟩
   · rw[if_neg hv.out];rfl
   · rw[if_neg hv.out,hd.out,←n1.val];exact nq
   · rw[if_neg hv.out,hd.out,←n1.val,←hr.out];exact nr3
   · have:=length_le_of_lt (k:=1) nr3.canon (by rw[nr3.val,pw_one];omega);omega
 have hn2:2≤l2.length:=by omega
 have hne1:(((l2.length:Nat):Int) == 1)=false:=by rw[beq_eq_false_iff_ne];omega
 clear h1l;obtain⟨a,d,rfl,hab,hac,hdd,hgd⟩:=h2'.at (k:=l2.length-1) (by omega)
 have hd0:0<d:=by
  rcases (canon_iff l2).1 n2.canon with h | h
  · omega
  · rw[hgd.out] at h;omega
 go_wp2
 go_loop [9] (fun b=>BitsInv d b) (fun b=>32-(intOf b).toNat)
 case atStart=>exact⟨0,rfl,by omega,by show d*2 ^ 0<_;omega⟩
 case round =>
  obtain⟨s,rfl,hs,hds⟩:=hrel;obtain⟨x,hx,hxb,hw⟩:=shl_u32 d s hds.out
  by_cases hlo:x<2147483648
  · have hnx:=Lib.hid (bits_next hd0 (by rw[←hx.out];exact hlo));have hlo':decide ((x:Int)<2147483648)=true:=decide_eq_true (by omega);clear hlo;go_wp2
    go_round
    case rel=>exact⟨s+1,rfl,hnx.out.1,hnx.out.2⟩
    case measure=>simp[intOf];omega
  · have hlo':decide ((x:Int)<2147483648)=false:=decide_eq_false (by omega);have hlo2:=Lib.hid (show 2147483648≤x by omega);clear hlo;go_wp2_with fail;refine (shifted_any _ _ s l1 _ h1' (by omega) hs).mono ?_;rintro e w2 ⟨lu,rfl,hru,hlu,hud,hvu,hb2⟩;have h2'':=h2'.below hb2;go_wp2_with fail;refine (shifted_any _ _ s l2 _ h2'' (by omega) hs).mono ?_;rintro e w3 ⟨lv0,rfl,hrv,hlv0,hvd,hvv,hb3⟩;go_wp2_with fail;refine (trim_row hrv hlv0.out hvd (by omega)).mono ?_;rintro e w4 ⟨lv,rfl,hv4,nv4,hlv4,rfl⟩;rw[hvv.out] at nv4;have hnorm:=Lib.hid (norm_of rfl hn2 h2.dig hgd.out hs hx.out hlo2.out hxb nv4)
    have hll:l2.length≤l1.length:=by
     rcases Nat.lt_or_ge l1.length l2.length with h | h
     · have:=val_lt_of_len h1.dig n2.canon h;rw[n1.val,n2.val] at this;exact absurd this hlt'.out
     · exact h
    obtain⟨m,hm⟩:∃ m,Hid (l1.length=m+l2.length):=⟨l1.length-l2.length,by show _=_;omega⟩;have hst:=Lib.hid (div_start h1.dig n2.canon rfl hn2 hm.out hvu.out (by rw[hlu.out,hm.out]) rfl);have hru4:=hru.keep hb3 hru.lt;have hgne:w2.heap.size≠w1.heap.size:=by have:=hb2.size;have:=hru.lt;omega
    have hmk:=make_u32 w3 (m+1) .i64 ((l1.length:Int)-(l2.length:Int)+1) (by rw[hm.out];omega) (by have:=hm.out;omega);go_wp2;obtain⟨n,hn⟩:∃ n,Hid (l2.length=n):=⟨_,rfl⟩;rw[hnorm.out.1,hm.out,hn.out];rw[hnorm.out.1,hn.out] at hv4;rw[hn.out] at hn2;have hqne:w3.heap.size≠w1.heap.size:=by have:=hb3.size;have:=hb2.size;have:=hru.lt;have:=hrv.lt;omega
    have hpos:w3.heap.size≠w2.heap.size∧w1.heap.size≤w1.heap.size∧w1.heap.size≤w3.heap.size∧0<val l2*2 ^ s:=by
     have:=hb3.size;have:=hb2.size;have:=hrv.lt;refine⟨by omega,by omega,by omega,Nat.mul_pos ?_ (Nat.two_pow_pos s)⟩;rw[n2.val];have:=hv.out;omega
    have hpos':=Lib.hid hpos;clear hpos;have hmn:m+n≤500000000:=by have:=hm.out;rw[hn.out] at this;omega
    simp only[Int.natCast_add,Int.add_sub_cancel]
    clear hw hlo'
    go_loopw [75] (fun i wr=>DivInv (val lu) (val l2*2 ^ s) m n w1 w1.heap.size w3.heap.size w2.heap.size lv i wr) (fun i _=>m+1-(intOf i).toNat)
    case atStart =>
     have hb34:Below w1.heap.size w1 w3:=hb2.trans (hb3.mono hb2.size);have hkeep:Below w3.heap.size w3 (w3.alloc (.cells (u32s (List.replicate (m+1) 0)).toArray 72)):=(Below.refl _ _).alloc (Nat.le_refl _) _;exact⟨0,lu,[],by omega,rfl,by show _=_;rw[hlu.out,hm.out,hn.out],hud,rfl,Dig.nil,hru4.keep hkeep hru4.lt,(Row.new _ _).eq (by simp),by show _=_;simp[val],hst.out,hv4.below hkeep,hb34.trans (hkeep.mono hb34.size)⟩
    case round =>
     obtain⟨k,us,qs,hk,rfl,husl,husd,hqsl,hqsd,hru,hrq,hU,hdr,hnv,hbel⟩:=hrel
     by_cases hkm:k≤m
     · have hkd:decide ((k:Int)<(m:Int)+1)=true:=decide_eq_true (by omega);have hVp:=Lib.hid (div_vlt nv4 (hnorm.out.1.trans hn.out));have hmid:=Lib.hid (div_mid (j:=m-k) (n:=n) husd (by rw[husl.out];omega) hVp.out (by rw[show m-k+1=m+1-k by omega];exact hdr.out));have hsp:=hru.eq (div_split us (m-k) n);go_wp2_with fail;rw[show m-k+n+1-(m-k)=n+1 by omega]
       refine (digit_any (lv:=lv) hsp (by show _=_;rw[List.length_take,husl.out];omega) (by show _=_;rw[List.length_take,List.length_drop,husl.out];omega) (hnorm.out.1.trans hn.out) hn2 (by omega) (by omega) hnv hgne ((husd.drop _).take _)
        (by rw[←hn.out];exact hnorm.out.2) (by rw[nv4.val];exact hmid.out.1)).mono ?_
       rintro e w5 ⟨mid',rfl,hru5,hml,hmd,hmv,hgr⟩;obtain⟨q,hq⟩:∃ q,Hid (q=val ((us.drop (m-k)).take (n+1)) / val lv):=⟨_,rfl⟩;rw[←hq.out];have hrq5:Row w5 w3.heap.size (List.replicate (m+1-k) 0++qs):=(hgr.block _ hrq.lt (by intro e;injection e with e;exact hqne e)).trans hrq;have hf:=hrq5.free (m-k);obtain⟨d0,hc0,_,_⟩:=hrq5.cell' (i:=m-k) ((Dig.replicate _).append hqsd) (by rw[List.length_append,List.length_replicate,hqsl.out];omega);go_wp2;go_roundw
       case rel=>exact div_step hkm husl husd hqsl hqsd hml hmd hmv hmid hVp nv4 hq hrq5 hru5 hU hnv hgr hbel hqne hgne _ _ rfl (by omega) hpos'.out
       case measure=>simp[intOf];omega
     · obtain rfl:k=m+1:=by omega
       have hkd:decide ((m:Int)+1<(m:Int)+1)=false:=decide_eq_false (by omega);have hfin:=Lib.hid (div_fin hU.out hdr.out (V:=val l2*2 ^ s) (A:=val l1) (B:=val l2) (s:=s) hvu.out rfl hpos'.out.2.2.2 (div_vlt nv4 (hnorm.out.1.trans hn.out)) husd);have hrq2:Row wr w3.heap.size qs:=hrq.eq (by simp);have hmk2:=make_u32 wr n .i64 (n:Int) rfl (by omega);have hgu:w1.heap.size<wr.heap.size:=hru.lt;have hgq:w3.heap.size<wr.heap.size:=hrq2.lt;go_wp2;obtain⟨wq,rfl⟩:∃ wq:World,wq=wr:=⟨_,rfl⟩;have hgru:wq.heap.size≠w1.heap.size:=by omega
       have hgrq:wq.heap.size≠w3.heap.size:=by omega
       have hgrb:w1.heap.size≤wq.heap.size:=hbel.size
       go_loopw [101] (fun i wx=>UnInv us qs n s w1 w1.heap.size w3.heap.size wq.heap.size i wx) (fun i _=>n-(intOf i).toNat)
       case atStart=>exact⟨0,[],by omega,rfl,rfl,Dig.nil,(Row.new _ _).eq (by simp),hru.keep ((Below.refl wq.heap.size wq).alloc (Nat.le_refl _) _) hru.lt,hrq2.keep ((Below.refl wq.heap.size wq).alloc (Nat.le_refl _) _) hrq2.lt,by show _=_;simp[val,pw],hbel.alloc hbel.size _⟩
       case round =>
        obtain⟨k,rs,hk,rfl,hrsl,hrsd,hrr,hru,hrq,hval,hbel⟩:=hrel
        by_cases hkn:k<n
        · obtain⟨u,hcu,hud,hgu⟩:=hru.cell' (i:=k) husd (by rw[husl.out];omega);obtain⟨u1,hcu1,hud1,hgu1⟩:=hru.cell' (i:=k+1) husd (by rw[husl.out];omega);have hf:=hrr.free k;have hc0:_:=un_cell hrr hrsl hkn;obtain⟨r0,hr0,hr0b,he0⟩:=un_shr u s hud hs
          by_cases hs0:s=0
          · have hs0':decide (0<s)=false:=decide_eq_false (by omega);go_wp2;go_roundw
            case rel=>exact un_step hkn hrsl hrsd (hru.far hgru.symm _) (hrq.far hgrq.symm _) 0 (un_put hkn hrsl hrr _ (by have:=hr0.out;rw[hs0,Nat.pow_zero,Nat.div_one] at this;omega)) hval (hbel.setCell hgrb _) hs hgu hgu1 hr0 hr0b (by rw[hs0];omega) _ (by omega)
            case measure=>simp[intOf];omega
          · have hs0':decide (0<s)=true:=decide_eq_true (by omega);obtain⟨y,hy,hyb,hws,hor⟩:=un_shl u1 r0 s hs (by omega) hr0b;have hcr:(wr.setCell ⟨wq.heap.size,k,none⟩ (.int .u32 (r0:Int))).cell? ⟨wq.heap.size,k,none⟩=some (.int .u32 (r0:Int)):=World.cell?_setCell_same _ _ _ hc0;have hcu2:(wr.setCell ⟨wq.heap.size,k,none⟩ (.int .u32 (r0:Int))).cell? ⟨w1.heap.size,k+1,none⟩=some (.int .u32 (u1:Int)):=(World.cell?_setCell_other _ _ _ _ (by intro e;injection e with e;exact hgru e)).trans hcu1;have hfr:(wr.setCell ⟨wq.heap.size,k,none⟩ (.int .u32 (r0:Int))).frozen? ⟨wq.heap.size,k,none⟩=false:=(World.frozen?_setCell _ _ _ _).trans hf;go_wp2
            go_region
            go_wp2;go_roundw
            case rel=>exact un_drew (un_step hkn hrsl hrsd ((hru.far hgru.symm _).far hgru.symm _) ((hrq.far hgrq.symm _).far hgrq.symm _) y (un_put2 hrsl (un_put hkn hrsl hrr _ rfl) _ (by omega)) hval ((hbel.setCell hgrb _).setCell hgrb _) hs hgu hgu1 hr0 hr0b hy.out _ (by omega))
            case measure=>simp[intOf];omega
        · obtain rfl:k=n:=by omega
          have hrr2:Row wr wq.heap.size rs:=hrr.eq (by simp);have hfin2:=Lib.hid (un_fin hval.out hfin.out.2.2.1 hfin.out.2.2.2);have hq3:=Lib.hid hfin.out.1;have hlq:=Lib.hid (show qs.length=m+1 from hqsl.out);go_wp2_with fail;refine (trim_row hrq hlq.out hqsd (by omega)).mono ?_;rintro e w8 ⟨q',rfl,hq1,hq2,hq4,rfl⟩;go_wp2_with fail;refine (trim_row hrr2 hrsl.out hrsd (by omega)).mono ?_;rintro e w8 ⟨r',rfl,hr1,hr2,hr4,rfl⟩;go_wp2;refine bodyPost_ret (results_tmp3 rfl _ _ _) rfl ?_;refine⟨_,_,q',_,_,r',?_,hq1,hr1,?_,?_,?_,?_,hb1.trans (hbel.mono hb1.size)⟩
          · rw[if_neg hv.out];rfl
          · rw[if_neg hv.out,←n1.val,←n2.val,←hq3.out];exact hq2
          · rw[if_neg hv.out,←n1.val,←n2.val,←hfin2.out];exact hr2
          · have:=hm.out;omega
          · have:=hm.out;rw[hn.out] at this;omega
def GcdInv (G N:Nat) (w:World) (g:Nat) (a b:Value) (wr:World):Prop :=
 ∃ A ca la B cb lb x y,a=.slice A la.length ca∧b=.slice B lb.length cb∧Nv wr A ca la∧Nv wr B cb lb∧NatIs la x∧NatIs lb y∧g=y∧Hid (Nat.gcd x y=G)∧la.length≤N∧lb.length≤N∧Below w.heap.size w wr
theorem gcd_step (x y:Nat):Nat.gcd y (x % y)=Nat.gcd x y:=by
 rw[Nat.gcd_comm x y,Nat.gcd_rec y x,Nat.gcd_comm]
set_option maxRecDepth 100000 in
set_option maxHeartbeats 1000000 in
theorem gcd_any {A B:Option Addr}{ca cb:Nat}{la lb:List Nat}{w:World}(ha:Nv w A ca la) (hb:Nv w B cb lb) (hna:la.length≤400000000) (hnb:lb.length≤400000000) :
 Calls Try.prog 90 #[.slice A la.length ca,.slice B lb.length cb] w (RetNat (Nat.gcd (val la) (val lb)) 400000001 w):=by
 go_enter Try.func90,Try.ntmps90;go_wp2_with fail;refine (add_any _ none _ 0 la [] _ ha (nv_nil _) (by omega) (by simp)).mono ?_;rintro e w1 ⟨A1,c1,l1,rfl,h1,n1,m1,b1⟩;go_wp2_with fail;refine (add_any _ none _ 0 lb [] _ (hb.below b1) (nv_nil _) (by omega) (by simp)).mono ?_;rintro e w2 ⟨A2,c2,l2,rfl,h2,n2,m2,b2⟩;go_wp2
 go_loopg [0,1] (val lb) (fun g a b wr=>GcdInv (Nat.gcd (val la) (val lb)) 400000001 w g a b wr)
 case atStart=>exact⟨A1,c1,l1,A2,c2,l2,val la,val lb,rfl,rfl,h1.below b2,h2,n1,n2,rfl,rfl,by simp at m1;omega,by simp at m2;omega,b1.trans (b2.mono b1.size)⟩
 case round =>
  obtain⟨A,ca,la',B,cb,lb',x,y,rfl,rfl,h1,h2,n1,n2,rfl,hG,m1,m2,hbel⟩:=hrel;have hg2:=h2.big
  by_cases hz:lb'.length=0
  · have hy:Hid (gk=0):=by
     have:lb'=[]:=List.eq_nil_of_length_eq_zero hz
     show gk=0
     exact (n2.zero_iff).1 this
    have hd:decide (0<lb'.length)=false:=decide_eq_false (by omega);have hG2:=Lib.hid (show x=Nat.gcd (val la) (val lb) by rw[←hG.out,hy.out,Nat.gcd_zero_right]);go_wp2;go_ret;exact⟨A,ca,la',rfl,h1,hG2.out ▸ n1,m1,hbel⟩
  · have hy:Hid (gk≠0):=fun e=>hz (by rw[(n2.zero_iff).2 e];rfl);have hd:decide (0<lb'.length)=true:=decide_eq_true (by omega);clear hz;go_wp2_with fail;refine (divMod_any h1 h2 (by omega) (by omega)).mono ?_;rintro e w3 ⟨A3,c3,q,B3,d3,r,rfl,hq,hr,nq,nr,lq,lr,b3⟩;rw[n2.val,if_neg hy.out] at nr;rw[n2.val,if_neg hy.out];rw[n1.val] at nr;have hlt:=Lib.hid (Nat.mod_lt x (Nat.pos_of_ne_zero hy.out))
    have hrl:=Lib.hid (show r.length≤400000001 from Nat.le_trans (length_le_of_lt nr.canon (by
     have h:=val_lt n2.dig;rw[n2.val] at h;rw[nr.val];exact Nat.lt_trans hlt.out h)) m2)
    go_wp2
    go_roundg (x % gk)
    case measure=>exact hlt.out
    case rel=>exact⟨B,cb,lb',B3,d3,r,gk,x % gk,rfl,rfl,h2.below b3,hr,n2,nr,rfl,by show Nat.gcd _ _=_;rw[gcd_step];exact hG.out,m2,hrl.out,hbel.trans (b3.mono hbel.size)⟩
def bitLen (n:Nat):Nat:=if n=0 then 0 else n.log2+1
theorem bitLen_eq {n b:Nat}(h1:2 ^ b≤n) (h2:n<2 ^ (b+1)):bitLen n=b+1:=by
 have hn:n≠0:=by have:=Nat.two_pow_pos b;omega
 unfold bitLen;rw[if_neg hn];have h3:=(Nat.le_log2 hn).2 h1;have h4:=(Nat.log2_lt hn).2 h2;omega
end Go.Proofs.Ytjhkapjadfpimaa
