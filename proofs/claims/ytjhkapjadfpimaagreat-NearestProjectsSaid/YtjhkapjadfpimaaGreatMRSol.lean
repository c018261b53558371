/- Contracts of functions, for the law. -/
import Derived.Test.YtjhkapjadfpimaaGreatMNew
namespace Go.Proofs.YtjhkapjadfpimaaGreat
set_option linter.unusedVariables false
set_option linter.unusedSimpArgs false
open Go.RowKit Plain
attribute [local go_sem ↓] Go.wp_at_zero Go.wp_at_succ
set_option maxRecDepth 100000
set_option maxHeartbeats 40000000
def vY (ps:List (Nat × Nat)) (j:Nat):Option Nat:=(ps.find? fun p=>decide (p.1=j)).map Prod.snd
theorem xval_atO (ps:List (Nat × Nat)) (f:Nat→Rat) (j:Nat):R9 ps f j=match vY ps j with | some i=>f i | none=>0:=by
 induction ps with
 | nil=>rfl
 | cons p ps ih =>
  unfold vY;rw[List.find?_cons]
  by_cases h:p.1=j
  · rw[a1w h];simp[R9,h]
  · rw[a1v h];simp only[R9,if_neg h];exact ih
theorem tK {ps:List (Nat × Nat)}{j:Nat}(h:∀ p∈ps,p.1≠j):vY ps j=none:=by
 unfold vY;rw[List.find?_eq_none.2 (fun p hp=>by simpa using h p hp)];rfl
theorem atO_snoc (ps:List (Nat × Nat)) (k i j:Nat) (hj:j≠k):vY (ps++[(k,i)]) j=vY ps j:=by
 unfold vY;rw[List.find?_append]
 cases ps.find? fun p=>decide (p.1=j) with
 | some p=>rfl
 | none=>simp[List.find?_cons,Ne.symm hj]
theorem atO_new {ps:List (Nat × Nat)}{k i:Nat}(h:∀ p∈ps,p.1≠k):vY (ps++[(k,i)]) k=some i:=by
 have h0:=tK h
 unfold vY at *
 rw[List.find?_append]
 cases hf:ps.find? fun p=>decide (p.1=k) with
 | some p=>rw[hf] at h0;cases h0
 | none=>simp[List.find?_cons]
theorem atO_lt {ps:List (Nat × Nat)}{j i n m:Nat}(h:vY ps j=some i) (hl:∀ p∈ps,p.1<n∧p.2<m):i<m:=by
 unfold vY at h
 cases hf:ps.find? fun p=>decide (p.1=j) with
 | none=>rw[hf] at h;cases h
 | some p =>
  rw[hf] at h
  injection h with h
  subst h;exact (hl p (List.mem_of_find?_eq_some hf)).2
theorem tQ (ps:List (Nat × Nat)) (k i j:Nat):S1 (ps++[(k,i)]) j=(S1 ps j || decide (i=j)):=by
 unfold S1;rw[List.any_append];simp
structure SvAt (W:C4) (m n ga gu:Nat) (root:World) (k:Nat) (A:Option Addr) (c:Nat) (rows:List RwD) (av:List Int) (ub:List Bool) (wr:World):Prop where
 ml:ML wr A c rows
 qs:B9 rows=(x6 W k).1
 rl:rows.length=m
 ia:IntA wr ga av
 al:av.length=n
 at_:∀ j,j<k→av[j]?=some (tF (vY (x6 W k).2 j))
 ba:BoolA wr gu ub
 ul:ub.length=m
 us:∀ i,i<m→ub[i]?=some (S1 (x6 W k).2 i)
 bel:Below root.heap.size root wr
def SvInv (W:C4) (m n ga gu:Nat) (root:World) (tv kv:Value) (wr:World):Prop :=
 ∃ (k:Nat) (A:Option Addr) (c:Nat) (rows:List RwD) (av:List Int) (ub:List Bool),k≤n∧tv=.slice A rows.length c∧kv=.int .i64 (k:Int)∧SvAt W m n ga gu root k A c rows av ub wr
def FdP (t:C4) (ps:List (Nat × Nat)) (k i:Nat):Bool:=!S1 ps i&&decide (fn t i k≠0)
def FdInv (t:C4) (ps:List (Nat × Nat)) (m k ga gu:Nat) (root:World) (A:Option Addr) (c:Nat) (rows:List RwD) (av:List Int) (ub:List Bool) (iv:Value) (wr:World):Prop :=
 ∃ (i:Nat) (o:Option Nat),i≤m∧iv=.int .i64 (i:Int)∧Hid (o=(List.range i).find? (FdP t ps k))∧IntA wr ga (av.set k (tF o))∧BoolA wr gu ub∧ML wr A c rows∧Below root.heap.size root wr
theorem a0l {p:Nat→Bool}{i:Nat}{o:Option Nat}(h:o=(List.range i).find? p):(List.range (i+1)).find? p=o.or (if p i=true then some i else none):=by
 rw[List.range_succ,List.find?_append,←h]
 congr 1
 rw[List.find?_cons]
 cases p i <;> simp
def RsInv (t:C4) (ps:List (Nat × Nat)) (m n:Nat) (root:World) (iv:Value) (wr:World):Prop :=
 ∃ i:Nat,i≤m∧iv=.int .i64 (i:Int)∧Hid (∀ j,j<i→(S1 ps j || decide (fn t j n=0))=true)∧Below root.heap.size root wr
theorem vI {rows:List RwD}{i k:Nat}{r:RwD}{d:FrD}(h:rows[i]?=some r) (hd:r.ds[k]?=some d):fn (B9 rows) i k=d.q:=by
 unfold fn B9;rw[a1l (l:=rows.map RwD.qs),a1r,h]
 show (r.ds.map FrD.q).getD k 0=_
 rw[a1l,a1r,hd];rfl
theorem tW {M:C4}{b:List Rat}{n:Nat}(h:A0 M=true) (hb:b.length=M.length) (hn:colsL M=n) :
 J5 M b=if S4 (x6 (C9 M b) n).1 (x6 (C9 M b) n).2 n=true then (jQ n (x6 (C9 M b) n).2 fun i=>fn (x6 (C9 M b) n).1 i n,0) else ([],6):=by
 unfold J5;rw[if_pos ⟨h,hb⟩,solve_eq h hb];unfold tX;rw[hn]
 simp only
 split <;> rename_i hz
 · split at hz
   · injection hz with hz
     rename_i h2
     rw[if_pos h2,←hz]
   · cases hz
 · split at hz
   · cases hz
   · rename_i h2
     rw[if_neg h2]
theorem uJ {K:Nat}{A X:Option Addr}{c cx:Nat}{rows:List RwD}{bs:List FrD}{w:World}(h:ML w A c rows) (hx:FL w X cx bs) (hfm:MFits K (B9 rows)) (hfx:QFits K (bs.map FrD.q)) (hK:4*gK K (colsL (B9 rows))+1<400000000) (hrn:rows.length<1000000000) (hN:colsL (B9 rows)<100000000) :
 Calls Tryz.prog 61 #[.slice A rows.length c,.slice X bs.length cx] w (RetLE (J5 (B9 rows) (bs.map FrD.q)) w):=by
 obtain⟨n,hn⟩:∃ n,Hid (colsL (B9 rows)=n):=⟨_,rfl⟩;obtain⟨R,hR⟩:∃ m,Hid (J5 (B9 rows) (bs.map FrD.q)=m):=⟨_,rfl⟩;rw[hn.out] at hK hN;rw[hR.out];have p0:=a1k hfm;have n6:=a1k hfx;clear hfm hfx;have hl:=h.len;have t0:=hx.len;go_enter Tryz.func61,Tryz.ntmps61;go_wp2_with fail;refine (fW h).mono ?_;rintro e w1 ⟨rfl,b1⟩
 rcases hfo:A0 (B9 rows) with _ | _
 · have hf:=a1k (show R=([],2) by rw[←hR.out];exact V9 (by rw[hfo];simp));go_wp2
   go_ret2
   exact RetLE.err hf.out rfl b1
 have n9:=a1k hfo;have hr:=a1k (show E9 (B9 rows) n by rw[←hn.out];exact H5 hfo);clear hfo
 by_cases hle0:¬ bs.length=rows.length
 · have q9:=hle0;have p3:((bs.length:Int) != (rows.length:Int))=true:=by simp;omega
   have hf:=a1k (show R=([],2) by rw[←hR.out];exact V9 (by rw[a1s,p8];exact fun h=>q9 h.2));go_wp2
   go_ret2
   exact RetLE.err hf.out rfl b1
 have d6:=a1k (a3s.1 hle0);have p3:((bs.length:Int) != (rows.length:Int))=false:=by rw[bne_eq_false_iff_eq];have:=d6.out;omega
 clear hle0;have l3:=a1k (show (bs.map FrD.q).length=(B9 rows).length by rw[a1s,p8];exact d6.out);go_wp2_with fail;refine (aU (h.below b1)).mono ?_;rintro e w2 ⟨rfl,rfl⟩;rw[hn.out];go_wp2_with fail;refine (with_any (h.below b1) (hx.below b1) hr.out d6.out.symm hrn (by omega)).mono ?_;rintro e w3 ⟨A3,c3,r3,rfl,h3,q3,b3⟩;have g7:=a1j b1 b3;obtain⟨W,hW⟩:∃ W,Hid (C9 (B9 rows) (bs.map FrD.q)=W):=⟨_,rfl⟩;have k2:=a1k (show E9 W (n+1) by rw[←hW.out];exact N0 hr.out);have l0:=a1k (show W.length=rows.length by rw[←hW.out,O2 l3.out,p8]);have q6:=a1k (show MFits K W by rw[←hW.out];exact eC p0.out n6.out)
 have r2:=a1k (show R=if S4 (x6 W n).1 (x6 W n).2 n=true then (jQ n (x6 W n).2 fun i=>fn (x6 W n).1 i n,0) else ([],6) by
  rw[←hR.out,←hW.out];exact tW n9.out l3.out hn.out)
 rw[hW.out] at q3;obtain⟨m,hm⟩:∃ m,Hid (rows.length=m):=⟨_,rfl⟩;have p5:=a1k (show r3.length=m by rw[←p8,q3.out,l0.out,hm.out]);have s3:=h3.len;obtain⟨w4,m9,i4,b4,s4⟩:=a0b w3 n (by omega);obtain⟨w5,l9,i5,b5,s5⟩:=uY w4 rows.length (by omega);have j5:w.heap.size≤w3.heap.size:=g7.size;have g1:w.heap.size≤w4.heap.size:=a1t g7.size b4.size;have c7:w3.heap.size≠w4.heap.size:=by omega
 obtain⟨ga,n2⟩:∃ g,w3.heap.size=g:=⟨_,rfl⟩;obtain⟨gu,k5⟩:∃ g,w4.heap.size=g:=⟨_,rfl⟩;have j1:=i4.below b5;have n3:=(h3.below b4).below b5;have q0:=((a1j g7 b4)).trans (b5.mono g1);rw[n2] at m9 j1 j5 c7;rw[k5] at l9 i5 g1 c7;rw[hm.out] at i5;have s1:m<1000000000:=by rw[←hm.out];exact hrn
 have g9:=a1k c7;have g6:=a1k j5;have l5:=a1k g1;clear i4 n2 k5 j5 g1 c7 h3
 have h0:SvAt W m n ga gu w 0 A3 c3 r3 (List.replicate n 0) (List.replicate m false) w5:=by
  refine⟨n3,q3.out,p5.out,j1,by simp,fun j hj=>by omega,i5,by simp,fun i hi=>?_,q0⟩;rw[a2m,if_pos hi];rfl
 clear j1 i5 n3;go_wp2
 go_loopw [7,10] (fun tv kv wr=>SvInv W m n ga gu w tv kv wr) (fun _ kv _=>n-(intOf kv).toNat)
 case atStart=>exact⟨0,A3,c3,r3,_,_,by omega,rfl,rfl,h0⟩
 case round =>
  clear h0;obtain⟨k,A,c,rs,av,ub,hk,rfl,rfl,L⟩:=hrel;obtain⟨l,d9,g3,f,l6,c9,C,n7,f9,c4⟩:=L;obtain⟨c2⟩:Nonempty (RefRed W k (n+1) (x6 W k)):=⟨Z6 k2.out k (by omega)⟩;have n4:=a1k (kT q6.out k2.out k (by omega));have U:=a1k (U2 W k);obtain⟨S,hS⟩:∃ S,Hid (x6 W k=S):=⟨_,rfl⟩;rw[hS.out] at d9 c9 f9 n4 U c2;obtain⟨t,ps⟩:=S
  simp only at d9 c9 f9
  have O:=a1k c2;have D:=a1k d9;have b0:=a1k c9;have c5:=a1k f9;have f2:=a1k l6;have f0:=a1k n7;have c0:=a1k g3;have s8:=l.len;have s6:m≤rs.length:=by omega
  have s0:rs.length≤m:=by omega
  have Y:=a1k (show ∀ r∈rs,r.ds.length=n+1 from fun r q2=>by
   have:=c2.rct r.qs (by rw[←d9];exact a2v.2 ⟨r,q2,rfl⟩);rw[a4l] at this;exact this)
  clear c2 d9 c9 f9 l6 n7 g3
  by_cases hkl:k<n
  · have t4:(k:Int)<(n:Int):=by omega
    have T:k<av.length:=by rw[f2.out];exact hkl
    have s9:=f.cell (a1m T);have t1:=f.free k;obtain⟨w9,e9,E,o9⟩:=f.set k (-1);have H:=l.onlyI f o9;have J:=C.only o9 g9.out.symm;have b9:Below w.heap.size w w9:=o9.to_below c4 g6.out c4.size;clear f l C o9;go_wp2
    go_loopw [11] (fun iv wr=>FdInv t ps m k ga gu w A c rs av ub iv wr) (fun iv _=>m-(intOf iv).toNat)
    case atStart=>exact⟨0,none,by omega,rfl,rfl,E,J,H,b9⟩
    case round =>
     clear E J H;obtain⟨i,o,hi,rfl,ho,f,C,l,hb⟩:=hrel;have t2:k<(av.set k (tF o)).length:=by rw[a2i];exact T
     have F:=f.cell (j:=k) (z:=tF o) (by rw[a2h,if_pos rfl,if_pos T]);have f6:=a1k (a0l ho.out)
     by_cases hil:i<m
     · have q1:(i:Int)<(rs.length:Int):=by omega
       have m8:(i:Int)<(m:Int):=by omega
       have m0:(i:Int)<(rows.length:Int):=by have:=hm.out;omega
       cases o with
       | some x =>
        have f1:wr.cell? ⟨ga,k,none⟩=some (.int .i64 (x:Int)):=F;have l2:decide ((x:Int)<0)=false:=a1v (by omega);clear F;go_wp2;go_roundw
        case rel=>exact⟨i+1,some x,by omega,by go_num,f6.out.symm,f,C,l,hb⟩
        case measure=>simp[intOf];omega
       | none =>
        have f1:wr.cell? ⟨ga,k,none⟩=some (.int .i64 (-1)):=F;clear F;have g0:=C.cell (c5.out i hil);obtain⟨u,hu⟩:∃ u,Hid (S1 ps i=u):=⟨_,rfl⟩;rw[hu.out] at g0
        cases u with
        | true =>
         have M:=a1k (show none=(List.range (i+1)).find? (FdP t ps k) by rw[f6.out];unfold FdP;rw[hu.out];rfl);go_wp2;go_roundw
         case rel=>exact⟨i+1,none,by omega,by go_num,M,f,C,l,hb⟩
         case measure=>simp[intOf];omega
        | false =>
         obtain⟨a,r,rfl,l7,d4,G,N⟩:=l.at (k:=i) (by omega);have f4:=Y.out r (a1n N.out);have g4:(k:Int)<(r.ds.length:Int):=by omega
         have n0:=G.len;have d3:k<r.ds.length:=by omega
         obtain⟨b,d,eb,n5,g8,j3,h7,d2,d0⟩:=G.at d3;have b7:=a1k (show fn t i k=d.q by rw[←D.out];exact vI N.out d0.out);rw[eb] at d4;clear eb G f4;obtain⟨s,hs⟩:∃ s,Hid (D0 d.q 0=s):=⟨_,rfl⟩;have Z:=R1 d2;rw[hs.out] at Z;go_wp2_with fail;refine Z.mono ?_;rintro e w6 ⟨rfl,b6⟩;clear Z;replace f:=f.below b6;replace C:=C.below b6;replace l:=l.below b6;replace hb:=a1j hb b6
         by_cases hz:d.q=0
         · have j2:(s != 0)=false:=by rw[bne_eq_false_iff_eq,←hs.out];exact cmpR_zero.2 hz
           have M:=a1k (show none=(List.range (i+1)).find? (FdP t ps k) by rw[f6.out];unfold FdP;rw[hu.out,b7.out,hz];rfl);clear hz;go_wp2;go_roundw
           case rel=>exact⟨i+1,none,by omega,by go_num,M,f,C,l,hb⟩
           case measure=>simp[intOf];omega
         · have j2:(s != 0)=true:=by rw[bne_iff_ne];intro e;exact hz (cmpR_zero.1 (by rw[hs.out];exact e))
           have M:=a1k (show some i=(List.range (i+1)).find? (FdP t ps k) by rw[f6.out];unfold FdP;rw[hu.out,b7.out,a1w hz];rfl);clear hz;have p1:=f.cell (j:=k) (z:=-1) (by rw[a2h,if_pos rfl,if_pos T];rfl);have r0:=f.free k;obtain⟨w9,e9,E,o9⟩:=f.set k (i:Int);have H:=l.onlyI f o9;have J:=C.only o9 g9.out.symm;have b9:Below w.heap.size w w9:=o9.to_below hb g6.out hb.size;rw[List.set_set] at E;clear f l C o9;go_wp2;go_roundw
           case rel=>exact⟨i+1,some i,by omega,by go_num,M,E,J,H,b9⟩
           case measure=>simp[intOf];omega
     · obtain rfl:i=m:=by omega
       have l8:decide ((i:Int)<(rs.length:Int))=false:=a1v (by omega)
       have h6:=a1k (show findFree t ps k=o by
        have e:t.length=i:=by rw[←D.out,p8];exact c0.out
        unfold findFree;rw[e,ho.out];rfl)
       have m5:=a1k (show ∀ p∈ps,p.1≠k from fun p hp=>by have:=(O.out.red.lt p hp).1;omega)
       cases o with
       | none =>
        have f1:wr.cell? ⟨ga,k,none⟩=some (.int .i64 (-1)):=F;clear F;have V:=a1k (show x6 W (k+1)=(t,ps) by rw[U.out];unfold cS;simp only[h6.out])
        have d1:SvAt W i n ga gu w (k+1) A c rs (av.set k (tF none)) ub wr:=by
         refine⟨l,by rw[V.out];exact D.out,c0.out,f,by rw[a2i];exact f2.out,fun j hj=>?_,C,f0.out,fun j hj=>by rw[V.out];exact c5.out j hj,hb⟩;rw[V.out,a2h]
         by_cases e:k=j
         · subst e;rw[if_pos rfl,if_pos T,tK m5.out]
         · rw[if_neg e];exact b0.out j (by omega)
        clear f C l;go_wp2;go_roundw
        case rel=>exact⟨k+1,A,c,rs,_,ub,by omega,rfl,by go_num,d1⟩
        case measure=>simp[intOf];omega
       | some x =>
        have f1:wr.cell? ⟨ga,k,none⟩=some (.int .i64 (x:Int)):=F;clear F;have s7:decide ((0:Int)≤(x:Int))=true:=a1w (by omega);have r4:=a1k (List.find?_some (show (List.range t.length).find? (FdP t ps k)=some x from h6.out))
        have m3:x<i:=by
         have h9:=List.mem_of_find?_eq_some ho.out.symm;exact a2u.1 h9
        have n8:(x:Int)<(i:Int):=by omega
        have s2:(x:Int)<(rows.length:Int):=by have:=hm.out;omega
        have k6:x<ub.length:=by rw[f0.out];exact m3
        have g0:=C.cell (a1m k6);have r0:=C.free x;obtain⟨w9,e9,J,o9⟩:=C.set x true;have E:=f.only o9 g9.out;have H:=l.onlyB C o9;have b9:Below w.heap.size w w9:=o9.to_below hb l5.out hb.size;have p1:=E.cell (j:=k) (z:=(x:Int)) (by rw[a2h,if_pos rfl,if_pos T];rfl);have V:=a1k (show x6 W (k+1)=(O0 t x k,ps++[(k,x)]) by rw[U.out];unfold cS;simp only[h6.out]);have f5:=a1k (rW (show E9 t (n+1) from O.out.rct) (by rw[←D.out,p8];omega))
        have k1:=a1k (show fn t x k≠0 by
         have:=r4.out;unfold FdP at this;rw[a3m] at this;exact of_decide_eq_true this.2)
        have r1:=a1k (show lF (B9 rs) (x:Int) (k:Int)=(O0 t x k,0) by
         rw[D.out];exact xF f5.out.1 (by rw[←D.out,p8];omega) (by rw[f5.out.2];omega) k1.out)
        have h2:=uK (K:=gK K k) (x:=(x:Int)) (y:=(k:Int)) H (by rw[D.out];exact n4.out) (by
         have h1:=W6 K (show k≤n by omega)
         omega) (by omega) (by rw[D.out,f5.out.2];omega) (by omega) (by omega)
        rw[r1.out] at h2;clear f C l o9 H;go_wp2_with fail;refine h2.mono ?_;rintro e w8 ⟨A8,c8,r8,rfl,h8,q8,b8⟩;clear h2
        have d1:SvAt W i n ga gu w (k+1) A8 c8 r8 (av.set k (tF (some x))) (ub.set x true) w8:=by
         refine⟨h8,by rw[V.out];exact q8.out,?_,E.below b8,by rw[a2i];exact f2.out,fun j hj=>?_,J.below b8,by rw[a2i];exact f0.out,fun j hj=>?_,(a1j b9 b8)⟩
         · rw[←p8,q8.out,N7,←D.out,p8];exact c0.out
         · rw[V.out,a2h]
           by_cases e:k=j
           · subst e;rw[if_pos rfl,if_pos T];exact congrArg (fun o=>some (tF o)) (atO_new m5.out).symm
           · rw[if_neg e];show _=some (tF (vY (ps++[(k,x)]) j));rw[atO_snoc ps k x j (fun e2=>e e2.symm)];exact b0.out j (by omega)
         · rw[V.out,a2h]
           show _=some (S1 (ps++[(k,x)]) j)
           rw[tQ]
           by_cases e:x=j
           · subst e;rw[if_pos rfl,if_pos k6,a1w rfl,Bool.or_true]
           · rw[if_neg e,a1v e,Bool.or_false];exact c5.out j hj
        clear E J h8;go_wp2;go_roundw
        case rel=>exact⟨k+1,A8,c8,r8,_,_,by omega,rfl,by go_num,d1⟩
        case measure=>simp[intOf];omega
  · obtain rfl:k=n:=by omega
    have l8:decide ((k:Int)<(k:Int))=false:=a1v (by omega);have g5:=a1k (show R=if S4 t ps k=true then (jQ k ps fun i=>fn t i k,0) else ([],6) by rw[r2.out,hS.out]);have m4:=a1k (show t.length=m by rw[←D.out,p8];exact c0.out);have r6:=a1k (show ∀ p∈ps,p.1<k∧p.2<m from fun p hp=>by have:=O.out.red.lt p hp;rw[l0.out,hm.out] at this;exact this);obtain⟨wq,p2⟩:∃ wq:World,wq=wr:=⟨_,rfl⟩;subst p2;go_wp2
    go_loopw [12] (fun iv wr=>RsInv t ps m k wq iv wr) (fun iv _=>m-(intOf iv).toNat)
    case atStart=>exact⟨0,by omega,rfl,fun j hj=>by omega,a3t _ _⟩
    case round =>
     obtain⟨i,hi,rfl,hz,b2⟩:=hrel
     by_cases hil:i<m
     · have q1:(i:Int)<(rs.length:Int):=by omega
       have m8:(i:Int)<(m:Int):=by omega
       have m0:(i:Int)<(rows.length:Int):=by have:=hm.out;omega
       have g0:=(C.below b2).cell (c5.out i hil);obtain⟨u,hu⟩:∃ u,Hid (S1 ps i=u):=⟨_,rfl⟩;rw[hu.out] at g0
       cases u with
       | true =>
        have j0:=a1k (show ∀ j,j<i+1→(S1 ps j || decide (fn t j k=0))=true from fun j hj=>by
         by_cases e:j=i
         · rw[e,hu.out];rfl
         · exact hz.out j (by omega))
        go_wp2;go_roundw
        case rel=>exact⟨i+1,by omega,by go_num,j0,b2⟩
        case measure=>simp[intOf];omega
       | false =>
        obtain⟨a,r,rfl,l7,d4,G,N⟩:=(l.below b2).at (k:=i) (by omega);have f4:=Y.out r (a1n N.out);have g4:(k:Int)<(r.ds.length:Int):=by omega
        have n0:=G.len;have d3:k<r.ds.length:=by omega
        obtain⟨b,d,eb,n5,g8,j3,h7,d2,d0⟩:=G.at d3;have b7:=a1k (show fn t i k=d.q by rw[←D.out];exact vI N.out d0.out);rw[eb] at d4;clear eb G f4;obtain⟨s,hs⟩:∃ s,Hid (D0 d.q 0=s):=⟨_,rfl⟩;have Z:=R1 d2;rw[hs.out] at Z;go_wp2_with fail;refine Z.mono ?_;rintro e w6 ⟨rfl,b6⟩;clear Z;have m2:=a1j b2 b6
        by_cases hzz:d.q=0
        · have j2:(s != 0)=false:=by rw[bne_eq_false_iff_eq,←hs.out];exact cmpR_zero.2 hzz
          have j0:=a1k (show ∀ j,j<i+1→(S1 ps j || decide (fn t j k=0))=true from fun j hj=>by
           by_cases e:j=i
           · rw[e,hu.out,b7.out,a1w hzz];rfl
           · exact hz.out j (by omega))
          clear hzz;go_wp2;go_roundw
          case rel=>exact⟨i+1,by omega,by go_num,j0,m2⟩
          case measure=>simp[intOf];omega
        · have j2:(s != 0)=true:=by rw[bne_iff_ne];intro e;exact hzz (cmpR_zero.1 (by rw[hs.out];exact e))
          have hf:=a1k (show R=([],6) by
           rw[g5.out,if_neg];intro h9;unfold S4 at h9;have:=List.all_eq_true.1 h9 i (a2u.2 (by rw[m4.out];exact hil));rw[hu.out,b7.out,a1v hzz] at this
           cases this)
          clear hzz;go_wp2
          go_ret2
          exact RetLE.err hf.out rfl ((a1j c4 m2))
     · obtain rfl:i=m:=by omega
       have l2:decide ((i:Int)<(rs.length:Int))=false:=a1v (by omega);have r5:decide (i<rs.length)=false:=a1v (by omega);obtain⟨qs,j4⟩:∃ qs,Hid (jQ k ps (fun i=>fn t i k)=qs):=⟨_,rfl⟩
       have hf:=a1k (show R=(qs,0) by
        rw[g5.out,if_pos,j4.out];unfold S4;rw[List.all_eq_true];intro j hj;exact hz.out j (by rw[a2u,m4.out] at hj;exact hj))
       have g2:=a1k (show qs.length=k by rw[←j4.out,W2]);have p4:=a1j c4 b2;replace l:=l.below b2;replace f:=f.below b2;clear C b2;obtain⟨wp,p6⟩:∃ wp:World,wp=wr:=⟨_,rfl⟩;subst p6;go_wp2
       go_loopw [13,14] (fun v iv wr=>oW qs wp v iv wr) (fun _ iv _=>k-(intOf iv).toNat)
       case atStart=>exact⟨0,by omega,rfl,LsAt.start _ (a3t _ _)⟩
       case round =>
        obtain⟨j,hj,rfl,L⟩:=hrel;rw[g2.out] at hj;have h4:=L.bel
        by_cases hjl:j<k
        · have t3:(j:Int)<(k:Int):=by omega
          have l4:j<1000000000000:=by omega
          have F:=(f.below h4).cell (b0.out j hjl);obtain⟨o,ho⟩:∃ o,Hid (vY ps j=o):=⟨_,rfl⟩
          have d7:qs[j]?=some (match vY ps j with | some i=>fn t i k | none=>0):=by
           rw[←j4.out,←xval_atO];unfold jQ;rw[a1r,a2t hjl];rfl
          rw[ho.out] at F d7
          cases o with
          | none =>
           have f1:wr.cell? ⟨ga,j,none⟩=some (.int .i64 (-1)):=F;have hq:=a1k (show qs[j]?=some ((0:Int):Rat) by rw[d7];rfl);clear F d7;go_wp2_with fail;refine (t9 0 _ (by decide) (by decide)).mono ?_;rintro e w4 ⟨v1,rfl,⟨n1,A1,a1,l1,B1,c1,m1,rfl,na,nb,iq⟩,b1⟩;replace L:=L.below b1;obtain⟨os,ho,h5,k0,I⟩:=L.app l4 hq.out na nb iq;clear na nb iq
           go_wp2_with (at_builtin;refine G9 rfl rfl _ _ rfl _ _ os rfl ho ⟨w4.heap.size,0,none⟩ 1 ⟨n1,A1,a1,l1,B1,c1,m1⟩ rfl (a4d (heap_alloc_new w4 _)) h5 k0 ?_;intro v6 w6 f3 d5)
           have d8:=I.out v6 w6 f3 d5;clear I ho d5 f3 L;go_wp2;go_roundw
           case rel=>exact⟨j+1,by rw[g2.out];omega,by go_num,d8⟩
           case measure=>simp[intOf];omega
          | some x =>
           have f1:wr.cell? ⟨ga,j,none⟩=some (.int .i64 (x:Int)):=F;have m6:decide ((x:Int)<0)=false:=a1v (by omega);have m3:x<i:=atO_lt ho.out r6.out;have n8:(x:Int)<(rs.length:Int):=by omega
           obtain⟨a,r,rfl,l7,d4,G,N⟩:=(l.below h4).at (k:=x) (by omega);have f4:=Y.out r (a1n N.out);have g4:(k:Int)<(r.ds.length:Int):=by omega
           have n0:=G.len;have d3:k<r.ds.length:=by omega
           obtain⟨b,d,eb,n5,g8,j3,h7,d2,d0⟩:=G.at d3;have b7:=a1k (show fn t x k=d.q by rw[←D.out];exact vI N.out d0.out);rw[eb] at d4;have hq:=a1k (show qs[j]?=some d.q by rw[d7];exact congrArg some b7.out);clear eb G f4 F d7;obtain⟨n1,A1,a1,l1,B1,c1,m1,ev,na,nb,iq⟩:=d2
           unfold FrD.v B8 at ev
           injection ev with ev
           have e1:d.neg=n1:=by injection ev with ev;injection ev with ev _;injection ev
           have k3:(.slice d.a d.la.length d.ca:Value)=.slice A1 l1.length a1:=by injection ev with ev;injection ev with _ ev;injection ev
           have k4:(.slice d.b d.lb.length d.cb:Value)=.slice B1 m1.length c1:=by injection ev with ev;injection ev with _ ev;injection ev with _ ev;injection ev
           rw[e1] at g8;rw[k3] at j3;rw[k4] at h7;clear ev e1 k3 k4;obtain⟨os,ho,h5,k0,I⟩:=L.app l4 hq.out na nb iq;clear na nb iq
           go_wp2_with (at_builtin;refine G9 rfl rfl _ _ rfl _ _ os rfl ho ⟨wr.heap.size,0,none⟩ 1 ⟨n1,A1,a1,l1,B1,c1,m1⟩ rfl (a4d (heap_alloc_new wr _)) h5 k0 ?_;intro v6 w6 f3 d5)
           have d8:=I.out v6 w6 f3 d5;clear I ho d5 f3 L;go_wp2;go_roundw
           case rel=>exact⟨j+1,by rw[g2.out];omega,by go_num,d8⟩
           case measure=>simp[intOf];omega
        · obtain rfl:j=k:=by omega
          have m6:decide ((j:Int)<(j:Int))=false:=a1v (by omega);obtain⟨B,cb,es,rfl,q5,q4⟩:=L.done g2.out.symm;go_wp2
          go_ret2
          exact⟨B,cb,es,by rw[hf.out];rfl,q5,by rw[hf.out];exact q4,(a1j p4 h4)⟩
end Go.Proofs.YtjhkapjadfpimaaGreat
