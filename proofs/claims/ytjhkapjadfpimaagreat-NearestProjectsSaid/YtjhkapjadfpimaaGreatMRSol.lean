/- Contracts of functions, for the law. -/
import Derived.Test.YtjhkapjadfpimaaGreatMNew
namespace Go.Proofs.YtjhkapjadfpimaaGreat
set_option linter.unusedVariables false
set_option linter.unusedSimpArgs false
open Go.RowKit Plain
attribute [local go_sem ↓] Go.wp_at_zero Go.wp_at_succ
set_option maxRecDepth 100000
set_option maxHeartbeats 40000000
def uD (ps:List (Nat × Nat)) (j:Nat):Option Nat:=(ps.find? fun p=>decide (p.1=j)).map Prod.snd
theorem yg (ps:List (Nat × Nat)) (f:Nat→Rat) (j:Nat):f8 ps f j=match uD ps j with | some i=>f i | none=>0:=by
 induction ps with
 | nil=>rfl
 | cons p ps ih =>
  unfold uD;rw[List.find?_cons]
  by_cases h:p.1=j
  · rw[Dv h];simp[f8,h]
  · rw[Du h];simp only[f8,if_neg h];exact ih
theorem tr {ps:List (Nat × Nat)}{j:Nat}(h:∀ p∈ps,p.1≠j):uD ps j=none:=by
 unfold uD;rw[List.find?_eq_none.2 (fun p hp=>by simpa using h p hp)];rfl
theorem Aa (ps:List (Nat × Nat)) (k i j:Nat) (hj:j≠k):uD (ps++[(k,i)]) j=uD ps j:=by
 unfold uD;rw[List.find?_append]
 cases ps.find? fun p=>decide (p.1=j) with
 | some p=>rfl
 | none=>simp[List.find?_cons,Ne.symm hj]
theorem BF {ps:List (Nat × Nat)}{k i:Nat}(h:∀ p∈ps,p.1≠k):uD (ps++[(k,i)]) k=some i:=by
 have h0:=tr h
 unfold uD at *
 rw[List.find?_append]
 cases hf:ps.find? fun p=>decide (p.1=k) with
 | some p=>rw[hf] at h0;cases h0
 | none=>simp[List.find?_cons]
theorem CD {ps:List (Nat × Nat)}{j i n m:Nat}(h:uD ps j=some i) (hl:∀ p∈ps,p.1<n∧p.2<m):i<m:=by
 unfold uD at h
 cases hf:ps.find? fun p=>decide (p.1=j) with
 | none=>rw[hf] at h;cases h
 | some p =>
  rw[hf] at h
  injection h with h
  subst h;exact (hl p (List.mem_of_find?_eq_some hf)).2
theorem ty (ps:List (Nat × Nat)) (k i j:Nat):ge (ps++[(k,i)]) j=(ge ps j || decide (i=j)):=by
 unfold ge;rw[List.any_append];simp
structure SvAt (W:bp) (m n ga gu:Nat) (root:World) (k:Nat) (A:Option Addr) (c:Nat) (rows:List RwD) (av:List Int) (ub:List Bool) (wr:World):Prop where
 ml:ML wr A c rows
 qs:bh rows=(aQ W k).1
 rl:rows.length=m
 ia:IntA wr ga av
 al:av.length=n
 at_:∀ j,j<k→av[j]?=some (tj (uD (aQ W k).2 j))
 ba:BoolA wr gu ub
 ul:ub.length=m
 us:∀ i,i<m→ub[i]?=some (ge (aQ W k).2 i)
 bel:Below root.heap.size root wr
def C4 (W:bp) (m n ga gu:Nat) (root:World) (tv kv:Value) (wr:World):Prop :=
 ∃ (k:Nat) (A:Option Addr) (c:Nat) (rows:List RwD) (av:List Int) (ub:List Bool),k≤n∧tv=.slice A rows.length c∧kv=.int .i64 (k:Int)∧SvAt W m n ga gu root k A c rows av ub wr
def BP (t:bp) (ps:List (Nat × Nat)) (k i:Nat):Bool:=!ge ps i&&decide (fn t i k≠0)
def Db (t:bp) (ps:List (Nat × Nat)) (m k ga gu:Nat) (root:World) (A:Option Addr) (c:Nat) (rows:List RwD) (av:List Int) (ub:List Bool) (iv:Value) (wr:World):Prop :=
 ∃ (i:Nat) (o:Option Nat),i≤m∧iv=.int .i64 (i:Int)∧Hid (o=(List.range i).find? (BP t ps k))∧IntA wr ga (av.set k (tj o))∧BoolA wr gu ub∧ML wr A c rows∧Below root.heap.size root wr
theorem xJ {p:Nat→Bool}{i:Nat}{o:Option Nat}(h:o=(List.range i).find? p):(List.range (i+1)).find? p=o.or (if p i=true then some i else none):=by
 rw[List.range_succ,List.find?_append,←h]
 congr 1
 rw[List.find?_cons]
 cases p i <;> simp
def C5 (t:bp) (ps:List (Nat × Nat)) (m n:Nat) (root:World) (iv:Value) (wr:World):Prop :=
 ∃ i:Nat,i≤m∧iv=.int .i64 (i:Int)∧Hid (∀ j,j<i→(ge ps j || decide (fn t j n=0))=true)∧Below root.heap.size root wr
theorem uk {rows:List RwD}{i k:Nat}{r:RwD}{d:FrD}(h:rows[i]?=some r) (hd:r.ds[k]?=some d):fn (bh rows) i k=d.q:=by
 unfold fn bh;rw[Dk (l:=rows.map RwD.qs),Dq,h]
 show (r.ds.map FrD.q).getD k 0=_
 rw[Dk,Dq,hd];rfl
theorem tE {M:bp}{b:List Rat}{n:Nat}(h:aW M=true) (hb:b.length=M.length) (hn:colsL M=n) :
 dH M b=if gg (aQ (bG M b) n).1 (aQ (bG M b) n).2 n=true then (nJ n (aQ (bG M b) n).2 fun i=>fn (aQ (bG M b) n).1 i n,0) else ([],6):=by
 unfold dH;rw[if_pos ⟨h,hb⟩,yx h hb];unfold tF;rw[hn]
 simp only
 split <;> rename_i hz
 · split at hz
   · injection hz with hz
     rename_i h2
     rw[if_pos h2,←hz]
   · cases hz
 · split at hz
   · cases hz
   · rename_i h2
     rw[if_neg h2]
theorem tR {K:Nat}{A X:Option Addr}{c cx:Nat}{rows:List RwD}{bs:List FrD}{w:World}(h:ML w A c rows) (hx:FL w X cx bs) (hfm:MFits K (bh rows)) (hfx:QFits K (bs.map FrD.q)) (hK:4*gK K (colsL (bh rows))+1<400000000) (hrn:rows.length<1000000000) (hN:colsL (bh rows)<100000000) :
 Calls Tryz.prog 61 #[.slice A rows.length c,.slice X bs.length cx] w (RetLE (dH (bh rows) (bs.map FrD.q)) w):=by
 obtain⟨n,hn⟩:∃ n,Hid (colsL (bh rows)=n):=⟨_,rfl⟩;obtain⟨R,hR⟩:∃ m,Hid (dH (bh rows) (bs.map FrD.q)=m):=⟨_,rfl⟩;rw[hn.out] at hK hN;rw[hR.out];have f1:=Dj hfm;have fs:=Dj hfx;clear hfm hfx;have hl:=h.len;have j5:=hx.len;go_enter Tryz.func61,Tryz.ntmps61;go_wp2_with fail;refine (lN h).mono ?_;rintro e w1 ⟨rfl,b1⟩
 rcases hfo:aW (bh rows) with _ | _
 · have hf:=Dj (show R=([],2) by rw[←hR.out];exact ik (by rw[hfo];simp));go_wp2
   go_ret2
   exact RetLE.err hf.out rfl b1
 have g8:=Dj hfo;have hr:=Dj (show cj (bh rows) n by rw[←hn.out];exact cZ hfo);clear hfo
 by_cases hle0:¬ bs.length=rows.length
 · have gx:=hle0;have gv:((bs.length:Int) != (rows.length:Int))=true:=by simp;omega
   have hf:=Dj (show R=([],2) by rw[←hR.out];exact ik (by rw[Dr,aE];exact fun h=>gx h.2));go_wp2
   go_ret2
   exact RetLE.err hf.out rfl b1
 have c5:=Dj (Decidable.not_not.1 hle0);have gv:((bs.length:Int) != (rows.length:Int))=false:=by rw[bne_eq_false_iff_eq];have:=c5.out;omega
 clear hle0;have f0:=Dj (show (bs.map FrD.q).length=(bh rows).length by rw[Dr,aE];exact c5.out);go_wp2_with fail;refine (jw (h.below b1)).mono ?_;rintro e w2 ⟨rfl,rfl⟩;rw[hn.out];go_wp2_with fail;refine (yi (h.below b1) (hx.below b1) hr.out c5.out.symm hrn (by omega)).mono ?_;rintro e w3 ⟨A3,c3,r3,rfl,h3,q3,b3⟩;have d4:=Di b1 b3;obtain⟨W,hW⟩:∃ W,Hid (bG (bh rows) (bs.map FrD.q)=W):=⟨_,rfl⟩;have g5:=Dj (show cj W (n+1) by rw[←hW.out];exact eS hr.out);have d7:=Dj (show W.length=rows.length by rw[←hW.out,fg f0.out,aE]);have hv:=Dj (show MFits K W by rw[←hW.out];exact kH f1.out fs.out)
 have hc:=Dj (show R=if gg (aQ W n).1 (aQ W n).2 n=true then (nJ n (aQ W n).2 fun i=>fn (aQ W n).1 i n,0) else ([],6) by
  rw[←hR.out,←hW.out];exact tE g8.out f0.out hn.out)
 rw[hW.out] at q3;obtain⟨m,hm⟩:∃ m,Hid (rows.length=m):=⟨_,rfl⟩;have h6:=Dj (show r3.length=m by rw[←aE,q3.out,d7.out,hm.out]);have j2:=h3.len;obtain⟨w4,fq,i4,b4,s4⟩:=xy w3 n (by omega);obtain⟨w5,ft,i5,b5,s5⟩:=ue w4 rows.length (by omega);have d6:w.heap.size≤w3.heap.size:=d4.size;have cr:w.heap.size≤w4.heap.size:=Ds d4.size b4.size;have bb:w3.heap.size≠w4.heap.size:=by omega
 obtain⟨ga,f2⟩:∃ g,w3.heap.size=g:=⟨_,rfl⟩;obtain⟨gu,fx⟩:∃ g,w4.heap.size=g:=⟨_,rfl⟩;have d9:=i4.below b5;have f9:=(h3.below b4).below b5;have hg:=((Di d4 b4)).trans (b5.mono cr);rw[f2] at fq d9 d6 bb;rw[fx] at ft i5 cr bb;rw[hm.out] at i5;have j0:m<1000000000:=by rw[←hm.out];exact hrn
 have dm:=Dj bb;have d1:=Dj d6;have gk:=Dj cr;clear i4 f2 fx d6 cr bb h3
 have h0:SvAt W m n ga gu w 0 A3 c3 r3 (List.replicate n 0) (List.replicate m false) w5:=by
  refine⟨f9,q3.out,h6.out,d9,by simp,fun j hj=>by omega,i5,by simp,fun i hi=>?_,hg⟩;rw[DL,if_pos hi];rfl
 clear d9 i5 f9;go_wp2
 go_loopw [7,10] (fun tv kv wr=>C4 W m n ga gu w tv kv wr) (fun _ kv _=>n-(intOf kv).toNat)
 case atStart=>exact⟨0,A3,c3,r3,_,_,by omega,rfl,rfl,h0⟩
 case round =>
  clear h0;obtain⟨k,A,c,rs,av,ub,hk,rfl,rfl,L⟩:=hrel;obtain⟨C,c9,d0,f,g2,bm,l,f4,cq,bf⟩:=L;obtain⟨bg⟩:Nonempty (RefRed W k (n+1) (aQ W k)):=⟨jf g5.out k (by omega)⟩;have f3:=Dj (ov hv.out g5.out k (by omega));have Y:=Dj (gO W k);obtain⟨S,hS⟩:∃ S,Hid (aQ W k=S):=⟨_,rfl⟩;rw[hS.out] at c9 bm cq f3 Y bg;obtain⟨t,ps⟩:=S
  simp only at c9 bm cq
  have M:=Dj bg;have D:=Dj c9;have U:=Dj bm;have bc:=Dj cq;have ch:=Dj g2;have cg:=Dj f4;have bd:=Dj d0;have k5:=C.len;have j3:m≤rs.length:=by omega
  have j1:rs.length≤m:=by omega
  have b0:=Dj (show ∀ r∈rs,r.ds.length=n+1 from fun r ht=>by
   have:=bg.rct r.qs (by rw[←c9];exact DU.2 ⟨r,ht,rfl⟩);rw[Eg] at this;exact this)
  clear bg c9 bm cq g2 f4 d0
  by_cases hkl:k<n
  · have k0:(k:Int)<(n:Int):=by omega
    have Z:k<av.length:=by rw[ch.out];exact hkl
    have k2:=f.cell (Dl Z);have js:=f.free k;obtain⟨w9,e9,F,o9⟩:=f.set k (-1);have H:=C.onlyI f o9;have J:=l.only o9 dm.out.symm;have b9:Below w.heap.size w w9:=o9.to_below bf d1.out bf.size;clear f C l o9;go_wp2
    go_loopw [11] (fun iv wr=>Db t ps m k ga gu w A c rs av ub iv wr) (fun iv _=>m-(intOf iv).toNat)
    case atStart=>exact⟨0,none,by omega,rfl,rfl,F,J,H,b9⟩
    case round =>
     clear F J H;obtain⟨i,o,hi,rfl,ho,f,l,C,hb⟩:=hrel;have k3:k<(av.set k (tj o)).length:=by rw[DH];exact Z
     have E:=f.cell (j:=k) (z:=tj o) (by rw[DG,if_pos rfl,if_pos Z]);have cs:=Dj (xJ ho.out)
     by_cases hil:i<m
     · have hy:(i:Int)<(rs.length:Int):=by omega
       have g7:(i:Int)<(m:Int):=by omega
       have dx:(i:Int)<(rows.length:Int):=by have:=hm.out;omega
       cases o with
       | some x =>
        have bq:wr.cell? ⟨ga,k,none⟩=some (.int .i64 (x:Int)):=E;have g9:decide ((x:Int)<0)=false:=Du (by omega);clear E;go_wp2;go_roundw
        case rel=>exact⟨i+1,some x,by omega,by go_num,cs.out.symm,f,l,C,hb⟩
        case measure=>simp[intOf];omega
       | none =>
        have bq:wr.cell? ⟨ga,k,none⟩=some (.int .i64 (-1)):=E;clear E;have cm:=l.cell (bc.out i hil);obtain⟨u,hu⟩:∃ u,Hid (ge ps i=u):=⟨_,rfl⟩;rw[hu.out] at cm
        cases u with
        | true =>
         have N:=Dj (show none=(List.range (i+1)).find? (BP t ps k) by rw[cs.out];unfold BP;rw[hu.out];rfl);go_wp2;go_roundw
         case rel=>exact⟨i+1,none,by omega,by go_num,N,f,l,C,hb⟩
         case measure=>simp[intOf];omega
        | false =>
         obtain⟨a,r,rfl,fr,cd,G,O⟩:=C.at (k:=i) (by omega);have c7:=b0.out r (Dm O.out);have cz:(k:Int)<(r.ds.length:Int):=by omega
         have fl:=G.len;have bz:k<r.ds.length:=by omega
         obtain⟨b,d,eb,gm,dh,dr,d5,cl,bn⟩:=G.at bz;have T:=Dj (show fn t i k=d.q by rw[←D.out];exact uk O.out bn.out);rw[eb] at cd;clear eb G c7;obtain⟨s,hs⟩:∃ s,Hid (bH d.q 0=s):=⟨_,rfl⟩;have b7:=fV cl;rw[hs.out] at b7;go_wp2_with fail;refine b7.mono ?_;rintro e w6 ⟨rfl,b6⟩;clear b7;replace f:=f.below b6;replace l:=l.below b6;replace C:=C.below b6;replace hb:=Di hb b6
         by_cases hz:d.q=0
         · have dk:(s != 0)=false:=by rw[bne_eq_false_iff_eq,←hs.out];exact cmpR_zero.2 hz
           have N:=Dj (show none=(List.range (i+1)).find? (BP t ps k) by rw[cs.out];unfold BP;rw[hu.out,T.out,hz];rfl);clear hz;go_wp2;go_roundw
           case rel=>exact⟨i+1,none,by omega,by go_num,N,f,l,C,hb⟩
           case measure=>simp[intOf];omega
         · have dk:(s != 0)=true:=by rw[bne_iff_ne];intro e;exact hz (cmpR_zero.1 (by rw[hs.out];exact e))
           have N:=Dj (show some i=(List.range (i+1)).find? (BP t ps k) by rw[cs.out];unfold BP;rw[hu.out,T.out,Dv hz];rfl);clear hz;have h5:=f.cell (j:=k) (z:=-1) (by rw[DG,if_pos rfl,if_pos Z];rfl);have hh:=f.free k;obtain⟨w9,e9,F,o9⟩:=f.set k (i:Int);have H:=C.onlyI f o9;have J:=l.only o9 dm.out.symm;have b9:Below w.heap.size w w9:=o9.to_below hb d1.out hb.size;rw[List.set_set] at F;clear f C l o9;go_wp2;go_roundw
           case rel=>exact⟨i+1,some i,by omega,by go_num,N,F,J,H,b9⟩
           case measure=>simp[intOf];omega
     · obtain rfl:i=m:=by omega
       have gb:decide ((i:Int)<(rs.length:Int))=false:=Du (by omega)
       have d8:=Dj (show findFree t ps k=o by
        have e:t.length=i:=by rw[←D.out,aE];exact bd.out
        unfold findFree;rw[e,ho.out];rfl)
       have fm:=Dj (show ∀ p∈ps,p.1≠k from fun p hp=>by have:=(M.out.red.lt p hp).1;omega);have f5:=Dj (show ∀ p∈ps,p.1<k∧p.2<i from fun p hp=>by have:=M.out.red.lt p hp;rw[d7.out,hm.out] at this;exact this)
       cases o with
       | none =>
        have bq:wr.cell? ⟨ga,k,none⟩=some (.int .i64 (-1)):=E;clear E;have V:=Dj (show aQ W (k+1)=(t,ps) by rw[Y.out];unfold ka;simp only[d8.out])
        have bv:SvAt W i n ga gu w (k+1) A c rs (av.set k (tj none)) ub wr:=by
         refine⟨C,by rw[V.out];exact D.out,bd.out,f,by rw[DH];exact ch.out,fun j hj=>?_,l,cg.out,fun j hj=>by rw[V.out];exact bc.out j hj,hb⟩;rw[V.out,DG]
         by_cases e:k=j
         · subst e;rw[if_pos rfl,if_pos Z,tr fm.out]
         · rw[if_neg e];exact U.out j (by omega)
        clear f l C;go_wp2;go_roundw
        case rel=>exact⟨k+1,A,c,rs,_,ub,by omega,rfl,by go_num,bv⟩
        case measure=>simp[intOf];omega
       | some x =>
        have bq:wr.cell? ⟨ga,k,none⟩=some (.int .i64 (x:Int)):=E;clear E;have k1:decide ((0:Int)≤(x:Int))=true:=Dv (by omega);have gq:=Dj (List.find?_some (show (List.range t.length).find? (BP t ps k)=some x from d8.out))
        have g1:x<i:=by
         have h9:=List.mem_of_find?_eq_some ho.out.symm;exact DT.1 h9
        have g3:(x:Int)<(i:Int):=by omega
        have j4:(x:Int)<(rows.length:Int):=by have:=hm.out;omega
        have fv:x<ub.length:=by rw[cg.out];exact g1
        have cm:=l.cell (Dl fv);have hh:=l.free x;obtain⟨w9,e9,J,o9⟩:=l.set x true;have F:=f.only o9 dm.out;have H:=C.onlyB l o9;have b9:Below w.heap.size w w9:=o9.to_below hb gk.out hb.size;have h5:=F.cell (j:=k) (z:=(x:Int)) (by rw[DG,if_pos rfl,if_pos Z];rfl);have V:=Dj (show aQ W (k+1)=(fe t x k,ps++[(k,x)]) by rw[Y.out];unfold ka;simp only[d8.out]);have bx:=Dj (sx (show cj t (n+1) from M.out.rct) (by rw[←D.out,aE];omega))
        have g4:=Dj (show fn t x k≠0 by
         have:=gq.out;unfold BP at this;rw[Bool.and_eq_true] at this;exact of_decide_eq_true this.2)
        have gr:=Dj (show oK (bh rs) (x:Int) (k:Int)=(fe t x k,0) by
         rw[D.out];exact vc bx.out.1 (by rw[←D.out,aE];omega) (by rw[bx.out.2];omega) g4.out)
        have d3:=tS (K:=gK K k) (x:=(x:Int)) (y:=(k:Int)) H (by rw[D.out];exact f3.out) (by
         have h1:=iD K (show k≤n by omega)
         omega) (by omega) (by rw[D.out,bx.out.2];omega) (by omega) (by omega)
        rw[gr.out] at d3;clear f l C o9 H;go_wp2_with fail;refine d3.mono ?_;rintro e w8 ⟨A8,c8,r8,rfl,h8,q8,b8⟩;clear d3
        have bv:SvAt W i n ga gu w (k+1) A8 c8 r8 (av.set k (tj (some x))) (ub.set x true) w8:=by
         refine⟨h8,by rw[V.out];exact q8.out,?_,F.below b8,by rw[DH];exact ch.out,fun j hj=>?_,J.below b8,by rw[DH];exact cg.out,fun j hj=>?_,(Di b9 b8)⟩
         · rw[←aE,q8.out,eZ,←D.out,aE];exact bd.out
         · rw[V.out,DG]
           by_cases e:k=j
           · subst e;rw[if_pos rfl,if_pos Z];exact congrArg (fun o=>some (tj o)) (BF fm.out).symm
           · rw[if_neg e];show _=some (tj (uD (ps++[(k,x)]) j));rw[Aa ps k x j (fun e2=>e e2.symm)];exact U.out j (by omega)
         · rw[V.out,DG]
           show _=some (ge (ps++[(k,x)]) j)
           rw[ty]
           by_cases e:x=j
           · subst e;rw[if_pos rfl,if_pos fv,Dv rfl,Bool.or_true]
           · rw[if_neg e,Du e,Bool.or_false];exact bc.out j hj
        clear F J h8;go_wp2;go_roundw
        case rel=>exact⟨k+1,A8,c8,r8,_,_,by omega,rfl,by go_num,bv⟩
        case measure=>simp[intOf];omega
  · obtain rfl:k=n:=by omega
    have gb:decide ((k:Int)<(k:Int))=false:=Du (by omega);have cy:=Dj (show R=if gg t ps k=true then (nJ k ps fun i=>fn t i k,0) else ([],6) by rw[hc.out,hS.out]);have g6:=Dj (show t.length=m by rw[←D.out,aE];exact bd.out);have f5:=Dj (show ∀ p∈ps,p.1<k∧p.2<m from fun p hp=>by have:=M.out.red.lt p hp;rw[d7.out,hm.out] at this;exact this);obtain⟨wq,h4⟩:∃ wq:World,wq=wr:=⟨_,rfl⟩;subst h4;go_wp2
    go_loopw [12] (fun iv wr=>C5 t ps m k wq iv wr) (fun iv _=>m-(intOf iv).toNat)
    case atStart=>exact⟨0,by omega,rfl,fun j hj=>by omega,DY _ _⟩
    case round =>
     obtain⟨i,hi,rfl,hz,b2⟩:=hrel
     by_cases hil:i<m
     · have hy:(i:Int)<(rs.length:Int):=by omega
       have g7:(i:Int)<(m:Int):=by omega
       have dx:(i:Int)<(rows.length:Int):=by have:=hm.out;omega
       have cm:=(l.below b2).cell (bc.out i hil);obtain⟨u,hu⟩:∃ u,Hid (ge ps i=u):=⟨_,rfl⟩;rw[hu.out] at cm
       cases u with
       | true =>
        have dt:=Dj (show ∀ j,j<i+1→(ge ps j || decide (fn t j k=0))=true from fun j hj=>by
         by_cases e:j=i
         · rw[e,hu.out];rfl
         · exact hz.out j (by omega))
        go_wp2;go_roundw
        case rel=>exact⟨i+1,by omega,by go_num,dt,b2⟩
        case measure=>simp[intOf];omega
       | false =>
        obtain⟨a,r,rfl,fr,cd,G,O⟩:=(C.below b2).at (k:=i) (by omega);have c7:=b0.out r (Dm O.out);have cz:(k:Int)<(r.ds.length:Int):=by omega
        have fl:=G.len;have bz:k<r.ds.length:=by omega
        obtain⟨b,d,eb,gm,dh,dr,d5,cl,bn⟩:=G.at bz;have T:=Dj (show fn t i k=d.q by rw[←D.out];exact uk O.out bn.out);rw[eb] at cd;clear eb G c7;obtain⟨s,hs⟩:∃ s,Hid (bH d.q 0=s):=⟨_,rfl⟩;have b7:=fV cl;rw[hs.out] at b7;go_wp2_with fail;refine b7.mono ?_;rintro e w6 ⟨rfl,b6⟩;clear b7;have g0:=Di b2 b6
        by_cases hzz:d.q=0
        · have dk:(s != 0)=false:=by rw[bne_eq_false_iff_eq,←hs.out];exact cmpR_zero.2 hzz
          have dt:=Dj (show ∀ j,j<i+1→(ge ps j || decide (fn t j k=0))=true from fun j hj=>by
           by_cases e:j=i
           · rw[e,hu.out,T.out,Dv hzz];rfl
           · exact hz.out j (by omega))
          clear hzz;go_wp2;go_roundw
          case rel=>exact⟨i+1,by omega,by go_num,dt,g0⟩
          case measure=>simp[intOf];omega
        · have dk:(s != 0)=true:=by rw[bne_iff_ne];intro e;exact hzz (cmpR_zero.1 (by rw[hs.out];exact e))
          have hf:=Dj (show R=([],6) by
           rw[cy.out,if_neg];intro h9;unfold gg at h9;have:=List.all_eq_true.1 h9 i (DT.2 (by rw[g6.out];exact hil));rw[hu.out,T.out,Du hzz] at this
           cases this)
          clear hzz;go_wp2
          go_ret2
          exact RetLE.err hf.out rfl ((Di bf g0))
     · obtain rfl:i=m:=by omega
       have g9:decide ((i:Int)<(rs.length:Int))=false:=Du (by omega);have gp:decide (i<rs.length)=false:=Du (by omega);obtain⟨qs,db⟩:∃ qs,Hid (nJ k ps (fun i=>fn t i k)=qs):=⟨_,rfl⟩
       have hf:=Dj (show R=(qs,0) by
        rw[cy.out,if_pos,db.out];unfold gg;rw[List.all_eq_true];intro j hj;exact hz.out j (by rw[DT,g6.out] at hj;exact hj))
       have cv:=Dj (show qs.length=k by rw[←db.out,it]);have h7:=Di bf b2;replace C:=C.below b2;replace f:=f.below b2;clear l b2;obtain⟨wp,gs⟩:∃ wp:World,wp=wr:=⟨_,rfl⟩;subst gs;go_wp2
       go_loopw [13,14] (fun v iv wr=>qI qs wp v iv wr) (fun _ iv _=>k-(intOf iv).toNat)
       case atStart=>exact⟨0,by omega,rfl,LsAt.start _ (DY _ _)⟩
       case round =>
        obtain⟨j,hj,rfl,L⟩:=hrel;rw[cv.out] at hj;have d2:=L.bel
        by_cases hjl:j<k
        · have k4:(j:Int)<(k:Int):=by omega
          have fb:j<1000000000000:=by omega
          have E:=(f.below d2).cell (U.out j hjl);obtain⟨o,ho⟩:∃ o,Hid (uD ps j=o):=⟨_,rfl⟩
          have bo:qs[j]?=some (match uD ps j with | some i=>fn t i k | none=>0):=by
           rw[←db.out,←yg];unfold nJ;rw[Dq,DS hjl];rfl
          rw[ho.out] at E bo
          cases o with
          | none =>
           have bq:wr.cell? ⟨ga,j,none⟩=some (.int .i64 (-1)):=E;have hq:=Dj (show qs[j]?=some ((0:Int):Rat) by rw[bo];rfl);clear E bo;go_wp2_with fail;refine (aO 0 _ (by decide) (by decide)).mono ?_;rintro e w4 ⟨v1,rfl,⟨n1,A1,a1,l1,B1,c1,m1,rfl,na,nb,iq⟩,b1⟩;replace L:=L.below b1;obtain⟨os,ho,dq,dp,I⟩:=L.app fb hq.out na nb iq;clear na nb iq
           go_wp2_with (at_builtin;refine cQ rfl rfl _ _ rfl _ _ os rfl ho ⟨w4.heap.size,0,none⟩ 1 ⟨n1,A1,a1,l1,B1,c1,m1⟩ rfl (World.news_of_block (heap_alloc_new w4 _)) dq dp ?_;intro v6 w6 c0 c2)
           have c4:=I.out v6 w6 c0 c2;clear I ho c2 c0 L;go_wp2;go_roundw
           case rel=>exact⟨j+1,by rw[cv.out];omega,by go_num,c4⟩
           case measure=>simp[intOf];omega
          | some x =>
           have bq:wr.cell? ⟨ga,j,none⟩=some (.int .i64 (x:Int)):=E;have fz:decide ((x:Int)<0)=false:=Du (by omega);have g1:x<i:=CD ho.out f5.out;have g3:(x:Int)<(rs.length:Int):=by omega
           obtain⟨a,r,rfl,fr,cd,G,O⟩:=(C.below d2).at (k:=x) (by omega);have c7:=b0.out r (Dm O.out);have cz:(k:Int)<(r.ds.length:Int):=by omega
           have fl:=G.len;have bz:k<r.ds.length:=by omega
           obtain⟨b,d,eb,gm,dh,dr,d5,cl,bn⟩:=G.at bz;have T:=Dj (show fn t x k=d.q by rw[←D.out];exact uk O.out bn.out);rw[eb] at cd;have hq:=Dj (show qs[j]?=some d.q by rw[bo];exact congrArg some T.out);clear eb G c7 E bo;obtain⟨n1,A1,a1,l1,B1,c1,m1,ev,na,nb,iq⟩:=cl
           unfold FrD.v aZ at ev
           injection ev with ev
           have e1:d.neg=n1:=by injection ev with ev;injection ev with ev _;injection ev
           have gc:(.slice d.a d.la.length d.ca:Value)=.slice A1 l1.length a1:=by injection ev with ev;injection ev with _ ev;injection ev
           have f6:(.slice d.b d.lb.length d.cb:Value)=.slice B1 m1.length c1:=by injection ev with ev;injection ev with _ ev;injection ev with _ ev;injection ev
           rw[e1] at dh;rw[gc] at dr;rw[f6] at d5;clear ev e1 gc f6;obtain⟨os,ho,dq,dp,I⟩:=L.app fb hq.out na nb iq;clear na nb iq
           go_wp2_with (at_builtin;refine cQ rfl rfl _ _ rfl _ _ os rfl ho ⟨wr.heap.size,0,none⟩ 1 ⟨n1,A1,a1,l1,B1,c1,m1⟩ rfl (World.news_of_block (heap_alloc_new wr _)) dq dp ?_;intro v6 w6 c0 c2)
           have c4:=I.out v6 w6 c0 c2;clear I ho c2 c0 L;go_wp2;go_roundw
           case rel=>exact⟨j+1,by rw[cv.out];omega,by go_num,c4⟩
           case measure=>simp[intOf];omega
        · obtain rfl:j=k:=by omega
          have fz:decide ((j:Int)<(j:Int))=false:=Du (by omega);obtain⟨B,cb,es,rfl,gz,h2⟩:=L.done cv.out.symm;go_wp2
          go_ret2
          exact⟨B,cb,es,by rw[hf.out];rfl,gz,by rw[hf.out];exact h2,(Di h7 d2)⟩
end Go.Proofs.YtjhkapjadfpimaaGreat
