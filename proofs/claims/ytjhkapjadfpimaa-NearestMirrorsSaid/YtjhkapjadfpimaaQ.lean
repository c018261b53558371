/- Contracts of functions, for the law. -/
import Derived.Test.YtjhkapjadfpimaaWTrim
import Derived.Laws.AppendOwnNone
import Derived.Deep.DeepMust
import Derived.Laws.OwnMore
import Derived.Deep.AppendLies
import Derived.Deep.RegionHeld3
import Derived.Deep.DrawnRows
namespace Go.Proofs.Ytjhkapjadfpimaa
set_option linter.unusedVariables false
set_option linter.unusedSimpArgs false
open Go.RowKit Plain
theorem trim_nv {A:Option Addr}{c:Nat}{l:List Nat}{w:World}(h:Nv w A c l) :
 Calls Try.prog 76 #[.slice A l.length c] w fun e w'=>∃ l',e=.returned (.slice A l'.length l'.length)∧Nv w A l'.length l'∧NatIs l' (val l)∧l'.length≤l.length∧w=w':=by
 refine (trim_any _ _ _ _ h.rd h.len h.big).mono ?_;rintro e w' ⟨rfl,rfl⟩;have hle:=trimN_le l l.length;refine⟨trimL l,?_,⟨Nat.le_refl _,by rw[trimL_length];have:=h.big;omega,h.rd.take _,h.dig.trimL⟩,natIs_trimL h.dig,by rw[trimL_length];exact hle,rfl⟩;rw[trimL_length]
def validL (l:List Nat):Bool:=decide (trimN l l.length=l.length)
theorem below_drewN {B:Nat}{a w:World}(h:Below B a w) (n:Nat):Below B a (w.drewN n):=⟨h.os,h.tape,h.output,h.size,h.block⟩
theorem row_alloc (w:World){cs:Array Value}{l:List Nat}(e:cs=(u32s l).toArray):Row (w.alloc (.cells cs 72)) w.heap.size l:=by
 subst e;exact Row.new w l
theorem val_two (x:Nat) (hx:x<pw 2):val [x % 4294967296,x / 4294967296 % 4294967296]=x:=by
 simp only[val,pw] at *
 omega
set_option maxRecDepth 100000 in
set_option maxHeartbeats 400000 in
theorem fromUint_any (x:Nat) (w:World) (hx:x<pw 2) :
 Calls Try.prog 53 #[.int .u64 (x:Int)] w (RetNat x 2 w):=by
 have hrow:=row_alloc w (cs:=#[Value.int IntKind.u32 ((x:Int) % 4294967296),Value.int IntKind.u32 ((x:Int) / 4294967296 % 4294967296)]) (l:=[x % 4294967296,x / 4294967296 % 4294967296]) (by simp[u32s]);have hd:Dig [x % 4294967296,x / 4294967296 % 4294967296]:=Dig.cons (by omega) (Dig.cons (by omega) Dig.nil);have hv:=Lib.hid (val_two x hx);clear hx;go_enter Try.func53,Try.ntmps53;go_wp2_with fail;refine (trim_row hrow rfl hd (by simp)).mono ?_;rintro e w' ⟨l',rfl,h1,h2,h3,rfl⟩;go_wp2;go_ret;exact⟨_,_,_,rfl,h1,hv.out ▸ h2,h3,(Below.refl _ _).alloc (Nat.le_refl _) _⟩
theorem or_join (d0 d1:Nat) (h0:d0<4294967296) (h1:d1<4294967296):bits .or .u64 ((d1:Int)*4294967296) (d0:Int)=((d0+4294967296*d1:Nat):Int):=by
 have:=u64_or_nat (d1*4294967296) d0 (by omega) (by omega);rw[nat_join 32 _ _ (by simp) (by simpa using h0)] at this;rw[show ((d1:Int)*4294967296)=((d1*4294967296:Nat):Int) by omega,this];omega
theorem cmp_at_lt {l1 l2:List Nat}{m n j j1:Nat}(n1:NatIs l1 m) (n2:NatIs l2 n) (h1:j<l1.length) (h2:j<l2.length) (hj:j1=j+1) (hd:Hid (l1.drop j1=l2.drop j1)) (h:l1.getD j 0<l2.getD j 0):cmpI m n=-1:=by
 subst hj;exact cmpI_lt (by rw[←n1.val,←n2.val];exact val_lt_at n1.dig h1 h2 hd.out h)
theorem cmp_at_gt {l1 l2:List Nat}{m n j j1:Nat}(n1:NatIs l1 m) (n2:NatIs l2 n) (h1:j<l1.length) (h2:j<l2.length) (hj:j1=j+1) (hd:Hid (l1.drop j1=l2.drop j1)) (h:l2.getD j 0<l1.getD j 0):cmpI m n=1:=by
 subst hj;exact cmpI_gt (by rw[←n1.val,←n2.val];exact val_lt_at n2.dig h2 h1 hd.out.symm h)
theorem cmp_at_eq {l1 l2:List Nat}{j j1:Nat}(h1:j<l1.length) (h2:j<l2.length) (hj:j1=j+1) (hd:Hid (l1.drop j1=l2.drop j1)) (h:l1.getD j 0=l2.getD j 0):l1.drop j=l2.drop j:=by
 subst hj;exact drop_eq_of h1 h2 hd.out h
def CmpInv (l1 l2:List Nat) (w:World) (i:Value) (wr:World):Prop :=
 ∃ k:Nat,k≤l1.length∧i=.int .i64 k∧Hid (l1.drop (l1.length-k)=l2.drop (l1.length-k))∧Below w.heap.size w wr
set_option maxRecDepth 100000 in
set_option maxHeartbeats 400000 in
theorem cmp_any {A B:Option Addr}{ca cb:Nat}{la lb:List Nat}{w:World}(ha:Nv w A ca la) (hb:Nv w B cb lb) :
 Calls Try.prog 58 #[.slice A la.length ca,.slice B lb.length cb] w fun e w'=>e=.returned (.int .i64 (cmpI (val la) (val lb)))∧Below w.heap.size w w':=by
 go_enter Try.func58,Try.ntmps58;go_wp2_with fail;refine (trim_nv ha).mono ?_;rintro e w' ⟨l1,rfl,h1,n1,b1,rfl⟩;go_wp2_with fail;refine (trim_nv hb).mono ?_;rintro e w' ⟨l2,rfl,h2,n2,b2,rfl⟩;clear b1 b2 ha hb;have hg1:=h1.big;have hg2:=h2.big
 rcases Nat.lt_trichotomy l1.length l2.length with hl | hl | hl
 · have hf:=Lib.hid (cmpI_lt (n1.val ▸ n2.val ▸ val_lt_of_len h1.dig n2.canon hl));have hne:(((l1.length:Nat):Int) != ((l2.length:Nat):Int))=true:=by rw[bne_iff_ne];omega
   go_wp2;go_ret;refine⟨?_,Below.refl _ _⟩;rw[hf.out];rfl
 · have hne:(((l1.length:Nat):Int) != ((l2.length:Nat):Int))=false:=by rw[bne_eq_false_iff_eq];omega
   have hl':=Lib.hid hl;have hle:l1.length≤l2.length:=by omega
   clear hl;go_wp2
   go_loopw [23] (fun i wr=>CmpInv l1 l2 w i wr) (fun i _=>l1.length-(intOf i).toNat)
   case atStart=>exact⟨0,by omega,rfl,by show l1.drop _=l2.drop _;rw[List.drop_of_length_le (by omega),List.drop_of_length_le (by rw[←hl'.out];omega)],Below.refl _ _⟩
   case round =>
    obtain⟨k,hk,rfl,hd,hbel⟩:=hrel
    by_cases hkl:k<l1.length
    · obtain⟨a,d,rfl,hab,hac,hda,hga⟩:=(h1.below hbel).at (k:=l1.length-1-k) (by omega);obtain⟨b,f,rfl,hbb,hbc,hdb,hgb⟩:=(h2.below hbel).at (k:=l1.length-1-k) (by omega)
      rcases Nat.lt_trichotomy d f with hdf | hdf | hdf
      · have hf:=Lib.hid (cmp_at_lt (j:=l1.length-1-k) n1 n2 (by omega) (by omega) (by omega) hd (by rw[hga.out,hgb.out];exact hdf));go_wp2
        go_quiet (fail)
        go_wp2;go_ret;refine⟨?_,below_drewN hbel _⟩;rw[hf.out];rfl
      · subst hdf;have hf:=Lib.hid (cmp_at_eq (j:=l1.length-1-k) (by omega) (by omega) (by omega) hd (by rw[hga.out,hgb.out]));go_wp2
        go_quiet (fail)
        go_wp2
        go_quiet (fail)
        go_wp2;go_roundw
        case rel=>exact⟨k+1,by omega,by go_num,by show l1.drop _=l2.drop _;rw[show l1.length-(k+1)=l1.length-1-k by omega];exact hf.out,below_drewN hbel _⟩
        case measure=>simp[intOf];omega
      · have hf:=Lib.hid (cmp_at_gt (j:=l1.length-1-k) n1 n2 (by omega) (by omega) (by omega) hd (by rw[hga.out,hgb.out];exact hdf));go_wp2
        go_quiet (fail)
        go_wp2
        go_quiet (fail)
        go_wp2;go_ret;refine⟨?_,below_drewN (below_drewN hbel _) _⟩;rw[hf.out];rfl
    · have hk0:=Lib.hid (show l1.length-k=0 by omega)
      have hf:=Lib.hid (cmpI_eq (m:=val la) (n:=val lb) (by
       have:=hd.out;rw[hk0.out,List.drop_zero,List.drop_zero] at this;rw[←n1.val,←n2.val,this]))
      go_wp2;go_ret;refine⟨?_,hbel⟩;rw[hf.out];rfl
 · have hf:=Lib.hid (cmpI_gt (n1.val ▸ n2.val ▸ val_lt_of_len h2.dig n1.canon hl));have hne:(((l1.length:Nat):Int) != ((l2.length:Nat):Int))=true:=by rw[bne_iff_ne];omega
   go_wp2;go_ret;refine⟨?_,Below.refl _ _⟩;rw[hf.out];rfl
def OwnD (w:World) (base:Nat) (v:Value) (l:List Nat):Prop:=w.ownsRow base 72 1 v l.length (u32s l)
theorem OwnD.nil (w:World) (base:Nat):OwnD w base (.slice none 0 0) []:=World.ownsRow_nil w base _ _
theorem OwnD.eq {w:World}{base:Nat}{v:Value}{l l':List Nat}(h:OwnD w base v l) (e:l=l'):OwnD w base v l':=e ▸ h
theorem OwnD.form {w:World}{base:Nat}{v:Value}{l:List Nat}(h:OwnD w base v l):∃ A c,v=.slice A l.length c∧l.length≤c∧Rd w A l:=by
 rcases h.2 with ⟨rfl,h0⟩ | ⟨g,cap,cur,rfl,hb,hg,hn,hm,hs,ht⟩
 · have:l=[]:=List.eq_nil_of_length_eq_zero h0;subst this;exact⟨none,0,rfl,by simp,fun hx=>by simp[u32s] at hx⟩
 · refine⟨_,cap,rfl,hn,fun hx=>⟨_,rfl,(Array.getElem?_eq_some_iff.1 hg).1,fun j hj=>?_⟩⟩;have h2:w.cell? ⟨g,j,none⟩=(u32s l)[j]?:=World.ownsRow.cellAt (n:=l.length) (xs:=u32s l) (e:=72) (size:=1) (base:=base) (cap:=cap) ⟨by simp[u32s],.inr ⟨g,cap,cur,rfl,hb,hg,hn,hm,hs,ht⟩⟩ j (by rw[u32s_length] at hj;omega);rw[add_zero_,h2,List.getElem?_eq_getElem hj]
theorem OwnD.nv {w:World}{base:Nat}{v:Value}{l:List Nat}(h:OwnD w base v l) (hd:Dig l) (hm:l.length≤70368744177664):∃ A c,v=.slice A l.length c∧Nv w A c l:=by
 obtain⟨A,c,e,h1,h2⟩:=h.form;exact⟨A,c,e,h1,hm,h2,hd⟩
theorem OwnD.alloc {w:World}{base:Nat}{v:Value}{l:List Nat}(h:OwnD w base v l) (o:Obj):OwnD (w.alloc o) base v l:=World.ownsRow.alloc h o
theorem OwnD.empty (w:World) (base:Nat) (hb:base≤w.heap.size):OwnD (w.alloc (.cells #[] 72)) base (.slice (some ⟨w.heap.size,0,none⟩) 0 0) [] :=
 World.ownsRow_lit w #[] 0 hb (Nat.zero_le _) rfl
theorem Rd.alloc {w:World}{A:Option Addr}{l:List Nat}(h:Rd w A l) (o:Obj):Rd (w.alloc o) A l:=h.below ((Below.refl _ _).alloc (Nat.le_refl _) o)
theorem OwnD.ret {w W:World}{v:Value}{l:List Nat}{n m:Nat}(h:OwnD w W.heap.size v l) (hn:NatIs l n) (hm:l.length≤m) (hb:Below W.heap.size W w) (h46:l.length≤70368744177664):RetNat n m W (.returned v) w:=by
 obtain⟨A,c,rfl,hv⟩:=h.nv hn.dig h46;exact⟨A,c,l,rfl,hv,hn,hm,hb⟩
theorem OwnD.grown_below {a w w':World}{B base:Nat}{v:Value}{l:List Nat}(h:OwnD w base v l) (hb:Below B a w) (hg:w.grownBy w' v.ownBlock) (hB:B≤base) (hB2:B≤w.heap.size):Below B a w' :=
 hb.grown hg hB2 (fun k hk=>by have:=(World.ownsRow.lt h k hk).1;omega)
theorem own_snoc {w wr w2:World}{v v':Value}{o:List Nat}{x:Nat}{ob:Obj}(hown:OwnD wr w.heap.size v o) (hbel:Below w.heap.size w wr) (h2:OwnD w2 w.heap.size v' (o++[x])) (hg:(wr.alloc ob).grownBy w2 v.ownBlock):Below w.heap.size w w2 :=
 (hown.alloc ob).grown_below (hbel.alloc hbel.size ob) hg (Nat.le_refl _) (by have:=hbel.size;simp;omega)
section
variable (w:World)
theorem run_app (base:Nat) (v:Value) (l:List Nat) (hown:OwnD w base v l) (A:Option Addr) (m c:Nat) (l2:List Nat) (hr:Rd w A l2) (hm:l2.length=m) (h63:l.length+m≤1000000000000) (hbase:base≤w.heap.size) :
 ∃ v' w',(Builtin.append_ #[26,26] 26 #[v,.slice A m c]).run Try.prog w=.ok v' w'∧OwnD w' base v' (l++l2)∧w.grownBy w' v.ownBlock:=by
 subst hm;obtain⟨i,hi,hz0,hz1,hz2⟩:=info_parts infoU32
 by_cases h0:l2=[]
 · subst h0
   rcases A with _ | ad
   · have hrun:(Builtin.append_ #[26,26] 26 #[v,.slice none 0 c]).run Try.prog w=.ok v w:=by
      rcases hown.2 with ⟨rfl,h0⟩ | ⟨g,cap,cur,rfl,_,_,hnc,_⟩
      · simp[Builtin.append_,run_underlying Try.underlying26,sizeOf,typeInfo,hi,Builtin.lenOf,Builtin.firstCells]
      · simp[Builtin.append_,run_underlying Try.underlying26,sizeOf,typeInfo,hi,Builtin.lenOf,Builtin.firstCells,hnc,storeCells]
     exact⟨v,w,hrun,hown.eq (by simp),World.grownBy.refl w _⟩
   · obtain⟨v',w',hrun,h2,h3,_⟩:=run_append_own (P:=Try.prog) w base 26 26 72 i (.int .u32 0) 1 4 Try.underlying26 hi hz0 hz1 hz2 rfl (by decide) v l.length (u32s l) hown ad 0 c [] rfl (by simp) (by simp) (by unfold maxLen;omega) (by omega) hbase;exact⟨v',w',hrun,by simpa [OwnD] using h2,h3⟩
 · obtain⟨ad,rfl,h1,h2⟩:=hr (by rw[u32s_length];exact List.length_pos_iff.2 h0)
   obtain⟨v',w',hrun,h4,h5,_⟩:=run_append_own (P:=Try.prog) w base 26 26 72 i (.int .u32 0) 1 4 Try.underlying26 hi hz0 hz1 hz2 rfl (by decide) v l.length (u32s l) hown ad l2.length c (u32s l2) (by simp[u32s])
    (fun j u hu=>by
     obtain⟨hj,rfl⟩:=List.getElem?_eq_some_iff.1 hu;exact h2 j hj) (by intro u hu;simp[u32s] at hu;obtain⟨d,_,rfl⟩:=hu;rfl) (by unfold maxLen;omega) (by omega) hbase
   refine⟨v',w',hrun,?_,h5⟩;unfold OwnD;rw[u32s_append,List.length_append];exact h4
theorem wpList_app {ops:Array Oper}{rest:List Oper}{o:Oper}{a:Act}{Q:Exit→Act→World→Prop}(hgd:o.guard=none) (hty:o.type=26) (s x:Operand)
 (ho:o.op=.call { callee:=.builtin .append,args:=#[s,x],argTypes:=#[26,26] })
 (base:Nat) (v:Value) (l:List Nat) (hs:a.eval s=v) (hown:OwnD w base v l) (A:Option Addr) (m c:Nat) (l2:List Nat) (hx:a.eval x=.slice A m c) (hr:Rd w A l2) (hm:l2.length=m)
 (h63:l.length+m≤1000000000000) (hbase:base≤w.heap.size)
 (h:∀ v' w',OwnD w' base v' (l++l2)→w.grownBy w' v.ownBlock→wpList Try.prog ops Q rest (a.put o.dst v') w'):wpList Try.prog ops Q (o::rest) a w:=by
 refine wpList_plain hgd fun K hK=>?_;obtain⟨v',w',hrun,h2,h3⟩:=run_app w base v l hown A m c l2 hr hm h63 hbase
 unfold Oper.wp execOp
 simp only[ho,hty,resolve,invoke,builtin,Sem.run_bind,Sem.run_pure,Result.andThen_ok,List.map_toArray,List.map_cons,List.map_nil,hs,hx,hrun]
 exact hK _ _ (h v' w' h2 h3)
end
abbrev Only (w w':World) (g:Nat):Prop:=w.grownBy w' (some g)
section
variable {w w' w'':World}{g:Nat}
theorem Only.refl (w:World) (g:Nat):Only w w g:=World.grownBy.refl w _
theorem Only.trans (h:Only w w' g) (k:Only w' w'' g):Only w w'' g :=
 ⟨k.os.trans h.os,k.tape.trans h.tape,k.output.trans h.output,Nat.le_trans h.size k.size,fun i hi hn=>(k.block i (Nat.lt_of_lt_of_le hi h.size) hn).trans (h.block i hi hn)⟩
theorem Only.set (h:Only w w' g) (o:Nat) (u:Value):Only w (w'.setCell ⟨g,o,none⟩ u) g :=
 ⟨h.os,h.tape,h.output,by simpa [World.setCell] using h.size,fun i hi hn=>(Below.heap_setCell w' ⟨g,o,none⟩ u i (by rintro rfl;exact hn rfl)).trans (h.block i hi hn)⟩
theorem Only.drew (h:Only w w' g):Only w w'.drew g:=⟨h.os,h.tape,h.output,h.size,h.block⟩
theorem Only.of_below (h:Below w.heap.size w w') (g:Nat):Only w w' g:=⟨h.os,h.tape,h.output,h.size,fun i hi _=>h.block i hi⟩
theorem Only.to_below {B:Nat}{a:World}(hb:Below B a w) (h:Only w w' g) (hg:B≤g) (hB:B≤w.heap.size):Below B a w' :=
 hb.grown h hB (fun k hk=>by simp at hk;omega)
end
abbrev fracV (neg:Bool) (A:Option Addr) (n c:Nat) (B:Option Addr) (m d:Nat):Value:=.agg #[.bool neg,.slice A n c,.slice B m d]
def Blk (w:World) (g:Nat) (t:TypeId) (cs:Array Value):Prop:=w.heap[g]?=some (.cells cs t (0,0))
section
variable {w w':World}{g:Nat}{t:TypeId}{cs:Array Value}
theorem Blk.lt (h:Blk w g t cs):g<w.heap.size:=by
 rcases Nat.lt_or_ge g w.heap.size with hlt | hge
 · exact hlt
 · unfold Blk at h;rw[Array.getElem?_eq_none hge] at h;cases h
theorem Blk.cell (h:Blk w g t cs) (i:Nat):w.cell? ⟨g,i,none⟩=cs[i]?:=by
 unfold Blk at h
 simp[World.cell?,h]
theorem Blk.free (h:Blk w g t cs) (i:Nat):w.frozen? ⟨g,i,none⟩=false:=by
 unfold Blk at h
 simp[World.frozen?,h]
theorem Blk.new (w:World) (t:TypeId) (cs:Array Value):Blk (w.alloc (.cells cs t)) w.heap.size t cs:=heap_alloc_new w _
theorem Blk.set (h:Blk w g t cs) (i:Nat) (u:Value):Blk (w.setCell ⟨g,i,none⟩ u) g t (cs.setIfInBounds i u):=by
 unfold Blk at h ⊢
 simp[World.setCell,Array.getElem?_modify,h]
theorem Blk.below {B:Nat}(h:Blk w g t cs) (hb:Below B w w') (hg:g<B):Blk w' g t cs:=(hb.block g hg).trans h
theorem Blk.keep (h:Blk w g t cs) (hb:Below w.heap.size w w'):Blk w' g t cs:=h.below hb h.lt
theorem Blk.only {g':Nat}(h:Blk w g t cs) (hb:Only w w' g') (hg:g≠g'):Blk w' g t cs:=(hb.block g h.lt (by simpa using hg)).trans h
end
theorem boxed (w:World) (cs:Array Value) (t:TypeId):∃ w0,w.alloc (.cells cs t)=w0∧Below w.heap.size w w0∧w.heap.size<w0.heap.size∧Blk w0 w.heap.size t cs :=
 ⟨_,rfl,(Below.refl _ _).alloc (Nat.le_refl _) _,by simp,Blk.new w t cs⟩
theorem Blk.f0 {w:World}{g:Nat}{t:TypeId}{a b c:Value}(h:Blk w g t #[a,b,c]):w.cell? ⟨g,0,none⟩=some a:=h.cell 0
theorem Blk.f1 {w:World}{g:Nat}{t:TypeId}{a b c:Value}(h:Blk w g t #[a,b,c]):w.cell? ⟨g,1,none⟩=some b:=h.cell 1
theorem Blk.f2 {w:World}{g:Nat}{t:TypeId}{a b c:Value}(h:Blk w g t #[a,b,c]):w.cell? ⟨g,2,none⟩=some c:=h.cell 2
theorem below_step {w0 W w3:World}(h:Below w0.heap.size w0 W) (b3:Below W.heap.size W w3):Below w0.heap.size w0 w3:=h.trans (b3.mono h.size)
theorem Blk.set3 {w:World}{g:Nat}{t:TypeId}{a b c:Value}(h:Blk w g t #[a,b,c]) (x y z:Value):∃ w',((w.setCell ⟨g,0,none⟩ x).setCell ⟨g,1,none⟩ y).setCell ⟨g,2,none⟩ z=w'∧Blk w' g t #[x,y,z]∧Only w w' g :=
 ⟨_,rfl,((h.set 0 x).set 1 y).set 2 z,(((Only.refl w g).set 0 x).set 1 y).set 2 z⟩
def zeroB (l:List Nat):Bool:=decide (l=[])
theorem zeroB_len (l:List Nat):(((l.length:Nat):Int) == 0)=zeroB l:=by
 unfold zeroB;rw[Bool.eq_iff_iff,beq_iff_eq,decide_eq_true_eq]
 constructor
 · intro h;exact List.eq_nil_of_length_eq_zero (by omega)
 · rintro rfl;rfl
def vldF (neg:Bool) (la lb:List Nat):Bool:=validL la&&(validL lb&&(!zeroB lb&&(!(neg&&zeroB la)&&decide (Nat.gcd (val la) (val lb)=1))))
theorem one_iff {l:List Nat}{n:Nat}(h:NatIs l n):decide (l=[1])=decide (n=1):=by
 have h1:NatIs [1] 1:=⟨Dig.cons (by omega) Dig.nil,by simp[Canon],rfl⟩;rw[decide_eq_decide]
 constructor
 · rintro rfl;rw[←h.val];rfl
 · rintro rfl;exact h.uniq h1
theorem canon_of_validL {l:List Nat}(h:validL l=true):Canon l:=canon_of_trimN (by unfold validL at h;simpa using h)
end Go.Proofs.Ytjhkapjadfpimaa
namespace Go.Proofs.Ytjhkapjadfpimaa.Plain
set_option linter.unusedVariables false
set_option linter.unusedSimpArgs false
def sg (neg:Bool) (n:Nat):Int:=if neg=true then -(n:Int) else (n:Int)
theorem sg_natAbs (neg:Bool) (n:Nat):(sg neg n).natAbs=n:=by
 unfold sg;split <;> simp
theorem sg_div {neg:Bool}{n g:Nat}(h:g ∣ n):sg neg n / (g:Int)=sg neg (n / g):=by
 unfold sg
 split
 · rw[Int.neg_ediv_of_dvd (Int.natCast_dvd_natCast.2 h)]
   simp
 · simp
theorem sg_neg {neg:Bool}{n:Nat}:sg neg n<0 ↔ neg=true∧0<n:=by
 unfold sg
 split <;> rename_i h
 · simp[h]
   try omega
 · simp[h]
   try omega
theorem sg_of (z:Int):sg (decide (z<0)) z.natAbs=z:=by
 unfold sg
 by_cases h:z<0
 · simp[h];omega
 · simp[h];omega
theorem sg_not (neg:Bool) (n:Nat):sg (!neg) n=-sg neg n:=by
 unfold sg;cases neg <;> simp
theorem sg_add (neg:Bool) (a b:Nat):sg neg (a+b)=sg neg a+sg neg b:=by
 unfold sg;cases neg <;> simp <;> omega
theorem sg_mul (p q:Bool) (a b:Nat):sg p a*sg q b=sg (p != q) (a*b):=by
 unfold sg;cases p <;> cases q <;> simp[Int.mul_neg,Int.neg_mul]
def QIs (neg:Bool) (la lb:List Nat) (q:Rat):Prop:=NatIs la q.num.natAbs∧NatIs lb q.den∧neg=decide (q.num<0)
theorem QIs.num {neg:Bool}{la lb:List Nat}{q:Rat}(h:QIs neg la lb q):sg neg (val la)=q.num:=by
 rw[h.2.2,h.1.val,sg_of]
theorem QIs.den {neg:Bool}{la lb:List Nat}{q:Rat}(h:QIs neg la lb q):val lb=q.den:=h.2.1.val
theorem QIs.na {neg:Bool}{la lb:List Nat}{q:Rat}(h:QIs neg la lb q):NatIs la q.num.natAbs:=h.1
theorem QIs.nb {neg:Bool}{la lb:List Nat}{q:Rat}(h:QIs neg la lb q):NatIs lb q.den:=h.2.1
theorem QIs.uniq {neg neg':Bool}{la lb la' lb':List Nat}{q:Rat}(h:QIs neg la lb q) (h':QIs neg' la' lb' q):neg=neg'∧la=la'∧lb=lb' :=
 ⟨h.2.2.trans h'.2.2.symm,h.1.uniq h'.1,h.2.1.uniq h'.2.1⟩
theorem QIs.inj {neg:Bool}{la lb:List Nat}{q r:Rat}(h:QIs neg la lb q) (h':QIs neg la lb r):q=r :=
 Rat.ext (h.num.symm.trans h'.num) (h.den.symm.trans h'.den)
theorem QIs.mk {neg:Bool}{la lb:List Nat}{q:Rat}(h:QIs neg la lb q):q=mkRat (sg neg (val la)) (val lb):=by
 rw[h.num,h.den,Rat.mkRat_self]
theorem make_q (neg:Bool) (n:Nat){d:Nat}(hd:d≠0):(mkRat (sg neg n) d).num.natAbs=n / Nat.gcd n d∧(mkRat (sg neg n) d).den=d / Nat.gcd n d∧decide ((mkRat (sg neg n) d).num<0)=(neg&&decide (0<n / Nat.gcd n d)):=by
 have hn:(mkRat (sg neg n) d).num=sg neg (n / Nat.gcd n d):=by
  rw[Rat.num_mkRat,if_neg hd,sg_natAbs,Nat.gcd_comm d n,sg_div (Nat.gcd_dvd_left n d)]
 refine⟨by rw[hn,sg_natAbs],?_,?_⟩
 · rw[Rat.den_mkRat,if_neg hd,sg_natAbs,Nat.gcd_comm d n]
 · rw[hn,Bool.eq_iff_iff,decide_eq_true_eq,sg_neg,Bool.and_eq_true,decide_eq_true_eq]
theorem qIs_make {neg neg':Bool}{n d:Nat}{la lb:List Nat}(hd:d≠0) (ha:NatIs la (n / Nat.gcd n d)) (hb:NatIs lb (d / Nat.gcd n d)) (hn:neg'=(neg&&decide (0<n / Nat.gcd n d))):QIs neg' la lb (mkRat (sg neg n) d):=by
 obtain⟨h1,h2,h3⟩:=make_q neg n hd;exact⟨by rw[h1];exact ha,by rw[h2];exact hb,by rw[h3];exact hn⟩
theorem qIs_valid {neg:Bool}{la lb:List Nat}(ha:NatIs la (val la)) (hb:NatIs lb (val lb)) (h0:lb≠[]) (hz:¬ (neg=true∧la=[])) (hg:Nat.gcd (val la) (val lb)=1):QIs neg la lb (mkRat (sg neg (val la)) (val lb)):=by
 have hd:val lb≠0:=fun e=>h0 (by rw[e] at hb;exact hb.uniq NatIs.nil);refine qIs_make hd (by rw[hg,Nat.div_one];exact ha) (by rw[hg,Nat.div_one];exact hb) ?_;rw[hg,Nat.div_one]
 cases neg with
 | false=>rfl
 | true =>
  have:val la≠0:=fun e=>hz ⟨rfl,by rw[e] at ha;exact ha.uniq NatIs.nil⟩
  simp;omega
theorem QIs.ne {neg:Bool}{la lb:List Nat}{q:Rat}(h:QIs neg la lb q):lb≠[]:=fun e=>by
 have:=h.nb;rw[e] at this;exact q.den_nz this.val.symm
theorem QIs.gcd {neg:Bool}{la lb:List Nat}{q:Rat}(h:QIs neg la lb q):Nat.gcd (val la) (val lb)=1:=by
 rw[h.na.val,h.nb.val];exact q.reduced
theorem QIs.sign {neg:Bool}{la lb:List Nat}{q:Rat}(h:QIs neg la lb q):¬ (neg=true∧la=[]):=fun ⟨h1,h2⟩=>by
 have h3:=h.2.2;rw[h1] at h3;have h4:=h.na;rw[h2] at h4;have h5:q.num.natAbs=0:=h4.val.symm;have:q.num<0:=of_decide_eq_true h3.symm;omega
def Fits (k:Nat) (q:Rat):Prop:=q.num.natAbs<pw k∧q.den<pw k
theorem Fits.mono {j k:Nat}{q:Rat}(h:Fits j q) (hk:j≤k):Fits k q:=⟨Nat.lt_of_lt_of_le h.1 (pw_mono hk),Nat.lt_of_lt_of_le h.2 (pw_mono hk)⟩
theorem fits_mk {k d:Nat}{z:Int}(hz:z.natAbs<pw k) (hd:d<pw k) (hk:0<k:=by omega):Fits k (mkRat z d):=by
 by_cases h0:d=0
 · subst h0
   simp only[Rat.mkRat_zero,Fits,Rat.zero_num,Rat.zero_den]
   have:=pw_mono (a:=1) (b:=k) hk
   simp only[pw_one] at this
   exact⟨by omega,by omega⟩
 · have h1:=make_q (decide (z<0)) z.natAbs h0;rw[sg_of] at h1;exact⟨by rw[h1.1];exact Nat.lt_of_le_of_lt (Nat.div_le_self _ _) hz,by rw[h1.2.1];exact Nat.lt_of_le_of_lt (Nat.div_le_self _ _) hd⟩
theorem mul_lt_pw {j k m n:Nat}(h1:m<pw j) (h2:n<pw k):m*n<pw (j+k):=by
 rw[pw_add];exact Nat.mul_lt_mul'' h1 h2
theorem Fits.pos {k:Nat}{q:Rat}(h:Fits k q):0<k:=by
 rcases Nat.eq_zero_or_pos k with h0 | h0
 · subst h0;have h1:=h.2;have h2:=Nat.pos_of_ne_zero q.den_nz
   simp only[pw] at h1
   omega
 · exact h0
theorem add_lt_pw {k m n:Nat}(h1:m<pw k) (h2:n<pw k):m+n<pw (k+1):=by
 simp only[pw]
 omega
theorem Fits.add {j k:Nat}{p q:Rat}(hp:Fits j p) (hq:Fits k q):Fits (j+k+1) (p+q):=by
 rw[Rat.add_def'];refine fits_mk ?_ (Nat.lt_of_lt_of_le (mul_lt_pw hp.2 hq.2) (pw_mono (by omega)));have h1:(p.num*(q.den:Int)).natAbs<pw (j+k):=by rw[Int.natAbs_mul];exact mul_lt_pw hp.1 hq.2
 have h2:(q.num*(p.den:Int)).natAbs<pw (j+k):=by rw[Int.natAbs_mul,Nat.add_comm];exact mul_lt_pw hq.1 hp.2
 exact Nat.lt_of_le_of_lt (Int.natAbs_add_le _ _) (add_lt_pw h1 h2)
theorem Fits.neg {k:Nat}{q:Rat}(h:Fits k q):Fits k (-q):=⟨by rw[Rat.neg_num,Int.natAbs_neg];exact h.1,h.2⟩
theorem Fits.sub {j k:Nat}{p q:Rat}(hp:Fits j p) (hq:Fits k q):Fits (j+k+1) (p-q):=by
 rw[Rat.sub_eq_add_neg];exact hp.add hq.neg
theorem Fits.mul {j k:Nat}{p q:Rat}(hp:Fits j p) (hq:Fits k q):Fits (j+k) (p*q):=by
 rw[Rat.mul_def'];have:=hp.pos;exact fits_mk (by rw[Int.natAbs_mul];exact mul_lt_pw hp.1 hq.1) (mul_lt_pw hp.2 hq.2)
theorem Fits.zero {k:Nat}(h:0<k):Fits k 0:=by
 have:=pw_mono (a:=1) (b:=k) h
 simp only[pw_one] at this
 exact⟨by simp;omega,by simp;omega⟩
section
variable {n1 n2:Bool}{a1 b1 a2 b2:List Nat}{p q:Rat}
theorem sg_mulNat (neg:Bool) (a b:Nat):sg neg (a*b)=sg neg a*(b:Int):=by
 unfold sg;split <;> simp[Int.neg_mul]
theorem q_add (h1:QIs n1 a1 b1 p) (h2:QIs n1 a2 b2 q):mkRat (sg n1 (val a1*val b2+val a2*val b1)) (val b1*val b2)=p+q:=by
 rw[sg_add,sg_mulNat,sg_mulNat,h1.num,h2.num,h1.den,h2.den,Rat.add_def']
theorem q_sub1 (h1:QIs n1 a1 b1 p) (h2:QIs n2 a2 b2 q) (hn:n1≠n2) (hle:val a2*val b1≤val a1*val b2):mkRat (sg n1 (val a1*val b2-val a2*val b1)) (val b1*val b2)=p+q:=by
 have e:sg n1 (val a1*val b2-val a2*val b1)=sg n1 (val a1*val b2)+sg n2 (val a2*val b1):=by
  unfold sg
  cases n1 <;> cases n2 <;> simp at hn ⊢ <;> omega
 rw[e,sg_mulNat,sg_mulNat,h1.num,h2.num,h1.den,h2.den,Rat.add_def']
theorem q_sub2 (h1:QIs n1 a1 b1 p) (h2:QIs n2 a2 b2 q) (hn:n1≠n2) (hle:val a1*val b2≤val a2*val b1):mkRat (sg n2 (val a2*val b1-val a1*val b2)) (val b1*val b2)=p+q:=by
 have e:sg n2 (val a2*val b1-val a1*val b2)=sg n1 (val a1*val b2)+sg n2 (val a2*val b1):=by
  unfold sg
  cases n1 <;> cases n2 <;> simp at hn ⊢ <;> omega
 rw[e,sg_mulNat,sg_mulNat,h1.num,h2.num,h1.den,h2.den,Rat.add_def']
theorem q_mul (h1:QIs n1 a1 b1 p) (h2:QIs n2 a2 b2 q):mkRat (sg (n1 != n2) (val a1*val a2)) (val b1*val b2)=p*q:=by
 rw[←sg_mul,h1.num,h2.num,h1.den,h2.den,Rat.mul_def']
theorem q_neg (h1:QIs n1 a1 b1 p):mkRat (sg (!n1) (val a1)) (val b1)=-p:=by
 rw[sg_not,h1.num,h1.den,←Rat.neg_mkRat,Rat.mkRat_self]
theorem q_div (h1:QIs n1 a1 b1 p) (h2:QIs n2 a2 b2 q) (h0:q≠0):mkRat (sg (n1 != n2) (val a1*val b2)) (val b1*val a2)=p / q:=by
 have hq:q.num≠0:=fun e=>h0 (Rat.num_eq_zero.1 e)
 have e1:q⁻¹=mkRat (sg n2 (val b2)) (val a2):=by
  rw[Rat.inv_def,h2.den,h2.na.val];have e:q.num=sg n2 q.num.natAbs:=by rw[h2.2.2,sg_of]
  by_cases hneg:q.num<0
  · have hn:n2=true:=by rw[h2.2.2];simpa using hneg
    rw[hn] at e ⊢
    unfold sg at e ⊢
    simp at e ⊢
    rw[←Rat.neg_divInt_neg,show -q.num=(q.num.natAbs:Int) by omega,Rat.divInt_ofNat]
  · have hn:n2=false:=by rw[h2.2.2];simpa using hneg
    rw[hn];unfold sg
    simp
    rw[←Rat.divInt_ofNat,show ((q.num.natAbs:Nat):Int)=q.num by omega]
 rw[Rat.div_def,e1,h1.mk,Rat.mkRat_mul_mkRat,sg_mul]
theorem q_zero (h:QIs n1 a1 b1 p):a1=[] ↔ p=0:=by
 rw[h.na.zero_iff,Int.natAbs_eq_zero,Rat.num_eq_zero]
end
def cmpR (p q:Rat):Int:=if p<q then -1 else if q<p then 1 else 0
theorem cmpR_bd (p q:Rat):-1≤cmpR p q∧cmpR p q≤1:=by
 unfold cmpR
 split
 · omega
 · split <;> omega
theorem cmpR_sub (p q:Rat):cmpR (p-q) 0=cmpR p q:=by
 unfold cmpR;have h1:p-q<0 ↔ p<q:=by grind
 have h2:0<p-q ↔ q<p:=by grind
 simp only[h1,h2]
theorem cmpR_zero {p q:Rat}:cmpR p q=0 ↔ p=q:=by
 unfold cmpR
 constructor
 · intro h
   split at h
   · omega
   · split at h
     · omega
     · grind
 · rintro rfl;rw[if_neg Rat.lt_irrefl,if_neg Rat.lt_irrefl]
theorem cmpR_neg {p q:Rat}:cmpR p q<0 ↔ p<q:=by
 unfold cmpR
 split
 · simp_all
 · split <;> simp_all
theorem cmpR_pos {p q:Rat}:0<cmpR p q ↔ q<p:=by
 unfold cmpR
 split
 · rename_i h
   constructor
   · omega
   · intro h2;exact absurd (Rat.not_le.2 h2) (by simpa using Rat.le_of_lt h)
 · split <;> simp_all
section
variable {n1 n2:Bool}{a1 b1 a2 b2:List Nat}{p q:Rat}
theorem q_cmp_pos (h1:QIs n1 a1 b1 p) (h2:QIs n2 a2 b2 q) (hn:n1=false) (hm:n2=false):cmpI (val a1*val b2) (val a2*val b1)=cmpR p q:=by
 have e1:=h1.num;have e2:=h2.num;rw[hn] at e1;rw[hm] at e2;unfold cmpI cmpR
 simp only[Rat.lt_iff,←e1,←e2,h1.den.symm,h2.den.symm,sg]
 simp only[Bool.false_eq_true,if_false]
 have c1:((val a1:Int)*(val b2:Int)<(val a2:Int)*(val b1:Int)) ↔ val a1*val b2<val a2*val b1:=by
  rw[←Int.natCast_mul,←Int.natCast_mul];omega
 have c2:((val a2:Int)*(val b1:Int)<(val a1:Int)*(val b2:Int)) ↔ val a2*val b1<val a1*val b2:=by
  rw[←Int.natCast_mul,←Int.natCast_mul];omega
 simp only[c1,c2]
theorem q_cmp_neg (h1:QIs n1 a1 b1 p) (h2:QIs n2 a2 b2 q) (hn:n1=true) (hm:n2=true):cmpI (val a2*val b1) (val a1*val b2)=cmpR p q:=by
 have e1:=h1.num;have e2:=h2.num;rw[hn] at e1;rw[hm] at e2;unfold cmpI cmpR
 simp only[Rat.lt_iff,←e1,←e2,h1.den.symm,h2.den.symm,sg]
 simp only[if_true,Int.neg_mul]
 have c1:(-((val a1:Int)*(val b2:Int)) < -((val a2:Int)*(val b1:Int))) ↔ val a2*val b1<val a1*val b2:=by
  rw[←Int.natCast_mul,←Int.natCast_mul];omega
 have c2:(-((val a2:Int)*(val b1:Int)) < -((val a1:Int)*(val b2:Int))) ↔ val a1*val b2<val a2*val b1:=by
  rw[←Int.natCast_mul,←Int.natCast_mul];omega
 simp only[c1,c2]
theorem q_lt_zero (h1:QIs n1 a1 b1 p):n1=true ↔ p<0:=by
 rw[h1.2.2,decide_eq_true_eq,Rat.lt_iff]
 simp
theorem q_cmp_np (h1:QIs n1 a1 b1 p) (h2:QIs n2 a2 b2 q) (hn:n1=true) (hm:n2=false):cmpR p q=-1:=by
 have e1:=(q_lt_zero h1).1 hn;have e2:¬ q<0:=fun h=>by rw[(q_lt_zero h2).2 h] at hm;cases hm
 unfold cmpR;rw[if_pos (by grind)]
theorem q_cmp_pn (h1:QIs n1 a1 b1 p) (h2:QIs n2 a2 b2 q) (hn:n1=false) (hm:n2=true):cmpR p q=1:=by
 have e2:=(q_lt_zero h2).1 hm;have e1:¬ p<0:=fun h=>by rw[(q_lt_zero h1).2 h] at hn;cases hn
 unfold cmpR;rw[if_neg (by grind),if_pos (by grind)]
theorem q_sign (h1:QIs n1 a1 b1 p):cmpR p 0=if a1=[] then 0 else if n1=true then -1 else 1:=by
 by_cases h0:a1=[]
 · rw[if_pos h0,(q_zero h1).1 h0];exact cmpR_zero.2 rfl
 · rw[if_neg h0];have hp:p≠0:=fun e=>h0 ((q_zero h1).2 e)
   by_cases hn:n1=true
   · rw[if_pos hn];unfold cmpR;rw[if_pos ((q_lt_zero h1).1 hn)]
   · rw[if_neg hn];have:¬ p<0:=fun h=>hn ((q_lt_zero h1).2 h);unfold cmpR;rw[if_neg this,if_pos (by grind)]
end
end Go.Proofs.Ytjhkapjadfpimaa.Plain
