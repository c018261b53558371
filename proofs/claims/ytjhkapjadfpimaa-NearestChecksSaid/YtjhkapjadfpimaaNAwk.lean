/- Contracts of functions, for the law. -/
import Derived.Test.YtjhkapjadfpimaaMSame
import Derived.Test.YtjhkapjadfpimaaNSameL
import Derived.Test.YtjhkapjadfpimaaNCheck
import Derived.Test.YtjhkapjadfpimaaNPt
import Derived.Deep.RegionHeld3
namespace Go.Proofs.Ytjhkapjadfpimaa
set_option linter.unusedVariables false
set_option linter.unusedSimpArgs false
open Go.RowKit Plain
attribute [local go_sem ↓] Go.wp_at_zero Go.wp_at_succ
theorem i64_ok {zs:List Int} (h:zs.all (fun z=>decide (-9223372036854775808≤z) && decide (z≤9223372036854775807))=true):∀ z ∈ zs,-9223372036854775808≤z∧z≤9223372036854775807:=fun z hz=>by
 have:=List.all_eq_true.1 h z hz
 simpa using this
theorem qf_ofI {K:Nat} {zs:List Int} (hK:2≤K) (h:zs.all (fun z=>decide (z.natAbs < 1000))=true):QFits K (ofI zs):=fun q hq=>by
 obtain ⟨z,hz,rfl⟩:=List.mem_map.1 hq;have:=List.all_eq_true.1 h z hz
 simp at this
 exact (fits_int2 (by omega)).mono hK
theorem f2_of {q:Rat} {z:Int} (h:q=(z:Rat)) (hz:z.natAbs < 1000):Fits 2 q:=by rw [h];exact fits_int2 (by omega)
theorem c1:(1:Rat)=((1:Int):Rat):=by decide +kernel
theorem c6:(6:Rat)=((6:Int):Rat):=by decide +kernel
theorem c10:(10:Rat)=((10:Int):Rat):=by decide +kernel
theorem ZL.one {w:World} {g:Nat} {t:TypeId} {a b:Int} (h:Blk w g t #[.int .i64 a,.int .i64 b]):ZL w (some ⟨g,0,none⟩) 2 [a,b] :=
 ⟨by simp,by decide,fun j hj=>⟨_,rfl,h.lt,fun i u hu=>by
  have hj3:j < 2:=hj
  rcases j with _ | _ | j
  · rcases i with _ | i
    · injection hu with hu;subst hu;exact Blk.cell h 0
    · simp at hu
  · rcases i with _ | i
    · injection hu with hu;subst hu;exact Blk.cell h 1
    · simp at hu
  · omega⟩⟩
theorem NL.one {w:World} {g:Nat} {t:TypeId} (h:Blk w g t #[.int .i64 3,.int .i64 10]):NL w (some ⟨g,0,none⟩) 1 exN :=
 ⟨by decide,by decide,fun j hj=>⟨_,rfl,h.lt,fun i u hu=>by
  have hj3:j < 1:=hj
  rcases j with _ | j
  · rcases i with _ | _ | i
    · injection hu with hu;subst hu;exact Blk.cell h 0
    · injection hu with hu;subst hu;exact Blk.cell h 1
    · simp [NdD.cells,exN] at hu
  · omega⟩⟩
theorem NL.nil (w:World):NL w none 0 []:=⟨by simp,by decide,fun j hj=>by simp at hj⟩
theorem PtIn.up {w w':World} {x:PtD} {lo:Nat} (h:PtIn x lo w.heap.size) (b:Below w.heap.size w w'):PtIn x lo w'.heap.size:=h.mono (Nat.le_refl _) b.size
theorem new_varP (w:World) (x:PtD):∃ wA wB,w.alloc (.cells #[.slice none 0 0,.slice none 0 0,.slice none 0 0,.slice none 0 0,.bool false,.slice none 0 0,.slice none 0 0] 38)=wA∧wA.cell? ⟨w.heap.size,0,none⟩=some (.slice none 0 0)∧wA.cell? ⟨w.heap.size,1,none⟩=some (.slice none 0 0)∧wA.cell? ⟨w.heap.size,2,none⟩=some (.slice none 0 0)∧wA.cell? ⟨w.heap.size,3,none⟩=some (.slice none 0 0)∧wA.cell? ⟨w.heap.size,4,none⟩=some (.bool false)∧wA.cell? ⟨w.heap.size,5,none⟩=some (.slice none 0 0)∧wA.cell? ⟨w.heap.size,6,none⟩=some (.slice none 0 0)∧wA.frozen? ⟨w.heap.size,0,none⟩=false∧wA.frozen? ⟨w.heap.size,1,none⟩=false∧wA.frozen? ⟨w.heap.size,2,none⟩=false∧wA.frozen? ⟨w.heap.size,3,none⟩=false∧wA.frozen? ⟨w.heap.size,4,none⟩=false∧wA.frozen? ⟨w.heap.size,5,none⟩=false∧wA.frozen? ⟨w.heap.size,6,none⟩=false ∧
 (((((((wA.setCell ⟨w.heap.size,0,none⟩ (.slice x.pay.a x.pay.ds.length x.pay.c)).setCell ⟨w.heap.size,1,none⟩ (.slice x.mults.a x.mults.ds.length x.mults.c)).setCell ⟨w.heap.size,2,none⟩ (.slice x.low.a x.low.ds.length x.low.c)).setCell ⟨w.heap.size,3,none⟩ (.slice x.high.a x.high.ds.length x.high.c)).setCell ⟨w.heap.size,4,none⟩ (.bool x.lev.neg)).setCell ⟨w.heap.size,5,none⟩ (.slice x.lev.a x.lev.la.length x.lev.ca)).setCell ⟨w.heap.size,6,none⟩ (.slice x.lev.b x.lev.lb.length x.lev.cb))=wB∧VarP wB w.heap.size x∧Below w.heap.size w wB∧w.heap.size < wB.heap.size:=by
 obtain ⟨wA,eA,bA,lA,BA⟩:=boxed w #[.slice none 0 0,.slice none 0 0,.slice none 0 0,.slice none 0 0,.bool false,.slice none 0 0,.slice none 0 0] 38;obtain ⟨wB,z0,z1,z2,z3,z4,z5,z6,f0,f1,f2,f3,f4,f5,f6,eB,hB,oB⟩:=zero_storeP BA x;exact ⟨wA,wB,eA,z0,z1,z2,z3,z4,z5,z6,f0,f1,f2,f3,f4,f5,f6,eB,hB,oB.to_below bA (Nat.le_refl _) bA.size,Nat.lt_of_lt_of_le lA oB.size⟩
theorem VarP.lt9 {w:World} {g:Nat} {x:PtD} (h:VarP w g x):g < w.heap.size:=Blk.lt h
theorem VarP.setPay {w:World} {g:Nat} {x:PtD} (h:VarP w g x) (r:RwD):∃ w9,w.cell? ⟨g,0,none⟩=some (.slice x.pay.a x.pay.ds.length x.pay.c)∧w.frozen? ⟨g,0,none⟩=false∧w.setCell ⟨g,0,none⟩ (.slice r.a r.ds.length r.c)=w9∧VarP w9 g { x with pay:=r }∧Only w w9 g :=
 ⟨_,Blk.cell h 0,Blk.free h 0,rfl,Blk.set h 0 _,(Only.refl w g).set 0 _⟩
section
variable {P:Program} {md:Region.Mode} {ops:Array Oper} {Q:Exit→Act→World→Prop} {S:World→Prop} {fuel:Nat} {listed l':Array Bool} {a a':Act} {w:World}
def marks (l:Array Bool):List Nat→Array Bool
 | []=>l
 | i :: r=>marks (l.setIfInBounds i true) r
def putsL (a:Act):List Nat→List Value→Act
 | d :: ds,u :: us=>putsL (a.put (some d) u) ds us
 | _,_=>a
theorem segH (m:Nat) (L D:List Nat) (J:List Value→World→Prop) (htl:∀ us w',J us w'→S w'→wpAnyH P md ops Q S m (marks listed L) (putsL a D us) w')
 (hwk:(∀ us w',J us w'→S w'→wpAnyH P md ops Q S m (marks listed L) (putsL a D us) w')→wpAnyH P md ops Q S fuel listed a w):wpAnyH P md ops Q S fuel listed a w:=hwk htl
end
end Go.Proofs.Ytjhkapjadfpimaa
