/- Contracts of functions, for the law. -/
import Derived.Test.YtjhkapjadfpimaaNAlg
import Derived.Deep.RegionHeld3
import Derived.Test.YtjhkapjadfpimaaWTrim
namespace Go.Proofs.Ytjhkapjadfpimaa
set_option linter.unusedVariables false
set_option linter.unusedSimpArgs false
open Go.RowKit
section
variable {P:Program}{ops:Array Oper}{Q:Exit→Act→World→Prop}{md:Region.Mode}{S:World→Prop}{J:List Nat}
def waitsFor (md:Region.Mode) (ops:Array Oper) (i:Nat):Nat→Nat→Bool
 | 0,j=>j == i
 | f+1,j=>j == i || match ops[j]? with
  | some o=>o.after.any fun e=>Region.binds md e&&waitsFor md ops i f e.on
  | none=>false
def shutL (md:Region.Mode) (ops:Array Oper) (listed:Array Bool):Bool :=
 (List.range ops.size).all fun k=>!(listed.getD k false) || match ops[k]? with
  | some o=>o.after.all fun e=>!(Region.binds md e) || listed.getD e.on false
  | none=>true
theorem shutL_spec {listed:Array Bool}(h:shutL md ops listed=true){k:Nat}{o:Oper}(ho:ops[k]?=some o) (hk:listed.getD k false=true) (e:Edge) (he:e∈o.after) (hb:Region.binds md e=true):listed.getD e.on false=true:=by
 unfold shutL at h
 simp only[List.all_eq_true,List.mem_range] at h
 have h1:=h k (Array.getElem?_eq_some_iff.1 ho).1;rw[hk,ho] at h1
 simp only[Bool.not_true,Bool.false_or] at h1
 have h2:=Array.all_eq_true_iff_forall_mem.1 h1 e he;rw[hb] at h2
 simpa using h2
def ShutP (md:Region.Mode) (ops:Array Oper) (listed:Array Bool):Prop:=∀ (k:Nat) (o:Oper),ops[k]?=some o→listed.getD k false=true→∀ e∈o.after,Region.binds md e=true→listed.getD e.on false=true
theorem waits_listed {listed:Array Bool}(hc:ShutP md ops listed){i:Nat}:∀ (f j:Nat),waitsFor md ops i f j=true→listed.getD j false=true→listed.getD i false=true:=by
 intro f
 induction f with
 | zero=>intro j h hj;unfold waitsFor at h;rw[beq_iff_eq] at h;rw[←h];exact hj
 | succ f ih =>
  intro j h hj;unfold waitsFor at h;rw[Bool.or_eq_true] at h
  rcases h with h | h
  · rw[beq_iff_eq] at h;rw[←h];exact hj
  · split at h
    · rename_i o ho
      obtain⟨e,he,hb⟩:=Array.any_eq_true'.1 h;rw[Bool.and_eq_true] at hb;exact ih e.on hb.2 (hc j o ho hj e he hb.1)
    · cases h
theorem not_ready {listed:Array Bool}(hc:ShutP md ops listed){i j f:Nat}(hw:waitsFor md ops i f j=true) (hij:j≠i) (hi:listed.getD i true=false):j ∉ Region.ready md ops listed:=by
 intro hj;obtain⟨h0,o,ho,hall⟩:=mem_ready.1 hj
 have key:listed.getD i false=true:=by
  cases f with
  | zero=>unfold waitsFor at hw;rw[beq_iff_eq] at hw;exact absurd hw hij
  | succ f =>
   unfold waitsFor at hw;rw[Bool.or_eq_true] at hw
   rcases hw with hw | hw
   · rw[beq_iff_eq] at hw;exact absurd hw hij
   · rw[ho] at hw
     simp only at hw
     obtain⟨e,he,hb⟩:=Array.any_eq_true'.1 hw;rw[Bool.and_eq_true] at hb;exact waits_listed hc f e.on hb.2 (hall e he hb.1)
 rcases Nat.lt_or_ge i listed.size with h' | h'
 · simp[h'] at hi key;rw[hi] at key;cases key
 · simp[Array.getElem?_eq_none h'] at hi
theorem ShutP.set {listed:Array Bool}(hc:ShutP md ops listed){j:Nat}(hj:j∈Region.ready md ops listed):ShutP md ops (listed.setIfInBounds j true):=by
 intro k o ho hk e he hb
 by_cases e1:j=k
 · subst e1;obtain⟨h0,o',ho',hall⟩:=mem_ready.1 hj;rw[ho] at ho'
   injection ho' with ho'
   subst ho';exact getD_set_true (hall e he hb)
 · rw[getD_set_ne false e1] at hk;exact getD_set_true (hc k o ho hk e he hb)
def wpAnyW (P:Program) (md:Region.Mode) (ops:Array Oper) (Q:Exit→Act→World→Prop) (S:World→Prop) (J:List Nat):Nat→Array Bool→Act→World→Prop
 | 0,listed,a,w=>Region.ready md ops listed=[]∧Q .normal a w
 | fuel+1,listed,a,w =>
  (Region.ready md ops listed=[]→Q .normal a w) ∧
  ∀ i∈Region.ready md ops listed,wpOp P ops Q i (fun a' w'=>(i ∉ J→S w')∧wpAnyW P md ops Q S J fuel (listed.setIfInBounds i true) a' w') a w
theorem wpAny_of_wait:∀ (fuel:Nat) (listed:Array Bool) (a:Act) (w:World),wpAnyW P md ops Q S J fuel listed a w→wpAny P md ops Q fuel listed a w
 | 0,_,_,_,h=>h
 | fuel+1,_,_,_,h=>⟨h.1,fun i hi=>wpOp_mono (fun a' w' h'=>wpAny_of_wait fuel _ a' w' h'.2) (h.2 i hi)⟩
theorem wpAnyW_first {i:Nat}{oi:Oper}{v:Value}(hi:ops[i]?=some oi) (hsel:∀ (j:Nat) (o:Oper) cs b,ops[j]?=some o→o.op≠.select cs b)
 (hQ:∀ c a w,Q (.panic c) (a.put oi.dst v) w→Q (.panic c) a w) (hJ:∀ j∈J,j≠i∧waitsFor md ops i ops.size j=true) :
 ∀ (fuel:Nat) (listed:Array Bool) (a:Act) (w:World),
  (∀ j oj,ops[j]?=some oj→j≠i→listed.getD j true=false→(∀ e∈oj.after,Region.binds md e=true→e.on≠i)→oi.apart ops oj=true) →
  ShutP md ops listed→i∈Region.ready md ops listed→YieldsIf P ops S oi v a→S w →
  wpAnyW P md ops Q S J fuel (listed.setIfInBounds i true) (a.put oi.dst v) w→wpAnyW P md ops Q S J (fuel+1) listed a w:=by
 intro fuel
 induction fuel with
 | zero =>
  intro listed a w _ hc hr hy hS H;refine⟨fun h=>(by rw[h] at hr;cases hr),fun j hj=>?_⟩
  by_cases hji:j=i
  · subst hji;exact hy.wpOp hi hS ⟨fun _=>hS,H⟩
  · have:=ready_mono hj hji;rw[H.1] at this
    cases this
 | succ fuel ih =>
  intro listed a w hfree hc hr hy hS H;refine⟨fun h=>(by rw[h] at hr;cases hr),fun j hj=>?_⟩
  by_cases hji:j=i
  · subst hji;exact hy.wpOp hi hS ⟨fun _=>hS,H⟩
  · have h1:=H.2 j (ready_mono hj hji);have hjJ:j ∉ J:=fun hx=>not_ready hc (hJ j hx).2 (hJ j hx).1 (mem_ready.1 hr).1 hj;obtain⟨hjun,oj,hoj,hall⟩:=mem_ready.1 hj
    have hnot:∀ e∈oj.after,Region.binds md e=true→e.on≠i:=fun e he hb heq=>by
     have h1:=hall e he hb;have h0:=(mem_ready.1 hr).1;rw[heq] at h1
     rcases Nat.lt_or_ge i listed.size with h' | h'
     · simp[h'] at h0 h1;rw[h0] at h1;cases h1
     · simp[Array.getElem?_eq_none h'] at h1
    have h2:=wpOp_putIf hoj (hfree j oj hoj hji hjun hnot) (fun cs b=>hsel i oi cs b hi) (fun cs b=>hsel j oj cs b hoj) hQ hy h1
    have hfree':∀ k ok,ops[k]?=some ok→k≠i→(listed.setIfInBounds j true).getD k true=false →
     (∀ e∈ok.after,Region.binds md e=true→e.on≠i)→oi.apart ops ok=true:=fun k ok hk hki hun hno=>by
     refine hfree k ok hk hki ?_ hno
     by_cases hjk:j=k
     · subst hjk;exact hjun
     · rw[getD_set_ne true hjk] at hun;exact hun
    refine wpOp_mono (fun a' w' h3=>⟨h3.2.1,ih (listed.setIfInBounds j true) a' w' hfree' (hc.set hj) (ready_mono hr (Ne.symm hji)) h3.1 (h3.2.1 hjJ) ?_⟩) h2;rw[Array.setIfInBounds_comm _ _ hji];exact h3.2.2
theorem wpAnyW_take {i:Nat}{oi:Oper}{v:Value}{fuel:Nat}{listed:Array Bool}{a:Act}{w:World}(hi:ops[i]?=some oi)
 (hs:Region.noSelect ops=true) (hf:Region.free md ops listed i=true) (hr:(Region.ready md ops listed).contains i=true)
 (hc:shutL md ops listed=true) (hJ:(J.all fun j=>(j != i)&&waitsFor md ops i ops.size j)=true)
 (hQ:∀ c a w,Q (.panic c) (a.put oi.dst v) w→Q (.panic c) a w) (hy:YieldsIf P ops S oi v a) (hS:S w)
 (h:wpAnyW P md ops Q S J fuel (listed.setIfInBounds i true) (a.put oi.dst v) w):wpAnyW P md ops Q S J (fuel+1) listed a w:=by
 refine wpAnyW_first hi (Region.noSelect_spec hs) hQ (fun j hj=>?_) fuel listed a w (Region.free_spec hi hf) (fun k o ho hk e he hb=>shutL_spec hc ho hk e he hb) (by simpa using hr) hy hS h;have:=List.all_eq_true.1 hJ j hj;rw[Bool.and_eq_true,bne_iff_ne] at this;exact this
theorem wpAnyW_done {listed:Array Bool}{a:Act}{w:World}(hr:Region.ready md ops listed=[]) (h:Q .normal a w):∀ fuel,wpAnyW P md ops Q S J fuel listed a w
 | 0=>⟨hr,h⟩
 | _+1=>⟨fun _=>h,by rw[hr];simp⟩
def AllReadyW (P:Program) (md:Region.Mode) (ops:Array Oper) (Q:Exit→Act→World→Prop) (S:World→Prop) (J:List Nat) (fuel:Nat) (listed:Array Bool) (a:Act) (w:World) (rs:List Nat):Prop :=
 ∀ i∈rs,wpOp P ops Q i (fun a' w'=>(i ∉ J→S w')∧wpAnyW P md ops Q S J fuel (listed.setIfInBounds i true) a' w') a w
theorem AllReadyW.nil {fuel:Nat}{listed:Array Bool}{a:Act}{w:World}:AllReadyW P md ops Q S J fuel listed a w []:=fun _ h=>by cases h
theorem AllReadyW.cons {fuel:Nat}{listed:Array Bool}{a:Act}{w:World}{i:Nat}{o:Oper}{rs:List Nat}(ho:ops[i]?=some o)
 (h:∀ K':Act→World→Prop,Shut (∀ a w,S w→(S w→wpAnyW P md ops Q S J fuel (listed.setIfInBounds i true) a w)→K' a w)→if Region.wanted o (yielded ops a.tmps)=true then Oper.wp P o a w K' Q else K' (a.put o.dst undef) w)
 (hs:AllReadyW P md ops Q S J fuel listed a w rs):AllReadyW P md ops Q S J fuel listed a w (i::rs):=fun j hj=>by
 rcases List.mem_cons.1 hj with rfl | hj
 · exact wpOp_step ho (fun K' hK=>h K' (fun a w hS hW=>hK a w ⟨fun _=>hS,hW hS⟩))
 · exact hs j hj
theorem AllReadyW.last {fuel:Nat}{listed:Array Bool}{a:Act}{w:World}{i:Nat}{o:Oper}{rs:List Nat}(ho:ops[i]?=some o) (hi:i∈J)
 (h:∀ K':Act→World→Prop,Shut (∀ a w,wpAnyW P md ops Q S J fuel (listed.setIfInBounds i true) a w→K' a w)→if Region.wanted o (yielded ops a.tmps)=true then Oper.wp P o a w K' Q else K' (a.put o.dst undef) w)
 (hs:AllReadyW P md ops Q S J fuel listed a w rs):AllReadyW P md ops Q S J fuel listed a w (i::rs):=fun j hj=>by
 rcases List.mem_cons.1 hj with rfl | hj
 · exact wpOp_step ho (fun K' hK=>h K' (fun a w hW=>hK a w ⟨fun hn=>absurd hi hn,hW⟩))
 · exact hs j hj
theorem wpAnyW_ready {rs:List Nat}{fuel:Nat}{listed:Array Bool}{a:Act}{w:World}(hr:Region.ready md ops listed=rs) (hne:rs≠[])
 (h:AllReadyW P md ops Q S J fuel listed a w rs):wpAnyW P md ops Q S J (fuel+1) listed a w :=
 ⟨fun h0=>absurd (hr ▸ h0) hne,hr ▸ h⟩
theorem wp_region_wait {id:Nat}{a:Act}{w:World}(hm:P.follows .mixedOrders=true) (hS:S w.drew)
 (h:S w.drew→wpAnyW P .any ops Q S J ops.size (Array.replicate ops.size false) a w.drew):(Code.region id ops true).wp P Q a w :=
 wp_region_any hm (wpAny_of_wait _ _ _ _ (h hS))
end
section
variable {P:Program}{ops:Array Oper}{Q:Exit→Act→World→Prop}{md:Region.Mode}{S:World→Prop}{J:List Nat}{fuel:Nat}{listed:Array Bool}{a:Act}{w:World}{oi:Oper}{v:Value}
theorem tkW {a':Act}{l':Array Bool}(i:Nat) (hi:ops[i]?=some oi) (hS:S w) (h:wpAnyW P md ops Q S J fuel l' a' w) (hs:Region.noSelect ops=true:=by kernel_rfl) (hf:Region.free md ops listed i=true:=by kernel_rfl) (hr:(Region.ready md ops listed).contains i=true:=by kernel_rfl) (hc:shutL md ops listed=true:=by kernel_rfl) (hJ:(J.all fun j=>(j != i)&&waitsFor md ops i ops.size j)=true:=by kernel_rfl) (hw:Region.wanted oi (yielded ops a.tmps)=true:=by rfl)
 (hy:∀ w,S w→(execOp a.eval oi).run P w=.ok (.value v) w:=by (intro w hSw;(try dsimp only at hSw);go_simp;all_goals with_reducible rfl)) (hQ:∀ c a w,Q (.panic c) (a.put oi.dst v) w→Q (.panic c) a w:=by exact fun _ _ _ h=>h) (ha:a.put oi.dst v=a':=by ((try simp only[lay]);first | done | rfl)) (hl:listed.setIfInBounds i true=l':=by ((try simp only[lay]);first | done | rfl)):wpAnyW P md ops Q S J (fuel+1) listed a w:=by
 subst ha hl
 exact
 wpAnyW_take hi hs hf hr hc hJ hQ (Or.inl ⟨hw,hy⟩) hS h
theorem tkU {a':Act}{l':Array Bool}(i:Nat) (hi:ops[i]?=some oi) (hS:S w) (h:wpAnyW P md ops Q S J fuel l' a' w) (hs:Region.noSelect ops=true:=by kernel_rfl) (hf:Region.free md ops listed i=true:=by kernel_rfl) (hr:(Region.ready md ops listed).contains i=true:=by kernel_rfl) (hc:shutL md ops listed=true:=by kernel_rfl) (hJ:(J.all fun j=>(j != i)&&waitsFor md ops i ops.size j)=true:=by kernel_rfl) (hw:Region.wanted oi (yielded ops a.tmps)=false:=by kernel_rfl)
 (hQ:∀ c a w,Q (.panic c) (a.put oi.dst undef) w→Q (.panic c) a w:=by exact fun _ _ _ h=>h) (ha:a.put oi.dst undef=a':=by ((try simp only[lay]);first | done | rfl)) (hl:listed.setIfInBounds i true=l':=by ((try simp only[lay]);first | done | rfl)):wpAnyW P md ops Q S J (fuel+1) listed a w:=by
 subst ha hl
 exact
 wpAnyW_take hi hs hf hr hc hJ hQ (Or.inr ⟨hw,rfl⟩) hS h
theorem rdW (i:Nat) (ho:ops[i]?=some oi) (h:∀ K':Act→World→Prop,Shut (∀ a w,S w→(S w→wpAnyW P md ops Q S J fuel (listed.setIfInBounds i true) a w)→K' a w)→if Region.wanted oi (yielded ops a.tmps)=true then Oper.wp P oi a w K' Q else K' (a.put oi.dst undef) w)
 (hr:Region.ready md ops listed=[i]:=by kernel_rfl):wpAnyW P md ops Q S J (fuel+1) listed a w:=wpAnyW_ready hr (by simp) (AllReadyW.cons ho h AllReadyW.nil)
end
end Go.Proofs.Ytjhkapjadfpimaa
namespace Go.Proofs.Ytjhkapjadfpimaa
set_option linter.unusedVariables false
set_option linter.unusedSimpArgs false
open Go.RowKit Plain
def NotU (u:Value):Prop:=∀ x,u≠.int .u32 x
theorem OwnQ.toG {w:World}{base:Nat}{v:Value}{ds:List FrD}(h:OwnQ w base v ds):OwnG 28 3 NotU w base v ds.length (ds.flatMap FrD.cells) :=
 ⟨h.1,fun g hg=>by
  obtain⟨cur,h1,h2⟩:=h.2 g hg;exact⟨cur,h1,fun i u hi x e=>h2 i x (by rw[hi,e])⟩⟩
theorem OwnQ.ofG {w:World}{base:Nat}{v:Value}{ds:List FrD}(h:OwnG 28 3 NotU w base v ds.length (ds.flatMap FrD.cells)):OwnQ w base v ds :=
 ⟨h.1,fun g hg=>by
  obtain⟨cur,h1,h2⟩:=h.2 g hg;exact⟨cur,h1,fun i x hi=>h2 i _ hi x rfl⟩⟩
theorem OwnQ.empty (w:World){base:Nat}(hb:base≤w.heap.size):OwnQ (w.alloc (.cells #[] 28)) base (.slice (some ⟨w.heap.size,0,none⟩) 0 0) []:=by
 have hB:=Blk.new w 28 #[]
 exact⟨⟨rfl,.inr ⟨w.heap.size,0,#[],rfl,hb,hB,Nat.le_refl _,by decide,rfl,rfl⟩⟩,fun g hg=>by
  simp[Value.ownBlock] at hg
  subst hg;exact⟨_,hB,fun i x=>by simp⟩⟩
theorem notU_cells (d:FrD):∀ u∈d.cells,NotU u:=fun u hu x e=>by
 subst e
 simp[FrD.cells] at hu
set_option maxRecDepth 100000 in
theorem run_appQs (w:World) (base:Nat) (v:Value) (ds:List FrD) (hown:OwnQ w base v ds) (ad:Addr) (c:Nat) (es:List FrD) (hnews:∀ j u,(es.flatMap FrD.cells)[j]?=some u→w.cell? (ad.add j)=some u)
 (h63:ds.length+es.length≤1000000000000) (hbase:base≤w.heap.size) :
 ∃ v' w',(Builtin.append_ #[22,22] 22 #[v,.slice (some ad) es.length c]).run Try.prog w=.ok v' w'∧OwnQ w' base v' (ds++es)∧w.grownBy w' v.ownBlock:=by
 obtain⟨v',w',h1,h2,h3⟩:=run_appG0 (P:=NotU) w base v ds.length _ Try.underlying22 infoFrac rfl (by decide) (fun i u hi x e=>by
  subst e
  match i with
  | 0=>injection hi with hi;cases hi
  | 1=>injection hi with hi;cases hi
  | 2=>injection hi with hi;cases hi
  | i+3=>simp[Value.cells] at hi) (by decide) hown.toG ad es.length c (es.flatMap FrD.cells) (flat_len es) hnews (fun u hu=>by
   obtain⟨d,_,hd⟩:=List.mem_flatMap.1 hu
   simp only[FrD.cells,List.mem_cons,List.not_mem_nil,or_false] at hd
   rcases hd with rfl | rfl | rfl <;> rfl) (fun u hu=>by
   obtain⟨d,_,hd⟩:=List.mem_flatMap.1 hu;exact notU_cells d u hd) h63 hbase (fun u hu=>by
   obtain⟨d,_,hd⟩:=List.mem_flatMap.1 hu;exact notU_cells d u hd)
 refine⟨v',w',h1,OwnQ.ofG ?_,h3⟩;rw[List.length_append,List.flatMap_append];exact h2
set_option maxRecDepth 100000 in
/-- Nothing is appended to an empty list. -/
theorem run_appQ0 (w:World) (g c:Nat):(Builtin.append_ #[22,22] 22 #[.slice (some ⟨g,0,none⟩) 0 0,.slice none 0 c]).run Try.prog w=.ok (.slice (some ⟨g,0,none⟩) 0 0) w:=by
 obtain⟨i,hi,hz0,hz1,hz2⟩:=info_parts infoFrac
 simp[Builtin.append_,run_underlying Try.underlying22,sizeOf,typeInfo,hi,Builtin.lenOf,Builtin.firstCells,loadCells,loadCellsFrom,storeCells]
theorem flat_take {ds:List FrD}{k j:Nat}{u:Value}(h:((ds.take k).flatMap FrD.cells)[j]?=some u):(ds.flatMap FrD.cells)[j]?=some u:=by
 have hl:=(List.getElem?_eq_some_iff.1 h).1;have e:ds.flatMap FrD.cells=(ds.take k).flatMap FrD.cells++(ds.drop k).flatMap FrD.cells:=by rw[←List.flatMap_append,List.take_append_drop]
 rw[e,List.getElem?_append_left hl];exact h
end Go.Proofs.Ytjhkapjadfpimaa
