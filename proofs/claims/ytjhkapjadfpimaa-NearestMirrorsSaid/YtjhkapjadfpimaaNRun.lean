/- Contracts of functions, for the law. -/
import Derived.Test.YtjhkapjadfpimaaNTot
namespace Go.Proofs.Ytjhkapjadfpimaa
set_option linter.unusedVariables false
set_option linter.unusedSimpArgs false
open Go.RowKit Plain
def listsN (L:Nat):Nat→List (List Nat)
 | 0=>[[]]
 | n+1=>[]::(listsN L n).flatMap fun l=>(List.range L).map fun a=>a::l
theorem listsN_nil (L n:Nat):[] ∈ listsN L n:=by cases n <;> simp[listsN]
theorem mem_listsN {L:Nat}:∀ {n:Nat}{l:List Nat},l.length≤n→(∀ a∈l,a<L)→l∈listsN L n:=by
 intro n
 induction n with
 | zero =>
  intro l h1 h2;have:l=[]:=List.eq_nil_of_length_eq_zero (by omega);subst this;exact listsN_nil _ _
 | succ n ih =>
  intro l h1 h2
  cases l with
  | nil=>exact listsN_nil _ _
  | cons a l =>
   refine List.mem_cons_of_mem _ (List.mem_flatMap.2 ⟨l,ih (by simp at h1;omega) fun b hb=>h2 b (List.mem_cons_of_mem _ hb),List.mem_map.2 ⟨a,List.mem_range.2 (h2 a List.mem_cons_self),rfl⟩⟩)
theorem countP_le' {α:Type}{p q:α→Bool}:∀ {l:List α},(∀ a∈l,p a=true→q a=true)→l.countP p≤l.countP q:=fun {l} h=>by
 induction l with
 | nil=>exact Nat.le_refl _
 | cons a l ih =>
  rw[List.countP_cons,List.countP_cons];have h1:=ih fun b hb=>h b (List.mem_cons_of_mem _ hb);have h2:=h a List.mem_cons_self
  cases hp:p a with
  | false=>simp;omega
  | true=>rw[h2 hp];simp;omega
theorem countP_lt {α:Type}{p q:α→Bool}{b:α}:∀ {l:List α},(∀ a∈l,p a=true→q a=true)→b∈l→p b=false→q b=true→l.countP p<l.countP q:=fun {l} h hb h1 h2=>by
 induction l with
 | nil=>cases hb
 | cons a l ih =>
  rw[List.countP_cons,List.countP_cons]
  rcases List.mem_cons.1 hb with rfl | hb
  · have h3:=countP_le' (l:=l) fun c hc=>h c (List.mem_cons_of_mem _ hc);rw[h1,h2];simp;omega
  · have h3:=ih (fun c hc=>h c (List.mem_cons_of_mem _ hc)) hb;have h4:=h a List.mem_cons_self
    cases hp:p a with
    | false=>simp;omega
    | true=>rw[h4 hp];simp;omega
section
variable {n k:Nat}{all:List Con}{tg:List Rat}{sum m:Rat}{s:St}
def FinV (n:Nat) (all:List Con) (tg:List Rat) (sum:Rat) (A:List Nat) (D:Rat):Prop:=∃ s:St,s.active=A∧(∃ k,Okk n all tg sum s k 0)∧distV n tg s.x=D
theorem FinV.unique {A:List Nat}{D D':Rat}(h:FinV n all tg sum A D) (h':FinV n all tg sum A D'):D=D':=by
 obtain⟨s,rfl,⟨k,hk⟩,rfl⟩:=h;obtain⟨s',e,⟨k',hk'⟩,rfl⟩:=h';have hp:=hk'.pt;rw[e] at hp;have hu:=(Pt.unique hk.li hk.pt hp).1;unfold distV;exact ip_congr (fun i hi=>by rw[hu i hi]) fun i hi=>by rw[hu i hi]
open Classical in
noncomputable def cntV (n:Nat) (all:List Con) (tg:List Rat) (sum:Rat) (D:Rat):Nat:=(listsN all.length 8).countP fun A=>decide (∃ D',FinV n all tg sum A D'∧D<D')
theorem cntV_lt {D D':Rat}{A:List Nat}(hA:A∈listsN all.length 8) (h:FinV n all tg sum A D') (hD:D<D'):cntV n all tg sum D'<cntV n all tg sum D:=by
 classical
 unfold cntV;refine countP_lt (b:=A) (fun B _ hB=>?_) hA ?_ ?_
 · have hB:=of_decide_eq_true hB;obtain⟨E,h1,h2⟩:=hB;exact decide_eq_true ⟨E,h1,by grind⟩
 · refine decide_eq_false fun ⟨E,h1,h2⟩=>?_;rw[h.unique h1] at h2;exact Rat.lt_irrefl h2
 · exact decide_eq_true ⟨D',h,hD⟩
structure Best (n:Nat) (all:List Con) (tg:List Rat) (sum:Rat) (s:St):Prop where
 hA:∀ a∈s.active,a<all.length
 lx:s.x.length=n
 lm:s.mults.length=s.active.length
 li:0<n→LI (s.active.length+1) n (fn (normalsS n all s.active))
 pt:Pt (s.active.length+1) n (fn (normalsS n all s.active)) (gt (sum::s.active.map (lst all))) (gt tg) (gt (s.level::s.mults)) (gt s.x) (fun _=>0) 0
 nn:∀ j,j<s.mults.length→0≤gt s.mults j
 ok:∀ k,k<all.length→lst all k≤ip n (gt (nrm all k)) (gt s.x)
 act:n≤8→s.active.length≤7
 fit:QFits KN s.x∧Fits KN s.level∧QFits KN s.mults
theorem Okk.entering (h:Okk n all tg sum s k 0) (k':Nat):Okk n all tg sum s k' 0 :=
 ⟨h.hA,h.lx,h.lm,h.li,⟨fun i hi=>by rw[h.pt.kkt i hi];grind,h.pt.eqs⟩,h.nn⟩
theorem Okk.best (h:Okk n all tg sum s k 0) (hf:OkS KN n all s) (ok:∀ k,k<all.length→lst all k≤ip n (gt (nrm all k)) (gt s.x)):Best n all tg sum s :=
 ⟨h.hA,h.lx,h.lm,fun _=>h.li,⟨fun i hi=>by rw[h.pt.kkt i hi];grind,h.pt.eqs⟩,h.nn,ok,fun _=>hf.la,hf.x,hf.lev,hf.mults⟩
theorem Okk.oks0 (h:ConI n all) (hn:n≤8) (ht:QFits 2 tg) (hs:Fits 2 sum) (ok:Okk n all tg sum s k 0):okS KN n all s=true:=by
 obtain⟨h1,h2⟩:=pt_fits (y:=gt (s.level::s.mults)) (x:=gt s.x) (v:=fun _=>0) h ok.hA hn ht hs ok.li ⟨fun i hi=>by rw[ok.pt.kkt i hi];grind,ok.pt.eqs⟩;have hp8:s.active.length+1≤8:=Nat.le_trans ok.li.le hn;refine okS_iff.2 ⟨QFits.of_gt (N:=n) (by rw[ok.lx];exact Nat.le_refl _) fun i hi=>(h2 i hi).mono (by decide),(h1 0 (by omega)).mono (by decide),QFits.of_gt (N:=s.active.length) (by rw[ok.lm];exact Nat.le_refl _) fun i hi=>(h1 (i+1) (by omega)).mono (by decide),ok.lx,ok.lm,by omega,ok.hA⟩
theorem runS_eq {f : Nat} (ho : okS KN n all s = true) : runS KN n all (f + 1) s = match (worstK all s.x all.length).1 with
      | none => some (some s)
      | some k => match satR KN n all k f s 0 with
        | none => none
        | some none => some none
        | some (some t) => runS KN n all f t := by
  show (if okS KN n all s = true then _ else none) = _
  rw [if_pos ho]; rfl
theorem run_ok (h:ConI n all) (hn:n≤8) (ht:QFits 2 tg) (hs:Fits 2 sum):∀ (c f:Nat) (s:St),Okk n all tg sum s 0 0→cntV n all tg sum (distV n tg s.x)≤c→c+10≤f →
 (runS KN n all f s=some none∧Infeas n all sum)∨∃ t,runS KN n all f s=some (some t)∧Best n all tg sum t:=by
 intro c
 induction c with
 | zero =>
  intro f s ok hc hf;obtain⟨f,rfl⟩:∃ g,f=g+1:=⟨f-1,by omega⟩;have ho:=ok.oks0 h hn ht hs;rw[runS_eq ho];have hw:=worst_ok all s.x all.length;obtain⟨o,D,hoD⟩:∃ o D,worstK all s.x all.length=(o,D):=⟨_,_,rfl⟩;rw[hoD] at hw ⊢
  cases o with
  | none=>exact .inr ⟨s,rfl,ok.best (okS_iff.1 ho) fun k hk=>by rw[←dotR_ip (h.len.nrm hk) ok.lx];exact hw k hk⟩
  | some k =>
   have hp8:s.active.length+1≤8:=Nat.le_trans ok.li.le hn;have hx:ip n (gt (nrm all k)) (gt s.x)<lst all k:=by rw[←dotR_ip (h.len.nrm hw.1) ok.lx];exact hw.2
   rcases sat_ok h hw.1 hn ht hs 8 f s 0 (by omega) (by omega) (ok.entering k) Rat.le_refl (Fits.zero (by decide)) hx with ⟨h1,h2⟩ | ⟨t,h1,h2,h3⟩
   · dsimp only;rw[h1];exact .inl ⟨rfl,h2⟩
   · exfalso
     rw[DV_zero] at h3;have hpt:t.active.length+1≤8:=Nat.le_trans (h2 0).li.le hn;have:=cntV_lt (mem_listsN (by omega) (h2 0).hA) ⟨t,rfl,⟨0,h2 0⟩,rfl⟩ h3;omega
 | succ c ih =>
  intro f s ok hc hf;obtain⟨f,rfl⟩:∃ g,f=g+1:=⟨f-1,by omega⟩;have ho:=ok.oks0 h hn ht hs;rw[runS_eq ho];have hw:=worst_ok all s.x all.length;obtain⟨o,D,hoD⟩:∃ o D,worstK all s.x all.length=(o,D):=⟨_,_,rfl⟩;rw[hoD] at hw ⊢
  cases o with
  | none=>exact .inr ⟨s,rfl,ok.best (okS_iff.1 ho) fun k hk=>by rw[←dotR_ip (h.len.nrm hk) ok.lx];exact hw k hk⟩
  | some k =>
   have hp8:s.active.length+1≤8:=Nat.le_trans ok.li.le hn;have hx:ip n (gt (nrm all k)) (gt s.x)<lst all k:=by rw[←dotR_ip (h.len.nrm hw.1) ok.lx];exact hw.2
   rcases sat_ok h hw.1 hn ht hs 8 f s 0 (by omega) (by omega) (ok.entering k) Rat.le_refl (Fits.zero (by decide)) hx with ⟨h1,h2⟩ | ⟨t,h1,h2,h3⟩
   · dsimp only;rw[h1];exact .inl ⟨rfl,h2⟩
   · dsimp only;rw[h1]
     rw[DV_zero] at h3;have hpt:t.active.length+1≤8:=Nat.le_trans (h2 0).li.le hn;have h4:=cntV_lt (mem_listsN (by omega) (h2 0).hA) ⟨t,rfl,⟨0,h2 0⟩,rfl⟩ h3;exact ih f t (h2 0) (by omega) (by omega)
theorem sm_const (n:Nat) (c:Rat):sm n (fun _=>c)=(n:Rat)*c:=by
 induction n with
 | zero=>show (0:Rat)=_;simp
 | succ n ih =>
  show sm n (fun _=>c)+c=_
  rw[ih,Rat.natCast_add]
  grind
theorem sumR_sm (l:List Rat):sumR l=sm l.length (gt l):=foldl_sm l
theorem start_ok (hn0:0<n) (hl:tg.length=n):Okk n all tg sum (startS tg sum n) 0 0:=by
 have hnq:(n:Rat)≠0:=by
  intro e;have:(n:Rat)=((0:Nat):Rat):=by rw[e];rfl
  have:=Rat.natCast_inj.1 this;omega
 have hx:∀ i,i<n→gt (startS tg sum n).x i=gt tg i+(sum-sumR tg) / (n:Rat):=fun i hi=>by
  show gt (tg.map fun q=>q+(sum-sumR tg) / (n:Rat)) i=_
  unfold gt;rw[getD_of 0 (by simpa [hl] using hi),getD_of 0 (by omega),List.getElem_map]
 refine⟨fun a ha=>(by cases ha),(by show (tg.map _).length=n;rw[List.length_map,hl]),rfl,?_,⟨fun i hi=>?_,fun j hj=>?_⟩,fun j hj=>(by cases hj)⟩
 · intro c hc j hj;have hj0:j=0:=by have:j<0+1:=hj;omega
   subst hj0;have h1:=hc 0 hn0;have h2:(0:Rat)+c 0*fn (normalsS n all []) 0 0=0:=h1;rw[fn_ones n all [] hn0] at h2
   grind
 · rw[hx i hi];have h2:lc ((startS tg sum n).active.length+1) (gt ((startS tg sum n).level::(startS tg sum n).mults)) (fn (normalsS n all (startS tg sum n).active)) i=0+(sum-sumR tg) / (n:Rat)*fn (normalsS n all []) 0 i:=rfl;rw[h2,fn_ones n all [] hi];grind
 · have hj0:j=0:=by have:j<0+1:=hj;omega
   subst hj0
   show ip n (fn (normalsS n all []) 0) (gt (startS tg sum n).x)=sum
   rw[ip_congr (a':=fun _=>1) (b':=fun i=>gt tg i+(sum-sumR tg) / (n:Rat)) (fun i hi=>fn_ones n all [] hi) hx];unfold ip;rw[sm_congr (g:=fun i=>gt tg i+(sum-sumR tg) / (n:Rat)) (fun i _=>by grind),sm_add,sm_const,←hl,←sumR_sm,hl]
   grind
theorem proj_ok (h:ConI n all) (hn:n≤8) (ht:QFits 2 tg) (hs:Fits 2 sum) (hl:tg.length=n):∃ f,(projS KN all tg sum n f=some none∧Infeas n all sum)∨∃ t,projS KN all tg sum n f=some (some t)∧Best n all tg sum t:=by
 by_cases h0:n=0
 · subst h0;have htg:tg=[]:=List.eq_nil_of_length_eq_zero hl;subst htg;refine⟨0,?_⟩;unfold projS;rw[if_pos rfl];have hw:=worst_ok all [] all.length;obtain⟨o,D,hoD⟩:∃ o D,worstK all [] all.length=(o,D):=⟨_,_,rfl⟩;rw[hoD] at hw ⊢;have hsum:sumR ([]:List Rat)=0:=rfl;have hdot:∀ k,k<all.length→dotR (nrm all k) []=0:=fun k hk=>by rw[dotR_ip (n:=0) (h.len.nrm hk) rfl];rfl
   cases o with
   | none =>
    by_cases hz:sum-sumR ([]:List Rat)=0
    · rw[if_pos ⟨hz,rfl⟩];refine .inr ⟨_,rfl,⟨fun a ha=>(by cases ha),rfl,rfl,fun h=>(by omega),⟨fun i hi=>(by omega),fun j hj=>?_⟩,fun j hj=>(by cases hj),fun k hk=>?_,fun _=>(by decide:(0:Nat)≤7),fun q hq=>(by cases hq),Fits.zero (by decide),fun q hq=>(by cases hq)⟩⟩
      · have hj0:j=0:=by have:j<0+1:=hj;omega
        subst hj0
        show (0:Rat)=sum
        rw[hsum] at hz;grind
      · have:=hw k hk;rw[hdot k hk] at this;exact this
    · rw[if_neg fun hh=>hz hh.1];refine .inl ⟨rfl,fun u hu h1 _=>hz ?_⟩;have h2:(0:Rat)=sum:=h1;rw[hsum];grind
   | some k =>
    rw[if_neg fun hh=>by cases hh.2];refine .inl ⟨rfl,fun u hu _ h2=>?_⟩;have h3:=h2 k hw.1;have h4:=hw.2;rw[hdot k hw.1] at h4;have h5:lst all k≤0:=h3
    grind
 · have hok:=start_ok (all:=all) (sum:=sum) (show 0<n by omega) hl;refine⟨cntV n all tg sum (distV n tg (startS tg sum n).x)+10,?_⟩;unfold projS;rw[if_neg h0];exact run_ok h hn ht hs _ _ _ hok (Nat.le_refl _) (Nat.le_refl _)
end
end Go.Proofs.Ytjhkapjadfpimaa
