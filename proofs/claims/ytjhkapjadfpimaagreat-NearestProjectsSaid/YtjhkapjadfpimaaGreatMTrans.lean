/- Contracts of functions, for the law. -/
import Derived.Test.YtjhkapjadfpimaaGreatFDot
import Derived.Laws.MakeOwn
namespace Go.Proofs.YtjhkapjadfpimaaGreat
set_option linter.unusedVariables false
set_option linter.unusedSimpArgs false
open Go.RowKit Plain
set_option maxRecDepth 100000
set_option maxHeartbeats 40000000
def LsAt (qs:List Rat) (root:World) (k:Nat) (v:Value) (wr:World):Prop :=
 ∃ os:List FrD,OwnQ wr root.heap.size v os∧AllFV wr os∧os.length=k∧os.map FrD.q=qs.take k∧Below root.heap.size root wr
theorem LsAt.nil (qs:List Rat) (root:World):LsAt qs root 0 (.slice none 0 0) root:=⟨[],OwnQ.nil _ _,fun d hd=>by simp at hd,rfl,rfl,a3t _ _⟩
theorem LsAt.start (qs:List Rat){root wr:World}(h:Below root.heap.size root wr):LsAt qs root 0 (.slice none 0 0) wr:=⟨[],OwnQ.nil _ _,fun d hd=>by simp at hd,rfl,rfl,h⟩
theorem LsAt.below {qs:List Rat}{root:World}{k:Nat}{v:Value}{w w':World}(h:LsAt qs root k v w) (hb:Below w.heap.size w w'):LsAt qs root k v w':=by
 obtain⟨os,h1,h2,h3,h4,h5⟩:=h;exact⟨os,h1.below hb,fun d hd=>(h2 d hd).below hb,h3,h4,(a1j h5 hb)⟩
theorem LsAt.bel {qs:List Rat}{root:World}{k:Nat}{v:Value}{w:World}(h:LsAt qs root k v w):Below root.heap.size root w:=by
 obtain⟨os,h1,h2,h3,h4,h5⟩:=h;exact h5
theorem LsAt.app {qs:List Rat}{root:World}{k:Nat}{v:Value}{w:World}{n1:Bool}{A1 B1:Option Addr}{a1 c1:Nat}{l1 m1:List Nat}{q:Rat}(h:LsAt qs root k v w) (hk:k<1000000000000) (hq:qs[k]?=some q) (na:Nv w A1 a1 l1) (nb:Nv w B1 c1 m1) (iq:QIs n1 l1 m1 q) :
 ∃ os:List FrD,OwnQ (w.alloc (.cells #[.bool n1,.slice A1 l1.length a1,.slice B1 m1.length c1] 28)) root.heap.size v os∧os.length+1≤1000000000000∧root.heap.size≤(w.alloc (.cells #[.bool n1,.slice A1 l1.length a1,.slice B1 m1.length c1] 28)).heap.size ∧
  Hid (∀ v6 w6,OwnQ w6 root.heap.size v6 (os++[⟨n1,A1,a1,l1,B1,c1,m1⟩])→(w.alloc (.cells #[.bool n1,.slice A1 l1.length a1,.slice B1 m1.length c1] 28)).grownBy w6 v.ownBlock→LsAt qs root (k+1) v6 w6):=by
 obtain⟨os,h1,h2,h3,h4,h5⟩:=h;have ba:=(a3t w.heap.size w).alloc (a1u _) (.cells #[.bool n1,.slice A1 l1.length a1,.slice B1 m1.length c1] 28);have ho:=h1.below ba;have e:=iq.mk;refine⟨os,ho,by omega,a1t h5.size (by simp),fun v6 w6 g1 g2=>⟨_,g1,?_,by rw[a1x,h3];rfl,X9 h4 (by rw[hq,e];rfl),(h5.alloc h5.size _).grown g2 (a1t h5.size (by simp)) fun g hg=>h1.block hg⟩⟩;refine V3 h2 ?_ ho g2;exact⟨n1,A1,a1,l1,B1,c1,m1,rfl,na,nb,by have:=iq;rw[e] at this;exact this⟩
theorem LsAt.done {qs:List Rat}{root:World}{k:Nat}{v:Value}{w:World}(h:LsAt qs root k v w) (hk:k=qs.length):∃ A c ds,v=.slice A ds.length c∧FL w A c ds∧Hid (ds.map FrD.q=qs):=by
 obtain⟨os,h1,h2,h3,h4,h5⟩:=h;obtain⟨A,c,e,hf⟩:=h1.fl h2;exact⟨A,c,os,e,hf,by show _=_;rw[h4,hk,a2z]⟩
def oW (qs:List Rat) (root:World) (v i:Value) (wr:World):Prop:=∃ k:Nat,k≤qs.length∧i=.int .i64 (k:Int)∧LsAt qs root k v wr
def MtAt (M:C4) (root:World) (k:Nat) (v:Value) (wr:World):Prop :=
 ∃ rows:List RwD,OwnM wr root.heap.size v rows∧(∀ r∈rows,FL wr r.a r.c r.ds)∧rows.length=k∧B9 rows=M.take k∧Below root.heap.size root wr
theorem MtAt.start (M:C4){root wr:World}(h:Below root.heap.size root wr):MtAt M root 0 (.slice none 0 0) wr:=⟨[],OwnM.nil _ _,fun d hd=>by simp at hd,rfl,rfl,h⟩
theorem MtAt.below {M:C4}{root:World}{k:Nat}{v:Value}{w w':World}(h:MtAt M root k v w) (hb:Below w.heap.size w w'):MtAt M root k v w':=by
 obtain⟨os,h1,h2,h3,h4,h5⟩:=h;exact⟨os,h1.below hb,fun d hd=>(h2 d hd).below hb,h3,h4,(a1j h5 hb)⟩
theorem MtAt.bel {M:C4}{root:World}{k:Nat}{v:Value}{w:World}(h:MtAt M root k v w):Below root.heap.size root w:=by
 obtain⟨os,h1,h2,h3,h4,h5⟩:=h;exact h5
theorem MtAt.app {M:C4}{root:World}{k:Nat}{v:Value}{w:World}{r:RwD}(h:MtAt M root k v w) (hk:k<1000000000000) (hq:M[k]?=some r.qs) (hr:FL w r.a r.c r.ds) :
 ∃ rows:List RwD,OwnM (w.alloc (.cells #[.slice r.a r.ds.length r.c] 22)) root.heap.size v rows∧rows.length+1≤1000000000000∧root.heap.size≤(w.alloc (.cells #[.slice r.a r.ds.length r.c] 22)).heap.size ∧
  Hid (∀ v6 w6,OwnM w6 root.heap.size v6 (rows++[r])→(w.alloc (.cells #[.slice r.a r.ds.length r.c] 22)).grownBy w6 v.ownBlock→MtAt M root (k+1) v6 w6):=by
 obtain⟨os,h1,h2,h3,h4,h5⟩:=h;have ba:=(a3t w.heap.size w).alloc (a1u _) (.cells #[.slice r.a r.ds.length r.c] 22);have ho:=h1.below ba;refine⟨os,ho,by omega,a1t h5.size (by simp),fun v6 w6 g1 g2=>⟨_,g1,fun x hx=>?_,by rw[a1x,h3];rfl,?_,(h5.alloc h5.size _).grown g2 (a1t h5.size (by simp)) fun g hg=>a4o h1 hg⟩⟩
 · rcases a3b.1 hx with h6 | h6
   · exact ((h2 x h6).below ba).ownM ho g2
   · simp at h6;subst h6;exact (hr.below ba).ownM ho g2
 · rw[a3e,hq,←h4]
   simp[B9]
theorem MtAt.done {M:C4}{root:World}{k:Nat}{v:Value}{w:World}(h:MtAt M root k v w) (hk:k=M.length):∃ A c rows,v=.slice A rows.length c∧ML w A c rows∧Hid (B9 rows=M):=by
 obtain⟨os,h1,h2,h3,h4,h5⟩:=h;obtain⟨A,c,e,hf⟩:=h1.ml h2;exact⟨A,c,os,e,hf,by show _=_;rw[h4,hk,a2z]⟩
def yK (M:C4) (root:World) (v i:Value) (wr:World):Prop:=∃ k:Nat,k≤M.length∧i=.int .i64 (k:Int)∧MtAt M root k v wr
theorem M6 (w:World) (r:RwD):(w.alloc (.cells #[.slice r.a r.ds.length r.c] 22)).cell? ⟨w.heap.size,0,none⟩=some r.v:=(a4h w 22 #[.slice r.a r.ds.length r.c]).cell 0
def P3:FrD:=⟨false,none,0,[],none,0,[]⟩
theorem nR (n:Nat):madeCells #[.bool false,.slice none 0 0,.slice none 0 0] (n*3)=((List.replicate n P3).flatMap FrD.cells).toArray:=by
 apply Array.ext'
 apply List.ext_getElem?
 intro i;rw[Array.getElem?_toList]
 show _=((List.replicate n P3).flatMap FrD.cells)[i]?
 by_cases hi:i<n*3
 · have h1:i / 3<(List.replicate n P3).length:=by rw[a1p];omega
   have h2:=dW (List.replicate n P3) (i / 3) (i % 3) h1 (by omega);rw[show i / 3*3+i % 3=i by omega] at h2;rw[h2,List.getElem_replicate];have hs:i<(madeCells #[Value.bool false,.slice none 0 0,.slice none 0 0] (n*3)).size:=by rw[size_madeCells];exact hi
   rw[Array.getElem?_eq_getElem hs]
   simp only[madeCells,Array.getElem_map,Array.getElem_range]
   have h3:i % 3=0∨i % 3=1∨i % 3=2:=by omega
   have hz:(#[Value.bool false,.slice none 0 0,.slice none 0 0]:Array Value).size=3:=rfl;rw[hz]
   rcases h3 with h | h | h <;> rw[h] <;> rfl
 · rw[Array.getElem?_eq_none (by rw[size_madeCells];omega),a2j (by rw[F0,a1p];omega)]
def ArrQ (w:World) (g:Nat) (ds:List FrD):Prop:=Blk w g 28 (ds.flatMap FrD.cells).toArray
theorem ArrQ.noDig (ds:List FrD):NoDig (ds.flatMap FrD.cells).toArray:=NoDigL.noDig (eQ ds) rfl
theorem ArrQ.below {w w':World}{g:Nat}{ds:List FrD}(h:ArrQ w g ds) (hb:Below w.heap.size w w'):ArrQ w' g ds:=a4f h hb
theorem ArrQ.fl {w:World}{g:Nat}{ds:List FrD}(h:ArrQ w g ds) (hv:∀ d∈ds,FV w d.v d.q) (hm:ds.length≤9223372036854775807):FL w (some ⟨g,0,none⟩) ds.length ds :=
 ⟨⟨a1u _,hm,fun j hj=>⟨_,rfl,Blk.lt h,fun i u hu=>by
  have hi:i<3:=by
   have:=(a2e.1 hu).1
   simpa [FrD.cells] using this
  rw[D6,a4e h (j*3+i),List.getElem?_toArray,dW ds j i hj hi];exact hu⟩⟩,hv⟩
theorem ArrQ.cell {w:World}{g j i:Nat}{ds:List FrD}{d:FrD}{u:Value}(h:ArrQ w g ds) (hj:ds[j]?=some d) (hu:d.cells[i]?=some u):w.cell? ⟨g,j*3+i,none⟩=some u:=by
 have b:=(a2e.1 hj).1
 have hi:i<3:=by
  have:=(a2e.1 hu).1
  simpa [FrD.cells] using this
 have e:=(a2e.1 hj).2;rw[a4e h,List.getElem?_toArray,dW ds j i b hi,e];exact hu
theorem mD {ds:List FrD}{j:Nat}{d:FrD}(hj:j<ds.length):(ds.set j d).flatMap FrD.cells=(((ds.flatMap FrD.cells).set (j*3) (.bool d.neg)).set (j*3+1) (.slice d.a d.la.length d.ca)).set (j*3+2) (.slice d.b d.lb.length d.cb):=by
 apply List.ext_getElem?
 intro i;have hl:(ds.set j d).length=ds.length:=by simp
 by_cases hi:i<ds.length*3
 · have h1:=dW (ds.set j d) (i / 3) (i % 3) (by rw[hl];omega) (by omega);have h2:=dW ds (i / 3) (i % 3) (by omega) (by omega);rw[show i / 3*3+i % 3=i by omega] at h1 h2;rw[h1,List.getElem_set];have c:i<(ds.flatMap FrD.cells).length:=by rw[F0];exact hi
   simp only[a2h,a2i]
   by_cases e:j=i / 3
   · rw[if_pos e];have h3:i % 3=0∨i % 3=1∨i % 3=2:=by omega
     rcases h3 with h | h | h
     · rw[if_neg (by omega),if_neg (by omega),if_pos (by omega),if_pos (by omega),h];rfl
     · rw[if_neg (by omega),if_pos (by omega),if_pos (by omega),h];rfl
     · rw[if_pos (by omega),if_pos (by omega),h];rfl
   · rw[if_neg e,if_neg (by omega),if_neg (by omega),if_neg (by omega),h2]
 · rw[a2j (by rw[F0,hl];omega),a2j (by simp only[a2i];rw[F0];omega)]
theorem ArrQ.set {w:World}{g j:Nat}{ds:List FrD}(h:ArrQ w g ds) (hj:j<ds.length) (d:FrD) :
 ∃ w',((w.setCell ⟨g,j*3,none⟩ (.bool d.neg)).setCell ⟨g,j*3+1,none⟩ (.slice d.a d.la.length d.ca)).setCell ⟨g,j*3+2,none⟩ (.slice d.b d.lb.length d.cb)=w'∧ArrQ w' g (ds.set j d)∧Only w w' g:=by
 refine⟨_,rfl,?_,(((a4m w g).set _ _).set _ _).set _ _⟩;have h1:=((Blk.set h (j*3) (.bool d.neg)).set (j*3+1) (.slice d.a d.la.length d.ca)).set (j*3+2) (.slice d.b d.lb.length d.cb);unfold ArrQ;rw[mD hj]
 simpa using h1
theorem fP (w:World) (n:Nat) (hn:n≤100000000000) :
 (Instr.makeSlice 22 (.int .i64 (n:Int)) (.int .i64 (n:Int))).run Tryz.prog w=.ok (.slice (some ⟨w.heap.size,0,none⟩) n n) (w.alloc (.cells ((List.replicate n P3).flatMap FrD.cells).toArray 28)):=by
 obtain⟨i,hi,d,c,b⟩:=info_parts L5;have hr:=run_make (P:=Tryz.prog) w 22 28 i _ Tryz.underlying22 hi d .i64 .i64 n n (by omega) (by omega) (by rw[b];omega) (by omega);rw[hr,c,Int.toNat_natCast,←nR]
 rfl
/-- An empty slice with room. -/
theorem sK (w:World) (n:Nat) (hn:n≤100000000000) :
 (Instr.makeSlice 22 (.int .i64 0) (.int .i64 (n:Int))).run Tryz.prog w=.ok (.slice (some ⟨w.heap.size,0,none⟩) 0 n) (w.alloc (.cells ((List.replicate n P3).flatMap FrD.cells).toArray 28)):=by
 obtain⟨i,hi,d,c,b⟩:=info_parts L5;have hr:=run_make (P:=Tryz.prog) w 22 28 i _ Tryz.underlying22 hi d .i64 .i64 0 n (by omega) (by omega) (by rw[b];omega) (by omega);rw[hr,c,Int.toNat_natCast,←nR]
 rfl
theorem own_fr0 (w:World) (n:Nat) (hn:n≤100000000000){base:Nat}(hb:base≤w.heap.size):OwnQ (w.alloc (.cells ((List.replicate n P3).flatMap FrD.cells).toArray 28)) base (.slice (some ⟨w.heap.size,0,none⟩) 0 n) []:=by
 obtain⟨i,hi,d,c,b⟩:=info_parts L5;have f:maxLen=9223372036854775807:=rfl;obtain⟨w',hr,h2,h3⟩:=run_make_own (P:=Tryz.prog) w base 22 28 i _ 3 Tryz.underlying22 hi d c .i64 .i64 n (by rw[b];omega) (by omega) hb;rw[sK w n hn] at hr
 injection hr with _ e
 subst e;refine⟨h2,fun g hg=>?_⟩
 simp[Value.ownBlock] at hg
 subst hg;exact⟨_,a4h w _ _,ArrQ.noDig _⟩
theorem LsAt.make {qs:List Rat}{root w:World}{n:Nat}(h:Below root.heap.size root w) (hn:n≤100000000000):LsAt qs root 0 (.slice (some ⟨w.heap.size,0,none⟩) 0 n) (w.alloc (.cells ((List.replicate n P3).flatMap FrD.cells).toArray 28)) :=
 ⟨[],own_fr0 w n hn h.size,fun d hd=>by simp at hd,rfl,rfl,h.alloc h.size _⟩
attribute [local go_sem ↓] Go.wp_at_zero Go.wp_at_succ
def ZAt (n g k:Nat) (root wr:World):Prop:=∃ ds:List FrD,ArrQ wr g ds∧ds.length=n∧(∀ j d,j<k→ds[j]?=some d→FV wr d.v d.q∧d.q=0)∧Below root.heap.size root wr
theorem ZAt.below {n g k:Nat}{root w w':World}(h:ZAt n g k root w) (hb:Below w.heap.size w w'):ZAt n g k root w':=by
 obtain⟨ds,h1,h2,h3,h4⟩:=h;exact⟨ds,h1.below hb,h2,fun j d hj hd=>⟨(h3 j d hj hd).1.below hb,(h3 j d hj hd).2⟩,(a1j h4 hb)⟩
theorem ZAt.bel {n g k:Nat}{root w:World}(h:ZAt n g k root w):Below root.heap.size root w:=by
 obtain⟨ds,h1,h2,h3,h4⟩:=h;exact h4
def ZInv (n g:Nat) (root:World) (i:Value) (wr:World):Prop:=∃ k:Nat,k≤n∧i=.int .i64 (k:Int)∧ZAt n g k root wr
theorem ZAt.store {n g k:Nat}{root w:World}(h:ZAt n g k root w) (hk:k<n) (hg:root.heap.size≤g){n1:Bool}{A1:Option Addr}{a1:Nat}{l1:List Nat}{B1:Option Addr}{c1:Nat}{m1:List Nat}(na:Nv w A1 a1 l1) (nb:Nv w B1 c1 m1){q:Rat}(iq:QIs n1 l1 m1 q) (hq:q=0) :
 ∃ (u0 u1 u2:Value) (w9:World),w.cell? ⟨g,k*3,none⟩=some u0∧w.cell? ⟨g,k*3+1,none⟩=some u1∧w.cell? ⟨g,k*3+2,none⟩=some u2∧w.frozen? ⟨g,k*3,none⟩=false∧w.frozen? ⟨g,k*3+1,none⟩=false∧w.frozen? ⟨g,k*3+2,none⟩=false ∧
  ((w.setCell ⟨g,k*3,none⟩ (.bool n1)).setCell ⟨g,k*3+1,none⟩ (.slice A1 l1.length a1)).setCell ⟨g,k*3+2,none⟩ (.slice B1 m1.length c1)=w9∧ZAt n g (k+1) root w9:=by
 obtain⟨ds,h1,h2,h3,h4⟩:=h;have b:k<ds.length:=by omega
 have c:=a1m b;obtain⟨w9,e9,l,o9⟩:=h1.set b ⟨n1,A1,a1,l1,B1,c1,m1⟩;refine⟨_,_,_,w9,h1.cell (i:=0) c rfl,h1.cell (i:=1) c rfl,h1.cell (i:=2) c rfl,a4g h1 _,a4g h1 _,a4g h1 _,e9,_,l,by simpa using h2,fun j d hj hd=>?_,o9.to_below h4 hg h4.size⟩;rw[a2h] at hd
 by_cases e:k=j
 · rw[if_pos e,if_pos b] at hd
   injection hd with hd
   subst hd;have hf:FV w (FrD.v ⟨n1,A1,a1,l1,B1,c1,m1⟩) 0:=⟨n1,A1,a1,l1,B1,c1,m1,rfl,na,nb,by rw[←hq];exact iq⟩
   have f:FrD.q ⟨n1,A1,a1,l1,B1,c1,m1⟩=0:=by
    show mkRat (sg n1 (val l1)) (val m1)=0
    rw[←iq.mk,hq]
   rw[f];exact⟨hf.only_blk h1 (ArrQ.noDig ds) o9,rfl⟩
 · rw[if_neg e] at hd;obtain⟨h5,h6⟩:=h3 j d (by omega) hd;exact⟨h5.only_blk h1 (ArrQ.noDig ds) o9,h6⟩
theorem ZAt.done {n g:Nat}{root w:World}(h:ZAt n g n root w):∃ ds:List FrD,ArrQ w g ds∧ds.length=n∧(∀ d∈ds,FV w d.v d.q)∧Hid (ds.map FrD.q=List.replicate n 0):=by
 obtain⟨ds,h1,h2,h3,h4⟩:=h;refine⟨ds,h1,h2,fun d hd=>?_,?_⟩
 · obtain⟨j,hj,e⟩:=List.mem_iff_getElem.1 hd;exact (h3 j d (by omega) (by rw[a1m hj,e])).1
 · show ds.map FrD.q=_
   refine List.eq_replicate_iff.2 ⟨by simpa using h2,fun q hq=>?_⟩;obtain⟨d,hd,rfl⟩:=a2v.1 hq;obtain⟨j,hj,e⟩:=List.mem_iff_getElem.1 hd;exact (h3 j d (by omega) (by rw[a1m hj,e])).2
def RetArr (qs:List Rat) (W:World) (e:Ending) (w':World):Prop :=
 ∃ (g:Nat) (ds:List FrD),e=.returned (.slice (some ⟨g,0,none⟩) ds.length ds.length)∧ArrQ w' g ds∧(∀ d∈ds,FV w' d.v d.q)∧Hid (ds.map FrD.q=qs)∧W.heap.size≤g∧Below W.heap.size W w'
theorem gN (n:Nat) (hn:n≤1000000000) (w:World):Calls Tryz.prog 104 #[.int .i64 (n:Int)] w (RetArr (List.replicate n 0) w):=by
 have f:=fP w n (by omega);obtain⟨w1,l,b1⟩:∃ w1,w.alloc (.cells ((List.replicate n P3).flatMap FrD.cells).toArray 28)=w1∧Below w.heap.size w w1:=⟨_,rfl,(a3t _ _).alloc (a1u _) _⟩;have hA:ArrQ w1 w.heap.size (List.replicate n P3):=by rw[←l];exact a4h w _ _
 rw[l] at f;obtain⟨g,hg⟩:∃ g,w.heap.size=g:=⟨_,rfl⟩;have h:=a1k (show w.heap.size≤g by omega);rw[hg] at f hA;clear hg;go_enter Tryz.func104,Tryz.ntmps104;go_wp2
 go_loopw [4,9] (fun x i wr=>ZInv n g w i wr) (fun _ i _=>n-(intOf i).toNat)
 case atStart=>exact⟨0,by omega,rfl,_,hA,by simp,fun j d hj=>by omega,b1⟩
 case round =>
  obtain⟨k,hk,rfl,b⟩:=hrel
  by_cases hkl:k<n
  · have o:(k:Int)<(n:Int):=by omega
    go_wp2_with fail;refine (r7 0 _ (by decide) (by decide)).mono ?_;rintro e w4 ⟨v1,rfl,⟨n1,A1,a1,l1,B1,c1,m1,rfl,na,nb,iq⟩,b4⟩;replace b:=b.below b4;obtain⟨u0,u1,u2,w9,s0,s1,s2,f0,f1,f2,e9,c⟩:=b.store hkl h.out na nb iq (by simp);clear na nb iq b;go_wp2;exact⟨⟨k+1,by omega,by go_num,c⟩,by simp[intOf];omega⟩
  · obtain rfl:k=n:=by omega
    have m:decide ((k:Int)<(k:Int))=false:=a1v (by omega);have hb:=b.bel;obtain⟨ds,h1,h2,h3,h4⟩:=b.done;go_wp2;go_ret;exact⟨g,ds,by rw[h2];rfl,h1,h3,h4,h.out,hb⟩
section
variable {E T:TypeId}{C:Nat}{P:Value→Prop}
theorem gX {z:Value}{b:Nat}(w:World) (base:Nat) (v:Value) (n:Nat) (xs:List Value) (hT:Tryz.prog.underlying T=some (.slice E)) (hI:(Tryz.prog.info? E).map (fun i=>(i.zero,i.size,i.bytes))=some (some z,C,b)) (hzs:z.cells.size=C) (hC:0<C) (hzP:AllP P z.cells) (hb:b≤100)
 (hown:OwnG E C P w base v n xs) (ad:Addr) (m c:Nat) (news:List Value) (hl:news.length=m*C) (hnews:∀ j u,news[j]?=some u→w.cell? (ad.add j)=some u) (h1:∀ u∈news,u.oneCell'=true) (hnP:AllPL P news)
 (h63:n+m≤1000000000000) (hbase:base≤w.heap.size) (hxP:AllPL P xs) :
 ∃ v' w',(Builtin.append_ #[T,T] T #[v,.slice (some ad) m c]).run Tryz.prog w=.ok v' w'∧OwnG E C P w' base v' (n+m) (xs++news)∧w.grownBy w' v.ownBlock:=by
 rcases a3a m with rfl | hm
 · obtain⟨i,hi,A,l,t⟩:=info_parts hI;have H:maxLen=9223372036854775807:=rfl;have x:∀ k,k≤1000000000000→k*b≤140737488355328:=fun k hk=>a1t (Nat.mul_le_mul hk hb) (by omega);obtain⟨v',w',f,h2,h3,h4⟩:=run_append_own (P:=Tryz.prog) w base T T E i z C b hT hi A l t hzs hC v n xs hown.1 ad 0 c news hl hnews h1 (by omega) (x _ h63) hbase;refine⟨v',w',f,⟨h2,?_⟩,h3⟩
   rcases hown.1.2 with ⟨rfl,h0⟩ | ⟨g,D,o,rfl,G,hg,q,F,y,B⟩
   · have:=h4.2 ⟨rfl,rfl⟩;subst this;intro g hg
     simp[Value.ownBlock] at hg
   · have s:n*i.size+news.length≤o.size:=by rw[l,hl,y,←a3k];exact a1y _ q
     have hr:=run_append_room (P:=Tryz.prog) w T T E i hT hi g n D o hg ad 0 c news (by rw[l];exact hl) hnews h1 q s;rw[f] at hr
     injection hr with e1 e2
     subst e1 e2;intro g' r
     simp[Value.ownBlock] at r
     subst r;obtain⟨h,d,p⟩:=hown.2 g rfl
     have ec:h=o:=by
      unfold Blk at d;rw[hg] at d
      injection d with d
      injection d with d _ _
      exact d.symm
     subst ec;exact⟨_,setRow_heap w g h _ _ _ hg,AllPL.toAll (((p.list.take (n*i.size)).append hnP).append (p.list.drop (n*i.size+news.length))) rfl⟩
 · exact X4 w base v n xs hT hI hzs hC hzP hb hown ad m c news hm hl hnews h1 hnP h63 hbase hxP
end
theorem zF {rs:List RwD}{w:World}{ad:Addr}(h:∀ j r,rs[j]?=some r→w.cell? (ad.add j)=some r.v) (j:Nat) (u:Value) (hu:(rs.flatMap RwD.cells)[j]?=some u):w.cell? (ad.add j)=some u:=by
 have hj:j<rs.length:=by
  have:=(a2e.1 hu).1;rw[oL] at this;omega
 rw[flat1 hj] at hu;rw[←hu];exact h j _ (a1m hj)
/-- Rows are appended. -/
theorem zE {T:TypeId}(hT:Tryz.prog.underlying T=some (.slice 22)) (w:World) (base:Nat) (v:Value) (rows:List RwD) (hown:OwnM w base v rows) (ad:Addr) (m c:Nat) (rs:List RwD) (hm:rs.length=m) (hnews:∀ j r,rs[j]?=some r→w.cell? (ad.add j)=some r.v) (h63:rows.length+m≤1000000000000) (hbase:base≤w.heap.size) :
 ∃ v' w',(Builtin.append_ #[T,T] T #[v,.slice (some ad) m c]).run Tryz.prog w=.ok v' w'∧OwnM w' base v' (rows++rs)∧w.grownBy w' v.ownBlock:=by
 subst hm
 obtain⟨v',w',h1,h2,h3⟩:=gX w base v rows.length _ hT xU rfl (by decide) (fun i u hi=>by
  match i with
  | 0=>injection hi with hi;exact⟨_,_,_,hi.symm⟩
  | i+1=>simp[Value.cells] at hi) (by decide) hown ad rs.length c (rs.flatMap RwD.cells) (by rw[oL]) (zF hnews) (fun u hu=>by
   obtain⟨A,n,c,e⟩:=aH rs u hu;subst e;rfl) (aH rs) h63 hbase (aH rows)
 refine⟨v',w',h1,?_,h3⟩;unfold OwnM;rw[a1x,List.flatMap_append];exact h2
theorem L8 {ops:Array Oper}{rest:List Oper}{o:Oper}{a:Act}{Q:Exit→Act→World→Prop}(hgd:o.guard=none){T:TypeId}(hT:Tryz.prog.underlying T=some (.slice 22)) (hty:o.type=T) (s x:Operand)
 (ho:o.op=.call { callee:=.builtin .append,args:=#[s,x],argTypes:=#[T,T] }) {w:World}
 (base:Nat) (v:Value) (rows:List RwD) (hs:a.eval s=v) (hown:OwnM w base v rows) (ad:Addr) (m c:Nat) (rs:List RwD) (hm:rs.length=m) (hx:a.eval x=.slice (some ad) m c) (hnews:∀ j r,rs[j]?=some r→w.cell? (ad.add j)=some r.v)
 (h63:rows.length+m≤1000000000000) (hbase:base≤w.heap.size)
 (h:∀ v' w',OwnM w' base v' (rows++rs)→w.grownBy w' v.ownBlock→wpList Tryz.prog ops Q rest (a.put o.dst v') w'):wpList Tryz.prog ops Q (o::rest) a w:=by
 refine wpList_plain hgd fun K hK=>?_;obtain⟨v',w',b,h2,h3⟩:=zE hT w base v rows hown ad m c rs hm hnews h63 hbase
 unfold Oper.wp execOp
 simp only[ho,hty,resolve,invoke,builtin,Sem.run_bind,Sem.run_pure,Result.andThen_ok,List.map_toArray,List.map_cons,List.map_nil,hs,hx,b]
 exact hK _ _ (h v' w' h2 h3)
def IsI (u:Value):Prop:=∃ z,u=.int .i64 z
theorem isI_u32 (d:Int):¬ IsI (.int .u32 d):=by rintro ⟨z,h⟩;cases h
theorem sR (b:Bool):¬ IsI (.bool b):=by rintro ⟨z,h⟩;cases h
def J7 (is:List Nat):List Value:=is.map fun (x:Nat)=>Value.int .i64 (x:Int)
theorem cX (is:List Nat):AllPL IsI (J7 is):=fun u hu=>by
 obtain⟨r,_,hr⟩:=a2v.1 hu;exact⟨_,hr.symm⟩
def OwnI (w:World) (base:Nat) (v:Value) (is:List Nat):Prop:=OwnG 3 1 IsI w base v is.length (J7 is)
theorem OwnI.nil (w:World) (base:Nat):OwnI w base (.slice none 0 0) []:=OwnG.nil w base
theorem qH:(Tryz.prog.info? 3).map (fun i=>(i.zero,i.size,i.bytes))=some (some (.int .i64 0),1,8):=by kernel_rfl
theorem fM {T:TypeId}(hT:Tryz.prog.underlying T=some (.slice 3)) (w:World) (base:Nat) (v:Value) (is:List Nat) (hown:OwnI w base v is) (ad:Addr) (c:Nat) (x:Nat) (hnews:w.cell? ad=some (.int .i64 (x:Int))) (h63:is.length+1≤1000000000000) (hbase:base≤w.heap.size) :
 ∃ v' w',(Builtin.append_ #[T,T] T #[v,.slice (some ad) 1 c]).run Tryz.prog w=.ok v' w'∧OwnI w' base v' (is++[x])∧w.grownBy w' v.ownBlock:=by
 obtain⟨v',w',h1,h2,h3⟩:=X4 w base v is.length _ hT qH rfl (by decide) (fun i u hi=>by
  match i with
  | 0=>injection hi with hi;exact⟨_,hi.symm⟩
  | i+1=>simp[Value.cells] at hi) (by decide) hown ad 1 c [.int .i64 (x:Int)] (by decide) rfl (fun j u hj=>by
  match j with
  | 0=>injection hj with hj;subst hj;simpa [Addr.add] using hnews
  | j+1=>simp at hj) (fun u hu=>by simp at hu;subst hu;rfl) (fun u hu=>by simp at hu;exact⟨_,hu⟩) h63 hbase (cX is)
 refine⟨v',w',h1,?_,h3⟩;unfold OwnI J7;rw[a1x,a2r]
 simpa [J7] using h2
theorem bH {ops:Array Oper}{rest:List Oper}{o:Oper}{a:Act}{Q:Exit→Act→World→Prop}(hgd:o.guard=none){T:TypeId}(hT:Tryz.prog.underlying T=some (.slice 3)) (hty:o.type=T) (s x:Operand)
 (ho:o.op=.call { callee:=.builtin .append,args:=#[s,x],argTypes:=#[T,T] }) {w:World}
 (base:Nat) (v:Value) (is:List Nat) (hs:a.eval s=v) (hown:OwnI w base v is) (ad:Addr) (c:Nat) (y:Nat) (hx:a.eval x=.slice (some ad) 1 c) (hnews:w.cell? ad=some (.int .i64 (y:Int)))
 (h63:is.length+1≤1000000000000) (hbase:base≤w.heap.size)
 (h:∀ v' w',OwnI w' base v' (is++[y])→w.grownBy w' v.ownBlock→wpList Tryz.prog ops Q rest (a.put o.dst v') w'):wpList Tryz.prog ops Q (o::rest) a w:=by
 refine wpList_plain hgd fun K hK=>?_;obtain⟨v',w',b,h2,h3⟩:=fM hT w base v is hown ad c y hnews h63 hbase
 unfold Oper.wp execOp
 simp only[ho,hty,resolve,invoke,builtin,Sem.run_bind,Sem.run_pure,Result.andThen_ok,List.map_toArray,List.map_cons,List.map_nil,hs,hx,b]
 exact hK _ _ (h v' w' h2 h3)
theorem OwnI.below {w w':World}{base:Nat}{v:Value}{is:List Nat}(h:OwnI w base v is) (hb:Below w.heap.size w w'):OwnI w' base v is:=OwnG.below h hb
theorem OwnI.form {w:World}{base:Nat}{v:Value}{is:List Nat}(h:OwnI w base v is):∃ A c,v=.slice A is.length c∧is.length≤c∧c≤9223372036854775807:=by
 have b:maxLen=9223372036854775807:=rfl
 rcases h.1.2 with ⟨rfl,h0⟩ | ⟨g,d,f,rfl,hb,hg,hn,hm,hs,ht⟩
 · exact⟨none,0,by rw[h0],by omega,by omega⟩
 · exact⟨_,_,rfl,hn,by omega⟩
def ILs (w:World) (A:Option Addr) (c:Nat) (is:List Nat):Prop:=is.length≤c∧c≤9223372036854775807∧∀ (k x:Nat),is[k]?=some x→∃ a,A=some a∧a.block<w.heap.size∧w.cell? (a.add k)=some (.int .i64 (x:Int))
theorem ILs.below {w w':World}{A:Option Addr}{c:Nat}{is:List Nat}(h:ILs w A c is) (hb:Below w.heap.size w w'):ILs w' A c is :=
 ⟨h.1,h.2.1,fun k x hk=>by
  obtain⟨a,e,h1,h2⟩:=h.2.2 k x hk
  exact⟨a,e,a1o h1 hb.size,by
   rw[a4a (w:=w) (by rw[f7];exact hb.block _ h1)];exact h2⟩⟩
theorem OwnI.il {w:World}{base:Nat}{v:Value}{is:List Nat}(h:OwnI w base v is):∃ A c,v=.slice A is.length c∧ILs w A c is:=by
 have f:maxLen=9223372036854775807:=rfl
 rcases h.1.2 with ⟨rfl,h0⟩ | ⟨g,cap,b,rfl,hb,hg,hn,hm,hs,ht⟩
 · have:is=[]:=a2a h0;subst this;exact⟨none,0,rfl,by simp,by omega,fun k x hk=>by simp at hk⟩
 · refine⟨_,cap,rfl,hn,by omega,fun k x hk=>⟨_,rfl,(Array.getElem?_eq_some_iff.1 hg).1,?_⟩⟩;have d:=(a2e.1 hk).1;rw[D6,World.ownsRow.cellAt (n:=is.length) (base:=base) (e:=3) (size:=1) (cap:=cap) h.1 k (by omega)]
   show (J7 is)[k]?=_
   unfold J7;rw[a1r,hk];rfl
theorem ML.own {E:TypeId}{C:Nat}{P:Value→Prop}{w w':World}{base c n:Nat}{A:Option Addr}{rows:List RwD}{v:Value}{xs:List Value}(hd:∀ d,¬ P (.int .u32 d)) (hp:¬ P (.bool true)∧¬ P (.bool false)) (hs:∀ A n c,¬ P (.slice A n c)) (h:ML w A c rows) (hown:OwnG E C P w base v n xs) (hg:w.grownBy w' v.ownBlock):ML w' A c rows :=
 ⟨h.row.own (P:=P) (fun r=>⟨0,r.v,rfl,hs _ _ _⟩) hown hg,fun r hr=>(h.fl r hr).own hd hp hown hg⟩
theorem ML.ownI {w w':World}{base c:Nat}{A:Option Addr}{rows:List RwD}{v:Value}{is:List Nat}(h:ML w A c rows) (hown:OwnI w base v is) (hg:w.grownBy w' v.ownBlock):ML w' A c rows :=
 h.own isI_u32 ⟨sR _,sR _⟩ (fun A n c=>by rintro ⟨z,e⟩;cases e) hown hg
def ChAt (ws:World) (rows:List RwD) (v:Value) (w:World):Prop:=OwnM w ws.heap.size v rows∧Below ws.heap.size ws w
theorem ChAt.below {ws w w':World}{rows:List RwD}{v:Value}(h:ChAt ws rows v w) (hb:Below w.heap.size w w'):ChAt ws rows v w':=⟨h.1.below hb,h.2.trans (hb.mono h.2.size)⟩
theorem ChAt.app {ws w w':World}{rows rows':List RwD}{v v':Value}(h:ChAt ws rows v w) (ho:OwnM w' ws.heap.size v' rows') (hg:w.grownBy w' v.ownBlock):ChAt ws rows' v' w' :=
 ⟨ho,h.2.grown hg h.2.size fun g hg=>a4o h.1 hg⟩
theorem ML.cellAt {w:World}{a:Addr}{c:Nat}{rows:List RwD}(h:ML w (some a) c rows){k:Nat}{r:RwD}(hk:rows[k]?=some r):w.cell? (a.add k)=some r.v:=by
 obtain⟨a',r',e,h1,h2,h3,h4⟩:=h.at (a2e.1 hk).1
 injection e with e
 subst e;have:=h4.out;rw[hk] at this
 injection this with this
 subst this;exact h2
theorem OwnM.empty (w:World){base:Nat}(hb:base≤w.heap.size):OwnM (w.alloc (.cells #[] 22)) base (.slice (some ⟨w.heap.size,0,none⟩) 0 0) []:=by
 have hB:=a4h w 22 #[]
 exact⟨⟨rfl,.inr ⟨w.heap.size,0,#[],rfl,hb,hB,a1u _,by decide,rfl,rfl⟩⟩,fun g hg=>by
  simp[Value.ownBlock] at hg
  subst hg;exact⟨_,hB,fun i u hi=>by simp at hi⟩⟩
theorem j9:(∀ (a:Act) (d:Nat) (v:Value),a.put (some d) v={ a with tmps:=a.tmps.setIfInBounds d v })∧(∀ (a:Act) (v:Value),a.put none v=a)∧(∀ (l:List Value) (i:Nat) (v:Value),l.toArray.setIfInBounds i v=(l.set i v).toArray)∧(∀ (l:List Bool) (i:Nat) (v:Bool),l.toArray.setIfInBounds i v=(l.set i v).toArray) ∧
 (∀ (x:Value) (l:List Value) (v:Value),(x::l).set 0 v=v::l)∧(∀ (x:Value) (l:List Value) (n:Nat) (v:Value),(x::l).set (n+1) v=x::l.set n v)∧(∀ (x:Bool) (l:List Bool) (v:Bool),(x::l).set 0 v=v::l)∧(∀ (x:Bool) (l:List Bool) (n:Nat) (v:Bool),(x::l).set (n+1) v=x::l.set n v) ∧
 (∀ (l:List Oper) (i:Nat) (h:i<l.toArray.size),l.toArray[i]=l[i]'(by simpa using h))∧(∀ (x:Oper) (l:List Oper) (h:0<(x::l).length),(x::l)[0]=x)∧(∀ (x:Oper) (l:List Oper) (i:Nat) (h:i+1<(x::l).length),(x::l)[i+1]=l[i]'(by simpa using h)) :=
 ⟨fun _ _ _=>rfl,fun _ _=>rfl,fun _ _ _=>by simp,fun _ _ _=>by simp,fun _ _ _=>rfl,fun _ _ _ _=>rfl,fun _ _ _=>rfl,fun _ _ _ _=>rfl,fun _ _ _=>rfl,fun _ _ _=>rfl,fun _ _ _ _=>rfl⟩
section
variable {P:Program}{ops:Array Oper}{Q:Exit→Act→World→Prop}{md:Region.Mode}{S:World→Prop}{fuel:Nat}{listed:Array Bool}{a:Act}{w:World}{oi:Oper}{v:Value}
theorem K4 {a':Act}{l':Array Bool}(i:Nat) (hi:ops[i]?=some oi) (hS:S w) (h:wpAnyH P md ops Q S fuel l' a' w) (hs:Region.noSelect ops=true:=by kernel_rfl) (hf:Region.free md ops listed i=true:=by kernel_rfl) (hr:(Region.ready md ops listed).contains i=true:=by kernel_rfl) (hw:Region.wanted oi (yielded ops a.tmps)=true:=by rfl)
 (hy:∀ w,S w→(execOp a.eval oi).run P w=.ok (.value v) w:=by (intro w b;(try dsimp only at b);go_simp;all_goals with_reducible rfl)) (hQ:∀ c a w,Q (.panic c) (a.put oi.dst v) w→Q (.panic c) a w:=by exact fun _ _ _ h=>h) (ha:a.put oi.dst v=a':=by ((try simp only[j9]);first | done | rfl)) (hl:listed.setIfInBounds i true=l':=by ((try simp only[j9]);first | done | rfl)):wpAnyH P md ops Q S (fuel+1) listed a w:=by
 subst ha hl
 exact
 wpAnyH_take hi hs hf hr hQ (Or.inl ⟨hw,hy⟩) hS h
theorem V4 {a':Act}{l':Array Bool}(i:Nat) (hi:ops[i]?=some oi) (hS:S w) (h:wpAnyH P md ops Q S fuel l' a' w) (hs:Region.noSelect ops=true:=by kernel_rfl) (hf:Region.free md ops listed i=true:=by kernel_rfl) (hr:(Region.ready md ops listed).contains i=true:=by kernel_rfl) (hw:Region.wanted oi (yielded ops a.tmps)=false:=by kernel_rfl)
 (hQ:∀ c a w,Q (.panic c) (a.put oi.dst undef) w→Q (.panic c) a w:=by exact fun _ _ _ h=>h) (ha:a.put oi.dst undef=a':=by ((try simp only[j9]);first | done | rfl)) (hl:listed.setIfInBounds i true=l':=by ((try simp only[j9]);first | done | rfl)):wpAnyH P md ops Q S (fuel+1) listed a w:=by
 subst ha hl
 exact
 wpAnyH_take hi hs hf hr hQ (Or.inr ⟨hw,rfl⟩) hS h
def wH (P:Program) (md:Region.Mode) (ops:Array Oper) (Q:Exit→Act→World→Prop) (S:World→Prop) (i:Nat) (listed:Array Bool) (a:Act) (l':Array Bool) (a':Act):Prop:=ops[i]?=ops[i]?∧∀ fuel w,S w→wpAnyH P md ops Q S fuel l' a' w→wpAnyH P md ops Q S (fuel+1) listed a w
theorem xO {a':Act}{l':Array Bool}{i:Nat} (hi:ops[i]?=some oi) (hs:Region.noSelect ops=true:=by kernel_rfl) (hf:Region.free md ops listed i=true:=by kernel_rfl) (hr:(Region.ready md ops listed).contains i=true:=by kernel_rfl) (hw:Region.wanted oi (yielded ops a.tmps)=true:=by rfl)
 (hy:∀ w,S w→(execOp a.eval oi).run P w=.ok (.value v) w:=by (intro w b;(try dsimp only at b);go_simp;all_goals with_reducible rfl)) (hQ:∀ c a w,Q (.panic c) (a.put oi.dst v) w→Q (.panic c) a w:=by exact fun _ _ _ h=>h) (ha:a.put oi.dst v=a':=by ((try simp only[j9]);first | done | rfl)) (hl:listed.setIfInBounds i true=l':=by ((try simp only[j9]);first | done | rfl)):wH P md ops Q S i listed a l' a':=⟨rfl,fun _ _ hS h=>K4 i hi hS h hs hf hr hw hy hQ ha hl⟩
theorem P2 {l1 l2:Array Bool} {a1 a2:Act} (i1 i2:Nat) (hS:S w) (h:wpAnyH P md ops Q S fuel l2 a2 w) (c1:wH P md ops Q S i1 listed a l1 a1:=by exact xO rfl) (c2:wH P md ops Q S i2 l1 a1 l2 a2:=by exact xO rfl):wpAnyH P md ops Q S (fuel+1+1) listed a w:=c1.2 _ _ hS (c2.2 _ _ hS h)
theorem mS {l1 l2 l3 l4:Array Bool} {a1 a2 a3 a4:Act} (i1 i2 i3 i4:Nat) (hS:S w) (h:wpAnyH P md ops Q S fuel l4 a4 w) (c1:wH P md ops Q S i1 listed a l1 a1:=by exact xO rfl) (c2:wH P md ops Q S i2 l1 a1 l2 a2:=by exact xO rfl) (c3:wH P md ops Q S i3 l2 a2 l3 a3:=by exact xO rfl) (c4:wH P md ops Q S i4 l3 a3 l4 a4:=by exact xO rfl):wpAnyH P md ops Q S (fuel+1+1+1+1) listed a w:=c1.2 _ _ hS (c2.2 _ _ hS (c3.2 _ _ hS (c4.2 _ _ hS h)))
theorem mX {l1 l2 l3 l4 l5 l6 l7 l8:Array Bool} {a1 a2 a3 a4 a5 a6 a7 a8:Act} (i1 i2 i3 i4 i5 i6 i7 i8:Nat) (hS:S w) (h:wpAnyH P md ops Q S fuel l8 a8 w) (c1:wH P md ops Q S i1 listed a l1 a1:=by exact xO rfl) (c2:wH P md ops Q S i2 l1 a1 l2 a2:=by exact xO rfl) (c3:wH P md ops Q S i3 l2 a2 l3 a3:=by exact xO rfl) (c4:wH P md ops Q S i4 l3 a3 l4 a4:=by exact xO rfl) (c5:wH P md ops Q S i5 l4 a4 l5 a5:=by exact xO rfl) (c6:wH P md ops Q S i6 l5 a5 l6 a6:=by exact xO rfl) (c7:wH P md ops Q S i7 l6 a6 l7 a7:=by exact xO rfl) (c8:wH P md ops Q S i8 l7 a7 l8 a8:=by exact xO rfl):wpAnyH P md ops Q S (fuel+1+1+1+1+1+1+1+1) listed a w:=c1.2 _ _ hS (c2.2 _ _ hS (c3.2 _ _ hS (c4.2 _ _ hS (c5.2 _ _ hS (c6.2 _ _ hS (c7.2 _ _ hS (c8.2 _ _ hS h)))))))
theorem z8 (i:Nat) (ho:ops[i]?=some oi) (h:∀ K':Act→World→Prop,Shut (∀ a w,S w→(S w→wpAnyH P md ops Q S fuel (listed.setIfInBounds i true) a w)→K' a w)→if Region.wanted oi (yielded ops a.tmps)=true then Oper.wp P oi a w K' Q else K' (a.put oi.dst undef) w)
 (hr:Region.ready md ops listed=[i]:=by kernel_rfl):wpAnyH P md ops Q S (fuel+1) listed a w:=wpAnyH_ready hr (by simp) (AllReadyH.cons ho h AllReadyH.nil)
end
theorem tE {rows:List RwD}{r:RwD}(h:rows[0]?=some r):colsL (B9 rows)=r.ds.length:=by
 cases rows with
 | nil=>simp at h
 | cons a l=>simp at h;subst h;simp[colsL,B9,RwD.qs]
theorem oP {rows:List RwD}(h:rows.length=0):colsL (B9 rows)=0∧A0 (B9 rows)=true:=by
 have:=a2a h;subst this;exact⟨rfl,rfl⟩
def sN (n:Nat) (r:RwD):Bool:=decide (r.ds.length=n)
theorem jJ (rows:List RwD):A0 (B9 rows)=rows.all (sN (colsL (B9 rows))):=by
 unfold A0;rw[show (B9 rows).all (fun r=>decide (r.length=colsL (B9 rows)))=rows.all fun r=>decide (r.qs.length=colsL (B9 rows)) from by rw[show B9 rows=rows.map RwD.qs from rfl,List.all_map];rfl]
 congr 1
 funext r
 unfold sN;rw[a4l]
theorem cols_any {A:Option Addr}{c:Nat}{rows:List RwD}{w:World}(h:ML w A c rows) :
 Calls Tryz.prog 102 #[.slice A rows.length c] w (RetIB (if A0 (B9 rows)=true then colsL (B9 rows) else 0) (A0 (B9 rows)) w):=by
 have hl:=h.len
 by_cases h0:rows.length=0
 · obtain⟨e1,e2⟩:=oP h0;rw[e1,e2];have hz:((rows.length:Int) == 0)=true:=by rw[beq_iff_eq];omega
   have hA:=a1k h0;clear h0;go_enter Tryz.func102,Tryz.ntmps102;go_wp2
   go_ret2
   exact⟨rfl,a3t _ _⟩
 · have hz:((rows.length:Int) == 0)=false:=by rw[beq_eq_false_iff_ne];omega
   have j:0<rows.length:=by omega
   clear h0;obtain⟨n,hn⟩:∃ n,Hid (colsL (B9 rows)=n):=⟨_,rfl⟩;obtain⟨v,hv⟩:∃ v,Hid (A0 (B9 rows)=v):=⟨_,rfl⟩;have q:Hid (rows.all (sN n)=v):=by show _=v;rw[←hv.out,jJ,hn.out]
   rw[hn.out,hv.out];obtain⟨m,hm⟩:∃ m,Hid ((if v=true then n else 0)=m):=⟨_,rfl⟩;rw[hm.out];obtain⟨a0,r0,rfl,l,d,o,y⟩:=h.at j;have g:=a1k (show n=r0.ds.length by rw[←hn.out];exact tE y.out);have B:=o.len;have s:w.cell? a0=some (.slice r0.a r0.ds.length r0.c):=jM d;clear o d;go_enter Tryz.func102,Tryz.ntmps102;go_wp2
   go_loopw [5,11] (fun x i wr=>gL (sN n) rows w i wr) (fun _ i _=>rows.length-(intOf i).toNat)
   case atStart=>exact⟨0,by omega,rfl,rfl,a3t _ _⟩
   case round =>
    obtain⟨k,hk,rfl,f,b⟩:=hrel;have E:wr.cell? a0=some (.slice r0.a r0.ds.length r0.c):=(b.cell l).trans s
    by_cases hkl:k<rows.length
    · obtain⟨a,r,e,F,C,fa,p⟩:=(h.below b).at hkl
      injection e with e
      subst e;have G:=fa.len;have D:(k:Int)<(rows.length:Int):=by omega
      by_cases hq:r.ds.length=n
      · have t:(((r.ds.length:Nat):Int) != ((r0.ds.length:Nat):Int))=false:=by rw[bne_eq_false_iff_eq];have:=g.out;omega
        have hf:=a1k (aP f.out p.out (show sN n r=true from a1w hq));clear hq;go_wp2;go_roundw
        case rel=>exact⟨k+1,by omega,by go_num,hf,b⟩
        case measure=>simp[intOf];omega
      · have t:(((r.ds.length:Nat):Int) != ((r0.ds.length:Nat):Int))=true:=by rw[bne_iff_ne];have:=g.out;omega
        have hf:Hid (v=false):=by show v=false;rw[←q.out];exact Y8 p.out (a1v hq)
        clear hq;go_wp2
        go_ret2
        exact⟨by rw[←hm.out,hf.out];rfl,b⟩
    · obtain rfl:k=rows.length:=by omega
      have z:decide ((rows.length:Int)<(rows.length:Int))=false:=a1v (by omega);have hf:Hid (v=true):=by show v=true;rw[←q.out];have:=f.out;rw[a2z] at this;exact this
      go_wp2
      go_ret2
      exact⟨by rw[←hm.out,hf.out,if_pos rfl,g.out];rfl,b⟩
theorem aU {A:Option Addr}{c:Nat}{rows:List RwD}{w:World}(h:ML w A c rows) :
 Calls Tryz.prog 81 #[.slice A rows.length c] w fun e w'=>e=.returned (.int .i64 (colsL (B9 rows):Int))∧w'=w:=by
 have hl:=h.len
 by_cases h0:rows.length=0
 · obtain⟨e1,e2⟩:=oP h0;rw[e1];have hz:((rows.length:Int) == 0)=true:=by rw[beq_iff_eq];omega
   clear h0;go_enter Tryz.func81,Tryz.ntmps81;go_wp2;go_ret;exact⟨rfl,rfl⟩
 · have hz:((rows.length:Int) == 0)=false:=by rw[beq_eq_false_iff_ne];omega
   have d:0<rows.length:=by omega
   clear h0;obtain⟨a0,r0,rfl,j,b,f,g⟩:=h.at d;rw[tE g.out];have l:w.cell? a0=some (.slice r0.a r0.ds.length r0.c):=jM b;have k:=f.len;clear f b;go_enter Tryz.func81,Tryz.ntmps81;go_wp2;go_ret;exact⟨rfl,rfl⟩
theorem fW {A:Option Addr}{c:Nat}{rows:List RwD}{w:World}(h:ML w A c rows) :
 Calls Tryz.prog 80 #[.slice A rows.length c] w (gJ (A0 (B9 rows)) w):=by
 have hl:=h.len;obtain⟨n,hn⟩:∃ n,Hid (colsL (B9 rows)=n):=⟨_,rfl⟩;obtain⟨v,hv⟩:∃ v,Hid (A0 (B9 rows)=v):=⟨_,rfl⟩;have m:Hid (rows.all (sN n)=v):=by show _=v;rw[←hv.out,jJ,hn.out]
 rw[hv.out];go_enter Tryz.func80,Tryz.ntmps80;go_wp2
 go_loopw [3] (fun i wr=>gL (sN n) rows w i wr) (fun i _=>rows.length-(intOf i).toNat)
 case atStart=>exact⟨0,by omega,rfl,rfl,a3t _ _⟩
 case round =>
  obtain⟨k,hk,rfl,g,f⟩:=hrel;have fm:=h.below f
  by_cases hkl:k<rows.length
  · obtain⟨a,r,rfl,j,l,fa,p⟩:=fm.at hkl;have t:=fa.len;have x:(k:Int)<(rows.length:Int):=by omega
    by_cases hq:r.ds.length=n
    · have q:(((r.ds.length:Nat):Int) != ((n:Nat):Int))=false:=by rw[bne_eq_false_iff_eq];omega
      have hf:=a1k (aP g.out p.out (show sN n r=true from a1w hq));clear hq;have bT:=a3t wr.heap.size wr
      have hS:∀ w',Below wr.heap.size wr w'→w'.cell? (a.add k)=some (.slice r.a r.ds.length r.c)∧Below wr.heap.size wr w':=by
       intro w' o;exact⟨(o.cell (by show (a.add k).block<_;rw[f7];exact j)).trans l,o⟩
      have bo:Below wr.heap.size wr wr:=a3t _ _;have dS:Below wr.heap.size wr wr.drew:=bo.drew;go_wp2_with fail;refine wp_region_noPanic ?_;refine wp_region_held_drew (S:=fun w'=>w'.cell? (a.add k)=some (.slice r.a r.ds.length r.c)∧Below wr.heap.size wr w') (by kernel_rfl) (hS _ dS) (fun b=>?_);refine mS 0 1 2 3 b ?_;refine P2 4 5 b ?_;refine z8 6 rfl fun K hK=>?_;go_simp;have d:Below wr.heap.size wr wr.drew:=(a3t _ _).drew;replace fm:=fm.below d;replace bT:=a1j bT d;replace bo:=a1j bo d;go_at_call 81;refine (aU fm).mono ?_;rintro e x1 ⟨rfl,rfl⟩;rw[hn.out];go_wp2_with fail;refine hK.out _ _ (hS _ bo) (fun b=>?_);clear hK K;(try simp only[j9]);refine K4 7 rfl b ?_;refine wpAnyH_done (by kernel_rfl) ?_ _;refine NoPanic.normal ?_;(try go_simp);clear b;clear hS dS bo;go_wp2;go_roundw
      case rel=>exact⟨k+1,by omega,by go_num,hf,(a1j f bT)⟩
      case measure=>simp[intOf];omega
    · have q:(((r.ds.length:Nat):Int) != ((n:Nat):Int))=true:=by rw[bne_iff_ne];omega
      have hf:Hid (v=false):=by show v=false;rw[←m.out];exact Y8 p.out (a1v hq)
      clear hq;have bT:=a3t wr.heap.size wr
      have hS:∀ w',Below wr.heap.size wr w'→w'.cell? (a.add k)=some (.slice r.a r.ds.length r.c)∧Below wr.heap.size wr w':=by
       intro w' o;exact⟨(o.cell (by show (a.add k).block<_;rw[f7];exact j)).trans l,o⟩
      have bo:Below wr.heap.size wr wr:=a3t _ _;have dS:Below wr.heap.size wr wr.drew:=bo.drew;go_wp2_with fail;refine wp_region_noPanic ?_;refine wp_region_held_drew (S:=fun w'=>w'.cell? (a.add k)=some (.slice r.a r.ds.length r.c)∧Below wr.heap.size wr w') (by kernel_rfl) (hS _ dS) (fun b=>?_);refine mS 0 1 2 3 b ?_;refine P2 4 5 b ?_;refine z8 6 rfl fun K hK=>?_;go_simp;have d:Below wr.heap.size wr wr.drew:=(a3t _ _).drew;replace fm:=fm.below d;replace bT:=a1j bT d;replace bo:=a1j bo d;go_at_call 81;refine (aU fm).mono ?_;rintro e x1 ⟨rfl,rfl⟩;rw[hn.out];go_wp2_with fail;refine hK.out _ _ (hS _ bo) (fun b=>?_);clear hK K;(try simp only[j9]);refine K4 7 rfl b ?_;refine wpAnyH_done (by kernel_rfl) ?_ _;refine NoPanic.normal ?_;(try go_simp);clear b;clear hS dS bo;go_wp2;go_ret;exact⟨by rw[hf.out];rfl,(a1j f bT)⟩
  · obtain rfl:k=rows.length:=by omega
    have s:decide ((rows.length:Int)<(rows.length:Int))=false:=a1v (by omega);have hf:Hid (v=true):=by show v=true;rw[←m.out];have:=g.out;rw[a2z] at this;exact this
    go_wp2;go_ret;exact⟨by rw[hf.out];rfl,f⟩
theorem Blk.v0 {w:World}{g:Nat}{t:TypeId}{a:Value}(h:Blk w g t #[a]):w.cell? ⟨g,0,none⟩=some a:=h.cell 0
abbrev a3u:=@wp_region_noPanic
abbrev a3v:=@wp_region_held_drew
abbrev a3w:=@NoPanic.normal
abbrev a3x:=@AllReadyH.cons
abbrev a3y:=@AllReadyH.nil
abbrev a4b:=@wpAnyH_ready
abbrev a4c:=@wpAnyH_done
end Go.Proofs.YtjhkapjadfpimaaGreat
