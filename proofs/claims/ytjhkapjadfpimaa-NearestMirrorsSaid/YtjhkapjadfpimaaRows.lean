/-
  No cell of these rows narrows 'for every input' (looked for: loops, veiled, ifaces, maps, wideKeys, modest, calm, conditions, laid).
  DERIVED. THE GIVEN ROWS OF THIS SEAT. 5 by the template 'for every input the law returns true; each argument reads behind the call as it read before'; 0 by the template 'total and deterministic' (their statements: YtjhkapjadfpimaaTotals.lean).
  GIVEN WITH THE SEED: the statements are not yours to turn. If you find one false, say at which input.
  Laid BY PROGRAM, IN A SANDBOX (cutbox-rows.mjs): the forced cells as the released guide's own fill.sh prints them over the translation e93b4995cec1e175… (all of the seat's roots in one cut). By AI agents, Wed Nov 11 2026. No macro, syntax, notation, axiom, sorry.
-/
import Derived.Test.YtjhkapjadfpimaaChecked
import GoSem.Claim
import GoSem.ClaimJoined
import GoSem.ClaimMapViews
import Derived.JoinedTies
import Derived.KernelRfl
namespace Go.Proofs.Ytjhkapjadfpimaa
/- THE CELL 'sum', in the pinned program and in every row, IS THE sha256 OF THE DUMP (.gsa) THAT YtjhkapjadfpimaaProg.lean LOADS. Nothing in Lean hashes anything: it is a label: what it is worth is what the hold of that sum in a sandbox is worth. -/
noncomputable def Try.pinned : Pinned := { name := "ytjhkapjadfpimaa", sum := "e93b4995cec1e175f12e16baaae3254f42ec6db6af0dd23631e02484d084c839", checked := Try.checked }
namespace Rows
def none {H : Type} : Left H := { results := [], args := [] }

/-- 'saleroomlaw31.NearestChecks': WHATEVER THE INPUT: true; the input reads as it did. -/
def nearestChecksSpec : ChangeSpec := { name := "nearestChecks", fn := fun _ => fun
  | [d1, d2] => { results := [.lit (.bool true)], args := [d1, d2] }
  | _ => none }
def nearestChecksRow : OpenClaim := { program := "ytjhkapjadfpimaa", sum := "e93b4995cec1e175f12e16baaae3254f42ec6db6af0dd23631e02484d084c839", func := "saleroom/saleroomlaw31.NearestChecks", spec := "nearestChecks", unfollowed := true, recurses := true, apart := false }
def NearestChecksSaid : Prop := nearestChecksRow.holds Try.pinned (OpenSpec.ofChange nearestChecksSpec)

/-- ITS FALSE NEIGHBOUR: 'it returns false'. Refute it at one input. -/
def nearestChecksWrong : ChangeSpec := { name := "nearestChecks", fn := fun _ => fun
  | [d1, d2] => { results := [.lit (.bool false)], args := [d1, d2] }
  | _ => none }
def NearestChecksWrongFalsely : Prop := nearestChecksRow.holds Try.pinned (OpenSpec.ofChange nearestChecksWrong)

/-- 'saleroomlaw31.NearestUnique': WHATEVER THE INPUT: true; the input reads as it did. -/
def nearestUniqueSpec : ChangeSpec := { name := "nearestUnique", fn := fun _ => fun
  | [d1, d2] => { results := [.lit (.bool true)], args := [d1, d2] }
  | _ => none }
def nearestUniqueRow : OpenClaim := { program := "ytjhkapjadfpimaa", sum := "e93b4995cec1e175f12e16baaae3254f42ec6db6af0dd23631e02484d084c839", func := "saleroom/saleroomlaw31.NearestUnique", spec := "nearestUnique", unfollowed := true, recurses := true, apart := false }
def NearestUniqueSaid : Prop := nearestUniqueRow.holds Try.pinned (OpenSpec.ofChange nearestUniqueSpec)

/-- ITS FALSE NEIGHBOUR: 'it returns false'. Refute it at one input. -/
def nearestUniqueWrong : ChangeSpec := { name := "nearestUnique", fn := fun _ => fun
  | [d1, d2] => { results := [.lit (.bool false)], args := [d1, d2] }
  | _ => none }
def NearestUniqueWrongFalsely : Prop := nearestUniqueRow.holds Try.pinned (OpenSpec.ofChange nearestUniqueWrong)

/-- 'saleroomlaw31.NearestDistance': WHATEVER THE INPUT: true; the input reads as it did. -/
def nearestDistanceSpec : ChangeSpec := { name := "nearestDistance", fn := fun _ => fun
  | [d1, d2] => { results := [.lit (.bool true)], args := [d1, d2] }
  | _ => none }
def nearestDistanceRow : OpenClaim := { program := "ytjhkapjadfpimaa", sum := "e93b4995cec1e175f12e16baaae3254f42ec6db6af0dd23631e02484d084c839", func := "saleroom/saleroomlaw31.NearestDistance", spec := "nearestDistance", unfollowed := true, recurses := true, apart := false }
def NearestDistanceSaid : Prop := nearestDistanceRow.holds Try.pinned (OpenSpec.ofChange nearestDistanceSpec)

/-- ITS FALSE NEIGHBOUR: 'it returns false'. Refute it at one input. -/
def nearestDistanceWrong : ChangeSpec := { name := "nearestDistance", fn := fun _ => fun
  | [d1, d2] => { results := [.lit (.bool false)], args := [d1, d2] }
  | _ => none }
def NearestDistanceWrongFalsely : Prop := nearestDistanceRow.holds Try.pinned (OpenSpec.ofChange nearestDistanceWrong)

/-- 'saleroomlaw31.NearestFixed': WHATEVER THE INPUT: true; the input reads as it did. -/
def nearestFixedSpec : ChangeSpec := { name := "nearestFixed", fn := fun _ => fun
  | [d] => { results := [.lit (.bool true)], args := [d] }
  | _ => none }
def nearestFixedRow : OpenClaim := { program := "ytjhkapjadfpimaa", sum := "e93b4995cec1e175f12e16baaae3254f42ec6db6af0dd23631e02484d084c839", func := "saleroom/saleroomlaw31.NearestFixed", spec := "nearestFixed", unfollowed := true, recurses := true, apart := false }
def NearestFixedSaid : Prop := nearestFixedRow.holds Try.pinned (OpenSpec.ofChange nearestFixedSpec)

/-- ITS FALSE NEIGHBOUR: 'it returns false'. Refute it at one input. -/
def nearestFixedWrong : ChangeSpec := { name := "nearestFixed", fn := fun _ => fun
  | [d] => { results := [.lit (.bool false)], args := [d] }
  | _ => none }
def NearestFixedWrongFalsely : Prop := nearestFixedRow.holds Try.pinned (OpenSpec.ofChange nearestFixedWrong)

/-- 'saleroomlaw31.NearestMirrors': WHATEVER THE INPUT: true; the input reads as it did. -/
def nearestMirrorsSpec : ChangeSpec := { name := "nearestMirrors", fn := fun _ => fun
  | [d] => { results := [.lit (.bool true)], args := [d] }
  | _ => none }
def nearestMirrorsRow : OpenClaim := { program := "ytjhkapjadfpimaa", sum := "e93b4995cec1e175f12e16baaae3254f42ec6db6af0dd23631e02484d084c839", func := "saleroom/saleroomlaw31.NearestMirrors", spec := "nearestMirrors", unfollowed := true, recurses := true, apart := false }
def NearestMirrorsSaid : Prop := nearestMirrorsRow.holds Try.pinned (OpenSpec.ofChange nearestMirrorsSpec)

/-- ITS FALSE NEIGHBOUR: 'it returns false'. Refute it at one input. -/
def nearestMirrorsWrong : ChangeSpec := { name := "nearestMirrors", fn := fun _ => fun
  | [d] => { results := [.lit (.bool false)], args := [d] }
  | _ => none }
def NearestMirrorsWrongFalsely : Prop := nearestMirrorsRow.holds Try.pinned (OpenSpec.ofChange nearestMirrorsWrong)

/- THE SECOND FORM. 'bulk': how many values and letters a reading holds, each counted each time it is reached (what is shared counts as often as it is met; a slice's spare places count too). A statement '..UptoSaid' is the law's where the arguments, and the package variables that the reading takes, are together of bulk at most 1048576: NARROWER than '..Said'. Prove '..Said' where nothing that the law and all that it calls make is longer than what came in: it says more and counts as full. Else prove '..UptoSaid'. A law counts once. -/
mutual
def uptoBulk {H : Type} : DataW H → Nat
  | .lit (.string bytes) => bytes.length + 1
  | .lit _ => 1
  | .nil => 1
  | .ptr d => uptoBulk d + 1
  | .slice elems spare => uptoBulkAll elems + uptoBulkAll spare + 1
  | .agg parts => uptoBulkAll parts + 1
  | .iface _ d => uptoBulk d + 1
  | .map entries => uptoBulkEntries entries + 1
  | .held _ => 1
def uptoBulkAll {H : Type} : List (DataW H) → Nat
  | [] => 0
  | d :: r => uptoBulk d + uptoBulkAll r
def uptoBulkEntries {H : Type} : List (Lit × DataW H) → Nat
  | [] => 0
  | x :: r => uptoBulkEntry x + uptoBulkEntries r
def uptoBulkEntry {H : Type} : Lit × DataW H → Nat
  | (.string bytes, d) => bytes.length + uptoBulk d + 1
  | (_, d) => uptoBulk d + 1
 end
def uptoSmall : (H : Type) → List (DataW H) → Bool := fun _ ds => decide (uptoBulkAll ds ≤ 1048576)
def OpenSpec.upto (s : _root_.Go.ChangeSpec) : _root_.Go.OpenSpec := { _root_.Go.OpenSpec.ofChange s with cond := some uptoSmall }

/-- 'saleroomlaw31.NearestChecks', WHERE WHAT IT READS IS OF BULK AT MOST 1048576: true; the input reads as it did. -/
def nearestChecksUptoRow : OpenClaim := { program := "ytjhkapjadfpimaa", sum := "e93b4995cec1e175f12e16baaae3254f42ec6db6af0dd23631e02484d084c839", func := "saleroom/saleroomlaw31.NearestChecks", spec := "nearestChecks", unfollowed := true, recurses := true, apart := false, narrowed := true }
def NearestChecksUptoSaid : Prop := nearestChecksUptoRow.holds Try.pinned (OpenSpec.upto nearestChecksSpec)

/-- 'saleroomlaw31.NearestUnique', WHERE WHAT IT READS IS OF BULK AT MOST 1048576: true; the input reads as it did. -/
def nearestUniqueUptoRow : OpenClaim := { program := "ytjhkapjadfpimaa", sum := "e93b4995cec1e175f12e16baaae3254f42ec6db6af0dd23631e02484d084c839", func := "saleroom/saleroomlaw31.NearestUnique", spec := "nearestUnique", unfollowed := true, recurses := true, apart := false, narrowed := true }
def NearestUniqueUptoSaid : Prop := nearestUniqueUptoRow.holds Try.pinned (OpenSpec.upto nearestUniqueSpec)

/-- 'saleroomlaw31.NearestDistance', WHERE WHAT IT READS IS OF BULK AT MOST 1048576: true; the input reads as it did. -/
def nearestDistanceUptoRow : OpenClaim := { program := "ytjhkapjadfpimaa", sum := "e93b4995cec1e175f12e16baaae3254f42ec6db6af0dd23631e02484d084c839", func := "saleroom/saleroomlaw31.NearestDistance", spec := "nearestDistance", unfollowed := true, recurses := true, apart := false, narrowed := true }
def NearestDistanceUptoSaid : Prop := nearestDistanceUptoRow.holds Try.pinned (OpenSpec.upto nearestDistanceSpec)

/-- 'saleroomlaw31.NearestFixed', WHERE WHAT IT READS IS OF BULK AT MOST 1048576: true; the input reads as it did. -/
def nearestFixedUptoRow : OpenClaim := { program := "ytjhkapjadfpimaa", sum := "e93b4995cec1e175f12e16baaae3254f42ec6db6af0dd23631e02484d084c839", func := "saleroom/saleroomlaw31.NearestFixed", spec := "nearestFixed", unfollowed := true, recurses := true, apart := false, narrowed := true }
def NearestFixedUptoSaid : Prop := nearestFixedUptoRow.holds Try.pinned (OpenSpec.upto nearestFixedSpec)

/-- 'saleroomlaw31.NearestMirrors', WHERE WHAT IT READS IS OF BULK AT MOST 1048576: true; the input reads as it did. -/
def nearestMirrorsUptoRow : OpenClaim := { program := "ytjhkapjadfpimaa", sum := "e93b4995cec1e175f12e16baaae3254f42ec6db6af0dd23631e02484d084c839", func := "saleroom/saleroomlaw31.NearestMirrors", spec := "nearestMirrors", unfollowed := true, recurses := true, apart := false, narrowed := true }
def NearestMirrorsUptoSaid : Prop := nearestMirrorsUptoRow.holds Try.pinned (OpenSpec.upto nearestMirrorsSpec)

end Rows
end Go.Proofs.Ytjhkapjadfpimaa
