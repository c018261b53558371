/-
  No cell of these rows narrows 'for every input' (looked for: loops, veiled, ifaces, maps, wideKeys, modest, calm, conditions, laid).
  DERIVED. THE GIVEN ROWS OF THIS SEAT. 5 by the template 'for every input the law returns true; each argument reads behind the call as it read before'; 0 by the template 'total and deterministic' (their statements: YtlocaleiloiaoaaTotals.lean).
  GIVEN WITH THE SEED: the statements are not yours to turn. If you find one false, say at which input.
  Laid BY PROGRAM, IN A SANDBOX (cutbox-rows.mjs): the forced cells as the released guide's own fill.sh prints them over the translation 235987de059d72e2… (all of the seat's roots in one cut). By AI agents, Wed Nov 11 2026. No macro, syntax, notation, axiom, sorry.
-/
import Derived.Test.YtlocaleiloiaoaaChecked
import GoSem.Claim
import GoSem.ClaimJoined
import GoSem.ClaimMapViews
import Derived.JoinedTies
import Derived.KernelRfl
namespace Go.Proofs.Ytlocaleiloiaoaa
/- THE CELL 'sum', in the pinned program and in every row, IS THE sha256 OF THE DUMP (.gsa) THAT YtlocaleiloiaoaaProg.lean LOADS. Nothing in Lean hashes anything: it is a label: what it is worth is what the hold of that sum in a sandbox is worth. -/
noncomputable def Try.pinned : Pinned := { name := "ytlocaleiloiaoaa", sum := "235987de059d72e2c5b60026251c13052ae3ab6c3ea5960b22e05884ffcfa49c", checked := Try.checked }
namespace Rows
def none {H : Type} : Left H := { results := [], args := [] }

/-- 'saleroomlaw19.LpcheckSound': WHATEVER THE INPUT: true; the input reads as it did. -/
def lpcheckSoundSpec : ChangeSpec := { name := "lpcheckSound", fn := fun _ => fun
  | [d1, d2, d3] => { results := [.lit (.bool true)], args := [d1, d2, d3] }
  | _ => none }
def lpcheckSoundRow : OpenClaim := { program := "ytlocaleiloiaoaa", sum := "235987de059d72e2c5b60026251c13052ae3ab6c3ea5960b22e05884ffcfa49c", func := "saleroom/saleroomlaw19.LpcheckSound", spec := "lpcheckSound", unfollowed := true, recurses := true, apart := false }
def LpcheckSoundSaid : Prop := lpcheckSoundRow.holds Try.pinned (OpenSpec.ofChange lpcheckSoundSpec)

/-- ITS FALSE NEIGHBOUR: 'it returns false'. Refute it at one input. -/
def lpcheckSoundWrong : ChangeSpec := { name := "lpcheckSound", fn := fun _ => fun
  | [d1, d2, d3] => { results := [.lit (.bool false)], args := [d1, d2, d3] }
  | _ => none }
def LpcheckSoundWrongFalsely : Prop := lpcheckSoundRow.holds Try.pinned (OpenSpec.ofChange lpcheckSoundWrong)

/-- 'saleroomlaw19.LpcheckChecks': WHATEVER THE INPUT: true; the input reads as it did. -/
def lpcheckChecksSpec : ChangeSpec := { name := "lpcheckChecks", fn := fun _ => fun
  | [d1, d2] => { results := [.lit (.bool true)], args := [d1, d2] }
  | _ => none }
def lpcheckChecksRow : OpenClaim := { program := "ytlocaleiloiaoaa", sum := "235987de059d72e2c5b60026251c13052ae3ab6c3ea5960b22e05884ffcfa49c", func := "saleroom/saleroomlaw19.LpcheckChecks", spec := "lpcheckChecks", unfollowed := true, recurses := true, apart := false }
def LpcheckChecksSaid : Prop := lpcheckChecksRow.holds Try.pinned (OpenSpec.ofChange lpcheckChecksSpec)

/-- ITS FALSE NEIGHBOUR: 'it returns false'. Refute it at one input. -/
def lpcheckChecksWrong : ChangeSpec := { name := "lpcheckChecks", fn := fun _ => fun
  | [d1, d2] => { results := [.lit (.bool false)], args := [d1, d2] }
  | _ => none }
def LpcheckChecksWrongFalsely : Prop := lpcheckChecksRow.holds Try.pinned (OpenSpec.ofChange lpcheckChecksWrong)

/-- 'saleroomlaw19.LpcheckFeasible': WHATEVER THE INPUT: true; the input reads as it did. -/
def lpcheckFeasibleSpec : ChangeSpec := { name := "lpcheckFeasible", fn := fun _ => fun
  | [d1, d2] => { results := [.lit (.bool true)], args := [d1, d2] }
  | _ => none }
def lpcheckFeasibleRow : OpenClaim := { program := "ytlocaleiloiaoaa", sum := "235987de059d72e2c5b60026251c13052ae3ab6c3ea5960b22e05884ffcfa49c", func := "saleroom/saleroomlaw19.LpcheckFeasible", spec := "lpcheckFeasible", unfollowed := true, recurses := true, apart := false }
def LpcheckFeasibleSaid : Prop := lpcheckFeasibleRow.holds Try.pinned (OpenSpec.ofChange lpcheckFeasibleSpec)

/-- ITS FALSE NEIGHBOUR: 'it returns false'. Refute it at one input. -/
def lpcheckFeasibleWrong : ChangeSpec := { name := "lpcheckFeasible", fn := fun _ => fun
  | [d1, d2] => { results := [.lit (.bool false)], args := [d1, d2] }
  | _ => none }
def LpcheckFeasibleWrongFalsely : Prop := lpcheckFeasibleRow.holds Try.pinned (OpenSpec.ofChange lpcheckFeasibleWrong)

/-- 'saleroomlaw19.LpcheckBounds': WHATEVER THE INPUT: true; the input reads as it did. -/
def lpcheckBoundsSpec : ChangeSpec := { name := "lpcheckBounds", fn := fun _ => fun
  | [d1, d2] => { results := [.lit (.bool true)], args := [d1, d2] }
  | _ => none }
def lpcheckBoundsRow : OpenClaim := { program := "ytlocaleiloiaoaa", sum := "235987de059d72e2c5b60026251c13052ae3ab6c3ea5960b22e05884ffcfa49c", func := "saleroom/saleroomlaw19.LpcheckBounds", spec := "lpcheckBounds", unfollowed := true, recurses := true, apart := false }
def LpcheckBoundsSaid : Prop := lpcheckBoundsRow.holds Try.pinned (OpenSpec.ofChange lpcheckBoundsSpec)

/-- ITS FALSE NEIGHBOUR: 'it returns false'. Refute it at one input. -/
def lpcheckBoundsWrong : ChangeSpec := { name := "lpcheckBounds", fn := fun _ => fun
  | [d1, d2] => { results := [.lit (.bool false)], args := [d1, d2] }
  | _ => none }
def LpcheckBoundsWrongFalsely : Prop := lpcheckBoundsRow.holds Try.pinned (OpenSpec.ofChange lpcheckBoundsWrong)

/-- 'saleroomlaw19.LpcheckWeak': WHATEVER THE INPUT: true; the input reads as it did. -/
def lpcheckWeakSpec : ChangeSpec := { name := "lpcheckWeak", fn := fun _ => fun
  | [d1, d2, d3] => { results := [.lit (.bool true)], args := [d1, d2, d3] }
  | _ => none }
def lpcheckWeakRow : OpenClaim := { program := "ytlocaleiloiaoaa", sum := "235987de059d72e2c5b60026251c13052ae3ab6c3ea5960b22e05884ffcfa49c", func := "saleroom/saleroomlaw19.LpcheckWeak", spec := "lpcheckWeak", unfollowed := true, recurses := true, apart := false }
def LpcheckWeakSaid : Prop := lpcheckWeakRow.holds Try.pinned (OpenSpec.ofChange lpcheckWeakSpec)

/-- ITS FALSE NEIGHBOUR: 'it returns false'. Refute it at one input. -/
def lpcheckWeakWrong : ChangeSpec := { name := "lpcheckWeak", fn := fun _ => fun
  | [d1, d2, d3] => { results := [.lit (.bool false)], args := [d1, d2, d3] }
  | _ => none }
def LpcheckWeakWrongFalsely : Prop := lpcheckWeakRow.holds Try.pinned (OpenSpec.ofChange lpcheckWeakWrong)

/- THE SECOND FORM. 'bulk': how many values and letters a reading holds, each counted each time it is reached (what is shared counts as often as it is met; a slice's spare places count too). A statement '..UptoSaid' is the law's where the arguments, and the package variables that the reading takes, are together of bulk at most 1048576: NARROWER than '..Said'. Prove '..Said' where nothing that the law and all that it calls make is longer than what came in: it says more and counts as full. Else prove '..UptoSaid'. A law counts once. -/
mutual
def uptoBulk {H : Type} : DataW H → Nat
  | .lit (.string bytes) => bytes.length + 1
  | .lit _ => 1
  | .nil => 1
  | .ptr d => uptoBulk d + 1
  | .slice elems spare => uptoBulkAll elems + uptoBulkAll spare + 1
  | .agg parts => uptoBulkAll parts + 1
  | .iface _ d => uptoBulk d + 1
  | .map entries => uptoBulkEntries entries + 1
  | .held _ => 1
def uptoBulkAll {H : Type} : List (DataW H) → Nat
  | [] => 0
  | d :: r => uptoBulk d + uptoBulkAll r
def uptoBulkEntries {H : Type} : List (Lit × DataW H) → Nat
  | [] => 0
  | x :: r => uptoBulkEntry x + uptoBulkEntries r
def uptoBulkEntry {H : Type} : Lit × DataW H → Nat
  | (.string bytes, d) => bytes.length + uptoBulk d + 1
  | (_, d) => uptoBulk d + 1
 end
def uptoSmall : (H : Type) → List (DataW H) → Bool := fun _ ds => decide (uptoBulkAll ds ≤ 1048576)
def OpenSpec.upto (s : _root_.Go.ChangeSpec) : _root_.Go.OpenSpec := { _root_.Go.OpenSpec.ofChange s with cond := some uptoSmall }

/-- 'saleroomlaw19.LpcheckSound', WHERE WHAT IT READS IS OF BULK AT MOST 1048576: true; the input reads as it did. -/
def lpcheckSoundUptoRow : OpenClaim := { program := "ytlocaleiloiaoaa", sum := "235987de059d72e2c5b60026251c13052ae3ab6c3ea5960b22e05884ffcfa49c", func := "saleroom/saleroomlaw19.LpcheckSound", spec := "lpcheckSound", unfollowed := true, recurses := true, apart := false, narrowed := true }
def LpcheckSoundUptoSaid : Prop := lpcheckSoundUptoRow.holds Try.pinned (OpenSpec.upto lpcheckSoundSpec)

/-- 'saleroomlaw19.LpcheckChecks', WHERE WHAT IT READS IS OF BULK AT MOST 1048576: true; the input reads as it did. -/
def lpcheckChecksUptoRow : OpenClaim := { program := "ytlocaleiloiaoaa", sum := "235987de059d72e2c5b60026251c13052ae3ab6c3ea5960b22e05884ffcfa49c", func := "saleroom/saleroomlaw19.LpcheckChecks", spec := "lpcheckChecks", unfollowed := true, recurses := true, apart := false, narrowed := true }
def LpcheckChecksUptoSaid : Prop := lpcheckChecksUptoRow.holds Try.pinned (OpenSpec.upto lpcheckChecksSpec)

/-- 'saleroomlaw19.LpcheckFeasible', WHERE WHAT IT READS IS OF BULK AT MOST 1048576: true; the input reads as it did. -/
def lpcheckFeasibleUptoRow : OpenClaim := { program := "ytlocaleiloiaoaa", sum := "235987de059d72e2c5b60026251c13052ae3ab6c3ea5960b22e05884ffcfa49c", func := "saleroom/saleroomlaw19.LpcheckFeasible", spec := "lpcheckFeasible", unfollowed := true, recurses := true, apart := false, narrowed := true }
def LpcheckFeasibleUptoSaid : Prop := lpcheckFeasibleUptoRow.holds Try.pinned (OpenSpec.upto lpcheckFeasibleSpec)

/-- 'saleroomlaw19.LpcheckBounds', WHERE WHAT IT READS IS OF BULK AT MOST 1048576: true; the input reads as it did. -/
def lpcheckBoundsUptoRow : OpenClaim := { program := "ytlocaleiloiaoaa", sum := "235987de059d72e2c5b60026251c13052ae3ab6c3ea5960b22e05884ffcfa49c", func := "saleroom/saleroomlaw19.LpcheckBounds", spec := "lpcheckBounds", unfollowed := true, recurses := true, apart := false, narrowed := true }
def LpcheckBoundsUptoSaid : Prop := lpcheckBoundsUptoRow.holds Try.pinned (OpenSpec.upto lpcheckBoundsSpec)

/-- 'saleroomlaw19.LpcheckWeak', WHERE WHAT IT READS IS OF BULK AT MOST 1048576: true; the input reads as it did. -/
def lpcheckWeakUptoRow : OpenClaim := { program := "ytlocaleiloiaoaa", sum := "235987de059d72e2c5b60026251c13052ae3ab6c3ea5960b22e05884ffcfa49c", func := "saleroom/saleroomlaw19.LpcheckWeak", spec := "lpcheckWeak", unfollowed := true, recurses := true, apart := false, narrowed := true }
def LpcheckWeakUptoSaid : Prop := lpcheckWeakUptoRow.holds Try.pinned (OpenSpec.upto lpcheckWeakSpec)

end Rows
end Go.Proofs.Ytlocaleiloiaoaa
