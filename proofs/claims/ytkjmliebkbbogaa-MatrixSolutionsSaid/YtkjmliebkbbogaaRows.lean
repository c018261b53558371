/-
  No cell of these rows narrows 'for every input' (looked for: loops, veiled, ifaces, maps, wideKeys, modest, calm, conditions, laid).
  DERIVED. THE GIVEN ROWS OF THIS SEAT. 8 by the template 'for every input the law returns true; each argument reads behind the call as it read before'; 0 by the template 'total and deterministic' (their statements: YtkjmliebkbbogaaTotals.lean).
  GIVEN WITH THE SEED: the statements are not yours to turn. If you find one false, say at which input.
  Laid BY PROGRAM, IN A SANDBOX (cutbox-rows.mjs): the forced cells as the released guide's own fill.sh prints them over the translation 7675bc1b5143a3c1… (all of the seat's roots in one cut). By AI agents, Wed Nov 11 2026. No macro, syntax, notation, axiom, sorry.
-/
import Derived.Test.YtkjmliebkbbogaaChecked
import GoSem.Claim
import GoSem.ClaimJoined
import GoSem.ClaimMapViews
import Derived.JoinedTies
import Derived.KernelRfl
namespace Go.Proofs.Ytkjmliebkbbogaa
/- THE CELL 'sum', in the pinned program and in every row, IS THE sha256 OF THE DUMP (.gsa) THAT YtkjmliebkbbogaaProg.lean LOADS. Nothing in Lean hashes anything: it is a label: what it is worth is what the hold of that sum in a sandbox is worth. -/
noncomputable def Try.pinned : Pinned := { name := "ytkjmliebkbbogaa", sum := "7675bc1b5143a3c15deb1d5a8a8ed842308c93bdab555d742616231dbc70e18d", checked := Try.checked }
namespace Rows
def none {H : Type} : Left H := { results := [], args := [] }

/-- 'saleroomlaw17.MatrixTimes': WHATEVER THE INPUT: true; the input reads as it did. -/
def matrixTimesSpec : ChangeSpec := { name := "matrixTimes", fn := fun _ => fun
  | [d1, d2] => { results := [.lit (.bool true)], args := [d1, d2] }
  | _ => none }
def matrixTimesRow : OpenClaim := { program := "ytkjmliebkbbogaa", sum := "7675bc1b5143a3c15deb1d5a8a8ed842308c93bdab555d742616231dbc70e18d", func := "saleroom/saleroomlaw17.MatrixTimes", spec := "matrixTimes", unfollowed := true, recurses := true, apart := false }
def MatrixTimesSaid : Prop := matrixTimesRow.holds Try.pinned (OpenSpec.ofChange matrixTimesSpec)

/-- ITS FALSE NEIGHBOUR: 'it returns false'. Refute it at one input. -/
def matrixTimesWrong : ChangeSpec := { name := "matrixTimes", fn := fun _ => fun
  | [d1, d2] => { results := [.lit (.bool false)], args := [d1, d2] }
  | _ => none }
def MatrixTimesWrongFalsely : Prop := matrixTimesRow.holds Try.pinned (OpenSpec.ofChange matrixTimesWrong)

/-- 'saleroomlaw17.MatrixPivots': WHATEVER THE INPUT: true; the input reads as it did. -/
def matrixPivotsSpec : ChangeSpec := { name := "matrixPivots", fn := fun _ => fun
  | [d1, d2, d3] => { results := [.lit (.bool true)], args := [d1, d2, d3] }
  | _ => none }
def matrixPivotsRow : OpenClaim := { program := "ytkjmliebkbbogaa", sum := "7675bc1b5143a3c15deb1d5a8a8ed842308c93bdab555d742616231dbc70e18d", func := "saleroom/saleroomlaw17.MatrixPivots", spec := "matrixPivots", unfollowed := true, recurses := true, apart := false }
def MatrixPivotsSaid : Prop := matrixPivotsRow.holds Try.pinned (OpenSpec.ofChange matrixPivotsSpec)

/-- ITS FALSE NEIGHBOUR: 'it returns false'. Refute it at one input. -/
def matrixPivotsWrong : ChangeSpec := { name := "matrixPivots", fn := fun _ => fun
  | [d1, d2, d3] => { results := [.lit (.bool false)], args := [d1, d2, d3] }
  | _ => none }
def MatrixPivotsWrongFalsely : Prop := matrixPivotsRow.holds Try.pinned (OpenSpec.ofChange matrixPivotsWrong)

/-- 'saleroomlaw17.MatrixSolves': WHATEVER THE INPUT: true; the input reads as it did. -/
def matrixSolvesSpec : ChangeSpec := { name := "matrixSolves", fn := fun _ => fun
  | [d1, d2] => { results := [.lit (.bool true)], args := [d1, d2] }
  | _ => none }
def matrixSolvesRow : OpenClaim := { program := "ytkjmliebkbbogaa", sum := "7675bc1b5143a3c15deb1d5a8a8ed842308c93bdab555d742616231dbc70e18d", func := "saleroom/saleroomlaw17.MatrixSolves", spec := "matrixSolves", unfollowed := true, recurses := true, apart := false }
def MatrixSolvesSaid : Prop := matrixSolvesRow.holds Try.pinned (OpenSpec.ofChange matrixSolvesSpec)

/-- ITS FALSE NEIGHBOUR: 'it returns false'. Refute it at one input. -/
def matrixSolvesWrong : ChangeSpec := { name := "matrixSolves", fn := fun _ => fun
  | [d1, d2] => { results := [.lit (.bool false)], args := [d1, d2] }
  | _ => none }
def MatrixSolvesWrongFalsely : Prop := matrixSolvesRow.holds Try.pinned (OpenSpec.ofChange matrixSolvesWrong)

/-- 'saleroomlaw17.MatrixSolutions': WHATEVER THE INPUT: true; the input reads as it did. -/
def matrixSolutionsSpec : ChangeSpec := { name := "matrixSolutions", fn := fun _ => fun
  | [d1, d2] => { results := [.lit (.bool true)], args := [d1, d2] }
  | _ => none }
def matrixSolutionsRow : OpenClaim := { program := "ytkjmliebkbbogaa", sum := "7675bc1b5143a3c15deb1d5a8a8ed842308c93bdab555d742616231dbc70e18d", func := "saleroom/saleroomlaw17.MatrixSolutions", spec := "matrixSolutions", unfollowed := true, recurses := true, apart := false }
def MatrixSolutionsSaid : Prop := matrixSolutionsRow.holds Try.pinned (OpenSpec.ofChange matrixSolutionsSpec)

/-- ITS FALSE NEIGHBOUR: 'it returns false'. Refute it at one input. -/
def matrixSolutionsWrong : ChangeSpec := { name := "matrixSolutions", fn := fun _ => fun
  | [d1, d2] => { results := [.lit (.bool false)], args := [d1, d2] }
  | _ => none }
def MatrixSolutionsWrongFalsely : Prop := matrixSolutionsRow.holds Try.pinned (OpenSpec.ofChange matrixSolutionsWrong)

/-- 'saleroomlaw17.MatrixRanks': WHATEVER THE INPUT: true; the input reads as it did. -/
def matrixRanksSpec : ChangeSpec := { name := "matrixRanks", fn := fun _ => fun
  | [d] => { results := [.lit (.bool true)], args := [d] }
  | _ => none }
def matrixRanksRow : OpenClaim := { program := "ytkjmliebkbbogaa", sum := "7675bc1b5143a3c15deb1d5a8a8ed842308c93bdab555d742616231dbc70e18d", func := "saleroom/saleroomlaw17.MatrixRanks", spec := "matrixRanks", unfollowed := true, recurses := true, apart := false }
def MatrixRanksSaid : Prop := matrixRanksRow.holds Try.pinned (OpenSpec.ofChange matrixRanksSpec)

/-- ITS FALSE NEIGHBOUR: 'it returns false'. Refute it at one input. -/
def matrixRanksWrong : ChangeSpec := { name := "matrixRanks", fn := fun _ => fun
  | [d] => { results := [.lit (.bool false)], args := [d] }
  | _ => none }
def MatrixRanksWrongFalsely : Prop := matrixRanksRow.holds Try.pinned (OpenSpec.ofChange matrixRanksWrong)

/-- 'saleroomlaw17.MatrixNulls': WHATEVER THE INPUT: true; the input reads as it did. -/
def matrixNullsSpec : ChangeSpec := { name := "matrixNulls", fn := fun _ => fun
  | [d] => { results := [.lit (.bool true)], args := [d] }
  | _ => none }
def matrixNullsRow : OpenClaim := { program := "ytkjmliebkbbogaa", sum := "7675bc1b5143a3c15deb1d5a8a8ed842308c93bdab555d742616231dbc70e18d", func := "saleroom/saleroomlaw17.MatrixNulls", spec := "matrixNulls", unfollowed := true, recurses := true, apart := false }
def MatrixNullsSaid : Prop := matrixNullsRow.holds Try.pinned (OpenSpec.ofChange matrixNullsSpec)

/-- ITS FALSE NEIGHBOUR: 'it returns false'. Refute it at one input. -/
def matrixNullsWrong : ChangeSpec := { name := "matrixNulls", fn := fun _ => fun
  | [d] => { results := [.lit (.bool false)], args := [d] }
  | _ => none }
def MatrixNullsWrongFalsely : Prop := matrixNullsRow.holds Try.pinned (OpenSpec.ofChange matrixNullsWrong)

/-- 'saleroomlaw17.MatrixNew': WHATEVER THE INPUT: true; the input reads as it did. -/
def matrixNewSpec : ChangeSpec := { name := "matrixNew", fn := fun _ => fun
  | [d1, d2] => { results := [.lit (.bool true)], args := [d1, d2] }
  | _ => none }
def matrixNewRow : OpenClaim := { program := "ytkjmliebkbbogaa", sum := "7675bc1b5143a3c15deb1d5a8a8ed842308c93bdab555d742616231dbc70e18d", func := "saleroom/saleroomlaw17.MatrixNew", spec := "matrixNew", unfollowed := true, recurses := true, apart := false }
def MatrixNewSaid : Prop := matrixNewRow.holds Try.pinned (OpenSpec.ofChange matrixNewSpec)

/-- ITS FALSE NEIGHBOUR: 'it returns false'. Refute it at one input. -/
def matrixNewWrong : ChangeSpec := { name := "matrixNew", fn := fun _ => fun
  | [d1, d2] => { results := [.lit (.bool false)], args := [d1, d2] }
  | _ => none }
def MatrixNewWrongFalsely : Prop := matrixNewRow.holds Try.pinned (OpenSpec.ofChange matrixNewWrong)

/-- 'saleroomlaw17.MatrixLinear': WHATEVER THE INPUT: true; the input reads as it did. -/
def matrixLinearSpec : ChangeSpec := { name := "matrixLinear", fn := fun _ => fun
  | [d1, d2, d3] => { results := [.lit (.bool true)], args := [d1, d2, d3] }
  | _ => none }
def matrixLinearRow : OpenClaim := { program := "ytkjmliebkbbogaa", sum := "7675bc1b5143a3c15deb1d5a8a8ed842308c93bdab555d742616231dbc70e18d", func := "saleroom/saleroomlaw17.MatrixLinear", spec := "matrixLinear", unfollowed := true, recurses := true, apart := false }
def MatrixLinearSaid : Prop := matrixLinearRow.holds Try.pinned (OpenSpec.ofChange matrixLinearSpec)

/-- ITS FALSE NEIGHBOUR: 'it returns false'. Refute it at one input. -/
def matrixLinearWrong : ChangeSpec := { name := "matrixLinear", fn := fun _ => fun
  | [d1, d2, d3] => { results := [.lit (.bool false)], args := [d1, d2, d3] }
  | _ => none }
def MatrixLinearWrongFalsely : Prop := matrixLinearRow.holds Try.pinned (OpenSpec.ofChange matrixLinearWrong)

/- THE SECOND FORM. 'bulk': how many values and letters a reading holds, each counted each time it is reached (what is shared counts as often as it is met; a slice's spare places count too). A statement '..UptoSaid' is the law's where the arguments, and the package variables that the reading takes, are together of bulk at most 1048576: NARROWER than '..Said'. Prove '..Said' where nothing that the law and all that it calls make is longer than what came in: it says more and counts as full. Else prove '..UptoSaid'. A law counts once. -/
mutual
def uptoBulk {H : Type} : DataW H → Nat
  | .lit (.string bytes) => bytes.length + 1
  | .lit _ => 1
  | .nil => 1
  | .ptr d => uptoBulk d + 1
  | .slice elems spare => uptoBulkAll elems + uptoBulkAll spare + 1
  | .agg parts => uptoBulkAll parts + 1
  | .iface _ d => uptoBulk d + 1
  | .map entries => uptoBulkEntries entries + 1
  | .held _ => 1
def uptoBulkAll {H : Type} : List (DataW H) → Nat
  | [] => 0
  | d :: r => uptoBulk d + uptoBulkAll r
def uptoBulkEntries {H : Type} : List (Lit × DataW H) → Nat
  | [] => 0
  | x :: r => uptoBulkEntry x + uptoBulkEntries r
def uptoBulkEntry {H : Type} : Lit × DataW H → Nat
  | (.string bytes, d) => bytes.length + uptoBulk d + 1
  | (_, d) => uptoBulk d + 1
 end
def uptoSmall : (H : Type) → List (DataW H) → Bool := fun _ ds => decide (uptoBulkAll ds ≤ 1048576)
def OpenSpec.upto (s : _root_.Go.ChangeSpec) : _root_.Go.OpenSpec := { _root_.Go.OpenSpec.ofChange s with cond := some uptoSmall }

/-- 'saleroomlaw17.MatrixTimes', WHERE WHAT IT READS IS OF BULK AT MOST 1048576: true; the input reads as it did. -/
def matrixTimesUptoRow : OpenClaim := { program := "ytkjmliebkbbogaa", sum := "7675bc1b5143a3c15deb1d5a8a8ed842308c93bdab555d742616231dbc70e18d", func := "saleroom/saleroomlaw17.MatrixTimes", spec := "matrixTimes", unfollowed := true, recurses := true, apart := false, narrowed := true }
def MatrixTimesUptoSaid : Prop := matrixTimesUptoRow.holds Try.pinned (OpenSpec.upto matrixTimesSpec)

/-- 'saleroomlaw17.MatrixPivots', WHERE WHAT IT READS IS OF BULK AT MOST 1048576: true; the input reads as it did. -/
def matrixPivotsUptoRow : OpenClaim := { program := "ytkjmliebkbbogaa", sum := "7675bc1b5143a3c15deb1d5a8a8ed842308c93bdab555d742616231dbc70e18d", func := "saleroom/saleroomlaw17.MatrixPivots", spec := "matrixPivots", unfollowed := true, recurses := true, apart := false, narrowed := true }
def MatrixPivotsUptoSaid : Prop := matrixPivotsUptoRow.holds Try.pinned (OpenSpec.upto matrixPivotsSpec)

/-- 'saleroomlaw17.MatrixSolves', WHERE WHAT IT READS IS OF BULK AT MOST 1048576: true; the input reads as it did. -/
def matrixSolvesUptoRow : OpenClaim := { program := "ytkjmliebkbbogaa", sum := "7675bc1b5143a3c15deb1d5a8a8ed842308c93bdab555d742616231dbc70e18d", func := "saleroom/saleroomlaw17.MatrixSolves", spec := "matrixSolves", unfollowed := true, recurses := true, apart := false, narrowed := true }
def MatrixSolvesUptoSaid : Prop := matrixSolvesUptoRow.holds Try.pinned (OpenSpec.upto matrixSolvesSpec)

/-- 'saleroomlaw17.MatrixSolutions', WHERE WHAT IT READS IS OF BULK AT MOST 1048576: true; the input reads as it did. -/
def matrixSolutionsUptoRow : OpenClaim := { program := "ytkjmliebkbbogaa", sum := "7675bc1b5143a3c15deb1d5a8a8ed842308c93bdab555d742616231dbc70e18d", func := "saleroom/saleroomlaw17.MatrixSolutions", spec := "matrixSolutions", unfollowed := true, recurses := true, apart := false, narrowed := true }
def MatrixSolutionsUptoSaid : Prop := matrixSolutionsUptoRow.holds Try.pinned (OpenSpec.upto matrixSolutionsSpec)

/-- 'saleroomlaw17.MatrixRanks', WHERE WHAT IT READS IS OF BULK AT MOST 1048576: true; the input reads as it did. -/
def matrixRanksUptoRow : OpenClaim := { program := "ytkjmliebkbbogaa", sum := "7675bc1b5143a3c15deb1d5a8a8ed842308c93bdab555d742616231dbc70e18d", func := "saleroom/saleroomlaw17.MatrixRanks", spec := "matrixRanks", unfollowed := true, recurses := true, apart := false, narrowed := true }
def MatrixRanksUptoSaid : Prop := matrixRanksUptoRow.holds Try.pinned (OpenSpec.upto matrixRanksSpec)

/-- 'saleroomlaw17.MatrixNulls', WHERE WHAT IT READS IS OF BULK AT MOST 1048576: true; the input reads as it did. -/
def matrixNullsUptoRow : OpenClaim := { program := "ytkjmliebkbbogaa", sum := "7675bc1b5143a3c15deb1d5a8a8ed842308c93bdab555d742616231dbc70e18d", func := "saleroom/saleroomlaw17.MatrixNulls", spec := "matrixNulls", unfollowed := true, recurses := true, apart := false, narrowed := true }
def MatrixNullsUptoSaid : Prop := matrixNullsUptoRow.holds Try.pinned (OpenSpec.upto matrixNullsSpec)

/-- 'saleroomlaw17.MatrixNew', WHERE WHAT IT READS IS OF BULK AT MOST 1048576: true; the input reads as it did. -/
def matrixNewUptoRow : OpenClaim := { program := "ytkjmliebkbbogaa", sum := "7675bc1b5143a3c15deb1d5a8a8ed842308c93bdab555d742616231dbc70e18d", func := "saleroom/saleroomlaw17.MatrixNew", spec := "matrixNew", unfollowed := true, recurses := true, apart := false, narrowed := true }
def MatrixNewUptoSaid : Prop := matrixNewUptoRow.holds Try.pinned (OpenSpec.upto matrixNewSpec)

/-- 'saleroomlaw17.MatrixLinear', WHERE WHAT IT READS IS OF BULK AT MOST 1048576: true; the input reads as it did. -/
def matrixLinearUptoRow : OpenClaim := { program := "ytkjmliebkbbogaa", sum := "7675bc1b5143a3c15deb1d5a8a8ed842308c93bdab555d742616231dbc70e18d", func := "saleroom/saleroomlaw17.MatrixLinear", spec := "matrixLinear", unfollowed := true, recurses := true, apart := false, narrowed := true }
def MatrixLinearUptoSaid : Prop := matrixLinearUptoRow.holds Try.pinned (OpenSpec.upto matrixLinearSpec)

end Rows
end Go.Proofs.Ytkjmliebkbbogaa
