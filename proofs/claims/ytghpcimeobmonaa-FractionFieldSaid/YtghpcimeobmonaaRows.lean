/-
  No cell of these rows narrows 'for every input' (looked for: loops, veiled, ifaces, maps, wideKeys, modest, calm, conditions, laid).
  DERIVED. THE GIVEN ROWS OF THIS SEAT. 7 by the template 'for every input the law returns true; each argument reads behind the call as it read before'; 0 by the template 'total and deterministic' (their statements: YtghpcimeobmonaaTotals.lean).
  GIVEN WITH THE SEED: the statements are not yours to turn. If you find one false, say at which input.
  Laid BY PROGRAM, IN A SANDBOX (cutbox-rows.mjs): the forced cells as the released guide's own fill.sh prints them over the translation 6a078cd51a8ab9db… (all of the seat's roots in one cut). By AI agents, Wed Nov 11 2026. No macro, syntax, notation, axiom, sorry.
-/
import Derived.Test.YtghpcimeobmonaaChecked
import GoSem.Claim
import GoSem.ClaimJoined
import GoSem.ClaimMapViews
import Derived.JoinedTies
import Derived.KernelRfl
namespace Go.Proofs.Ytghpcimeobmonaa
/- THE CELL 'sum', in the pinned program and in every row, IS THE sha256 OF THE DUMP (.gsa) THAT YtghpcimeobmonaaProg.lean LOADS. Nothing in Lean hashes anything: it is a label: what it is worth is what the hold of that sum in a sandbox is worth. -/
noncomputable def Try.pinned : Pinned := { name := "ytghpcimeobmonaa", sum := "6a078cd51a8ab9db6991197d3771f4d7361b0aa3b9fc26462cbe82c78666b2bc", checked := Try.checked }
namespace Rows
def none {H : Type} : Left H := { results := [], args := [] }

/-- 'saleroomlaw02.FractionTexts': WHATEVER THE INPUT: true; the input reads as it did. -/
def fractionTextsSpec : ChangeSpec := { name := "fractionTexts", fn := fun _ => fun
  | [d1, d2] => { results := [.lit (.bool true)], args := [d1, d2] }
  | _ => none }
def fractionTextsRow : OpenClaim := { program := "ytghpcimeobmonaa", sum := "6a078cd51a8ab9db6991197d3771f4d7361b0aa3b9fc26462cbe82c78666b2bc", func := "saleroom/saleroomlaw02.FractionTexts", spec := "fractionTexts", inPlace := ["internal/bytealg.IndexByteString", "internal/bytealg.IndexString"], named := ["internal/bytealg.MaxLen"], apart := false }
def FractionTextsSaid : Prop := fractionTextsRow.holds Try.pinned (OpenSpec.ofChange fractionTextsSpec)

/-- ITS FALSE NEIGHBOUR: 'it returns false'. Refute it at one input. -/
def fractionTextsWrong : ChangeSpec := { name := "fractionTexts", fn := fun _ => fun
  | [d1, d2] => { results := [.lit (.bool false)], args := [d1, d2] }
  | _ => none }
def FractionTextsWrongFalsely : Prop := fractionTextsRow.holds Try.pinned (OpenSpec.ofChange fractionTextsWrong)

/-- 'saleroomlaw02.FractionMakes': WHATEVER THE INPUT: true; the input reads as it did. -/
def fractionMakesSpec : ChangeSpec := { name := "fractionMakes", fn := fun _ => fun
  | [d1, d2, d3, d4, d5] => { results := [.lit (.bool true)], args := [d1, d2, d3, d4, d5] }
  | _ => none }
def fractionMakesRow : OpenClaim := { program := "ytghpcimeobmonaa", sum := "6a078cd51a8ab9db6991197d3771f4d7361b0aa3b9fc26462cbe82c78666b2bc", func := "saleroom/saleroomlaw02.FractionMakes", spec := "fractionMakes", inPlace := ["internal/bytealg.IndexByteString", "internal/bytealg.IndexString"], named := ["internal/bytealg.MaxLen"], apart := false }
def FractionMakesSaid : Prop := fractionMakesRow.holds Try.pinned (OpenSpec.ofChange fractionMakesSpec)

/-- ITS FALSE NEIGHBOUR: 'it returns false'. Refute it at one input. -/
def fractionMakesWrong : ChangeSpec := { name := "fractionMakes", fn := fun _ => fun
  | [d1, d2, d3, d4, d5] => { results := [.lit (.bool false)], args := [d1, d2, d3, d4, d5] }
  | _ => none }
def FractionMakesWrongFalsely : Prop := fractionMakesRow.holds Try.pinned (OpenSpec.ofChange fractionMakesWrong)

/-- 'saleroomlaw02.FractionRounds': WHATEVER THE INPUT: true; the input reads as it did. -/
def fractionRoundsSpec : ChangeSpec := { name := "fractionRounds", fn := fun _ => fun
  | [d] => { results := [.lit (.bool true)], args := [d] }
  | _ => none }
def fractionRoundsRow : OpenClaim := { program := "ytghpcimeobmonaa", sum := "6a078cd51a8ab9db6991197d3771f4d7361b0aa3b9fc26462cbe82c78666b2bc", func := "saleroom/saleroomlaw02.FractionRounds", spec := "fractionRounds", inPlace := ["internal/bytealg.IndexByteString", "internal/bytealg.IndexString"], named := ["internal/bytealg.MaxLen"], apart := false }
def FractionRoundsSaid : Prop := fractionRoundsRow.holds Try.pinned (OpenSpec.ofChange fractionRoundsSpec)

/-- ITS FALSE NEIGHBOUR: 'it returns false'. Refute it at one input. -/
def fractionRoundsWrong : ChangeSpec := { name := "fractionRounds", fn := fun _ => fun
  | [d] => { results := [.lit (.bool false)], args := [d] }
  | _ => none }
def FractionRoundsWrongFalsely : Prop := fractionRoundsRow.holds Try.pinned (OpenSpec.ofChange fractionRoundsWrong)

/-- 'saleroomlaw02.FractionField': WHATEVER THE INPUT: true; the input reads as it did. -/
def fractionFieldSpec : ChangeSpec := { name := "fractionField", fn := fun _ => fun
  | [d1, d2, d3] => { results := [.lit (.bool true)], args := [d1, d2, d3] }
  | _ => none }
def fractionFieldRow : OpenClaim := { program := "ytghpcimeobmonaa", sum := "6a078cd51a8ab9db6991197d3771f4d7361b0aa3b9fc26462cbe82c78666b2bc", func := "saleroom/saleroomlaw02.FractionField", spec := "fractionField", inPlace := ["internal/bytealg.IndexByteString", "internal/bytealg.IndexString"], named := ["internal/bytealg.MaxLen"], apart := false }
def FractionFieldSaid : Prop := fractionFieldRow.holds Try.pinned (OpenSpec.ofChange fractionFieldSpec)

/-- ITS FALSE NEIGHBOUR: 'it returns false'. Refute it at one input. -/
def fractionFieldWrong : ChangeSpec := { name := "fractionField", fn := fun _ => fun
  | [d1, d2, d3] => { results := [.lit (.bool false)], args := [d1, d2, d3] }
  | _ => none }
def FractionFieldWrongFalsely : Prop := fractionFieldRow.holds Try.pinned (OpenSpec.ofChange fractionFieldWrong)

/-- 'saleroomlaw02.FractionValid': WHATEVER THE INPUT: true; the input reads as it did. -/
def fractionValidSpec : ChangeSpec := { name := "fractionValid", fn := fun _ => fun
  | [d] => { results := [.lit (.bool true)], args := [d] }
  | _ => none }
def fractionValidRow : OpenClaim := { program := "ytghpcimeobmonaa", sum := "6a078cd51a8ab9db6991197d3771f4d7361b0aa3b9fc26462cbe82c78666b2bc", func := "saleroom/saleroomlaw02.FractionValid", spec := "fractionValid", inPlace := ["internal/bytealg.IndexByteString", "internal/bytealg.IndexString"], named := ["internal/bytealg.MaxLen"], apart := false }
def FractionValidSaid : Prop := fractionValidRow.holds Try.pinned (OpenSpec.ofChange fractionValidSpec)

/-- ITS FALSE NEIGHBOUR: 'it returns false'. Refute it at one input. -/
def fractionValidWrong : ChangeSpec := { name := "fractionValid", fn := fun _ => fun
  | [d] => { results := [.lit (.bool false)], args := [d] }
  | _ => none }
def FractionValidWrongFalsely : Prop := fractionValidRow.holds Try.pinned (OpenSpec.ofChange fractionValidWrong)

/-- 'saleroomlaw02.FractionComputes': WHATEVER THE INPUT: true; the input reads as it did. -/
def fractionComputesSpec : ChangeSpec := { name := "fractionComputes", fn := fun _ => fun
  | [d1, d2] => { results := [.lit (.bool true)], args := [d1, d2] }
  | _ => none }
def fractionComputesRow : OpenClaim := { program := "ytghpcimeobmonaa", sum := "6a078cd51a8ab9db6991197d3771f4d7361b0aa3b9fc26462cbe82c78666b2bc", func := "saleroom/saleroomlaw02.FractionComputes", spec := "fractionComputes", inPlace := ["internal/bytealg.IndexByteString", "internal/bytealg.IndexString"], named := ["internal/bytealg.MaxLen"], apart := false }
def FractionComputesSaid : Prop := fractionComputesRow.holds Try.pinned (OpenSpec.ofChange fractionComputesSpec)

/-- ITS FALSE NEIGHBOUR: 'it returns false'. Refute it at one input. -/
def fractionComputesWrong : ChangeSpec := { name := "fractionComputes", fn := fun _ => fun
  | [d1, d2] => { results := [.lit (.bool false)], args := [d1, d2] }
  | _ => none }
def FractionComputesWrongFalsely : Prop := fractionComputesRow.holds Try.pinned (OpenSpec.ofChange fractionComputesWrong)

/-- 'saleroomlaw02.FractionSums': WHATEVER THE INPUT: true; the input reads as it did. -/
def fractionSumsSpec : ChangeSpec := { name := "fractionSums", fn := fun _ => fun
  | [d1, d2] => { results := [.lit (.bool true)], args := [d1, d2] }
  | _ => none }
def fractionSumsRow : OpenClaim := { program := "ytghpcimeobmonaa", sum := "6a078cd51a8ab9db6991197d3771f4d7361b0aa3b9fc26462cbe82c78666b2bc", func := "saleroom/saleroomlaw02.FractionSums", spec := "fractionSums", inPlace := ["internal/bytealg.IndexByteString", "internal/bytealg.IndexString"], named := ["internal/bytealg.MaxLen"], apart := false }
def FractionSumsSaid : Prop := fractionSumsRow.holds Try.pinned (OpenSpec.ofChange fractionSumsSpec)

/-- ITS FALSE NEIGHBOUR: 'it returns false'. Refute it at one input. -/
def fractionSumsWrong : ChangeSpec := { name := "fractionSums", fn := fun _ => fun
  | [d1, d2] => { results := [.lit (.bool false)], args := [d1, d2] }
  | _ => none }
def FractionSumsWrongFalsely : Prop := fractionSumsRow.holds Try.pinned (OpenSpec.ofChange fractionSumsWrong)

/- THE SECOND FORM. 'bulk': how many values and letters a reading holds, each counted each time it is reached (what is shared counts as often as it is met; a slice's spare places count too). A statement '..UptoSaid' is the law's where the arguments, and the package variables that the reading takes, are together of bulk at most 1048576: NARROWER than '..Said'. Prove '..Said' where nothing that the law and all that it calls make is longer than what came in: it says more and counts as full. Else prove '..UptoSaid'. A law counts once. -/
mutual
def uptoBulk {H : Type} : DataW H → Nat
  | .lit (.string bytes) => bytes.length + 1
  | .lit _ => 1
  | .nil => 1
  | .ptr d => uptoBulk d + 1
  | .slice elems spare => uptoBulkAll elems + uptoBulkAll spare + 1
  | .agg parts => uptoBulkAll parts + 1
  | .iface _ d => uptoBulk d + 1
  | .map entries => uptoBulkEntries entries + 1
  | .held _ => 1
def uptoBulkAll {H : Type} : List (DataW H) → Nat
  | [] => 0
  | d :: r => uptoBulk d + uptoBulkAll r
def uptoBulkEntries {H : Type} : List (Lit × DataW H) → Nat
  | [] => 0
  | x :: r => uptoBulkEntry x + uptoBulkEntries r
def uptoBulkEntry {H : Type} : Lit × DataW H → Nat
  | (.string bytes, d) => bytes.length + uptoBulk d + 1
  | (_, d) => uptoBulk d + 1
 end
def uptoSmall : (H : Type) → List (DataW H) → Bool := fun _ ds => decide (uptoBulkAll ds ≤ 1048576)
def OpenSpec.upto (s : _root_.Go.ChangeSpec) : _root_.Go.OpenSpec := { _root_.Go.OpenSpec.ofChange s with cond := some uptoSmall }

/-- 'saleroomlaw02.FractionTexts', WHERE WHAT IT READS IS OF BULK AT MOST 1048576: true; the input reads as it did. -/
def fractionTextsUptoRow : OpenClaim := { program := "ytghpcimeobmonaa", sum := "6a078cd51a8ab9db6991197d3771f4d7361b0aa3b9fc26462cbe82c78666b2bc", func := "saleroom/saleroomlaw02.FractionTexts", spec := "fractionTexts", inPlace := ["internal/bytealg.IndexByteString", "internal/bytealg.IndexString"], named := ["internal/bytealg.MaxLen"], apart := false, narrowed := true }
def FractionTextsUptoSaid : Prop := fractionTextsUptoRow.holds Try.pinned (OpenSpec.upto fractionTextsSpec)

/-- 'saleroomlaw02.FractionMakes', WHERE WHAT IT READS IS OF BULK AT MOST 1048576: true; the input reads as it did. -/
def fractionMakesUptoRow : OpenClaim := { program := "ytghpcimeobmonaa", sum := "6a078cd51a8ab9db6991197d3771f4d7361b0aa3b9fc26462cbe82c78666b2bc", func := "saleroom/saleroomlaw02.FractionMakes", spec := "fractionMakes", inPlace := ["internal/bytealg.IndexByteString", "internal/bytealg.IndexString"], named := ["internal/bytealg.MaxLen"], apart := false, narrowed := true }
def FractionMakesUptoSaid : Prop := fractionMakesUptoRow.holds Try.pinned (OpenSpec.upto fractionMakesSpec)

/-- 'saleroomlaw02.FractionRounds', WHERE WHAT IT READS IS OF BULK AT MOST 1048576: true; the input reads as it did. -/
def fractionRoundsUptoRow : OpenClaim := { program := "ytghpcimeobmonaa", sum := "6a078cd51a8ab9db6991197d3771f4d7361b0aa3b9fc26462cbe82c78666b2bc", func := "saleroom/saleroomlaw02.FractionRounds", spec := "fractionRounds", inPlace := ["internal/bytealg.IndexByteString", "internal/bytealg.IndexString"], named := ["internal/bytealg.MaxLen"], apart := false, narrowed := true }
def FractionRoundsUptoSaid : Prop := fractionRoundsUptoRow.holds Try.pinned (OpenSpec.upto fractionRoundsSpec)

/-- 'saleroomlaw02.FractionField', WHERE WHAT IT READS IS OF BULK AT MOST 1048576: true; the input reads as it did. -/
def fractionFieldUptoRow : OpenClaim := { program := "ytghpcimeobmonaa", sum := "6a078cd51a8ab9db6991197d3771f4d7361b0aa3b9fc26462cbe82c78666b2bc", func := "saleroom/saleroomlaw02.FractionField", spec := "fractionField", inPlace := ["internal/bytealg.IndexByteString", "internal/bytealg.IndexString"], named := ["internal/bytealg.MaxLen"], apart := false, narrowed := true }
def FractionFieldUptoSaid : Prop := fractionFieldUptoRow.holds Try.pinned (OpenSpec.upto fractionFieldSpec)

/-- 'saleroomlaw02.FractionValid', WHERE WHAT IT READS IS OF BULK AT MOST 1048576: true; the input reads as it did. -/
def fractionValidUptoRow : OpenClaim := { program := "ytghpcimeobmonaa", sum := "6a078cd51a8ab9db6991197d3771f4d7361b0aa3b9fc26462cbe82c78666b2bc", func := "saleroom/saleroomlaw02.FractionValid", spec := "fractionValid", inPlace := ["internal/bytealg.IndexByteString", "internal/bytealg.IndexString"], named := ["internal/bytealg.MaxLen"], apart := false, narrowed := true }
def FractionValidUptoSaid : Prop := fractionValidUptoRow.holds Try.pinned (OpenSpec.upto fractionValidSpec)

/-- 'saleroomlaw02.FractionComputes', WHERE WHAT IT READS IS OF BULK AT MOST 1048576: true; the input reads as it did. -/
def fractionComputesUptoRow : OpenClaim := { program := "ytghpcimeobmonaa", sum := "6a078cd51a8ab9db6991197d3771f4d7361b0aa3b9fc26462cbe82c78666b2bc", func := "saleroom/saleroomlaw02.FractionComputes", spec := "fractionComputes", inPlace := ["internal/bytealg.IndexByteString", "internal/bytealg.IndexString"], named := ["internal/bytealg.MaxLen"], apart := false, narrowed := true }
def FractionComputesUptoSaid : Prop := fractionComputesUptoRow.holds Try.pinned (OpenSpec.upto fractionComputesSpec)

/-- 'saleroomlaw02.FractionSums', WHERE WHAT IT READS IS OF BULK AT MOST 1048576: true; the input reads as it did. -/
def fractionSumsUptoRow : OpenClaim := { program := "ytghpcimeobmonaa", sum := "6a078cd51a8ab9db6991197d3771f4d7361b0aa3b9fc26462cbe82c78666b2bc", func := "saleroom/saleroomlaw02.FractionSums", spec := "fractionSums", inPlace := ["internal/bytealg.IndexByteString", "internal/bytealg.IndexString"], named := ["internal/bytealg.MaxLen"], apart := false, narrowed := true }
def FractionSumsUptoSaid : Prop := fractionSumsUptoRow.holds Try.pinned (OpenSpec.upto fractionSumsSpec)

end Rows
end Go.Proofs.Ytghpcimeobmonaa
