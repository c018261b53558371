/-
  No cell of these rows narrows 'for every input' (looked for: loops, veiled, ifaces, maps, wideKeys, modest, calm, conditions, laid).
  DERIVED. THE GIVEN ROWS OF THIS SEAT. 14 by the template 'for every input the law returns true; each argument reads behind the call as it read before'; 0 by the template 'total and deterministic' (their statements: YtkbibdbojdbfkaaTotals.lean).
  GIVEN WITH THE SEED: the statements are not yours to turn. If you find one false, say at which input.
  Laid BY PROGRAM, IN A SANDBOX (cutbox-rows.mjs): the forced cells as the released guide's own fill.sh prints them over the translation 363aac233f690ab3… (all of the seat's roots in one cut). By AI agents, Wed Nov 11 2026. No macro, syntax, notation, axiom, sorry.
-/
import Derived.Test.YtkbibdbojdbfkaaChecked
import GoSem.Claim
import GoSem.ClaimJoined
import GoSem.ClaimMapViews
import Derived.JoinedTies
import Derived.KernelRfl
namespace Go.Proofs.Ytkbibdbojdbfkaa
/- THE CELL 'sum', in the pinned program and in every row, IS THE sha256 OF THE DUMP (.gsa) THAT YtkbibdbojdbfkaaProg.lean LOADS. Nothing in Lean hashes anything: it is a label: what it is worth is what the hold of that sum in a sandbox is worth. -/
noncomputable def Try.pinned : Pinned := { name := "ytkbibdbojdbfkaa", sum := "363aac233f690ab3b1dc3e9faef2f64966002373ca9764e642eaa9e22181703e", checked := Try.checked }
namespace Rows
def none {H : Type} : Left H := { results := [], args := [] }

/-- 'saleroomlaw04.WireIntegers': WHATEVER THE INPUT: true; the input reads as it did. -/
def wireIntegersSpec : ChangeSpec := { name := "wireIntegers", fn := fun _ => fun
  | [d1, d2] => { results := [.lit (.bool true)], args := [d1, d2] }
  | _ => none }
def wireIntegersRow : OpenClaim := { program := "ytkbibdbojdbfkaa", sum := "363aac233f690ab3b1dc3e9faef2f64966002373ca9764e642eaa9e22181703e", func := "saleroom/saleroomlaw04.WireIntegers", spec := "wireIntegers", recurses := true, apart := false }
def WireIntegersSaid : Prop := wireIntegersRow.holds Try.pinned (OpenSpec.ofChange wireIntegersSpec)

/-- ITS FALSE NEIGHBOUR: 'it returns false'. Refute it at one input. -/
def wireIntegersWrong : ChangeSpec := { name := "wireIntegers", fn := fun _ => fun
  | [d1, d2] => { results := [.lit (.bool false)], args := [d1, d2] }
  | _ => none }
def WireIntegersWrongFalsely : Prop := wireIntegersRow.holds Try.pinned (OpenSpec.ofChange wireIntegersWrong)

/-- 'saleroomlaw04.WireTexts': WHATEVER THE INPUT: true; the input reads as it did. -/
def wireTextsSpec : ChangeSpec := { name := "wireTexts", fn := fun _ => fun
  | [d1, d2] => { results := [.lit (.bool true)], args := [d1, d2] }
  | _ => none }
def wireTextsRow : OpenClaim := { program := "ytkbibdbojdbfkaa", sum := "363aac233f690ab3b1dc3e9faef2f64966002373ca9764e642eaa9e22181703e", func := "saleroom/saleroomlaw04.WireTexts", spec := "wireTexts", recurses := true, apart := false }
def WireTextsSaid : Prop := wireTextsRow.holds Try.pinned (OpenSpec.ofChange wireTextsSpec)

/-- ITS FALSE NEIGHBOUR: 'it returns false'. Refute it at one input. -/
def wireTextsWrong : ChangeSpec := { name := "wireTexts", fn := fun _ => fun
  | [d1, d2] => { results := [.lit (.bool false)], args := [d1, d2] }
  | _ => none }
def WireTextsWrongFalsely : Prop := wireTextsRow.holds Try.pinned (OpenSpec.ofChange wireTextsWrong)

/-- 'saleroomlaw01.NaturalDivides': WHATEVER THE INPUT: true; the input reads as it did. -/
def naturalDividesSpec : ChangeSpec := { name := "naturalDivides", fn := fun _ => fun
  | [d1, d2] => { results := [.lit (.bool true)], args := [d1, d2] }
  | _ => none }
def naturalDividesRow : OpenClaim := { program := "ytkbibdbojdbfkaa", sum := "363aac233f690ab3b1dc3e9faef2f64966002373ca9764e642eaa9e22181703e", func := "saleroom/saleroomlaw01.NaturalDivides", spec := "naturalDivides", apart := false }
def NaturalDividesSaid : Prop := naturalDividesRow.holds Try.pinned (OpenSpec.ofChange naturalDividesSpec)

/-- ITS FALSE NEIGHBOUR: 'it returns false'. Refute it at one input. -/
def naturalDividesWrong : ChangeSpec := { name := "naturalDivides", fn := fun _ => fun
  | [d1, d2] => { results := [.lit (.bool false)], args := [d1, d2] }
  | _ => none }
def NaturalDividesWrongFalsely : Prop := naturalDividesRow.holds Try.pinned (OpenSpec.ofChange naturalDividesWrong)

/-- 'saleroomlaw01.NaturalMultiplies': WHATEVER THE INPUT: true; the input reads as it did. -/
def naturalMultipliesSpec : ChangeSpec := { name := "naturalMultiplies", fn := fun _ => fun
  | [d1, d2] => { results := [.lit (.bool true)], args := [d1, d2] }
  | _ => none }
def naturalMultipliesRow : OpenClaim := { program := "ytkbibdbojdbfkaa", sum := "363aac233f690ab3b1dc3e9faef2f64966002373ca9764e642eaa9e22181703e", func := "saleroom/saleroomlaw01.NaturalMultiplies", spec := "naturalMultiplies", apart := false }
def NaturalMultipliesSaid : Prop := naturalMultipliesRow.holds Try.pinned (OpenSpec.ofChange naturalMultipliesSpec)

/-- ITS FALSE NEIGHBOUR: 'it returns false'. Refute it at one input. -/
def naturalMultipliesWrong : ChangeSpec := { name := "naturalMultiplies", fn := fun _ => fun
  | [d1, d2] => { results := [.lit (.bool false)], args := [d1, d2] }
  | _ => none }
def NaturalMultipliesWrongFalsely : Prop := naturalMultipliesRow.holds Try.pinned (OpenSpec.ofChange naturalMultipliesWrong)

/-- 'saleroomlaw01.NaturalParses': WHATEVER THE INPUT: true; the input reads as it did. -/
def naturalParsesSpec : ChangeSpec := { name := "naturalParses", fn := fun _ => fun
  | [d] => { results := [.lit (.bool true)], args := [d] }
  | _ => none }
def naturalParsesRow : OpenClaim := { program := "ytkbibdbojdbfkaa", sum := "363aac233f690ab3b1dc3e9faef2f64966002373ca9764e642eaa9e22181703e", func := "saleroom/saleroomlaw01.NaturalParses", spec := "naturalParses", apart := false }
def NaturalParsesSaid : Prop := naturalParsesRow.holds Try.pinned (OpenSpec.ofChange naturalParsesSpec)

/-- ITS FALSE NEIGHBOUR: 'it returns false'. Refute it at one input. -/
def naturalParsesWrong : ChangeSpec := { name := "naturalParses", fn := fun _ => fun
  | [d] => { results := [.lit (.bool false)], args := [d] }
  | _ => none }
def NaturalParsesWrongFalsely : Prop := naturalParsesRow.holds Try.pinned (OpenSpec.ofChange naturalParsesWrong)

/-- 'saleroomlaw01.NaturalCommons': WHATEVER THE INPUT: true; the input reads as it did. -/
def naturalCommonsSpec : ChangeSpec := { name := "naturalCommons", fn := fun _ => fun
  | [d1, d2] => { results := [.lit (.bool true)], args := [d1, d2] }
  | _ => none }
def naturalCommonsRow : OpenClaim := { program := "ytkbibdbojdbfkaa", sum := "363aac233f690ab3b1dc3e9faef2f64966002373ca9764e642eaa9e22181703e", func := "saleroom/saleroomlaw01.NaturalCommons", spec := "naturalCommons", apart := false }
def NaturalCommonsSaid : Prop := naturalCommonsRow.holds Try.pinned (OpenSpec.ofChange naturalCommonsSpec)

/-- ITS FALSE NEIGHBOUR: 'it returns false'. Refute it at one input. -/
def naturalCommonsWrong : ChangeSpec := { name := "naturalCommons", fn := fun _ => fun
  | [d1, d2] => { results := [.lit (.bool false)], args := [d1, d2] }
  | _ => none }
def NaturalCommonsWrongFalsely : Prop := naturalCommonsRow.holds Try.pinned (OpenSpec.ofChange naturalCommonsWrong)

/-- 'saleroomlaw01.NaturalShows': WHATEVER THE INPUT: true; the input reads as it did. -/
def naturalShowsSpec : ChangeSpec := { name := "naturalShows", fn := fun _ => fun
  | [d] => { results := [.lit (.bool true)], args := [d] }
  | _ => none }
def naturalShowsRow : OpenClaim := { program := "ytkbibdbojdbfkaa", sum := "363aac233f690ab3b1dc3e9faef2f64966002373ca9764e642eaa9e22181703e", func := "saleroom/saleroomlaw01.NaturalShows", spec := "naturalShows", apart := false }
def NaturalShowsSaid : Prop := naturalShowsRow.holds Try.pinned (OpenSpec.ofChange naturalShowsSpec)

/-- ITS FALSE NEIGHBOUR: 'it returns false'. Refute it at one input. -/
def naturalShowsWrong : ChangeSpec := { name := "naturalShows", fn := fun _ => fun
  | [d] => { results := [.lit (.bool false)], args := [d] }
  | _ => none }
def NaturalShowsWrongFalsely : Prop := naturalShowsRow.holds Try.pinned (OpenSpec.ofChange naturalShowsWrong)

/-- 'saleroomlaw01.NaturalUints': WHATEVER THE INPUT: true; the input reads as it did. -/
def naturalUintsSpec : ChangeSpec := { name := "naturalUints", fn := fun _ => fun
  | [d1, d2] => { results := [.lit (.bool true)], args := [d1, d2] }
  | _ => none }
def naturalUintsRow : OpenClaim := { program := "ytkbibdbojdbfkaa", sum := "363aac233f690ab3b1dc3e9faef2f64966002373ca9764e642eaa9e22181703e", func := "saleroom/saleroomlaw01.NaturalUints", spec := "naturalUints", apart := false }
def NaturalUintsSaid : Prop := naturalUintsRow.holds Try.pinned (OpenSpec.ofChange naturalUintsSpec)

/-- ITS FALSE NEIGHBOUR: 'it returns false'. Refute it at one input. -/
def naturalUintsWrong : ChangeSpec := { name := "naturalUints", fn := fun _ => fun
  | [d1, d2] => { results := [.lit (.bool false)], args := [d1, d2] }
  | _ => none }
def NaturalUintsWrongFalsely : Prop := naturalUintsRow.holds Try.pinned (OpenSpec.ofChange naturalUintsWrong)

/-- 'saleroomlaw01.NaturalAdds': WHATEVER THE INPUT: true; the input reads as it did. -/
def naturalAddsSpec : ChangeSpec := { name := "naturalAdds", fn := fun _ => fun
  | [d1, d2] => { results := [.lit (.bool true)], args := [d1, d2] }
  | _ => none }
def naturalAddsRow : OpenClaim := { program := "ytkbibdbojdbfkaa", sum := "363aac233f690ab3b1dc3e9faef2f64966002373ca9764e642eaa9e22181703e", func := "saleroom/saleroomlaw01.NaturalAdds", spec := "naturalAdds", apart := false }
def NaturalAddsSaid : Prop := naturalAddsRow.holds Try.pinned (OpenSpec.ofChange naturalAddsSpec)

/-- ITS FALSE NEIGHBOUR: 'it returns false'. Refute it at one input. -/
def naturalAddsWrong : ChangeSpec := { name := "naturalAdds", fn := fun _ => fun
  | [d1, d2] => { results := [.lit (.bool false)], args := [d1, d2] }
  | _ => none }
def NaturalAddsWrongFalsely : Prop := naturalAddsRow.holds Try.pinned (OpenSpec.ofChange naturalAddsWrong)

/-- 'saleroomlaw01.NaturalRing': WHATEVER THE INPUT: true; the input reads as it did. -/
def naturalRingSpec : ChangeSpec := { name := "naturalRing", fn := fun _ => fun
  | [d1, d2, d3] => { results := [.lit (.bool true)], args := [d1, d2, d3] }
  | _ => none }
def naturalRingRow : OpenClaim := { program := "ytkbibdbojdbfkaa", sum := "363aac233f690ab3b1dc3e9faef2f64966002373ca9764e642eaa9e22181703e", func := "saleroom/saleroomlaw01.NaturalRing", spec := "naturalRing", apart := false }
def NaturalRingSaid : Prop := naturalRingRow.holds Try.pinned (OpenSpec.ofChange naturalRingSpec)

/-- ITS FALSE NEIGHBOUR: 'it returns false'. Refute it at one input. -/
def naturalRingWrong : ChangeSpec := { name := "naturalRing", fn := fun _ => fun
  | [d1, d2, d3] => { results := [.lit (.bool false)], args := [d1, d2, d3] }
  | _ => none }
def NaturalRingWrongFalsely : Prop := naturalRingRow.holds Try.pinned (OpenSpec.ofChange naturalRingWrong)

/-- 'saleroomlaw04.WireFractions': WHATEVER THE INPUT: true; the input reads as it did. -/
def wireFractionsSpec : ChangeSpec := { name := "wireFractions", fn := fun _ => fun
  | [d] => { results := [.lit (.bool true)], args := [d] }
  | _ => none }
def wireFractionsRow : OpenClaim := { program := "ytkbibdbojdbfkaa", sum := "363aac233f690ab3b1dc3e9faef2f64966002373ca9764e642eaa9e22181703e", func := "saleroom/saleroomlaw04.WireFractions", spec := "wireFractions", unfollowed := true, recurses := true, apart := false }
def WireFractionsSaid : Prop := wireFractionsRow.holds Try.pinned (OpenSpec.ofChange wireFractionsSpec)

/-- ITS FALSE NEIGHBOUR: 'it returns false'. Refute it at one input. -/
def wireFractionsWrong : ChangeSpec := { name := "wireFractions", fn := fun _ => fun
  | [d] => { results := [.lit (.bool false)], args := [d] }
  | _ => none }
def WireFractionsWrongFalsely : Prop := wireFractionsRow.holds Try.pinned (OpenSpec.ofChange wireFractionsWrong)

/-- 'saleroomlaw04.WireReads': WHATEVER THE INPUT: true; the input reads as it did. -/
def wireReadsSpec : ChangeSpec := { name := "wireReads", fn := fun _ => fun
  | [d1, d2] => { results := [.lit (.bool true)], args := [d1, d2] }
  | _ => none }
def wireReadsRow : OpenClaim := { program := "ytkbibdbojdbfkaa", sum := "363aac233f690ab3b1dc3e9faef2f64966002373ca9764e642eaa9e22181703e", func := "saleroom/saleroomlaw04.WireReads", spec := "wireReads", unfollowed := true, recurses := true, apart := false }
def WireReadsSaid : Prop := wireReadsRow.holds Try.pinned (OpenSpec.ofChange wireReadsSpec)

/-- ITS FALSE NEIGHBOUR: 'it returns false'. Refute it at one input. -/
def wireReadsWrong : ChangeSpec := { name := "wireReads", fn := fun _ => fun
  | [d1, d2] => { results := [.lit (.bool false)], args := [d1, d2] }
  | _ => none }
def WireReadsWrongFalsely : Prop := wireReadsRow.holds Try.pinned (OpenSpec.ofChange wireReadsWrong)

/-- 'saleroomlaw04.WireRoundTrip': WHATEVER THE INPUT: true; the input reads as it did. -/
def wireRoundTripSpec : ChangeSpec := { name := "wireRoundTrip", fn := fun _ => fun
  | [d1, d2] => { results := [.lit (.bool true)], args := [d1, d2] }
  | _ => none }
def wireRoundTripRow : OpenClaim := { program := "ytkbibdbojdbfkaa", sum := "363aac233f690ab3b1dc3e9faef2f64966002373ca9764e642eaa9e22181703e", func := "saleroom/saleroomlaw04.WireRoundTrip", spec := "wireRoundTrip", unfollowed := true, recurses := true, apart := false }
def WireRoundTripSaid : Prop := wireRoundTripRow.holds Try.pinned (OpenSpec.ofChange wireRoundTripSpec)

/-- ITS FALSE NEIGHBOUR: 'it returns false'. Refute it at one input. -/
def wireRoundTripWrong : ChangeSpec := { name := "wireRoundTrip", fn := fun _ => fun
  | [d1, d2] => { results := [.lit (.bool false)], args := [d1, d2] }
  | _ => none }
def WireRoundTripWrongFalsely : Prop := wireRoundTripRow.holds Try.pinned (OpenSpec.ofChange wireRoundTripWrong)

/-- 'saleroomlaw04.WireNil': WHATEVER THE INPUT: true; the input reads as it did. -/
def wireNilSpec : ChangeSpec := { name := "wireNil", fn := fun _ => fun
  | [d] => { results := [.lit (.bool true)], args := [d] }
  | _ => none }
def wireNilRow : OpenClaim := { program := "ytkbibdbojdbfkaa", sum := "363aac233f690ab3b1dc3e9faef2f64966002373ca9764e642eaa9e22181703e", func := "saleroom/saleroomlaw04.WireNil", spec := "wireNil", unfollowed := true, recurses := true, apart := false }
def WireNilSaid : Prop := wireNilRow.holds Try.pinned (OpenSpec.ofChange wireNilSpec)

/-- ITS FALSE NEIGHBOUR: 'it returns false'. Refute it at one input. -/
def wireNilWrong : ChangeSpec := { name := "wireNil", fn := fun _ => fun
  | [d] => { results := [.lit (.bool false)], args := [d] }
  | _ => none }
def WireNilWrongFalsely : Prop := wireNilRow.holds Try.pinned (OpenSpec.ofChange wireNilWrong)

/- THE SECOND FORM. 'bulk': how many values and letters a reading holds, each counted each time it is reached (what is shared counts as often as it is met; a slice's spare places count too). A statement '..UptoSaid' is the law's where the arguments, and the package variables that the reading takes, are together of bulk at most 1048576: NARROWER than '..Said'. Prove '..Said' where nothing that the law and all that it calls make is longer than what came in: it says more and counts as full. Else prove '..UptoSaid'. A law counts once. -/
mutual
def uptoBulk {H : Type} : DataW H → Nat
  | .lit (.string bytes) => bytes.length + 1
  | .lit _ => 1
  | .nil => 1
  | .ptr d => uptoBulk d + 1
  | .slice elems spare => uptoBulkAll elems + uptoBulkAll spare + 1
  | .agg parts => uptoBulkAll parts + 1
  | .iface _ d => uptoBulk d + 1
  | .map entries => uptoBulkEntries entries + 1
  | .held _ => 1
def uptoBulkAll {H : Type} : List (DataW H) → Nat
  | [] => 0
  | d :: r => uptoBulk d + uptoBulkAll r
def uptoBulkEntries {H : Type} : List (Lit × DataW H) → Nat
  | [] => 0
  | x :: r => uptoBulkEntry x + uptoBulkEntries r
def uptoBulkEntry {H : Type} : Lit × DataW H → Nat
  | (.string bytes, d) => bytes.length + uptoBulk d + 1
  | (_, d) => uptoBulk d + 1
 end
def uptoSmall : (H : Type) → List (DataW H) → Bool := fun _ ds => decide (uptoBulkAll ds ≤ 1048576)
def OpenSpec.upto (s : _root_.Go.ChangeSpec) : _root_.Go.OpenSpec := { _root_.Go.OpenSpec.ofChange s with cond := some uptoSmall }

/-- 'saleroomlaw04.WireIntegers', WHERE WHAT IT READS IS OF BULK AT MOST 1048576: true; the input reads as it did. -/
def wireIntegersUptoRow : OpenClaim := { program := "ytkbibdbojdbfkaa", sum := "363aac233f690ab3b1dc3e9faef2f64966002373ca9764e642eaa9e22181703e", func := "saleroom/saleroomlaw04.WireIntegers", spec := "wireIntegers", recurses := true, apart := false, narrowed := true }
def WireIntegersUptoSaid : Prop := wireIntegersUptoRow.holds Try.pinned (OpenSpec.upto wireIntegersSpec)

/-- 'saleroomlaw04.WireTexts', WHERE WHAT IT READS IS OF BULK AT MOST 1048576: true; the input reads as it did. -/
def wireTextsUptoRow : OpenClaim := { program := "ytkbibdbojdbfkaa", sum := "363aac233f690ab3b1dc3e9faef2f64966002373ca9764e642eaa9e22181703e", func := "saleroom/saleroomlaw04.WireTexts", spec := "wireTexts", recurses := true, apart := false, narrowed := true }
def WireTextsUptoSaid : Prop := wireTextsUptoRow.holds Try.pinned (OpenSpec.upto wireTextsSpec)

/-- 'saleroomlaw01.NaturalDivides', WHERE WHAT IT READS IS OF BULK AT MOST 1048576: true; the input reads as it did. -/
def naturalDividesUptoRow : OpenClaim := { program := "ytkbibdbojdbfkaa", sum := "363aac233f690ab3b1dc3e9faef2f64966002373ca9764e642eaa9e22181703e", func := "saleroom/saleroomlaw01.NaturalDivides", spec := "naturalDivides", apart := false, narrowed := true }
def NaturalDividesUptoSaid : Prop := naturalDividesUptoRow.holds Try.pinned (OpenSpec.upto naturalDividesSpec)

/-- 'saleroomlaw01.NaturalMultiplies', WHERE WHAT IT READS IS OF BULK AT MOST 1048576: true; the input reads as it did. -/
def naturalMultipliesUptoRow : OpenClaim := { program := "ytkbibdbojdbfkaa", sum := "363aac233f690ab3b1dc3e9faef2f64966002373ca9764e642eaa9e22181703e", func := "saleroom/saleroomlaw01.NaturalMultiplies", spec := "naturalMultiplies", apart := false, narrowed := true }
def NaturalMultipliesUptoSaid : Prop := naturalMultipliesUptoRow.holds Try.pinned (OpenSpec.upto naturalMultipliesSpec)

/-- 'saleroomlaw01.NaturalParses', WHERE WHAT IT READS IS OF BULK AT MOST 1048576: true; the input reads as it did. -/
def naturalParsesUptoRow : OpenClaim := { program := "ytkbibdbojdbfkaa", sum := "363aac233f690ab3b1dc3e9faef2f64966002373ca9764e642eaa9e22181703e", func := "saleroom/saleroomlaw01.NaturalParses", spec := "naturalParses", apart := false, narrowed := true }
def NaturalParsesUptoSaid : Prop := naturalParsesUptoRow.holds Try.pinned (OpenSpec.upto naturalParsesSpec)

/-- 'saleroomlaw01.NaturalCommons', WHERE WHAT IT READS IS OF BULK AT MOST 1048576: true; the input reads as it did. -/
def naturalCommonsUptoRow : OpenClaim := { program := "ytkbibdbojdbfkaa", sum := "363aac233f690ab3b1dc3e9faef2f64966002373ca9764e642eaa9e22181703e", func := "saleroom/saleroomlaw01.NaturalCommons", spec := "naturalCommons", apart := false, narrowed := true }
def NaturalCommonsUptoSaid : Prop := naturalCommonsUptoRow.holds Try.pinned (OpenSpec.upto naturalCommonsSpec)

/-- 'saleroomlaw01.NaturalShows', WHERE WHAT IT READS IS OF BULK AT MOST 1048576: true; the input reads as it did. -/
def naturalShowsUptoRow : OpenClaim := { program := "ytkbibdbojdbfkaa", sum := "363aac233f690ab3b1dc3e9faef2f64966002373ca9764e642eaa9e22181703e", func := "saleroom/saleroomlaw01.NaturalShows", spec := "naturalShows", apart := false, narrowed := true }
def NaturalShowsUptoSaid : Prop := naturalShowsUptoRow.holds Try.pinned (OpenSpec.upto naturalShowsSpec)

/-- 'saleroomlaw01.NaturalUints', WHERE WHAT IT READS IS OF BULK AT MOST 1048576: true; the input reads as it did. -/
def naturalUintsUptoRow : OpenClaim := { program := "ytkbibdbojdbfkaa", sum := "363aac233f690ab3b1dc3e9faef2f64966002373ca9764e642eaa9e22181703e", func := "saleroom/saleroomlaw01.NaturalUints", spec := "naturalUints", apart := false, narrowed := true }
def NaturalUintsUptoSaid : Prop := naturalUintsUptoRow.holds Try.pinned (OpenSpec.upto naturalUintsSpec)

/-- 'saleroomlaw01.NaturalAdds', WHERE WHAT IT READS IS OF BULK AT MOST 1048576: true; the input reads as it did. -/
def naturalAddsUptoRow : OpenClaim := { program := "ytkbibdbojdbfkaa", sum := "363aac233f690ab3b1dc3e9faef2f64966002373ca9764e642eaa9e22181703e", func := "saleroom/saleroomlaw01.NaturalAdds", spec := "naturalAdds", apart := false, narrowed := true }
def NaturalAddsUptoSaid : Prop := naturalAddsUptoRow.holds Try.pinned (OpenSpec.upto naturalAddsSpec)

/-- 'saleroomlaw01.NaturalRing', WHERE WHAT IT READS IS OF BULK AT MOST 1048576: true; the input reads as it did. -/
def naturalRingUptoRow : OpenClaim := { program := "ytkbibdbojdbfkaa", sum := "363aac233f690ab3b1dc3e9faef2f64966002373ca9764e642eaa9e22181703e", func := "saleroom/saleroomlaw01.NaturalRing", spec := "naturalRing", apart := false, narrowed := true }
def NaturalRingUptoSaid : Prop := naturalRingUptoRow.holds Try.pinned (OpenSpec.upto naturalRingSpec)

/-- 'saleroomlaw04.WireFractions', WHERE WHAT IT READS IS OF BULK AT MOST 1048576: true; the input reads as it did. -/
def wireFractionsUptoRow : OpenClaim := { program := "ytkbibdbojdbfkaa", sum := "363aac233f690ab3b1dc3e9faef2f64966002373ca9764e642eaa9e22181703e", func := "saleroom/saleroomlaw04.WireFractions", spec := "wireFractions", unfollowed := true, recurses := true, apart := false, narrowed := true }
def WireFractionsUptoSaid : Prop := wireFractionsUptoRow.holds Try.pinned (OpenSpec.upto wireFractionsSpec)

/-- 'saleroomlaw04.WireReads', WHERE WHAT IT READS IS OF BULK AT MOST 1048576: true; the input reads as it did. -/
def wireReadsUptoRow : OpenClaim := { program := "ytkbibdbojdbfkaa", sum := "363aac233f690ab3b1dc3e9faef2f64966002373ca9764e642eaa9e22181703e", func := "saleroom/saleroomlaw04.WireReads", spec := "wireReads", unfollowed := true, recurses := true, apart := false, narrowed := true }
def WireReadsUptoSaid : Prop := wireReadsUptoRow.holds Try.pinned (OpenSpec.upto wireReadsSpec)

/-- 'saleroomlaw04.WireRoundTrip', WHERE WHAT IT READS IS OF BULK AT MOST 1048576: true; the input reads as it did. -/
def wireRoundTripUptoRow : OpenClaim := { program := "ytkbibdbojdbfkaa", sum := "363aac233f690ab3b1dc3e9faef2f64966002373ca9764e642eaa9e22181703e", func := "saleroom/saleroomlaw04.WireRoundTrip", spec := "wireRoundTrip", unfollowed := true, recurses := true, apart := false, narrowed := true }
def WireRoundTripUptoSaid : Prop := wireRoundTripUptoRow.holds Try.pinned (OpenSpec.upto wireRoundTripSpec)

/-- 'saleroomlaw04.WireNil', WHERE WHAT IT READS IS OF BULK AT MOST 1048576: true; the input reads as it did. -/
def wireNilUptoRow : OpenClaim := { program := "ytkbibdbojdbfkaa", sum := "363aac233f690ab3b1dc3e9faef2f64966002373ca9764e642eaa9e22181703e", func := "saleroom/saleroomlaw04.WireNil", spec := "wireNil", unfollowed := true, recurses := true, apart := false, narrowed := true }
def WireNilUptoSaid : Prop := wireNilUptoRow.holds Try.pinned (OpenSpec.upto wireNilSpec)

end Rows
end Go.Proofs.Ytkbibdbojdbfkaa
