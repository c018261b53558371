/- fraction.kindOf and Valid: what the calls do. -/
import Derived.Test.YtkjmliebkbbogaaFV
import Derived.Test.YtkjmliebkbbogaaWGcd
namespace Go.Proofs.Ytkjmliebkbbogaa
set_option linter.unusedVariables false
set_option linter.unusedSimpArgs false
open Go.RowKit Plain
attribute [local go_sem ↓] Go.wp_at_zero Go.wp_at_succ

end Go.Proofs.Ytkjmliebkbbogaa
