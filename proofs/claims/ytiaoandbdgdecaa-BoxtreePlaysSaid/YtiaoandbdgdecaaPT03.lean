/- Parts of a proof: contracts and laws. -/
import Derived.Test.YtiaoandbdgdecaaPT00
import Derived.Test.YtiaoandbdgdecaaPT01
import Derived.Deep.RegionHeld3
namespace Go.Proofs.Ytiaoandbdgdecaa
section
set_option linter.unusedVariables false
set_option linter.unusedSimpArgs false
open Go.RowKit


def i64 (a : Int) : Prop := -9223372036854775808 ≤ a ∧ a ≤ 9223372036854775807









end
end Go.Proofs.Ytiaoandbdgdecaa
