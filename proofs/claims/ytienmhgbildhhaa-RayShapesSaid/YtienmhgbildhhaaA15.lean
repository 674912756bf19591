/- Parts of a proof: contracts and laws. -/
import Derived.Test.YtienmhgbildhhaaA11
import Derived.Test.YtienmhgbildhhaaA09
namespace Go.Proofs.Ytienmhgbildhhaa
section
set_option linter.unusedVariables false
set_option linter.unusedSimpArgs false
open Go.RowKit
section
variable {l m : List V} {u v : Int}
theorem bothE_zero {a b : List V} : bothE a b = 0 ↔ checkE a = 0 ∧ checkE b = 0 := by
  unfold bothE
  split <;> omega
end







end
end Go.Proofs.Ytienmhgbildhhaa
