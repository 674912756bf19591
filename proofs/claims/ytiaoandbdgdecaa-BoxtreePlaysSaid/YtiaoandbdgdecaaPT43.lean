/- Parts of a proof: contracts and laws. -/
import Derived.Test.YtiaoandbdgdecaaPT06
namespace Go.Proofs.Ytiaoandbdgdecaa
section
set_option linter.unusedVariables false
set_option linter.unusedSimpArgs false
open Go.RowKit
section
variable {α : Type} {L : Lay α} {e : TypeId}

end
end
end Go.Proofs.Ytiaoandbdgdecaa
