/- Parts of a proof: contracts and laws. -/
import Derived.Test.YtkiiehobphkmgaaPZ03
import Derived.Test.YtkiiehobphkmgaaPZ16
namespace Go.Proofs.Ytkiiehobphkmgaa
section
set_option linter.unusedVariables false
set_option linter.unusedSimpArgs false
open Go.ChangeShapes Go.WideShapes Go.ChangeAt Go.RowKit Go.Deep Go.Joins
section
variable {H : Type} {enc : TypeId × Value → H} {W : World} {held : Bool} {base : Nat} {sp : Nat → Bool}
set_option maxRecDepth 100000 in
set_option maxRecDepth 100000 in

set_option maxRecDepth 100000 in

end
end
end Go.Proofs.Ytkiiehobphkmgaa
