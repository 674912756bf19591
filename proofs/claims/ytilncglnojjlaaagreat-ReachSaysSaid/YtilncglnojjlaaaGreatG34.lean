/- Parts of a proof: contracts and laws. -/
import Derived.Test.YtilncglnojjlaaaGreatG33
import Derived.Test.YtilncglnojjlaaaGreatG32
namespace Go.Proofs.YtilncglnojjlaaaGreat
section
set_option linter.unusedVariables false
set_option linter.unusedSimpArgs false
open Go.RowKit



section
variable {a b f u P Q : V}

end


end
end Go.Proofs.YtilncglnojjlaaaGreat
namespace Go.Proofs.YtilncglnojjlaaaGreat
section
set_option linter.unusedVariables false
set_option linter.unusedSimpArgs false
open Go.RowKit
def sm57 (a : Int) : Prop := -144115188075855872 ≤ a ∧ a ≤ 144115188075855872
theorem sm57.up {a : Int} (h : sm57 a) : sm62 a := by unfold sm57 at h; unfold sm62; omega
theorem sm57.neg {a : Int} (h : sm57 a) : sm57 (-a) := by unfold sm57 at *; omega

structure Cf (w : World) (g : Nat) (x y : Int) : Prop where
 a : w.cell? ⟨g, 0, none⟩ = some (.int .i64 x)
 b : w.cell? ⟨g, 1, none⟩ = some (.int .i64 y)
end
end Go.Proofs.YtilncglnojjlaaaGreat
