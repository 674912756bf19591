/- Parts of a proof: contracts and laws. -/
import Derived.Test.YtienmhgbildhhaaB25
namespace Go.Proofs.Ytienmhgbildhhaa
section
set_option linter.unusedVariables false
set_option linter.unusedSimpArgs false
open Go.RowKit
theorem mulF_near {a b : Int} (ha : -1048576 ≤ a ∧ a ≤ 1048576) (hb : -268435456 ≤ b ∧ b ≤ 268435456) : -65536 ≤ 131072 * mulF a b - 2 * (a * b) ∧ 131072 * mulF a b - 2 * (a * b) ≤ 65536 := by
  have m := mul_bd (x := a) (y := b) (M := 1048576) (N := 268435456) (by omega) (by omega) (by omega) (by omega)
  unfold mulF mdF
  rw [clampF_id (a := a) (by omega) (by omega), clampF_id (a := b) (by omega) (by omega), clampF_id (a := 65536) (by omega) (by omega), if_neg (by omega)]
  unfold rnd
  rw [if_neg (by omega)]
  generalize a * b = P at *
  rw [clampF_id (by omega) (by omega)]
  omega


end
end Go.Proofs.Ytienmhgbildhhaa
