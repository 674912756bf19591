/- Parts of a proof: contracts and laws. -/
import Derived.Test.YtienmhgbildhhaaC29
namespace Go.Proofs.Ytienmhgbildhhaa
section
set_option linter.unusedVariables false
set_option linter.unusedSimpArgs false
open Go.RowKit
theorem deepTo_mem (l m : List V) (i : Nat) : ∀ k, ∃ j, j ≤ k ∧ deepTo l m i k = dpt l m i j
  | 0 => ⟨0, Nat.le_refl _, rfl⟩
  | k + 1 => by
    rw [deepTo]
    split
    · exact ⟨k + 1, Nat.le_refl _, rfl⟩
    · obtain ⟨j, h1, h2⟩ := deepTo_mem l m i k
      exact ⟨j, by omega, h2⟩


end
end Go.Proofs.Ytienmhgbildhhaa
