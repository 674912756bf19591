/- Parts of a proof: contracts and laws. -/
import Derived.Test.YtienmhgbildhhaaC21
import Derived.Test.YtienmhgbildhhaaC10
namespace Go.Proofs.Ytienmhgbildhhaa
section
set_option linter.unusedVariables false
set_option linter.unusedSimpArgs false
open Go.RowKit
section
variable {l m : List V} {u v : Int}
theorem bothE_zero {a b : List V} : bothE a b = 0 ↔ checkE a = 0 ∧ checkE b = 0 := by
  unfold bothE
  split <;> omega
end

theorem meetsB_swap (l m : List V) : meetsB m l = meetsB l m := by
  unfold meetsB
  rw [decide_eq_decide, bothE_zero, bothE_zero]
  constructor
  · rintro ⟨⟨a, b⟩, c, d⟩; exact ⟨⟨b, a⟩, d, c⟩
  · rintro ⟨⟨a, b⟩, c, d⟩; exact ⟨⟨b, a⟩, d, c⟩






end
end Go.Proofs.Ytienmhgbildhhaa
