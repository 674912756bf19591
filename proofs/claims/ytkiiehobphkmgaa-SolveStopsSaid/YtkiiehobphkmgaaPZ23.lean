/- Parts of a proof: contracts and laws. -/
import Derived.Test.YtkiiehobphkmgaaPZ18
import Derived.Test.YtkiiehobphkmgaaPZ14
import Derived.Test.YtkiiehobphkmgaaPZ04
import Derived.BigQuiet
import Derived.Laws.Bits64b
import Derived.Laws.MathBits
import Derived.Deep.WholeRow
namespace Go.Proofs.Ytkiiehobphkmgaa
section
set_option linter.unusedVariables false
set_option linter.unusedSimpArgs false
open Go.RowKit

def faultTo (f : Nat → Int) : Nat → Int
  | 0 => 0
  | k + 1 => if faultTo f k ≠ 0 then faultTo f k else f k
theorem faultTo_stop (f : Nat → Int) {k : Nat} (h : faultTo f (k + 1) ≠ 0) : ∀ {m : Nat}, k < m → faultTo f m = faultTo f (k + 1)
  | 0, g => by omega
  | m + 1, g => by
    rcases Nat.lt_or_ge k m with q | q
    · have := faultTo_stop f h (m := m) q
      rw [show faultTo f (m + 1) = if faultTo f m ≠ 0 then faultTo f m else f m from rfl, if_pos (by rw [this]; exact h), this]
    · rw [show m = k by omega]
theorem faultTo_zero {f : Nat → Int} : ∀ {m : Nat}, faultTo f m = 0 → ∀ k, k < m → f k = 0
  | 0, _, k, h => by omega
  | m + 1, hz, k, h => by
    have hz : (if faultTo f m ≠ 0 then faultTo f m else f m) = 0 := hz
    by_cases h0 : faultTo f m = 0
    · rw [if_neg (by simp [h0])] at hz
      rcases Nat.lt_or_ge k m with g | g
      · exact faultTo_zero h0 k g
      · rw [show k = m by omega]; exact hz
    · rw [if_pos h0] at hz; exact absurd hz h0
end
end Go.Proofs.Ytkiiehobphkmgaa
namespace Go.Proofs.Ytkiiehobphkmgaa
section
set_option linter.unusedVariables false
set_option linter.unusedSimpArgs false
open Go.RowKit

def tabL : List Int := [0, 1608, 3216, 4821, 6424, 8022, 9616, 11204, 12785, 14359, 15924, 17479, 19024, 20557, 22078, 23586, 25080, 26558, 28020, 29466, 30893, 32303, 33692, 35062, 36410, 37736, 39040, 40320, 41576, 42806, 44011, 45190, 46341, 47464, 48559, 49624, 50660, 51665, 52639, 53581, 54491, 55368, 56212, 57022, 57798, 58538, 59244, 59914, 60547, 61145, 61705, 62228, 62714, 63162, 63572, 63944, 64277, 64571, 64827, 65043, 65220, 65358, 65457, 65516, 65536]
def tabZ (k : Nat) : Int := tabL.getD k 0

def firstZ (a : Int) : Int := if a % 256 = 0 then tabZ (a / 256).toNat else tabZ (a / 256).toNat + ((tabZ ((a / 256).toNat + 1) - tabZ (a / 256).toNat) * (a % 256) + 128).tdiv 256

def sinZ (a : Int) : Int := if a % 65536 / 16384 = 0 then firstZ (a % 16384) else if a % 65536 / 16384 = 1 then firstZ (16384 - a % 16384) else if a % 65536 / 16384 = 2 then - firstZ (a % 16384) else - firstZ (16384 - a % 16384)
def cosZ (a : Int) : Int := sinZ (a % 65536 + 16384)

def turnX (x y a : Int) : Int := subF (mulF x (cosZ a)) (mulF y (sinZ a))
end
end Go.Proofs.Ytkiiehobphkmgaa
