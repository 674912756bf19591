/- Plain mathematics of numbers of 128 bits in two words. No program is in sight. -/
import Derived.Test.YtjoodpjndpdjnaaM1
namespace Go.Proofs.Ytjoodpjndpdjnaa
set_option linter.unusedVariables false
set_option linter.unusedSimpArgs false
open Go.RowKit

/-- the high word (signed) and the low word of a number's residue modulo 2^128 -/
def hiW (z : Int) : Int := wrap64 (z / 18446744073709551616)
def loW (z : Int) : Int := z % 18446744073709551616
/-- a Wide as a value -/
abbrev wideV (z : Int) : Value := .agg #[.int .i64 (hiW z), .int .u64 (loW z)]
theorem loW_bd (z : Int) : 0 ≤ loW z ∧ loW z < 18446744073709551616 := by unfold loW; omega
theorem hiW_bd (z : Int) : -9223372036854775808 ≤ hiW z ∧ hiW z ≤ 9223372036854775807 := by unfold hiW wrap64; omega
theorem wide_of {z : Int} (h1 : -170141183460469231731687303715884105728 ≤ z) (h2 : z < 170141183460469231731687303715884105728) : z = hiW z * 18446744073709551616 + loW z := by
  unfold hiW loW wrap64; omega
theorem hiW_of (h l : Int) (h1 : -9223372036854775808 ≤ h) (h2 : h ≤ 9223372036854775807) (l1 : 0 ≤ l) (l2 : l < 18446744073709551616) : hiW (h * 18446744073709551616 + l) = h := by unfold hiW wrap64; omega
theorem loW_of (h l : Int) (l1 : 0 ≤ l) (l2 : l < 18446744073709551616) : loW (h * 18446744073709551616 + l) = l := by unfold loW; omega

theorem plus_lo (a b : Int) : (loW a + loW b) % 18446744073709551616 = loW (a + b) := by unfold loW; omega
theorem plus_hi (a b : Int) : wrap64 (wrap64 (hiW a + hiW b) + (loW a + loW b) / 18446744073709551616) = hiW (a + b) := by unfold loW hiW wrap64; omega
theorem minus_lo (a b : Int) : (loW a - loW b) % 18446744073709551616 = loW (a - b) := by unfold loW; omega
theorem minus_hi (a b : Int) : wrap64 (wrap64 (hiW a - hiW b) - (if loW a < loW b then 1 else 0)) = hiW (a - b) := by unfold loW hiW wrap64; split <;> omega

end Go.Proofs.Ytjoodpjndpdjnaa
