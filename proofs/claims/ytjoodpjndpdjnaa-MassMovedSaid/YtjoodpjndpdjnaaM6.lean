/- Plain mathematics of the rounded quotient (poly.Wide.Over). No program is in sight. -/
import Derived.Test.YtjoodpjndpdjnaaM2
namespace Go.Proofs.Ytjoodpjndpdjnaa
set_option linter.unusedVariables false
set_option linter.unusedSimpArgs false
open Go.RowKit

/-- the rounded quotient: the floor of (2W + n) / 2n, for n below 0 with both signs turned -/
def rnd (W n : Int) : Int := if n < 0 then (2 * (-W) + (-n)) / (2 * (-n)) else (2 * W + n) / (2 * n)

theorem rnd_up {q d r : Int} (hr : 0 ≤ r) (hr' : r < d) : (2 * (q * d + r) + d) / (2 * d) = q + (if d ≤ 2 * r then 1 else 0) := by
  have e : 2 * (q * d + r) + d = (2 * r + d) + q * (2 * d) := by grind
  rw [e, Int.add_mul_ediv_right _ _ (by omega)]
  split
  · have e2 : 2 * r + d = (2 * r - d) + 1 * (2 * d) := by omega
    rw [e2, Int.add_mul_ediv_right _ _ (by omega), Int.ediv_eq_zero_of_lt (by omega) (by omega)]
    omega
  · rw [Int.ediv_eq_zero_of_lt (by omega) (by omega)]
    omega
theorem rnd_dn {q d r : Int} (hr : 0 ≤ r) (hr' : r < d) : (2 * (-(q * d + r)) + d) / (2 * d) = -(q + (if d < 2 * r then 1 else 0)) := by
  have e : 2 * (-(q * d + r)) + d = (d - 2 * r) + (-q) * (2 * d) := by grind
  rw [e, Int.add_mul_ediv_right _ _ (by omega)]
  split
  · have e2 : d - 2 * r = (3 * d - 2 * r) + (-1) * (2 * d) := by omega
    rw [e2, Int.add_mul_ediv_right _ _ (by omega), Int.ediv_eq_zero_of_lt (by omega) (by omega)]
    omega
  · rw [Int.ediv_eq_zero_of_lt (by omega) (by omega)]
    omega

/-- the sizes of dividend and divisor, and whether their signs differ -/
structure Signs (W n : Int) (ng : Bool) (M d : Int) : Prop where
  d0 : 0 < d
  dm : d ≤ 9223372036854775808
  M0 : 0 ≤ M
  Mm : M ≤ 170141183460469231731687303715884105728
  n0 : n ≠ 0
  is : (ng = false ∧ (W = M ∧ n = d ∨ W = -M ∧ n = -d)) ∨ (ng = true ∧ (W = -M ∧ n = d ∨ W = M ∧ n = -d))

theorem Signs.rnd_f {W n M d q r : Int} (h : Signs W n false M d) (e : M = q * d + r) (hr : 0 ≤ r) (hr' : r < d) : rnd W n = q + (if d ≤ 2 * r then 1 else 0) := by
  have hd := h.d0
  rw [← rnd_up hr hr', ← e]
  rcases h.is with ⟨_, ⟨rfl, rfl⟩ | ⟨rfl, rfl⟩⟩ | ⟨h, _⟩
  · rw [rnd, if_neg (by omega)]
  · rw [rnd, if_pos (by omega), Int.neg_neg, Int.neg_neg]
  · simp at h
theorem Signs.rnd_t {W n M d q r : Int} (h : Signs W n true M d) (e : M = q * d + r) (hr : 0 ≤ r) (hr' : r < d) : rnd W n = -(q + (if d < 2 * r then 1 else 0)) := by
  have hd := h.d0
  rw [← rnd_dn hr hr', ← e]
  rcases h.is with ⟨h, _⟩ | ⟨_, ⟨rfl, rfl⟩ | ⟨rfl, rfl⟩⟩
  · simp at h
  · rw [rnd, if_neg (by omega)]
  · rw [rnd, if_pos (by omega), Int.neg_neg]

/-- what Over answers -/
def overQ (W n : Int) : Int := if n = 0 then 0 else if -9223372036854775808 ≤ rnd W n ∧ rnd W n ≤ 9223372036854775807 then rnd W n else 0
def overE (W n : Int) : Int := if n = 0 then 17 else if -9223372036854775808 ≤ rnd W n ∧ rnd W n ≤ 9223372036854775807 then 0 else 2

theorem over_ok {W n v : Int} (hn : n ≠ 0) (h : rnd W n = v) (h1 : -9223372036854775808 ≤ v) (h2 : v ≤ 9223372036854775807) : overQ W n = v ∧ overE W n = 0 := by
  subst h
  unfold overQ overE
  rw [if_neg hn, if_neg hn, if_pos ⟨h1, h2⟩, if_pos ⟨h1, h2⟩]
  exact ⟨rfl, rfl⟩
theorem over_large {W n v : Int} (hn : n ≠ 0) (h : rnd W n = v) (h1 : v < -9223372036854775808 ∨ 9223372036854775807 < v) : overQ W n = 0 ∧ overE W n = 2 := by
  subst h
  unfold overQ overE
  rw [if_neg hn, if_neg hn, if_neg (by omega), if_neg (by omega)]
  exact ⟨rfl, rfl⟩

/-- the dividend's high half is as great as the divisor: the quotient is too great -/
theorem Signs.large {W n M d : Int} {ng : Bool} (h : Signs W n ng M d) (hh : d ≤ M / 18446744073709551616) : overQ W n = 0 ∧ overE W n = 2 := by
  have hd := h.d0
  have e := Int.emod_add_mul_ediv M d
  have r0 := Int.emod_nonneg M (show d ≠ 0 by omega)
  have r1 := Int.emod_lt_of_pos M hd
  have hq : 18446744073709551616 ≤ M / d := Int.le_ediv_of_mul_le hd (by have := Int.mul_comm 18446744073709551616 d; omega)
  generalize M / d = q at *
  generalize M % d = r at *
  have e' : M = q * d + r := by rw [Int.mul_comm]; omega
  cases ng with
  | false => exact over_large h.n0 (h.rnd_f e' r0 r1) (by split <;> omega)
  | true => exact over_large h.n0 (h.rnd_t e' r0 r1) (by split <;> omega)

theorem hiW_id {z : Int} (h1 : -170141183460469231731687303715884105728 ≤ z) (h2 : z < 170141183460469231731687303715884105728) : hiW z = z / 18446744073709551616 := by unfold hiW wrap64; omega
theorem hiW_nat {M : Int} (h1 : 0 ≤ M) (h2 : M ≤ 170141183460469231731687303715884105728) : hiW M % 18446744073709551616 = M / 18446744073709551616 := by unfold hiW wrap64; omega

end Go.Proofs.Ytjoodpjndpdjnaa
