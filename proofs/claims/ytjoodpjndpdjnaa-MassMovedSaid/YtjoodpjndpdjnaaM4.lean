/- Plain mathematics of the division of two words by one (math/bits.Div64). No program is in sight. -/
import Derived.Test.YtjoodpjndpdjnaaA0
namespace Go.Proofs.Ytjoodpjndpdjnaa
set_option linter.unusedVariables false
set_option linter.unusedSimpArgs false
open Go.RowKit

/-- the state of the loop that corrects a digit: y = a * 2^32 + b is the divisor, u the number above, d the next digit below; q the guess, r what is left of u -/
structure Guess (a b u d q r : Int) : Prop where
  eq : u = q * a + r
  r0 : 0 ≤ r
  rlt : r < 4294967296
  q0 : 0 ≤ q
  hi : (u * 4294967296 + d) / (a * 4294967296 + b) ≤ q
  top : q ≤ 4294967297 ∧ (q = 4294967297 → r < a)

section
variable {a b u d : Int}

theorem guess_start (ha : 2147483648 ≤ a) (ha' : a < 4294967296) (hb : 0 ≤ b) (hb' : b < 4294967296) (hu : 0 ≤ u) (hu' : u < a * 4294967296 + b) (hd : 0 ≤ d) (hd' : d < 4294967296) :
    Guess a b u d (u / a) (u % a) := by
  have h1 := Int.emod_add_mul_ediv u a
  have h2 := Int.emod_nonneg u (show a ≠ 0 by omega)
  have h3 := Int.emod_lt_of_pos u (show 0 < a by omega)
  have hq0 : 0 ≤ u / a := Int.ediv_nonneg hu (by omega)
  have hqt : u / a ≤ 4294967297 := by
    have : u / a < 4294967298 := Int.ediv_lt_of_lt_mul (by omega) (by omega)
    omega
  refine ⟨by rw [Int.mul_comm]; omega, h2, by omega, hq0, ?_, hqt, fun _ => h3⟩
  -- the true digit is at most the guess
  have : (u * 4294967296 + d) / (a * 4294967296 + b) < u / a + 1 := by
    refine Int.ediv_lt_of_lt_mul (by omega) ?_
    generalize u / a = q at *
    generalize u % a = r at *
    have hp : 0 ≤ (q + 1) * b := Int.mul_nonneg (by omega) hb
    have e : (q + 1) * (a * 4294967296 + b) = (a * q + a) * 4294967296 + (q + 1) * b := by grind
    rw [e]
    omega
  omega

/-- the test of the loop: the guess is too great -/
theorem guess_test {q r : Int} (ha : 2147483648 ≤ a) (hb : 0 ≤ b) (h : Guess a b u d q r) : r * 4294967296 + d < q * b ↔ (u * 4294967296 + d) / (a * 4294967296 + b) < q := by
  have e : q * (a * 4294967296 + b) = (u - r) * 4294967296 + q * b := by rw [h.eq]; grind
  constructor
  · intro hlt
    refine Int.ediv_lt_of_lt_mul (by omega) ?_
    rw [e]
    omega
  · intro hlt
    have h2 : u * 4294967296 + d < q * (a * 4294967296 + b) := Int.lt_mul_of_ediv_lt (by omega) hlt
    rw [e] at h2
    omega

theorem digit_lt (ha : 2147483648 ≤ a) (hb : 0 ≤ b) (hu' : u < a * 4294967296 + b) (hd' : d < 4294967296) : (u * 4294967296 + d) / (a * 4294967296 + b) < 4294967296 :=
  Int.ediv_lt_of_lt_mul (by omega) (by omega)

theorem guess_next {q r : Int} (ha : 2147483648 ≤ a) (hb : 0 ≤ b) (hd : 0 ≤ d) (hu' : u < a * 4294967296 + b) (hd' : d < 4294967296) (h : Guess a b u d q r) (hc : 4294967296 ≤ q ∨ r * 4294967296 + d < q * b) (hr : r + a < 4294967296) : Guess a b u d (q - 1) (r + a) := by
  have hlt : (u * 4294967296 + d) / (a * 4294967296 + b) < q := by
    rcases hc with hc | hc
    · have := digit_lt ha hb hu' hd'; omega
    · exact (guess_test ha hb h).1 hc
  have h0 : 0 < q := by
    rcases hc with hc | hc
    · omega
    · rcases Int.lt_or_le 0 q with h1 | h1
      · exact h1
      · have := h.q0
        have e : q = 0 := by omega
        subst e
        have := h.r0
        rw [Int.zero_mul] at hc
        omega
  exact ⟨by rw [h.eq]; grind, by have := h.r0; omega, hr, by omega, by omega, by have := h.top.1; omega, fun e => by have := h.top.1; omega⟩

/-- the loop ends by its test: the guess is the digit -/
theorem guess_end {q r : Int} (ha : 2147483648 ≤ a) (hb : 0 ≤ b) (h : Guess a b u d q r) (hc2 : ¬ r * 4294967296 + d < q * b) : q = (u * 4294967296 + d) / (a * 4294967296 + b) := by
  have := (guess_test ha hb h)
  have := h.hi
  have h3 : ¬ (u * 4294967296 + d) / (a * 4294967296 + b) < q := fun hh => hc2 ((guess_test ha hb h).2 hh)
  omega

/-- the loop ends because what is left has become too great: the guess below is the digit -/
theorem guess_break {q r : Int} (ha : 2147483648 ≤ a) (ha' : a < 4294967296) (hb : 0 ≤ b) (hb' : b < 4294967296) (hd : 0 ≤ d) (hu' : u < a * 4294967296 + b) (hd' : d < 4294967296) (h : Guess a b u d q r) (hc : 4294967296 ≤ q ∨ r * 4294967296 + d < q * b) (hr : 4294967296 ≤ r + a) : q - 1 = (u * 4294967296 + d) / (a * 4294967296 + b) := by
  have hlt : (u * 4294967296 + d) / (a * 4294967296 + b) < q := by
    rcases hc with hc | hc
    · have := digit_lt ha hb hu' hd'; omega
    · exact (guess_test ha hb h).1 hc
  have hle : q - 1 ≤ (u * 4294967296 + d) / (a * 4294967296 + b) := by
    refine Int.le_ediv_of_mul_le (by omega) ?_
    have e : (q - 1) * (a * 4294967296 + b) = (u - (r + a)) * 4294967296 + (q - 1) * b := by rw [h.eq]; grind
    rw [e]
    have hq : q - 1 ≤ 4294967296 := by have := h.top.1; omega
    have hq2 : 0 ≤ q - 1 ∨ q - 1 < 0 := by omega
    have hm : (q - 1) * b ≤ 4294967296 * 4294967295 := by
      rcases Int.lt_or_le (q - 1) 0 with h0 | h0
      · have := Int.mul_nonneg (show 0 ≤ -(q - 1) by omega) hb
        rw [Int.neg_mul] at this
        omega
      · exact Int.mul_le_mul hq (by omega) hb (by omega)
    omega
  omega

end

/-- two digits, one behind the other: quotient and remainder of three digits -/
theorem two_digits {y u d1 d0 q1 q0 : Int} (hy : 0 < y) (h1 : q1 = (u * 4294967296 + d1) / y) (h0 : q0 = ((u * 4294967296 + d1) % y * 4294967296 + d0) / y) :
    (u * 18446744073709551616 + d1 * 4294967296 + d0) / y = q1 * 4294967296 + q0 ∧ (u * 18446744073709551616 + d1 * 4294967296 + d0) % y = ((u * 4294967296 + d1) % y * 4294967296 + d0) % y := by
  have e1 := Int.emod_add_mul_ediv (u * 4294967296 + d1) y
  generalize hr : (u * 4294967296 + d1) % y = r at *
  rw [← h1] at e1
  have e : u * 18446744073709551616 + d1 * 4294967296 + d0 = (r * 4294967296 + d0) + (q1 * 4294967296) * y := by
    have : u * 18446744073709551616 + d1 * 4294967296 = (u * 4294967296 + d1) * 4294967296 := by omega
    rw [this, ← e1]
    grind
  rw [e, Int.add_mul_ediv_right _ _ (by omega), Int.add_mul_emod_self_right, ← h0]
  omega

/-- shifting dividend and divisor up changes no quotient, and shifts the remainder -/
theorem shifted {n y P : Int} (hP : 0 < P) : (n * P) / (y * P) = n / y ∧ (n * P) % (y * P) / P = n % y := by
  refine ⟨Int.mul_ediv_mul_of_pos_left n y hP, ?_⟩
  rw [Int.mul_comm n P, Int.mul_comm y P, Int.mul_emod_mul_of_pos _ _ hP, Int.mul_ediv_cancel_left _ (by omega)]

end Go.Proofs.Ytjoodpjndpdjnaa
