/- Plain mathematics of the reference's quotient, bit by bit. No program is in sight. -/
import Derived.Test.YtjoodpjndpdjnaaM6
namespace Go.Proofs.Ytjoodpjndpdjnaa
set_option linter.unusedVariables false
set_option linter.unusedSimpArgs false
open Go.RowKit

/-- the size of which the floor is taken -/
def magF (z : Int) : Int := if z < 0 then -z - 1 else z
theorem magF_bd {z : Int} (h1 : -170141183460469231731687303715884105728 ≤ z) (h2 : z < 170141183460469231731687303715884105728) : 0 ≤ magF z ∧ magF z < 170141183460469231731687303715884105728 := by unfold magF; split <;> omega
theorem floor_neg {M n : Int} (hn : 0 < n) : (-M - 1) / n = -(M / n) - 1 := by
  have e := Int.emod_add_mul_ediv M n
  have r0 := Int.emod_nonneg M (show n ≠ 0 by omega)
  have r1 := Int.emod_lt_of_pos M hn
  generalize M % n = r at *
  generalize M / n = q at *
  have : -M - 1 = (n - 1 - r) + (-q - 1) * n := by rw [← e]; grind
  rw [this, Int.add_mul_ediv_right _ _ (by omega), Int.ediv_eq_zero_of_lt (by omega) (by omega)]
  omega
theorem floor_mag {z n : Int} (hn : 0 < n) : z / n = if z < 0 then -(magF z / n) - 1 else magF z / n := by
  unfold magF
  split
  · rw [← floor_neg hn]; congr 1; omega
  · rfl

/-- what the bits from k on come to -/
def qk (M n : Int) (k : Nat) : Int := M / 2 ^ k / n
def rk (M n : Int) (k : Nat) : Int := M / 2 ^ k % n
def bk (M : Int) (k : Nat) : Int := M / 2 ^ k % 2
theorem two_pos (k : Nat) : (0 : Int) < 2 ^ k := Int.pow_pos (by omega)
theorem half_step (M : Int) (k : Nat) : M / 2 ^ k = 2 * (M / 2 ^ (k + 1)) + bk M k := by
  unfold bk
  rw [Int.pow_succ, ← ediv_ediv' (Int.le_of_lt (two_pos k))]
  omega
theorem bk_bd (M : Int) (k : Nat) : 0 ≤ bk M k ∧ bk M k ≤ 1 := by unfold bk; omega
theorem rk_bd {n : Int} (M : Int) (hn : 0 < n) (k : Nat) : 0 ≤ rk M n k ∧ rk M n k < n := ⟨Int.emod_nonneg _ (by omega), Int.emod_lt_of_pos _ hn⟩
theorem qk_bd {M n : Int} (h0 : 0 ≤ M) (h1 : M < 170141183460469231731687303715884105728) (hn : 0 < n) (k : Nat) : 0 ≤ qk M n k ∧ qk M n k < 170141183460469231731687303715884105728 := by
  unfold qk
  have a := Int.ediv_nonneg h0 (Int.le_of_lt (two_pos k))
  have b := Int.ediv_le_self (2 ^ k) h0
  have c := Int.ediv_nonneg a (Int.le_of_lt hn)
  have d := Int.ediv_le_self n a
  omega
theorem step_lt {M n : Int} {k : Nat} (hn : 0 < n) (h : 2 * rk M n (k + 1) + bk M k < n) : rk M n k = 2 * rk M n (k + 1) + bk M k ∧ qk M n k = 2 * qk M n (k + 1) := by
  have hr := rk_bd M hn (k + 1)
  have hb := bk_bd M k
  have e := Int.emod_add_mul_ediv (M / 2 ^ (k + 1)) n
  have e2 := half_step M k
  unfold rk qk at *
  generalize M / 2 ^ (k + 1) % n = r at *
  generalize M / 2 ^ (k + 1) / n = q at *
  have e3 : M / 2 ^ k = (2 * r + bk M k) + (2 * q) * n := by rw [e2, ← e]; grind
  rw [e3, Int.add_mul_ediv_right _ _ (by omega), Int.add_mul_emod_self_right, Int.ediv_eq_zero_of_lt (by omega) h, Int.emod_eq_of_lt (by omega) h]
  omega
theorem step_ge {M n : Int} {k : Nat} (hn : 0 < n) (h : n ≤ 2 * rk M n (k + 1) + bk M k) : rk M n k = 2 * rk M n (k + 1) + bk M k - n ∧ qk M n k = 2 * qk M n (k + 1) + 1 := by
  have hr := rk_bd M hn (k + 1)
  have hb := bk_bd M k
  have e := Int.emod_add_mul_ediv (M / 2 ^ (k + 1)) n
  have e2 := half_step M k
  unfold rk qk at *
  generalize M / 2 ^ (k + 1) % n = r at *
  generalize M / 2 ^ (k + 1) / n = q at *
  have e3 : M / 2 ^ k = (2 * r + bk M k - n) + (2 * q + 1) * n := by rw [e2, ← e]; grind
  rw [e3, Int.add_mul_ediv_right _ _ (by omega), Int.add_mul_emod_self_right, Int.ediv_eq_zero_of_lt (by omega) (by omega), Int.emod_eq_of_lt (by omega) (by omega)]
  omega
theorem qk_top {M n : Int} (h0 : 0 ≤ M) (h1 : M < 170141183460469231731687303715884105728) : qk M n 128 = 0 ∧ rk M n 128 = 0 := by
  unfold qk rk
  have : M / 2 ^ 128 = 0 := Int.ediv_eq_zero_of_lt h0 (by omega)
  rw [this]
  simp
theorem qk_zero (M n : Int) : qk M n 0 = M / n := by simp [qk]

/-- a bit of a digit -/
theorem digit_bit (M : Int) (i : Nat) : digs M (i / 16) / 2 ^ (i % 16) % 2 = bk M i := by
  unfold digs bk
  have e : (2 : Int) ^ i = 65536 ^ (i / 16) * 2 ^ (i % 16) := by
    rw [show (65536 : Int) = 2 ^ 16 by decide, ← Int.pow_mul, ← Int.pow_add]
    congr 1
    omega
  rw [e, ← ediv_ediv' (Int.le_of_lt (pow_pos' _))]
  have hm : i % 16 < 16 := Nat.mod_lt _ (by omega)
  generalize M / 65536 ^ (i / 16) = y
  generalize i % 16 = m at *
  have e16 : (65536 : Int) = (2 * 2 ^ (15 - m)) * 2 ^ m := by
    rcases (show m = 0 ∨ m = 1 ∨ m = 2 ∨ m = 3 ∨ m = 4 ∨ m = 5 ∨ m = 6 ∨ m = 7 ∨ m = 8 ∨ m = 9 ∨ m = 10 ∨ m = 11 ∨ m = 12 ∨ m = 13 ∨ m = 14 ∨ m = 15 by omega) with h | h | h | h | h | h | h | h | h | h | h | h | h | h | h | h <;> (subst h; decide)
  have h1 := Int.emod_add_mul_ediv y 65536
  have hp := two_pos m
  generalize y / 65536 = t at *
  have h2 : y % 65536 = y + (-(2 * (2 ^ (15 - m) * t))) * 2 ^ m := by
    have : 65536 * t = (2 * (2 ^ (15 - m) * t)) * 2 ^ m := by
      rw [show (65536 : Int) * t = (2 * 2 ^ (15 - m)) * 2 ^ m * t by rw [← e16]]
      grind
    rw [Int.neg_mul]
    omega
  rw [h2, Int.add_mul_ediv_right _ _ (by omega)]
  generalize 2 ^ (15 - m) * t = u
  generalize y / 2 ^ m = v
  omega

theorem and1 (x : Int) (h0 : 0 ≤ x) (h1 : x < 4294967296) : bits .and .u32 x 1 = x % 2 := by go_bits2
theorem digit_and (M : Int) (i : Nat) : bits .and .u32 (digs M (i / 16) / 2 ^ (i % 16)) 1 = bk M i := by
  have h1 := digs_nonneg M (i / 16)
  have h2 := digs_lt M (i / 16)
  have h3 := Int.ediv_nonneg h1 (Int.le_of_lt (two_pos (i % 16)))
  have h4 := Int.ediv_le_self (2 ^ (i % 16)) h1
  rw [and1 _ h3 (by omega), digit_bit]

/-- a bit laid into an even number -/
theorem even_or (r b : Int) (hb : 0 ≤ b ∧ b ≤ 1) : bits .or .u32 (digs (r + r) 0) b = digs (r + r + b) 0 := by
  have e0 : digs (r + r) 0 = (r + r) % 65536 := by simp [digs]
  have e1 : digs (r + r + b) 0 = (r + r + b) % 65536 := by simp [digs]
  rw [e0, e1]
  have h2 : (r + r) % 65536 = 2 * (r % 32768) := by omega
  have h3 : (r + r + b) % 65536 = 2 * (r % 32768) + b := by omega
  rw [h2, h3]
  have h4 := Int.emod_nonneg r (show (32768 : Int) ≠ 0 by omega)
  have h5 := Int.emod_lt_of_pos r (show (0 : Int) < 32768 by omega)
  generalize r % 32768 = t at *
  obtain rfl | rfl : b = 0 ∨ b = 1 := by omega
  · go_bits2
  · go_bits2
theorem even_digs (r b : Int) (hb : 0 ≤ b ∧ b ≤ 1) (j : Nat) (hj : j ≠ 0) : digs (r + r + b) j = digs (r + r) j := by
  unfold digs
  obtain ⟨k, rfl⟩ : ∃ k, j = k + 1 := ⟨j - 1, by omega⟩
  rw [Int.pow_succ, Int.mul_comm, ← ediv_ediv' (by omega), ← ediv_ediv' (by omega)]
  have : (r + r + b) / 65536 = (r + r) / 65536 := by omega
  rw [this]

/-- the floor of a quotient, and whether it is small enough -/
def floorOk (z n : Int) : Bool := decide (-9223372036854775808 ≤ z / n ∧ z / n ≤ 9223372036854775807)
def floorQ (z n : Int) : Int := if floorOk z n = true then z / n else 0
theorem floor_large {z n : Int} (hn : 0 < n) (h : 9223372036854775808 ≤ magF z / n) : floorOk z n = false := by
  have := floor_mag (z := z) hn
  simp only [floorOk, decide_eq_false_iff_not]
  rw [this]
  split <;> omega
theorem floor_small {z n : Int} (hn : 0 < n) (h0 : 0 ≤ magF z / n) (h : magF z / n < 9223372036854775808) : floorOk z n = true := by
  have := floor_mag (z := z) hn
  simp only [floorOk, decide_eq_true_iff]
  rw [this]
  split <;> omega

theorem wrap_low {Q : Int} (h0 : 0 ≤ Q) (h1 : Q < 9223372036854775808) : wrap64 (loW Q) = Q := by unfold loW wrap64; omega
theorem floorQ_small {z n : Int} (hn : 0 < n) (h0 : 0 ≤ magF z / n) (h : magF z / n < 9223372036854775808) : floorQ z n = if z < 0 then -(magF z / n) - 1 else magF z / n := by
  unfold floorQ
  rw [if_pos (floor_small hn h0 h), floor_mag hn]
theorem floorQ_large {z n : Int} (hn : 0 < n) (h : 9223372036854775808 ≤ magF z / n) : floorQ z n = 0 := by
  unfold floorQ
  rw [floor_large hn h]
  simp

end Go.Proofs.Ytjoodpjndpdjnaa
