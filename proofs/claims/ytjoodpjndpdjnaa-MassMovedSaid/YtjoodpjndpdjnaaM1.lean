/- Plain mathematics of numbers in digits of 16 bits. No program is in sight. -/
import Derived.Test.YtjoodpjndpdjnaaM0
namespace Go.Proofs.Ytjoodpjndpdjnaa
set_option linter.unusedVariables false
set_option linter.unusedSimpArgs false
open Go.RowKit

/-- digit i of a number to the base 65536 (of its residue modulo 2^128, for i below 8) -/
def digs (z : Int) (i : Nat) : Int := z / 65536 ^ i % 65536
theorem digs_nonneg (z : Int) (i : Nat) : 0 ≤ digs z i := Int.emod_nonneg _ (by omega)
theorem digs_lt (z : Int) (i : Nat) : digs z i ≤ 65535 := by have := Int.emod_lt_of_pos (z / 65536 ^ i) (show (0 : Int) < 65536 by omega); unfold digs; omega

/-- the carry into digit i of a sum -/
def addC (a b : Int) (i : Nat) : Int := (a % 65536 ^ i + b % 65536 ^ i) / 65536 ^ i
theorem addC_zero (a b : Int) : addC a b 0 = 0 := by simp [addC, Int.emod_one]
theorem pow_pos' (i : Nat) : (0 : Int) < 65536 ^ i := Int.pow_pos (by omega)
theorem addC_bd (a b : Int) (i : Nat) : 0 ≤ addC a b i ∧ addC a b i ≤ 1 := by
  have h := pow_pos' i
  have h1 := Int.emod_nonneg a (Int.ne_of_gt h)
  have h2 := Int.emod_nonneg b (Int.ne_of_gt h)
  have h3 := Int.emod_lt_of_pos a h
  have h4 := Int.emod_lt_of_pos b h
  unfold addC
  refine ⟨Int.ediv_nonneg (by omega) (by omega), ?_⟩
  have : (a % 65536 ^ i + b % 65536 ^ i) / 65536 ^ i < 2 := Int.ediv_lt_of_lt_mul h (by omega)
  omega

theorem ediv_ediv' {z M B : Int} (hM : 0 ≤ M) : z / M / B = z / (M * B) := by
  rw [Int.ediv_ediv, if_neg (by omega), Int.sub_zero]
theorem mod_mul (z M B : Int) (hM : 0 < M) : z % (M * B) = z % M + M * (z / M % B) := by
  have h1 := Int.emod_add_mul_ediv z M
  have h2 := Int.emod_add_mul_ediv (z / M) B
  have h3 := Int.emod_add_mul_ediv z (M * B)
  have h4 : z / (M * B) = z / M / B := (ediv_ediv' (Int.le_of_lt hM)).symm
  rw [h4] at h3
  have h5 : M * (z / M) = M * (z / M % B) + M * B * (z / M / B) := by
    rw [Int.mul_assoc, ← Int.mul_add, h2]
  omega

theorem digs_step (z : Int) (i : Nat) : z % 65536 ^ (i + 1) = z % 65536 ^ i + 65536 ^ i * digs z i := by
  rw [Int.pow_succ, mod_mul z _ _ (pow_pos' i)]
  rfl

/-- a column of Y + x * b: what is carried into it -/
def colC (Y x b : Int) (k : Nat) : Int := (Y % 65536 ^ k + x * (b % 65536 ^ k)) / 65536 ^ k
theorem colC_zero (Y x b : Int) : colC Y x b 0 = 0 := by simp [colC, Int.emod_one]
theorem colC_bd (Y x b : Int) (k : Nat) (h0 : 0 ≤ x) (h1 : x ≤ 65535) : 0 ≤ colC Y x b k ∧ colC Y x b k ≤ 65535 := by
  have h := pow_pos' k
  have h1' := Int.emod_nonneg Y (Int.ne_of_gt h)
  have h2 := Int.emod_nonneg b (Int.ne_of_gt h)
  have h3 := Int.emod_lt_of_pos Y h
  have h4 := Int.emod_lt_of_pos b h
  generalize hM : (65536 : Int) ^ k = M at *
  unfold colC
  rw [hM]
  have h5 := Int.mul_nonneg h0 h2
  have h6 : x * (b % M) ≤ 65535 * (M - 1) := Int.mul_le_mul h1 (by omega) h2 (by omega)
  refine ⟨Int.ediv_nonneg (by omega) (by omega), ?_⟩
  have : (Y % M + x * (b % M)) / M < 65536 := Int.ediv_lt_of_lt_mul h (by omega)
  omega
theorem colC_sum (Y x b : Int) (k : Nat) : (Y + x * b) / 65536 ^ k = Y / 65536 ^ k + x * (b / 65536 ^ k) + colC Y x b k := by
  have h := pow_pos' k
  generalize hM : (65536 : Int) ^ k = M at *
  unfold colC
  rw [hM]
  have e : Y + x * b = (Y % M + x * (b % M)) + (Y / M + x * (b / M)) * M := by
    have h1 := Int.emod_add_mul_ediv Y M
    have h2 := Int.emod_add_mul_ediv b M
    generalize Y % M = y0 at *
    generalize Y / M = y1 at *
    generalize b % M = b0 at *
    generalize b / M = b1 at *
    rw [← h1, ← h2]
    grind
  rw [e, Int.add_mul_ediv_right _ _ (Int.ne_of_gt h)]
  omega
theorem colC_digit (Y x b : Int) (k : Nat) : digs (Y + x * b) k = (colC Y x b k + (x * digs b k + digs Y k)) % 65536 := by
  unfold digs
  rw [colC_sum]
  generalize colC Y x b k = c
  generalize Y / 65536 ^ k = y
  generalize b / 65536 ^ k = z
  have h1 := Int.emod_add_mul_ediv y 65536
  have h2 := Int.emod_add_mul_ediv z 65536
  have e : y + x * z + c = (c + (x * (z % 65536) + y % 65536)) + 65536 * (y / 65536 + x * (z / 65536)) := by grind
  rw [e, Int.add_mul_emod_self_left]
theorem colC_succ (Y x b : Int) (k : Nat) : colC Y x b (k + 1) = (colC Y x b k + (x * digs b k + digs Y k)) / 65536 := by
  have h := pow_pos' k
  unfold colC
  rw [digs_step, digs_step, Int.pow_succ, ← ediv_ediv' (Int.le_of_lt h)]
  congr 1
  have e : Y % 65536 ^ k + 65536 ^ k * digs Y k + x * (b % 65536 ^ k + 65536 ^ k * digs b k) = (Y % 65536 ^ k + x * (b % 65536 ^ k)) + (x * digs b k + digs Y k) * 65536 ^ k := by grind
  rw [e, Int.add_mul_ediv_right _ _ (Int.ne_of_gt h)]

theorem addC_col (a b : Int) (i : Nat) : addC a b i = colC a 1 b i := by simp [addC, colC]
theorem add_digit (a b : Int) (i : Nat) : digs (a + b) i = (addC a b i + (digs a i + digs b i)) % 65536 := by
  have := colC_digit a 1 b i
  rw [addC_col]
  simp only [Int.one_mul] at this
  rw [this]
  congr 1
  omega
theorem addC_succ (a b : Int) (i : Nat) : addC a b (i + 1) = (addC a b i + (digs a i + digs b i)) / 65536 := by
  have := colC_succ a 1 b i
  rw [addC_col, addC_col]
  simp only [Int.one_mul] at this
  rw [this]
  congr 1
  omega

/-- the digits of a number that is shifted up by i digits -/
theorem digs_shift (z : Int) (i k : Nat) : digs (z / 65536 ^ i) k = digs z (i + k) := by
  unfold digs
  rw [ediv_ediv' (Int.le_of_lt (pow_pos' i)), ← Int.pow_add]
theorem shift_div (X y b : Int) (i : Nat) : (X + 65536 ^ i * y * b) / 65536 ^ i = X / 65536 ^ i + y * b := by
  have h := pow_pos' i
  rw [show 65536 ^ i * y * b = (y * b) * 65536 ^ i by grind, Int.add_mul_ediv_right _ _ (Int.ne_of_gt h)]
theorem digs_low (X y : Int) (i j : Nat) (h : j < i) : digs (X + 65536 ^ i * y) j = digs X j := by
  unfold digs
  obtain ⟨d, rfl⟩ : ∃ d, i = j + (d + 1) := ⟨i - j - 1, by omega⟩
  have hj := pow_pos' j
  rw [show (65536 : Int) ^ (j + (d + 1)) * y = (65536 * (65536 ^ d * y)) * 65536 ^ j by rw [Int.pow_add, Int.pow_succ]; grind, Int.add_mul_ediv_right _ _ (Int.ne_of_gt hj), Int.add_mul_emod_self_left]
theorem mod_self (a : Int) (i : Nat) : a % 65536 ^ (i + 1) = a % 65536 ^ i + 65536 ^ i * digs a i := digs_step a i

/-- digits below 8 see the residue modulo 2^128 alone -/
theorem digs_mod (z : Int) (j : Nat) (h : j < 8) : digs (z % 340282366920938463463374607431768211456) j = digs z j := by
  have e : (340282366920938463463374607431768211456 : Int) = 65536 ^ 8 := by decide
  have h1 := Int.emod_add_mul_ediv z (65536 ^ 8)
  rw [e]
  generalize z % 65536 ^ 8 = r at *
  generalize z / 65536 ^ 8 = q at *
  rw [← h1, digs_low _ _ _ _ h]
/-- two numbers with the same digits have the same residue -/
theorem digs_sum (z : Int) : z % 340282366920938463463374607431768211456 = digs z 0 + 65536 * digs z 1 + 4294967296 * digs z 2 + 281474976710656 * digs z 3 + 18446744073709551616 * digs z 4 + 1208925819614629174706176 * digs z 5 + 79228162514264337593543950336 * digs z 6 + 5192296858534827628530496329220096 * digs z 7 := by
  have e : (340282366920938463463374607431768211456 : Int) = 65536 ^ 8 := by decide
  rw [e]
  have h7 := digs_step z 7
  have h6 := digs_step z 6
  have h5 := digs_step z 5
  have h4 := digs_step z 4
  have h3 := digs_step z 3
  have h2 := digs_step z 2
  have h1 := digs_step z 1
  have h0 := digs_step z 0
  simp only [Nat.reduceAdd] at *
  rw [h7, h6, h5, h4, h3, h2, h1, h0]
  generalize digs z 0 = d0
  generalize digs z 1 = d1
  generalize digs z 2 = d2
  generalize digs z 3 = d3
  generalize digs z 4 = d4
  generalize digs z 5 = d5
  generalize digs z 6 = d6
  generalize digs z 7 = d7
  have : z % 65536 ^ 0 = 0 := by simp [Int.emod_one]
  rw [this]
  omega

/- bits -/
theorem and16_u64 (z : Int) (h0 : 0 ≤ z) (h1 : z < 18446744073709551616) : bits .and .u64 z 65535 = z % 65536 := by go_bits2
theorem and16_u32 (z : Int) (h0 : 0 ≤ z) (h1 : z < 4294967296) : bits .and .u32 z 65535 = z % 65536 := by go_bits2

theorem of_low (n : Int) (k : Nat) (hk : k < 4) : bits .and .u64 (IntKind.u64.wrap n / 2 ^ (16 * k)) 65535 % 4294967296 = digs n k := by
  rw [IntKind.wrap_u64]
  match k, hk with
  | 0, _ => rw [and16_u64 _ (by omega) (by omega)]; simp only [digs, Int.reducePow, Nat.reduceMul]; omega
  | 1, _ => rw [and16_u64 _ (by omega) (by omega)]; simp only [digs, Int.reducePow, Nat.reduceMul]; omega
  | 2, _ => rw [and16_u64 _ (by omega) (by omega)]; simp only [digs, Int.reducePow, Nat.reduceMul]; omega
  | 3, _ => rw [and16_u64 _ (by omega) (by omega)]; simp only [digs, Int.reducePow, Nat.reduceMul]; omega
theorem of_high (n : Int) (k : Nat) (h4 : 4 ≤ k) (h8 : k < 8) (h1 : -9223372036854775808 ≤ n) (h2 : n ≤ 9223372036854775807) : digs n k = if n < 0 then 65535 else 0 := by
  match k, h4, h8 with
  | 4, _, _ => simp only [digs, Int.reducePow]; split <;> omega
  | 5, _, _ => simp only [digs, Int.reducePow]; split <;> omega
  | 6, _, _ => simp only [digs, Int.reducePow]; split <;> omega
  | 7, _, _ => simp only [digs, Int.reducePow]; split <;> omega

end Go.Proofs.Ytjoodpjndpdjnaa
