/- Plain facts ahead of the division of two words by one: the shift that normalises the divisor. -/
import Derived.Test.YtjoodpjndpdjnaaM4
import Derived.Lib.ItoaNum
import Derived.Laws.Bits64b
namespace Go.Proofs.Ytjoodpjndpdjnaa
set_option linter.unusedVariables false
set_option linter.unusedSimpArgs false
open Go.RowKit

theorem cast_pow2 (n : Nat) : ((2 ^ n : Nat) : Int) = (2 : Int) ^ n := by simp
theorem pow2_pos (n : Nat) : (0 : Int) < 2 ^ n := by rw [← cast_pow2]; exact Int.ofNat_lt.2 (Nat.two_pow_pos n)

theorem or_parts {x z : Int} {n : Nat} (hx : 0 ≤ x) (hz : 0 ≤ z) (hn : n ≤ 64) (hz' : z < 2 ^ n) (hs : x * 2 ^ n + z < 18446744073709551616) : bits .or .u64 (x * 2 ^ n) z = x * 2 ^ n + z := by
  obtain ⟨a, rfl⟩ := Int.eq_ofNat_of_zero_le hx
  obtain ⟨c, rfl⟩ := Int.eq_ofNat_of_zero_le hz
  have hp := pow2_pos n
  have e : (a : Int) * 2 ^ n = ((a * 2 ^ n : Nat) : Int) := by simp
  rw [e] at hs ⊢
  have hc : c < 2 ^ n := by rw [← cast_pow2] at hz'; exact Int.ofNat_lt.1 hz'
  rw [bits_or_u64_nat _ _ (by omega) (by omega)]
  have := Nat.shiftLeft_add_eq_or_of_lt hc a
  rw [Nat.shiftLeft_eq] at this
  rw [← this]
  simp

theorem wrap_u64_id {x : Int} (h0 : 0 ≤ x) (h1 : x < 18446744073709551616) : IntKind.u64.wrap x = x := by
  rw [IntKind.wrap_u64]
  omega

/-- the normal form of dividend and divisor -/
structure Norm (hi lo y : Int) (n : Nat) (P Y u L : Int) : Prop where
  P0 : 0 < P
  Pe : (2 : Int) ^ n = P
  Ye : Y = y * P
  Yw : IntKind.u64.wrap (y * 2 ^ n) = Y
  Y1 : 9223372036854775808 ≤ Y
  Y2 : Y < 18446744073709551616
  uw : bits .or .u64 (IntKind.u64.wrap (hi * 2 ^ n)) (lo / 2 ^ (64 - n)) = u
  u0 : 0 ≤ u
  u1 : u < Y
  Lw : IntKind.u64.wrap (lo * 2 ^ n) = L
  L0 : 0 ≤ L
  L1 : L < 18446744073709551616
  eq : (hi * 18446744073709551616 + lo) * P = u * 18446744073709551616 + L

theorem norm_of (hi lo y : Int) (h1 : 0 < hi) (h2 : hi < y) (h3 : y < 18446744073709551616) (h4 : 0 ≤ lo) (h5 : lo < 18446744073709551616) :
    ∃ P Y u L, Norm hi lo y (64 - Lib.bitLen y.toNat) P Y u L := by
  have hb1 : Lib.bitLen y.toNat ≤ 64 := Lib.bitLen_le _ 64 (Nat.le_refl _) (by omega)
  obtain ⟨hb2, s2, s1⟩ : 1 ≤ Lib.bitLen y.toNat ∧ 2 ^ (Lib.bitLen y.toNat - 1) ≤ y.toNat ∧ y.toNat < 2 ^ Lib.bitLen y.toNat := Lib.bitLenAux_bounds 64 y.toNat (by omega) (by omega)
  generalize Lib.bitLen y.toNat = bl at *
  generalize hn : 64 - bl = n
  have en : bl = 64 - n := by omega
  subst en
  have hn' : n ≤ 63 := by omega
  clear hb1 hb2 hn
  have hP := pow2_pos n
  have hQ := pow2_pos (64 - n)
  have hQ1 := pow2_pos (64 - n - 1)
  have hPQ : (2 : Int) ^ n * 2 ^ (64 - n) = 18446744073709551616 := by
    rw [← Int.pow_add, show n + (64 - n) = 64 by omega]; decide
  have hPQ1 : (2 : Int) ^ n * 2 ^ (64 - n - 1) = 9223372036854775808 := by
    rw [← Int.pow_add, show n + (64 - n - 1) = 63 by omega]; decide
  have t1 : y < 2 ^ (64 - n) := by
    have := Int.ofNat_lt.2 s1
    rw [cast_pow2] at this
    omega
  have t2 : (2 : Int) ^ (64 - n - 1) ≤ y := by
    have := Int.ofNat_le.2 s2
    rw [cast_pow2] at this
    omega
  generalize hPe : (2 : Int) ^ n = P at *
  generalize hQe : (2 : Int) ^ (64 - n) = Q at *
  generalize (2 : Int) ^ (64 - n - 1) = Q1 at *
  have y1 : y * P < 18446744073709551616 := by
    rw [← hPQ, Int.mul_comm P Q]; exact Int.mul_lt_mul_of_pos_right t1 hP
  have y2 : 9223372036854775808 ≤ y * P := by
    rw [← hPQ1, Int.mul_comm P Q1]; exact Int.mul_le_mul_of_nonneg_right t2 (by omega)
  have x1 : (hi + 1) * P ≤ y * P := Int.mul_le_mul_of_nonneg_right (by omega) (by omega)
  have x2 : (hi + 1) * P = hi * P + P := by grind
  have x3 : 0 ≤ hi * P := Int.mul_nonneg (by omega) (by omega)
  have l1 : lo / Q < P := Int.ediv_lt_of_lt_mul hQ (by rw [hPQ]; exact h5)
  have l2 : 0 ≤ lo / Q := Int.ediv_nonneg h4 (by omega)
  have l3 := Int.emod_add_mul_ediv lo Q
  have l4 := Int.emod_nonneg lo (show Q ≠ 0 by omega)
  have l5 := Int.emod_lt_of_pos lo hQ
  have ew : IntKind.u64.wrap (hi * P) = hi * P := wrap_u64_id x3 (by omega)
  have l6 : lo * P = lo / Q * 18446744073709551616 + lo % Q * P := by
    rw [← hPQ]
    have : lo * P = (lo % Q + Q * (lo / Q)) * P := by rw [l3]
    rw [this]
    grind
  have l7 : 0 ≤ lo % Q * P := Int.mul_nonneg l4 (by omega)
  have l8 : lo % Q * P < 18446744073709551616 := by
    rw [← hPQ, Int.mul_comm P Q]; exact Int.mul_lt_mul_of_pos_right l5 hP
  refine ⟨P, y * P, hi * P + lo / Q, lo % Q * P, hP, hPe, rfl, ?_, y2, y1, ?_, by omega, by omega, ?_, l7, l8, ?_⟩
  · rw [hPe]; exact wrap_u64_id (by omega) y1
  · rw [hPe, hQe, ew, ← hPe]
    exact or_parts (by omega) l2 (by omega) (by rw [hPe]; exact l1) (by rw [hPe]; omega)
  · rw [hPe, l6]
    rw [IntKind.wrap_u64]
    omega
  · have : (hi * 18446744073709551616 + lo) * P = hi * P * 18446744073709551616 + lo * P := by grind
    rw [this, l6]
    omega

end Go.Proofs.Ytjoodpjndpdjnaa
