/- Contracts of sat.Normal, root, Length, deep. -/
import Derived.Test.YtldlogcpnfmomaaY0
import Derived.BigQuiet
namespace Go.Proofs.Ytldlogcpnfmomaa
set_option linter.unusedVariables false
set_option linter.unusedSimpArgs false
open Go.RowKit

/-- the outward normal of an edge -/
def nrmX (l : List V) (i : Nat) : Int := py l ((i + 1) % l.length) - py l i
def nrmY (l : List V) (i : Nat) : Int := px l i - px l ((i + 1) % l.length)
theorem nrm_bd {l : List V} (hw : allWithin 65536000 l = true) {i : Nat} (hi : i < l.length) : (-131072000 ≤ nrmX l i ∧ nrmX l i ≤ 131072000) ∧ (-131072000 ≤ nrmY l i ∧ nrmY l i ≤ 131072000) := by
  have h1 := withinB_iff.1 (allWithin_at hw hi)
  have h2 := withinB_iff.1 (allWithin_at hw (Nat.mod_lt (i + 1) (show 0 < l.length by omega)))
  unfold nrmX nrmY
  omega


/-- the floor of the root of a number below 2^128, by its bits -/
def rootB (n : Int) : Nat → Int → Int
  | 0, a => a
  | k + 1, a => if (a + 2 ^ k) * (a + 2 ^ k) ≤ n then rootB n k (a + 2 ^ k) else rootB n k a
def rootZ (n : Int) : Int := rootB n 64 0
theorem rootB_spec (n : Int) : ∀ (k : Nat) (a : Int), 0 ≤ a → a * a ≤ n → n < (a + 2 ^ k) * (a + 2 ^ k) → 0 ≤ rootB n k a ∧ rootB n k a * rootB n k a ≤ n ∧ n < (rootB n k a + 1) * (rootB n k a + 1) := by
  intro k
  induction k with
  | zero => intro a h0 h1 h2; exact ⟨h0, h1, by simpa [rootB] using h2⟩
  | succ k ih =>
    intro a h0 h1 h2
    have hp : (0 : Int) < 2 ^ k := Int.pow_pos (by omega)
    have e : (2 : Int) ^ (k + 1) = 2 ^ k + 2 ^ k := by rw [Int.pow_succ]; omega
    unfold rootB
    split
    · rename_i h; exact ih _ (by omega) h (by rw [e] at h2; rwa [show a + 2 ^ k + 2 ^ k = a + (2 ^ k + 2 ^ k) by omega])
    · rename_i h; exact ih _ h0 h1 (by omega)
theorem rootZ_spec {n : Int} (h0 : 0 ≤ n) (h1 : n < 340282366920938463463374607431768211456) : 0 ≤ rootZ n ∧ rootZ n * rootZ n ≤ n ∧ n < (rootZ n + 1) * (rootZ n + 1) :=
  rootB_spec n 64 0 (by omega) (by omega) (by
    have e : ((0 : Int) + 2 ^ 64) * (0 + 2 ^ 64) = 340282366920938463463374607431768211456 := by decide
    rw [e]; exact h1)
theorem sq_lt {r s : Int} (h0 : 0 ≤ r) (h : r < s) : (r + 1) * (r + 1) ≤ s * s := Int.mul_le_mul (by omega) (by omega) (by omega) (by omega)
theorem rootZ_eq {n r : Int} (h0 : 0 ≤ n) (hn : n < 340282366920938463463374607431768211456) (hr : 0 ≤ r) (h1 : r * r ≤ n) (h2 : n < (r + 1) * (r + 1)) : rootZ n = r := by
  obtain ⟨s0, s1, s2⟩ := rootZ_spec h0 hn
  rcases Int.lt_trichotomy (rootZ n) r with h | h | h
  · have := sq_lt s0 h; omega
  · exact h
  · have := sq_lt hr h; omega


/-- the length of a vector, rounded down -/
def lenZ (x y : Int) : Int := rootZ (x * x + y * y)

end Go.Proofs.Ytldlogcpnfmomaa
