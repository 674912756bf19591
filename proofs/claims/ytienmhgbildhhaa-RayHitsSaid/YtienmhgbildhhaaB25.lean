/- Parts of a proof: contracts and laws. -/
import Derived.Test.YtienmhgbildhhaaB21
import Derived.Test.YtienmhgbildhhaaB10
import Derived.Test.YtienmhgbildhhaaB24
import Derived.Test.YtienmhgbildhhaaB22
namespace Go.Proofs.Ytienmhgbildhhaa
section
set_option linter.unusedVariables false
set_option linter.unusedSimpArgs false
open Go.RowKit
section
variable {l m : List V} {u v : Int}
theorem bothE_zero {a b : List V} : bothE a b = 0 ↔ checkE a = 0 ∧ checkE b = 0 := by
  unfold bothE
  split <;> omega
end







end
end Go.Proofs.Ytienmhgbildhhaa
namespace Go.Proofs.Ytienmhgbildhhaa
section
set_option linter.unusedVariables false
set_option linter.unusedSimpArgs false
open Go.RowKit


theorem ratio_trans {n1 d1 n2 d2 n3 d3 : Int} (h1 : 0 < d1) (h2 : 0 < d2) (h3 : 0 < d3) (a : n1 * d2 ≤ n2 * d1) (b : n2 * d3 ≤ n3 * d2) : n1 * d3 ≤ n3 * d1 := by
  have m1 := Int.mul_le_mul_of_nonneg_right a (show 0 ≤ d3 by omega)
  have m2 := Int.mul_le_mul_of_nonneg_right b (show 0 ≤ d1 by omega)
  have e1 : n1 * d2 * d3 = d2 * (n1 * d3) := by grind
  have e2 : n2 * d1 * d3 = n2 * d3 * d1 := by grind
  have e3 : n3 * d2 * d1 = d2 * (n3 * d1) := by grind
  exact Int.le_of_mul_le_mul_left (by omega) h2



theorem ninB_iff {D : List V} (h0 : 0 < D.length) : ninB D = true ↔ ∀ t, 0 ≤ cr (cyP D t) (cyP D (t + 1)) := by
  unfold ninB
  rw [decide_eq_true_iff]
  constructor
  · intro h t
    have := h (t % D.length) (Nat.mod_lt _ h0)
    unfold ninC crsZ at this
    rw [Nat.mod_add_mod] at this
    exact this
  · intro h i hi
    have := h i
    unfold cyP cr at this
    rw [Nat.mod_eq_of_lt hi] at this
    exact this

theorem half_contra {N : Nat} {P : Nat → V} (h : Pol N P) (e : V) (he : ∀ t, cr e (P t) < 0) (hc : ∀ t, 0 ≤ cr (P t) (P (t + 1))) : False := by
  have id : ∀ a b c : V, cr a c * cr e b = cr a b * cr e c + cr b c * cr e a := fun a b c => by unfold cr; grind
  have tr : ∀ a b c : V, cr e a < 0 → cr e b < 0 → cr e c < 0 → 0 ≤ cr a b → 0 ≤ cr b c → 0 ≤ cr a c := fun a b c ha hb hcc h1 h2 => by
    have := id a b c
    have m1 := Int.mul_nonneg h1 (show 0 ≤ -cr e c by omega)
    have m2 := Int.mul_nonneg h2 (show 0 ≤ -cr e a by omega)
    rw [Int.mul_neg] at m1 m2
    have m3 : 0 ≤ cr a c * -cr e b := by rw [Int.mul_neg]; omega
    exact nn_of_mul (show 0 < -cr e b by omega) m3
  have up : ∀ t k, 0 ≤ cr (P t) (P (t + k)) := fun t k => by
    induction k with
    | zero => rw [Nat.add_zero, cr_self]; omega
    | succ k ih => exact tr _ _ _ (he _) (he _) (he _) ih (hc (t + k))
  have hN := h.pos
  have z : ∀ t, t ≤ N → cr (P 0) (P t) = 0 := fun t ht => by
    have a := up 0 t
    have b := up t (N - t)
    rw [show t + (N - t) = 0 + N by omega, h.per, cr_swap] at b
    rw [Nat.zero_add] at a
    omega
  have z1 := z 1 (by omega)
  have z2 := z 2 (by omega)
  have t := h.turn 0
  have q := id (P 1) (P 0) (P 2)
  rw [z2, cr_swap (P 0) (P 1), z1] at q
  simp only [Int.neg_zero, Int.zero_mul, Int.add_zero] at q
  have q1 : cr (P 1) (P 2) = 0 := by
    rcases Int.mul_eq_zero.1 q with k | k
    · exact k
    · have := he 0; omega
  have e3 : cr (vsub (P 1) (P 0)) (vsub (P 2) (P 1)) = cr (P 1) (P 2) - cr (P 0) (P 2) + cr (P 0) (P 1) := by unfold cr vsub; grind
  change 0 < cr (vsub (P 1) (P 0)) (vsub (P 2) (P 1)) at t
  omega





theorem dpt2_mov {a b : List V} {u v : Int} {j k : Nat} (hk : k < b.length) : dpt2 a (movL b u v) j k = ((dpt2 a b j k).1 - u, (dpt2 a b j k).2 - v) := by
  unfold dpt2
  rw [px_movL hk, py_movL hk]
  ext <;> simp <;> omega

end
end Go.Proofs.Ytienmhgbildhhaa
