/- Parts of a proof: contracts and laws. -/
import Derived.Test.YtienmhgbildhhaaA14
import Derived.Test.YtienmhgbildhhaaA12
import Derived.Test.YtienmhgbildhhaaA15
namespace Go.Proofs.Ytienmhgbildhhaa
section
set_option linter.unusedVariables false
set_option linter.unusedSimpArgs false
open Go.RowKit


theorem ratio_trans {n1 d1 n2 d2 n3 d3 : Int} (h1 : 0 < d1) (h2 : 0 < d2) (h3 : 0 < d3) (a : n1 * d2 ≤ n2 * d1) (b : n2 * d3 ≤ n3 * d2) : n1 * d3 ≤ n3 * d1 := by
  have m1 := Int.mul_le_mul_of_nonneg_right a (show 0 ≤ d3 by omega)
  have m2 := Int.mul_le_mul_of_nonneg_right b (show 0 ≤ d1 by omega)
  have e1 : n1 * d2 * d3 = d2 * (n1 * d3) := by grind
  have e2 : n2 * d1 * d3 = n2 * d3 * d1 := by grind
  have e3 : n3 * d2 * d1 = d2 * (n3 * d1) := by grind
  exact Int.le_of_mul_le_mul_left (by omega) h2
theorem max_ratio (c F : Nat → Int) (hF : ∀ t, 0 ≤ F t) : ∀ N, (∃ t, t < N ∧ c t < 0) → ∃ i, i < N ∧ c i < 0 ∧ ∀ j, j < N → c j < 0 → -c j * (F i - c i) ≤ -c i * (F j - c j)
  | 0, h => by obtain ⟨t, h, _⟩ := h; omega
  | N + 1, h => by
    rcases Decidable.em (∃ t, t < N ∧ c t < 0) with g | g
    · obtain ⟨i, i1, i2, i3⟩ := max_ratio c F hF N g
      rcases Decidable.em (c N < 0 ∧ ¬ (-c N * (F i - c i) ≤ -c i * (F N - c N))) with ⟨k1, k2⟩ | k
      · refine ⟨N, by omega, k1, fun j hj hc => ?_⟩
        rcases Nat.lt_or_ge j N with q | q
        · exact ratio_trans (by have := hF j; omega) (by have := hF i; omega) (by have := hF N; omega) (i3 j q hc) (by omega)
        · have : j = N := by omega
          subst this
          exact Int.le_refl _
      · refine ⟨i, by omega, i2, fun j hj hc => ?_⟩
        rcases Nat.lt_or_ge j N with q | q
        · exact i3 j q hc
        · have : j = N := by omega
          subst this
          rcases Decidable.em (-c j * (F i - c i) ≤ -c i * (F j - c j)) with r | r
          · exact r
          · exact absurd ⟨hc, r⟩ k
    · obtain ⟨t, h1, h2⟩ := h
      have : t = N := by
        rcases Nat.lt_or_ge t N with q | q
        · exact absurd ⟨t, q, h2⟩ g
        · omega
      subst this
      refine ⟨t, by omega, h2, fun j hj hc => ?_⟩
      rcases Nat.lt_or_ge j t with q | q
      · exact absurd ⟨j, q, hc⟩ g
      · have : j = t := by omega
        subst this
        exact Int.le_refl _

theorem pol_cross {N : Nat} {P : Nat → V} (h : Pol N P) {v : V} (hv : ∀ t, 0 ≤ cr (vsub (P (t + 1)) (P t)) (vsub v (P t))) {t0 : Nat} (h0 : cr (P t0) (P (t0 + 1)) < 0) :
    ∃ t, t < N ∧ ∃ a b k : Int, 0 ≤ a ∧ a ≤ b ∧ 0 < b ∧ 0 ≤ k ∧ k ≤ b ∧ b * (P t).1 + a * ((P (t + 1)).1 - (P t).1) = k * v.1 ∧ b * (P t).2 + a * ((P (t + 1)).2 - (P t).2) = k * v.2 := by
  have hN := h.pos
  have perm : ∀ t, P (t % N) = P t := fun t => by
    have : ∀ q r, P (r + N * q) = P r := fun q r => by
      induction q with
      | zero => simp
      | succ q ih => rw [Nat.mul_succ, ← Nat.add_assoc, h.per]; exact ih
    have e := this (t / N) (t % N)
    rw [Nat.mod_add_div] at e
    exact e.symm
  have perm1 : ∀ t, P (t % N + 1) = P (t + 1) := fun t => by rw [← perm (t % N + 1), Nat.mod_add_mod, perm]
  obtain ⟨i, i1, i2, i3⟩ := max_ratio (fun t => cr (P t) (P (t + 1))) (fun t => cr (vsub (P (t + 1)) (P t)) (vsub v (P t))) hv N ⟨t0 % N, Nat.mod_lt _ (by omega), by (try dsimp only); rw [perm, perm1]; exact h0⟩
  try dsimp only at i2 i3
  have i3' : ∀ j, cr (P j) (P (j + 1)) < 0 → -cr (P j) (P (j + 1)) * (cr (vsub (P (i + 1)) (P i)) (vsub v (P i)) - cr (P i) (P (i + 1))) ≤ -cr (P i) (P (i + 1)) * (cr (vsub (P (j + 1)) (P j)) (vsub v (P j)) - cr (P j) (P (j + 1))) := fun j hj => by
    have := i3 (j % N) (Nat.mod_lt _ (by omega))
    rw [perm, perm1] at this
    exact this hj
  have hi := hv i
  obtain ⟨den, hden⟩ : ∃ d, d = cr (vsub (P (i + 1)) (P i)) (vsub v (P i)) - cr (P i) (P (i + 1)) := ⟨_, rfl⟩
  obtain ⟨num, hnum⟩ : ∃ d, d = -cr (P i) (P (i + 1)) := ⟨_, rfl⟩
  rw [← hden, ← hnum] at i3'
  have nd : num ≤ den := by omega
  have np : 0 < num := by omega
  have dp : 0 < den := by omega
  have G : ∀ j, 0 ≤ cr (vsub (P (j + 1)) (P j)) (vsub (num * v.1, num * v.2) (den * (P j).1, den * (P j).2)) := fun j => by
    have id : cr (vsub (P (j + 1)) (P j)) (vsub (num * v.1, num * v.2) (den * (P j).1, den * (P j).2)) = den * cr (P j) (P (j + 1)) + num * (cr (vsub (P (j + 1)) (P j)) (vsub v (P j)) - cr (P j) (P (j + 1))) := by unfold cr vsub; grind
    have hj := hv j
    rcases Int.lt_or_le (cr (P j) (P (j + 1))) 0 with g | g
    · have := i3' j g
      rw [id]
      have e : -cr (P j) (P (j + 1)) * den = -(den * cr (P j) (P (j + 1))) := by grind
      omega
    · have e : den * cr (P j) (P (j + 1)) + num * (cr (vsub (P (j + 1)) (P j)) (vsub v (P j)) - cr (P j) (P (j + 1))) = (den - num) * cr (P j) (P (j + 1)) + num * cr (vsub (P (j + 1)) (P j)) (vsub v (P j)) := by grind
      have m1 := Int.mul_nonneg (show 0 ≤ den - num by omega) g
      have m2 := Int.mul_nonneg (show 0 ≤ num by omega) hj
      rw [id, e]
      omega
  have Gi : cr (vsub (P (i + 1)) (P i)) (vsub (num * v.1, num * v.2) (den * (P i).1, den * (P i).2)) = 0 := by
    have id : cr (vsub (P (i + 1)) (P i)) (vsub (num * v.1, num * v.2) (den * (P i).1, den * (P i).2)) = den * cr (P i) (P (i + 1)) + num * (cr (vsub (P (i + 1)) (P i)) (vsub v (P i)) - cr (P i) (P (i + 1))) := by unfold cr vsub; grind
    rw [id, ← hden, show cr (P i) (P (i + 1)) = -num by omega]
    grind
  have t1 := h.turn (i + N - 1)
  rw [show i + N - 1 + 1 = i + N by omega, show i + N - 1 + 2 = i + 1 + N by omega, h.per, h.per] at t1
  have t2 := h.turn i
  have G1 := G (i + N - 1)
  rw [show i + N - 1 + 1 = i + N by omega, h.per] at G1
  have G2 := G (i + 1)
  rw [show i + 1 + 1 = i + 2 from rfl] at G2
  generalize P (i + N - 1) = O at *
  generalize P (i + 2) = R at *
  have e1 : cr (vsub (P i) O) (vsub (num * v.1, num * v.2) (den * (P i).1, den * (P i).2)) = cr (vsub (P i) O) (vsub (num * v.1, num * v.2) (den * O.1, den * O.2)) := by unfold cr vsub; grind
  rw [← e1] at G1
  clear e1 G i3 i3' hv perm perm1
  refine ⟨i, i1, ?_⟩
  generalize P i = p at *
  generalize P (i + 1) = q at *
  obtain ⟨Z, hZ⟩ : ∃ Z : V, Z = vsub (num * v.1, num * v.2) (den * p.1, den * p.2) := ⟨_, rfl⟩
  have Z1 : Z.1 = num * v.1 - den * p.1 := by rw [hZ]; rfl
  have Z2 : Z.2 = num * v.2 - den * p.2 := by rw [hZ]; rfl
  rw [← hZ] at G1 Gi
  have E2 : vsub (num * v.1, num * v.2) (den * q.1, den * q.2) = vsub Z (den * (vsub q p).1, den * (vsub q p).2) := by
    unfold vsub
    ext
    · show num * v.1 - den * q.1 = Z.1 - den * (q.1 - p.1)
      rw [Z1]; grind
    · show num * v.2 - den * q.2 = Z.2 - den * (q.2 - p.2)
      rw [Z2]; grind
  rw [E2] at G2
  clear E2 hZ
  have ee1 : (vsub q p).1 = q.1 - p.1 := rfl
  have ee2 : (vsub q p).2 = q.2 - p.2 := rfl
  rw [← ee1, ← ee2]
  generalize vsub q p = e at *
  generalize vsub p O = g at *
  generalize vsub R q = w at *
  -- cr g e * Z = cr g Z * e
  have id1 : cr g e * Z.1 = cr g Z * e.1 - cr e Z * g.1 := by unfold cr; grind
  have id2 : cr g e * Z.2 = cr g Z * e.2 - cr e Z * g.2 := by unfold cr; grind
  rw [Gi] at id1 id2
  simp only [Int.zero_mul, Int.sub_zero] at id1 id2
  refine ⟨cr g Z, den * cr g e, num * cr g e, G1, ?_, Int.mul_pos dp t1, Int.mul_nonneg (by omega) (by omega), Int.mul_le_mul_of_nonneg_right nd (by omega), ?_, ?_⟩
  · have id3 : cr g e * cr w (vsub Z (den * e.1, den * e.2)) = (den * cr g e - cr g Z) * cr e w + cr e Z * cr g w := by unfold cr vsub; grind
    rw [Gi, Int.zero_mul, Int.add_zero] at id3
    have := Int.mul_nonneg (show 0 ≤ cr g e by omega) G2
    rw [id3] at this
    have := nn_of_mul t2 this
    omega
  · have : cr g Z * e.1 = cr g e * (num * v.1 - den * p.1) := by rw [← id1, Z1]
    rw [this]
    grind
  · have : cr g Z * e.2 = cr g e * (num * v.2 - den * p.2) := by rw [← id2, Z2]
    rw [this]
    grind
theorem pol_scale {N : Nat} {P : Nat → V} (h : Pol N P) {k : Int} (hk : 0 < k) : Pol N (fun t => (k * (P t).1, k * (P t).2)) := by
  refine ⟨h.pos, fun t => by (try dsimp only); rw [h.per], fun t => ?_, fun t j => ?_⟩
  · have e : cr (vsub (k * (P (t + 1)).1, k * (P (t + 1)).2) (k * (P t).1, k * (P t).2)) (vsub (k * (P (t + 2)).1, k * (P (t + 2)).2) (k * (P (t + 1)).1, k * (P (t + 1)).2)) = k * k * cr (vsub (P (t + 1)) (P t)) (vsub (P (t + 2)) (P (t + 1))) := by unfold cr vsub; grind
    try dsimp only
    rw [e]
    exact Int.mul_pos (Int.mul_pos hk hk) (h.turn t)
  · have e : cr (vsub (k * (P (t + 1)).1, k * (P (t + 1)).2) (k * (P t).1, k * (P t).2)) (vsub (k * (P j).1, k * (P j).2) (k * (P t).1, k * (P t).2)) = k * k * cr (vsub (P (t + 1)) (P t)) (vsub (P j) (P t)) := by unfold cr vsub; grind
    try dsimp only
    rw [e]
    exact Int.mul_nonneg (Int.mul_nonneg (by omega) (by omega)) (h.left t j)


theorem ninB_iff {D : List V} (h0 : 0 < D.length) : ninB D = true ↔ ∀ t, 0 ≤ cr (cyP D t) (cyP D (t + 1)) := by
  unfold ninB
  rw [decide_eq_true_iff]
  constructor
  · intro h t
    have := h (t % D.length) (Nat.mod_lt _ h0)
    unfold ninC crsZ at this
    rw [Nat.mod_add_mod] at this
    exact this
  · intro h i hi
    have := h i
    unfold cyP cr at this
    rw [Nat.mod_eq_of_lt hi] at this
    exact this

theorem half_contra {N : Nat} {P : Nat → V} (h : Pol N P) (e : V) (he : ∀ t, cr e (P t) < 0) (hc : ∀ t, 0 ≤ cr (P t) (P (t + 1))) : False := by
  have id : ∀ a b c : V, cr a c * cr e b = cr a b * cr e c + cr b c * cr e a := fun a b c => by unfold cr; grind
  have tr : ∀ a b c : V, cr e a < 0 → cr e b < 0 → cr e c < 0 → 0 ≤ cr a b → 0 ≤ cr b c → 0 ≤ cr a c := fun a b c ha hb hcc h1 h2 => by
    have := id a b c
    have m1 := Int.mul_nonneg h1 (show 0 ≤ -cr e c by omega)
    have m2 := Int.mul_nonneg h2 (show 0 ≤ -cr e a by omega)
    rw [Int.mul_neg] at m1 m2
    have m3 : 0 ≤ cr a c * -cr e b := by rw [Int.mul_neg]; omega
    exact nn_of_mul (show 0 < -cr e b by omega) m3
  have up : ∀ t k, 0 ≤ cr (P t) (P (t + k)) := fun t k => by
    induction k with
    | zero => rw [Nat.add_zero, cr_self]; omega
    | succ k ih => exact tr _ _ _ (he _) (he _) (he _) ih (hc (t + k))
  have hN := h.pos
  have z : ∀ t, t ≤ N → cr (P 0) (P t) = 0 := fun t ht => by
    have a := up 0 t
    have b := up t (N - t)
    rw [show t + (N - t) = 0 + N by omega, h.per, cr_swap] at b
    rw [Nat.zero_add] at a
    omega
  have z1 := z 1 (by omega)
  have z2 := z 2 (by omega)
  have t := h.turn 0
  have q := id (P 1) (P 0) (P 2)
  rw [z2, cr_swap (P 0) (P 1), z1] at q
  simp only [Int.neg_zero, Int.zero_mul, Int.add_zero] at q
  have q1 : cr (P 1) (P 2) = 0 := by
    rcases Int.mul_eq_zero.1 q with k | k
    · exact k
    · have := he 0; omega
  have e3 : cr (vsub (P 1) (P 0)) (vsub (P 2) (P 1)) = cr (P 1) (P 2) - cr (P 0) (P 2) + cr (P 0) (P 1) := by unfold cr vsub; grind
  change 0 < cr (vsub (P 1) (P 0)) (vsub (P 2) (P 1)) at t
  omega






end
end Go.Proofs.Ytienmhgbildhhaa
