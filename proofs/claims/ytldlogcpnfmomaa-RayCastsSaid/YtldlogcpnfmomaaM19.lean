/- Plain mathematics: two polygons that are moved apart along the axis by the depth and 64 units do not meet any more. No program is in sight. -/
import Derived.Test.YtldlogcpnfmomaaM18
namespace Go.Proofs.Ytldlogcpnfmomaa
set_option linter.unusedVariables false
set_option linter.unusedSimpArgs false
open Go.RowKit

theorem axTo_dep (l m : List V) (sec : Bool) (s : Option Ax) : ∀ k, 0 < k → ∃ a, axTo l m sec s k = some a ∧ ((a.1 = sec ∧ a.2.1 < k ∧ a.2.2 = depZ l m a.2.1) ∨ s = some a)
  | 0, h => absurd h (by omega)
  | k + 1, _ => by
    rw [axTo]
    obtain ⟨a, h1, h2⟩ := axUp_some (axTo l m sec s k) sec k (depZ l m k)
    refine ⟨a, h1, ?_⟩
    rcases h2 with rfl | h2
    · exact .inl ⟨rfl, by simp, rfl⟩
    · rcases Nat.eq_zero_or_pos k with rfl | hk
      · exact .inr h2
      · obtain ⟨a', h3, h4⟩ := axTo_dep l m sec s k hk
        rw [h2] at h3
        cases h3
        rcases h4 with ⟨g1, g2, g3⟩ | h4
        · exact .inl ⟨g1, by omega, g3⟩
        · exact .inr h4
theorem least_dep {l m : List V} (h : meetsB l m = true) : ∃ s e d, leastO l m = some (s, e, d) ∧ (s = true → e < m.length ∧ d = depZ m l e) ∧ (s = false → e < l.length ∧ d = depZ l m e) := by
  have h0 := h
  unfold meetsB at h0
  rw [decide_eq_true_iff] at h0
  obtain ⟨hc1, hc2⟩ := bothE_zero.1 h0.1
  obtain ⟨-, l3, -⟩ := checkE_zero hc1
  obtain ⟨-, m3, -⟩ := checkE_zero hc2
  unfold leastO
  rw [if_pos h, show stL l m 2 = axTo m l true (axTo l m false none l.length) m.length from by simp [stL]]
  obtain ⟨a, h1, h2⟩ := axTo_dep m l true (axTo l m false none l.length) m.length (by omega)
  obtain ⟨b, h3, h4⟩ := axTo_dep l m false none l.length (by omega)
  refine ⟨a.1, a.2.1, a.2.2, h1, ?_⟩
  rcases h2 with ⟨g1, g2, g3⟩ | h2
  · exact ⟨fun _ => ⟨g2, g3⟩, fun g => by rw [g] at g1; cases g1⟩
  · rw [h3] at h2
    cases h2
    rcases h4 with ⟨g1, g2, g3⟩ | h4
    · exact ⟨fun g => (by rw [g] at g1; cases g1), fun _ => ⟨g2, g3⟩⟩
    · cases h4
theorem deepTo_mem (l m : List V) (i : Nat) : ∀ k, ∃ j, j ≤ k ∧ deepTo l m i k = dpt l m i j
  | 0 => ⟨0, Nat.le_refl _, rfl⟩
  | k + 1 => by
    rw [deepTo]
    split
    · exact ⟨k + 1, Nat.le_refl _, rfl⟩
    · obtain ⟨j, h1, h2⟩ := deepTo_mem l m i k
      exact ⟨j, by omega, h2⟩
theorem deepTo_shift {l m : List V} {u v : Int} {i : Nat} : ∀ k, k < m.length → deepTo l (movL m u v) i k = deepTo l m i k - (nrmX l i * u + nrmY l i * v)
  | 0, hk => by
    unfold deepTo dpt
    rw [px_movL hk, py_movL hk]
    grind
  | k + 1, hk => by
    have e : dpt l (movL m u v) i (k + 1) = dpt l m i (k + 1) - (nrmX l i * u + nrmY l i * v) := by
      unfold dpt
      rw [px_movL hk, py_movL hk]
      grind
    rw [deepTo, deepTo, e, deepTo_shift k (by omega)]
    split <;> split <;> omega
theorem deepTo_shift' {l m : List V} {u v : Int} {i : Nat} (hi : i < l.length) : ∀ k, k < m.length → deepTo (movL l u v) m i k = deepTo l m i k + (nrmX l i * u + nrmY l i * v)
  | 0, hk => by
    unfold deepTo dpt
    rw [px_movL hi, py_movL hi, nrmX_movL hi, nrmY_movL hi]
    grind
  | k + 1, hk => by
    have e : dpt (movL l u v) m i (k + 1) = dpt l m i (k + 1) + (nrmX l i * u + nrmY l i * v) := by
      unfold dpt
      rw [px_movL hi, py_movL hi, nrmX_movL hi, nrmY_movL hi]
      grind
    rw [deepTo, deepTo, e, deepTo_shift' hi k (by omega)]
    split <;> split <;> omega
theorem mulF_near {a b : Int} (ha : -1048576 ≤ a ∧ a ≤ 1048576) (hb : -268435456 ≤ b ∧ b ≤ 268435456) : -65536 ≤ 131072 * mulF a b - 2 * (a * b) ∧ 131072 * mulF a b - 2 * (a * b) ≤ 65536 := by
  have m := mul_bd (x := a) (y := b) (M := 1048576) (N := 268435456) (by omega) (by omega) (by omega) (by omega)
  unfold mulF mdF
  rw [clampF_id (a := a) (by omega) (by omega), clampF_id (a := b) (by omega) (by omega), clampF_id (a := 65536) (by omega) (by omega), if_neg (by omega)]
  unfold rnd
  rw [if_neg (by omega)]
  generalize a * b = P at *
  rw [clampF_id (by omega) (by omega)]
  omega
/-- the move by a rounded multiple of the unit vector goes further than the depth -/
theorem apart_far {n1 n2 d D : Int} (h1 : -131072000 ≤ n1 ∧ n1 ≤ 131072000) (h2 : -131072000 ≤ n2 ∧ n2 ≤ 131072000) (hn : n1 ≠ 0 ∨ n2 ≠ 0) (hd0 : 0 ≤ d) (hd : ∃ x y, d = n1 * x + n2 * y ∧ (-1310720 ≤ x ∧ x ≤ 1310720) ∧ (-1310720 ≤ y ∧ y ≤ 1310720)) (hD : D = overQ d (lenZ n1 n2)) :
    d < n1 * mulF (unitX n1 n2) (D + 64) + n2 * mulF (unitY n1 n2) (D + 64) ∧ (-2623000 ≤ mulF (unitX n1 n2) (D + 64) ∧ mulF (unitX n1 n2) (D + 64) ≤ 2623000) ∧ (-2623000 ≤ mulF (unitY n1 n2) (D + 64) ∧ mulF (unitY n1 n2) (D + 64) ≤ 2623000) ∧ (0 ≤ D ∧ D ≤ 2621440) := by
  obtain ⟨t, n, t0, big, r1, r2, ⟨x1, x2⟩, ⟨y1, y2⟩⟩ := unit_spec (a := n1) (b := n2) (by omega) (by omega) hn
  obtain ⟨L0, -, L1⟩ := len_bd (x := n1) (y := n2) (by omega) (by omega)
  replace L1 := L1 hn
  have b1 := mul_bd (x := n1) (y := n1) (M := 131072000) (N := 131072000) (by omega) (by omega) (by omega) (by omega)
  have b2 := mul_bd (x := n2) (y := n2) (M := 131072000) (N := 131072000) (by omega) (by omega) (by omega) (by omega)
  have p1 := sq_nonneg n1
  have p2 := sq_nonneg n2
  obtain ⟨-, Ls1, Ls2⟩ := rootZ_spec (n := n1 * n1 + n2 * n2) (by omega) (by omega)
  change lenZ n1 n2 * lenZ n1 n2 ≤ _ at Ls1
  change _ < (lenZ n1 n2 + 1) * (lenZ n1 n2 + 1) at Ls2
  obtain ⟨L, hL⟩ : ∃ L, L = lenZ n1 n2 := ⟨_, rfl⟩
  rw [← hL] at hD L0 L1 Ls1 Ls2
  obtain ⟨U, hU⟩ : ∃ U, U = unitX n1 n2 := ⟨_, rfl⟩
  obtain ⟨W, hW⟩ : ∃ W, W = unitY n1 n2 := ⟨_, rfl⟩
  rw [← hU] at x1 x2
  rw [← hW] at y1 y2
  rw [← hU, ← hW]
  clear hL hU hW
  -- the sum of the absolute values is at most 2 L
  obtain ⟨a, ha⟩ : ∃ a, a = absZ n1 := ⟨_, rfl⟩
  obtain ⟨b, hb⟩ : ∃ b, b = absZ n2 := ⟨_, rfl⟩
  have a0 : 0 ≤ a := by rw [ha]; exact absZ_nn _
  have b0 : 0 ≤ b := by rw [hb]; exact absZ_nn _
  have an : -a ≤ n1 ∧ n1 ≤ a := by rw [ha]; unfold absZ; split <;> omega
  have bn : -b ≤ n2 ∧ n2 ≤ b := by rw [hb]; unfold absZ; split <;> omega
  have aa : a * a = n1 * n1 := by rw [ha]; exact absZ_sq _
  have bb : b * b = n2 * n2 := by rw [hb]; exact absZ_sq _
  clear ha hb
  have LL : (L + 1) * (L + 1) = L * L + 2 * L + 1 := by grind
  have M2 : a + b ≤ 2 * L := by
    rcases Int.lt_or_le (2 * L) (a + b) with g | g
    · have q := Int.mul_le_mul (show 2 * L + 1 ≤ a + b by omega) (show 2 * L + 1 ≤ a + b by omega) (by omega) (by omega)
      have e1 : (2 * L + 1) * (2 * L + 1) = 4 * (L * L) + 4 * L + 1 := by grind
      have e2 : (a + b) * (a + b) = 2 * (a * a + b * b) - (a - b) * (a - b) := by grind
      have := sq_nonneg (a - b)
      have := sq_nonneg L
      omega
    · exact g
  -- the depth
  obtain ⟨X, Y, hdxy, bX, bY⟩ := hd
  have dX := mul_bd (x := n1) (y := X) (M := a) (N := 1310720) (by omega) (by omega) (by omega) (by omega)
  have dY := mul_bd (x := n2) (y := Y) (M := b) (N := 1310720) (by omega) (by omega) (by omega) (by omega)
  have dL : d ≤ 2621440 * L := by omega
  have hrnd : D = (2 * d + L) / (2 * L) := by
    rw [hD]
    have e : rnd d L = (2 * d + L) / (2 * L) := by unfold rnd; rw [if_neg (by omega)]
    have q0 : 0 ≤ (2 * d + L) / (2 * L) := Int.ediv_nonneg (by omega) (by omega)
    have q1 : (2 * d + L) / (2 * L) ≤ 2621440 := by
      have : (2 * d + L) / (2 * L) < 2621441 := Int.ediv_lt_of_lt_mul (by omega) (by omega)
      omega
    unfold overQ
    rw [if_neg (by omega), e, if_pos (by omega)]
  have e1 := Int.mul_ediv_add_emod (2 * d + L) (2 * L)
  have e2 := Int.emod_nonneg (2 * d + L) (show 2 * L ≠ 0 by omega)
  have e3 := Int.emod_lt_of_pos (2 * d + L) (show 0 < 2 * L by omega)
  rw [← hrnd] at e1
  have D0 : 0 ≤ D := by rw [hrnd]; exact Int.ediv_nonneg (by omega) (by omega)
  have D1 : D ≤ 2621440 := by
    have : D < 2621441 := by rw [hrnd]; exact Int.ediv_lt_of_lt_mul (by omega) (by omega)
    omega
  generalize (2 * d + L) % (2 * L) = ρ at *
  clear hD hrnd dX dY
  -- the unit vector is short
  have tb : ∀ z o : Int, (t * z) * (t * z) ≤ (t * n1) * (t * n1) + (t * n2) * (t * n2) → -n ≤ 2 * n * o - 131072 * (t * z) → 2 * n * o - 131072 * (t * z) ≤ n → -65540 ≤ o ∧ o ≤ 65540 := fun z o hz g1 g2 => by
    have hz2 : -(n + 1) ≤ t * z ∧ t * z ≤ n + 1 := by
      constructor
      · rcases Int.lt_or_le (t * z) (-(n + 1)) with g | g
        · have := Int.mul_le_mul (show n + 1 ≤ -(t * z) by omega) (show n + 1 ≤ -(t * z) by omega) (by omega) (by omega)
          rw [Int.neg_mul_neg] at this
          omega
        · omega
      · rcases Int.lt_or_le (n + 1) (t * z) with g | g
        · have := Int.mul_le_mul (show n + 1 ≤ t * z by omega) (show n + 1 ≤ t * z by omega) (by omega) (by omega)
          omega
        · omega
    constructor
    · rcases Int.lt_or_le o (-65540) with g | g
      · have := Int.mul_le_mul_of_nonneg_left (show o ≤ -65541 by omega) (show 0 ≤ 2 * n by omega)
        omega
      · omega
    · rcases Int.lt_or_le 65540 o with g | g
      · have := Int.mul_le_mul_of_nonneg_left (show 65541 ≤ o by omega) (show 0 ≤ 2 * n by omega)
        omega
      · omega
  have bU := tb n1 U (by have := sq_nonneg (t * n2); omega) x1 x2
  have bW := tb n2 W (by have := sq_nonneg (t * n1); omega) y1 y2
  clear tb
  obtain ⟨s, hs⟩ : ∃ s, s = D + 64 := ⟨_, rfl⟩
  rw [← hs]
  obtain ⟨f1a, f1b⟩ := mulF_near (a := U) (b := s) (by omega) (by omega)
  obtain ⟨f2a, f2b⟩ := mulF_near (a := W) (b := s) (by omega) (by omega)
  obtain ⟨T1, hT1⟩ : ∃ T1, T1 = mulF U s := ⟨_, rfl⟩
  obtain ⟨T2, hT2⟩ : ∃ T2, T2 = mulF W s := ⟨_, rfl⟩
  rw [← hT1] at f1a f1b
  rw [← hT2] at f2a f2b
  rw [← hT1, ← hT2]
  clear hT1 hT2
  have us := mul_bd (x := U) (y := s) (M := 65540) (N := 2621504) (by omega) (by omega) (by omega) (by omega)
  have ws := mul_bd (x := W) (y := s) (M := 65540) (N := 2621504) (by omega) (by omega) (by omega) (by omega)
  refine ⟨?_, by omega, by omega, D0, D1⟩
  clear us ws
  obtain ⟨ρ1, hr1⟩ : ∃ r, r = 2 * n * U - 131072 * (t * n1) := ⟨_, rfl⟩
  obtain ⟨ρ2, hr2⟩ : ∃ r, r = 2 * n * W - 131072 * (t * n2) := ⟨_, rfl⟩
  obtain ⟨g1, hg1⟩ : ∃ g, g = 131072 * T1 - 2 * (U * s) := ⟨_, rfl⟩
  obtain ⟨g2, hg2⟩ : ∃ g, g = 131072 * T2 - 2 * (W * s) := ⟨_, rfl⟩
  rw [← hr1] at x1 x2
  rw [← hr2] at y1 y2
  rw [← hg1] at f1a f1b
  rw [← hg2] at f2a f2b
  have key : 262144 * (n * (n1 * T1 + n2 * T2)) = 262144 * (s * (t * (n1 * n1 + n2 * n2))) + 2 * (s * (n1 * ρ1 + n2 * ρ2)) + 2 * (n * (n1 * g1 + n2 * g2)) := by
    rw [hr1, hr2, hg1, hg2]
    grind
  have k1 := mul_bd (x := n1) (y := ρ1) (M := a) (N := n) (by omega) (by omega) (by omega) (by omega)
  have k2 := mul_bd (x := n2) (y := ρ2) (M := b) (N := n) (by omega) (by omega) (by omega) (by omega)
  have k3 := mul_bd (x := n1) (y := g1) (M := a) (N := 65536) (by omega) (by omega) (by omega) (by omega)
  have k4 := mul_bd (x := n2) (y := g2) (M := b) (N := 65536) (by omega) (by omega) (by omega) (by omega)
  have kk : a * n + b * n = (a + b) * n := by grind
  have kl : (a + b) * n ≤ 2 * L * n := Int.mul_le_mul_of_nonneg_right M2 (by omega)
  have A1 : -(2 * L * n) ≤ n1 * ρ1 + n2 * ρ2 := by omega
  have A2 : -(131072 * L) ≤ n1 * g1 + n2 * g2 := by omega
  have q1 : n * L ≤ t * (n1 * n1 + n2 * n2) := by
    rcases Int.lt_or_le (t * (n1 * n1 + n2 * n2)) (n * L) with g | g
    · exfalso
      have z0 : 0 ≤ t * (n1 * n1 + n2 * n2) := Int.mul_nonneg (by omega) (by omega)
      have c1 : (t * (n1 * n1 + n2 * n2)) * (t * (n1 * n1 + n2 * n2)) < (n * L) * (n * L) := by
        have := sq_lt z0 g
        have : (t * (n1 * n1 + n2 * n2) + 1) * (t * (n1 * n1 + n2 * n2) + 1) = (t * (n1 * n1 + n2 * n2)) * (t * (n1 * n1 + n2 * n2)) + 2 * (t * (n1 * n1 + n2 * n2)) + 1 := by grind
        omega
      have c2 : (n * n) * (L * L) ≤ ((t * n1) * (t * n1) + (t * n2) * (t * n2)) * (n1 * n1 + n2 * n2) := Int.mul_le_mul r1 Ls1 (Int.mul_nonneg (by omega) (by omega)) (by have := sq_nonneg (t * n1); have := sq_nonneg (t * n2); omega)
      have c3 : ((t * n1) * (t * n1) + (t * n2) * (t * n2)) * (n1 * n1 + n2 * n2) = (t * (n1 * n1 + n2 * n2)) * (t * (n1 * n1 + n2 * n2)) := by grind
      have c4 : (n * L) * (n * L) = (n * n) * (L * L) := by grind
      omega
    · exact g
  have B1 := Int.mul_le_mul_of_nonneg_left q1 (show 0 ≤ s by omega)
  have B2 := Int.mul_le_mul_of_nonneg_left A1 (show 0 ≤ s by omega)
  have B3 := Int.mul_le_mul_of_nonneg_left A2 (show 0 ≤ n by omega)
  -- everything through n
  have fin : n * (262144 * (s * L) - 4 * (s * L) - 262144 * L) ≤ n * (262144 * (n1 * T1 + n2 * T2)) := by
    have e1 : s * (n * L) = n * (s * L) := by grind
    have e2 : s * -(2 * L * n) = -(2 * (n * (s * L))) := by grind
    have e3 : n * -(131072 * L) = -(131072 * (n * L)) := by grind
    have e4 : n * (262144 * (s * L) - 4 * (s * L) - 262144 * L) = 262144 * (n * (s * L)) - 4 * (n * (s * L)) - 262144 * (n * L) := by grind
    have e5 : n * (262144 * (n1 * T1 + n2 * T2)) = 262144 * (n * (n1 * T1 + n2 * T2)) := by grind
    omega
  have fin2 : 262144 * (s * L) - 4 * (s * L) - 262144 * L ≤ 262144 * (n1 * T1 + n2 * T2) := Int.le_of_mul_le_mul_left fin (by omega)
  have sL : s * L ≤ 2621504 * L := Int.mul_le_mul_of_nonneg_right (by omega) (by omega)
  have eD : 2 * L * D = 2 * (s * L) - 128 * L := by rw [show D = s - 64 by omega]; grind
  omega

theorem within_diff {l m : List V} {p q : Int} (hl : allWithin p l = true) (hm : allWithin q m = true) {i k : Nat} (hi : i < l.length) (hk : k < m.length) : (-(p + q) ≤ px l i - px m k ∧ px l i - px m k ≤ p + q) ∧ (-(p + q) ≤ py l i - py m k ∧ py l i - py m k ≤ p + q) := by
  have a := withinB_iff.1 (allWithin_at hl hi)
  have b := withinB_iff.1 (allWithin_at hm hk)
  omega
/-- the law SatApart -/
theorem apart_law {l m : List V} (hl : checkE l = 0) (hm : checkE m = 0) (wl : allWithin 262144 l = true) (wm : allWithin 1048576 m = true) (h : meetsB l m = true) :
    meetsB l (movL m (mulF (tstX l m) (tstD l m + 64)) (mulF (tstY l m) (tstD l m + 64))) = false ∧ (-2623000 ≤ mulF (tstX l m) (tstD l m + 64) ∧ mulF (tstX l m) (tstD l m + 64) ≤ 2623000) ∧ (-2623000 ≤ mulF (tstY l m) (tstD l m + 64) ∧ mulF (tstY l m) (tstD l m + 64) ≤ 2623000) ∧ (0 ≤ tstD l m ∧ tstD l m ≤ 2621440) := by
  obtain ⟨_, l3, _, _⟩ := checkE_zero hl
  obtain ⟨_, m3, _, _⟩ := checkE_zero hm
  obtain ⟨hne, hb1, hb2⟩ := ax_ne h
  have h0 := h
  unfold meetsB at h0
  rw [decide_eq_true_iff] at h0
  obtain ⟨-, d1, d2⟩ := h0
  obtain ⟨s, e, d, h1, h2, h3⟩ := least_dep h
  have eX : tstX l m = unitX (axN1 l m (leastO l m)) (axN2 l m (leastO l m)) := by unfold tstX; rw [if_pos h]
  have eY : tstY l m = unitY (axN1 l m (leastO l m)) (axN2 l m (leastO l m)) := by unfold tstY; rw [if_pos h]
  have eD : tstD l m = d := by unfold tstD; rw [h1]; rfl
  rw [eX, eY, eD]
  cases s with
  | false =>
    obtain ⟨he, hd⟩ := h3 rfl
    have n1 : axN1 l m (leastO l m) = nrmX l e := by rw [h1]; rfl
    have n2 : axN2 l m (leastO l m) = nrmY l e := by rw [h1]; rfl
    rw [n1, n2] at hne ⊢
    rw [n1] at hb1
    rw [n2] at hb2
    obtain ⟨j, hj, ej⟩ := deepTo_mem l m e (m.length - 1)
    obtain ⟨bx, by_⟩ := within_diff wl wm he (show j < m.length by omega)
    have dd : deepZ l m e = nrmX l e * (px l e - px m j) + nrmY l e * (py l e - py m j) := ej
    have far := apart_far (d := deepZ l m e) (D := d) hb1 hb2 hne (d1 e he) ⟨_, _, dd, by omega, by omega⟩ hd
    obtain ⟨u, hu⟩ : ∃ u, u = mulF (unitX (nrmX l e) (nrmY l e)) (d + 64) := ⟨_, rfl⟩
    obtain ⟨v, hv⟩ : ∃ v, v = mulF (unitY (nrmX l e) (nrmY l e)) (d + 64) := ⟨_, rfl⟩
    rw [← hu, ← hv] at far ⊢
    refine ⟨?_, far.2⟩
    unfold meetsB
    rw [decide_eq_false_iff_not]
    rintro ⟨-, g1, -⟩
    have := g1 e he
    unfold deepZ at this
    rw [movL_len, deepTo_shift _ (by omega)] at this
    have f := far.1
    unfold deepZ at f
    omega
  | true =>
    obtain ⟨he, hd⟩ := h2 rfl
    have n1 : axN1 l m (leastO l m) = -nrmX m e := by rw [h1]; rfl
    have n2 : axN2 l m (leastO l m) = -nrmY m e := by rw [h1]; rfl
    rw [n1, n2] at hne ⊢
    rw [n1] at hb1
    rw [n2] at hb2
    obtain ⟨j, hj, ej⟩ := deepTo_mem m l e (l.length - 1)
    obtain ⟨bx, by_⟩ := within_diff wm wl he (show j < l.length by omega)
    have dd : deepZ m l e = -nrmX m e * (px l j - px m e) + -nrmY m e * (py l j - py m e) := by
      rw [show deepZ m l e = dpt m l e j from ej]
      unfold dpt
      grind
    have hl' : lenZ (-nrmX m e) (-nrmY m e) = lenZ (nrmX m e) (nrmY m e) := by unfold lenZ; rw [Int.neg_mul_neg, Int.neg_mul_neg]
    have far := apart_far (d := deepZ m l e) (D := d) hb1 hb2 hne (d2 e he) ⟨_, _, dd, by omega, by omega⟩ (by rw [hl']; exact hd)
    obtain ⟨u, hu⟩ : ∃ u, u = mulF (unitX (-nrmX m e) (-nrmY m e)) (d + 64) := ⟨_, rfl⟩
    obtain ⟨v, hv⟩ : ∃ v, v = mulF (unitY (-nrmX m e) (-nrmY m e)) (d + 64) := ⟨_, rfl⟩
    rw [← hu, ← hv] at far ⊢
    refine ⟨?_, far.2⟩
    unfold meetsB
    rw [decide_eq_false_iff_not]
    rintro ⟨-, -, g2⟩
    have := g2 e (by rw [movL_len]; exact he)
    unfold deepZ at this
    rw [deepTo_shift' he _ (by omega)] at this
    have f := far.1
    unfold deepZ at f
    rw [Int.neg_mul, Int.neg_mul] at f
    omega

end Go.Proofs.Ytldlogcpnfmomaa
