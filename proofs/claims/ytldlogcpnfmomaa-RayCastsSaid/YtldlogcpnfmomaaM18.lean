/- Plain mathematics: sat.Test at polygons that are moved together, swapped, or moved apart. No program is in sight. -/
import Derived.Test.YtldlogcpnfmomaaS5
import Derived.Test.YtldlogcpnfmomaaZ6
namespace Go.Proofs.Ytldlogcpnfmomaa
set_option linter.unusedVariables false
set_option linter.unusedSimpArgs false
open Go.RowKit

section
variable {l m : List V} {u v : Int}
theorem nrmX_movL {i : Nat} (hi : i < l.length) : nrmX (movL l u v) i = nrmX l i := by
  unfold nrmX
  rw [movL_len, py_movL (Nat.mod_lt _ (by omega)), py_movL hi]
  omega
theorem nrmY_movL {i : Nat} (hi : i < l.length) : nrmY (movL l u v) i = nrmY l i := by
  unfold nrmY
  rw [movL_len, px_movL (Nat.mod_lt _ (by omega)), px_movL hi]
  omega
theorem dpt_movL {i k : Nat} (hi : i < l.length) (hk : k < m.length) : dpt (movL l u v) (movL m u v) i k = dpt l m i k := by
  unfold dpt
  rw [nrmX_movL hi, nrmY_movL hi, px_movL hi, py_movL hi, px_movL hk, py_movL hk, show px l i + u - (px m k + u) = px l i - px m k by omega, show py l i + v - (py m k + v) = py l i - py m k by omega]
theorem deepTo_movL {i : Nat} (hi : i < l.length) : ∀ k, k < m.length → deepTo (movL l u v) (movL m u v) i k = deepTo l m i k
  | 0, hk => dpt_movL hi hk
  | k + 1, hk => by rw [deepTo, deepTo, dpt_movL hi hk, deepTo_movL hi k (by omega)]
theorem deepZ_movL {i : Nat} (hi : i < l.length) (hm : 0 < m.length) : deepZ (movL l u v) (movL m u v) i = deepZ l m i := by
  unfold deepZ
  rw [movL_len]
  exact deepTo_movL hi _ (by omega)
theorem depZ_movL {i : Nat} (hi : i < l.length) (hm : 0 < m.length) : depZ (movL l u v) (movL m u v) i = depZ l m i := by
  unfold depZ
  rw [deepZ_movL hi hm, nrmX_movL hi, nrmY_movL hi]
theorem axTo_movL (sec : Bool) (s : Option Ax) (hm : 0 < m.length) : ∀ k, k ≤ l.length → axTo (movL l u v) (movL m u v) sec s k = axTo l m sec s k
  | 0, _ => rfl
  | k + 1, hk => by rw [axTo, axTo, axTo_movL sec s hm k (by omega), depZ_movL (by omega) hm]
theorem bothE_zero {a b : List V} : bothE a b = 0 ↔ checkE a = 0 ∧ checkE b = 0 := by
  unfold bothE
  split <;> omega
theorem meetsB_movL (hl : checkE l = 0) (hm : checkE m = 0) (wl : allWithin 65536000 (movL l u v) = true) (wm : allWithin 65536000 (movL m u v) = true) : meetsB (movL l u v) (movL m u v) = meetsB l m := by
  obtain ⟨_, l3, _, _⟩ := checkE_zero hl
  obtain ⟨_, m3, _, _⟩ := checkE_zero hm
  unfold meetsB
  rw [decide_eq_decide]
  rw [bothE_zero, bothE_zero, movL_len, movL_len]
  constructor
  · rintro ⟨_, h1, h2⟩
    exact ⟨⟨hl, hm⟩, fun i hi => by rw [← deepZ_movL (u := u) (v := v) hi (by omega)]; exact h1 i hi, fun i hi => by rw [← deepZ_movL (u := u) (v := v) hi (by omega)]; exact h2 i hi⟩
  · rintro ⟨_, h1, h2⟩
    exact ⟨⟨checkE_movL hl wl, checkE_movL hm wm⟩, fun i hi => by rw [deepZ_movL hi (by omega)]; exact h1 i hi, fun i hi => by rw [deepZ_movL hi (by omega)]; exact h2 i hi⟩
theorem leastO_movL (hl : checkE l = 0) (hm : checkE m = 0) (wl : allWithin 65536000 (movL l u v) = true) (wm : allWithin 65536000 (movL m u v) = true) : leastO (movL l u v) (movL m u v) = leastO l m := by
  obtain ⟨_, l3, _, _⟩ := checkE_zero hl
  obtain ⟨_, m3, _, _⟩ := checkE_zero hm
  unfold leastO
  rw [meetsB_movL hl hm wl wm]
  split
  · show axTo (movL m u v) (movL l u v) true (axTo (movL l u v) (movL m u v) false none (movL l u v).length) (movL m u v).length = axTo m l true (axTo l m false none l.length) m.length
    rw [movL_len, movL_len, axTo_movL _ _ (by omega) _ (Nat.le_refl _), axTo_movL _ _ (by omega) _ (Nat.le_refl _)]
  · rfl
theorem tst_movL (hl : checkE l = 0) (hm : checkE m = 0) (wl : allWithin 65536000 (movL l u v) = true) (wm : allWithin 65536000 (movL m u v) = true) :
    tstD (movL l u v) (movL m u v) = tstD l m ∧ tstX (movL l u v) (movL m u v) = tstX l m ∧ tstY (movL l u v) (movL m u v) = tstY l m := by
  have e1 := meetsB_movL hl hm wl wm
  have e2 := leastO_movL hl hm wl wm
  have key : meetsB l m = true → axN1 (movL l u v) (movL m u v) (leastO l m) = axN1 l m (leastO l m) ∧ axN2 (movL l u v) (movL m u v) (leastO l m) = axN2 l m (leastO l m) := fun h => by
    obtain ⟨s, e, d, h1, h2, h3⟩ := least_some h
    rw [h1]
    unfold axN1 axN2
    dsimp only
    cases s with
    | true => simp only [if_true]; rw [nrmX_movL (h2 rfl), nrmY_movL (h2 rfl)]; exact ⟨rfl, rfl⟩
    | false => simp only [Bool.false_eq_true, if_false]; rw [nrmX_movL (h3 rfl), nrmY_movL (h3 rfl)]; exact ⟨rfl, rfl⟩
  unfold tstD tstX tstY
  rw [e1, e2]
  refine ⟨rfl, ?_, ?_⟩
  · split
    · rename_i h; rw [(key h).1, (key h).2]
    · rfl
  · split
    · rename_i h; rw [(key h).1, (key h).2]
    · rfl
end

/-- the depth of an axis is the least of all -/
theorem axTo_least (l m : List V) (sec : Bool) (s : Option Ax) : ∀ k, (s.isSome = true ∨ 0 < k) → ∃ a, axTo l m sec s k = some a ∧ ((∃ b, s = some b ∧ a.2.2 = b.2.2) ∨ ∃ i, i < k ∧ a.2.2 = depZ l m i) ∧ (∀ b, s = some b → a.2.2 ≤ b.2.2) ∧ ∀ i, i < k → a.2.2 ≤ depZ l m i
  | 0, h => by
    cases s with
    | none => simp at h
    | some a => exact ⟨a, rfl, .inl ⟨a, rfl, rfl⟩, fun b e => by cases e; omega, fun i h => absurd h (by omega)⟩
  | k + 1, _ => by
    rw [axTo]
    rcases Decidable.em (s.isSome = true ∨ 0 < k) with g | g
    · obtain ⟨a, h1, h2, h3, h4⟩ := axTo_least l m sec s k g
      rw [h1, axUp]
      split
      · rename_i hlt
        refine ⟨_, rfl, .inr ⟨k, by omega, rfl⟩, fun b hb => ?_, fun i hi => ?_⟩
        · have := h3 b hb; dsimp only; omega
        · rcases Nat.lt_or_ge i k with q | q
          · have := h4 i q; dsimp only; omega
          · have : i = k := by omega
            subst this
            exact Int.le_refl _
      · rename_i hlt
        refine ⟨a, rfl, ?_, h3, fun i hi => ?_⟩
        · rcases h2 with h2 | ⟨i, hi, h2⟩
          · exact .inl h2
          · exact .inr ⟨i, by omega, h2⟩
        · rcases Nat.lt_or_ge i k with q | q
          · exact h4 i q
          · have : i = k := by omega
            subst this
            omega
    · have hs : s = none := by cases s with
        | none => rfl
        | some a => simp at g
      have hk : k = 0 := by omega
      subst hs hk
      exact ⟨_, rfl, .inr ⟨0, by omega, rfl⟩, fun b e => (by cases e), fun i hi => (by have h0 : i = 0 := (by omega); subst h0; exact Int.le_refl _)⟩
theorem least_min {l m : List V} (h : meetsB l m = true) : ∃ a, leastO l m = some a ∧ ((∃ i, i < l.length ∧ a.2.2 = depZ l m i) ∨ ∃ i, i < m.length ∧ a.2.2 = depZ m l i) ∧ (∀ i, i < l.length → a.2.2 ≤ depZ l m i) ∧ ∀ i, i < m.length → a.2.2 ≤ depZ m l i := by
  have h0 := h
  unfold meetsB at h0
  rw [decide_eq_true_iff] at h0
  obtain ⟨hc1, hc2⟩ := bothE_zero.1 h0.1
  obtain ⟨-, l3, -⟩ := checkE_zero hc1
  obtain ⟨-, m3, -⟩ := checkE_zero hc2
  obtain ⟨b, b1, b2, b3, b4⟩ := axTo_least l m false none l.length (.inr (by omega))
  obtain ⟨a, a1, a2, a3, a4⟩ := axTo_least m l true (axTo l m false none l.length) m.length (.inr (by omega))
  refine ⟨a, ?_, ?_, ?_, a4⟩
  · unfold leastO
    rw [if_pos h]
    exact a1
  · rcases a2 with ⟨c, c1, c2⟩ | a2
    · rw [b1] at c1
      cases c1
      rcases b2 with ⟨d, d1, d2⟩ | ⟨i, hi, b2⟩
      · cases d1
      · exact .inl ⟨i, hi, by omega⟩
    · exact .inr a2
  · intro i hi
    have := a3 b b1
    have := b4 i hi
    omega
theorem meetsB_swap (l m : List V) : meetsB m l = meetsB l m := by
  unfold meetsB
  rw [decide_eq_decide, bothE_zero, bothE_zero]
  constructor
  · rintro ⟨⟨a, b⟩, c, d⟩; exact ⟨⟨b, a⟩, d, c⟩
  · rintro ⟨⟨a, b⟩, c, d⟩; exact ⟨⟨b, a⟩, d, c⟩
theorem tstD_swap (l m : List V) : tstD m l = tstD l m := by
  unfold tstD
  cases hb : meetsB l m with
  | false =>
    have hb' : meetsB m l = false := by rw [meetsB_swap]; exact hb
    unfold leastO
    rw [hb, hb']
    rfl
  | true =>
    obtain ⟨a, a1, a2, a3, a4⟩ := least_min hb
    obtain ⟨b, b1, b2, b3, b4⟩ := least_min (l := m) (m := l) (by rw [meetsB_swap]; exact hb)
    rw [a1, b1]
    show b.2.2 = a.2.2
    have h1 : b.2.2 ≤ a.2.2 := by
      rcases a2 with ⟨i, hi, e⟩ | ⟨i, hi, e⟩
      · rw [e]; exact b4 i hi
      · rw [e]; exact b3 i hi
    have h2 : a.2.2 ≤ b.2.2 := by
      rcases b2 with ⟨i, hi, e⟩ | ⟨i, hi, e⟩
      · rw [e]; exact a4 i hi
      · rw [e]; exact a3 i hi
    omega

/-- doubling keeps the direction, and ends with a coordinate of at least 2^30 -/
theorem upF_spec : ∀ (k : Nat) (x y : Int), (1073741824 ≤ absZ x * 2 ^ k ∨ 1073741824 ≤ absZ y * 2 ^ k) → (-1099511627776 ≤ x ∧ x ≤ 1099511627776) → (-1099511627776 ≤ y ∧ y ≤ 1099511627776) →
    ∃ t : Int, 0 < t ∧ upF k x y = (t * x, t * y) ∧ (1073741824 ≤ absZ (t * x) ∨ 1073741824 ≤ absZ (t * y)) ∧ (-1099511627776 ≤ t * x ∧ t * x ≤ 1099511627776) ∧ (-1099511627776 ≤ t * y ∧ t * y ≤ 1099511627776)
  | 0, x, y, h, bx, by_ => ⟨1, by omega, by simp [upF], by simpa using h, by omega, by omega⟩
  | k + 1, x, y, h, bx, by_ => by
    rw [upF]
    split
    · rename_i hlt
      have hx : -1073741824 < x ∧ x < 1073741824 := by have := hlt.1; unfold absZ at this; split at this <;> omega
      have hy : -1073741824 < y ∧ y < 1073741824 := by have := hlt.2; unfold absZ at this; split at this <;> omega
      obtain ⟨t, t0, t1, t2, t3, t4⟩ := upF_spec k (2 * x) (2 * y) (by
        rw [absZ_two, absZ_two, Int.mul_assoc, Int.mul_assoc, Int.mul_left_comm 2, Int.mul_left_comm 2]
        rwa [Int.pow_succ, Int.mul_comm ((2 : Int) ^ k) 2] at h) (by omega) (by omega)
      have ex : t * (2 * x) = 2 * t * x := by grind
      have ey : t * (2 * y) = 2 * t * y := by grind
      rw [ex, ey] at t1 t2
      rw [ex] at t3
      rw [ey] at t4
      exact ⟨2 * t, by omega, t1, t2, t3, t4⟩
    · rename_i hge
      refine ⟨1, by omega, by simp, ?_, by omega, by omega⟩
      rw [Int.one_mul, Int.one_mul]
      omega
/-- the unit vector of a vector that is not zero: two numbers of a long vector in its direction, each through its length, rounded -/
theorem unit_spec {a b : Int} (ha : -1099511627776 ≤ a ∧ a ≤ 1099511627776) (hb : -1099511627776 ≤ b ∧ b ≤ 1099511627776) (h : a ≠ 0 ∨ b ≠ 0) :
    ∃ t n : Int, 0 < t ∧ 1073741824 ≤ n ∧ n * n ≤ (t * a) * (t * a) + (t * b) * (t * b) ∧ (t * a) * (t * a) + (t * b) * (t * b) < (n + 1) * (n + 1) ∧
      (-n ≤ 2 * n * unitX a b - 131072 * (t * a) ∧ 2 * n * unitX a b - 131072 * (t * a) ≤ n) ∧ (-n ≤ 2 * n * unitY a b - 131072 * (t * b) ∧ 2 * n * unitY a b - 131072 * (t * b) ≤ n) := by
  have ca := clampF_id ha.1 ha.2
  have cb := clampF_id hb.1 hb.2
  obtain ⟨t, t0, t1, t2, t3, t4⟩ := upF_spec 31 a b (by
    have e : (2 : Int) ^ 31 = 2147483648 := by decide
    rw [e]
    rcases h with h | h
    · have : 1 ≤ absZ a := by unfold absZ; split <;> omega
      exact .inl (by omega)
    · have : 1 ≤ absZ b := by unfold absZ; split <;> omega
      exact .inr (by omega)) ha hb
  obtain ⟨x, hx⟩ : ∃ x, x = t * a := ⟨_, rfl⟩
  obtain ⟨y, hy⟩ : ∃ y, y = t * b := ⟨_, rfl⟩
  have ux : unitX a b = thrZ x (lenZ x y) := by unfold unitX; rw [ca, cb, if_neg (by omega), t1, hx, hy]
  have uy : unitY a b = thrZ y (lenZ x y) := by unfold unitY; rw [ca, cb, if_neg (by omega), t1, hx, hy]
  rw [← hx, ← hy] at t2
  rw [← hx] at t3
  rw [← hy] at t4
  have b1 := mul_bd (x := x) (y := x) (M := 1099511627776) (N := 1099511627776) (by omega) (by omega) (by omega) (by omega)
  have b2 := mul_bd (x := y) (y := y) (M := 1099511627776) (N := 1099511627776) (by omega) (by omega) (by omega) (by omega)
  have p1 := sq_nonneg x
  have p2 := sq_nonneg y
  obtain ⟨r0, r1, r2⟩ := rootZ_spec (n := x * x + y * y) (by omega) (by omega)
  obtain ⟨n, hn⟩ : ∃ n, n = lenZ x y := ⟨_, rfl⟩
  have hn' : rootZ (x * x + y * y) = n := hn.symm
  rw [hn'] at r0 r1 r2
  have big : 1073741824 ≤ n := by
    rcases Int.lt_or_le n 1073741824 with g | g
    · have q := Int.mul_le_mul (show n + 1 ≤ 1073741824 by omega) (show n + 1 ≤ 1073741824 by omega) (by omega) (by omega)
      rcases t2 with t2 | t2
      · have s : 1073741824 * 1073741824 ≤ absZ x * absZ x := Int.mul_le_mul t2 t2 (by omega) (by omega)
        rw [absZ_sq] at s
        omega
      · have s : 1073741824 * 1073741824 ≤ absZ y * absZ y := Int.mul_le_mul t2 t2 (by omega) (by omega)
        rw [absZ_sq] at s
        omega
    · exact g
  have thr : ∀ z : Int, -n ≤ 2 * n * thrZ z n - 131072 * z ∧ 2 * n * thrZ z n - 131072 * z ≤ n := fun z => by
    unfold thrZ
    have e1 := Int.mul_ediv_add_emod (2 * z * 65536 + n) (2 * n)
    have e2 := Int.emod_nonneg (2 * z * 65536 + n) (show 2 * n ≠ 0 by omega)
    have e3 := Int.emod_lt_of_pos (2 * z * 65536 + n) (show 0 < 2 * n by omega)
    generalize (2 * z * 65536 + n) / (2 * n) = q at *
    generalize (2 * z * 65536 + n) % (2 * n) = r at *
    omega
  rw [← hn] at ux uy
  refine ⟨t, n, t0, big, by rw [← hx, ← hy]; exact r1, by rw [← hx, ← hy]; exact r2, ?_, ?_⟩
  · rw [ux, ← hx]; exact thr x
  · rw [uy, ← hy]; exact thr y
/-- the length of a unit vector -/
theorem unit_len {a b : Int} (ha : -1099511627776 ≤ a ∧ a ≤ 1099511627776) (hb : -1099511627776 ≤ b ∧ b ≤ 1099511627776) (h : a ≠ 0 ∨ b ≠ 0) :
    65534 ≤ clampF (lenZ (clampF (unitX a b)) (clampF (unitY a b))) ∧ clampF (lenZ (clampF (unitX a b)) (clampF (unitY a b))) ≤ 65538 := by
  obtain ⟨t, n, t0, big, r1, r2, ⟨x1, x2⟩, ⟨y1, y2⟩⟩ := unit_spec ha hb h
  obtain ⟨x, hx⟩ : ∃ x, x = t * a := ⟨_, rfl⟩
  obtain ⟨y, hy⟩ : ∃ y, y = t * b := ⟨_, rfl⟩
  obtain ⟨U, hU⟩ : ∃ U, U = unitX a b := ⟨_, rfl⟩
  obtain ⟨W, hW⟩ : ∃ W, W = unitY a b := ⟨_, rfl⟩
  rw [← hx, ← hU] at x1 x2
  rw [← hy, ← hW] at y1 y2
  rw [← hx, ← hy] at r1 r2
  rw [← hU, ← hW]
  clear hx hy hU hW
  obtain ⟨r, hr⟩ : ∃ r, r = 2 * n * U - 131072 * x := ⟨_, rfl⟩
  obtain ⟨s, hs⟩ : ∃ s, s = 2 * n * W - 131072 * y := ⟨_, rfl⟩
  rw [← hr] at x1 x2
  rw [← hs] at y1 y2
  -- 4 n n (U U + W W) = 131072^2 (x x + y y) + 262144 (x r + y s) + r r + s s
  have key : 4 * (n * n) * (U * U + W * W) = 17179869184 * (x * x + y * y) + 262144 * (x * r + y * s) + (r * r + s * s) := by
    have e1 : 2 * n * U = 131072 * x + r := by omega
    have e2 : 2 * n * W = 131072 * y + s := by omega
    have q1 : (2 * n * U) * (2 * n * U) = (131072 * x + r) * (131072 * x + r) := by rw [e1]
    have q2 : (2 * n * W) * (2 * n * W) = (131072 * y + s) * (131072 * y + s) := by rw [e2]
    grind
  have sx : -(n + 1) ≤ x ∧ x ≤ n + 1 := by
    have := sq_nonneg y
    constructor
    · rcases Int.lt_or_le x (-(n + 1)) with g | g
      · have := Int.mul_le_mul (show n + 1 ≤ -x by omega) (show n + 1 ≤ -x by omega) (by omega) (by omega)
        rw [Int.neg_mul_neg] at this
        omega
      · omega
    · rcases Int.lt_or_le (n + 1) x with g | g
      · have := Int.mul_le_mul (show n + 1 ≤ x by omega) (show n + 1 ≤ x by omega) (by omega) (by omega)
        omega
      · omega
  have sy : -(n + 1) ≤ y ∧ y ≤ n + 1 := by
    have := sq_nonneg x
    constructor
    · rcases Int.lt_or_le y (-(n + 1)) with g | g
      · have := Int.mul_le_mul (show n + 1 ≤ -y by omega) (show n + 1 ≤ -y by omega) (by omega) (by omega)
        rw [Int.neg_mul_neg] at this
        omega
      · omega
    · rcases Int.lt_or_le (n + 1) y with g | g
      · have := Int.mul_le_mul (show n + 1 ≤ y by omega) (show n + 1 ≤ y by omega) (by omega) (by omega)
        omega
      · omega
  have m1 := mul_bd (x := x) (y := r) (M := n + 1) (N := n) (by omega) (by omega) (by omega) (by omega)
  have m2 := mul_bd (x := y) (y := s) (M := n + 1) (N := n) (by omega) (by omega) (by omega) (by omega)
  have m3 := mul_bd (x := r) (y := r) (M := n) (N := n) (by omega) (by omega) (by omega) (by omega)
  have m4 := mul_bd (x := s) (y := s) (M := n) (N := n) (by omega) (by omega) (by omega) (by omega)
  have p3 := sq_nonneg r
  have p4 := sq_nonneg s
  have nn : 1073741824 * n ≤ n * n := Int.mul_le_mul_of_nonneg_right big (by omega)
  have ex : (n + 1) * n = n * n + n := by grind
  have ex2 : (n + 1) * (n + 1) = n * n + 2 * n + 1 := by grind
  rw [ex] at m1 m2
  rw [ex2] at r2
  have np : 0 < n * n := Int.mul_pos (by omega) (by omega)
  generalize x * r = A1 at *
  generalize y * s = A2 at *
  generalize r * r = A3 at *
  generalize s * s = A4 at *
  generalize x * x + y * y = S at *
  obtain ⟨N, hN⟩ : ∃ N, N = n * n := ⟨_, rfl⟩
  rw [← hN] at key nn r1 r2 m1 m2 m3 m4 np
  obtain ⟨Q, hQ⟩ : ∃ Q, Q = U * U + W * W := ⟨_, rfl⟩
  rw [← hQ] at key
  have lo : 65534 * 65534 ≤ Q := by
    rcases Int.lt_or_le Q (65534 * 65534) with g | g
    · have := Int.mul_le_mul_of_nonneg_left (show Q ≤ 65534 * 65534 - 1 by omega) (show 0 ≤ 4 * N by omega)
      omega
    · exact g
  have hi : Q < 65539 * 65539 := by
    rcases Int.lt_or_le Q (65539 * 65539) with g | g
    · exact g
    · have := Int.mul_le_mul_of_nonneg_left g (show 0 ≤ 4 * N by omega)
      omega
  have one : ∀ z o : Int, z * z + o * o < 65539 * 65539 → -65539 ≤ z ∧ z ≤ 65539 := fun z o hz => by
    have := sq_nonneg o
    constructor
    · rcases Int.lt_or_le z (-65539) with g | g
      · have := Int.mul_le_mul (show 65539 ≤ -z by omega) (show 65539 ≤ -z by omega) (by omega) (by omega)
        rw [Int.neg_mul_neg] at this
        omega
      · omega
    · rcases Int.lt_or_le 65539 z with g | g
      · have := Int.mul_le_mul (show 65539 ≤ z by omega) (show 65539 ≤ z by omega) (by omega) (by omega)
        omega
      · omega
  have bU := one U W (by omega)
  have bW := one W U (by omega)
  rw [clampF_id (a := U) (by omega) (by omega), clampF_id (a := W) (by omega) (by omega)]
  have R : 65534 ≤ lenZ U W ∧ lenZ U W < 65539 := by
    unfold lenZ
    rw [← hQ]
    obtain ⟨q0, q1, q2⟩ := rootZ_spec (n := Q) (by omega) (by omega)
    constructor
    · rcases Int.lt_or_le (rootZ Q) 65534 with g | g
      · have := sq_lt q0 g; omega
      · exact g
    · rcases Int.lt_or_le (rootZ Q) 65539 with g | g
      · exact g
      · have := Int.mul_le_mul g g (by omega) q0
        omega
  rw [clampF_id (by omega) (by omega)]
  omega
/-- the normal of an edge of a valid polygon is not zero -/
theorem nrm_ne {l : List V} (h : checkE l = 0) {i : Nat} (hi : i < l.length) : nrmX l i ≠ 0 ∨ nrmY l i ≠ 0 := by
  obtain ⟨h8, h3, _, hr⟩ := checkE_zero h
  rcases Decidable.em (nrmX l i = 0 ∧ nrmY l i = 0) with ⟨a, b⟩ | g
  · exfalso
    have k2 : (i + 2) % l.length < l.length := Nat.mod_lt _ (by omega)
    have := hr i hi ((i + 2) % l.length) k2
    unfold edgeBad at this
    rw [decide_eq_false_iff_not] at this
    apply this
    have a1 : (i + 2) % l.length ≠ i % l.length := fun g => by
      have := Nat.sub_mod_eq_zero_of_mod_eq g
      rw [show i + 2 - i = 2 by omega, Nat.mod_eq_of_lt (by omega)] at this
      omega
    have a2 : (i + 2) % l.length ≠ (i + 1) % l.length := fun g => by
      have := Nat.sub_mod_eq_zero_of_mod_eq g
      rw [show i + 2 - (i + 1) = 1 by omega, Nat.mod_eq_of_lt (by omega)] at this
      omega
    rw [Nat.mod_eq_of_lt hi] at a1
    refine ⟨a1, a2, ?_⟩
    unfold nrmX at a
    unfold nrmY at b
    unfold sideL sideZ
    rw [show px l ((i + 1) % l.length) - px l i = 0 by omega, show py l ((i + 1) % l.length) - py l i = 0 by omega]
    simp
  · omega
/-- the axis of two polygons that meet -/
theorem ax_ne {l m : List V} (h : meetsB l m = true) : (axN1 l m (leastO l m) ≠ 0 ∨ axN2 l m (leastO l m) ≠ 0) ∧ (-131072000 ≤ axN1 l m (leastO l m) ∧ axN1 l m (leastO l m) ≤ 131072000) ∧ (-131072000 ≤ axN2 l m (leastO l m) ∧ axN2 l m (leastO l m) ≤ 131072000) := by
  have h0 := h
  unfold meetsB at h0
  rw [decide_eq_true_iff] at h0
  obtain ⟨hc1, hc2⟩ := bothE_zero.1 h0.1
  obtain ⟨-, -, w1, -⟩ := checkE_zero hc1
  obtain ⟨-, -, w2, -⟩ := checkE_zero hc2
  obtain ⟨s, e, d, h1, h2, h3⟩ := least_some h
  rw [h1]
  unfold axN1 axN2
  dsimp only
  cases s with
  | true =>
    have n := nrm_ne hc2 (h2 rfl)
    have b := nrm_bd w2 (h2 rfl)
    simp only [if_true]
    omega
  | false =>
    have n := nrm_ne hc1 (h3 rfl)
    have b := nrm_bd w1 (h3 rfl)
    simp only [Bool.false_eq_true, if_false]
    omega
/-- the length of the axis of sat.Test -/
theorem tst_len {l m : List V} (h : meetsB l m = true) : 65534 ≤ clampF (lenZ (clampF (tstX l m)) (clampF (tstY l m))) ∧ clampF (lenZ (clampF (tstX l m)) (clampF (tstY l m))) ≤ 65538 := by
  obtain ⟨a, b, c⟩ := ax_ne h
  unfold tstX tstY
  rw [if_pos h, if_pos h]
  exact unit_len (by omega) (by omega) a

end Go.Proofs.Ytldlogcpnfmomaa
