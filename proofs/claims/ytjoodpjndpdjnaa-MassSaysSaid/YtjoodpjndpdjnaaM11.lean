/- Plain mathematics of package mass: moved polygons, the second moment, the two laws of tourkeep2. No program is in sight. -/
import Derived.Test.YtjoodpjndpdjnaaM10
namespace Go.Proofs.Ytjoodpjndpdjnaa
set_option linter.unusedVariables false
set_option linter.unusedSimpArgs false
open Go.RowKit

theorem rnd_shift {x n k : Int} (hn : 0 < n) : rnd (x + n * k) n = rnd x n + k := by
  unfold rnd
  rw [if_neg (by omega), if_neg (by omega)]
  have e : 2 * (x + n * k) + n = (2 * x + n) + k * (2 * n) := by grind
  rw [e, Int.add_mul_ediv_right _ _ (by omega)]

theorem fan_bdM {l : List V} (h : checkE l = 0) (M : Int) (f : Nat → Int) (hf : ∀ i, i < l.length → -M ≤ f i ∧ f i ≤ M) (k : Nat) (hk : k + 2 ≤ l.length) :
    -(3 * M * areaTo l k) ≤ sumTo (fun i => (f 0 + f (i + 1) + f (i + 2)) * sideL l 0 (i + 1) (i + 2)) k ∧ sumTo (fun i => (f 0 + f (i + 1) + f (i + 2)) * sideL l 0 (i + 1) (i + 2)) k ≤ 3 * M * areaTo l k := by
  induction k with
  | zero => simp [sumTo, areaTo]
  | succ k ih =>
    have h1 := ih (by omega)
    have hs := side_fan h (i := k) (by omega)
    have a := hf 0 (by omega)
    have b := hf (k + 1) (by omega)
    have c := hf (k + 2) (by omega)
    have u := Int.mul_nonneg (show 0 ≤ 3 * M - (f 0 + f (k + 1) + f (k + 2)) by omega) (Int.le_of_lt hs)
    have v := Int.mul_nonneg (show 0 ≤ 3 * M + (f 0 + f (k + 1) + f (k + 2)) by omega) (Int.le_of_lt hs)
    rw [Int.sub_mul] at u
    rw [Int.add_mul] at v
    simp only [sumTo, areaTo]
    rw [Int.mul_add]
    generalize (f 0 + f (k + 1) + f (k + 2)) * sideL l 0 (k + 1) (k + 2) = X at *
    generalize 3 * M * sideL l 0 (k + 1) (k + 2) = s at *
    omega
/-- the rounded centre is the exact one's nearest integer, and lies within the corners' bounds -/
theorem cenQ_bdM {l : List V} (h : checkE l = 0) {M : Int} (hM : 0 ≤ M ∧ M ≤ 65536000) (hw : allWithin M l = true) : cenQ l = (rnd (cenX l) (3 * areaZ l), rnd (cenY l) (3 * areaZ l)) ∧ withinB M (cenQ l).1 (cenQ l).2 = true := by
  obtain ⟨h8, h3, _, hr⟩ := checkE_zero h
  have hA := area_pos h
  have hx := fan_bdM h M (px l) (fun i hi => by have := withinB_iff.1 (allWithin_at hw hi); omega) (l.length - 2) (by omega)
  have hy := fan_bdM h M (py l) (fun i hi => by have := withinB_iff.1 (allWithin_at hw hi); omega) (l.length - 2) (by omega)
  have ex : cenX l = sumTo (fun i => (px l 0 + px l (i + 1) + px l (i + 2)) * sideL l 0 (i + 1) (i + 2)) (l.length - 2) := cenX_fan l h3
  have ey : cenY l = sumTo (fun i => (py l 0 + py l (i + 1) + py l (i + 2)) * sideL l 0 (i + 1) (i + 2)) (l.length - 2) := cenY_fan l h3
  rw [← ex] at hx
  rw [← ey] at hy
  have e : areaZ l = areaTo l (l.length - 2) := rfl
  rw [← e] at hx hy
  have em : 3 * M * areaZ l = 3 * areaZ l * M := by grind
  rw [em] at hx hy
  have bx := rnd_bd (x := cenX l) (n := 3 * areaZ l) (M := M) (by omega) hx.1 hx.2
  have b_y := rnd_bd (x := cenY l) (n := 3 * areaZ l) (M := M) (by omega) hy.1 hy.2
  have qx := over_ok (W := cenX l) (n := 3 * areaZ l) (by omega) rfl (by omega) (by omega)
  have qy := over_ok (W := cenY l) (n := 3 * areaZ l) (by omega) rfl (by omega) (by omega)
  have hq : cenQ l = (rnd (cenX l) (3 * areaZ l), rnd (cenY l) (3 * areaZ l)) := by unfold cenQ; rw [qx.1, qy.1]
  refine ⟨hq, withinB_iff.2 ?_⟩
  rw [hq]
  dsimp only
  omega

theorem fanX_movL {l : List V} {u v : Int} (k : Nat) (hk : k + 2 ≤ l.length) : sumTo (fanX (movL l u v)) k = sumTo (fanX l) k + 3 * areaTo l k * u := by
  induction k with
  | zero => simp [sumTo, areaTo]
  | succ k ih =>
    simp only [sumTo, areaTo]
    rw [ih (by omega)]
    unfold fanX
    rw [px_movL (by omega), px_movL (by omega), px_movL (by omega), sideL_movL (by omega) (by omega) (by omega)]
    grind
theorem fanY_movL {l : List V} {u v : Int} (k : Nat) (hk : k + 2 ≤ l.length) : sumTo (fanY (movL l u v)) k = sumTo (fanY l) k + 3 * areaTo l k * v := by
  induction k with
  | zero => simp [sumTo, areaTo]
  | succ k ih =>
    simp only [sumTo, areaTo]
    rw [ih (by omega)]
    unfold fanY
    rw [py_movL (by omega), py_movL (by omega), py_movL (by omega), sideL_movL (by omega) (by omega) (by omega)]
    grind
/-- the centre of a moved polygon -/
theorem cenQ_movL {l : List V} {u v : Int} (h : checkE l = 0) (hm : allWithin 65536000 (movL l u v) = true) : cenQ (movL l u v) = ((cenQ l).1 + u, (cenQ l).2 + v) := by
  obtain ⟨h8, h3, hw, hr⟩ := checkE_zero h
  have hA := area_pos h
  have h' := checkE_movL h hm
  rw [(cenQ_bdM h' (M := 65536000) (by omega) hm).1, (cenQ_bdM h (M := 65536000) (by omega) hw).1, areaZ_movL h3]
  have e1 : cenX (movL l u v) = cenX l + 3 * areaZ l * u := by
    rw [cenX_fan _ (by rw [movL_len]; exact h3), cenX_fan _ h3, movL_len, fanX_movL _ (by omega)]
    rfl
  have e2 : cenY (movL l u v) = cenY l + 3 * areaZ l * v := by
    rw [cenY_fan _ (by rw [movL_len]; exact h3), cenY_fan _ h3, movL_len, fanY_movL _ (by omega)]
    rfl
  rw [e1, e2, rnd_shift (by omega), rnd_shift (by omega)]
theorem movL_movL (l : List V) (a b c d : Int) : movL (movL l a b) c d = movL l (a + c) (b + d) := by
  unfold movL
  rw [List.map_map]
  refine List.map_congr_left fun p _ => ?_
  simp only [Function.comp]
  rw [Int.add_assoc, Int.add_assoc]
theorem inerQ_movL {l : List V} {u v : Int} (h : checkE l = 0) (hm : allWithin 65536000 (movL l u v) = true) (d : Int) : massQ (movL l u v) d = massQ l d ∧ inerQ (movL l u v) d = inerQ l d := by
  have h3 := (checkE_zero h).2.1
  refine ⟨by unfold massQ; rw [areaZ_movL h3], ?_⟩
  unfold inerQ secQ
  rw [cenQ_movL h hm, movL_movL, movL_len]
  dsimp only
  rw [show u + -((cenQ l).1 + u) = -(cenQ l).1 by omega, show v + -((cenQ l).2 + v) = -(cenQ l).2 by omega]

/-- the second moment by the fan of triangles -/
def triZ (a b c d e f : Int) : Int := a * a + c * c + e * e + a * c + c * e + e * a + (b * b + d * d + f * f + b * d + d * f + f * b)
def fanS (l : List V) (i : Nat) : Int := triZ (px l 0) (py l 0) (px l (i + 1)) (py l (i + 1)) (px l (i + 2)) (py l (i + 2)) * sideL l 0 (i + 1) (i + 2)
def sqrZ (a b c d : Int) : Int := a * a + a * c + c * c + b * b + b * d + d * d
theorem fan_stepS (a b c d e f : Int) : crsZ c d e f * sqrZ c d e f + crsZ e f a b * sqrZ e f a b - crsZ c d a b * sqrZ c d a b = triZ a b c d e f * sideZ a b c d e f := by unfold crsZ sideZ sqrZ triZ; grind
theorem fan_partS (l : List V) (m : Nat) (h : m + 2 ≤ l.length) : sumTo (secL l) (m + 1) + crsZ (px l (m + 1)) (py l (m + 1)) (px l 0) (py l 0) * sqrZ (px l (m + 1)) (py l (m + 1)) (px l 0) (py l 0) = sumTo (fanS l) m := by
  induction m with
  | zero =>
    simp only [sumTo, secL, crsL, sqrL, nx]
    rw [Nat.mod_eq_of_lt (by omega)]
    unfold crsZ sqrZ
    grind
  | succ m ih =>
    have h1 := ih (by omega)
    have h2 := fan_stepS (px l 0) (py l 0) (px l (m + 1)) (py l (m + 1)) (px l (m + 2)) (py l (m + 2))
    have e : secL l (m + 1) = crsZ (px l (m + 1)) (py l (m + 1)) (px l (m + 2)) (py l (m + 2)) * sqrZ (px l (m + 1)) (py l (m + 1)) (px l (m + 2)) (py l (m + 2)) := by
      simp only [secL, crsL, sqrL, nx]
      rw [Nat.mod_eq_of_lt (by omega)]
      rfl
    show sumTo (secL l) (m + 1) + secL l (m + 1) + crsZ (px l (m + 2)) (py l (m + 2)) (px l 0) (py l 0) * sqrZ (px l (m + 2)) (py l (m + 2)) (px l 0) (py l 0) = sumTo (fanS l) m + fanS l m
    rw [e, ← h1]
    unfold fanS sideL
    rw [← h2]
    omega
theorem sec_fan (l : List V) (h3 : 3 ≤ l.length) : sumTo (secL l) l.length = sumTo (fanS l) (l.length - 2) := by
  obtain ⟨m, hm⟩ : ∃ m, l.length = m + 2 := ⟨l.length - 2, by omega⟩
  rw [show l.length - 2 = m by omega, ← fan_partS l m (by omega)]
  rw [hm]
  have e : sumTo (secL l) (m + 2) = sumTo (secL l) (m + 1) + secL l (m + 1) := rfl
  rw [e]
  simp only [secL, crsL, sqrL, nx]
  rw [hm, Nat.mod_self]
  rfl
theorem triZ_lo (a b c d e f : Int) : (c - a) * (c - a) + (d - b) * (d - b) ≤ 4 * triZ a b c d e f := by
  have s : ∀ x : Int, 0 ≤ x * x := fun x => by
    rcases Int.le_total 0 x with h | h
    · exact Int.mul_nonneg h h
    · have := Int.mul_nonneg (show 0 ≤ -x by omega) (show 0 ≤ -x by omega); rwa [Int.neg_mul_neg] at this
  have h1 := s (a + c + 2 * e)
  have h2 := s (b + d + 2 * f)
  have h3 := s (a + c)
  have h4 := s (b + d)
  have e1 : 4 * triZ a b c d e f = (c - a) * (c - a) + (d - b) * (d - b) + (a + c + 2 * e) * (a + c + 2 * e) + (b + d + 2 * f) * (b + d + 2 * f) + 2 * ((a + c) * (a + c)) + 2 * ((b + d) * (b + d)) := by unfold triZ; grind
  omega
theorem triZ_nonneg (a b c d e f : Int) : 0 ≤ triZ a b c d e f := by
  have s : ∀ x : Int, 0 ≤ x * x := fun x => by
    rcases Int.le_total 0 x with h | h
    · exact Int.mul_nonneg h h
    · have := Int.mul_nonneg (show 0 ≤ -x by omega) (show 0 ≤ -x by omega); rwa [Int.neg_mul_neg] at this
  have := triZ_lo a b c d e f
  have h1 := s (c - a)
  have h2 := s (d - b)
  omega
theorem triZ_hi {a b c d e f M : Int} (hM : 0 ≤ M) (h1 : withinB M a b = true) (h2 : withinB M c d = true) (h3 : withinB M e f = true) : triZ a b c d e f ≤ 12 * (M * M) := by
  obtain ⟨_, _, _, _⟩ := withinB_iff.1 h1
  obtain ⟨_, _, _, _⟩ := withinB_iff.1 h2
  obtain ⟨_, _, _, _⟩ := withinB_iff.1 h3
  have m : ∀ x y : Int, -M ≤ x → x ≤ M → -M ≤ y → y ≤ M → x * y ≤ M * M := fun x y a b c d => (mul_bd a b c d).2
  have := m a a (by omega) (by omega) (by omega) (by omega)
  have := m c c (by omega) (by omega) (by omega) (by omega)
  have := m e e (by omega) (by omega) (by omega) (by omega)
  have := m a c (by omega) (by omega) (by omega) (by omega)
  have := m c e (by omega) (by omega) (by omega) (by omega)
  have := m e a (by omega) (by omega) (by omega) (by omega)
  have := m b b (by omega) (by omega) (by omega) (by omega)
  have := m d d (by omega) (by omega) (by omega) (by omega)
  have := m f f (by omega) (by omega) (by omega) (by omega)
  have := m b d (by omega) (by omega) (by omega) (by omega)
  have := m d f (by omega) (by omega) (by omega) (by omega)
  have := m f b (by omega) (by omega) (by omega) (by omega)
  unfold triZ
  omega
/-- bounds of the second moment about any point, of a polygon whose side products are known -/
theorem fanS_lo {l : List V} (h : ∀ i, i + 2 < l.length → 0 ≤ sideL l 0 (i + 1) (i + 2)) (k : Nat) (hk : k + 2 ≤ l.length) (hk1 : 1 ≤ k) : fanS l 0 ≤ sumTo (fanS l) k := by
  induction k with
  | zero => omega
  | succ k ih =>
    simp only [sumTo]
    rcases Nat.eq_zero_or_pos k with rfl | hp
    · simp [sumTo]
    · have := ih (by omega) hp
      have : 0 ≤ fanS l k := Int.mul_nonneg (triZ_nonneg _ _ _ _ _ _) (h k (by omega))
      omega
theorem fanS_hi {l : List V} {M : Int} (hM : 0 ≤ M) (hw : allWithin M l = true) (h : ∀ i, i + 2 < l.length → 0 ≤ sideL l 0 (i + 1) (i + 2)) (k : Nat) (hk : k + 2 ≤ l.length) : sumTo (fanS l) k ≤ 12 * (M * M) * areaTo l k := by
  induction k with
  | zero => simp [sumTo, areaTo]
  | succ k ih =>
    simp only [sumTo, areaTo]
    have h1 := ih (by omega)
    have h2 := triZ_hi hM (allWithin_at hw (j := 0) (by omega)) (allWithin_at hw (j := k + 1) (by omega)) (allWithin_at hw (j := k + 2) (by omega))
    have h3 := Int.mul_le_mul_of_nonneg_right h2 (h k (by omega))
    have e : fanS l k ≤ 12 * (M * M) * sideL l 0 (k + 1) (k + 2) := h3
    rw [Int.mul_add]
    omega

end Go.Proofs.Ytjoodpjndpdjnaa
