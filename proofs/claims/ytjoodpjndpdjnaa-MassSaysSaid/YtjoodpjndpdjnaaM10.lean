/- Plain mathematics of package mass: bounds. No program is in sight. -/
import Derived.Test.YtjoodpjndpdjnaaM9
import Derived.Test.YtjoodpjndpdjnaaG0
namespace Go.Proofs.Ytjoodpjndpdjnaa
set_option linter.unusedVariables false
set_option linter.unusedSimpArgs false
open Go.RowKit

theorem nx_lt {l : List V} {i : Nat} (h : i < l.length) : nx l i < l.length := Nat.mod_lt _ (by omega)
theorem crsL_bd {l : List V} (hw : allWithin 65536000 l = true) {i : Nat} (hi : i < l.length) : -8589934592000000 ≤ crsL l i ∧ crsL l i ≤ 8589934592000000 :=
  (crsZ_bd (allWithin_at hw hi) (allWithin_at hw (nx_lt hi))).2
theorem cxL_bd {l : List V} (hw : allWithin 65536000 l = true) {i : Nat} (hi : i < l.length) : -1125899906842624000000000 ≤ cxL l i ∧ cxL l i ≤ 1125899906842624000000000 := by
  obtain ⟨_, _, _, _⟩ := withinB_iff.1 (allWithin_at hw hi)
  obtain ⟨_, _, _, _⟩ := withinB_iff.1 (allWithin_at hw (nx_lt hi))
  have h := crsL_bd hw hi
  have := mul_bd (x := px l i + px l (nx l i)) (y := crsL l i) (M := 131072000) (N := 8589934592000000) (by omega) (by omega) (by omega) (by omega)
  unfold cxL
  omega
theorem cyL_bd {l : List V} (hw : allWithin 65536000 l = true) {i : Nat} (hi : i < l.length) : -1125899906842624000000000 ≤ cyL l i ∧ cyL l i ≤ 1125899906842624000000000 := by
  obtain ⟨_, _, _, _⟩ := withinB_iff.1 (allWithin_at hw hi)
  obtain ⟨_, _, _, _⟩ := withinB_iff.1 (allWithin_at hw (nx_lt hi))
  have h := crsL_bd hw hi
  have := mul_bd (x := py l i + py l (nx l i)) (y := crsL l i) (M := 131072000) (N := 8589934592000000) (by omega) (by omega) (by omega) (by omega)
  unfold cyL
  omega
theorem cen_bd {l : List V} (hw : allWithin 65536000 l = true) (h8 : l.length ≤ 8) : (-9223372036854775808000000000 ≤ cenX l ∧ cenX l ≤ 9223372036854775808000000000) ∧ (-9223372036854775808000000000 ≤ cenY l ∧ cenY l ≤ 9223372036854775808000000000) := by
  have h1 := sumTo_bd (f := cxL l) (B := 1125899906842624000000000) l.length (fun j hj => cxL_bd hw hj)
  have h2 := sumTo_bd (f := cyL l) (B := 1125899906842624000000000) l.length (fun j hj => cyL_bd hw hj)
  unfold cenX cenY
  omega

/-- the fan of triangles at the first corner -/
def fanX (l : List V) (i : Nat) : Int := (px l 0 + px l (i + 1) + px l (i + 2)) * sideL l 0 (i + 1) (i + 2)
def fanY (l : List V) (i : Nat) : Int := (py l 0 + py l (i + 1) + py l (i + 2)) * sideL l 0 (i + 1) (i + 2)
theorem fan_step (a b c d e f : Int) : (c + e) * crsZ c d e f + (e + a) * crsZ e f a b - (c + a) * crsZ c d a b = (a + c + e) * sideZ a b c d e f := by unfold crsZ sideZ; grind
theorem fan_stepY (a b c d e f : Int) : (d + f) * crsZ c d e f + (f + b) * crsZ e f a b - (d + b) * crsZ c d a b = (b + d + f) * sideZ a b c d e f := by unfold crsZ sideZ; grind
theorem fan_partX (l : List V) (m : Nat) (h : m + 2 ≤ l.length) : sumTo (cxL l) (m + 1) + (px l (m + 1) + px l 0) * crsZ (px l (m + 1)) (py l (m + 1)) (px l 0) (py l 0) = sumTo (fanX l) m := by
  induction m with
  | zero =>
    simp only [sumTo, cxL, crsL, nx]
    rw [Nat.mod_eq_of_lt (by omega)]
    unfold crsZ
    grind
  | succ m ih =>
    have h1 := ih (by omega)
    have h2 := fan_step (px l 0) (py l 0) (px l (m + 1)) (py l (m + 1)) (px l (m + 2)) (py l (m + 2))
    have e : cxL l (m + 1) = (px l (m + 1) + px l (m + 2)) * crsZ (px l (m + 1)) (py l (m + 1)) (px l (m + 2)) (py l (m + 2)) := by
      simp only [cxL, crsL, nx]
      rw [Nat.mod_eq_of_lt (by omega)]
    show sumTo (cxL l) (m + 1) + cxL l (m + 1) + (px l (m + 2) + px l 0) * crsZ (px l (m + 2)) (py l (m + 2)) (px l 0) (py l 0) = sumTo (fanX l) m + fanX l m
    rw [e, ← h1]
    unfold fanX sideL
    rw [← h2]
    omega
theorem fan_partY (l : List V) (m : Nat) (h : m + 2 ≤ l.length) : sumTo (cyL l) (m + 1) + (py l (m + 1) + py l 0) * crsZ (px l (m + 1)) (py l (m + 1)) (px l 0) (py l 0) = sumTo (fanY l) m := by
  induction m with
  | zero =>
    simp only [sumTo, cyL, crsL, nx]
    rw [Nat.mod_eq_of_lt (by omega)]
    unfold crsZ
    grind
  | succ m ih =>
    have h1 := ih (by omega)
    have h2 := fan_stepY (px l 0) (py l 0) (px l (m + 1)) (py l (m + 1)) (px l (m + 2)) (py l (m + 2))
    have e : cyL l (m + 1) = (py l (m + 1) + py l (m + 2)) * crsZ (px l (m + 1)) (py l (m + 1)) (px l (m + 2)) (py l (m + 2)) := by
      simp only [cyL, crsL, nx]
      rw [Nat.mod_eq_of_lt (by omega)]
    show sumTo (cyL l) (m + 1) + cyL l (m + 1) + (py l (m + 2) + py l 0) * crsZ (px l (m + 2)) (py l (m + 2)) (px l 0) (py l 0) = sumTo (fanY l) m + fanY l m
    rw [e, ← h1]
    unfold fanY sideL
    rw [← h2]
    omega
theorem cenX_fan (l : List V) (h3 : 3 ≤ l.length) : cenX l = sumTo (fanX l) (l.length - 2) := by
  obtain ⟨m, hm⟩ : ∃ m, l.length = m + 2 := ⟨l.length - 2, by omega⟩
  rw [show l.length - 2 = m by omega, ← fan_partX l m (by omega)]
  unfold cenX
  rw [hm]
  have e : sumTo (cxL l) (m + 2) = sumTo (cxL l) (m + 1) + cxL l (m + 1) := rfl
  rw [e]
  simp only [cxL, crsL, nx]
  rw [hm, Nat.mod_self]
theorem cenY_fan (l : List V) (h3 : 3 ≤ l.length) : cenY l = sumTo (fanY l) (l.length - 2) := by
  obtain ⟨m, hm⟩ : ∃ m, l.length = m + 2 := ⟨l.length - 2, by omega⟩
  rw [show l.length - 2 = m by omega, ← fan_partY l m (by omega)]
  unfold cenY
  rw [hm]
  have e : sumTo (cyL l) (m + 2) = sumTo (cyL l) (m + 1) + cyL l (m + 1) := rfl
  rw [e]
  simp only [cyL, crsL, nx]
  rw [hm, Nat.mod_self]

theorem side_fan {l : List V} (h : checkE l = 0) {i : Nat} (hi : i + 2 < l.length) : 0 < sideL l 0 (i + 1) (i + 2) := by
  obtain ⟨h8, h3, hw, hr⟩ := checkE_zero h
  have e : sideL l 0 (i + 1) (i + 2) = sideL l (i + 1) (i + 2) 0 := by unfold sideL sideZ; grind
  rw [e]
  have := edge_pos hr (i := i + 1) (k := 0) (by omega) (by omega) (by omega) (by rw [Nat.mod_eq_of_lt (by omega)]; omega)
  rwa [Nat.mod_eq_of_lt (by omega)] at this
theorem fan_bd {l : List V} (h : checkE l = 0) (f : Nat → Int) (hf : ∀ i, i < l.length → -65536000 ≤ f i ∧ f i ≤ 65536000) (k : Nat) (hk : k + 2 ≤ l.length) :
    -(196608000 * areaTo l k) ≤ sumTo (fun i => (f 0 + f (i + 1) + f (i + 2)) * sideL l 0 (i + 1) (i + 2)) k ∧ sumTo (fun i => (f 0 + f (i + 1) + f (i + 2)) * sideL l 0 (i + 1) (i + 2)) k ≤ 196608000 * areaTo l k := by
  induction k with
  | zero => simp [sumTo, areaTo]
  | succ k ih =>
    have h1 := ih (by omega)
    have hs := side_fan h (i := k) (by omega)
    have a := hf 0 (by omega)
    have b := hf (k + 1) (by omega)
    have c := hf (k + 2) (by omega)
    have u := Int.mul_nonneg (show 0 ≤ 196608000 - (f 0 + f (k + 1) + f (k + 2)) by omega) (Int.le_of_lt hs)
    have v := Int.mul_nonneg (show 0 ≤ 196608000 + (f 0 + f (k + 1) + f (k + 2)) by omega) (Int.le_of_lt hs)
    rw [Int.sub_mul] at u
    rw [Int.add_mul] at v
    simp only [sumTo, areaTo]
    generalize (f 0 + f (k + 1) + f (k + 2)) * sideL l 0 (k + 1) (k + 2) = X at *
    generalize sideL l 0 (k + 1) (k + 2) = s at *
    omega
theorem rnd_bd {x n M : Int} (hn : 0 < n) (h1 : -(n * M) ≤ x) (h2 : x ≤ n * M) : -M ≤ rnd x n ∧ rnd x n ≤ M := by
  unfold rnd
  rw [if_neg (by omega)]
  have e1 : M * (2 * n) = 2 * (n * M) := by grind
  have e2 : (-M) * (2 * n) = -(2 * (n * M)) := by grind
  refine ⟨Int.le_ediv_of_mul_le (by omega) (by omega), ?_⟩
  have : (2 * x + n) / (2 * n) < M + 1 := Int.ediv_lt_of_lt_mul (by omega) (by rw [Int.add_mul, e1]; omega)
  omega
theorem areaZ_bd' {l : List V} (h : checkE l = 0) : -1000000000000000000 ≤ areaZ l ∧ areaZ l ≤ 1000000000000000000 := by
  obtain ⟨h8, h3, hw, _⟩ := checkE_zero h
  have := areaTo_bd hw (l.length - 2) (by omega)
  unfold areaZ
  omega
/-- the centre of a valid polygon lies within its coordinates' bounds -/
theorem cenQ_bd {l : List V} (h : checkE l = 0) : withinB 65536000 (cenQ l).1 (cenQ l).2 = true := by
  obtain ⟨h8, h3, hw, hr⟩ := checkE_zero h
  have hA := area_pos h
  have hx := fan_bd h (px l) (fun i hi => by have := withinB_iff.1 (allWithin_at hw hi); omega) (l.length - 2) (by omega)
  have hy := fan_bd h (py l) (fun i hi => by have := withinB_iff.1 (allWithin_at hw hi); omega) (l.length - 2) (by omega)
  have ex : cenX l = sumTo (fun i => (px l 0 + px l (i + 1) + px l (i + 2)) * sideL l 0 (i + 1) (i + 2)) (l.length - 2) := cenX_fan l h3
  have ey : cenY l = sumTo (fun i => (py l 0 + py l (i + 1) + py l (i + 2)) * sideL l 0 (i + 1) (i + 2)) (l.length - 2) := cenY_fan l h3
  rw [← ex] at hx
  rw [← ey] at hy
  have e : areaZ l = areaTo l (l.length - 2) := rfl
  rw [← e] at hx hy
  have bx := rnd_bd (x := cenX l) (n := 3 * areaZ l) (M := 65536000) (by omega) (by omega) (by omega)
  have b_y := rnd_bd (x := cenY l) (n := 3 * areaZ l) (M := 65536000) (by omega) (by omega) (by omega)
  have qx := over_ok (W := cenX l) (n := 3 * areaZ l) (by omega) rfl (by omega) (by omega)
  have qy := over_ok (W := cenY l) (n := 3 * areaZ l) (by omega) rfl (by omega) (by omega)
  refine withinB_iff.2 ?_
  unfold cenQ
  rw [qx.1, qy.1]
  dsimp only
  omega

end Go.Proofs.Ytjoodpjndpdjnaa
