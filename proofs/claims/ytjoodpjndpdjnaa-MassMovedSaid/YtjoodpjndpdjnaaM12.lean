/- Plain mathematics of the laws MassDense and MassMoved. No program is in sight. -/
import Derived.Test.YtjoodpjndpdjnaaG2
import Derived.Test.YtjoodpjndpdjnaaG3
import Derived.Test.YtjoodpjndpdjnaaE2
namespace Go.Proofs.Ytjoodpjndpdjnaa
set_option linter.unusedVariables false
set_option linter.unusedSimpArgs false
open Go.RowKit

theorem made_lo {l : List V} (h : Made l) : 2147483648 ≤ sideL l 0 1 2 ∧ 4294967296 ≤ (px l 1 - px l 0) * (px l 1 - px l 0) + (py l 1 - py l 0) * (py l 1 - py l 0) := by
  obtain ⟨a, b, k, x, ha, hb, hk, h1, h2, rfl⟩ := h
  rcases hk with rfl | rfl | rfl | rfl
  · rw [formL_nox _ _ _ _ (by decide)]; rcases ha with rfl | rfl | rfl | rfl <;> rcases hb with rfl | rfl | rfl | rfl <;> decide
  · rcases ha with rfl | rfl | rfl | rfl <;> rcases hb with rfl | rfl | rfl | rfl <;> (simp [formL, sideL, sideZ, px, py])
  · rw [formL_nox _ _ _ _ (by decide)]; rcases ha with rfl | rfl | rfl | rfl <;> rcases hb with rfl | rfl | rfl | rfl <;> decide
  · rw [formL_nox _ _ _ _ (by decide)]; rcases ha with rfl | rfl | rfl | rfl <;> rcases hb with rfl | rfl | rfl | rfl <;> decide
theorem areaTo_lo {l : List V} (h : checkE l = 0) (k : Nat) (hk : k + 2 ≤ l.length) (hk1 : 1 ≤ k) : sideL l 0 1 2 ≤ areaTo l k := by
  induction k with
  | zero => omega
  | succ k ih =>
    simp only [areaTo]
    rcases Nat.eq_zero_or_pos k with rfl | hp
    · simp [areaTo]
    · have := ih (by omega) hp
      have := side_fan h (i := k) (by omega)
      omega
theorem side_262 {l : List V} (hw : allWithin 262144 l = true) {i j k : Nat} (hi : i < l.length) (hj : j < l.length) (hk : k < l.length) : sideL l i j k ≤ 549755813888 := by
  obtain ⟨_, _, _, _⟩ := withinB_iff.1 (allWithin_at hw hi)
  obtain ⟨_, _, _, _⟩ := withinB_iff.1 (allWithin_at hw hj)
  obtain ⟨_, _, _, _⟩ := withinB_iff.1 (allWithin_at hw hk)
  have m1 := mul_bd (x := px l j - px l i) (y := py l k - py l i) (M := 524288) (N := 524288) (by omega) (by omega) (by omega) (by omega)
  have m2 := mul_bd (x := py l j - py l i) (y := px l k - px l i) (M := 524288) (N := 524288) (by omega) (by omega) (by omega) (by omega)
  unfold sideL sideZ
  omega
theorem areaTo_262 {l : List V} (hw : allWithin 262144 l = true) (k : Nat) (hk : k + 2 ≤ l.length) : areaTo l k ≤ 549755813888 * k := by
  induction k with
  | zero => simp [areaTo]
  | succ k ih =>
    have h1 := ih (by omega)
    have h2 := side_262 hw (i := 0) (j := k + 1) (k := k + 2) (by omega) (by omega) (by omega)
    simp only [areaTo]
    omega
/-- area and second moment of a polygon that is made -/
theorem made_bd {l : List V} (h : Made l) : (2147483648 ≤ areaZ l ∧ areaZ l ≤ 1649267441664) ∧ (44739242 ≤ secQ l (cenQ l) ∧ secQ l (cenQ l) ≤ 105553116266496) := by
  have hE := made_check h
  have hw := made_within h
  have hn := made_len h
  obtain ⟨m1, m2⟩ := made_lo h
  have hA1 := areaTo_lo hE (l.length - 2) (by omega) (by omega)
  have hA2 := areaTo_262 hw (l.length - 2) (by omega)
  have hA : 2147483648 ≤ areaZ l ∧ areaZ l ≤ 1649267441664 := by unfold areaZ; omega
  refine ⟨hA, ?_⟩
  obtain ⟨_, hc⟩ := cenQ_bdM hE (M := 262144) (by omega) hw
  obtain ⟨c1, c2, c3, c4⟩ := withinB_iff.1 hc
  obtain ⟨u, hu⟩ : ∃ u, u = -(cenQ l).1 := ⟨_, rfl⟩
  obtain ⟨v, hv⟩ : ∃ v, v = -(cenQ l).2 := ⟨_, rfl⟩
  have hMw : allWithin 524288 (movL l u v) = true := within_movL (n := 262144) hw (by omega) (by omega)
  have hS : ∀ i, i + 2 < (movL l u v).length → 0 ≤ sideL (movL l u v) 0 (i + 1) (i + 2) := fun i hi => by
    rw [movL_len] at hi
    rw [sideL_movL (by omega) (by omega) (by omega)]
    exact Int.le_of_lt (side_fan hE hi)
  have hlo := fanS_lo hS (l.length - 2) (by rw [movL_len]; omega) (by omega)
  have hhi := fanS_hi (by omega) hMw hS (l.length - 2) (by rw [movL_len]; omega)
  rw [areaTo_movL _ (by omega)] at hhi
  have e : sumTo (secL (movL l u v)) l.length = sumTo (fanS (movL l u v)) (l.length - 2) := by
    have := sec_fan (movL l u v) (by rw [movL_len]; omega)
    rwa [movL_len] at this
  have hf0 : 2305843009213693952 ≤ fanS (movL l u v) 0 := by
    have t1 := triZ_lo (px (movL l u v) 0) (py (movL l u v) 0) (px (movL l u v) 1) (py (movL l u v) 1) (px (movL l u v) 2) (py (movL l u v) 2)
    have s1 : sideL (movL l u v) 0 1 2 = sideL l 0 1 2 := sideL_movL (by omega) (by omega) (by omega)
    have x1 : px (movL l u v) 1 - px (movL l u v) 0 = px l 1 - px l 0 := by rw [px_movL (by omega), px_movL (by omega)]; omega
    have y1 : py (movL l u v) 1 - py (movL l u v) 0 = py l 1 - py l 0 := by rw [py_movL (by omega), py_movL (by omega)]; omega
    rw [x1, y1] at t1
    have t2 : 1073741824 ≤ triZ (px (movL l u v) 0) (py (movL l u v) 0) (px (movL l u v) 1) (py (movL l u v) 1) (px (movL l u v) 2) (py (movL l u v) 2) := by omega
    have := Int.mul_le_mul t2 m1 (by omega) (by omega)
    have e0 : fanS (movL l u v) 0 = triZ (px (movL l u v) 0) (py (movL l u v) 0) (px (movL l u v) 1) (py (movL l u v) 1) (px (movL l u v) 2) (py (movL l u v) 2) * sideL (movL l u v) 0 1 2 := rfl
    rw [e0, s1]
    omega
  have hA3 : areaTo l (l.length - 2) = areaZ l := rfl
  rw [hA3] at hhi
  have hq : secQ l (cenQ l) = overQ (sumTo (secL (movL l u v)) l.length) 51539607552 := by unfold secQ; rw [hu, hv]
  rw [hq, e]
  generalize sumTo (fanS (movL l u v)) (l.length - 2) = S at *
  have hb : 2305843009213693952 ≤ S ∧ S ≤ 12 * (524288 * 524288) * 1649267441664 := by omega
  have hr : 44739242 ≤ rnd S 51539607552 ∧ rnd S 51539607552 ≤ 105553116266496 := by unfold rnd; rw [if_neg (by omega)]; omega
  rw [(over_ok (W := S) (n := 51539607552) (by omega) rfl (by omega) (by omega)).1]
  exact hr
theorem massQ_rnd {l : List V} {d : Int} (h : Made l) (hd : 1 ≤ d ∧ d ≤ 1048576) : massQ l d = rnd (areaZ l * d) 8589934592 ∧ inerQ l d = rnd (secQ l (cenQ l) * d) 4294967296 ∧ (2147483648 * d ≤ areaZ l * d ∧ areaZ l * d ≤ 1729382256910270464) ∧ (44739242 * d ≤ secQ l (cenQ l) * d ∧ secQ l (cenQ l) * d ≤ 110680464442257309696) := by
  obtain ⟨⟨a1, a2⟩, s1, s2⟩ := made_bd h
  have e1 := Int.mul_le_mul_of_nonneg_right a1 (show 0 ≤ d by omega)
  have e2 := Int.mul_le_mul a2 hd.2 (by omega) (by omega)
  have e3 := Int.mul_le_mul_of_nonneg_right s1 (show 0 ≤ d by omega)
  have e4 := Int.mul_le_mul s2 hd.2 (by omega) (by omega)
  have b1 : 0 ≤ rnd (areaZ l * d) 8589934592 ∧ rnd (areaZ l * d) 8589934592 ≤ 1099511627776 := by unfold rnd; rw [if_neg (by omega)]; generalize areaZ l * d = X at *; omega
  have b2 : 0 ≤ rnd (secQ l (cenQ l) * d) 4294967296 ∧ rnd (secQ l (cenQ l) * d) 4294967296 ≤ 1099511627776 := by unfold rnd; rw [if_neg (by omega)]; generalize secQ l (cenQ l) * d = X at *; omega
  refine ⟨?_, ?_, ⟨e1, by omega⟩, e3, by omega⟩
  · unfold massQ; exact (over_ok (by omega) rfl (by omega) (by omega)).1
  · unfold inerQ; exact (over_ok (by omega) rfl (by omega) (by omega)).1
theorem ofE_form {l : List V} {d : Int} (h : checkE l = 0) (hw : allWithin 2097152 l = true) (hd : 1 ≤ d ∧ d ≤ 1048576) : ofE l d = if massQ l d = 0 ∨ inerQ l d = 0 then 17 else if 1099511627776 < massQ l d ∨ 1099511627776 < inerQ l d then 2 else 0 := by
  unfold ofE
  rw [if_neg (by simp [h]), if_neg (by rw [hw]; simp; omega)]

/-- what the walk of MassDense asks -/
structure DenseLaw (L : List V) (d : Int) : Prop where
  e1 : ofE L d = 0
  e2 : ofE L (2 * d) = 0
  m1 : 0 ≤ massQ L d ∧ massQ L d ≤ 1099511627776
  m2 : 0 ≤ massQ L (2 * d) ∧ massQ L (2 * d) ≤ 1099511627776
  i1 : 0 ≤ inerQ L d ∧ inerQ L d ≤ 1099511627776
  i2 : 0 ≤ inerQ L (2 * d) ∧ inerQ L (2 * d) ≤ 1099511627776
  m : -1 ≤ massQ L (2 * d) - 2 * massQ L d ∧ massQ L (2 * d) - 2 * massQ L d ≤ 1
  i : -1 ≤ inerQ L (2 * d) - 2 * inerQ L d ∧ inerQ L (2 * d) - 2 * inerQ L d ≤ 1
theorem denseLaw {L : List V} {d : Int} (h : Made L) (hd : 1000 ≤ d ∧ d ≤ 524288) : DenseLaw L d := by
  obtain ⟨r1, r2, ⟨b1, b2⟩, b3, b4⟩ := massQ_rnd h (d := d) (by omega)
  obtain ⟨r3, r4, ⟨b5, b6⟩, b7, b8⟩ := massQ_rnd h (d := 2 * d) (by omega)
  have x1 : areaZ L * (2 * d) = 2 * (areaZ L * d) := by grind
  have x2 : secQ L (cenQ L) * (2 * d) = 2 * (secQ L (cenQ L) * d) := by grind
  rw [x1] at r3 b5 b6
  rw [x2] at r4 b7 b8
  generalize areaZ L * d = X at *
  generalize secQ L (cenQ L) * d = Y at *
  have hw := within_le (made_within h) (show (262144 : Int) ≤ 2097152 by omega)
  have m1 : 1 ≤ massQ L d ∧ massQ L d ≤ 1099511627776 := by rw [r1]; unfold rnd; rw [if_neg (by omega)]; omega
  have m2 : 1 ≤ massQ L (2 * d) ∧ massQ L (2 * d) ≤ 1099511627776 := by rw [r3]; unfold rnd; rw [if_neg (by omega)]; omega
  have i1 : 1 ≤ inerQ L d ∧ inerQ L d ≤ 1099511627776 := by rw [r2]; unfold rnd; rw [if_neg (by omega)]; omega
  have i2 : 1 ≤ inerQ L (2 * d) ∧ inerQ L (2 * d) ≤ 1099511627776 := by rw [r4]; unfold rnd; rw [if_neg (by omega)]; omega
  refine ⟨?_, ?_, by omega, by omega, by omega, by omega, ?_, ?_⟩
  · rw [ofE_form (made_check h) hw (by omega), if_neg (by omega), if_neg (by omega)]
  · rw [ofE_form (made_check h) hw (by omega), if_neg (by omega), if_neg (by omega)]
  · rw [r1, r3]; unfold rnd; rw [if_neg (by omega), if_neg (by omega)]; omega
  · rw [r2, r4]; unfold rnd; rw [if_neg (by omega), if_neg (by omega)]; omega

/-- what the walk of MassMoved asks -/
structure MovedLaw (L M : List V) (u v d : Int) : Prop where
  len : L.length ≤ 1000
  within : allWithin 65536000 L = true
  e : ofE M d = ofE L d
  bad : ofE L d ≠ 0 → ofE L d = 17 ∨ ofE L d = 2
  m : massQ M d = massQ L d
  i : inerQ M d = inerQ L d
  cx : (cenQ M).1 = (cenQ L).1 + u
  cy : (cenQ M).2 = (cenQ L).2 + v
  cb : -262144 ≤ (cenQ L).1 ∧ (cenQ L).1 ≤ 262144 ∧ -262144 ≤ (cenQ L).2 ∧ (cenQ L).2 ≤ 262144
  cen : cenE L = 0
  cenr : cenR L = centL L
  ce : ofE (centL L) d = ofE L d
  c0 : cenQ (centL L) = (0, 0)
theorem movedLaw {L : List V} {u v d : Int} (h : Made L) (hu : -786432 ≤ u ∧ u ≤ 786432) (hv : -786432 ≤ v ∧ v ≤ 786432) (hd : 1 ≤ d ∧ d ≤ 1048576) : MovedLaw L (movL L u v) u v d := by
  have hE := made_check h
  have hw := made_within h
  have hn := made_len h
  obtain ⟨_, hc⟩ := cenQ_bdM hE (M := 262144) (by omega) hw
  obtain ⟨c1, c2, c3, c4⟩ := withinB_iff.1 hc
  have w1 : allWithin (262144 + 786432) (movL L u v) = true := within_movL hw (by omega) (by omega)
  have w2 := within_le w1 (show (262144 + 786432 : Int) ≤ 2097152 by omega)
  have w3 := within_le w1 (show (262144 + 786432 : Int) ≤ 65536000 by omega)
  have k1 : allWithin (262144 + 262144) (movL L (-(cenQ L).1) (-(cenQ L).2)) = true := within_movL hw (by omega) (by omega)
  have k2 := within_le k1 (show (262144 + 262144 : Int) ≤ 2097152 by omega)
  have k3 := within_le k1 (show (262144 + 262144 : Int) ≤ 65536000 by omega)
  have hEM := checkE_movL hE w3
  have hEC := checkE_movL hE k3
  have hq := cenQ_movL hE w3
  have hqc := cenQ_movL hE k3
  obtain ⟨a1, a2⟩ := inerQ_movL hE w3 d
  obtain ⟨a3, a4⟩ := inerQ_movL hE k3 d
  have hwL := within_le hw (show (262144 : Int) ≤ 2097152 by omega)
  have hce : cenE L = 0 := by unfold cenE; rw [if_pos hE]; exact hEC
  refine ⟨by omega, within_le hw (by omega), ?_, ?_, a1, a2, by rw [hq], by rw [hq], by omega, hce, by unfold cenR; rw [if_pos hce], ?_, ?_⟩
  · rw [ofE_form hEM w2 hd, ofE_form hE hwL hd, a1, a2]
  · rw [ofE_form hE hwL hd]
    intro h
    split
    · exact .inl rfl
    · split
      · exact .inr rfl
      · rename_i h1 h2; rw [if_neg h1, if_neg h2] at h; exact absurd rfl h
  · show ofE (movL L (-(cenQ L).1) (-(cenQ L).2)) d = _
    rw [ofE_form hEC k2 hd, ofE_form hE hwL hd, a3, a4]
  · show cenQ (movL L (-(cenQ L).1) (-(cenQ L).2)) = _
    rw [hqc]
    refine Prod.ext ?_ ?_ <;> (dsimp only; omega)

end Go.Proofs.Ytjoodpjndpdjnaa
