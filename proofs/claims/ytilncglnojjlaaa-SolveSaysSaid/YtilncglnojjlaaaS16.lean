/- Parts of a proof: contracts and laws. -/
import Derived.Test.YtilncglnojjlaaaS08
namespace Go.Proofs.Ytilncglnojjlaaa
section
set_option linter.unusedVariables false
set_option linter.unusedSimpArgs false
open Go.RowKit
theorem sideZ_cyc (a b c d p q : Int) : sideZ c d p q a b = sideZ a b c d p q := by unfold sideZ; grind
theorem sideL_cyc (l : List V) (i k m : Nat) : sideL l k m i = sideL l i k m := sideZ_cyc _ _ _ _ _ _
theorem pos_of_mul {x y : Int} (hx : 0 < x) (h : 0 < x * y) : 0 < y := by
  rcases Int.lt_trichotomy y 0 with h1 | h1 | h1
  · have := Int.mul_neg_of_pos_of_neg hx h1; omega
  · subst h1; simp at h
  · exact h1
theorem nonneg_of_mul {x y : Int} (hx : 0 < x) (h : 0 ≤ x * y) : 0 ≤ y := by
  rcases Int.lt_or_le y 0 with h1 | h1
  · have := Int.mul_neg_of_pos_of_neg hx h1; omega
  · exact h1

theorem plucker (ax ay bx b_y cx cy dx dy ex ey : Int) : sideZ ax ay bx b_y dx dy * sideZ ax ay cx cy ex ey = sideZ ax ay bx b_y cx cy * sideZ ax ay dx dy ex ey + sideZ ax ay bx b_y ex ey * sideZ ax ay cx cy dx dy := by
  unfold sideZ
  generalize bx - ax = b1; generalize b_y - ay = b2; generalize cx - ax = c1; generalize cy - ay = c2; generalize dx - ax = d1; generalize dy - ay = d2; generalize ex - ax = e1; generalize ey - ay = e2
  grind
theorem edge_pos {l : List V} (h : rowsOk l l.length) {i k : Nat} (hi : i < l.length) (hk : k < l.length) (h1 : k ≠ i) (h2 : k ≠ (i + 1) % l.length) : 0 < sideL l i ((i + 1) % l.length) k := by
  have := h i hi k hk
  simp only [edgeBad, decide_eq_false_iff_not] at this
  omega
theorem tri_of_rows {l : List V} (h : rowsOk l l.length) : tri1 l l.length := by
  intro i hi k hik hk
  -- by induction on m, from k + 1 on
  have key : ∀ d m, m = k + 1 + d → m < l.length → 0 < sideL l i k m := by
    intro d
    induction d with
    | zero =>
      intro m hm hml
      have e := edge_pos h (i := k) (k := i) hk hi (by omega) (by rw [Nat.mod_eq_of_lt (by omega)]; omega)
      rw [Nat.mod_eq_of_lt (by omega)] at e
      rw [hm, ← sideL_cyc]
      simpa using e
    | succ d ih =>
      intro m hm hml
      have h1 := ih (k + 1 + d) rfl (by omega)
      have h2 := edge_pos h (i := k + 1 + d) (k := i) (by omega) hi (by omega) (by rw [Nat.mod_eq_of_lt (by omega)]; omega)
      rw [Nat.mod_eq_of_lt (by omega), show k + 1 + d + 1 = m by omega, sideL_cyc] at h2
      by_cases e : k = i + 1
      · have h3 := edge_pos h (i := i) (k := m) hi hml (by omega) (by rw [Nat.mod_eq_of_lt (by omega)]; omega)
        rw [Nat.mod_eq_of_lt (by omega)] at h3
        rw [e]; exact h3
      · have h3 := edge_pos h (i := i) (k := k) hi hk (by omega) (by rw [Nat.mod_eq_of_lt (by omega)]; omega)
        have h4 := edge_pos h (i := i) (k := k + 1 + d) hi (by omega) (by omega) (by rw [Nat.mod_eq_of_lt (by omega)]; omega)
        have h5 := edge_pos h (i := i) (k := m) hi hml (by omega) (by rw [Nat.mod_eq_of_lt (by omega)]; omega)
        rw [Nat.mod_eq_of_lt (by omega)] at h3 h4 h5
        have hp := plucker (px l i) (py l i) (px l (i + 1)) (py l (i + 1)) (px l k) (py l k) (px l (k + 1 + d)) (py l (k + 1 + d)) (px l m) (py l m)
        have hq : 0 < sideL l i (i + 1) (k + 1 + d) * sideL l i k m := by
          show 0 < sideZ _ _ _ _ _ _ * sideZ _ _ _ _ _ _
          rw [hp]
          have m1 := Int.mul_pos h3 h2
          have m2 := Int.mul_pos h5 h1
          unfold sideL at m1 m2
          omega
        exact pos_of_mul h4 hq
  intro m hkm hm
  exact key (m - k - 1) m (by omega) hm
theorem rows_of_tri {l : List V} (h3 : 3 ≤ l.length) (h : tri1 l l.length) : rowsOk l l.length := by
  intro i hi k hk
  refine edgeBad_not ?_
  by_cases h1 : k = i
  · exact .inl h1
  by_cases h2 : k = (i + 1) % l.length
  · exact .inr (.inl h2)
  refine .inr (.inr ?_)
  by_cases e : i + 1 = l.length
  · have e2 : (i + 1) % l.length = 0 := by rw [e, Nat.mod_self]
    rw [e2] at h2 ⊢
    have := h 0 (by omega) k (by omega) hk i (by omega) hi
    rwa [← sideL_cyc, ← sideL_cyc] at this
  · rw [Nat.mod_eq_of_lt (by omega)] at h2 ⊢
    by_cases hlt : k < i
    · have := h k hk i hlt hi (i + 1) (by omega) (by omega)
      rwa [← sideL_cyc] at this
    · exact h i hi (i + 1) (by omega) (by omega) k (by omega) hk
theorem check_eq_poly (l : List V) : checkE l = polyE l := by
  by_cases h8 : 8 < l.length
  · rw [checkE, if_pos h8, polyE, if_pos h8]
  by_cases h3 : l.length < 3
  · rw [checkE, if_neg h8, if_pos h3, polyE, if_neg h8, if_pos h3]
  cases hw : allWithin 65536000 l with
  | false => rw [checkE, if_neg h8, if_neg h3, if_pos hw, polyE, if_neg h8, if_neg h3, if_pos hw]
  | true =>
    rcases checkE_cases l with h | h | h | h
    · rw [h, polyE_ok (by omega) (by omega) hw (tri_of_rows (checkE_zero h).2.2.2)]
    · exfalso
      rw [checkE, if_neg h8, if_neg h3, if_neg (by simp [hw])] at h
      split at h <;> omega
    · exfalso
      rw [checkE, if_neg h8, if_neg h3, if_neg (by simp [hw])] at h
      split at h <;> omega
    · by_cases hz : polyE l = 0
      · have := checkE_ok (by omega) (by omega) hw (rows_of_tri (by omega) (polyE_zero hz).2.2.2)
        omega
      · rw [h]
        unfold polyE at hz ⊢
        rw [if_neg h8, if_neg h3, if_neg (by simp [hw])] at hz ⊢
        split at hz
        · exact absurd rfl hz
        · rename_i hh
          rw [if_neg hh]

theorem bary (ax ay bx b_y cx cy px' py' ex ey fx fy : Int) :
    sideZ ax ay bx b_y cx cy * sideZ ex ey fx fy px' py' = sideZ bx b_y cx cy px' py' * sideZ ex ey fx fy ax ay + sideZ cx cy ax ay px' py' * sideZ ex ey fx fy bx b_y + sideZ ax ay bx b_y px' py' * sideZ ex ey fx fy cx cy := by
  unfold sideZ
  grind
theorem edge_nonneg {l : List V} (h : rowsOk l l.length) {i j : Nat} (hi : i < l.length) (hj : j < l.length) : 0 ≤ sideL l i ((i + 1) % l.length) j := by
  by_cases h1 : j = i
  · subst h1; unfold sideL sideZ; simp
  by_cases h2 : j = (i + 1) % l.length
  · subst h2; unfold sideL sideZ; rw [Int.mul_comm]; omega
  · exact Int.le_of_lt (edge_pos h hi hj h1 h2)
theorem has_eq {l : List V} {p q : Int} (hE : checkE l = 0) : hasB l p q = insB l p q := by
  obtain ⟨h8, h3, hw, hr⟩ := checkE_zero hE
  have ht := tri_of_rows hr
  rw [Bool.eq_iff_iff, hasB_iff, insB_iff]
  constructor
  · rintro ⟨_, hp, ha⟩
    refine ⟨hp, ?_⟩
    -- the first m from 2 on of which p is not to the left
    have s1 : 0 ≤ sideP l 0 1 p q := by
      have := ha 0 (by omega)
      rwa [edgeP, Nat.mod_eq_of_lt (by omega)] at this
    have sn : sideP l 0 (l.length - 1) p q ≤ 0 := by
      have := ha (l.length - 1) (by omega)
      rw [edgeP, show l.length - 1 + 1 = l.length by omega, Nat.mod_self] at this
      unfold sideP
      have e : sideZ (px l 0) (py l 0) (px l (l.length - 1)) (py l (l.length - 1)) p q = - sideZ (px l (l.length - 1)) (py l (l.length - 1)) (px l 0) (py l 0) p q := by unfold sideZ; grind
      omega
    have down : ∀ e, e + 2 ≤ l.length → (∃ m, 2 ≤ m ∧ m < l.length ∧ 0 ≤ sideP l 0 (m - 1) p q ∧ sideP l 0 m p q ≤ 0) ∨ sideP l 0 (l.length - 1 - e) p q ≤ 0 := by
      intro e
      induction e with
      | zero => intro _; right; simpa using sn
      | succ e ih =>
        intro he
        rcases ih (by omega) with h | h
        · exact .inl h
        · rcases Int.lt_or_le (sideP l 0 (l.length - 1 - (e + 1)) p q) 0 with h2 | h2
          · exact .inr (by omega)
          · exact .inl ⟨l.length - 1 - e, by omega, by omega, by rw [show l.length - 1 - e - 1 = l.length - 1 - (e + 1) by omega]; exact h2, h⟩
    obtain ⟨m, hm2, hm, a, b⟩ : ∃ m, 2 ≤ m ∧ m < l.length ∧ 0 ≤ sideP l 0 (m - 1) p q ∧ sideP l 0 m p q ≤ 0 := by
      rcases down (l.length - 3) (by omega) with h | h
      · exact h
      · refine ⟨2, by omega, by omega, s1, ?_⟩
        rwa [show l.length - 1 - (l.length - 3) = 2 by omega] at h
    refine ⟨m, hm2, hm, decide_eq_true ⟨a, ?_, ?_⟩⟩
    · have := ha (m - 1) (by omega)
      rwa [edgeP, show m - 1 + 1 = m by omega, Nat.mod_eq_of_lt hm] at this
    · have e : sideP l m 0 p q = - sideP l 0 m p q := by unfold sideP sideZ; grind
      omega
  · rintro ⟨hp, m, hm2, hm, h⟩
    obtain ⟨a, b, c⟩ := of_decide_eq_true h
    refine ⟨hE, hp, fun i hi => ?_⟩
    have T := ht 0 (by omega) (m - 1) (by omega) (by omega) m (by omega) hm
    have e := bary (px l 0) (py l 0) (px l (m - 1)) (py l (m - 1)) (px l m) (py l m) p q (px l i) (py l i) (px l ((i + 1) % l.length)) (py l ((i + 1) % l.length))
    have m1 := Int.mul_nonneg b (edge_nonneg hr hi (show 0 < l.length by omega))
    have m2 := Int.mul_nonneg c (edge_nonneg hr hi (show m - 1 < l.length by omega))
    have m3 := Int.mul_nonneg a (edge_nonneg hr hi hm)
    refine nonneg_of_mul T ?_
    show 0 ≤ sideZ _ _ _ _ _ _ * sideZ _ _ _ _ _ _
    rw [e]
    unfold sideP sideL at *
    omega
end
end Go.Proofs.Ytilncglnojjlaaa
