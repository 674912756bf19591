/- Plain mathematics of the polygons that tourmake makes, and of moved polygons. No program is in sight. -/
import Derived.Test.YtjoodpjndpdjnaaA14
namespace Go.Proofs.Ytjoodpjndpdjnaa
set_option linter.unusedVariables false
set_option linter.unusedSimpArgs false
open Go.RowKit

/-- the four forms of tourmake.Poly -/
def formL (w h : Int) (k : Int) (x : Int) : List V :=
  if k = 0 then [(-w, -h), (w, -h), (w, h), (-w, h)]
  else if k = 1 then [(-w, -h), (w, -h), (x, h)]
  else if k = 2 then [(-w, -h), (w - min w h / 2, -h), (w, min w h / 2 - h), (w, h), (-w, h)]
  else [(-w, 0), (0, -h), (w, 0), (0, h)]
theorem formL_nox (w h k x : Int) (hk : k ≠ 1) : formL w h k x = formL w h k 0 := by unfold formL; rw [if_neg hk, if_neg hk]
/-- a polygon that tourmake.Poly makes -/
def Made (l : List V) : Prop :=
  ∃ a b k x : Int, (a = 1 ∨ a = 2 ∨ a = 3 ∨ a = 4) ∧ (b = 1 ∨ b = 2 ∨ b = 3 ∨ b = 4) ∧ (k = 0 ∨ k = 1 ∨ k = 2 ∨ k = 3) ∧ -(65536 * a) ≤ x ∧ x < 65536 * a ∧ l = formL (65536 * a) (65536 * b) k x

theorem made_tri (w h x : Int) (hw : 0 < w) (hh : 0 < h) (hw2 : w ≤ 65536000) (hh2 : h ≤ 65536000) (h1 : -w ≤ x) (h2 : x < w) : checkE [(-w, -h), (w, -h), (x, h)] = 0 := by
  refine checkE_ok (by simp) (by simp) ?_ ?_
  · simp [allWithin, withinB]; omega
  · have hp := Int.mul_pos hw hh
    intro i hi k hk
    simp only [List.length_cons, List.length_nil] at hi hk
    refine edgeBad_not ?_
    match i, hi, k, hk with
    | 0, _, 0, _ => exact .inl rfl
    | 0, _, 1, _ => exact .inr (.inl rfl)
    | 0, _, 2, _ => refine .inr (.inr ?_); simp [sideL, sideZ, px, py]; grind
    | 1, _, 0, _ => refine .inr (.inr ?_); simp [sideL, sideZ, px, py]; grind
    | 1, _, 1, _ => exact .inl rfl
    | 1, _, 2, _ => exact .inr (.inl rfl)
    | 2, _, 0, _ => exact .inr (.inl (by simp))
    | 2, _, 1, _ => refine .inr (.inr ?_); simp [sideL, sideZ, px, py]; grind
    | 2, _, 2, _ => exact .inl rfl

theorem made_check {l : List V} (h : Made l) : checkE l = 0 := by
  obtain ⟨a, b, k, x, ha, hb, hk, h1, h2, rfl⟩ := h
  rcases hk with rfl | rfl | rfl | rfl
  · rw [formL_nox _ _ _ _ (by decide)]; rcases ha with rfl | rfl | rfl | rfl <;> rcases hb with rfl | rfl | rfl | rfl <;> decide
  · exact made_tri _ _ _ (by omega) (by omega) (by omega) (by omega) h1 h2
  · rw [formL_nox _ _ _ _ (by decide)]; rcases ha with rfl | rfl | rfl | rfl <;> rcases hb with rfl | rfl | rfl | rfl <;> decide
  · rw [formL_nox _ _ _ _ (by decide)]; rcases ha with rfl | rfl | rfl | rfl <;> rcases hb with rfl | rfl | rfl | rfl <;> decide
theorem made_within {l : List V} (h : Made l) : allWithin 262144 l = true := by
  obtain ⟨a, b, k, x, ha, hb, hk, h1, h2, rfl⟩ := h
  rcases hk with rfl | rfl | rfl | rfl
  · simp [formL, allWithin, withinB]; omega
  · simp [formL, allWithin, withinB]; omega
  · simp [formL, allWithin, withinB]; omega
  · simp [formL, allWithin, withinB]; omega
theorem made_len {l : List V} (h : Made l) : 3 ≤ l.length ∧ l.length ≤ 5 := by
  obtain ⟨a, b, k, x, ha, hb, hk, h1, h2, rfl⟩ := h
  rcases hk with rfl | rfl | rfl | rfl <;> simp [formL]

/-- a moved polygon -/
def movL (l : List V) (u v : Int) : List V := l.map fun p => (p.1 + u, p.2 + v)
theorem movL_len (l : List V) (u v : Int) : (movL l u v).length = l.length := by simp [movL]
theorem px_movL {l : List V} {u v : Int} {j : Nat} (h : j < l.length) : px (movL l u v) j = px l j + u := by simp [px, movL, h]
theorem py_movL {l : List V} {u v : Int} {j : Nat} (h : j < l.length) : py (movL l u v) j = py l j + v := by simp [py, movL, h]
theorem sideL_movL {l : List V} {u v : Int} {i j k : Nat} (hi : i < l.length) (hj : j < l.length) (hk : k < l.length) : sideL (movL l u v) i j k = sideL l i j k := by
  unfold sideL sideZ
  rw [px_movL hi, py_movL hi, px_movL hj, py_movL hj, px_movL hk, py_movL hk]
  grind
theorem within_movL {l : List V} {u v m n : Int} (h : allWithin m l = true) (hu : -n ≤ u ∧ u ≤ n) (hv : -n ≤ v ∧ v ≤ n) : allWithin (m + n) (movL l u v) = true := by
  simp only [allWithin, List.all_eq_true, movL, List.mem_map] at *
  rintro p ⟨q, hq, rfl⟩
  have := withinB_iff.1 (h q hq)
  refine withinB_iff.2 ?_
  dsimp only
  omega
theorem within_le {l : List V} {m n : Int} (h : allWithin m l = true) (hmn : m ≤ n) : allWithin n l = true := by
  simp only [allWithin, List.all_eq_true] at *
  intro p hp
  have := withinB_iff.1 (h p hp)
  refine withinB_iff.2 ?_
  omega
theorem checkE_movL {l : List V} {u v : Int} (h : checkE l = 0) (hw : allWithin 65536000 (movL l u v) = true) : checkE (movL l u v) = 0 := by
  obtain ⟨h8, h3, _, hr⟩ := checkE_zero h
  refine checkE_ok (by rw [movL_len]; exact h8) (by rw [movL_len]; exact h3) hw ?_
  rw [movL_len]
  intro i hi k hk
  rw [movL_len] at hk
  have := hr i hi k hk
  unfold edgeBad at *
  rw [movL_len, sideL_movL hi (Nat.mod_lt _ (by omega)) hk]
  exact this
theorem areaTo_movL {l : List V} {u v : Int} (k : Nat) (hk : k + 2 ≤ l.length) : areaTo (movL l u v) k = areaTo l k := by
  induction k with
  | zero => rfl
  | succ k ih => simp only [areaTo]; rw [ih (by omega), sideL_movL (by omega) (by omega) (by omega)]
theorem areaZ_movL {l : List V} {u v : Int} (h : 3 ≤ l.length) : areaZ (movL l u v) = areaZ l := by
  unfold areaZ
  rw [movL_len, areaTo_movL _ (by omega)]
theorem dotL_movL {l : List V} {u v d e : Int} {j : Nat} (h : j < l.length) : dotL (movL l u v) d e j = dotL l d e j + (u * d + v * e) := by
  unfold dotL
  rw [px_movL h, py_movL h]
  grind
theorem supTo_movL {l : List V} {u v d e : Int} (k : Nat) (hk : k ≤ l.length) (h0 : 0 < l.length) : supTo (movL l u v) d e k = supTo l d e k := by
  induction k with
  | zero => rfl
  | succ k ih =>
    simp only [supTo]
    rw [ih (by omega)]
    have hs := supTo_lt l d e k (by omega) h0
    rw [dotL_movL hs, dotL_movL (by omega)]
    split <;> split <;> omega
theorem suppZ_movL {l : List V} {u v d e : Int} (h : checkE l = 0) (hm : checkE (movL l u v) = 0) : suppZ (movL l u v) d e = suppZ l d e := by
  obtain ⟨h8, h3, _, _⟩ := checkE_zero h
  unfold suppZ
  rw [if_pos h, if_pos hm, movL_len, supTo_movL _ (by omega) (by omega)]
theorem supTo_max {l : List V} {d e : Int} (k : Nat) {j : Nat} (hj : j < k) : dotL l d e j ≤ dotL l d e (supTo l d e k) := by
  induction k with
  | zero => omega
  | succ k ih =>
    simp only [supTo]
    by_cases hjk : j = k
    · subst hjk; split <;> omega
    · have := ih (by omega)
      split <;> omega

/-- the parts into which a diagonal divides a made polygon -/
theorem made_cut {l : List V} (h : Made l) (h4 : 4 ≤ l.length) {k : Nat} (h2 : 2 ≤ k) (hk : k + 1 < l.length) :
    checkE (l.take (k + 1)) = 0 ∧ checkE ((px l 0, py l 0) :: l.drop k) = 0 ∧ areaZ (l.take (k + 1)) + areaZ ((px l 0, py l 0) :: l.drop k) = areaZ l := by
  obtain ⟨a, b, s, x, ha, hb, hs, _, _, rfl⟩ := h
  rcases hs with rfl | rfl | rfl | rfl
  · obtain rfl : k = 2 := by simp [formL] at hk; omega
    rw [formL_nox _ _ _ _ (by decide)]
    rcases ha with rfl | rfl | rfl | rfl <;> rcases hb with rfl | rfl | rfl | rfl <;> decide
  · simp [formL] at h4
  · obtain rfl | rfl : k = 2 ∨ k = 3 := by simp [formL] at hk; omega
    all_goals rw [formL_nox _ _ _ _ (by decide)]
    all_goals rcases ha with rfl | rfl | rfl | rfl <;> rcases hb with rfl | rfl | rfl | rfl <;> decide
  · obtain rfl : k = 2 := by simp [formL] at hk; omega
    rw [formL_nox _ _ _ _ (by decide)]
    rcases ha with rfl | rfl | rfl | rfl <;> rcases hb with rfl | rfl | rfl | rfl <;> decide
theorem area_pos {l : List V} (h : checkE l = 0) : 0 < areaZ l := by
  obtain ⟨h8, h3, hw, hr⟩ := checkE_zero h
  have key : ∀ k, k + 3 ≤ l.length → 0 < areaTo l (k + 1) := by
    intro k
    induction k with
    | zero =>
      intro hk
      have := hr 0 (by omega) 2 (by omega)
      simp only [edgeBad, decide_eq_false_iff_not, Nat.zero_add] at this
      rw [Nat.mod_eq_of_lt (by omega)] at this
      have e : areaTo l 1 = 0 + sideL l 0 1 2 := rfl
      rw [Nat.zero_add, e]
      omega
    | succ k ih =>
      intro hk
      have h1 := ih (by omega)
      have := hr (k + 2) (by omega) 0 (by omega)
      simp only [edgeBad, decide_eq_false_iff_not] at this
      rw [Nat.mod_eq_of_lt (by omega)] at this
      have e : sideL l 0 (k + 2) (k + 3) = sideL l (k + 2) (k + 2 + 1) 0 := by unfold sideL sideZ; grind
      rw [areaTo, show k + 1 + 1 = k + 2 from rfl, show k + 1 + 2 = k + 3 from rfl, e]
      omega
  have := key (l.length - 3) (by omega)
  rwa [show l.length - 3 + 1 = l.length - 2 by omega] at this

end Go.Proofs.Ytjoodpjndpdjnaa
