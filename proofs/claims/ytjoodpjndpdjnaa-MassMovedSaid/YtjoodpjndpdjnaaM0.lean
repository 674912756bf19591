/- Plain mathematics: bounds of products, polygons. No program is in sight. -/
import Derived.Test.YtjoodpjndpdjnaaA0
namespace Go.Proofs.Ytjoodpjndpdjnaa
set_option linter.unusedVariables false
set_option linter.unusedSimpArgs false
open Go.RowKit

theorem mul_bd {x y M N : Int} (h1 : -M ≤ x) (h2 : x ≤ M) (h3 : -N ≤ y) (h4 : y ≤ N) : -(M * N) ≤ x * y ∧ x * y ≤ M * N := by
  have a := Int.mul_nonneg (show 0 ≤ M - x by omega) (show 0 ≤ N + y by omega)
  have b := Int.mul_nonneg (show 0 ≤ M + x by omega) (show 0 ≤ N - y by omega)
  have c := Int.mul_nonneg (show 0 ≤ M - x by omega) (show 0 ≤ N - y by omega)
  have d := Int.mul_nonneg (show 0 ≤ M + x by omega) (show 0 ≤ N + y by omega)
  grind

def withinB (m a b : Int) : Bool := decide (-m ≤ a ∧ a ≤ m ∧ -m ≤ b ∧ b ≤ m)
def sideZ (a b c d p q : Int) : Int := (c - a) * (q - b) - (d - b) * (p - a)

theorem withinB_iff {m a b : Int} : withinB m a b = true ↔ (-m ≤ a ∧ a ≤ m ∧ -m ≤ b ∧ b ≤ m) := by simp [withinB]

theorem wrap64_id {n : Int} (h1 : -9223372036854775808 ≤ n) (h2 : n ≤ 9223372036854775807) : wrap64 n = n := IntWalk.wrap64_in n ⟨h1, by omega⟩

theorem sideZ_wrap {a b c d p q : Int} (h1 : withinB 65536000 a b = true) (h2 : withinB 65536000 c d = true) (h3 : withinB 65536000 p q = true) :
    wrap64 (wrap64 (wrap64 (c - a) * wrap64 (q - b)) - wrap64 (wrap64 (d - b) * wrap64 (p - a))) = sideZ a b c d p q
    ∧ -34359738368000000 ≤ sideZ a b c d p q ∧ sideZ a b c d p q ≤ 34359738368000000 := by
  obtain ⟨_, _, _, _⟩ := withinB_iff.1 h1
  obtain ⟨_, _, _, _⟩ := withinB_iff.1 h2
  obtain ⟨_, _, _, _⟩ := withinB_iff.1 h3
  have m1 := mul_bd (x := c - a) (y := q - b) (M := 131072000) (N := 131072000) (by omega) (by omega) (by omega) (by omega)
  have m2 := mul_bd (x := d - b) (y := p - a) (M := 131072000) (N := 131072000) (by omega) (by omega) (by omega) (by omega)
  rw [wrap64_id (n := c - a) (by omega) (by omega), wrap64_id (n := q - b) (by omega) (by omega), wrap64_id (n := d - b) (by omega) (by omega), wrap64_id (n := p - a) (by omega) (by omega)]
  unfold sideZ
  generalize (c - a) * (q - b) = X at *
  generalize (d - b) * (p - a) = Y at *
  rw [wrap64_id (n := X) (by omega) (by omega), wrap64_id (n := Y) (by omega) (by omega), wrap64_id (by omega) (by omega)]
  omega

/-- corner j of a polygon, as coordinates; the edge from corner i -/
def sideL (l : List V) (i k m : Nat) : Int := sideZ (px l i) (py l i) (px l k) (py l k) (px l m) (py l m)
def allWithin (m : Int) (l : List V) : Bool := l.all fun p => withinB m p.1 p.2
theorem any_not_within (m : Int) (l : List V) : (l.any fun p => !withinB m p.1 p.2) = !allWithin m l := by
  unfold allWithin
  induction l with
  | nil => rfl
  | cons a l ih => simp [ih]
theorem allWithin_at {m : Int} {l : List V} (h : allWithin m l = true) {j : Nat} (hj : j < l.length) : withinB m (px l j) (py l j) = true := by
  have := List.all_eq_true.1 h l[j] (List.getElem_mem hj)
  simpa [px, py, hj] using this

def edgeBad (l : List V) (i k : Nat) : Bool := decide (k ≠ i ∧ k ≠ (i + 1) % l.length ∧ sideL l i ((i + 1) % l.length) k ≤ 0)
def rowsOk (l : List V) (i : Nat) : Prop := ∀ i', i' < i → ∀ k, k < l.length → edgeBad l i' k = false
def colsOk (l : List V) (i k : Nat) : Prop := ∀ k', k' < k → edgeBad l i k' = false

/-- poly.Check -/
def checkE (l : List V) : Int :=
  if 8 < l.length then 2 else if l.length < 3 then 3 else if allWithin 65536000 l = false then 1
  else if (List.range l.length).any (fun i => (List.range l.length).any fun k => edgeBad l i k) then 3 else 0

theorem checkE_bad {l : List V} {i k : Nat} (h8 : l.length ≤ 8) (h3 : 3 ≤ l.length) (hw : allWithin 65536000 l = true) (hi : i < l.length) (hk : k < l.length) (hb : edgeBad l i k = true) : checkE l = 3 := by
  unfold checkE
  rw [if_neg (by omega), if_neg (by omega), if_neg (by simp [hw]), if_pos]
  simp only [List.any_eq_true, List.mem_range]
  exact ⟨i, hi, k, hk, hb⟩
theorem checkE_ok {l : List V} (h8 : l.length ≤ 8) (h3 : 3 ≤ l.length) (hw : allWithin 65536000 l = true) (h : rowsOk l l.length) : checkE l = 0 := by
  unfold checkE
  rw [if_neg (by omega), if_neg (by omega), if_neg (by simp [hw]), if_neg]
  simp only [List.any_eq_true, List.mem_range, not_exists, not_and]
  intro i hi k hk
  simp [h i hi k hk]
theorem checkE_zero {l : List V} (h : checkE l = 0) : l.length ≤ 8 ∧ 3 ≤ l.length ∧ allWithin 65536000 l = true ∧ rowsOk l l.length := by
  unfold checkE at h
  split at h
  · omega
  · split at h
    · omega
    · split at h
      · omega
      · split at h
        · omega
        · rename_i h1 h2 h3 h4
          refine ⟨by omega, by omega, by simpa using h3, fun i hi k hk => ?_⟩
          cases e : edgeBad l i k with
          | false => rfl
          | true =>
            exfalso
            apply h4
            simp only [List.any_eq_true, List.mem_range]
            exact ⟨i, hi, k, hk, e⟩
theorem checkE_cases (l : List V) : checkE l = 0 ∨ checkE l = 1 ∨ checkE l = 2 ∨ checkE l = 3 := by
  unfold checkE
  split
  · simp
  · split
    · simp
    · split
      · simp
      · split <;> simp
theorem rowsOk_zero (l : List V) : rowsOk l 0 := fun _ h => absurd h (by omega)
theorem colsOk_zero (l : List V) (i : Nat) : colsOk l i 0 := fun _ h => absurd h (by omega)
theorem colsOk_succ {l : List V} {i k : Nat} (h : colsOk l i k) (hb : edgeBad l i k = false) : colsOk l i (k + 1) := fun k' hk => by
  by_cases e : k' = k
  · subst e; exact hb
  · exact h k' (by omega)
theorem rowsOk_succ {l : List V} {i : Nat} (h : rowsOk l i) (hb : colsOk l i l.length) : rowsOk l (i + 1) := fun i' hi k hk => by
  by_cases e : i' = i
  · subst e; exact hb k hk
  · exact h i' (by omega) k hk
theorem edgeBad_of {l : List V} {i k : Nat} (h1 : k ≠ i) (h2 : k ≠ (i + 1) % l.length) (h3 : sideL l i ((i + 1) % l.length) k ≤ 0) : edgeBad l i k = true := by simp [edgeBad, *]
theorem edgeBad_not {l : List V} {i k : Nat} (h : k = i ∨ k = (i + 1) % l.length ∨ 0 < sideL l i ((i + 1) % l.length) k) : edgeBad l i k = false := by
  simp only [edgeBad, decide_eq_false_iff_not]; omega

end Go.Proofs.Ytjoodpjndpdjnaa
