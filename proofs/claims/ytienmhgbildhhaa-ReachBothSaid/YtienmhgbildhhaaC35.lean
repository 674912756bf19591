/- Parts of a proof: contracts and laws. -/
import Derived.Test.YtienmhgbildhhaaC34
namespace Go.Proofs.Ytienmhgbildhhaa
section
set_option linter.unusedVariables false
set_option linter.unusedSimpArgs false
open Go.RowKit

structure PlAt (w : World) (g : Nat) (b : Bd) (l : List V) (k : Nat) : Prop where
  lt : g < w.heap.size
  x : ∀ j, j < k → w.cell? ⟨g, j * 2, none⟩ = some (.int .i64 (wX b (px l j) (py l j)))
  y : ∀ j, j < k → w.cell? ⟨g, j * 2 + 1, none⟩ = some (.int .i64 (wY b (px l j) (py l j)))
  c : ∀ j, j < l.length * 2 → ∃ v, w.cell? ⟨g, j, none⟩ = some v
  free : ∀ j, w.frozen? ⟨g, j, none⟩ = false
theorem PlAt.drew {w : World} {g : Nat} {b : Bd} {l : List V} {k : Nat} (h : PlAt w g b l k) : PlAt w.drew g b l k := ⟨h.lt, h.x, h.y, h.c, h.free⟩
theorem PlAt.set {w : World} {g : Nat} {b : Bd} {l : List V} {k : Nat} (h : PlAt w g b l k) (hk : k < l.length) :
    PlAt ((w.setCell ⟨g, k * 2, none⟩ (.int .i64 (wX b (px l k) (py l k)))).setCell ⟨g, k * 2 + 1, none⟩ (.int .i64 (wY b (px l k) (py l k)))) g b l (k + 1) := by
  obtain ⟨z0, y0⟩ := h.c (k * 2) (by omega)
  obtain ⟨z1, y1⟩ := h.c (k * 2 + 1) (by omega)
  refine ⟨by simpa using h.lt, fun j hj => ?_, fun j hj => ?_, fun j hj => ?_, fun j => by rw [World.frozen?_setCell, World.frozen?_setCell]; exact h.free j⟩
  · by_cases e : j = k
    · subst e; go_simp
    · have := h.x j (by omega)
      have n1 : ¬ (k * 2 = j * 2) := by omega
      have n2 : ¬ (k * 2 + 1 = j * 2) := by omega
      have n3 : ¬ (j * 2 = k * 2) := by omega
      have n4 : ¬ (j * 2 = k * 2 + 1) := by omega
      go_simp
  · by_cases e : j = k
    · subst e; go_simp
    · have := h.y j (by omega)
      have n1 : ¬ (k * 2 = j * 2 + 1) := by omega
      have n2 : ¬ (k * 2 + 1 = j * 2 + 1) := by omega
      have n3 : ¬ (j * 2 + 1 = k * 2) := by omega
      have n4 : ¬ (j * 2 + 1 = k * 2 + 1) := by omega
      go_simp
  · obtain ⟨v, hv⟩ := h.c j hj
    by_cases e : k * 2 + 1 = j
    · subst e; exact ⟨.int .i64 (wY b (px l k) (py l k)), by go_simp⟩
    · by_cases e2 : k * 2 = j
      · subst e2; exact ⟨.int .i64 (wX b (px l k) (py l k)), by go_simp⟩
      · exact ⟨v, by go_simp⟩
theorem px_placeL {b : Bd} {l : List V} {j : Nat} (h : j < l.length) : px (placeL b l) j = wX b (px l j) (py l j) := by simp [px, py, placeL, h]
theorem py_placeL {b : Bd} {l : List V} {j : Nat} (h : j < l.length) : py (placeL b l) j = wY b (px l j) (py l j) := by simp [px, py, placeL, h]
set_option maxRecDepth 100000 in
set_option maxHeartbeats 4000000 in
end
end Go.Proofs.Ytienmhgbildhhaa
