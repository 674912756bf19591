/- Small helpers: allocations keep slices and cells; the greatest of four. -/
import Derived.Test.YtjoodpjndpdjnaaR2
import Derived.Test.YtjoodpjndpdjnaaA10
import Derived.Test.YtjoodpjndpdjnaaM0
namespace Go.Proofs.Ytjoodpjndpdjnaa
set_option linter.unusedVariables false
set_option linter.unusedSimpArgs false
open Go.RowKit

theorem Sl.alloc {w : World} {A : Option Addr} {n c : Nat} {l : List V} (h : Sl w A n c l) (o : Obj) : Sl (w.alloc o) A n c l := h.below ((Below.refl _ _).alloc (Nat.le_refl _) _)
theorem There.alloc {w : World} {g n : Nat} (h : There w g n) (o : Obj) : There (w.alloc o) g n := There.below ((Below.refl _ _).alloc (Nat.le_refl _) _) h
theorem There.fresh2 {w : World} {u v : Value} {t : TypeId} (hu : u.oneCell' = true) (hv : v.oneCell' = true) : There (w.alloc (.cells #[u, v] t)) w.heap.size 2 := fun j hj => by
  match j, hj with
  | 0, _ | 1, _ => exact ⟨⟨_, by go_simp; rfl⟩, by go_simp⟩
theorem There.sets8 {w : World} {g n b : Nat} {v0 v1 v2 v3 v4 v5 v6 v7 : Value} (h : There w g n) : There ((((((((w.setCell ⟨b, 0, none⟩ v0).setCell ⟨b, 1, none⟩ v1).setCell ⟨b, 2, none⟩ v2).setCell ⟨b, 3, none⟩ v3).setCell ⟨b, 4, none⟩ v4).setCell ⟨b, 5, none⟩ v5).setCell ⟨b, 6, none⟩ v6).setCell ⟨b, 7, none⟩ v7) g n := (((((((h.set _ _).set _ _).set _ _).set _ _).set _ _).set _ _).set _ _).set _ _
theorem all_within {m : Int} {l : List V} (h : ∀ j, j < l.length → withinB m (px l j) (py l j) = true) : allWithin m l = true := by
  unfold allWithin
  rw [List.all_eq_true]
  intro x hx
  obtain ⟨j, hj, rfl⟩ := List.mem_iff_getElem.1 hx
  have := h j hj
  rw [px_lt hj]
  exact this

theorem run_max4 {P : Program} (ts : Array TypeId) (t : TypeId) (x y z u : Int) (w : World) : (Builtin.max_ ts t #[.int .i64 x, .int .i64 y, .int .i64 z, .int .i64 u]).run P w = .ok (.int .i64 (max (max (max x y) z) u)) w := by
  have e : ∀ a b : Int, max a b = if b > a then b else a := fun a b => by rw [Int.max_def]; split <;> split <;> omega
  simp only [e]
  simp [Builtin.max_, Builtin.max2]

end Go.Proofs.Ytjoodpjndpdjnaa
