/- Parts of a proof: contracts and laws. -/
import Derived.Test.YtkiiehobphkmgaaPZ00
import Derived.RegionTactic
import Derived.ChangeAlike
import Derived.Deep.QuietTactic
import Derived.BigQuiet
import Derived.Deep.RegionWith
import Derived.Deep.DeepCutAuto
import Derived.Deep.RegionHeld3
namespace Go.Proofs.Ytkiiehobphkmgaa
section
set_option linter.unusedVariables false
set_option linter.unusedSimpArgs false
open Go.RowKit








structure Blk8 (w : World) (g : Nat) (o : Nat → Int) : Prop where
  cell : ∀ j, j < 8 → w.cell? ⟨g, j, none⟩ = some (.int .u32 (o j))
  free : ∀ j, w.frozen? ⟨g, j, none⟩ = false
theorem Blk8.set {w : World} {g k : Nat} {o o' : Nat → Int} {v : Int} (h : Blk8 w g o) (hk : k < 8) (hv : o' k = v) (ho : ∀ j, j ≠ k → o' j = o j) : Blk8 (w.setCell ⟨g, k, none⟩ (.int .u32 v)) g o' := by
  refine ⟨fun j hj => ?_, fun j => by rw [World.frozen?_setCell]; exact h.free j⟩
  by_cases e : j = k
  · subst e
    rw [World.cell?_setCell_same _ _ _ (h.cell j hj), hv]
  · rw [World.cell?_setCell_other _ _ _ _ (by simp only [ne_eq, Addr.mk.injEq, true_and, and_true]; exact fun h => e h.symm), h.cell j hj, ho j e]
theorem Blk8.below {w w' : World} {B g : Nat} {o : Nat → Int} (h : Blk8 w g o) (hb : Below B w w') (hg : g < B) : Blk8 w' g o :=
  ⟨fun j hj => ((bcell hb).1 _ _ hg).trans (h.cell j hj), fun j => ((bcell hb).2 _ _ hg).trans (h.free j)⟩
theorem Blk8.far {w : World} {g : Nat} {o : Nat → Int} (h : Blk8 w g o) {p : Addr} (hp : p.block ≠ g) (u : Value) : Blk8 (w.setCell p u) g o :=
  ⟨fun j hj => by rw [World.cell?_setCell_other _ _ _ _ (by rintro rfl; exact hp rfl)]; exact h.cell j hj, fun j => by rw [World.frozen?_setCell]; exact h.free j⟩
theorem Blk8.drew {w : World} {g : Nat} {o : Nat → Int} (h : Blk8 w g o) : Blk8 w.drew g o := ⟨h.cell, h.free⟩
theorem Blk8.drewN {w : World} {g : Nat} {o : Nat → Int} (h : Blk8 w g o) (n : Nat) : Blk8 (w.drewN n) g o := ⟨h.cell, h.free⟩
theorem lt_of_cell {w : World} {g i : Nat} {v : Value} (h : w.cell? ⟨g, i, none⟩ = some v) : g < w.heap.size := by
  rcases Nat.lt_or_ge g w.heap.size with h1 | h1
  · exact h1
  · have : w.heap[g]? = none := Array.getElem?_eq_none h1
    simp [World.cell?, this] at h
theorem Blk8.lt {w : World} {g : Nat} {o : Nat → Int} (h : Blk8 w g o) : g < w.heap.size := lt_of_cell (h.cell 0 (by omega))
theorem Blk8.all {w : World} {g : Nat} {o : Nat → Int} (h : Blk8 w g o) :
    w.cell? ⟨g, 0, none⟩ = some (.int .u32 (o 0)) ∧ w.cell? ⟨g, 1, none⟩ = some (.int .u32 (o 1)) ∧ w.cell? ⟨g, 2, none⟩ = some (.int .u32 (o 2)) ∧ w.cell? ⟨g, 3, none⟩ = some (.int .u32 (o 3)) ∧
    w.cell? ⟨g, 4, none⟩ = some (.int .u32 (o 4)) ∧ w.cell? ⟨g, 5, none⟩ = some (.int .u32 (o 5)) ∧ w.cell? ⟨g, 6, none⟩ = some (.int .u32 (o 6)) ∧ w.cell? ⟨g, 7, none⟩ = some (.int .u32 (o 7)) :=
  ⟨h.cell 0 (by omega), h.cell 1 (by omega), h.cell 2 (by omega), h.cell 3 (by omega), h.cell 4 (by omega), h.cell 5 (by omega), h.cell 6 (by omega), h.cell 7 (by omega)⟩
theorem Blk8.alloc {w : World} {g : Nat} {o : Nat → Int} (h : Blk8 w g o) (hg : g < w.heap.size) (x : Obj) : Blk8 (w.alloc x) g o :=
  h.below ((Below.refl _ _).alloc (Nat.le_refl _) x) hg
theorem Blk8.here (w : World) (t : TypeId) (o : Nat → Int) : Blk8 (w.alloc (.cells #[.int .u32 (o 0), .int .u32 (o 1), .int .u32 (o 2), .int .u32 (o 3), .int .u32 (o 4), .int .u32 (o 5), .int .u32 (o 6), .int .u32 (o 7)] t)) w.heap.size o := by
  refine ⟨fun j hj => ?_, fun j => by go_simp⟩
  match j, hj with
  | 0, _ | 1, _ | 2, _ | 3, _ | 4, _ | 5, _ | 6, _ | 7, _ => go_simp
theorem below_drewN' {B : Nat} {a w : World} (h : Below B a w) (n : Nat) : Below B a (w.drewN n) := ⟨h.os, h.tape, h.output, h.size, h.block⟩

def part (f g : Nat → Int) (k j : Nat) : Int := if j < k then f j else g j




theorem keepCell {w' w'' : World} {b o : Nat} {v : Value} (hb : Below w'.heap.size w' w'') (h : w'.cell? ⟨b, o, none⟩ = some v) : w''.cell? ⟨b, o, none⟩ = some v := ((bcell hb).1 _ _ (lt_of_cell h)).trans h
theorem keepBelow {w w' w'' : World} (hb : Below w'.heap.size w' w'') (h : Below w.heap.size w w') : Below w.heap.size w w'' := h.trans (hb.mono h.size)

def There (w : World) (g n : Nat) : Prop := ∀ j, j < n → (∃ v, w.cell? ⟨g, j, none⟩ = some v) ∧ w.frozen? ⟨g, j, none⟩ = false
theorem There.below {w w' : World} {g n : Nat} (hb : Below w.heap.size w w') (h : There w g n) : There w' g n := fun j hj => by
  obtain ⟨⟨v, hv⟩, hf⟩ := h j hj
  exact ⟨⟨v, keepCell hb hv⟩, ((bcell hb).2 _ _ (lt_of_cell hv)).trans hf⟩
theorem There.set {w : World} {g n : Nat} (h : There w g n) (a : Addr) (u : Value) : There (w.setCell a u) g n := fun j hj => by
  obtain ⟨⟨v, hv⟩, hf⟩ := h j hj
  obtain ⟨v', hv'⟩ := cell?_setCell_some (w := w) (p := a) (x := u) hv
  exact ⟨⟨v', hv'⟩, by rw [World.frozen?_setCell]; exact hf⟩
theorem There.get2 {w : World} {g : Nat} (h : There w g 2) : ∃ z0 z1 : Value, w.cell? ⟨g, 0, none⟩ = some z0 ∧ w.cell? ⟨g, 1, none⟩ = some z1 ∧ w.frozen? ⟨g, 0, none⟩ = false ∧ w.frozen? ⟨g, 1, none⟩ = false := by
  obtain ⟨⟨z0, h0⟩, f0⟩ := h 0 (by omega); obtain ⟨⟨z1, h1⟩, f1⟩ := h 1 (by omega)
  exact ⟨z0, z1, h0, h1, f0, f1⟩
theorem far1 {w : World} {b o g i : Nat} {u v : Value} (hne : g ≠ b) (h : w.cell? ⟨b, o, none⟩ = some v) : (w.setCell ⟨g, i, none⟩ u).cell? ⟨b, o, none⟩ = some v := by
  rw [World.cell?_setCell_other _ _ _ _ (by intro e; exact hne (congrArg Addr.block e))]; exact h

end
end Go.Proofs.Ytkiiehobphkmgaa
