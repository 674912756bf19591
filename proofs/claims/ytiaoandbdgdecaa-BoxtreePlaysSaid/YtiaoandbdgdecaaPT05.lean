/- Parts of a proof: contracts and laws. -/
import Derived.Test.YtiaoandbdgdecaaPT01
import Derived.Test.YtiaoandbdgdecaaPT00
import Derived.Test.YtiaoandbdgdecaaPT02
import Derived.Deep.DeepCutAuto
import Derived.Test.YtiaoandbdgdecaaPT04
import Derived.BigQuiet
import Derived.WalkSpells
import Derived.Laws.Bits64b
import Derived.Laws.MathBits
import Derived.Deep.WholeRow
import Derived.Maps.AppendAt
namespace Go.Proofs.Ytiaoandbdgdecaa
section
set_option linter.unusedVariables false
set_option linter.unusedSimpArgs false
open Go.RowKit

structure VZ (w : World) (g : Nat) : Prop where
  c : ∃ x y : Value, w.cell? ⟨g, 0, none⟩ = some x ∧ w.cell? ⟨g, 1, none⟩ = some y
  free : ∀ j, w.frozen? ⟨g, j, none⟩ = false
theorem keepVZ {w w' : World} {g : Nat} (hb : Below w.heap.size w w') (h : VZ w g) : VZ w' g := by
  obtain ⟨⟨x, y, h0, h1⟩, hf⟩ := h
  exact ⟨⟨x, y, keepCell hb h0, keepCell hb h1⟩, fun j => ((bcell hb).2 _ _ (lt_of_cell h0)).trans (hf j)⟩
theorem VZ.lt {w : World} {g : Nat} (h : VZ w g) : g < w.heap.size := by obtain ⟨⟨_, _, h0, _⟩, _⟩ := h; exact lt_of_cell h0
theorem VZ.alloc {w : World} {g : Nat} (h : VZ w g) (o : Obj) : VZ (w.alloc o) g := keepVZ ((Below.refl _ _).alloc (Nat.le_refl _) _) h
theorem VZ.drew {w : World} {g : Nat} (h : VZ w g) : VZ w.drew g := ⟨h.c, h.free⟩
theorem VZ.here (w : World) (a b : Int) (t : TypeId) : VZ (w.alloc (.cells #[.int .i64 a, .int .i64 b] t)) w.heap.size :=
  ⟨⟨.int .i64 a, .int .i64 b, by go_simp, by go_simp⟩, fun j => by go_simp⟩
theorem VZ.set {w : World} {g : Nat} (h : VZ w g) (a : Addr) (u : Value) : VZ (w.setCell a u) g := by
  obtain ⟨⟨x, y, h0, h1⟩, hf⟩ := h
  refine ⟨?_, fun j => by rw [World.frozen?_setCell]; exact hf j⟩
  have e : ∀ j z, w.cell? ⟨g, j, none⟩ = some z → ∃ z', (w.setCell a u).cell? ⟨g, j, none⟩ = some z' := fun j z hz => by
    by_cases ha : a = ⟨g, j, none⟩
    · subst ha; exact ⟨u, by go_simp⟩
    · exact ⟨z, by go_simp⟩
  obtain ⟨z0, e0⟩ := e 0 x h0
  obtain ⟨z1, e1⟩ := e 1 y h1
  exact ⟨z0, z1, e0, e1⟩
end
end Go.Proofs.Ytiaoandbdgdecaa
