/- Parts of a proof: contracts and laws. -/
import Derived.Test.YtkiiehobphkmgaaPZ11
import Derived.Maps.AppendAt
namespace Go.Proofs.Ytkiiehobphkmgaa
section
set_option linter.unusedVariables false
set_option linter.unusedSimpArgs false
open Go.RowKit

def OwnI (w : World) (B : Nat) (v : Value) (r : List Int) : Prop := w.ownsRow B 3 1 v r.length (r.map fun x => .int .i64 x)
theorem OwnI.nil (w : World) (B : Nat) : OwnI w B (.slice none 0 0) [] := World.ownsRow_nil _ _ _ _
theorem OwnI.kept {w w' : World} {B : Nat} {v : Value} {r : List Int} {row : Option Nat} (h : OwnI w B v r) (hg : w.grownBy w' row) (hr : v.ownBlock = none ∨ v.ownBlock ≠ row) : OwnI w' B v r := World.ownsRow.kept h hg hr
theorem OwnI.below {w w' : World} {B : Nat} {v : Value} {r : List Int} (h : OwnI w B v r) (hb : Below w.heap.size w w') : OwnI w' B v r :=
  h.kept (grown_of_below (row := none) hb) (by cases hv : v.ownBlock with | none => exact .inl rfl | some k => exact .inr (by simp))
theorem OwnI.alloc {w : World} {B : Nat} {v : Value} {r : List Int} (h : OwnI w B v r) (o : Obj) : OwnI (w.alloc o) B v r := World.ownsRow.alloc h o
theorem OwnI.drew {w : World} {B : Nat} {v : Value} {r : List Int} (h : OwnI w B v r) : OwnI w.drew B v r := h
theorem OwnI.grown {w w' : World} {B : Nat} {v : Value} {r : List Int} (h : OwnI w B v r) (hg : w.grownBy w' v.ownBlock) (hB : B ≤ w.heap.size) : Below B w w' :=
  (Below.refl B w).grown hg hB (fun k hk => (World.ownsRow.lt h k hk).1)
theorem OwnI.sl {w : World} {B : Nat} {v : Value} {r : List Int} (h : OwnI w B v r) : ∃ A n c, v = .slice A n c ∧ SlI w A n c r := by
  have hc := fun g hg => World.ownsRow.cells h (g := g) hg
  obtain ⟨h1, h2 | ⟨g, cap, cur, rfl, hb, hg, hn, hm, hs, ht⟩⟩ := h
  · obtain ⟨rfl, h0⟩ := h2
    refine ⟨none, 0, 0, rfl, ⟨h0.symm, by omega, by omega, fun hl => ?_⟩⟩
    exact absurd (List.length_eq_zero_iff.1 h0) hl
  · refine ⟨_, _, _, rfl, ⟨rfl, hn, by unfold maxLen at hm; omega, fun _ => ⟨g, 0, rfl, (Array.getElem?_eq_some_iff.1 hg).1, fun j hj => ?_⟩⟩⟩
    have := hc g rfl j (.int .i64 (r.getD j 0)) (by simp [hj])
    have hadd : (⟨g, 0, none⟩ : Addr).add j = ⟨g, 0 + j, none⟩ := by unfold Addr.add; split <;> simp_all
    rwa [hadd] at this


structure Hold1 (w : World) (g : Nat) (z : Int) : Prop where
  c : w.cell? ⟨g, 0, none⟩ = some (.int .i64 z)
  lt : g < w.heap.size
theorem Hold1.here (w : World) (z : Int) (t : TypeId) : Hold1 (w.alloc (.cells #[.int .i64 z] t)) w.heap.size z := ⟨by go_simp, by simp⟩
theorem Hold1.drew {w : World} {g : Nat} {z : Int} (h : Hold1 w g z) : Hold1 w.drew g z := ⟨h.c, h.lt⟩

structure B4 (w : World) (g : Nat) : Prop where
  c : ∃ x y z u : Value, w.cell? ⟨g, 0, none⟩ = some x ∧ w.cell? ⟨g, 1, none⟩ = some y ∧ w.cell? ⟨g, 2, none⟩ = some z ∧ w.cell? ⟨g, 3, none⟩ = some u
  free : ∀ j, w.frozen? ⟨g, j, none⟩ = false
theorem B4.lt {w : World} {g : Nat} (h : B4 w g) : g < w.heap.size := by obtain ⟨⟨_, _, _, _, h0, _⟩, _⟩ := h; exact lt_of_cell h0
theorem keepB4B {w w' : World} {B g : Nat} (hb : Below B w w') (hg : g < B) (h : B4 w g) : B4 w' g := by
  obtain ⟨⟨x, y, z, u, h0, h1, h2, h3⟩, hf⟩ := h
  exact ⟨⟨x, y, z, u, ((bcell hb).1 _ _ hg).trans h0, ((bcell hb).1 _ _ hg).trans h1, ((bcell hb).1 _ _ hg).trans h2, ((bcell hb).1 _ _ hg).trans h3⟩, fun j => ((bcell hb).2 _ _ hg).trans (hf j)⟩
theorem keepB4 {w w' : World} {g : Nat} (hb : Below w.heap.size w w') (h : B4 w g) : B4 w' g := keepB4B hb h.lt h
theorem B4.alloc {w : World} {g : Nat} (h : B4 w g) (o : Obj) : B4 (w.alloc o) g := keepB4 ((Below.refl _ _).alloc (Nat.le_refl _) _) h
theorem B4.drew {w : World} {g : Nat} (h : B4 w g) : B4 w.drew g := ⟨h.c, h.free⟩
theorem B4.here (w : World) (a b c d : Int) (t : TypeId) : B4 (w.alloc (.cells #[.int .i64 a, .int .i64 b, .int .i64 c, .int .i64 d] t)) w.heap.size :=
  ⟨⟨.int .i64 a, .int .i64 b, .int .i64 c, .int .i64 d, by go_simp, by go_simp, by go_simp, by go_simp⟩, fun j => by go_simp⟩
end
end Go.Proofs.Ytkiiehobphkmgaa
