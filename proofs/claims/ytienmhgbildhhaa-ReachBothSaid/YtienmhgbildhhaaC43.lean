/- Parts of a proof: contracts and laws. -/
import Derived.Test.YtienmhgbildhhaaC04
import Derived.Test.YtienmhgbildhhaaC02
namespace Go.Proofs.Ytienmhgbildhhaa
section
set_option linter.unusedVariables false
set_option linter.unusedSimpArgs false
open Go.RowKit
section
variable {P : Program} {ops : Array Oper} {Q : Exit → Act → World → Prop} {md : Region.Mode} {S : Nat → World → Prop} {T : Nat → Nat}
theorem U1 {fuel lev : Nat} {listed : Array Bool} {a : Act} {w : World} (i l : Nat) {o : Oper} (ho : ops[i]? = some o)
    (h : ∀ K' : Act → World → Prop, Shut (∀ a w, S l w → (S l w → wpAnyU P md ops Q S T fuel l (listed.setIfInBounds i true) a w) → K' a w) → if Region.wanted o (yielded ops a.tmps) = true then Oper.wp P o a w K' Q else K' (a.put o.dst undef) w)
    (hr : Region.ready md ops listed = [i] := by kernel_rfl) (hl : max lev (T i) = l := by kernel_rfl) : wpAnyU P md ops Q S T (fuel + 1) lev listed a w :=
  wpAnyU_ready hr (by simp) (AllReadyU.cons l hl ho h AllReadyU.nil)
end
end
end Go.Proofs.Ytienmhgbildhhaa
namespace Go.Proofs.Ytienmhgbildhhaa
section
set_option linter.unusedVariables false
set_option linter.unusedSimpArgs false
open Go.RowKit

structure Vp (w : World) (g : Nat) (x y : Int) : Prop where
  a : w.cell? ⟨g, 0, none⟩ = some (.int .i64 x)
  b : w.cell? ⟨g, 1, none⟩ = some (.int .i64 y)
  f : ∀ j, w.frozen? ⟨g, j, none⟩ = false
theorem keepVp {w w' : World} {g : Nat} {x y : Int} (hb : Below w.heap.size w w') (h : Vp w g x y) : Vp w' g x y :=
  ⟨keepCell hb h.a, keepCell hb h.b, fun j => ((bcell hb).2 _ _ (lt_of_cell h.a)).trans (h.f j)⟩
theorem Vp.lt {w : World} {g : Nat} {x y : Int} (h : Vp w g x y) : g < w.heap.size := lt_of_cell h.a
theorem Vp.alloc {w : World} {g : Nat} {x y : Int} (h : Vp w g x y) (o : Obj) : Vp (w.alloc o) g x y := keepVp ((Below.refl _ _).alloc (Nat.le_refl _) _) h
theorem Vp.drew {w : World} {g : Nat} {x y : Int} (h : Vp w g x y) : Vp w.drew g x y := ⟨h.a, h.b, h.f⟩
theorem Vp.here (w : World) (x y : Int) (t : TypeId) : Vp (w.alloc (.cells #[.int .i64 x, .int .i64 y] t)) w.heap.size x y := ⟨by go_simp, by go_simp, fun j => by go_simp⟩
theorem Vp.put {w : World} {g : Nat} {x y : Int} (h : Vp w g x y) (u v : Int) : Vp ((w.setCell ⟨g, 0, none⟩ (.int .i64 u)).setCell ⟨g, 1, none⟩ (.int .i64 v)) g u v := by
  obtain ⟨a, b, f⟩ := h
  exact ⟨by go_simp, by go_simp, fun j => by go_simp⟩
theorem Vp.off {w : World} {g k : Nat} {x y : Int} (h : Vp w g x y) (hne : g ≠ k) (u v : Value) : Vp ((w.setCell ⟨k, 0, none⟩ u).setCell ⟨k, 1, none⟩ v) g x y := by
  obtain ⟨a, b, f⟩ := h
  exact ⟨by go_simp, by go_simp, fun j => by go_simp⟩
def sm62 (a : Int) : Prop := -4611686018427387904 ≤ a ∧ a ≤ 4611686018427387904
set_option maxRecDepth 100000 in
set_option maxHeartbeats 4000000 in
set_option maxRecDepth 100000 in
set_option maxHeartbeats 4000000 in
end
end Go.Proofs.Ytienmhgbildhhaa
