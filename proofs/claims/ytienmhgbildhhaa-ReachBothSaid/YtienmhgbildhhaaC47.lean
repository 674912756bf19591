/- Parts of a proof: contracts and laws. -/
import Derived.Test.YtienmhgbildhhaaC46
import Derived.Test.YtienmhgbildhhaaC45
import Derived.Maps.AppendAt
import Derived.Test.YtienmhgbildhhaaC44
import Derived.Test.YtienmhgbildhhaaC24
import Derived.Test.YtienmhgbildhhaaC28
import Derived.Test.YtienmhgbildhhaaC31
import Derived.Test.YtienmhgbildhhaaC17
import Derived.Test.YtienmhgbildhhaaC10
import Derived.Test.YtienmhgbildhhaaC04
import Derived.BigQuiet
namespace Go.Proofs.Ytienmhgbildhhaa
section
set_option linter.unusedVariables false
set_option linter.unusedSimpArgs false
open Go.RowKit


structure MN (w0 : World) (s : Value) (o : List V) (w : World) : Prop where
  own : Own w w0.heap.size s o
  bel : Below w0.heap.size w0 w
theorem MN.keep {w0 : World} {s : Value} {o : List V} {w w' : World} (hb : Below w.heap.size w w') (h : MN w0 s o w) : MN w0 s o w' := ⟨h.own.below hb, keepBelow hb h.bel⟩

structure MI (w0 : World) (g : Nat) (x y : Int) (s : Value) (o : List V) (w : World) : Prop where
  mn : MN w0 s o w
  a : w.cell? ⟨g, 0, none⟩ = some (.int .i64 x)
  b : w.cell? ⟨g, 1, none⟩ = some (.int .i64 y)
  ob : ∀ k, s.ownBlock = some k → k ≠ g
theorem MI.keep {w0 : World} {g : Nat} {x y : Int} {s : Value} {o : List V} {w w' : World} (hb : Below w.heap.size w w') (h : MI w0 g x y s o w) : MI w0 g x y s o w' := ⟨h.mn.keep hb, keepCell hb h.a, keepCell hb h.b, h.ob⟩
theorem MI.app {w0 : World} {g : Nat} {x y : Int} {s s' : Value} {o o' : List V} {w w' : World} (h : MI w0 g x y s o w) (ho : Own w' w0.heap.size s' o') (hg : w.grownBy w' s.ownBlock) (hat : s'.ownBlock = s.ownBlock ∨ s'.ownBlock = some w.heap.size) : MI w0 g x y s' o' w' := by
  have hne : some g ≠ s.ownBlock := fun e => h.ob g e.symm rfl
  refine ⟨⟨ho, h.mn.bel.grown hg h.mn.bel.size (fun k hk => (World.ownsRow.lt h.mn.own k hk).1)⟩, hg.cell h.a hne, hg.cell h.b hne, fun k hk => ?_⟩
  rcases hat with q | q
  · exact h.ob k (by rw [← q]; exact hk)
  · have := lt_of_cell h.a
    rw [q] at hk
    cases hk
    omega
set_option maxRecDepth 100000 in
set_option maxHeartbeats 8000000 in
end
end Go.Proofs.Ytienmhgbildhhaa
namespace Go.Proofs.Ytienmhgbildhhaa
section
set_option linter.unusedVariables false
set_option linter.unusedSimpArgs false
open Go.RowKit

set_option maxRecDepth 100000 in
set_option maxHeartbeats 2000000 in
set_option maxRecDepth 100000 in
set_option maxHeartbeats 2000000 in
end
end Go.Proofs.Ytienmhgbildhhaa
namespace Go.Proofs.Ytienmhgbildhhaa
section
set_option linter.unusedVariables false
set_option linter.unusedSimpArgs false
open Go.RowKit

set_option maxRecDepth 100000 in
set_option maxHeartbeats 2000000 in
end
end Go.Proofs.Ytienmhgbildhhaa
namespace Go.Proofs.Ytienmhgbildhhaa
section
set_option linter.unusedVariables false
set_option linter.unusedSimpArgs false
open Go.RowKit



set_option maxRecDepth 100000 in
set_option maxHeartbeats 4000000 in
end
end Go.Proofs.Ytienmhgbildhhaa
namespace Go.Proofs.Ytienmhgbildhhaa
section
set_option linter.unusedVariables false
set_option linter.unusedSimpArgs false
open Go.RowKit
set_option maxRecDepth 100000 in
set_option maxHeartbeats 1000000 in
end
end Go.Proofs.Ytienmhgbildhhaa
