/- Parts of a proof: contracts and laws. -/
import Derived.Test.YtienmhgbildhhaaC41
import Derived.Test.YtienmhgbildhhaaC43
import Derived.Test.YtienmhgbildhhaaC16
import Derived.Test.YtienmhgbildhhaaC36
import Derived.Test.YtienmhgbildhhaaC01
import Derived.Test.YtienmhgbildhhaaC04
namespace Go.Proofs.Ytienmhgbildhhaa
section
set_option linter.unusedVariables false
set_option linter.unusedSimpArgs false
open Go.RowKit



section
variable {a b f u P Q : V}

end


end
end Go.Proofs.Ytienmhgbildhhaa
namespace Go.Proofs.Ytienmhgbildhhaa
section
set_option linter.unusedVariables false
set_option linter.unusedSimpArgs false
open Go.RowKit
def sm57 (a : Int) : Prop := -144115188075855872 ≤ a ∧ a ≤ 144115188075855872
theorem sm57.up {a : Int} (h : sm57 a) : sm62 a := by unfold sm57 at h; unfold sm62; omega
theorem sm57.neg {a : Int} (h : sm57 a) : sm57 (-a) := by unfold sm57 at *; omega

structure Cf (w : World) (g : Nat) (x y : Int) : Prop where
  a : w.cell? ⟨g, 0, none⟩ = some (.int .i64 x)
  b : w.cell? ⟨g, 1, none⟩ = some (.int .i64 y)
set_option maxRecDepth 100000 in
set_option maxHeartbeats 16000000 in
end
end Go.Proofs.Ytienmhgbildhhaa
namespace Go.Proofs.Ytienmhgbildhhaa
section
set_option linter.unusedVariables false
set_option linter.unusedSimpArgs false
open Go.RowKit



set_option maxRecDepth 100000 in
set_option maxHeartbeats 4000000 in
set_option maxRecDepth 100000 in
set_option maxHeartbeats 4000000 in
end
end Go.Proofs.Ytienmhgbildhhaa
namespace Go.Proofs.Ytienmhgbildhhaa
section
set_option linter.unusedVariables false
set_option linter.unusedSimpArgs false
open Go.RowKit
set_option maxRecDepth 100000 in
set_option maxHeartbeats 1000000 in
set_option maxRecDepth 100000 in
set_option maxHeartbeats 1000000 in
set_option maxRecDepth 100000 in
set_option maxHeartbeats 1000000 in


set_option maxRecDepth 100000 in
set_option maxHeartbeats 2000000 in
end
end Go.Proofs.Ytienmhgbildhhaa
namespace Go.Proofs.Ytienmhgbildhhaa
section
set_option linter.unusedVariables false
set_option linter.unusedSimpArgs false
open Go.RowKit
set_option maxRecDepth 100000 in
set_option maxHeartbeats 2000000 in

theorem SlB.one {w : World} {g : Nat} {x : BE} (hb : BdAt w g x.b x.A x.n x.c) (hs : Sl w x.A x.n x.c x.l) : SlB w (some ⟨g, 0, none⟩) 1 1 [x] := by
  refine ⟨⟨rfl, Nat.le_refl _, by omega, fun _ => ⟨g, 0, rfl, hb.lt, fun j hj i v hv => ?_⟩⟩, fun y hy => by rw [List.mem_singleton.1 hy]; exact hs⟩
  have hj0 : j = 0 := by simpa using hj
  subst hj0
  rw [Nat.zero_mul, Nat.zero_add]
  try rw [Nat.zero_add]
  have hv : (encB x)[i]? = some v := hv
  unfold encB at hv
  match i, hv with
  | 0, hv => have e : some _ = some v := hv; cases e; exact hb.c0
  | 1, hv => have e : some _ = some v := hv; cases e; exact hb.c1
  | 2, hv => have e : some _ = some v := hv; cases e; exact hb.c2
  | 3, hv => have e : some _ = some v := hv; cases e; exact hb.c3
  | 4, hv => have e : some _ = some v := hv; cases e; exact hb.c4
  | 5, hv => have e : some _ = some v := hv; cases e; exact hb.c5
  | 6, hv => have e : some _ = some v := hv; cases e; exact hb.c6
  | 7, hv => have e : some _ = some v := hv; cases e; exact hb.c7
  | 8, hv => have e : some _ = some v := hv; cases e; exact hb.c8
  | 9, hv => have e : some _ = some v := hv; cases e; exact hb.c9
  | 10, hv => have e : some _ = some v := hv; cases e; exact hb.c10
  | 11, hv => have e : some _ = some v := hv; cases e; exact hb.c11
  | 12, hv => have e : some _ = some v := hv; cases e; exact hb.c12
  | i + 13, hv => simp at hv
set_option maxRecDepth 100000 in
set_option maxHeartbeats 2000000 in
end
end Go.Proofs.Ytienmhgbildhhaa
namespace Go.Proofs.Ytienmhgbildhhaa
section
set_option linter.unusedVariables false
set_option linter.unusedSimpArgs false
open Go.RowKit

set_option maxRecDepth 100000 in
set_option maxHeartbeats 8000000 in
end
end Go.Proofs.Ytienmhgbildhhaa
namespace Go.Proofs.Ytienmhgbildhhaa
section
set_option linter.unusedVariables false
set_option linter.unusedSimpArgs false
open Go.RowKit
set_option maxRecDepth 100000 in
set_option maxHeartbeats 2000000 in
set_option maxRecDepth 100000 in
set_option maxHeartbeats 4000000 in
set_option maxRecDepth 100000 in
set_option maxHeartbeats 4000000 in
end
end Go.Proofs.Ytienmhgbildhhaa
