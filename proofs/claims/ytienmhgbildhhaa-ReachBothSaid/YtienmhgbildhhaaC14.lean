/- Parts of a proof: contracts and laws. -/
import Derived.Test.YtienmhgbildhhaaC13
import Derived.Test.YtienmhgbildhhaaC11
import Derived.Test.YtienmhgbildhhaaC08
import Derived.Test.YtienmhgbildhhaaC09
namespace Go.Proofs.Ytienmhgbildhhaa
section
set_option linter.unusedVariables false
set_option linter.unusedSimpArgs false
open Go.RowKit

theorem BdAt.away {w : World} {g : Nat} {b : Bd} {A : Option Addr} {n c : Nat} (h : BdAt w g b A n c) (k o : Nat) (v : Value) (hne : k ≠ g) : BdAt (w.setCell ⟨k, o, none⟩ v) g b A n c :=
  ⟨far1 hne h.c0, far1 hne h.c1, far1 hne h.c2, far1 hne h.c3, far1 hne h.c4, far1 hne h.c5, far1 hne h.c6, far1 hne h.c7, far1 hne h.c8, far1 hne h.c9, far1 hne h.c10, far1 hne h.c11, far1 hne h.c12, fun j => by rw [World.frozen?_setCell]; exact h.free j⟩
set_option maxRecDepth 100000 in
set_option maxHeartbeats 4000000 in
end
end Go.Proofs.Ytienmhgbildhhaa
namespace Go.Proofs.Ytienmhgbildhhaa
section
set_option linter.unusedVariables false
set_option linter.unusedSimpArgs false
open Go.RowKit

set_option maxRecDepth 100000 in
set_option maxHeartbeats 4000000 in
end
end Go.Proofs.Ytienmhgbildhhaa
namespace Go.Proofs.Ytienmhgbildhhaa
section
set_option linter.unusedVariables false
set_option linter.unusedSimpArgs false
open Go.RowKit
set_option maxRecDepth 100000 in
set_option maxHeartbeats 8000000 in
end
end Go.Proofs.Ytienmhgbildhhaa
namespace Go.Proofs.Ytienmhgbildhhaa
section
set_option linter.unusedVariables false
set_option linter.unusedSimpArgs false
open Go.RowKit
set_option maxRecDepth 100000 in
set_option maxHeartbeats 4000000 in
end
end Go.Proofs.Ytienmhgbildhhaa
