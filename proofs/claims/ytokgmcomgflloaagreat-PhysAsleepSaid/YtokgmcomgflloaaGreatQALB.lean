/- Contracts: tourlaw2.block (a body that does not move; cut out of O8). -/
import Derived.Test.YtokgmcomgflloaaGreatQA08
import Derived.Test.YtokgmcomgflloaaGreatQA06
namespace Go.Proofs.YtokgmcomgflloaaGreat
section
set_option linter.unusedVariables false
set_option linter.unusedSimpArgs false
open Go.RowKit
set_option maxRecDepth 100000 in
set_option maxHeartbeats 2000000 in

theorem iH.one {w : World} {g : Nat} {x : BE} (hb : aL w g x.b x.A x.n x.c) (hs : Sl w x.A x.n x.c x.l) : iH w (some ⟨g, 0, none⟩) 1 1 [x] := by
  refine ⟨⟨rfl, Nat.le_refl _, by omega, fun _ => ⟨g, 0, rfl, hb.lt, fun j hj i v hv => ?_⟩⟩, fun y hy => by rw [List.mem_singleton.1 hy]; exact hs⟩;have hj0 : j = 0 := by simpa using hj
  subst hj0;rw [Nat.zero_mul, Nat.zero_add]
  try rw [Nat.zero_add]
  have hv : (kQ x)[i]? = some v := hv;unfold kQ at hv
  match i, hv with
  | 0, hv => have e : some _ = some v := hv; cases e; exact hb.c0
  | 1, hv => have e : some _ = some v := hv; cases e; exact hb.c1
  | 2, hv => have e : some _ = some v := hv; cases e; exact hb.c2
  | 3, hv => have e : some _ = some v := hv; cases e; exact hb.c3
  | 4, hv => have e : some _ = some v := hv; cases e; exact hb.c4
  | 5, hv => have e : some _ = some v := hv; cases e; exact hb.c5
  | 6, hv => have e : some _ = some v := hv; cases e; exact hb.c6
  | 7, hv => have e : some _ = some v := hv; cases e; exact hb.c7
  | 8, hv => have e : some _ = some v := hv; cases e; exact hb.c8
  | 9, hv => have e : some _ = some v := hv; cases e; exact hb.c9
  | 10, hv => have e : some _ = some v := hv; cases e; exact hb.c10
  | 11, hv => have e : some _ = some v := hv; cases e; exact hb.c11
  | 12, hv => have e : some _ = some v := hv; cases e; exact hb.c12
  | i + 13, hv => simp at hv
end
end Go.Proofs.YtokgmcomgflloaaGreat
