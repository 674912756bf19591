/- Parts of a proof: contracts and laws. -/
import Derived.Test.YtkiiehobphkmgaaPZ12
namespace Go.Proofs.Ytkiiehobphkmgaa
section
set_option linter.unusedVariables false
set_option linter.unusedSimpArgs false
open Go.RowKit
theorem keepSl {w w' : World} {A : Option Addr} {n c : Nat} {l : List V} (hb : Below w.heap.size w w') (h : Sl w A n c l) : Sl w' A n c l := h.below hb
theorem Sl.drew' {w : World} {A : Option Addr} {n c : Nat} {l : List V} (h : Sl w A n c l) : Sl w.drew A n c l := ⟨h.len, h.cap, h.big, fun hl => by obtain ⟨b, off, e, hc⟩ := h.at_ hl; exact ⟨b, off, e, ⟨hc.lt, hc.x, hc.y⟩⟩⟩
theorem mulF_bd (a b : Int) : -1099511627776 ≤ mulF a b ∧ mulF a b ≤ 1099511627776 := by
  unfold mulF mdF
  split
  · omega
  · exact clampF_bd _
theorem bodyE_zero {b : Bd} {l : List V} (h : bodyE b l = 0) : shapeE l = 0 ∧ numE b = 0 := by
  unfold bodyE at h
  split at h
  · rename_i h1; exact absurd h h1
  · rename_i h1; exact ⟨by simpa using h1, h⟩
theorem inB_iff {n l h : Int} : inB n l h = true ↔ l ≤ n ∧ n ≤ h := by simp [inB]
end
end Go.Proofs.Ytkiiehobphkmgaa
