/- Parts of a proof: contracts and laws. -/
import Derived.Test.YtbajmekmpgfpeaaB12
namespace Go.Proofs.Ytbajmekmpgfpeaa
section
set_option linter.unusedVariables false
set_option linter.unusedSimpArgs false
open Go.RowKit
theorem keepSl {w w' : World} {A : Option Addr} {n c : Nat} {l : List V} (hb : Below w.heap.size w w') (h : Sl w A n c l) : Sl w' A n c l := h.below hb
theorem Sl.drew' {w : World} {A : Option Addr} {n c : Nat} {l : List V} (h : Sl w A n c l) : Sl w.drew A n c l := ⟨h.len, h.cap, h.big, fun hl => by obtain ⟨b, off, e, hc⟩ := h.at_ hl; exact ⟨b, off, e, ⟨hc.lt, hc.x, hc.y⟩⟩⟩
theorem mulF_bd (a b : Int) : -1099511627776 ≤ mulF a b ∧ mulF a b ≤ 1099511627776 := by
  unfold mulF mdF
  split
  · omega
  · exact clampF_bd _
theorem bodyE_zero {b : Bd} {l : List V} (h : bodyE b l = 0) : shapeE l = 0 ∧ numE b = 0 := by
  unfold bodyE at h
  split at h
  · rename_i h1; exact absurd h h1
  · rename_i h1; exact ⟨by simpa using h1, h⟩
theorem inB_iff {n l h : Int} : inB n l h = true ↔ l ≤ n ∧ n ≤ h := by simp [inB]
theorem numE_zero {b : Bd} (h : numE b = 0) : (-58982400 ≤ b.px ∧ b.px ≤ 58982400 ∧ -58982400 ≤ b.py ∧ b.py ≤ 58982400) ∧ (-268435456 ≤ b.vx ∧ b.vx ≤ 268435456 ∧ -268435456 ≤ b.vy ∧ b.vy ≤ 268435456) ∧ (-16777216 ≤ b.spin ∧ b.spin ≤ 16777216) ∧ (0 ≤ b.ang ∧ b.ang ≤ 65535) ∧ (0 ≤ b.mass ∧ b.mass ≤ 1099511627776) ∧ (0 ≤ b.iner ∧ b.iner ≤ 1099511627776) := by
  unfold numE at h
  split at h
  · rename_i h1
    split at h
    · rename_i h2
      simp only [Bool.and_eq_true] at h1 h2
      exact ⟨withinB_iff.1 h1.1.1.1, withinB_iff.1 h1.1.1.2, inB_iff.1 h1.1.2, inB_iff.1 h1.2, inB_iff.1 h2.1.1.1.1, inB_iff.1 h2.1.1.1.2⟩
    · omega
  · omega
end
end Go.Proofs.Ytbajmekmpgfpeaa
