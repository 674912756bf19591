/- Parts of a proof: contracts and laws. -/
import Derived.Test.YtilncglnojjlaaaS29
import Derived.Test.YtilncglnojjlaaaS11
namespace Go.Proofs.Ytilncglnojjlaaa
section
set_option linter.unusedVariables false
set_option linter.unusedSimpArgs false
open Go.RowKit
def bdK (x y m : Int) : Bd := ⟨x * 65536, y * 65536, 0, 0, 0, 0, m, m, 0, 0, false, 0⟩
def RetBlk (b : Bd) (l : List V) (w : World) (e : Ending) (w' : World) : Prop := ∃ A n c, e = .returned (bodyV b A n c) ∧ Sl w' A n c l ∧ (∀ bx off, A = some ⟨bx, off, none⟩ → w.heap.size ≤ bx) ∧ Below w.heap.size w w'
theorem Sl.setBdN {w : World} {A : Option Addr} {n c g : Nat} {l : List V} (h : Sl w A n c l) (b : Bd) (A' : Option Addr) (n' c' : Nat) (hne : l ≠ [] → ∀ bx off, A = some ⟨bx, off, none⟩ → bx ≠ g) : Sl (Go.Proofs.Ytilncglnojjlaaa.setBd w g b A' n' c') A n c l := by
  by_cases hl : l = []
  · exact ⟨h.len, h.cap, h.big, fun hne => absurd hl hne⟩
  · unfold Go.Proofs.Ytilncglnojjlaaa.setBd
    iterate 13 refine Sl.setAt ?_ (hne hl)
    exact h
theorem Sl.setAt2 {w : World} {A : Option Addr} {n c g o : Nat} {l : List V} {v : Value} (h : Sl w A n c l) (hne : l ≠ [] → ∀ b off, A = some ⟨b, off, none⟩ → b ≠ g) : Sl (w.setCell ⟨g, o, none⟩ v) A n c l := by
  by_cases hl : l = []
  · exact ⟨h.len, h.cap, h.big, fun k => absurd hl k⟩
  · exact h.setAt (hne hl)
end
end Go.Proofs.Ytilncglnojjlaaa
