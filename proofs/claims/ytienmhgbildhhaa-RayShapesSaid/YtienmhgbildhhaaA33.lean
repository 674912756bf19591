/- Parts of a proof: contracts and laws. -/
import Derived.Test.YtienmhgbildhhaaA27
namespace Go.Proofs.Ytienmhgbildhhaa
section
set_option linter.unusedVariables false
set_option linter.unusedSimpArgs false
open Go.RowKit
theorem BdAt.grown {w w' : World} {g k : Nat} {b : Bd} {A : Option Addr} {n c : Nat} (h : BdAt w g b A n c) (hg : w.grownBy w' (some k)) (hne : g ≠ k) : BdAt w' g b A n c :=
  ⟨(grown_cell hg hne h.lt).trans h.c0, (grown_cell hg hne h.lt).trans h.c1, (grown_cell hg hne h.lt).trans h.c2, (grown_cell hg hne h.lt).trans h.c3, (grown_cell hg hne h.lt).trans h.c4, (grown_cell hg hne h.lt).trans h.c5, (grown_cell hg hne h.lt).trans h.c6, (grown_cell hg hne h.lt).trans h.c7, (grown_cell hg hne h.lt).trans h.c8, (grown_cell hg hne h.lt).trans h.c9, (grown_cell hg hne h.lt).trans h.c10, (grown_cell hg hne h.lt).trans h.c11, (grown_cell hg hne h.lt).trans h.c12, fun j => (World.frozen?_of_block (hg.block g h.lt (by intro e; cases e; exact hne rfl))).trans (h.free j)⟩
theorem BdZ.grown {w w' : World} {g k : Nat} (h : BdZ w g) (hg : w.grownBy w' (some k)) (hne : g ≠ k) : BdZ w' g :=
  ⟨fun j hj => by obtain ⟨v, hv⟩ := h.c j hj; exact ⟨v, (grown_cell hg hne h.lt).trans hv⟩, fun j => (World.frozen?_of_block (hg.block g h.lt (by intro e; cases e; exact hne rfl))).trans (h.free j)⟩
theorem Stm.set {w : World} {g k o : Nat} {r : List Int} {v : Value} (h : Stm w g r) (hne : g < k) : Stm (w.setCell ⟨k, o, none⟩ v) g r := by
  obtain ⟨h1, h2, A, n, c, h3, h4, h5⟩ := h
  refine ⟨by simp; exact h1, by rw [World.frozen?_setCell]; exact h2, A, n, c, by go_simp, ⟨h4.len, h4.cap, h4.big, fun hr => ?_⟩, h5⟩
  obtain ⟨b, off, e, hlt, hc⟩ := h4.at_ hr
  have hb := h5 hr b off e
  refine ⟨b, off, e, by simp; exact hlt, fun j hj => ?_⟩
  have := hc j hj
  go_simp


set_option maxRecDepth 100000 in
set_option maxHeartbeats 4000000 in
end
end Go.Proofs.Ytienmhgbildhhaa
