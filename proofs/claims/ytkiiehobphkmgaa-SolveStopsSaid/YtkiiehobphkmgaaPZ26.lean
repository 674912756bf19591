/- Parts of a proof: contracts and laws. -/
import Derived.Test.YtkiiehobphkmgaaPZ23
import Derived.Test.YtkiiehobphkmgaaPZ25
import Derived.Test.YtkiiehobphkmgaaPZ11
import Derived.BigQuiet
namespace Go.Proofs.Ytkiiehobphkmgaa
section
set_option linter.unusedVariables false
set_option linter.unusedSimpArgs false
open Go.RowKit


structure Ej (w0 : World) (bL oL : Nat) (L : List BE) (x : Jt) (w : World) : Prop where
  j : w.cell? ⟨w0.heap.size, 0, none⟩ = some (.int .i64 x.a) ∧ w.cell? ⟨w0.heap.size, 1, none⟩ = some (.int .i64 x.b) ∧ w.cell? ⟨w0.heap.size, 2, none⟩ = some (.int .i64 x.p1) ∧ w.cell? ⟨w0.heap.size, 3, none⟩ = some (.int .i64 x.p2) ∧ w.cell? ⟨w0.heap.size, 4, none⟩ = some (.int .i64 x.q1) ∧ w.cell? ⟨w0.heap.size, 5, none⟩ = some (.int .i64 x.q2) ∧ w.cell? ⟨w0.heap.size, 6, none⟩ = some (.int .i64 x.len)
  cl : CellsE layB w bL oL L
  z1 : VZ w (w0.heap.size + 1)
  z2 : VZ w (w0.heap.size + 2)
  bel : Below w0.heap.size w0 w
  lt : bL < w0.heap.size
  sz : w0.heap.size + 2 < w.heap.size
theorem keepEj {w0 : World} {bL oL : Nat} {L : List BE} {x : Jt} {w w' : World} (hb : Below w.heap.size w w') (h : Ej w0 bL oL L x w) : Ej w0 bL oL L x w' := by
  obtain ⟨h0, h1, h2, h3, h4, h5, h6⟩ := h.j
  exact ⟨⟨keepCell hb h0, keepCell hb h1, keepCell hb h2, keepCell hb h3, keepCell hb h4, keepCell hb h5, keepCell hb h6⟩, h.cl.below hb, keepVZ hb h.z1, keepVZ hb h.z2, keepBelow hb h.bel, h.lt, Nat.lt_of_lt_of_le h.sz hb.size⟩
theorem Ej.alloc {w0 : World} {bL oL : Nat} {L : List BE} {x : Jt} {w : World} (h : Ej w0 bL oL L x w) (o : Obj) : Ej w0 bL oL L x (w.alloc o) := keepEj ((Below.refl _ _).alloc (Nat.le_refl _) _) h
theorem Ej.drew {w0 : World} {bL oL : Nat} {L : List BE} {x : Jt} {w : World} (h : Ej w0 bL oL L x w) : Ej w0 bL oL L x w.drew := keepEj (Below.refl _ _).drew h
theorem Ej.set {w0 : World} {bL oL : Nat} {L : List BE} {x : Jt} {w : World} {g o : Nat} {v : Value} (h : Ej w0 bL oL L x w) (hg : w0.heap.size + 2 < g) : Ej w0 bL oL L x (w.setCell ⟨g, o, none⟩ v) := by
  obtain ⟨h0, h1, h2, h3, h4, h5, h6⟩ := h.j
  have hlt := h.lt
  have n0 : g ≠ w0.heap.size := by omega
  have n1 : g ≠ w0.heap.size + 1 := by omega
  have n2 : g ≠ w0.heap.size + 2 := by omega
  have vz : ∀ k, g ≠ k → VZ w k → VZ (w.setCell ⟨g, o, none⟩ v) k := fun k hk hz => by
    obtain ⟨⟨a, b, c, d⟩, f⟩ := hz
    exact ⟨⟨a, b, far1 hk c, far1 hk d⟩, fun j => by rw [World.frozen?_setCell]; exact f j⟩
  exact ⟨⟨far1 n0 h0, far1 n0 h1, far1 n0 h2, far1 n0 h3, far1 n0 h4, far1 n0 h5, far1 n0 h6⟩, ⟨by simp; exact h.cl.lt, fun j hj i u hu => far1 (by omega) (h.cl.at_ j hj i u hu)⟩, vz _ n1 h.z1, vz _ n2 h.z2, h.bel.setCell (p := ⟨g, o, none⟩) (by show w0.heap.size ≤ g; omega) _, h.lt, by simp; exact h.sz⟩
theorem Ej.setBd {w0 : World} {bL oL : Nat} {L : List BE} {x : Jt} {w : World} {g : Nat} (h : Ej w0 bL oL L x w) (hg : w0.heap.size + 2 < g) (b : Bd) (A : Option Addr) (n c : Nat) : Ej w0 bL oL L x (Go.Proofs.Ytkiiehobphkmgaa.setBd w g b A n c) := by
  unfold Go.Proofs.Ytkiiehobphkmgaa.setBd
  iterate 13 refine Ej.set ?_ hg
  exact h
theorem BdAt.offJ {w : World} {g k o : Nat} {v : Value} {b : Bd} {A : Option Addr} {n c : Nat} (h : BdAt w g b A n c) (hne : k ≠ g) : BdAt (w.setCell ⟨k, o, none⟩ v) g b A n c := by
  obtain ⟨h0, h1, h2, h3, h4, h5, h6, h7, h8, h9, h10, h11, h12, hf⟩ := h
  exact ⟨far1 hne h0, far1 hne h1, far1 hne h2, far1 hne h3, far1 hne h4, far1 hne h5, far1 hne h6, far1 hne h7, far1 hne h8, far1 hne h9, far1 hne h10, far1 hne h11, far1 hne h12, fun j => by rw [World.frozen?_setCell]; exact hf j⟩
theorem BdAt.setBd_offJ {w : World} {g k : Nat} {b : Bd} {A : Option Addr} {n c : Nat} (h : BdAt w g b A n c) (hne : k ≠ g) (b' : Bd) (A' : Option Addr) (n' c' : Nat) : BdAt (Go.Proofs.Ytkiiehobphkmgaa.setBd w k b' A' n' c') g b A n c := by
  unfold Go.Proofs.Ytkiiehobphkmgaa.setBd
  iterate 13 refine BdAt.offJ ?_ hne
  exact h

end
end Go.Proofs.Ytkiiehobphkmgaa
