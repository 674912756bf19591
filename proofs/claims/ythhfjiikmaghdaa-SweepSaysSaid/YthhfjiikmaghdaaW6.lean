/- The walk of SweepJoins. -/
import Derived.Test.YthhfjiikmaghdaaW5
namespace Go.Proofs.Ythhfjiikmaghdaa
set_option linter.unusedVariables false
set_option linter.unusedSimpArgs false
open Go.RowKit

/-- a block that holds a box -/
structure Vd (w : World) (g : Nat) (b : Bx) : Prop where
  c0 : w.cell? ⟨g, 0, none⟩ = some (.int .i64 b.1.1)
  c1 : w.cell? ⟨g, 1, none⟩ = some (.int .i64 b.1.2)
  c2 : w.cell? ⟨g, 2, none⟩ = some (.int .i64 b.2.1)
  c3 : w.cell? ⟨g, 3, none⟩ = some (.int .i64 b.2.2)
theorem keepVd {w w' : World} {g : Nat} {b : Bx} (hb : Below w.heap.size w w') (h : Vd w g b) : Vd w' g b := ⟨keepCell hb h.c0, keepCell hb h.c1, keepCell hb h.c2, keepCell hb h.c3⟩
theorem Vd.drew {w : World} {g : Nat} {b : Bx} (h : Vd w g b) : Vd w.drew g b := ⟨h.c0, h.c1, h.c2, h.c3⟩
theorem Vb.lt {w : World} {g : Nat} (h : Vb w g) : g < w.heap.size := by obtain ⟨⟨⟨_, h0⟩, _⟩, _⟩ := h; exact lt_of_cell h0
theorem Vb.drew {w : World} {g : Nat} (h : Vb w g) : Vb w.drew g := ⟨h.c, h.f⟩
theorem Vb.here (w : World) : Vb (w.alloc (.cells #[.int .i64 0, .int .i64 0, .int .i64 0, .int .i64 0] 55)) w.heap.size := ⟨⟨⟨.int .i64 0, by go_simp⟩, ⟨.int .i64 0, by go_simp⟩, ⟨.int .i64 0, by go_simp⟩, ⟨.int .i64 0, by go_simp⟩⟩, fun j => by go_simp⟩
abbrev put4 (w : World) (g : Nat) (b : Bx) : World := (((w.setCell ⟨g, 0, none⟩ (.int .i64 b.1.1)).setCell ⟨g, 1, none⟩ (.int .i64 b.1.2)).setCell ⟨g, 2, none⟩ (.int .i64 b.2.1)).setCell ⟨g, 3, none⟩ (.int .i64 b.2.2)
theorem Vb.put4 {w : World} {g : Nat} (h : Vb w g) (b : Bx) : Vd (put4 w g b) g b := by
  obtain ⟨⟨⟨v0, h0⟩, ⟨v1, h1⟩, ⟨v2, h2⟩, ⟨v3, h3⟩⟩, hf⟩ := h
  exact ⟨by go_simp, by go_simp, by go_simp, by go_simp⟩
theorem Vd.off4 {w : World} {g k : Nat} {b : Bx} (h : Vd w g b) (hne : k ≠ g) (b' : Bx) : Vd (put4 w k b') g b := ⟨far1 hne (far1 hne (far1 hne (far1 hne h.c0))), far1 hne (far1 hne (far1 hne (far1 hne h.c1))), far1 hne (far1 hne (far1 hne (far1 hne h.c2))), far1 hne (far1 hne (far1 hne (far1 hne h.c3)))⟩
theorem Vb.off4 {w : World} {g k : Nat} (h : Vb w g) (hne : k ≠ g) (b' : Bx) : Vb (Go.Proofs.Ythhfjiikmaghdaa.put4 w k b') g := by
  obtain ⟨⟨⟨v0, h0⟩, ⟨v1, h1⟩, ⟨v2, h2⟩, ⟨v3, h3⟩⟩, hf⟩ := h
  exact ⟨⟨⟨v0, far1 hne (far1 hne (far1 hne (far1 hne h0)))⟩, ⟨v1, far1 hne (far1 hne (far1 hne (far1 hne h1)))⟩, ⟨v2, far1 hne (far1 hne (far1 hne (far1 hne h2)))⟩, ⟨v3, far1 hne (far1 hne (far1 hne (far1 hne h3)))⟩⟩, fun j => by rw [World.frozen?_setCell, World.frozen?_setCell, World.frozen?_setCell, World.frozen?_setCell]; exact hf j⟩
theorem below_put4 {B : Nat} {w w' : World} (h : Below B w w') {g : Nat} (hg : B ≤ g) (b : Bx) : Below B w (put4 w' g b) := (((h.setCell (p := ⟨g, 0, none⟩) hg _).setCell (p := ⟨g, 1, none⟩) hg _).setCell (p := ⟨g, 2, none⟩) hg _).setCell (p := ⟨g, 3, none⟩) hg _
def JoinsE (w1 : World) (a b c : Bx) (t u v : Value) (wx : World) : Prop := ∃ gT gU gV, t = .pointer (some ⟨gT, 0, none⟩) ∧ u = .pointer (some ⟨gU, 0, none⟩) ∧ v = .pointer (some ⟨gV, 0, none⟩) ∧ Vd wx gT a ∧ Vd wx gU b ∧ Vd wx gV c ∧ Below w1.heap.size w1 wx
theorem joins_end {w1 w' : World} {a b c : Bx} {gT gU gV : Nat} (h1 : w1.heap.size ≤ gT) (h2 : w1.heap.size ≤ gU) (h3 : w1.heap.size ≤ gV) (n1 : gT ≠ gU) (n2 : gT ≠ gV) (n3 : gU ≠ gV) (hB : Below w1.heap.size w1 w') (HT : Vb w' gT) (HU : Vb w' gU) (HV : Vb w' gV) :
    JoinsE w1 a b c (.pointer (some ⟨gT, 0, none⟩)) (.pointer (some ⟨gU, 0, none⟩)) (.pointer (some ⟨gV, 0, none⟩)) (put4 (put4 (put4 w' gT a) gU b) gV c) :=
  ⟨gT, gU, gV, rfl, rfl, rfl, ((HT.put4 a).off4 (fun e => n1 e.symm) b).off4 (fun e => n2 e.symm) c, ((HU.off4 n1 a).put4 b).off4 (fun e => n3 e.symm) c, ((HV.off4 n2 a).off4 n3 b).put4 c, below_put4 (below_put4 (below_put4 hB h1 a) h2 b) h3 c⟩
set_option maxRecDepth 100000 in
theorem run_eqB (x y u v : Int) (w : World) : (Op.equalIn 10000 55 (.agg #[.int .i64 x, .int .i64 y, .int .i64 u, .int .i64 v]) (.agg #[.int .i64 x, .int .i64 y, .int .i64 u, .int .i64 v])).run Try.prog w = .ok true w := by
  have hS : Try.prog.underlying 55 = some (.struct (Try.prog.fieldsOf 55)) := by kernel_rfl
  have hp : Try.prog.stoodInHeld 55 = false := by kernel_rfl
  have hS2 : Try.prog.underlying 25 = some (.struct (Try.prog.fieldsOf 25)) := by kernel_rfl
  have hp2 : Try.prog.stoodInHeld 25 = false := by kernel_rfl
  have inner : ∀ a b : Int, ∀ w, (Op.equalIn 9999 25 (.agg #[.int .i64 a, .int .i64 b]) (.agg #[.int .i64 a, .int .i64 b])).run Try.prog w = .ok true w := fun a b w => by
    rw [show (9999 : Nat) = 9998 + 1 from rfl, run_equalIn_agg w 9998 25 _ _ hS2 hp2]
    simp only [Program.fieldsOf, Try.underlying25]
    go_simp
  rw [show (10000 : Nat) = 9999 + 1 from rfl, run_equalIn_agg w 9999 55 _ _ hS hp]
  simp only [Program.fieldsOf, Try.underlying55]
  go_simp
theorem vldB_iff {b : Bx} : vldB b = true ↔ b.1.1 ≤ b.2.1 ∧ b.1.2 ≤ b.2.2 := by unfold vldB; exact decide_eq_true_iff
theorem join_valid {a b : Bx} (ha : vldB a = true) (hb : vldB b = true) : joinB a b = ((min a.1.1 b.1.1, min a.1.2 b.1.2), (max a.2.1 b.2.1, max a.2.2 b.2.2)) ∧ vldB (joinB a b) = true := by
  have e : joinB a b = ((min a.1.1 b.1.1, min a.1.2 b.1.2), (max a.2.1 b.2.1, max a.2.2 b.2.2)) := by unfold joinB; rw [if_neg (by simp [ha]), if_neg (by simp [ha]), if_neg (by simp [hb])]
  refine ⟨e, ?_⟩
  rw [e, vldB_iff]
  have h1 := vldB_iff.1 ha
  have h2 := vldB_iff.1 hb
  dsimp only
  omega
theorem joins_law {a b c : Bx} (ha : vldB a = true) (hb : vldB b = true) : joinB b a = joinB a b ∧ joinB (joinB a b) a = joinB a b ∧ joinB a a = a ∧ ((tchB a c = true ∨ tchB b c = true) → tchB (joinB a b) c = true) := by
  obtain ⟨e1, v1⟩ := join_valid ha hb
  have e2 := (join_valid hb ha).1
  have e3 := (join_valid v1 ha).1
  have e4 := (join_valid ha ha).1
  refine ⟨?_, ?_, ?_, fun h => ?_⟩
  · rw [e1, e2]; ext <;> dsimp only <;> omega
  · rw [e3, e1]; ext <;> dsimp only <;> omega
  · rw [e4]; ext <;> dsimp only <;> omega
  · rw [tchB_iff, tchB_iff] at h
    rw [e1, tchB_iff]
    dsimp only
    omega

end Go.Proofs.Ythhfjiikmaghdaa
