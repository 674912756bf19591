/- Parts of a proof: contracts and laws. -/
import Derived.Test.YtiaoandbdgdecaaGreatPM31
import Derived.Test.YtiaoandbdgdecaaGreatPM11
import Derived.Test.YtiaoandbdgdecaaGreatPM29
namespace Go.Proofs.YtiaoandbdgdecaaGreat
section
set_option linter.unusedVariables false
set_option linter.unusedSimpArgs false
open Go.RowKit
section
variable {l m : List V} {u v : Int}
theorem bothE_zero {a b : List V} : bothE a b = 0 ↔ checkE a = 0 ∧ checkE b = 0 := by
 unfold bothE
 split <;> omega
end







end
end Go.Proofs.YtiaoandbdgdecaaGreat
namespace Go.Proofs.YtiaoandbdgdecaaGreat
section
set_option linter.unusedVariables false
set_option linter.unusedSimpArgs false
open Go.RowKit


def rD (s : Option Ax) : Int := match s with | none => -1 | some a => a.2.2
structure AxC (w : World) (g : Nat) (s : Bool) (e d : Int) : Prop where
 c0 : w.cell? ⟨g, 0, none⟩ = some (.bool s)
 c1 : w.cell? ⟨g, 1, none⟩ = some (.int .i64 e)
 c2 : w.cell? ⟨g, 2, none⟩ = some (.int .i64 d)
 free : ∀ j, w.frozen? ⟨g, j, none⟩ = false
theorem AxC.keep {w w' : World} {g : Nat} {s : Bool} {e d : Int} (hb : Below w.heap.size w w') (h : AxC w g s e d) : AxC w' g s e d :=
 ⟨keepCell hb h.c0, keepCell hb h.c1, keepCell hb h.c2, fun j => ((bcell hb).2 _ _ (lt_of_cell h.c0)).trans (h.free j)⟩
theorem AxC.here (w : World) (s : Bool) (e d : Int) (t : TypeId) : AxC (w.alloc (.cells #[.bool s, .int .i64 e, .int .i64 d] t)) w.heap.size s e d := ⟨by go_simp, by go_simp, by go_simp, fun j => by go_simp⟩
theorem AxC.away {w : World} {g : Nat} {s : Bool} {e d : Int} (h : AxC w g s e d) (k o : Nat) (v : Value) (hne : k ≠ g) : AxC (w.setCell ⟨k, o, none⟩ v) g s e d :=
 ⟨far1 hne h.c0, far1 hne h.c1, far1 hne h.c2, fun j => by rw [World.frozen?_setCell]; exact h.free j⟩
theorem AxC.set {w : World} {g : Nat} {s : Bool} {e d : Int} (h : AxC w g s e d) (s' : Bool) (e' d' : Int) : AxC (((w.setCell ⟨g, 0, none⟩ (.bool s')).setCell ⟨g, 1, none⟩ (.int .i64 e')).setCell ⟨g, 2, none⟩ (.int .i64 d')) g s' e' d' := by
 obtain ⟨h0, h1, h2, hf⟩ := h
 exact ⟨by go_simp, by go_simp, by go_simp, fun j => by go_simp⟩
structure RW (w0 : World) (s : Option Ax) (w : World) : Prop where
 r : AxC w w0.heap.size false 0 0
 b : AxC w (w0.heap.size + 1) (axS s) (axE s) (rD s)
 bel : Below w0.heap.size w0 w
 le : w0.heap.size + 1 < w.heap.size
theorem RW.keep {w0 : World} {s : Option Ax} {w w' : World} (hb : Below w.heap.size w w') (h : RW w0 s w) : RW w0 s w' := ⟨h.r.keep hb, h.b.keep hb, keepBelow hb h.bel, Nat.lt_of_lt_of_le h.le hb.size⟩
theorem RW.set {w0 : World} {s : Option Ax} {w : World} (h : RW w0 s w) (t : Option Ax) : RW w0 t (((w.setCell ⟨w0.heap.size + 1, 0, none⟩ (.bool (axS t))).setCell ⟨w0.heap.size + 1, 1, none⟩ (.int .i64 (axE t))).setCell ⟨w0.heap.size + 1, 2, none⟩ (.int .i64 (rD t))) :=
 ⟨((h.r.away _ _ _ (by omega)).away _ _ _ (by omega)).away _ _ _ (by omega), h.b.set _ _ _, ((h.bel.setCell (p := ⟨w0.heap.size + 1, 0, none⟩) (Nat.le_succ _) _).setCell (p := ⟨w0.heap.size + 1, 1, none⟩) (Nat.le_succ _) _).setCell (p := ⟨w0.heap.size + 1, 2, none⟩) (Nat.le_succ _) _, by simpa [World.setCell] using h.le⟩
set_option maxRecDepth 100000 in
set_option maxHeartbeats 8000000 in
set_option maxRecDepth 100000 in
set_option maxHeartbeats 4000000 in
end
end Go.Proofs.YtiaoandbdgdecaaGreat
