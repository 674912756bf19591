/- Parts of a proof: contracts and laws. -/
import Derived.Test.YtienmhgbildhhaaC17
import Derived.Test.YtienmhgbildhhaaC19
namespace Go.Proofs.Ytienmhgbildhhaa
section
set_option linter.unusedVariables false
set_option linter.unusedSimpArgs false
open Go.RowKit

def dpt (l m : List V) (i k : Nat) : Int := nrmX l i * (px l i - px m k) + nrmY l i * (py l i - py m k)
def deepTo (l m : List V) (i : Nat) : Nat → Int
  | 0 => dpt l m i 0
  | k + 1 => if dpt l m i (k + 1) > deepTo l m i k then dpt l m i (k + 1) else deepTo l m i k
def deepZ (l m : List V) (i : Nat) : Int := deepTo l m i (m.length - 1)
set_option maxRecDepth 100000 in
set_option maxHeartbeats 4000000 in

def bothE (l m : List V) : Int := if checkE l ≠ 0 then checkE l else checkE m
end
end Go.Proofs.Ytienmhgbildhhaa
namespace Go.Proofs.Ytienmhgbildhhaa
section
set_option linter.unusedVariables false
set_option linter.unusedSimpArgs false
open Go.RowKit

abbrev Ax := Bool × Nat × Int
def axS (s : Option Ax) : Bool := match s with | none => false | some a => a.1
def axE (s : Option Ax) : Nat := match s with | none => 0 | some a => a.2.1
def axD (s : Option Ax) : Int := match s with | none => 0 | some a => a.2.2
def meetsB (a b : List V) : Bool := decide (bothE a b = 0 ∧ (∀ i, i < a.length → 0 ≤ deepZ a b i) ∧ ∀ i, i < b.length → 0 ≤ deepZ b a i)

structure AxAt (w : World) (g : Nat) (s : Option Ax) : Prop where
  c0 : w.cell? ⟨g, 0, none⟩ = some (.bool (axS s))
  c1 : w.cell? ⟨g, 1, none⟩ = some (.int .i64 (axE s))
  c2 : w.cell? ⟨g, 2, none⟩ = some (.int .i64 (axD s))
  free : ∀ j, w.frozen? ⟨g, j, none⟩ = false
theorem keepAx {w w' : World} {g : Nat} {s : Option Ax} (hb : Below w.heap.size w w') (h : AxAt w g s) : AxAt w' g s :=
  ⟨keepCell hb h.c0, keepCell hb h.c1, keepCell hb h.c2, fun j => ((bcell hb).2 _ _ (lt_of_cell h.c0)).trans (h.free j)⟩
theorem AxAt.lt {w : World} {g : Nat} {s : Option Ax} (h : AxAt w g s) : g < w.heap.size := lt_of_cell h.c0
theorem AxAt.here (w : World) (t : TypeId) : AxAt (w.alloc (.cells #[.bool false, .int .i64 0, .int .i64 0] t)) w.heap.size none := ⟨by go_simp; rfl, by go_simp; rfl, by go_simp; rfl, fun j => by go_simp⟩
theorem AxAt.away {w : World} {g : Nat} {s : Option Ax} (h : AxAt w g s) (k o : Nat) (v : Value) (hne : k ≠ g) : AxAt (w.setCell ⟨k, o, none⟩ v) g s :=
  ⟨far1 hne h.c0, far1 hne h.c1, far1 hne h.c2, fun j => by rw [World.frozen?_setCell]; exact h.free j⟩
def setAx (w : World) (g : Nat) (s : Option Ax) : World := ((w.setCell ⟨g, 0, none⟩ (.bool (axS s))).setCell ⟨g, 1, none⟩ (.int .i64 (axE s))).setCell ⟨g, 2, none⟩ (.int .i64 (axD s))
theorem AxAt.set {w : World} {g : Nat} {s : Option Ax} (h : AxAt w g s) (t : Option Ax) : AxAt (setAx w g t) g t := by
  obtain ⟨h0, h1, h2, hf⟩ := h
  unfold setAx
  exact ⟨by go_simp, by go_simp, by go_simp, fun j => by go_simp⟩
theorem AxAt.setO {w : World} {g k : Nat} {s : Option Ax} (h : AxAt w g s) (t : Option Ax) (hne : k ≠ g) : AxAt (setAx w k t) g s := ((h.away k _ _ hne).away k _ _ hne).away k _ _ hne

structure LW (w0 : World) (gB : Nat) (l m : List V) (A B : Option Addr) (c c' : Nat) (s : Option Ax) (w : World) : Prop where
  r : AxAt w w0.heap.size none
  b : AxAt w gB s
  d0 : w.cell? ⟨gB + 1, 0, none⟩ = some (.slice A l.length c)
  d1 : w.cell? ⟨gB + 1, 1, none⟩ = some (.slice B m.length c')
  d2 : w.cell? ⟨gB + 1, 2, none⟩ = some (.slice B m.length c')
  d3 : w.cell? ⟨gB + 1, 3, none⟩ = some (.slice A l.length c)
  bel : Below w0.heap.size w0 w
  le : w0.heap.size < gB
theorem LW.keep {w0 : World} {gB : Nat} {l m : List V} {A B : Option Addr} {c c' : Nat} {s : Option Ax} {w w' : World} (hb : Below w.heap.size w w') (h : LW w0 gB l m A B c c' s w) : LW w0 gB l m A B c c' s w' :=
  ⟨keepAx hb h.r, keepAx hb h.b, keepCell hb h.d0, keepCell hb h.d1, keepCell hb h.d2, keepCell hb h.d3, keepBelow hb h.bel, h.le⟩
theorem LW.drew {w0 : World} {gB : Nat} {l m : List V} {A B : Option Addr} {c c' : Nat} {s : Option Ax} {w : World} (h : LW w0 gB l m A B c c' s w) : LW w0 gB l m A B c c' s w.drew := h.keep (Below.refl _ _).drew
theorem LW.set {w0 : World} {gB : Nat} {l m : List V} {A B : Option Addr} {c c' : Nat} {s : Option Ax} {w : World} (h : LW w0 gB l m A B c c' s w) (t : Option Ax) : LW w0 gB l m A B c c' t (setAx w gB t) := by
  have e : ∀ o v, w.cell? ⟨gB + 1, o, none⟩ = some v → (setAx w gB t).cell? ⟨gB + 1, o, none⟩ = some v := fun o v hv => far1 (by omega) (far1 (by omega) (far1 (by omega) hv))
  have hle := h.le
  exact ⟨h.r.setO t (by omega), h.b.set t, e _ _ h.d0, e _ _ h.d1, e _ _ h.d2, e _ _ h.d3, ((h.bel.setCell (p := ⟨gB, 0, none⟩) (Nat.le_of_lt hle) _).setCell (p := ⟨gB, 1, none⟩) (Nat.le_of_lt hle) _).setCell (p := ⟨gB, 2, none⟩) (Nat.le_of_lt hle) _, hle⟩
set_option maxRecDepth 100000 in
set_option maxHeartbeats 4000000 in
end
end Go.Proofs.Ytienmhgbildhhaa
namespace Go.Proofs.Ytienmhgbildhhaa
section
set_option linter.unusedVariables false
set_option linter.unusedSimpArgs false
open Go.RowKit

theorem AxAt.drew {w : World} {g : Nat} {s : Option Ax} (h : AxAt w g s) : AxAt w.drew g s := ⟨h.c0, h.c1, h.c2, h.free⟩
set_option maxRecDepth 100000 in
set_option maxHeartbeats 4000000 in
end
end Go.Proofs.Ytienmhgbildhhaa
