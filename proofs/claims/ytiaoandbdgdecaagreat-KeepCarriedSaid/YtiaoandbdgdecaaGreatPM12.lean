/- Parts of a proof: contracts and laws. -/
import Derived.Test.YtiaoandbdgdecaaGreatPM04
import Derived.BigQuiet
import Derived.Test.YtiaoandbdgdecaaGreatPM06
import Derived.Test.YtiaoandbdgdecaaGreatPM11
import Derived.Deep.DeepCutAuto
import Derived.WalkSpells
import Derived.Laws.Bits64b
import Derived.Laws.MathBits
import Derived.Deep.WholeRow
import Derived.Maps.AppendAt
import Derived.Test.YtiaoandbdgdecaaGreatPM10
import Derived.Test.YtiaoandbdgdecaaGreatPM09
namespace Go.Proofs.YtiaoandbdgdecaaGreat
section
set_option linter.unusedVariables false
set_option linter.unusedSimpArgs false
open Go.RowKit
set_option maxRecDepth 100000 in
set_option maxHeartbeats 1000000 in
end
end Go.Proofs.YtiaoandbdgdecaaGreat
namespace Go.Proofs.YtiaoandbdgdecaaGreat
section
set_option linter.unusedVariables false
set_option linter.unusedSimpArgs false
open Go.RowKit

structure VZ (w : World) (g : Nat) : Prop where
 c : ∃ x y : Value, w.cell? ⟨g, 0, none⟩ = some x ∧ w.cell? ⟨g, 1, none⟩ = some y
 free : ∀ j, w.frozen? ⟨g, j, none⟩ = false
theorem keepVZ {w w' : World} {g : Nat} (hb : Below w.heap.size w w') (h : VZ w g) : VZ w' g := by
 obtain ⟨⟨x, y, h0, h1⟩, hf⟩ := h
 exact ⟨⟨x, y, keepCell hb h0, keepCell hb h1⟩, fun j => ((bcell hb).2 _ _ (lt_of_cell h0)).trans (hf j)⟩
theorem VZ.lt {w : World} {g : Nat} (h : VZ w g) : g < w.heap.size := by obtain ⟨⟨_, _, h0, _⟩, _⟩ := h; exact lt_of_cell h0
theorem VZ.alloc {w : World} {g : Nat} (h : VZ w g) (o : Obj) : VZ (w.alloc o) g := keepVZ ((Below.refl _ _).alloc (Nat.le_refl _) _) h
theorem VZ.drew {w : World} {g : Nat} (h : VZ w g) : VZ w.drew g := ⟨h.c, h.free⟩
theorem VZ.here (w : World) (a b : Int) (t : TypeId) : VZ (w.alloc (.cells #[.int .i64 a, .int .i64 b] t)) w.heap.size :=
 ⟨⟨.int .i64 a, .int .i64 b, by go_simp, by go_simp⟩, fun j => by go_simp⟩
theorem VZ.set {w : World} {g : Nat} (h : VZ w g) (a : Addr) (u : Value) : VZ (w.setCell a u) g := by
 obtain ⟨⟨x, y, h0, h1⟩, hf⟩ := h
 refine ⟨?_, fun j => by rw [World.frozen?_setCell]; exact hf j⟩
 have e : ∀ j z, w.cell? ⟨g, j, none⟩ = some z → ∃ z', (w.setCell a u).cell? ⟨g, j, none⟩ = some z' := fun j z hz => by
  by_cases ha : a = ⟨g, j, none⟩
  ·subst ha; exact ⟨u, by go_simp⟩
  ·exact ⟨z, by go_simp⟩
 obtain ⟨z0, e0⟩ := e 0 x h0
 obtain ⟨z1, e1⟩ := e 1 y h1
 exact ⟨z0, z1, e0, e1⟩
theorem Sl.empty' (w : World) : Sl w none 0 0 [] := ⟨rfl, by omega, by omega, fun h => absurd rfl h⟩
end
end Go.Proofs.YtiaoandbdgdecaaGreat
namespace Go.Proofs.YtiaoandbdgdecaaGreat
section
set_option linter.unusedVariables false
set_option linter.unusedSimpArgs false
open Go.RowKit

set_option maxRecDepth 100000 in
set_option maxHeartbeats 1000000 in


structure BdZ (w : World) (g : Nat) : Prop where
 c : ∀ j, j < 13 → ∃ v, w.cell? ⟨g, j, none⟩ = some v
 free : ∀ j, w.frozen? ⟨g, j, none⟩ = false
theorem BdZ.lt {w : World} {g : Nat} (h : BdZ w g) : g < w.heap.size := by
 obtain ⟨v, hv⟩ := h.c 0 (by omega)
 exact lt_of_cell hv
theorem keepBdZ {w w' : World} {g : Nat} (hb : Below w.heap.size w w') (h : BdZ w g) : BdZ w' g :=
 ⟨fun j hj => by obtain ⟨v, hv⟩ := h.c j hj; exact ⟨v, keepCell hb hv⟩, fun j => ((bcell hb).2 _ _ h.lt).trans (h.free j)⟩
theorem BdZ.alloc {w : World} {g : Nat} (h : BdZ w g) (o : Obj) : BdZ (w.alloc o) g := keepBdZ ((Below.refl _ _).alloc (Nat.le_refl _) _) h
theorem BdZ.drew {w : World} {g : Nat} (h : BdZ w g) : BdZ w.drew g := ⟨h.c, h.free⟩
theorem BdZ.of {w : World} {g : Nat} {b : Bd} {A : Option Addr} {n c : Nat} (h : BdAt w g b A n c) : BdZ w g :=
 ⟨fun j hj => match j, hj with
  | 0, _ => ⟨_, h.c0⟩ | 1, _ => ⟨_, h.c1⟩ | 2, _ => ⟨_, h.c2⟩ | 3, _ => ⟨_, h.c3⟩ | 4, _ => ⟨_, h.c4⟩ | 5, _ => ⟨_, h.c5⟩ | 6, _ => ⟨_, h.c6⟩ | 7, _ => ⟨_, h.c7⟩ | 8, _ => ⟨_, h.c8⟩ | 9, _ => ⟨_, h.c9⟩ | 10, _ => ⟨_, h.c10⟩ | 11, _ => ⟨_, h.c11⟩ | 12, _ => ⟨_, h.c12⟩, h.free⟩
theorem BdZ.all {w : World} {g : Nat} (h : BdZ w g) : ∃ z0 z1 z2 z3 z4 z5 z6 z7 z8 z9 z10 z11 z12 : Value, w.cell? ⟨g, 0, none⟩ = some z0 ∧ w.cell? ⟨g, 1, none⟩ = some z1 ∧ w.cell? ⟨g, 2, none⟩ = some z2 ∧ w.cell? ⟨g, 3, none⟩ = some z3 ∧ w.cell? ⟨g, 4, none⟩ = some z4 ∧ w.cell? ⟨g, 5, none⟩ = some z5 ∧ w.cell? ⟨g, 6, none⟩ = some z6 ∧ w.cell? ⟨g, 7, none⟩ = some z7 ∧ w.cell? ⟨g, 8, none⟩ = some z8 ∧ w.cell? ⟨g, 9, none⟩ = some z9 ∧ w.cell? ⟨g, 10, none⟩ = some z10 ∧ w.cell? ⟨g, 11, none⟩ = some z11 ∧ w.cell? ⟨g, 12, none⟩ = some z12 := by
 obtain ⟨z0, h0⟩ := h.c 0 (by omega)
 obtain ⟨z1, h1⟩ := h.c 1 (by omega)
 obtain ⟨z2, h2⟩ := h.c 2 (by omega)
 obtain ⟨z3, h3⟩ := h.c 3 (by omega)
 obtain ⟨z4, h4⟩ := h.c 4 (by omega)
 obtain ⟨z5, h5⟩ := h.c 5 (by omega)
 obtain ⟨z6, h6⟩ := h.c 6 (by omega)
 obtain ⟨z7, h7⟩ := h.c 7 (by omega)
 obtain ⟨z8, h8⟩ := h.c 8 (by omega)
 obtain ⟨z9, h9⟩ := h.c 9 (by omega)
 obtain ⟨z10, h10⟩ := h.c 10 (by omega)
 obtain ⟨z11, h11⟩ := h.c 11 (by omega)
 obtain ⟨z12, h12⟩ := h.c 12 (by omega)
 exact ⟨z0, z1, z2, z3, z4, z5, z6, z7, z8, z9, z10, z11, z12, h0, h1, h2, h3, h4, h5, h6, h7, h8, h9, h10, h11, h12⟩
theorem BdAt.set_px {w : World} {g : Nat} {b : Bd} {A : Option Addr} {n c : Nat} (h : BdAt w g b A n c) (v : Int) : BdAt (w.setCell ⟨g, 0, none⟩ (.int .i64 v)) g { b with px := v } A n c := by
 obtain ⟨k0, k1, k2, k3, k4, k5, k6, k7, k8, k9, k10, k11, k12, kf⟩ := h
 exact ⟨by go_simp, by go_simp, by go_simp, by go_simp, by go_simp, by go_simp, by go_simp, by go_simp, by go_simp, by go_simp, by go_simp, by go_simp, by go_simp, fun j => by rw [World.frozen?_setCell]; exact kf j⟩
theorem BdAt.set_py {w : World} {g : Nat} {b : Bd} {A : Option Addr} {n c : Nat} (h : BdAt w g b A n c) (v : Int) : BdAt (w.setCell ⟨g, 1, none⟩ (.int .i64 v)) g { b with py := v } A n c := by
 obtain ⟨k0, k1, k2, k3, k4, k5, k6, k7, k8, k9, k10, k11, k12, kf⟩ := h
 exact ⟨by go_simp, by go_simp, by go_simp, by go_simp, by go_simp, by go_simp, by go_simp, by go_simp, by go_simp, by go_simp, by go_simp, by go_simp, by go_simp, fun j => by rw [World.frozen?_setCell]; exact kf j⟩
theorem BdAt.set_vx {w : World} {g : Nat} {b : Bd} {A : Option Addr} {n c : Nat} (h : BdAt w g b A n c) (v : Int) : BdAt (w.setCell ⟨g, 2, none⟩ (.int .i64 v)) g { b with vx := v } A n c := by
 obtain ⟨k0, k1, k2, k3, k4, k5, k6, k7, k8, k9, k10, k11, k12, kf⟩ := h
 exact ⟨by go_simp, by go_simp, by go_simp, by go_simp, by go_simp, by go_simp, by go_simp, by go_simp, by go_simp, by go_simp, by go_simp, by go_simp, by go_simp, fun j => by rw [World.frozen?_setCell]; exact kf j⟩
theorem BdAt.set_vy {w : World} {g : Nat} {b : Bd} {A : Option Addr} {n c : Nat} (h : BdAt w g b A n c) (v : Int) : BdAt (w.setCell ⟨g, 3, none⟩ (.int .i64 v)) g { b with vy := v } A n c := by
 obtain ⟨k0, k1, k2, k3, k4, k5, k6, k7, k8, k9, k10, k11, k12, kf⟩ := h
 exact ⟨by go_simp, by go_simp, by go_simp, by go_simp, by go_simp, by go_simp, by go_simp, by go_simp, by go_simp, by go_simp, by go_simp, by go_simp, by go_simp, fun j => by rw [World.frozen?_setCell]; exact kf j⟩
theorem BdAt.set_ang {w : World} {g : Nat} {b : Bd} {A : Option Addr} {n c : Nat} (h : BdAt w g b A n c) (v : Int) : BdAt (w.setCell ⟨g, 4, none⟩ (.int .i64 v)) g { b with ang := v } A n c := by
 obtain ⟨k0, k1, k2, k3, k4, k5, k6, k7, k8, k9, k10, k11, k12, kf⟩ := h
 exact ⟨by go_simp, by go_simp, by go_simp, by go_simp, by go_simp, by go_simp, by go_simp, by go_simp, by go_simp, by go_simp, by go_simp, by go_simp, by go_simp, fun j => by rw [World.frozen?_setCell]; exact kf j⟩
theorem BdAt.set_spin {w : World} {g : Nat} {b : Bd} {A : Option Addr} {n c : Nat} (h : BdAt w g b A n c) (v : Int) : BdAt (w.setCell ⟨g, 5, none⟩ (.int .i64 v)) g { b with spin := v } A n c := by
 obtain ⟨k0, k1, k2, k3, k4, k5, k6, k7, k8, k9, k10, k11, k12, kf⟩ := h
 exact ⟨by go_simp, by go_simp, by go_simp, by go_simp, by go_simp, by go_simp, by go_simp, by go_simp, by go_simp, by go_simp, by go_simp, by go_simp, by go_simp, fun j => by rw [World.frozen?_setCell]; exact kf j⟩
theorem Sl.setAt {w : World} {A : Option Addr} {n c g o : Nat} {l : List V} {v : Value} (h : Sl w A n c l) (hne : ∀ b off, A = some ⟨b, off, none⟩ → b ≠ g) : Sl (w.setCell ⟨g, o, none⟩ v) A n c l := h.grown (grown_setCell _ _ _ _) hne
theorem BdZ.set {w : World} {g : Nat} (h : BdZ w g) (a : Addr) (u : Value) : BdZ (w.setCell a u) g := ⟨fun j hj => by
  obtain ⟨v, hv⟩ := h.c j hj
  by_cases e : a = ⟨g, j, none⟩
  ·subst e; exact ⟨u, by go_simp⟩
  ·exact ⟨v, by go_simp⟩, fun j => by rw [World.frozen?_setCell]; exact h.free j⟩

def setBd (w : World) (g : Nat) (b : Bd) (A : Option Addr) (n c : Nat) : World := (((((((((((((w.setCell ⟨g, 0, none⟩ (.int .i64 b.px)).setCell ⟨g, 1, none⟩ (.int .i64 b.py)).setCell ⟨g, 2, none⟩ (.int .i64 b.vx)).setCell ⟨g, 3, none⟩ (.int .i64 b.vy)).setCell ⟨g, 4, none⟩ (.int .i64 b.ang)).setCell ⟨g, 5, none⟩ (.int .i64 b.spin)).setCell ⟨g, 6, none⟩ (.int .i64 b.mass)).setCell ⟨g, 7, none⟩ (.int .i64 b.iner)).setCell ⟨g, 8, none⟩ (.int .i64 b.bounce)).setCell ⟨g, 9, none⟩ (.int .i64 b.rub)).setCell ⟨g, 10, none⟩ (.slice A n c)).setCell ⟨g, 11, none⟩ (.bool b.asleep)).setCell ⟨g, 12, none⟩ (.int .i64 b.calm))
theorem BdZ.setBd {w : World} {g k : Nat} (h : BdZ w k) (b : Bd) (A : Option Addr) (n c : Nat) : BdZ (Go.Proofs.YtiaoandbdgdecaaGreat.setBd w g b A n c) k := (((((((((((((h.set _ _).set _ _).set _ _).set _ _).set _ _).set _ _).set _ _).set _ _).set _ _).set _ _).set _ _).set _ _).set _ _)
theorem Sl.setBd {w : World} {A A' : Option Addr} {n c n' c' g : Nat} {l : List V} (h : Sl w A n c l) (b : Bd) (hne : ∀ bx off, A = some ⟨bx, off, none⟩ → bx ≠ g) : Sl (Go.Proofs.YtiaoandbdgdecaaGreat.setBd w g b A' n' c') A n c l := (Sl.setAt (Sl.setAt (Sl.setAt (Sl.setAt (Sl.setAt (Sl.setAt (Sl.setAt (Sl.setAt (Sl.setAt (Sl.setAt (Sl.setAt (Sl.setAt (Sl.setAt h hne) hne) hne) hne) hne) hne) hne) hne) hne) hne) hne) hne) hne)

def bd0 : Bd := ⟨0, 0, 0, 0, 0, 0, 0, 0, 0, 0, false, 0⟩
set_option maxRecDepth 100000 in
set_option maxHeartbeats 2000000 in
end
end Go.Proofs.YtiaoandbdgdecaaGreat
namespace Go.Proofs.YtiaoandbdgdecaaGreat
section
set_option linter.unusedVariables false
set_option linter.unusedSimpArgs false
open Go.RowKit
theorem keepSl {w w' : World} {A : Option Addr} {n c : Nat} {l : List V} (hb : Below w.heap.size w w') (h : Sl w A n c l) : Sl w' A n c l := h.below hb
theorem Sl.drew' {w : World} {A : Option Addr} {n c : Nat} {l : List V} (h : Sl w A n c l) : Sl w.drew A n c l := ⟨h.len, h.cap, h.big, fun hl => by obtain ⟨b, off, e, hc⟩ := h.at_ hl; exact ⟨b, off, e, ⟨hc.lt, hc.x, hc.y⟩⟩⟩
theorem bodyE_zero {b : Bd} {l : List V} (h : bodyE b l = 0) : shapeE l = 0 ∧ numE b = 0 := by
 unfold bodyE at h
 split at h
 ·rename_i h1; exact absurd h h1
 ·rename_i h1; exact ⟨by simpa using h1, h⟩
theorem inB_iff {n l h : Int} : inB n l h = true ↔ l ≤ n ∧ n ≤ h := by simp [inB]
theorem numE_zero {b : Bd} (h : numE b = 0) : (-58982400 ≤ b.px ∧ b.px ≤ 58982400 ∧ -58982400 ≤ b.py ∧ b.py ≤ 58982400) ∧ (-268435456 ≤ b.vx ∧ b.vx ≤ 268435456 ∧ -268435456 ≤ b.vy ∧ b.vy ≤ 268435456) ∧ (-16777216 ≤ b.spin ∧ b.spin ≤ 16777216) ∧ (0 ≤ b.ang ∧ b.ang ≤ 65535) ∧ (0 ≤ b.mass ∧ b.mass ≤ 1099511627776) ∧ (0 ≤ b.iner ∧ b.iner ≤ 1099511627776) := by
 unfold numE at h
 split at h
 ·rename_i h1
  split at h
  ·rename_i h2
   simp only [Bool.and_eq_true] at h1 h2
   exact ⟨withinB_iff.1 h1.1.1.1, withinB_iff.1 h1.1.1.2, inB_iff.1 h1.1.2, inB_iff.1 h1.2, inB_iff.1 h2.1.1.1.1, inB_iff.1 h2.1.1.1.2⟩
  ·omega
 ·omega
end
end Go.Proofs.YtiaoandbdgdecaaGreat
namespace Go.Proofs.YtiaoandbdgdecaaGreat
section
set_option linter.unusedVariables false
set_option linter.unusedSimpArgs false
open Go.RowKit

theorem BdAt.away {w : World} {g : Nat} {b : Bd} {A : Option Addr} {n c : Nat} (h : BdAt w g b A n c) (k o : Nat) (v : Value) (hne : k ≠ g) : BdAt (w.setCell ⟨k, o, none⟩ v) g b A n c :=
 ⟨far1 hne h.c0, far1 hne h.c1, far1 hne h.c2, far1 hne h.c3, far1 hne h.c4, far1 hne h.c5, far1 hne h.c6, far1 hne h.c7, far1 hne h.c8, far1 hne h.c9, far1 hne h.c10, far1 hne h.c11, far1 hne h.c12, fun j => by rw [World.frozen?_setCell]; exact h.free j⟩
set_option maxRecDepth 100000 in
set_option maxHeartbeats 4000000 in
end
end Go.Proofs.YtiaoandbdgdecaaGreat
namespace Go.Proofs.YtiaoandbdgdecaaGreat
section
set_option linter.unusedVariables false
set_option linter.unusedSimpArgs false
open Go.RowKit
set_option maxRecDepth 100000 in
set_option maxHeartbeats 8000000 in
end
end Go.Proofs.YtiaoandbdgdecaaGreat
namespace Go.Proofs.YtiaoandbdgdecaaGreat
section
set_option linter.unusedVariables false
set_option linter.unusedSimpArgs false
open Go.RowKit
set_option maxRecDepth 100000 in
set_option maxHeartbeats 4000000 in
end
end Go.Proofs.YtiaoandbdgdecaaGreat
