/- Parts of a proof: contracts and laws. -/
import Derived.Test.YtienmhgbildhhaaC11
import Derived.Maps.AppendAt
import Derived.BigQuiet
namespace Go.Proofs.Ytienmhgbildhhaa
section
set_option linter.unusedVariables false
set_option linter.unusedSimpArgs false
open Go.RowKit

def OwnI (w : World) (B : Nat) (v : Value) (r : List Int) : Prop := w.ownsRow B 3 1 v r.length (r.map fun x => .int .i64 x)
theorem OwnI.nil (w : World) (B : Nat) : OwnI w B (.slice none 0 0) [] := World.ownsRow_nil _ _ _ _
theorem OwnI.kept {w w' : World} {B : Nat} {v : Value} {r : List Int} {row : Option Nat} (h : OwnI w B v r) (hg : w.grownBy w' row) (hr : v.ownBlock = none ∨ v.ownBlock ≠ row) : OwnI w' B v r := World.ownsRow.kept h hg hr
theorem OwnI.below {w w' : World} {B : Nat} {v : Value} {r : List Int} (h : OwnI w B v r) (hb : Below w.heap.size w w') : OwnI w' B v r :=
  h.kept (grown_of_below (row := none) hb) (by cases hv : v.ownBlock with | none => exact .inl rfl | some k => exact .inr (by simp))
theorem OwnI.alloc {w : World} {B : Nat} {v : Value} {r : List Int} (h : OwnI w B v r) (o : Obj) : OwnI (w.alloc o) B v r := World.ownsRow.alloc h o
theorem OwnI.drew {w : World} {B : Nat} {v : Value} {r : List Int} (h : OwnI w B v r) : OwnI w.drew B v r := h
theorem OwnI.grown {w w' : World} {B : Nat} {v : Value} {r : List Int} (h : OwnI w B v r) (hg : w.grownBy w' v.ownBlock) (hB : B ≤ w.heap.size) : Below B w w' :=
  (Below.refl B w).grown hg hB (fun k hk => (World.ownsRow.lt h k hk).1)
theorem OwnI.sl {w : World} {B : Nat} {v : Value} {r : List Int} (h : OwnI w B v r) : ∃ A n c, v = .slice A n c ∧ SlI w A n c r := by
  have hc := fun g hg => World.ownsRow.cells h (g := g) hg
  obtain ⟨h1, h2 | ⟨g, cap, cur, rfl, hb, hg, hn, hm, hs, ht⟩⟩ := h
  · obtain ⟨rfl, h0⟩ := h2
    refine ⟨none, 0, 0, rfl, ⟨h0.symm, by omega, by omega, fun hl => ?_⟩⟩
    exact absurd (List.length_eq_zero_iff.1 h0) hl
  · refine ⟨_, _, _, rfl, ⟨rfl, hn, by unfold maxLen at hm; omega, fun _ => ⟨g, 0, rfl, (Array.getElem?_eq_some_iff.1 hg).1, fun j hj => ?_⟩⟩⟩
    have := hc g rfl j (.int .i64 (r.getD j 0)) (by simp [hj])
    have hadd : (⟨g, 0, none⟩ : Addr).add j = ⟨g, 0 + j, none⟩ := by unfold Addr.add; split <;> simp_all
    rwa [hadd] at this


structure Hold1 (w : World) (g : Nat) (z : Int) : Prop where
  c : w.cell? ⟨g, 0, none⟩ = some (.int .i64 z)
  lt : g < w.heap.size
theorem Hold1.here (w : World) (z : Int) (t : TypeId) : Hold1 (w.alloc (.cells #[.int .i64 z] t)) w.heap.size z := ⟨by go_simp, by simp⟩
theorem Hold1.drew {w : World} {g : Nat} {z : Int} (h : Hold1 w g z) : Hold1 w.drew g z := ⟨h.c, h.lt⟩

structure B4 (w : World) (g : Nat) : Prop where
  c : ∃ x y z u : Value, w.cell? ⟨g, 0, none⟩ = some x ∧ w.cell? ⟨g, 1, none⟩ = some y ∧ w.cell? ⟨g, 2, none⟩ = some z ∧ w.cell? ⟨g, 3, none⟩ = some u
  free : ∀ j, w.frozen? ⟨g, j, none⟩ = false
theorem B4.lt {w : World} {g : Nat} (h : B4 w g) : g < w.heap.size := by obtain ⟨⟨_, _, _, _, h0, _⟩, _⟩ := h; exact lt_of_cell h0
theorem keepB4B {w w' : World} {B g : Nat} (hb : Below B w w') (hg : g < B) (h : B4 w g) : B4 w' g := by
  obtain ⟨⟨x, y, z, u, h0, h1, h2, h3⟩, hf⟩ := h
  exact ⟨⟨x, y, z, u, ((bcell hb).1 _ _ hg).trans h0, ((bcell hb).1 _ _ hg).trans h1, ((bcell hb).1 _ _ hg).trans h2, ((bcell hb).1 _ _ hg).trans h3⟩, fun j => ((bcell hb).2 _ _ hg).trans (hf j)⟩
theorem keepB4 {w w' : World} {g : Nat} (hb : Below w.heap.size w w') (h : B4 w g) : B4 w' g := keepB4B hb h.lt h
theorem B4.alloc {w : World} {g : Nat} (h : B4 w g) (o : Obj) : B4 (w.alloc o) g := keepB4 ((Below.refl _ _).alloc (Nat.le_refl _) _) h
theorem B4.drew {w : World} {g : Nat} (h : B4 w g) : B4 w.drew g := ⟨h.c, h.free⟩
theorem B4.here (w : World) (a b c d : Int) (t : TypeId) : B4 (w.alloc (.cells #[.int .i64 a, .int .i64 b, .int .i64 c, .int .i64 d] t)) w.heap.size :=
  ⟨⟨.int .i64 a, .int .i64 b, .int .i64 c, .int .i64 d, by go_simp, by go_simp, by go_simp, by go_simp⟩, fun j => by go_simp⟩
end
end Go.Proofs.Ytienmhgbildhhaa
namespace Go.Proofs.Ytienmhgbildhhaa
section
set_option linter.unusedVariables false
set_option linter.unusedSimpArgs false
open Go.RowKit

def nrmX (l : List V) (i : Nat) : Int := py l ((i + 1) % l.length) - py l i
def nrmY (l : List V) (i : Nat) : Int := px l i - px l ((i + 1) % l.length)
set_option maxRecDepth 100000 in
set_option maxHeartbeats 4000000 in

def rootB (n : Int) : Nat → Int → Int
  | 0, a => a
  | k + 1, a => if (a + 2 ^ k) * (a + 2 ^ k) ≤ n then rootB n k (a + 2 ^ k) else rootB n k a
def rootZ (n : Int) : Int := rootB n 64 0
theorem rootB_spec (n : Int) : ∀ (k : Nat) (a : Int), 0 ≤ a → a * a ≤ n → n < (a + 2 ^ k) * (a + 2 ^ k) → 0 ≤ rootB n k a ∧ rootB n k a * rootB n k a ≤ n ∧ n < (rootB n k a + 1) * (rootB n k a + 1) := by
  intro k
  induction k with
  | zero => intro a h0 h1 h2; exact ⟨h0, h1, by simpa [rootB] using h2⟩
  | succ k ih =>
    intro a h0 h1 h2
    have hp : (0 : Int) < 2 ^ k := Int.pow_pos (by omega)
    have e : (2 : Int) ^ (k + 1) = 2 ^ k + 2 ^ k := by rw [Int.pow_succ]; omega
    unfold rootB
    split
    · rename_i h; exact ih _ (by omega) h (by rw [e] at h2; rwa [show a + 2 ^ k + 2 ^ k = a + (2 ^ k + 2 ^ k) by omega])
    · rename_i h; exact ih _ h0 h1 (by omega)
theorem rootZ_spec {n : Int} (h0 : 0 ≤ n) (h1 : n < 340282366920938463463374607431768211456) : 0 ≤ rootZ n ∧ rootZ n * rootZ n ≤ n ∧ n < (rootZ n + 1) * (rootZ n + 1) :=
  rootB_spec n 64 0 (by omega) (by omega) (by
    have e : ((0 : Int) + 2 ^ 64) * (0 + 2 ^ 64) = 340282366920938463463374607431768211456 := by decide
    rw [e]; exact h1)
theorem sq_lt {r s : Int} (h0 : 0 ≤ r) (h : r < s) : (r + 1) * (r + 1) ≤ s * s := Int.mul_le_mul (by omega) (by omega) (by omega) (by omega)
set_option maxRecDepth 100000 in
set_option maxHeartbeats 4000000 in

def lenZ (x y : Int) : Int := rootZ (x * x + y * y)
end
end Go.Proofs.Ytienmhgbildhhaa
