/- Parts of a proof: contracts and laws. -/
import Derived.Test.YtiaoandbdgdecaaGreatPM19
import Derived.Test.YtiaoandbdgdecaaGreatPM18
import Derived.Test.YtiaoandbdgdecaaGreatPM12
import Derived.BigRegion
import Derived.Deep.DeepCutAuto
import Derived.Test.YtiaoandbdgdecaaGreatPM16
import Derived.Test.YtiaoandbdgdecaaGreatPM31
import Derived.Test.YtiaoandbdgdecaaGreatPM32
import Derived.Test.YtiaoandbdgdecaaGreatPM09
import Derived.Test.YtiaoandbdgdecaaGreatPM02
import Derived.Test.YtiaoandbdgdecaaGreatPM04
import Derived.Test.YtiaoandbdgdecaaGreatPM05
namespace Go.Proofs.YtiaoandbdgdecaaGreat
section
set_option linter.unusedVariables false
set_option linter.unusedSimpArgs false
open Go.RowKit

structure PlAt (w : World) (g : Nat) (b : Bd) (l : List V) (k : Nat) : Prop where
 lt : g < w.heap.size
 x : ∀ j, j < k → w.cell? ⟨g, j * 2, none⟩ = some (.int .i64 (wX b (px l j) (py l j)))
 y : ∀ j, j < k → w.cell? ⟨g, j * 2 + 1, none⟩ = some (.int .i64 (wY b (px l j) (py l j)))
 c : ∀ j, j < l.length * 2 → ∃ v, w.cell? ⟨g, j, none⟩ = some v
 free : ∀ j, w.frozen? ⟨g, j, none⟩ = false
theorem PlAt.drew {w : World} {g : Nat} {b : Bd} {l : List V} {k : Nat} (h : PlAt w g b l k) : PlAt w.drew g b l k := ⟨h.lt, h.x, h.y, h.c, h.free⟩
theorem PlAt.set {w : World} {g : Nat} {b : Bd} {l : List V} {k : Nat} (h : PlAt w g b l k) (hk : k < l.length) :
  PlAt ((w.setCell ⟨g, k * 2, none⟩ (.int .i64 (wX b (px l k) (py l k)))).setCell ⟨g, k * 2 + 1, none⟩ (.int .i64 (wY b (px l k) (py l k)))) g b l (k + 1) := by
 obtain ⟨z0, y0⟩ := h.c (k * 2) (by omega)
 obtain ⟨z1, y1⟩ := h.c (k * 2 + 1) (by omega)
 refine ⟨by simpa using h.lt, fun j hj => ?_, fun j hj => ?_, fun j hj => ?_, fun j => by rw [World.frozen?_setCell, World.frozen?_setCell]; exact h.free j⟩
 ·by_cases e : j = k
  ·subst e; go_simp
  ·have := h.x j (by omega)
   have n1 : ¬ (k * 2 = j * 2) := by omega
   have n2 : ¬ (k * 2 + 1 = j * 2) := by omega
   have n3 : ¬ (j * 2 = k * 2) := by omega
   have n4 : ¬ (j * 2 = k * 2 + 1) := by omega
   go_simp
 ·by_cases e : j = k
  ·subst e; go_simp
  ·have := h.y j (by omega)
   have n1 : ¬ (k * 2 = j * 2 + 1) := by omega
   have n2 : ¬ (k * 2 + 1 = j * 2 + 1) := by omega
   have n3 : ¬ (j * 2 + 1 = k * 2) := by omega
   have n4 : ¬ (j * 2 + 1 = k * 2 + 1) := by omega
   go_simp
 ·obtain ⟨v, hv⟩ := h.c j hj
  by_cases e : k * 2 + 1 = j
  ·subst e; exact ⟨.int .i64 (wY b (px l k) (py l k)), by go_simp⟩
  ·by_cases e2 : k * 2 = j
   ·subst e2; exact ⟨.int .i64 (wX b (px l k) (py l k)), by go_simp⟩
   ·exact ⟨v, by go_simp⟩
set_option maxRecDepth 100000 in
set_option maxHeartbeats 4000000 in
end
end Go.Proofs.YtiaoandbdgdecaaGreat
namespace Go.Proofs.YtiaoandbdgdecaaGreat
section
set_option linter.unusedVariables false
set_option linter.unusedSimpArgs false
open Go.RowKit
theorem BdAt.far {w : World} {g : Nat} {b : Bd} {A : Option Addr} {n c : Nat} (h : BdAt w g b A n c) (k o : Nat) (v : Value) (hne : k ≠ g) : BdAt (w.setCell ⟨k, o, none⟩ v) g b A n c :=
 ⟨far1 hne h.c0, far1 hne h.c1, far1 hne h.c2, far1 hne h.c3, far1 hne h.c4, far1 hne h.c5, far1 hne h.c6, far1 hne h.c7, far1 hne h.c8, far1 hne h.c9, far1 hne h.c10, far1 hne h.c11, far1 hne h.c12, fun j => by rw [World.frozen?_setCell]; exact h.free j⟩
set_option maxRecDepth 100000 in
set_option maxHeartbeats 4000000 in
end
end Go.Proofs.YtiaoandbdgdecaaGreat
namespace Go.Proofs.YtiaoandbdgdecaaGreat
section
set_option linter.unusedVariables false
set_option linter.unusedSimpArgs false
open Go.RowKit
theorem absZ_le {a M : Int} (h1 : -M ≤ a) (h2 : a ≤ M) : absZ a ≤ M := by unfold absZ; split <;> omega
theorem sizeL_made {l : List V} (h : allWithin 262144 l = true) {i k : Nat} (hi : i < l.length) (hk : k < l.length) : sizeL l i k ≤ 1048576 := by
 have h1 := withinB_iff.1 (allWithin_at h hi)
 have h2 := withinB_iff.1 (allWithin_at h hk)
 have e1 := absZ_le (a := px l k - px l i) (M := 524288) (by omega) (by omega)
 have e2 := absZ_le (a := py l k - py l i) (M := 524288) (by omega) (by omega)
 unfold sizeL
 omega
theorem fatBad_not {l : List V} (hw : allWithin 262144 l = true) {i k : Nat} (hi : i < l.length) (hk : k < l.length) (h : k = i ∨ k = (i + 1) % l.length ∨ 16777216 ≤ sideL l i ((i + 1) % l.length) k) : fatBad l i k = false := by
 unfold fatBad
 refine decide_eq_false ?_
 rintro ⟨n1, n2, n3⟩
 rcases h with h | h | h
 ·exact n1 h
 ·exact n2 h
 ·have a1 := sizeL_made hw hi (Nat.mod_lt (i + 1) (show 0 < l.length by omega))
  have a2 := sizeL_made hw hi hk
  omega
theorem fat_of {l : List V} (hw : allWithin 262144 l = true) (h : ∀ i, i < l.length → ∀ k, k < l.length → (k = i ∨ k = (i + 1) % l.length ∨ 16777216 ≤ sideL l i ((i + 1) % l.length) k)) : fatB l = true :=
 fatB_ok fun i hi k hk => fatBad_not hw hi hk (h i hi k hk)
theorem tri_fat {w h x : Int} (hw : w = 65536 ∨ w = 131072 ∨ w = 196608 ∨ w = 262144) (hh : h = 65536 ∨ h = 131072 ∨ h = 196608 ∨ h = 262144) (h1 : -w ≤ x) (h2 : x < w) : fatB [(-w, -h), (w, -h), (x, h)] = true := by
 have hp : 4294967296 ≤ w * h := by rcases hw with rfl | rfl | rfl | rfl <;> omega
 refine fat_of (by simp [allWithin, withinB]; omega) ?_
 intro i hi k hk
 simp only [List.length_cons, List.length_nil] at hi hk
 match i, hi, k, hk with
 | 0, _, 0, _ => exact .inl rfl
 | 0, _, 1, _ => exact .inr (.inl rfl)
 | 0, _, 2, _ => refine .inr (.inr ?_); simp [sideL, sideZ, px, py]; grind
 | 1, _, 0, _ => refine .inr (.inr ?_); simp [sideL, sideZ, px, py]; grind
 | 1, _, 1, _ => exact .inl rfl
 | 1, _, 2, _ => exact .inr (.inl rfl)
 | 2, _, 0, _ => exact .inr (.inl (by simp))
 | 2, _, 1, _ => refine .inr (.inr ?_); simp [sideL, sideZ, px, py]; grind
 | 2, _, 2, _ => exact .inl rfl
theorem made_fat {l : List V} (h : Made l) : fatB l = true := by
 obtain ⟨a, b, k, x, ha, hb, hk, h1, h2, rfl⟩ := h
 rcases hk with rfl | rfl | rfl | rfl
 ·rw [formL_nox _ _ _ _ (by decide)]; rcases ha with rfl | rfl | rfl | rfl <;> rcases hb with rfl | rfl | rfl | rfl <;> decide
 ·exact tri_fat (by omega) (by omega) h1 h2
 ·rw [formL_nox _ _ _ _ (by decide)]; rcases ha with rfl | rfl | rfl | rfl <;> rcases hb with rfl | rfl | rfl | rfl <;> decide
 ·rw [formL_nox _ _ _ _ (by decide)]; rcases ha with rfl | rfl | rfl | rfl <;> rcases hb with rfl | rfl | rfl | rfl <;> decide
theorem tri_has {w h x : Int} (hw : w = 65536 ∨ w = 131072 ∨ w = 196608 ∨ w = 262144) (hh : h = 65536 ∨ h = 131072 ∨ h = 196608 ∨ h = 262144) (h1 : -w ≤ x) (h2 : x < w) : hasB [(-w, -h), (w, -h), (x, h)] 0 0 = true := by
 refine hasB_true (made_tri _ _ _ (by omega) (by omega) (by omega) (by omega) h1 h2) (by decide) ?_
 intro i hi
 simp only [List.length_cons, List.length_nil] at hi
 match i, hi with
 | 0, _ => rcases hw with rfl | rfl | rfl | rfl <;> rcases hh with rfl | rfl | rfl | rfl <;> simp [edgeP, sideZ, px, py]
 | 1, _ => rcases hw with rfl | rfl | rfl | rfl <;> rcases hh with rfl | rfl | rfl | rfl <;> simp [edgeP, sideZ, px, py] <;> omega
 | 2, _ => rcases hw with rfl | rfl | rfl | rfl <;> rcases hh with rfl | rfl | rfl | rfl <;> simp [edgeP, sideZ, px, py] <;> omega
theorem made_has {l : List V} (h : Made l) : hasB l 0 0 = true := by
 obtain ⟨a, b, k, x, ha, hb, hk, h1, h2, rfl⟩ := h
 rcases hk with rfl | rfl | rfl | rfl
 ·rw [formL_nox _ _ _ _ (by decide)]; rcases ha with rfl | rfl | rfl | rfl <;> rcases hb with rfl | rfl | rfl | rfl <;> decide
 ·exact tri_has (by omega) (by omega) h1 h2
 ·rw [formL_nox _ _ _ _ (by decide)]; rcases ha with rfl | rfl | rfl | rfl <;> rcases hb with rfl | rfl | rfl | rfl <;> decide
 ·rw [formL_nox _ _ _ _ (by decide)]; rcases ha with rfl | rfl | rfl | rfl <;> rcases hb with rfl | rfl | rfl | rfl <;> decide
theorem made_shape {l : List V} (h : Made l) : shapeE l = 0 := by
 have hw : allWithin 2097152 l = true := by
  have := made_within h
  unfold allWithin at this ⊢
  rw [List.all_eq_true] at this ⊢
  intro p hp
  have := withinB_iff.1 (this p hp)
  exact withinB_iff.2 (by omega)
 unfold shapeE
 rw [if_neg (by simp [made_check h]), if_neg (by simp [hw]), if_neg (by simp [made_fat h, made_has h])]
theorem madeB_num {b : Bd} (h : MadeB b) : numE b = 0 := by
 obtain ⟨hpx, hpy, ang, bo, ru, asl, ca, k⟩ := h
 have a1 : withinB 58982400 b.px b.py = true := withinB_iff.2 (by omega)
 have a2 : withinB 268435456 b.vx b.vy = true := withinB_iff.2 (by rcases k with k | k <;> omega)
 have a3 : inB b.spin (-16777216) 16777216 = true := inB_iff.2 (by rcases k with k | k <;> omega)
 have a4 : inB b.ang 0 65535 = true := inB_iff.2 ang
 have a5 : inB b.mass 0 1099511627776 = true := inB_iff.2 (by rcases k with k | k <;> omega)
 have a6 : inB b.iner 0 1099511627776 = true := inB_iff.2 (by rcases k with k | k <;> omega)
 have a7 : inB b.bounce 0 65536 = true := inB_iff.2 bo
 have a8 : inB b.rub 0 65536 = true := inB_iff.2 ru
 have a9 : inB b.calm 0 1000 = true := inB_iff.2 (by omega)
 unfold numE
 rw [if_pos (by simp [a1, a2, a3, a4]), if_pos (by simp [a5, a6, a7, a8, a9])]
 rcases k with ⟨k1, k2, k3, k4, k5⟩ | ⟨k1, k2, k3, k4, k5⟩
 ·rw [if_neg (by simp [stillB, k1, k2, k3, k4, k5, asl, ca])]
 ·have m1 : (b.mass == 0) = false := by simp; omega
  have m2 : (b.iner == 0) = false := by simp; omega
  rw [if_neg (by simp [m1, m2, asl])]
theorem madeB_ok {b : Bd} {l : List V} (h : MadeB b) (hl : Made l) : bodyE b l = 0 := by
 unfold bodyE
 rw [if_neg (by simp [made_shape hl])]
 exact madeB_num h
end
end Go.Proofs.YtiaoandbdgdecaaGreat
namespace Go.Proofs.YtiaoandbdgdecaaGreat
section
set_option linter.unusedVariables false
set_option linter.unusedSimpArgs false
open Go.RowKit

def lowB (l : List V) (i k : Nat) : Prop := py l i < py l k ∨ (py l i = py l k ∧ px l i < px l k)
instance (l : List V) (i k : Nat) : Decidable (lowB l i k) := by unfold lowB; infer_instance




def sqZ (x y : Int) : Int := x * x + y * y



end
end Go.Proofs.YtiaoandbdgdecaaGreat
namespace Go.Proofs.YtiaoandbdgdecaaGreat
section
set_option linter.unusedVariables false
set_option linter.unusedSimpArgs false
open Go.RowKit

def cr (p q : V) : Int := p.1 * q.2 - p.2 * q.1
def dup (p : V) : Prop := 0 < p.2 ∨ (p.2 = 0 ∧ 0 < p.1)
def ddn (p : V) : Prop := p.2 < 0 ∨ (p.2 = 0 ∧ p.1 < 0)
def vsub (p q : V) : V := (p.1 - q.1, p.2 - q.2)
theorem dup_or {p : V} (h : p.1 ≠ 0 ∨ p.2 ≠ 0) : dup p ∨ ddn p := by unfold dup ddn; omega
theorem cr_ne {p q : V} (h : cr p q ≠ 0) : (p.1 ≠ 0 ∨ p.2 ≠ 0) ∧ (q.1 ≠ 0 ∨ q.2 ≠ 0) := by
 unfold cr at h
 constructor
 ·rcases Decidable.em (p.1 = 0 ∧ p.2 = 0) with ⟨a, b⟩ | g
  ·rw [a, b] at h; simp at h
  ·omega
 ·rcases Decidable.em (q.1 = 0 ∧ q.2 = 0) with ⟨a, b⟩ | g
  ·rw [a, b] at h; simp at h
  ·omega


def dle (e f : V) : Prop := (dup e ∧ ddn f) ∨ (dup e ∧ dup f ∧ 0 ≤ cr e f) ∨ (ddn e ∧ ddn f ∧ 0 ≤ cr e f)

structure Cyc (n : Nat) (E : Nat → V) : Prop where
 pos : 2 ≤ n
 per : ∀ x, E (x + n) = E x
 turn : ∀ x, 0 < cr (E x) (E (x + 1))
 first : dup (E 0)
 last : ddn (E (n - 1))
 mono : ∀ x, x + 1 < n → dup (E (x + 1)) → dup (E x)
theorem Cyc.or {n : Nat} {E : Nat → V} (h : Cyc n E) (x : Nat) : dup (E x) ∨ ddn (E x) := dup_or (cr_ne (show cr (E x) (E (x + 1)) ≠ 0 by have := h.turn x; omega)).1
theorem Cyc.next {n : Nat} {E : Nat → V} (h : Cyc n E) {x : Nat} (hx : x + 1 < n) : dle (E x) (E (x + 1)) := by
 have t := h.turn x
 rcases h.or (x + 1) with g | g
 ·exact .inr (.inl ⟨h.mono x hx g, g, by omega⟩)
 ·rcases h.or x with k | k
  ·exact .inl ⟨k, g⟩
  ·exact .inr (.inr ⟨k, g, by omega⟩)












end
end Go.Proofs.YtiaoandbdgdecaaGreat
namespace Go.Proofs.YtiaoandbdgdecaaGreat
section
set_option linter.unusedVariables false
set_option linter.unusedSimpArgs false
open Go.RowKit

section
variable {n m : Nat} {A C E F : Nat → V}



end



end
end Go.Proofs.YtiaoandbdgdecaaGreat
namespace Go.Proofs.YtiaoandbdgdecaaGreat
section
set_option linter.unusedVariables false
set_option linter.unusedSimpArgs false
open Go.RowKit



section
variable {a b f u P Q : V}

end


end
end Go.Proofs.YtiaoandbdgdecaaGreat
namespace Go.Proofs.YtiaoandbdgdecaaGreat
section
set_option linter.unusedVariables false
set_option linter.unusedSimpArgs false
open Go.RowKit

structure Vp (w : World) (g : Nat) (x y : Int) : Prop where
 a : w.cell? ⟨g, 0, none⟩ = some (.int .i64 x)
 b : w.cell? ⟨g, 1, none⟩ = some (.int .i64 y)
 f : ∀ j, w.frozen? ⟨g, j, none⟩ = false
theorem keepVp {w w' : World} {g : Nat} {x y : Int} (hb : Below w.heap.size w w') (h : Vp w g x y) : Vp w' g x y :=
 ⟨keepCell hb h.a, keepCell hb h.b, fun j => ((bcell hb).2 _ _ (lt_of_cell h.a)).trans (h.f j)⟩
theorem Vp.lt {w : World} {g : Nat} {x y : Int} (h : Vp w g x y) : g < w.heap.size := lt_of_cell h.a
theorem Vp.alloc {w : World} {g : Nat} {x y : Int} (h : Vp w g x y) (o : Obj) : Vp (w.alloc o) g x y := keepVp ((Below.refl _ _).alloc (Nat.le_refl _) _) h
theorem Vp.drew {w : World} {g : Nat} {x y : Int} (h : Vp w g x y) : Vp w.drew g x y := ⟨h.a, h.b, h.f⟩
theorem Vp.here (w : World) (x y : Int) (t : TypeId) : Vp (w.alloc (.cells #[.int .i64 x, .int .i64 y] t)) w.heap.size x y := ⟨by go_simp, by go_simp, fun j => by go_simp⟩
theorem Vp.put {w : World} {g : Nat} {x y : Int} (h : Vp w g x y) (u v : Int) : Vp ((w.setCell ⟨g, 0, none⟩ (.int .i64 u)).setCell ⟨g, 1, none⟩ (.int .i64 v)) g u v := by
 obtain ⟨a, b, f⟩ := h
 exact ⟨by go_simp, by go_simp, fun j => by go_simp⟩
theorem Vp.off {w : World} {g k : Nat} {x y : Int} (h : Vp w g x y) (hne : g ≠ k) (u v : Value) : Vp ((w.setCell ⟨k, 0, none⟩ u).setCell ⟨k, 1, none⟩ v) g x y := by
 obtain ⟨a, b, f⟩ := h
 exact ⟨by go_simp, by go_simp, fun j => by go_simp⟩
def sm62 (a : Int) : Prop := -4611686018427387904 ≤ a ∧ a ≤ 4611686018427387904
end
end Go.Proofs.YtiaoandbdgdecaaGreat
namespace Go.Proofs.YtiaoandbdgdecaaGreat
section
set_option linter.unusedVariables false
set_option linter.unusedSimpArgs false
open Go.RowKit
def sm57 (a : Int) : Prop := -144115188075855872 ≤ a ∧ a ≤ 144115188075855872
theorem sm57.up {a : Int} (h : sm57 a) : sm62 a := by unfold sm57 at h; unfold sm62; omega
theorem sm57.neg {a : Int} (h : sm57 a) : sm57 (-a) := by unfold sm57 at *; omega

structure Cf (w : World) (g : Nat) (x y : Int) : Prop where
 a : w.cell? ⟨g, 0, none⟩ = some (.int .i64 x)
 b : w.cell? ⟨g, 1, none⟩ = some (.int .i64 y)
end
end Go.Proofs.YtiaoandbdgdecaaGreat
namespace Go.Proofs.YtiaoandbdgdecaaGreat
section
set_option linter.unusedVariables false
set_option linter.unusedSimpArgs false
open Go.RowKit
set_option maxRecDepth 100000 in
set_option maxHeartbeats 2000000 in
set_option maxRecDepth 100000 in
set_option maxHeartbeats 4000000 in
set_option maxRecDepth 100000 in
set_option maxHeartbeats 4000000 in
end
end Go.Proofs.YtiaoandbdgdecaaGreat
