/- Parts of a proof: contracts and laws. -/
import Derived.Test.YtiaoandbdgdecaaRows
import Derived.WalkKit
import Derived.Handy
import Derived.RegionTactic
import Derived.ChangeAlike
import Derived.Deep.QuietTactic
import Derived.BigQuiet
import Derived.Deep.RegionWith
import Derived.Deep.DeepCutAuto
import Derived.Deep.RegionHeld3
namespace Go.Proofs.Ytiaoandbdgdecaa
section
set_option linter.unusedVariables false
set_option linter.unusedSimpArgs false
open Go.RowKit

def Ret (v : Value) (w : World) (e : Ending) (w' : World) : Prop := e = .returned v ∧ Below w.heap.size w w'
theorem ret_int {k : IntKind} {a b : Int} {w w' : World} (h : a = b) (hb : Below w.heap.size w w') : Ret (.int k b) w (.returned (.int k a)) w' := ⟨by rw [h], hb⟩
theorem ret_bool {a b : Bool} {w w' : World} (h : a = b) (hb : Below w.heap.size w w') : Ret (.bool b) w (.returned (.bool a)) w' := ⟨by rw [h], hb⟩

abbrev vecV (x y : Int) : Value := .agg #[.int .i64 x, .int .i64 y]

abbrev V := Int × Int
theorem hid {p : Prop} (h : p) : Hid p := h
def px (l : List V) (j : Nat) : Int := (l.getD j (0, 0)).1
def py (l : List V) (j : Nat) : Int := (l.getD j (0, 0)).2

structure Cells (w : World) (b off : Nat) (l : List V) : Prop where
  lt : b < w.heap.size
  x : ∀ j, j < l.length → w.cell? ⟨b, off + j * 2, none⟩ = some (.int .i64 (px l j))
  y : ∀ j, j < l.length → w.cell? ⟨b, off + j * 2 + 1, none⟩ = some (.int .i64 (py l j))

structure Sl (w : World) (A : Option Addr) (n c : Nat) (l : List V) : Prop where
  len : n = l.length
  cap : n ≤ c
  big : c ≤ 9223372036854775807
  at_ : l ≠ [] → ∃ b off, A = some ⟨b, off, none⟩ ∧ Cells w b off l
theorem bcell {W w1 : World} {B : Nat} (hb : Below B W w1) : (∀ b o, b < B → w1.cell? ⟨b, o, none⟩ = W.cell? ⟨b, o, none⟩) ∧ (∀ b o, b < B → w1.frozen? ⟨b, o, none⟩ = W.frozen? ⟨b, o, none⟩) :=
  ⟨fun b o h => hb.cell (p := ⟨b, o, none⟩) h, fun b o h => hb.frozen (p := ⟨b, o, none⟩) h⟩
theorem Cells.below {w w' : World} {b off : Nat} {l : List V} (h : Cells w b off l) (hb : Below w.heap.size w w') : Cells w' b off l :=
  ⟨Nat.lt_of_lt_of_le h.lt hb.size, fun j hj => ((bcell hb).1 _ _ h.lt).trans (h.x j hj), fun j hj => ((bcell hb).1 _ _ h.lt).trans (h.y j hj)⟩
theorem Sl.below {w w' : World} {A : Option Addr} {n c : Nat} {l : List V} (h : Sl w A n c l) (hb : Below w.heap.size w w') : Sl w' A n c l :=
  ⟨h.len, h.cap, h.big, fun hl => by obtain ⟨b, off, rfl, hc⟩ := h.at_ hl; exact ⟨b, off, rfl, hc.below hb⟩⟩



end
end Go.Proofs.Ytiaoandbdgdecaa
namespace Go.Proofs.Ytiaoandbdgdecaa
section
set_option linter.unusedVariables false
set_option linter.unusedSimpArgs false
open Go.RowKit








structure Blk8 (w : World) (g : Nat) (o : Nat → Int) : Prop where
  cell : ∀ j, j < 8 → w.cell? ⟨g, j, none⟩ = some (.int .u32 (o j))
  free : ∀ j, w.frozen? ⟨g, j, none⟩ = false
theorem Blk8.set {w : World} {g k : Nat} {o o' : Nat → Int} {v : Int} (h : Blk8 w g o) (hk : k < 8) (hv : o' k = v) (ho : ∀ j, j ≠ k → o' j = o j) : Blk8 (w.setCell ⟨g, k, none⟩ (.int .u32 v)) g o' := by
  refine ⟨fun j hj => ?_, fun j => by rw [World.frozen?_setCell]; exact h.free j⟩
  by_cases e : j = k
  · subst e
    rw [World.cell?_setCell_same _ _ _ (h.cell j hj), hv]
  · rw [World.cell?_setCell_other _ _ _ _ (by simp only [ne_eq, Addr.mk.injEq, true_and, and_true]; exact fun h => e h.symm), h.cell j hj, ho j e]
theorem Blk8.below {w w' : World} {B g : Nat} {o : Nat → Int} (h : Blk8 w g o) (hb : Below B w w') (hg : g < B) : Blk8 w' g o :=
  ⟨fun j hj => ((bcell hb).1 _ _ hg).trans (h.cell j hj), fun j => ((bcell hb).2 _ _ hg).trans (h.free j)⟩
theorem Blk8.far {w : World} {g : Nat} {o : Nat → Int} (h : Blk8 w g o) {p : Addr} (hp : p.block ≠ g) (u : Value) : Blk8 (w.setCell p u) g o :=
  ⟨fun j hj => by rw [World.cell?_setCell_other _ _ _ _ (by rintro rfl; exact hp rfl)]; exact h.cell j hj, fun j => by rw [World.frozen?_setCell]; exact h.free j⟩
theorem Blk8.drew {w : World} {g : Nat} {o : Nat → Int} (h : Blk8 w g o) : Blk8 w.drew g o := ⟨h.cell, h.free⟩
theorem Blk8.drewN {w : World} {g : Nat} {o : Nat → Int} (h : Blk8 w g o) (n : Nat) : Blk8 (w.drewN n) g o := ⟨h.cell, h.free⟩
theorem Blk8.congr {w : World} {g : Nat} {o o' : Nat → Int} (h : Blk8 w g o) (ho : ∀ j, j < 8 → o j = o' j) : Blk8 w g o' := ⟨fun j hj => by rw [h.cell j hj, ho j hj], h.free⟩
theorem lt_of_cell {w : World} {g i : Nat} {v : Value} (h : w.cell? ⟨g, i, none⟩ = some v) : g < w.heap.size := by
  rcases Nat.lt_or_ge g w.heap.size with h1 | h1
  · exact h1
  · have : w.heap[g]? = none := Array.getElem?_eq_none h1
    simp [World.cell?, this] at h
theorem Blk8.lt {w : World} {g : Nat} {o : Nat → Int} (h : Blk8 w g o) : g < w.heap.size := lt_of_cell (h.cell 0 (by omega))
theorem Blk8.all {w : World} {g : Nat} {o : Nat → Int} (h : Blk8 w g o) :
    w.cell? ⟨g, 0, none⟩ = some (.int .u32 (o 0)) ∧ w.cell? ⟨g, 1, none⟩ = some (.int .u32 (o 1)) ∧ w.cell? ⟨g, 2, none⟩ = some (.int .u32 (o 2)) ∧ w.cell? ⟨g, 3, none⟩ = some (.int .u32 (o 3)) ∧
    w.cell? ⟨g, 4, none⟩ = some (.int .u32 (o 4)) ∧ w.cell? ⟨g, 5, none⟩ = some (.int .u32 (o 5)) ∧ w.cell? ⟨g, 6, none⟩ = some (.int .u32 (o 6)) ∧ w.cell? ⟨g, 7, none⟩ = some (.int .u32 (o 7)) :=
  ⟨h.cell 0 (by omega), h.cell 1 (by omega), h.cell 2 (by omega), h.cell 3 (by omega), h.cell 4 (by omega), h.cell 5 (by omega), h.cell 6 (by omega), h.cell 7 (by omega)⟩
theorem Blk8.alloc {w : World} {g : Nat} {o : Nat → Int} (h : Blk8 w g o) (hg : g < w.heap.size) (x : Obj) : Blk8 (w.alloc x) g o :=
  h.below ((Below.refl _ _).alloc (Nat.le_refl _) x) hg
theorem Blk8.here (w : World) (t : TypeId) (o : Nat → Int) : Blk8 (w.alloc (.cells #[.int .u32 (o 0), .int .u32 (o 1), .int .u32 (o 2), .int .u32 (o 3), .int .u32 (o 4), .int .u32 (o 5), .int .u32 (o 6), .int .u32 (o 7)] t)) w.heap.size o := by
  refine ⟨fun j hj => ?_, fun j => by go_simp⟩
  match j, hj with
  | 0, _ | 1, _ | 2, _ | 3, _ | 4, _ | 5, _ | 6, _ | 7, _ => go_simp
theorem below_drewN' {B : Nat} {a w : World} (h : Below B a w) (n : Nat) : Below B a (w.drewN n) := ⟨h.os, h.tape, h.output, h.size, h.block⟩





theorem keepCell {w' w'' : World} {b o : Nat} {v : Value} (hb : Below w'.heap.size w' w'') (h : w'.cell? ⟨b, o, none⟩ = some v) : w''.cell? ⟨b, o, none⟩ = some v := ((bcell hb).1 _ _ (lt_of_cell h)).trans h
theorem keepBelow {w w' w'' : World} (hb : Below w'.heap.size w' w'') (h : Below w.heap.size w w') : Below w.heap.size w w'' := h.trans (hb.mono h.size)

def There (w : World) (g n : Nat) : Prop := ∀ j, j < n → (∃ v, w.cell? ⟨g, j, none⟩ = some v) ∧ w.frozen? ⟨g, j, none⟩ = false
theorem There.below {w w' : World} {g n : Nat} (hb : Below w.heap.size w w') (h : There w g n) : There w' g n := fun j hj => by
  obtain ⟨⟨v, hv⟩, hf⟩ := h j hj
  exact ⟨⟨v, keepCell hb hv⟩, ((bcell hb).2 _ _ (lt_of_cell hv)).trans hf⟩
theorem There.set {w : World} {g n : Nat} (h : There w g n) (a : Addr) (u : Value) : There (w.setCell a u) g n := fun j hj => by
  obtain ⟨⟨v, hv⟩, hf⟩ := h j hj
  obtain ⟨v', hv'⟩ := cell?_setCell_some (w := w) (p := a) (x := u) hv
  exact ⟨⟨v', hv'⟩, by rw [World.frozen?_setCell]; exact hf⟩
theorem far1 {w : World} {b o g i : Nat} {u v : Value} (hne : g ≠ b) (h : w.cell? ⟨b, o, none⟩ = some v) : (w.setCell ⟨g, i, none⟩ u).cell? ⟨b, o, none⟩ = some v := by
  rw [World.cell?_setCell_other _ _ _ _ (by intro e; exact hne (congrArg Addr.block e))]; exact h
theorem far2 {w : World} {b o g : Nat} {u0 u1 v : Value} (hne : g ≠ b) (h : w.cell? ⟨b, o, none⟩ = some v) : ((w.setCell ⟨g, 0, none⟩ u0).setCell ⟨g, 1, none⟩ u1).cell? ⟨b, o, none⟩ = some v := far1 hne (far1 hne h)

end
end Go.Proofs.Ytiaoandbdgdecaa
