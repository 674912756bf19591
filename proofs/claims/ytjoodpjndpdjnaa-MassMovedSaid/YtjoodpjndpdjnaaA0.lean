/- Words that all texts of this claim use: what a call leaves, vectors, slices of vectors. -/
import Derived.Test.YtjoodpjndpdjnaaRows
import Derived.WalkKit
import Derived.Handy
namespace Go.Proofs.Ytjoodpjndpdjnaa
set_option linter.unusedVariables false
set_option linter.unusedSimpArgs false
open Go.RowKit

/-- returns v; nothing that was there has changed -/
def Ret (v : Value) (w : World) (e : Ending) (w' : World) : Prop := e = .returned v ∧ Below w.heap.size w w'

theorem ret_int {k : IntKind} {a b : Int} {w w' : World} (h : a = b) (hb : Below w.heap.size w w') : Ret (.int k b) w (.returned (.int k a)) w' := ⟨by rw [h], hb⟩
theorem ret_bool {a b : Bool} {w w' : World} (h : a = b) (hb : Below w.heap.size w w') : Ret (.bool b) w (.returned (.bool a)) w' := ⟨by rw [h], hb⟩
theorem ret_val {a b : Value} {w w' : World} (h : a = b) (hb : Below w.heap.size w w') : Ret b w (.returned a) w' := ⟨by rw [h], hb⟩

/-- a vector as a value -/
abbrev vecV (x y : Int) : Value := .agg #[.int .i64 x, .int .i64 y]

/-- a vector -/
abbrev V := Int × Int
theorem hid {p : Prop} (h : p) : Hid p := h
def px (l : List V) (j : Nat) : Int := (l.getD j (0, 0)).1
def py (l : List V) (j : Nat) : Int := (l.getD j (0, 0)).2

/-- the cells of a slice of vectors at a place -/
structure Cells (w : World) (b off : Nat) (l : List V) : Prop where
  lt : b < w.heap.size
  x : ∀ j, j < l.length → w.cell? ⟨b, off + j * 2, none⟩ = some (.int .i64 (px l j))
  y : ∀ j, j < l.length → w.cell? ⟨b, off + j * 2 + 1, none⟩ = some (.int .i64 (py l j))

/-- a slice value reads as a list of vectors -/
structure Sl (w : World) (A : Option Addr) (n c : Nat) (l : List V) : Prop where
  len : n = l.length
  cap : n ≤ c
  big : c ≤ 9223372036854775807
  at_ : l ≠ [] → ∃ b off, A = some ⟨b, off, none⟩ ∧ Cells w b off l

theorem bcell {W w1 : World} {B : Nat} (hb : Below B W w1) : (∀ b o, b < B → w1.cell? ⟨b, o, none⟩ = W.cell? ⟨b, o, none⟩) ∧ (∀ b o, b < B → w1.frozen? ⟨b, o, none⟩ = W.frozen? ⟨b, o, none⟩) :=
  ⟨fun b o h => hb.cell (p := ⟨b, o, none⟩) h, fun b o h => hb.frozen (p := ⟨b, o, none⟩) h⟩

theorem Cells.below {w w' : World} {b off : Nat} {l : List V} (h : Cells w b off l) (hb : Below w.heap.size w w') : Cells w' b off l :=
  ⟨Nat.lt_of_lt_of_le h.lt hb.size, fun j hj => ((bcell hb).1 _ _ h.lt).trans (h.x j hj), fun j hj => ((bcell hb).1 _ _ h.lt).trans (h.y j hj)⟩

theorem Sl.below {w w' : World} {A : Option Addr} {n c : Nat} {l : List V} (h : Sl w A n c l) (hb : Below w.heap.size w w') : Sl w' A n c l :=
  ⟨h.len, h.cap, h.big, fun hl => by obtain ⟨b, off, rfl, hc⟩ := h.at_ hl; exact ⟨b, off, rfl, hc.below hb⟩⟩

theorem px_lt {l : List V} {j : Nat} (h : j < l.length) : l[j] = (px l j, py l j) := by simp [px, py, h]

/-- the place of the first element that a function accepts, or -1 -/
def firstIdx (f : V → Bool) (l : List V) : Int := if l.any f then (l.findIdx f : Int) else -1
def noneTo (f : V → Bool) (l : List V) (k : Nat) : Prop := ∀ j, j < k → f (px l j, py l j) = false
theorem noneTo_zero (f : V → Bool) (l : List V) : noneTo f l 0 := fun _ h => absurd h (by omega)
theorem noneTo_succ {f : V → Bool} {l : List V} {k : Nat} (h : noneTo f l k) (hk : f (px l k, py l k) = false) : noneTo f l (k + 1) := fun j hj => by
  by_cases e : j = k
  · subst e; exact hk
  · exact h j (by omega)
theorem firstIdx_hit {f : V → Bool} {l : List V} {k : Nat} (hl : k < l.length) (h : noneTo f l k) (hk : f (px l k, py l k) = true) : firstIdx f l = k := by
  have e : l.any f = true := List.any_eq_true.2 ⟨l[k], List.getElem_mem hl, by rw [px_lt hl]; exact hk⟩
  unfold firstIdx
  rw [if_pos e]
  have : l.findIdx f = k := by
    rw [List.findIdx_eq hl]
    refine ⟨by rw [px_lt hl]; exact hk, fun j hj => ?_⟩
    have := h j hj
    rw [px_lt (by omega)]
    exact this
  omega
theorem firstIdx_none {f : V → Bool} {l : List V} (h : noneTo f l l.length) : firstIdx f l = -1 := by
  unfold firstIdx
  rw [if_neg]
  intro e
  obtain ⟨x, hx, hf⟩ := List.any_eq_true.1 e
  obtain ⟨j, hj, rfl⟩ := List.mem_iff_getElem.1 hx
  have := h j hj
  rw [px_lt hj, this] at hf
  cases hf
theorem firstIdx_any (f : V → Bool) (l : List V) : decide (firstIdx f l ≥ 0) = l.any f := by
  unfold firstIdx
  cases l.any f <;> simp

end Go.Proofs.Ytjoodpjndpdjnaa
