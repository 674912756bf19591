/- Layings of the library's contracts for sorting, deleting and comparing; the closures of sweep.Pairs. -/
import Derived.Test.YtldlogcpnfmomaaW0
import Derived.Shelf.SlSortCmp.NoneTotal
import Derived.Shelf.SlicesE.DeleteFunc
import Derived.Shelf.SlicesG.Cmp
namespace Go.Proofs.Ytldlogcpnfmomaa
set_option linter.unusedVariables false
set_option linter.unusedSimpArgs false
open Go.Shelf
end Go.Proofs.Ytldlogcpnfmomaa

namespace Go.Proofs.Ytldlogcpnfmomaa
set_option linter.unusedVariables false
set_option linter.unusedSimpArgs false
open Go.RowKit Go.Sort Go.Lib


/-- a box: its low corner and its high one -/
abbrev Bx := (Int × Int) × (Int × Int)
def layBox : Lay Bx := ⟨fun b => [.int .i64 b.1.1, .int .i64 b.1.2, .int .i64 b.2.1, .int .i64 b.2.2], 4, fun _ => rfl, fun x v hv => by simp at hv; rcases hv with rfl | rfl | rfl | rfl <;> rfl, by omega⟩
def bxAt (l : List Bx) (i : Nat) : Bx := l.getD i ((0, 0), (0, 0))
theorem CellsE.box {w : World} {b off : Nat} {l : List Bx} (h : CellsE layBox w b off l) {i : Nat} (hi : i < l.length) :
    w.cell? ⟨b, off + i * 4, none⟩ = some (.int .i64 (bxAt l i).1.1) ∧ w.cell? ⟨b, off + i * 4 + 1, none⟩ = some (.int .i64 (bxAt l i).1.2) ∧ w.cell? ⟨b, off + i * 4 + 2, none⟩ = some (.int .i64 (bxAt l i).2.1) ∧ w.cell? ⟨b, off + i * 4 + 3, none⟩ = some (.int .i64 (bxAt l i).2.2) := by
  have e : bxAt l i = l[i] := by unfold bxAt; simp [hi]
  rw [e]
  exact ⟨h.at_ i hi 0 _ rfl, h.at_ i hi 1 _ rfl, h.at_ i hi 2 _ rfl, h.at_ i hi 3 _ rfl⟩




/-- pairs of numbers, in the order of the first ones, then of the second ones -/
def layPair : Lay (Nat × Nat) := ⟨fun p => [.int .i64 p.1, .int .i64 p.2], 2, fun _ => rfl, fun x v hv => by simp at hv; rcases hv with rfl | rfl <;> rfl, by omega⟩
def cmpPair (p q : Nat × Nat) : Int := if Lib.compareInt p.1 q.1 = 0 then Lib.compareInt p.2 q.2 else Lib.compareInt p.1 q.1

end Go.Proofs.Ytldlogcpnfmomaa
