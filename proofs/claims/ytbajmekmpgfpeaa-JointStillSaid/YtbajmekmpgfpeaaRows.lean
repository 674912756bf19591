/-
  No cell of these rows narrows 'for every input' (looked for: loops, veiled, ifaces, maps, wideKeys, modest, calm, conditions, laid).
  DERIVED. THE GIVEN ROWS OF THIS SEAT. 4 by the template 'for every input the law returns true; each argument reads behind the call as it read before'; 0 by the template 'total and deterministic' (their statements: YtbajmekmpgfpeaaTotals.lean).
  GIVEN WITH THE SEED: the statements are not yours to turn. If you find one false, say at which input.
  Laid BY PROGRAM, IN A SANDBOX (cutbox-rows.mjs): the forced cells as the released guide's own fill.sh prints them over the translation e7aa39522c4ef14e… (all of the seat's roots in one cut). By AI agents, Wed Nov 11 2026. No macro, syntax, notation, axiom, sorry.
-/
import Derived.Test.YtbajmekmpgfpeaaChecked
import GoSem.Claim
import GoSem.ClaimJoined
import GoSem.ClaimMapViews
import Derived.JoinedTies
import Derived.KernelRfl
namespace Go.Proofs.Ytbajmekmpgfpeaa
/- THE CELL 'sum', in the pinned program and in every row, IS THE sha256 OF THE DUMP (.gsa) THAT YtbajmekmpgfpeaaProg.lean LOADS. Nothing in Lean hashes anything: it is a label: what it is worth is what the hold of that sum in a sandbox is worth. -/
noncomputable def Try.pinned : Pinned := { name := "ytbajmekmpgfpeaa", sum := "e7aa39522c4ef14e86c73ad07a2065785eb0e5c03fa79550f4a80fc0dbfbd83c", checked := Try.checked }
namespace Rows
def none {H : Type} : Left H := { results := [], args := [] }

/-- 'tourkeep2.SolveStops': WHATEVER THE INPUT: true; the input reads as it did. -/
def solveStopsSpec : ChangeSpec := { name := "solveStops", fn := fun _ => fun
  | [d1, d2, d3] => { results := [.lit (.bool true)], args := [d1, d2, d3] }
  | _ => none }
def solveStopsRow : OpenClaim := { program := "ytbajmekmpgfpeaa", sum := "e7aa39522c4ef14e86c73ad07a2065785eb0e5c03fa79550f4a80fc0dbfbd83c", func := "tourney/tourkeep2.SolveStops", spec := "solveStops", unfollowed := true, recurses := true, named := ["math/bits.divideError", "math/bits.overflowError"], apart := false }
def SolveStopsSaid : Prop := solveStopsRow.holds Try.pinned (OpenSpec.ofChange solveStopsSpec)

/-- ITS FALSE NEIGHBOUR: 'it returns false'. Refute it at one input. -/
def solveStopsWrong : ChangeSpec := { name := "solveStops", fn := fun _ => fun
  | [d1, d2, d3] => { results := [.lit (.bool false)], args := [d1, d2, d3] }
  | _ => none }
def SolveStopsWrongFalsely : Prop := solveStopsRow.holds Try.pinned (OpenSpec.ofChange solveStopsWrong)

/-- 'tourlaw2.SolveSays': WHATEVER THE INPUT: true; the input reads as it did. -/
def solveSaysSpec : ChangeSpec := { name := "solveSays", fn := fun _ => fun
  | [d1, d2, d3, d4] => { results := [.lit (.bool true)], args := [d1, d2, d3, d4] }
  | _ => none }
def solveSaysRow : OpenClaim := { program := "ytbajmekmpgfpeaa", sum := "e7aa39522c4ef14e86c73ad07a2065785eb0e5c03fa79550f4a80fc0dbfbd83c", func := "tourney/tourlaw2.SolveSays", spec := "solveSays", unfollowed := true, recurses := true, named := ["math/bits.divideError", "math/bits.overflowError"], apart := false }
def SolveSaysSaid : Prop := solveSaysRow.holds Try.pinned (OpenSpec.ofChange solveSaysSpec)

/-- ITS FALSE NEIGHBOUR: 'it returns false'. Refute it at one input. -/
def solveSaysWrong : ChangeSpec := { name := "solveSays", fn := fun _ => fun
  | [d1, d2, d3, d4] => { results := [.lit (.bool false)], args := [d1, d2, d3, d4] }
  | _ => none }
def SolveSaysWrongFalsely : Prop := solveSaysRow.holds Try.pinned (OpenSpec.ofChange solveSaysWrong)

/-- 'tourlaw2.JointSays': WHATEVER THE INPUT: true; the input reads as it did. -/
def jointSaysSpec : ChangeSpec := { name := "jointSays", fn := fun _ => fun
  | [d1, d2, d3, d4] => { results := [.lit (.bool true)], args := [d1, d2, d3, d4] }
  | _ => none }
def jointSaysRow : OpenClaim := { program := "ytbajmekmpgfpeaa", sum := "e7aa39522c4ef14e86c73ad07a2065785eb0e5c03fa79550f4a80fc0dbfbd83c", func := "tourney/tourlaw2.JointSays", spec := "jointSays", inPlace := ["math/bits.Add64"], unfollowed := true, recurses := true, named := ["math/bits.divideError", "math/bits.overflowError"], apart := false }
def JointSaysSaid : Prop := jointSaysRow.holds Try.pinned (OpenSpec.ofChange jointSaysSpec)

/-- ITS FALSE NEIGHBOUR: 'it returns false'. Refute it at one input. -/
def jointSaysWrong : ChangeSpec := { name := "jointSays", fn := fun _ => fun
  | [d1, d2, d3, d4] => { results := [.lit (.bool false)], args := [d1, d2, d3, d4] }
  | _ => none }
def JointSaysWrongFalsely : Prop := jointSaysRow.holds Try.pinned (OpenSpec.ofChange jointSaysWrong)

/-- 'tourkeep2.JointStill': WHATEVER THE INPUT: true; the input reads as it did. -/
def jointStillSpec : ChangeSpec := { name := "jointStill", fn := fun _ => fun
  | [d1, d2] => { results := [.lit (.bool true)], args := [d1, d2] }
  | _ => none }
def jointStillRow : OpenClaim := { program := "ytbajmekmpgfpeaa", sum := "e7aa39522c4ef14e86c73ad07a2065785eb0e5c03fa79550f4a80fc0dbfbd83c", func := "tourney/tourkeep2.JointStill", spec := "jointStill", inPlace := ["math/bits.Add64"], unfollowed := true, recurses := true, named := ["math/bits.divideError", "math/bits.overflowError"], apart := false }
def JointStillSaid : Prop := jointStillRow.holds Try.pinned (OpenSpec.ofChange jointStillSpec)

/-- ITS FALSE NEIGHBOUR: 'it returns false'. Refute it at one input. -/
def jointStillWrong : ChangeSpec := { name := "jointStill", fn := fun _ => fun
  | [d1, d2] => { results := [.lit (.bool false)], args := [d1, d2] }
  | _ => none }
def JointStillWrongFalsely : Prop := jointStillRow.holds Try.pinned (OpenSpec.ofChange jointStillWrong)

/- THE SECOND FORM. 'bulk': how many values and letters a reading holds, each counted each time it is reached (what is shared counts as often as it is met; a slice's spare places count too). A statement '..UptoSaid' is the law's where the arguments, and the package variables that the reading takes, are together of bulk at most 1048576: NARROWER than '..Said'. Prove '..Said' where nothing that the law and all that it calls make is longer than what came in: it says more and counts as full. Else prove '..UptoSaid'. A law counts once. -/
mutual
def uptoBulk {H : Type} : DataW H → Nat
  | .lit (.string bytes) => bytes.length + 1
  | .lit _ => 1
  | .nil => 1
  | .ptr d => uptoBulk d + 1
  | .slice elems spare => uptoBulkAll elems + uptoBulkAll spare + 1
  | .agg parts => uptoBulkAll parts + 1
  | .iface _ d => uptoBulk d + 1
  | .map entries => uptoBulkEntries entries + 1
  | .held _ => 1
def uptoBulkAll {H : Type} : List (DataW H) → Nat
  | [] => 0
  | d :: r => uptoBulk d + uptoBulkAll r
def uptoBulkEntries {H : Type} : List (Lit × DataW H) → Nat
  | [] => 0
  | x :: r => uptoBulkEntry x + uptoBulkEntries r
def uptoBulkEntry {H : Type} : Lit × DataW H → Nat
  | (.string bytes, d) => bytes.length + uptoBulk d + 1
  | (_, d) => uptoBulk d + 1
 end
def uptoSmall : (H : Type) → List (DataW H) → Bool := fun _ ds => decide (uptoBulkAll ds ≤ 1048576)
def OpenSpec.upto (s : _root_.Go.ChangeSpec) : _root_.Go.OpenSpec := { _root_.Go.OpenSpec.ofChange s with cond := some uptoSmall }

/-- 'tourkeep2.SolveStops', WHERE WHAT IT READS IS OF BULK AT MOST 1048576: true; the input reads as it did. -/
def solveStopsUptoRow : OpenClaim := { program := "ytbajmekmpgfpeaa", sum := "e7aa39522c4ef14e86c73ad07a2065785eb0e5c03fa79550f4a80fc0dbfbd83c", func := "tourney/tourkeep2.SolveStops", spec := "solveStops", unfollowed := true, recurses := true, named := ["math/bits.divideError", "math/bits.overflowError"], apart := false, narrowed := true }
def SolveStopsUptoSaid : Prop := solveStopsUptoRow.holds Try.pinned (OpenSpec.upto solveStopsSpec)

/-- 'tourlaw2.SolveSays', WHERE WHAT IT READS IS OF BULK AT MOST 1048576: true; the input reads as it did. -/
def solveSaysUptoRow : OpenClaim := { program := "ytbajmekmpgfpeaa", sum := "e7aa39522c4ef14e86c73ad07a2065785eb0e5c03fa79550f4a80fc0dbfbd83c", func := "tourney/tourlaw2.SolveSays", spec := "solveSays", unfollowed := true, recurses := true, named := ["math/bits.divideError", "math/bits.overflowError"], apart := false, narrowed := true }
def SolveSaysUptoSaid : Prop := solveSaysUptoRow.holds Try.pinned (OpenSpec.upto solveSaysSpec)

/-- 'tourlaw2.JointSays', WHERE WHAT IT READS IS OF BULK AT MOST 1048576: true; the input reads as it did. -/
def jointSaysUptoRow : OpenClaim := { program := "ytbajmekmpgfpeaa", sum := "e7aa39522c4ef14e86c73ad07a2065785eb0e5c03fa79550f4a80fc0dbfbd83c", func := "tourney/tourlaw2.JointSays", spec := "jointSays", inPlace := ["math/bits.Add64"], unfollowed := true, recurses := true, named := ["math/bits.divideError", "math/bits.overflowError"], apart := false, narrowed := true }
def JointSaysUptoSaid : Prop := jointSaysUptoRow.holds Try.pinned (OpenSpec.upto jointSaysSpec)

/-- 'tourkeep2.JointStill', WHERE WHAT IT READS IS OF BULK AT MOST 1048576: true; the input reads as it did. -/
def jointStillUptoRow : OpenClaim := { program := "ytbajmekmpgfpeaa", sum := "e7aa39522c4ef14e86c73ad07a2065785eb0e5c03fa79550f4a80fc0dbfbd83c", func := "tourney/tourkeep2.JointStill", spec := "jointStill", inPlace := ["math/bits.Add64"], unfollowed := true, recurses := true, named := ["math/bits.divideError", "math/bits.overflowError"], apart := false, narrowed := true }
def JointStillUptoSaid : Prop := jointStillUptoRow.holds Try.pinned (OpenSpec.upto jointStillSpec)

end Rows
end Go.Proofs.Ytbajmekmpgfpeaa
