/-
  No cell of these rows narrows 'for every input' (looked for: loops, veiled, ifaces, maps, wideKeys, modest, calm, conditions, laid).
  DERIVED. THE GIVEN ROWS OF THIS SEAT. 11 by the template 'for every input the law returns true; each argument reads behind the call as it read before'; 0 by the template 'total and deterministic' (their statements: YtienmhgbildhhaaTotals.lean).
  GIVEN WITH THE SEED: the statements are not yours to turn. If you find one false, say at which input.
  Laid BY PROGRAM, IN A SANDBOX (cutbox-rows.mjs): the forced cells as the released guide's own fill.sh prints them over the translation 1c46a00c08d9db2d… (all of the seat's roots in one cut). By AI agents, Wed Nov 11 2026. No macro, syntax, notation, axiom, sorry.
-/
import Derived.Test.YtienmhgbildhhaaChecked
import GoSem.Claim
import GoSem.ClaimJoined
import GoSem.ClaimMapViews
import Derived.JoinedTies
import Derived.KernelRfl
namespace Go.Proofs.Ytienmhgbildhhaa
/- THE CELL 'sum', in the pinned program and in every row, IS THE sha256 OF THE DUMP (.gsa) THAT YtienmhgbildhhaaProg.lean LOADS. Nothing in Lean hashes anything: it is a label: what it is worth is what the hold of that sum in a sandbox is worth. -/
noncomputable def Try.pinned : Pinned := { name := "ytienmhgbildhhaa", sum := "1c46a00c08d9db2d3738d1b04e35c9bddcc780c9478c765b1ccd0324bc2bf761", checked := Try.checked }
namespace Rows
def none {H : Type} : Left H := { results := [], args := [] }

/-- 'tourkeep2.SolveStops': WHATEVER THE INPUT: true; the input reads as it did. -/
def solveStopsSpec : ChangeSpec := { name := "solveStops", fn := fun _ => fun
  | [d1, d2, d3] => { results := [.lit (.bool true)], args := [d1, d2, d3] }
  | _ => none }
def solveStopsRow : OpenClaim := { program := "ytienmhgbildhhaa", sum := "1c46a00c08d9db2d3738d1b04e35c9bddcc780c9478c765b1ccd0324bc2bf761", func := "tourney/tourkeep2.SolveStops", spec := "solveStops", unfollowed := true, recurses := true, named := ["math/bits.divideError", "math/bits.overflowError"], apart := false }
def SolveStopsSaid : Prop := solveStopsRow.holds Try.pinned (OpenSpec.ofChange solveStopsSpec)

/-- ITS FALSE NEIGHBOUR: 'it returns false'. Refute it at one input. -/
def solveStopsWrong : ChangeSpec := { name := "solveStops", fn := fun _ => fun
  | [d1, d2, d3] => { results := [.lit (.bool false)], args := [d1, d2, d3] }
  | _ => none }
def SolveStopsWrongFalsely : Prop := solveStopsRow.holds Try.pinned (OpenSpec.ofChange solveStopsWrong)

/-- 'tourlaw2.SolveSays': WHATEVER THE INPUT: true; the input reads as it did. -/
def solveSaysSpec : ChangeSpec := { name := "solveSays", fn := fun _ => fun
  | [d1, d2, d3, d4] => { results := [.lit (.bool true)], args := [d1, d2, d3, d4] }
  | _ => none }
def solveSaysRow : OpenClaim := { program := "ytienmhgbildhhaa", sum := "1c46a00c08d9db2d3738d1b04e35c9bddcc780c9478c765b1ccd0324bc2bf761", func := "tourney/tourlaw2.SolveSays", spec := "solveSays", unfollowed := true, recurses := true, named := ["math/bits.divideError", "math/bits.overflowError"], apart := false }
def SolveSaysSaid : Prop := solveSaysRow.holds Try.pinned (OpenSpec.ofChange solveSaysSpec)

/-- ITS FALSE NEIGHBOUR: 'it returns false'. Refute it at one input. -/
def solveSaysWrong : ChangeSpec := { name := "solveSays", fn := fun _ => fun
  | [d1, d2, d3, d4] => { results := [.lit (.bool false)], args := [d1, d2, d3, d4] }
  | _ => none }
def SolveSaysWrongFalsely : Prop := solveSaysRow.holds Try.pinned (OpenSpec.ofChange solveSaysWrong)

/-- 'tourkeep2.RayAlone': WHATEVER THE INPUT: true; the input reads as it did. -/
def rayAloneSpec : ChangeSpec := { name := "rayAlone", fn := fun _ => fun
  | [d1, d2, d3, d4, d5] => { results := [.lit (.bool true)], args := [d1, d2, d3, d4, d5] }
  | _ => none }
def rayAloneRow : OpenClaim := { program := "ytienmhgbildhhaa", sum := "1c46a00c08d9db2d3738d1b04e35c9bddcc780c9478c765b1ccd0324bc2bf761", func := "tourney/tourkeep2.RayAlone", spec := "rayAlone", unfollowed := true, recurses := true, named := ["math/bits.divideError", "math/bits.overflowError"], apart := false }
def RayAloneSaid : Prop := rayAloneRow.holds Try.pinned (OpenSpec.ofChange rayAloneSpec)

/-- ITS FALSE NEIGHBOUR: 'it returns false'. Refute it at one input. -/
def rayAloneWrong : ChangeSpec := { name := "rayAlone", fn := fun _ => fun
  | [d1, d2, d3, d4, d5] => { results := [.lit (.bool false)], args := [d1, d2, d3, d4, d5] }
  | _ => none }
def RayAloneWrongFalsely : Prop := rayAloneRow.holds Try.pinned (OpenSpec.ofChange rayAloneWrong)

/-- 'tourkeep2.RayHits': WHATEVER THE INPUT: true; the input reads as it did. -/
def rayHitsSpec : ChangeSpec := { name := "rayHits", fn := fun _ => fun
  | [d1, d2, d3, d4, d5] => { results := [.lit (.bool true)], args := [d1, d2, d3, d4, d5] }
  | _ => none }
def rayHitsRow : OpenClaim := { program := "ytienmhgbildhhaa", sum := "1c46a00c08d9db2d3738d1b04e35c9bddcc780c9478c765b1ccd0324bc2bf761", func := "tourney/tourkeep2.RayHits", spec := "rayHits", unfollowed := true, recurses := true, named := ["math/bits.divideError", "math/bits.overflowError"], apart := false }
def RayHitsSaid : Prop := rayHitsRow.holds Try.pinned (OpenSpec.ofChange rayHitsSpec)

/-- ITS FALSE NEIGHBOUR: 'it returns false'. Refute it at one input. -/
def rayHitsWrong : ChangeSpec := { name := "rayHits", fn := fun _ => fun
  | [d1, d2, d3, d4, d5] => { results := [.lit (.bool false)], args := [d1, d2, d3, d4, d5] }
  | _ => none }
def RayHitsWrongFalsely : Prop := rayHitsRow.holds Try.pinned (OpenSpec.ofChange rayHitsWrong)

/-- 'tourlaw2.RayShapes': WHATEVER THE INPUT: true; the input reads as it did. -/
def rayShapesSpec : ChangeSpec := { name := "rayShapes", fn := fun _ => fun
  | [d1, d2, d3] => { results := [.lit (.bool true)], args := [d1, d2, d3] }
  | _ => none }
def rayShapesRow : OpenClaim := { program := "ytienmhgbildhhaa", sum := "1c46a00c08d9db2d3738d1b04e35c9bddcc780c9478c765b1ccd0324bc2bf761", func := "tourney/tourlaw2.RayShapes", spec := "rayShapes", unfollowed := true, recurses := true, named := ["math/bits.divideError", "math/bits.overflowError"], apart := false }
def RayShapesSaid : Prop := rayShapesRow.holds Try.pinned (OpenSpec.ofChange rayShapesSpec)

/-- ITS FALSE NEIGHBOUR: 'it returns false'. Refute it at one input. -/
def rayShapesWrong : ChangeSpec := { name := "rayShapes", fn := fun _ => fun
  | [d1, d2, d3] => { results := [.lit (.bool false)], args := [d1, d2, d3] }
  | _ => none }
def RayShapesWrongFalsely : Prop := rayShapesRow.holds Try.pinned (OpenSpec.ofChange rayShapesWrong)

/-- 'tourkeep2.RayStops': WHATEVER THE INPUT: true; the input reads as it did. -/
def rayStopsSpec : ChangeSpec := { name := "rayStops", fn := fun _ => fun
  | [d1, d2, d3, d4, d5, d6] => { results := [.lit (.bool true)], args := [d1, d2, d3, d4, d5, d6] }
  | _ => none }
def rayStopsRow : OpenClaim := { program := "ytienmhgbildhhaa", sum := "1c46a00c08d9db2d3738d1b04e35c9bddcc780c9478c765b1ccd0324bc2bf761", func := "tourney/tourkeep2.RayStops", spec := "rayStops", unfollowed := true, recurses := true, named := ["math/bits.divideError", "math/bits.overflowError"], apart := false }
def RayStopsSaid : Prop := rayStopsRow.holds Try.pinned (OpenSpec.ofChange rayStopsSpec)

/-- ITS FALSE NEIGHBOUR: 'it returns false'. Refute it at one input. -/
def rayStopsWrong : ChangeSpec := { name := "rayStops", fn := fun _ => fun
  | [d1, d2, d3, d4, d5, d6] => { results := [.lit (.bool false)], args := [d1, d2, d3, d4, d5, d6] }
  | _ => none }
def RayStopsWrongFalsely : Prop := rayStopsRow.holds Try.pinned (OpenSpec.ofChange rayStopsWrong)

/-- 'tourlaw2.JointSays': WHATEVER THE INPUT: true; the input reads as it did. -/
def jointSaysSpec : ChangeSpec := { name := "jointSays", fn := fun _ => fun
  | [d1, d2, d3, d4] => { results := [.lit (.bool true)], args := [d1, d2, d3, d4] }
  | _ => none }
def jointSaysRow : OpenClaim := { program := "ytienmhgbildhhaa", sum := "1c46a00c08d9db2d3738d1b04e35c9bddcc780c9478c765b1ccd0324bc2bf761", func := "tourney/tourlaw2.JointSays", spec := "jointSays", inPlace := ["math/bits.Add64"], unfollowed := true, recurses := true, named := ["math/bits.divideError", "math/bits.overflowError"], apart := false }
def JointSaysSaid : Prop := jointSaysRow.holds Try.pinned (OpenSpec.ofChange jointSaysSpec)

/-- ITS FALSE NEIGHBOUR: 'it returns false'. Refute it at one input. -/
def jointSaysWrong : ChangeSpec := { name := "jointSays", fn := fun _ => fun
  | [d1, d2, d3, d4] => { results := [.lit (.bool false)], args := [d1, d2, d3, d4] }
  | _ => none }
def JointSaysWrongFalsely : Prop := jointSaysRow.holds Try.pinned (OpenSpec.ofChange jointSaysWrong)

/-- 'tourkeep2.JointStill': WHATEVER THE INPUT: true; the input reads as it did. -/
def jointStillSpec : ChangeSpec := { name := "jointStill", fn := fun _ => fun
  | [d1, d2] => { results := [.lit (.bool true)], args := [d1, d2] }
  | _ => none }
def jointStillRow : OpenClaim := { program := "ytienmhgbildhhaa", sum := "1c46a00c08d9db2d3738d1b04e35c9bddcc780c9478c765b1ccd0324bc2bf761", func := "tourney/tourkeep2.JointStill", spec := "jointStill", inPlace := ["math/bits.Add64"], unfollowed := true, recurses := true, named := ["math/bits.divideError", "math/bits.overflowError"], apart := false }
def JointStillSaid : Prop := jointStillRow.holds Try.pinned (OpenSpec.ofChange jointStillSpec)

/-- ITS FALSE NEIGHBOUR: 'it returns false'. Refute it at one input. -/
def jointStillWrong : ChangeSpec := { name := "jointStill", fn := fun _ => fun
  | [d1, d2] => { results := [.lit (.bool false)], args := [d1, d2] }
  | _ => none }
def JointStillWrongFalsely : Prop := jointStillRow.holds Try.pinned (OpenSpec.ofChange jointStillWrong)

/-- 'tourkeep2.ReachBoth': WHATEVER THE INPUT: true; the input reads as it did. -/
def reachBothSpec : ChangeSpec := { name := "reachBoth", fn := fun _ => fun
  | [d1, d2, d3] => { results := [.lit (.bool true)], args := [d1, d2, d3] }
  | _ => none }
def reachBothRow : OpenClaim := { program := "ytienmhgbildhhaa", sum := "1c46a00c08d9db2d3738d1b04e35c9bddcc780c9478c765b1ccd0324bc2bf761", func := "tourney/tourkeep2.ReachBoth", spec := "reachBoth", inPlace := ["math/bits.Add64"], unfollowed := true, recurses := true, named := ["math/bits.divideError", "math/bits.overflowError"], apart := false }
def ReachBothSaid : Prop := reachBothRow.holds Try.pinned (OpenSpec.ofChange reachBothSpec)

/-- ITS FALSE NEIGHBOUR: 'it returns false'. Refute it at one input. -/
def reachBothWrong : ChangeSpec := { name := "reachBoth", fn := fun _ => fun
  | [d1, d2, d3] => { results := [.lit (.bool false)], args := [d1, d2, d3] }
  | _ => none }
def ReachBothWrongFalsely : Prop := reachBothRow.holds Try.pinned (OpenSpec.ofChange reachBothWrong)

/-- 'tourkeep2.ReachFirst': WHATEVER THE INPUT: true; the input reads as it did. -/
def reachFirstSpec : ChangeSpec := { name := "reachFirst", fn := fun _ => fun
  | [d1, d2, d3, d4] => { results := [.lit (.bool true)], args := [d1, d2, d3, d4] }
  | _ => none }
def reachFirstRow : OpenClaim := { program := "ytienmhgbildhhaa", sum := "1c46a00c08d9db2d3738d1b04e35c9bddcc780c9478c765b1ccd0324bc2bf761", func := "tourney/tourkeep2.ReachFirst", spec := "reachFirst", inPlace := ["math/bits.Add64", "math/bits.Sub64"], unfollowed := true, recurses := true, named := ["math/bits.divideError", "math/bits.overflowError"], apart := false }
def ReachFirstSaid : Prop := reachFirstRow.holds Try.pinned (OpenSpec.ofChange reachFirstSpec)

/-- ITS FALSE NEIGHBOUR: 'it returns false'. Refute it at one input. -/
def reachFirstWrong : ChangeSpec := { name := "reachFirst", fn := fun _ => fun
  | [d1, d2, d3, d4] => { results := [.lit (.bool false)], args := [d1, d2, d3, d4] }
  | _ => none }
def ReachFirstWrongFalsely : Prop := reachFirstRow.holds Try.pinned (OpenSpec.ofChange reachFirstWrong)

/-- 'tourkeep2.ReachSinks': WHATEVER THE INPUT: true; the input reads as it did. -/
def reachSinksSpec : ChangeSpec := { name := "reachSinks", fn := fun _ => fun
  | [d1, d2, d3, d4] => { results := [.lit (.bool true)], args := [d1, d2, d3, d4] }
  | _ => none }
def reachSinksRow : OpenClaim := { program := "ytienmhgbildhhaa", sum := "1c46a00c08d9db2d3738d1b04e35c9bddcc780c9478c765b1ccd0324bc2bf761", func := "tourney/tourkeep2.ReachSinks", spec := "reachSinks", inPlace := ["math/bits.Add64", "math/bits.Sub64"], unfollowed := true, recurses := true, named := ["math/bits.divideError", "math/bits.overflowError"], apart := false }
def ReachSinksSaid : Prop := reachSinksRow.holds Try.pinned (OpenSpec.ofChange reachSinksSpec)

/-- ITS FALSE NEIGHBOUR: 'it returns false'. Refute it at one input. -/
def reachSinksWrong : ChangeSpec := { name := "reachSinks", fn := fun _ => fun
  | [d1, d2, d3, d4] => { results := [.lit (.bool false)], args := [d1, d2, d3, d4] }
  | _ => none }
def ReachSinksWrongFalsely : Prop := reachSinksRow.holds Try.pinned (OpenSpec.ofChange reachSinksWrong)

/- THE SECOND FORM. 'bulk': how many values and letters a reading holds, each counted each time it is reached (what is shared counts as often as it is met; a slice's spare places count too). A statement '..UptoSaid' is the law's where the arguments, and the package variables that the reading takes, are together of bulk at most 1048576: NARROWER than '..Said'. Prove '..Said' where nothing that the law and all that it calls make is longer than what came in: it says more and counts as full. Else prove '..UptoSaid'. A law counts once. -/
mutual
def uptoBulk {H : Type} : DataW H → Nat
  | .lit (.string bytes) => bytes.length + 1
  | .lit _ => 1
  | .nil => 1
  | .ptr d => uptoBulk d + 1
  | .slice elems spare => uptoBulkAll elems + uptoBulkAll spare + 1
  | .agg parts => uptoBulkAll parts + 1
  | .iface _ d => uptoBulk d + 1
  | .map entries => uptoBulkEntries entries + 1
  | .held _ => 1
def uptoBulkAll {H : Type} : List (DataW H) → Nat
  | [] => 0
  | d :: r => uptoBulk d + uptoBulkAll r
def uptoBulkEntries {H : Type} : List (Lit × DataW H) → Nat
  | [] => 0
  | x :: r => uptoBulkEntry x + uptoBulkEntries r
def uptoBulkEntry {H : Type} : Lit × DataW H → Nat
  | (.string bytes, d) => bytes.length + uptoBulk d + 1
  | (_, d) => uptoBulk d + 1
 end
def uptoSmall : (H : Type) → List (DataW H) → Bool := fun _ ds => decide (uptoBulkAll ds ≤ 1048576)
def OpenSpec.upto (s : _root_.Go.ChangeSpec) : _root_.Go.OpenSpec := { _root_.Go.OpenSpec.ofChange s with cond := some uptoSmall }

/-- 'tourkeep2.SolveStops', WHERE WHAT IT READS IS OF BULK AT MOST 1048576: true; the input reads as it did. -/
def solveStopsUptoRow : OpenClaim := { program := "ytienmhgbildhhaa", sum := "1c46a00c08d9db2d3738d1b04e35c9bddcc780c9478c765b1ccd0324bc2bf761", func := "tourney/tourkeep2.SolveStops", spec := "solveStops", unfollowed := true, recurses := true, named := ["math/bits.divideError", "math/bits.overflowError"], apart := false, narrowed := true }
def SolveStopsUptoSaid : Prop := solveStopsUptoRow.holds Try.pinned (OpenSpec.upto solveStopsSpec)

/-- 'tourlaw2.SolveSays', WHERE WHAT IT READS IS OF BULK AT MOST 1048576: true; the input reads as it did. -/
def solveSaysUptoRow : OpenClaim := { program := "ytienmhgbildhhaa", sum := "1c46a00c08d9db2d3738d1b04e35c9bddcc780c9478c765b1ccd0324bc2bf761", func := "tourney/tourlaw2.SolveSays", spec := "solveSays", unfollowed := true, recurses := true, named := ["math/bits.divideError", "math/bits.overflowError"], apart := false, narrowed := true }
def SolveSaysUptoSaid : Prop := solveSaysUptoRow.holds Try.pinned (OpenSpec.upto solveSaysSpec)

/-- 'tourkeep2.RayAlone', WHERE WHAT IT READS IS OF BULK AT MOST 1048576: true; the input reads as it did. -/
def rayAloneUptoRow : OpenClaim := { program := "ytienmhgbildhhaa", sum := "1c46a00c08d9db2d3738d1b04e35c9bddcc780c9478c765b1ccd0324bc2bf761", func := "tourney/tourkeep2.RayAlone", spec := "rayAlone", unfollowed := true, recurses := true, named := ["math/bits.divideError", "math/bits.overflowError"], apart := false, narrowed := true }
def RayAloneUptoSaid : Prop := rayAloneUptoRow.holds Try.pinned (OpenSpec.upto rayAloneSpec)

/-- 'tourkeep2.RayHits', WHERE WHAT IT READS IS OF BULK AT MOST 1048576: true; the input reads as it did. -/
def rayHitsUptoRow : OpenClaim := { program := "ytienmhgbildhhaa", sum := "1c46a00c08d9db2d3738d1b04e35c9bddcc780c9478c765b1ccd0324bc2bf761", func := "tourney/tourkeep2.RayHits", spec := "rayHits", unfollowed := true, recurses := true, named := ["math/bits.divideError", "math/bits.overflowError"], apart := false, narrowed := true }
def RayHitsUptoSaid : Prop := rayHitsUptoRow.holds Try.pinned (OpenSpec.upto rayHitsSpec)

/-- 'tourlaw2.RayShapes', WHERE WHAT IT READS IS OF BULK AT MOST 1048576: true; the input reads as it did. -/
def rayShapesUptoRow : OpenClaim := { program := "ytienmhgbildhhaa", sum := "1c46a00c08d9db2d3738d1b04e35c9bddcc780c9478c765b1ccd0324bc2bf761", func := "tourney/tourlaw2.RayShapes", spec := "rayShapes", unfollowed := true, recurses := true, named := ["math/bits.divideError", "math/bits.overflowError"], apart := false, narrowed := true }
def RayShapesUptoSaid : Prop := rayShapesUptoRow.holds Try.pinned (OpenSpec.upto rayShapesSpec)

/-- 'tourkeep2.RayStops', WHERE WHAT IT READS IS OF BULK AT MOST 1048576: true; the input reads as it did. -/
def rayStopsUptoRow : OpenClaim := { program := "ytienmhgbildhhaa", sum := "1c46a00c08d9db2d3738d1b04e35c9bddcc780c9478c765b1ccd0324bc2bf761", func := "tourney/tourkeep2.RayStops", spec := "rayStops", unfollowed := true, recurses := true, named := ["math/bits.divideError", "math/bits.overflowError"], apart := false, narrowed := true }
def RayStopsUptoSaid : Prop := rayStopsUptoRow.holds Try.pinned (OpenSpec.upto rayStopsSpec)

/-- 'tourlaw2.JointSays', WHERE WHAT IT READS IS OF BULK AT MOST 1048576: true; the input reads as it did. -/
def jointSaysUptoRow : OpenClaim := { program := "ytienmhgbildhhaa", sum := "1c46a00c08d9db2d3738d1b04e35c9bddcc780c9478c765b1ccd0324bc2bf761", func := "tourney/tourlaw2.JointSays", spec := "jointSays", inPlace := ["math/bits.Add64"], unfollowed := true, recurses := true, named := ["math/bits.divideError", "math/bits.overflowError"], apart := false, narrowed := true }
def JointSaysUptoSaid : Prop := jointSaysUptoRow.holds Try.pinned (OpenSpec.upto jointSaysSpec)

/-- 'tourkeep2.JointStill', WHERE WHAT IT READS IS OF BULK AT MOST 1048576: true; the input reads as it did. -/
def jointStillUptoRow : OpenClaim := { program := "ytienmhgbildhhaa", sum := "1c46a00c08d9db2d3738d1b04e35c9bddcc780c9478c765b1ccd0324bc2bf761", func := "tourney/tourkeep2.JointStill", spec := "jointStill", inPlace := ["math/bits.Add64"], unfollowed := true, recurses := true, named := ["math/bits.divideError", "math/bits.overflowError"], apart := false, narrowed := true }
def JointStillUptoSaid : Prop := jointStillUptoRow.holds Try.pinned (OpenSpec.upto jointStillSpec)

/-- 'tourkeep2.ReachBoth', WHERE WHAT IT READS IS OF BULK AT MOST 1048576: true; the input reads as it did. -/
def reachBothUptoRow : OpenClaim := { program := "ytienmhgbildhhaa", sum := "1c46a00c08d9db2d3738d1b04e35c9bddcc780c9478c765b1ccd0324bc2bf761", func := "tourney/tourkeep2.ReachBoth", spec := "reachBoth", inPlace := ["math/bits.Add64"], unfollowed := true, recurses := true, named := ["math/bits.divideError", "math/bits.overflowError"], apart := false, narrowed := true }
def ReachBothUptoSaid : Prop := reachBothUptoRow.holds Try.pinned (OpenSpec.upto reachBothSpec)

/-- 'tourkeep2.ReachFirst', WHERE WHAT IT READS IS OF BULK AT MOST 1048576: true; the input reads as it did. -/
def reachFirstUptoRow : OpenClaim := { program := "ytienmhgbildhhaa", sum := "1c46a00c08d9db2d3738d1b04e35c9bddcc780c9478c765b1ccd0324bc2bf761", func := "tourney/tourkeep2.ReachFirst", spec := "reachFirst", inPlace := ["math/bits.Add64", "math/bits.Sub64"], unfollowed := true, recurses := true, named := ["math/bits.divideError", "math/bits.overflowError"], apart := false, narrowed := true }
def ReachFirstUptoSaid : Prop := reachFirstUptoRow.holds Try.pinned (OpenSpec.upto reachFirstSpec)

/-- 'tourkeep2.ReachSinks', WHERE WHAT IT READS IS OF BULK AT MOST 1048576: true; the input reads as it did. -/
def reachSinksUptoRow : OpenClaim := { program := "ytienmhgbildhhaa", sum := "1c46a00c08d9db2d3738d1b04e35c9bddcc780c9478c765b1ccd0324bc2bf761", func := "tourney/tourkeep2.ReachSinks", spec := "reachSinks", inPlace := ["math/bits.Add64", "math/bits.Sub64"], unfollowed := true, recurses := true, named := ["math/bits.divideError", "math/bits.overflowError"], apart := false, narrowed := true }
def ReachSinksUptoSaid : Prop := reachSinksUptoRow.holds Try.pinned (OpenSpec.upto reachSinksSpec)

end Rows
end Go.Proofs.Ytienmhgbildhhaa
