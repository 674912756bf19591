/-
  No cell of these rows narrows 'for every input' (looked for: loops, veiled, ifaces, maps, wideKeys, modest, calm, conditions, laid).
  DERIVED. THE GIVEN ROWS OF THIS SEAT. 12 by the template 'for every input the law returns true; each argument reads behind the call as it read before'; 0 by the template 'total and deterministic' (their statements: YtflmhlejgjdifaaTotals.lean).
  GIVEN WITH THE SEED: the statements are not yours to turn. If you find one false, say at which input.
  Laid BY PROGRAM, IN A SANDBOX (cutbox-rows.mjs): the forced cells as the released guide's own fill.sh prints them over the translation 413c63b5da5d0ba9… (all of the seat's roots in one cut). By AI agents, Wed Nov 11 2026. No macro, syntax, notation, axiom, sorry.
-/
import Derived.Test.YtflmhlejgjdifaaChecked
import GoSem.Claim
import GoSem.ClaimJoined
import GoSem.ClaimMapViews
import Derived.JoinedTies
import Derived.KernelRfl
namespace Go.Proofs.Ytflmhlejgjdifaa
/- THE CELL 'sum', in the pinned program and in every row, IS THE sha256 OF THE DUMP (.gsa) THAT YtflmhlejgjdifaaProg.lean LOADS. Nothing in Lean hashes anything: it is a label: what it is worth is what the hold of that sum in a sandbox is worth. -/
noncomputable def Try.pinned : Pinned := { name := "ytflmhlejgjdifaa", sum := "413c63b5da5d0ba93709725de7984451cf0d4198c97112f730d1db013b5f565a", checked := Try.checked }
namespace Rows
def none {H : Type} : Left H := { results := [], args := [] }

/-- 'tourlaw2.NearSays': WHATEVER THE INPUT: true; the input reads as it did. -/
def nearSaysSpec : ChangeSpec := { name := "nearSays", fn := fun _ => fun
  | [d1, d2] => { results := [.lit (.bool true)], args := [d1, d2] }
  | _ => none }
def nearSaysRow : OpenClaim := { program := "ytflmhlejgjdifaa", sum := "413c63b5da5d0ba93709725de7984451cf0d4198c97112f730d1db013b5f565a", func := "tourney/tourlaw2.NearSays", spec := "nearSays", unfollowed := true, recurses := true, apart := false }
def NearSaysSaid : Prop := nearSaysRow.holds Try.pinned (OpenSpec.ofChange nearSaysSpec)

/-- ITS FALSE NEIGHBOUR: 'it returns false'. Refute it at one input. -/
def nearSaysWrong : ChangeSpec := { name := "nearSays", fn := fun _ => fun
  | [d1, d2] => { results := [.lit (.bool false)], args := [d1, d2] }
  | _ => none }
def NearSaysWrongFalsely : Prop := nearSaysRow.holds Try.pinned (OpenSpec.ofChange nearSaysWrong)

/-- 'tourlaw2.SatSays': WHATEVER THE INPUT: true; the input reads as it did. -/
def satSaysSpec : ChangeSpec := { name := "satSays", fn := fun _ => fun
  | [d1, d2, d3] => { results := [.lit (.bool true)], args := [d1, d2, d3] }
  | _ => none }
def satSaysRow : OpenClaim := { program := "ytflmhlejgjdifaa", sum := "413c63b5da5d0ba93709725de7984451cf0d4198c97112f730d1db013b5f565a", func := "tourney/tourlaw2.SatSays", spec := "satSays", inPlace := ["math/bits.Sub64", "math/bits.Add64"], unfollowed := true, recurses := true, named := ["math/bits.divideError", "math/bits.overflowError"], apart := false }
def SatSaysSaid : Prop := satSaysRow.holds Try.pinned (OpenSpec.ofChange satSaysSpec)

/-- ITS FALSE NEIGHBOUR: 'it returns false'. Refute it at one input. -/
def satSaysWrong : ChangeSpec := { name := "satSays", fn := fun _ => fun
  | [d1, d2, d3] => { results := [.lit (.bool false)], args := [d1, d2, d3] }
  | _ => none }
def SatSaysWrongFalsely : Prop := satSaysRow.holds Try.pinned (OpenSpec.ofChange satSaysWrong)

/-- 'tourkeep2.SolveStops': WHATEVER THE INPUT: true; the input reads as it did. -/
def solveStopsSpec : ChangeSpec := { name := "solveStops", fn := fun _ => fun
  | [d1, d2, d3] => { results := [.lit (.bool true)], args := [d1, d2, d3] }
  | _ => none }
def solveStopsRow : OpenClaim := { program := "ytflmhlejgjdifaa", sum := "413c63b5da5d0ba93709725de7984451cf0d4198c97112f730d1db013b5f565a", func := "tourney/tourkeep2.SolveStops", spec := "solveStops", unfollowed := true, recurses := true, named := ["math/bits.divideError", "math/bits.overflowError"], apart := false }
def SolveStopsSaid : Prop := solveStopsRow.holds Try.pinned (OpenSpec.ofChange solveStopsSpec)

/-- ITS FALSE NEIGHBOUR: 'it returns false'. Refute it at one input. -/
def solveStopsWrong : ChangeSpec := { name := "solveStops", fn := fun _ => fun
  | [d1, d2, d3] => { results := [.lit (.bool false)], args := [d1, d2, d3] }
  | _ => none }
def SolveStopsWrongFalsely : Prop := solveStopsRow.holds Try.pinned (OpenSpec.ofChange solveStopsWrong)

/-- 'tourkeep2.SatMoved': WHATEVER THE INPUT: true; the input reads as it did. -/
def satMovedSpec : ChangeSpec := { name := "satMoved", fn := fun _ => fun
  | [d1, d2, d3, d4, d5, d6] => { results := [.lit (.bool true)], args := [d1, d2, d3, d4, d5, d6] }
  | _ => none }
def satMovedRow : OpenClaim := { program := "ytflmhlejgjdifaa", sum := "413c63b5da5d0ba93709725de7984451cf0d4198c97112f730d1db013b5f565a", func := "tourney/tourkeep2.SatMoved", spec := "satMoved", inPlace := ["math/bits.Sub64", "math/bits.Add64"], unfollowed := true, recurses := true, named := ["math/bits.divideError", "math/bits.overflowError"], apart := false }
def SatMovedSaid : Prop := satMovedRow.holds Try.pinned (OpenSpec.ofChange satMovedSpec)

/-- ITS FALSE NEIGHBOUR: 'it returns false'. Refute it at one input. -/
def satMovedWrong : ChangeSpec := { name := "satMoved", fn := fun _ => fun
  | [d1, d2, d3, d4, d5, d6] => { results := [.lit (.bool false)], args := [d1, d2, d3, d4, d5, d6] }
  | _ => none }
def SatMovedWrongFalsely : Prop := satMovedRow.holds Try.pinned (OpenSpec.ofChange satMovedWrong)

/-- 'tourkeep2.SatSwapped': WHATEVER THE INPUT: true; the input reads as it did. -/
def satSwappedSpec : ChangeSpec := { name := "satSwapped", fn := fun _ => fun
  | [d1, d2, d3, d4] => { results := [.lit (.bool true)], args := [d1, d2, d3, d4] }
  | _ => none }
def satSwappedRow : OpenClaim := { program := "ytflmhlejgjdifaa", sum := "413c63b5da5d0ba93709725de7984451cf0d4198c97112f730d1db013b5f565a", func := "tourney/tourkeep2.SatSwapped", spec := "satSwapped", inPlace := ["math/bits.Sub64", "math/bits.Add64"], unfollowed := true, recurses := true, named := ["math/bits.divideError", "math/bits.overflowError"], apart := false }
def SatSwappedSaid : Prop := satSwappedRow.holds Try.pinned (OpenSpec.ofChange satSwappedSpec)

/-- ITS FALSE NEIGHBOUR: 'it returns false'. Refute it at one input. -/
def satSwappedWrong : ChangeSpec := { name := "satSwapped", fn := fun _ => fun
  | [d1, d2, d3, d4] => { results := [.lit (.bool false)], args := [d1, d2, d3, d4] }
  | _ => none }
def SatSwappedWrongFalsely : Prop := satSwappedRow.holds Try.pinned (OpenSpec.ofChange satSwappedWrong)

/-- 'tourkeep2.NearDifference': WHATEVER THE INPUT: true; the input reads as it did. -/
def nearDifferenceSpec : ChangeSpec := { name := "nearDifference", fn := fun _ => fun
  | [d1, d2, d3, d4] => { results := [.lit (.bool true)], args := [d1, d2, d3, d4] }
  | _ => none }
def nearDifferenceRow : OpenClaim := { program := "ytflmhlejgjdifaa", sum := "413c63b5da5d0ba93709725de7984451cf0d4198c97112f730d1db013b5f565a", func := "tourney/tourkeep2.NearDifference", spec := "nearDifference", inPlace := ["math/bits.Sub64", "math/bits.Add64"], unfollowed := true, recurses := true, named := ["math/bits.divideError", "math/bits.overflowError"], apart := false }
def NearDifferenceSaid : Prop := nearDifferenceRow.holds Try.pinned (OpenSpec.ofChange nearDifferenceSpec)

/-- ITS FALSE NEIGHBOUR: 'it returns false'. Refute it at one input. -/
def nearDifferenceWrong : ChangeSpec := { name := "nearDifference", fn := fun _ => fun
  | [d1, d2, d3, d4] => { results := [.lit (.bool false)], args := [d1, d2, d3, d4] }
  | _ => none }
def NearDifferenceWrongFalsely : Prop := nearDifferenceRow.holds Try.pinned (OpenSpec.ofChange nearDifferenceWrong)

/-- 'tourkeep2.NearSwapped': WHATEVER THE INPUT: true; the input reads as it did. -/
def nearSwappedSpec : ChangeSpec := { name := "nearSwapped", fn := fun _ => fun
  | [d1, d2, d3, d4, d5, d6] => { results := [.lit (.bool true)], args := [d1, d2, d3, d4, d5, d6] }
  | _ => none }
def nearSwappedRow : OpenClaim := { program := "ytflmhlejgjdifaa", sum := "413c63b5da5d0ba93709725de7984451cf0d4198c97112f730d1db013b5f565a", func := "tourney/tourkeep2.NearSwapped", spec := "nearSwapped", inPlace := ["math/bits.Sub64", "math/bits.Add64"], unfollowed := true, recurses := true, named := ["math/bits.divideError", "math/bits.overflowError"], apart := false }
def NearSwappedSaid : Prop := nearSwappedRow.holds Try.pinned (OpenSpec.ofChange nearSwappedSpec)

/-- ITS FALSE NEIGHBOUR: 'it returns false'. Refute it at one input. -/
def nearSwappedWrong : ChangeSpec := { name := "nearSwapped", fn := fun _ => fun
  | [d1, d2, d3, d4, d5, d6] => { results := [.lit (.bool false)], args := [d1, d2, d3, d4, d5, d6] }
  | _ => none }
def NearSwappedWrongFalsely : Prop := nearSwappedRow.holds Try.pinned (OpenSpec.ofChange nearSwappedWrong)

/-- 'tourlaw2.SolveSays': WHATEVER THE INPUT: true; the input reads as it did. -/
def solveSaysSpec : ChangeSpec := { name := "solveSays", fn := fun _ => fun
  | [d1, d2, d3, d4] => { results := [.lit (.bool true)], args := [d1, d2, d3, d4] }
  | _ => none }
def solveSaysRow : OpenClaim := { program := "ytflmhlejgjdifaa", sum := "413c63b5da5d0ba93709725de7984451cf0d4198c97112f730d1db013b5f565a", func := "tourney/tourlaw2.SolveSays", spec := "solveSays", unfollowed := true, recurses := true, named := ["math/bits.divideError", "math/bits.overflowError"], apart := false }
def SolveSaysSaid : Prop := solveSaysRow.holds Try.pinned (OpenSpec.ofChange solveSaysSpec)

/-- ITS FALSE NEIGHBOUR: 'it returns false'. Refute it at one input. -/
def solveSaysWrong : ChangeSpec := { name := "solveSays", fn := fun _ => fun
  | [d1, d2, d3, d4] => { results := [.lit (.bool false)], args := [d1, d2, d3, d4] }
  | _ => none }
def SolveSaysWrongFalsely : Prop := solveSaysRow.holds Try.pinned (OpenSpec.ofChange solveSaysWrong)

/-- 'tourkeep2.SweepJoins': WHATEVER THE INPUT: true; the input reads as it did. -/
def sweepJoinsSpec : ChangeSpec := { name := "sweepJoins", fn := fun _ => fun
  | [d] => { results := [.lit (.bool true)], args := [d] }
  | _ => none }
def sweepJoinsRow : OpenClaim := { program := "ytflmhlejgjdifaa", sum := "413c63b5da5d0ba93709725de7984451cf0d4198c97112f730d1db013b5f565a", func := "tourney/tourkeep2.SweepJoins", spec := "sweepJoins", unfollowed := true, recurses := true, apart := false }
def SweepJoinsSaid : Prop := sweepJoinsRow.holds Try.pinned (OpenSpec.ofChange sweepJoinsSpec)

/-- ITS FALSE NEIGHBOUR: 'it returns false'. Refute it at one input. -/
def sweepJoinsWrong : ChangeSpec := { name := "sweepJoins", fn := fun _ => fun
  | [d] => { results := [.lit (.bool false)], args := [d] }
  | _ => none }
def SweepJoinsWrongFalsely : Prop := sweepJoinsRow.holds Try.pinned (OpenSpec.ofChange sweepJoinsWrong)

/-- 'tourkeep2.SatApart': WHATEVER THE INPUT: true; the input reads as it did. -/
def satApartSpec : ChangeSpec := { name := "satApart", fn := fun _ => fun
  | [d1, d2, d3, d4] => { results := [.lit (.bool true)], args := [d1, d2, d3, d4] }
  | _ => none }
def satApartRow : OpenClaim := { program := "ytflmhlejgjdifaa", sum := "413c63b5da5d0ba93709725de7984451cf0d4198c97112f730d1db013b5f565a", func := "tourney/tourkeep2.SatApart", spec := "satApart", inPlace := ["math/bits.Sub64", "math/bits.Add64"], unfollowed := true, recurses := true, named := ["math/bits.divideError", "math/bits.overflowError"], apart := false }
def SatApartSaid : Prop := satApartRow.holds Try.pinned (OpenSpec.ofChange satApartSpec)

/-- ITS FALSE NEIGHBOUR: 'it returns false'. Refute it at one input. -/
def satApartWrong : ChangeSpec := { name := "satApart", fn := fun _ => fun
  | [d1, d2, d3, d4] => { results := [.lit (.bool false)], args := [d1, d2, d3, d4] }
  | _ => none }
def SatApartWrongFalsely : Prop := satApartRow.holds Try.pinned (OpenSpec.ofChange satApartWrong)

/-- 'tourlaw2.JointSays': WHATEVER THE INPUT: true; the input reads as it did. -/
def jointSaysSpec : ChangeSpec := { name := "jointSays", fn := fun _ => fun
  | [d1, d2, d3, d4] => { results := [.lit (.bool true)], args := [d1, d2, d3, d4] }
  | _ => none }
def jointSaysRow : OpenClaim := { program := "ytflmhlejgjdifaa", sum := "413c63b5da5d0ba93709725de7984451cf0d4198c97112f730d1db013b5f565a", func := "tourney/tourlaw2.JointSays", spec := "jointSays", inPlace := ["math/bits.Add64"], unfollowed := true, recurses := true, named := ["math/bits.divideError", "math/bits.overflowError"], apart := false }
def JointSaysSaid : Prop := jointSaysRow.holds Try.pinned (OpenSpec.ofChange jointSaysSpec)

/-- ITS FALSE NEIGHBOUR: 'it returns false'. Refute it at one input. -/
def jointSaysWrong : ChangeSpec := { name := "jointSays", fn := fun _ => fun
  | [d1, d2, d3, d4] => { results := [.lit (.bool false)], args := [d1, d2, d3, d4] }
  | _ => none }
def JointSaysWrongFalsely : Prop := jointSaysRow.holds Try.pinned (OpenSpec.ofChange jointSaysWrong)

/-- 'tourkeep2.JointStill': WHATEVER THE INPUT: true; the input reads as it did. -/
def jointStillSpec : ChangeSpec := { name := "jointStill", fn := fun _ => fun
  | [d1, d2] => { results := [.lit (.bool true)], args := [d1, d2] }
  | _ => none }
def jointStillRow : OpenClaim := { program := "ytflmhlejgjdifaa", sum := "413c63b5da5d0ba93709725de7984451cf0d4198c97112f730d1db013b5f565a", func := "tourney/tourkeep2.JointStill", spec := "jointStill", inPlace := ["math/bits.Add64"], unfollowed := true, recurses := true, named := ["math/bits.divideError", "math/bits.overflowError"], apart := false }
def JointStillSaid : Prop := jointStillRow.holds Try.pinned (OpenSpec.ofChange jointStillSpec)

/-- ITS FALSE NEIGHBOUR: 'it returns false'. Refute it at one input. -/
def jointStillWrong : ChangeSpec := { name := "jointStill", fn := fun _ => fun
  | [d1, d2] => { results := [.lit (.bool false)], args := [d1, d2] }
  | _ => none }
def JointStillWrongFalsely : Prop := jointStillRow.holds Try.pinned (OpenSpec.ofChange jointStillWrong)

/- THE SECOND FORM. 'bulk': how many values and letters a reading holds, each counted each time it is reached (what is shared counts as often as it is met; a slice's spare places count too). A statement '..UptoSaid' is the law's where the arguments, and the package variables that the reading takes, are together of bulk at most 1048576: NARROWER than '..Said'. Prove '..Said' where nothing that the law and all that it calls make is longer than what came in: it says more and counts as full. Else prove '..UptoSaid'. A law counts once. -/
mutual
def uptoBulk {H : Type} : DataW H → Nat
  | .lit (.string bytes) => bytes.length + 1
  | .lit _ => 1
  | .nil => 1
  | .ptr d => uptoBulk d + 1
  | .slice elems spare => uptoBulkAll elems + uptoBulkAll spare + 1
  | .agg parts => uptoBulkAll parts + 1
  | .iface _ d => uptoBulk d + 1
  | .map entries => uptoBulkEntries entries + 1
  | .held _ => 1
def uptoBulkAll {H : Type} : List (DataW H) → Nat
  | [] => 0
  | d :: r => uptoBulk d + uptoBulkAll r
def uptoBulkEntries {H : Type} : List (Lit × DataW H) → Nat
  | [] => 0
  | x :: r => uptoBulkEntry x + uptoBulkEntries r
def uptoBulkEntry {H : Type} : Lit × DataW H → Nat
  | (.string bytes, d) => bytes.length + uptoBulk d + 1
  | (_, d) => uptoBulk d + 1
 end
def uptoSmall : (H : Type) → List (DataW H) → Bool := fun _ ds => decide (uptoBulkAll ds ≤ 1048576)
def OpenSpec.upto (s : _root_.Go.ChangeSpec) : _root_.Go.OpenSpec := { _root_.Go.OpenSpec.ofChange s with cond := some uptoSmall }

/-- 'tourlaw2.NearSays', WHERE WHAT IT READS IS OF BULK AT MOST 1048576: true; the input reads as it did. -/
def nearSaysUptoRow : OpenClaim := { program := "ytflmhlejgjdifaa", sum := "413c63b5da5d0ba93709725de7984451cf0d4198c97112f730d1db013b5f565a", func := "tourney/tourlaw2.NearSays", spec := "nearSays", unfollowed := true, recurses := true, apart := false, narrowed := true }
def NearSaysUptoSaid : Prop := nearSaysUptoRow.holds Try.pinned (OpenSpec.upto nearSaysSpec)

/-- 'tourlaw2.SatSays', WHERE WHAT IT READS IS OF BULK AT MOST 1048576: true; the input reads as it did. -/
def satSaysUptoRow : OpenClaim := { program := "ytflmhlejgjdifaa", sum := "413c63b5da5d0ba93709725de7984451cf0d4198c97112f730d1db013b5f565a", func := "tourney/tourlaw2.SatSays", spec := "satSays", inPlace := ["math/bits.Sub64", "math/bits.Add64"], unfollowed := true, recurses := true, named := ["math/bits.divideError", "math/bits.overflowError"], apart := false, narrowed := true }
def SatSaysUptoSaid : Prop := satSaysUptoRow.holds Try.pinned (OpenSpec.upto satSaysSpec)

/-- 'tourkeep2.SolveStops', WHERE WHAT IT READS IS OF BULK AT MOST 1048576: true; the input reads as it did. -/
def solveStopsUptoRow : OpenClaim := { program := "ytflmhlejgjdifaa", sum := "413c63b5da5d0ba93709725de7984451cf0d4198c97112f730d1db013b5f565a", func := "tourney/tourkeep2.SolveStops", spec := "solveStops", unfollowed := true, recurses := true, named := ["math/bits.divideError", "math/bits.overflowError"], apart := false, narrowed := true }
def SolveStopsUptoSaid : Prop := solveStopsUptoRow.holds Try.pinned (OpenSpec.upto solveStopsSpec)

/-- 'tourkeep2.SatMoved', WHERE WHAT IT READS IS OF BULK AT MOST 1048576: true; the input reads as it did. -/
def satMovedUptoRow : OpenClaim := { program := "ytflmhlejgjdifaa", sum := "413c63b5da5d0ba93709725de7984451cf0d4198c97112f730d1db013b5f565a", func := "tourney/tourkeep2.SatMoved", spec := "satMoved", inPlace := ["math/bits.Sub64", "math/bits.Add64"], unfollowed := true, recurses := true, named := ["math/bits.divideError", "math/bits.overflowError"], apart := false, narrowed := true }
def SatMovedUptoSaid : Prop := satMovedUptoRow.holds Try.pinned (OpenSpec.upto satMovedSpec)

/-- 'tourkeep2.SatSwapped', WHERE WHAT IT READS IS OF BULK AT MOST 1048576: true; the input reads as it did. -/
def satSwappedUptoRow : OpenClaim := { program := "ytflmhlejgjdifaa", sum := "413c63b5da5d0ba93709725de7984451cf0d4198c97112f730d1db013b5f565a", func := "tourney/tourkeep2.SatSwapped", spec := "satSwapped", inPlace := ["math/bits.Sub64", "math/bits.Add64"], unfollowed := true, recurses := true, named := ["math/bits.divideError", "math/bits.overflowError"], apart := false, narrowed := true }
def SatSwappedUptoSaid : Prop := satSwappedUptoRow.holds Try.pinned (OpenSpec.upto satSwappedSpec)

/-- 'tourkeep2.NearDifference', WHERE WHAT IT READS IS OF BULK AT MOST 1048576: true; the input reads as it did. -/
def nearDifferenceUptoRow : OpenClaim := { program := "ytflmhlejgjdifaa", sum := "413c63b5da5d0ba93709725de7984451cf0d4198c97112f730d1db013b5f565a", func := "tourney/tourkeep2.NearDifference", spec := "nearDifference", inPlace := ["math/bits.Sub64", "math/bits.Add64"], unfollowed := true, recurses := true, named := ["math/bits.divideError", "math/bits.overflowError"], apart := false, narrowed := true }
def NearDifferenceUptoSaid : Prop := nearDifferenceUptoRow.holds Try.pinned (OpenSpec.upto nearDifferenceSpec)

/-- 'tourkeep2.NearSwapped', WHERE WHAT IT READS IS OF BULK AT MOST 1048576: true; the input reads as it did. -/
def nearSwappedUptoRow : OpenClaim := { program := "ytflmhlejgjdifaa", sum := "413c63b5da5d0ba93709725de7984451cf0d4198c97112f730d1db013b5f565a", func := "tourney/tourkeep2.NearSwapped", spec := "nearSwapped", inPlace := ["math/bits.Sub64", "math/bits.Add64"], unfollowed := true, recurses := true, named := ["math/bits.divideError", "math/bits.overflowError"], apart := false, narrowed := true }
def NearSwappedUptoSaid : Prop := nearSwappedUptoRow.holds Try.pinned (OpenSpec.upto nearSwappedSpec)

/-- 'tourlaw2.SolveSays', WHERE WHAT IT READS IS OF BULK AT MOST 1048576: true; the input reads as it did. -/
def solveSaysUptoRow : OpenClaim := { program := "ytflmhlejgjdifaa", sum := "413c63b5da5d0ba93709725de7984451cf0d4198c97112f730d1db013b5f565a", func := "tourney/tourlaw2.SolveSays", spec := "solveSays", unfollowed := true, recurses := true, named := ["math/bits.divideError", "math/bits.overflowError"], apart := false, narrowed := true }
def SolveSaysUptoSaid : Prop := solveSaysUptoRow.holds Try.pinned (OpenSpec.upto solveSaysSpec)

/-- 'tourkeep2.SweepJoins', WHERE WHAT IT READS IS OF BULK AT MOST 1048576: true; the input reads as it did. -/
def sweepJoinsUptoRow : OpenClaim := { program := "ytflmhlejgjdifaa", sum := "413c63b5da5d0ba93709725de7984451cf0d4198c97112f730d1db013b5f565a", func := "tourney/tourkeep2.SweepJoins", spec := "sweepJoins", unfollowed := true, recurses := true, apart := false, narrowed := true }
def SweepJoinsUptoSaid : Prop := sweepJoinsUptoRow.holds Try.pinned (OpenSpec.upto sweepJoinsSpec)

/-- 'tourkeep2.SatApart', WHERE WHAT IT READS IS OF BULK AT MOST 1048576: true; the input reads as it did. -/
def satApartUptoRow : OpenClaim := { program := "ytflmhlejgjdifaa", sum := "413c63b5da5d0ba93709725de7984451cf0d4198c97112f730d1db013b5f565a", func := "tourney/tourkeep2.SatApart", spec := "satApart", inPlace := ["math/bits.Sub64", "math/bits.Add64"], unfollowed := true, recurses := true, named := ["math/bits.divideError", "math/bits.overflowError"], apart := false, narrowed := true }
def SatApartUptoSaid : Prop := satApartUptoRow.holds Try.pinned (OpenSpec.upto satApartSpec)

/-- 'tourlaw2.JointSays', WHERE WHAT IT READS IS OF BULK AT MOST 1048576: true; the input reads as it did. -/
def jointSaysUptoRow : OpenClaim := { program := "ytflmhlejgjdifaa", sum := "413c63b5da5d0ba93709725de7984451cf0d4198c97112f730d1db013b5f565a", func := "tourney/tourlaw2.JointSays", spec := "jointSays", inPlace := ["math/bits.Add64"], unfollowed := true, recurses := true, named := ["math/bits.divideError", "math/bits.overflowError"], apart := false, narrowed := true }
def JointSaysUptoSaid : Prop := jointSaysUptoRow.holds Try.pinned (OpenSpec.upto jointSaysSpec)

/-- 'tourkeep2.JointStill', WHERE WHAT IT READS IS OF BULK AT MOST 1048576: true; the input reads as it did. -/
def jointStillUptoRow : OpenClaim := { program := "ytflmhlejgjdifaa", sum := "413c63b5da5d0ba93709725de7984451cf0d4198c97112f730d1db013b5f565a", func := "tourney/tourkeep2.JointStill", spec := "jointStill", inPlace := ["math/bits.Add64"], unfollowed := true, recurses := true, named := ["math/bits.divideError", "math/bits.overflowError"], apart := false, narrowed := true }
def JointStillUptoSaid : Prop := jointStillUptoRow.holds Try.pinned (OpenSpec.upto jointStillSpec)

end Rows
end Go.Proofs.Ytflmhlejgjdifaa
