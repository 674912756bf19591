/-
  No cell of these rows narrows 'for every input' (looked for: loops, veiled, ifaces, maps, wideKeys, modest, calm, conditions, laid).
  DERIVED. THE GIVEN ROWS OF THIS SEAT. 12 by the template 'for every input the law returns true; each argument reads behind the call as it read before'; 0 by the template 'total and deterministic' (their statements: YtmkmmblgmldilaaTotals.lean).
  GIVEN WITH THE SEED: the statements are not yours to turn. If you find one false, say at which input.
  Laid BY PROGRAM, IN A SANDBOX (cutbox-rows.mjs): the forced cells as the released guide's own fill.sh prints them over the translation 4cfca1ba7d0f0f39… (all of the seat's roots in one cut). By AI agents, Wed Nov 11 2026. No macro, syntax, notation, axiom, sorry.
-/
import Derived.Test.YtmkmmblgmldilaaChecked
import GoSem.Claim
import GoSem.ClaimJoined
import GoSem.ClaimMapViews
import Derived.JoinedTies
import Derived.KernelRfl
namespace Go.Proofs.Ytmkmmblgmldilaa
/- THE CELL 'sum', in the pinned program and in every row, IS THE sha256 OF THE DUMP (.gsa) THAT YtmkmmblgmldilaaProg.lean LOADS. Nothing in Lean hashes anything: it is a label: what it is worth is what the hold of that sum in a sandbox is worth. -/
noncomputable def Try.pinned : Pinned := { name := "ytmkmmblgmldilaa", sum := "4cfca1ba7d0f0f39000f362f01f62efa7ab9c42d630ec3fb1d99d484fe4acd27", checked := Try.checked }
namespace Rows
def none {H : Type} : Left H := { results := [], args := [] }

/-- 'tourlaw2.NearSays': WHATEVER THE INPUT: true; the input reads as it did. -/
def nearSaysSpec : ChangeSpec := { name := "nearSays", fn := fun _ => fun
  | [d1, d2] => { results := [.lit (.bool true)], args := [d1, d2] }
  | _ => none }
def nearSaysRow : OpenClaim := { program := "ytmkmmblgmldilaa", sum := "4cfca1ba7d0f0f39000f362f01f62efa7ab9c42d630ec3fb1d99d484fe4acd27", func := "tourney/tourlaw2.NearSays", spec := "nearSays", unfollowed := true, recurses := true, apart := false }
def NearSaysSaid : Prop := nearSaysRow.holds Try.pinned (OpenSpec.ofChange nearSaysSpec)

/-- ITS FALSE NEIGHBOUR: 'it returns false'. Refute it at one input. -/
def nearSaysWrong : ChangeSpec := { name := "nearSays", fn := fun _ => fun
  | [d1, d2] => { results := [.lit (.bool false)], args := [d1, d2] }
  | _ => none }
def NearSaysWrongFalsely : Prop := nearSaysRow.holds Try.pinned (OpenSpec.ofChange nearSaysWrong)

/-- 'tourkeep2.BodyPushBack': WHATEVER THE INPUT: true; the input reads as it did. -/
def bodyPushBackSpec : ChangeSpec := { name := "bodyPushBack", fn := fun _ => fun
  | [d1, d2, d3, d4, d5] => { results := [.lit (.bool true)], args := [d1, d2, d3, d4, d5] }
  | _ => none }
def bodyPushBackRow : OpenClaim := { program := "ytmkmmblgmldilaa", sum := "4cfca1ba7d0f0f39000f362f01f62efa7ab9c42d630ec3fb1d99d484fe4acd27", func := "tourney/tourkeep2.BodyPushBack", spec := "bodyPushBack", unfollowed := true, recurses := true, named := ["math/bits.divideError", "math/bits.overflowError"], apart := false }
def BodyPushBackSaid : Prop := bodyPushBackRow.holds Try.pinned (OpenSpec.ofChange bodyPushBackSpec)

/-- ITS FALSE NEIGHBOUR: 'it returns false'. Refute it at one input. -/
def bodyPushBackWrong : ChangeSpec := { name := "bodyPushBack", fn := fun _ => fun
  | [d1, d2, d3, d4, d5] => { results := [.lit (.bool false)], args := [d1, d2, d3, d4, d5] }
  | _ => none }
def BodyPushBackWrongFalsely : Prop := bodyPushBackRow.holds Try.pinned (OpenSpec.ofChange bodyPushBackWrong)

/-- 'tourkeep2.BodySpins': WHATEVER THE INPUT: true; the input reads as it did. -/
def bodySpinsSpec : ChangeSpec := { name := "bodySpins", fn := fun _ => fun
  | [d1, d2, d3] => { results := [.lit (.bool true)], args := [d1, d2, d3] }
  | _ => none }
def bodySpinsRow : OpenClaim := { program := "ytmkmmblgmldilaa", sum := "4cfca1ba7d0f0f39000f362f01f62efa7ab9c42d630ec3fb1d99d484fe4acd27", func := "tourney/tourkeep2.BodySpins", spec := "bodySpins", unfollowed := true, recurses := true, named := ["math/bits.divideError", "math/bits.overflowError"], apart := false }
def BodySpinsSaid : Prop := bodySpinsRow.holds Try.pinned (OpenSpec.ofChange bodySpinsSpec)

/-- ITS FALSE NEIGHBOUR: 'it returns false'. Refute it at one input. -/
def bodySpinsWrong : ChangeSpec := { name := "bodySpins", fn := fun _ => fun
  | [d1, d2, d3] => { results := [.lit (.bool false)], args := [d1, d2, d3] }
  | _ => none }
def BodySpinsWrongFalsely : Prop := bodySpinsRow.holds Try.pinned (OpenSpec.ofChange bodySpinsWrong)

/-- 'tourlaw2.BodyPushes': WHATEVER THE INPUT: true; the input reads as it did. -/
def bodyPushesSpec : ChangeSpec := { name := "bodyPushes", fn := fun _ => fun
  | [d1, d2, d3, d4] => { results := [.lit (.bool true)], args := [d1, d2, d3, d4] }
  | _ => none }
def bodyPushesRow : OpenClaim := { program := "ytmkmmblgmldilaa", sum := "4cfca1ba7d0f0f39000f362f01f62efa7ab9c42d630ec3fb1d99d484fe4acd27", func := "tourney/tourlaw2.BodyPushes", spec := "bodyPushes", unfollowed := true, recurses := true, named := ["math/bits.divideError", "math/bits.overflowError"], apart := false }
def BodyPushesSaid : Prop := bodyPushesRow.holds Try.pinned (OpenSpec.ofChange bodyPushesSpec)

/-- ITS FALSE NEIGHBOUR: 'it returns false'. Refute it at one input. -/
def bodyPushesWrong : ChangeSpec := { name := "bodyPushes", fn := fun _ => fun
  | [d1, d2, d3, d4] => { results := [.lit (.bool false)], args := [d1, d2, d3, d4] }
  | _ => none }
def BodyPushesWrongFalsely : Prop := bodyPushesRow.holds Try.pinned (OpenSpec.ofChange bodyPushesWrong)

/-- 'tourlaw2.SatSays': WHATEVER THE INPUT: true; the input reads as it did. -/
def satSaysSpec : ChangeSpec := { name := "satSays", fn := fun _ => fun
  | [d1, d2, d3] => { results := [.lit (.bool true)], args := [d1, d2, d3] }
  | _ => none }
def satSaysRow : OpenClaim := { program := "ytmkmmblgmldilaa", sum := "4cfca1ba7d0f0f39000f362f01f62efa7ab9c42d630ec3fb1d99d484fe4acd27", func := "tourney/tourlaw2.SatSays", spec := "satSays", inPlace := ["math/bits.Sub64", "math/bits.Add64"], unfollowed := true, recurses := true, named := ["math/bits.divideError", "math/bits.overflowError"], apart := false }
def SatSaysSaid : Prop := satSaysRow.holds Try.pinned (OpenSpec.ofChange satSaysSpec)

/-- ITS FALSE NEIGHBOUR: 'it returns false'. Refute it at one input. -/
def satSaysWrong : ChangeSpec := { name := "satSays", fn := fun _ => fun
  | [d1, d2, d3] => { results := [.lit (.bool false)], args := [d1, d2, d3] }
  | _ => none }
def SatSaysWrongFalsely : Prop := satSaysRow.holds Try.pinned (OpenSpec.ofChange satSaysWrong)

/-- 'tourkeep2.BodyPlaced': WHATEVER THE INPUT: true; the input reads as it did. -/
def bodyPlacedSpec : ChangeSpec := { name := "bodyPlaced", fn := fun _ => fun
  | [d] => { results := [.lit (.bool true)], args := [d] }
  | _ => none }
def bodyPlacedRow : OpenClaim := { program := "ytmkmmblgmldilaa", sum := "4cfca1ba7d0f0f39000f362f01f62efa7ab9c42d630ec3fb1d99d484fe4acd27", func := "tourney/tourkeep2.BodyPlaced", spec := "bodyPlaced", unfollowed := true, recurses := true, named := ["math/bits.divideError", "math/bits.overflowError"], apart := false }
def BodyPlacedSaid : Prop := bodyPlacedRow.holds Try.pinned (OpenSpec.ofChange bodyPlacedSpec)

/-- ITS FALSE NEIGHBOUR: 'it returns false'. Refute it at one input. -/
def bodyPlacedWrong : ChangeSpec := { name := "bodyPlaced", fn := fun _ => fun
  | [d] => { results := [.lit (.bool false)], args := [d] }
  | _ => none }
def BodyPlacedWrongFalsely : Prop := bodyPlacedRow.holds Try.pinned (OpenSpec.ofChange bodyPlacedWrong)

/-- 'tourlaw2.BodyChecks': WHATEVER THE INPUT: true; the input reads as it did. -/
def bodyChecksSpec : ChangeSpec := { name := "bodyChecks", fn := fun _ => fun
  | [d1, d2] => { results := [.lit (.bool true)], args := [d1, d2] }
  | _ => none }
def bodyChecksRow : OpenClaim := { program := "ytmkmmblgmldilaa", sum := "4cfca1ba7d0f0f39000f362f01f62efa7ab9c42d630ec3fb1d99d484fe4acd27", func := "tourney/tourlaw2.BodyChecks", spec := "bodyChecks", unfollowed := true, recurses := true, named := ["math/bits.divideError", "math/bits.overflowError"], apart := false }
def BodyChecksSaid : Prop := bodyChecksRow.holds Try.pinned (OpenSpec.ofChange bodyChecksSpec)

/-- ITS FALSE NEIGHBOUR: 'it returns false'. Refute it at one input. -/
def bodyChecksWrong : ChangeSpec := { name := "bodyChecks", fn := fun _ => fun
  | [d1, d2] => { results := [.lit (.bool false)], args := [d1, d2] }
  | _ => none }
def BodyChecksWrongFalsely : Prop := bodyChecksRow.holds Try.pinned (OpenSpec.ofChange bodyChecksWrong)

/-- 'tourkeep2.SatMoved': WHATEVER THE INPUT: true; the input reads as it did. -/
def satMovedSpec : ChangeSpec := { name := "satMoved", fn := fun _ => fun
  | [d1, d2, d3, d4, d5, d6] => { results := [.lit (.bool true)], args := [d1, d2, d3, d4, d5, d6] }
  | _ => none }
def satMovedRow : OpenClaim := { program := "ytmkmmblgmldilaa", sum := "4cfca1ba7d0f0f39000f362f01f62efa7ab9c42d630ec3fb1d99d484fe4acd27", func := "tourney/tourkeep2.SatMoved", spec := "satMoved", inPlace := ["math/bits.Sub64", "math/bits.Add64"], unfollowed := true, recurses := true, named := ["math/bits.divideError", "math/bits.overflowError"], apart := false }
def SatMovedSaid : Prop := satMovedRow.holds Try.pinned (OpenSpec.ofChange satMovedSpec)

/-- ITS FALSE NEIGHBOUR: 'it returns false'. Refute it at one input. -/
def satMovedWrong : ChangeSpec := { name := "satMoved", fn := fun _ => fun
  | [d1, d2, d3, d4, d5, d6] => { results := [.lit (.bool false)], args := [d1, d2, d3, d4, d5, d6] }
  | _ => none }
def SatMovedWrongFalsely : Prop := satMovedRow.holds Try.pinned (OpenSpec.ofChange satMovedWrong)

/-- 'tourkeep2.SatSwapped': WHATEVER THE INPUT: true; the input reads as it did. -/
def satSwappedSpec : ChangeSpec := { name := "satSwapped", fn := fun _ => fun
  | [d1, d2, d3, d4] => { results := [.lit (.bool true)], args := [d1, d2, d3, d4] }
  | _ => none }
def satSwappedRow : OpenClaim := { program := "ytmkmmblgmldilaa", sum := "4cfca1ba7d0f0f39000f362f01f62efa7ab9c42d630ec3fb1d99d484fe4acd27", func := "tourney/tourkeep2.SatSwapped", spec := "satSwapped", inPlace := ["math/bits.Sub64", "math/bits.Add64"], unfollowed := true, recurses := true, named := ["math/bits.divideError", "math/bits.overflowError"], apart := false }
def SatSwappedSaid : Prop := satSwappedRow.holds Try.pinned (OpenSpec.ofChange satSwappedSpec)

/-- ITS FALSE NEIGHBOUR: 'it returns false'. Refute it at one input. -/
def satSwappedWrong : ChangeSpec := { name := "satSwapped", fn := fun _ => fun
  | [d1, d2, d3, d4] => { results := [.lit (.bool false)], args := [d1, d2, d3, d4] }
  | _ => none }
def SatSwappedWrongFalsely : Prop := satSwappedRow.holds Try.pinned (OpenSpec.ofChange satSwappedWrong)

/-- 'tourkeep2.NearDifference': WHATEVER THE INPUT: true; the input reads as it did. -/
def nearDifferenceSpec : ChangeSpec := { name := "nearDifference", fn := fun _ => fun
  | [d1, d2, d3, d4] => { results := [.lit (.bool true)], args := [d1, d2, d3, d4] }
  | _ => none }
def nearDifferenceRow : OpenClaim := { program := "ytmkmmblgmldilaa", sum := "4cfca1ba7d0f0f39000f362f01f62efa7ab9c42d630ec3fb1d99d484fe4acd27", func := "tourney/tourkeep2.NearDifference", spec := "nearDifference", inPlace := ["math/bits.Sub64", "math/bits.Add64"], unfollowed := true, recurses := true, named := ["math/bits.divideError", "math/bits.overflowError"], apart := false }
def NearDifferenceSaid : Prop := nearDifferenceRow.holds Try.pinned (OpenSpec.ofChange nearDifferenceSpec)

/-- ITS FALSE NEIGHBOUR: 'it returns false'. Refute it at one input. -/
def nearDifferenceWrong : ChangeSpec := { name := "nearDifference", fn := fun _ => fun
  | [d1, d2, d3, d4] => { results := [.lit (.bool false)], args := [d1, d2, d3, d4] }
  | _ => none }
def NearDifferenceWrongFalsely : Prop := nearDifferenceRow.holds Try.pinned (OpenSpec.ofChange nearDifferenceWrong)

/-- 'tourkeep2.SweepJoins': WHATEVER THE INPUT: true; the input reads as it did. -/
def sweepJoinsSpec : ChangeSpec := { name := "sweepJoins", fn := fun _ => fun
  | [d] => { results := [.lit (.bool true)], args := [d] }
  | _ => none }
def sweepJoinsRow : OpenClaim := { program := "ytmkmmblgmldilaa", sum := "4cfca1ba7d0f0f39000f362f01f62efa7ab9c42d630ec3fb1d99d484fe4acd27", func := "tourney/tourkeep2.SweepJoins", spec := "sweepJoins", unfollowed := true, recurses := true, apart := false }
def SweepJoinsSaid : Prop := sweepJoinsRow.holds Try.pinned (OpenSpec.ofChange sweepJoinsSpec)

/-- ITS FALSE NEIGHBOUR: 'it returns false'. Refute it at one input. -/
def sweepJoinsWrong : ChangeSpec := { name := "sweepJoins", fn := fun _ => fun
  | [d] => { results := [.lit (.bool false)], args := [d] }
  | _ => none }
def SweepJoinsWrongFalsely : Prop := sweepJoinsRow.holds Try.pinned (OpenSpec.ofChange sweepJoinsWrong)

/-- 'tourkeep2.SatApart': WHATEVER THE INPUT: true; the input reads as it did. -/
def satApartSpec : ChangeSpec := { name := "satApart", fn := fun _ => fun
  | [d1, d2, d3, d4] => { results := [.lit (.bool true)], args := [d1, d2, d3, d4] }
  | _ => none }
def satApartRow : OpenClaim := { program := "ytmkmmblgmldilaa", sum := "4cfca1ba7d0f0f39000f362f01f62efa7ab9c42d630ec3fb1d99d484fe4acd27", func := "tourney/tourkeep2.SatApart", spec := "satApart", inPlace := ["math/bits.Sub64", "math/bits.Add64"], unfollowed := true, recurses := true, named := ["math/bits.divideError", "math/bits.overflowError"], apart := false }
def SatApartSaid : Prop := satApartRow.holds Try.pinned (OpenSpec.ofChange satApartSpec)

/-- ITS FALSE NEIGHBOUR: 'it returns false'. Refute it at one input. -/
def satApartWrong : ChangeSpec := { name := "satApart", fn := fun _ => fun
  | [d1, d2, d3, d4] => { results := [.lit (.bool false)], args := [d1, d2, d3, d4] }
  | _ => none }
def SatApartWrongFalsely : Prop := satApartRow.holds Try.pinned (OpenSpec.ofChange satApartWrong)

/- THE SECOND FORM. 'bulk': how many values and letters a reading holds, each counted each time it is reached (what is shared counts as often as it is met; a slice's spare places count too). A statement '..UptoSaid' is the law's where the arguments, and the package variables that the reading takes, are together of bulk at most 1048576: NARROWER than '..Said'. Prove '..Said' where nothing that the law and all that it calls make is longer than what came in: it says more and counts as full. Else prove '..UptoSaid'. A law counts once. -/
mutual
def uptoBulk {H : Type} : DataW H → Nat
  | .lit (.string bytes) => bytes.length + 1
  | .lit _ => 1
  | .nil => 1
  | .ptr d => uptoBulk d + 1
  | .slice elems spare => uptoBulkAll elems + uptoBulkAll spare + 1
  | .agg parts => uptoBulkAll parts + 1
  | .iface _ d => uptoBulk d + 1
  | .map entries => uptoBulkEntries entries + 1
  | .held _ => 1
def uptoBulkAll {H : Type} : List (DataW H) → Nat
  | [] => 0
  | d :: r => uptoBulk d + uptoBulkAll r
def uptoBulkEntries {H : Type} : List (Lit × DataW H) → Nat
  | [] => 0
  | x :: r => uptoBulkEntry x + uptoBulkEntries r
def uptoBulkEntry {H : Type} : Lit × DataW H → Nat
  | (.string bytes, d) => bytes.length + uptoBulk d + 1
  | (_, d) => uptoBulk d + 1
 end
def uptoSmall : (H : Type) → List (DataW H) → Bool := fun _ ds => decide (uptoBulkAll ds ≤ 1048576)
def OpenSpec.upto (s : _root_.Go.ChangeSpec) : _root_.Go.OpenSpec := { _root_.Go.OpenSpec.ofChange s with cond := some uptoSmall }

/-- 'tourlaw2.NearSays', WHERE WHAT IT READS IS OF BULK AT MOST 1048576: true; the input reads as it did. -/
def nearSaysUptoRow : OpenClaim := { program := "ytmkmmblgmldilaa", sum := "4cfca1ba7d0f0f39000f362f01f62efa7ab9c42d630ec3fb1d99d484fe4acd27", func := "tourney/tourlaw2.NearSays", spec := "nearSays", unfollowed := true, recurses := true, apart := false, narrowed := true }
def NearSaysUptoSaid : Prop := nearSaysUptoRow.holds Try.pinned (OpenSpec.upto nearSaysSpec)

/-- 'tourkeep2.BodyPushBack', WHERE WHAT IT READS IS OF BULK AT MOST 1048576: true; the input reads as it did. -/
def bodyPushBackUptoRow : OpenClaim := { program := "ytmkmmblgmldilaa", sum := "4cfca1ba7d0f0f39000f362f01f62efa7ab9c42d630ec3fb1d99d484fe4acd27", func := "tourney/tourkeep2.BodyPushBack", spec := "bodyPushBack", unfollowed := true, recurses := true, named := ["math/bits.divideError", "math/bits.overflowError"], apart := false, narrowed := true }
def BodyPushBackUptoSaid : Prop := bodyPushBackUptoRow.holds Try.pinned (OpenSpec.upto bodyPushBackSpec)

/-- 'tourkeep2.BodySpins', WHERE WHAT IT READS IS OF BULK AT MOST 1048576: true; the input reads as it did. -/
def bodySpinsUptoRow : OpenClaim := { program := "ytmkmmblgmldilaa", sum := "4cfca1ba7d0f0f39000f362f01f62efa7ab9c42d630ec3fb1d99d484fe4acd27", func := "tourney/tourkeep2.BodySpins", spec := "bodySpins", unfollowed := true, recurses := true, named := ["math/bits.divideError", "math/bits.overflowError"], apart := false, narrowed := true }
def BodySpinsUptoSaid : Prop := bodySpinsUptoRow.holds Try.pinned (OpenSpec.upto bodySpinsSpec)

/-- 'tourlaw2.BodyPushes', WHERE WHAT IT READS IS OF BULK AT MOST 1048576: true; the input reads as it did. -/
def bodyPushesUptoRow : OpenClaim := { program := "ytmkmmblgmldilaa", sum := "4cfca1ba7d0f0f39000f362f01f62efa7ab9c42d630ec3fb1d99d484fe4acd27", func := "tourney/tourlaw2.BodyPushes", spec := "bodyPushes", unfollowed := true, recurses := true, named := ["math/bits.divideError", "math/bits.overflowError"], apart := false, narrowed := true }
def BodyPushesUptoSaid : Prop := bodyPushesUptoRow.holds Try.pinned (OpenSpec.upto bodyPushesSpec)

/-- 'tourlaw2.SatSays', WHERE WHAT IT READS IS OF BULK AT MOST 1048576: true; the input reads as it did. -/
def satSaysUptoRow : OpenClaim := { program := "ytmkmmblgmldilaa", sum := "4cfca1ba7d0f0f39000f362f01f62efa7ab9c42d630ec3fb1d99d484fe4acd27", func := "tourney/tourlaw2.SatSays", spec := "satSays", inPlace := ["math/bits.Sub64", "math/bits.Add64"], unfollowed := true, recurses := true, named := ["math/bits.divideError", "math/bits.overflowError"], apart := false, narrowed := true }
def SatSaysUptoSaid : Prop := satSaysUptoRow.holds Try.pinned (OpenSpec.upto satSaysSpec)

/-- 'tourkeep2.BodyPlaced', WHERE WHAT IT READS IS OF BULK AT MOST 1048576: true; the input reads as it did. -/
def bodyPlacedUptoRow : OpenClaim := { program := "ytmkmmblgmldilaa", sum := "4cfca1ba7d0f0f39000f362f01f62efa7ab9c42d630ec3fb1d99d484fe4acd27", func := "tourney/tourkeep2.BodyPlaced", spec := "bodyPlaced", unfollowed := true, recurses := true, named := ["math/bits.divideError", "math/bits.overflowError"], apart := false, narrowed := true }
def BodyPlacedUptoSaid : Prop := bodyPlacedUptoRow.holds Try.pinned (OpenSpec.upto bodyPlacedSpec)

/-- 'tourlaw2.BodyChecks', WHERE WHAT IT READS IS OF BULK AT MOST 1048576: true; the input reads as it did. -/
def bodyChecksUptoRow : OpenClaim := { program := "ytmkmmblgmldilaa", sum := "4cfca1ba7d0f0f39000f362f01f62efa7ab9c42d630ec3fb1d99d484fe4acd27", func := "tourney/tourlaw2.BodyChecks", spec := "bodyChecks", unfollowed := true, recurses := true, named := ["math/bits.divideError", "math/bits.overflowError"], apart := false, narrowed := true }
def BodyChecksUptoSaid : Prop := bodyChecksUptoRow.holds Try.pinned (OpenSpec.upto bodyChecksSpec)

/-- 'tourkeep2.SatMoved', WHERE WHAT IT READS IS OF BULK AT MOST 1048576: true; the input reads as it did. -/
def satMovedUptoRow : OpenClaim := { program := "ytmkmmblgmldilaa", sum := "4cfca1ba7d0f0f39000f362f01f62efa7ab9c42d630ec3fb1d99d484fe4acd27", func := "tourney/tourkeep2.SatMoved", spec := "satMoved", inPlace := ["math/bits.Sub64", "math/bits.Add64"], unfollowed := true, recurses := true, named := ["math/bits.divideError", "math/bits.overflowError"], apart := false, narrowed := true }
def SatMovedUptoSaid : Prop := satMovedUptoRow.holds Try.pinned (OpenSpec.upto satMovedSpec)

/-- 'tourkeep2.SatSwapped', WHERE WHAT IT READS IS OF BULK AT MOST 1048576: true; the input reads as it did. -/
def satSwappedUptoRow : OpenClaim := { program := "ytmkmmblgmldilaa", sum := "4cfca1ba7d0f0f39000f362f01f62efa7ab9c42d630ec3fb1d99d484fe4acd27", func := "tourney/tourkeep2.SatSwapped", spec := "satSwapped", inPlace := ["math/bits.Sub64", "math/bits.Add64"], unfollowed := true, recurses := true, named := ["math/bits.divideError", "math/bits.overflowError"], apart := false, narrowed := true }
def SatSwappedUptoSaid : Prop := satSwappedUptoRow.holds Try.pinned (OpenSpec.upto satSwappedSpec)

/-- 'tourkeep2.NearDifference', WHERE WHAT IT READS IS OF BULK AT MOST 1048576: true; the input reads as it did. -/
def nearDifferenceUptoRow : OpenClaim := { program := "ytmkmmblgmldilaa", sum := "4cfca1ba7d0f0f39000f362f01f62efa7ab9c42d630ec3fb1d99d484fe4acd27", func := "tourney/tourkeep2.NearDifference", spec := "nearDifference", inPlace := ["math/bits.Sub64", "math/bits.Add64"], unfollowed := true, recurses := true, named := ["math/bits.divideError", "math/bits.overflowError"], apart := false, narrowed := true }
def NearDifferenceUptoSaid : Prop := nearDifferenceUptoRow.holds Try.pinned (OpenSpec.upto nearDifferenceSpec)

/-- 'tourkeep2.SweepJoins', WHERE WHAT IT READS IS OF BULK AT MOST 1048576: true; the input reads as it did. -/
def sweepJoinsUptoRow : OpenClaim := { program := "ytmkmmblgmldilaa", sum := "4cfca1ba7d0f0f39000f362f01f62efa7ab9c42d630ec3fb1d99d484fe4acd27", func := "tourney/tourkeep2.SweepJoins", spec := "sweepJoins", unfollowed := true, recurses := true, apart := false, narrowed := true }
def SweepJoinsUptoSaid : Prop := sweepJoinsUptoRow.holds Try.pinned (OpenSpec.upto sweepJoinsSpec)

/-- 'tourkeep2.SatApart', WHERE WHAT IT READS IS OF BULK AT MOST 1048576: true; the input reads as it did. -/
def satApartUptoRow : OpenClaim := { program := "ytmkmmblgmldilaa", sum := "4cfca1ba7d0f0f39000f362f01f62efa7ab9c42d630ec3fb1d99d484fe4acd27", func := "tourney/tourkeep2.SatApart", spec := "satApart", inPlace := ["math/bits.Sub64", "math/bits.Add64"], unfollowed := true, recurses := true, named := ["math/bits.divideError", "math/bits.overflowError"], apart := false, narrowed := true }
def SatApartUptoSaid : Prop := satApartUptoRow.holds Try.pinned (OpenSpec.upto satApartSpec)

end Rows
end Go.Proofs.Ytmkmmblgmldilaa
