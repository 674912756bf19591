/-
  No cell of these rows narrows 'for every input' (looked for: loops, veiled, ifaces, maps, wideKeys, modest, calm, conditions, laid).
  DERIVED. THE GIVEN ROWS OF THIS SEAT. 12 by the template 'for every input the law returns true; each argument reads behind the call as it read before'; 0 by the template 'total and deterministic' (their statements: YtjoodpjndpdjnaaTotals.lean).
  GIVEN WITH THE SEED: the statements are not yours to turn. If you find one false, say at which input.
  Laid BY PROGRAM, IN A SANDBOX (cutbox-rows.mjs): the forced cells as the released guide's own fill.sh prints them over the translation c2017435a80c37c0… (all of the seat's roots in one cut). By AI agents, Wed Nov 11 2026. No macro, syntax, notation, axiom, sorry.
-/
import Derived.Test.YtjoodpjndpdjnaaChecked
import GoSem.Claim
import GoSem.ClaimJoined
import GoSem.ClaimMapViews
import Derived.JoinedTies
import Derived.KernelRfl
namespace Go.Proofs.Ytjoodpjndpdjnaa
/- THE CELL 'sum', in the pinned program and in every row, IS THE sha256 OF THE DUMP (.gsa) THAT YtjoodpjndpdjnaaProg.lean LOADS. Nothing in Lean hashes anything: it is a label: what it is worth is what the hold of that sum in a sandbox is worth. -/
noncomputable def Try.pinned : Pinned := { name := "ytjoodpjndpdjnaa", sum := "c2017435a80c37c03b1bda8a261478ff78ffc0c1fbfb502e35013ccea66c8b45", checked := Try.checked }
namespace Rows
def none {H : Type} : Left H := { results := [], args := [] }

/-- 'tourlaw2.PolyChecks': WHATEVER THE INPUT: true; the input reads as it did. -/
def polyChecksSpec : ChangeSpec := { name := "polyChecks", fn := fun _ => fun
  | [d1, d2, d3] => { results := [.lit (.bool true)], args := [d1, d2, d3] }
  | _ => none }
def polyChecksRow : OpenClaim := { program := "ytjoodpjndpdjnaa", sum := "c2017435a80c37c03b1bda8a261478ff78ffc0c1fbfb502e35013ccea66c8b45", func := "tourney/tourlaw2.PolyChecks", spec := "polyChecks", inPlace := ["math/bits.Add64"], unfollowed := true, recurses := true, apart := false }
def PolyChecksSaid : Prop := polyChecksRow.holds Try.pinned (OpenSpec.ofChange polyChecksSpec)

/-- ITS FALSE NEIGHBOUR: 'it returns false'. Refute it at one input. -/
def polyChecksWrong : ChangeSpec := { name := "polyChecks", fn := fun _ => fun
  | [d1, d2, d3] => { results := [.lit (.bool false)], args := [d1, d2, d3] }
  | _ => none }
def PolyChecksWrongFalsely : Prop := polyChecksRow.holds Try.pinned (OpenSpec.ofChange polyChecksWrong)

/-- 'tourkeep2.PolySupports': WHATEVER THE INPUT: true; the input reads as it did. -/
def polySupportsSpec : ChangeSpec := { name := "polySupports", fn := fun _ => fun
  | [d1, d2, d3, d4, d5] => { results := [.lit (.bool true)], args := [d1, d2, d3, d4, d5] }
  | _ => none }
def polySupportsRow : OpenClaim := { program := "ytjoodpjndpdjnaa", sum := "c2017435a80c37c03b1bda8a261478ff78ffc0c1fbfb502e35013ccea66c8b45", func := "tourney/tourkeep2.PolySupports", spec := "polySupports", inPlace := ["math/bits.Add64"], unfollowed := true, recurses := true, apart := false }
def PolySupportsSaid : Prop := polySupportsRow.holds Try.pinned (OpenSpec.ofChange polySupportsSpec)

/-- ITS FALSE NEIGHBOUR: 'it returns false'. Refute it at one input. -/
def polySupportsWrong : ChangeSpec := { name := "polySupports", fn := fun _ => fun
  | [d1, d2, d3, d4, d5] => { results := [.lit (.bool false)], args := [d1, d2, d3, d4, d5] }
  | _ => none }
def PolySupportsWrongFalsely : Prop := polySupportsRow.holds Try.pinned (OpenSpec.ofChange polySupportsWrong)

/-- 'tourkeep2.PolyCut': WHATEVER THE INPUT: true; the input reads as it did. -/
def polyCutSpec : ChangeSpec := { name := "polyCut", fn := fun _ => fun
  | [d1, d2] => { results := [.lit (.bool true)], args := [d1, d2] }
  | _ => none }
def polyCutRow : OpenClaim := { program := "ytjoodpjndpdjnaa", sum := "c2017435a80c37c03b1bda8a261478ff78ffc0c1fbfb502e35013ccea66c8b45", func := "tourney/tourkeep2.PolyCut", spec := "polyCut", inPlace := ["math/bits.Add64"], unfollowed := true, recurses := true, apart := false }
def PolyCutSaid : Prop := polyCutRow.holds Try.pinned (OpenSpec.ofChange polyCutSpec)

/-- ITS FALSE NEIGHBOUR: 'it returns false'. Refute it at one input. -/
def polyCutWrong : ChangeSpec := { name := "polyCut", fn := fun _ => fun
  | [d1, d2] => { results := [.lit (.bool false)], args := [d1, d2] }
  | _ => none }
def PolyCutWrongFalsely : Prop := polyCutRow.holds Try.pinned (OpenSpec.ofChange polyCutWrong)

/-- 'tourkeep2.PolyWideRing': WHATEVER THE INPUT: true; the input reads as it did. -/
def polyWideRingSpec : ChangeSpec := { name := "polyWideRing", fn := fun _ => fun
  | [d1, d2, d3, d4, d5] => { results := [.lit (.bool true)], args := [d1, d2, d3, d4, d5] }
  | _ => none }
def polyWideRingRow : OpenClaim := { program := "ytjoodpjndpdjnaa", sum := "c2017435a80c37c03b1bda8a261478ff78ffc0c1fbfb502e35013ccea66c8b45", func := "tourney/tourkeep2.PolyWideRing", spec := "polyWideRing", inPlace := ["math/bits.Add64", "math/bits.Sub64"], named := ["math/bits.divideError", "math/bits.overflowError"], apart := false }
def PolyWideRingSaid : Prop := polyWideRingRow.holds Try.pinned (OpenSpec.ofChange polyWideRingSpec)

/-- ITS FALSE NEIGHBOUR: 'it returns false'. Refute it at one input. -/
def polyWideRingWrong : ChangeSpec := { name := "polyWideRing", fn := fun _ => fun
  | [d1, d2, d3, d4, d5] => { results := [.lit (.bool false)], args := [d1, d2, d3, d4, d5] }
  | _ => none }
def PolyWideRingWrongFalsely : Prop := polyWideRingRow.holds Try.pinned (OpenSpec.ofChange polyWideRingWrong)

/-- 'tourlaw2.PolyWide': WHATEVER THE INPUT: true; the input reads as it did. -/
def polyWideSpec : ChangeSpec := { name := "polyWide", fn := fun _ => fun
  | [d1, d2, d3, d4, d5] => { results := [.lit (.bool true)], args := [d1, d2, d3, d4, d5] }
  | _ => none }
def polyWideRow : OpenClaim := { program := "ytjoodpjndpdjnaa", sum := "c2017435a80c37c03b1bda8a261478ff78ffc0c1fbfb502e35013ccea66c8b45", func := "tourney/tourlaw2.PolyWide", spec := "polyWide", inPlace := ["math/bits.Add64", "math/bits.Sub64"], named := ["math/bits.divideError", "math/bits.overflowError"], apart := false }
def PolyWideSaid : Prop := polyWideRow.holds Try.pinned (OpenSpec.ofChange polyWideSpec)

/-- ITS FALSE NEIGHBOUR: 'it returns false'. Refute it at one input. -/
def polyWideWrong : ChangeSpec := { name := "polyWide", fn := fun _ => fun
  | [d1, d2, d3, d4, d5] => { results := [.lit (.bool false)], args := [d1, d2, d3, d4, d5] }
  | _ => none }
def PolyWideWrongFalsely : Prop := polyWideRow.holds Try.pinned (OpenSpec.ofChange polyWideWrong)

/-- 'tourlaw2.NearSays': WHATEVER THE INPUT: true; the input reads as it did. -/
def nearSaysSpec : ChangeSpec := { name := "nearSays", fn := fun _ => fun
  | [d1, d2] => { results := [.lit (.bool true)], args := [d1, d2] }
  | _ => none }
def nearSaysRow : OpenClaim := { program := "ytjoodpjndpdjnaa", sum := "c2017435a80c37c03b1bda8a261478ff78ffc0c1fbfb502e35013ccea66c8b45", func := "tourney/tourlaw2.NearSays", spec := "nearSays", unfollowed := true, recurses := true, apart := false }
def NearSaysSaid : Prop := nearSaysRow.holds Try.pinned (OpenSpec.ofChange nearSaysSpec)

/-- ITS FALSE NEIGHBOUR: 'it returns false'. Refute it at one input. -/
def nearSaysWrong : ChangeSpec := { name := "nearSays", fn := fun _ => fun
  | [d1, d2] => { results := [.lit (.bool false)], args := [d1, d2] }
  | _ => none }
def NearSaysWrongFalsely : Prop := nearSaysRow.holds Try.pinned (OpenSpec.ofChange nearSaysWrong)

/-- 'tourkeep2.MassDense': WHATEVER THE INPUT: true; the input reads as it did. -/
def massDenseSpec : ChangeSpec := { name := "massDense", fn := fun _ => fun
  | [d1, d2] => { results := [.lit (.bool true)], args := [d1, d2] }
  | _ => none }
def massDenseRow : OpenClaim := { program := "ytjoodpjndpdjnaa", sum := "c2017435a80c37c03b1bda8a261478ff78ffc0c1fbfb502e35013ccea66c8b45", func := "tourney/tourkeep2.MassDense", spec := "massDense", inPlace := ["math/bits.Add64", "math/bits.Sub64"], unfollowed := true, recurses := true, named := ["math/bits.divideError", "math/bits.overflowError"], apart := false }
def MassDenseSaid : Prop := massDenseRow.holds Try.pinned (OpenSpec.ofChange massDenseSpec)

/-- ITS FALSE NEIGHBOUR: 'it returns false'. Refute it at one input. -/
def massDenseWrong : ChangeSpec := { name := "massDense", fn := fun _ => fun
  | [d1, d2] => { results := [.lit (.bool false)], args := [d1, d2] }
  | _ => none }
def MassDenseWrongFalsely : Prop := massDenseRow.holds Try.pinned (OpenSpec.ofChange massDenseWrong)

/-- 'tourkeep2.MassMoved': WHATEVER THE INPUT: true; the input reads as it did. -/
def massMovedSpec : ChangeSpec := { name := "massMoved", fn := fun _ => fun
  | [d1, d2, d3, d4] => { results := [.lit (.bool true)], args := [d1, d2, d3, d4] }
  | _ => none }
def massMovedRow : OpenClaim := { program := "ytjoodpjndpdjnaa", sum := "c2017435a80c37c03b1bda8a261478ff78ffc0c1fbfb502e35013ccea66c8b45", func := "tourney/tourkeep2.MassMoved", spec := "massMoved", inPlace := ["math/bits.Add64", "math/bits.Sub64"], unfollowed := true, recurses := true, named := ["math/bits.divideError", "math/bits.overflowError"], apart := false }
def MassMovedSaid : Prop := massMovedRow.holds Try.pinned (OpenSpec.ofChange massMovedSpec)

/-- ITS FALSE NEIGHBOUR: 'it returns false'. Refute it at one input. -/
def massMovedWrong : ChangeSpec := { name := "massMoved", fn := fun _ => fun
  | [d1, d2, d3, d4] => { results := [.lit (.bool false)], args := [d1, d2, d3, d4] }
  | _ => none }
def MassMovedWrongFalsely : Prop := massMovedRow.holds Try.pinned (OpenSpec.ofChange massMovedWrong)

/-- 'tourlaw2.MassSays': WHATEVER THE INPUT: true; the input reads as it did. -/
def massSaysSpec : ChangeSpec := { name := "massSays", fn := fun _ => fun
  | [d1, d2] => { results := [.lit (.bool true)], args := [d1, d2] }
  | _ => none }
def massSaysRow : OpenClaim := { program := "ytjoodpjndpdjnaa", sum := "c2017435a80c37c03b1bda8a261478ff78ffc0c1fbfb502e35013ccea66c8b45", func := "tourney/tourlaw2.MassSays", spec := "massSays", inPlace := ["math/bits.Add64", "math/bits.Sub64"], unfollowed := true, recurses := true, named := ["math/bits.divideError", "math/bits.overflowError"], apart := false }
def MassSaysSaid : Prop := massSaysRow.holds Try.pinned (OpenSpec.ofChange massSaysSpec)

/-- ITS FALSE NEIGHBOUR: 'it returns false'. Refute it at one input. -/
def massSaysWrong : ChangeSpec := { name := "massSays", fn := fun _ => fun
  | [d1, d2] => { results := [.lit (.bool false)], args := [d1, d2] }
  | _ => none }
def MassSaysWrongFalsely : Prop := massSaysRow.holds Try.pinned (OpenSpec.ofChange massSaysWrong)

/-- 'tourkeep2.BodyPushBack': WHATEVER THE INPUT: true; the input reads as it did. -/
def bodyPushBackSpec : ChangeSpec := { name := "bodyPushBack", fn := fun _ => fun
  | [d1, d2, d3, d4, d5] => { results := [.lit (.bool true)], args := [d1, d2, d3, d4, d5] }
  | _ => none }
def bodyPushBackRow : OpenClaim := { program := "ytjoodpjndpdjnaa", sum := "c2017435a80c37c03b1bda8a261478ff78ffc0c1fbfb502e35013ccea66c8b45", func := "tourney/tourkeep2.BodyPushBack", spec := "bodyPushBack", unfollowed := true, recurses := true, named := ["math/bits.divideError", "math/bits.overflowError"], apart := false }
def BodyPushBackSaid : Prop := bodyPushBackRow.holds Try.pinned (OpenSpec.ofChange bodyPushBackSpec)

/-- ITS FALSE NEIGHBOUR: 'it returns false'. Refute it at one input. -/
def bodyPushBackWrong : ChangeSpec := { name := "bodyPushBack", fn := fun _ => fun
  | [d1, d2, d3, d4, d5] => { results := [.lit (.bool false)], args := [d1, d2, d3, d4, d5] }
  | _ => none }
def BodyPushBackWrongFalsely : Prop := bodyPushBackRow.holds Try.pinned (OpenSpec.ofChange bodyPushBackWrong)

/-- 'tourkeep2.BodySpins': WHATEVER THE INPUT: true; the input reads as it did. -/
def bodySpinsSpec : ChangeSpec := { name := "bodySpins", fn := fun _ => fun
  | [d1, d2, d3] => { results := [.lit (.bool true)], args := [d1, d2, d3] }
  | _ => none }
def bodySpinsRow : OpenClaim := { program := "ytjoodpjndpdjnaa", sum := "c2017435a80c37c03b1bda8a261478ff78ffc0c1fbfb502e35013ccea66c8b45", func := "tourney/tourkeep2.BodySpins", spec := "bodySpins", unfollowed := true, recurses := true, named := ["math/bits.divideError", "math/bits.overflowError"], apart := false }
def BodySpinsSaid : Prop := bodySpinsRow.holds Try.pinned (OpenSpec.ofChange bodySpinsSpec)

/-- ITS FALSE NEIGHBOUR: 'it returns false'. Refute it at one input. -/
def bodySpinsWrong : ChangeSpec := { name := "bodySpins", fn := fun _ => fun
  | [d1, d2, d3] => { results := [.lit (.bool false)], args := [d1, d2, d3] }
  | _ => none }
def BodySpinsWrongFalsely : Prop := bodySpinsRow.holds Try.pinned (OpenSpec.ofChange bodySpinsWrong)

/-- 'tourkeep2.BodyStill': WHATEVER THE INPUT: true; the input reads as it did. -/
def bodyStillSpec : ChangeSpec := { name := "bodyStill", fn := fun _ => fun
  | [d1, d2, d3, d4] => { results := [.lit (.bool true)], args := [d1, d2, d3, d4] }
  | _ => none }
def bodyStillRow : OpenClaim := { program := "ytjoodpjndpdjnaa", sum := "c2017435a80c37c03b1bda8a261478ff78ffc0c1fbfb502e35013ccea66c8b45", func := "tourney/tourkeep2.BodyStill", spec := "bodyStill", unfollowed := true, recurses := true, named := ["math/bits.divideError", "math/bits.overflowError"], apart := false }
def BodyStillSaid : Prop := bodyStillRow.holds Try.pinned (OpenSpec.ofChange bodyStillSpec)

/-- ITS FALSE NEIGHBOUR: 'it returns false'. Refute it at one input. -/
def bodyStillWrong : ChangeSpec := { name := "bodyStill", fn := fun _ => fun
  | [d1, d2, d3, d4] => { results := [.lit (.bool false)], args := [d1, d2, d3, d4] }
  | _ => none }
def BodyStillWrongFalsely : Prop := bodyStillRow.holds Try.pinned (OpenSpec.ofChange bodyStillWrong)

/- THE SECOND FORM. 'bulk': how many values and letters a reading holds, each counted each time it is reached (what is shared counts as often as it is met; a slice's spare places count too). A statement '..UptoSaid' is the law's where the arguments, and the package variables that the reading takes, are together of bulk at most 1048576: NARROWER than '..Said'. Prove '..Said' where nothing that the law and all that it calls make is longer than what came in: it says more and counts as full. Else prove '..UptoSaid'. A law counts once. -/
mutual
def uptoBulk {H : Type} : DataW H → Nat
  | .lit (.string bytes) => bytes.length + 1
  | .lit _ => 1
  | .nil => 1
  | .ptr d => uptoBulk d + 1
  | .slice elems spare => uptoBulkAll elems + uptoBulkAll spare + 1
  | .agg parts => uptoBulkAll parts + 1
  | .iface _ d => uptoBulk d + 1
  | .map entries => uptoBulkEntries entries + 1
  | .held _ => 1
def uptoBulkAll {H : Type} : List (DataW H) → Nat
  | [] => 0
  | d :: r => uptoBulk d + uptoBulkAll r
def uptoBulkEntries {H : Type} : List (Lit × DataW H) → Nat
  | [] => 0
  | x :: r => uptoBulkEntry x + uptoBulkEntries r
def uptoBulkEntry {H : Type} : Lit × DataW H → Nat
  | (.string bytes, d) => bytes.length + uptoBulk d + 1
  | (_, d) => uptoBulk d + 1
 end
def uptoSmall : (H : Type) → List (DataW H) → Bool := fun _ ds => decide (uptoBulkAll ds ≤ 1048576)
def OpenSpec.upto (s : _root_.Go.ChangeSpec) : _root_.Go.OpenSpec := { _root_.Go.OpenSpec.ofChange s with cond := some uptoSmall }

/-- 'tourlaw2.PolyChecks', WHERE WHAT IT READS IS OF BULK AT MOST 1048576: true; the input reads as it did. -/
def polyChecksUptoRow : OpenClaim := { program := "ytjoodpjndpdjnaa", sum := "c2017435a80c37c03b1bda8a261478ff78ffc0c1fbfb502e35013ccea66c8b45", func := "tourney/tourlaw2.PolyChecks", spec := "polyChecks", inPlace := ["math/bits.Add64"], unfollowed := true, recurses := true, apart := false, narrowed := true }
def PolyChecksUptoSaid : Prop := polyChecksUptoRow.holds Try.pinned (OpenSpec.upto polyChecksSpec)

/-- 'tourkeep2.PolySupports', WHERE WHAT IT READS IS OF BULK AT MOST 1048576: true; the input reads as it did. -/
def polySupportsUptoRow : OpenClaim := { program := "ytjoodpjndpdjnaa", sum := "c2017435a80c37c03b1bda8a261478ff78ffc0c1fbfb502e35013ccea66c8b45", func := "tourney/tourkeep2.PolySupports", spec := "polySupports", inPlace := ["math/bits.Add64"], unfollowed := true, recurses := true, apart := false, narrowed := true }
def PolySupportsUptoSaid : Prop := polySupportsUptoRow.holds Try.pinned (OpenSpec.upto polySupportsSpec)

/-- 'tourkeep2.PolyCut', WHERE WHAT IT READS IS OF BULK AT MOST 1048576: true; the input reads as it did. -/
def polyCutUptoRow : OpenClaim := { program := "ytjoodpjndpdjnaa", sum := "c2017435a80c37c03b1bda8a261478ff78ffc0c1fbfb502e35013ccea66c8b45", func := "tourney/tourkeep2.PolyCut", spec := "polyCut", inPlace := ["math/bits.Add64"], unfollowed := true, recurses := true, apart := false, narrowed := true }
def PolyCutUptoSaid : Prop := polyCutUptoRow.holds Try.pinned (OpenSpec.upto polyCutSpec)

/-- 'tourkeep2.PolyWideRing', WHERE WHAT IT READS IS OF BULK AT MOST 1048576: true; the input reads as it did. -/
def polyWideRingUptoRow : OpenClaim := { program := "ytjoodpjndpdjnaa", sum := "c2017435a80c37c03b1bda8a261478ff78ffc0c1fbfb502e35013ccea66c8b45", func := "tourney/tourkeep2.PolyWideRing", spec := "polyWideRing", inPlace := ["math/bits.Add64", "math/bits.Sub64"], named := ["math/bits.divideError", "math/bits.overflowError"], apart := false, narrowed := true }
def PolyWideRingUptoSaid : Prop := polyWideRingUptoRow.holds Try.pinned (OpenSpec.upto polyWideRingSpec)

/-- 'tourlaw2.PolyWide', WHERE WHAT IT READS IS OF BULK AT MOST 1048576: true; the input reads as it did. -/
def polyWideUptoRow : OpenClaim := { program := "ytjoodpjndpdjnaa", sum := "c2017435a80c37c03b1bda8a261478ff78ffc0c1fbfb502e35013ccea66c8b45", func := "tourney/tourlaw2.PolyWide", spec := "polyWide", inPlace := ["math/bits.Add64", "math/bits.Sub64"], named := ["math/bits.divideError", "math/bits.overflowError"], apart := false, narrowed := true }
def PolyWideUptoSaid : Prop := polyWideUptoRow.holds Try.pinned (OpenSpec.upto polyWideSpec)

/-- 'tourlaw2.NearSays', WHERE WHAT IT READS IS OF BULK AT MOST 1048576: true; the input reads as it did. -/
def nearSaysUptoRow : OpenClaim := { program := "ytjoodpjndpdjnaa", sum := "c2017435a80c37c03b1bda8a261478ff78ffc0c1fbfb502e35013ccea66c8b45", func := "tourney/tourlaw2.NearSays", spec := "nearSays", unfollowed := true, recurses := true, apart := false, narrowed := true }
def NearSaysUptoSaid : Prop := nearSaysUptoRow.holds Try.pinned (OpenSpec.upto nearSaysSpec)

/-- 'tourkeep2.MassDense', WHERE WHAT IT READS IS OF BULK AT MOST 1048576: true; the input reads as it did. -/
def massDenseUptoRow : OpenClaim := { program := "ytjoodpjndpdjnaa", sum := "c2017435a80c37c03b1bda8a261478ff78ffc0c1fbfb502e35013ccea66c8b45", func := "tourney/tourkeep2.MassDense", spec := "massDense", inPlace := ["math/bits.Add64", "math/bits.Sub64"], unfollowed := true, recurses := true, named := ["math/bits.divideError", "math/bits.overflowError"], apart := false, narrowed := true }
def MassDenseUptoSaid : Prop := massDenseUptoRow.holds Try.pinned (OpenSpec.upto massDenseSpec)

/-- 'tourkeep2.MassMoved', WHERE WHAT IT READS IS OF BULK AT MOST 1048576: true; the input reads as it did. -/
def massMovedUptoRow : OpenClaim := { program := "ytjoodpjndpdjnaa", sum := "c2017435a80c37c03b1bda8a261478ff78ffc0c1fbfb502e35013ccea66c8b45", func := "tourney/tourkeep2.MassMoved", spec := "massMoved", inPlace := ["math/bits.Add64", "math/bits.Sub64"], unfollowed := true, recurses := true, named := ["math/bits.divideError", "math/bits.overflowError"], apart := false, narrowed := true }
def MassMovedUptoSaid : Prop := massMovedUptoRow.holds Try.pinned (OpenSpec.upto massMovedSpec)

/-- 'tourlaw2.MassSays', WHERE WHAT IT READS IS OF BULK AT MOST 1048576: true; the input reads as it did. -/
def massSaysUptoRow : OpenClaim := { program := "ytjoodpjndpdjnaa", sum := "c2017435a80c37c03b1bda8a261478ff78ffc0c1fbfb502e35013ccea66c8b45", func := "tourney/tourlaw2.MassSays", spec := "massSays", inPlace := ["math/bits.Add64", "math/bits.Sub64"], unfollowed := true, recurses := true, named := ["math/bits.divideError", "math/bits.overflowError"], apart := false, narrowed := true }
def MassSaysUptoSaid : Prop := massSaysUptoRow.holds Try.pinned (OpenSpec.upto massSaysSpec)

/-- 'tourkeep2.BodyPushBack', WHERE WHAT IT READS IS OF BULK AT MOST 1048576: true; the input reads as it did. -/
def bodyPushBackUptoRow : OpenClaim := { program := "ytjoodpjndpdjnaa", sum := "c2017435a80c37c03b1bda8a261478ff78ffc0c1fbfb502e35013ccea66c8b45", func := "tourney/tourkeep2.BodyPushBack", spec := "bodyPushBack", unfollowed := true, recurses := true, named := ["math/bits.divideError", "math/bits.overflowError"], apart := false, narrowed := true }
def BodyPushBackUptoSaid : Prop := bodyPushBackUptoRow.holds Try.pinned (OpenSpec.upto bodyPushBackSpec)

/-- 'tourkeep2.BodySpins', WHERE WHAT IT READS IS OF BULK AT MOST 1048576: true; the input reads as it did. -/
def bodySpinsUptoRow : OpenClaim := { program := "ytjoodpjndpdjnaa", sum := "c2017435a80c37c03b1bda8a261478ff78ffc0c1fbfb502e35013ccea66c8b45", func := "tourney/tourkeep2.BodySpins", spec := "bodySpins", unfollowed := true, recurses := true, named := ["math/bits.divideError", "math/bits.overflowError"], apart := false, narrowed := true }
def BodySpinsUptoSaid : Prop := bodySpinsUptoRow.holds Try.pinned (OpenSpec.upto bodySpinsSpec)

/-- 'tourkeep2.BodyStill', WHERE WHAT IT READS IS OF BULK AT MOST 1048576: true; the input reads as it did. -/
def bodyStillUptoRow : OpenClaim := { program := "ytjoodpjndpdjnaa", sum := "c2017435a80c37c03b1bda8a261478ff78ffc0c1fbfb502e35013ccea66c8b45", func := "tourney/tourkeep2.BodyStill", spec := "bodyStill", unfollowed := true, recurses := true, named := ["math/bits.divideError", "math/bits.overflowError"], apart := false, narrowed := true }
def BodyStillUptoSaid : Prop := bodyStillUptoRow.holds Try.pinned (OpenSpec.upto bodyStillSpec)

end Rows
end Go.Proofs.Ytjoodpjndpdjnaa
