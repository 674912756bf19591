/-
  No cell of these rows narrows 'for every input' (looked for: loops, veiled, ifaces, maps, wideKeys, modest, calm, conditions, laid).
  DERIVED. THE GIVEN ROWS OF THIS SEAT. 5 by the template 'for every input the law returns true; each argument reads behind the call as it read before'; 0 by the template 'total and deterministic' (their statements: YtokgmcomgflloaaGreatTotals.lean).
  GIVEN WITH THE SEED: the statements are not yours to turn. If you find one false, say at which input.
  Laid BY PROGRAM, IN A SANDBOX (cutbox-rows.mjs): the forced cells as the released guide's own fill.sh prints them over the translation ad38b4e8caa905c6… (all of the seat's roots in one cut). By AI agents, Wed Nov 11 2026. No macro, syntax, notation, axiom, sorry.
-/
import Derived.Test.YtokgmcomgflloaaGreatChecked
import GoSem.Claim
import GoSem.ClaimJoined
import GoSem.ClaimMapViews
import Derived.JoinedTies
import Derived.KernelRfl
namespace Go.Proofs.YtokgmcomgflloaaGreat
/- THE CELL 'sum', in the pinned program and in every row, IS THE sha256 OF THE DUMP (.gsa) THAT YtokgmcomgflloaaGreatProg.lean LOADS. Nothing in Lean hashes anything: it is a label: what it is worth is what the hold of that sum in a sandbox is worth. -/
noncomputable def Tryz.pinned : Pinned := { name := "ytokgmcomgflloaagreat", sum := "ad38b4e8caa905c6eebd37a08f7f3a0cfaf9a668579db5c39acae6536118b449", checked := Tryz.checked }
namespace Rows
def none {H : Type} : Left H := { results := [], args := [] }

/-- 'tourtop.TopSwings': WHATEVER THE INPUT: true; the input reads as it did. -/
def topSwingsSpec : ChangeSpec := { name := "topSwings", fn := fun _ => fun
  | [d1, d2, d3] => { results := [.lit (.bool true)], args := [d1, d2, d3] }
  | _ => none }
def topSwingsRow : OpenClaim := { program := "ytokgmcomgflloaagreat", sum := "ad38b4e8caa905c6eebd37a08f7f3a0cfaf9a668579db5c39acae6536118b449", func := "tourney/tourtop.TopSwings", spec := "topSwings", inPlace := ["math/bits.Add64", "math/bits.Sub64"], unfollowed := true, recurses := true, named := ["math/bits.divideError", "math/bits.overflowError"], apart := false }
def TopSwingsSaid : Prop := topSwingsRow.holds Tryz.pinned (OpenSpec.ofChange topSwingsSpec)

/-- ITS FALSE NEIGHBOUR: 'it returns false'. Refute it at one input. -/
def topSwingsWrong : ChangeSpec := { name := "topSwings", fn := fun _ => fun
  | [d1, d2, d3] => { results := [.lit (.bool false)], args := [d1, d2, d3] }
  | _ => none }
def TopSwingsWrongFalsely : Prop := topSwingsRow.holds Tryz.pinned (OpenSpec.ofChange topSwingsWrong)

/-- 'tourkeep2.PhysValid': WHATEVER THE INPUT: true; the input reads as it did. -/
def physValidSpec : ChangeSpec := { name := "physValid", fn := fun _ => fun
  | [d1, d2] => { results := [.lit (.bool true)], args := [d1, d2] }
  | _ => none }
def physValidRow : OpenClaim := { program := "ytokgmcomgflloaagreat", sum := "ad38b4e8caa905c6eebd37a08f7f3a0cfaf9a668579db5c39acae6536118b449", func := "tourney/tourkeep2.PhysValid", spec := "physValid", inPlace := ["math/bits.Sub64", "math/bits.Add64"], unfollowed := true, recurses := true, named := ["math/bits.divideError", "math/bits.overflowError"], apart := false }
def PhysValidSaid : Prop := physValidRow.holds Tryz.pinned (OpenSpec.ofChange physValidSpec)

/-- ITS FALSE NEIGHBOUR: 'it returns false'. Refute it at one input. -/
def physValidWrong : ChangeSpec := { name := "physValid", fn := fun _ => fun
  | [d1, d2] => { results := [.lit (.bool false)], args := [d1, d2] }
  | _ => none }
def PhysValidWrongFalsely : Prop := physValidRow.holds Tryz.pinned (OpenSpec.ofChange physValidWrong)

/-- 'tourkeep2.PhysAsleep': WHATEVER THE INPUT: true; the input reads as it did. -/
def physAsleepSpec : ChangeSpec := { name := "physAsleep", fn := fun _ => fun
  | [d] => { results := [.lit (.bool true)], args := [d] }
  | _ => none }
def physAsleepRow : OpenClaim := { program := "ytokgmcomgflloaagreat", sum := "ad38b4e8caa905c6eebd37a08f7f3a0cfaf9a668579db5c39acae6536118b449", func := "tourney/tourkeep2.PhysAsleep", spec := "physAsleep", inPlace := ["math/bits.Sub64", "math/bits.Add64"], unfollowed := true, recurses := true, named := ["math/bits.divideError", "math/bits.overflowError"], apart := false }
def PhysAsleepSaid : Prop := physAsleepRow.holds Tryz.pinned (OpenSpec.ofChange physAsleepSpec)

/-- ITS FALSE NEIGHBOUR: 'it returns false'. Refute it at one input. -/
def physAsleepWrong : ChangeSpec := { name := "physAsleep", fn := fun _ => fun
  | [d] => { results := [.lit (.bool false)], args := [d] }
  | _ => none }
def PhysAsleepWrongFalsely : Prop := physAsleepRow.holds Tryz.pinned (OpenSpec.ofChange physAsleepWrong)

/-- 'tourlaw2.PhysChecks': WHATEVER THE INPUT: true; the input reads as it did. -/
def physChecksSpec : ChangeSpec := { name := "physChecks", fn := fun _ => fun
  | [d] => { results := [.lit (.bool true)], args := [d] }
  | _ => none }
def physChecksRow : OpenClaim := { program := "ytokgmcomgflloaagreat", sum := "ad38b4e8caa905c6eebd37a08f7f3a0cfaf9a668579db5c39acae6536118b449", func := "tourney/tourlaw2.PhysChecks", spec := "physChecks", inPlace := ["math/bits.Sub64", "math/bits.Add64"], unfollowed := true, recurses := true, named := ["math/bits.divideError", "math/bits.overflowError"], apart := false }
def PhysChecksSaid : Prop := physChecksRow.holds Tryz.pinned (OpenSpec.ofChange physChecksSpec)

/-- ITS FALSE NEIGHBOUR: 'it returns false'. Refute it at one input. -/
def physChecksWrong : ChangeSpec := { name := "physChecks", fn := fun _ => fun
  | [d] => { results := [.lit (.bool false)], args := [d] }
  | _ => none }
def PhysChecksWrongFalsely : Prop := physChecksRow.holds Tryz.pinned (OpenSpec.ofChange physChecksWrong)

/-- 'tourtop.TopPairs': WHATEVER THE INPUT: true; the input reads as it did. -/
def topPairsSpec : ChangeSpec := { name := "topPairs", fn := fun _ => fun
  | [d] => { results := [.lit (.bool true)], args := [d] }
  | _ => none }
def topPairsRow : OpenClaim := { program := "ytokgmcomgflloaagreat", sum := "ad38b4e8caa905c6eebd37a08f7f3a0cfaf9a668579db5c39acae6536118b449", func := "tourney/tourtop.TopPairs", spec := "topPairs", inPlace := ["math/bits.Add64", "math/bits.Sub64"], unfollowed := true, recurses := true, named := ["math/bits.divideError", "math/bits.overflowError"], apart := false }
def TopPairsSaid : Prop := topPairsRow.holds Tryz.pinned (OpenSpec.ofChange topPairsSpec)

/-- ITS FALSE NEIGHBOUR: 'it returns false'. Refute it at one input. -/
def topPairsWrong : ChangeSpec := { name := "topPairs", fn := fun _ => fun
  | [d] => { results := [.lit (.bool false)], args := [d] }
  | _ => none }
def TopPairsWrongFalsely : Prop := topPairsRow.holds Tryz.pinned (OpenSpec.ofChange topPairsWrong)

/- THE SECOND FORM. 'bulk': how many values and letters a reading holds, each counted each time it is reached (what is shared counts as often as it is met; a slice's spare places count too). A statement '..UptoSaid' is the law's where the arguments, and the package variables that the reading takes, are together of bulk at most 1048576: NARROWER than '..Said'. Prove '..Said' where nothing that the law and all that it calls make is longer than what came in: it says more and counts as full. Else prove '..UptoSaid'. A law counts once. -/
mutual
def uptoBulk {H : Type} : DataW H → Nat
  | .lit (.string bytes) => bytes.length + 1
  | .lit _ => 1
  | .nil => 1
  | .ptr d => uptoBulk d + 1
  | .slice elems spare => uptoBulkAll elems + uptoBulkAll spare + 1
  | .agg parts => uptoBulkAll parts + 1
  | .iface _ d => uptoBulk d + 1
  | .map entries => uptoBulkEntries entries + 1
  | .held _ => 1
def uptoBulkAll {H : Type} : List (DataW H) → Nat
  | [] => 0
  | d :: r => uptoBulk d + uptoBulkAll r
def uptoBulkEntries {H : Type} : List (Lit × DataW H) → Nat
  | [] => 0
  | x :: r => uptoBulkEntry x + uptoBulkEntries r
def uptoBulkEntry {H : Type} : Lit × DataW H → Nat
  | (.string bytes, d) => bytes.length + uptoBulk d + 1
  | (_, d) => uptoBulk d + 1
 end
def uptoSmall : (H : Type) → List (DataW H) → Bool := fun _ ds => decide (uptoBulkAll ds ≤ 1048576)
def OpenSpec.upto (s : _root_.Go.ChangeSpec) : _root_.Go.OpenSpec := { _root_.Go.OpenSpec.ofChange s with cond := some uptoSmall }

/-- 'tourtop.TopSwings', WHERE WHAT IT READS IS OF BULK AT MOST 1048576: true; the input reads as it did. -/
def topSwingsUptoRow : OpenClaim := { program := "ytokgmcomgflloaagreat", sum := "ad38b4e8caa905c6eebd37a08f7f3a0cfaf9a668579db5c39acae6536118b449", func := "tourney/tourtop.TopSwings", spec := "topSwings", inPlace := ["math/bits.Add64", "math/bits.Sub64"], unfollowed := true, recurses := true, named := ["math/bits.divideError", "math/bits.overflowError"], apart := false, narrowed := true }
def TopSwingsUptoSaid : Prop := topSwingsUptoRow.holds Tryz.pinned (OpenSpec.upto topSwingsSpec)

/-- 'tourkeep2.PhysValid', WHERE WHAT IT READS IS OF BULK AT MOST 1048576: true; the input reads as it did. -/
def physValidUptoRow : OpenClaim := { program := "ytokgmcomgflloaagreat", sum := "ad38b4e8caa905c6eebd37a08f7f3a0cfaf9a668579db5c39acae6536118b449", func := "tourney/tourkeep2.PhysValid", spec := "physValid", inPlace := ["math/bits.Sub64", "math/bits.Add64"], unfollowed := true, recurses := true, named := ["math/bits.divideError", "math/bits.overflowError"], apart := false, narrowed := true }
def PhysValidUptoSaid : Prop := physValidUptoRow.holds Tryz.pinned (OpenSpec.upto physValidSpec)

/-- 'tourkeep2.PhysAsleep', WHERE WHAT IT READS IS OF BULK AT MOST 1048576: true; the input reads as it did. -/
def physAsleepUptoRow : OpenClaim := { program := "ytokgmcomgflloaagreat", sum := "ad38b4e8caa905c6eebd37a08f7f3a0cfaf9a668579db5c39acae6536118b449", func := "tourney/tourkeep2.PhysAsleep", spec := "physAsleep", inPlace := ["math/bits.Sub64", "math/bits.Add64"], unfollowed := true, recurses := true, named := ["math/bits.divideError", "math/bits.overflowError"], apart := false, narrowed := true }
def PhysAsleepUptoSaid : Prop := physAsleepUptoRow.holds Tryz.pinned (OpenSpec.upto physAsleepSpec)

/-- 'tourlaw2.PhysChecks', WHERE WHAT IT READS IS OF BULK AT MOST 1048576: true; the input reads as it did. -/
def physChecksUptoRow : OpenClaim := { program := "ytokgmcomgflloaagreat", sum := "ad38b4e8caa905c6eebd37a08f7f3a0cfaf9a668579db5c39acae6536118b449", func := "tourney/tourlaw2.PhysChecks", spec := "physChecks", inPlace := ["math/bits.Sub64", "math/bits.Add64"], unfollowed := true, recurses := true, named := ["math/bits.divideError", "math/bits.overflowError"], apart := false, narrowed := true }
def PhysChecksUptoSaid : Prop := physChecksUptoRow.holds Tryz.pinned (OpenSpec.upto physChecksSpec)

/-- 'tourtop.TopPairs', WHERE WHAT IT READS IS OF BULK AT MOST 1048576: true; the input reads as it did. -/
def topPairsUptoRow : OpenClaim := { program := "ytokgmcomgflloaagreat", sum := "ad38b4e8caa905c6eebd37a08f7f3a0cfaf9a668579db5c39acae6536118b449", func := "tourney/tourtop.TopPairs", spec := "topPairs", inPlace := ["math/bits.Add64", "math/bits.Sub64"], unfollowed := true, recurses := true, named := ["math/bits.divideError", "math/bits.overflowError"], apart := false, narrowed := true }
def TopPairsUptoSaid : Prop := topPairsUptoRow.holds Tryz.pinned (OpenSpec.upto topPairsSpec)

end Rows
end Go.Proofs.YtokgmcomgflloaaGreat
