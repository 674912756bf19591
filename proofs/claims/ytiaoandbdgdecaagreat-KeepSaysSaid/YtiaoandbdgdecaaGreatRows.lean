/-
  No cell of these rows narrows 'for every input' (looked for: loops, veiled, ifaces, maps, wideKeys, modest, calm, conditions, laid).
  DERIVED. THE GIVEN ROWS OF THIS SEAT. 4 by the template 'for every input the law returns true; each argument reads behind the call as it read before'; 0 by the template 'total and deterministic' (their statements: YtiaoandbdgdecaaGreatTotals.lean).
  GIVEN WITH THE SEED: the statements are not yours to turn. If you find one false, say at which input.
  Laid BY PROGRAM, IN A SANDBOX (cutbox-rows.mjs): the forced cells as the released guide's own fill.sh prints them over the translation a4ab867cdaa1905b… (all of the seat's roots in one cut). By AI agents, Wed Nov 11 2026. No macro, syntax, notation, axiom, sorry.
-/
import Derived.Test.YtiaoandbdgdecaaGreatChecked
import GoSem.Claim
import GoSem.ClaimJoined
import GoSem.ClaimMapViews
import Derived.JoinedTies
import Derived.KernelRfl
namespace Go.Proofs.YtiaoandbdgdecaaGreat
/- THE CELL 'sum', in the pinned program and in every row, IS THE sha256 OF THE DUMP (.gsa) THAT YtiaoandbdgdecaaGreatProg.lean LOADS. Nothing in Lean hashes anything: it is a label: what it is worth is what the hold of that sum in a sandbox is worth. -/
noncomputable def Tryz.pinned : Pinned := { name := "ytiaoandbdgdecaagreat", sum := "a4ab867cdaa1905b959fd898a6d9f7a311eca317c3f9d44576d41911e73981d6", checked := Tryz.checked }
namespace Rows
def none {H : Type} : Left H := { results := [], args := [] }

/-- 'tourkeep2.KeepCarried': WHATEVER THE INPUT: true; the input reads as it did. -/
def keepCarriedSpec : ChangeSpec := { name := "keepCarried", fn := fun _ => fun
  | [d1, d2] => { results := [.lit (.bool true)], args := [d1, d2] }
  | _ => none }
def keepCarriedRow : OpenClaim := { program := "ytiaoandbdgdecaagreat", sum := "a4ab867cdaa1905b959fd898a6d9f7a311eca317c3f9d44576d41911e73981d6", func := "tourney/tourkeep2.KeepCarried", spec := "keepCarried", inPlace := ["math/bits.Sub64", "math/bits.Add64"], unfollowed := true, recurses := true, named := ["math/bits.divideError", "math/bits.overflowError"], apart := false }
def KeepCarriedSaid : Prop := keepCarriedRow.holds Tryz.pinned (OpenSpec.ofChange keepCarriedSpec)

/-- ITS FALSE NEIGHBOUR: 'it returns false'. Refute it at one input. -/
def keepCarriedWrong : ChangeSpec := { name := "keepCarried", fn := fun _ => fun
  | [d1, d2] => { results := [.lit (.bool false)], args := [d1, d2] }
  | _ => none }
def KeepCarriedWrongFalsely : Prop := keepCarriedRow.holds Tryz.pinned (OpenSpec.ofChange keepCarriedWrong)

/-- 'tourlaw2.KeepSays': WHATEVER THE INPUT: true; the input reads as it did. -/
def keepSaysSpec : ChangeSpec := { name := "keepSays", fn := fun _ => fun
  | [d1, d2, d3] => { results := [.lit (.bool true)], args := [d1, d2, d3] }
  | _ => none }
def keepSaysRow : OpenClaim := { program := "ytiaoandbdgdecaagreat", sum := "a4ab867cdaa1905b959fd898a6d9f7a311eca317c3f9d44576d41911e73981d6", func := "tourney/tourlaw2.KeepSays", spec := "keepSays", inPlace := ["math/bits.Sub64", "math/bits.Add64"], unfollowed := true, recurses := true, named := ["math/bits.divideError", "math/bits.overflowError"], apart := false }
def KeepSaysSaid : Prop := keepSaysRow.holds Tryz.pinned (OpenSpec.ofChange keepSaysSpec)

/-- ITS FALSE NEIGHBOUR: 'it returns false'. Refute it at one input. -/
def keepSaysWrong : ChangeSpec := { name := "keepSays", fn := fun _ => fun
  | [d1, d2, d3] => { results := [.lit (.bool false)], args := [d1, d2, d3] }
  | _ => none }
def KeepSaysWrongFalsely : Prop := keepSaysRow.holds Tryz.pinned (OpenSpec.ofChange keepSaysWrong)

/-- 'tourkeep2.SolveSmooth': WHATEVER THE INPUT: true; the input reads as it did. -/
def solveSmoothSpec : ChangeSpec := { name := "solveSmooth", fn := fun _ => fun
  | [d1, d2] => { results := [.lit (.bool true)], args := [d1, d2] }
  | _ => none }
def solveSmoothRow : OpenClaim := { program := "ytiaoandbdgdecaagreat", sum := "a4ab867cdaa1905b959fd898a6d9f7a311eca317c3f9d44576d41911e73981d6", func := "tourney/tourkeep2.SolveSmooth", spec := "solveSmooth", inPlace := ["math/bits.Sub64", "math/bits.Add64"], unfollowed := true, recurses := true, named := ["math/bits.divideError", "math/bits.overflowError"], apart := false }
def SolveSmoothSaid : Prop := solveSmoothRow.holds Tryz.pinned (OpenSpec.ofChange solveSmoothSpec)

/-- ITS FALSE NEIGHBOUR: 'it returns false'. Refute it at one input. -/
def solveSmoothWrong : ChangeSpec := { name := "solveSmooth", fn := fun _ => fun
  | [d1, d2] => { results := [.lit (.bool false)], args := [d1, d2] }
  | _ => none }
def SolveSmoothWrongFalsely : Prop := solveSmoothRow.holds Tryz.pinned (OpenSpec.ofChange solveSmoothWrong)

/-- 'tourkeep2.SolveNothing': WHATEVER THE INPUT: true; the input reads as it did. -/
def solveNothingSpec : ChangeSpec := { name := "solveNothing", fn := fun _ => fun
  | [d1, d2] => { results := [.lit (.bool true)], args := [d1, d2] }
  | _ => none }
def solveNothingRow : OpenClaim := { program := "ytiaoandbdgdecaagreat", sum := "a4ab867cdaa1905b959fd898a6d9f7a311eca317c3f9d44576d41911e73981d6", func := "tourney/tourkeep2.SolveNothing", spec := "solveNothing", inPlace := ["math/bits.Sub64", "math/bits.Add64"], unfollowed := true, recurses := true, named := ["math/bits.divideError", "math/bits.overflowError"], apart := false }
def SolveNothingSaid : Prop := solveNothingRow.holds Tryz.pinned (OpenSpec.ofChange solveNothingSpec)

/-- ITS FALSE NEIGHBOUR: 'it returns false'. Refute it at one input. -/
def solveNothingWrong : ChangeSpec := { name := "solveNothing", fn := fun _ => fun
  | [d1, d2] => { results := [.lit (.bool false)], args := [d1, d2] }
  | _ => none }
def SolveNothingWrongFalsely : Prop := solveNothingRow.holds Tryz.pinned (OpenSpec.ofChange solveNothingWrong)

/- THE SECOND FORM. 'bulk': how many values and letters a reading holds, each counted each time it is reached (what is shared counts as often as it is met; a slice's spare places count too). A statement '..UptoSaid' is the law's where the arguments, and the package variables that the reading takes, are together of bulk at most 1048576: NARROWER than '..Said'. Prove '..Said' where nothing that the law and all that it calls make is longer than what came in: it says more and counts as full. Else prove '..UptoSaid'. A law counts once. -/
mutual
def uptoBulk {H : Type} : DataW H → Nat
  | .lit (.string bytes) => bytes.length + 1
  | .lit _ => 1
  | .nil => 1
  | .ptr d => uptoBulk d + 1
  | .slice elems spare => uptoBulkAll elems + uptoBulkAll spare + 1
  | .agg parts => uptoBulkAll parts + 1
  | .iface _ d => uptoBulk d + 1
  | .map entries => uptoBulkEntries entries + 1
  | .held _ => 1
def uptoBulkAll {H : Type} : List (DataW H) → Nat
  | [] => 0
  | d :: r => uptoBulk d + uptoBulkAll r
def uptoBulkEntries {H : Type} : List (Lit × DataW H) → Nat
  | [] => 0
  | x :: r => uptoBulkEntry x + uptoBulkEntries r
def uptoBulkEntry {H : Type} : Lit × DataW H → Nat
  | (.string bytes, d) => bytes.length + uptoBulk d + 1
  | (_, d) => uptoBulk d + 1
 end
def uptoSmall : (H : Type) → List (DataW H) → Bool := fun _ ds => decide (uptoBulkAll ds ≤ 1048576)
def OpenSpec.upto (s : _root_.Go.ChangeSpec) : _root_.Go.OpenSpec := { _root_.Go.OpenSpec.ofChange s with cond := some uptoSmall }

/-- 'tourkeep2.KeepCarried', WHERE WHAT IT READS IS OF BULK AT MOST 1048576: true; the input reads as it did. -/
def keepCarriedUptoRow : OpenClaim := { program := "ytiaoandbdgdecaagreat", sum := "a4ab867cdaa1905b959fd898a6d9f7a311eca317c3f9d44576d41911e73981d6", func := "tourney/tourkeep2.KeepCarried", spec := "keepCarried", inPlace := ["math/bits.Sub64", "math/bits.Add64"], unfollowed := true, recurses := true, named := ["math/bits.divideError", "math/bits.overflowError"], apart := false, narrowed := true }
def KeepCarriedUptoSaid : Prop := keepCarriedUptoRow.holds Tryz.pinned (OpenSpec.upto keepCarriedSpec)

/-- 'tourlaw2.KeepSays', WHERE WHAT IT READS IS OF BULK AT MOST 1048576: true; the input reads as it did. -/
def keepSaysUptoRow : OpenClaim := { program := "ytiaoandbdgdecaagreat", sum := "a4ab867cdaa1905b959fd898a6d9f7a311eca317c3f9d44576d41911e73981d6", func := "tourney/tourlaw2.KeepSays", spec := "keepSays", inPlace := ["math/bits.Sub64", "math/bits.Add64"], unfollowed := true, recurses := true, named := ["math/bits.divideError", "math/bits.overflowError"], apart := false, narrowed := true }
def KeepSaysUptoSaid : Prop := keepSaysUptoRow.holds Tryz.pinned (OpenSpec.upto keepSaysSpec)

/-- 'tourkeep2.SolveSmooth', WHERE WHAT IT READS IS OF BULK AT MOST 1048576: true; the input reads as it did. -/
def solveSmoothUptoRow : OpenClaim := { program := "ytiaoandbdgdecaagreat", sum := "a4ab867cdaa1905b959fd898a6d9f7a311eca317c3f9d44576d41911e73981d6", func := "tourney/tourkeep2.SolveSmooth", spec := "solveSmooth", inPlace := ["math/bits.Sub64", "math/bits.Add64"], unfollowed := true, recurses := true, named := ["math/bits.divideError", "math/bits.overflowError"], apart := false, narrowed := true }
def SolveSmoothUptoSaid : Prop := solveSmoothUptoRow.holds Tryz.pinned (OpenSpec.upto solveSmoothSpec)

/-- 'tourkeep2.SolveNothing', WHERE WHAT IT READS IS OF BULK AT MOST 1048576: true; the input reads as it did. -/
def solveNothingUptoRow : OpenClaim := { program := "ytiaoandbdgdecaagreat", sum := "a4ab867cdaa1905b959fd898a6d9f7a311eca317c3f9d44576d41911e73981d6", func := "tourney/tourkeep2.SolveNothing", spec := "solveNothing", inPlace := ["math/bits.Sub64", "math/bits.Add64"], unfollowed := true, recurses := true, named := ["math/bits.divideError", "math/bits.overflowError"], apart := false, narrowed := true }
def SolveNothingUptoSaid : Prop := solveNothingUptoRow.holds Tryz.pinned (OpenSpec.upto solveNothingSpec)

end Rows
end Go.Proofs.YtiaoandbdgdecaaGreat
