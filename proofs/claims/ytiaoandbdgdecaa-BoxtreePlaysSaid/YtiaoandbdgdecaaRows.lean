/-
  No cell of these rows narrows 'for every input' (looked for: loops, veiled, ifaces, maps, wideKeys, modest, calm, conditions, laid).
  DERIVED. THE GIVEN ROWS OF THIS SEAT. 3 by the template 'for every input the law returns true; each argument reads behind the call as it read before'; 0 by the template 'total and deterministic' (their statements: YtiaoandbdgdecaaTotals.lean).
  GIVEN WITH THE SEED: the statements are not yours to turn. If you find one false, say at which input.
  Laid BY PROGRAM, IN A SANDBOX (cutbox-rows.mjs): the forced cells as the released guide's own fill.sh prints them over the translation 088c86e858741a4d… (all of the seat's roots in one cut). By AI agents, Wed Nov 11 2026. No macro, syntax, notation, axiom, sorry.
-/
import Derived.Test.YtiaoandbdgdecaaChecked
import GoSem.Claim
import GoSem.ClaimJoined
import GoSem.ClaimMapViews
import Derived.JoinedTies
import Derived.KernelRfl
namespace Go.Proofs.Ytiaoandbdgdecaa
/- THE CELL 'sum', in the pinned program and in every row, IS THE sha256 OF THE DUMP (.gsa) THAT YtiaoandbdgdecaaProg.lean LOADS. Nothing in Lean hashes anything: it is a label: what it is worth is what the hold of that sum in a sandbox is worth. -/
noncomputable def Try.pinned : Pinned := { name := "ytiaoandbdgdecaa", sum := "088c86e858741a4d499c08eed116357e0a768cbe28e5165ba4fba31cdca7c4de", checked := Try.checked }
namespace Rows
def none {H : Type} : Left H := { results := [], args := [] }

/-- 'tourkeep2.BoxtreeLow': WHATEVER THE INPUT: true; the input reads as it did. -/
def boxtreeLowSpec : ChangeSpec := { name := "boxtreeLow", fn := fun _ => fun
  | [d1, d2] => { results := [.lit (.bool true)], args := [d1, d2] }
  | _ => none }
def boxtreeLowRow : OpenClaim := { program := "ytiaoandbdgdecaa", sum := "088c86e858741a4d499c08eed116357e0a768cbe28e5165ba4fba31cdca7c4de", func := "tourney/tourkeep2.BoxtreeLow", spec := "boxtreeLow", unfollowed := true, recurses := true, apart := false }
def BoxtreeLowSaid : Prop := boxtreeLowRow.holds Try.pinned (OpenSpec.ofChange boxtreeLowSpec)

/-- ITS FALSE NEIGHBOUR: 'it returns false'. Refute it at one input. -/
def boxtreeLowWrong : ChangeSpec := { name := "boxtreeLow", fn := fun _ => fun
  | [d1, d2] => { results := [.lit (.bool false)], args := [d1, d2] }
  | _ => none }
def BoxtreeLowWrongFalsely : Prop := boxtreeLowRow.holds Try.pinned (OpenSpec.ofChange boxtreeLowWrong)

/-- 'tourlaw2.BoxtreePlays': WHATEVER THE INPUT: true; the input reads as it did. -/
def boxtreePlaysSpec : ChangeSpec := { name := "boxtreePlays", fn := fun _ => fun
  | [d] => { results := [.lit (.bool true)], args := [d] }
  | _ => none }
def boxtreePlaysRow : OpenClaim := { program := "ytiaoandbdgdecaa", sum := "088c86e858741a4d499c08eed116357e0a768cbe28e5165ba4fba31cdca7c4de", func := "tourney/tourlaw2.BoxtreePlays", spec := "boxtreePlays", unfollowed := true, recurses := true, apart := false }
def BoxtreePlaysSaid : Prop := boxtreePlaysRow.holds Try.pinned (OpenSpec.ofChange boxtreePlaysSpec)

/-- ITS FALSE NEIGHBOUR: 'it returns false'. Refute it at one input. -/
def boxtreePlaysWrong : ChangeSpec := { name := "boxtreePlays", fn := fun _ => fun
  | [d] => { results := [.lit (.bool false)], args := [d] }
  | _ => none }
def BoxtreePlaysWrongFalsely : Prop := boxtreePlaysRow.holds Try.pinned (OpenSpec.ofChange boxtreePlaysWrong)

/-- 'tourkeep2.BoxtreeOrder': WHATEVER THE INPUT: true; the input reads as it did. -/
def boxtreeOrderSpec : ChangeSpec := { name := "boxtreeOrder", fn := fun _ => fun
  | [d1, d2] => { results := [.lit (.bool true)], args := [d1, d2] }
  | _ => none }
def boxtreeOrderRow : OpenClaim := { program := "ytiaoandbdgdecaa", sum := "088c86e858741a4d499c08eed116357e0a768cbe28e5165ba4fba31cdca7c4de", func := "tourney/tourkeep2.BoxtreeOrder", spec := "boxtreeOrder", unfollowed := true, recurses := true, apart := false }
def BoxtreeOrderSaid : Prop := boxtreeOrderRow.holds Try.pinned (OpenSpec.ofChange boxtreeOrderSpec)

/-- ITS FALSE NEIGHBOUR: 'it returns false'. Refute it at one input. -/
def boxtreeOrderWrong : ChangeSpec := { name := "boxtreeOrder", fn := fun _ => fun
  | [d1, d2] => { results := [.lit (.bool false)], args := [d1, d2] }
  | _ => none }
def BoxtreeOrderWrongFalsely : Prop := boxtreeOrderRow.holds Try.pinned (OpenSpec.ofChange boxtreeOrderWrong)

/- THE SECOND FORM. 'bulk': how many values and letters a reading holds, each counted each time it is reached (what is shared counts as often as it is met; a slice's spare places count too). A statement '..UptoSaid' is the law's where the arguments, and the package variables that the reading takes, are together of bulk at most 1048576: NARROWER than '..Said'. Prove '..Said' where nothing that the law and all that it calls make is longer than what came in: it says more and counts as full. Else prove '..UptoSaid'. A law counts once. -/
mutual
def uptoBulk {H : Type} : DataW H → Nat
  | .lit (.string bytes) => bytes.length + 1
  | .lit _ => 1
  | .nil => 1
  | .ptr d => uptoBulk d + 1
  | .slice elems spare => uptoBulkAll elems + uptoBulkAll spare + 1
  | .agg parts => uptoBulkAll parts + 1
  | .iface _ d => uptoBulk d + 1
  | .map entries => uptoBulkEntries entries + 1
  | .held _ => 1
def uptoBulkAll {H : Type} : List (DataW H) → Nat
  | [] => 0
  | d :: r => uptoBulk d + uptoBulkAll r
def uptoBulkEntries {H : Type} : List (Lit × DataW H) → Nat
  | [] => 0
  | x :: r => uptoBulkEntry x + uptoBulkEntries r
def uptoBulkEntry {H : Type} : Lit × DataW H → Nat
  | (.string bytes, d) => bytes.length + uptoBulk d + 1
  | (_, d) => uptoBulk d + 1
 end
def uptoSmall : (H : Type) → List (DataW H) → Bool := fun _ ds => decide (uptoBulkAll ds ≤ 1048576)
def OpenSpec.upto (s : _root_.Go.ChangeSpec) : _root_.Go.OpenSpec := { _root_.Go.OpenSpec.ofChange s with cond := some uptoSmall }

/-- 'tourkeep2.BoxtreeLow', WHERE WHAT IT READS IS OF BULK AT MOST 1048576: true; the input reads as it did. -/
def boxtreeLowUptoRow : OpenClaim := { program := "ytiaoandbdgdecaa", sum := "088c86e858741a4d499c08eed116357e0a768cbe28e5165ba4fba31cdca7c4de", func := "tourney/tourkeep2.BoxtreeLow", spec := "boxtreeLow", unfollowed := true, recurses := true, apart := false, narrowed := true }
def BoxtreeLowUptoSaid : Prop := boxtreeLowUptoRow.holds Try.pinned (OpenSpec.upto boxtreeLowSpec)

/-- 'tourlaw2.BoxtreePlays', WHERE WHAT IT READS IS OF BULK AT MOST 1048576: true; the input reads as it did. -/
def boxtreePlaysUptoRow : OpenClaim := { program := "ytiaoandbdgdecaa", sum := "088c86e858741a4d499c08eed116357e0a768cbe28e5165ba4fba31cdca7c4de", func := "tourney/tourlaw2.BoxtreePlays", spec := "boxtreePlays", unfollowed := true, recurses := true, apart := false, narrowed := true }
def BoxtreePlaysUptoSaid : Prop := boxtreePlaysUptoRow.holds Try.pinned (OpenSpec.upto boxtreePlaysSpec)

/-- 'tourkeep2.BoxtreeOrder', WHERE WHAT IT READS IS OF BULK AT MOST 1048576: true; the input reads as it did. -/
def boxtreeOrderUptoRow : OpenClaim := { program := "ytiaoandbdgdecaa", sum := "088c86e858741a4d499c08eed116357e0a768cbe28e5165ba4fba31cdca7c4de", func := "tourney/tourkeep2.BoxtreeOrder", spec := "boxtreeOrder", unfollowed := true, recurses := true, apart := false, narrowed := true }
def BoxtreeOrderUptoSaid : Prop := boxtreeOrderUptoRow.holds Try.pinned (OpenSpec.upto boxtreeOrderSpec)

end Rows
end Go.Proofs.Ytiaoandbdgdecaa
