/- Contracts of sat.deep and sat.both. -/
import Derived.Test.YtldlogcpnfmomaaS0
namespace Go.Proofs.Ytldlogcpnfmomaa
set_option linter.unusedVariables false
set_option linter.unusedSimpArgs false
open Go.RowKit

/-- how deep corner k of m lies below edge i of l; the deepest one of the first k + 1 -/
def dpt (l m : List V) (i k : Nat) : Int := nrmX l i * (px l i - px m k) + nrmY l i * (py l i - py m k)
def deepTo (l m : List V) (i : Nat) : Nat → Int
  | 0 => dpt l m i 0
  | k + 1 => if dpt l m i (k + 1) > deepTo l m i k then dpt l m i (k + 1) else deepTo l m i k
def deepZ (l m : List V) (i : Nat) : Int := deepTo l m i (m.length - 1)
theorem dpt_bd {l m : List V} (hw : allWithin 65536000 l = true) (hm : allWithin 65536000 m = true) {i k : Nat} (hi : i < l.length) (hk : k < m.length) : -34359738368000000 ≤ dpt l m i k ∧ dpt l m i k ≤ 34359738368000000 := by
  obtain ⟨n1, n2⟩ := nrm_bd hw hi
  have h1 := withinB_iff.1 (allWithin_at hw hi)
  have h2 := withinB_iff.1 (allWithin_at hm hk)
  have a := mul_bd (x := nrmX l i) (y := px l i - px m k) (M := 131072000) (N := 131072000) (by omega) (by omega) (by omega) (by omega)
  have b := mul_bd (x := nrmY l i) (y := py l i - py m k) (M := 131072000) (N := 131072000) (by omega) (by omega) (by omega) (by omega)
  unfold dpt
  omega
theorem deepTo_bd {l m : List V} (hw : allWithin 65536000 l = true) (hm : allWithin 65536000 m = true) {i : Nat} (hi : i < l.length) : ∀ k, k < m.length → -34359738368000000 ≤ deepTo l m i k ∧ deepTo l m i k ≤ 34359738368000000 := by
  intro k
  induction k with
  | zero => intro hk; exact dpt_bd hw hm hi hk
  | succ k ih =>
    intro hk
    have h1 := ih (by omega)
    have h2 := dpt_bd hw hm hi hk
    unfold deepTo
    split <;> omega


/-- sat.both -/
def bothE (l m : List V) : Int := if checkE l ≠ 0 then checkE l else checkE m

end Go.Proofs.Ytldlogcpnfmomaa
