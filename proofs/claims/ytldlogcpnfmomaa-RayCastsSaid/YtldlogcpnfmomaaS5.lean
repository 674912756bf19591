/- The contract of sat.Test. -/
import Derived.Test.YtldlogcpnfmomaaS4
namespace Go.Proofs.Ytldlogcpnfmomaa
set_option linter.unusedVariables false
set_option linter.unusedSimpArgs false
open Go.RowKit

/-- the normal of the edge that an axis names, from the first polygon to the second one -/
def axN1 (l m : List V) (s : Option Ax) : Int := match s with | none => 0 | some a => if a.1 = true then -nrmX m a.2.1 else nrmX l a.2.1
def axN2 (l m : List V) (s : Option Ax) : Int := match s with | none => 0 | some a => if a.1 = true then -nrmY m a.2.1 else nrmY l a.2.1
def tstX (l m : List V) : Int := if meetsB l m = true then unitX (axN1 l m (leastO l m)) (axN2 l m (leastO l m)) else 0
def tstY (l m : List V) : Int := if meetsB l m = true then unitY (axN1 l m (leastO l m)) (axN2 l m (leastO l m)) else 0
def tstD (l m : List V) : Int := axD (leastO l m)
theorem axUp_some (s : Option Ax) (sec : Bool) (i : Nat) (d : Int) : ∃ a, axUp s sec i d = some a ∧ (a = (sec, i, d) ∨ s = some a) := by
  cases s with
  | none => exact ⟨_, rfl, .inl rfl⟩
  | some a =>
    unfold axUp
    dsimp only
    split
    · exact ⟨_, rfl, .inl rfl⟩
    · exact ⟨_, rfl, .inr rfl⟩
theorem axTo_some (l m : List V) (sec : Bool) (s : Option Ax) : ∀ k, 0 < k → ∃ a, axTo l m sec s k = some a ∧ ((a.1 = sec ∧ a.2.1 < k) ∨ s = some a)
  | 0, h => absurd h (by omega)
  | k + 1, _ => by
    rw [axTo]
    obtain ⟨a, h1, h2⟩ := axUp_some (axTo l m sec s k) sec k (depZ l m k)
    refine ⟨a, h1, ?_⟩
    rcases h2 with rfl | h2
    · exact .inl ⟨rfl, by simp⟩
    · rcases Nat.eq_zero_or_pos k with rfl | hk
      · exact .inr h2
      · obtain ⟨a', h3, h4⟩ := axTo_some l m sec s k hk
        rw [h2] at h3
        cases h3
        rcases h4 with ⟨g1, g2⟩ | h4
        · exact .inl ⟨g1, by omega⟩
        · exact .inr h4
theorem least_some {l m : List V} (h : meetsB l m = true) : ∃ s e d, leastO l m = some (s, e, d) ∧ (s = true → e < m.length) ∧ (s = false → e < l.length) := by
  have h0 := h
  unfold meetsB at h0
  rw [decide_eq_true_iff] at h0
  have hE := h0.1
  obtain ⟨hc1, hc2⟩ : checkE l = 0 ∧ checkE m = 0 := by unfold bothE at hE; split at hE <;> omega
  obtain ⟨-, l3, -⟩ := checkE_zero hc1
  obtain ⟨-, m3, -⟩ := checkE_zero hc2
  unfold leastO
  rw [if_pos h, show stL l m 2 = axTo m l true (axTo l m false none l.length) m.length from by simp [stL]]
  obtain ⟨a, h1, h2⟩ := axTo_some m l true (axTo l m false none l.length) m.length (by omega)
  obtain ⟨b, h3, h4⟩ := axTo_some l m false none l.length (by omega)
  refine ⟨a.1, a.2.1, a.2.2, h1, ?_⟩
  rcases h2 with ⟨g1, g2⟩ | h2
  · exact ⟨fun _ => g2, fun g => by rw [g] at g1; cases g1⟩
  · rw [h3] at h2
    cases h2
    rcases h4 with ⟨g1, g2⟩ | h4
    · exact ⟨fun g => (by rw [g] at g1; cases g1), fun _ => g2⟩
    · cases h4
theorem AxAt.here' (w : World) (s : Bool) (e : Nat) (d : Int) (t : TypeId) : AxAt (w.alloc (.cells #[.bool s, .int .i64 e, .int .i64 d] t)) w.heap.size (some (s, e, d)) := ⟨by go_simp; rfl, by go_simp; rfl, by go_simp; rfl, fun j => by go_simp⟩
theorem AxAt.drew {w : World} {g : Nat} {s : Option Ax} (h : AxAt w g s) : AxAt w.drew g s := ⟨h.c0, h.c1, h.c2, h.free⟩

end Go.Proofs.Ytldlogcpnfmomaa
