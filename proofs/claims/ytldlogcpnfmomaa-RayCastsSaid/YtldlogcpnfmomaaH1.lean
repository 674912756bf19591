/- The contract of slices.Equal of two slices of vectors. -/
import Derived.Test.YtldlogcpnfmomaaZ7
import Derived.BigQuiet
namespace Go.Proofs.Ytldlogcpnfmomaa
set_option linter.unusedVariables false
set_option linter.unusedSimpArgs false
open Go.RowKit

theorem list_eq_of {l r : List V} (hl : l.length = r.length) (h : ∀ j, j < l.length → px l j = px r j ∧ py l j = py r j) : l = r := by
  refine List.ext_getElem hl fun j h1 h2 => ?_
  rw [px_lt h1, px_lt h2, (h j h1).1, (h j h1).2]

set_option maxRecDepth 100000 in
set_option maxHeartbeats 1000000 in
theorem equal_calls (A B : Option Addr) (n c m c' : Nat) (l r : List V) (w : World) (hS : Sl w A n c l) (hR : Sl w B m c' r) :
    Calls Try.prog 38 #[.slice A n c, .slice B m c'] w (Ret (.bool (decide (l = r))) w) := by
  have hn := hS.len
  have hm := hR.len
  subst hn hm
  have h1 := hS.cap
  have h2 := hS.big
  have h3 := hR.cap
  have h4 := hR.big
  by_cases hl : l.length = r.length
  · have HS := hid hS
    have HR := hid hR
    clear hS hR
    go_enter Try.func38, Try.ntmps38
    go_wp2
    go_loopw [13] (fun i wr => ∃ k : Nat, k ≤ l.length ∧ i = .int .i64 k ∧ (∀ j, j < k → px l j = px r j ∧ py l j = py r j) ∧ Below w.heap.size w wr) (fun i _ => l.length - (intOf i).toNat)
    case atStart => exact ⟨0, Nat.zero_le _, rfl, fun j hj => absurd hj (by omega), Below.refl _ _⟩
    case round =>
      obtain ⟨k, hk, rfl, heq, hB⟩ := hrel
      have HQ := hid heq
      clear heq
      by_cases hlt : k < l.length
      · obtain ⟨b, off, rfl, hC⟩ := (HS.out.below hB).at_ (by intro h; subst h; simp at hlt)
        obtain ⟨b2, off2, rfl, hD⟩ := (HR.out.below hB).at_ (by intro h; rw [h] at hl; simp at hl; rw [hl] at hlt; simp at hlt)
        have hx := hC.x k hlt
        have hy := hC.y k hlt
        have hx2 := hD.x k (by omega)
        have hy2 := hD.y k (by omega)
        have hlt2 : (k : Int) < (r.length : Int) := by omega
        have hlt3 : (k : Int) < (l.length : Int) := by omega
        have hlt4 : k < r.length := by omega
        clear hC hD
        by_cases hv : px l k = px r k ∧ py l k = py r k
        · obtain ⟨v1, v2⟩ := hv
          go_wp2_with fail
          go_quiet (fail)
          have hB2 := below_drewN' hB nq
          go_wp2
          exact ⟨⟨k + 1, hlt, by go_num, fun j hj => by
            by_cases e : j = k
            · subst e; exact ⟨v1, v2⟩
            · exact HQ.out j (by omega), hB2⟩, by simp [intOf]; omega⟩
        · have hne : Hid (l ≠ r) := fun h => hv (by rw [h]; exact ⟨rfl, rfl⟩)
          by_cases v1 : px l k = px r k
          · have v2 : ¬ py l k = py r k := fun h => hv ⟨v1, h⟩
            have v3 : (py l k == py r k) = false := by simp [v2]
            clear hv
            go_wp2_with fail
            go_quiet (fail)
            have hB2 := below_drewN' hB nq
            go_wp2
            go_returns
            exact ret_bool (by simp [hne.out]) hB2
          · have v3 : (px l k == px r k) = false := by simp [v1]
            clear hv
            go_wp2_with fail
            go_quiet (fail)
            have hB2 := below_drewN' hB nq
            go_wp2
            go_returns
            exact ret_bool (by simp [hne.out]) hB2
      · have he : Hid (l = r) := list_eq_of hl fun j hj => HQ.out j (by omega)
        go_wp2
        go_returns
        exact ret_bool (by simp [he.out]) hB
  · have hne : Hid (l ≠ r) := fun h => hl (by rw [h])
    have hlb : ((l.length : Int) == (r.length : Int)) = false := by simp; omega
    clear hS hR
    go_enter Try.func38, Try.ntmps38
    go_wp2
    go_returns
    exact ret_bool (by simp [hne.out]) (Below.refl _ _)

end Go.Proofs.Ytldlogcpnfmomaa
