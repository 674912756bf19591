/- Parts of a proof: contracts and laws. -/
import Derived.Test.YtkiiehobphkmgaaPZ19
import Derived.Test.YtkiiehobphkmgaaPZ21
namespace Go.Proofs.Ytkiiehobphkmgaa
section
set_option linter.unusedVariables false
set_option linter.unusedSimpArgs false
open Go.RowKit
theorem clampN_in' {n m : Int} (h : 0 ≤ m) : -m ≤ clampN n m ∧ clampN n m ≤ m := by unfold clampN; omega
theorem pushR_ok {b : Bd} {l : List V} (h : bodyE b l = 0) (jx jy u v : Int) : bodyE (pushR b jx jy u v) l = 0 := by
  unfold pushR
  by_cases c : b.mass = 0 ∨ b.asleep = true
  · rw [if_pos c]; exact h
  · rw [if_neg c]
    obtain ⟨h1, h2⟩ := bodyE_zero h
    unfold bodyE
    rw [if_neg (by simp [h1])]
    have c1 : (b.mass == 0) = false := by simp; intro e; exact c (.inl e)
    have c2 : b.asleep = false := by cases q : b.asleep with | false => rfl | true => exact absurd (.inr q) c
    unfold numE at h2 ⊢
    by_cases k1 : (withinB 58982400 b.px b.py && withinB 268435456 b.vx b.vy && inB b.spin (-16777216) 16777216 && inB b.ang 0 65535) = true
    · rw [if_pos k1] at h2
      simp only [Bool.and_eq_true] at k1
      dsimp only
      rw [if_pos (by
        have w1 := withinB_iff.2 (show -268435456 ≤ clampN (addF b.vx (divF jx b.mass)) 268435456 ∧ clampN (addF b.vx (divF jx b.mass)) 268435456 ≤ 268435456 ∧ -268435456 ≤ clampN (addF b.vy (divF jy b.mass)) 268435456 ∧ clampN (addF b.vy (divF jy b.mass)) 268435456 ≤ 268435456 by
          have := clampN_in' (n := addF b.vx (divF jx b.mass)) (m := 268435456) (by omega)
          have := clampN_in' (n := addF b.vy (divF jy b.mass)) (m := 268435456) (by omega)
          omega)
        have i1 : ∀ n, inB (clampN n 16777216) (-16777216) 16777216 = true := fun n => inB_iff.2 (clampN_in' (by omega))
        simp only [w1, i1, k1.1.1.1, k1.2, Bool.and_self])]
      by_cases k2 : (inB b.mass 0 1099511627776 && inB b.iner 0 1099511627776 && inB b.bounce 0 65536 && inB b.rub 0 65536 && inB b.calm 0 1000) = true
      · rw [if_pos k2] at h2 ⊢
        simp only [c1, c2, Bool.false_and, Bool.or_false] at h2 ⊢
        exact h2
      · rw [if_neg k2] at h2; cases h2
    · rw [if_neg k1] at h2; cases h2

def valB (x : BE) : Bd × List V := (x.b, x.l)
end
end Go.Proofs.Ytkiiehobphkmgaa
