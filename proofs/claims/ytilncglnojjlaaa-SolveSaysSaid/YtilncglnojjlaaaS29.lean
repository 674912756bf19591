/- Parts of a proof: contracts and laws. -/
import Derived.Test.YtilncglnojjlaaaS26
import Derived.Test.YtilncglnojjlaaaS28
import Derived.Test.YtilncglnojjlaaaS14
import Derived.Test.YtilncglnojjlaaaS11
import Derived.BigQuiet
import Derived.Laws.Bits64b
import Derived.Laws.MathBits
import Derived.Deep.WholeRow
import Derived.Test.YtilncglnojjlaaaS13
namespace Go.Proofs.Ytilncglnojjlaaa
section
set_option linter.unusedVariables false
set_option linter.unusedSimpArgs false
open Go.RowKit
theorem clampN_in' {n m : Int} (h : 0 ≤ m) : -m ≤ clampN n m ∧ clampN n m ≤ m := by unfold clampN; omega
theorem pushR_ok {b : Bd} {l : List V} (h : bodyE b l = 0) (jx jy u v : Int) : bodyE (pushR b jx jy u v) l = 0 := by
  unfold pushR
  by_cases c : b.mass = 0 ∨ b.asleep = true
  · rw [if_pos c]; exact h
  · rw [if_neg c]
    obtain ⟨h1, h2⟩ := bodyE_zero h
    unfold bodyE
    rw [if_neg (by simp [h1])]
    have c1 : (b.mass == 0) = false := by simp; intro e; exact c (.inl e)
    have c2 : b.asleep = false := by cases q : b.asleep with | false => rfl | true => exact absurd (.inr q) c
    unfold numE at h2 ⊢
    by_cases k1 : (withinB 58982400 b.px b.py && withinB 268435456 b.vx b.vy && inB b.spin (-16777216) 16777216 && inB b.ang 0 65535) = true
    · rw [if_pos k1] at h2
      simp only [Bool.and_eq_true] at k1
      dsimp only
      rw [if_pos (by
        have w1 := withinB_iff.2 (show -268435456 ≤ clampN (addF b.vx (divF jx b.mass)) 268435456 ∧ clampN (addF b.vx (divF jx b.mass)) 268435456 ≤ 268435456 ∧ -268435456 ≤ clampN (addF b.vy (divF jy b.mass)) 268435456 ∧ clampN (addF b.vy (divF jy b.mass)) 268435456 ≤ 268435456 by
          have := clampN_in' (n := addF b.vx (divF jx b.mass)) (m := 268435456) (by omega)
          have := clampN_in' (n := addF b.vy (divF jy b.mass)) (m := 268435456) (by omega)
          omega)
        have i1 : ∀ n, inB (clampN n 16777216) (-16777216) 16777216 = true := fun n => inB_iff.2 (clampN_in' (by omega))
        simp only [w1, i1, k1.1.1.1, k1.2, Bool.and_self])]
      by_cases k2 : (inB b.mass 0 1099511627776 && inB b.iner 0 1099511627776 && inB b.bounce 0 65536 && inB b.rub 0 65536 && inB b.calm 0 1000) = true
      · rw [if_pos k2] at h2 ⊢
        simp only [c1, c2, Bool.false_and, Bool.or_false] at h2 ⊢
        exact h2
      · rw [if_neg k2] at h2; cases h2
    · rw [if_neg k1] at h2; cases h2

def valB (x : BE) : Bd × List V := (x.b, x.l)
end
end Go.Proofs.Ytilncglnojjlaaa
namespace Go.Proofs.Ytilncglnojjlaaa
section
set_option linter.unusedVariables false
set_option linter.unusedSimpArgs false
open Go.RowKit

def tabL : List Int := [0, 1608, 3216, 4821, 6424, 8022, 9616, 11204, 12785, 14359, 15924, 17479, 19024, 20557, 22078, 23586, 25080, 26558, 28020, 29466, 30893, 32303, 33692, 35062, 36410, 37736, 39040, 40320, 41576, 42806, 44011, 45190, 46341, 47464, 48559, 49624, 50660, 51665, 52639, 53581, 54491, 55368, 56212, 57022, 57798, 58538, 59244, 59914, 60547, 61145, 61705, 62228, 62714, 63162, 63572, 63944, 64277, 64571, 64827, 65043, 65220, 65358, 65457, 65516, 65536]
def tabZ (k : Nat) : Int := tabL.getD k 0

def firstZ (a : Int) : Int := if a % 256 = 0 then tabZ (a / 256).toNat else tabZ (a / 256).toNat + ((tabZ ((a / 256).toNat + 1) - tabZ (a / 256).toNat) * (a % 256) + 128).tdiv 256

def sinZ (a : Int) : Int := if a % 65536 / 16384 = 0 then firstZ (a % 16384) else if a % 65536 / 16384 = 1 then firstZ (16384 - a % 16384) else if a % 65536 / 16384 = 2 then - firstZ (a % 16384) else - firstZ (16384 - a % 16384)
def cosZ (a : Int) : Int := sinZ (a % 65536 + 16384)

def turnX (x y a : Int) : Int := subF (mulF x (cosZ a)) (mulF y (sinZ a))
end
end Go.Proofs.Ytilncglnojjlaaa
namespace Go.Proofs.Ytilncglnojjlaaa
section
set_option linter.unusedVariables false
set_option linter.unusedSimpArgs false
open Go.RowKit
theorem BdAt.grown {w w' : World} {g k : Nat} {b : Bd} {A : Option Addr} {n c : Nat} (h : BdAt w g b A n c) (hg : w.grownBy w' (some k)) (hne : g ≠ k) : BdAt w' g b A n c :=
  ⟨(grown_cell hg hne h.lt).trans h.c0, (grown_cell hg hne h.lt).trans h.c1, (grown_cell hg hne h.lt).trans h.c2, (grown_cell hg hne h.lt).trans h.c3, (grown_cell hg hne h.lt).trans h.c4, (grown_cell hg hne h.lt).trans h.c5, (grown_cell hg hne h.lt).trans h.c6, (grown_cell hg hne h.lt).trans h.c7, (grown_cell hg hne h.lt).trans h.c8, (grown_cell hg hne h.lt).trans h.c9, (grown_cell hg hne h.lt).trans h.c10, (grown_cell hg hne h.lt).trans h.c11, (grown_cell hg hne h.lt).trans h.c12, fun j => (World.frozen?_of_block (hg.block g h.lt (by intro e; cases e; exact hne rfl))).trans (h.free j)⟩
theorem BdZ.grown {w w' : World} {g k : Nat} (h : BdZ w g) (hg : w.grownBy w' (some k)) (hne : g ≠ k) : BdZ w' g :=
  ⟨fun j hj => by obtain ⟨v, hv⟩ := h.c j hj; exact ⟨v, (grown_cell hg hne h.lt).trans hv⟩, fun j => (World.frozen?_of_block (hg.block g h.lt (by intro e; cases e; exact hne rfl))).trans (h.free j)⟩
theorem Stm.set {w : World} {g k o : Nat} {r : List Int} {v : Value} (h : Stm w g r) (hne : g < k) : Stm (w.setCell ⟨k, o, none⟩ v) g r := by
  obtain ⟨h1, h2, A, n, c, h3, h4, h5⟩ := h
  refine ⟨by simp; exact h1, by rw [World.frozen?_setCell]; exact h2, A, n, c, by go_simp, ⟨h4.len, h4.cap, h4.big, fun hr => ?_⟩, h5⟩
  obtain ⟨b, off, e, hlt, hc⟩ := h4.at_ hr
  have hb := h5 hr b off e
  refine ⟨b, off, e, by simp; exact hlt, fun j hj => ?_⟩
  have := hc j hj
  go_simp


end
end Go.Proofs.Ytilncglnojjlaaa
