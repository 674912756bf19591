/- The walk of BodyStill. -/
import Derived.Test.YtmkmmblgmldilaaJ11
namespace Go.Proofs.Ytmkmmblgmldilaa
set_option linter.unusedVariables false
set_option linter.unusedSimpArgs false
open Go.RowKit

theorem mulF_zero (a : Int) : mulF a 0 = 0 := by
  have h : clampF 65536 = 65536 := by decide
  have h0 : clampF 0 = 0 := by decide
  unfold mulF mdF
  rw [h, h0, Int.mul_zero, if_neg (by omega)]
  decide
theorem clampN_id {n m : Int} (h1 : -m ≤ n) (h2 : n ≤ m) : clampN n m = n := by unfold clampN; rw [if_neg (by omega), if_neg (by omega)]
theorem angF_id {a : Int} (h1 : 0 ≤ a) (h2 : a ≤ 65535) : angF a = a := by
  unfold angF
  rw [Int.tmod_eq_emod_of_nonneg h1, Int.emod_eq_of_lt h1 (by omega), Int.tmod_eq_emod_of_nonneg (by omega)]
  omega
theorem moveB_zero {b : Bd} (h : MadeB b) (l : List V) : moveB b l 0 = b := by
  unfold moveB
  split
  · rfl
  · have e1 := h.px
    have e2 := h.py
    have e3 := h.ang
    rw [mulF_zero, mulF_zero, mulF_zero, Int.add_zero, Int.add_zero, Int.add_zero, clampN_id (by omega) (by omega), clampN_id (by omega) (by omega), angF_id (by omega) (by omega)]
def stopB (b : Bd) : Bd := if 0 < b.mass then { b with vx := 0, vy := 0, spin := 0, asleep := true } else b
theorem stopB_stays {b : Bd} (h : MadeB b) : (stopB b).mass = 0 ∨ (stopB b).asleep = true := by
  unfold stopB
  split
  · exact .inr rfl
  · rename_i hm
    refine .inl ?_
    rcases h.kind with ⟨_, _, _, h1, _⟩ | ⟨_, _, _, h1, _⟩
    · exact h1
    · omega
theorem moveB_stays {b : Bd} (h : b.mass = 0 ∨ b.asleep = true) (l : List V) (s : Int) : moveB b l s = b := by
  unfold moveB
  rw [if_pos (by rcases h with h | h; exact .inr (.inl h); exact .inr (.inr (.inl h)))]
theorem pushB_stays {b : Bd} (h : b.mass = 0 ∨ b.asleep = true) (l : List V) (jx jy u v : Int) : pushB b l jx jy u v = b := by
  unfold pushB
  rw [if_pos (by rcases h with h | h; exact .inr (.inl h); exact .inr (.inr h))]

theorem BdAt.set_asleep {w : World} {g : Nat} {b : Bd} {A : Option Addr} {n c : Nat} (h : BdAt w g b A n c) (v : Bool) : BdAt (w.setCell ⟨g, 11, none⟩ (.bool v)) g { b with asleep := v } A n c := by
  obtain ⟨k0, k1, k2, k3, k4, k5, k6, k7, k8, k9, k10, k11, k12, kf⟩ := h
  exact ⟨by go_simp, by go_simp, by go_simp, by go_simp, by go_simp, by go_simp, by go_simp, by go_simp, by go_simp, by go_simp, by go_simp, by go_simp, by go_simp, fun j => by rw [World.frozen?_setCell]; exact kf j⟩


end Go.Proofs.Ytmkmmblgmldilaa
