/- The contract of tourkeep2.works. -/
import Derived.Test.YtjoodpjndpdjnaaE2
namespace Go.Proofs.Ytjoodpjndpdjnaa
set_option linter.unusedVariables false
set_option linter.unusedSimpArgs false
open Go.RowKit

theorem sqK_check : checkE (sqK 0 0 1) = 0 := by decide
theorem sqK_area : areaZ (sqK 0 0 1) = 34359738368 := by decide
theorem sqK_supp : suppZ (sqK 0 0 1) 1 (-1) = 1 := by decide
theorem sqK_has : hasB (sqK 0 0 1) 0 0 = true := by decide

set_option maxRecDepth 100000 in
set_option maxHeartbeats 1000000 in
theorem works_calls (w : World) : Calls Try.prog 27 #[] w (Ret (.bool true) w) := by
  have e1 := hid sqK_check
  have e2 := hid sqK_area
  have e3 := hid sqK_supp
  have e4 := hid sqK_has
  go_enter Try.func27, Try.ntmps27
  go_wp2_with fail
  refine (squareK_calls 0 0 1 (by omega) (by omega) (by omega) _).mono ?_
  rintro e w1 ⟨A, n, c, rfl, hS1, hb1⟩
  have HS1 := hid hS1
  clear hS1
  go_wp2_with fail
  refine (area_calls _ _ _ (sqK 0 0 1) _ HS1.out).mono ?_
  rintro e w2 ⟨rfl, hb2⟩
  rw [if_pos e1.out, e2.out, e1.out]
  have hB2 : Below w.heap.size w w2 := hb1.trans (hb2.mono hb1.size)
  go_wp2_with fail
  refine (squareK_calls 0 0 1 (by omega) (by omega) (by omega) _).mono ?_
  rintro e w4 ⟨A2, n2, c2, rfl, hS4, hb4⟩
  have HS4 := hid hS4
  clear hS4
  go_wp2_with fail
  refine (support_calls _ _ _ (sqK 0 0 1) 1 (-1) (by unfold i64; omega) (by unfold i64; omega) _ HS4.out).mono ?_
  rintro e w5 ⟨rfl, hb5⟩
  rw [e3.out]
  have hB5 : Below w.heap.size w w5 := (hB2.trans (hb4.mono hB2.size)).trans (hb5.mono (Nat.le_trans hB2.size hb4.size))
  go_wp2_with fail
  refine (squareK_calls 0 0 1 (by omega) (by omega) (by omega) _).mono ?_
  rintro e w6 ⟨A3, n3, c3, rfl, hS6, hb6⟩
  have HS6 := hid hS6
  clear hS6
  go_wp2_with fail
  refine (has_calls _ _ _ (sqK 0 0 1) 0 0 _ HS6.out).mono ?_
  rintro e w7 ⟨rfl, hb7⟩
  rw [e4.out]
  have hB7 : Below w.heap.size w w7 := (hB5.trans (hb6.mono hB5.size)).trans (hb7.mono (Nat.le_trans hB5.size hb6.size))
  go_wp2
  go_returns
  exact ret_bool rfl hB7

end Go.Proofs.Ytjoodpjndpdjnaa
