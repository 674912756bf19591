/- Contracts of tourkeep2.pair and tests. -/
import Derived.Test.YthhfjiikmaghdaaS9
import Derived.Test.YthhfjiikmaghdaaZ6
namespace Go.Proofs.Ythhfjiikmaghdaa
set_option linter.unusedVariables false
set_option linter.unusedSimpArgs false
open Go.RowKit

def plc (x : Int) : Int := x % 1572864 - 786432
theorem plc_bd (x : Int) : -786432 ≤ plc x ∧ plc x ≤ 786432 := by unfold plc; omega
/-- two slices of vectors that are new -/
def RetTwo (l m : List V) (w : World) (e : Ending) (w' : World) : Prop :=
  ∃ A n c B n' c', e = .returned (.tuple #[.slice A n c, .slice B n' c']) ∧ Sl w' A n c l ∧ Sl w' B n' c' m ∧ (∀ b off, A = some ⟨b, off, none⟩ → w.heap.size ≤ b) ∧ (∀ b off, B = some ⟨b, off, none⟩ → w.heap.size ≤ b) ∧ Below w.heap.size w w'
set_option maxRecDepth 100000 in
set_option maxHeartbeats 1000000 in
theorem pair_calls (A B : Option Addr) (n c n' c' : Nat) (r s : List Int) (x y : Int) (w : World) (hS : SlI w A n c r) (hM : SlI w B n' c' s) :
    Calls Try.prog 56 #[.slice A n c, .slice B n' c', .int .i64 x, .int .i64 y] w (RetTwo (polyL r) (movL (polyL s) (plc x) (plc y)) w) := by
  have HS := hid hS
  have HM := hid hM
  clear hS hM
  have h1 := made_within (polyL_made s)
  have h2 := made_len (polyL_made s)
  have HW := hid (within_le (n := 65536000) h1 (by omega))
  have bx := plc_bd x
  have by_ := plc_bd y
  have ex : x % 1572864 - 786432 = plc x := rfl
  have ey : y % 1572864 - 786432 = plc y := rfl
  have HPL : Hid (∀ w, Calls Try.prog 38 #[.int .i64 x, .int .i64 y] w (Ret (vecV (plc x) (plc y)) w)) := fun w => place_calls x y w
  clear ex ey h1
  generalize plc x = u at *
  generalize plc y = v at *
  go_enter Try.func56, Try.ntmps56
  go_wp2_with fail
  refine (mPoly_calls A n c r _ HS.out).mono ?_
  rintro e w1 ⟨A1, n1, c1, rfl, s1, f1, hb1⟩
  have HS1 := hid s1
  have HF1 := hid f1
  have HM1 := hid (HM.out.below hb1)
  clear s1 f1 HM HS
  go_wp2_with fail
  refine (mPoly_calls B n' c' s _ HM1.out).mono ?_
  rintro e w2 ⟨A2, n2, c2, rfl, s2, f2, hb2⟩
  have HS2 := hid s2
  have HS1' := hid (HS1.out.below hb2)
  have hB2 := keepBelow hb2 hb1
  clear s2 f2 HM1 HS1 hb1 hb2
  go_wp2_with fail
  refine (HPL.out _).mono ?_
  rintro e w3 ⟨rfl, hb3⟩
  have HS3 := hid (HS2.out.below hb3)
  have HS1 := hid (HS1'.out.below hb3)
  have hB3 := keepBelow hb3 hB2
  clear HS2 HS1' hB2 hb3 HPL
  go_wp2_with fail
  refine (moved_calls A2 n2 c2 (polyL s) u v _ HS3.out (by omega) (by omega) (by omega) HW.out).mono ?_
  rintro e w4 ⟨A4, n4, c4, rfl, s4, f4, hb4⟩
  have HS4 := hid s4
  have HS1' := hid (HS1.out.below hb4)
  have HF4 := hid f4
  have hB4 := keepBelow hb4 hB3
  have hsz := hB3.size
  clear s4 f4 HS1 HS3 hB3 hb4
  go_wp2
  refine bodyPost_ret (v := .tuple #[.slice A1 n1 c1, .slice A4 n4 c4]) (by simp [results, Try.results56, go_sem]) rfl ⟨A1, n1, c1, A4, n4, c4, rfl, HS1'.out, HS4.out, HF1.out, fun b off e => by have := HF4.out b off e; omega, hB4⟩

theorem tests_meet : meetsB (sqK 0 0 2) (sqK 3 1 2) = true := by decide
theorem tests_depth : tstD (sqK 0 0 2) (sqK 3 1 2) = 65536 := by kernel_rfl
theorem tests_x : tstX (sqK 0 0 2) (sqK 3 1 2) = 65536 := by kernel_rfl
theorem tests_y : tstY (sqK 0 0 2) (sqK 3 1 2) = 0 := by kernel_rfl
theorem tests_both : bothE (sqK 0 0 1) (sqK 5 6 1) = 0 := by decide
theorem tests_far : apartZ (sqK 0 0 1) (sqK 5 6 1) = 327680 := by kernel_rfl
set_option maxRecDepth 100000 in
set_option maxHeartbeats 1000000 in
theorem tests_calls (w : World) : Calls Try.prog 59 #[] w (Ret (.bool true) w) := by
  have e1 := hid tests_meet
  have e2 := hid tests_depth
  have e3 := hid tests_x
  have e4 := hid tests_y
  have e5 := hid tests_both
  have e6 := hid tests_far
  go_enter Try.func59, Try.ntmps59
  go_wp2_with fail
  refine (squareK_calls 0 0 2 (by omega) (by omega) (by omega) _).mono ?_
  rintro e w1 ⟨A, n, c, rfl, hS1, hb1⟩
  have HS1 := hid hS1
  clear hS1
  go_wp2_with fail
  refine (squareK_calls 3 1 2 (by omega) (by omega) (by omega) _).mono ?_
  rintro e w2 ⟨A2, n2, c2, rfl, hS2, hb2⟩
  have HS2 := hid hS2
  have HS1' := hid (HS1.out.below hb2)
  have hB2 := keepBelow hb2 hb1
  clear hS2 HS1 hb1 hb2
  go_wp2_with fail
  refine (test_calls A A2 n c n2 c2 (sqK 0 0 2) (sqK 3 1 2) _ HS1'.out HS2.out).mono ?_
  rintro e w3 ⟨rfl, hb3⟩
  rw [e1.out, e2.out, e3.out, e4.out]
  have hB3 := keepBelow hb3 hB2
  clear HS1' HS2 hB2 hb3
  go_wp2_with fail
  obtain ⟨g3, hg3⟩ : ∃ g, g = w3.heap.size := ⟨_, rfl⟩
  obtain ⟨w4, hw4⟩ : ∃ w4, w4 = w3.alloc (.cells #[.int .i64 65536, .int .i64 0] 25) := ⟨_, rfl⟩
  have c0 : w4.cell? ⟨g3, 0, none⟩ = some (.int .i64 65536) := by rw [hw4, hg3]; go_simp
  have c1 : w4.cell? ⟨g3, 1, none⟩ = some (.int .i64 0) := by rw [hw4, hg3]; go_simp
  have hB4 : Below w.heap.size w w4 := by rw [hw4]; exact hB3.alloc hB3.size _
  try rw [← hw4]
  try rw [← hg3]
  clear hw4 hg3 hB3
  refine (squareK_calls 0 0 1 (by omega) (by omega) (by omega) _).mono ?_
  rintro e w5 ⟨A5, n5, c5, rfl, hS5, hb5⟩
  have HS5 := hid hS5
  replace c0 := keepCell hb5 c0
  replace c1 := keepCell hb5 c1
  have hB5 := keepBelow hb5 hB4
  clear hS5 hb5 hB4
  go_wp2_with fail
  refine (squareK_calls 5 6 1 (by omega) (by omega) (by omega) _).mono ?_
  rintro e w6 ⟨A6, n6, c6, rfl, hS6, hb6⟩
  have HS6 := hid hS6
  have HS5' := hid (HS5.out.below hb6)
  replace c0 := keepCell hb6 c0
  replace c1 := keepCell hb6 c1
  have hB6 := keepBelow hb6 hB5
  clear hS6 hb6 hB5 HS5
  go_wp2_with fail
  refine (apart_calls A5 A6 n5 c5 n6 c6 (sqK 0 0 1) (sqK 5 6 1) _ HS5'.out HS6.out).mono ?_
  rintro e w7 ⟨rfl, hb7⟩
  rw [e5.out, e6.out]
  replace c0 := keepCell hb7 c0
  replace c1 := keepCell hb7 c1
  have hB7 := keepBelow hb7 hB6
  clear hb7 hB6 HS5' HS6
  go_wp2
  go_returns
  exact ret_bool rfl hB7

end Go.Proofs.Ythhfjiikmaghdaa
