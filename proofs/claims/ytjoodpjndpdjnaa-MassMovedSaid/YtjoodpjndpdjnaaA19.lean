/- Contracts of the law's own helpers: square, polyBegun. -/
import Derived.Test.YtjoodpjndpdjnaaA14
namespace Go.Proofs.Ytjoodpjndpdjnaa
set_option linter.unusedVariables false
set_option linter.unusedSimpArgs false
open Go.RowKit

/-- returns a slice that reads as l -/
def RetSl (l : List V) (w : World) (e : Ending) (w' : World) : Prop := ∃ A n c, e = .returned (.slice A n c) ∧ Sl w' A n c l ∧ Below w.heap.size w w'

theorem Sl.of4 {w : World} {g c : Nat} (a b p q r s u v : Int) (h0 : w.cell? ⟨g, 0, none⟩ = some (.int .i64 a)) (h1 : w.cell? ⟨g, 1, none⟩ = some (.int .i64 b)) (h2 : w.cell? ⟨g, 2, none⟩ = some (.int .i64 p)) (h3 : w.cell? ⟨g, 3, none⟩ = some (.int .i64 q))
    (h4 : w.cell? ⟨g, 4, none⟩ = some (.int .i64 r)) (h5 : w.cell? ⟨g, 5, none⟩ = some (.int .i64 s)) (h6 : w.cell? ⟨g, 6, none⟩ = some (.int .i64 u)) (h7 : w.cell? ⟨g, 7, none⟩ = some (.int .i64 v)) (hc : 4 ≤ c) (hc2 : c ≤ 9223372036854775807) : Sl w (some ⟨g, 0, none⟩) 4 c [(a, b), (p, q), (r, s), (u, v)] := by
  refine ⟨rfl, hc, hc2, fun _ => ⟨g, 0, rfl, lt_of_cell h0, fun j hj => ?_, fun j hj => ?_⟩⟩
  · match j, hj with
    | 0, _ => exact h0
    | 1, _ => exact h2
    | 2, _ => exact h4
    | 3, _ => exact h6
  · match j, hj with
    | 0, _ => exact h1
    | 1, _ => exact h3
    | 2, _ => exact h5
    | 3, _ => exact h7

def sqL (x y s : Int) : List V := [(x * 65536, y * 65536), (x * 65536 + s * 65536, y * 65536), (x * 65536 + s * 65536, y * 65536 + s * 65536), (x * 65536, y * 65536 + s * 65536)]

theorem square_calls (x y s : Int) (hx : -1048576 ≤ x ∧ x ≤ 1048576) (hy : -1048576 ≤ y ∧ y ≤ 1048576) (hs : -1048576 ≤ s ∧ s ≤ 1048576) (w : World) :
    Calls Try.prog 47 #[.int .i64 x, .int .i64 y, .int .i64 s] w (RetSl (sqL x y s) w) := by
  go_enter Try.func47, Try.ntmps47
  go_wp2
  go_returns
  exact ⟨_, _, _, rfl, Sl.of4 _ _ _ _ _ _ _ _ (by go_simp) (by go_simp) (by go_simp) (by go_simp) (by go_simp) (by go_simp) (by go_simp) (by go_simp) (by omega) (by omega), by go_grown⟩

theorem sq_check : checkE (sqL 0 0 2) = 0 := by decide
theorem sq_area : areaZ (sqL 0 0 2) = 34359738368 := by decide
theorem sq_supp : suppZ (sqL 0 0 2) 1 1 = 2 := by decide
theorem one_check : checkE [(0, 0)] = 3 := by decide
theorem Sl.of1 {w : World} {g c : Nat} (a b : Int) (h0 : w.cell? ⟨g, 0, none⟩ = some (.int .i64 a)) (h1 : w.cell? ⟨g, 1, none⟩ = some (.int .i64 b)) (hc : 1 ≤ c) (hc2 : c ≤ 9223372036854775807) : Sl w (some ⟨g, 0, none⟩) 1 c [(a, b)] := by
  refine ⟨rfl, hc, hc2, fun _ => ⟨g, 0, rfl, lt_of_cell h0, fun j hj => ?_, fun j hj => ?_⟩⟩
  · match j, hj with
    | 0, _ => exact h0
  · match j, hj with
    | 0, _ => exact h1

set_option maxRecDepth 100000 in
set_option maxHeartbeats 1000000 in
theorem polyBegun_calls (w : World) : Calls Try.prog 15 #[] w (Ret (.bool true) w) := by
  have e1 := hid sq_check
  have e2 := hid sq_area
  have e3 := hid sq_supp
  have e4 := hid one_check
  go_enter Try.func15, Try.ntmps15
  go_wp2_with fail
  refine (square_calls 0 0 2 (by omega) (by omega) (by omega) _).mono ?_
  rintro e w1 ⟨A, n, c, rfl, hS1, hb1⟩
  have HS1 := hid hS1
  clear hS1
  go_wp2_with (go_at_call 17; refine (area_calls _ _ _ (sqL 0 0 2) _ HS1.out).mono ?_; rintro e w2 ⟨rfl, hb2⟩; rw [if_pos e1.out, e2.out, e1.out])
  refine (check_calls _ _ _ [(0, 0)] _ (Sl.of1 0 0 (by go_simp) (by go_simp) (by omega) (by omega))).mono ?_
  rintro e w3 ⟨rfl, hb3⟩
  rw [e4.out]
  go_wp2_with (go_at_call 47; refine (square_calls 0 0 2 (by omega) (by omega) (by omega) _).mono ?_; rintro e w4 ⟨A2, n2, c2, rfl, hS4, hb4⟩; have HS4 := hid hS4; clear hS4)
  refine (support_calls _ _ _ (sqL 0 0 2) 1 1 (by unfold i64; omega) (by unfold i64; omega) _ HS4.out).mono ?_
  rintro e w5 ⟨rfl, hb5⟩
  rw [e3.out]
  go_wp2
  go_returns
  have z1 : Below w.heap.size w w2 := hb1.trans (hb2.mono hb1.size)
  have z2 : Below w.heap.size w w3 := (z1.alloc z1.size _).trans (hb3.mono (Nat.le_trans z1.size (by simp)))
  have z3 : Below w.heap.size w w4 := z2.trans (hb4.mono z2.size)
  exact ret_bool rfl (z3.trans (hb5.mono z3.size))

end Go.Proofs.Ytjoodpjndpdjnaa
