/- The contract of tourkeep2.weighs; the walk of MassDense. -/
import Derived.Test.YtjoodpjndpdjnaaM12
namespace Go.Proofs.Ytjoodpjndpdjnaa
set_option linter.unusedVariables false
set_option linter.unusedSimpArgs false
open Go.RowKit

theorem sqK_mass : massV (sqK 0 0 1) 65536 = .tuple #[.int .i64 262144, .int .i64 174763, vecV 0 0, .int .i64 0] := by
  have h1 : ofE (sqK 0 0 1) 65536 = 0 := by decide
  have h2 : massQ (sqK 0 0 1) 65536 = 262144 := by decide
  have h3 : inerQ (sqK 0 0 1) 65536 = 174763 := by decide
  have h4 : cenQ (sqK 0 0 1) = (0, 0) := by decide
  rw [massV_ok h1, h2, h3, h4]

set_option maxRecDepth 100000 in
set_option maxHeartbeats 1000000 in
theorem weighs_calls (w : World) : Calls Try.prog 56 #[] w (Ret (.bool true) w) := by
  have e1 := hid sqK_mass
  go_enter Try.func56, Try.ntmps56
  go_wp2_with fail
  refine (squareK_calls 0 0 1 (by omega) (by omega) (by omega) _).mono ?_
  rintro e w1 ⟨A, n, c, rfl, hS1, hb1⟩
  have HS1 := hid hS1
  clear hS1
  go_wp2_with fail
  refine (mof_calls _ _ _ (sqK 0 0 1) 65536 _ HS1.out (by unfold i64; omega)).mono ?_
  rintro e w2 ⟨rfl, hb2⟩
  rw [e1.out]
  have hB2 : Below w.heap.size w w2 := hb1.trans (hb2.mono hb1.size)
  go_wp2
  go_returns
  exact ret_bool rfl (by have := hB2.size; go_grown)

set_option maxRecDepth 100000 in
set_option maxHeartbeats 2000000 in
theorem massDense_walk (A : Option Addr) (n c : Nat) (r : List Int) (z : Int) (hz : i64 z) (w : World) (hS : SlI w A n c r) :
    Calls Try.prog 9 #[.slice A n c, .int .i64 z] w (Ret (.bool true) w) := by
  have hm1 := Int.emod_nonneg z (show (523288 : Int) ≠ 0 by omega)
  have hm2 := Int.emod_lt_of_pos z (show (0 : Int) < 523288 by omega)
  obtain ⟨d, hd⟩ : ∃ d, d = 1000 + z % 523288 := ⟨_, rfl⟩
  have hd1 : 1000 ≤ d ∧ d ≤ 524288 := by omega
  have hL := denseLaw (polyL_made r) hd1
  obtain ⟨L, hLe⟩ : ∃ L, L = polyL r := ⟨_, rfl⟩
  rw [← hLe] at hL
  have HD := hid hd
  have HLe := hid hLe
  have R1 := hid (massV_ok hL.e1)
  have R2 := hid (massV_ok hL.e2)
  have HL := hid hL
  have HS := hid hS
  clear hS hd hLe hL hz
  go_enter Try.func9, Try.ntmps9
  go_wp2_with fail
  refine (mPoly_calls _ _ _ r _ HS.out).mono ?_
  rintro e w1 ⟨A1, n1, c1, rfl, hs1, hf1, hb1⟩
  rw [← HLe.out] at hs1
  have HL1 := hid hs1
  clear hf1 hs1
  go_wp2_with fail
  refine (tbelow_calls z 523288 (by omega) (by omega) _).mono ?_
  rintro e w2 ⟨rfl, hb2⟩
  have HL2 := hid (HL1.out.below hb2)
  have hB2 := keepBelow hb2 hb1
  have hwr : IntKind.i64.wrap (1000 + z % 523288) = d := by rw [← HD.out]; exact IntWalk.i64_in _ (by omega)
  clear hb1 hb2 HL1
  go_wp2_with fail
  have HD2 : Hid (i64 d) := by show _ ∧ _; omega
  have HD3 : Hid (i64 (2 * d)) := by show _ ∧ _; omega
  clear hwr
  refine (mof_calls _ _ _ L d _ HL2.out HD2.out).mono ?_
  rintro e w3 ⟨rfl, hb3⟩
  rw [R1.out]
  have HL3 := hid (HL2.out.below hb3)
  have hB3 := keepBelow hb3 hB2
  clear hb3 HL2 hB2
  go_wp2_with fail
  refine (mof_calls _ _ _ L (2 * d) _ (HL3.out.alloc _) HD3.out).mono ?_
  rintro e w4 ⟨rfl, hb4⟩
  rw [R2.out]
  have k1 : w4.cell? ⟨w3.heap.size, 0, none⟩ = some (.int .i64 (cenQ L).1) := keepCell hb4 (by go_simp)
  have k2 : w4.cell? ⟨w3.heap.size, 1, none⟩ = some (.int .i64 (cenQ L).2) := keepCell hb4 (by go_simp)
  have hB4 : Below w.heap.size w w4 := keepBelow hb4 (hB3.alloc hB3.size _)
  clear hb4 hB3 HL3
  go_wp2_with fail
  refine (weighs_calls _).mono ?_
  rintro e w5 ⟨rfl, hb5⟩
  replace k1 : w5.cell? ⟨w3.heap.size, 0, none⟩ = some (.int .i64 (cenQ L).1) := keepCell hb5 (by have := lt_of_cell k1; go_simp)
  replace k2 : w5.cell? ⟨w3.heap.size, 1, none⟩ = some (.int .i64 (cenQ L).2) := keepCell hb5 (by have := lt_of_cell k2; go_simp)
  have k3 : w5.cell? ⟨w4.heap.size, 0, none⟩ = some (.int .i64 (cenQ L).1) := keepCell hb5 (by go_simp)
  have k4 : w5.cell? ⟨w4.heap.size, 1, none⟩ = some (.int .i64 (cenQ L).2) := keepCell hb5 (by go_simp)
  have hB5 : Below w.heap.size w w5 := keepBelow hb5 (hB4.alloc hB4.size _)
  obtain ⟨a1, a2⟩ := HL.out.m1
  obtain ⟨a3, a4⟩ := HL.out.m2
  obtain ⟨a5, a6⟩ := HL.out.i1
  obtain ⟨a7, a8⟩ := HL.out.i2
  obtain ⟨a9, a10⟩ := HL.out.m
  obtain ⟨a11, a12⟩ := HL.out.i
  clear R1 R2 HL HLe HD hB4 hb5 HS HD2 HD3
  generalize massQ L d = m at *
  generalize massQ L (2 * d) = m2 at *
  generalize inerQ L d = i at *
  generalize inerQ L (2 * d) = i2 at *
  generalize (cenQ L).1 = u at *
  generalize (cenQ L).2 = v at *
  have w1' : IntKind.i64.wrap (2 * m) = 2 * m := IntWalk.i64_in _ (by omega)
  have w2' : IntKind.i64.wrap (2 * i) = 2 * i := IntWalk.i64_in _ (by omega)
  have w3' : IntKind.i64.wrap (m2 - 2 * m) = m2 - 2 * m := IntWalk.i64_in _ (by omega)
  have w4' : IntKind.i64.wrap (2 * m - m2) = 2 * m - m2 := IntWalk.i64_in _ (by omega)
  have w5' : IntKind.i64.wrap (i2 - 2 * i) = i2 - 2 * i := IntWalk.i64_in _ (by omega)
  have w6' : IntKind.i64.wrap (2 * i - i2) = 2 * i - i2 := IntWalk.i64_in _ (by omega)
  obtain ⟨x, hx⟩ : ∃ x, x = if 2 * m - m2 > m2 - 2 * m then 2 * m - m2 else m2 - 2 * m := ⟨_, rfl⟩
  obtain ⟨y, hy⟩ : ∃ y, y = if 2 * i - i2 > i2 - 2 * i then 2 * i - i2 else i2 - 2 * i := ⟨_, rfl⟩
  have hr1 : ∀ (ts : Array TypeId) (t : TypeId) (w : World), (Builtin.max_ ts t #[.int .i64 (m2 - 2 * m), .int .i64 (2 * m - m2)]).run Try.prog w = .ok (.int .i64 x) w := fun ts t w => by rw [hx]; exact run_max_int2 w ts t _ _ _ _
  have hr2 : ∀ (ts : Array TypeId) (t : TypeId) (w : World), (Builtin.max_ ts t #[.int .i64 (i2 - 2 * i), .int .i64 (2 * i - i2)]).run Try.prog w = .ok (.int .i64 y) w := fun ts t w => by rw [hy]; exact run_max_int2 w ts t _ _ _ _
  have hx1 : x ≤ 1 := by rw [hx]; split <;> omega
  have hy1 : y ≤ 1 := by rw [hy]; split <;> omega
  clear hx hy
  go_wp2
  go_returns
  exact ret_bool (by simp [hx1, hy1]) (by go_grown)

end Go.Proofs.Ytjoodpjndpdjnaa
