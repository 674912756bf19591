/- The walk of MassMoved. -/
import Derived.Test.YtjoodpjndpdjnaaG7
import Derived.Test.YtjoodpjndpdjnaaU0
namespace Go.Proofs.Ytjoodpjndpdjnaa
set_option linter.unusedVariables false
set_option linter.unusedSimpArgs false
open Go.RowKit

theorem massV_err {l : List V} {d e : Int} (h : ofE l d = e) (he : e ≠ 0) : massV l d = .tuple #[.int .i64 0, .int .i64 0, vecV 0 0, .int .i64 e] := massV_bad h he

set_option maxRecDepth 100000 in
set_option maxHeartbeats 2000000 in
theorem massMoved_walk (A : Option Addr) (n c : Nat) (r : List Int) (z x y : Int) (hz : i64 z) (w : World) (hS : SlI w A n c r) :
    Calls Try.prog 10 #[.slice A n c, .int .i64 z, .int .i64 x, .int .i64 y] w (Ret (.bool true) w) := by
  have hm1 := Int.emod_nonneg z (show (1048576 : Int) ≠ 0 by omega)
  have hm2 := Int.emod_lt_of_pos z (show (0 : Int) < 1048576 by omega)
  obtain ⟨d, hd⟩ : ∃ d, d = 1 + z % 1048576 := ⟨_, rfl⟩
  have hd1 : 1 ≤ d ∧ d ≤ 1048576 := by omega
  obtain ⟨u, hu⟩ : ∃ u, u = x % 1572864 - 786432 := ⟨_, rfl⟩
  obtain ⟨v, hv⟩ : ∃ v, v = y % 1572864 - 786432 := ⟨_, rfl⟩
  have hu1 : -786432 ≤ u ∧ u ≤ 786432 := by omega
  have hv1 : -786432 ≤ v ∧ v ≤ 786432 := by omega
  have hL := movedLaw (polyL_made r) hu1 hv1 hd1
  obtain ⟨L, hLe⟩ : ∃ L, L = polyL r := ⟨_, rfl⟩
  rw [← hLe] at hL
  have HD := hid hd
  have HU := hid hu
  have HV := hid hv
  have HLe := hid hLe
  have HL := hid hL
  have HS := hid hS
  have HD2 : Hid (i64 d) := by show _ ∧ _; omega
  clear hS hd hLe hL hz hu hv
  go_enter Try.func10, Try.ntmps10
  go_wp2_with fail
  refine (mPoly_calls _ _ _ r _ HS.out).mono ?_
  rintro e w1 ⟨A1, n1, c1, rfl, hs1, hf1, hb1⟩
  rw [← HLe.out] at hs1
  have HL1 := hid hs1
  clear hf1 hs1
  go_wp2_with fail
  refine (place_calls x y _).mono ?_
  rintro e w2 ⟨rfl, hb2⟩
  rw [← HU.out, ← HV.out]
  have HL2 := hid (HL1.out.below hb2)
  have hB2 := keepBelow hb2 hb1
  have hwr : IntKind.i64.wrap (1 + z % 1048576) = d := by rw [← HD.out]; exact IntWalk.i64_in _ (by omega)
  clear hb1 hb2 HL1
  go_wp2_with fail
  refine (tbelow_calls z 1048576 (by omega) (by omega) _).mono ?_
  rintro e w3 ⟨rfl, hb3⟩
  have HL3 := hid ((HL2.out.alloc _).below hb3)
  have b1 : w3.cell? ⟨w2.heap.size, 0, none⟩ = some (.int .i64 u) := keepCell hb3 (by go_simp)
  have b2 : w3.cell? ⟨w2.heap.size, 1, none⟩ = some (.int .i64 v) := keepCell hb3 (by go_simp)
  have hB3 := keepBelow hb3 (hB2.alloc hB2.size _)
  clear hB2 hb3 HL2
  go_wp2_with fail
  clear hwr
  by_cases he : ofE L d = 0
  · have R1 := hid (massV_ok he)
    have R2 := hid (massV_ok (show ofE (movL L u v) d = 0 by rw [HL.out.e]; exact he))
    have R3 := hid (massV_ok (show ofE (centL L) d = 0 by rw [HL.out.ce]; exact he))
    clear he
    refine (mof_calls _ _ _ L d _ HL3.out HD2.out).mono ?_
    rintro e w4 ⟨rfl, hb4⟩
    rw [R1.out]
    replace b1 := keepCell hb4 b1
    replace b2 := keepCell hb4 b2
    have HL4 := hid (HL3.out.below hb4)
    have hB4 := keepBelow hb4 hB3
    have hz4 := lt_of_cell b1
    clear hb4 hB3 HL3
    go_wp2_with fail
    refine (moved_calls _ _ _ L u v _ (HL4.out.alloc _) HL.out.len (by omega) (by omega) HL.out.within).mono ?_
    rintro e w5 ⟨A5, n5, c5, rfl, hs5, hf5, hb5⟩
    have a1 : w5.cell? ⟨w4.heap.size, 0, none⟩ = some (.int .i64 (cenQ L).1) := keepCell hb5 (by go_simp)
    have a2 : w5.cell? ⟨w4.heap.size, 1, none⟩ = some (.int .i64 (cenQ L).2) := keepCell hb5 (by go_simp)
    replace b1 : w5.cell? ⟨w2.heap.size, 0, none⟩ = some (.int .i64 u) := keepCell hb5 (by go_simp)
    replace b2 : w5.cell? ⟨w2.heap.size, 1, none⟩ = some (.int .i64 v) := keepCell hb5 (by go_simp)
    have HM5 := hid hs5
    have HL5 := hid ((HL4.out.alloc _).below hb5)
    have hB5 := keepBelow hb5 (hB4.alloc hB4.size _)
    clear hb5 hB4 HL4 hs5 hf5 hz4
    go_wp2_with fail
    refine (mof_calls _ _ _ (movL L u v) d _ HM5.out HD2.out).mono ?_
    rintro e w6 ⟨rfl, hb6⟩
    rw [R2.out, HL.out.m, HL.out.i, HL.out.cx, HL.out.cy]
    replace a1 := keepCell hb6 a1
    replace a2 := keepCell hb6 a2
    replace b1 := keepCell hb6 b1
    replace b2 := keepCell hb6 b2
    have HL6 := hid (HL5.out.below hb6)
    have hB6 := keepBelow hb6 hB5
    have hz6 := lt_of_cell a1
    have hz7 := lt_of_cell b1
    clear hb6 hB5 HL5 HM5
    go_wp2_with fail
    refine (weighs_calls _).mono ?_
    rintro e w7 ⟨rfl, hb7⟩
    have g1 : w7.cell? ⟨w6.heap.size, 0, none⟩ = some (.int .i64 ((cenQ L).1 + u)) := keepCell hb7 (by go_simp)
    have g2 : w7.cell? ⟨w6.heap.size, 1, none⟩ = some (.int .i64 ((cenQ L).2 + v)) := keepCell hb7 (by go_simp)
    replace a1 : w7.cell? ⟨w4.heap.size, 0, none⟩ = some (.int .i64 (cenQ L).1) := keepCell hb7 (by go_simp)
    replace a2 : w7.cell? ⟨w4.heap.size, 1, none⟩ = some (.int .i64 (cenQ L).2) := keepCell hb7 (by go_simp)
    replace b1 : w7.cell? ⟨w2.heap.size, 0, none⟩ = some (.int .i64 u) := keepCell hb7 (by go_simp)
    replace b2 : w7.cell? ⟨w2.heap.size, 1, none⟩ = some (.int .i64 v) := keepCell hb7 (by go_simp)
    have HL7 := hid ((HL6.out.alloc _).below hb7)
    have hB7 := keepBelow hb7 (hB6.alloc hB6.size _)
    clear hb7 hB6 HL6 hz6 hz7
    go_wp2_with fail
    refine (mcentred_calls _ _ _ L _ HL7.out).mono ?_
    rintro e w8 ⟨A8, n8, c8, rfl, hs8, hb8⟩
    rw [HL.out.cenr] at hs8
    rw [HL.out.cen]
    replace g1 := keepCell hb8 g1
    replace g2 := keepCell hb8 g2
    replace a1 := keepCell hb8 a1
    replace a2 := keepCell hb8 a2
    replace b1 := keepCell hb8 b1
    replace b2 := keepCell hb8 b2
    have HC8 := hid hs8
    have hB8 := keepBelow hb8 hB7
    clear hb8 hB7 HL7 hs8
    go_wp2_with fail
    refine (mof_calls _ _ _ (centL L) d _ HC8.out HD2.out).mono ?_
    rintro e w9 ⟨rfl, hb9⟩
    rw [R3.out, HL.out.c0]
    replace g1 := keepCell hb9 g1
    replace g2 := keepCell hb9 g2
    replace a1 := keepCell hb9 a1
    replace a2 := keepCell hb9 a2
    replace b1 := keepCell hb9 b1
    replace b2 := keepCell hb9 b2
    have hB9 := keepBelow hb9 hB8
    obtain ⟨c1', c2', c3', c4'⟩ := HL.out.cb
    have hz1 := lt_of_cell g1
    have hz2 := lt_of_cell a1
    have hz3 := lt_of_cell b1
    clear hb9 hB8 HC8 R1 R2 R3
    generalize (cenQ L).1 = p at *
    generalize (cenQ L).2 = q at *
    have q1 : IntKind.i64.wrap (p + u) = p + u := IntWalk.i64_in _ (by omega)
    have q2 : IntKind.i64.wrap (q + v) = q + v := IntWalk.i64_in _ (by omega)
    go_wp2
    go_returns
    exact ret_bool (by simp) (by have := hB9.size; go_grown)
  · have hbad := HL.out.bad he
    obtain ⟨e0, he0⟩ : ∃ e0, e0 = ofE L d := ⟨_, rfl⟩
    rw [← he0] at he hbad
    have R1 := hid (massV_err he0.symm he)
    have R2 := hid (massV_err (show ofE (movL L u v) d = e0 by rw [HL.out.e, he0]) he)
    have hne : (e0 != 0) = true := by simp [he]
    clear he he0
    refine (mof_calls _ _ _ L d _ HL3.out HD2.out).mono ?_
    rintro e w4 ⟨rfl, hb4⟩
    rw [R1.out]
    replace b1 := keepCell hb4 b1
    replace b2 := keepCell hb4 b2
    have HL4 := hid (HL3.out.below hb4)
    have hB4 := keepBelow hb4 hB3
    have hz4 := lt_of_cell b1
    clear hb4 hB3 HL3
    go_wp2_with fail
    refine (moved_calls _ _ _ L u v _ (HL4.out.alloc _) HL.out.len (by omega) (by omega) HL.out.within).mono ?_
    rintro e w5 ⟨A5, n5, c5, rfl, hs5, hf5, hb5⟩
    have HM5 := hid hs5
    have hB5 := keepBelow hb5 (hB4.alloc hB4.size _)
    clear hb5 hB4 HL4 hs5 hf5 hz4 b1 b2
    go_wp2_with fail
    refine (mof_calls _ _ _ (movL L u v) d _ HM5.out HD2.out).mono ?_
    rintro e w6 ⟨rfl, hb6⟩
    rw [R2.out]
    have hB6 := keepBelow hb6 hB5
    clear hb6 hB5 HM5
    go_wp2_with fail
    refine (weighs_calls _).mono ?_
    rintro e w7 ⟨rfl, hb7⟩
    have hB7 := keepBelow hb7 (hB6.alloc hB6.size _)
    clear hb7 hB6 R1 R2
    rcases hbad with rfl | rfl
    · go_wp2
      go_returns
      exact ret_bool rfl (by go_grown)
    · go_wp2
      go_returns
      exact ret_bool rfl (by go_grown)

end Go.Proofs.Ytjoodpjndpdjnaa
