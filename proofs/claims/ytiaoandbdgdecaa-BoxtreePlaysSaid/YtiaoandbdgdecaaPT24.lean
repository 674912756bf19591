/- Parts of a proof: contracts and laws. -/
import Derived.Test.YtiaoandbdgdecaaPT23
namespace Go.Proofs.Ytiaoandbdgdecaa
section
set_option linter.unusedVariables false
set_option linter.unusedSimpArgs false
open Go.RowKit
def RetU (w : World) (e : Ending) (w' : World) : Prop := (∃ z : Int, e = .returned (.int .u64 z)) ∧ Below w.heap.size w w'
set_option maxRecDepth 100000 in
theorem grows1_calls (x1 x2 x3 x4 : Int) (w : World) : Calls Try.prog 46 #[bxV ((x1, x2), (x3, x4))] w (RetU w) := by
  go_enter Try.func46, Try.ntmps46
  go_wp2
  go_returns
  exact ⟨⟨_, rfl⟩, by go_grown⟩
theorem cf_grows1 (args : Array Value) (w : World) : (callFunc 46 args).run Try.prog w = .ok (.enter 46 args) w := by kernel_rfl
set_option maxRecDepth 100000 in
set_option maxHeartbeats 4000000 in
theorem grows_calls (a1 a2 a3 a4 b1 b2 b3 b4 : Int) (w : World) : Calls Try.prog 26 #[bxV ((a1, a2), (a3, a4)), bxV ((b1, b2), (b3, b4))] w (RetU w) := by
  have HG1 := hid grows1_calls
  have hcf := cf_grows1
  obtain ⟨j1, j2, j3, j4, hj⟩ : ∃ j1 j2 j3 j4, joinB ((a1, a2), (a3, a4)) ((b1, b2), (b3, b4)) = ((j1, j2), (j3, j4)) := ⟨_, _, _, _, rfl⟩
  have HJ : Hid (∀ w, Calls Try.prog 45 #[bxV ((a1, a2), (a3, a4)), bxV ((b1, b2), (b3, b4))] w (Ret (bxV ((j1, j2), (j3, j4))) w)) := fun w => by have := sjoin_calls a1 a2 a3 a4 b1 b2 b3 b4 w; rwa [hj] at this
  clear hj
  obtain ⟨ga, hga⟩ : ∃ g, g = w.heap.size := ⟨_, rfl⟩
  obtain ⟨W, hW⟩ : ∃ W, W = (w.alloc (.cells #[.int .i64 a1, .int .i64 a2, .int .i64 a3, .int .i64 a4] 32)).alloc (.cells #[.int .i64 b1, .int .i64 b2, .int .i64 b3, .int .i64 b4] 32) := ⟨_, rfl⟩
  have hb0 : Below w.heap.size w W := by rw [hW]; go_grown
  have a_0 : W.cell? ⟨ga, 0, none⟩ = some (.int .i64 a1) := by rw [hW, hga]; go_simp
  have a_1 : W.cell? ⟨ga, 1, none⟩ = some (.int .i64 a2) := by rw [hW, hga]; go_simp
  have a_2 : W.cell? ⟨ga, 2, none⟩ = some (.int .i64 a3) := by rw [hW, hga]; go_simp
  have a_3 : W.cell? ⟨ga, 3, none⟩ = some (.int .i64 a4) := by rw [hW, hga]; go_simp
  have b_0 : W.cell? ⟨ga + 1, 0, none⟩ = some (.int .i64 b1) := by rw [hW, hga]; go_simp
  have b_1 : W.cell? ⟨ga + 1, 1, none⟩ = some (.int .i64 b2) := by rw [hW, hga]; go_simp
  have b_2 : W.cell? ⟨ga + 1, 2, none⟩ = some (.int .i64 b3) := by rw [hW, hga]; go_simp
  have b_3 : W.cell? ⟨ga + 1, 3, none⟩ = some (.int .i64 b4) := by rw [hW, hga]; go_simp
  have lg : ga < W.heap.size := lt_of_cell a_0
  have lg1 : ga + 1 < W.heap.size := lt_of_cell b_0
  go_enter Try.func26, Try.ntmps26
  go_upto_region 1 with fail
  rw [← hW, ← hga]
  clear hW hga
  go_wp2_with fail
  refine (HJ.out _).mono ?_
  rintro e w1 ⟨rfl, hb⟩
  replace a_0 := keepCell hb a_0
  replace a_1 := keepCell hb a_1
  replace a_2 := keepCell hb a_2
  replace a_3 := keepCell hb a_3
  replace hb0 := keepBelow hb hb0
  clear b_0 b_1 b_2 b_3 lg lg1 hb HJ
  obtain ⟨gj, hgj⟩ : ∃ g, g = w1.heap.size := ⟨_, rfl⟩
  obtain ⟨w2, hw2⟩ : ∃ w2, w2 = w1.alloc (.cells #[.int .i64 j1, .int .i64 j2, .int .i64 j3, .int .i64 j4] 32) := ⟨_, rfl⟩
  have hb2 : Below w1.heap.size w1 w2 := by rw [hw2]; go_grown
  have j_0 : w2.cell? ⟨gj, 0, none⟩ = some (.int .i64 j1) := by rw [hw2, hgj]; go_simp
  have j_1 : w2.cell? ⟨gj, 1, none⟩ = some (.int .i64 j2) := by rw [hw2, hgj]; go_simp
  have j_2 : w2.cell? ⟨gj, 2, none⟩ = some (.int .i64 j3) := by rw [hw2, hgj]; go_simp
  have j_3 : w2.cell? ⟨gj, 3, none⟩ = some (.int .i64 j4) := by rw [hw2, hgj]; go_simp
  have J0 := hid j_0
  have J1 := hid j_1
  have J2 := hid j_2
  have J3 := hid j_3
  have A0 := hid (keepCell hb2 a_0)
  have A1 := hid (keepCell hb2 a_1)
  have A2 := hid (keepCell hb2 a_2)
  have A3 := hid (keepCell hb2 a_3)
  have HB := hid (keepBelow hb2 hb0)
  clear a_0 a_1 a_2 a_3 j_0 j_1 j_2 j_3 hb0 hb2
  go_upto_region 3 with fail
  rw [← hw2, ← hgj]
  clear hw2 hgj
  refine wp_region_noPanic ?_
  refine wp_region_U (S := (S2 (fun w' => w'.cell? ⟨gj, 0, none⟩ = some (.int .i64 j1) ∧ w'.cell? ⟨gj, 1, none⟩ = some (.int .i64 j2) ∧ w'.cell? ⟨gj, 2, none⟩ = some (.int .i64 j3) ∧ w'.cell? ⟨gj, 3, none⟩ = some (.int .i64 j4) ∧ w'.cell? ⟨ga, 0, none⟩ = some (.int .i64 a1) ∧ w'.cell? ⟨ga, 1, none⟩ = some (.int .i64 a2) ∧ w'.cell? ⟨ga, 2, none⟩ = some (.int .i64 a3) ∧ w'.cell? ⟨ga, 3, none⟩ = some (.int .i64 a4) ∧ Below w.heap.size w w'))) (T := (fun _ => 0)) (by kernel_rfl) (S2i0 ⟨J0.out, J1.out, J2.out, J3.out, A0.out, A1.out, A2.out, A3.out, HB.out.drew⟩) (fun hH => ?_)
  have hWr1 : Weaker (S2 (fun w' => w'.cell? ⟨gj, 0, none⟩ = some (.int .i64 j1) ∧ w'.cell? ⟨gj, 1, none⟩ = some (.int .i64 j2) ∧ w'.cell? ⟨gj, 2, none⟩ = some (.int .i64 j3) ∧ w'.cell? ⟨gj, 3, none⟩ = some (.int .i64 j4) ∧ w'.cell? ⟨ga, 0, none⟩ = some (.int .i64 a1) ∧ w'.cell? ⟨ga, 1, none⟩ = some (.int .i64 a2) ∧ w'.cell? ⟨ga, 2, none⟩ = some (.int .i64 a3) ∧ w'.cell? ⟨ga, 3, none⟩ = some (.int .i64 a4) ∧ Below w.heap.size w w')) := weaker2 _
  refine Ut 0 10 7 0 0 (v := ?vr1_1) rfl hWr1 hH ?yr1_1 ?_
  case yr1_1 => (intro w' hSw; clear hSw; go_simp; try (with_reducible rfl))
  simp only [sB, sC]
  refine Ut 1 11 6 0 0 (v := ?vr1_2) rfl hWr1 hH ?yr1_2 ?_
  case yr1_2 => (intro w' hSw; replace hSw := S2o0 hSw; (try dsimp only at hSw); have q0 := hSw.1; have q1 := hSw.2.1; have q2 := hSw.2.2.1; have q3 := hSw.2.2.2.1; have q4 := hSw.2.2.2.2.1; have q5 := hSw.2.2.2.2.2.1; have q6 := hSw.2.2.2.2.2.2.1; have q7 := hSw.2.2.2.2.2.2.2.1; have q8 := hSw.2.2.2.2.2.2.2.2; go_simp; try (with_reducible rfl))
  simp only [sB, sC]
  refine Ut 3 13 5 0 0 (v := ?vr1_3) rfl hWr1 hH ?yr1_3 ?_
  case yr1_3 => (intro w' hSw; clear hSw; go_simp; try (with_reducible rfl))
  simp only [sB, sC]
  refine Ut 4 14 4 0 0 (v := ?vr1_4) rfl hWr1 hH ?yr1_4 ?_
  case yr1_4 => (intro w' hSw; replace hSw := S2o0 hSw; (try dsimp only at hSw); have q0 := hSw.1; have q1 := hSw.2.1; have q2 := hSw.2.2.1; have q3 := hSw.2.2.2.1; have q4 := hSw.2.2.2.2.1; have q5 := hSw.2.2.2.2.2.1; have q6 := hSw.2.2.2.2.2.2.1; have q7 := hSw.2.2.2.2.2.2.2.1; have q8 := hSw.2.2.2.2.2.2.2.2; go_simp; try (with_reducible rfl))
  simp only [sB, sC]
  refine U1 2 0 rfl (fun K hK => ?_)
  try clear hb
  go_simp
  (go_at_call 46; refine (HG1.out _ _ _ _ _).mono ?_; rintro e wn ⟨⟨z2, rfl⟩, hb⟩)
  refine hK.out _ _ (S2i0 (by have hG := hH; replace hG := S2o0 hG; (try dsimp only at hG); have q0 := hG.1; have q1 := hG.2.1; have q2 := hG.2.2.1; have q3 := hG.2.2.2.1; have q4 := hG.2.2.2.2.1; have q5 := hG.2.2.2.2.2.1; have q6 := hG.2.2.2.2.2.2.1; have q7 := hG.2.2.2.2.2.2.2.1; have q8 := hG.2.2.2.2.2.2.2.2; exact ⟨keepCell hb q0, keepCell hb q1, keepCell hb q2, keepCell hb q3, keepCell hb q4, keepCell hb q5, keepCell hb q6, keepCell hb q7, keepBelow hb q8⟩)) (fun hH2 => ?_)
  clear hK K hH
  rename _ => hH
  try simp only [Act.put, sA, sB, sC]
  refine U1 5 0 rfl (fun K hK => ?_)
  try clear hb
  go_simp
  (go_at_call 46; refine (HG1.out _ _ _ _ _).mono ?_; rintro e wn ⟨⟨z5, rfl⟩, hb⟩)
  refine hK.out _ _ (S2i0 (by have hG := hH; replace hG := S2o0 hG; (try dsimp only at hG); have q0 := hG.1; have q1 := hG.2.1; have q2 := hG.2.2.1; have q3 := hG.2.2.2.1; have q4 := hG.2.2.2.2.1; have q5 := hG.2.2.2.2.2.1; have q6 := hG.2.2.2.2.2.2.1; have q7 := hG.2.2.2.2.2.2.2.1; have q8 := hG.2.2.2.2.2.2.2.2; exact ⟨keepCell hb q0, keepCell hb q1, keepCell hb q2, keepCell hb q3, keepCell hb q4, keepCell hb q5, keepCell hb q6, keepCell hb q7, keepBelow hb q8⟩)) (fun hH2 => ?_)
  clear hK K hH
  rename _ => hH
  try simp only [Act.put, sA, sB, sC]
  refine Ut 6 16 1 0 0 (v := ?vr1_7) rfl hWr1 hH ?yr1_7 ?_
  case yr1_7 => (intro w' hSw; clear hSw; go_simp; try (with_reducible rfl))
  simp only [sB, sC]
  refine Ut 7 4 0 0 0 (v := ?vr1_8) rfl hWr1 hH ?yr1_8 ?_
  case yr1_8 => (intro w' hSw; clear hSw; go_simp; try (with_reducible rfl))
  simp only [sB, sC]
  refine wpAnyU_done (by kernel_rfl) ?_ _ _
  refine NoPanic.normal ?_
  clear hWr1
  replace hH := S2o0 hH
  (try dsimp only at hH)
  have t0 := hH.1
  have t1 := hH.2.1
  have t2 := hH.2.2.1
  have t3 := hH.2.2.2.1
  have t4 := hH.2.2.2.2.1
  have t5 := hH.2.2.2.2.2.1
  have t6 := hH.2.2.2.2.2.2.1
  have t7 := hH.2.2.2.2.2.2.2.1
  have t8 := hH.2.2.2.2.2.2.2.2
  go_wp2_with fail
  go_returns
  exact ⟨⟨_, rfl⟩, by first | exact t8 | exact t8.drew⟩
end
end Go.Proofs.Ytiaoandbdgdecaa
