/- Parts of a proof: contracts and laws. -/
import Derived.Test.YtkiiehobphkmgaaPZ05
import Derived.Test.YtkiiehobphkmgaaPZ04
namespace Go.Proofs.Ytkiiehobphkmgaa
section
set_option linter.unusedVariables false
set_option linter.unusedSimpArgs false
open Go.RowKit
def crossF (a b c d : Int) : Int := subF (mulF a d) (mulF b c)
set_option maxRecDepth 100000 in
set_option maxHeartbeats 1000000 in
theorem vsub_calls (a b c d : Int) (w : World) : Calls Try.prog 21 #[vecV a b, vecV c d] w (Ret (vecV (subF a c) (subF b d)) w) := by
  obtain ⟨W, hW⟩ : ∃ W, W = ((w.alloc (.cells #[.int .i64 a, .int .i64 b] 24)).alloc (.cells #[.int .i64 c, .int .i64 d] 24)).alloc (.cells #[.int .i64 0, .int .i64 0] 24) := ⟨_, rfl⟩
  have k0 : W.cell? ⟨w.heap.size, 0, none⟩ = some (.int .i64 a) := by rw [hW]; go_simp
  have k1 : W.cell? ⟨w.heap.size, 1, none⟩ = some (.int .i64 b) := by rw [hW]; go_simp
  have k2 : W.cell? ⟨w.heap.size + 1, 0, none⟩ = some (.int .i64 c) := by rw [hW]; go_simp
  have k3 : W.cell? ⟨w.heap.size + 1, 1, none⟩ = some (.int .i64 d) := by rw [hW]; go_simp
  have HT : Hid (There W.drew (w.heap.size + 2) 2) := by
    rw [hW]
    exact fun j hj => by
      match j, hj with
      | 0, _ | 1, _ => exact ⟨⟨_, by go_simp; rfl⟩, by go_simp⟩
  have hB : Below w.heap.size w W := by rw [hW]; go_grown
  go_enter Try.func21, Try.ntmps21
  go_wp2_with fail
  rw [← hW]
  clear hW
  refine wp_region_noPanic ?_
  refine wp_region_U (S := (S2 (fun w' => w'.cell? ⟨w.heap.size, 0, none⟩ = some (.int .i64 (a)) ∧ w'.cell? ⟨w.heap.size, 1, none⟩ = some (.int .i64 (b)) ∧ w'.cell? ⟨w.heap.size + 1, 0, none⟩ = some (.int .i64 (c)) ∧ w'.cell? ⟨w.heap.size + 1, 1, none⟩ = some (.int .i64 (d)) ∧ There w' (w.heap.size + 2) 2 ∧ Below w.heap.size w w'))) (T := (fun j => [0, 0, 0, 0, 0, 0, 0, 0, 0, 0, 0, 1].getD j 0)) (by kernel_rfl) (S2i0 ⟨k0, k1, k2, k3, HT.out, hB.drew⟩) (fun hH => ?_)
  have hWr1 : Weaker (S2 (fun w' => w'.cell? ⟨w.heap.size, 0, none⟩ = some (.int .i64 (a)) ∧ w'.cell? ⟨w.heap.size, 1, none⟩ = some (.int .i64 (b)) ∧ w'.cell? ⟨w.heap.size + 1, 0, none⟩ = some (.int .i64 (c)) ∧ w'.cell? ⟨w.heap.size + 1, 1, none⟩ = some (.int .i64 (d)) ∧ There w' (w.heap.size + 2) 2 ∧ Below w.heap.size w w')) := weaker2 _
  refine U_take 0 5 11 0 0 (v := ?vr1_1) rfl (by kernel_rfl) (by kernel_rfl) hWr1 (by kernel_rfl) (by kernel_rfl) (by kernel_rfl) (by kernel_rfl) (by kernel_rfl) (by kernel_rfl) (fun _ _ _ _ h => h) (by kernel_rfl) ?hyr1_1 (by omega) hH ?_
  case hyr1_1 => (intro w' hSw; clear hSw; go_simp; try (with_reducible rfl))
  simp only [List.set_cons_zero, List.set_cons_succ]
  refine U_take 1 6 10 0 0 (v := ?vr1_2) rfl (by kernel_rfl) (by kernel_rfl) hWr1 (by kernel_rfl) (by kernel_rfl) (by kernel_rfl) (by kernel_rfl) (by kernel_rfl) (by kernel_rfl) (fun _ _ _ _ h => h) (by kernel_rfl) ?hyr1_2 (by omega) hH ?_
  case hyr1_2 => (intro w' hSw; replace hSw := S2o0 hSw; (try dsimp only at hSw); have q0 := hSw.1; have q1 := hSw.2.1; have q2 := hSw.2.2.1; have q3 := hSw.2.2.2.1; have q4 := hSw.2.2.2.2.1; have q5 := hSw.2.2.2.2.2; go_simp; try (with_reducible rfl))
  simp only [List.set_cons_zero, List.set_cons_succ]
  refine U_take 2 7 9 0 0 (v := ?vr1_3) rfl (by kernel_rfl) (by kernel_rfl) hWr1 (by kernel_rfl) (by kernel_rfl) (by kernel_rfl) (by kernel_rfl) (by kernel_rfl) (by kernel_rfl) (fun _ _ _ _ h => h) (by kernel_rfl) ?hyr1_3 (by omega) hH ?_
  case hyr1_3 => (intro w' hSw; clear hSw; go_simp; try (with_reducible rfl))
  simp only [List.set_cons_zero, List.set_cons_succ]
  refine U_take 3 8 8 0 0 (v := ?vr1_4) rfl (by kernel_rfl) (by kernel_rfl) hWr1 (by kernel_rfl) (by kernel_rfl) (by kernel_rfl) (by kernel_rfl) (by kernel_rfl) (by kernel_rfl) (fun _ _ _ _ h => h) (by kernel_rfl) ?hyr1_4 (by omega) hH ?_
  case hyr1_4 => (intro w' hSw; replace hSw := S2o0 hSw; (try dsimp only at hSw); have q0 := hSw.1; have q1 := hSw.2.1; have q2 := hSw.2.2.1; have q3 := hSw.2.2.2.1; have q4 := hSw.2.2.2.2.1; have q5 := hSw.2.2.2.2.2; go_simp; try (with_reducible rfl))
  simp only [List.set_cons_zero, List.set_cons_succ]
  refine U_take 5 10 7 0 0 (v := ?vr1_5) rfl (by kernel_rfl) (by kernel_rfl) hWr1 (by kernel_rfl) (by kernel_rfl) (by kernel_rfl) (by kernel_rfl) (by kernel_rfl) (by kernel_rfl) (fun _ _ _ _ h => h) (by kernel_rfl) ?hyr1_5 (by omega) hH ?_
  case hyr1_5 => (intro w' hSw; clear hSw; go_simp; try (with_reducible rfl))
  simp only [List.set_cons_zero, List.set_cons_succ]
  refine U_take 6 11 6 0 0 (v := ?vr1_6) rfl (by kernel_rfl) (by kernel_rfl) hWr1 (by kernel_rfl) (by kernel_rfl) (by kernel_rfl) (by kernel_rfl) (by kernel_rfl) (by kernel_rfl) (fun _ _ _ _ h => h) (by kernel_rfl) ?hyr1_6 (by omega) hH ?_
  case hyr1_6 => (intro w' hSw; replace hSw := S2o0 hSw; (try dsimp only at hSw); have q0 := hSw.1; have q1 := hSw.2.1; have q2 := hSw.2.2.1; have q3 := hSw.2.2.2.1; have q4 := hSw.2.2.2.2.1; have q5 := hSw.2.2.2.2.2; go_simp; try (with_reducible rfl))
  simp only [List.set_cons_zero, List.set_cons_succ]
  refine U_take 7 12 5 0 0 (v := ?vr1_7) rfl (by kernel_rfl) (by kernel_rfl) hWr1 (by kernel_rfl) (by kernel_rfl) (by kernel_rfl) (by kernel_rfl) (by kernel_rfl) (by kernel_rfl) (fun _ _ _ _ h => h) (by kernel_rfl) ?hyr1_7 (by omega) hH ?_
  case hyr1_7 => (intro w' hSw; clear hSw; go_simp; try (with_reducible rfl))
  simp only [List.set_cons_zero, List.set_cons_succ]
  refine U_take 8 13 4 0 0 (v := ?vr1_8) rfl (by kernel_rfl) (by kernel_rfl) hWr1 (by kernel_rfl) (by kernel_rfl) (by kernel_rfl) (by kernel_rfl) (by kernel_rfl) (by kernel_rfl) (fun _ _ _ _ h => h) (by kernel_rfl) ?hyr1_8 (by omega) hH ?_
  case hyr1_8 => (intro w' hSw; replace hSw := S2o0 hSw; (try dsimp only at hSw); have q0 := hSw.1; have q1 := hSw.2.1; have q2 := hSw.2.2.1; have q3 := hSw.2.2.2.1; have q4 := hSw.2.2.2.2.1; have q5 := hSw.2.2.2.2.2; go_simp; try (with_reducible rfl))
  simp only [List.set_cons_zero, List.set_cons_succ]
  refine wpAnyU_ready (rs := [4]) (by kernel_rfl) (by simp) ?_
  refine AllReadyU.cons 0 (by kernel_rfl) (o := _) rfl (fun K hK => ?_) AllReadyU.nil
  try clear hb
  go_simp
  (go_at_call 23; refine (fsub_calls a c _).mono ?_; rintro e wn ⟨rfl, hb⟩)
  refine hK.out _ _ ?hsr1_9 (fun hH2 => ?hrr1_9)
  case hsr1_9 => exact S2i0 (by have hG := hH; replace hG := S2o0 hG; (try dsimp only at hG); have q0 := hG.1; have q1 := hG.2.1; have q2 := hG.2.2.1; have q3 := hG.2.2.2.1; have q4 := hG.2.2.2.2.1; have q5 := hG.2.2.2.2.2; exact ⟨keepCell hb q0, keepCell hb q1, keepCell hb q2, keepCell hb q3, There.below hb q4, keepBelow hb q5⟩)
  clear hK K hH
  have hH := hH2
  clear hH2
  try simp only [Act.put, List.setIfInBounds_toArray, List.set_cons_zero, List.set_cons_succ]
  refine wpAnyU_ready (rs := [9]) (by kernel_rfl) (by simp) ?_
  refine AllReadyU.cons 0 (by kernel_rfl) (o := _) rfl (fun K hK => ?_) AllReadyU.nil
  try clear hb
  go_simp
  (go_at_call 23; refine (fsub_calls b d _).mono ?_; rintro e wn ⟨rfl, hb⟩)
  refine hK.out _ _ ?hsr1_10 (fun hH2 => ?hrr1_10)
  case hsr1_10 => exact S2i0 (by have hG := hH; replace hG := S2o0 hG; (try dsimp only at hG); have q0 := hG.1; have q1 := hG.2.1; have q2 := hG.2.2.1; have q3 := hG.2.2.2.1; have q4 := hG.2.2.2.2.1; have q5 := hG.2.2.2.2.2; exact ⟨keepCell hb q0, keepCell hb q1, keepCell hb q2, keepCell hb q3, There.below hb q4, keepBelow hb q5⟩)
  clear hK K hH
  have hH := hH2
  clear hH2
  try simp only [Act.put, List.setIfInBounds_toArray, List.set_cons_zero, List.set_cons_succ]
  refine U_take 10 15 1 0 0 (v := ?vr1_11) rfl (by kernel_rfl) (by kernel_rfl) hWr1 (by kernel_rfl) (by kernel_rfl) (by kernel_rfl) (by kernel_rfl) (by kernel_rfl) (by kernel_rfl) (fun _ _ _ _ h => h) (by kernel_rfl) ?hyr1_11 (by omega) hH ?_
  case hyr1_11 => (intro w' hSw; clear hSw; go_simp; try (with_reducible rfl))
  simp only [List.set_cons_zero, List.set_cons_succ]
  refine wpAnyU_ready (rs := [11]) (by kernel_rfl) (by simp) ?_
  refine AllReadyU.cons 1 (by kernel_rfl) (o := _) rfl (fun K hK => ?_) AllReadyU.nil
  have hG := hH
  replace hG := S2o0 hG; (try dsimp only at hG); have q0 := hG.1; have q1 := hG.2.1; have q2 := hG.2.2.1; have q3 := hG.2.2.2.1; have q4 := hG.2.2.2.2.1; have q5 := hG.2.2.2.2.2
  obtain ⟨z0, z1, y0, y1, f0, f1⟩ := q4.get2
  go_simp
  refine hK.out _ _ ?hsr1_12 (fun hH2 => ?hrr1_12)
  case hsr1_12 => exact S2i1
  clear hK K hH
  have hH := hH2
  clear hH2
  try simp only [Act.put, List.setIfInBounds_toArray, List.set_cons_zero, List.set_cons_succ]
  refine wpAnyU_done (by kernel_rfl) ?_ _ _
  refine NoPanic.normal ?_
  clear hWr1
  have hl9 := lt_of_cell y0
  have hB9 := q5
  clear q0 q1 q2 q3 q4 q5 hH hG k0 k1 k2 k3 HT
  go_wp2
  refine bodyPost_ret (v := vecV (subF a c) (subF b d)) (by simp [results, Try.results21, go_sem, y0, y1, hl9]) rfl ⟨rfl, ?_⟩
  have := hB9.size
  go_grown
set_option maxRecDepth 100000 in
set_option maxHeartbeats 1000000 in
theorem vadd_calls (a b c d : Int) (w : World) : Calls Try.prog 17 #[vecV a b, vecV c d] w (Ret (vecV (addF a c) (addF b d)) w) := by
  obtain ⟨W, hW⟩ : ∃ W, W = ((w.alloc (.cells #[.int .i64 a, .int .i64 b] 24)).alloc (.cells #[.int .i64 c, .int .i64 d] 24)).alloc (.cells #[.int .i64 0, .int .i64 0] 24) := ⟨_, rfl⟩
  have k0 : W.cell? ⟨w.heap.size, 0, none⟩ = some (.int .i64 a) := by rw [hW]; go_simp
  have k1 : W.cell? ⟨w.heap.size, 1, none⟩ = some (.int .i64 b) := by rw [hW]; go_simp
  have k2 : W.cell? ⟨w.heap.size + 1, 0, none⟩ = some (.int .i64 c) := by rw [hW]; go_simp
  have k3 : W.cell? ⟨w.heap.size + 1, 1, none⟩ = some (.int .i64 d) := by rw [hW]; go_simp
  have HT : Hid (There W.drew (w.heap.size + 2) 2) := by
    rw [hW]
    exact fun j hj => by
      match j, hj with
      | 0, _ | 1, _ => exact ⟨⟨_, by go_simp; rfl⟩, by go_simp⟩
  have hB : Below w.heap.size w W := by rw [hW]; go_grown
  go_enter Try.func17, Try.ntmps17
  go_wp2_with fail
  rw [← hW]
  clear hW
  refine wp_region_noPanic ?_
  refine wp_region_U (S := (S2 (fun w' => w'.cell? ⟨w.heap.size, 0, none⟩ = some (.int .i64 (a)) ∧ w'.cell? ⟨w.heap.size, 1, none⟩ = some (.int .i64 (b)) ∧ w'.cell? ⟨w.heap.size + 1, 0, none⟩ = some (.int .i64 (c)) ∧ w'.cell? ⟨w.heap.size + 1, 1, none⟩ = some (.int .i64 (d)) ∧ There w' (w.heap.size + 2) 2 ∧ Below w.heap.size w w'))) (T := (fun j => [0, 0, 0, 0, 0, 0, 0, 0, 0, 0, 0, 1].getD j 0)) (by kernel_rfl) (S2i0 ⟨k0, k1, k2, k3, HT.out, hB.drew⟩) (fun hH => ?_)
  have hWr2 : Weaker (S2 (fun w' => w'.cell? ⟨w.heap.size, 0, none⟩ = some (.int .i64 (a)) ∧ w'.cell? ⟨w.heap.size, 1, none⟩ = some (.int .i64 (b)) ∧ w'.cell? ⟨w.heap.size + 1, 0, none⟩ = some (.int .i64 (c)) ∧ w'.cell? ⟨w.heap.size + 1, 1, none⟩ = some (.int .i64 (d)) ∧ There w' (w.heap.size + 2) 2 ∧ Below w.heap.size w w')) := weaker2 _
  refine U_take 0 5 11 0 0 (v := ?vr2_1) rfl (by kernel_rfl) (by kernel_rfl) hWr2 (by kernel_rfl) (by kernel_rfl) (by kernel_rfl) (by kernel_rfl) (by kernel_rfl) (by kernel_rfl) (fun _ _ _ _ h => h) (by kernel_rfl) ?hyr2_1 (by omega) hH ?_
  case hyr2_1 => (intro w' hSw; clear hSw; go_simp; try (with_reducible rfl))
  simp only [List.set_cons_zero, List.set_cons_succ]
  refine U_take 1 6 10 0 0 (v := ?vr2_2) rfl (by kernel_rfl) (by kernel_rfl) hWr2 (by kernel_rfl) (by kernel_rfl) (by kernel_rfl) (by kernel_rfl) (by kernel_rfl) (by kernel_rfl) (fun _ _ _ _ h => h) (by kernel_rfl) ?hyr2_2 (by omega) hH ?_
  case hyr2_2 => (intro w' hSw; replace hSw := S2o0 hSw; (try dsimp only at hSw); have q0 := hSw.1; have q1 := hSw.2.1; have q2 := hSw.2.2.1; have q3 := hSw.2.2.2.1; have q4 := hSw.2.2.2.2.1; have q5 := hSw.2.2.2.2.2; go_simp; try (with_reducible rfl))
  simp only [List.set_cons_zero, List.set_cons_succ]
  refine U_take 2 7 9 0 0 (v := ?vr2_3) rfl (by kernel_rfl) (by kernel_rfl) hWr2 (by kernel_rfl) (by kernel_rfl) (by kernel_rfl) (by kernel_rfl) (by kernel_rfl) (by kernel_rfl) (fun _ _ _ _ h => h) (by kernel_rfl) ?hyr2_3 (by omega) hH ?_
  case hyr2_3 => (intro w' hSw; clear hSw; go_simp; try (with_reducible rfl))
  simp only [List.set_cons_zero, List.set_cons_succ]
  refine U_take 3 8 8 0 0 (v := ?vr2_4) rfl (by kernel_rfl) (by kernel_rfl) hWr2 (by kernel_rfl) (by kernel_rfl) (by kernel_rfl) (by kernel_rfl) (by kernel_rfl) (by kernel_rfl) (fun _ _ _ _ h => h) (by kernel_rfl) ?hyr2_4 (by omega) hH ?_
  case hyr2_4 => (intro w' hSw; replace hSw := S2o0 hSw; (try dsimp only at hSw); have q0 := hSw.1; have q1 := hSw.2.1; have q2 := hSw.2.2.1; have q3 := hSw.2.2.2.1; have q4 := hSw.2.2.2.2.1; have q5 := hSw.2.2.2.2.2; go_simp; try (with_reducible rfl))
  simp only [List.set_cons_zero, List.set_cons_succ]
  refine U_take 5 10 7 0 0 (v := ?vr2_5) rfl (by kernel_rfl) (by kernel_rfl) hWr2 (by kernel_rfl) (by kernel_rfl) (by kernel_rfl) (by kernel_rfl) (by kernel_rfl) (by kernel_rfl) (fun _ _ _ _ h => h) (by kernel_rfl) ?hyr2_5 (by omega) hH ?_
  case hyr2_5 => (intro w' hSw; clear hSw; go_simp; try (with_reducible rfl))
  simp only [List.set_cons_zero, List.set_cons_succ]
  refine U_take 6 11 6 0 0 (v := ?vr2_6) rfl (by kernel_rfl) (by kernel_rfl) hWr2 (by kernel_rfl) (by kernel_rfl) (by kernel_rfl) (by kernel_rfl) (by kernel_rfl) (by kernel_rfl) (fun _ _ _ _ h => h) (by kernel_rfl) ?hyr2_6 (by omega) hH ?_
  case hyr2_6 => (intro w' hSw; replace hSw := S2o0 hSw; (try dsimp only at hSw); have q0 := hSw.1; have q1 := hSw.2.1; have q2 := hSw.2.2.1; have q3 := hSw.2.2.2.1; have q4 := hSw.2.2.2.2.1; have q5 := hSw.2.2.2.2.2; go_simp; try (with_reducible rfl))
  simp only [List.set_cons_zero, List.set_cons_succ]
  refine U_take 7 12 5 0 0 (v := ?vr2_7) rfl (by kernel_rfl) (by kernel_rfl) hWr2 (by kernel_rfl) (by kernel_rfl) (by kernel_rfl) (by kernel_rfl) (by kernel_rfl) (by kernel_rfl) (fun _ _ _ _ h => h) (by kernel_rfl) ?hyr2_7 (by omega) hH ?_
  case hyr2_7 => (intro w' hSw; clear hSw; go_simp; try (with_reducible rfl))
  simp only [List.set_cons_zero, List.set_cons_succ]
  refine U_take 8 13 4 0 0 (v := ?vr2_8) rfl (by kernel_rfl) (by kernel_rfl) hWr2 (by kernel_rfl) (by kernel_rfl) (by kernel_rfl) (by kernel_rfl) (by kernel_rfl) (by kernel_rfl) (fun _ _ _ _ h => h) (by kernel_rfl) ?hyr2_8 (by omega) hH ?_
  case hyr2_8 => (intro w' hSw; replace hSw := S2o0 hSw; (try dsimp only at hSw); have q0 := hSw.1; have q1 := hSw.2.1; have q2 := hSw.2.2.1; have q3 := hSw.2.2.2.1; have q4 := hSw.2.2.2.2.1; have q5 := hSw.2.2.2.2.2; go_simp; try (with_reducible rfl))
  simp only [List.set_cons_zero, List.set_cons_succ]
  refine wpAnyU_ready (rs := [4]) (by kernel_rfl) (by simp) ?_
  refine AllReadyU.cons 0 (by kernel_rfl) (o := _) rfl (fun K hK => ?_) AllReadyU.nil
  try clear hb
  go_simp
  (go_at_call 24; refine (fadd_calls a c _).mono ?_; rintro e wn ⟨rfl, hb⟩)
  refine hK.out _ _ ?hsr2_9 (fun hH2 => ?hrr2_9)
  case hsr2_9 => exact S2i0 (by have hG := hH; replace hG := S2o0 hG; (try dsimp only at hG); have q0 := hG.1; have q1 := hG.2.1; have q2 := hG.2.2.1; have q3 := hG.2.2.2.1; have q4 := hG.2.2.2.2.1; have q5 := hG.2.2.2.2.2; exact ⟨keepCell hb q0, keepCell hb q1, keepCell hb q2, keepCell hb q3, There.below hb q4, keepBelow hb q5⟩)
  clear hK K hH
  have hH := hH2
  clear hH2
  try simp only [Act.put, List.setIfInBounds_toArray, List.set_cons_zero, List.set_cons_succ]
  refine wpAnyU_ready (rs := [9]) (by kernel_rfl) (by simp) ?_
  refine AllReadyU.cons 0 (by kernel_rfl) (o := _) rfl (fun K hK => ?_) AllReadyU.nil
  try clear hb
  go_simp
  (go_at_call 24; refine (fadd_calls b d _).mono ?_; rintro e wn ⟨rfl, hb⟩)
  refine hK.out _ _ ?hsr2_10 (fun hH2 => ?hrr2_10)
  case hsr2_10 => exact S2i0 (by have hG := hH; replace hG := S2o0 hG; (try dsimp only at hG); have q0 := hG.1; have q1 := hG.2.1; have q2 := hG.2.2.1; have q3 := hG.2.2.2.1; have q4 := hG.2.2.2.2.1; have q5 := hG.2.2.2.2.2; exact ⟨keepCell hb q0, keepCell hb q1, keepCell hb q2, keepCell hb q3, There.below hb q4, keepBelow hb q5⟩)
  clear hK K hH
  have hH := hH2
  clear hH2
  try simp only [Act.put, List.setIfInBounds_toArray, List.set_cons_zero, List.set_cons_succ]
  refine U_take 10 15 1 0 0 (v := ?vr2_11) rfl (by kernel_rfl) (by kernel_rfl) hWr2 (by kernel_rfl) (by kernel_rfl) (by kernel_rfl) (by kernel_rfl) (by kernel_rfl) (by kernel_rfl) (fun _ _ _ _ h => h) (by kernel_rfl) ?hyr2_11 (by omega) hH ?_
  case hyr2_11 => (intro w' hSw; clear hSw; go_simp; try (with_reducible rfl))
  simp only [List.set_cons_zero, List.set_cons_succ]
  refine wpAnyU_ready (rs := [11]) (by kernel_rfl) (by simp) ?_
  refine AllReadyU.cons 1 (by kernel_rfl) (o := _) rfl (fun K hK => ?_) AllReadyU.nil
  have hG := hH
  replace hG := S2o0 hG; (try dsimp only at hG); have q0 := hG.1; have q1 := hG.2.1; have q2 := hG.2.2.1; have q3 := hG.2.2.2.1; have q4 := hG.2.2.2.2.1; have q5 := hG.2.2.2.2.2
  obtain ⟨z0, z1, y0, y1, f0, f1⟩ := q4.get2
  go_simp
  refine hK.out _ _ ?hsr2_12 (fun hH2 => ?hrr2_12)
  case hsr2_12 => exact S2i1
  clear hK K hH
  have hH := hH2
  clear hH2
  try simp only [Act.put, List.setIfInBounds_toArray, List.set_cons_zero, List.set_cons_succ]
  refine wpAnyU_done (by kernel_rfl) ?_ _ _
  refine NoPanic.normal ?_
  clear hWr2
  have hl9 := lt_of_cell y0
  have hB9 := q5
  clear q0 q1 q2 q3 q4 q5 hH hG k0 k1 k2 k3 HT
  go_wp2
  refine bodyPost_ret (v := vecV (addF a c) (addF b d)) (by simp [results, Try.results17, go_sem, y0, y1, hl9]) rfl ⟨rfl, ?_⟩
  have := hB9.size
  go_grown
set_option maxRecDepth 100000 in
set_option maxHeartbeats 1000000 in
theorem vcross_calls (a b c d : Int) (w : World) : Calls Try.prog 39 #[vecV a b, vecV c d] w (Ret (.int .i64 (crossF a b c d)) w) := by
  obtain ⟨W, hW⟩ : ∃ W, W = (w.alloc (.cells #[.int .i64 a, .int .i64 b] 24)).alloc (.cells #[.int .i64 c, .int .i64 d] 24) := ⟨_, rfl⟩
  have k0 : W.cell? ⟨w.heap.size, 0, none⟩ = some (.int .i64 a) := by rw [hW]; go_simp
  have k1 : W.cell? ⟨w.heap.size, 1, none⟩ = some (.int .i64 b) := by rw [hW]; go_simp
  have k2 : W.cell? ⟨w.heap.size + 1, 0, none⟩ = some (.int .i64 c) := by rw [hW]; go_simp
  have k3 : W.cell? ⟨w.heap.size + 1, 1, none⟩ = some (.int .i64 d) := by rw [hW]; go_simp
  have hB : Below w.heap.size w W := by rw [hW]; go_grown
  go_enter Try.func39, Try.ntmps39
  go_wp2_with fail
  rw [← hW]
  clear hW
  refine wp_region_noPanic ?_
  refine wp_region_U (S := (S2 (fun w' => w'.cell? ⟨w.heap.size, 0, none⟩ = some (.int .i64 (a)) ∧ w'.cell? ⟨w.heap.size, 1, none⟩ = some (.int .i64 (b)) ∧ w'.cell? ⟨w.heap.size + 1, 0, none⟩ = some (.int .i64 (c)) ∧ w'.cell? ⟨w.heap.size + 1, 1, none⟩ = some (.int .i64 (d)) ∧ Below w.heap.size w w'))) (T := (fun _ => 0)) (by kernel_rfl) (S2i0 ⟨k0, k1, k2, k3, hB.drew⟩) (fun hH => ?_)
  have hWr3 : Weaker (S2 (fun w' => w'.cell? ⟨w.heap.size, 0, none⟩ = some (.int .i64 (a)) ∧ w'.cell? ⟨w.heap.size, 1, none⟩ = some (.int .i64 (b)) ∧ w'.cell? ⟨w.heap.size + 1, 0, none⟩ = some (.int .i64 (c)) ∧ w'.cell? ⟨w.heap.size + 1, 1, none⟩ = some (.int .i64 (d)) ∧ Below w.heap.size w w')) := weaker2 _
  refine U_take 0 5 11 0 0 (v := ?vr3_1) rfl (by kernel_rfl) (by kernel_rfl) hWr3 (by kernel_rfl) (by kernel_rfl) (by kernel_rfl) (by kernel_rfl) (by kernel_rfl) (by kernel_rfl) (fun _ _ _ _ h => h) (by kernel_rfl) ?hyr3_1 (by omega) hH ?_
  case hyr3_1 => (intro w' hSw; clear hSw; go_simp; try (with_reducible rfl))
  simp only [List.set_cons_zero, List.set_cons_succ]
  refine U_take 1 6 10 0 0 (v := ?vr3_2) rfl (by kernel_rfl) (by kernel_rfl) hWr3 (by kernel_rfl) (by kernel_rfl) (by kernel_rfl) (by kernel_rfl) (by kernel_rfl) (by kernel_rfl) (fun _ _ _ _ h => h) (by kernel_rfl) ?hyr3_2 (by omega) hH ?_
  case hyr3_2 => (intro w' hSw; replace hSw := S2o0 hSw; (try dsimp only at hSw); have q0 := hSw.1; have q1 := hSw.2.1; have q2 := hSw.2.2.1; have q3 := hSw.2.2.2.1; have q4 := hSw.2.2.2.2; go_simp; try (with_reducible rfl))
  simp only [List.set_cons_zero, List.set_cons_succ]
  refine U_take 2 7 9 0 0 (v := ?vr3_3) rfl (by kernel_rfl) (by kernel_rfl) hWr3 (by kernel_rfl) (by kernel_rfl) (by kernel_rfl) (by kernel_rfl) (by kernel_rfl) (by kernel_rfl) (fun _ _ _ _ h => h) (by kernel_rfl) ?hyr3_3 (by omega) hH ?_
  case hyr3_3 => (intro w' hSw; clear hSw; go_simp; try (with_reducible rfl))
  simp only [List.set_cons_zero, List.set_cons_succ]
  refine U_take 3 8 8 0 0 (v := ?vr3_4) rfl (by kernel_rfl) (by kernel_rfl) hWr3 (by kernel_rfl) (by kernel_rfl) (by kernel_rfl) (by kernel_rfl) (by kernel_rfl) (by kernel_rfl) (fun _ _ _ _ h => h) (by kernel_rfl) ?hyr3_4 (by omega) hH ?_
  case hyr3_4 => (intro w' hSw; replace hSw := S2o0 hSw; (try dsimp only at hSw); have q0 := hSw.1; have q1 := hSw.2.1; have q2 := hSw.2.2.1; have q3 := hSw.2.2.2.1; have q4 := hSw.2.2.2.2; go_simp; try (with_reducible rfl))
  simp only [List.set_cons_zero, List.set_cons_succ]
  refine U_take 5 10 7 0 0 (v := ?vr3_5) rfl (by kernel_rfl) (by kernel_rfl) hWr3 (by kernel_rfl) (by kernel_rfl) (by kernel_rfl) (by kernel_rfl) (by kernel_rfl) (by kernel_rfl) (fun _ _ _ _ h => h) (by kernel_rfl) ?hyr3_5 (by omega) hH ?_
  case hyr3_5 => (intro w' hSw; clear hSw; go_simp; try (with_reducible rfl))
  simp only [List.set_cons_zero, List.set_cons_succ]
  refine U_take 6 11 6 0 0 (v := ?vr3_6) rfl (by kernel_rfl) (by kernel_rfl) hWr3 (by kernel_rfl) (by kernel_rfl) (by kernel_rfl) (by kernel_rfl) (by kernel_rfl) (by kernel_rfl) (fun _ _ _ _ h => h) (by kernel_rfl) ?hyr3_6 (by omega) hH ?_
  case hyr3_6 => (intro w' hSw; replace hSw := S2o0 hSw; (try dsimp only at hSw); have q0 := hSw.1; have q1 := hSw.2.1; have q2 := hSw.2.2.1; have q3 := hSw.2.2.2.1; have q4 := hSw.2.2.2.2; go_simp; try (with_reducible rfl))
  simp only [List.set_cons_zero, List.set_cons_succ]
  refine U_take 7 12 5 0 0 (v := ?vr3_7) rfl (by kernel_rfl) (by kernel_rfl) hWr3 (by kernel_rfl) (by kernel_rfl) (by kernel_rfl) (by kernel_rfl) (by kernel_rfl) (by kernel_rfl) (fun _ _ _ _ h => h) (by kernel_rfl) ?hyr3_7 (by omega) hH ?_
  case hyr3_7 => (intro w' hSw; clear hSw; go_simp; try (with_reducible rfl))
  simp only [List.set_cons_zero, List.set_cons_succ]
  refine U_take 8 13 4 0 0 (v := ?vr3_8) rfl (by kernel_rfl) (by kernel_rfl) hWr3 (by kernel_rfl) (by kernel_rfl) (by kernel_rfl) (by kernel_rfl) (by kernel_rfl) (by kernel_rfl) (fun _ _ _ _ h => h) (by kernel_rfl) ?hyr3_8 (by omega) hH ?_
  case hyr3_8 => (intro w' hSw; replace hSw := S2o0 hSw; (try dsimp only at hSw); have q0 := hSw.1; have q1 := hSw.2.1; have q2 := hSw.2.2.1; have q3 := hSw.2.2.2.1; have q4 := hSw.2.2.2.2; go_simp; try (with_reducible rfl))
  simp only [List.set_cons_zero, List.set_cons_succ]
  refine wpAnyU_ready (rs := [4]) (by kernel_rfl) (by simp) ?_
  refine AllReadyU.cons 0 (by kernel_rfl) (o := _) rfl (fun K hK => ?_) AllReadyU.nil
  try clear hb
  go_simp
  (go_at_call 22; refine (fmul_calls a d _).mono ?_; rintro e wn ⟨rfl, hb⟩)
  refine hK.out _ _ ?hsr3_9 (fun hH2 => ?hrr3_9)
  case hsr3_9 => exact S2i0 (by have hG := hH; replace hG := S2o0 hG; (try dsimp only at hG); have q0 := hG.1; have q1 := hG.2.1; have q2 := hG.2.2.1; have q3 := hG.2.2.2.1; have q4 := hG.2.2.2.2; exact ⟨keepCell hb q0, keepCell hb q1, keepCell hb q2, keepCell hb q3, keepBelow hb q4⟩)
  clear hK K hH
  have hH := hH2
  clear hH2
  try simp only [Act.put, List.setIfInBounds_toArray, List.set_cons_zero, List.set_cons_succ]
  refine wpAnyU_ready (rs := [9]) (by kernel_rfl) (by simp) ?_
  refine AllReadyU.cons 0 (by kernel_rfl) (o := _) rfl (fun K hK => ?_) AllReadyU.nil
  try clear hb
  go_simp
  (go_at_call 22; refine (fmul_calls b c _).mono ?_; rintro e wn ⟨rfl, hb⟩)
  refine hK.out _ _ ?hsr3_10 (fun hH2 => ?hrr3_10)
  case hsr3_10 => exact S2i0 (by have hG := hH; replace hG := S2o0 hG; (try dsimp only at hG); have q0 := hG.1; have q1 := hG.2.1; have q2 := hG.2.2.1; have q3 := hG.2.2.2.1; have q4 := hG.2.2.2.2; exact ⟨keepCell hb q0, keepCell hb q1, keepCell hb q2, keepCell hb q3, keepBelow hb q4⟩)
  clear hK K hH
  have hH := hH2
  clear hH2
  try simp only [Act.put, List.setIfInBounds_toArray, List.set_cons_zero, List.set_cons_succ]
  refine wpAnyU_ready (rs := [10]) (by kernel_rfl) (by simp) ?_
  refine AllReadyU.cons 0 (by kernel_rfl) (o := _) rfl (fun K hK => ?_) AllReadyU.nil
  try clear hb
  go_simp
  (go_at_call 23; refine (fsub_calls (mulF a d) (mulF b c) _).mono ?_; rintro e wn ⟨rfl, hb⟩)
  refine hK.out _ _ ?hsr3_11 (fun hH2 => ?hrr3_11)
  case hsr3_11 => exact S2i0 (by have hG := hH; replace hG := S2o0 hG; (try dsimp only at hG); have q0 := hG.1; have q1 := hG.2.1; have q2 := hG.2.2.1; have q3 := hG.2.2.2.1; have q4 := hG.2.2.2.2; exact ⟨keepCell hb q0, keepCell hb q1, keepCell hb q2, keepCell hb q3, keepBelow hb q4⟩)
  clear hK K hH
  have hH := hH2
  clear hH2
  try simp only [Act.put, List.setIfInBounds_toArray, List.set_cons_zero, List.set_cons_succ]
  refine U_take 11 4 0 0 0 (v := ?vr3_12) rfl (by kernel_rfl) (by kernel_rfl) hWr3 (by kernel_rfl) (by kernel_rfl) (by kernel_rfl) (by kernel_rfl) (by kernel_rfl) (by kernel_rfl) (fun _ _ _ _ h => h) (by kernel_rfl) ?hyr3_12 (by omega) hH ?_
  case hyr3_12 => (intro w' hSw; clear hSw; go_simp; try (with_reducible rfl))
  simp only [List.set_cons_zero, List.set_cons_succ]
  refine wpAnyU_done (by kernel_rfl) ?_ _ _
  refine NoPanic.normal ?_
  clear hWr3
  replace hH := S2o0 hH
  (try dsimp only at hH)
  have q0 := hH.1
  have q1 := hH.2.1
  have q2 := hH.2.2.1
  have q3 := hH.2.2.2.1
  have q4 := hH.2.2.2.2
  go_wp2
  go_returns
  exact ret_int rfl q4
theorem bover2_calls (a n : Int) (w : World) : Calls Try.prog 40 #[.int .i64 a, .int .i64 n] w (Ret (.int .i64 (divF a n)) w) := by
  go_enter Try.func40, Try.ntmps40
  go_wp2_with fail
  refine (fdiv_calls a n _).mono ?_
  rintro e w1 ⟨rfl, hb1⟩
  go_wp2
  go_returns
  exact ret_int rfl hb1
def clampN (n m : Int) : Int := if n < -m then -m else if m < n then m else n
theorem bclamp_calls (n m : Int) (h0 : 0 ≤ m) (h1 : m ≤ 9223372036854775807) (w : World) : Calls Try.prog 43 #[.int .i64 n, .int .i64 m] w (Ret (.int .i64 (clampN n m)) w) := by
  have hw : IntKind.i64.wrap (-m) = -m := IntWalk.i64_in _ (by omega)
  go_enter Try.func43, Try.ntmps43
  go_wp2
  all_goals
    go_returns
    exact ret_int (by unfold clampN; (repeat' split) <;> omega) (Below.refl _ _)
theorem bsize_calls (a b : Int) (ha : -1099511627776 ≤ a ∧ a ≤ 1099511627776) (hb : -1099511627776 ≤ b ∧ b ≤ 1099511627776) (w : World) : Calls Try.prog 56 #[vecV a b] w (Ret (.int .i64 (absZ a + absZ b)) w) := by
  have w1 : IntKind.i64.wrap (-a) = -a := IntWalk.i64_in _ (by omega)
  have w2 : IntKind.i64.wrap (-b) = -b := IntWalk.i64_in _ (by omega)
  have h1 : ∀ (ts : Array TypeId) (t : TypeId) (w : World), (Builtin.max_ ts t #[.int .i64 a, .int .i64 (-a)]).run Try.prog w = .ok (.int .i64 (absZ a)) w := fun ts t w => by
    rw [run_max_int2]
    have : (if -a > a then -a else a) = absZ a := by unfold absZ; split <;> split <;> omega
    rw [this]
  have h2 : ∀ (ts : Array TypeId) (t : TypeId) (w : World), (Builtin.max_ ts t #[.int .i64 b, .int .i64 (-b)]).run Try.prog w = .ok (.int .i64 (absZ b)) w := fun ts t w => by
    rw [run_max_int2]
    have : (if -b > b then -b else b) = absZ b := by unfold absZ; split <;> split <;> omega
    rw [this]
  have x0 : 0 ≤ absZ a ∧ absZ a ≤ 1099511627776 := by unfold absZ; split <;> omega
  have y0 : 0 ≤ absZ b ∧ absZ b ≤ 1099511627776 := by unfold absZ; split <;> omega
  generalize absZ a = x at *
  generalize absZ b = y at *
  have w3 : IntKind.i64.wrap (x + y) = x + y := IntWalk.i64_in _ (by omega)
  go_enter Try.func56, Try.ntmps56
  go_wp2
  go_returns
  exact ret_int rfl (by go_grown)
theorem bwithin_calls (a b m : Int) (w : World) (h0 : 0 ≤ m) (h1 : m ≤ 9223372036854775807) :
    Calls Try.prog 36 #[vecV a b, .int .i64 m] w (Ret (.bool (withinB m a b)) w) := by
  go_enter Try.func36, Try.ntmps36
  go_wp2
  all_goals
    go_returns
    exact ⟨by simp [withinB, *] <;> omega, by go_grown⟩
theorem shape1_calls (a b : Int) (w : World) : Calls Try.prog 46 #[vecV a b] w (Ret (.bool (!withinB 2097152 a b)) w) := by
  go_enter Try.func46, Try.ntmps46
  go_wp2_with (go_at_call 36; refine (bwithin_calls _ _ _ _ (by omega) (by omega)).mono ?_; rintro e w1 ⟨rfl, hb⟩)
  go_returns
  exact ⟨rfl, by simpa using ((Below.refl _ _).alloc (by simp) _).trans (hb.mono (by simp))⟩
theorem cf_shape1 (args : Array Value) (w : World) : (callFunc 46 args).run Try.prog w = .ok (.enter 46 args) w := by kernel_rfl
def inB (n l h : Int) : Bool := decide (l ≤ n ∧ n ≤ h)
theorem in_calls (n l h : Int) (w : World) : Calls Try.prog 35 #[.int .i64 n, .int .i64 l, .int .i64 h] w (Ret (.bool (inB n l h)) w) := by
  go_enter Try.func35, Try.ntmps35
  go_wp2
  all_goals
    go_returns
    exact ⟨by simp [inB, *] <;> omega, by go_grown⟩
end
end Go.Proofs.Ytkiiehobphkmgaa
