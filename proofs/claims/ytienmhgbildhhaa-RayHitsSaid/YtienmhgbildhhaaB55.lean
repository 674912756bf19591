/- Parts of a proof: contracts and laws. -/
import Derived.Test.YtienmhgbildhhaaB14
import Derived.Test.YtienmhgbildhhaaB17
import Derived.Test.YtienmhgbildhhaaB06
import Derived.Test.YtienmhgbildhhaaB04
namespace Go.Proofs.Ytienmhgbildhhaa
section
set_option linter.unusedVariables false
set_option linter.unusedSimpArgs false
open Go.RowKit
set_option maxRecDepth 100000 in
set_option maxHeartbeats 1000000 in
theorem vscale_calls (a b n : Int) (w : World) : Calls Try.prog 31 #[vecV a b, .int .i64 n] w (Ret (vecV (mulF a n) (mulF b n)) w) := by
  obtain ⟨W, hW⟩ : ∃ W, W = (w.alloc (.cells #[.int .i64 a, .int .i64 b] 24)).alloc (.cells #[.int .i64 0, .int .i64 0] 24) := ⟨_, rfl⟩
  have k0 : W.cell? ⟨w.heap.size, 0, none⟩ = some (.int .i64 a) := by rw [hW]; go_simp
  have k1 : W.cell? ⟨w.heap.size, 1, none⟩ = some (.int .i64 b) := by rw [hW]; go_simp
  have HT : Hid (There W.drew (w.heap.size + 1) 2) := by
    rw [hW]
    exact fun j hj => by
      match j, hj with
      | 0, _ | 1, _ => exact ⟨⟨_, by go_simp; rfl⟩, by go_simp⟩
  have hB : Below w.heap.size w W := by rw [hW]; go_grown
  go_enter Try.func31, Try.ntmps31
  go_wp2_with fail
  rw [← hW]
  clear hW
  refine wp_region_noPanic ?_
  refine wp_region_U (S := (S2 (fun w' => w'.cell? ⟨w.heap.size, 0, none⟩ = some (.int .i64 (a)) ∧ w'.cell? ⟨w.heap.size, 1, none⟩ = some (.int .i64 (b)) ∧ There w' (w.heap.size + 1) 2 ∧ Below w.heap.size w w'))) (T := (fun j => [0, 0, 0, 0, 0, 0, 0, 0, 0, 1].getD j 0)) (by kernel_rfl) (S2i0 ⟨k0, k1, HT.out, hB.drew⟩) (fun hH => ?_)
  have hWr1 : Weaker (S2 (fun w' => w'.cell? ⟨w.heap.size, 0, none⟩ = some (.int .i64 (a)) ∧ w'.cell? ⟨w.heap.size, 1, none⟩ = some (.int .i64 (b)) ∧ There w' (w.heap.size + 1) 2 ∧ Below w.heap.size w w')) := weaker2 _
  refine U_take 0 5 9 0 0 (v := ?vr1_1) rfl (by kernel_rfl) (by kernel_rfl) hWr1 (by kernel_rfl) (by kernel_rfl) (by kernel_rfl) (by kernel_rfl) (by kernel_rfl) (by kernel_rfl) (fun _ _ _ _ h => h) (by kernel_rfl) ?hyr1_1 (by omega) hH ?_
  case hyr1_1 => (intro w' hSw; clear hSw; go_simp; try (with_reducible rfl))
  simp only [List.set_cons_zero, List.set_cons_succ]
  refine U_take 1 6 8 0 0 (v := ?vr1_2) rfl (by kernel_rfl) (by kernel_rfl) hWr1 (by kernel_rfl) (by kernel_rfl) (by kernel_rfl) (by kernel_rfl) (by kernel_rfl) (by kernel_rfl) (fun _ _ _ _ h => h) (by kernel_rfl) ?hyr1_2 (by omega) hH ?_
  case hyr1_2 => (intro w' hSw; replace hSw := S2o0 hSw; (try dsimp only at hSw); have q0 := hSw.1; have q1 := hSw.2.1; have q2 := hSw.2.2.1; have q3 := hSw.2.2.2; go_simp; try (with_reducible rfl))
  simp only [List.set_cons_zero, List.set_cons_succ]
  refine U_take 2 7 7 0 0 (v := ?vr1_3) rfl (by kernel_rfl) (by kernel_rfl) hWr1 (by kernel_rfl) (by kernel_rfl) (by kernel_rfl) (by kernel_rfl) (by kernel_rfl) (by kernel_rfl) (fun _ _ _ _ h => h) (by kernel_rfl) ?hyr1_3 (by omega) hH ?_
  case hyr1_3 => (intro w' hSw; clear hSw; go_simp; try (with_reducible rfl))
  simp only [List.set_cons_zero, List.set_cons_succ]
  refine U_take 4 9 6 0 0 (v := ?vr1_4) rfl (by kernel_rfl) (by kernel_rfl) hWr1 (by kernel_rfl) (by kernel_rfl) (by kernel_rfl) (by kernel_rfl) (by kernel_rfl) (by kernel_rfl) (fun _ _ _ _ h => h) (by kernel_rfl) ?hyr1_4 (by omega) hH ?_
  case hyr1_4 => (intro w' hSw; clear hSw; go_simp; try (with_reducible rfl))
  simp only [List.set_cons_zero, List.set_cons_succ]
  refine U_take 5 10 5 0 0 (v := ?vr1_5) rfl (by kernel_rfl) (by kernel_rfl) hWr1 (by kernel_rfl) (by kernel_rfl) (by kernel_rfl) (by kernel_rfl) (by kernel_rfl) (by kernel_rfl) (fun _ _ _ _ h => h) (by kernel_rfl) ?hyr1_5 (by omega) hH ?_
  case hyr1_5 => (intro w' hSw; replace hSw := S2o0 hSw; (try dsimp only at hSw); have q0 := hSw.1; have q1 := hSw.2.1; have q2 := hSw.2.2.1; have q3 := hSw.2.2.2; go_simp; try (with_reducible rfl))
  simp only [List.set_cons_zero, List.set_cons_succ]
  refine U_take 6 11 4 0 0 (v := ?vr1_6) rfl (by kernel_rfl) (by kernel_rfl) hWr1 (by kernel_rfl) (by kernel_rfl) (by kernel_rfl) (by kernel_rfl) (by kernel_rfl) (by kernel_rfl) (fun _ _ _ _ h => h) (by kernel_rfl) ?hyr1_6 (by omega) hH ?_
  case hyr1_6 => (intro w' hSw; clear hSw; go_simp; try (with_reducible rfl))
  simp only [List.set_cons_zero, List.set_cons_succ]
  refine wpAnyU_ready (rs := [3]) (by kernel_rfl) (by simp) ?_
  refine AllReadyU.cons 0 (by kernel_rfl) (o := _) rfl (fun K hK => ?_) AllReadyU.nil
  try clear hb
  go_simp
  (go_at_call 82; refine (fmul_calls a n _).mono ?_; rintro e wn ⟨rfl, hb⟩)
  refine hK.out _ _ ?hsr1_7 (fun hH2 => ?hrr1_7)
  case hsr1_7 => exact S2i0 (by have hG := hH; replace hG := S2o0 hG; (try dsimp only at hG); have q0 := hG.1; have q1 := hG.2.1; have q2 := hG.2.2.1; have q3 := hG.2.2.2; exact ⟨keepCell hb q0, keepCell hb q1, There.below hb q2, keepBelow hb q3⟩)
  clear hK K hH
  have hH := hH2
  clear hH2
  try simp only [Act.put, List.setIfInBounds_toArray, List.set_cons_zero, List.set_cons_succ]
  refine wpAnyU_ready (rs := [7]) (by kernel_rfl) (by simp) ?_
  refine AllReadyU.cons 0 (by kernel_rfl) (o := _) rfl (fun K hK => ?_) AllReadyU.nil
  try clear hb
  go_simp
  (go_at_call 82; refine (fmul_calls b n _).mono ?_; rintro e wn ⟨rfl, hb⟩)
  refine hK.out _ _ ?hsr1_8 (fun hH2 => ?hrr1_8)
  case hsr1_8 => exact S2i0 (by have hG := hH; replace hG := S2o0 hG; (try dsimp only at hG); have q0 := hG.1; have q1 := hG.2.1; have q2 := hG.2.2.1; have q3 := hG.2.2.2; exact ⟨keepCell hb q0, keepCell hb q1, There.below hb q2, keepBelow hb q3⟩)
  clear hK K hH
  have hH := hH2
  clear hH2
  try simp only [Act.put, List.setIfInBounds_toArray, List.set_cons_zero, List.set_cons_succ]
  refine U_take 8 13 1 0 0 (v := ?vr1_9) rfl (by kernel_rfl) (by kernel_rfl) hWr1 (by kernel_rfl) (by kernel_rfl) (by kernel_rfl) (by kernel_rfl) (by kernel_rfl) (by kernel_rfl) (fun _ _ _ _ h => h) (by kernel_rfl) ?hyr1_9 (by omega) hH ?_
  case hyr1_9 => (intro w' hSw; clear hSw; go_simp; try (with_reducible rfl))
  simp only [List.set_cons_zero, List.set_cons_succ]
  refine wpAnyU_ready (rs := [9]) (by kernel_rfl) (by simp) ?_
  refine AllReadyU.cons 1 (by kernel_rfl) (o := _) rfl (fun K hK => ?_) AllReadyU.nil
  have hG := hH
  replace hG := S2o0 hG; (try dsimp only at hG); have q0 := hG.1; have q1 := hG.2.1; have q2 := hG.2.2.1; have q3 := hG.2.2.2
  obtain ⟨z0, z1, y0, y1, f0, f1⟩ := q2.get2
  go_simp
  refine hK.out _ _ ?hsr1_10 (fun hH2 => ?hrr1_10)
  case hsr1_10 => exact S2i1
  clear hK K hH
  have hH := hH2
  clear hH2
  try simp only [Act.put, List.setIfInBounds_toArray, List.set_cons_zero, List.set_cons_succ]
  refine wpAnyU_done (by kernel_rfl) ?_ _ _
  refine NoPanic.normal ?_
  have hl9 := lt_of_cell y0
  have hB9 := q3
  clear q0 q1 q2 q3 hH hG k0 k1 HT
  go_wp2
  refine bodyPost_ret (v := vecV (mulF a n) (mulF b n)) (by simp [results, Try.results31, go_sem, y0, y1, hl9]) rfl ⟨rfl, ?_⟩
  have := hB9.size
  go_grown
set_option maxRecDepth 100000 in
set_option maxHeartbeats 1000000 in
end
end Go.Proofs.Ytienmhgbildhhaa
