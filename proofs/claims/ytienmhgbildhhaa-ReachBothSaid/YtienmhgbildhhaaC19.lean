/- Parts of a proof: contracts and laws. -/
import Derived.Test.YtienmhgbildhhaaC18
namespace Go.Proofs.Ytienmhgbildhhaa
section
set_option linter.unusedVariables false
set_option linter.unusedSimpArgs false
open Go.RowKit
set_option maxRecDepth 100000 in
set_option maxHeartbeats 4000000 in

theorem len_bd {x y : Int} (hx : -1099511627776 ≤ x ∧ x ≤ 1099511627776) (hy : -1099511627776 ≤ y ∧ y ≤ 1099511627776) : 0 ≤ lenZ x y ∧ lenZ x y ≤ 2199023255552 ∧ ((x ≠ 0 ∨ y ≠ 0) → 0 < lenZ x y) := by
  have b1 := mul_bd (x := x) (y := x) (M := 1099511627776) (N := 1099511627776) (by omega) (by omega) (by omega) (by omega)
  have b2 := mul_bd (x := y) (y := y) (M := 1099511627776) (N := 1099511627776) (by omega) (by omega) (by omega) (by omega)
  have p1 := sq_nonneg x
  have p2 := sq_nonneg y
  obtain ⟨r0, r1, r2⟩ := rootZ_spec (n := x * x + y * y) (by omega) (by omega)
  have hP : (x ≠ 0 ∨ y ≠ 0) → 0 < x * x + y * y := fun h => by
    rcases h with h | h
    · have : 0 < x * x := by rcases Int.lt_or_gt_of_ne h with g | g; exact Int.mul_pos_of_neg_of_neg g g; exact Int.mul_pos g g
      omega
    · have : 0 < y * y := by rcases Int.lt_or_gt_of_ne h with g | g; exact Int.mul_pos_of_neg_of_neg g g; exact Int.mul_pos g g
      omega
  unfold lenZ
  obtain ⟨r, hr⟩ : ∃ r, r = rootZ (x * x + y * y) := ⟨_, rfl⟩
  rw [← hr] at r0 r1 r2 ⊢
  refine ⟨r0, ?_, fun h => ?_⟩
  · rcases Int.lt_or_le 2199023255552 r with h | h
    · have := Int.mul_le_mul (show 2199023255553 ≤ r by omega) (show 2199023255553 ≤ r by omega) (by omega) (by omega)
      omega
    · exact h
  · have := hP h
    rcases Int.lt_or_le 0 r with g | g
    · exact g
    · have : r = 0 := by omega
      subst this
      simp at r2
      omega
set_option maxRecDepth 100000 in
set_option maxHeartbeats 4000000 in
theorem vlen_calls (a b : Int) (w : World) : Calls Try.prog 58 #[vecV a b] w (Ret (.int .i64 (clampF (lenZ (clampF a) (clampF b)))) w) := by
  obtain ⟨W, hW⟩ : ∃ W, W = w.alloc (.cells #[.int .i64 a, .int .i64 b] 24) := ⟨_, rfl⟩
  have hB0 : Below w.heap.size w W := by rw [hW]; go_grown
  have p0 : W.cell? ⟨w.heap.size, 0, none⟩ = some (.int .i64 a) := by rw [hW]; go_simp
  have p1 : W.cell? ⟨w.heap.size, 1, none⟩ = some (.int .i64 b) := by rw [hW]; go_simp
  obtain ⟨q, hq⟩ : ∃ q, q = lenZ (clampF a) (clampF b) := ⟨_, rfl⟩
  have ba := clampF_bd a
  have bb := clampF_bd b
  have HLN : Hid (∀ w, Calls Try.prog 120 #[.int .i64 (clampF a), .int .i64 (clampF b)] w (Ret (.int .i64 q) w)) := fun w => by rw [hq]; exact vlength_calls _ _ (by omega) (by omega) w
  rw [← hq]
  clear hq ba bb
  go_enter Try.func58, Try.ntmps58
  go_wp2_with fail
  rw [← hW]
  clear hW
  refine wp_region_noPanic ?_
  refine wp_region_U (S := (S2 (fun w' => w'.cell? ⟨w.heap.size, 0, none⟩ = some (.int .i64 a) ∧ w'.cell? ⟨w.heap.size, 1, none⟩ = some (.int .i64 b) ∧ Below w.heap.size w w'))) (T := (fun _ => 0)) (by kernel_rfl) (S2i0 ⟨p0, p1, hB0.drew⟩) (fun hH => ?_)
  have hWr2 : Weaker (S2 (fun w' => w'.cell? ⟨w.heap.size, 0, none⟩ = some (.int .i64 a) ∧ w'.cell? ⟨w.heap.size, 1, none⟩ = some (.int .i64 b) ∧ Below w.heap.size w w')) := weaker2 _
  refine U_take 0 3 8 0 0 (v := ?vr2_1) rfl (by kernel_rfl) (by kernel_rfl) hWr2 (by kernel_rfl) (by kernel_rfl) (by kernel_rfl) (by kernel_rfl) (by kernel_rfl) (by kernel_rfl) (fun _ _ _ _ h => h) (by kernel_rfl) ?hyr2_1 (by omega) hH ?_
  case hyr2_1 => (intro w' hSw; clear hSw; go_simp; try (with_reducible rfl))
  simp only [List.set_cons_zero, List.set_cons_succ]
  refine U_take 1 4 7 0 0 (v := ?vr2_2) rfl (by kernel_rfl) (by kernel_rfl) hWr2 (by kernel_rfl) (by kernel_rfl) (by kernel_rfl) (by kernel_rfl) (by kernel_rfl) (by kernel_rfl) (fun _ _ _ _ h => h) (by kernel_rfl) ?hyr2_2 (by omega) hH ?_
  case hyr2_2 => (intro w' hSw; replace hSw := S2o0 hSw; (try dsimp only at hSw); have q0 := hSw.1; have q1 := hSw.2.1; have q2 := hSw.2.2; go_simp; try (with_reducible rfl))
  simp only [List.set_cons_zero, List.set_cons_succ]
  refine U_take 3 6 6 0 0 (v := ?vr2_3) rfl (by kernel_rfl) (by kernel_rfl) hWr2 (by kernel_rfl) (by kernel_rfl) (by kernel_rfl) (by kernel_rfl) (by kernel_rfl) (by kernel_rfl) (fun _ _ _ _ h => h) (by kernel_rfl) ?hyr2_3 (by omega) hH ?_
  case hyr2_3 => (intro w' hSw; clear hSw; go_simp; try (with_reducible rfl))
  simp only [List.set_cons_zero, List.set_cons_succ]
  refine U_take 4 7 5 0 0 (v := ?vr2_4) rfl (by kernel_rfl) (by kernel_rfl) hWr2 (by kernel_rfl) (by kernel_rfl) (by kernel_rfl) (by kernel_rfl) (by kernel_rfl) (by kernel_rfl) (fun _ _ _ _ h => h) (by kernel_rfl) ?hyr2_4 (by omega) hH ?_
  case hyr2_4 => (intro w' hSw; replace hSw := S2o0 hSw; (try dsimp only at hSw); have q0 := hSw.1; have q1 := hSw.2.1; have q2 := hSw.2.2; go_simp; try (with_reducible rfl))
  simp only [List.set_cons_zero, List.set_cons_succ]
  refine wpAnyU_ready (rs := [2]) (by kernel_rfl) (by simp) ?_
  refine AllReadyU.cons 0 (by kernel_rfl) (o := _) rfl (fun K hK => ?_) AllReadyU.nil
  try clear hb
  go_simp
  (go_at_call 119; refine (clamp_calls a _).mono ?_; rintro e wn ⟨rfl, hb⟩)
  refine hK.out _ _ ?hsr2_5 (fun hH2 => ?hrr2_5)
  case hsr2_5 => exact S2i0 (by have hG := hH; replace hG := S2o0 hG; (try dsimp only at hG); have q0 := hG.1; have q1 := hG.2.1; have q2 := hG.2.2; exact ⟨keepCell hb q0, keepCell hb q1, keepBelow hb q2⟩)
  clear hK K hH
  have hH := hH2
  clear hH2
  try simp only [Act.put, List.setIfInBounds_toArray, List.set_cons_zero, List.set_cons_succ]
  refine wpAnyU_ready (rs := [5]) (by kernel_rfl) (by simp) ?_
  refine AllReadyU.cons 0 (by kernel_rfl) (o := _) rfl (fun K hK => ?_) AllReadyU.nil
  try clear hb
  go_simp
  (go_at_call 119; refine (clamp_calls b _).mono ?_; rintro e wn ⟨rfl, hb⟩)
  refine hK.out _ _ ?hsr2_6 (fun hH2 => ?hrr2_6)
  case hsr2_6 => exact S2i0 (by have hG := hH; replace hG := S2o0 hG; (try dsimp only at hG); have q0 := hG.1; have q1 := hG.2.1; have q2 := hG.2.2; exact ⟨keepCell hb q0, keepCell hb q1, keepBelow hb q2⟩)
  clear hK K hH
  have hH := hH2
  clear hH2
  try simp only [Act.put, List.setIfInBounds_toArray, List.set_cons_zero, List.set_cons_succ]
  refine wpAnyU_ready (rs := [6]) (by kernel_rfl) (by simp) ?_
  refine AllReadyU.cons 0 (by kernel_rfl) (o := _) rfl (fun K hK => ?_) AllReadyU.nil
  try clear hb
  go_simp
  (go_at_call 120; refine (HLN.out _).mono ?_; rintro e wn ⟨rfl, hb⟩)
  refine hK.out _ _ ?hsr2_7 (fun hH2 => ?hrr2_7)
  case hsr2_7 => exact S2i0 (by have hG := hH; replace hG := S2o0 hG; (try dsimp only at hG); have q0 := hG.1; have q1 := hG.2.1; have q2 := hG.2.2; exact ⟨keepCell hb q0, keepCell hb q1, keepBelow hb q2⟩)
  clear hK K hH
  have hH := hH2
  clear hH2
  try simp only [Act.put, List.setIfInBounds_toArray, List.set_cons_zero, List.set_cons_succ]
  refine wpAnyU_ready (rs := [7]) (by kernel_rfl) (by simp) ?_
  refine AllReadyU.cons 0 (by kernel_rfl) (o := _) rfl (fun K hK => ?_) AllReadyU.nil
  try clear hb
  go_simp
  (go_at_call 119; refine (clamp_calls q _).mono ?_; rintro e wn ⟨rfl, hb⟩)
  refine hK.out _ _ ?hsr2_8 (fun hH2 => ?hrr2_8)
  case hsr2_8 => exact S2i0 (by have hG := hH; replace hG := S2o0 hG; (try dsimp only at hG); have q0 := hG.1; have q1 := hG.2.1; have q2 := hG.2.2; exact ⟨keepCell hb q0, keepCell hb q1, keepBelow hb q2⟩)
  clear hK K hH
  have hH := hH2
  clear hH2
  try simp only [Act.put, List.setIfInBounds_toArray, List.set_cons_zero, List.set_cons_succ]
  refine U_take 8 2 0 0 0 (v := ?vr2_9) rfl (by kernel_rfl) (by kernel_rfl) hWr2 (by kernel_rfl) (by kernel_rfl) (by kernel_rfl) (by kernel_rfl) (by kernel_rfl) (by kernel_rfl) (fun _ _ _ _ h => h) (by kernel_rfl) ?hyr2_9 (by omega) hH ?_
  case hyr2_9 => (intro w' hSw; clear hSw; go_simp; try (with_reducible rfl))
  simp only [List.set_cons_zero, List.set_cons_succ]
  refine wpAnyU_done (by kernel_rfl) ?_ _ _
  refine NoPanic.normal ?_
  clear hWr2
  replace hH := S2o0 hH
  (try dsimp only at hH)
  have qq0 := hH.1
  have qq1 := hH.2.1
  have qq2 := hH.2.2
  go_wp2
  go_returns
  exact ret_int rfl qq2
set_option maxRecDepth 100000 in
set_option maxHeartbeats 4000000 in
end
end Go.Proofs.Ytienmhgbildhhaa
