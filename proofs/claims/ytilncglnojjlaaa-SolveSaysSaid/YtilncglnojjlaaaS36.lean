/- Parts of a proof: contracts and laws. -/
import Derived.Test.YtilncglnojjlaaaS18
import Derived.Test.YtilncglnojjlaaaS28
namespace Go.Proofs.Ytilncglnojjlaaa
section
set_option linter.unusedVariables false
set_option linter.unusedSimpArgs false
open Go.RowKit
set_option maxRecDepth 100000 in
set_option maxHeartbeats 4000000 in
theorem rpushed_calls (b : Bd) (A : Option Addr) (n c : Nat) (jx jy u v : Int) (w : World) : Calls Try.prog 89 #[bodyV b A n c, vecV jx jy, vecV u v] w (Ret (bodyV (pushR b jx jy u v) A n c) w) := by
  obtain ⟨W, hW⟩ : ∃ W, W = (((w.alloc (.cells #[.int .i64 b.px, .int .i64 b.py, .int .i64 b.vx, .int .i64 b.vy, .int .i64 b.ang, .int .i64 b.spin, .int .i64 b.mass, .int .i64 b.iner, .int .i64 b.bounce, .int .i64 b.rub, .slice A n c, .bool b.asleep, .int .i64 b.calm] 68)).alloc (.cells #[.int .i64 jx, .int .i64 jy] 34)).alloc (.cells #[.int .i64 u, .int .i64 v] 34)).alloc (.cells #[.int .i64 0, .int .i64 0, .int .i64 0, .int .i64 0, .int .i64 0, .int .i64 0, .int .i64 0, .int .i64 0, .int .i64 0, .int .i64 0, .slice none 0 0, .bool false, .int .i64 0] 68) := ⟨_, rfl⟩
  have HK0 := hid (show BdAt W w.heap.size b A n c by rw [hW]; exact (((BdAt.here w b A n c _).alloc _).alloc _).alloc _)
  have HZ0 := hid (show BdZ W (w.heap.size + 3) by rw [hW]; have := BdAt.here (((w.alloc (.cells #[.int .i64 b.px, .int .i64 b.py, .int .i64 b.vx, .int .i64 b.vy, .int .i64 b.ang, .int .i64 b.spin, .int .i64 b.mass, .int .i64 b.iner, .int .i64 b.bounce, .int .i64 b.rub, .slice A n c, .bool b.asleep, .int .i64 b.calm] 68)).alloc (.cells #[.int .i64 jx, .int .i64 jy] 34)).alloc (.cells #[.int .i64 u, .int .i64 v] 34)) bd0 none 0 0 68; simp only [bd0] at this; exact BdZ.of (by simpa using this))
  have hB0 : Below w.heap.size w W := by rw [hW]; go_grown
  have j0 : W.cell? ⟨w.heap.size + 1, 0, none⟩ = some (.int .i64 jx) := by rw [hW]; go_simp
  have j1 : W.cell? ⟨w.heap.size + 1, 1, none⟩ = some (.int .i64 jy) := by rw [hW]; go_simp
  have p0 : W.cell? ⟨w.heap.size + 2, 0, none⟩ = some (.int .i64 u) := by rw [hW]; go_simp
  have p1 : W.cell? ⟨w.heap.size + 2, 1, none⟩ = some (.int .i64 v) := by rw [hW]; go_simp
  obtain ⟨k0, k1, k2, k3, k4, k5, k6, k7, k8, k9, k10, k11, k12, kf⟩ := HK0.out
  go_enter Try.func89, Try.ntmps89
  go_wp2_with fail
  rw [← hW]
  clear hW k0 k1 k2 k3 k4 k5 k6 k7 k8 k9 k10 k11 k12 kf
  refine (rfree_calls b A n c _).mono ?_
  rintro e w1 ⟨rfl, hb1⟩
  have HK1 := hid (keepBd hb1 HK0.out)
  have HZ1 := hid (keepBdZ hb1 HZ0.out)
  have hB1 := keepBelow hb1 hB0
  replace j0 := keepCell hb1 j0
  replace j1 := keepCell hb1 j1
  replace p0 := keepCell hb1 p0
  replace p1 := keepCell hb1 p1
  clear hb1 HK0 HZ0 hB0
  cases hfr : freeB b with
  | false =>
    have hz := freeB_false hfr
    clear j0 j1 p0 p1
    obtain ⟨k0, k1, k2, k3, k4, k5, k6, k7, k8, k9, k10, k11, k12, kf⟩ := HK1.out
    obtain ⟨z0, z1, z2, z3, z4, z5, z6, z7, z8, z9, z10, z11, z12, y0, y1, y2, y3, y4, y5, y6, y7, y8, y9, y10, y11, y12⟩ := HZ1.out.all
    have yf := HZ1.out.free
    have hl1 := HZ1.out.lt
    have hz8 := HK1.out.lt
    clear HK1 HZ1
    have HR : Hid (pushR b jx jy u v = b) := by show _ = _; unfold pushR; rw [if_pos hz]
    go_wp2
    refine bodyPost_ret (v := bodyV b A n c) (by simp [results, Try.results89, go_sem, y0, y1, y2, y3, y4, y5, y6, y7, y8, y9, y10, y11, y12, hl1]) rfl ⟨by rw [HR.out], by go_grown⟩
  | true =>
    have HC := hid (freeB_true hfr)
    clear hfr
    go_wp2_with fail
    refine wp_region_noPanic ?_
    refine wp_region_U (S := (S2 (fun w' => BdAt w' w.heap.size b A n c ∧ BdZ w' (w.heap.size + 3) ∧ Below w.heap.size w w' ∧ w'.cell? ⟨w.heap.size + 1, 0, none⟩ = some (.int .i64 jx) ∧ w'.cell? ⟨w.heap.size + 1, 1, none⟩ = some (.int .i64 jy) ∧ w'.cell? ⟨w.heap.size + 2, 0, none⟩ = some (.int .i64 u) ∧ w'.cell? ⟨w.heap.size + 2, 1, none⟩ = some (.int .i64 v)))) (T := (fun _ => 0)) (by kernel_rfl) (S2i0 ⟨HK1.out.drew, HZ1.out.drew, hB1.drew, j0, j1, p0, p1⟩) (fun hH => ?_)
    have hWr1 : Weaker (S2 (fun w' => BdAt w' w.heap.size b A n c ∧ BdZ w' (w.heap.size + 3) ∧ Below w.heap.size w w' ∧ w'.cell? ⟨w.heap.size + 1, 0, none⟩ = some (.int .i64 jx) ∧ w'.cell? ⟨w.heap.size + 1, 1, none⟩ = some (.int .i64 jy) ∧ w'.cell? ⟨w.heap.size + 2, 0, none⟩ = some (.int .i64 u) ∧ w'.cell? ⟨w.heap.size + 2, 1, none⟩ = some (.int .i64 v))) := weaker2 _
    refine U_take 0 12 10 0 0 (v := ?vr1_1) rfl (by kernel_rfl) (by kernel_rfl) hWr1 (by kernel_rfl) (by kernel_rfl) (by kernel_rfl) (by kernel_rfl) (by kernel_rfl) (by kernel_rfl) (fun _ _ _ _ h => h) (by kernel_rfl) ?hyr1_1 (by omega) hH ?_
    case hyr1_1 => (intro w' hSw; replace hSw := S2o0 hSw; (try dsimp only at hSw); have q0 := hSw.1; have q1 := hSw.2.1; have q2 := hSw.2.2.1; have q3 := hSw.2.2.2.1; have q4 := hSw.2.2.2.2.1; have q5 := hSw.2.2.2.2.2.1; have q6 := hSw.2.2.2.2.2.2; obtain ⟨qa0_0, qa0_1, qa0_2, qa0_3, qa0_4, qa0_5, qa0_6, qa0_7, qa0_8, qa0_9, qa0_10, qa0_11, qa0_12, qa0_f⟩ := id q0; go_simp; try (with_reducible rfl))
    simp only [List.set_cons_zero, List.set_cons_succ]
    refine U_take 1 13 9 0 0 (v := ?vr1_2) rfl (by kernel_rfl) (by kernel_rfl) hWr1 (by kernel_rfl) (by kernel_rfl) (by kernel_rfl) (by kernel_rfl) (by kernel_rfl) (by kernel_rfl) (fun _ _ _ _ h => h) (by kernel_rfl) ?hyr1_2 (by omega) hH ?_
    case hyr1_2 => (intro w' hSw; clear hSw; go_simp; try (with_reducible rfl))
    simp only [List.set_cons_zero, List.set_cons_succ]
    refine U_take 2 14 8 0 0 (v := ?vr1_3) rfl (by kernel_rfl) (by kernel_rfl) hWr1 (by kernel_rfl) (by kernel_rfl) (by kernel_rfl) (by kernel_rfl) (by kernel_rfl) (by kernel_rfl) (fun _ _ _ _ h => h) (by kernel_rfl) ?hyr1_3 (by omega) hH ?_
    case hyr1_3 => (intro w' hSw; replace hSw := S2o0 hSw; (try dsimp only at hSw); have q0 := hSw.1; have q1 := hSw.2.1; have q2 := hSw.2.2.1; have q3 := hSw.2.2.2.1; have q4 := hSw.2.2.2.2.1; have q5 := hSw.2.2.2.2.2.1; have q6 := hSw.2.2.2.2.2.2; obtain ⟨qa0_0, qa0_1, qa0_2, qa0_3, qa0_4, qa0_5, qa0_6, qa0_7, qa0_8, qa0_9, qa0_10, qa0_11, qa0_12, qa0_f⟩ := id q0; go_simp; try (with_reducible rfl))
    simp only [List.set_cons_zero, List.set_cons_succ]
    refine U_take 4 16 7 0 0 (v := ?vr1_4) rfl (by kernel_rfl) (by kernel_rfl) hWr1 (by kernel_rfl) (by kernel_rfl) (by kernel_rfl) (by kernel_rfl) (by kernel_rfl) (by kernel_rfl) (fun _ _ _ _ h => h) (by kernel_rfl) ?hyr1_4 (by omega) hH ?_
    case hyr1_4 => (intro w' hSw; replace hSw := S2o0 hSw; (try dsimp only at hSw); have q0 := hSw.1; have q1 := hSw.2.1; have q2 := hSw.2.2.1; have q3 := hSw.2.2.2.1; have q4 := hSw.2.2.2.2.1; have q5 := hSw.2.2.2.2.2.1; have q6 := hSw.2.2.2.2.2.2; obtain ⟨qa0_0, qa0_1, qa0_2, qa0_3, qa0_4, qa0_5, qa0_6, qa0_7, qa0_8, qa0_9, qa0_10, qa0_11, qa0_12, qa0_f⟩ := id q0; go_simp; try (with_reducible rfl))
    simp only [List.set_cons_zero, List.set_cons_succ]
    refine U_take 6 18 6 0 0 (v := ?vr1_5) rfl (by kernel_rfl) (by kernel_rfl) hWr1 (by kernel_rfl) (by kernel_rfl) (by kernel_rfl) (by kernel_rfl) (by kernel_rfl) (by kernel_rfl) (fun _ _ _ _ h => h) (by kernel_rfl) ?hyr1_5 (by omega) hH ?_
    case hyr1_5 => (intro w' hSw; clear hSw; go_simp; try (with_reducible rfl))
    simp only [List.set_cons_zero, List.set_cons_succ]
    refine U_take 7 19 5 0 0 (v := ?vr1_6) rfl (by kernel_rfl) (by kernel_rfl) hWr1 (by kernel_rfl) (by kernel_rfl) (by kernel_rfl) (by kernel_rfl) (by kernel_rfl) (by kernel_rfl) (fun _ _ _ _ h => h) (by kernel_rfl) ?hyr1_6 (by omega) hH ?_
    case hyr1_6 => (intro w' hSw; replace hSw := S2o0 hSw; (try dsimp only at hSw); have q0 := hSw.1; have q1 := hSw.2.1; have q2 := hSw.2.2.1; have q3 := hSw.2.2.2.1; have q4 := hSw.2.2.2.2.1; have q5 := hSw.2.2.2.2.2.1; have q6 := hSw.2.2.2.2.2.2; obtain ⟨qa0_0, qa0_1, qa0_2, qa0_3, qa0_4, qa0_5, qa0_6, qa0_7, qa0_8, qa0_9, qa0_10, qa0_11, qa0_12, qa0_f⟩ := id q0; go_simp; try (with_reducible rfl))
    simp only [List.set_cons_zero, List.set_cons_succ]
    refine wpAnyU_ready (rs := [3]) (by kernel_rfl) (by simp) ?_
    refine AllReadyU.cons 0 (by kernel_rfl) (o := _) rfl (fun K hK => ?_) AllReadyU.nil
    try clear hb
    go_simp
    (go_at_call 85; refine (vsub_calls u v b.px b.py _).mono ?_; rintro e wn ⟨rfl, hb⟩)
    refine hK.out _ _ ?hsr1_7 (fun hH2 => ?hrr1_7)
    case hsr1_7 => exact S2i0 (by have hG := hH; replace hG := S2o0 hG; (try dsimp only at hG); have q0 := hG.1; have q1 := hG.2.1; have q2 := hG.2.2.1; have q3 := hG.2.2.2.1; have q4 := hG.2.2.2.2.1; have q5 := hG.2.2.2.2.2.1; have q6 := hG.2.2.2.2.2.2; exact ⟨keepBd hb q0, keepBdZ hb q1, keepBelow hb q2, keepCell hb q3, keepCell hb q4, keepCell hb q5, keepCell hb q6⟩)
    clear hK K hH
    have hH := hH2
    clear hH2
    try simp only [Act.put, List.setIfInBounds_toArray, List.set_cons_zero, List.set_cons_succ]
    refine wpAnyU_ready (rs := [5]) (by kernel_rfl) (by simp) ?_
    refine AllReadyU.cons 0 (by kernel_rfl) (o := _) rfl (fun K hK => ?_) AllReadyU.nil
    try clear hb
    go_simp
    (go_at_call 84; refine (vcross_calls (subF u b.px) (subF v b.py) jx jy _).mono ?_; rintro e wn ⟨rfl, hb⟩)
    refine hK.out _ _ ?hsr1_8 (fun hH2 => ?hrr1_8)
    case hsr1_8 => exact S2i0 (by have hG := hH; replace hG := S2o0 hG; (try dsimp only at hG); have q0 := hG.1; have q1 := hG.2.1; have q2 := hG.2.2.1; have q3 := hG.2.2.2.1; have q4 := hG.2.2.2.2.1; have q5 := hG.2.2.2.2.2.1; have q6 := hG.2.2.2.2.2.2; exact ⟨keepBd hb q0, keepBdZ hb q1, keepBelow hb q2, keepCell hb q3, keepCell hb q4, keepCell hb q5, keepCell hb q6⟩)
    clear hK K hH
    have hH := hH2
    clear hH2
    try simp only [Act.put, List.setIfInBounds_toArray, List.set_cons_zero, List.set_cons_succ]
    refine wpAnyU_ready (rs := [8]) (by kernel_rfl) (by simp) ?_
    refine AllReadyU.cons 0 (by kernel_rfl) (o := _) rfl (fun K hK => ?_) AllReadyU.nil
    try clear hb
    go_simp
    (go_at_call 46; refine (rquot_calls (crossF (subF u b.px) (subF v b.py) jx jy) b.iner _).mono ?_; rintro e wn ⟨rfl, hb⟩)
    refine hK.out _ _ ?hsr1_9 (fun hH2 => ?hrr1_9)
    case hsr1_9 => exact S2i0 (by have hG := hH; replace hG := S2o0 hG; (try dsimp only at hG); have q0 := hG.1; have q1 := hG.2.1; have q2 := hG.2.2.1; have q3 := hG.2.2.2.1; have q4 := hG.2.2.2.2.1; have q5 := hG.2.2.2.2.2.1; have q6 := hG.2.2.2.2.2.2; exact ⟨keepBd hb q0, keepBdZ hb q1, keepBelow hb q2, keepCell hb q3, keepCell hb q4, keepCell hb q5, keepCell hb q6⟩)
    clear hK K hH
    have hH := hH2
    clear hH2
    try simp only [Act.put, List.setIfInBounds_toArray, List.set_cons_zero, List.set_cons_succ]
    refine wpAnyU_ready (rs := [9]) (by kernel_rfl) (by simp) ?_
    refine AllReadyU.cons 0 (by kernel_rfl) (o := _) rfl (fun K hK => ?_) AllReadyU.nil
    try clear hb
    go_simp
    (go_at_call 46; refine (rquot_calls (divF (crossF (subF u b.px) (subF v b.py) jx jy) b.iner) 411775 _).mono ?_; rintro e wn ⟨rfl, hb⟩)
    refine hK.out _ _ ?hsr1_10 (fun hH2 => ?hrr1_10)
    case hsr1_10 => exact S2i0 (by have hG := hH; replace hG := S2o0 hG; (try dsimp only at hG); have q0 := hG.1; have q1 := hG.2.1; have q2 := hG.2.2.1; have q3 := hG.2.2.2.1; have q4 := hG.2.2.2.2.1; have q5 := hG.2.2.2.2.2.1; have q6 := hG.2.2.2.2.2.2; exact ⟨keepBd hb q0, keepBdZ hb q1, keepBelow hb q2, keepCell hb q3, keepCell hb q4, keepCell hb q5, keepCell hb q6⟩)
    clear hK K hH
    have hH := hH2
    clear hH2
    try simp only [Act.put, List.setIfInBounds_toArray, List.set_cons_zero, List.set_cons_succ]
    refine U_take 10 7 0 0 0 (v := ?vr1_11) rfl (by kernel_rfl) (by kernel_rfl) hWr1 (by kernel_rfl) (by kernel_rfl) (by kernel_rfl) (by kernel_rfl) (by kernel_rfl) (by kernel_rfl) (fun _ _ _ _ h => h) (by kernel_rfl) ?hyr1_11 (by omega) hH ?_
    case hyr1_11 => (intro w' hSw; clear hSw; go_simp; try (with_reducible rfl))
    simp only [List.set_cons_zero, List.set_cons_succ]
    refine wpAnyU_done (by kernel_rfl) ?_ _ _
    refine NoPanic.normal ?_
    clear hWr1
    replace hH := S2o0 hH
    (try dsimp only at hH)
    have q0 := hH.1
    have q1 := hH.2.1
    have q2 := hH.2.2.1
    have q3 := hH.2.2.2.1
    have q4 := hH.2.2.2.2.1
    have q5 := hH.2.2.2.2.2.1
    have q6 := hH.2.2.2.2.2.2
    have HK2 := hid q0
    have HZ2 := hid q1
    have hB2 := q2
    replace j0 := q3
    replace j1 := q4
    replace p0 := q5
    replace p1 := q6
    obtain ⟨tn, htn⟩ : ∃ tn, tn = turnF b jx jy u v := ⟨_, rfl⟩
    rw [show divF (divF (crossF (subF u b.px) (subF v b.py) jx jy) b.iner) 411775 = tn from htn.symm]
    have HTN := hid htn
    clear htn hH hb q0 q1 q2 q3 q4 q5 q6 HK1 HZ1 hB1
    go_wp2_with fail
    obtain ⟨vx, hvx⟩ : ∃ vx, vx = clampN (addF b.vx (divF jx b.mass)) 268435456 := ⟨_, rfl⟩
    obtain ⟨vy, hvy⟩ : ∃ vy, vy = clampN (addF b.vy (divF jy b.mass)) 268435456 := ⟨_, rfl⟩
    refine wp_region_noPanic ?_
    refine wp_region_U (S := (S2 (fun w' => BdAt w' w.heap.size b A n c ∧ BdZ w' (w.heap.size + 3) ∧ Below w.heap.size w w' ∧ w'.cell? ⟨w.heap.size + 1, 0, none⟩ = some (.int .i64 jx) ∧ w'.cell? ⟨w.heap.size + 1, 1, none⟩ = some (.int .i64 jy) ∧ w'.cell? ⟨w.heap.size + 2, 0, none⟩ = some (.int .i64 u) ∧ w'.cell? ⟨w.heap.size + 2, 1, none⟩ = some (.int .i64 v)))) (T := (fun j => [0, 0, 0, 0, 0, 0, 0, 0, 0, 0, 0, 0, 0, 0, 0, 0, 0, 0, 0, 0, 0, 0, 1].getD j 0)) (by kernel_rfl) (S2i0 ⟨HK2.out.drew, HZ2.out.drew, hB2.drew, j0, j1, p0, p1⟩) (fun hH => ?_)
    have hWr2 : Weaker (S2 (fun w' => BdAt w' w.heap.size b A n c ∧ BdZ w' (w.heap.size + 3) ∧ Below w.heap.size w w' ∧ w'.cell? ⟨w.heap.size + 1, 0, none⟩ = some (.int .i64 jx) ∧ w'.cell? ⟨w.heap.size + 1, 1, none⟩ = some (.int .i64 jy) ∧ w'.cell? ⟨w.heap.size + 2, 0, none⟩ = some (.int .i64 u) ∧ w'.cell? ⟨w.heap.size + 2, 1, none⟩ = some (.int .i64 v))) := weaker2 _
    refine U_take 0 22 22 0 0 (v := ?vr2_1) rfl (by kernel_rfl) (by kernel_rfl) hWr2 (by kernel_rfl) (by kernel_rfl) (by kernel_rfl) (by kernel_rfl) (by kernel_rfl) (by kernel_rfl) (fun _ _ _ _ h => h) (by kernel_rfl) ?hyr2_1 (by omega) hH ?_
    case hyr2_1 => (intro w' hSw; clear hSw; go_simp; try (with_reducible rfl))
    simp only [List.set_cons_zero, List.set_cons_succ]
    refine U_take 1 23 21 0 0 (v := ?vr2_2) rfl (by kernel_rfl) (by kernel_rfl) hWr2 (by kernel_rfl) (by kernel_rfl) (by kernel_rfl) (by kernel_rfl) (by kernel_rfl) (by kernel_rfl) (fun _ _ _ _ h => h) (by kernel_rfl) ?hyr2_2 (by omega) hH ?_
    case hyr2_2 => (intro w' hSw; clear hSw; go_simp; try (with_reducible rfl))
    simp only [List.set_cons_zero, List.set_cons_succ]
    refine U_take 2 24 20 0 0 (v := ?vr2_3) rfl (by kernel_rfl) (by kernel_rfl) hWr2 (by kernel_rfl) (by kernel_rfl) (by kernel_rfl) (by kernel_rfl) (by kernel_rfl) (by kernel_rfl) (fun _ _ _ _ h => h) (by kernel_rfl) ?hyr2_3 (by omega) hH ?_
    case hyr2_3 => (intro w' hSw; replace hSw := S2o0 hSw; (try dsimp only at hSw); have q0 := hSw.1; have q1 := hSw.2.1; have q2 := hSw.2.2.1; have q3 := hSw.2.2.2.1; have q4 := hSw.2.2.2.2.1; have q5 := hSw.2.2.2.2.2.1; have q6 := hSw.2.2.2.2.2.2; obtain ⟨qa0_0, qa0_1, qa0_2, qa0_3, qa0_4, qa0_5, qa0_6, qa0_7, qa0_8, qa0_9, qa0_10, qa0_11, qa0_12, qa0_f⟩ := id q0; go_simp; try (with_reducible rfl))
    simp only [List.set_cons_zero, List.set_cons_succ]
    refine U_take 3 25 19 0 0 (v := ?vr2_4) rfl (by kernel_rfl) (by kernel_rfl) hWr2 (by kernel_rfl) (by kernel_rfl) (by kernel_rfl) (by kernel_rfl) (by kernel_rfl) (by kernel_rfl) (fun _ _ _ _ h => h) (by kernel_rfl) ?hyr2_4 (by omega) hH ?_
    case hyr2_4 => (intro w' hSw; clear hSw; go_simp; try (with_reducible rfl))
    simp only [List.set_cons_zero, List.set_cons_succ]
    refine U_take 4 26 18 0 0 (v := ?vr2_5) rfl (by kernel_rfl) (by kernel_rfl) hWr2 (by kernel_rfl) (by kernel_rfl) (by kernel_rfl) (by kernel_rfl) (by kernel_rfl) (by kernel_rfl) (fun _ _ _ _ h => h) (by kernel_rfl) ?hyr2_5 (by omega) hH ?_
    case hyr2_5 => (intro w' hSw; replace hSw := S2o0 hSw; (try dsimp only at hSw); have q0 := hSw.1; have q1 := hSw.2.1; have q2 := hSw.2.2.1; have q3 := hSw.2.2.2.1; have q4 := hSw.2.2.2.2.1; have q5 := hSw.2.2.2.2.2.1; have q6 := hSw.2.2.2.2.2.2; obtain ⟨qa0_0, qa0_1, qa0_2, qa0_3, qa0_4, qa0_5, qa0_6, qa0_7, qa0_8, qa0_9, qa0_10, qa0_11, qa0_12, qa0_f⟩ := id q0; go_simp; try (with_reducible rfl))
    simp only [List.set_cons_zero, List.set_cons_succ]
    refine U_take 5 27 17 0 0 (v := ?vr2_6) rfl (by kernel_rfl) (by kernel_rfl) hWr2 (by kernel_rfl) (by kernel_rfl) (by kernel_rfl) (by kernel_rfl) (by kernel_rfl) (by kernel_rfl) (fun _ _ _ _ h => h) (by kernel_rfl) ?hyr2_6 (by omega) hH ?_
    case hyr2_6 => (intro w' hSw; clear hSw; go_simp; try (with_reducible rfl))
    simp only [List.set_cons_zero, List.set_cons_succ]
    refine U_take 6 28 16 0 0 (v := ?vr2_7) rfl (by kernel_rfl) (by kernel_rfl) hWr2 (by kernel_rfl) (by kernel_rfl) (by kernel_rfl) (by kernel_rfl) (by kernel_rfl) (by kernel_rfl) (fun _ _ _ _ h => h) (by kernel_rfl) ?hyr2_7 (by omega) hH ?_
    case hyr2_7 => (intro w' hSw; replace hSw := S2o0 hSw; (try dsimp only at hSw); have q0 := hSw.1; have q1 := hSw.2.1; have q2 := hSw.2.2.1; have q3 := hSw.2.2.2.1; have q4 := hSw.2.2.2.2.1; have q5 := hSw.2.2.2.2.2.1; have q6 := hSw.2.2.2.2.2.2; obtain ⟨qa0_0, qa0_1, qa0_2, qa0_3, qa0_4, qa0_5, qa0_6, qa0_7, qa0_8, qa0_9, qa0_10, qa0_11, qa0_12, qa0_f⟩ := id q0; go_simp; try (with_reducible rfl))
    simp only [List.set_cons_zero, List.set_cons_succ]
    refine U_take 10 32 15 0 0 (v := ?vr2_8) rfl (by kernel_rfl) (by kernel_rfl) hWr2 (by kernel_rfl) (by kernel_rfl) (by kernel_rfl) (by kernel_rfl) (by kernel_rfl) (by kernel_rfl) (fun _ _ _ _ h => h) (by kernel_rfl) ?hyr2_8 (by omega) hH ?_
    case hyr2_8 => (intro w' hSw; clear hSw; go_simp; try (with_reducible rfl))
    simp only [List.set_cons_zero, List.set_cons_succ]
    refine U_take 11 33 14 0 0 (v := ?vr2_9) rfl (by kernel_rfl) (by kernel_rfl) hWr2 (by kernel_rfl) (by kernel_rfl) (by kernel_rfl) (by kernel_rfl) (by kernel_rfl) (by kernel_rfl) (fun _ _ _ _ h => h) (by kernel_rfl) ?hyr2_9 (by omega) hH ?_
    case hyr2_9 => (intro w' hSw; clear hSw; go_simp; try (with_reducible rfl))
    simp only [List.set_cons_zero, List.set_cons_succ]
    refine U_take 12 34 13 0 0 (v := ?vr2_10) rfl (by kernel_rfl) (by kernel_rfl) hWr2 (by kernel_rfl) (by kernel_rfl) (by kernel_rfl) (by kernel_rfl) (by kernel_rfl) (by kernel_rfl) (fun _ _ _ _ h => h) (by kernel_rfl) ?hyr2_10 (by omega) hH ?_
    case hyr2_10 => (intro w' hSw; replace hSw := S2o0 hSw; (try dsimp only at hSw); have q0 := hSw.1; have q1 := hSw.2.1; have q2 := hSw.2.2.1; have q3 := hSw.2.2.2.1; have q4 := hSw.2.2.2.2.1; have q5 := hSw.2.2.2.2.2.1; have q6 := hSw.2.2.2.2.2.2; obtain ⟨qa0_0, qa0_1, qa0_2, qa0_3, qa0_4, qa0_5, qa0_6, qa0_7, qa0_8, qa0_9, qa0_10, qa0_11, qa0_12, qa0_f⟩ := id q0; go_simp; try (with_reducible rfl))
    simp only [List.set_cons_zero, List.set_cons_succ]
    refine U_take 13 35 12 0 0 (v := ?vr2_11) rfl (by kernel_rfl) (by kernel_rfl) hWr2 (by kernel_rfl) (by kernel_rfl) (by kernel_rfl) (by kernel_rfl) (by kernel_rfl) (by kernel_rfl) (fun _ _ _ _ h => h) (by kernel_rfl) ?hyr2_11 (by omega) hH ?_
    case hyr2_11 => (intro w' hSw; clear hSw; go_simp; try (with_reducible rfl))
    simp only [List.set_cons_zero, List.set_cons_succ]
    refine U_take 14 36 11 0 0 (v := ?vr2_12) rfl (by kernel_rfl) (by kernel_rfl) hWr2 (by kernel_rfl) (by kernel_rfl) (by kernel_rfl) (by kernel_rfl) (by kernel_rfl) (by kernel_rfl) (fun _ _ _ _ h => h) (by kernel_rfl) ?hyr2_12 (by omega) hH ?_
    case hyr2_12 => (intro w' hSw; replace hSw := S2o0 hSw; (try dsimp only at hSw); have q0 := hSw.1; have q1 := hSw.2.1; have q2 := hSw.2.2.1; have q3 := hSw.2.2.2.1; have q4 := hSw.2.2.2.2.1; have q5 := hSw.2.2.2.2.2.1; have q6 := hSw.2.2.2.2.2.2; obtain ⟨qa0_0, qa0_1, qa0_2, qa0_3, qa0_4, qa0_5, qa0_6, qa0_7, qa0_8, qa0_9, qa0_10, qa0_11, qa0_12, qa0_f⟩ := id q0; go_simp; try (with_reducible rfl))
    simp only [List.set_cons_zero, List.set_cons_succ]
    refine U_take 15 37 10 0 0 (v := ?vr2_13) rfl (by kernel_rfl) (by kernel_rfl) hWr2 (by kernel_rfl) (by kernel_rfl) (by kernel_rfl) (by kernel_rfl) (by kernel_rfl) (by kernel_rfl) (fun _ _ _ _ h => h) (by kernel_rfl) ?hyr2_13 (by omega) hH ?_
    case hyr2_13 => (intro w' hSw; clear hSw; go_simp; try (with_reducible rfl))
    simp only [List.set_cons_zero, List.set_cons_succ]
    refine U_take 16 38 9 0 0 (v := ?vr2_14) rfl (by kernel_rfl) (by kernel_rfl) hWr2 (by kernel_rfl) (by kernel_rfl) (by kernel_rfl) (by kernel_rfl) (by kernel_rfl) (by kernel_rfl) (fun _ _ _ _ h => h) (by kernel_rfl) ?hyr2_14 (by omega) hH ?_
    case hyr2_14 => (intro w' hSw; replace hSw := S2o0 hSw; (try dsimp only at hSw); have q0 := hSw.1; have q1 := hSw.2.1; have q2 := hSw.2.2.1; have q3 := hSw.2.2.2.1; have q4 := hSw.2.2.2.2.1; have q5 := hSw.2.2.2.2.2.1; have q6 := hSw.2.2.2.2.2.2; obtain ⟨qa0_0, qa0_1, qa0_2, qa0_3, qa0_4, qa0_5, qa0_6, qa0_7, qa0_8, qa0_9, qa0_10, qa0_11, qa0_12, qa0_f⟩ := id q0; go_simp; try (with_reducible rfl))
    simp only [List.set_cons_zero, List.set_cons_succ]
    refine wpAnyU_ready (rs := [7]) (by kernel_rfl) (by simp) ?_
    refine AllReadyU.cons 0 (by kernel_rfl) (o := _) rfl (fun K hK => ?_) AllReadyU.nil
    try clear hb
    go_simp
    (go_at_call 46; refine (rquot_calls jx b.mass _).mono ?_; rintro e wn ⟨rfl, hb⟩)
    refine hK.out _ _ ?hsr2_15 (fun hH2 => ?hrr2_15)
    case hsr2_15 => exact S2i0 (by have hG := hH; replace hG := S2o0 hG; (try dsimp only at hG); have q0 := hG.1; have q1 := hG.2.1; have q2 := hG.2.2.1; have q3 := hG.2.2.2.1; have q4 := hG.2.2.2.2.1; have q5 := hG.2.2.2.2.2.1; have q6 := hG.2.2.2.2.2.2; exact ⟨keepBd hb q0, keepBdZ hb q1, keepBelow hb q2, keepCell hb q3, keepCell hb q4, keepCell hb q5, keepCell hb q6⟩)
    clear hK K hH
    have hH := hH2
    clear hH2
    try simp only [Act.put, List.setIfInBounds_toArray, List.set_cons_zero, List.set_cons_succ]
    refine wpAnyU_ready (rs := [8]) (by kernel_rfl) (by simp) ?_
    refine AllReadyU.cons 0 (by kernel_rfl) (o := _) rfl (fun K hK => ?_) AllReadyU.nil
    try clear hb
    go_simp
    (go_at_call 44; refine (fadd_calls b.vx (divF jx b.mass) _).mono ?_; rintro e wn ⟨rfl, hb⟩)
    refine hK.out _ _ ?hsr2_16 (fun hH2 => ?hrr2_16)
    case hsr2_16 => exact S2i0 (by have hG := hH; replace hG := S2o0 hG; (try dsimp only at hG); have q0 := hG.1; have q1 := hG.2.1; have q2 := hG.2.2.1; have q3 := hG.2.2.2.1; have q4 := hG.2.2.2.2.1; have q5 := hG.2.2.2.2.2.1; have q6 := hG.2.2.2.2.2.2; exact ⟨keepBd hb q0, keepBdZ hb q1, keepBelow hb q2, keepCell hb q3, keepCell hb q4, keepCell hb q5, keepCell hb q6⟩)
    clear hK K hH
    have hH := hH2
    clear hH2
    try simp only [Act.put, List.setIfInBounds_toArray, List.set_cons_zero, List.set_cons_succ]
    refine wpAnyU_ready (rs := [9]) (by kernel_rfl) (by simp) ?_
    refine AllReadyU.cons 0 (by kernel_rfl) (o := _) rfl (fun K hK => ?_) AllReadyU.nil
    try clear hb
    go_simp
    (go_at_call 50; refine (rnearest_calls (addF b.vx (divF jx b.mass)) 268435456 (by omega) (by omega) _).mono ?_; rintro e wn ⟨rfl, hb⟩)
    refine hK.out _ _ ?hsr2_17 (fun hH2 => ?hrr2_17)
    case hsr2_17 => exact S2i0 (by have hG := hH; replace hG := S2o0 hG; (try dsimp only at hG); have q0 := hG.1; have q1 := hG.2.1; have q2 := hG.2.2.1; have q3 := hG.2.2.2.1; have q4 := hG.2.2.2.2.1; have q5 := hG.2.2.2.2.2.1; have q6 := hG.2.2.2.2.2.2; exact ⟨keepBd hb q0, keepBdZ hb q1, keepBelow hb q2, keepCell hb q3, keepCell hb q4, keepCell hb q5, keepCell hb q6⟩)
    clear hK K hH
    have hH := hH2
    clear hH2
    try simp only [Act.put, List.setIfInBounds_toArray, List.set_cons_zero, List.set_cons_succ]
    refine wpAnyU_ready (rs := [17]) (by kernel_rfl) (by simp) ?_
    refine AllReadyU.cons 0 (by kernel_rfl) (o := _) rfl (fun K hK => ?_) AllReadyU.nil
    try clear hb
    go_simp
    (go_at_call 46; refine (rquot_calls jy b.mass _).mono ?_; rintro e wn ⟨rfl, hb⟩)
    refine hK.out _ _ ?hsr2_18 (fun hH2 => ?hrr2_18)
    case hsr2_18 => exact S2i0 (by have hG := hH; replace hG := S2o0 hG; (try dsimp only at hG); have q0 := hG.1; have q1 := hG.2.1; have q2 := hG.2.2.1; have q3 := hG.2.2.2.1; have q4 := hG.2.2.2.2.1; have q5 := hG.2.2.2.2.2.1; have q6 := hG.2.2.2.2.2.2; exact ⟨keepBd hb q0, keepBdZ hb q1, keepBelow hb q2, keepCell hb q3, keepCell hb q4, keepCell hb q5, keepCell hb q6⟩)
    clear hK K hH
    have hH := hH2
    clear hH2
    try simp only [Act.put, List.setIfInBounds_toArray, List.set_cons_zero, List.set_cons_succ]
    refine wpAnyU_ready (rs := [18]) (by kernel_rfl) (by simp) ?_
    refine AllReadyU.cons 0 (by kernel_rfl) (o := _) rfl (fun K hK => ?_) AllReadyU.nil
    try clear hb
    go_simp
    (go_at_call 44; refine (fadd_calls b.vy (divF jy b.mass) _).mono ?_; rintro e wn ⟨rfl, hb⟩)
    refine hK.out _ _ ?hsr2_19 (fun hH2 => ?hrr2_19)
    case hsr2_19 => exact S2i0 (by have hG := hH; replace hG := S2o0 hG; (try dsimp only at hG); have q0 := hG.1; have q1 := hG.2.1; have q2 := hG.2.2.1; have q3 := hG.2.2.2.1; have q4 := hG.2.2.2.2.1; have q5 := hG.2.2.2.2.2.1; have q6 := hG.2.2.2.2.2.2; exact ⟨keepBd hb q0, keepBdZ hb q1, keepBelow hb q2, keepCell hb q3, keepCell hb q4, keepCell hb q5, keepCell hb q6⟩)
    clear hK K hH
    have hH := hH2
    clear hH2
    try simp only [Act.put, List.setIfInBounds_toArray, List.set_cons_zero, List.set_cons_succ]
    refine wpAnyU_ready (rs := [19]) (by kernel_rfl) (by simp) ?_
    refine AllReadyU.cons 0 (by kernel_rfl) (o := _) rfl (fun K hK => ?_) AllReadyU.nil
    try clear hb
    go_simp
    (go_at_call 50; refine (rnearest_calls (addF b.vy (divF jy b.mass)) 268435456 (by omega) (by omega) _).mono ?_; rintro e wn ⟨rfl, hb⟩)
    refine hK.out _ _ ?hsr2_20 (fun hH2 => ?hrr2_20)
    case hsr2_20 => exact S2i0 (by have hG := hH; replace hG := S2o0 hG; (try dsimp only at hG); have q0 := hG.1; have q1 := hG.2.1; have q2 := hG.2.2.1; have q3 := hG.2.2.2.1; have q4 := hG.2.2.2.2.1; have q5 := hG.2.2.2.2.2.1; have q6 := hG.2.2.2.2.2.2; exact ⟨keepBd hb q0, keepBdZ hb q1, keepBelow hb q2, keepCell hb q3, keepCell hb q4, keepCell hb q5, keepCell hb q6⟩)
    clear hK K hH
    have hH := hH2
    clear hH2
    try simp only [Act.put, List.setIfInBounds_toArray, List.set_cons_zero, List.set_cons_succ]
    refine U_take 20 42 2 0 0 (v := ?vr2_21) rfl (by kernel_rfl) (by kernel_rfl) hWr2 (by kernel_rfl) (by kernel_rfl) (by kernel_rfl) (by kernel_rfl) (by kernel_rfl) (by kernel_rfl) (fun _ _ _ _ h => h) (by kernel_rfl) ?hyr2_21 (by omega) hH ?_
    case hyr2_21 => (intro w' hSw; clear hSw; go_simp; try (with_reducible rfl))
    simp only [List.set_cons_zero, List.set_cons_succ]
    refine U_take 21 43 1 0 0 (v := ?vr2_22) rfl (by kernel_rfl) (by kernel_rfl) hWr2 (by kernel_rfl) (by kernel_rfl) (by kernel_rfl) (by kernel_rfl) (by kernel_rfl) (by kernel_rfl) (fun _ _ _ _ h => h) (by kernel_rfl) ?hyr2_22 (by omega) hH ?_
    case hyr2_22 => (intro w' hSw; clear hSw; go_simp; try (with_reducible rfl))
    simp only [List.set_cons_zero, List.set_cons_succ]
    refine wpAnyU_ready (rs := [22]) (by kernel_rfl) (by simp) ?_
    refine AllReadyU.cons 1 (by kernel_rfl) (o := _) rfl (fun K hK => ?_) AllReadyU.nil
    have hG := hH
    replace hG := S2o0 hG; (try dsimp only at hG); have q0 := hG.1; have q1 := hG.2.1; have q2 := hG.2.2.1; have q3 := hG.2.2.2.1; have q4 := hG.2.2.2.2.1; have q5 := hG.2.2.2.2.2.1; have q6 := hG.2.2.2.2.2.2; obtain ⟨qa0_0, qa0_1, qa0_2, qa0_3, qa0_4, qa0_5, qa0_6, qa0_7, qa0_8, qa0_9, qa0_10, qa0_11, qa0_12, qa0_f⟩ := id q0
    go_simp
    refine hK.out _ _ ?hsr2_23 (fun hH2 => ?hrr2_23)
    case hsr2_23 => exact S2i1
    clear hK K hH
    have hH := hH2
    clear hH2
    try simp only [Act.put, List.setIfInBounds_toArray, List.set_cons_zero, List.set_cons_succ]
    refine wpAnyU_done (by kernel_rfl) ?_ _ _
    refine NoPanic.normal ?_
    clear hWr2
    rw [← hvx, ← hvy]
    have HVX := hid hvx
    have HVY := hid hvy
    clear hvx hvy
    have HK3 := hid ((q0.set_vx vx).set_vy vy)
    have HZ3 := hid ((q1.set ⟨w.heap.size, 2, none⟩ (.int .i64 vx)).set ⟨w.heap.size, 3, none⟩ (.int .i64 vy))
    have hB3 : Below w.heap.size w ((wn.setCell ⟨w.heap.size, 2, none⟩ (.int .i64 vx)).setCell ⟨w.heap.size, 3, none⟩ (.int .i64 vy)) := by go_grown
    replace j0 : ((wn.setCell ⟨w.heap.size, 2, none⟩ (.int .i64 vx)).setCell ⟨w.heap.size, 3, none⟩ (.int .i64 vy)).cell? ⟨w.heap.size + 1, 0, none⟩ = some (.int .i64 jx) := by go_simp
    replace j1 : ((wn.setCell ⟨w.heap.size, 2, none⟩ (.int .i64 vx)).setCell ⟨w.heap.size, 3, none⟩ (.int .i64 vy)).cell? ⟨w.heap.size + 1, 1, none⟩ = some (.int .i64 jy) := by go_simp
    replace p0 : ((wn.setCell ⟨w.heap.size, 2, none⟩ (.int .i64 vx)).setCell ⟨w.heap.size, 3, none⟩ (.int .i64 vy)).cell? ⟨w.heap.size + 2, 0, none⟩ = some (.int .i64 u) := by go_simp
    replace p1 : ((wn.setCell ⟨w.heap.size, 2, none⟩ (.int .i64 vx)).setCell ⟨w.heap.size, 3, none⟩ (.int .i64 vy)).cell? ⟨w.heap.size + 2, 1, none⟩ = some (.int .i64 v) := by go_simp
    clear hH hG q0 q1 q2 q3 q4 q5 q6 qa0_0 qa0_1 qa0_2 qa0_3 qa0_4 qa0_5 qa0_6 qa0_7 qa0_8 qa0_9 qa0_10 qa0_11 qa0_12 qa0_f HK2 HZ2 hB2
    generalize (wn.setCell ⟨w.heap.size, 2, none⟩ (.int .i64 vx)).setCell ⟨w.heap.size, 3, none⟩ (.int .i64 vy) = wd at *
    obtain ⟨b2, hb2⟩ : ∃ b2 : Bd, b2 = { b with vx := vx, vy := vy } := ⟨_, rfl⟩
    rw [show ({ ({ b with vx := vx } : Bd) with vy := vy } : Bd) = b2 from hb2.symm] at HK3
    have hs2 : b2.spin = b.spin := by rw [hb2]
    obtain ⟨k0, k1, k2, k3, k4, k5, k6, k7, k8, k9, k10, k11, k12, kf⟩ := HK3.out
    have hz5 := HK3.out.lt
    rw [hs2] at k5
    go_wp2_with fail
    refine (fadd_calls b.spin tn _).mono ?_
    rintro e w6 ⟨rfl, hb6⟩
    clear k0 k1 k2 k3 k4 k5 k6 k7 k8 k9 k10 k11 k12 kf
    replace j0 := keepCell hb6 j0
    replace j1 := keepCell hb6 j1
    replace p0 := keepCell hb6 p0
    replace p1 := keepCell hb6 p1
    have HK6 := hid (keepBd hb6 HK3.out)
    have HZ6 := hid (keepBdZ hb6 HZ3.out)
    have hB6 := keepBelow hb6 hB3
    clear hb6 HK3 HZ3 hB3
    go_wp2_with fail
    refine (rnearest_calls (addF b.spin tn) 16777216 (by omega) (by omega) _).mono ?_
    rintro e w7 ⟨rfl, hb7⟩
    have HK7 := hid (keepBd hb7 HK6.out)
    have HZ7 := hid (keepBdZ hb7 HZ6.out)
    have hB7 := keepBelow hb7 hB6
    clear hb7 HK6 HZ6 hB6 j0 j1 p0 p1
    obtain ⟨k0, k1, k2, k3, k4, k5, k6, k7, k8, k9, k10, k11, k12, kf⟩ := HK7.out
    have hz7 := HK7.out.lt
    go_upto_region 6 with fail
    clear k0 k1 k2 k3 k4 k5 k6 k7 k8 k9 k10 k11 k12 kf
    have HK8 := hid (HK7.out.set_spin (clampN (addF b.spin tn) 16777216))
    have HZ8 := hid (HZ7.out.set ⟨w.heap.size, 5, none⟩ (.int .i64 (clampN (addF b.spin tn) 16777216)))
    have hB8 : Below w.heap.size w (w7.setCell ⟨w.heap.size, 5, none⟩ (.int .i64 (clampN (addF b.spin tn) 16777216))) := by go_grown
    clear HK7 HZ7 hB7
    generalize w7.setCell ⟨w.heap.size, 5, none⟩ (.int .i64 (clampN (addF b.spin tn) 16777216)) = wd at *
    obtain ⟨b4, hb4⟩ : ∃ b4 : Bd, b4 = { b2 with spin := clampN (addF b.spin tn) 16777216 } := ⟨_, rfl⟩
    rw [← hb4] at HK8
    obtain ⟨k0, k1, k2, k3, k4, k5, k6, k7, k8, k9, k10, k11, k12, kf⟩ := HK8.out
    obtain ⟨z0, z1, z2, z3, z4, z5, z6, z7, z8, z9, z10, z11, z12, y0, y1, y2, y3, y4, y5, y6, y7, y8, y9, y10, y11, y12⟩ := HZ8.out.all
    have yf := HZ8.out.free
    have hl1 := HZ8.out.lt
    have hz8 := HK8.out.lt
    clear HK8 HZ8
    have HR : Hid (pushR b jx jy u v = b4) := by show _ = _; unfold pushR; rw [if_neg HC.out, hb4, hb2, HVX.out, HVY.out, HTN.out]
    clear hb2 hb4 hs2
    go_wp2
    refine bodyPost_ret (v := bodyV b4 A n c) (by simp [results, Try.results89, go_sem, y0, y1, y2, y3, y4, y5, y6, y7, y8, y9, y10, y11, y12, hl1]) rfl ⟨by rw [HR.out], by go_grown⟩
end
end Go.Proofs.Ytilncglnojjlaaa
