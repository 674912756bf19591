/- Parts of a proof: contracts and laws. -/
import Derived.Test.YtkiiehobphkmgaaPZ14
import Derived.Test.YtkiiehobphkmgaaPZ04
import Derived.BigQuiet
import Derived.Test.YtkiiehobphkmgaaPZ20
namespace Go.Proofs.Ytkiiehobphkmgaa
section
set_option linter.unusedVariables false
set_option linter.unusedSimpArgs false
open Go.RowKit

def speedX (b : Bd) (p q : Int) : Int := subF b.vx (mulF (mulF b.spin 411775) (subF q b.py))
def speedY (b : Bd) (p q : Int) : Int := addF b.vy (mulF (mulF b.spin 411775) (subF p b.px))
def easeN (b : Bd) (p q nx ny : Int) : Int := addF (divF 65536 b.mass) (divF (mulF (crossF (subF p b.px) (subF q b.py) nx ny) (crossF (subF p b.px) (subF q b.py) nx ny)) b.iner)
def easeR (b : Bd) (p q nx ny : Int) : Int := if b.mass = 0 ∨ b.asleep = true then 0 else easeN b p q nx ny
def easeB (b : Bd) (l : List V) (p q nx ny : Int) : Int := if bodyE b l ≠ 0 ∨ b.mass = 0 ∨ b.asleep = true then 0 else easeN b p q nx ny
def pushR (b : Bd) (jx jy u v : Int) : Bd :=
  if b.mass = 0 ∨ b.asleep = true then b
  else { b with vx := clampN (addF b.vx (divF jx b.mass)) 268435456, vy := clampN (addF b.vy (divF jy b.mass)) 268435456, spin := clampN (addF b.spin (turnF b jx jy u v)) 16777216 }
theorem pushB_ok {b : Bd} {l : List V} (h : bodyE b l = 0) (jx jy u v : Int) : pushB b l jx jy u v = pushR b jx jy u v := by
  unfold pushB pushR
  by_cases hc : b.mass = 0 ∨ b.asleep = true
  · rw [if_pos (.inr hc), if_pos hc]
  · rw [if_neg (by rintro (h1 | h1); exact h1 h; exact hc h1), if_neg hc]
theorem easeB_ok {b : Bd} {l : List V} (h : bodyE b l = 0) (p q nx ny : Int) : easeB b l p q nx ny = easeR b p q nx ny := by
  unfold easeB easeR
  by_cases hc : b.mass = 0 ∨ b.asleep = true
  · rw [if_pos (.inr hc), if_pos hc]
  · rw [if_neg (by rintro (h1 | h1); exact h1 h; exact hc h1), if_neg hc]
set_option maxRecDepth 100000 in
set_option maxHeartbeats 4000000 in
theorem bease_calls (b : Bd) (A : Option Addr) (n c : Nat) (l : List V) (p q nx ny : Int) (w : World) (hS : Sl w A n c l) : Calls Try.prog 29 #[bodyV b A n c, vecV p q, vecV nx ny] w (Ret (.int .i64 (easeB b l p q nx ny)) w) := by
  obtain ⟨W, hW⟩ : ∃ W, W = ((w.alloc (.cells #[.int .i64 b.px, .int .i64 b.py, .int .i64 b.vx, .int .i64 b.vy, .int .i64 b.ang, .int .i64 b.spin, .int .i64 b.mass, .int .i64 b.iner, .int .i64 b.bounce, .int .i64 b.rub, .slice A n c, .bool b.asleep, .int .i64 b.calm] 27)).alloc (.cells #[.int .i64 p, .int .i64 q] 24)).alloc (.cells #[.int .i64 nx, .int .i64 ny] 24) := ⟨_, rfl⟩
  have HK0 := hid (show BdAt W w.heap.size b A n c by rw [hW]; exact ((BdAt.here w b A n c _).alloc _).alloc _)
  have hB0 : Below w.heap.size w W := by rw [hW]; go_grown
  have p0 : W.cell? ⟨w.heap.size + 1, 0, none⟩ = some (.int .i64 p) := by rw [hW]; go_simp
  have p1 : W.cell? ⟨w.heap.size + 1, 1, none⟩ = some (.int .i64 q) := by rw [hW]; go_simp
  have n0 : W.cell? ⟨w.heap.size + 2, 0, none⟩ = some (.int .i64 nx) := by rw [hW]; go_simp
  have n1 : W.cell? ⟨w.heap.size + 2, 1, none⟩ = some (.int .i64 ny) := by rw [hW]; go_simp
  have HS0 := hid (hS.below hB0)
  clear hS
  obtain ⟨k0, k1, k2, k3, k4, k5, k6, k7, k8, k9, k10, k11, k12, kf⟩ := HK0.out
  go_enter Try.func29, Try.ntmps29
  go_wp2_with fail
  rw [← hW]
  clear hW
  refine (bcheck_calls b A n c l _ HS0.out).mono ?_
  rintro e w1 ⟨rfl, hb1⟩
  have HK1 := hid (keepBd hb1 HK0.out)
  have hB1 := keepBelow hb1 hB0
  replace p0 := keepCell hb1 p0
  replace p1 := keepCell hb1 p1
  replace n0 := keepCell hb1 n0
  replace n1 := keepCell hb1 n1
  clear hb1 HK0 hB0 HS0
  clear k0 k1 k2 k3 k4 k5 k6 k7 k8 k9 k10 k11 k12 kf
  by_cases hE : bodyE b l = 0
  · have HE := hid hE
    rw [hE]
    clear hE
    obtain ⟨k0, k1, k2, k3, k4, k5, k6, k7, k8, k9, k10, k11, k12, kf⟩ := HK1.out
    by_cases hm : b.mass = 0
    · have hmb : (b.mass == 0) = true := by simp [hm]
      go_wp2
      go_returns
      exact ret_int (by unfold easeB; rw [if_pos (.inr (.inl hm))]) hB1
    · have hmb : (b.mass == 0) = false := by simp [hm]
      cases ha : b.asleep with
      | true =>
        rw [ha] at k11
        go_wp2
        go_returns
        exact ret_int (by unfold easeB; rw [if_pos (.inr (.inr ha))]) hB1
      | false =>
        rw [ha] at k11
        have hcond : ¬ (bodyE b l ≠ 0 ∨ b.mass = 0 ∨ b.asleep = true) := by rintro (h | h | h); exact h HE.out; exact hm h; (rw [ha] at h; simp at h)
        have HC := hid hcond
        clear hcond
        go_wp2_with fail
        clear k0 k1 k2 k3 k4 k5 k6 k7 k8 k9 k10 k11 k12 kf
        refine wp_region_noPanic ?_
        refine wp_region_U (S := (S2 (fun w' => BdAt w' w.heap.size b A n c ∧ Below w.heap.size w w' ∧ w'.cell? ⟨w.heap.size + 1, 0, none⟩ = some (.int .i64 p) ∧ w'.cell? ⟨w.heap.size + 1, 1, none⟩ = some (.int .i64 q) ∧ w'.cell? ⟨w.heap.size + 2, 0, none⟩ = some (.int .i64 nx) ∧ w'.cell? ⟨w.heap.size + 2, 1, none⟩ = some (.int .i64 ny)))) (T := (fun _ => 0)) (by kernel_rfl) (S2i0 ⟨HK1.out.drew, hB1.drew, p0, p1, n0, n1⟩) (fun hH => ?_)
        have hWr5 : Weaker (S2 (fun w' => BdAt w' w.heap.size b A n c ∧ Below w.heap.size w w' ∧ w'.cell? ⟨w.heap.size + 1, 0, none⟩ = some (.int .i64 p) ∧ w'.cell? ⟨w.heap.size + 1, 1, none⟩ = some (.int .i64 q) ∧ w'.cell? ⟨w.heap.size + 2, 0, none⟩ = some (.int .i64 nx) ∧ w'.cell? ⟨w.heap.size + 2, 1, none⟩ = some (.int .i64 ny))) := weaker2 _
        refine U_take 0 20 6 0 0 (v := ?vr5_1) rfl (by kernel_rfl) (by kernel_rfl) hWr5 (by kernel_rfl) (by kernel_rfl) (by kernel_rfl) (by kernel_rfl) (by kernel_rfl) (by kernel_rfl) (fun _ _ _ _ h => h) (by kernel_rfl) ?hyr5_1 (by omega) hH ?_
        case hyr5_1 => (intro w' hSw; replace hSw := S2o0 hSw; (try dsimp only at hSw); have q0 := hSw.1; have q1 := hSw.2.1; have q2 := hSw.2.2.1; have q3 := hSw.2.2.2.1; have q4 := hSw.2.2.2.2.1; have q5 := hSw.2.2.2.2.2; obtain ⟨qa0_0, qa0_1, qa0_2, qa0_3, qa0_4, qa0_5, qa0_6, qa0_7, qa0_8, qa0_9, qa0_10, qa0_11, qa0_12, qa0_f⟩ := id q0; go_simp; try (with_reducible rfl))
        simp only [List.set_cons_zero, List.set_cons_succ]
        refine U_take 1 21 5 0 0 (v := ?vr5_2) rfl (by kernel_rfl) (by kernel_rfl) hWr5 (by kernel_rfl) (by kernel_rfl) (by kernel_rfl) (by kernel_rfl) (by kernel_rfl) (by kernel_rfl) (fun _ _ _ _ h => h) (by kernel_rfl) ?hyr5_2 (by omega) hH ?_
        case hyr5_2 => (intro w' hSw; clear hSw; go_simp; try (with_reducible rfl))
        simp only [List.set_cons_zero, List.set_cons_succ]
        refine U_take 2 22 4 0 0 (v := ?vr5_3) rfl (by kernel_rfl) (by kernel_rfl) hWr5 (by kernel_rfl) (by kernel_rfl) (by kernel_rfl) (by kernel_rfl) (by kernel_rfl) (by kernel_rfl) (fun _ _ _ _ h => h) (by kernel_rfl) ?hyr5_3 (by omega) hH ?_
        case hyr5_3 => (intro w' hSw; replace hSw := S2o0 hSw; (try dsimp only at hSw); have q0 := hSw.1; have q1 := hSw.2.1; have q2 := hSw.2.2.1; have q3 := hSw.2.2.2.1; have q4 := hSw.2.2.2.2.1; have q5 := hSw.2.2.2.2.2; obtain ⟨qa0_0, qa0_1, qa0_2, qa0_3, qa0_4, qa0_5, qa0_6, qa0_7, qa0_8, qa0_9, qa0_10, qa0_11, qa0_12, qa0_f⟩ := id q0; go_simp; try (with_reducible rfl))
        simp only [List.set_cons_zero, List.set_cons_succ]
        refine U_take 4 24 3 0 0 (v := ?vr5_4) rfl (by kernel_rfl) (by kernel_rfl) hWr5 (by kernel_rfl) (by kernel_rfl) (by kernel_rfl) (by kernel_rfl) (by kernel_rfl) (by kernel_rfl) (fun _ _ _ _ h => h) (by kernel_rfl) ?hyr5_4 (by omega) hH ?_
        case hyr5_4 => (intro w' hSw; replace hSw := S2o0 hSw; (try dsimp only at hSw); have q0 := hSw.1; have q1 := hSw.2.1; have q2 := hSw.2.2.1; have q3 := hSw.2.2.2.1; have q4 := hSw.2.2.2.2.1; have q5 := hSw.2.2.2.2.2; obtain ⟨qa0_0, qa0_1, qa0_2, qa0_3, qa0_4, qa0_5, qa0_6, qa0_7, qa0_8, qa0_9, qa0_10, qa0_11, qa0_12, qa0_f⟩ := id q0; go_simp; try (with_reducible rfl))
        simp only [List.set_cons_zero, List.set_cons_succ]
        refine wpAnyU_ready (rs := [3]) (by kernel_rfl) (by simp) ?_
        refine AllReadyU.cons 0 (by kernel_rfl) (o := _) rfl (fun K hK => ?_) AllReadyU.nil
        try clear hb
        go_simp
        (go_at_call 21; refine (vsub_calls p q b.px b.py _).mono ?_; rintro e wn ⟨rfl, hb⟩)
        refine hK.out _ _ ?hsr5_5 (fun hH2 => ?hrr5_5)
        case hsr5_5 => exact S2i0 (by have hG := hH; replace hG := S2o0 hG; (try dsimp only at hG); have q0 := hG.1; have q1 := hG.2.1; have q2 := hG.2.2.1; have q3 := hG.2.2.2.1; have q4 := hG.2.2.2.2.1; have q5 := hG.2.2.2.2.2; exact ⟨keepBd hb q0, keepBelow hb q1, keepCell hb q2, keepCell hb q3, keepCell hb q4, keepCell hb q5⟩)
        clear hK K hH
        have hH := hH2
        clear hH2
        try simp only [Act.put, List.setIfInBounds_toArray, List.set_cons_zero, List.set_cons_succ]
        refine wpAnyU_ready (rs := [5]) (by kernel_rfl) (by simp) ?_
        refine AllReadyU.cons 0 (by kernel_rfl) (o := _) rfl (fun K hK => ?_) AllReadyU.nil
        try clear hb
        go_simp
        (go_at_call 39; refine (vcross_calls (subF p b.px) (subF q b.py) nx ny _).mono ?_; rintro e wn ⟨rfl, hb⟩)
        refine hK.out _ _ ?hsr5_6 (fun hH2 => ?hrr5_6)
        case hsr5_6 => exact S2i0 (by have hG := hH; replace hG := S2o0 hG; (try dsimp only at hG); have q0 := hG.1; have q1 := hG.2.1; have q2 := hG.2.2.1; have q3 := hG.2.2.2.1; have q4 := hG.2.2.2.2.1; have q5 := hG.2.2.2.2.2; exact ⟨keepBd hb q0, keepBelow hb q1, keepCell hb q2, keepCell hb q3, keepCell hb q4, keepCell hb q5⟩)
        clear hK K hH
        have hH := hH2
        clear hH2
        try simp only [Act.put, List.setIfInBounds_toArray, List.set_cons_zero, List.set_cons_succ]
        refine U_take 6 7 0 0 0 (v := ?vr5_7) rfl (by kernel_rfl) (by kernel_rfl) hWr5 (by kernel_rfl) (by kernel_rfl) (by kernel_rfl) (by kernel_rfl) (by kernel_rfl) (by kernel_rfl) (fun _ _ _ _ h => h) (by kernel_rfl) ?hyr5_7 (by omega) hH ?_
        case hyr5_7 => (intro w' hSw; clear hSw; go_simp; try (with_reducible rfl))
        simp only [List.set_cons_zero, List.set_cons_succ]
        refine wpAnyU_done (by kernel_rfl) ?_ _ _
        refine NoPanic.normal ?_
        clear hWr5
        replace hH := S2o0 hH
        (try dsimp only at hH)
        have q0 := hH.1
        have q1 := hH.2.1
        have q2 := hH.2.2.1
        have q3 := hH.2.2.2.1
        have q4 := hH.2.2.2.2.1
        have q5 := hH.2.2.2.2.2
        obtain ⟨x, hx⟩ : ∃ x, x = crossF (subF p b.px) (subF q b.py) nx ny := ⟨_, rfl⟩
        rw [← hx]
        have HX := hid hx
        have HKn := hid q0
        have hBn := q1
        clear hx hH hb q0 q1 q2 q3 q4 q5 HK1 hB1 p0 p1 n0 n1
        go_wp2_with fail
        refine wp_region_noPanic ?_
        refine wp_region_U (S := (S2 (fun w' => BdAt w' w.heap.size b A n c ∧ Below w.heap.size w w'))) (T := (fun _ => 0)) (by kernel_rfl) (S2i0 ⟨HKn.out.drew, hBn.drew⟩) (fun hH => ?_)
        have hWr6 : Weaker (S2 (fun w' => BdAt w' w.heap.size b A n c ∧ Below w.heap.size w w')) := weaker2 _
        refine U_take 0 26 10 0 0 (v := ?vr6_1) rfl (by kernel_rfl) (by kernel_rfl) hWr6 (by kernel_rfl) (by kernel_rfl) (by kernel_rfl) (by kernel_rfl) (by kernel_rfl) (by kernel_rfl) (fun _ _ _ _ h => h) (by kernel_rfl) ?hyr6_1 (by omega) hH ?_
        case hyr6_1 => (intro w' hSw; clear hSw; go_simp; try (with_reducible rfl))
        simp only [List.set_cons_zero, List.set_cons_succ]
        refine U_take 1 27 9 0 0 (v := ?vr6_2) rfl (by kernel_rfl) (by kernel_rfl) hWr6 (by kernel_rfl) (by kernel_rfl) (by kernel_rfl) (by kernel_rfl) (by kernel_rfl) (by kernel_rfl) (fun _ _ _ _ h => h) (by kernel_rfl) ?hyr6_2 (by omega) hH ?_
        case hyr6_2 => (intro w' hSw; replace hSw := S2o0 hSw; (try dsimp only at hSw); have q0 := hSw.1; have q1 := hSw.2; obtain ⟨qa0_0, qa0_1, qa0_2, qa0_3, qa0_4, qa0_5, qa0_6, qa0_7, qa0_8, qa0_9, qa0_10, qa0_11, qa0_12, qa0_f⟩ := id q0; go_simp; try (with_reducible rfl))
        simp only [List.set_cons_zero, List.set_cons_succ]
        refine U_take 3 29 8 0 0 (v := ?vr6_3) rfl (by kernel_rfl) (by kernel_rfl) hWr6 (by kernel_rfl) (by kernel_rfl) (by kernel_rfl) (by kernel_rfl) (by kernel_rfl) (by kernel_rfl) (fun _ _ _ _ h => h) (by kernel_rfl) ?hyr6_3 (by omega) hH ?_
        case hyr6_3 => (intro w' hSw; clear hSw; go_simp; try (with_reducible rfl))
        simp only [List.set_cons_zero, List.set_cons_succ]
        refine U_take 4 30 7 0 0 (v := ?vr6_4) rfl (by kernel_rfl) (by kernel_rfl) hWr6 (by kernel_rfl) (by kernel_rfl) (by kernel_rfl) (by kernel_rfl) (by kernel_rfl) (by kernel_rfl) (fun _ _ _ _ h => h) (by kernel_rfl) ?hyr6_4 (by omega) hH ?_
        case hyr6_4 => (intro w' hSw; clear hSw; go_simp; try (with_reducible rfl))
        simp only [List.set_cons_zero, List.set_cons_succ]
        refine U_take 6 32 6 0 0 (v := ?vr6_5) rfl (by kernel_rfl) (by kernel_rfl) hWr6 (by kernel_rfl) (by kernel_rfl) (by kernel_rfl) (by kernel_rfl) (by kernel_rfl) (by kernel_rfl) (fun _ _ _ _ h => h) (by kernel_rfl) ?hyr6_5 (by omega) hH ?_
        case hyr6_5 => (intro w' hSw; clear hSw; go_simp; try (with_reducible rfl))
        simp only [List.set_cons_zero, List.set_cons_succ]
        refine U_take 7 33 5 0 0 (v := ?vr6_6) rfl (by kernel_rfl) (by kernel_rfl) hWr6 (by kernel_rfl) (by kernel_rfl) (by kernel_rfl) (by kernel_rfl) (by kernel_rfl) (by kernel_rfl) (fun _ _ _ _ h => h) (by kernel_rfl) ?hyr6_6 (by omega) hH ?_
        case hyr6_6 => (intro w' hSw; replace hSw := S2o0 hSw; (try dsimp only at hSw); have q0 := hSw.1; have q1 := hSw.2; obtain ⟨qa0_0, qa0_1, qa0_2, qa0_3, qa0_4, qa0_5, qa0_6, qa0_7, qa0_8, qa0_9, qa0_10, qa0_11, qa0_12, qa0_f⟩ := id q0; go_simp; try (with_reducible rfl))
        simp only [List.set_cons_zero, List.set_cons_succ]
        refine wpAnyU_ready (rs := [2]) (by kernel_rfl) (by simp) ?_
        refine AllReadyU.cons 0 (by kernel_rfl) (o := _) rfl (fun K hK => ?_) AllReadyU.nil
        try clear hb
        go_simp
        (go_at_call 40; refine (bover2_calls 65536 b.mass _).mono ?_; rintro e wn ⟨rfl, hb⟩)
        refine hK.out _ _ ?hsr6_7 (fun hH2 => ?hrr6_7)
        case hsr6_7 => exact S2i0 (by have hG := hH; replace hG := S2o0 hG; (try dsimp only at hG); have q0 := hG.1; have q1 := hG.2; exact ⟨keepBd hb q0, keepBelow hb q1⟩)
        clear hK K hH
        have hH := hH2
        clear hH2
        try simp only [Act.put, List.setIfInBounds_toArray, List.set_cons_zero, List.set_cons_succ]
        refine wpAnyU_ready (rs := [5]) (by kernel_rfl) (by simp) ?_
        refine AllReadyU.cons 0 (by kernel_rfl) (o := _) rfl (fun K hK => ?_) AllReadyU.nil
        try clear hb
        go_simp
        (go_at_call 22; refine (fmul_calls x x _).mono ?_; rintro e wn ⟨rfl, hb⟩)
        refine hK.out _ _ ?hsr6_8 (fun hH2 => ?hrr6_8)
        case hsr6_8 => exact S2i0 (by have hG := hH; replace hG := S2o0 hG; (try dsimp only at hG); have q0 := hG.1; have q1 := hG.2; exact ⟨keepBd hb q0, keepBelow hb q1⟩)
        clear hK K hH
        have hH := hH2
        clear hH2
        try simp only [Act.put, List.setIfInBounds_toArray, List.set_cons_zero, List.set_cons_succ]
        refine wpAnyU_ready (rs := [8]) (by kernel_rfl) (by simp) ?_
        refine AllReadyU.cons 0 (by kernel_rfl) (o := _) rfl (fun K hK => ?_) AllReadyU.nil
        try clear hb
        go_simp
        (go_at_call 40; refine (bover2_calls (mulF x x) b.iner _).mono ?_; rintro e wn ⟨rfl, hb⟩)
        refine hK.out _ _ ?hsr6_9 (fun hH2 => ?hrr6_9)
        case hsr6_9 => exact S2i0 (by have hG := hH; replace hG := S2o0 hG; (try dsimp only at hG); have q0 := hG.1; have q1 := hG.2; exact ⟨keepBd hb q0, keepBelow hb q1⟩)
        clear hK K hH
        have hH := hH2
        clear hH2
        try simp only [Act.put, List.setIfInBounds_toArray, List.set_cons_zero, List.set_cons_succ]
        refine wpAnyU_ready (rs := [9]) (by kernel_rfl) (by simp) ?_
        refine AllReadyU.cons 0 (by kernel_rfl) (o := _) rfl (fun K hK => ?_) AllReadyU.nil
        try clear hb
        go_simp
        (go_at_call 24; refine (fadd_calls (divF 65536 b.mass) (divF (mulF x x) b.iner) _).mono ?_; rintro e wn ⟨rfl, hb⟩)
        refine hK.out _ _ ?hsr6_10 (fun hH2 => ?hrr6_10)
        case hsr6_10 => exact S2i0 (by have hG := hH; replace hG := S2o0 hG; (try dsimp only at hG); have q0 := hG.1; have q1 := hG.2; exact ⟨keepBd hb q0, keepBelow hb q1⟩)
        clear hK K hH
        have hH := hH2
        clear hH2
        try simp only [Act.put, List.setIfInBounds_toArray, List.set_cons_zero, List.set_cons_succ]
        refine U_take 10 6 0 0 0 (v := ?vr6_11) rfl (by kernel_rfl) (by kernel_rfl) hWr6 (by kernel_rfl) (by kernel_rfl) (by kernel_rfl) (by kernel_rfl) (by kernel_rfl) (by kernel_rfl) (fun _ _ _ _ h => h) (by kernel_rfl) ?hyr6_11 (by omega) hH ?_
        case hyr6_11 => (intro w' hSw; clear hSw; go_simp; try (with_reducible rfl))
        simp only [List.set_cons_zero, List.set_cons_succ]
        refine wpAnyU_done (by kernel_rfl) ?_ _ _
        refine NoPanic.normal ?_
        clear hWr6
        replace hH := S2o0 hH
        (try dsimp only at hH)
        have q0 := hH.1
        have q1 := hH.2
        go_wp2
        go_returns
        exact ret_int (by unfold easeB; rw [if_neg HC.out]; unfold easeN; rw [HX.out]) q1
  · have hne : (bodyE b l != 0) = true := by simp [hE]
    go_wp2
    go_returns
    exact ret_int (by unfold easeB; rw [if_pos (.inl hE)]) hB1
end
end Go.Proofs.Ytkiiehobphkmgaa
