/- The walk of BodyPushes. -/
import Derived.Test.YtmkmmblgmldilaaK3
namespace Go.Proofs.Ytmkmmblgmldilaa
set_option linter.unusedVariables false
set_option linter.unusedSimpArgs false
open Go.RowKit

def bdQ : Bd := ⟨0, 0, 0, 0, 0, 0, 131072, 65536, 0, 0, false, 0⟩
theorem bdQ_ok : bodyE bdQ (sqL (-1) (-1) 2) = 0 := by decide
theorem bd0_bad : bodyE bd0 [] = 3 := by decide
theorem bdQ_push : (pushB bdQ (sqL (-1) (-1) 2) 262144 0 0 (-65536)).vx = 131072 ∧ (pushB bdQ (sqL (-1) (-1) 2) 262144 0 0 (-65536)).vy = 0 ∧ (pushB bdQ (sqL (-1) (-1) 2) 262144 0 0 (-65536)).spin = 41721 := by decide

set_option maxRecDepth 100000 in
set_option maxHeartbeats 2000000 in
theorem bodyBegun_calls (w : World) : Calls Try.prog 32 #[] w (Ret (.bool true) w) := by
  have e1 := hid bdQ_ok
  have e2 := hid bdQ_push
  have e3 := hid bd0_bad
  go_enter Try.func32, Try.ntmps32
  go_wp2_with fail
  refine (square_calls (-1) (-1) 2 (by omega) (by omega) (by omega) _).mono ?_
  rintro e w1 ⟨A, n, c, rfl, hS1, hb1⟩
  have hlen : (sqL (-1) (-1) 2).length ≤ 8796093022208 := by simp [sqL]
  obtain ⟨l, hl⟩ : ∃ l, l = sqL (-1) (-1) 2 := ⟨_, rfl⟩
  rw [← hl] at hS1 hlen e1 e2
  obtain ⟨W, hW⟩ : ∃ W, W = w1.alloc (.cells #[.int .i64 0, .int .i64 0, .int .i64 0, .int .i64 0, .int .i64 0, .int .i64 0, .int .i64 131072, .int .i64 65536, .int .i64 0, .int .i64 0, .slice A n c, .bool false, .int .i64 0] 39) := ⟨_, rfl⟩
  have HK0 := hid (show BdAt W w1.heap.size bdQ A n c by rw [hW]; exact BdAt.here w1 bdQ A n c _)
  have HS0 := hid (show Sl W A n c l by rw [hW]; exact hS1.alloc _)
  have hB0 : Below w.heap.size w W := by rw [hW]; exact hb1.alloc hb1.size _
  clear hS1 hb1 hl
  go_wp2_with fail
  rw [← hW]
  clear hW
  refine (push_calls bdQ A n c l 262144 0 0 (-65536) _ HS0.out hlen).mono ?_
  rintro e w2 ⟨A2, n2, c2, rfl, hs2, hf2, hb2⟩
  obtain ⟨x, hx⟩ : ∃ x, x = pushB bdQ l 262144 0 0 (-65536) := ⟨_, rfl⟩
  rw [← hx] at e2 ⊢
  have HX2 := hid (BdAt.here w2 x A2 n2 c2 39)
  have HS2 := hid ((HS0.out.below hb2).alloc (.cells #[.int .i64 x.px, .int .i64 x.py, .int .i64 x.vx, .int .i64 x.vy, .int .i64 x.ang, .int .i64 x.spin, .int .i64 x.mass, .int .i64 x.iner, .int .i64 x.bounce, .int .i64 x.rub, .slice A2 n2 c2, .bool x.asleep, .int .i64 x.calm] 39))
  have hB2 := (keepBelow hb2 hB0).alloc (keepBelow hb2 hB0).size (.cells #[.int .i64 x.px, .int .i64 x.py, .int .i64 x.vx, .int .i64 x.vy, .int .i64 x.ang, .int .i64 x.spin, .int .i64 x.mass, .int .i64 x.iner, .int .i64 x.bounce, .int .i64 x.rub, .slice A2 n2 c2, .bool x.asleep, .int .i64 x.calm] 39)
  obtain ⟨k0, k1, k2, k3, k4, k5, k6, k7, k8, k9, k10, k11, k12, _⟩ := keepBd hb2 HK0.out
  have hl9 := lt_of_cell k0
  clear hb2 HK0 HS0 hB0 hs2 hf2 hx
  go_wp2_with fail
  refine (bcheck_calls bdQ A n c l _ HS2.out).mono ?_
  rintro e w3 ⟨rfl, hb3⟩
  rw [e1.out]
  clear k0 k1 k2 k3 k4 k5 k6 k7 k8 k9 k10 k11 k12
  have HX3 := hid (keepBd hb3 HX2.out)
  have hB3 := keepBelow hb3 hB2
  clear hb3 HX2 HS2 hB2
  go_wp2_with fail
  refine (bcheck_calls bd0 none 0 0 [] _ (Sl.empty' _)).mono ?_
  rintro e w4 ⟨rfl, hb4⟩
  rw [e3.out]
  obtain ⟨m0, m1, m2, m3, m4, m5, m6, m7, m8, m9, m10, m11, m12, _⟩ := keepBd hb4 HX3.out
  have hB4 := keepBelow hb4 hB3
  have v1 := e2.out.1
  have v2 := e2.out.2.1
  have v3 := e2.out.2.2
  rw [v1] at m2
  rw [v2] at m3
  rw [v3] at m5
  clear v1 v2 v3 hb4 hB3 HX3 e2
  go_wp2
  go_returns
  exact ret_bool (by simp) hB4

set_option maxRecDepth 100000 in
set_option maxHeartbeats 4000000 in
theorem bodyPushes_walk (b : Bd) (A : Option Addr) (n c : Nat) (l : List V) (jx jy u v nx ny : Int) (w : World) (hS : Sl w A n c l) (hl : l.length ≤ 8796093022208) :
    Calls Try.prog 6 #[bodyV b A n c, vecV jx jy, vecV u v, vecV nx ny] w (Ret (.bool true) w) := by
  obtain ⟨W, hW⟩ : ∃ W, W = (((w.alloc (.cells #[.int .i64 b.px, .int .i64 b.py, .int .i64 b.vx, .int .i64 b.vy, .int .i64 b.ang, .int .i64 b.spin, .int .i64 b.mass, .int .i64 b.iner, .int .i64 b.bounce, .int .i64 b.rub, .slice A n c, .bool b.asleep, .int .i64 b.calm] 39)).alloc (.cells #[.int .i64 jx, .int .i64 jy] 34)).alloc (.cells #[.int .i64 u, .int .i64 v] 34)).alloc (.cells #[.int .i64 nx, .int .i64 ny] 34) := ⟨_, rfl⟩
  have HK0 := hid (show BdAt W w.heap.size b A n c by rw [hW]; exact (((BdAt.here w b A n c _).alloc _).alloc _).alloc _)
  have hB0 : Below w.heap.size w W := by rw [hW]; go_grown
  have HS0 := hid (hS.below hB0)
  have j0 : W.cell? ⟨w.heap.size + 1, 0, none⟩ = some (.int .i64 jx) := by rw [hW]; go_simp
  have j1 : W.cell? ⟨w.heap.size + 1, 1, none⟩ = some (.int .i64 jy) := by rw [hW]; go_simp
  have p0 : W.cell? ⟨w.heap.size + 2, 0, none⟩ = some (.int .i64 u) := by rw [hW]; go_simp
  have p1 : W.cell? ⟨w.heap.size + 2, 1, none⟩ = some (.int .i64 v) := by rw [hW]; go_simp
  have n0 : W.cell? ⟨w.heap.size + 3, 0, none⟩ = some (.int .i64 nx) := by rw [hW]; go_simp
  have n1 : W.cell? ⟨w.heap.size + 3, 1, none⟩ = some (.int .i64 ny) := by rw [hW]; go_simp
  clear hS
  go_enter Try.func6, Try.ntmps6
  go_wp2_with fail
  rw [← hW]
  clear hW
  refine (bodyBegun_calls _).mono ?_
  rintro e w1 ⟨rfl, hb1⟩
  have HK1 := hid (keepBd hb1 HK0.out)
  have HS1 := hid (keepSl hb1 HS0.out)
  have hB1 := keepBelow hb1 hB0
  replace j0 := keepCell hb1 j0
  replace j1 := keepCell hb1 j1
  replace p0 := keepCell hb1 p0
  replace p1 := keepCell hb1 p1
  replace n0 := keepCell hb1 n0
  replace n1 := keepCell hb1 n1
  clear hb1 HK0 HS0 hB0
  obtain ⟨k0, k1, k2, k3, k4, k5, k6, k7, k8, k9, k10, k11, k12, _⟩ := HK1.out
  go_wp2_with fail
  refine (push_calls b A n c l jx jy u v _ HS1.out hl).mono ?_
  rintro e w2 ⟨A2, n2, c2, rfl, hs2, hf2, hb2⟩
  obtain ⟨x, hx⟩ : ∃ x, x = pushB b l jx jy u v := ⟨_, rfl⟩
  rw [← hx]
  have HPX := hid hx
  obtain ⟨wd, hwd⟩ : ∃ wd, wd = w2.alloc (.cells #[.int .i64 x.px, .int .i64 x.py, .int .i64 x.vx, .int .i64 x.vy, .int .i64 x.ang, .int .i64 x.spin, .int .i64 x.mass, .int .i64 x.iner, .int .i64 x.bounce, .int .i64 x.rub, .slice A2 n2 c2, .bool x.asleep, .int .i64 x.calm] 39) := ⟨_, rfl⟩
  obtain ⟨gx, hgx⟩ : ∃ gx, gx = w2.heap.size := ⟨_, rfl⟩
  have HX2 := hid (show BdAt wd gx x A2 n2 c2 by rw [hwd, hgx]; exact BdAt.here w2 x A2 n2 c2 _)
  have HK2 := hid (show BdAt wd w.heap.size b A n c by rw [hwd]; exact (keepBd hb2 HK1.out).alloc _)
  have HS2 := hid (show Sl wd A n c l by rw [hwd]; exact (keepSl hb2 HS1.out).alloc _)
  have HT2 := hid (show Sl wd A2 n2 c2 l by rw [hwd]; exact hs2.alloc _)
  have hB2 : Below w.heap.size w wd := by rw [hwd]; exact (keepBelow hb2 hB1).alloc (keepBelow hb2 hB1).size _
  replace j0 : wd.cell? ⟨w.heap.size + 1, 0, none⟩ = some (.int .i64 jx) := by rw [hwd]; exact keepCell ((Below.refl _ _).alloc (Nat.le_refl _) _) (keepCell hb2 j0)
  replace j1 : wd.cell? ⟨w.heap.size + 1, 1, none⟩ = some (.int .i64 jy) := by rw [hwd]; exact keepCell ((Below.refl _ _).alloc (Nat.le_refl _) _) (keepCell hb2 j1)
  replace p0 : wd.cell? ⟨w.heap.size + 2, 0, none⟩ = some (.int .i64 u) := by rw [hwd]; exact keepCell ((Below.refl _ _).alloc (Nat.le_refl _) _) (keepCell hb2 p0)
  replace p1 : wd.cell? ⟨w.heap.size + 2, 1, none⟩ = some (.int .i64 v) := by rw [hwd]; exact keepCell ((Below.refl _ _).alloc (Nat.le_refl _) _) (keepCell hb2 p1)
  replace n0 : wd.cell? ⟨w.heap.size + 3, 0, none⟩ = some (.int .i64 nx) := by rw [hwd]; exact keepCell ((Below.refl _ _).alloc (Nat.le_refl _) _) (keepCell hb2 n0)
  replace n1 : wd.cell? ⟨w.heap.size + 3, 1, none⟩ = some (.int .i64 ny) := by rw [hwd]; exact keepCell ((Below.refl _ _).alloc (Nat.le_refl _) _) (keepCell hb2 n1)
  clear hs2 hf2 hb2 hx HK1 HS1 hB1 k0 k1 k2 k3 k4 k5 k6 k7 k8 k9 k10 k11 k12
  go_upto_region 4 with fail
  rw [← hwd, ← hgx]
  clear hwd hgx
  obtain ⟨k0, k1, k2, k3, k4, k5, k6, k7, k8, k9, k10, k11, k12, _⟩ := HK2.out
  go_wp2_with fail
  refine (rbody_calls b A n c l _ HS2.out).mono ?_
  rintro e w3 ⟨rfl, hb3⟩
  have HX3 := hid (keepBd hb3 HX2.out)
  have HK3 := hid (keepBd hb3 HK2.out)
  have HS3 := hid (keepSl hb3 HS2.out)
  have HT3 := hid (keepSl hb3 HT2.out)
  have hB3 := keepBelow hb3 hB2
  replace j0 := keepCell hb3 j0
  replace j1 := keepCell hb3 j1
  replace p0 := keepCell hb3 p0
  replace p1 := keepCell hb3 p1
  replace n0 := keepCell hb3 n0
  replace n1 := keepCell hb3 n1
  clear hb3 HX2 HK2 HS2 HT2 hB2 k0 k1 k2 k3 k4 k5 k6 k7 k8 k9 k10 k11 k12
  by_cases hE : bodyE b l = 0
  · have hxe : x = pushR b jx jy u v := by rw [HPX.out]; exact pushB_ok hE jx jy u v
    have HPU : Hid (∀ w, Calls Try.prog 36 #[bodyV b A n c, vecV jx jy, vecV u v] w (Ret (bodyV x A n c) w)) := fun w => by rw [hxe]; exact rpushed_calls b A n c jx jy u v w
    have HAT : Hid (∀ w, Sl w A n c l → Calls Try.prog 29 #[bodyV b A n c, vecV u v] w (Ret (vecV (speedX b u v) (speedY b u v)) w)) := fun w h => by
      have := at_calls b A n c l u v w h
      rwa [show atX b l u v = speedX b u v by unfold atX speedX; rw [if_neg (by simp [hE])], show atY b l u v = speedY b u v by unfold atY speedY; rw [if_neg (by simp [hE])]] at this
    have HEA : Hid (∀ w, Sl w A n c l → Calls Try.prog 35 #[bodyV b A n c, vecV u v, vecV nx ny] w (Ret (.int .i64 (easeR b u v nx ny)) w)) := fun w h => by
      have := bease_calls b A n c l u v nx ny w h
      rwa [easeB_ok hE] at this
    rw [hE]
    clear hE hxe HPX
    go_upto_region 6 with fail
    refine wp_region_noPanic ?_
    refine wp_region_U (S := (S2 (fun w' => BdAt w' gx x A2 n2 c2 ∧ BdAt w' w.heap.size b A n c ∧ Sl w' A2 n2 c2 l ∧ Sl w' A n c l ∧ w'.cell? ⟨w.heap.size + 1, 0, none⟩ = some (.int .i64 jx) ∧ w'.cell? ⟨w.heap.size + 1, 1, none⟩ = some (.int .i64 jy) ∧ w'.cell? ⟨w.heap.size + 2, 0, none⟩ = some (.int .i64 u) ∧ w'.cell? ⟨w.heap.size + 2, 1, none⟩ = some (.int .i64 v) ∧ w'.cell? ⟨w.heap.size + 3, 0, none⟩ = some (.int .i64 nx) ∧ w'.cell? ⟨w.heap.size + 3, 1, none⟩ = some (.int .i64 ny) ∧ Below w.heap.size w w'))) (T := (fun _ => 0)) (by kernel_rfl) (S2i0 ⟨HX3.out.drew, HK3.out.drew, HT3.out.drew', HS3.out.drew', j0, j1, p0, p1, n0, n1, hB3.drew⟩) (fun hH => ?_)
    have hWr1 : Weaker (S2 (fun w' => BdAt w' gx x A2 n2 c2 ∧ BdAt w' w.heap.size b A n c ∧ Sl w' A2 n2 c2 l ∧ Sl w' A n c l ∧ w'.cell? ⟨w.heap.size + 1, 0, none⟩ = some (.int .i64 jx) ∧ w'.cell? ⟨w.heap.size + 1, 1, none⟩ = some (.int .i64 jy) ∧ w'.cell? ⟨w.heap.size + 2, 0, none⟩ = some (.int .i64 u) ∧ w'.cell? ⟨w.heap.size + 2, 1, none⟩ = some (.int .i64 v) ∧ w'.cell? ⟨w.heap.size + 3, 0, none⟩ = some (.int .i64 nx) ∧ w'.cell? ⟨w.heap.size + 3, 1, none⟩ = some (.int .i64 ny) ∧ Below w.heap.size w w')) := weaker2 _
    refine U_take 0 36 26 0 0 (v := ?vr1_1) rfl (by kernel_rfl) (by kernel_rfl) hWr1 (by kernel_rfl) (by kernel_rfl) (by kernel_rfl) (by kernel_rfl) (by kernel_rfl) (by kernel_rfl) (fun _ _ _ _ h => h) (by kernel_rfl) ?hyr1_1 (by omega) hH ?_
    case hyr1_1 => (intro w' hSw; replace hSw := S2o0 hSw; (try dsimp only at hSw); have q0 := hSw.1; have q1 := hSw.2.1; have q2 := hSw.2.2.1; have q3 := hSw.2.2.2.1; have q4 := hSw.2.2.2.2.1; have q5 := hSw.2.2.2.2.2.1; have q6 := hSw.2.2.2.2.2.2.1; have q7 := hSw.2.2.2.2.2.2.2.1; have q8 := hSw.2.2.2.2.2.2.2.2.1; have q9 := hSw.2.2.2.2.2.2.2.2.2.1; have q10 := hSw.2.2.2.2.2.2.2.2.2.2; obtain ⟨qa0_0, qa0_1, qa0_2, qa0_3, qa0_4, qa0_5, qa0_6, qa0_7, qa0_8, qa0_9, qa0_10, qa0_11, qa0_12, qa0_f⟩ := id q0; obtain ⟨qa1_0, qa1_1, qa1_2, qa1_3, qa1_4, qa1_5, qa1_6, qa1_7, qa1_8, qa1_9, qa1_10, qa1_11, qa1_12, qa1_f⟩ := id q1; go_simp; try (with_reducible rfl))
    simp only [List.set_cons_zero, List.set_cons_succ]
    refine U_take 1 37 25 0 0 (v := ?vr1_2) rfl (by kernel_rfl) (by kernel_rfl) hWr1 (by kernel_rfl) (by kernel_rfl) (by kernel_rfl) (by kernel_rfl) (by kernel_rfl) (by kernel_rfl) (fun _ _ _ _ h => h) (by kernel_rfl) ?hyr1_2 (by omega) hH ?_
    case hyr1_2 => (intro w' hSw; replace hSw := S2o0 hSw; (try dsimp only at hSw); have q0 := hSw.1; have q1 := hSw.2.1; have q2 := hSw.2.2.1; have q3 := hSw.2.2.2.1; have q4 := hSw.2.2.2.2.1; have q5 := hSw.2.2.2.2.2.1; have q6 := hSw.2.2.2.2.2.2.1; have q7 := hSw.2.2.2.2.2.2.2.1; have q8 := hSw.2.2.2.2.2.2.2.2.1; have q9 := hSw.2.2.2.2.2.2.2.2.2.1; have q10 := hSw.2.2.2.2.2.2.2.2.2.2; obtain ⟨qa0_0, qa0_1, qa0_2, qa0_3, qa0_4, qa0_5, qa0_6, qa0_7, qa0_8, qa0_9, qa0_10, qa0_11, qa0_12, qa0_f⟩ := id q0; obtain ⟨qa1_0, qa1_1, qa1_2, qa1_3, qa1_4, qa1_5, qa1_6, qa1_7, qa1_8, qa1_9, qa1_10, qa1_11, qa1_12, qa1_f⟩ := id q1; go_simp; try (with_reducible rfl))
    simp only [List.set_cons_zero, List.set_cons_succ]
    refine U_take 2 38 24 0 0 (v := ?vr1_3) rfl (by kernel_rfl) (by kernel_rfl) hWr1 (by kernel_rfl) (by kernel_rfl) (by kernel_rfl) (by kernel_rfl) (by kernel_rfl) (by kernel_rfl) (fun _ _ _ _ h => h) (by kernel_rfl) ?hyr1_3 (by omega) hH ?_
    case hyr1_3 => (intro w' hSw; replace hSw := S2o0 hSw; (try dsimp only at hSw); have q0 := hSw.1; have q1 := hSw.2.1; have q2 := hSw.2.2.1; have q3 := hSw.2.2.2.1; have q4 := hSw.2.2.2.2.1; have q5 := hSw.2.2.2.2.2.1; have q6 := hSw.2.2.2.2.2.2.1; have q7 := hSw.2.2.2.2.2.2.2.1; have q8 := hSw.2.2.2.2.2.2.2.2.1; have q9 := hSw.2.2.2.2.2.2.2.2.2.1; have q10 := hSw.2.2.2.2.2.2.2.2.2.2; obtain ⟨qa0_0, qa0_1, qa0_2, qa0_3, qa0_4, qa0_5, qa0_6, qa0_7, qa0_8, qa0_9, qa0_10, qa0_11, qa0_12, qa0_f⟩ := id q0; obtain ⟨qa1_0, qa1_1, qa1_2, qa1_3, qa1_4, qa1_5, qa1_6, qa1_7, qa1_8, qa1_9, qa1_10, qa1_11, qa1_12, qa1_f⟩ := id q1; go_simp; try (with_reducible rfl))
    simp only [List.set_cons_zero, List.set_cons_succ]
    refine U_take 3 39 23 0 0 (v := ?vr1_4) rfl (by kernel_rfl) (by kernel_rfl) hWr1 (by kernel_rfl) (by kernel_rfl) (by kernel_rfl) (by kernel_rfl) (by kernel_rfl) (by kernel_rfl) (fun _ _ _ _ h => h) (by kernel_rfl) ?hyr1_4 (by omega) hH ?_
    case hyr1_4 => (intro w' hSw; replace hSw := S2o0 hSw; (try dsimp only at hSw); have q0 := hSw.1; have q1 := hSw.2.1; have q2 := hSw.2.2.1; have q3 := hSw.2.2.2.1; have q4 := hSw.2.2.2.2.1; have q5 := hSw.2.2.2.2.2.1; have q6 := hSw.2.2.2.2.2.2.1; have q7 := hSw.2.2.2.2.2.2.2.1; have q8 := hSw.2.2.2.2.2.2.2.2.1; have q9 := hSw.2.2.2.2.2.2.2.2.2.1; have q10 := hSw.2.2.2.2.2.2.2.2.2.2; obtain ⟨qa0_0, qa0_1, qa0_2, qa0_3, qa0_4, qa0_5, qa0_6, qa0_7, qa0_8, qa0_9, qa0_10, qa0_11, qa0_12, qa0_f⟩ := id q0; obtain ⟨qa1_0, qa1_1, qa1_2, qa1_3, qa1_4, qa1_5, qa1_6, qa1_7, qa1_8, qa1_9, qa1_10, qa1_11, qa1_12, qa1_f⟩ := id q1; go_simp; try (with_reducible rfl))
    simp only [List.set_cons_zero, List.set_cons_succ]
    refine wpAnyU_ready (rs := [4]) (by kernel_rfl) (by simp) ?_
    refine AllReadyU.cons 0 (by kernel_rfl) (o := _) rfl (fun K hK => ?_) AllReadyU.nil
    try clear hb
    go_simp
    (go_at_call 36; refine (HPU.out _).mono ?_; rintro e wn ⟨rfl, hb⟩)
    refine hK.out _ _ ?hsr1_5 (fun hH2 => ?hrr1_5)
    case hsr1_5 => exact S2i0 (by have hG := hH; replace hG := S2o0 hG; (try dsimp only at hG); have q0 := hG.1; have q1 := hG.2.1; have q2 := hG.2.2.1; have q3 := hG.2.2.2.1; have q4 := hG.2.2.2.2.1; have q5 := hG.2.2.2.2.2.1; have q6 := hG.2.2.2.2.2.2.1; have q7 := hG.2.2.2.2.2.2.2.1; have q8 := hG.2.2.2.2.2.2.2.2.1; have q9 := hG.2.2.2.2.2.2.2.2.2.1; have q10 := hG.2.2.2.2.2.2.2.2.2.2; exact ⟨keepBd hb q0, keepBd hb q1, keepSl hb q2, keepSl hb q3, keepCell hb q4, keepCell hb q5, keepCell hb q6, keepCell hb q7, keepCell hb q8, keepCell hb q9, keepBelow hb q10⟩)
    clear hK K hH
    have hH := hH2
    clear hH2
    try simp only [Act.put, List.setIfInBounds_toArray, List.set_cons_zero, List.set_cons_succ]
    refine wpAnyU_ready (rs := [5]) (by kernel_rfl) (by simp) ?_
    refine AllReadyU.cons 0 (by kernel_rfl) (o := _) rfl (fun K hK => ?_) AllReadyU.nil
    try clear hb
    have hG := hH
    replace hG := S2o0 hG; (try dsimp only at hG); have q0 := hG.1; have q1 := hG.2.1; have q2 := hG.2.2.1; have q3 := hG.2.2.2.1; have q4 := hG.2.2.2.2.1; have q5 := hG.2.2.2.2.2.1; have q6 := hG.2.2.2.2.2.2.1; have q7 := hG.2.2.2.2.2.2.2.1; have q8 := hG.2.2.2.2.2.2.2.2.1; have q9 := hG.2.2.2.2.2.2.2.2.2.1; have q10 := hG.2.2.2.2.2.2.2.2.2.2
    go_simp
    (go_at_call 34; refine (rsame_calls x A2 A n2 c2 n c l _ q2 q3).mono ?_; rintro e wn ⟨rfl, hb⟩)
    refine hK.out _ _ ?hsr1_6 (fun hH2 => ?hrr1_6)
    case hsr1_6 => exact S2i0 (by have hG := hH; replace hG := S2o0 hG; (try dsimp only at hG); have q0 := hG.1; have q1 := hG.2.1; have q2 := hG.2.2.1; have q3 := hG.2.2.2.1; have q4 := hG.2.2.2.2.1; have q5 := hG.2.2.2.2.2.1; have q6 := hG.2.2.2.2.2.2.1; have q7 := hG.2.2.2.2.2.2.2.1; have q8 := hG.2.2.2.2.2.2.2.2.1; have q9 := hG.2.2.2.2.2.2.2.2.2.1; have q10 := hG.2.2.2.2.2.2.2.2.2.2; exact ⟨keepBd hb q0, keepBd hb q1, keepSl hb q2, keepSl hb q3, keepCell hb q4, keepCell hb q5, keepCell hb q6, keepCell hb q7, keepCell hb q8, keepCell hb q9, keepBelow hb q10⟩)
    clear hK K hH
    have hH := hH2
    clear hH2
    try simp only [Act.put, List.setIfInBounds_toArray, List.set_cons_zero, List.set_cons_succ]
    refine U_take 6 42 20 0 0 (v := ?vr1_7) rfl (by kernel_rfl) (by kernel_rfl) hWr1 (by kernel_rfl) (by kernel_rfl) (by kernel_rfl) (by kernel_rfl) (by kernel_rfl) (by kernel_rfl) (fun _ _ _ _ h => h) (by kernel_rfl) ?hyr1_7 (by omega) hH ?_
    case hyr1_7 => (intro w' hSw; clear hSw; go_simp; try (with_reducible rfl))
    simp only [List.set_cons_zero, List.set_cons_succ]
    refine U_take 7 43 19 0 0 (v := ?vr1_8) rfl (by kernel_rfl) (by kernel_rfl) hWr1 (by kernel_rfl) (by kernel_rfl) (by kernel_rfl) (by kernel_rfl) (by kernel_rfl) (by kernel_rfl) (fun _ _ _ _ h => h) (by kernel_rfl) ?hyr1_8 (by omega) hH ?_
    case hyr1_8 => (intro w' hSw; replace hSw := S2o0 hSw; (try dsimp only at hSw); have q0 := hSw.1; have q1 := hSw.2.1; have q2 := hSw.2.2.1; have q3 := hSw.2.2.2.1; have q4 := hSw.2.2.2.2.1; have q5 := hSw.2.2.2.2.2.1; have q6 := hSw.2.2.2.2.2.2.1; have q7 := hSw.2.2.2.2.2.2.2.1; have q8 := hSw.2.2.2.2.2.2.2.2.1; have q9 := hSw.2.2.2.2.2.2.2.2.2.1; have q10 := hSw.2.2.2.2.2.2.2.2.2.2; obtain ⟨qa0_0, qa0_1, qa0_2, qa0_3, qa0_4, qa0_5, qa0_6, qa0_7, qa0_8, qa0_9, qa0_10, qa0_11, qa0_12, qa0_f⟩ := id q0; obtain ⟨qa1_0, qa1_1, qa1_2, qa1_3, qa1_4, qa1_5, qa1_6, qa1_7, qa1_8, qa1_9, qa1_10, qa1_11, qa1_12, qa1_f⟩ := id q1; go_simp; try (with_reducible rfl))
    simp only [List.set_cons_zero, List.set_cons_succ]
    refine U_take 8 44 18 0 0 (v := ?vr1_9) rfl (by kernel_rfl) (by kernel_rfl) hWr1 (by kernel_rfl) (by kernel_rfl) (by kernel_rfl) (by kernel_rfl) (by kernel_rfl) (by kernel_rfl) (fun _ _ _ _ h => h) (by kernel_rfl) ?hyr1_9 (by omega) hH ?_
    case hyr1_9 => (intro w' hSw; replace hSw := S2o0 hSw; (try dsimp only at hSw); have q0 := hSw.1; have q1 := hSw.2.1; have q2 := hSw.2.2.1; have q3 := hSw.2.2.2.1; have q4 := hSw.2.2.2.2.1; have q5 := hSw.2.2.2.2.2.1; have q6 := hSw.2.2.2.2.2.2.1; have q7 := hSw.2.2.2.2.2.2.2.1; have q8 := hSw.2.2.2.2.2.2.2.2.1; have q9 := hSw.2.2.2.2.2.2.2.2.2.1; have q10 := hSw.2.2.2.2.2.2.2.2.2.2; obtain ⟨qa0_0, qa0_1, qa0_2, qa0_3, qa0_4, qa0_5, qa0_6, qa0_7, qa0_8, qa0_9, qa0_10, qa0_11, qa0_12, qa0_f⟩ := id q0; obtain ⟨qa1_0, qa1_1, qa1_2, qa1_3, qa1_4, qa1_5, qa1_6, qa1_7, qa1_8, qa1_9, qa1_10, qa1_11, qa1_12, qa1_f⟩ := id q1; go_simp; try (with_reducible rfl))
    simp only [List.set_cons_zero, List.set_cons_succ]
    refine U_take 10 46 17 0 0 (v := ?vr1_10) rfl (by kernel_rfl) (by kernel_rfl) hWr1 (by kernel_rfl) (by kernel_rfl) (by kernel_rfl) (by kernel_rfl) (by kernel_rfl) (by kernel_rfl) (fun _ _ _ _ h => h) (by kernel_rfl) ?hyr1_10 (by omega) hH ?_
    case hyr1_10 => (intro w' hSw; replace hSw := S2o0 hSw; (try dsimp only at hSw); have q0 := hSw.1; have q1 := hSw.2.1; have q2 := hSw.2.2.1; have q3 := hSw.2.2.2.1; have q4 := hSw.2.2.2.2.1; have q5 := hSw.2.2.2.2.2.1; have q6 := hSw.2.2.2.2.2.2.1; have q7 := hSw.2.2.2.2.2.2.2.1; have q8 := hSw.2.2.2.2.2.2.2.2.1; have q9 := hSw.2.2.2.2.2.2.2.2.2.1; have q10 := hSw.2.2.2.2.2.2.2.2.2.2; obtain ⟨qa0_0, qa0_1, qa0_2, qa0_3, qa0_4, qa0_5, qa0_6, qa0_7, qa0_8, qa0_9, qa0_10, qa0_11, qa0_12, qa0_f⟩ := id q0; obtain ⟨qa1_0, qa1_1, qa1_2, qa1_3, qa1_4, qa1_5, qa1_6, qa1_7, qa1_8, qa1_9, qa1_10, qa1_11, qa1_12, qa1_f⟩ := id q1; go_simp; try (with_reducible rfl))
    simp only [List.set_cons_zero, List.set_cons_succ]
    refine U_take 11 47 16 0 0 (v := ?vr1_11) rfl (by kernel_rfl) (by kernel_rfl) hWr1 (by kernel_rfl) (by kernel_rfl) (by kernel_rfl) (by kernel_rfl) (by kernel_rfl) (by kernel_rfl) (fun _ _ _ _ h => h) (by kernel_rfl) ?hyr1_11 (by omega) hH ?_
    case hyr1_11 => (intro w' hSw; replace hSw := S2o0 hSw; (try dsimp only at hSw); have q0 := hSw.1; have q1 := hSw.2.1; have q2 := hSw.2.2.1; have q3 := hSw.2.2.2.1; have q4 := hSw.2.2.2.2.1; have q5 := hSw.2.2.2.2.2.1; have q6 := hSw.2.2.2.2.2.2.1; have q7 := hSw.2.2.2.2.2.2.2.1; have q8 := hSw.2.2.2.2.2.2.2.2.1; have q9 := hSw.2.2.2.2.2.2.2.2.2.1; have q10 := hSw.2.2.2.2.2.2.2.2.2.2; obtain ⟨qa0_0, qa0_1, qa0_2, qa0_3, qa0_4, qa0_5, qa0_6, qa0_7, qa0_8, qa0_9, qa0_10, qa0_11, qa0_12, qa0_f⟩ := id q0; obtain ⟨qa1_0, qa1_1, qa1_2, qa1_3, qa1_4, qa1_5, qa1_6, qa1_7, qa1_8, qa1_9, qa1_10, qa1_11, qa1_12, qa1_f⟩ := id q1; go_simp; try (with_reducible rfl))
    simp only [List.set_cons_zero, List.set_cons_succ]
    refine wpAnyU_ready (rs := [9]) (by kernel_rfl) (by simp) ?_
    refine AllReadyU.cons 0 (by kernel_rfl) (o := _) rfl (fun K hK => ?_) AllReadyU.nil
    try clear hb
    have hG := hH
    replace hG := S2o0 hG; (try dsimp only at hG); have q0 := hG.1; have q1 := hG.2.1; have q2 := hG.2.2.1; have q3 := hG.2.2.2.1; have q4 := hG.2.2.2.2.1; have q5 := hG.2.2.2.2.2.1; have q6 := hG.2.2.2.2.2.2.1; have q7 := hG.2.2.2.2.2.2.2.1; have q8 := hG.2.2.2.2.2.2.2.2.1; have q9 := hG.2.2.2.2.2.2.2.2.2.1; have q10 := hG.2.2.2.2.2.2.2.2.2.2
    go_simp
    (go_at_call 29; refine (HAT.out _ q3).mono ?_; rintro e wn ⟨rfl, hb⟩)
    refine hK.out _ _ ?hsr1_12 (fun hH2 => ?hrr1_12)
    case hsr1_12 => exact S2i0 (by have hG := hH; replace hG := S2o0 hG; (try dsimp only at hG); have q0 := hG.1; have q1 := hG.2.1; have q2 := hG.2.2.1; have q3 := hG.2.2.2.1; have q4 := hG.2.2.2.2.1; have q5 := hG.2.2.2.2.2.1; have q6 := hG.2.2.2.2.2.2.1; have q7 := hG.2.2.2.2.2.2.2.1; have q8 := hG.2.2.2.2.2.2.2.2.1; have q9 := hG.2.2.2.2.2.2.2.2.2.1; have q10 := hG.2.2.2.2.2.2.2.2.2.2; exact ⟨keepBd hb q0, keepBd hb q1, keepSl hb q2, keepSl hb q3, keepCell hb q4, keepCell hb q5, keepCell hb q6, keepCell hb q7, keepCell hb q8, keepCell hb q9, keepBelow hb q10⟩)
    clear hK K hH
    have hH := hH2
    clear hH2
    try simp only [Act.put, List.setIfInBounds_toArray, List.set_cons_zero, List.set_cons_succ]
    refine wpAnyU_ready (rs := [12]) (by kernel_rfl) (by simp) ?_
    refine AllReadyU.cons 0 (by kernel_rfl) (o := _) rfl (fun K hK => ?_) AllReadyU.nil
    try clear hb
    go_simp
    (go_at_call 37; refine (rspeed_calls b A n c u v _).mono ?_; rintro e wn ⟨rfl, hb⟩)
    refine hK.out _ _ ?hsr1_13 (fun hH2 => ?hrr1_13)
    case hsr1_13 => exact S2i0 (by have hG := hH; replace hG := S2o0 hG; (try dsimp only at hG); have q0 := hG.1; have q1 := hG.2.1; have q2 := hG.2.2.1; have q3 := hG.2.2.2.1; have q4 := hG.2.2.2.2.1; have q5 := hG.2.2.2.2.2.1; have q6 := hG.2.2.2.2.2.2.1; have q7 := hG.2.2.2.2.2.2.2.1; have q8 := hG.2.2.2.2.2.2.2.2.1; have q9 := hG.2.2.2.2.2.2.2.2.2.1; have q10 := hG.2.2.2.2.2.2.2.2.2.2; exact ⟨keepBd hb q0, keepBd hb q1, keepSl hb q2, keepSl hb q3, keepCell hb q4, keepCell hb q5, keepCell hb q6, keepCell hb q7, keepCell hb q8, keepCell hb q9, keepBelow hb q10⟩)
    clear hK K hH
    have hH := hH2
    clear hH2
    try simp only [Act.put, List.setIfInBounds_toArray, List.set_cons_zero, List.set_cons_succ]
    refine U_take 13 49 13 0 0 (v := ?vr1_14) rfl (by kernel_rfl) (by kernel_rfl) hWr1 (by kernel_rfl) (by kernel_rfl) (by kernel_rfl) (by kernel_rfl) (by kernel_rfl) (by kernel_rfl) (fun _ _ _ _ h => h) (by kernel_rfl) ?hyr1_14 (by omega) hH ?_
    case hyr1_14 => (intro w' hSw; clear hSw; go_simp; try (with_reducible rfl))
    simp only [List.set_cons_zero, List.set_cons_succ]
    refine U_take 14 50 12 0 0 (v := ?vr1_15) rfl (by kernel_rfl) (by kernel_rfl) hWr1 (by kernel_rfl) (by kernel_rfl) (by kernel_rfl) (by kernel_rfl) (by kernel_rfl) (by kernel_rfl) (fun _ _ _ _ h => h) (by kernel_rfl) ?hyr1_15 (by omega) hH ?_
    case hyr1_15 => (intro w' hSw; clear hSw; go_simp; try (with_reducible rfl))
    simp only [List.set_cons_zero, List.set_cons_succ]
    refine U_take 15 51 11 0 0 (v := ?vr1_16) rfl (by kernel_rfl) (by kernel_rfl) hWr1 (by kernel_rfl) (by kernel_rfl) (by kernel_rfl) (by kernel_rfl) (by kernel_rfl) (by kernel_rfl) (fun _ _ _ _ h => h) (by kernel_rfl) ?hyr1_16 (by omega) hH ?_
    case hyr1_16 => (intro w' hSw; clear hSw; go_simp; try (with_reducible rfl))
    simp only [List.set_cons_zero, List.set_cons_succ]
    refine U_take 16 52 10 0 0 (v := ?vr1_17) rfl (by kernel_rfl) (by kernel_rfl) hWr1 (by kernel_rfl) (by kernel_rfl) (by kernel_rfl) (by kernel_rfl) (by kernel_rfl) (by kernel_rfl) (fun _ _ _ _ h => h) (by kernel_rfl) ?hyr1_17 (by omega) hH ?_
    case hyr1_17 => (intro w' hSw; replace hSw := S2o0 hSw; (try dsimp only at hSw); have q0 := hSw.1; have q1 := hSw.2.1; have q2 := hSw.2.2.1; have q3 := hSw.2.2.2.1; have q4 := hSw.2.2.2.2.1; have q5 := hSw.2.2.2.2.2.1; have q6 := hSw.2.2.2.2.2.2.1; have q7 := hSw.2.2.2.2.2.2.2.1; have q8 := hSw.2.2.2.2.2.2.2.2.1; have q9 := hSw.2.2.2.2.2.2.2.2.2.1; have q10 := hSw.2.2.2.2.2.2.2.2.2.2; obtain ⟨qa0_0, qa0_1, qa0_2, qa0_3, qa0_4, qa0_5, qa0_6, qa0_7, qa0_8, qa0_9, qa0_10, qa0_11, qa0_12, qa0_f⟩ := id q0; obtain ⟨qa1_0, qa1_1, qa1_2, qa1_3, qa1_4, qa1_5, qa1_6, qa1_7, qa1_8, qa1_9, qa1_10, qa1_11, qa1_12, qa1_f⟩ := id q1; go_simp; try (with_reducible rfl))
    simp only [List.set_cons_zero, List.set_cons_succ]
    refine U_take 17 53 9 0 0 (v := ?vr1_18) rfl (by kernel_rfl) (by kernel_rfl) hWr1 (by kernel_rfl) (by kernel_rfl) (by kernel_rfl) (by kernel_rfl) (by kernel_rfl) (by kernel_rfl) (fun _ _ _ _ h => h) (by kernel_rfl) ?hyr1_18 (by omega) hH ?_
    case hyr1_18 => (intro w' hSw; replace hSw := S2o0 hSw; (try dsimp only at hSw); have q0 := hSw.1; have q1 := hSw.2.1; have q2 := hSw.2.2.1; have q3 := hSw.2.2.2.1; have q4 := hSw.2.2.2.2.1; have q5 := hSw.2.2.2.2.2.1; have q6 := hSw.2.2.2.2.2.2.1; have q7 := hSw.2.2.2.2.2.2.2.1; have q8 := hSw.2.2.2.2.2.2.2.2.1; have q9 := hSw.2.2.2.2.2.2.2.2.2.1; have q10 := hSw.2.2.2.2.2.2.2.2.2.2; obtain ⟨qa0_0, qa0_1, qa0_2, qa0_3, qa0_4, qa0_5, qa0_6, qa0_7, qa0_8, qa0_9, qa0_10, qa0_11, qa0_12, qa0_f⟩ := id q0; obtain ⟨qa1_0, qa1_1, qa1_2, qa1_3, qa1_4, qa1_5, qa1_6, qa1_7, qa1_8, qa1_9, qa1_10, qa1_11, qa1_12, qa1_f⟩ := id q1; go_simp; try (with_reducible rfl))
    simp only [List.set_cons_zero, List.set_cons_succ]
    refine U_take 18 54 8 0 0 (v := ?vr1_19) rfl (by kernel_rfl) (by kernel_rfl) hWr1 (by kernel_rfl) (by kernel_rfl) (by kernel_rfl) (by kernel_rfl) (by kernel_rfl) (by kernel_rfl) (fun _ _ _ _ h => h) (by kernel_rfl) ?hyr1_19 (by omega) hH ?_
    case hyr1_19 => (intro w' hSw; replace hSw := S2o0 hSw; (try dsimp only at hSw); have q0 := hSw.1; have q1 := hSw.2.1; have q2 := hSw.2.2.1; have q3 := hSw.2.2.2.1; have q4 := hSw.2.2.2.2.1; have q5 := hSw.2.2.2.2.2.1; have q6 := hSw.2.2.2.2.2.2.1; have q7 := hSw.2.2.2.2.2.2.2.1; have q8 := hSw.2.2.2.2.2.2.2.2.1; have q9 := hSw.2.2.2.2.2.2.2.2.2.1; have q10 := hSw.2.2.2.2.2.2.2.2.2.2; obtain ⟨qa0_0, qa0_1, qa0_2, qa0_3, qa0_4, qa0_5, qa0_6, qa0_7, qa0_8, qa0_9, qa0_10, qa0_11, qa0_12, qa0_f⟩ := id q0; obtain ⟨qa1_0, qa1_1, qa1_2, qa1_3, qa1_4, qa1_5, qa1_6, qa1_7, qa1_8, qa1_9, qa1_10, qa1_11, qa1_12, qa1_f⟩ := id q1; go_simp; try (with_reducible rfl))
    simp only [List.set_cons_zero, List.set_cons_succ]
    refine U_take 20 56 7 0 0 (v := ?vr1_20) rfl (by kernel_rfl) (by kernel_rfl) hWr1 (by kernel_rfl) (by kernel_rfl) (by kernel_rfl) (by kernel_rfl) (by kernel_rfl) (by kernel_rfl) (fun _ _ _ _ h => h) (by kernel_rfl) ?hyr1_20 (by omega) hH ?_
    case hyr1_20 => (intro w' hSw; replace hSw := S2o0 hSw; (try dsimp only at hSw); have q0 := hSw.1; have q1 := hSw.2.1; have q2 := hSw.2.2.1; have q3 := hSw.2.2.2.1; have q4 := hSw.2.2.2.2.1; have q5 := hSw.2.2.2.2.2.1; have q6 := hSw.2.2.2.2.2.2.1; have q7 := hSw.2.2.2.2.2.2.2.1; have q8 := hSw.2.2.2.2.2.2.2.2.1; have q9 := hSw.2.2.2.2.2.2.2.2.2.1; have q10 := hSw.2.2.2.2.2.2.2.2.2.2; obtain ⟨qa0_0, qa0_1, qa0_2, qa0_3, qa0_4, qa0_5, qa0_6, qa0_7, qa0_8, qa0_9, qa0_10, qa0_11, qa0_12, qa0_f⟩ := id q0; obtain ⟨qa1_0, qa1_1, qa1_2, qa1_3, qa1_4, qa1_5, qa1_6, qa1_7, qa1_8, qa1_9, qa1_10, qa1_11, qa1_12, qa1_f⟩ := id q1; go_simp; try (with_reducible rfl))
    simp only [List.set_cons_zero, List.set_cons_succ]
    refine U_take 21 57 6 0 0 (v := ?vr1_21) rfl (by kernel_rfl) (by kernel_rfl) hWr1 (by kernel_rfl) (by kernel_rfl) (by kernel_rfl) (by kernel_rfl) (by kernel_rfl) (by kernel_rfl) (fun _ _ _ _ h => h) (by kernel_rfl) ?hyr1_21 (by omega) hH ?_
    case hyr1_21 => (intro w' hSw; replace hSw := S2o0 hSw; (try dsimp only at hSw); have q0 := hSw.1; have q1 := hSw.2.1; have q2 := hSw.2.2.1; have q3 := hSw.2.2.2.1; have q4 := hSw.2.2.2.2.1; have q5 := hSw.2.2.2.2.2.1; have q6 := hSw.2.2.2.2.2.2.1; have q7 := hSw.2.2.2.2.2.2.2.1; have q8 := hSw.2.2.2.2.2.2.2.2.1; have q9 := hSw.2.2.2.2.2.2.2.2.2.1; have q10 := hSw.2.2.2.2.2.2.2.2.2.2; obtain ⟨qa0_0, qa0_1, qa0_2, qa0_3, qa0_4, qa0_5, qa0_6, qa0_7, qa0_8, qa0_9, qa0_10, qa0_11, qa0_12, qa0_f⟩ := id q0; obtain ⟨qa1_0, qa1_1, qa1_2, qa1_3, qa1_4, qa1_5, qa1_6, qa1_7, qa1_8, qa1_9, qa1_10, qa1_11, qa1_12, qa1_f⟩ := id q1; go_simp; try (with_reducible rfl))
    simp only [List.set_cons_zero, List.set_cons_succ]
    refine U_take 22 58 5 0 0 (v := ?vr1_22) rfl (by kernel_rfl) (by kernel_rfl) hWr1 (by kernel_rfl) (by kernel_rfl) (by kernel_rfl) (by kernel_rfl) (by kernel_rfl) (by kernel_rfl) (fun _ _ _ _ h => h) (by kernel_rfl) ?hyr1_22 (by omega) hH ?_
    case hyr1_22 => (intro w' hSw; replace hSw := S2o0 hSw; (try dsimp only at hSw); have q0 := hSw.1; have q1 := hSw.2.1; have q2 := hSw.2.2.1; have q3 := hSw.2.2.2.1; have q4 := hSw.2.2.2.2.1; have q5 := hSw.2.2.2.2.2.1; have q6 := hSw.2.2.2.2.2.2.1; have q7 := hSw.2.2.2.2.2.2.2.1; have q8 := hSw.2.2.2.2.2.2.2.2.1; have q9 := hSw.2.2.2.2.2.2.2.2.2.1; have q10 := hSw.2.2.2.2.2.2.2.2.2.2; obtain ⟨qa0_0, qa0_1, qa0_2, qa0_3, qa0_4, qa0_5, qa0_6, qa0_7, qa0_8, qa0_9, qa0_10, qa0_11, qa0_12, qa0_f⟩ := id q0; obtain ⟨qa1_0, qa1_1, qa1_2, qa1_3, qa1_4, qa1_5, qa1_6, qa1_7, qa1_8, qa1_9, qa1_10, qa1_11, qa1_12, qa1_f⟩ := id q1; go_simp; try (with_reducible rfl))
    simp only [List.set_cons_zero, List.set_cons_succ]
    refine wpAnyU_ready (rs := [19]) (by kernel_rfl) (by simp) ?_
    refine AllReadyU.cons 0 (by kernel_rfl) (o := _) rfl (fun K hK => ?_) AllReadyU.nil
    try clear hb
    have hG := hH
    replace hG := S2o0 hG; (try dsimp only at hG); have q0 := hG.1; have q1 := hG.2.1; have q2 := hG.2.2.1; have q3 := hG.2.2.2.1; have q4 := hG.2.2.2.2.1; have q5 := hG.2.2.2.2.2.1; have q6 := hG.2.2.2.2.2.2.1; have q7 := hG.2.2.2.2.2.2.2.1; have q8 := hG.2.2.2.2.2.2.2.2.1; have q9 := hG.2.2.2.2.2.2.2.2.2.1; have q10 := hG.2.2.2.2.2.2.2.2.2.2
    go_simp
    (go_at_call 35; refine (HEA.out _ q3).mono ?_; rintro e wn ⟨rfl, hb⟩)
    refine hK.out _ _ ?hsr1_23 (fun hH2 => ?hrr1_23)
    case hsr1_23 => exact S2i0 (by have hG := hH; replace hG := S2o0 hG; (try dsimp only at hG); have q0 := hG.1; have q1 := hG.2.1; have q2 := hG.2.2.1; have q3 := hG.2.2.2.1; have q4 := hG.2.2.2.2.1; have q5 := hG.2.2.2.2.2.1; have q6 := hG.2.2.2.2.2.2.1; have q7 := hG.2.2.2.2.2.2.2.1; have q8 := hG.2.2.2.2.2.2.2.2.1; have q9 := hG.2.2.2.2.2.2.2.2.2.1; have q10 := hG.2.2.2.2.2.2.2.2.2.2; exact ⟨keepBd hb q0, keepBd hb q1, keepSl hb q2, keepSl hb q3, keepCell hb q4, keepCell hb q5, keepCell hb q6, keepCell hb q7, keepCell hb q8, keepCell hb q9, keepBelow hb q10⟩)
    clear hK K hH
    have hH := hH2
    clear hH2
    try simp only [Act.put, List.setIfInBounds_toArray, List.set_cons_zero, List.set_cons_succ]
    refine wpAnyU_ready (rs := [23]) (by kernel_rfl) (by simp) ?_
    refine AllReadyU.cons 0 (by kernel_rfl) (o := _) rfl (fun K hK => ?_) AllReadyU.nil
    try clear hb
    go_simp
    (go_at_call 38; refine (rease_calls b A n c u v nx ny _).mono ?_; rintro e wn ⟨rfl, hb⟩)
    refine hK.out _ _ ?hsr1_24 (fun hH2 => ?hrr1_24)
    case hsr1_24 => exact S2i0 (by have hG := hH; replace hG := S2o0 hG; (try dsimp only at hG); have q0 := hG.1; have q1 := hG.2.1; have q2 := hG.2.2.1; have q3 := hG.2.2.2.1; have q4 := hG.2.2.2.2.1; have q5 := hG.2.2.2.2.2.1; have q6 := hG.2.2.2.2.2.2.1; have q7 := hG.2.2.2.2.2.2.2.1; have q8 := hG.2.2.2.2.2.2.2.2.1; have q9 := hG.2.2.2.2.2.2.2.2.2.1; have q10 := hG.2.2.2.2.2.2.2.2.2.2; exact ⟨keepBd hb q0, keepBd hb q1, keepSl hb q2, keepSl hb q3, keepCell hb q4, keepCell hb q5, keepCell hb q6, keepCell hb q7, keepCell hb q8, keepCell hb q9, keepBelow hb q10⟩)
    clear hK K hH
    have hH := hH2
    clear hH2
    try simp only [Act.put, List.setIfInBounds_toArray, List.set_cons_zero, List.set_cons_succ]
    refine U_take 24 60 2 0 0 (v := ?vr1_25) rfl (by kernel_rfl) (by kernel_rfl) hWr1 (by kernel_rfl) (by kernel_rfl) (by kernel_rfl) (by kernel_rfl) (by kernel_rfl) (by kernel_rfl) (fun _ _ _ _ h => h) (by kernel_rfl) ?hyr1_25 (by omega) hH ?_
    case hyr1_25 => (intro w' hSw; clear hSw; go_simp; try (with_reducible rfl))
    simp only [List.set_cons_zero, List.set_cons_succ]
    refine U_take 25 61 1 0 0 (v := ?vr1_26) rfl (by kernel_rfl) (by kernel_rfl) hWr1 (by kernel_rfl) (by kernel_rfl) (by kernel_rfl) (by kernel_rfl) (by kernel_rfl) (by kernel_rfl) (fun _ _ _ _ h => h) (by kernel_rfl) ?hyr1_26 (by omega) hH ?_
    case hyr1_26 => (intro w' hSw; clear hSw; go_simp; try (with_reducible rfl))
    simp only [List.set_cons_zero, List.set_cons_succ]
    refine U_take 26 8 0 0 0 (v := ?vr1_27) rfl (by kernel_rfl) (by kernel_rfl) hWr1 (by kernel_rfl) (by kernel_rfl) (by kernel_rfl) (by kernel_rfl) (by kernel_rfl) (by kernel_rfl) (fun _ _ _ _ h => h) (by kernel_rfl) ?hyr1_27 (by omega) hH ?_
    case hyr1_27 => (intro w' hSw; clear hSw; go_simp; try (with_reducible rfl))
    simp only [List.set_cons_zero, List.set_cons_succ]
    refine wpAnyU_done (by kernel_rfl) ?_ _ _
    refine NoPanic.normal ?_
    clear hWr1
    replace hH := S2o0 hH
    (try dsimp only at hH)
    have q0 := hH.1
    have q1 := hH.2.1
    have q2 := hH.2.2.1
    have q3 := hH.2.2.2.1
    have q4 := hH.2.2.2.2.1
    have q5 := hH.2.2.2.2.2.1
    have q6 := hH.2.2.2.2.2.2.1
    have q7 := hH.2.2.2.2.2.2.2.1
    have q8 := hH.2.2.2.2.2.2.2.2.1
    have q9 := hH.2.2.2.2.2.2.2.2.2.1
    have q10 := hH.2.2.2.2.2.2.2.2.2.2
    go_wp2
    go_returns
    exact ret_bool (by simp) q10
  · have hxe : x = b := by rw [HPX.out]; unfold pushB; rw [if_pos (.inl hE)]
    have hne : (bodyE b l != 0) = true := by simp [hE]
    have HAT : Hid (∀ w, Sl w A n c l → Calls Try.prog 29 #[bodyV b A n c, vecV u v] w (Ret (vecV 0 0) w)) := fun w h => by
      have := at_calls b A n c l u v w h
      rwa [show atX b l u v = 0 by unfold atX; rw [if_pos hE], show atY b l u v = 0 by unfold atY; rw [if_pos hE]] at this
    have HEA : Hid (∀ w, Sl w A n c l → Calls Try.prog 35 #[bodyV b A n c, vecV u v, vecV nx ny] w (Ret (.int .i64 0) w)) := fun w h => by
      have := bease_calls b A n c l u v nx ny w h
      rwa [show easeB b l u v nx ny = 0 by unfold easeB; rw [if_pos (.inl hE)]] at this
    subst hxe
    obtain ⟨k0, k1, k2, k3, k4, k5, k6, k7, k8, k9, k10, k11, k12, _⟩ := HK3.out
    obtain ⟨m0, m1, m2, m3, m4, m5, m6, m7, m8, m9, m10, m11, m12, _⟩ := HX3.out
    clear hE HPX
    go_wp2_with fail
    refine (rsame_calls x A2 A n2 c2 n c l _ HT3.out HS3.out).mono ?_
    rintro e w4 ⟨rfl, hb4⟩
    have HK4 := hid (keepBd hb4 HK3.out)
    have HS4 := hid (keepSl hb4 HS3.out)
    have hB4 := keepBelow hb4 hB3
    replace j0 := keepCell hb4 j0
    replace j1 := keepCell hb4 j1
    replace p0 := keepCell hb4 p0
    replace p1 := keepCell hb4 p1
    replace n0 := keepCell hb4 n0
    replace n1 := keepCell hb4 n1
    clear hb4 HK3 HX3 HS3 HT3 hB3 k0 k1 k2 k3 k4 k5 k6 k7 k8 k9 k10 k11 k12 m0 m1 m2 m3 m4 m5 m6 m7 m8 m9 m10 m11 m12
    obtain ⟨k0, k1, k2, k3, k4, k5, k6, k7, k8, k9, k10, k11, k12, _⟩ := HK4.out
    go_wp2_with fail
    refine (HAT.out _ HS4.out).mono ?_
    rintro e w5 ⟨rfl, hb5⟩
    have HK5 := hid (keepBd hb5 HK4.out)
    have HS5 := hid (keepSl hb5 HS4.out)
    have hB5 := keepBelow hb5 hB4
    replace j0 := keepCell hb5 j0
    replace j1 := keepCell hb5 j1
    replace p0 := keepCell hb5 p0
    replace p1 := keepCell hb5 p1
    replace n0 := keepCell hb5 n0
    replace n1 := keepCell hb5 n1
    clear hb5 HK4 HS4 hB4 k0 k1 k2 k3 k4 k5 k6 k7 k8 k9 k10 k11 k12
    obtain ⟨k0, k1, k2, k3, k4, k5, k6, k7, k8, k9, k10, k11, k12, _⟩ := HK5.out
    go_wp2_with fail
    refine (HEA.out _ HS5.out).mono ?_
    rintro e w6 ⟨rfl, hb6⟩
    have hB6 := keepBelow hb6 hB5
    clear hb6 HK5 HS5 hB5 k0 k1 k2 k3 k4 k5 k6 k7 k8 k9 k10 k11 k12 j0 j1 p0 p1 n0 n1
    go_wp2
    go_returns
    exact ret_bool (by simp) hB6

end Go.Proofs.Ytmkmmblgmldilaa
