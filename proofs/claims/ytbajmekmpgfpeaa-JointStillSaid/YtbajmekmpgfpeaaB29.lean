/- Parts of a proof: contracts and laws. -/
import Derived.Test.YtbajmekmpgfpeaaB27
import Derived.Test.YtbajmekmpgfpeaaB28
import Derived.Test.YtbajmekmpgfpeaaB11
import Derived.BigQuiet
namespace Go.Proofs.Ytbajmekmpgfpeaa
section
set_option linter.unusedVariables false
set_option linter.unusedSimpArgs false
open Go.RowKit

def wX (b : Bd) (p q : Int) : Int := addF (turnX p q b.ang) b.px
def wY (b : Bd) (p q : Int) : Int := addF (turnY p q b.ang) b.py

theorem shapeE_zero {l : List V} (h : shapeE l = 0) : checkE l = 0 := by
  unfold shapeE at h
  by_cases hc : checkE l = 0
  · exact hc
  · rw [if_pos hc] at h; exact h
set_option maxRecDepth 100000 in
set_option maxHeartbeats 4000000 in
theorem rworld_calls (b : Bd) (A : Option Addr) (n c : Nat) (p q : Int) (h0 : 0 ≤ b.ang) (h1 : b.ang < 4294967296) (w : World) : Calls Try.prog 23 #[bodyV b A n c, vecV p q] w (Ret (vecV (wX b p q) (wY b p q)) w) := by
  obtain ⟨W, hW⟩ : ∃ W, W = ((w.alloc (.cells #[.int .i64 b.px, .int .i64 b.py, .int .i64 b.vx, .int .i64 b.vy, .int .i64 b.ang, .int .i64 b.spin, .int .i64 b.mass, .int .i64 b.iner, .int .i64 b.bounce, .int .i64 b.rub, .slice A n c, .bool b.asleep, .int .i64 b.calm] 27)).alloc (.cells #[.int .i64 p, .int .i64 q] 24)).alloc (.cells #[.int .i64 0, .int .i64 0] 24) := ⟨_, rfl⟩
  have HK0 := hid (show BdAt W w.heap.size b A n c by rw [hW]; exact ((BdAt.here w b A n c _).alloc _).alloc _)
  have HZ0 := hid (show VZ W (w.heap.size + 2) by rw [hW]; have := VZ.here ((w.alloc (.cells #[.int .i64 b.px, .int .i64 b.py, .int .i64 b.vx, .int .i64 b.vy, .int .i64 b.ang, .int .i64 b.spin, .int .i64 b.mass, .int .i64 b.iner, .int .i64 b.bounce, .int .i64 b.rub, .slice A n c, .bool b.asleep, .int .i64 b.calm] 27)).alloc (.cells #[.int .i64 p, .int .i64 q] 24)) 0 0 24; simpa using this)
  have hB0 : Below w.heap.size w W := by rw [hW]; go_grown
  have p0 : W.cell? ⟨w.heap.size + 1, 0, none⟩ = some (.int .i64 p) := by rw [hW]; go_simp
  have p1 : W.cell? ⟨w.heap.size + 1, 1, none⟩ = some (.int .i64 q) := by rw [hW]; go_simp
  have HT := hid (turn_calls p q b.ang h0 h1)
  obtain ⟨tx, htx⟩ : ∃ t, t = turnX p q b.ang := ⟨_, rfl⟩
  obtain ⟨ty, hty⟩ : ∃ t, t = turnY p q b.ang := ⟨_, rfl⟩
  rw [← htx, ← hty] at HT
  have HX : Hid (wX b p q = addF tx b.px) := by show _ = _; unfold wX; rw [htx]
  have HY : Hid (wY b p q = addF ty b.py) := by show _ = _; unfold wY; rw [hty]
  clear htx hty h0 h1
  obtain ⟨k0, k1, k2, k3, k4, k5, k6, k7, k8, k9, k10, k11, k12, kf⟩ := HK0.out
  go_enter Try.func23, Try.ntmps23
  go_wp2_with fail
  rw [← hW]
  clear hW
  refine (HT.out _).mono ?_
  rintro e w1 ⟨rfl, hb1⟩
  obtain ⟨w2, hw2⟩ : ∃ w2, w2 = w1.alloc (.cells #[.int .i64 tx, .int .i64 ty] 24) := ⟨_, rfl⟩
  obtain ⟨gt, hgt⟩ : ∃ g, g = w1.heap.size := ⟨_, rfl⟩
  have hgl : w.heap.size + 2 < gt := by rw [hgt]; exact (keepVZ hb1 HZ0.out).lt
  have HK2 := hid (show BdAt w2 w.heap.size b A n c by rw [hw2]; exact (keepBd hb1 HK0.out).alloc _)
  have HZ2 := hid (show VZ w2 (w.heap.size + 2) by rw [hw2]; exact (keepVZ hb1 HZ0.out).alloc _)
  have hB2 : Below w.heap.size w w2 := by rw [hw2]; exact (keepBelow hb1 hB0).alloc (keepBelow hb1 hB0).size _
  have t0 : w2.cell? ⟨gt, 0, none⟩ = some (.int .i64 tx) := by rw [hw2, hgt]; go_simp
  have t1 : w2.cell? ⟨gt, 1, none⟩ = some (.int .i64 ty) := by rw [hw2, hgt]; go_simp
  clear hb1 HK0 HZ0 hB0 p0 p1 HT k0 k1 k2 k3 k4 k5 k6 k7 k8 k9 k10 k11 k12 kf
  go_upto_region 2 with fail
  rw [← hw2, ← hgt]
  clear hw2 hgt
  refine wp_region_noPanic ?_
  refine wp_region_U (S := (S2 (fun w' => BdAt w' w.heap.size b A n c ∧ VZ w' (w.heap.size + 2) ∧ Below w.heap.size w w' ∧ w'.cell? ⟨gt, 0, none⟩ = some (.int .i64 tx) ∧ w'.cell? ⟨gt, 1, none⟩ = some (.int .i64 ty)))) (T := (fun j => [0, 0, 0, 0, 0, 0, 0, 0, 0, 0, 0, 0, 0, 1].getD j 0)) (by kernel_rfl) (S2i0 ⟨HK2.out.drew, HZ2.out.drew, hB2.drew, t0, t1⟩) (fun hH => ?_)
  have hWr1 : Weaker (S2 (fun w' => BdAt w' w.heap.size b A n c ∧ VZ w' (w.heap.size + 2) ∧ Below w.heap.size w w' ∧ w'.cell? ⟨gt, 0, none⟩ = some (.int .i64 tx) ∧ w'.cell? ⟨gt, 1, none⟩ = some (.int .i64 ty))) := weaker2 _
  refine U_take 0 10 13 0 0 (v := ?vr1_1) rfl (by kernel_rfl) (by kernel_rfl) hWr1 (by kernel_rfl) (by kernel_rfl) (by kernel_rfl) (by kernel_rfl) (by kernel_rfl) (by kernel_rfl) (fun _ _ _ _ h => h) (by kernel_rfl) ?hyr1_1 (by omega) hH ?_
  case hyr1_1 => (intro w' hSw; clear hSw; go_simp; try (with_reducible rfl))
  simp only [List.set_cons_zero, List.set_cons_succ]
  refine U_take 1 11 12 0 0 (v := ?vr1_2) rfl (by kernel_rfl) (by kernel_rfl) hWr1 (by kernel_rfl) (by kernel_rfl) (by kernel_rfl) (by kernel_rfl) (by kernel_rfl) (by kernel_rfl) (fun _ _ _ _ h => h) (by kernel_rfl) ?hyr1_2 (by omega) hH ?_
  case hyr1_2 => (intro w' hSw; replace hSw := S2o0 hSw; (try dsimp only at hSw); have q0 := hSw.1; have q1 := hSw.2.1; have q2 := hSw.2.2.1; have q3 := hSw.2.2.2.1; have q4 := hSw.2.2.2.2; obtain ⟨qa0_0, qa0_1, qa0_2, qa0_3, qa0_4, qa0_5, qa0_6, qa0_7, qa0_8, qa0_9, qa0_10, qa0_11, qa0_12, qa0_f⟩ := id q0; go_simp; try (with_reducible rfl))
  simp only [List.set_cons_zero, List.set_cons_succ]
  refine U_take 2 12 11 0 0 (v := ?vr1_3) rfl (by kernel_rfl) (by kernel_rfl) hWr1 (by kernel_rfl) (by kernel_rfl) (by kernel_rfl) (by kernel_rfl) (by kernel_rfl) (by kernel_rfl) (fun _ _ _ _ h => h) (by kernel_rfl) ?hyr1_3 (by omega) hH ?_
  case hyr1_3 => (intro w' hSw; clear hSw; go_simp; try (with_reducible rfl))
  simp only [List.set_cons_zero, List.set_cons_succ]
  refine U_take 3 13 10 0 0 (v := ?vr1_4) rfl (by kernel_rfl) (by kernel_rfl) hWr1 (by kernel_rfl) (by kernel_rfl) (by kernel_rfl) (by kernel_rfl) (by kernel_rfl) (by kernel_rfl) (fun _ _ _ _ h => h) (by kernel_rfl) ?hyr1_4 (by omega) hH ?_
  case hyr1_4 => (intro w' hSw; clear hSw; go_simp; try (with_reducible rfl))
  simp only [List.set_cons_zero, List.set_cons_succ]
  refine U_take 4 14 9 0 0 (v := ?vr1_5) rfl (by kernel_rfl) (by kernel_rfl) hWr1 (by kernel_rfl) (by kernel_rfl) (by kernel_rfl) (by kernel_rfl) (by kernel_rfl) (by kernel_rfl) (fun _ _ _ _ h => h) (by kernel_rfl) ?hyr1_5 (by omega) hH ?_
  case hyr1_5 => (intro w' hSw; replace hSw := S2o0 hSw; (try dsimp only at hSw); have q0 := hSw.1; have q1 := hSw.2.1; have q2 := hSw.2.2.1; have q3 := hSw.2.2.2.1; have q4 := hSw.2.2.2.2; obtain ⟨qa0_0, qa0_1, qa0_2, qa0_3, qa0_4, qa0_5, qa0_6, qa0_7, qa0_8, qa0_9, qa0_10, qa0_11, qa0_12, qa0_f⟩ := id q0; go_simp; try (with_reducible rfl))
  simp only [List.set_cons_zero, List.set_cons_succ]
  refine U_take 6 16 8 0 0 (v := ?vr1_6) rfl (by kernel_rfl) (by kernel_rfl) hWr1 (by kernel_rfl) (by kernel_rfl) (by kernel_rfl) (by kernel_rfl) (by kernel_rfl) (by kernel_rfl) (fun _ _ _ _ h => h) (by kernel_rfl) ?hyr1_6 (by omega) hH ?_
  case hyr1_6 => (intro w' hSw; clear hSw; go_simp; try (with_reducible rfl))
  simp only [List.set_cons_zero, List.set_cons_succ]
  refine U_take 7 17 7 0 0 (v := ?vr1_7) rfl (by kernel_rfl) (by kernel_rfl) hWr1 (by kernel_rfl) (by kernel_rfl) (by kernel_rfl) (by kernel_rfl) (by kernel_rfl) (by kernel_rfl) (fun _ _ _ _ h => h) (by kernel_rfl) ?hyr1_7 (by omega) hH ?_
  case hyr1_7 => (intro w' hSw; replace hSw := S2o0 hSw; (try dsimp only at hSw); have q0 := hSw.1; have q1 := hSw.2.1; have q2 := hSw.2.2.1; have q3 := hSw.2.2.2.1; have q4 := hSw.2.2.2.2; obtain ⟨qa0_0, qa0_1, qa0_2, qa0_3, qa0_4, qa0_5, qa0_6, qa0_7, qa0_8, qa0_9, qa0_10, qa0_11, qa0_12, qa0_f⟩ := id q0; go_simp; try (with_reducible rfl))
  simp only [List.set_cons_zero, List.set_cons_succ]
  refine U_take 8 18 6 0 0 (v := ?vr1_8) rfl (by kernel_rfl) (by kernel_rfl) hWr1 (by kernel_rfl) (by kernel_rfl) (by kernel_rfl) (by kernel_rfl) (by kernel_rfl) (by kernel_rfl) (fun _ _ _ _ h => h) (by kernel_rfl) ?hyr1_8 (by omega) hH ?_
  case hyr1_8 => (intro w' hSw; clear hSw; go_simp; try (with_reducible rfl))
  simp only [List.set_cons_zero, List.set_cons_succ]
  refine U_take 9 19 5 0 0 (v := ?vr1_9) rfl (by kernel_rfl) (by kernel_rfl) hWr1 (by kernel_rfl) (by kernel_rfl) (by kernel_rfl) (by kernel_rfl) (by kernel_rfl) (by kernel_rfl) (fun _ _ _ _ h => h) (by kernel_rfl) ?hyr1_9 (by omega) hH ?_
  case hyr1_9 => (intro w' hSw; clear hSw; go_simp; try (with_reducible rfl))
  simp only [List.set_cons_zero, List.set_cons_succ]
  refine U_take 10 20 4 0 0 (v := ?vr1_10) rfl (by kernel_rfl) (by kernel_rfl) hWr1 (by kernel_rfl) (by kernel_rfl) (by kernel_rfl) (by kernel_rfl) (by kernel_rfl) (by kernel_rfl) (fun _ _ _ _ h => h) (by kernel_rfl) ?hyr1_10 (by omega) hH ?_
  case hyr1_10 => (intro w' hSw; replace hSw := S2o0 hSw; (try dsimp only at hSw); have q0 := hSw.1; have q1 := hSw.2.1; have q2 := hSw.2.2.1; have q3 := hSw.2.2.2.1; have q4 := hSw.2.2.2.2; obtain ⟨qa0_0, qa0_1, qa0_2, qa0_3, qa0_4, qa0_5, qa0_6, qa0_7, qa0_8, qa0_9, qa0_10, qa0_11, qa0_12, qa0_f⟩ := id q0; go_simp; try (with_reducible rfl))
  simp only [List.set_cons_zero, List.set_cons_succ]
  refine wpAnyU_ready (rs := [5]) (by kernel_rfl) (by simp) ?_
  refine AllReadyU.cons 0 (by kernel_rfl) (o := _) rfl (fun K hK => ?_) AllReadyU.nil
  try clear hb
  go_simp
  (go_at_call 45; refine (fadd_calls tx b.px _).mono ?_; rintro e wn ⟨rfl, hb⟩)
  refine hK.out _ _ ?hsr1_11 (fun hH2 => ?hrr1_11)
  case hsr1_11 => exact S2i0 (by have hG := hH; replace hG := S2o0 hG; (try dsimp only at hG); have q0 := hG.1; have q1 := hG.2.1; have q2 := hG.2.2.1; have q3 := hG.2.2.2.1; have q4 := hG.2.2.2.2; exact ⟨keepBd hb q0, keepVZ hb q1, keepBelow hb q2, keepCell hb q3, keepCell hb q4⟩)
  clear hK K hH
  have hH := hH2
  clear hH2
  try simp only [Act.put, List.setIfInBounds_toArray, List.set_cons_zero, List.set_cons_succ]
  refine wpAnyU_ready (rs := [11]) (by kernel_rfl) (by simp) ?_
  refine AllReadyU.cons 0 (by kernel_rfl) (o := _) rfl (fun K hK => ?_) AllReadyU.nil
  try clear hb
  go_simp
  (go_at_call 45; refine (fadd_calls ty b.py _).mono ?_; rintro e wn ⟨rfl, hb⟩)
  refine hK.out _ _ ?hsr1_12 (fun hH2 => ?hrr1_12)
  case hsr1_12 => exact S2i0 (by have hG := hH; replace hG := S2o0 hG; (try dsimp only at hG); have q0 := hG.1; have q1 := hG.2.1; have q2 := hG.2.2.1; have q3 := hG.2.2.2.1; have q4 := hG.2.2.2.2; exact ⟨keepBd hb q0, keepVZ hb q1, keepBelow hb q2, keepCell hb q3, keepCell hb q4⟩)
  clear hK K hH
  have hH := hH2
  clear hH2
  try simp only [Act.put, List.setIfInBounds_toArray, List.set_cons_zero, List.set_cons_succ]
  refine U_take 12 22 1 0 0 (v := ?vr1_13) rfl (by kernel_rfl) (by kernel_rfl) hWr1 (by kernel_rfl) (by kernel_rfl) (by kernel_rfl) (by kernel_rfl) (by kernel_rfl) (by kernel_rfl) (fun _ _ _ _ h => h) (by kernel_rfl) ?hyr1_13 (by omega) hH ?_
  case hyr1_13 => (intro w' hSw; clear hSw; go_simp; try (with_reducible rfl))
  simp only [List.set_cons_zero, List.set_cons_succ]
  refine wpAnyU_ready (rs := [13]) (by kernel_rfl) (by simp) ?_
  refine AllReadyU.cons 1 (by kernel_rfl) (o := _) rfl (fun K hK => ?_) AllReadyU.nil
  have hG := hH
  replace hG := S2o0 hG; (try dsimp only at hG); have q0 := hG.1; have q1 := hG.2.1; have q2 := hG.2.2.1; have q3 := hG.2.2.2.1; have q4 := hG.2.2.2.2
  obtain ⟨⟨z0, z1, y0, y1⟩, yf⟩ := q1
  have hgt := lt_of_cell q3
  go_simp
  refine hK.out _ _ ?hsr1_14 (fun hH2 => ?hrr1_14)
  case hsr1_14 => exact S2i1
  clear hK K hH
  have hH := hH2
  clear hH2
  try simp only [Act.put, List.setIfInBounds_toArray, List.set_cons_zero, List.set_cons_succ]
  refine wpAnyU_done (by kernel_rfl) ?_ _ _
  refine NoPanic.normal ?_
  go_wp2
  refine bodyPost_ret (v := vecV (addF tx b.px) (addF ty b.py)) (by simp [results, Try.results23, go_sem, y0, y1]) rfl ⟨by rw [HX.out, HY.out], by go_grown⟩
end
end Go.Proofs.Ytbajmekmpgfpeaa
namespace Go.Proofs.Ytbajmekmpgfpeaa
section
set_option linter.unusedVariables false
set_option linter.unusedSimpArgs false
open Go.RowKit


def rootB (n : Int) : Nat → Int → Int
  | 0, a => a
  | k + 1, a => if (a + 2 ^ k) * (a + 2 ^ k) ≤ n then rootB n k (a + 2 ^ k) else rootB n k a
def rootZ (n : Int) : Int := rootB n 64 0
theorem rootB_spec (n : Int) : ∀ (k : Nat) (a : Int), 0 ≤ a → a * a ≤ n → n < (a + 2 ^ k) * (a + 2 ^ k) → 0 ≤ rootB n k a ∧ rootB n k a * rootB n k a ≤ n ∧ n < (rootB n k a + 1) * (rootB n k a + 1) := by
  intro k
  induction k with
  | zero => intro a h0 h1 h2; exact ⟨h0, h1, by simpa [rootB] using h2⟩
  | succ k ih =>
    intro a h0 h1 h2
    have hp : (0 : Int) < 2 ^ k := Int.pow_pos (by omega)
    have e : (2 : Int) ^ (k + 1) = 2 ^ k + 2 ^ k := by rw [Int.pow_succ]; omega
    unfold rootB
    split
    · rename_i h; exact ih _ (by omega) h (by rw [e] at h2; rwa [show a + 2 ^ k + 2 ^ k = a + (2 ^ k + 2 ^ k) by omega])
    · rename_i h; exact ih _ h0 h1 (by omega)
theorem rootZ_spec {n : Int} (h0 : 0 ≤ n) (h1 : n < 340282366920938463463374607431768211456) : 0 ≤ rootZ n ∧ rootZ n * rootZ n ≤ n ∧ n < (rootZ n + 1) * (rootZ n + 1) :=
  rootB_spec n 64 0 (by omega) (by omega) (by
    have e : ((0 : Int) + 2 ^ 64) * (0 + 2 ^ 64) = 340282366920938463463374607431768211456 := by decide
    rw [e]; exact h1)

def lenZ (x y : Int) : Int := rootZ (x * x + y * y)
end
end Go.Proofs.Ytbajmekmpgfpeaa
