/- The walk of SatSays. -/
import Derived.Test.YtflmhlejgjdifaaQ2
import Derived.Test.YtflmhlejgjdifaaQ3
namespace Go.Proofs.Ytflmhlejgjdifaa
set_option linter.unusedVariables false
set_option linter.unusedSimpArgs false
open Go.RowKit

theorem satB_meet : meetsB (sqL 0 0 4) (sqL 3 1 4) = true := by decide
theorem satB_depth : tstD (sqL 0 0 4) (sqL 3 1 4) = 65536 := by kernel_rfl
theorem satB_x : tstX (sqL 0 0 4) (sqL 3 1 4) = 65536 := by kernel_rfl
theorem satB_y : tstY (sqL 0 0 4) (sqL 3 1 4) = 0 := by kernel_rfl
set_option maxRecDepth 100000 in
set_option maxHeartbeats 1000000 in
theorem satBegun_calls (w : World) : Calls Try.prog 26 #[] w (Ret (.bool true) w) := by
  have e1 := hid satB_meet
  have e2 := hid satB_depth
  have e3 := hid satB_x
  have e4 := hid satB_y
  go_enter Try.func26, Try.ntmps26
  go_wp2_with fail
  refine (square_calls 0 0 4 (by omega) (by omega) (by omega) _).mono ?_
  rintro e w1 ⟨A, n, c, rfl, hS1, hb1⟩
  have HS1 := hid hS1
  clear hS1
  go_wp2_with fail
  refine (square_calls 3 1 4 (by omega) (by omega) (by omega) _).mono ?_
  rintro e w2 ⟨A2, n2, c2, rfl, hS2, hb2⟩
  have HS2 := hid hS2
  have HS1' := hid (HS1.out.below hb2)
  have hB2 := keepBelow hb2 hb1
  clear hS2 HS1 hb1 hb2
  go_wp2_with fail
  refine (test_calls A A2 n c n2 c2 (sqL 0 0 4) (sqL 3 1 4) _ HS1'.out HS2.out).mono ?_
  rintro e w3 ⟨rfl, hb3⟩
  rw [e1.out, e2.out, e3.out, e4.out]
  have hB3 := keepBelow hb3 hB2
  have hsz := hB3.size
  clear HS1' HS2 hB2 hb3
  go_wp2
  go_returns
  exact ret_bool rfl (by go_grown)

set_option maxRecDepth 100000 in
set_option maxHeartbeats 8000000 in
theorem satSays_walk (A B : Option Addr) (n c n' c' : Nat) (l m : List V) (x y : Int) (w : World) (hS : Sl w A n c l) (hM : Sl w B n' c' m) :
    Calls Try.prog 4 #[.slice A n c, .slice B n' c', vecV x y] w (Ret (.bool true) w) := by
  have hn := hS.len
  have hn' := hM.len
  subst hn hn'
  have HLS : Hid (∀ w', Below w.heap.size w w' → Calls Try.prog 24 #[.slice A l.length c, .slice B m.length c'] w' (Ret (.tuple #[axV (leastO l m), .bool (meetsB l m), .int .i64 (bothE l m)]) w')) := fun w' h => least_calls A B _ c _ c' l m w' (hS.below h) (hM.below h)
  have HTS : Hid (∀ w', Below w.heap.size w w' → Calls Try.prog 25 #[.slice A l.length c, .slice B m.length c'] w' (Ret (.tuple #[.bool (meetsB l m), .int .i64 (tstD l m), vecV (tstX l m) (tstY l m)]) w')) := fun w' h => test_calls A B _ c _ c' l m w' (hS.below h) (hM.below h)
  have HTW : Hid (∀ w', Below w.heap.size w w' → Calls Try.prog 19 #[.slice A l.length c, .slice B m.length c'] w' (Ret (.int .i64 (bothE l m)) w')) := fun w' h => rtwo_calls A B _ c _ c' l m w' (hS.below h) (hM.below h)
  have HMT : Hid (bothE l m = 0 → ∀ w', Below w.heap.size w w' → Calls Try.prog 22 #[.slice A l.length c, .slice B m.length c'] w' (Ret (.bool (meetsB l m)) w')) := fun hE w' h => by
    obtain ⟨h1, h2⟩ := bothE_zero.1 hE
    rw [← meet_eq h1 h2]
    exact rmeet_calls A B _ c _ c' l m w' (hS.below h) (hM.below h) h1 h2
  have HNM : Hid (bothE l m = 0 → ∀ w', Below w.heap.size w w' → ∀ i, i < l.length → Calls Try.prog 29 #[.slice A l.length c, .int .i64 i] w' (Ret (vecV (nrmX l i) (nrmY l i)) w')) := fun hE w' h i hi => by
    obtain ⟨h8, h3, hw, _⟩ := checkE_zero (bothE_zero.1 hE).1
    exact normal_calls A _ c l i w' (hS.below h) hw h3 h8 hi
  have HOU : Hid (bothE l m = 0 → ∀ w', Below w.heap.size w w' → ∀ i, i < l.length → Calls Try.prog 30 #[.slice A l.length c, .int .i64 i] w' (Ret (vecV (nrmX l i) (nrmY l i)) w')) := fun hE w' h i hi => by
    obtain ⟨h8, h3, hw, _⟩ := checkE_zero (bothE_zero.1 hE).1
    exact out_calls A _ c l i w' (hS.below h) hw h3 h8 hi
  have HL8 : Hid (bothE l m = 0 → l.length ≤ 8) := fun hE => (checkE_zero (bothE_zero.1 hE).1).1
  have HRL : Hid (meetsB l m = true → ∀ w', Below w.heap.size w w' → Calls Try.prog 31 #[.slice A l.length c, .slice B m.length c'] w' (Ret (axV (leastO l m)) w')) := fun hm w' h => rleast_calls A B _ c _ c' l m w' (hS.below h) (hM.below h) hm
  have HWY : Hid (meetsB l m = true → ∀ w', Below w.heap.size w w' → Calls Try.prog 32 #[.slice A l.length c, .slice B m.length c', axV (leastO l m)] w' (Ret (vecV (tstX l m) (tstY l m)) w')) := fun hm w' h => by
    have h0 := hm
    unfold meetsB at h0
    rw [decide_eq_true_iff] at h0
    obtain ⟨h1, h2⟩ := bothE_zero.1 h0.1
    obtain ⟨s, e, d, k1, k2, k3⟩ := least_some hm
    have := rway_calls A B _ c _ c' l m s e d w' (hS.below h) (hM.below h) h1 h2 k2 k3
    unfold tstX tstY
    rw [if_pos hm, if_pos hm, k1]
    exact this
  have HD : Hid (tstD l m = axD (leastO l m)) := rfl
  have HNO : Hid (meetsB l m = false → leastO l m = none ∧ tstX l m = 0 ∧ tstY l m = 0) := fun h => by
    unfold tstX tstY leastO
    rw [h]
    exact ⟨rfl, rfl, rfl⟩
  have HE0 : Hid (meetsB l m = true → bothE l m = 0) := fun h => by
    unfold meetsB at h
    rw [decide_eq_true_iff] at h
    exact h.1
  clear hS hM
  have HAX : Hid (axV (leastO l m) = .agg #[.bool (axS (leastO l m)), .int .i64 (axE (leastO l m)), .int .i64 (axD (leastO l m))]) := rfl
  rw [HAX.out] at HLS HRL HWY
  rw [HD.out] at HTS
  obtain ⟨s, hs⟩ : ∃ s, s = axS (leastO l m) := ⟨_, rfl⟩
  obtain ⟨ei, hei⟩ : ∃ s : Int, s = (axE (leastO l m) : Int) := ⟨_, rfl⟩
  obtain ⟨d, hd⟩ : ∃ s, s = axD (leastO l m) := ⟨_, rfl⟩
  have HNO2 : Hid (meetsB l m = false → s = false ∧ ei = 0 ∧ d = 0 ∧ tstX l m = 0 ∧ tstY l m = 0) := fun h => by
    obtain ⟨h1, h2, h3⟩ := HNO.out h
    rw [hs, hei, hd, h1]
    exact ⟨rfl, rfl, rfl, h2, h3⟩
  rw [← hs, ← hei, ← hd] at HLS HRL HWY
  rw [← hd] at HTS
  clear HNO HD HAX hs hei hd
  generalize tstX l m = tx at *
  generalize tstY l m = ty at *
  generalize meetsB l m = mt at *
  generalize bothE l m = E at *
  obtain ⟨W, hW⟩ : ∃ W, W = w.alloc (.cells #[.int .i64 x, .int .i64 y] 34) := ⟨_, rfl⟩
  have v0 : W.cell? ⟨w.heap.size, 0, none⟩ = some (.int .i64 x) := by rw [hW]; go_simp
  have v1 : W.cell? ⟨w.heap.size, 1, none⟩ = some (.int .i64 y) := by rw [hW]; go_simp
  have hB0 : Below w.heap.size w W := by rw [hW]; go_grown
  go_enter Try.func4, Try.ntmps4
  go_wp2_with fail
  rw [← hW]
  clear hW
  refine (HLS.out _ hB0).mono ?_
  rintro e w1 ⟨rfl, hb1⟩
  replace v0 := keepCell hb1 v0
  replace v1 := keepCell hb1 v1
  have hB1 := keepBelow hb1 hB0
  obtain ⟨g7, hg7⟩ : ∃ g, g = w1.heap.size := ⟨_, rfl⟩
  obtain ⟨w2, hw2⟩ : ∃ w2, w2 = w1.alloc (.cells #[.bool s, .int .i64 ei, .int .i64 d] 38) := ⟨_, rfl⟩
  have a0 : w2.cell? ⟨g7, 0, none⟩ = some (.bool s) := by rw [hw2, hg7]; go_simp
  have a1 : w2.cell? ⟨g7, 1, none⟩ = some (.int .i64 ei) := by rw [hw2, hg7]; go_simp
  have a2 : w2.cell? ⟨g7, 2, none⟩ = some (.int .i64 d) := by rw [hw2, hg7]; go_simp
  replace v0 : w2.cell? ⟨w.heap.size, 0, none⟩ = some (.int .i64 x) := by rw [hw2]; exact keepCell ((Below.refl _ _).alloc (Nat.le_refl _) _) v0
  replace v1 : w2.cell? ⟨w.heap.size, 1, none⟩ = some (.int .i64 y) := by rw [hw2]; exact keepCell ((Below.refl _ _).alloc (Nat.le_refl _) _) v1
  have hB2 : Below w.heap.size w w2 := by rw [hw2]; exact hB1.alloc hB1.size _
  clear hb1 hB0 hB1 HLS
  go_wp2_with fail
  rw [← hw2, ← hg7]
  clear hw2 hg7
  refine (HTS.out _ hB2).mono ?_
  rintro e w3 ⟨rfl, hb3⟩
  replace v0 := keepCell hb3 v0
  replace v1 := keepCell hb3 v1
  replace a0 := keepCell hb3 a0
  replace a1 := keepCell hb3 a1
  replace a2 := keepCell hb3 a2
  have hB3 := keepBelow hb3 hB2
  obtain ⟨g12, hg12⟩ : ∃ g, g = w3.heap.size := ⟨_, rfl⟩
  obtain ⟨w4, hw4⟩ : ∃ w4, w4 = w3.alloc (.cells #[.int .i64 tx, .int .i64 ty] 34) := ⟨_, rfl⟩
  have up : ∀ b o v, w3.cell? ⟨b, o, none⟩ = some v → w4.cell? ⟨b, o, none⟩ = some v := fun b o v h => by rw [hw4]; exact keepCell ((Below.refl _ _).alloc (Nat.le_refl _) _) h
  have t0 : w4.cell? ⟨g12, 0, none⟩ = some (.int .i64 tx) := by rw [hw4, hg12]; go_simp
  have t1 : w4.cell? ⟨g12, 1, none⟩ = some (.int .i64 ty) := by rw [hw4, hg12]; go_simp
  replace v0 := up _ _ _ v0
  replace v1 := up _ _ _ v1
  replace a0 := up _ _ _ a0
  replace a1 := up _ _ _ a1
  replace a2 := up _ _ _ a2
  have hB4 : Below w.heap.size w w4 := by rw [hw4]; exact hB3.alloc hB3.size _
  clear hb3 hB2 hB3 HTS up
  go_wp2_with fail
  rw [← hw4, ← hg12]
  clear hw4 hg12
  refine (satBegun_calls _).mono ?_
  rintro e w5 ⟨rfl, hb5⟩
  replace v0 := keepCell hb5 v0
  replace v1 := keepCell hb5 v1
  replace a0 := keepCell hb5 a0
  replace a1 := keepCell hb5 a1
  replace a2 := keepCell hb5 a2
  replace t0 := keepCell hb5 t0
  replace t1 := keepCell hb5 t1
  have hB := keepBelow hb5 hB4
  clear hb5 hB4
  have tri : (max x y ≤ 1073741824 ∧ -1073741824 ≤ min x y) ∨ (¬ max x y ≤ 1073741824) ∨ (max x y ≤ 1073741824 ∧ ¬ -1073741824 ≤ min x y) := by omega
  rcases tri with ⟨k1, k2⟩ | k1 | ⟨k1, k2⟩
  · have b1 : -1073741824 ≤ x ∧ x ≤ 1073741824 := by omega
    have b2 : -1073741824 ≤ y ∧ y ≤ 1073741824 := by omega
    have m1 := mul_bd (x := x) (y := x) (M := 1073741824) (N := 1073741824) (by omega) (by omega) (by omega) (by omega)
    have m2 := mul_bd (x := y) (y := y) (M := 1073741824) (N := 1073741824) (by omega) (by omega) (by omega) (by omega)
    have p1 := sq_nonneg x
    have p2 := sq_nonneg y
    have u1 : IntKind.i64.wrap (x * x) = x * x := IntWalk.i64_in _ (by omega)
    have u2 : IntKind.i64.wrap (y * y) = y * y := IntWalk.i64_in _ (by omega)
    have u3 : IntKind.i64.wrap (x * x + y * y) = x * x + y * y := IntWalk.i64_in _ (by omega)
    have HLE := hid (slength_calls x y b1 b2)
    have HRT : Hid (∀ w, Calls Try.prog 28 #[.int .i64 (x * x + y * y)] w (Ret (.int .i64 (lenZ x y)) w)) := fun w => rroot_calls (x * x + y * y) (by omega) (by omega) w
    generalize lenZ x y = ln at *
    clear b1 b2 m1 m2 p1 p2
    go_upto_region 5 with fail
    refine wp_region_noPanic ?_
    refine wp_region_U (S := (S2 (fun w' => w'.cell? ⟨w.heap.size, 0, none⟩ = some (.int .i64 x) ∧ w'.cell? ⟨w.heap.size, 1, none⟩ = some (.int .i64 y) ∧ w'.cell? ⟨g7, 0, none⟩ = some (.bool s) ∧ w'.cell? ⟨g7, 1, none⟩ = some (.int .i64 ei) ∧ w'.cell? ⟨g7, 2, none⟩ = some (.int .i64 d) ∧ w'.cell? ⟨g12, 0, none⟩ = some (.int .i64 tx) ∧ w'.cell? ⟨g12, 1, none⟩ = some (.int .i64 ty) ∧ Below w.heap.size w w'))) (T := (fun _ => 0)) (by kernel_rfl) (S2i0 ⟨v0, v1, a0, a1, a2, t0, t1, hB.drew⟩) (fun hH => ?_)
    have hWr1 : Weaker (S2 (fun w' => w'.cell? ⟨w.heap.size, 0, none⟩ = some (.int .i64 x) ∧ w'.cell? ⟨w.heap.size, 1, none⟩ = some (.int .i64 y) ∧ w'.cell? ⟨g7, 0, none⟩ = some (.bool s) ∧ w'.cell? ⟨g7, 1, none⟩ = some (.int .i64 ei) ∧ w'.cell? ⟨g7, 2, none⟩ = some (.int .i64 d) ∧ w'.cell? ⟨g12, 0, none⟩ = some (.int .i64 tx) ∧ w'.cell? ⟨g12, 1, none⟩ = some (.int .i64 ty) ∧ Below w.heap.size w w')) := weaker2 _
    refine U_take 0 32 30 0 0 (v := ?vr1_1) rfl (by kernel_rfl) (by kernel_rfl) hWr1 (by kernel_rfl) (by kernel_rfl) (by kernel_rfl) (by kernel_rfl) (by kernel_rfl) (by kernel_rfl) (fun _ _ _ _ h => h) (by kernel_rfl) ?hyr1_1 (by omega) hH ?_
    case hyr1_1 => (intro w' hSw; clear hSw; go_simp; try (with_reducible rfl))
    simp only [List.set_cons_zero, List.set_cons_succ]
    refine U_take 1 33 29 0 0 (v := ?vr1_2) rfl (by kernel_rfl) (by kernel_rfl) hWr1 (by kernel_rfl) (by kernel_rfl) (by kernel_rfl) (by kernel_rfl) (by kernel_rfl) (by kernel_rfl) (fun _ _ _ _ h => h) (by kernel_rfl) ?hyr1_2 (by omega) hH ?_
    case hyr1_2 => (intro w' hSw; replace hSw := S2o0 hSw; (try dsimp only at hSw); have q0 := hSw.1; have q1 := hSw.2.1; have q2 := hSw.2.2.1; have q3 := hSw.2.2.2.1; have q4 := hSw.2.2.2.2.1; have q5 := hSw.2.2.2.2.2.1; have q6 := hSw.2.2.2.2.2.2.1; have q7 := hSw.2.2.2.2.2.2.2; go_simp; try (with_reducible rfl))
    simp only [List.set_cons_zero, List.set_cons_succ]
    refine U_take 2 34 28 0 0 (v := ?vr1_3) rfl (by kernel_rfl) (by kernel_rfl) hWr1 (by kernel_rfl) (by kernel_rfl) (by kernel_rfl) (by kernel_rfl) (by kernel_rfl) (by kernel_rfl) (fun _ _ _ _ h => h) (by kernel_rfl) ?hyr1_3 (by omega) hH ?_
    case hyr1_3 => (intro w' hSw; clear hSw; go_simp; try (with_reducible rfl))
    simp only [List.set_cons_zero, List.set_cons_succ]
    refine U_take 3 35 27 0 0 (v := ?vr1_4) rfl (by kernel_rfl) (by kernel_rfl) hWr1 (by kernel_rfl) (by kernel_rfl) (by kernel_rfl) (by kernel_rfl) (by kernel_rfl) (by kernel_rfl) (fun _ _ _ _ h => h) (by kernel_rfl) ?hyr1_4 (by omega) hH ?_
    case hyr1_4 => (intro w' hSw; replace hSw := S2o0 hSw; (try dsimp only at hSw); have q0 := hSw.1; have q1 := hSw.2.1; have q2 := hSw.2.2.1; have q3 := hSw.2.2.2.1; have q4 := hSw.2.2.2.2.1; have q5 := hSw.2.2.2.2.2.1; have q6 := hSw.2.2.2.2.2.2.1; have q7 := hSw.2.2.2.2.2.2.2; go_simp; try (with_reducible rfl))
    simp only [List.set_cons_zero, List.set_cons_succ]
    refine U_take 4 36 26 0 0 (v := ?vr1_5) rfl (by kernel_rfl) (by kernel_rfl) hWr1 (by kernel_rfl) (by kernel_rfl) (by kernel_rfl) (by kernel_rfl) (by kernel_rfl) (by kernel_rfl) (fun _ _ _ _ h => h) (by kernel_rfl) ?hyr1_5 (by omega) hH ?_
    case hyr1_5 => (intro w' hSw; clear hSw; go_simp; try (with_reducible rfl))
    simp only [List.set_cons_zero, List.set_cons_succ]
    refine U_take 5 37 25 0 0 (v := ?vr1_6) rfl (by kernel_rfl) (by kernel_rfl) hWr1 (by kernel_rfl) (by kernel_rfl) (by kernel_rfl) (by kernel_rfl) (by kernel_rfl) (by kernel_rfl) (fun _ _ _ _ h => h) (by kernel_rfl) ?hyr1_6 (by omega) hH ?_
    case hyr1_6 => (intro w' hSw; clear hSw; go_simp; try (with_reducible rfl))
    simp only [List.set_cons_zero, List.set_cons_succ]
    refine U_take 6 38 24 0 0 (v := ?vr1_7) rfl (by kernel_rfl) (by kernel_rfl) hWr1 (by kernel_rfl) (by kernel_rfl) (by kernel_rfl) (by kernel_rfl) (by kernel_rfl) (by kernel_rfl) (fun _ _ _ _ h => h) (by kernel_rfl) ?hyr1_7 (by omega) hH ?_
    case hyr1_7 => (intro w' hSw; clear hSw; go_simp; try (with_reducible rfl))
    simp only [List.set_cons_zero, List.set_cons_succ]
    refine U_take 7 39 23 0 0 (v := ?vr1_8) rfl (by kernel_rfl) (by kernel_rfl) hWr1 (by kernel_rfl) (by kernel_rfl) (by kernel_rfl) (by kernel_rfl) (by kernel_rfl) (by kernel_rfl) (fun _ _ _ _ h => h) (by kernel_rfl) ?hyr1_8 (by omega) hH ?_
    case hyr1_8 => (intro w' hSw; clear hSw; go_simp; try (with_reducible rfl))
    simp only [List.set_cons_zero, List.set_cons_succ]
    refine U_take 8 40 22 0 0 (v := ?vr1_9) rfl (by kernel_rfl) (by kernel_rfl) hWr1 (by kernel_rfl) (by kernel_rfl) (by kernel_rfl) (by kernel_rfl) (by kernel_rfl) (by kernel_rfl) (fun _ _ _ _ h => h) (by kernel_rfl) ?hyr1_9 (by omega) hH ?_
    case hyr1_9 => (intro w' hSw; replace hSw := S2o0 hSw; (try dsimp only at hSw); have q0 := hSw.1; have q1 := hSw.2.1; have q2 := hSw.2.2.1; have q3 := hSw.2.2.2.1; have q4 := hSw.2.2.2.2.1; have q5 := hSw.2.2.2.2.2.1; have q6 := hSw.2.2.2.2.2.2.1; have q7 := hSw.2.2.2.2.2.2.2; go_simp; try (with_reducible rfl))
    simp only [List.set_cons_zero, List.set_cons_succ]
    refine U_take 9 41 21 0 0 (v := ?vr1_10) rfl (by kernel_rfl) (by kernel_rfl) hWr1 (by kernel_rfl) (by kernel_rfl) (by kernel_rfl) (by kernel_rfl) (by kernel_rfl) (by kernel_rfl) (fun _ _ _ _ h => h) (by kernel_rfl) ?hyr1_10 (by omega) hH ?_
    case hyr1_10 => (intro w' hSw; clear hSw; go_simp; try (with_reducible rfl))
    simp only [List.set_cons_zero, List.set_cons_succ]
    refine U_take 10 42 20 0 0 (v := ?vr1_11) rfl (by kernel_rfl) (by kernel_rfl) hWr1 (by kernel_rfl) (by kernel_rfl) (by kernel_rfl) (by kernel_rfl) (by kernel_rfl) (by kernel_rfl) (fun _ _ _ _ h => h) (by kernel_rfl) ?hyr1_11 (by omega) hH ?_
    case hyr1_11 => (intro w' hSw; replace hSw := S2o0 hSw; (try dsimp only at hSw); have q0 := hSw.1; have q1 := hSw.2.1; have q2 := hSw.2.2.1; have q3 := hSw.2.2.2.1; have q4 := hSw.2.2.2.2.1; have q5 := hSw.2.2.2.2.2.1; have q6 := hSw.2.2.2.2.2.2.1; have q7 := hSw.2.2.2.2.2.2.2; go_simp; try (with_reducible rfl))
    simp only [List.set_cons_zero, List.set_cons_succ]
    refine U_take 11 43 19 0 0 (v := ?vr1_12) rfl (by kernel_rfl) (by kernel_rfl) hWr1 (by kernel_rfl) (by kernel_rfl) (by kernel_rfl) (by kernel_rfl) (by kernel_rfl) (by kernel_rfl) (fun _ _ _ _ h => h) (by kernel_rfl) ?hyr1_12 (by omega) hH ?_
    case hyr1_12 => (intro w' hSw; clear hSw; go_simp; try (with_reducible rfl))
    simp only [List.set_cons_zero, List.set_cons_succ]
    refine U_take 12 44 18 0 0 (v := ?vr1_13) rfl (by kernel_rfl) (by kernel_rfl) hWr1 (by kernel_rfl) (by kernel_rfl) (by kernel_rfl) (by kernel_rfl) (by kernel_rfl) (by kernel_rfl) (fun _ _ _ _ h => h) (by kernel_rfl) ?hyr1_13 (by omega) hH ?_
    case hyr1_13 => (intro w' hSw; clear hSw; go_simp; try (with_reducible rfl))
    simp only [List.set_cons_zero, List.set_cons_succ]
    refine U_take 13 45 17 0 0 (v := ?vr1_14) rfl (by kernel_rfl) (by kernel_rfl) hWr1 (by kernel_rfl) (by kernel_rfl) (by kernel_rfl) (by kernel_rfl) (by kernel_rfl) (by kernel_rfl) (fun _ _ _ _ h => h) (by kernel_rfl) ?hyr1_14 (by omega) hH ?_
    case hyr1_14 => (intro w' hSw; clear hSw; go_simp; try (with_reducible rfl))
    simp only [List.set_cons_zero, List.set_cons_succ]
    refine U_take 14 46 16 0 0 (v := ?vr1_15) rfl (by kernel_rfl) (by kernel_rfl) hWr1 (by kernel_rfl) (by kernel_rfl) (by kernel_rfl) (by kernel_rfl) (by kernel_rfl) (by kernel_rfl) (fun _ _ _ _ h => h) (by kernel_rfl) ?hyr1_15 (by omega) hH ?_
    case hyr1_15 => (intro w' hSw; clear hSw; go_simp; try (with_reducible rfl))
    simp only [List.set_cons_zero, List.set_cons_succ]
    refine U_take 15 47 15 0 0 (v := ?vr1_16) rfl (by kernel_rfl) (by kernel_rfl) hWr1 (by kernel_rfl) (by kernel_rfl) (by kernel_rfl) (by kernel_rfl) (by kernel_rfl) (by kernel_rfl) (fun _ _ _ _ h => h) (by kernel_rfl) ?hyr1_16 (by omega) hH ?_
    case hyr1_16 => (intro w' hSw; replace hSw := S2o0 hSw; (try dsimp only at hSw); have q0 := hSw.1; have q1 := hSw.2.1; have q2 := hSw.2.2.1; have q3 := hSw.2.2.2.1; have q4 := hSw.2.2.2.2.1; have q5 := hSw.2.2.2.2.2.1; have q6 := hSw.2.2.2.2.2.2.1; have q7 := hSw.2.2.2.2.2.2.2; go_simp; try (with_reducible rfl))
    simp only [List.set_cons_zero, List.set_cons_succ]
    refine U_take 17 49 14 0 0 (v := ?vr1_17) rfl (by kernel_rfl) (by kernel_rfl) hWr1 (by kernel_rfl) (by kernel_rfl) (by kernel_rfl) (by kernel_rfl) (by kernel_rfl) (by kernel_rfl) (fun _ _ _ _ h => h) (by kernel_rfl) ?hyr1_17 (by omega) hH ?_
    case hyr1_17 => (intro w' hSw; clear hSw; go_simp; try (with_reducible rfl))
    simp only [List.set_cons_zero, List.set_cons_succ]
    refine U_take 18 50 13 0 0 (v := ?vr1_18) rfl (by kernel_rfl) (by kernel_rfl) hWr1 (by kernel_rfl) (by kernel_rfl) (by kernel_rfl) (by kernel_rfl) (by kernel_rfl) (by kernel_rfl) (fun _ _ _ _ h => h) (by kernel_rfl) ?hyr1_18 (by omega) hH ?_
    case hyr1_18 => (intro w' hSw; replace hSw := S2o0 hSw; (try dsimp only at hSw); have q0 := hSw.1; have q1 := hSw.2.1; have q2 := hSw.2.2.1; have q3 := hSw.2.2.2.1; have q4 := hSw.2.2.2.2.1; have q5 := hSw.2.2.2.2.2.1; have q6 := hSw.2.2.2.2.2.2.1; have q7 := hSw.2.2.2.2.2.2.2; go_simp; try (with_reducible rfl))
    simp only [List.set_cons_zero, List.set_cons_succ]
    refine U_take 19 51 12 0 0 (v := ?vr1_19) rfl (by kernel_rfl) (by kernel_rfl) hWr1 (by kernel_rfl) (by kernel_rfl) (by kernel_rfl) (by kernel_rfl) (by kernel_rfl) (by kernel_rfl) (fun _ _ _ _ h => h) (by kernel_rfl) ?hyr1_19 (by omega) hH ?_
    case hyr1_19 => (intro w' hSw; clear hSw; go_simp; try (with_reducible rfl))
    simp only [List.set_cons_zero, List.set_cons_succ]
    refine U_take 20 52 11 0 0 (v := ?vr1_20) rfl (by kernel_rfl) (by kernel_rfl) hWr1 (by kernel_rfl) (by kernel_rfl) (by kernel_rfl) (by kernel_rfl) (by kernel_rfl) (by kernel_rfl) (fun _ _ _ _ h => h) (by kernel_rfl) ?hyr1_20 (by omega) hH ?_
    case hyr1_20 => (intro w' hSw; replace hSw := S2o0 hSw; (try dsimp only at hSw); have q0 := hSw.1; have q1 := hSw.2.1; have q2 := hSw.2.2.1; have q3 := hSw.2.2.2.1; have q4 := hSw.2.2.2.2.1; have q5 := hSw.2.2.2.2.2.1; have q6 := hSw.2.2.2.2.2.2.1; have q7 := hSw.2.2.2.2.2.2.2; go_simp; try (with_reducible rfl))
    simp only [List.set_cons_zero, List.set_cons_succ]
    refine U_take 21 53 10 0 0 (v := ?vr1_21) rfl (by kernel_rfl) (by kernel_rfl) hWr1 (by kernel_rfl) (by kernel_rfl) (by kernel_rfl) (by kernel_rfl) (by kernel_rfl) (by kernel_rfl) (fun _ _ _ _ h => h) (by kernel_rfl) ?hyr1_21 (by omega) hH ?_
    case hyr1_21 => (intro w' hSw; clear hSw; go_simp; try (with_reducible rfl))
    simp only [List.set_cons_zero, List.set_cons_succ]
    refine U_take 22 54 9 0 0 (v := ?vr1_22) rfl (by kernel_rfl) (by kernel_rfl) hWr1 (by kernel_rfl) (by kernel_rfl) (by kernel_rfl) (by kernel_rfl) (by kernel_rfl) (by kernel_rfl) (fun _ _ _ _ h => h) (by kernel_rfl) ?hyr1_22 (by omega) hH ?_
    case hyr1_22 => (intro w' hSw; clear hSw; go_simp; try (with_reducible rfl))
    simp only [List.set_cons_zero, List.set_cons_succ]
    refine U_take 23 55 8 0 0 (v := ?vr1_23) rfl (by kernel_rfl) (by kernel_rfl) hWr1 (by kernel_rfl) (by kernel_rfl) (by kernel_rfl) (by kernel_rfl) (by kernel_rfl) (by kernel_rfl) (fun _ _ _ _ h => h) (by kernel_rfl) ?hyr1_23 (by omega) hH ?_
    case hyr1_23 => (intro w' hSw; replace hSw := S2o0 hSw; (try dsimp only at hSw); have q0 := hSw.1; have q1 := hSw.2.1; have q2 := hSw.2.2.1; have q3 := hSw.2.2.2.1; have q4 := hSw.2.2.2.2.1; have q5 := hSw.2.2.2.2.2.1; have q6 := hSw.2.2.2.2.2.2.1; have q7 := hSw.2.2.2.2.2.2.2; go_simp; try (with_reducible rfl))
    simp only [List.set_cons_zero, List.set_cons_succ]
    refine U_take 24 56 7 0 0 (v := ?vr1_24) rfl (by kernel_rfl) (by kernel_rfl) hWr1 (by kernel_rfl) (by kernel_rfl) (by kernel_rfl) (by kernel_rfl) (by kernel_rfl) (by kernel_rfl) (fun _ _ _ _ h => h) (by kernel_rfl) ?hyr1_24 (by omega) hH ?_
    case hyr1_24 => (intro w' hSw; clear hSw; go_simp; try (with_reducible rfl))
    simp only [List.set_cons_zero, List.set_cons_succ]
    refine U_take 25 57 6 0 0 (v := ?vr1_25) rfl (by kernel_rfl) (by kernel_rfl) hWr1 (by kernel_rfl) (by kernel_rfl) (by kernel_rfl) (by kernel_rfl) (by kernel_rfl) (by kernel_rfl) (fun _ _ _ _ h => h) (by kernel_rfl) ?hyr1_25 (by omega) hH ?_
    case hyr1_25 => (intro w' hSw; replace hSw := S2o0 hSw; (try dsimp only at hSw); have q0 := hSw.1; have q1 := hSw.2.1; have q2 := hSw.2.2.1; have q3 := hSw.2.2.2.1; have q4 := hSw.2.2.2.2.1; have q5 := hSw.2.2.2.2.2.1; have q6 := hSw.2.2.2.2.2.2.1; have q7 := hSw.2.2.2.2.2.2.2; go_simp; try (with_reducible rfl))
    simp only [List.set_cons_zero, List.set_cons_succ]
    refine U_take 26 58 5 0 0 (v := ?vr1_26) rfl (by kernel_rfl) (by kernel_rfl) hWr1 (by kernel_rfl) (by kernel_rfl) (by kernel_rfl) (by kernel_rfl) (by kernel_rfl) (by kernel_rfl) (fun _ _ _ _ h => h) (by kernel_rfl) ?hyr1_26 (by omega) hH ?_
    case hyr1_26 => (intro w' hSw; clear hSw; go_simp; try (with_reducible rfl))
    simp only [List.set_cons_zero, List.set_cons_succ]
    refine U_take 27 59 4 0 0 (v := ?vr1_27) rfl (by kernel_rfl) (by kernel_rfl) hWr1 (by kernel_rfl) (by kernel_rfl) (by kernel_rfl) (by kernel_rfl) (by kernel_rfl) (by kernel_rfl) (fun _ _ _ _ h => h) (by kernel_rfl) ?hyr1_27 (by omega) hH ?_
    case hyr1_27 => (intro w' hSw; clear hSw; go_simp; try (with_reducible rfl))
    simp only [List.set_cons_zero, List.set_cons_succ]
    refine wpAnyU_ready (rs := [16]) (by kernel_rfl) (by simp) ?_
    refine AllReadyU.cons 0 (by kernel_rfl) (o := _) rfl (fun K hK => ?_) AllReadyU.nil
    try clear hb
    go_simp
    (go_at_call 27; refine (HLE.out _).mono ?_; rintro e wn ⟨rfl, hb⟩)
    refine hK.out _ _ ?hsr1_28 (fun hH2 => ?hrr1_28)
    case hsr1_28 => exact S2i0 (by have hG := hH; replace hG := S2o0 hG; (try dsimp only at hG); have q0 := hG.1; have q1 := hG.2.1; have q2 := hG.2.2.1; have q3 := hG.2.2.2.1; have q4 := hG.2.2.2.2.1; have q5 := hG.2.2.2.2.2.1; have q6 := hG.2.2.2.2.2.2.1; have q7 := hG.2.2.2.2.2.2.2; exact ⟨keepCell hb q0, keepCell hb q1, keepCell hb q2, keepCell hb q3, keepCell hb q4, keepCell hb q5, keepCell hb q6, keepBelow hb q7⟩)
    clear hK K hH
    have hH := hH2
    clear hH2
    try simp only [Act.put, List.setIfInBounds_toArray, List.set_cons_zero, List.set_cons_succ]
    refine wpAnyU_ready (rs := [28]) (by kernel_rfl) (by simp) ?_
    refine AllReadyU.cons 0 (by kernel_rfl) (o := _) rfl (fun K hK => ?_) AllReadyU.nil
    try clear hb
    go_simp
    (go_at_call 28; refine (HRT.out _).mono ?_; rintro e wn ⟨rfl, hb⟩)
    refine hK.out _ _ ?hsr1_29 (fun hH2 => ?hrr1_29)
    case hsr1_29 => exact S2i0 (by have hG := hH; replace hG := S2o0 hG; (try dsimp only at hG); have q0 := hG.1; have q1 := hG.2.1; have q2 := hG.2.2.1; have q3 := hG.2.2.2.1; have q4 := hG.2.2.2.2.1; have q5 := hG.2.2.2.2.2.1; have q6 := hG.2.2.2.2.2.2.1; have q7 := hG.2.2.2.2.2.2.2; exact ⟨keepCell hb q0, keepCell hb q1, keepCell hb q2, keepCell hb q3, keepCell hb q4, keepCell hb q5, keepCell hb q6, keepBelow hb q7⟩)
    clear hK K hH
    have hH := hH2
    clear hH2
    try simp only [Act.put, List.setIfInBounds_toArray, List.set_cons_zero, List.set_cons_succ]
    refine U_take 29 61 1 0 0 (v := ?vr1_30) rfl (by kernel_rfl) (by kernel_rfl) hWr1 (by kernel_rfl) (by kernel_rfl) (by kernel_rfl) (by kernel_rfl) (by kernel_rfl) (by kernel_rfl) (fun _ _ _ _ h => h) (by kernel_rfl) ?hyr1_30 (by omega) hH ?_
    case hyr1_30 => (intro w' hSw; clear hSw; go_simp; try (with_reducible rfl))
    simp only [List.set_cons_zero, List.set_cons_succ]
    refine U_take 30 62 0 0 0 (v := ?vr1_31) rfl (by kernel_rfl) (by kernel_rfl) hWr1 (by kernel_rfl) (by kernel_rfl) (by kernel_rfl) (by kernel_rfl) (by kernel_rfl) (by kernel_rfl) (fun _ _ _ _ h => h) (by kernel_rfl) ?hyr1_31 (by omega) hH ?_
    case hyr1_31 => (intro w' hSw; clear hSw; go_simp; try (with_reducible rfl))
    simp only [List.set_cons_zero, List.set_cons_succ]
    refine wpAnyU_done (by kernel_rfl) ?_ _ _
    refine NoPanic.normal ?_
    clear hWr1
    replace hH := S2o0 hH
    (try dsimp only at hH)
    have q0 := hH.1
    have q1 := hH.2.1
    have q2 := hH.2.2.1
    have q3 := hH.2.2.2.1
    have q4 := hH.2.2.2.2.1
    have q5 := hH.2.2.2.2.2.1
    have q6 := hH.2.2.2.2.2.2.1
    have q7 := hH.2.2.2.2.2.2.2
    clear HLE HRT u1 u2 u3 k1 k2
    clear hH q0 q1
    try clear hb
    go_wp2_with fail
    refine (HTW.out _ q7).mono ?_
    rintro e w6 ⟨rfl, hb6⟩
    replace q2 := keepCell hb6 q2
    replace q3 := keepCell hb6 q3
    replace q4 := keepCell hb6 q4
    replace q5 := keepCell hb6 q5
    replace q6 := keepCell hb6 q6
    replace q7 := keepBelow hb6 q7
    clear hb6
    clear HTW v0 v1 a0 a1 a2 t0 t1 hB
    by_cases hE : E = 0
    · subst hE
      have HM' := hid (HMT.out rfl)
      have HN' := hid (HNM.out rfl)
      have HO' := hid (HOU.out rfl)
      have l8 := HL8.out rfl
      clear HL8
      clear HMT HNM HOU
      go_wp2_with fail
      refine (HM'.out _ q7).mono ?_
      rintro e w7 ⟨rfl, hb7⟩
      replace q2 := keepCell hb7 q2
      replace q3 := keepCell hb7 q3
      replace q4 := keepCell hb7 q4
      replace q5 := keepCell hb7 q5
      replace q6 := keepCell hb7 q6
      replace q7 := keepBelow hb7 q7
      clear hb7
      clear HM'
      cases mt with
      | false =>
        obtain ⟨rfl, rfl, rfl, rfl, rfl⟩ := HNO2.out rfl
        clear HNO2 HN' HO' HRL HWY HE0
        go_wp2
        go_returns
        exact ret_bool rfl q7
      | true =>
        clear HNO2 HE0
        go_wp2
        go_loopw [101] (fun j wr => ∃ k : Nat, k ≤ l.length ∧ j = .int .i64 k ∧ Below w.heap.size w wr ∧ Below w7.heap.size w7 wr) (fun j _ => l.length - (intOf j).toNat)
        case atStart => exact ⟨0, Nat.zero_le _, rfl, q7, Below.refl _ _⟩
        case round =>
          clear q7
          obtain ⟨k, hk, rfl, hB8, hB9⟩ := hrel
          obtain ⟨wo, rfl⟩ : ∃ wo : World, wo = wr := ⟨_, rfl⟩
          by_cases hlt : k < l.length
          · have hlt' : (k : Int) < (l.length : Int) := by omega
            have HN2 := hid (fun w' (h : Below w.heap.size w w') => HN'.out w' h k hlt)
            have HO2 := hid (fun w' (h : Below w.heap.size w w') => HO'.out w' h k hlt)
            generalize nrmX l k = nx at *
            generalize nrmY l k = ny at *
            clear HN' HO' HRL HWY q2 q3 q4 q5 q6
            go_wp2_with fail
            refine (HN2.out _ hB8).mono ?_
            rintro e w8 ⟨rfl, hb8⟩
            replace hB8 := keepBelow hb8 hB8
            replace hB9 := keepBelow hb8 hB9
            clear hb8 HN2
            go_wp2_with fail
            refine (HO2.out _ hB8).mono ?_
            rintro e w9 ⟨rfl, hb9⟩
            replace hB8 := keepBelow hb9 hB8
            replace hB9 := keepBelow hb9 hB9
            clear hb9 HO2
            go_wp2
            go_roundw
            case rel => exact ⟨k + 1, hlt, by go_num, hB8, hB9⟩
            case measure => simp [intOf]; omega
          · have hge : l.length ≤ k := by omega
            replace q2 := keepCell hB9 q2
            replace q3 := keepCell hB9 q3
            replace q4 := keepCell hB9 q4
            replace q5 := keepCell hB9 q5
            replace q6 := keepCell hB9 q6
            clear HN' HO' hlt hB9
            go_wp2_with fail
            refine (HRL.out (by simp) _ hB8).mono ?_
            rintro e w8 ⟨rfl, hb8⟩
            replace q2 := keepCell hb8 q2
            replace q3 := keepCell hb8 q3
            replace q4 := keepCell hb8 q4
            replace q5 := keepCell hb8 q5
            replace q6 := keepCell hb8 q6
            replace hB8 := keepBelow hb8 hB8
            clear hb8 HRL
            obtain ⟨g15, hg15⟩ : ∃ g, g = w8.heap.size := ⟨_, rfl⟩
            obtain ⟨w9, hw9⟩ : ∃ w9, w9 = w8.alloc (.cells #[.bool s, .int .i64 ei, .int .i64 d] 38) := ⟨_, rfl⟩
            have up : ∀ b o v, w8.cell? ⟨b, o, none⟩ = some v → w9.cell? ⟨b, o, none⟩ = some v := fun b o v h => by rw [hw9]; exact keepCell ((Below.refl _ _).alloc (Nat.le_refl _) _) h
            have c0 : w9.cell? ⟨g15, 0, none⟩ = some (.bool s) := by rw [hw9, hg15]; go_simp
            have c1 : w9.cell? ⟨g15, 1, none⟩ = some (.int .i64 ei) := by rw [hw9, hg15]; go_simp
            have c2 : w9.cell? ⟨g15, 2, none⟩ = some (.int .i64 d) := by rw [hw9, hg15]; go_simp
            replace q2 := up _ _ _ q2
            replace q3 := up _ _ _ q3
            replace q4 := up _ _ _ q4
            replace q5 := up _ _ _ q5
            replace q6 := up _ _ _ q6
            replace hB8 : Below w.heap.size w w9 := by rw [hw9]; exact hB8.alloc hB8.size _
            clear up
            go_upto_region 17 with fail
            rw [← hw9, ← hg15]
            clear hw9 hg15
            refine wp_region_noPanic ?_
            refine wp_region_U (S := (S2 (fun w' => w'.cell? ⟨g7, 0, none⟩ = some (.bool s) ∧ w'.cell? ⟨g7, 1, none⟩ = some (.int .i64 ei) ∧ w'.cell? ⟨g7, 2, none⟩ = some (.int .i64 d) ∧ w'.cell? ⟨g12, 0, none⟩ = some (.int .i64 tx) ∧ w'.cell? ⟨g12, 1, none⟩ = some (.int .i64 ty) ∧ w'.cell? ⟨g15, 0, none⟩ = some (.bool s) ∧ w'.cell? ⟨g15, 1, none⟩ = some (.int .i64 ei) ∧ w'.cell? ⟨g15, 2, none⟩ = some (.int .i64 d) ∧ Below w.heap.size w w'))) (T := (fun _ => 0)) (by kernel_rfl) (S2i0 ⟨q2, q3, q4, q5, q6, c0, c1, c2, hB8.drew⟩) (fun hH => ?_)
            have hWr2 : Weaker (S2 (fun w' => w'.cell? ⟨g7, 0, none⟩ = some (.bool s) ∧ w'.cell? ⟨g7, 1, none⟩ = some (.int .i64 ei) ∧ w'.cell? ⟨g7, 2, none⟩ = some (.int .i64 d) ∧ w'.cell? ⟨g12, 0, none⟩ = some (.int .i64 tx) ∧ w'.cell? ⟨g12, 1, none⟩ = some (.int .i64 ty) ∧ w'.cell? ⟨g15, 0, none⟩ = some (.bool s) ∧ w'.cell? ⟨g15, 1, none⟩ = some (.int .i64 ei) ∧ w'.cell? ⟨g15, 2, none⟩ = some (.int .i64 d) ∧ Below w.heap.size w w')) := weaker2 _
            refine U_take 0 115 27 0 0 (v := ?vr2_1) rfl (by kernel_rfl) (by kernel_rfl) hWr2 (by kernel_rfl) (by kernel_rfl) (by kernel_rfl) (by kernel_rfl) (by kernel_rfl) (by kernel_rfl) (fun _ _ _ _ h => h) (by kernel_rfl) ?hyr2_1 (by omega) hH ?_
            case hyr2_1 => (intro w' hSw; clear hSw; go_simp; try (with_reducible rfl))
            simp only [List.set_cons_zero, List.set_cons_succ]
            refine U_take 1 116 26 0 0 (v := ?vr2_2) rfl (by kernel_rfl) (by kernel_rfl) hWr2 (by kernel_rfl) (by kernel_rfl) (by kernel_rfl) (by kernel_rfl) (by kernel_rfl) (by kernel_rfl) (fun _ _ _ _ h => h) (by kernel_rfl) ?hyr2_2 (by omega) hH ?_
            case hyr2_2 => (intro w' hSw; clear hSw; go_simp; try (with_reducible rfl))
            simp only [List.set_cons_zero, List.set_cons_succ]
            refine U_take 2 117 25 0 0 (v := ?vr2_3) rfl (by kernel_rfl) (by kernel_rfl) hWr2 (by kernel_rfl) (by kernel_rfl) (by kernel_rfl) (by kernel_rfl) (by kernel_rfl) (by kernel_rfl) (fun _ _ _ _ h => h) (by kernel_rfl) ?hyr2_3 (by omega) hH ?_
            case hyr2_3 => (intro w' hSw; clear hSw; go_simp; try (with_reducible rfl))
            simp only [List.set_cons_zero, List.set_cons_succ]
            refine U_take 3 118 24 0 0 (v := ?vr2_4) rfl (by kernel_rfl) (by kernel_rfl) hWr2 (by kernel_rfl) (by kernel_rfl) (by kernel_rfl) (by kernel_rfl) (by kernel_rfl) (by kernel_rfl) (fun _ _ _ _ h => h) (by kernel_rfl) ?hyr2_4 (by omega) hH ?_
            case hyr2_4 => (intro w' hSw; clear hSw; go_simp; try (with_reducible rfl))
            simp only [List.set_cons_zero, List.set_cons_succ]
            refine U_take 4 119 23 0 0 (v := ?vr2_5) rfl (by kernel_rfl) (by kernel_rfl) hWr2 (by kernel_rfl) (by kernel_rfl) (by kernel_rfl) (by kernel_rfl) (by kernel_rfl) (by kernel_rfl) (fun _ _ _ _ h => h) (by kernel_rfl) ?hyr2_5 (by omega) hH ?_
            case hyr2_5 => (intro w' hSw; clear hSw; go_simp; try (with_reducible rfl))
            simp only [List.set_cons_zero, List.set_cons_succ]
            refine U_take 5 120 22 0 0 (v := ?vr2_6) rfl (by kernel_rfl) (by kernel_rfl) hWr2 (by kernel_rfl) (by kernel_rfl) (by kernel_rfl) (by kernel_rfl) (by kernel_rfl) (by kernel_rfl) (fun _ _ _ _ h => h) (by kernel_rfl) ?hyr2_6 (by omega) hH ?_
            case hyr2_6 => (intro w' hSw; clear hSw; go_simp; try (with_reducible rfl))
            simp only [List.set_cons_zero, List.set_cons_succ]
            refine U_take 6 121 21 0 0 (v := ?vr2_7) rfl (by kernel_rfl) (by kernel_rfl) hWr2 (by kernel_rfl) (by kernel_rfl) (by kernel_rfl) (by kernel_rfl) (by kernel_rfl) (by kernel_rfl) (fun _ _ _ _ h => h) (by kernel_rfl) ?hyr2_7 (by omega) hH ?_
            case hyr2_7 => (intro w' hSw; replace hSw := S2o0 hSw; (try dsimp only at hSw); have q0 := hSw.1; have q1 := hSw.2.1; have q2 := hSw.2.2.1; have q3 := hSw.2.2.2.1; have q4 := hSw.2.2.2.2.1; have q5 := hSw.2.2.2.2.2.1; have q6 := hSw.2.2.2.2.2.2.1; have q7 := hSw.2.2.2.2.2.2.2.1; have q8 := hSw.2.2.2.2.2.2.2.2; go_simp; try (with_reducible rfl))
            simp only [List.set_cons_zero, List.set_cons_succ]
            refine U_take 7 122 20 0 0 (v := ?vr2_8) rfl (by kernel_rfl) (by kernel_rfl) hWr2 (by kernel_rfl) (by kernel_rfl) (by kernel_rfl) (by kernel_rfl) (by kernel_rfl) (by kernel_rfl) (fun _ _ _ _ h => h) (by kernel_rfl) ?hyr2_8 (by omega) hH ?_
            case hyr2_8 => (intro w' hSw; replace hSw := S2o0 hSw; (try dsimp only at hSw); have q0 := hSw.1; have q1 := hSw.2.1; have q2 := hSw.2.2.1; have q3 := hSw.2.2.2.1; have q4 := hSw.2.2.2.2.1; have q5 := hSw.2.2.2.2.2.1; have q6 := hSw.2.2.2.2.2.2.1; have q7 := hSw.2.2.2.2.2.2.2.1; have q8 := hSw.2.2.2.2.2.2.2.2; go_simp; try (with_reducible rfl))
            simp only [List.set_cons_zero, List.set_cons_succ]
            refine U_take 8 123 19 0 0 (v := ?vr2_9) rfl (by kernel_rfl) (by kernel_rfl) hWr2 (by kernel_rfl) (by kernel_rfl) (by kernel_rfl) (by kernel_rfl) (by kernel_rfl) (by kernel_rfl) (fun _ _ _ _ h => h) (by kernel_rfl) ?hyr2_9 (by omega) hH ?_
            case hyr2_9 => (intro w' hSw; clear hSw; go_simp; try (with_reducible rfl))
            simp only [List.set_cons_zero, List.set_cons_succ]
            refine U_take 9 124 18 0 0 (v := ?vr2_10) rfl (by kernel_rfl) (by kernel_rfl) hWr2 (by kernel_rfl) (by kernel_rfl) (by kernel_rfl) (by kernel_rfl) (by kernel_rfl) (by kernel_rfl) (fun _ _ _ _ h => h) (by kernel_rfl) ?hyr2_10 (by omega) hH ?_
            case hyr2_10 => (intro w' hSw; clear hSw; go_simp; try (with_reducible rfl))
            simp only [List.set_cons_zero, List.set_cons_succ]
            refine U_take 10 125 17 0 0 (v := ?vr2_11) rfl (by kernel_rfl) (by kernel_rfl) hWr2 (by kernel_rfl) (by kernel_rfl) (by kernel_rfl) (by kernel_rfl) (by kernel_rfl) (by kernel_rfl) (fun _ _ _ _ h => h) (by kernel_rfl) ?hyr2_11 (by omega) hH ?_
            case hyr2_11 => (intro w' hSw; clear hSw; go_simp; try (with_reducible rfl))
            simp only [List.set_cons_zero, List.set_cons_succ]
            refine U_take 11 126 16 0 0 (v := ?vr2_12) rfl (by kernel_rfl) (by kernel_rfl) hWr2 (by kernel_rfl) (by kernel_rfl) (by kernel_rfl) (by kernel_rfl) (by kernel_rfl) (by kernel_rfl) (fun _ _ _ _ h => h) (by kernel_rfl) ?hyr2_12 (by omega) hH ?_
            case hyr2_12 => (intro w' hSw; clear hSw; go_simp; try (with_reducible rfl))
            simp only [List.set_cons_zero, List.set_cons_succ]
            refine U_take 12 127 15 0 0 (v := ?vr2_13) rfl (by kernel_rfl) (by kernel_rfl) hWr2 (by kernel_rfl) (by kernel_rfl) (by kernel_rfl) (by kernel_rfl) (by kernel_rfl) (by kernel_rfl) (fun _ _ _ _ h => h) (by kernel_rfl) ?hyr2_13 (by omega) hH ?_
            case hyr2_13 => (intro w' hSw; clear hSw; go_simp; try (with_reducible rfl))
            simp only [List.set_cons_zero, List.set_cons_succ]
            refine U_take 13 128 14 0 0 (v := ?vr2_14) rfl (by kernel_rfl) (by kernel_rfl) hWr2 (by kernel_rfl) (by kernel_rfl) (by kernel_rfl) (by kernel_rfl) (by kernel_rfl) (by kernel_rfl) (fun _ _ _ _ h => h) (by kernel_rfl) ?hyr2_14 (by omega) hH ?_
            case hyr2_14 => (intro w' hSw; clear hSw; go_simp; try (with_reducible rfl))
            simp only [List.set_cons_zero, List.set_cons_succ]
            refine U_take 14 129 13 0 0 (v := ?vr2_15) rfl (by kernel_rfl) (by kernel_rfl) hWr2 (by kernel_rfl) (by kernel_rfl) (by kernel_rfl) (by kernel_rfl) (by kernel_rfl) (by kernel_rfl) (fun _ _ _ _ h => h) (by kernel_rfl) ?hyr2_15 (by omega) hH ?_
            case hyr2_15 => (intro w' hSw; clear hSw; go_simp; try (with_reducible rfl))
            simp only [List.set_cons_zero, List.set_cons_succ]
            refine U_take 15 130 12 0 0 (v := ?vr2_16) rfl (by kernel_rfl) (by kernel_rfl) hWr2 (by kernel_rfl) (by kernel_rfl) (by kernel_rfl) (by kernel_rfl) (by kernel_rfl) (by kernel_rfl) (fun _ _ _ _ h => h) (by kernel_rfl) ?hyr2_16 (by omega) hH ?_
            case hyr2_16 => (intro w' hSw; clear hSw; go_simp; try (with_reducible rfl))
            simp only [List.set_cons_zero, List.set_cons_succ]
            refine U_take 16 131 11 0 0 (v := ?vr2_17) rfl (by kernel_rfl) (by kernel_rfl) hWr2 (by kernel_rfl) (by kernel_rfl) (by kernel_rfl) (by kernel_rfl) (by kernel_rfl) (by kernel_rfl) (fun _ _ _ _ h => h) (by kernel_rfl) ?hyr2_17 (by omega) hH ?_
            case hyr2_17 => (intro w' hSw; replace hSw := S2o0 hSw; (try dsimp only at hSw); have q0 := hSw.1; have q1 := hSw.2.1; have q2 := hSw.2.2.1; have q3 := hSw.2.2.2.1; have q4 := hSw.2.2.2.2.1; have q5 := hSw.2.2.2.2.2.1; have q6 := hSw.2.2.2.2.2.2.1; have q7 := hSw.2.2.2.2.2.2.2.1; have q8 := hSw.2.2.2.2.2.2.2.2; go_simp; try (with_reducible rfl))
            simp only [List.set_cons_zero, List.set_cons_succ]
            refine U_take 17 132 10 0 0 (v := ?vr2_18) rfl (by kernel_rfl) (by kernel_rfl) hWr2 (by kernel_rfl) (by kernel_rfl) (by kernel_rfl) (by kernel_rfl) (by kernel_rfl) (by kernel_rfl) (fun _ _ _ _ h => h) (by kernel_rfl) ?hyr2_18 (by omega) hH ?_
            case hyr2_18 => (intro w' hSw; clear hSw; go_simp; try (with_reducible rfl))
            simp only [List.set_cons_zero, List.set_cons_succ]
            refine U_take 18 133 9 0 0 (v := ?vr2_19) rfl (by kernel_rfl) (by kernel_rfl) hWr2 (by kernel_rfl) (by kernel_rfl) (by kernel_rfl) (by kernel_rfl) (by kernel_rfl) (by kernel_rfl) (fun _ _ _ _ h => h) (by kernel_rfl) ?hyr2_19 (by omega) hH ?_
            case hyr2_19 => (intro w' hSw; clear hSw; go_simp; try (with_reducible rfl))
            simp only [List.set_cons_zero, List.set_cons_succ]
            refine U_take 19 134 8 0 0 (v := ?vr2_20) rfl (by kernel_rfl) (by kernel_rfl) hWr2 (by kernel_rfl) (by kernel_rfl) (by kernel_rfl) (by kernel_rfl) (by kernel_rfl) (by kernel_rfl) (fun _ _ _ _ h => h) (by kernel_rfl) ?hyr2_20 (by omega) hH ?_
            case hyr2_20 => (intro w' hSw; clear hSw; go_simp; try (with_reducible rfl))
            simp only [List.set_cons_zero, List.set_cons_succ]
            refine U_take 20 135 7 0 0 (v := ?vr2_21) rfl (by kernel_rfl) (by kernel_rfl) hWr2 (by kernel_rfl) (by kernel_rfl) (by kernel_rfl) (by kernel_rfl) (by kernel_rfl) (by kernel_rfl) (fun _ _ _ _ h => h) (by kernel_rfl) ?hyr2_21 (by omega) hH ?_
            case hyr2_21 => (intro w' hSw; replace hSw := S2o0 hSw; (try dsimp only at hSw); have q0 := hSw.1; have q1 := hSw.2.1; have q2 := hSw.2.2.1; have q3 := hSw.2.2.2.1; have q4 := hSw.2.2.2.2.1; have q5 := hSw.2.2.2.2.2.1; have q6 := hSw.2.2.2.2.2.2.1; have q7 := hSw.2.2.2.2.2.2.2.1; have q8 := hSw.2.2.2.2.2.2.2.2; go_simp; try (with_reducible rfl))
            simp only [List.set_cons_zero, List.set_cons_succ]
            refine U_take 21 136 6 0 0 (v := ?vr2_22) rfl (by kernel_rfl) (by kernel_rfl) hWr2 (by kernel_rfl) (by kernel_rfl) (by kernel_rfl) (by kernel_rfl) (by kernel_rfl) (by kernel_rfl) (fun _ _ _ _ h => h) (by kernel_rfl) ?hyr2_22 (by omega) hH ?_
            case hyr2_22 => (intro w' hSw; clear hSw; go_simp; try (with_reducible rfl))
            simp only [List.set_cons_zero, List.set_cons_succ]
            refine U_take 22 137 5 0 0 (v := ?vr2_23) rfl (by kernel_rfl) (by kernel_rfl) hWr2 (by kernel_rfl) (by kernel_rfl) (by kernel_rfl) (by kernel_rfl) (by kernel_rfl) (by kernel_rfl) (fun _ _ _ _ h => h) (by kernel_rfl) ?hyr2_23 (by omega) hH ?_
            case hyr2_23 => (intro w' hSw; clear hSw; go_simp; try (with_reducible rfl))
            simp only [List.set_cons_zero, List.set_cons_succ]
            refine U_take 23 138 4 0 0 (v := ?vr2_24) rfl (by kernel_rfl) (by kernel_rfl) hWr2 (by kernel_rfl) (by kernel_rfl) (by kernel_rfl) (by kernel_rfl) (by kernel_rfl) (by kernel_rfl) (fun _ _ _ _ h => h) (by kernel_rfl) ?hyr2_24 (by omega) hH ?_
            case hyr2_24 => (intro w' hSw; replace hSw := S2o0 hSw; (try dsimp only at hSw); have q0 := hSw.1; have q1 := hSw.2.1; have q2 := hSw.2.2.1; have q3 := hSw.2.2.2.1; have q4 := hSw.2.2.2.2.1; have q5 := hSw.2.2.2.2.2.1; have q6 := hSw.2.2.2.2.2.2.1; have q7 := hSw.2.2.2.2.2.2.2.1; have q8 := hSw.2.2.2.2.2.2.2.2; go_simp; try (with_reducible rfl))
            simp only [List.set_cons_zero, List.set_cons_succ]
            refine wpAnyU_ready (rs := [24]) (by kernel_rfl) (by simp) ?_
            refine AllReadyU.cons 0 (by kernel_rfl) (o := _) rfl (fun K hK => ?_) AllReadyU.nil
            try clear hb
            have hG := hH
            replace hG := S2o0 hG; (try dsimp only at hG); have p0 := hG.1; have p1 := hG.2.1; have p2 := hG.2.2.1; have p3 := hG.2.2.2.1; have p4 := hG.2.2.2.2.1; have p5 := hG.2.2.2.2.2.1; have p6 := hG.2.2.2.2.2.2.1; have p7 := hG.2.2.2.2.2.2.2.1; have p8 := hG.2.2.2.2.2.2.2.2
            go_simp
            (go_at_call 32; refine (HWY.out (by simp) _ p8).mono ?_; rintro e wn ⟨rfl, hb⟩)
            refine hK.out _ _ ?hsr2_25 (fun hH2 => ?hrr2_25)
            case hsr2_25 => exact S2i0 (by have hG := hH; replace hG := S2o0 hG; (try dsimp only at hG); have q0 := hG.1; have q1 := hG.2.1; have q2 := hG.2.2.1; have q3 := hG.2.2.2.1; have q4 := hG.2.2.2.2.1; have q5 := hG.2.2.2.2.2.1; have q6 := hG.2.2.2.2.2.2.1; have q7 := hG.2.2.2.2.2.2.2.1; have q8 := hG.2.2.2.2.2.2.2.2; exact ⟨keepCell hb q0, keepCell hb q1, keepCell hb q2, keepCell hb q3, keepCell hb q4, keepCell hb q5, keepCell hb q6, keepCell hb q7, keepBelow hb q8⟩)
            clear hK K hH
            have hH := hH2
            clear hH2
            try simp only [Act.put, List.setIfInBounds_toArray, List.set_cons_zero, List.set_cons_succ]
            refine U_take 25 140 2 0 0 (v := ?vr2_26) rfl (by kernel_rfl) (by kernel_rfl) hWr2 (by kernel_rfl) (by kernel_rfl) (by kernel_rfl) (by kernel_rfl) (by kernel_rfl) (by kernel_rfl) (fun _ _ _ _ h => h) (by kernel_rfl) ?hyr2_26 (by omega) hH ?_
            case hyr2_26 => (intro w' hSw; clear hSw; go_simp; try (with_reducible rfl))
            simp only [List.set_cons_zero, List.set_cons_succ]
            refine U_take 26 141 1 0 0 (v := ?vr2_27) rfl (by kernel_rfl) (by kernel_rfl) hWr2 (by kernel_rfl) (by kernel_rfl) (by kernel_rfl) (by kernel_rfl) (by kernel_rfl) (by kernel_rfl) (fun _ _ _ _ h => h) (by kernel_rfl) ?hyr2_27 (by omega) hH ?_
            case hyr2_27 => (intro w' hSw; clear hSw; go_simp; try (with_reducible rfl))
            simp only [List.set_cons_zero, List.set_cons_succ]
            refine U_take 27 6 0 0 0 (v := ?vr2_28) rfl (by kernel_rfl) (by kernel_rfl) hWr2 (by kernel_rfl) (by kernel_rfl) (by kernel_rfl) (by kernel_rfl) (by kernel_rfl) (by kernel_rfl) (fun _ _ _ _ h => h) (by kernel_rfl) ?hyr2_28 (by omega) hH ?_
            case hyr2_28 => (intro w' hSw; clear hSw; go_simp; try (with_reducible rfl))
            simp only [List.set_cons_zero, List.set_cons_succ]
            refine wpAnyU_done (by kernel_rfl) ?_ _ _
            refine NoPanic.normal ?_
            clear hWr2
            replace hH := S2o0 hH
            (try dsimp only at hH)
            have r0 := hH.1
            have r1 := hH.2.1
            have r2 := hH.2.2.1
            have r3 := hH.2.2.2.1
            have r4 := hH.2.2.2.2.1
            have r5 := hH.2.2.2.2.2.1
            have r6 := hH.2.2.2.2.2.2.1
            have r7 := hH.2.2.2.2.2.2.2.1
            have r8 := hH.2.2.2.2.2.2.2.2
            clear hH hb r0 r1 r2 r3 r4 r5 r6 r7 c0 c1 c2 q2 q3 q4 q5 q6 HWY
            go_wp2
            go_returns
            exact ret_bool rfl r8
    · have hm : mt = false := by
        cases mt with
        | false => rfl
        | true => exact absurd (HE0.out rfl) hE
      subst hm
      obtain ⟨rfl, rfl, rfl, rfl, rfl⟩ := HNO2.out rfl
      have hne : (E != 0) = true := by simp [hE]
      clear HNO2 HE0 HMT HNM HOU HRL HWY hE
      go_wp2
      go_returns
      exact ret_bool (by simp) q7
  · have k3 : decide (max x y ≤ 1073741824) = false := decide_eq_false k1
    go_upto_region 5 with fail
    refine wp_region_noPanic ?_
    refine wp_region_U (S := (S2 (fun w' => w'.cell? ⟨w.heap.size, 0, none⟩ = some (.int .i64 x) ∧ w'.cell? ⟨w.heap.size, 1, none⟩ = some (.int .i64 y) ∧ w'.cell? ⟨g7, 0, none⟩ = some (.bool s) ∧ w'.cell? ⟨g7, 1, none⟩ = some (.int .i64 ei) ∧ w'.cell? ⟨g7, 2, none⟩ = some (.int .i64 d) ∧ w'.cell? ⟨g12, 0, none⟩ = some (.int .i64 tx) ∧ w'.cell? ⟨g12, 1, none⟩ = some (.int .i64 ty) ∧ Below w.heap.size w w'))) (T := (fun _ => 0)) (by kernel_rfl) (S2i0 ⟨v0, v1, a0, a1, a2, t0, t1, hB.drew⟩) (fun hH => ?_)
    have hWr3 : Weaker (S2 (fun w' => w'.cell? ⟨w.heap.size, 0, none⟩ = some (.int .i64 x) ∧ w'.cell? ⟨w.heap.size, 1, none⟩ = some (.int .i64 y) ∧ w'.cell? ⟨g7, 0, none⟩ = some (.bool s) ∧ w'.cell? ⟨g7, 1, none⟩ = some (.int .i64 ei) ∧ w'.cell? ⟨g7, 2, none⟩ = some (.int .i64 d) ∧ w'.cell? ⟨g12, 0, none⟩ = some (.int .i64 tx) ∧ w'.cell? ⟨g12, 1, none⟩ = some (.int .i64 ty) ∧ Below w.heap.size w w')) := weaker2 _
    refine U_take 0 32 30 0 0 (v := ?vr3_1) rfl (by kernel_rfl) (by kernel_rfl) hWr3 (by kernel_rfl) (by kernel_rfl) (by kernel_rfl) (by kernel_rfl) (by kernel_rfl) (by kernel_rfl) (fun _ _ _ _ h => h) (by kernel_rfl) ?hyr3_1 (by omega) hH ?_
    case hyr3_1 => (intro w' hSw; clear hSw; go_simp; try (with_reducible rfl))
    simp only [List.set_cons_zero, List.set_cons_succ]
    refine U_take 1 33 29 0 0 (v := ?vr3_2) rfl (by kernel_rfl) (by kernel_rfl) hWr3 (by kernel_rfl) (by kernel_rfl) (by kernel_rfl) (by kernel_rfl) (by kernel_rfl) (by kernel_rfl) (fun _ _ _ _ h => h) (by kernel_rfl) ?hyr3_2 (by omega) hH ?_
    case hyr3_2 => (intro w' hSw; replace hSw := S2o0 hSw; (try dsimp only at hSw); have q0 := hSw.1; have q1 := hSw.2.1; have q2 := hSw.2.2.1; have q3 := hSw.2.2.2.1; have q4 := hSw.2.2.2.2.1; have q5 := hSw.2.2.2.2.2.1; have q6 := hSw.2.2.2.2.2.2.1; have q7 := hSw.2.2.2.2.2.2.2; go_simp; try (with_reducible rfl))
    simp only [List.set_cons_zero, List.set_cons_succ]
    refine U_take 2 34 28 0 0 (v := ?vr3_3) rfl (by kernel_rfl) (by kernel_rfl) hWr3 (by kernel_rfl) (by kernel_rfl) (by kernel_rfl) (by kernel_rfl) (by kernel_rfl) (by kernel_rfl) (fun _ _ _ _ h => h) (by kernel_rfl) ?hyr3_3 (by omega) hH ?_
    case hyr3_3 => (intro w' hSw; clear hSw; go_simp; try (with_reducible rfl))
    simp only [List.set_cons_zero, List.set_cons_succ]
    refine U_take 3 35 27 0 0 (v := ?vr3_4) rfl (by kernel_rfl) (by kernel_rfl) hWr3 (by kernel_rfl) (by kernel_rfl) (by kernel_rfl) (by kernel_rfl) (by kernel_rfl) (by kernel_rfl) (fun _ _ _ _ h => h) (by kernel_rfl) ?hyr3_4 (by omega) hH ?_
    case hyr3_4 => (intro w' hSw; replace hSw := S2o0 hSw; (try dsimp only at hSw); have q0 := hSw.1; have q1 := hSw.2.1; have q2 := hSw.2.2.1; have q3 := hSw.2.2.2.1; have q4 := hSw.2.2.2.2.1; have q5 := hSw.2.2.2.2.2.1; have q6 := hSw.2.2.2.2.2.2.1; have q7 := hSw.2.2.2.2.2.2.2; go_simp; try (with_reducible rfl))
    simp only [List.set_cons_zero, List.set_cons_succ]
    refine U_take 4 36 26 0 0 (v := ?vr3_5) rfl (by kernel_rfl) (by kernel_rfl) hWr3 (by kernel_rfl) (by kernel_rfl) (by kernel_rfl) (by kernel_rfl) (by kernel_rfl) (by kernel_rfl) (fun _ _ _ _ h => h) (by kernel_rfl) ?hyr3_5 (by omega) hH ?_
    case hyr3_5 => (intro w' hSw; clear hSw; go_simp; try (with_reducible rfl))
    simp only [List.set_cons_zero, List.set_cons_succ]
    refine U_take 5 37 25 0 0 (v := ?vr3_6) rfl (by kernel_rfl) (by kernel_rfl) hWr3 (by kernel_rfl) (by kernel_rfl) (by kernel_rfl) (by kernel_rfl) (by kernel_rfl) (by kernel_rfl) (fun _ _ _ _ h => h) (by kernel_rfl) ?hyr3_6 (by omega) hH ?_
    case hyr3_6 => (intro w' hSw; clear hSw; go_simp; try (with_reducible rfl))
    simp only [List.set_cons_zero, List.set_cons_succ]
    refine U_take 6 38 24 0 0 (v := ?vr3_7) rfl (by kernel_rfl) (by kernel_rfl) hWr3 (by kernel_rfl) (by kernel_rfl) (by kernel_rfl) (by kernel_rfl) (by kernel_rfl) (by kernel_rfl) (fun _ _ _ _ h => h) (by kernel_rfl) ?hyr3_7 (by omega) hH ?_
    case hyr3_7 => (intro w' hSw; clear hSw; go_simp; try (with_reducible rfl))
    simp only [List.set_cons_zero, List.set_cons_succ]
    refine U_skips (by kernel_rfl) (fun _ _ _ _ h => h) hWr3 0 0 (by omega) hH [(7, 39), (8, 40), (9, 41), (10, 42), (11, 43), (12, 44)] 18 _ _ _ (by kernel_rfl) (by kernel_rfl) ?_
    simp only [tsetUndef, List.set_cons_zero, List.set_cons_succ]
    refine U_take 13 45 17 0 0 (v := ?vr3_8) rfl (by kernel_rfl) (by kernel_rfl) hWr3 (by kernel_rfl) (by kernel_rfl) (by kernel_rfl) (by kernel_rfl) (by kernel_rfl) (by kernel_rfl) (fun _ _ _ _ h => h) (by kernel_rfl) ?hyr3_8 (by omega) hH ?_
    case hyr3_8 => (intro w' hSw; clear hSw; go_simp; try (with_reducible rfl))
    simp only [List.set_cons_zero, List.set_cons_succ]
    refine U_take 14 46 16 0 0 (v := ?vr3_9) rfl (by kernel_rfl) (by kernel_rfl) hWr3 (by kernel_rfl) (by kernel_rfl) (by kernel_rfl) (by kernel_rfl) (by kernel_rfl) (by kernel_rfl) (fun _ _ _ _ h => h) (by kernel_rfl) ?hyr3_9 (by omega) hH ?_
    case hyr3_9 => (intro w' hSw; clear hSw; go_simp; try (with_reducible rfl))
    simp only [List.set_cons_zero, List.set_cons_succ]
    refine U_skips (by kernel_rfl) (fun _ _ _ _ h => h) hWr3 0 0 (by omega) hH [(15, 47), (16, 48), (17, 49), (18, 50), (19, 51), (20, 52), (21, 53), (22, 54), (23, 55), (24, 56), (25, 57), (26, 58), (27, 59), (28, 60), (29, 61)] 1 _ _ _ (by kernel_rfl) (by kernel_rfl) ?_
    simp only [tsetUndef, List.set_cons_zero, List.set_cons_succ]
    refine U_take 30 62 0 0 0 (v := ?vr3_10) rfl (by kernel_rfl) (by kernel_rfl) hWr3 (by kernel_rfl) (by kernel_rfl) (by kernel_rfl) (by kernel_rfl) (by kernel_rfl) (by kernel_rfl) (fun _ _ _ _ h => h) (by kernel_rfl) ?hyr3_10 (by omega) hH ?_
    case hyr3_10 => (intro w' hSw; clear hSw; go_simp; try (with_reducible rfl))
    simp only [List.set_cons_zero, List.set_cons_succ]
    refine wpAnyU_done (by kernel_rfl) ?_ _ _
    refine NoPanic.normal ?_
    clear hWr3
    replace hH := S2o0 hH
    (try dsimp only at hH)
    have q0 := hH.1
    have q1 := hH.2.1
    have q2 := hH.2.2.1
    have q3 := hH.2.2.2.1
    have q4 := hH.2.2.2.2.1
    have q5 := hH.2.2.2.2.2.1
    have q6 := hH.2.2.2.2.2.2.1
    have q7 := hH.2.2.2.2.2.2.2
    clear k1 k3
    clear hH q0 q1
    try clear hb
    go_wp2_with fail
    refine (HTW.out _ q7).mono ?_
    rintro e w6 ⟨rfl, hb6⟩
    replace q2 := keepCell hb6 q2
    replace q3 := keepCell hb6 q3
    replace q4 := keepCell hb6 q4
    replace q5 := keepCell hb6 q5
    replace q6 := keepCell hb6 q6
    replace q7 := keepBelow hb6 q7
    clear hb6
    clear HTW v0 v1 a0 a1 a2 t0 t1 hB
    by_cases hE : E = 0
    · subst hE
      have HM' := hid (HMT.out rfl)
      have HN' := hid (HNM.out rfl)
      have HO' := hid (HOU.out rfl)
      have l8 := HL8.out rfl
      clear HL8
      clear HMT HNM HOU
      go_wp2_with fail
      refine (HM'.out _ q7).mono ?_
      rintro e w7 ⟨rfl, hb7⟩
      replace q2 := keepCell hb7 q2
      replace q3 := keepCell hb7 q3
      replace q4 := keepCell hb7 q4
      replace q5 := keepCell hb7 q5
      replace q6 := keepCell hb7 q6
      replace q7 := keepBelow hb7 q7
      clear hb7
      clear HM'
      cases mt with
      | false =>
        obtain ⟨rfl, rfl, rfl, rfl, rfl⟩ := HNO2.out rfl
        clear HNO2 HN' HO' HRL HWY HE0
        go_wp2
        go_returns
        exact ret_bool rfl q7
      | true =>
        clear HNO2 HE0
        go_wp2
        go_loopw [101] (fun j wr => ∃ k : Nat, k ≤ l.length ∧ j = .int .i64 k ∧ Below w.heap.size w wr ∧ Below w7.heap.size w7 wr) (fun j _ => l.length - (intOf j).toNat)
        case atStart => exact ⟨0, Nat.zero_le _, rfl, q7, Below.refl _ _⟩
        case round =>
          clear q7
          obtain ⟨k, hk, rfl, hB8, hB9⟩ := hrel
          obtain ⟨wo, rfl⟩ : ∃ wo : World, wo = wr := ⟨_, rfl⟩
          by_cases hlt : k < l.length
          · have hlt' : (k : Int) < (l.length : Int) := by omega
            have HN2 := hid (fun w' (h : Below w.heap.size w w') => HN'.out w' h k hlt)
            have HO2 := hid (fun w' (h : Below w.heap.size w w') => HO'.out w' h k hlt)
            generalize nrmX l k = nx at *
            generalize nrmY l k = ny at *
            clear HN' HO' HRL HWY q2 q3 q4 q5 q6
            go_wp2_with fail
            refine (HN2.out _ hB8).mono ?_
            rintro e w8 ⟨rfl, hb8⟩
            replace hB8 := keepBelow hb8 hB8
            replace hB9 := keepBelow hb8 hB9
            clear hb8 HN2
            go_wp2_with fail
            refine (HO2.out _ hB8).mono ?_
            rintro e w9 ⟨rfl, hb9⟩
            replace hB8 := keepBelow hb9 hB8
            replace hB9 := keepBelow hb9 hB9
            clear hb9 HO2
            go_wp2
            go_roundw
            case rel => exact ⟨k + 1, hlt, by go_num, hB8, hB9⟩
            case measure => simp [intOf]; omega
          · have hge : l.length ≤ k := by omega
            replace q2 := keepCell hB9 q2
            replace q3 := keepCell hB9 q3
            replace q4 := keepCell hB9 q4
            replace q5 := keepCell hB9 q5
            replace q6 := keepCell hB9 q6
            clear HN' HO' hlt hB9
            go_wp2_with fail
            refine (HRL.out (by simp) _ hB8).mono ?_
            rintro e w8 ⟨rfl, hb8⟩
            replace q2 := keepCell hb8 q2
            replace q3 := keepCell hb8 q3
            replace q4 := keepCell hb8 q4
            replace q5 := keepCell hb8 q5
            replace q6 := keepCell hb8 q6
            replace hB8 := keepBelow hb8 hB8
            clear hb8 HRL
            obtain ⟨g15, hg15⟩ : ∃ g, g = w8.heap.size := ⟨_, rfl⟩
            obtain ⟨w9, hw9⟩ : ∃ w9, w9 = w8.alloc (.cells #[.bool s, .int .i64 ei, .int .i64 d] 38) := ⟨_, rfl⟩
            have up : ∀ b o v, w8.cell? ⟨b, o, none⟩ = some v → w9.cell? ⟨b, o, none⟩ = some v := fun b o v h => by rw [hw9]; exact keepCell ((Below.refl _ _).alloc (Nat.le_refl _) _) h
            have c0 : w9.cell? ⟨g15, 0, none⟩ = some (.bool s) := by rw [hw9, hg15]; go_simp
            have c1 : w9.cell? ⟨g15, 1, none⟩ = some (.int .i64 ei) := by rw [hw9, hg15]; go_simp
            have c2 : w9.cell? ⟨g15, 2, none⟩ = some (.int .i64 d) := by rw [hw9, hg15]; go_simp
            replace q2 := up _ _ _ q2
            replace q3 := up _ _ _ q3
            replace q4 := up _ _ _ q4
            replace q5 := up _ _ _ q5
            replace q6 := up _ _ _ q6
            replace hB8 : Below w.heap.size w w9 := by rw [hw9]; exact hB8.alloc hB8.size _
            clear up
            go_upto_region 17 with fail
            rw [← hw9, ← hg15]
            clear hw9 hg15
            refine wp_region_noPanic ?_
            refine wp_region_U (S := (S2 (fun w' => w'.cell? ⟨g7, 0, none⟩ = some (.bool s) ∧ w'.cell? ⟨g7, 1, none⟩ = some (.int .i64 ei) ∧ w'.cell? ⟨g7, 2, none⟩ = some (.int .i64 d) ∧ w'.cell? ⟨g12, 0, none⟩ = some (.int .i64 tx) ∧ w'.cell? ⟨g12, 1, none⟩ = some (.int .i64 ty) ∧ w'.cell? ⟨g15, 0, none⟩ = some (.bool s) ∧ w'.cell? ⟨g15, 1, none⟩ = some (.int .i64 ei) ∧ w'.cell? ⟨g15, 2, none⟩ = some (.int .i64 d) ∧ Below w.heap.size w w'))) (T := (fun _ => 0)) (by kernel_rfl) (S2i0 ⟨q2, q3, q4, q5, q6, c0, c1, c2, hB8.drew⟩) (fun hH => ?_)
            have hWr4 : Weaker (S2 (fun w' => w'.cell? ⟨g7, 0, none⟩ = some (.bool s) ∧ w'.cell? ⟨g7, 1, none⟩ = some (.int .i64 ei) ∧ w'.cell? ⟨g7, 2, none⟩ = some (.int .i64 d) ∧ w'.cell? ⟨g12, 0, none⟩ = some (.int .i64 tx) ∧ w'.cell? ⟨g12, 1, none⟩ = some (.int .i64 ty) ∧ w'.cell? ⟨g15, 0, none⟩ = some (.bool s) ∧ w'.cell? ⟨g15, 1, none⟩ = some (.int .i64 ei) ∧ w'.cell? ⟨g15, 2, none⟩ = some (.int .i64 d) ∧ Below w.heap.size w w')) := weaker2 _
            refine U_take 0 115 27 0 0 (v := ?vr4_1) rfl (by kernel_rfl) (by kernel_rfl) hWr4 (by kernel_rfl) (by kernel_rfl) (by kernel_rfl) (by kernel_rfl) (by kernel_rfl) (by kernel_rfl) (fun _ _ _ _ h => h) (by kernel_rfl) ?hyr4_1 (by omega) hH ?_
            case hyr4_1 => (intro w' hSw; clear hSw; go_simp; try (with_reducible rfl))
            simp only [List.set_cons_zero, List.set_cons_succ]
            refine U_take 1 116 26 0 0 (v := ?vr4_2) rfl (by kernel_rfl) (by kernel_rfl) hWr4 (by kernel_rfl) (by kernel_rfl) (by kernel_rfl) (by kernel_rfl) (by kernel_rfl) (by kernel_rfl) (fun _ _ _ _ h => h) (by kernel_rfl) ?hyr4_2 (by omega) hH ?_
            case hyr4_2 => (intro w' hSw; clear hSw; go_simp; try (with_reducible rfl))
            simp only [List.set_cons_zero, List.set_cons_succ]
            refine U_take 2 117 25 0 0 (v := ?vr4_3) rfl (by kernel_rfl) (by kernel_rfl) hWr4 (by kernel_rfl) (by kernel_rfl) (by kernel_rfl) (by kernel_rfl) (by kernel_rfl) (by kernel_rfl) (fun _ _ _ _ h => h) (by kernel_rfl) ?hyr4_3 (by omega) hH ?_
            case hyr4_3 => (intro w' hSw; clear hSw; go_simp; try (with_reducible rfl))
            simp only [List.set_cons_zero, List.set_cons_succ]
            refine U_take 3 118 24 0 0 (v := ?vr4_4) rfl (by kernel_rfl) (by kernel_rfl) hWr4 (by kernel_rfl) (by kernel_rfl) (by kernel_rfl) (by kernel_rfl) (by kernel_rfl) (by kernel_rfl) (fun _ _ _ _ h => h) (by kernel_rfl) ?hyr4_4 (by omega) hH ?_
            case hyr4_4 => (intro w' hSw; clear hSw; go_simp; try (with_reducible rfl))
            simp only [List.set_cons_zero, List.set_cons_succ]
            refine U_take 4 119 23 0 0 (v := ?vr4_5) rfl (by kernel_rfl) (by kernel_rfl) hWr4 (by kernel_rfl) (by kernel_rfl) (by kernel_rfl) (by kernel_rfl) (by kernel_rfl) (by kernel_rfl) (fun _ _ _ _ h => h) (by kernel_rfl) ?hyr4_5 (by omega) hH ?_
            case hyr4_5 => (intro w' hSw; clear hSw; go_simp; try (with_reducible rfl))
            simp only [List.set_cons_zero, List.set_cons_succ]
            refine U_take 5 120 22 0 0 (v := ?vr4_6) rfl (by kernel_rfl) (by kernel_rfl) hWr4 (by kernel_rfl) (by kernel_rfl) (by kernel_rfl) (by kernel_rfl) (by kernel_rfl) (by kernel_rfl) (fun _ _ _ _ h => h) (by kernel_rfl) ?hyr4_6 (by omega) hH ?_
            case hyr4_6 => (intro w' hSw; clear hSw; go_simp; try (with_reducible rfl))
            simp only [List.set_cons_zero, List.set_cons_succ]
            refine U_take 6 121 21 0 0 (v := ?vr4_7) rfl (by kernel_rfl) (by kernel_rfl) hWr4 (by kernel_rfl) (by kernel_rfl) (by kernel_rfl) (by kernel_rfl) (by kernel_rfl) (by kernel_rfl) (fun _ _ _ _ h => h) (by kernel_rfl) ?hyr4_7 (by omega) hH ?_
            case hyr4_7 => (intro w' hSw; replace hSw := S2o0 hSw; (try dsimp only at hSw); have q0 := hSw.1; have q1 := hSw.2.1; have q2 := hSw.2.2.1; have q3 := hSw.2.2.2.1; have q4 := hSw.2.2.2.2.1; have q5 := hSw.2.2.2.2.2.1; have q6 := hSw.2.2.2.2.2.2.1; have q7 := hSw.2.2.2.2.2.2.2.1; have q8 := hSw.2.2.2.2.2.2.2.2; go_simp; try (with_reducible rfl))
            simp only [List.set_cons_zero, List.set_cons_succ]
            refine U_take 7 122 20 0 0 (v := ?vr4_8) rfl (by kernel_rfl) (by kernel_rfl) hWr4 (by kernel_rfl) (by kernel_rfl) (by kernel_rfl) (by kernel_rfl) (by kernel_rfl) (by kernel_rfl) (fun _ _ _ _ h => h) (by kernel_rfl) ?hyr4_8 (by omega) hH ?_
            case hyr4_8 => (intro w' hSw; replace hSw := S2o0 hSw; (try dsimp only at hSw); have q0 := hSw.1; have q1 := hSw.2.1; have q2 := hSw.2.2.1; have q3 := hSw.2.2.2.1; have q4 := hSw.2.2.2.2.1; have q5 := hSw.2.2.2.2.2.1; have q6 := hSw.2.2.2.2.2.2.1; have q7 := hSw.2.2.2.2.2.2.2.1; have q8 := hSw.2.2.2.2.2.2.2.2; go_simp; try (with_reducible rfl))
            simp only [List.set_cons_zero, List.set_cons_succ]
            refine U_take 8 123 19 0 0 (v := ?vr4_9) rfl (by kernel_rfl) (by kernel_rfl) hWr4 (by kernel_rfl) (by kernel_rfl) (by kernel_rfl) (by kernel_rfl) (by kernel_rfl) (by kernel_rfl) (fun _ _ _ _ h => h) (by kernel_rfl) ?hyr4_9 (by omega) hH ?_
            case hyr4_9 => (intro w' hSw; clear hSw; go_simp; try (with_reducible rfl))
            simp only [List.set_cons_zero, List.set_cons_succ]
            refine U_take 9 124 18 0 0 (v := ?vr4_10) rfl (by kernel_rfl) (by kernel_rfl) hWr4 (by kernel_rfl) (by kernel_rfl) (by kernel_rfl) (by kernel_rfl) (by kernel_rfl) (by kernel_rfl) (fun _ _ _ _ h => h) (by kernel_rfl) ?hyr4_10 (by omega) hH ?_
            case hyr4_10 => (intro w' hSw; clear hSw; go_simp; try (with_reducible rfl))
            simp only [List.set_cons_zero, List.set_cons_succ]
            refine U_take 10 125 17 0 0 (v := ?vr4_11) rfl (by kernel_rfl) (by kernel_rfl) hWr4 (by kernel_rfl) (by kernel_rfl) (by kernel_rfl) (by kernel_rfl) (by kernel_rfl) (by kernel_rfl) (fun _ _ _ _ h => h) (by kernel_rfl) ?hyr4_11 (by omega) hH ?_
            case hyr4_11 => (intro w' hSw; clear hSw; go_simp; try (with_reducible rfl))
            simp only [List.set_cons_zero, List.set_cons_succ]
            refine U_take 11 126 16 0 0 (v := ?vr4_12) rfl (by kernel_rfl) (by kernel_rfl) hWr4 (by kernel_rfl) (by kernel_rfl) (by kernel_rfl) (by kernel_rfl) (by kernel_rfl) (by kernel_rfl) (fun _ _ _ _ h => h) (by kernel_rfl) ?hyr4_12 (by omega) hH ?_
            case hyr4_12 => (intro w' hSw; clear hSw; go_simp; try (with_reducible rfl))
            simp only [List.set_cons_zero, List.set_cons_succ]
            refine U_take 12 127 15 0 0 (v := ?vr4_13) rfl (by kernel_rfl) (by kernel_rfl) hWr4 (by kernel_rfl) (by kernel_rfl) (by kernel_rfl) (by kernel_rfl) (by kernel_rfl) (by kernel_rfl) (fun _ _ _ _ h => h) (by kernel_rfl) ?hyr4_13 (by omega) hH ?_
            case hyr4_13 => (intro w' hSw; clear hSw; go_simp; try (with_reducible rfl))
            simp only [List.set_cons_zero, List.set_cons_succ]
            refine U_take 13 128 14 0 0 (v := ?vr4_14) rfl (by kernel_rfl) (by kernel_rfl) hWr4 (by kernel_rfl) (by kernel_rfl) (by kernel_rfl) (by kernel_rfl) (by kernel_rfl) (by kernel_rfl) (fun _ _ _ _ h => h) (by kernel_rfl) ?hyr4_14 (by omega) hH ?_
            case hyr4_14 => (intro w' hSw; clear hSw; go_simp; try (with_reducible rfl))
            simp only [List.set_cons_zero, List.set_cons_succ]
            refine U_take 14 129 13 0 0 (v := ?vr4_15) rfl (by kernel_rfl) (by kernel_rfl) hWr4 (by kernel_rfl) (by kernel_rfl) (by kernel_rfl) (by kernel_rfl) (by kernel_rfl) (by kernel_rfl) (fun _ _ _ _ h => h) (by kernel_rfl) ?hyr4_15 (by omega) hH ?_
            case hyr4_15 => (intro w' hSw; clear hSw; go_simp; try (with_reducible rfl))
            simp only [List.set_cons_zero, List.set_cons_succ]
            refine U_take 15 130 12 0 0 (v := ?vr4_16) rfl (by kernel_rfl) (by kernel_rfl) hWr4 (by kernel_rfl) (by kernel_rfl) (by kernel_rfl) (by kernel_rfl) (by kernel_rfl) (by kernel_rfl) (fun _ _ _ _ h => h) (by kernel_rfl) ?hyr4_16 (by omega) hH ?_
            case hyr4_16 => (intro w' hSw; clear hSw; go_simp; try (with_reducible rfl))
            simp only [List.set_cons_zero, List.set_cons_succ]
            refine U_take 16 131 11 0 0 (v := ?vr4_17) rfl (by kernel_rfl) (by kernel_rfl) hWr4 (by kernel_rfl) (by kernel_rfl) (by kernel_rfl) (by kernel_rfl) (by kernel_rfl) (by kernel_rfl) (fun _ _ _ _ h => h) (by kernel_rfl) ?hyr4_17 (by omega) hH ?_
            case hyr4_17 => (intro w' hSw; replace hSw := S2o0 hSw; (try dsimp only at hSw); have q0 := hSw.1; have q1 := hSw.2.1; have q2 := hSw.2.2.1; have q3 := hSw.2.2.2.1; have q4 := hSw.2.2.2.2.1; have q5 := hSw.2.2.2.2.2.1; have q6 := hSw.2.2.2.2.2.2.1; have q7 := hSw.2.2.2.2.2.2.2.1; have q8 := hSw.2.2.2.2.2.2.2.2; go_simp; try (with_reducible rfl))
            simp only [List.set_cons_zero, List.set_cons_succ]
            refine U_take 17 132 10 0 0 (v := ?vr4_18) rfl (by kernel_rfl) (by kernel_rfl) hWr4 (by kernel_rfl) (by kernel_rfl) (by kernel_rfl) (by kernel_rfl) (by kernel_rfl) (by kernel_rfl) (fun _ _ _ _ h => h) (by kernel_rfl) ?hyr4_18 (by omega) hH ?_
            case hyr4_18 => (intro w' hSw; clear hSw; go_simp; try (with_reducible rfl))
            simp only [List.set_cons_zero, List.set_cons_succ]
            refine U_take 18 133 9 0 0 (v := ?vr4_19) rfl (by kernel_rfl) (by kernel_rfl) hWr4 (by kernel_rfl) (by kernel_rfl) (by kernel_rfl) (by kernel_rfl) (by kernel_rfl) (by kernel_rfl) (fun _ _ _ _ h => h) (by kernel_rfl) ?hyr4_19 (by omega) hH ?_
            case hyr4_19 => (intro w' hSw; clear hSw; go_simp; try (with_reducible rfl))
            simp only [List.set_cons_zero, List.set_cons_succ]
            refine U_take 19 134 8 0 0 (v := ?vr4_20) rfl (by kernel_rfl) (by kernel_rfl) hWr4 (by kernel_rfl) (by kernel_rfl) (by kernel_rfl) (by kernel_rfl) (by kernel_rfl) (by kernel_rfl) (fun _ _ _ _ h => h) (by kernel_rfl) ?hyr4_20 (by omega) hH ?_
            case hyr4_20 => (intro w' hSw; clear hSw; go_simp; try (with_reducible rfl))
            simp only [List.set_cons_zero, List.set_cons_succ]
            refine U_take 20 135 7 0 0 (v := ?vr4_21) rfl (by kernel_rfl) (by kernel_rfl) hWr4 (by kernel_rfl) (by kernel_rfl) (by kernel_rfl) (by kernel_rfl) (by kernel_rfl) (by kernel_rfl) (fun _ _ _ _ h => h) (by kernel_rfl) ?hyr4_21 (by omega) hH ?_
            case hyr4_21 => (intro w' hSw; replace hSw := S2o0 hSw; (try dsimp only at hSw); have q0 := hSw.1; have q1 := hSw.2.1; have q2 := hSw.2.2.1; have q3 := hSw.2.2.2.1; have q4 := hSw.2.2.2.2.1; have q5 := hSw.2.2.2.2.2.1; have q6 := hSw.2.2.2.2.2.2.1; have q7 := hSw.2.2.2.2.2.2.2.1; have q8 := hSw.2.2.2.2.2.2.2.2; go_simp; try (with_reducible rfl))
            simp only [List.set_cons_zero, List.set_cons_succ]
            refine U_take 21 136 6 0 0 (v := ?vr4_22) rfl (by kernel_rfl) (by kernel_rfl) hWr4 (by kernel_rfl) (by kernel_rfl) (by kernel_rfl) (by kernel_rfl) (by kernel_rfl) (by kernel_rfl) (fun _ _ _ _ h => h) (by kernel_rfl) ?hyr4_22 (by omega) hH ?_
            case hyr4_22 => (intro w' hSw; clear hSw; go_simp; try (with_reducible rfl))
            simp only [List.set_cons_zero, List.set_cons_succ]
            refine U_take 22 137 5 0 0 (v := ?vr4_23) rfl (by kernel_rfl) (by kernel_rfl) hWr4 (by kernel_rfl) (by kernel_rfl) (by kernel_rfl) (by kernel_rfl) (by kernel_rfl) (by kernel_rfl) (fun _ _ _ _ h => h) (by kernel_rfl) ?hyr4_23 (by omega) hH ?_
            case hyr4_23 => (intro w' hSw; clear hSw; go_simp; try (with_reducible rfl))
            simp only [List.set_cons_zero, List.set_cons_succ]
            refine U_take 23 138 4 0 0 (v := ?vr4_24) rfl (by kernel_rfl) (by kernel_rfl) hWr4 (by kernel_rfl) (by kernel_rfl) (by kernel_rfl) (by kernel_rfl) (by kernel_rfl) (by kernel_rfl) (fun _ _ _ _ h => h) (by kernel_rfl) ?hyr4_24 (by omega) hH ?_
            case hyr4_24 => (intro w' hSw; replace hSw := S2o0 hSw; (try dsimp only at hSw); have q0 := hSw.1; have q1 := hSw.2.1; have q2 := hSw.2.2.1; have q3 := hSw.2.2.2.1; have q4 := hSw.2.2.2.2.1; have q5 := hSw.2.2.2.2.2.1; have q6 := hSw.2.2.2.2.2.2.1; have q7 := hSw.2.2.2.2.2.2.2.1; have q8 := hSw.2.2.2.2.2.2.2.2; go_simp; try (with_reducible rfl))
            simp only [List.set_cons_zero, List.set_cons_succ]
            refine wpAnyU_ready (rs := [24]) (by kernel_rfl) (by simp) ?_
            refine AllReadyU.cons 0 (by kernel_rfl) (o := _) rfl (fun K hK => ?_) AllReadyU.nil
            try clear hb
            have hG := hH
            replace hG := S2o0 hG; (try dsimp only at hG); have p0 := hG.1; have p1 := hG.2.1; have p2 := hG.2.2.1; have p3 := hG.2.2.2.1; have p4 := hG.2.2.2.2.1; have p5 := hG.2.2.2.2.2.1; have p6 := hG.2.2.2.2.2.2.1; have p7 := hG.2.2.2.2.2.2.2.1; have p8 := hG.2.2.2.2.2.2.2.2
            go_simp
            (go_at_call 32; refine (HWY.out (by simp) _ p8).mono ?_; rintro e wn ⟨rfl, hb⟩)
            refine hK.out _ _ ?hsr4_25 (fun hH2 => ?hrr4_25)
            case hsr4_25 => exact S2i0 (by have hG := hH; replace hG := S2o0 hG; (try dsimp only at hG); have q0 := hG.1; have q1 := hG.2.1; have q2 := hG.2.2.1; have q3 := hG.2.2.2.1; have q4 := hG.2.2.2.2.1; have q5 := hG.2.2.2.2.2.1; have q6 := hG.2.2.2.2.2.2.1; have q7 := hG.2.2.2.2.2.2.2.1; have q8 := hG.2.2.2.2.2.2.2.2; exact ⟨keepCell hb q0, keepCell hb q1, keepCell hb q2, keepCell hb q3, keepCell hb q4, keepCell hb q5, keepCell hb q6, keepCell hb q7, keepBelow hb q8⟩)
            clear hK K hH
            have hH := hH2
            clear hH2
            try simp only [Act.put, List.setIfInBounds_toArray, List.set_cons_zero, List.set_cons_succ]
            refine U_take 25 140 2 0 0 (v := ?vr4_26) rfl (by kernel_rfl) (by kernel_rfl) hWr4 (by kernel_rfl) (by kernel_rfl) (by kernel_rfl) (by kernel_rfl) (by kernel_rfl) (by kernel_rfl) (fun _ _ _ _ h => h) (by kernel_rfl) ?hyr4_26 (by omega) hH ?_
            case hyr4_26 => (intro w' hSw; clear hSw; go_simp; try (with_reducible rfl))
            simp only [List.set_cons_zero, List.set_cons_succ]
            refine U_take 26 141 1 0 0 (v := ?vr4_27) rfl (by kernel_rfl) (by kernel_rfl) hWr4 (by kernel_rfl) (by kernel_rfl) (by kernel_rfl) (by kernel_rfl) (by kernel_rfl) (by kernel_rfl) (fun _ _ _ _ h => h) (by kernel_rfl) ?hyr4_27 (by omega) hH ?_
            case hyr4_27 => (intro w' hSw; clear hSw; go_simp; try (with_reducible rfl))
            simp only [List.set_cons_zero, List.set_cons_succ]
            refine U_take 27 6 0 0 0 (v := ?vr4_28) rfl (by kernel_rfl) (by kernel_rfl) hWr4 (by kernel_rfl) (by kernel_rfl) (by kernel_rfl) (by kernel_rfl) (by kernel_rfl) (by kernel_rfl) (fun _ _ _ _ h => h) (by kernel_rfl) ?hyr4_28 (by omega) hH ?_
            case hyr4_28 => (intro w' hSw; clear hSw; go_simp; try (with_reducible rfl))
            simp only [List.set_cons_zero, List.set_cons_succ]
            refine wpAnyU_done (by kernel_rfl) ?_ _ _
            refine NoPanic.normal ?_
            clear hWr4
            replace hH := S2o0 hH
            (try dsimp only at hH)
            have r0 := hH.1
            have r1 := hH.2.1
            have r2 := hH.2.2.1
            have r3 := hH.2.2.2.1
            have r4 := hH.2.2.2.2.1
            have r5 := hH.2.2.2.2.2.1
            have r6 := hH.2.2.2.2.2.2.1
            have r7 := hH.2.2.2.2.2.2.2.1
            have r8 := hH.2.2.2.2.2.2.2.2
            clear hH hb r0 r1 r2 r3 r4 r5 r6 r7 c0 c1 c2 q2 q3 q4 q5 q6 HWY
            go_wp2
            go_returns
            exact ret_bool rfl r8
    · have hm : mt = false := by
        cases mt with
        | false => rfl
        | true => exact absurd (HE0.out rfl) hE
      subst hm
      obtain ⟨rfl, rfl, rfl, rfl, rfl⟩ := HNO2.out rfl
      have hne : (E != 0) = true := by simp [hE]
      clear HNO2 HE0 HMT HNM HOU HRL HWY hE
      go_wp2
      go_returns
      exact ret_bool (by simp) q7
  · have k3 : decide (-1073741824 ≤ min x y) = false := decide_eq_false k2
    go_upto_region 5 with fail
    refine wp_region_noPanic ?_
    refine wp_region_U (S := (S2 (fun w' => w'.cell? ⟨w.heap.size, 0, none⟩ = some (.int .i64 x) ∧ w'.cell? ⟨w.heap.size, 1, none⟩ = some (.int .i64 y) ∧ w'.cell? ⟨g7, 0, none⟩ = some (.bool s) ∧ w'.cell? ⟨g7, 1, none⟩ = some (.int .i64 ei) ∧ w'.cell? ⟨g7, 2, none⟩ = some (.int .i64 d) ∧ w'.cell? ⟨g12, 0, none⟩ = some (.int .i64 tx) ∧ w'.cell? ⟨g12, 1, none⟩ = some (.int .i64 ty) ∧ Below w.heap.size w w'))) (T := (fun _ => 0)) (by kernel_rfl) (S2i0 ⟨v0, v1, a0, a1, a2, t0, t1, hB.drew⟩) (fun hH => ?_)
    have hWr5 : Weaker (S2 (fun w' => w'.cell? ⟨w.heap.size, 0, none⟩ = some (.int .i64 x) ∧ w'.cell? ⟨w.heap.size, 1, none⟩ = some (.int .i64 y) ∧ w'.cell? ⟨g7, 0, none⟩ = some (.bool s) ∧ w'.cell? ⟨g7, 1, none⟩ = some (.int .i64 ei) ∧ w'.cell? ⟨g7, 2, none⟩ = some (.int .i64 d) ∧ w'.cell? ⟨g12, 0, none⟩ = some (.int .i64 tx) ∧ w'.cell? ⟨g12, 1, none⟩ = some (.int .i64 ty) ∧ Below w.heap.size w w')) := weaker2 _
    refine U_take 0 32 30 0 0 (v := ?vr5_1) rfl (by kernel_rfl) (by kernel_rfl) hWr5 (by kernel_rfl) (by kernel_rfl) (by kernel_rfl) (by kernel_rfl) (by kernel_rfl) (by kernel_rfl) (fun _ _ _ _ h => h) (by kernel_rfl) ?hyr5_1 (by omega) hH ?_
    case hyr5_1 => (intro w' hSw; clear hSw; go_simp; try (with_reducible rfl))
    simp only [List.set_cons_zero, List.set_cons_succ]
    refine U_take 1 33 29 0 0 (v := ?vr5_2) rfl (by kernel_rfl) (by kernel_rfl) hWr5 (by kernel_rfl) (by kernel_rfl) (by kernel_rfl) (by kernel_rfl) (by kernel_rfl) (by kernel_rfl) (fun _ _ _ _ h => h) (by kernel_rfl) ?hyr5_2 (by omega) hH ?_
    case hyr5_2 => (intro w' hSw; replace hSw := S2o0 hSw; (try dsimp only at hSw); have q0 := hSw.1; have q1 := hSw.2.1; have q2 := hSw.2.2.1; have q3 := hSw.2.2.2.1; have q4 := hSw.2.2.2.2.1; have q5 := hSw.2.2.2.2.2.1; have q6 := hSw.2.2.2.2.2.2.1; have q7 := hSw.2.2.2.2.2.2.2; go_simp; try (with_reducible rfl))
    simp only [List.set_cons_zero, List.set_cons_succ]
    refine U_take 2 34 28 0 0 (v := ?vr5_3) rfl (by kernel_rfl) (by kernel_rfl) hWr5 (by kernel_rfl) (by kernel_rfl) (by kernel_rfl) (by kernel_rfl) (by kernel_rfl) (by kernel_rfl) (fun _ _ _ _ h => h) (by kernel_rfl) ?hyr5_3 (by omega) hH ?_
    case hyr5_3 => (intro w' hSw; clear hSw; go_simp; try (with_reducible rfl))
    simp only [List.set_cons_zero, List.set_cons_succ]
    refine U_take 3 35 27 0 0 (v := ?vr5_4) rfl (by kernel_rfl) (by kernel_rfl) hWr5 (by kernel_rfl) (by kernel_rfl) (by kernel_rfl) (by kernel_rfl) (by kernel_rfl) (by kernel_rfl) (fun _ _ _ _ h => h) (by kernel_rfl) ?hyr5_4 (by omega) hH ?_
    case hyr5_4 => (intro w' hSw; replace hSw := S2o0 hSw; (try dsimp only at hSw); have q0 := hSw.1; have q1 := hSw.2.1; have q2 := hSw.2.2.1; have q3 := hSw.2.2.2.1; have q4 := hSw.2.2.2.2.1; have q5 := hSw.2.2.2.2.2.1; have q6 := hSw.2.2.2.2.2.2.1; have q7 := hSw.2.2.2.2.2.2.2; go_simp; try (with_reducible rfl))
    simp only [List.set_cons_zero, List.set_cons_succ]
    refine U_take 4 36 26 0 0 (v := ?vr5_5) rfl (by kernel_rfl) (by kernel_rfl) hWr5 (by kernel_rfl) (by kernel_rfl) (by kernel_rfl) (by kernel_rfl) (by kernel_rfl) (by kernel_rfl) (fun _ _ _ _ h => h) (by kernel_rfl) ?hyr5_5 (by omega) hH ?_
    case hyr5_5 => (intro w' hSw; clear hSw; go_simp; try (with_reducible rfl))
    simp only [List.set_cons_zero, List.set_cons_succ]
    refine U_take 5 37 25 0 0 (v := ?vr5_6) rfl (by kernel_rfl) (by kernel_rfl) hWr5 (by kernel_rfl) (by kernel_rfl) (by kernel_rfl) (by kernel_rfl) (by kernel_rfl) (by kernel_rfl) (fun _ _ _ _ h => h) (by kernel_rfl) ?hyr5_6 (by omega) hH ?_
    case hyr5_6 => (intro w' hSw; clear hSw; go_simp; try (with_reducible rfl))
    simp only [List.set_cons_zero, List.set_cons_succ]
    refine U_take 6 38 24 0 0 (v := ?vr5_7) rfl (by kernel_rfl) (by kernel_rfl) hWr5 (by kernel_rfl) (by kernel_rfl) (by kernel_rfl) (by kernel_rfl) (by kernel_rfl) (by kernel_rfl) (fun _ _ _ _ h => h) (by kernel_rfl) ?hyr5_7 (by omega) hH ?_
    case hyr5_7 => (intro w' hSw; clear hSw; go_simp; try (with_reducible rfl))
    simp only [List.set_cons_zero, List.set_cons_succ]
    refine U_take 7 39 23 0 0 (v := ?vr5_8) rfl (by kernel_rfl) (by kernel_rfl) hWr5 (by kernel_rfl) (by kernel_rfl) (by kernel_rfl) (by kernel_rfl) (by kernel_rfl) (by kernel_rfl) (fun _ _ _ _ h => h) (by kernel_rfl) ?hyr5_8 (by omega) hH ?_
    case hyr5_8 => (intro w' hSw; clear hSw; go_simp; try (with_reducible rfl))
    simp only [List.set_cons_zero, List.set_cons_succ]
    refine U_take 8 40 22 0 0 (v := ?vr5_9) rfl (by kernel_rfl) (by kernel_rfl) hWr5 (by kernel_rfl) (by kernel_rfl) (by kernel_rfl) (by kernel_rfl) (by kernel_rfl) (by kernel_rfl) (fun _ _ _ _ h => h) (by kernel_rfl) ?hyr5_9 (by omega) hH ?_
    case hyr5_9 => (intro w' hSw; replace hSw := S2o0 hSw; (try dsimp only at hSw); have q0 := hSw.1; have q1 := hSw.2.1; have q2 := hSw.2.2.1; have q3 := hSw.2.2.2.1; have q4 := hSw.2.2.2.2.1; have q5 := hSw.2.2.2.2.2.1; have q6 := hSw.2.2.2.2.2.2.1; have q7 := hSw.2.2.2.2.2.2.2; go_simp; try (with_reducible rfl))
    simp only [List.set_cons_zero, List.set_cons_succ]
    refine U_take 9 41 21 0 0 (v := ?vr5_10) rfl (by kernel_rfl) (by kernel_rfl) hWr5 (by kernel_rfl) (by kernel_rfl) (by kernel_rfl) (by kernel_rfl) (by kernel_rfl) (by kernel_rfl) (fun _ _ _ _ h => h) (by kernel_rfl) ?hyr5_10 (by omega) hH ?_
    case hyr5_10 => (intro w' hSw; clear hSw; go_simp; try (with_reducible rfl))
    simp only [List.set_cons_zero, List.set_cons_succ]
    refine U_take 10 42 20 0 0 (v := ?vr5_11) rfl (by kernel_rfl) (by kernel_rfl) hWr5 (by kernel_rfl) (by kernel_rfl) (by kernel_rfl) (by kernel_rfl) (by kernel_rfl) (by kernel_rfl) (fun _ _ _ _ h => h) (by kernel_rfl) ?hyr5_11 (by omega) hH ?_
    case hyr5_11 => (intro w' hSw; replace hSw := S2o0 hSw; (try dsimp only at hSw); have q0 := hSw.1; have q1 := hSw.2.1; have q2 := hSw.2.2.1; have q3 := hSw.2.2.2.1; have q4 := hSw.2.2.2.2.1; have q5 := hSw.2.2.2.2.2.1; have q6 := hSw.2.2.2.2.2.2.1; have q7 := hSw.2.2.2.2.2.2.2; go_simp; try (with_reducible rfl))
    simp only [List.set_cons_zero, List.set_cons_succ]
    refine U_take 11 43 19 0 0 (v := ?vr5_12) rfl (by kernel_rfl) (by kernel_rfl) hWr5 (by kernel_rfl) (by kernel_rfl) (by kernel_rfl) (by kernel_rfl) (by kernel_rfl) (by kernel_rfl) (fun _ _ _ _ h => h) (by kernel_rfl) ?hyr5_12 (by omega) hH ?_
    case hyr5_12 => (intro w' hSw; clear hSw; go_simp; try (with_reducible rfl))
    simp only [List.set_cons_zero, List.set_cons_succ]
    refine U_take 12 44 18 0 0 (v := ?vr5_13) rfl (by kernel_rfl) (by kernel_rfl) hWr5 (by kernel_rfl) (by kernel_rfl) (by kernel_rfl) (by kernel_rfl) (by kernel_rfl) (by kernel_rfl) (fun _ _ _ _ h => h) (by kernel_rfl) ?hyr5_13 (by omega) hH ?_
    case hyr5_13 => (intro w' hSw; clear hSw; go_simp; try (with_reducible rfl))
    simp only [List.set_cons_zero, List.set_cons_succ]
    refine U_take 13 45 17 0 0 (v := ?vr5_14) rfl (by kernel_rfl) (by kernel_rfl) hWr5 (by kernel_rfl) (by kernel_rfl) (by kernel_rfl) (by kernel_rfl) (by kernel_rfl) (by kernel_rfl) (fun _ _ _ _ h => h) (by kernel_rfl) ?hyr5_14 (by omega) hH ?_
    case hyr5_14 => (intro w' hSw; clear hSw; go_simp; try (with_reducible rfl))
    simp only [List.set_cons_zero, List.set_cons_succ]
    refine U_take 14 46 16 0 0 (v := ?vr5_15) rfl (by kernel_rfl) (by kernel_rfl) hWr5 (by kernel_rfl) (by kernel_rfl) (by kernel_rfl) (by kernel_rfl) (by kernel_rfl) (by kernel_rfl) (fun _ _ _ _ h => h) (by kernel_rfl) ?hyr5_15 (by omega) hH ?_
    case hyr5_15 => (intro w' hSw; clear hSw; go_simp; try (with_reducible rfl))
    simp only [List.set_cons_zero, List.set_cons_succ]
    refine U_skips (by kernel_rfl) (fun _ _ _ _ h => h) hWr5 0 0 (by omega) hH [(15, 47), (16, 48), (17, 49), (18, 50), (19, 51), (20, 52), (21, 53), (22, 54), (23, 55), (24, 56), (25, 57), (26, 58), (27, 59), (28, 60), (29, 61)] 1 _ _ _ (by kernel_rfl) (by kernel_rfl) ?_
    simp only [tsetUndef, List.set_cons_zero, List.set_cons_succ]
    refine U_take 30 62 0 0 0 (v := ?vr5_16) rfl (by kernel_rfl) (by kernel_rfl) hWr5 (by kernel_rfl) (by kernel_rfl) (by kernel_rfl) (by kernel_rfl) (by kernel_rfl) (by kernel_rfl) (fun _ _ _ _ h => h) (by kernel_rfl) ?hyr5_16 (by omega) hH ?_
    case hyr5_16 => (intro w' hSw; clear hSw; go_simp; try (with_reducible rfl))
    simp only [List.set_cons_zero, List.set_cons_succ]
    refine wpAnyU_done (by kernel_rfl) ?_ _ _
    refine NoPanic.normal ?_
    clear hWr5
    replace hH := S2o0 hH
    (try dsimp only at hH)
    have q0 := hH.1
    have q1 := hH.2.1
    have q2 := hH.2.2.1
    have q3 := hH.2.2.2.1
    have q4 := hH.2.2.2.2.1
    have q5 := hH.2.2.2.2.2.1
    have q6 := hH.2.2.2.2.2.2.1
    have q7 := hH.2.2.2.2.2.2.2
    clear k1 k2 k3
    clear hH q0 q1
    try clear hb
    go_wp2_with fail
    refine (HTW.out _ q7).mono ?_
    rintro e w6 ⟨rfl, hb6⟩
    replace q2 := keepCell hb6 q2
    replace q3 := keepCell hb6 q3
    replace q4 := keepCell hb6 q4
    replace q5 := keepCell hb6 q5
    replace q6 := keepCell hb6 q6
    replace q7 := keepBelow hb6 q7
    clear hb6
    clear HTW v0 v1 a0 a1 a2 t0 t1 hB
    by_cases hE : E = 0
    · subst hE
      have HM' := hid (HMT.out rfl)
      have HN' := hid (HNM.out rfl)
      have HO' := hid (HOU.out rfl)
      have l8 := HL8.out rfl
      clear HL8
      clear HMT HNM HOU
      go_wp2_with fail
      refine (HM'.out _ q7).mono ?_
      rintro e w7 ⟨rfl, hb7⟩
      replace q2 := keepCell hb7 q2
      replace q3 := keepCell hb7 q3
      replace q4 := keepCell hb7 q4
      replace q5 := keepCell hb7 q5
      replace q6 := keepCell hb7 q6
      replace q7 := keepBelow hb7 q7
      clear hb7
      clear HM'
      cases mt with
      | false =>
        obtain ⟨rfl, rfl, rfl, rfl, rfl⟩ := HNO2.out rfl
        clear HNO2 HN' HO' HRL HWY HE0
        go_wp2
        go_returns
        exact ret_bool rfl q7
      | true =>
        clear HNO2 HE0
        go_wp2
        go_loopw [101] (fun j wr => ∃ k : Nat, k ≤ l.length ∧ j = .int .i64 k ∧ Below w.heap.size w wr ∧ Below w7.heap.size w7 wr) (fun j _ => l.length - (intOf j).toNat)
        case atStart => exact ⟨0, Nat.zero_le _, rfl, q7, Below.refl _ _⟩
        case round =>
          clear q7
          obtain ⟨k, hk, rfl, hB8, hB9⟩ := hrel
          obtain ⟨wo, rfl⟩ : ∃ wo : World, wo = wr := ⟨_, rfl⟩
          by_cases hlt : k < l.length
          · have hlt' : (k : Int) < (l.length : Int) := by omega
            have HN2 := hid (fun w' (h : Below w.heap.size w w') => HN'.out w' h k hlt)
            have HO2 := hid (fun w' (h : Below w.heap.size w w') => HO'.out w' h k hlt)
            generalize nrmX l k = nx at *
            generalize nrmY l k = ny at *
            clear HN' HO' HRL HWY q2 q3 q4 q5 q6
            go_wp2_with fail
            refine (HN2.out _ hB8).mono ?_
            rintro e w8 ⟨rfl, hb8⟩
            replace hB8 := keepBelow hb8 hB8
            replace hB9 := keepBelow hb8 hB9
            clear hb8 HN2
            go_wp2_with fail
            refine (HO2.out _ hB8).mono ?_
            rintro e w9 ⟨rfl, hb9⟩
            replace hB8 := keepBelow hb9 hB8
            replace hB9 := keepBelow hb9 hB9
            clear hb9 HO2
            go_wp2
            go_roundw
            case rel => exact ⟨k + 1, hlt, by go_num, hB8, hB9⟩
            case measure => simp [intOf]; omega
          · have hge : l.length ≤ k := by omega
            replace q2 := keepCell hB9 q2
            replace q3 := keepCell hB9 q3
            replace q4 := keepCell hB9 q4
            replace q5 := keepCell hB9 q5
            replace q6 := keepCell hB9 q6
            clear HN' HO' hlt hB9
            go_wp2_with fail
            refine (HRL.out (by simp) _ hB8).mono ?_
            rintro e w8 ⟨rfl, hb8⟩
            replace q2 := keepCell hb8 q2
            replace q3 := keepCell hb8 q3
            replace q4 := keepCell hb8 q4
            replace q5 := keepCell hb8 q5
            replace q6 := keepCell hb8 q6
            replace hB8 := keepBelow hb8 hB8
            clear hb8 HRL
            obtain ⟨g15, hg15⟩ : ∃ g, g = w8.heap.size := ⟨_, rfl⟩
            obtain ⟨w9, hw9⟩ : ∃ w9, w9 = w8.alloc (.cells #[.bool s, .int .i64 ei, .int .i64 d] 38) := ⟨_, rfl⟩
            have up : ∀ b o v, w8.cell? ⟨b, o, none⟩ = some v → w9.cell? ⟨b, o, none⟩ = some v := fun b o v h => by rw [hw9]; exact keepCell ((Below.refl _ _).alloc (Nat.le_refl _) _) h
            have c0 : w9.cell? ⟨g15, 0, none⟩ = some (.bool s) := by rw [hw9, hg15]; go_simp
            have c1 : w9.cell? ⟨g15, 1, none⟩ = some (.int .i64 ei) := by rw [hw9, hg15]; go_simp
            have c2 : w9.cell? ⟨g15, 2, none⟩ = some (.int .i64 d) := by rw [hw9, hg15]; go_simp
            replace q2 := up _ _ _ q2
            replace q3 := up _ _ _ q3
            replace q4 := up _ _ _ q4
            replace q5 := up _ _ _ q5
            replace q6 := up _ _ _ q6
            replace hB8 : Below w.heap.size w w9 := by rw [hw9]; exact hB8.alloc hB8.size _
            clear up
            go_upto_region 17 with fail
            rw [← hw9, ← hg15]
            clear hw9 hg15
            refine wp_region_noPanic ?_
            refine wp_region_U (S := (S2 (fun w' => w'.cell? ⟨g7, 0, none⟩ = some (.bool s) ∧ w'.cell? ⟨g7, 1, none⟩ = some (.int .i64 ei) ∧ w'.cell? ⟨g7, 2, none⟩ = some (.int .i64 d) ∧ w'.cell? ⟨g12, 0, none⟩ = some (.int .i64 tx) ∧ w'.cell? ⟨g12, 1, none⟩ = some (.int .i64 ty) ∧ w'.cell? ⟨g15, 0, none⟩ = some (.bool s) ∧ w'.cell? ⟨g15, 1, none⟩ = some (.int .i64 ei) ∧ w'.cell? ⟨g15, 2, none⟩ = some (.int .i64 d) ∧ Below w.heap.size w w'))) (T := (fun _ => 0)) (by kernel_rfl) (S2i0 ⟨q2, q3, q4, q5, q6, c0, c1, c2, hB8.drew⟩) (fun hH => ?_)
            have hWr6 : Weaker (S2 (fun w' => w'.cell? ⟨g7, 0, none⟩ = some (.bool s) ∧ w'.cell? ⟨g7, 1, none⟩ = some (.int .i64 ei) ∧ w'.cell? ⟨g7, 2, none⟩ = some (.int .i64 d) ∧ w'.cell? ⟨g12, 0, none⟩ = some (.int .i64 tx) ∧ w'.cell? ⟨g12, 1, none⟩ = some (.int .i64 ty) ∧ w'.cell? ⟨g15, 0, none⟩ = some (.bool s) ∧ w'.cell? ⟨g15, 1, none⟩ = some (.int .i64 ei) ∧ w'.cell? ⟨g15, 2, none⟩ = some (.int .i64 d) ∧ Below w.heap.size w w')) := weaker2 _
            refine U_take 0 115 27 0 0 (v := ?vr6_1) rfl (by kernel_rfl) (by kernel_rfl) hWr6 (by kernel_rfl) (by kernel_rfl) (by kernel_rfl) (by kernel_rfl) (by kernel_rfl) (by kernel_rfl) (fun _ _ _ _ h => h) (by kernel_rfl) ?hyr6_1 (by omega) hH ?_
            case hyr6_1 => (intro w' hSw; clear hSw; go_simp; try (with_reducible rfl))
            simp only [List.set_cons_zero, List.set_cons_succ]
            refine U_take 1 116 26 0 0 (v := ?vr6_2) rfl (by kernel_rfl) (by kernel_rfl) hWr6 (by kernel_rfl) (by kernel_rfl) (by kernel_rfl) (by kernel_rfl) (by kernel_rfl) (by kernel_rfl) (fun _ _ _ _ h => h) (by kernel_rfl) ?hyr6_2 (by omega) hH ?_
            case hyr6_2 => (intro w' hSw; clear hSw; go_simp; try (with_reducible rfl))
            simp only [List.set_cons_zero, List.set_cons_succ]
            refine U_take 2 117 25 0 0 (v := ?vr6_3) rfl (by kernel_rfl) (by kernel_rfl) hWr6 (by kernel_rfl) (by kernel_rfl) (by kernel_rfl) (by kernel_rfl) (by kernel_rfl) (by kernel_rfl) (fun _ _ _ _ h => h) (by kernel_rfl) ?hyr6_3 (by omega) hH ?_
            case hyr6_3 => (intro w' hSw; clear hSw; go_simp; try (with_reducible rfl))
            simp only [List.set_cons_zero, List.set_cons_succ]
            refine U_take 3 118 24 0 0 (v := ?vr6_4) rfl (by kernel_rfl) (by kernel_rfl) hWr6 (by kernel_rfl) (by kernel_rfl) (by kernel_rfl) (by kernel_rfl) (by kernel_rfl) (by kernel_rfl) (fun _ _ _ _ h => h) (by kernel_rfl) ?hyr6_4 (by omega) hH ?_
            case hyr6_4 => (intro w' hSw; clear hSw; go_simp; try (with_reducible rfl))
            simp only [List.set_cons_zero, List.set_cons_succ]
            refine U_take 4 119 23 0 0 (v := ?vr6_5) rfl (by kernel_rfl) (by kernel_rfl) hWr6 (by kernel_rfl) (by kernel_rfl) (by kernel_rfl) (by kernel_rfl) (by kernel_rfl) (by kernel_rfl) (fun _ _ _ _ h => h) (by kernel_rfl) ?hyr6_5 (by omega) hH ?_
            case hyr6_5 => (intro w' hSw; clear hSw; go_simp; try (with_reducible rfl))
            simp only [List.set_cons_zero, List.set_cons_succ]
            refine U_take 5 120 22 0 0 (v := ?vr6_6) rfl (by kernel_rfl) (by kernel_rfl) hWr6 (by kernel_rfl) (by kernel_rfl) (by kernel_rfl) (by kernel_rfl) (by kernel_rfl) (by kernel_rfl) (fun _ _ _ _ h => h) (by kernel_rfl) ?hyr6_6 (by omega) hH ?_
            case hyr6_6 => (intro w' hSw; clear hSw; go_simp; try (with_reducible rfl))
            simp only [List.set_cons_zero, List.set_cons_succ]
            refine U_take 6 121 21 0 0 (v := ?vr6_7) rfl (by kernel_rfl) (by kernel_rfl) hWr6 (by kernel_rfl) (by kernel_rfl) (by kernel_rfl) (by kernel_rfl) (by kernel_rfl) (by kernel_rfl) (fun _ _ _ _ h => h) (by kernel_rfl) ?hyr6_7 (by omega) hH ?_
            case hyr6_7 => (intro w' hSw; replace hSw := S2o0 hSw; (try dsimp only at hSw); have q0 := hSw.1; have q1 := hSw.2.1; have q2 := hSw.2.2.1; have q3 := hSw.2.2.2.1; have q4 := hSw.2.2.2.2.1; have q5 := hSw.2.2.2.2.2.1; have q6 := hSw.2.2.2.2.2.2.1; have q7 := hSw.2.2.2.2.2.2.2.1; have q8 := hSw.2.2.2.2.2.2.2.2; go_simp; try (with_reducible rfl))
            simp only [List.set_cons_zero, List.set_cons_succ]
            refine U_take 7 122 20 0 0 (v := ?vr6_8) rfl (by kernel_rfl) (by kernel_rfl) hWr6 (by kernel_rfl) (by kernel_rfl) (by kernel_rfl) (by kernel_rfl) (by kernel_rfl) (by kernel_rfl) (fun _ _ _ _ h => h) (by kernel_rfl) ?hyr6_8 (by omega) hH ?_
            case hyr6_8 => (intro w' hSw; replace hSw := S2o0 hSw; (try dsimp only at hSw); have q0 := hSw.1; have q1 := hSw.2.1; have q2 := hSw.2.2.1; have q3 := hSw.2.2.2.1; have q4 := hSw.2.2.2.2.1; have q5 := hSw.2.2.2.2.2.1; have q6 := hSw.2.2.2.2.2.2.1; have q7 := hSw.2.2.2.2.2.2.2.1; have q8 := hSw.2.2.2.2.2.2.2.2; go_simp; try (with_reducible rfl))
            simp only [List.set_cons_zero, List.set_cons_succ]
            refine U_take 8 123 19 0 0 (v := ?vr6_9) rfl (by kernel_rfl) (by kernel_rfl) hWr6 (by kernel_rfl) (by kernel_rfl) (by kernel_rfl) (by kernel_rfl) (by kernel_rfl) (by kernel_rfl) (fun _ _ _ _ h => h) (by kernel_rfl) ?hyr6_9 (by omega) hH ?_
            case hyr6_9 => (intro w' hSw; clear hSw; go_simp; try (with_reducible rfl))
            simp only [List.set_cons_zero, List.set_cons_succ]
            refine U_take 9 124 18 0 0 (v := ?vr6_10) rfl (by kernel_rfl) (by kernel_rfl) hWr6 (by kernel_rfl) (by kernel_rfl) (by kernel_rfl) (by kernel_rfl) (by kernel_rfl) (by kernel_rfl) (fun _ _ _ _ h => h) (by kernel_rfl) ?hyr6_10 (by omega) hH ?_
            case hyr6_10 => (intro w' hSw; clear hSw; go_simp; try (with_reducible rfl))
            simp only [List.set_cons_zero, List.set_cons_succ]
            refine U_take 10 125 17 0 0 (v := ?vr6_11) rfl (by kernel_rfl) (by kernel_rfl) hWr6 (by kernel_rfl) (by kernel_rfl) (by kernel_rfl) (by kernel_rfl) (by kernel_rfl) (by kernel_rfl) (fun _ _ _ _ h => h) (by kernel_rfl) ?hyr6_11 (by omega) hH ?_
            case hyr6_11 => (intro w' hSw; clear hSw; go_simp; try (with_reducible rfl))
            simp only [List.set_cons_zero, List.set_cons_succ]
            refine U_take 11 126 16 0 0 (v := ?vr6_12) rfl (by kernel_rfl) (by kernel_rfl) hWr6 (by kernel_rfl) (by kernel_rfl) (by kernel_rfl) (by kernel_rfl) (by kernel_rfl) (by kernel_rfl) (fun _ _ _ _ h => h) (by kernel_rfl) ?hyr6_12 (by omega) hH ?_
            case hyr6_12 => (intro w' hSw; clear hSw; go_simp; try (with_reducible rfl))
            simp only [List.set_cons_zero, List.set_cons_succ]
            refine U_take 12 127 15 0 0 (v := ?vr6_13) rfl (by kernel_rfl) (by kernel_rfl) hWr6 (by kernel_rfl) (by kernel_rfl) (by kernel_rfl) (by kernel_rfl) (by kernel_rfl) (by kernel_rfl) (fun _ _ _ _ h => h) (by kernel_rfl) ?hyr6_13 (by omega) hH ?_
            case hyr6_13 => (intro w' hSw; clear hSw; go_simp; try (with_reducible rfl))
            simp only [List.set_cons_zero, List.set_cons_succ]
            refine U_take 13 128 14 0 0 (v := ?vr6_14) rfl (by kernel_rfl) (by kernel_rfl) hWr6 (by kernel_rfl) (by kernel_rfl) (by kernel_rfl) (by kernel_rfl) (by kernel_rfl) (by kernel_rfl) (fun _ _ _ _ h => h) (by kernel_rfl) ?hyr6_14 (by omega) hH ?_
            case hyr6_14 => (intro w' hSw; clear hSw; go_simp; try (with_reducible rfl))
            simp only [List.set_cons_zero, List.set_cons_succ]
            refine U_take 14 129 13 0 0 (v := ?vr6_15) rfl (by kernel_rfl) (by kernel_rfl) hWr6 (by kernel_rfl) (by kernel_rfl) (by kernel_rfl) (by kernel_rfl) (by kernel_rfl) (by kernel_rfl) (fun _ _ _ _ h => h) (by kernel_rfl) ?hyr6_15 (by omega) hH ?_
            case hyr6_15 => (intro w' hSw; clear hSw; go_simp; try (with_reducible rfl))
            simp only [List.set_cons_zero, List.set_cons_succ]
            refine U_take 15 130 12 0 0 (v := ?vr6_16) rfl (by kernel_rfl) (by kernel_rfl) hWr6 (by kernel_rfl) (by kernel_rfl) (by kernel_rfl) (by kernel_rfl) (by kernel_rfl) (by kernel_rfl) (fun _ _ _ _ h => h) (by kernel_rfl) ?hyr6_16 (by omega) hH ?_
            case hyr6_16 => (intro w' hSw; clear hSw; go_simp; try (with_reducible rfl))
            simp only [List.set_cons_zero, List.set_cons_succ]
            refine U_take 16 131 11 0 0 (v := ?vr6_17) rfl (by kernel_rfl) (by kernel_rfl) hWr6 (by kernel_rfl) (by kernel_rfl) (by kernel_rfl) (by kernel_rfl) (by kernel_rfl) (by kernel_rfl) (fun _ _ _ _ h => h) (by kernel_rfl) ?hyr6_17 (by omega) hH ?_
            case hyr6_17 => (intro w' hSw; replace hSw := S2o0 hSw; (try dsimp only at hSw); have q0 := hSw.1; have q1 := hSw.2.1; have q2 := hSw.2.2.1; have q3 := hSw.2.2.2.1; have q4 := hSw.2.2.2.2.1; have q5 := hSw.2.2.2.2.2.1; have q6 := hSw.2.2.2.2.2.2.1; have q7 := hSw.2.2.2.2.2.2.2.1; have q8 := hSw.2.2.2.2.2.2.2.2; go_simp; try (with_reducible rfl))
            simp only [List.set_cons_zero, List.set_cons_succ]
            refine U_take 17 132 10 0 0 (v := ?vr6_18) rfl (by kernel_rfl) (by kernel_rfl) hWr6 (by kernel_rfl) (by kernel_rfl) (by kernel_rfl) (by kernel_rfl) (by kernel_rfl) (by kernel_rfl) (fun _ _ _ _ h => h) (by kernel_rfl) ?hyr6_18 (by omega) hH ?_
            case hyr6_18 => (intro w' hSw; clear hSw; go_simp; try (with_reducible rfl))
            simp only [List.set_cons_zero, List.set_cons_succ]
            refine U_take 18 133 9 0 0 (v := ?vr6_19) rfl (by kernel_rfl) (by kernel_rfl) hWr6 (by kernel_rfl) (by kernel_rfl) (by kernel_rfl) (by kernel_rfl) (by kernel_rfl) (by kernel_rfl) (fun _ _ _ _ h => h) (by kernel_rfl) ?hyr6_19 (by omega) hH ?_
            case hyr6_19 => (intro w' hSw; clear hSw; go_simp; try (with_reducible rfl))
            simp only [List.set_cons_zero, List.set_cons_succ]
            refine U_take 19 134 8 0 0 (v := ?vr6_20) rfl (by kernel_rfl) (by kernel_rfl) hWr6 (by kernel_rfl) (by kernel_rfl) (by kernel_rfl) (by kernel_rfl) (by kernel_rfl) (by kernel_rfl) (fun _ _ _ _ h => h) (by kernel_rfl) ?hyr6_20 (by omega) hH ?_
            case hyr6_20 => (intro w' hSw; clear hSw; go_simp; try (with_reducible rfl))
            simp only [List.set_cons_zero, List.set_cons_succ]
            refine U_take 20 135 7 0 0 (v := ?vr6_21) rfl (by kernel_rfl) (by kernel_rfl) hWr6 (by kernel_rfl) (by kernel_rfl) (by kernel_rfl) (by kernel_rfl) (by kernel_rfl) (by kernel_rfl) (fun _ _ _ _ h => h) (by kernel_rfl) ?hyr6_21 (by omega) hH ?_
            case hyr6_21 => (intro w' hSw; replace hSw := S2o0 hSw; (try dsimp only at hSw); have q0 := hSw.1; have q1 := hSw.2.1; have q2 := hSw.2.2.1; have q3 := hSw.2.2.2.1; have q4 := hSw.2.2.2.2.1; have q5 := hSw.2.2.2.2.2.1; have q6 := hSw.2.2.2.2.2.2.1; have q7 := hSw.2.2.2.2.2.2.2.1; have q8 := hSw.2.2.2.2.2.2.2.2; go_simp; try (with_reducible rfl))
            simp only [List.set_cons_zero, List.set_cons_succ]
            refine U_take 21 136 6 0 0 (v := ?vr6_22) rfl (by kernel_rfl) (by kernel_rfl) hWr6 (by kernel_rfl) (by kernel_rfl) (by kernel_rfl) (by kernel_rfl) (by kernel_rfl) (by kernel_rfl) (fun _ _ _ _ h => h) (by kernel_rfl) ?hyr6_22 (by omega) hH ?_
            case hyr6_22 => (intro w' hSw; clear hSw; go_simp; try (with_reducible rfl))
            simp only [List.set_cons_zero, List.set_cons_succ]
            refine U_take 22 137 5 0 0 (v := ?vr6_23) rfl (by kernel_rfl) (by kernel_rfl) hWr6 (by kernel_rfl) (by kernel_rfl) (by kernel_rfl) (by kernel_rfl) (by kernel_rfl) (by kernel_rfl) (fun _ _ _ _ h => h) (by kernel_rfl) ?hyr6_23 (by omega) hH ?_
            case hyr6_23 => (intro w' hSw; clear hSw; go_simp; try (with_reducible rfl))
            simp only [List.set_cons_zero, List.set_cons_succ]
            refine U_take 23 138 4 0 0 (v := ?vr6_24) rfl (by kernel_rfl) (by kernel_rfl) hWr6 (by kernel_rfl) (by kernel_rfl) (by kernel_rfl) (by kernel_rfl) (by kernel_rfl) (by kernel_rfl) (fun _ _ _ _ h => h) (by kernel_rfl) ?hyr6_24 (by omega) hH ?_
            case hyr6_24 => (intro w' hSw; replace hSw := S2o0 hSw; (try dsimp only at hSw); have q0 := hSw.1; have q1 := hSw.2.1; have q2 := hSw.2.2.1; have q3 := hSw.2.2.2.1; have q4 := hSw.2.2.2.2.1; have q5 := hSw.2.2.2.2.2.1; have q6 := hSw.2.2.2.2.2.2.1; have q7 := hSw.2.2.2.2.2.2.2.1; have q8 := hSw.2.2.2.2.2.2.2.2; go_simp; try (with_reducible rfl))
            simp only [List.set_cons_zero, List.set_cons_succ]
            refine wpAnyU_ready (rs := [24]) (by kernel_rfl) (by simp) ?_
            refine AllReadyU.cons 0 (by kernel_rfl) (o := _) rfl (fun K hK => ?_) AllReadyU.nil
            try clear hb
            have hG := hH
            replace hG := S2o0 hG; (try dsimp only at hG); have p0 := hG.1; have p1 := hG.2.1; have p2 := hG.2.2.1; have p3 := hG.2.2.2.1; have p4 := hG.2.2.2.2.1; have p5 := hG.2.2.2.2.2.1; have p6 := hG.2.2.2.2.2.2.1; have p7 := hG.2.2.2.2.2.2.2.1; have p8 := hG.2.2.2.2.2.2.2.2
            go_simp
            (go_at_call 32; refine (HWY.out (by simp) _ p8).mono ?_; rintro e wn ⟨rfl, hb⟩)
            refine hK.out _ _ ?hsr6_25 (fun hH2 => ?hrr6_25)
            case hsr6_25 => exact S2i0 (by have hG := hH; replace hG := S2o0 hG; (try dsimp only at hG); have q0 := hG.1; have q1 := hG.2.1; have q2 := hG.2.2.1; have q3 := hG.2.2.2.1; have q4 := hG.2.2.2.2.1; have q5 := hG.2.2.2.2.2.1; have q6 := hG.2.2.2.2.2.2.1; have q7 := hG.2.2.2.2.2.2.2.1; have q8 := hG.2.2.2.2.2.2.2.2; exact ⟨keepCell hb q0, keepCell hb q1, keepCell hb q2, keepCell hb q3, keepCell hb q4, keepCell hb q5, keepCell hb q6, keepCell hb q7, keepBelow hb q8⟩)
            clear hK K hH
            have hH := hH2
            clear hH2
            try simp only [Act.put, List.setIfInBounds_toArray, List.set_cons_zero, List.set_cons_succ]
            refine U_take 25 140 2 0 0 (v := ?vr6_26) rfl (by kernel_rfl) (by kernel_rfl) hWr6 (by kernel_rfl) (by kernel_rfl) (by kernel_rfl) (by kernel_rfl) (by kernel_rfl) (by kernel_rfl) (fun _ _ _ _ h => h) (by kernel_rfl) ?hyr6_26 (by omega) hH ?_
            case hyr6_26 => (intro w' hSw; clear hSw; go_simp; try (with_reducible rfl))
            simp only [List.set_cons_zero, List.set_cons_succ]
            refine U_take 26 141 1 0 0 (v := ?vr6_27) rfl (by kernel_rfl) (by kernel_rfl) hWr6 (by kernel_rfl) (by kernel_rfl) (by kernel_rfl) (by kernel_rfl) (by kernel_rfl) (by kernel_rfl) (fun _ _ _ _ h => h) (by kernel_rfl) ?hyr6_27 (by omega) hH ?_
            case hyr6_27 => (intro w' hSw; clear hSw; go_simp; try (with_reducible rfl))
            simp only [List.set_cons_zero, List.set_cons_succ]
            refine U_take 27 6 0 0 0 (v := ?vr6_28) rfl (by kernel_rfl) (by kernel_rfl) hWr6 (by kernel_rfl) (by kernel_rfl) (by kernel_rfl) (by kernel_rfl) (by kernel_rfl) (by kernel_rfl) (fun _ _ _ _ h => h) (by kernel_rfl) ?hyr6_28 (by omega) hH ?_
            case hyr6_28 => (intro w' hSw; clear hSw; go_simp; try (with_reducible rfl))
            simp only [List.set_cons_zero, List.set_cons_succ]
            refine wpAnyU_done (by kernel_rfl) ?_ _ _
            refine NoPanic.normal ?_
            clear hWr6
            replace hH := S2o0 hH
            (try dsimp only at hH)
            have r0 := hH.1
            have r1 := hH.2.1
            have r2 := hH.2.2.1
            have r3 := hH.2.2.2.1
            have r4 := hH.2.2.2.2.1
            have r5 := hH.2.2.2.2.2.1
            have r6 := hH.2.2.2.2.2.2.1
            have r7 := hH.2.2.2.2.2.2.2.1
            have r8 := hH.2.2.2.2.2.2.2.2
            clear hH hb r0 r1 r2 r3 r4 r5 r6 r7 c0 c1 c2 q2 q3 q4 q5 q6 HWY
            go_wp2
            go_returns
            exact ret_bool rfl r8
    · have hm : mt = false := by
        cases mt with
        | false => rfl
        | true => exact absurd (HE0.out rfl) hE
      subst hm
      obtain ⟨rfl, rfl, rfl, rfl, rfl⟩ := HNO2.out rfl
      have hne : (E != 0) = true := by simp [hE]
      clear HNO2 HE0 HMT HNM HOU HRL HWY hE
      go_wp2
      go_returns
      exact ret_bool (by simp) q7

end Go.Proofs.Ytflmhlejgjdifaa
