/- The walk of SatSwapped. -/
import Derived.Test.YtflmhlejgjdifaaT1
import Derived.Test.YtflmhlejgjdifaaM18
namespace Go.Proofs.Ytflmhlejgjdifaa
set_option linter.unusedVariables false
set_option linter.unusedSimpArgs false
open Go.RowKit

set_option maxRecDepth 100000 in
set_option maxHeartbeats 4000000 in
theorem satSwapped_walk (A B : Option Addr) (n c n' c' : Nat) (r s : List Int) (x y : Int) (w : World) (hS : SlI w A n c r) (hM : SlI w B n' c' s) :
    Calls Try.prog 7 #[.slice A n c, .slice B n' c', .int .i64 x, .int .i64 y] w (Ret (.bool true) w) := by
  have HPR := hid (pair_calls A B n c n' c' r s x y w hS hM)
  obtain ⟨L, hL⟩ : ∃ L, L = polyL r := ⟨_, rfl⟩
  obtain ⟨M, hMM⟩ : ∃ M, M = movL (polyL s) (plc x) (plc y) := ⟨_, rfl⟩
  rw [← hL, ← hMM] at HPR
  have e1 := meetsB_swap L M
  have e2 := tstD_swap L M
  obtain ⟨mt, hmt⟩ : ∃ b, b = meetsB L M := ⟨_, rfl⟩
  obtain ⟨d, hd⟩ : ∃ b, b = tstD L M := ⟨_, rfl⟩
  obtain ⟨tx, htx⟩ : ∃ b, b = tstX L M := ⟨_, rfl⟩
  obtain ⟨ty, hty⟩ : ∃ b, b = tstY L M := ⟨_, rfl⟩
  obtain ⟨sx, hsx⟩ : ∃ b, b = tstX M L := ⟨_, rfl⟩
  obtain ⟨sy, hsy⟩ : ∃ b, b = tstY M L := ⟨_, rfl⟩
  have HT1 : Hid (∀ (w : World) (A B : Option Addr) (n c n' c' : Nat), Sl w A n c L → Sl w B n' c' M → Calls Try.prog 25 #[.slice A n c, .slice B n' c'] w (Ret (.tuple #[.bool mt, .int .i64 d, vecV tx ty]) w)) := fun w A B n c n' c' h1 h2 => by
    rw [hmt, hd, htx, hty]; exact test_calls A B n c n' c' L M w h1 h2
  have HT2 : Hid (∀ (w : World) (A B : Option Addr) (n c n' c' : Nat), Sl w A n c M → Sl w B n' c' L → Calls Try.prog 25 #[.slice A n c, .slice B n' c'] w (Ret (.tuple #[.bool mt, .int .i64 d, vecV sx sy]) w)) := fun w A B n c n' c' h1 h2 => by
    have := test_calls A B n c n' c' M L w h1 h2
    rwa [e1, e2, ← hmt, ← hd, ← hsx, ← hsy] at this
  have HLB : Hid (mt = true → (65534 ≤ clampF (lenZ (clampF tx) (clampF ty)) ∧ clampF (lenZ (clampF tx) (clampF ty)) ≤ 65538) ∧ (65534 ≤ clampF (lenZ (clampF sx) (clampF sy)) ∧ clampF (lenZ (clampF sx) (clampF sy)) ≤ 65538)) := fun h => by
    rw [htx, hty, hsx, hsy]
    exact ⟨tst_len (by rw [← hmt]; exact h), tst_len (by rw [e1, ← hmt]; exact h)⟩
  have HLN1 := hid (vlen_calls tx ty)
  have HLN2 := hid (vlen_calls sx sy)
  obtain ⟨n1, hn1⟩ : ∃ z, z = clampF (lenZ (clampF tx) (clampF ty)) := ⟨_, rfl⟩
  obtain ⟨n2, hn2⟩ : ∃ z, z = clampF (lenZ (clampF sx) (clampF sy)) := ⟨_, rfl⟩
  rw [← hn1] at HLB HLN1
  rw [← hn2] at HLB HLN2
  clear hL hMM e1 e2 hmt hd htx hty hsx hsy hS hM hn1 hn2
  go_enter Try.func7, Try.ntmps7
  go_wp2_with fail
  refine HPR.out.mono ?_
  rintro e w1 ⟨A1, c1, d1, B1, c2, d2, rfl, s1, t1, f1, f2, hb1⟩
  have HS1 := hid s1
  have HM1 := hid t1
  clear s1 t1 f1 f2 HPR
  go_wp2_with fail
  refine (HT1.out _ _ _ _ _ _ _ HS1.out HM1.out).mono ?_
  rintro e w2 ⟨rfl, hb2⟩
  have hB2 := keepBelow hb2 hb1
  obtain ⟨g13, hg13⟩ : ∃ g, g = w2.heap.size := ⟨_, rfl⟩
  obtain ⟨w3, hw3⟩ : ∃ w3, w3 = w2.alloc (.cells #[.int .i64 tx, .int .i64 ty] 34) := ⟨_, rfl⟩
  have HS2 := hid (show Sl w3 A1 c1 d1 L by rw [hw3]; exact (HS1.out.below hb2).alloc _)
  have HM2 := hid (show Sl w3 B1 c2 d2 M by rw [hw3]; exact (HM1.out.below hb2).alloc _)
  have r0 : w3.cell? ⟨g13, 0, none⟩ = some (.int .i64 tx) := by rw [hw3, hg13]; go_simp
  have r1 : w3.cell? ⟨g13, 1, none⟩ = some (.int .i64 ty) := by rw [hw3, hg13]; go_simp
  have hB3 : Below w.heap.size w w3 := by rw [hw3]; exact hB2.alloc hB2.size _
  clear HS1 HM1 hb1 hb2 hB2 HT1
  go_wp2_with fail
  rw [← hw3, ← hg13]
  clear hw3 hg13
  refine (HT2.out _ _ _ _ _ _ _ HM2.out HS2.out).mono ?_
  rintro e w4 ⟨rfl, hb4⟩
  have hB4 := keepBelow hb4 hB3
  replace r0 := keepCell hb4 r0
  replace r1 := keepCell hb4 r1
  obtain ⟨g16, hg16⟩ : ∃ g, g = w4.heap.size := ⟨_, rfl⟩
  obtain ⟨W, hW⟩ : ∃ W, W = w4.alloc (.cells #[.int .i64 sx, .int .i64 sy] 34) := ⟨_, rfl⟩
  have x0 : W.cell? ⟨g16, 0, none⟩ = some (.int .i64 sx) := by rw [hW, hg16]; go_simp
  have x1 : W.cell? ⟨g16, 1, none⟩ = some (.int .i64 sy) := by rw [hW, hg16]; go_simp
  have hB5 : Below w.heap.size w W := by rw [hW]; exact hB4.alloc hB4.size _
  replace r0 : W.cell? ⟨g13, 0, none⟩ = some (.int .i64 tx) := by rw [hW]; exact keepCell ((Below.refl _ _).alloc (Nat.le_refl _) _) r0
  replace r1 : W.cell? ⟨g13, 1, none⟩ = some (.int .i64 ty) := by rw [hW]; exact keepCell ((Below.refl _ _).alloc (Nat.le_refl _) _) r1
  clear HS2 HM2 hb4 hB4 hB3 HT2
  go_wp2_with fail
  rw [← hW, ← hg16]
  clear hW hg16
  refine (tests_calls _).mono ?_
  rintro e w6 ⟨rfl, hb6⟩
  replace r0 := keepCell hb6 r0
  replace r1 := keepCell hb6 r1
  replace x0 := keepCell hb6 x0
  replace x1 := keepCell hb6 x1
  have hB7 := keepBelow hb6 hB5
  clear hb6 hB5
  cases mt with
  | false =>
    clear HLB HLN1 HLN2
    go_upto_region 6 with fail
    refine wp_region_noPanic ?_
    refine wp_region_U (S := (S2 (fun w' => w'.cell? ⟨g13, 0, none⟩ = some (.int .i64 tx) ∧ w'.cell? ⟨g13, 1, none⟩ = some (.int .i64 ty) ∧ w'.cell? ⟨g16, 0, none⟩ = some (.int .i64 sx) ∧ w'.cell? ⟨g16, 1, none⟩ = some (.int .i64 sy) ∧ Below w.heap.size w w'))) (T := (fun _ => 0)) (by kernel_rfl) (S2i0 ⟨r0, r1, x0, x1, hB7.drew⟩) (fun hH => ?_)
    have hWr2 : Weaker (S2 (fun w' => w'.cell? ⟨g13, 0, none⟩ = some (.int .i64 tx) ∧ w'.cell? ⟨g13, 1, none⟩ = some (.int .i64 ty) ∧ w'.cell? ⟨g16, 0, none⟩ = some (.int .i64 sx) ∧ w'.cell? ⟨g16, 1, none⟩ = some (.int .i64 sy) ∧ Below w.heap.size w w')) := weaker2 _
    refine U_take 0 51 18 0 0 (v := ?vr2_1) rfl (by kernel_rfl) (by kernel_rfl) hWr2 (by kernel_rfl) (by kernel_rfl) (by kernel_rfl) (by kernel_rfl) (by kernel_rfl) (by kernel_rfl) (fun _ _ _ _ h => h) (by kernel_rfl) ?hyr2_1 (by omega) hH ?_
    case hyr2_1 => (intro w' hSw; clear hSw; go_simp; try (with_reducible rfl))
    simp only [List.set_cons_zero, List.set_cons_succ]
    refine U_take 1 52 17 0 0 (v := ?vr2_2) rfl (by kernel_rfl) (by kernel_rfl) hWr2 (by kernel_rfl) (by kernel_rfl) (by kernel_rfl) (by kernel_rfl) (by kernel_rfl) (by kernel_rfl) (fun _ _ _ _ h => h) (by kernel_rfl) ?hyr2_2 (by omega) hH ?_
    case hyr2_2 => (intro w' hSw; clear hSw; go_simp; try (with_reducible rfl))
    simp only [List.set_cons_zero, List.set_cons_succ]
    refine U_take 2 53 16 0 0 (v := ?vr2_3) rfl (by kernel_rfl) (by kernel_rfl) hWr2 (by kernel_rfl) (by kernel_rfl) (by kernel_rfl) (by kernel_rfl) (by kernel_rfl) (by kernel_rfl) (fun _ _ _ _ h => h) (by kernel_rfl) ?hyr2_3 (by omega) hH ?_
    case hyr2_3 => (intro w' hSw; clear hSw; go_simp; try (with_reducible rfl))
    simp only [List.set_cons_zero, List.set_cons_succ]
    refine U_skips (by kernel_rfl) (fun _ _ _ _ h => h) hWr2 0 0 (by omega) hH [(3, 54), (4, 55), (5, 56), (6, 57), (7, 58), (8, 59), (9, 60), (10, 61), (11, 62), (12, 63), (13, 64), (14, 65), (15, 66), (16, 67)] 2 _ _ _ (by kernel_rfl) (by kernel_rfl) ?_
    simp only [tsetUndef, List.set_cons_zero, List.set_cons_succ]
    refine U_take 17 68 1 0 0 (v := ?vr2_4) rfl (by kernel_rfl) (by kernel_rfl) hWr2 (by kernel_rfl) (by kernel_rfl) (by kernel_rfl) (by kernel_rfl) (by kernel_rfl) (by kernel_rfl) (fun _ _ _ _ h => h) (by kernel_rfl) ?hyr2_4 (by omega) hH ?_
    case hyr2_4 => (intro w' hSw; clear hSw; go_simp; try (with_reducible rfl))
    simp only [List.set_cons_zero, List.set_cons_succ]
    refine U_take 18 8 0 0 0 (v := ?vr2_5) rfl (by kernel_rfl) (by kernel_rfl) hWr2 (by kernel_rfl) (by kernel_rfl) (by kernel_rfl) (by kernel_rfl) (by kernel_rfl) (by kernel_rfl) (fun _ _ _ _ h => h) (by kernel_rfl) ?hyr2_5 (by omega) hH ?_
    case hyr2_5 => (intro w' hSw; clear hSw; go_simp; try (with_reducible rfl))
    simp only [List.set_cons_zero, List.set_cons_succ]
    refine wpAnyU_done (by kernel_rfl) ?_ _ _
    refine NoPanic.normal ?_
    clear hWr2
    replace hH := S2o0 hH
    (try dsimp only at hH)
    have q0 := hH.1
    have q1 := hH.2.1
    have q2 := hH.2.2.1
    have q3 := hH.2.2.2.1
    have q4 := hH.2.2.2.2
    go_wp2
    go_returns
    exact ret_bool rfl q4
  | true =>
    obtain ⟨⟨l1, l2⟩, l3, l4⟩ := HLB.out rfl
    have hm1 : max n1 n2 ≤ 65538 := by omega
    have hm2 : 65534 ≤ min n1 n2 := by omega
    clear HLB
    go_upto_region 6 with fail
    refine wp_region_noPanic ?_
    refine wp_region_U (S := (S2 (fun w' => w'.cell? ⟨g13, 0, none⟩ = some (.int .i64 tx) ∧ w'.cell? ⟨g13, 1, none⟩ = some (.int .i64 ty) ∧ w'.cell? ⟨g16, 0, none⟩ = some (.int .i64 sx) ∧ w'.cell? ⟨g16, 1, none⟩ = some (.int .i64 sy) ∧ Below w.heap.size w w'))) (T := (fun _ => 0)) (by kernel_rfl) (S2i0 ⟨r0, r1, x0, x1, hB7.drew⟩) (fun hH => ?_)
    have hWr1 : Weaker (S2 (fun w' => w'.cell? ⟨g13, 0, none⟩ = some (.int .i64 tx) ∧ w'.cell? ⟨g13, 1, none⟩ = some (.int .i64 ty) ∧ w'.cell? ⟨g16, 0, none⟩ = some (.int .i64 sx) ∧ w'.cell? ⟨g16, 1, none⟩ = some (.int .i64 sy) ∧ Below w.heap.size w w')) := weaker2 _
    refine U_take 0 51 18 0 0 (v := ?vr1_1) rfl (by kernel_rfl) (by kernel_rfl) hWr1 (by kernel_rfl) (by kernel_rfl) (by kernel_rfl) (by kernel_rfl) (by kernel_rfl) (by kernel_rfl) (fun _ _ _ _ h => h) (by kernel_rfl) ?hyr1_1 (by omega) hH ?_
    case hyr1_1 => (intro w' hSw; clear hSw; go_simp; try (with_reducible rfl))
    simp only [List.set_cons_zero, List.set_cons_succ]
    refine U_take 1 52 17 0 0 (v := ?vr1_2) rfl (by kernel_rfl) (by kernel_rfl) hWr1 (by kernel_rfl) (by kernel_rfl) (by kernel_rfl) (by kernel_rfl) (by kernel_rfl) (by kernel_rfl) (fun _ _ _ _ h => h) (by kernel_rfl) ?hyr1_2 (by omega) hH ?_
    case hyr1_2 => (intro w' hSw; clear hSw; go_simp; try (with_reducible rfl))
    simp only [List.set_cons_zero, List.set_cons_succ]
    refine U_take 2 53 16 0 0 (v := ?vr1_3) rfl (by kernel_rfl) (by kernel_rfl) hWr1 (by kernel_rfl) (by kernel_rfl) (by kernel_rfl) (by kernel_rfl) (by kernel_rfl) (by kernel_rfl) (fun _ _ _ _ h => h) (by kernel_rfl) ?hyr1_3 (by omega) hH ?_
    case hyr1_3 => (intro w' hSw; clear hSw; go_simp; try (with_reducible rfl))
    simp only [List.set_cons_zero, List.set_cons_succ]
    refine U_take 3 54 15 0 0 (v := ?vr1_4) rfl (by kernel_rfl) (by kernel_rfl) hWr1 (by kernel_rfl) (by kernel_rfl) (by kernel_rfl) (by kernel_rfl) (by kernel_rfl) (by kernel_rfl) (fun _ _ _ _ h => h) (by kernel_rfl) ?hyr1_4 (by omega) hH ?_
    case hyr1_4 => (intro w' hSw; replace hSw := S2o0 hSw; (try dsimp only at hSw); have q0 := hSw.1; have q1 := hSw.2.1; have q2 := hSw.2.2.1; have q3 := hSw.2.2.2.1; have q4 := hSw.2.2.2.2; go_simp; try (with_reducible rfl))
    simp only [List.set_cons_zero, List.set_cons_succ]
    refine U_take 5 56 14 0 0 (v := ?vr1_5) rfl (by kernel_rfl) (by kernel_rfl) hWr1 (by kernel_rfl) (by kernel_rfl) (by kernel_rfl) (by kernel_rfl) (by kernel_rfl) (by kernel_rfl) (fun _ _ _ _ h => h) (by kernel_rfl) ?hyr1_5 (by omega) hH ?_
    case hyr1_5 => (intro w' hSw; replace hSw := S2o0 hSw; (try dsimp only at hSw); have q0 := hSw.1; have q1 := hSw.2.1; have q2 := hSw.2.2.1; have q3 := hSw.2.2.2.1; have q4 := hSw.2.2.2.2; go_simp; try (with_reducible rfl))
    simp only [List.set_cons_zero, List.set_cons_succ]
    refine wpAnyU_ready (rs := [4]) (by kernel_rfl) (by simp) ?_
    refine AllReadyU.cons 0 (by kernel_rfl) (o := _) rfl (fun K hK => ?_) AllReadyU.nil
    try clear hb
    go_simp
    (go_at_call 43; refine (HLN1.out _).mono ?_; rintro e wn ⟨rfl, hb⟩)
    refine hK.out _ _ ?hsr1_6 (fun hH2 => ?hrr1_6)
    case hsr1_6 => exact S2i0 (by have hG := hH; replace hG := S2o0 hG; (try dsimp only at hG); have q0 := hG.1; have q1 := hG.2.1; have q2 := hG.2.2.1; have q3 := hG.2.2.2.1; have q4 := hG.2.2.2.2; exact ⟨keepCell hb q0, keepCell hb q1, keepCell hb q2, keepCell hb q3, keepBelow hb q4⟩)
    clear hK K hH
    have hH := hH2
    clear hH2
    try simp only [Act.put, List.setIfInBounds_toArray, List.set_cons_zero, List.set_cons_succ]
    refine wpAnyU_ready (rs := [6]) (by kernel_rfl) (by simp) ?_
    refine AllReadyU.cons 0 (by kernel_rfl) (o := _) rfl (fun K hK => ?_) AllReadyU.nil
    try clear hb
    go_simp
    (go_at_call 43; refine (HLN2.out _).mono ?_; rintro e wn ⟨rfl, hb⟩)
    refine hK.out _ _ ?hsr1_7 (fun hH2 => ?hrr1_7)
    case hsr1_7 => exact S2i0 (by have hG := hH; replace hG := S2o0 hG; (try dsimp only at hG); have q0 := hG.1; have q1 := hG.2.1; have q2 := hG.2.2.1; have q3 := hG.2.2.2.1; have q4 := hG.2.2.2.2; exact ⟨keepCell hb q0, keepCell hb q1, keepCell hb q2, keepCell hb q3, keepBelow hb q4⟩)
    clear hK K hH
    have hH := hH2
    clear hH2
    try simp only [Act.put, List.setIfInBounds_toArray, List.set_cons_zero, List.set_cons_succ]
    refine U_take 7 58 11 0 0 (v := ?vr1_8) rfl (by kernel_rfl) (by kernel_rfl) hWr1 (by kernel_rfl) (by kernel_rfl) (by kernel_rfl) (by kernel_rfl) (by kernel_rfl) (by kernel_rfl) (fun _ _ _ _ h => h) (by kernel_rfl) ?hyr1_8 (by omega) hH ?_
    case hyr1_8 => (intro w' hSw; clear hSw; go_simp; try (with_reducible rfl))
    simp only [List.set_cons_zero, List.set_cons_succ]
    refine U_take 8 59 10 0 0 (v := ?vr1_9) rfl (by kernel_rfl) (by kernel_rfl) hWr1 (by kernel_rfl) (by kernel_rfl) (by kernel_rfl) (by kernel_rfl) (by kernel_rfl) (by kernel_rfl) (fun _ _ _ _ h => h) (by kernel_rfl) ?hyr1_9 (by omega) hH ?_
    case hyr1_9 => (intro w' hSw; clear hSw; go_simp; try (with_reducible rfl))
    simp only [List.set_cons_zero, List.set_cons_succ]
    refine U_take 9 60 9 0 0 (v := ?vr1_10) rfl (by kernel_rfl) (by kernel_rfl) hWr1 (by kernel_rfl) (by kernel_rfl) (by kernel_rfl) (by kernel_rfl) (by kernel_rfl) (by kernel_rfl) (fun _ _ _ _ h => h) (by kernel_rfl) ?hyr1_10 (by omega) hH ?_
    case hyr1_10 => (intro w' hSw; clear hSw; go_simp; try (with_reducible rfl))
    simp only [List.set_cons_zero, List.set_cons_succ]
    refine U_take 10 61 8 0 0 (v := ?vr1_11) rfl (by kernel_rfl) (by kernel_rfl) hWr1 (by kernel_rfl) (by kernel_rfl) (by kernel_rfl) (by kernel_rfl) (by kernel_rfl) (by kernel_rfl) (fun _ _ _ _ h => h) (by kernel_rfl) ?hyr1_11 (by omega) hH ?_
    case hyr1_11 => (intro w' hSw; replace hSw := S2o0 hSw; (try dsimp only at hSw); have q0 := hSw.1; have q1 := hSw.2.1; have q2 := hSw.2.2.1; have q3 := hSw.2.2.2.1; have q4 := hSw.2.2.2.2; go_simp; try (with_reducible rfl))
    simp only [List.set_cons_zero, List.set_cons_succ]
    refine U_take 12 63 7 0 0 (v := ?vr1_12) rfl (by kernel_rfl) (by kernel_rfl) hWr1 (by kernel_rfl) (by kernel_rfl) (by kernel_rfl) (by kernel_rfl) (by kernel_rfl) (by kernel_rfl) (fun _ _ _ _ h => h) (by kernel_rfl) ?hyr1_12 (by omega) hH ?_
    case hyr1_12 => (intro w' hSw; replace hSw := S2o0 hSw; (try dsimp only at hSw); have q0 := hSw.1; have q1 := hSw.2.1; have q2 := hSw.2.2.1; have q3 := hSw.2.2.2.1; have q4 := hSw.2.2.2.2; go_simp; try (with_reducible rfl))
    simp only [List.set_cons_zero, List.set_cons_succ]
    refine wpAnyU_ready (rs := [11]) (by kernel_rfl) (by simp) ?_
    refine AllReadyU.cons 0 (by kernel_rfl) (o := _) rfl (fun K hK => ?_) AllReadyU.nil
    try clear hb
    go_simp
    (go_at_call 43; refine (HLN1.out _).mono ?_; rintro e wn ⟨rfl, hb⟩)
    refine hK.out _ _ ?hsr1_13 (fun hH2 => ?hrr1_13)
    case hsr1_13 => exact S2i0 (by have hG := hH; replace hG := S2o0 hG; (try dsimp only at hG); have q0 := hG.1; have q1 := hG.2.1; have q2 := hG.2.2.1; have q3 := hG.2.2.2.1; have q4 := hG.2.2.2.2; exact ⟨keepCell hb q0, keepCell hb q1, keepCell hb q2, keepCell hb q3, keepBelow hb q4⟩)
    clear hK K hH
    have hH := hH2
    clear hH2
    try simp only [Act.put, List.setIfInBounds_toArray, List.set_cons_zero, List.set_cons_succ]
    refine wpAnyU_ready (rs := [13]) (by kernel_rfl) (by simp) ?_
    refine AllReadyU.cons 0 (by kernel_rfl) (o := _) rfl (fun K hK => ?_) AllReadyU.nil
    try clear hb
    go_simp
    (go_at_call 43; refine (HLN2.out _).mono ?_; rintro e wn ⟨rfl, hb⟩)
    refine hK.out _ _ ?hsr1_14 (fun hH2 => ?hrr1_14)
    case hsr1_14 => exact S2i0 (by have hG := hH; replace hG := S2o0 hG; (try dsimp only at hG); have q0 := hG.1; have q1 := hG.2.1; have q2 := hG.2.2.1; have q3 := hG.2.2.2.1; have q4 := hG.2.2.2.2; exact ⟨keepCell hb q0, keepCell hb q1, keepCell hb q2, keepCell hb q3, keepBelow hb q4⟩)
    clear hK K hH
    have hH := hH2
    clear hH2
    try simp only [Act.put, List.setIfInBounds_toArray, List.set_cons_zero, List.set_cons_succ]
    refine U_take 14 65 4 0 0 (v := ?vr1_15) rfl (by kernel_rfl) (by kernel_rfl) hWr1 (by kernel_rfl) (by kernel_rfl) (by kernel_rfl) (by kernel_rfl) (by kernel_rfl) (by kernel_rfl) (fun _ _ _ _ h => h) (by kernel_rfl) ?hyr1_15 (by omega) hH ?_
    case hyr1_15 => (intro w' hSw; clear hSw; go_simp; try (with_reducible rfl))
    simp only [List.set_cons_zero, List.set_cons_succ]
    refine U_take 15 66 3 0 0 (v := ?vr1_16) rfl (by kernel_rfl) (by kernel_rfl) hWr1 (by kernel_rfl) (by kernel_rfl) (by kernel_rfl) (by kernel_rfl) (by kernel_rfl) (by kernel_rfl) (fun _ _ _ _ h => h) (by kernel_rfl) ?hyr1_16 (by omega) hH ?_
    case hyr1_16 => (intro w' hSw; clear hSw; go_simp; try (with_reducible rfl))
    simp only [List.set_cons_zero, List.set_cons_succ]
    refine U_take 16 67 2 0 0 (v := ?vr1_17) rfl (by kernel_rfl) (by kernel_rfl) hWr1 (by kernel_rfl) (by kernel_rfl) (by kernel_rfl) (by kernel_rfl) (by kernel_rfl) (by kernel_rfl) (fun _ _ _ _ h => h) (by kernel_rfl) ?hyr1_17 (by omega) hH ?_
    case hyr1_17 => (intro w' hSw; clear hSw; go_simp; try (with_reducible rfl))
    simp only [List.set_cons_zero, List.set_cons_succ]
    refine U_take 17 68 1 0 0 (v := ?vr1_18) rfl (by kernel_rfl) (by kernel_rfl) hWr1 (by kernel_rfl) (by kernel_rfl) (by kernel_rfl) (by kernel_rfl) (by kernel_rfl) (by kernel_rfl) (fun _ _ _ _ h => h) (by kernel_rfl) ?hyr1_18 (by omega) hH ?_
    case hyr1_18 => (intro w' hSw; clear hSw; go_simp; try (with_reducible rfl))
    simp only [List.set_cons_zero, List.set_cons_succ]
    refine U_take 18 8 0 0 0 (v := ?vr1_19) rfl (by kernel_rfl) (by kernel_rfl) hWr1 (by kernel_rfl) (by kernel_rfl) (by kernel_rfl) (by kernel_rfl) (by kernel_rfl) (by kernel_rfl) (fun _ _ _ _ h => h) (by kernel_rfl) ?hyr1_19 (by omega) hH ?_
    case hyr1_19 => (intro w' hSw; clear hSw; go_simp; try (with_reducible rfl))
    simp only [List.set_cons_zero, List.set_cons_succ]
    refine wpAnyU_done (by kernel_rfl) ?_ _ _
    refine NoPanic.normal ?_
    clear hWr1
    replace hH := S2o0 hH
    (try dsimp only at hH)
    have q0 := hH.1
    have q1 := hH.2.1
    have q2 := hH.2.2.1
    have q3 := hH.2.2.2.1
    have q4 := hH.2.2.2.2
    go_wp2
    go_returns
    exact ret_bool rfl q4

end Go.Proofs.Ytflmhlejgjdifaa
