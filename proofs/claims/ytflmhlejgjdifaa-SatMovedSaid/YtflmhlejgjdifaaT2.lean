/- The walk of SatMoved. -/
import Derived.Test.YtflmhlejgjdifaaT1
import Derived.Test.YtflmhlejgjdifaaM18
import Derived.Deep.DeepCutAuto
namespace Go.Proofs.Ytflmhlejgjdifaa
set_option linter.unusedVariables false
set_option linter.unusedSimpArgs false
open Go.RowKit

set_option maxRecDepth 100000 in
set_option maxHeartbeats 4000000 in
theorem satMoved_walk (A B : Option Addr) (n c n' c' : Nat) (r s : List Int) (x y x' y' : Int) (w : World) (hS : SlI w A n c r) (hM : SlI w B n' c' s) :
    Calls Try.prog 6 #[.slice A n c, .slice B n' c', .int .i64 x, .int .i64 y, .int .i64 x', .int .i64 y'] w (Ret (.bool true) w) := by
  have HPR := hid (pair_calls A B n c n' c' r s x y w hS hM)
  have mL := polyL_made r
  have mM := polyL_made s
  have bx := plc_bd x
  have by_ := plc_bd y
  have bu := plc_bd x'
  have bv := plc_bd y'
  obtain ⟨L, hL⟩ : ∃ L, L = polyL r := ⟨_, rfl⟩
  obtain ⟨M, hMM⟩ : ∃ M, M = movL (polyL s) (plc x) (plc y) := ⟨_, rfl⟩
  rw [← hL] at HPR mL
  rw [← hMM] at HPR
  have wL0 : allWithin 262144 L = true := made_within mL
  have wM0 : allWithin 1048576 M = true := by rw [hMM]; exact within_movL (n := 786432) (made_within mM) bx by_
  have cL := made_check mL
  have lL := made_len mL
  have lM : M.length ≤ 5 := by rw [hMM, movL_len]; exact (made_len mM).2
  have cM : checkE M = 0 := by rw [hMM]; exact checkE_movL (made_check mM) (by rw [← hMM]; exact within_le wM0 (by omega))
  have HPL : Hid (∀ w, Calls Try.prog 40 #[.int .i64 x', .int .i64 y'] w (Ret (vecV (plc x') (plc y')) w)) := fun w => place_calls x' y' w
  generalize plc x' = u at *
  generalize plc y' = v at *
  have e1 := meetsB_movL (u := u) (v := v) cL cM (within_le (within_movL (n := 786432) wL0 bu bv) (by omega)) (within_le (within_movL (n := 786432) wM0 bu bv) (by omega))
  obtain ⟨e2, e3, e4⟩ := tst_movL (u := u) (v := v) cL cM (within_le (within_movL (n := 786432) wL0 bu bv) (by omega)) (within_le (within_movL (n := 786432) wM0 bu bv) (by omega))
  obtain ⟨mt, hmt⟩ : ∃ b, b = meetsB L M := ⟨_, rfl⟩
  obtain ⟨d, hd⟩ : ∃ b, b = tstD L M := ⟨_, rfl⟩
  obtain ⟨tx, htx⟩ : ∃ b, b = tstX L M := ⟨_, rfl⟩
  obtain ⟨ty, hty⟩ : ∃ b, b = tstY L M := ⟨_, rfl⟩
  have HT1 : Hid (∀ (w : World) (A B : Option Addr) (n c n' c' : Nat), Sl w A n c L → Sl w B n' c' M → Calls Try.prog 25 #[.slice A n c, .slice B n' c'] w (Ret (.tuple #[.bool mt, .int .i64 d, vecV tx ty]) w)) := fun w A B n c n' c' h1 h2 => by
    rw [hmt, hd, htx, hty]; exact test_calls A B n c n' c' L M w h1 h2
  have HT2 : Hid (∀ (w : World) (A B : Option Addr) (n c n' c' : Nat), Sl w A n c (movL L u v) → Sl w B n' c' (movL M u v) → Calls Try.prog 25 #[.slice A n c, .slice B n' c'] w (Ret (.tuple #[.bool mt, .int .i64 d, vecV tx ty]) w)) := fun w A B n c n' c' h1 h2 => by
    have := test_calls A B n c n' c' (movL L u v) (movL M u v) w h1 h2
    rwa [e1, e2, e3, e4, ← hmt, ← hd, ← htx, ← hty] at this
  have HMV1 : Hid (∀ (w : World) (A : Option Addr) (n c : Nat), Sl w A n c L → Calls Try.prog 41 #[.slice A n c, vecV u v] w (RetVecs (movL L u v) w)) := fun w A n c h => moved_calls A n c L u v w h (by omega) (by omega) (by omega) (within_le wL0 (by omega))
  have HMV2 : Hid (∀ (w : World) (A : Option Addr) (n c : Nat), Sl w A n c M → Calls Try.prog 41 #[.slice A n c, vecV u v] w (RetVecs (movL M u v) w)) := fun w A n c h => moved_calls A n c M u v w h (by omega) (by omega) (by omega) (within_le wM0 (by omega))
  clear hL hMM mL mM bx by_ bu bv wL0 wM0 cL lL lM cM e1 e2 e3 e4 hmt hd htx hty hS hM
  go_enter Try.func6, Try.ntmps6
  go_wp2_with fail
  refine HPR.out.mono ?_
  rintro e w1 ⟨A1, n1, c1, B1, m1, d1, rfl, s1, t1, f1, f2, hb1⟩
  have HS1 := hid s1
  have HM1 := hid t1
  clear s1 t1 f1 f2 HPR
  go_wp2_with fail
  refine (HPL.out _).mono ?_
  rintro e w2 ⟨rfl, hb2⟩
  have hB2 := keepBelow hb2 hb1
  obtain ⟨g15, hg15⟩ : ∃ g, g = w2.heap.size := ⟨_, rfl⟩
  obtain ⟨w3, hw3⟩ : ∃ w3, w3 = w2.alloc (.cells #[.int .i64 u, .int .i64 v] 34) := ⟨_, rfl⟩
  have HS2 := hid (show Sl w3 A1 n1 c1 L by rw [hw3]; exact (HS1.out.below hb2).alloc _)
  have HM2 := hid (show Sl w3 B1 m1 d1 M by rw [hw3]; exact (HM1.out.below hb2).alloc _)
  have p0 : w3.cell? ⟨g15, 0, none⟩ = some (.int .i64 u) := by rw [hw3, hg15]; go_simp
  have p1 : w3.cell? ⟨g15, 1, none⟩ = some (.int .i64 v) := by rw [hw3, hg15]; go_simp
  have hB3 : Below w.heap.size w w3 := by rw [hw3]; exact hB2.alloc hB2.size _
  have hg1 : w.heap.size ≤ g15 := by rw [hg15]; exact hB2.size
  clear HS1 HM1 hb1 hb2 hB2 HPL
  go_wp2_with fail
  rw [← hw3, ← hg15]
  clear hw3 hg15
  refine (HT1.out _ _ _ _ _ _ _ HS2.out HM2.out).mono ?_
  rintro e w4 ⟨rfl, hb4⟩
  have hB4 := keepBelow hb4 hB3
  replace p0 := keepCell hb4 p0
  replace p1 := keepCell hb4 p1
  obtain ⟨g18, hg18⟩ : ∃ g, g = w4.heap.size := ⟨_, rfl⟩
  obtain ⟨W, hW⟩ : ∃ W, W = w4.alloc (.cells #[.int .i64 tx, .int .i64 ty] 34) := ⟨_, rfl⟩
  have HS3 := hid (show Sl W A1 n1 c1 L by rw [hW]; exact (HS2.out.below hb4).alloc _)
  have HM3 := hid (show Sl W B1 m1 d1 M by rw [hW]; exact (HM2.out.below hb4).alloc _)
  have r0 : W.cell? ⟨g18, 0, none⟩ = some (.int .i64 tx) := by rw [hW, hg18]; go_simp
  have r1 : W.cell? ⟨g18, 1, none⟩ = some (.int .i64 ty) := by rw [hW, hg18]; go_simp
  clear hB3
  have hB3 : Below w.heap.size w W := by rw [hW]; exact hB4.alloc hB4.size _
  have hg2 : w.heap.size ≤ g18 := by rw [hg18]; exact hB4.size
  replace p0 : W.cell? ⟨g15, 0, none⟩ = some (.int .i64 u) := by rw [hW]; exact keepCell ((Below.refl _ _).alloc (Nat.le_refl _) _) p0
  replace p1 : W.cell? ⟨g15, 1, none⟩ = some (.int .i64 v) := by rw [hW]; exact keepCell ((Below.refl _ _).alloc (Nat.le_refl _) _) p1
  clear HS2 HM2 hb4 hB4 HT1
  go_upto_region 4 with fail
  rw [← hW, ← hg18]
  clear hW hg18
  go_cut [19, 20, 21] from 40 to 50 (fun a b t wx => ∃ gx : Nat, a = .bool mt ∧ b = .int .i64 d ∧ t = .pointer (some ⟨gx, 0, none⟩) ∧ wx.cell? ⟨gx, 0, none⟩ = some (.int .i64 tx) ∧ wx.cell? ⟨gx, 1, none⟩ = some (.int .i64 ty) ∧ wx.cell? ⟨g18, 0, none⟩ = some (.int .i64 tx) ∧ wx.cell? ⟨g18, 1, none⟩ = some (.int .i64 ty) ∧ Below w.heap.size w wx)
  case first =>
    refine wp_region_noPanic ?_
    refine wp_region_U (S := (S2 (fun w' => w'.cell? ⟨g15, 0, none⟩ = some (.int .i64 u) ∧ w'.cell? ⟨g15, 1, none⟩ = some (.int .i64 v) ∧ w'.cell? ⟨g18, 0, none⟩ = some (.int .i64 tx) ∧ w'.cell? ⟨g18, 1, none⟩ = some (.int .i64 ty) ∧ Sl w' A1 n1 c1 L ∧ Sl w' B1 m1 d1 M ∧ Below w.heap.size w w'))) (T := (fun j => [0, 0, 0, 0, 0, 0, 0, 0, 0, 0, 0, 0, 0, 0, 1].getD j 0)) (by kernel_rfl) (S2i0 ⟨p0, p1, r0, r1, HS3.out.drew', HM3.out.drew', hB3.drew⟩) (fun hH => ?_)
    have hWr1 : Weaker (S2 (fun w' => w'.cell? ⟨g15, 0, none⟩ = some (.int .i64 u) ∧ w'.cell? ⟨g15, 1, none⟩ = some (.int .i64 v) ∧ w'.cell? ⟨g18, 0, none⟩ = some (.int .i64 tx) ∧ w'.cell? ⟨g18, 1, none⟩ = some (.int .i64 ty) ∧ Sl w' A1 n1 c1 L ∧ Sl w' B1 m1 d1 M ∧ Below w.heap.size w w')) := weaker2 _
    refine U_take 0 41 14 0 0 (v := ?vr1_1) rfl (by kernel_rfl) (by kernel_rfl) hWr1 (by kernel_rfl) (by kernel_rfl) (by kernel_rfl) (by kernel_rfl) (by kernel_rfl) (by kernel_rfl) (fun _ _ _ _ h => h) (by kernel_rfl) ?hyr1_1 (by omega) hH ?_
    case hyr1_1 => (intro w' hSw; clear hSw; go_simp; try (with_reducible rfl))
    simp only [List.set_cons_zero, List.set_cons_succ]
    refine U_take 1 42 13 0 0 (v := ?vr1_2) rfl (by kernel_rfl) (by kernel_rfl) hWr1 (by kernel_rfl) (by kernel_rfl) (by kernel_rfl) (by kernel_rfl) (by kernel_rfl) (by kernel_rfl) (fun _ _ _ _ h => h) (by kernel_rfl) ?hyr1_2 (by omega) hH ?_
    case hyr1_2 => (intro w' hSw; replace hSw := S2o0 hSw; (try dsimp only at hSw); have q0 := hSw.1; have q1 := hSw.2.1; have q2 := hSw.2.2.1; have q3 := hSw.2.2.2.1; have q4 := hSw.2.2.2.2.1; have q5 := hSw.2.2.2.2.2.1; have q6 := hSw.2.2.2.2.2.2; go_simp; try (with_reducible rfl))
    simp only [List.set_cons_zero, List.set_cons_succ]
    refine U_take 3 44 12 0 0 (v := ?vr1_3) rfl (by kernel_rfl) (by kernel_rfl) hWr1 (by kernel_rfl) (by kernel_rfl) (by kernel_rfl) (by kernel_rfl) (by kernel_rfl) (by kernel_rfl) (fun _ _ _ _ h => h) (by kernel_rfl) ?hyr1_3 (by omega) hH ?_
    case hyr1_3 => (intro w' hSw; clear hSw; go_simp; try (with_reducible rfl))
    simp only [List.set_cons_zero, List.set_cons_succ]
    refine U_take 4 45 11 0 0 (v := ?vr1_4) rfl (by kernel_rfl) (by kernel_rfl) hWr1 (by kernel_rfl) (by kernel_rfl) (by kernel_rfl) (by kernel_rfl) (by kernel_rfl) (by kernel_rfl) (fun _ _ _ _ h => h) (by kernel_rfl) ?hyr1_4 (by omega) hH ?_
    case hyr1_4 => (intro w' hSw; replace hSw := S2o0 hSw; (try dsimp only at hSw); have q0 := hSw.1; have q1 := hSw.2.1; have q2 := hSw.2.2.1; have q3 := hSw.2.2.2.1; have q4 := hSw.2.2.2.2.1; have q5 := hSw.2.2.2.2.2.1; have q6 := hSw.2.2.2.2.2.2; go_simp; try (with_reducible rfl))
    simp only [List.set_cons_zero, List.set_cons_succ]
    refine wpAnyU_ready (rs := [2, 11]) (by kernel_rfl) (by simp) ?_
    refine AllReadyU.cons 0 (by kernel_rfl) (o := _) rfl (fun K hK => ?_) ?_
    · try clear hb
      have hG := hH
      replace hG := S2o0 hG; (try dsimp only at hG); have q0 := hG.1; have q1 := hG.2.1; have q2 := hG.2.2.1; have q3 := hG.2.2.2.1; have q4 := hG.2.2.2.2.1; have q5 := hG.2.2.2.2.2.1; have q6 := hG.2.2.2.2.2.2
      go_simp
      (go_at_call 41; refine (HMV1.out _ _ _ _ q4).mono ?_; rintro e wn ⟨A2, n2, c2, rfl, hs2, hf2, hb⟩; try (replace hT := keepVZ hb hT))
      refine hK.out _ _ ?hsr1_5 (fun hH2 => ?hrr1_5)
      case hsr1_5 => exact S2i0 (by have hG := hH; replace hG := S2o0 hG; (try dsimp only at hG); have q0 := hG.1; have q1 := hG.2.1; have q2 := hG.2.2.1; have q3 := hG.2.2.2.1; have q4 := hG.2.2.2.2.1; have q5 := hG.2.2.2.2.2.1; have q6 := hG.2.2.2.2.2.2; exact ⟨keepCell hb q0, keepCell hb q1, keepCell hb q2, keepCell hb q3, keepSl hb q4, keepSl hb q5, keepBelow hb q6⟩)
      clear hK K hH
      have hH := hH2
      clear hH2
      try simp only [Act.put, List.setIfInBounds_toArray, List.set_cons_zero, List.set_cons_succ]
      refine wpAnyU_ready (rs := [5, 11]) (by kernel_rfl) (by simp) ?_
      refine AllReadyU.cons 0 (by kernel_rfl) (o := _) rfl (fun K hK => ?_) ?_
      · try clear hb
        have hG := hH
        replace hG := S2o0 hG; (try dsimp only at hG); have q0 := hG.1; have q1 := hG.2.1; have q2 := hG.2.2.1; have q3 := hG.2.2.2.1; have q4 := hG.2.2.2.2.1; have q5 := hG.2.2.2.2.2.1; have q6 := hG.2.2.2.2.2.2
        go_simp
        (go_at_call 41; refine (HMV2.out _ _ _ _ q5).mono ?_; rintro e wn ⟨A3, n3, c3, rfl, hs3, hf3, hb⟩; try (replace hT := keepVZ hb hT))
        replace hs2 := hs2.below hb
        refine hK.out _ _ ?hsr1_6 (fun hH2 => ?hrr1_6)
        case hsr1_6 => exact S2i0 (by have hG := hH; replace hG := S2o0 hG; (try dsimp only at hG); have q0 := hG.1; have q1 := hG.2.1; have q2 := hG.2.2.1; have q3 := hG.2.2.2.1; have q4 := hG.2.2.2.2.1; have q5 := hG.2.2.2.2.2.1; have q6 := hG.2.2.2.2.2.2; exact ⟨keepCell hb q0, keepCell hb q1, keepCell hb q2, keepCell hb q3, keepSl hb q4, keepSl hb q5, keepBelow hb q6⟩)
        clear hK K hH
        have hH := hH2
        clear hH2
        try simp only [Act.put, List.setIfInBounds_toArray, List.set_cons_zero, List.set_cons_succ]
        refine wpAnyU_ready (rs := [6, 11]) (by kernel_rfl) (by simp) ?_
        refine AllReadyU.cons 0 (by kernel_rfl) (o := _) rfl (fun K hK => ?_) ?_
        · try clear hb
          go_simp
          (go_at_call 25; refine (HT2.out _ _ _ _ _ _ _ hs2 hs3).mono ?_; rintro e wn ⟨rfl, hb⟩; try (replace hT := keepVZ hb hT))
          refine hK.out _ _ ?hsr1_7 (fun hH2 => ?hrr1_7)
          case hsr1_7 => exact S2i0 (by have hG := hH; replace hG := S2o0 hG; (try dsimp only at hG); have q0 := hG.1; have q1 := hG.2.1; have q2 := hG.2.2.1; have q3 := hG.2.2.2.1; have q4 := hG.2.2.2.2.1; have q5 := hG.2.2.2.2.2.1; have q6 := hG.2.2.2.2.2.2; exact ⟨keepCell hb q0, keepCell hb q1, keepCell hb q2, keepCell hb q3, keepSl hb q4, keepSl hb q5, keepBelow hb q6⟩)
          clear hK K hH
          have hH := hH2
          clear hH2
          try simp only [Act.put, List.setIfInBounds_toArray, List.set_cons_zero, List.set_cons_succ]
          refine U_take 7 40 7 0 0 (v := ?vr1_8) rfl (by kernel_rfl) (by kernel_rfl) hWr1 (by kernel_rfl) (by kernel_rfl) (by kernel_rfl) (by kernel_rfl) (by kernel_rfl) (by kernel_rfl) (fun _ _ _ _ h => h) (by kernel_rfl) ?hyr1_8 (by omega) hH ?_
          case hyr1_8 => (intro w' hSw; clear hSw; go_simp; try (with_reducible rfl))
          simp only [List.set_cons_zero, List.set_cons_succ]
          refine U_take 8 48 6 0 0 (v := ?vr1_9) rfl (by kernel_rfl) (by kernel_rfl) hWr1 (by kernel_rfl) (by kernel_rfl) (by kernel_rfl) (by kernel_rfl) (by kernel_rfl) (by kernel_rfl) (fun _ _ _ _ h => h) (by kernel_rfl) ?hyr1_9 (by omega) hH ?_
          case hyr1_9 => (intro w' hSw; clear hSw; go_simp; try (with_reducible rfl))
          simp only [List.set_cons_zero, List.set_cons_succ]
          refine U_take 9 49 5 0 0 (v := ?vr1_10) rfl (by kernel_rfl) (by kernel_rfl) hWr1 (by kernel_rfl) (by kernel_rfl) (by kernel_rfl) (by kernel_rfl) (by kernel_rfl) (by kernel_rfl) (fun _ _ _ _ h => h) (by kernel_rfl) ?hyr1_10 (by omega) hH ?_
          case hyr1_10 => (intro w' hSw; clear hSw; go_simp; try (with_reducible rfl))
          simp only [List.set_cons_zero, List.set_cons_succ]
          refine U_take 10 50 4 0 0 (v := ?vr1_11) rfl (by kernel_rfl) (by kernel_rfl) hWr1 (by kernel_rfl) (by kernel_rfl) (by kernel_rfl) (by kernel_rfl) (by kernel_rfl) (by kernel_rfl) (fun _ _ _ _ h => h) (by kernel_rfl) ?hyr1_11 (by omega) hH ?_
          case hyr1_11 => (intro w' hSw; clear hSw; go_simp; try (with_reducible rfl))
          simp only [List.set_cons_zero, List.set_cons_succ]
          refine wpAnyU_ready (rs := [11]) (by kernel_rfl) (by simp) ?_
          refine AllReadyU.cons 0 (by kernel_rfl) (o := _) rfl (fun K hK => ?_) AllReadyU.nil
          try clear hb
          have hG := hH
          replace hG := S2o0 hG; (try dsimp only at hG); have q0 := hG.1; have q1 := hG.2.1; have q2 := hG.2.2.1; have q3 := hG.2.2.2.1; have q4 := hG.2.2.2.2.1; have q5 := hG.2.2.2.2.2.1; have q6 := hG.2.2.2.2.2.2
          go_simp
          refine hK.out _ _ ?hsr1_12 (fun hH2 => ?hrr1_12)
          case hsr1_12 => exact S2i0 (by have hG := hH; replace hG := S2o0 hG; (try dsimp only at hG); have q0 := hG.1; have q1 := hG.2.1; have q2 := hG.2.2.1; have q3 := hG.2.2.2.1; have q4 := hG.2.2.2.2.1; have q5 := hG.2.2.2.2.2.1; have q6 := hG.2.2.2.2.2.2; exact ⟨keepCell ((Below.refl _ _).alloc (Nat.le_refl _) _) q0, keepCell ((Below.refl _ _).alloc (Nat.le_refl _) _) q1, keepCell ((Below.refl _ _).alloc (Nat.le_refl _) _) q2, keepCell ((Below.refl _ _).alloc (Nat.le_refl _) _) q3, Sl.alloc q4 _, Sl.alloc q5 _, q6.alloc q6.size _⟩)
          clear hK K hH
          have hH := hH2
          clear hH2
          try simp only [Act.put, List.setIfInBounds_toArray, List.set_cons_zero, List.set_cons_succ]
          have hT : VZ (wn.alloc (.cells #[.int .i64 0, .int .i64 0] 34)) wn.heap.size := VZ.here wn _ _ _
          obtain ⟨gT, hgT⟩ : ∃ g, g = wn.heap.size := ⟨_, rfl⟩
          have hlT : g18 < gT := by rw [hgT]; exact lt_of_cell q2
          rw [← hgT] at hT
          try rw [← hgT]
          clear hgT q0 q1 q2 q3 q4 q5 q6
          generalize wn.alloc (.cells #[.int .i64 0, .int .i64 0] 34) = wx11 at *
          refine U_take 12 19 2 0 0 (v := ?vr1_13) rfl (by kernel_rfl) (by kernel_rfl) hWr1 (by kernel_rfl) (by kernel_rfl) (by kernel_rfl) (by kernel_rfl) (by kernel_rfl) (by kernel_rfl) (fun _ _ _ _ h => h) (by kernel_rfl) ?hyr1_13 (by omega) hH ?_
          case hyr1_13 => (intro w' hSw; clear hSw; go_simp; try (with_reducible rfl))
          simp only [List.set_cons_zero, List.set_cons_succ]
          refine U_take 13 20 1 0 0 (v := ?vr1_14) rfl (by kernel_rfl) (by kernel_rfl) hWr1 (by kernel_rfl) (by kernel_rfl) (by kernel_rfl) (by kernel_rfl) (by kernel_rfl) (by kernel_rfl) (fun _ _ _ _ h => h) (by kernel_rfl) ?hyr1_14 (by omega) hH ?_
          case hyr1_14 => (intro w' hSw; clear hSw; go_simp; try (with_reducible rfl))
          simp only [List.set_cons_zero, List.set_cons_succ]
          refine wpAnyU_ready (rs := [14]) (by kernel_rfl) (by simp) ?_
          refine AllReadyU.cons 1 (by kernel_rfl) (o := _) rfl (fun K hK => ?_) AllReadyU.nil
          have hG := hH
          replace hG := S2o0 hG; (try dsimp only at hG); have q0 := hG.1; have q1 := hG.2.1; have q2 := hG.2.2.1; have q3 := hG.2.2.2.1; have q4 := hG.2.2.2.2.1; have q5 := hG.2.2.2.2.2.1; have q6 := hG.2.2.2.2.2.2
          obtain ⟨⟨z0, z1, y0, y1⟩, yf⟩ := hT
          have hl9 : w.heap.size ≤ gT := by omega
          go_simp
          refine hK.out _ _ ?hsr1_15 (fun hH2 => ?hrr1_15)
          case hsr1_15 => exact S2i1
          clear hK K hH
          have hH := hH2
          clear hH2
          try simp only [Act.put, List.setIfInBounds_toArray, List.set_cons_zero, List.set_cons_succ]
          refine wpAnyU_done (by kernel_rfl) ?_ _ _
          refine NoPanic.normal ?_
          have hne1 : ¬ gT = g18 := by omega
          go_wp2_with fail
          go_meet
          refine ⟨gT, rfl, rfl, rfl, by go_simp, by go_simp, by go_simp, by go_simp, by go_grown⟩
        refine AllReadyU.cons 0 (by kernel_rfl) (o := _) rfl (fun K hK => ?_) ?_
        · try clear hb
          have hG := hH
          replace hG := S2o0 hG; (try dsimp only at hG); have q0 := hG.1; have q1 := hG.2.1; have q2 := hG.2.2.1; have q3 := hG.2.2.2.1; have q4 := hG.2.2.2.2.1; have q5 := hG.2.2.2.2.2.1; have q6 := hG.2.2.2.2.2.2
          go_simp
          refine hK.out _ _ ?hsr1_16 (fun hH2 => ?hrr1_16)
          case hsr1_16 => exact S2i0 (by have hG := hH; replace hG := S2o0 hG; (try dsimp only at hG); have q0 := hG.1; have q1 := hG.2.1; have q2 := hG.2.2.1; have q3 := hG.2.2.2.1; have q4 := hG.2.2.2.2.1; have q5 := hG.2.2.2.2.2.1; have q6 := hG.2.2.2.2.2.2; exact ⟨keepCell ((Below.refl _ _).alloc (Nat.le_refl _) _) q0, keepCell ((Below.refl _ _).alloc (Nat.le_refl _) _) q1, keepCell ((Below.refl _ _).alloc (Nat.le_refl _) _) q2, keepCell ((Below.refl _ _).alloc (Nat.le_refl _) _) q3, Sl.alloc q4 _, Sl.alloc q5 _, q6.alloc q6.size _⟩)
          clear hK K hH
          have hH := hH2
          clear hH2
          try simp only [Act.put, List.setIfInBounds_toArray, List.set_cons_zero, List.set_cons_succ]
          replace hs2 := Sl.alloc hs2 (.cells #[.int .i64 0, .int .i64 0] 34)
          replace hs3 := Sl.alloc hs3 (.cells #[.int .i64 0, .int .i64 0] 34)
          have hT : VZ (wn.alloc (.cells #[.int .i64 0, .int .i64 0] 34)) wn.heap.size := VZ.here wn _ _ _
          obtain ⟨gT, hgT⟩ : ∃ g, g = wn.heap.size := ⟨_, rfl⟩
          have hlT : g18 < gT := by rw [hgT]; exact lt_of_cell q2
          rw [← hgT] at hT
          try rw [← hgT]
          clear hgT q0 q1 q2 q3 q4 q5 q6
          generalize wn.alloc (.cells #[.int .i64 0, .int .i64 0] 34) = wx11 at *
          refine wpAnyU_ready (rs := [6]) (by kernel_rfl) (by simp) ?_
          refine AllReadyU.cons 0 (by kernel_rfl) (o := _) rfl (fun K hK => ?_) AllReadyU.nil
          try clear hb
          go_simp
          (go_at_call 25; refine (HT2.out _ _ _ _ _ _ _ hs2 hs3).mono ?_; rintro e wn ⟨rfl, hb⟩; try (replace hT := keepVZ hb hT))
          refine hK.out _ _ ?hsr1_17 (fun hH2 => ?hrr1_17)
          case hsr1_17 => exact S2i0 (by have hG := hH; replace hG := S2o0 hG; (try dsimp only at hG); have q0 := hG.1; have q1 := hG.2.1; have q2 := hG.2.2.1; have q3 := hG.2.2.2.1; have q4 := hG.2.2.2.2.1; have q5 := hG.2.2.2.2.2.1; have q6 := hG.2.2.2.2.2.2; exact ⟨keepCell hb q0, keepCell hb q1, keepCell hb q2, keepCell hb q3, keepSl hb q4, keepSl hb q5, keepBelow hb q6⟩)
          clear hK K hH
          have hH := hH2
          clear hH2
          try simp only [Act.put, List.setIfInBounds_toArray, List.set_cons_zero, List.set_cons_succ]
          refine U_take 7 40 6 0 0 (v := ?vr1_18) rfl (by kernel_rfl) (by kernel_rfl) hWr1 (by kernel_rfl) (by kernel_rfl) (by kernel_rfl) (by kernel_rfl) (by kernel_rfl) (by kernel_rfl) (fun _ _ _ _ h => h) (by kernel_rfl) ?hyr1_18 (by omega) hH ?_
          case hyr1_18 => (intro w' hSw; clear hSw; go_simp; try (with_reducible rfl))
          simp only [List.set_cons_zero, List.set_cons_succ]
          refine U_take 8 48 5 0 0 (v := ?vr1_19) rfl (by kernel_rfl) (by kernel_rfl) hWr1 (by kernel_rfl) (by kernel_rfl) (by kernel_rfl) (by kernel_rfl) (by kernel_rfl) (by kernel_rfl) (fun _ _ _ _ h => h) (by kernel_rfl) ?hyr1_19 (by omega) hH ?_
          case hyr1_19 => (intro w' hSw; clear hSw; go_simp; try (with_reducible rfl))
          simp only [List.set_cons_zero, List.set_cons_succ]
          refine U_take 9 49 4 0 0 (v := ?vr1_20) rfl (by kernel_rfl) (by kernel_rfl) hWr1 (by kernel_rfl) (by kernel_rfl) (by kernel_rfl) (by kernel_rfl) (by kernel_rfl) (by kernel_rfl) (fun _ _ _ _ h => h) (by kernel_rfl) ?hyr1_20 (by omega) hH ?_
          case hyr1_20 => (intro w' hSw; clear hSw; go_simp; try (with_reducible rfl))
          simp only [List.set_cons_zero, List.set_cons_succ]
          refine U_take 10 50 3 0 0 (v := ?vr1_21) rfl (by kernel_rfl) (by kernel_rfl) hWr1 (by kernel_rfl) (by kernel_rfl) (by kernel_rfl) (by kernel_rfl) (by kernel_rfl) (by kernel_rfl) (fun _ _ _ _ h => h) (by kernel_rfl) ?hyr1_21 (by omega) hH ?_
          case hyr1_21 => (intro w' hSw; clear hSw; go_simp; try (with_reducible rfl))
          simp only [List.set_cons_zero, List.set_cons_succ]
          refine U_take 12 19 2 0 0 (v := ?vr1_22) rfl (by kernel_rfl) (by kernel_rfl) hWr1 (by kernel_rfl) (by kernel_rfl) (by kernel_rfl) (by kernel_rfl) (by kernel_rfl) (by kernel_rfl) (fun _ _ _ _ h => h) (by kernel_rfl) ?hyr1_22 (by omega) hH ?_
          case hyr1_22 => (intro w' hSw; clear hSw; go_simp; try (with_reducible rfl))
          simp only [List.set_cons_zero, List.set_cons_succ]
          refine U_take 13 20 1 0 0 (v := ?vr1_23) rfl (by kernel_rfl) (by kernel_rfl) hWr1 (by kernel_rfl) (by kernel_rfl) (by kernel_rfl) (by kernel_rfl) (by kernel_rfl) (by kernel_rfl) (fun _ _ _ _ h => h) (by kernel_rfl) ?hyr1_23 (by omega) hH ?_
          case hyr1_23 => (intro w' hSw; clear hSw; go_simp; try (with_reducible rfl))
          simp only [List.set_cons_zero, List.set_cons_succ]
          refine wpAnyU_ready (rs := [14]) (by kernel_rfl) (by simp) ?_
          refine AllReadyU.cons 1 (by kernel_rfl) (o := _) rfl (fun K hK => ?_) AllReadyU.nil
          have hG := hH
          replace hG := S2o0 hG; (try dsimp only at hG); have q0 := hG.1; have q1 := hG.2.1; have q2 := hG.2.2.1; have q3 := hG.2.2.2.1; have q4 := hG.2.2.2.2.1; have q5 := hG.2.2.2.2.2.1; have q6 := hG.2.2.2.2.2.2
          obtain ⟨⟨z0, z1, y0, y1⟩, yf⟩ := hT
          have hl9 : w.heap.size ≤ gT := by omega
          go_simp
          refine hK.out _ _ ?hsr1_24 (fun hH2 => ?hrr1_24)
          case hsr1_24 => exact S2i1
          clear hK K hH
          have hH := hH2
          clear hH2
          try simp only [Act.put, List.setIfInBounds_toArray, List.set_cons_zero, List.set_cons_succ]
          refine wpAnyU_done (by kernel_rfl) ?_ _ _
          refine NoPanic.normal ?_
          have hne1 : ¬ gT = g18 := by omega
          go_wp2_with fail
          go_meet
          refine ⟨gT, rfl, rfl, rfl, by go_simp, by go_simp, by go_simp, by go_simp, by go_grown⟩
        exact AllReadyU.nil
      refine AllReadyU.cons 0 (by kernel_rfl) (o := _) rfl (fun K hK => ?_) ?_
      · try clear hb
        have hG := hH
        replace hG := S2o0 hG; (try dsimp only at hG); have q0 := hG.1; have q1 := hG.2.1; have q2 := hG.2.2.1; have q3 := hG.2.2.2.1; have q4 := hG.2.2.2.2.1; have q5 := hG.2.2.2.2.2.1; have q6 := hG.2.2.2.2.2.2
        go_simp
        refine hK.out _ _ ?hsr1_25 (fun hH2 => ?hrr1_25)
        case hsr1_25 => exact S2i0 (by have hG := hH; replace hG := S2o0 hG; (try dsimp only at hG); have q0 := hG.1; have q1 := hG.2.1; have q2 := hG.2.2.1; have q3 := hG.2.2.2.1; have q4 := hG.2.2.2.2.1; have q5 := hG.2.2.2.2.2.1; have q6 := hG.2.2.2.2.2.2; exact ⟨keepCell ((Below.refl _ _).alloc (Nat.le_refl _) _) q0, keepCell ((Below.refl _ _).alloc (Nat.le_refl _) _) q1, keepCell ((Below.refl _ _).alloc (Nat.le_refl _) _) q2, keepCell ((Below.refl _ _).alloc (Nat.le_refl _) _) q3, Sl.alloc q4 _, Sl.alloc q5 _, q6.alloc q6.size _⟩)
        clear hK K hH
        have hH := hH2
        clear hH2
        try simp only [Act.put, List.setIfInBounds_toArray, List.set_cons_zero, List.set_cons_succ]
        replace hs2 := Sl.alloc hs2 (.cells #[.int .i64 0, .int .i64 0] 34)
        have hT : VZ (wn.alloc (.cells #[.int .i64 0, .int .i64 0] 34)) wn.heap.size := VZ.here wn _ _ _
        obtain ⟨gT, hgT⟩ : ∃ g, g = wn.heap.size := ⟨_, rfl⟩
        have hlT : g18 < gT := by rw [hgT]; exact lt_of_cell q2
        rw [← hgT] at hT
        try rw [← hgT]
        clear hgT q0 q1 q2 q3 q4 q5 q6
        generalize wn.alloc (.cells #[.int .i64 0, .int .i64 0] 34) = wx11 at *
        refine wpAnyU_ready (rs := [5]) (by kernel_rfl) (by simp) ?_
        refine AllReadyU.cons 0 (by kernel_rfl) (o := _) rfl (fun K hK => ?_) AllReadyU.nil
        try clear hb
        have hG := hH
        replace hG := S2o0 hG; (try dsimp only at hG); have q0 := hG.1; have q1 := hG.2.1; have q2 := hG.2.2.1; have q3 := hG.2.2.2.1; have q4 := hG.2.2.2.2.1; have q5 := hG.2.2.2.2.2.1; have q6 := hG.2.2.2.2.2.2
        go_simp
        (go_at_call 41; refine (HMV2.out _ _ _ _ q5).mono ?_; rintro e wn ⟨A3, n3, c3, rfl, hs3, hf3, hb⟩; try (replace hT := keepVZ hb hT))
        replace hs2 := hs2.below hb
        refine hK.out _ _ ?hsr1_26 (fun hH2 => ?hrr1_26)
        case hsr1_26 => exact S2i0 (by have hG := hH; replace hG := S2o0 hG; (try dsimp only at hG); have q0 := hG.1; have q1 := hG.2.1; have q2 := hG.2.2.1; have q3 := hG.2.2.2.1; have q4 := hG.2.2.2.2.1; have q5 := hG.2.2.2.2.2.1; have q6 := hG.2.2.2.2.2.2; exact ⟨keepCell hb q0, keepCell hb q1, keepCell hb q2, keepCell hb q3, keepSl hb q4, keepSl hb q5, keepBelow hb q6⟩)
        clear hK K hH
        have hH := hH2
        clear hH2
        try simp only [Act.put, List.setIfInBounds_toArray, List.set_cons_zero, List.set_cons_succ]
        refine wpAnyU_ready (rs := [6]) (by kernel_rfl) (by simp) ?_
        refine AllReadyU.cons 0 (by kernel_rfl) (o := _) rfl (fun K hK => ?_) AllReadyU.nil
        try clear hb
        go_simp
        (go_at_call 25; refine (HT2.out _ _ _ _ _ _ _ hs2 hs3).mono ?_; rintro e wn ⟨rfl, hb⟩; try (replace hT := keepVZ hb hT))
        refine hK.out _ _ ?hsr1_27 (fun hH2 => ?hrr1_27)
        case hsr1_27 => exact S2i0 (by have hG := hH; replace hG := S2o0 hG; (try dsimp only at hG); have q0 := hG.1; have q1 := hG.2.1; have q2 := hG.2.2.1; have q3 := hG.2.2.2.1; have q4 := hG.2.2.2.2.1; have q5 := hG.2.2.2.2.2.1; have q6 := hG.2.2.2.2.2.2; exact ⟨keepCell hb q0, keepCell hb q1, keepCell hb q2, keepCell hb q3, keepSl hb q4, keepSl hb q5, keepBelow hb q6⟩)
        clear hK K hH
        have hH := hH2
        clear hH2
        try simp only [Act.put, List.setIfInBounds_toArray, List.set_cons_zero, List.set_cons_succ]
        refine U_take 7 40 6 0 0 (v := ?vr1_28) rfl (by kernel_rfl) (by kernel_rfl) hWr1 (by kernel_rfl) (by kernel_rfl) (by kernel_rfl) (by kernel_rfl) (by kernel_rfl) (by kernel_rfl) (fun _ _ _ _ h => h) (by kernel_rfl) ?hyr1_28 (by omega) hH ?_
        case hyr1_28 => (intro w' hSw; clear hSw; go_simp; try (with_reducible rfl))
        simp only [List.set_cons_zero, List.set_cons_succ]
        refine U_take 8 48 5 0 0 (v := ?vr1_29) rfl (by kernel_rfl) (by kernel_rfl) hWr1 (by kernel_rfl) (by kernel_rfl) (by kernel_rfl) (by kernel_rfl) (by kernel_rfl) (by kernel_rfl) (fun _ _ _ _ h => h) (by kernel_rfl) ?hyr1_29 (by omega) hH ?_
        case hyr1_29 => (intro w' hSw; clear hSw; go_simp; try (with_reducible rfl))
        simp only [List.set_cons_zero, List.set_cons_succ]
        refine U_take 9 49 4 0 0 (v := ?vr1_30) rfl (by kernel_rfl) (by kernel_rfl) hWr1 (by kernel_rfl) (by kernel_rfl) (by kernel_rfl) (by kernel_rfl) (by kernel_rfl) (by kernel_rfl) (fun _ _ _ _ h => h) (by kernel_rfl) ?hyr1_30 (by omega) hH ?_
        case hyr1_30 => (intro w' hSw; clear hSw; go_simp; try (with_reducible rfl))
        simp only [List.set_cons_zero, List.set_cons_succ]
        refine U_take 10 50 3 0 0 (v := ?vr1_31) rfl (by kernel_rfl) (by kernel_rfl) hWr1 (by kernel_rfl) (by kernel_rfl) (by kernel_rfl) (by kernel_rfl) (by kernel_rfl) (by kernel_rfl) (fun _ _ _ _ h => h) (by kernel_rfl) ?hyr1_31 (by omega) hH ?_
        case hyr1_31 => (intro w' hSw; clear hSw; go_simp; try (with_reducible rfl))
        simp only [List.set_cons_zero, List.set_cons_succ]
        refine U_take 12 19 2 0 0 (v := ?vr1_32) rfl (by kernel_rfl) (by kernel_rfl) hWr1 (by kernel_rfl) (by kernel_rfl) (by kernel_rfl) (by kernel_rfl) (by kernel_rfl) (by kernel_rfl) (fun _ _ _ _ h => h) (by kernel_rfl) ?hyr1_32 (by omega) hH ?_
        case hyr1_32 => (intro w' hSw; clear hSw; go_simp; try (with_reducible rfl))
        simp only [List.set_cons_zero, List.set_cons_succ]
        refine U_take 13 20 1 0 0 (v := ?vr1_33) rfl (by kernel_rfl) (by kernel_rfl) hWr1 (by kernel_rfl) (by kernel_rfl) (by kernel_rfl) (by kernel_rfl) (by kernel_rfl) (by kernel_rfl) (fun _ _ _ _ h => h) (by kernel_rfl) ?hyr1_33 (by omega) hH ?_
        case hyr1_33 => (intro w' hSw; clear hSw; go_simp; try (with_reducible rfl))
        simp only [List.set_cons_zero, List.set_cons_succ]
        refine wpAnyU_ready (rs := [14]) (by kernel_rfl) (by simp) ?_
        refine AllReadyU.cons 1 (by kernel_rfl) (o := _) rfl (fun K hK => ?_) AllReadyU.nil
        have hG := hH
        replace hG := S2o0 hG; (try dsimp only at hG); have q0 := hG.1; have q1 := hG.2.1; have q2 := hG.2.2.1; have q3 := hG.2.2.2.1; have q4 := hG.2.2.2.2.1; have q5 := hG.2.2.2.2.2.1; have q6 := hG.2.2.2.2.2.2
        obtain ⟨⟨z0, z1, y0, y1⟩, yf⟩ := hT
        have hl9 : w.heap.size ≤ gT := by omega
        go_simp
        refine hK.out _ _ ?hsr1_34 (fun hH2 => ?hrr1_34)
        case hsr1_34 => exact S2i1
        clear hK K hH
        have hH := hH2
        clear hH2
        try simp only [Act.put, List.setIfInBounds_toArray, List.set_cons_zero, List.set_cons_succ]
        refine wpAnyU_done (by kernel_rfl) ?_ _ _
        refine NoPanic.normal ?_
        have hne1 : ¬ gT = g18 := by omega
        go_wp2_with fail
        go_meet
        refine ⟨gT, rfl, rfl, rfl, by go_simp, by go_simp, by go_simp, by go_simp, by go_grown⟩
      exact AllReadyU.nil
    refine AllReadyU.cons 0 (by kernel_rfl) (o := _) rfl (fun K hK => ?_) ?_
    · try clear hb
      have hG := hH
      replace hG := S2o0 hG; (try dsimp only at hG); have q0 := hG.1; have q1 := hG.2.1; have q2 := hG.2.2.1; have q3 := hG.2.2.2.1; have q4 := hG.2.2.2.2.1; have q5 := hG.2.2.2.2.2.1; have q6 := hG.2.2.2.2.2.2
      go_simp
      refine hK.out _ _ ?hsr1_35 (fun hH2 => ?hrr1_35)
      case hsr1_35 => exact S2i0 (by have hG := hH; replace hG := S2o0 hG; (try dsimp only at hG); have q0 := hG.1; have q1 := hG.2.1; have q2 := hG.2.2.1; have q3 := hG.2.2.2.1; have q4 := hG.2.2.2.2.1; have q5 := hG.2.2.2.2.2.1; have q6 := hG.2.2.2.2.2.2; exact ⟨keepCell ((Below.refl _ _).alloc (Nat.le_refl _) _) q0, keepCell ((Below.refl _ _).alloc (Nat.le_refl _) _) q1, keepCell ((Below.refl _ _).alloc (Nat.le_refl _) _) q2, keepCell ((Below.refl _ _).alloc (Nat.le_refl _) _) q3, Sl.alloc q4 _, Sl.alloc q5 _, q6.alloc q6.size _⟩)
      clear hK K hH
      have hH := hH2
      clear hH2
      try simp only [Act.put, List.setIfInBounds_toArray, List.set_cons_zero, List.set_cons_succ]
      have hT : VZ ((W.alloc (.cells #[.int .i64 0, .int .i64 0] 34)).drew) W.heap.size := VZ.drew (VZ.here W _ _ _)
      obtain ⟨gT, hgT⟩ : ∃ g, g = W.heap.size := ⟨_, rfl⟩
      have hlT : g18 < gT := by rw [hgT]; exact lt_of_cell q2
      rw [← hgT] at hT
      try rw [← hgT]
      clear hgT q0 q1 q2 q3 q4 q5 q6
      generalize (W.alloc (.cells #[.int .i64 0, .int .i64 0] 34)).drew = wx11 at *
      refine wpAnyU_ready (rs := [2]) (by kernel_rfl) (by simp) ?_
      refine AllReadyU.cons 0 (by kernel_rfl) (o := _) rfl (fun K hK => ?_) AllReadyU.nil
      try clear hb
      have hG := hH
      replace hG := S2o0 hG; (try dsimp only at hG); have q0 := hG.1; have q1 := hG.2.1; have q2 := hG.2.2.1; have q3 := hG.2.2.2.1; have q4 := hG.2.2.2.2.1; have q5 := hG.2.2.2.2.2.1; have q6 := hG.2.2.2.2.2.2
      go_simp
      (go_at_call 41; refine (HMV1.out _ _ _ _ q4).mono ?_; rintro e wn ⟨A2, n2, c2, rfl, hs2, hf2, hb⟩; try (replace hT := keepVZ hb hT))
      refine hK.out _ _ ?hsr1_36 (fun hH2 => ?hrr1_36)
      case hsr1_36 => exact S2i0 (by have hG := hH; replace hG := S2o0 hG; (try dsimp only at hG); have q0 := hG.1; have q1 := hG.2.1; have q2 := hG.2.2.1; have q3 := hG.2.2.2.1; have q4 := hG.2.2.2.2.1; have q5 := hG.2.2.2.2.2.1; have q6 := hG.2.2.2.2.2.2; exact ⟨keepCell hb q0, keepCell hb q1, keepCell hb q2, keepCell hb q3, keepSl hb q4, keepSl hb q5, keepBelow hb q6⟩)
      clear hK K hH
      have hH := hH2
      clear hH2
      try simp only [Act.put, List.setIfInBounds_toArray, List.set_cons_zero, List.set_cons_succ]
      refine wpAnyU_ready (rs := [5]) (by kernel_rfl) (by simp) ?_
      refine AllReadyU.cons 0 (by kernel_rfl) (o := _) rfl (fun K hK => ?_) AllReadyU.nil
      try clear hb
      have hG := hH
      replace hG := S2o0 hG; (try dsimp only at hG); have q0 := hG.1; have q1 := hG.2.1; have q2 := hG.2.2.1; have q3 := hG.2.2.2.1; have q4 := hG.2.2.2.2.1; have q5 := hG.2.2.2.2.2.1; have q6 := hG.2.2.2.2.2.2
      go_simp
      (go_at_call 41; refine (HMV2.out _ _ _ _ q5).mono ?_; rintro e wn ⟨A3, n3, c3, rfl, hs3, hf3, hb⟩; try (replace hT := keepVZ hb hT))
      replace hs2 := hs2.below hb
      refine hK.out _ _ ?hsr1_37 (fun hH2 => ?hrr1_37)
      case hsr1_37 => exact S2i0 (by have hG := hH; replace hG := S2o0 hG; (try dsimp only at hG); have q0 := hG.1; have q1 := hG.2.1; have q2 := hG.2.2.1; have q3 := hG.2.2.2.1; have q4 := hG.2.2.2.2.1; have q5 := hG.2.2.2.2.2.1; have q6 := hG.2.2.2.2.2.2; exact ⟨keepCell hb q0, keepCell hb q1, keepCell hb q2, keepCell hb q3, keepSl hb q4, keepSl hb q5, keepBelow hb q6⟩)
      clear hK K hH
      have hH := hH2
      clear hH2
      try simp only [Act.put, List.setIfInBounds_toArray, List.set_cons_zero, List.set_cons_succ]
      refine wpAnyU_ready (rs := [6]) (by kernel_rfl) (by simp) ?_
      refine AllReadyU.cons 0 (by kernel_rfl) (o := _) rfl (fun K hK => ?_) AllReadyU.nil
      try clear hb
      go_simp
      (go_at_call 25; refine (HT2.out _ _ _ _ _ _ _ hs2 hs3).mono ?_; rintro e wn ⟨rfl, hb⟩; try (replace hT := keepVZ hb hT))
      refine hK.out _ _ ?hsr1_38 (fun hH2 => ?hrr1_38)
      case hsr1_38 => exact S2i0 (by have hG := hH; replace hG := S2o0 hG; (try dsimp only at hG); have q0 := hG.1; have q1 := hG.2.1; have q2 := hG.2.2.1; have q3 := hG.2.2.2.1; have q4 := hG.2.2.2.2.1; have q5 := hG.2.2.2.2.2.1; have q6 := hG.2.2.2.2.2.2; exact ⟨keepCell hb q0, keepCell hb q1, keepCell hb q2, keepCell hb q3, keepSl hb q4, keepSl hb q5, keepBelow hb q6⟩)
      clear hK K hH
      have hH := hH2
      clear hH2
      try simp only [Act.put, List.setIfInBounds_toArray, List.set_cons_zero, List.set_cons_succ]
      refine U_take 7 40 6 0 0 (v := ?vr1_39) rfl (by kernel_rfl) (by kernel_rfl) hWr1 (by kernel_rfl) (by kernel_rfl) (by kernel_rfl) (by kernel_rfl) (by kernel_rfl) (by kernel_rfl) (fun _ _ _ _ h => h) (by kernel_rfl) ?hyr1_39 (by omega) hH ?_
      case hyr1_39 => (intro w' hSw; clear hSw; go_simp; try (with_reducible rfl))
      simp only [List.set_cons_zero, List.set_cons_succ]
      refine U_take 8 48 5 0 0 (v := ?vr1_40) rfl (by kernel_rfl) (by kernel_rfl) hWr1 (by kernel_rfl) (by kernel_rfl) (by kernel_rfl) (by kernel_rfl) (by kernel_rfl) (by kernel_rfl) (fun _ _ _ _ h => h) (by kernel_rfl) ?hyr1_40 (by omega) hH ?_
      case hyr1_40 => (intro w' hSw; clear hSw; go_simp; try (with_reducible rfl))
      simp only [List.set_cons_zero, List.set_cons_succ]
      refine U_take 9 49 4 0 0 (v := ?vr1_41) rfl (by kernel_rfl) (by kernel_rfl) hWr1 (by kernel_rfl) (by kernel_rfl) (by kernel_rfl) (by kernel_rfl) (by kernel_rfl) (by kernel_rfl) (fun _ _ _ _ h => h) (by kernel_rfl) ?hyr1_41 (by omega) hH ?_
      case hyr1_41 => (intro w' hSw; clear hSw; go_simp; try (with_reducible rfl))
      simp only [List.set_cons_zero, List.set_cons_succ]
      refine U_take 10 50 3 0 0 (v := ?vr1_42) rfl (by kernel_rfl) (by kernel_rfl) hWr1 (by kernel_rfl) (by kernel_rfl) (by kernel_rfl) (by kernel_rfl) (by kernel_rfl) (by kernel_rfl) (fun _ _ _ _ h => h) (by kernel_rfl) ?hyr1_42 (by omega) hH ?_
      case hyr1_42 => (intro w' hSw; clear hSw; go_simp; try (with_reducible rfl))
      simp only [List.set_cons_zero, List.set_cons_succ]
      refine U_take 12 19 2 0 0 (v := ?vr1_43) rfl (by kernel_rfl) (by kernel_rfl) hWr1 (by kernel_rfl) (by kernel_rfl) (by kernel_rfl) (by kernel_rfl) (by kernel_rfl) (by kernel_rfl) (fun _ _ _ _ h => h) (by kernel_rfl) ?hyr1_43 (by omega) hH ?_
      case hyr1_43 => (intro w' hSw; clear hSw; go_simp; try (with_reducible rfl))
      simp only [List.set_cons_zero, List.set_cons_succ]
      refine U_take 13 20 1 0 0 (v := ?vr1_44) rfl (by kernel_rfl) (by kernel_rfl) hWr1 (by kernel_rfl) (by kernel_rfl) (by kernel_rfl) (by kernel_rfl) (by kernel_rfl) (by kernel_rfl) (fun _ _ _ _ h => h) (by kernel_rfl) ?hyr1_44 (by omega) hH ?_
      case hyr1_44 => (intro w' hSw; clear hSw; go_simp; try (with_reducible rfl))
      simp only [List.set_cons_zero, List.set_cons_succ]
      refine wpAnyU_ready (rs := [14]) (by kernel_rfl) (by simp) ?_
      refine AllReadyU.cons 1 (by kernel_rfl) (o := _) rfl (fun K hK => ?_) AllReadyU.nil
      have hG := hH
      replace hG := S2o0 hG; (try dsimp only at hG); have q0 := hG.1; have q1 := hG.2.1; have q2 := hG.2.2.1; have q3 := hG.2.2.2.1; have q4 := hG.2.2.2.2.1; have q5 := hG.2.2.2.2.2.1; have q6 := hG.2.2.2.2.2.2
      obtain ⟨⟨z0, z1, y0, y1⟩, yf⟩ := hT
      have hl9 : w.heap.size ≤ gT := by omega
      go_simp
      refine hK.out _ _ ?hsr1_45 (fun hH2 => ?hrr1_45)
      case hsr1_45 => exact S2i1
      clear hK K hH
      have hH := hH2
      clear hH2
      try simp only [Act.put, List.setIfInBounds_toArray, List.set_cons_zero, List.set_cons_succ]
      refine wpAnyU_done (by kernel_rfl) ?_ _ _
      refine NoPanic.normal ?_
      have hne1 : ¬ gT = g18 := by omega
      go_wp2_with fail
      go_meet
      refine ⟨gT, rfl, rfl, rfl, by go_simp, by go_simp, by go_simp, by go_simp, by go_grown⟩
    exact AllReadyU.nil
  case rest =>
    obtain ⟨gx, rfl, rfl, rfl, x0, x1, r0', r1', hBc⟩ := hcut
    clear p0 p1 r0 r1 HS3 HM3 hB3
    go_wp2_with fail
    refine (tests_calls _).mono ?_
    rintro e w6 ⟨rfl, hb6⟩
    replace x0 := keepCell hb6 x0
    replace x1 := keepCell hb6 x1
    replace r0' := keepCell hb6 r0'
    replace r1' := keepCell hb6 r1'
    have hB6 := keepBelow hb6 hBc
    clear hb6 hBc
    go_wp2
    go_returns
    exact ret_bool (by simp) hB6

end Go.Proofs.Ytflmhlejgjdifaa
