/- Parts of a proof: contracts and laws. -/
import Derived.Test.YtkiiehobphkmgaaPZ13
import Derived.Test.YtkiiehobphkmgaaPZ11
namespace Go.Proofs.Ytkiiehobphkmgaa
section
set_option linter.unusedVariables false
set_option linter.unusedSimpArgs false
open Go.RowKit

def atX (b : Bd) (l : List V) (p q : Int) : Int := if bodyE b l ≠ 0 then 0 else subF b.vx (mulF (mulF b.spin 411775) (subF q b.py))
def atY (b : Bd) (l : List V) (p q : Int) : Int := if bodyE b l ≠ 0 then 0 else addF b.vy (mulF (mulF b.spin 411775) (subF p b.px))
theorem BdAt.away {w : World} {g : Nat} {b : Bd} {A : Option Addr} {n c : Nat} (h : BdAt w g b A n c) (k o : Nat) (v : Value) (hne : k ≠ g) : BdAt (w.setCell ⟨k, o, none⟩ v) g b A n c :=
  ⟨far1 hne h.c0, far1 hne h.c1, far1 hne h.c2, far1 hne h.c3, far1 hne h.c4, far1 hne h.c5, far1 hne h.c6, far1 hne h.c7, far1 hne h.c8, far1 hne h.c9, far1 hne h.c10, far1 hne h.c11, far1 hne h.c12, fun j => by rw [World.frozen?_setCell]; exact h.free j⟩
set_option maxRecDepth 100000 in
set_option maxHeartbeats 4000000 in
theorem at_calls (b : Bd) (A : Option Addr) (n c : Nat) (l : List V) (p q : Int) (w : World) (hS : Sl w A n c l) : Calls Try.prog 9 #[bodyV b A n c, vecV p q] w (Ret (vecV (atX b l p q) (atY b l p q)) w) := by
  obtain ⟨W, hW⟩ : ∃ W, W = ((w.alloc (.cells #[.int .i64 b.px, .int .i64 b.py, .int .i64 b.vx, .int .i64 b.vy, .int .i64 b.ang, .int .i64 b.spin, .int .i64 b.mass, .int .i64 b.iner, .int .i64 b.bounce, .int .i64 b.rub, .slice A n c, .bool b.asleep, .int .i64 b.calm] 27)).alloc (.cells #[.int .i64 p, .int .i64 q] 24)).alloc (.cells #[.int .i64 0, .int .i64 0] 24) := ⟨_, rfl⟩
  have HK0 := hid (show BdAt W w.heap.size b A n c by rw [hW]; exact ((BdAt.here w b A n c _).alloc _).alloc _)
  have HZ0 := hid (show VZ W (w.heap.size + 2) by rw [hW]; have := VZ.here ((w.alloc (.cells #[.int .i64 b.px, .int .i64 b.py, .int .i64 b.vx, .int .i64 b.vy, .int .i64 b.ang, .int .i64 b.spin, .int .i64 b.mass, .int .i64 b.iner, .int .i64 b.bounce, .int .i64 b.rub, .slice A n c, .bool b.asleep, .int .i64 b.calm] 27)).alloc (.cells #[.int .i64 p, .int .i64 q] 24)) 0 0 24; simpa using this)
  have hB0 : Below w.heap.size w W := by rw [hW]; go_grown
  have HS0 := hid (hS.below hB0)
  have p0 : W.cell? ⟨w.heap.size + 1, 0, none⟩ = some (.int .i64 p) := by rw [hW]; go_simp
  have p1 : W.cell? ⟨w.heap.size + 1, 1, none⟩ = some (.int .i64 q) := by rw [hW]; go_simp
  clear hS
  obtain ⟨k0, k1, k2, k3, k4, k5, k6, k7, k8, k9, k10, k11, k12, kf⟩ := HK0.out
  go_enter Try.func9, Try.ntmps9
  go_wp2_with fail
  rw [← hW]
  clear hW
  refine (bcheck_calls b A n c l _ HS0.out).mono ?_
  rintro e w1 ⟨rfl, hb1⟩
  have HK1 := hid (keepBd hb1 HK0.out)
  have HZ1 := hid (keepVZ hb1 HZ0.out)
  have hB1 := keepBelow hb1 hB0
  replace p0 := keepCell hb1 p0
  replace p1 := keepCell hb1 p1
  clear hb1 HK0 HZ0 hB0 HS0 k0 k1 k2 k3 k4 k5 k6 k7 k8 k9 k10 k11 k12 kf
  by_cases hE : bodyE b l = 0
  · have HX : Hid (atX b l p q = subF b.vx (mulF (mulF b.spin 411775) (subF q b.py))) := by show _ = _; unfold atX; rw [if_neg (by simp [hE])]
    have HY : Hid (atY b l p q = addF b.vy (mulF (mulF b.spin 411775) (subF p b.px))) := by show _ = _; unfold atY; rw [if_neg (by simp [hE])]
    rw [hE]
    clear hE
    go_upto_region 3 with fail
    obtain ⟨rx, hrx⟩ : ∃ rx, rx = subF p b.px := ⟨_, rfl⟩
    obtain ⟨ry, hry⟩ : ∃ ry, ry = subF q b.py := ⟨_, rfl⟩
    obtain ⟨s, hs⟩ : ∃ s, s = mulF b.spin 411775 := ⟨_, rfl⟩
    go_cut [5, 6] from 11 to 17 (fun t u wx => ∃ gx : Nat, t = .pointer (some ⟨gx, 0, none⟩) ∧ u = .int .i64 (mulF b.spin 411775) ∧ wx.cell? ⟨gx, 0, none⟩ = some (.int .i64 (subF p b.px)) ∧ wx.cell? ⟨gx, 1, none⟩ = some (.int .i64 (subF q b.py)) ∧ BdAt wx w.heap.size b A n c ∧ VZ wx (w.heap.size + 2) ∧ Below w.heap.size w wx)
    case first =>
      refine wp_region_noPanic ?_
      refine wp_region_U (S := (S2 (fun w' => BdAt w' w.heap.size b A n c ∧ VZ w' (w.heap.size + 2) ∧ Below w.heap.size w w' ∧ w'.cell? ⟨w.heap.size + 1, 0, none⟩ = some (.int .i64 p) ∧ w'.cell? ⟨w.heap.size + 1, 1, none⟩ = some (.int .i64 q)))) (T := (fun j => [0, 0, 0, 0, 0, 0, 0, 0, 1].getD j 0)) (by kernel_rfl) (S2i0 ⟨HK1.out.drew, HZ1.out.drew, hB1.drew, p0, p1⟩) (fun hH => ?_)
      have hWr1 : Weaker (S2 (fun w' => BdAt w' w.heap.size b A n c ∧ VZ w' (w.heap.size + 2) ∧ Below w.heap.size w w' ∧ w'.cell? ⟨w.heap.size + 1, 0, none⟩ = some (.int .i64 p) ∧ w'.cell? ⟨w.heap.size + 1, 1, none⟩ = some (.int .i64 q))) := weaker2 _
      refine U_take 0 11 9 0 0 (v := ?vr1_1) rfl (by kernel_rfl) (by kernel_rfl) hWr1 (by kernel_rfl) (by kernel_rfl) (by kernel_rfl) (by kernel_rfl) (by kernel_rfl) (by kernel_rfl) (fun _ _ _ _ h => h) (by kernel_rfl) ?hyr1_1 (by omega) hH ?_
      case hyr1_1 => (intro w' hSw; replace hSw := S2o0 hSw; (try dsimp only at hSw); have q0 := hSw.1; have q1 := hSw.2.1; have q2 := hSw.2.2.1; have q3 := hSw.2.2.2.1; have q4 := hSw.2.2.2.2; obtain ⟨qa0_0, qa0_1, qa0_2, qa0_3, qa0_4, qa0_5, qa0_6, qa0_7, qa0_8, qa0_9, qa0_10, qa0_11, qa0_12, qa0_f⟩ := id q0; go_simp; try (with_reducible rfl))
      simp only [List.set_cons_zero, List.set_cons_succ]
      refine U_take 1 12 8 0 0 (v := ?vr1_2) rfl (by kernel_rfl) (by kernel_rfl) hWr1 (by kernel_rfl) (by kernel_rfl) (by kernel_rfl) (by kernel_rfl) (by kernel_rfl) (by kernel_rfl) (fun _ _ _ _ h => h) (by kernel_rfl) ?hyr1_2 (by omega) hH ?_
      case hyr1_2 => (intro w' hSw; clear hSw; go_simp; try (with_reducible rfl))
      simp only [List.set_cons_zero, List.set_cons_succ]
      refine U_take 2 13 7 0 0 (v := ?vr1_3) rfl (by kernel_rfl) (by kernel_rfl) hWr1 (by kernel_rfl) (by kernel_rfl) (by kernel_rfl) (by kernel_rfl) (by kernel_rfl) (by kernel_rfl) (fun _ _ _ _ h => h) (by kernel_rfl) ?hyr1_3 (by omega) hH ?_
      case hyr1_3 => (intro w' hSw; replace hSw := S2o0 hSw; (try dsimp only at hSw); have q0 := hSw.1; have q1 := hSw.2.1; have q2 := hSw.2.2.1; have q3 := hSw.2.2.2.1; have q4 := hSw.2.2.2.2; obtain ⟨qa0_0, qa0_1, qa0_2, qa0_3, qa0_4, qa0_5, qa0_6, qa0_7, qa0_8, qa0_9, qa0_10, qa0_11, qa0_12, qa0_f⟩ := id q0; go_simp; try (with_reducible rfl))
      simp only [List.set_cons_zero, List.set_cons_succ]
      refine U_take 4 15 6 0 0 (v := ?vr1_4) rfl (by kernel_rfl) (by kernel_rfl) hWr1 (by kernel_rfl) (by kernel_rfl) (by kernel_rfl) (by kernel_rfl) (by kernel_rfl) (by kernel_rfl) (fun _ _ _ _ h => h) (by kernel_rfl) ?hyr1_4 (by omega) hH ?_
      case hyr1_4 => (intro w' hSw; clear hSw; go_simp; try (with_reducible rfl))
      simp only [List.set_cons_zero, List.set_cons_succ]
      refine U_take 5 16 5 0 0 (v := ?vr1_5) rfl (by kernel_rfl) (by kernel_rfl) hWr1 (by kernel_rfl) (by kernel_rfl) (by kernel_rfl) (by kernel_rfl) (by kernel_rfl) (by kernel_rfl) (fun _ _ _ _ h => h) (by kernel_rfl) ?hyr1_5 (by omega) hH ?_
      case hyr1_5 => (intro w' hSw; replace hSw := S2o0 hSw; (try dsimp only at hSw); have q0 := hSw.1; have q1 := hSw.2.1; have q2 := hSw.2.2.1; have q3 := hSw.2.2.2.1; have q4 := hSw.2.2.2.2; obtain ⟨qa0_0, qa0_1, qa0_2, qa0_3, qa0_4, qa0_5, qa0_6, qa0_7, qa0_8, qa0_9, qa0_10, qa0_11, qa0_12, qa0_f⟩ := id q0; go_simp; try (with_reducible rfl))
      simp only [List.set_cons_zero, List.set_cons_succ]
      refine wpAnyU_ready (rs := [3, 7]) (by kernel_rfl) (by simp) ?_
      refine AllReadyU.cons 0 (by kernel_rfl) (o := _) rfl (fun K hK => ?_) ?_
      · try clear hb
        go_simp
        (go_at_call 21; refine (vsub_calls p q b.px b.py _).mono ?_; rintro e wn ⟨rfl, hb⟩; try (replace hT := keepVZ hb hT))
        refine hK.out _ _ ?hsr1_6 (fun hH2 => ?hrr1_6)
        case hsr1_6 => exact S2i0 (by have hG := hH; replace hG := S2o0 hG; (try dsimp only at hG); have q0 := hG.1; have q1 := hG.2.1; have q2 := hG.2.2.1; have q3 := hG.2.2.2.1; have q4 := hG.2.2.2.2; exact ⟨keepBd hb q0, keepVZ hb q1, keepBelow hb q2, keepCell hb q3, keepCell hb q4⟩)
        clear hK K hH
        have hH := hH2
        clear hH2
        try simp only [Act.put, List.setIfInBounds_toArray, List.set_cons_zero, List.set_cons_succ]
        refine wpAnyU_ready (rs := [6, 7]) (by kernel_rfl) (by simp) ?_
        refine AllReadyU.cons 0 (by kernel_rfl) (o := _) rfl (fun K hK => ?_) ?_
        · try clear hb
          go_simp
          (go_at_call 22; refine (fmul_calls b.spin 411775 _).mono ?_; rintro e wn ⟨rfl, hb⟩; try (replace hT := keepVZ hb hT))
          refine hK.out _ _ ?hsr1_7 (fun hH2 => ?hrr1_7)
          case hsr1_7 => exact S2i0 (by have hG := hH; replace hG := S2o0 hG; (try dsimp only at hG); have q0 := hG.1; have q1 := hG.2.1; have q2 := hG.2.2.1; have q3 := hG.2.2.2.1; have q4 := hG.2.2.2.2; exact ⟨keepBd hb q0, keepVZ hb q1, keepBelow hb q2, keepCell hb q3, keepCell hb q4⟩)
          clear hK K hH
          have hH := hH2
          clear hH2
          try simp only [Act.put, List.setIfInBounds_toArray, List.set_cons_zero, List.set_cons_succ]
          refine wpAnyU_ready (rs := [7]) (by kernel_rfl) (by simp) ?_
          refine AllReadyU.cons 0 (by kernel_rfl) (o := _) rfl (fun K hK => ?_) AllReadyU.nil
          try clear hb
          have hG := hH
          replace hG := S2o0 hG; (try dsimp only at hG); have q0 := hG.1; have q1 := hG.2.1; have q2 := hG.2.2.1; have q3 := hG.2.2.2.1; have q4 := hG.2.2.2.2
          go_simp
          refine hK.out _ _ ?hsr1_8 (fun hH2 => ?hrr1_8)
          case hsr1_8 => exact S2i0 (by have hG := hH; replace hG := S2o0 hG; (try dsimp only at hG); have q0 := hG.1; have q1 := hG.2.1; have q2 := hG.2.2.1; have q3 := hG.2.2.2.1; have q4 := hG.2.2.2.2; exact ⟨q0.alloc _, q1.alloc _, q2.alloc q2.size _, keepCell ((Below.refl _ _).alloc (Nat.le_refl _) _) q3, keepCell ((Below.refl _ _).alloc (Nat.le_refl _) _) q4⟩)
          clear hK K hH
          have hH := hH2
          clear hH2
          try simp only [Act.put, List.setIfInBounds_toArray, List.set_cons_zero, List.set_cons_succ]
          have hT : VZ (wn.alloc (.cells #[.int .i64 0, .int .i64 0] 24)) wn.heap.size := VZ.here _ _ _ _
          obtain ⟨gT, hgT⟩ : ∃ g, g = wn.heap.size := ⟨_, rfl⟩
          have hlT : w.heap.size + 2 < gT := by rw [hgT]; exact q1.lt
          rw [← hgT] at hT
          try rw [← hgT]
          clear hgT q0 q1 q2 q3 q4
          generalize wn.alloc (.cells #[.int .i64 0, .int .i64 0] 24) = wx7 at *
          refine wpAnyU_ready (rs := [8]) (by kernel_rfl) (by simp) ?_
          refine AllReadyU.cons 1 (by kernel_rfl) (o := _) rfl (fun K hK => ?_) AllReadyU.nil
          have hG := hH
          replace hG := S2o0 hG; (try dsimp only at hG); have q0 := hG.1; have q1 := hG.2.1; have q2 := hG.2.2.1; have q3 := hG.2.2.2.1; have q4 := hG.2.2.2.2
          obtain ⟨⟨z0, z1, y0, y1⟩, yf⟩ := hT
          go_simp
          refine hK.out _ _ ?hsr1_9 (fun hH2 => ?hrr1_9)
          case hsr1_9 => exact S2i1
          clear hK K hH
          have hH := hH2
          clear hH2
          try simp only [Act.put, List.setIfInBounds_toArray, List.set_cons_zero, List.set_cons_succ]
          refine U_take 9 6 0 1 1 (v := ?vr1_10) rfl (by kernel_rfl) (by kernel_rfl) hWr1 (by kernel_rfl) (by kernel_rfl) (by kernel_rfl) (by kernel_rfl) (by kernel_rfl) (by kernel_rfl) (fun _ _ _ _ h => h) (by kernel_rfl) ?hyr1_10 (by omega) hH ?_
          case hyr1_10 => (intro w' hSw; clear hSw; go_simp; try (with_reducible rfl))
          simp only [List.set_cons_zero, List.set_cons_succ]
          refine wpAnyU_done (by kernel_rfl) ?_ _ _
          refine NoPanic.normal ?_
          go_wp2_with fail
          go_meet
          refine ⟨gT, rfl, rfl, by go_simp, by go_simp, (q0.away _ _ _ (by omega)).away _ _ _ (by omega), (q1.set _ _).set _ _, by have := q2.size; go_grown⟩
        refine AllReadyU.cons 0 (by kernel_rfl) (o := _) rfl (fun K hK => ?_) ?_
        · try clear hb
          have hG := hH
          replace hG := S2o0 hG; (try dsimp only at hG); have q0 := hG.1; have q1 := hG.2.1; have q2 := hG.2.2.1; have q3 := hG.2.2.2.1; have q4 := hG.2.2.2.2
          go_simp
          refine hK.out _ _ ?hsr1_11 (fun hH2 => ?hrr1_11)
          case hsr1_11 => exact S2i0 (by have hG := hH; replace hG := S2o0 hG; (try dsimp only at hG); have q0 := hG.1; have q1 := hG.2.1; have q2 := hG.2.2.1; have q3 := hG.2.2.2.1; have q4 := hG.2.2.2.2; exact ⟨q0.alloc _, q1.alloc _, q2.alloc q2.size _, keepCell ((Below.refl _ _).alloc (Nat.le_refl _) _) q3, keepCell ((Below.refl _ _).alloc (Nat.le_refl _) _) q4⟩)
          clear hK K hH
          have hH := hH2
          clear hH2
          try simp only [Act.put, List.setIfInBounds_toArray, List.set_cons_zero, List.set_cons_succ]
          have hT : VZ (wn.alloc (.cells #[.int .i64 0, .int .i64 0] 24)) wn.heap.size := VZ.here _ _ _ _
          obtain ⟨gT, hgT⟩ : ∃ g, g = wn.heap.size := ⟨_, rfl⟩
          have hlT : w.heap.size + 2 < gT := by rw [hgT]; exact q1.lt
          rw [← hgT] at hT
          try rw [← hgT]
          clear hgT q0 q1 q2 q3 q4
          generalize wn.alloc (.cells #[.int .i64 0, .int .i64 0] 24) = wx7 at *
          refine wpAnyU_ready (rs := [6]) (by kernel_rfl) (by simp) ?_
          refine AllReadyU.cons 0 (by kernel_rfl) (o := _) rfl (fun K hK => ?_) AllReadyU.nil
          try clear hb
          go_simp
          (go_at_call 22; refine (fmul_calls b.spin 411775 _).mono ?_; rintro e wn ⟨rfl, hb⟩; try (replace hT := keepVZ hb hT))
          refine hK.out _ _ ?hsr1_12 (fun hH2 => ?hrr1_12)
          case hsr1_12 => exact S2i0 (by have hG := hH; replace hG := S2o0 hG; (try dsimp only at hG); have q0 := hG.1; have q1 := hG.2.1; have q2 := hG.2.2.1; have q3 := hG.2.2.2.1; have q4 := hG.2.2.2.2; exact ⟨keepBd hb q0, keepVZ hb q1, keepBelow hb q2, keepCell hb q3, keepCell hb q4⟩)
          clear hK K hH
          have hH := hH2
          clear hH2
          try simp only [Act.put, List.setIfInBounds_toArray, List.set_cons_zero, List.set_cons_succ]
          refine wpAnyU_ready (rs := [8]) (by kernel_rfl) (by simp) ?_
          refine AllReadyU.cons 1 (by kernel_rfl) (o := _) rfl (fun K hK => ?_) AllReadyU.nil
          have hG := hH
          replace hG := S2o0 hG; (try dsimp only at hG); have q0 := hG.1; have q1 := hG.2.1; have q2 := hG.2.2.1; have q3 := hG.2.2.2.1; have q4 := hG.2.2.2.2
          obtain ⟨⟨z0, z1, y0, y1⟩, yf⟩ := hT
          go_simp
          refine hK.out _ _ ?hsr1_13 (fun hH2 => ?hrr1_13)
          case hsr1_13 => exact S2i1
          clear hK K hH
          have hH := hH2
          clear hH2
          try simp only [Act.put, List.setIfInBounds_toArray, List.set_cons_zero, List.set_cons_succ]
          refine U_take 9 6 0 1 1 (v := ?vr1_14) rfl (by kernel_rfl) (by kernel_rfl) hWr1 (by kernel_rfl) (by kernel_rfl) (by kernel_rfl) (by kernel_rfl) (by kernel_rfl) (by kernel_rfl) (fun _ _ _ _ h => h) (by kernel_rfl) ?hyr1_14 (by omega) hH ?_
          case hyr1_14 => (intro w' hSw; clear hSw; go_simp; try (with_reducible rfl))
          simp only [List.set_cons_zero, List.set_cons_succ]
          refine wpAnyU_done (by kernel_rfl) ?_ _ _
          refine NoPanic.normal ?_
          go_wp2_with fail
          go_meet
          refine ⟨gT, rfl, rfl, by go_simp, by go_simp, (q0.away _ _ _ (by omega)).away _ _ _ (by omega), (q1.set _ _).set _ _, by have := q2.size; go_grown⟩
        exact AllReadyU.nil
      refine AllReadyU.cons 0 (by kernel_rfl) (o := _) rfl (fun K hK => ?_) ?_
      · try clear hb
        have hG := hH
        replace hG := S2o0 hG; (try dsimp only at hG); have q0 := hG.1; have q1 := hG.2.1; have q2 := hG.2.2.1; have q3 := hG.2.2.2.1; have q4 := hG.2.2.2.2
        go_simp
        refine hK.out _ _ ?hsr1_15 (fun hH2 => ?hrr1_15)
        case hsr1_15 => exact S2i0 (by have hG := hH; replace hG := S2o0 hG; (try dsimp only at hG); have q0 := hG.1; have q1 := hG.2.1; have q2 := hG.2.2.1; have q3 := hG.2.2.2.1; have q4 := hG.2.2.2.2; exact ⟨q0.alloc _, q1.alloc _, q2.alloc q2.size _, keepCell ((Below.refl _ _).alloc (Nat.le_refl _) _) q3, keepCell ((Below.refl _ _).alloc (Nat.le_refl _) _) q4⟩)
        clear hK K hH
        have hH := hH2
        clear hH2
        try simp only [Act.put, List.setIfInBounds_toArray, List.set_cons_zero, List.set_cons_succ]
        have hT : VZ ((w1.alloc (.cells #[.int .i64 0, .int .i64 0] 24)).drew) w1.heap.size := (VZ.here _ _ _ _).drew
        obtain ⟨gT, hgT⟩ : ∃ g, g = w1.heap.size := ⟨_, rfl⟩
        have hlT : w.heap.size + 2 < gT := by rw [hgT]; exact q1.lt
        rw [← hgT] at hT
        try rw [← hgT]
        clear hgT q0 q1 q2 q3 q4
        generalize (w1.alloc (.cells #[.int .i64 0, .int .i64 0] 24)).drew = wx7 at *
        refine wpAnyU_ready (rs := [3]) (by kernel_rfl) (by simp) ?_
        refine AllReadyU.cons 0 (by kernel_rfl) (o := _) rfl (fun K hK => ?_) AllReadyU.nil
        try clear hb
        go_simp
        (go_at_call 21; refine (vsub_calls p q b.px b.py _).mono ?_; rintro e wn ⟨rfl, hb⟩; try (replace hT := keepVZ hb hT))
        refine hK.out _ _ ?hsr1_16 (fun hH2 => ?hrr1_16)
        case hsr1_16 => exact S2i0 (by have hG := hH; replace hG := S2o0 hG; (try dsimp only at hG); have q0 := hG.1; have q1 := hG.2.1; have q2 := hG.2.2.1; have q3 := hG.2.2.2.1; have q4 := hG.2.2.2.2; exact ⟨keepBd hb q0, keepVZ hb q1, keepBelow hb q2, keepCell hb q3, keepCell hb q4⟩)
        clear hK K hH
        have hH := hH2
        clear hH2
        try simp only [Act.put, List.setIfInBounds_toArray, List.set_cons_zero, List.set_cons_succ]
        refine wpAnyU_ready (rs := [6]) (by kernel_rfl) (by simp) ?_
        refine AllReadyU.cons 0 (by kernel_rfl) (o := _) rfl (fun K hK => ?_) AllReadyU.nil
        try clear hb
        go_simp
        (go_at_call 22; refine (fmul_calls b.spin 411775 _).mono ?_; rintro e wn ⟨rfl, hb⟩; try (replace hT := keepVZ hb hT))
        refine hK.out _ _ ?hsr1_17 (fun hH2 => ?hrr1_17)
        case hsr1_17 => exact S2i0 (by have hG := hH; replace hG := S2o0 hG; (try dsimp only at hG); have q0 := hG.1; have q1 := hG.2.1; have q2 := hG.2.2.1; have q3 := hG.2.2.2.1; have q4 := hG.2.2.2.2; exact ⟨keepBd hb q0, keepVZ hb q1, keepBelow hb q2, keepCell hb q3, keepCell hb q4⟩)
        clear hK K hH
        have hH := hH2
        clear hH2
        try simp only [Act.put, List.setIfInBounds_toArray, List.set_cons_zero, List.set_cons_succ]
        refine wpAnyU_ready (rs := [8]) (by kernel_rfl) (by simp) ?_
        refine AllReadyU.cons 1 (by kernel_rfl) (o := _) rfl (fun K hK => ?_) AllReadyU.nil
        have hG := hH
        replace hG := S2o0 hG; (try dsimp only at hG); have q0 := hG.1; have q1 := hG.2.1; have q2 := hG.2.2.1; have q3 := hG.2.2.2.1; have q4 := hG.2.2.2.2
        obtain ⟨⟨z0, z1, y0, y1⟩, yf⟩ := hT
        go_simp
        refine hK.out _ _ ?hsr1_18 (fun hH2 => ?hrr1_18)
        case hsr1_18 => exact S2i1
        clear hK K hH
        have hH := hH2
        clear hH2
        try simp only [Act.put, List.setIfInBounds_toArray, List.set_cons_zero, List.set_cons_succ]
        refine U_take 9 6 0 1 1 (v := ?vr1_19) rfl (by kernel_rfl) (by kernel_rfl) hWr1 (by kernel_rfl) (by kernel_rfl) (by kernel_rfl) (by kernel_rfl) (by kernel_rfl) (by kernel_rfl) (fun _ _ _ _ h => h) (by kernel_rfl) ?hyr1_19 (by omega) hH ?_
        case hyr1_19 => (intro w' hSw; clear hSw; go_simp; try (with_reducible rfl))
        simp only [List.set_cons_zero, List.set_cons_succ]
        refine wpAnyU_done (by kernel_rfl) ?_ _ _
        refine NoPanic.normal ?_
        go_wp2_with fail
        go_meet
        refine ⟨gT, rfl, rfl, by go_simp, by go_simp, (q0.away _ _ _ (by omega)).away _ _ _ (by omega), (q1.set _ _).set _ _, by have := q2.size; go_grown⟩
      exact AllReadyU.nil
    case rest =>
      obtain ⟨gx, rfl, rfl, e0, e1, hKx, hZx, hBx⟩ := hcut
      have HKx := hid hKx
      have HZx := hid hZx
      clear hKx hZx HK1 HZ1 hB1 p0 p1
      rw [← hrx] at e0
      rw [← hry] at e1
      rw [← hs]
      have HRS := hid (And.intro hrx (And.intro hry hs))
      clear hrx hry hs
      go_wp2_with fail
      refine wp_region_noPanic ?_
      refine wp_region_U (S := (S2 (fun w' => BdAt w' w.heap.size b A n c ∧ VZ w' (w.heap.size + 2) ∧ Below w.heap.size w w' ∧ w'.cell? ⟨gx, 0, none⟩ = some (.int .i64 rx) ∧ w'.cell? ⟨gx, 1, none⟩ = some (.int .i64 ry)))) (T := (fun j => [0, 0, 0, 0, 0, 0, 0, 0, 0, 0, 0, 0, 0, 0, 0, 0, 0, 1].getD j 0)) (by kernel_rfl) (S2i0 ⟨HKx.out.drew, HZx.out.drew, hBx.drew, e0, e1⟩) (fun hH => ?_)
      have hWr2 : Weaker (S2 (fun w' => BdAt w' w.heap.size b A n c ∧ VZ w' (w.heap.size + 2) ∧ Below w.heap.size w w' ∧ w'.cell? ⟨gx, 0, none⟩ = some (.int .i64 rx) ∧ w'.cell? ⟨gx, 1, none⟩ = some (.int .i64 ry))) := weaker2 _
      refine U_take 0 18 17 0 0 (v := ?vr2_1) rfl (by kernel_rfl) (by kernel_rfl) hWr2 (by kernel_rfl) (by kernel_rfl) (by kernel_rfl) (by kernel_rfl) (by kernel_rfl) (by kernel_rfl) (fun _ _ _ _ h => h) (by kernel_rfl) ?hyr2_1 (by omega) hH ?_
      case hyr2_1 => (intro w' hSw; clear hSw; go_simp; try (with_reducible rfl))
      simp only [List.set_cons_zero, List.set_cons_succ]
      refine U_take 1 19 16 0 0 (v := ?vr2_2) rfl (by kernel_rfl) (by kernel_rfl) hWr2 (by kernel_rfl) (by kernel_rfl) (by kernel_rfl) (by kernel_rfl) (by kernel_rfl) (by kernel_rfl) (fun _ _ _ _ h => h) (by kernel_rfl) ?hyr2_2 (by omega) hH ?_
      case hyr2_2 => (intro w' hSw; clear hSw; go_simp; try (with_reducible rfl))
      simp only [List.set_cons_zero, List.set_cons_succ]
      refine U_take 2 20 15 0 0 (v := ?vr2_3) rfl (by kernel_rfl) (by kernel_rfl) hWr2 (by kernel_rfl) (by kernel_rfl) (by kernel_rfl) (by kernel_rfl) (by kernel_rfl) (by kernel_rfl) (fun _ _ _ _ h => h) (by kernel_rfl) ?hyr2_3 (by omega) hH ?_
      case hyr2_3 => (intro w' hSw; replace hSw := S2o0 hSw; (try dsimp only at hSw); have q0 := hSw.1; have q1 := hSw.2.1; have q2 := hSw.2.2.1; have q3 := hSw.2.2.2.1; have q4 := hSw.2.2.2.2; obtain ⟨qa0_0, qa0_1, qa0_2, qa0_3, qa0_4, qa0_5, qa0_6, qa0_7, qa0_8, qa0_9, qa0_10, qa0_11, qa0_12, qa0_f⟩ := id q0; go_simp; try (with_reducible rfl))
      simp only [List.set_cons_zero, List.set_cons_succ]
      refine U_take 3 21 14 0 0 (v := ?vr2_4) rfl (by kernel_rfl) (by kernel_rfl) hWr2 (by kernel_rfl) (by kernel_rfl) (by kernel_rfl) (by kernel_rfl) (by kernel_rfl) (by kernel_rfl) (fun _ _ _ _ h => h) (by kernel_rfl) ?hyr2_4 (by omega) hH ?_
      case hyr2_4 => (intro w' hSw; clear hSw; go_simp; try (with_reducible rfl))
      simp only [List.set_cons_zero, List.set_cons_succ]
      refine U_take 4 22 13 0 0 (v := ?vr2_5) rfl (by kernel_rfl) (by kernel_rfl) hWr2 (by kernel_rfl) (by kernel_rfl) (by kernel_rfl) (by kernel_rfl) (by kernel_rfl) (by kernel_rfl) (fun _ _ _ _ h => h) (by kernel_rfl) ?hyr2_5 (by omega) hH ?_
      case hyr2_5 => (intro w' hSw; clear hSw; go_simp; try (with_reducible rfl))
      simp only [List.set_cons_zero, List.set_cons_succ]
      refine U_take 5 23 12 0 0 (v := ?vr2_6) rfl (by kernel_rfl) (by kernel_rfl) hWr2 (by kernel_rfl) (by kernel_rfl) (by kernel_rfl) (by kernel_rfl) (by kernel_rfl) (by kernel_rfl) (fun _ _ _ _ h => h) (by kernel_rfl) ?hyr2_6 (by omega) hH ?_
      case hyr2_6 => (intro w' hSw; replace hSw := S2o0 hSw; (try dsimp only at hSw); have q0 := hSw.1; have q1 := hSw.2.1; have q2 := hSw.2.2.1; have q3 := hSw.2.2.2.1; have q4 := hSw.2.2.2.2; obtain ⟨qa0_0, qa0_1, qa0_2, qa0_3, qa0_4, qa0_5, qa0_6, qa0_7, qa0_8, qa0_9, qa0_10, qa0_11, qa0_12, qa0_f⟩ := id q0; go_simp; try (with_reducible rfl))
      simp only [List.set_cons_zero, List.set_cons_succ]
      refine U_take 8 26 11 0 0 (v := ?vr2_7) rfl (by kernel_rfl) (by kernel_rfl) hWr2 (by kernel_rfl) (by kernel_rfl) (by kernel_rfl) (by kernel_rfl) (by kernel_rfl) (by kernel_rfl) (fun _ _ _ _ h => h) (by kernel_rfl) ?hyr2_7 (by omega) hH ?_
      case hyr2_7 => (intro w' hSw; clear hSw; go_simp; try (with_reducible rfl))
      simp only [List.set_cons_zero, List.set_cons_succ]
      refine U_take 9 27 10 0 0 (v := ?vr2_8) rfl (by kernel_rfl) (by kernel_rfl) hWr2 (by kernel_rfl) (by kernel_rfl) (by kernel_rfl) (by kernel_rfl) (by kernel_rfl) (by kernel_rfl) (fun _ _ _ _ h => h) (by kernel_rfl) ?hyr2_8 (by omega) hH ?_
      case hyr2_8 => (intro w' hSw; clear hSw; go_simp; try (with_reducible rfl))
      simp only [List.set_cons_zero, List.set_cons_succ]
      refine U_take 10 28 9 0 0 (v := ?vr2_9) rfl (by kernel_rfl) (by kernel_rfl) hWr2 (by kernel_rfl) (by kernel_rfl) (by kernel_rfl) (by kernel_rfl) (by kernel_rfl) (by kernel_rfl) (fun _ _ _ _ h => h) (by kernel_rfl) ?hyr2_9 (by omega) hH ?_
      case hyr2_9 => (intro w' hSw; replace hSw := S2o0 hSw; (try dsimp only at hSw); have q0 := hSw.1; have q1 := hSw.2.1; have q2 := hSw.2.2.1; have q3 := hSw.2.2.2.1; have q4 := hSw.2.2.2.2; obtain ⟨qa0_0, qa0_1, qa0_2, qa0_3, qa0_4, qa0_5, qa0_6, qa0_7, qa0_8, qa0_9, qa0_10, qa0_11, qa0_12, qa0_f⟩ := id q0; go_simp; try (with_reducible rfl))
      simp only [List.set_cons_zero, List.set_cons_succ]
      refine U_take 11 29 8 0 0 (v := ?vr2_10) rfl (by kernel_rfl) (by kernel_rfl) hWr2 (by kernel_rfl) (by kernel_rfl) (by kernel_rfl) (by kernel_rfl) (by kernel_rfl) (by kernel_rfl) (fun _ _ _ _ h => h) (by kernel_rfl) ?hyr2_10 (by omega) hH ?_
      case hyr2_10 => (intro w' hSw; clear hSw; go_simp; try (with_reducible rfl))
      simp only [List.set_cons_zero, List.set_cons_succ]
      refine U_take 12 30 7 0 0 (v := ?vr2_11) rfl (by kernel_rfl) (by kernel_rfl) hWr2 (by kernel_rfl) (by kernel_rfl) (by kernel_rfl) (by kernel_rfl) (by kernel_rfl) (by kernel_rfl) (fun _ _ _ _ h => h) (by kernel_rfl) ?hyr2_11 (by omega) hH ?_
      case hyr2_11 => (intro w' hSw; clear hSw; go_simp; try (with_reducible rfl))
      simp only [List.set_cons_zero, List.set_cons_succ]
      refine U_take 13 31 6 0 0 (v := ?vr2_12) rfl (by kernel_rfl) (by kernel_rfl) hWr2 (by kernel_rfl) (by kernel_rfl) (by kernel_rfl) (by kernel_rfl) (by kernel_rfl) (by kernel_rfl) (fun _ _ _ _ h => h) (by kernel_rfl) ?hyr2_12 (by omega) hH ?_
      case hyr2_12 => (intro w' hSw; replace hSw := S2o0 hSw; (try dsimp only at hSw); have q0 := hSw.1; have q1 := hSw.2.1; have q2 := hSw.2.2.1; have q3 := hSw.2.2.2.1; have q4 := hSw.2.2.2.2; obtain ⟨qa0_0, qa0_1, qa0_2, qa0_3, qa0_4, qa0_5, qa0_6, qa0_7, qa0_8, qa0_9, qa0_10, qa0_11, qa0_12, qa0_f⟩ := id q0; go_simp; try (with_reducible rfl))
      simp only [List.set_cons_zero, List.set_cons_succ]
      refine wpAnyU_ready (rs := [6]) (by kernel_rfl) (by simp) ?_
      refine AllReadyU.cons 0 (by kernel_rfl) (o := _) rfl (fun K hK => ?_) AllReadyU.nil
      try clear hb
      go_simp
      (go_at_call 22; refine (fmul_calls s ry _).mono ?_; rintro e wn ⟨rfl, hb⟩; try (replace hT := keepVZ hb hT))
      refine hK.out _ _ ?hsr2_13 (fun hH2 => ?hrr2_13)
      case hsr2_13 => exact S2i0 (by have hG := hH; replace hG := S2o0 hG; (try dsimp only at hG); have q0 := hG.1; have q1 := hG.2.1; have q2 := hG.2.2.1; have q3 := hG.2.2.2.1; have q4 := hG.2.2.2.2; exact ⟨keepBd hb q0, keepVZ hb q1, keepBelow hb q2, keepCell hb q3, keepCell hb q4⟩)
      clear hK K hH
      have hH := hH2
      clear hH2
      try simp only [Act.put, List.setIfInBounds_toArray, List.set_cons_zero, List.set_cons_succ]
      refine wpAnyU_ready (rs := [7]) (by kernel_rfl) (by simp) ?_
      refine AllReadyU.cons 0 (by kernel_rfl) (o := _) rfl (fun K hK => ?_) AllReadyU.nil
      try clear hb
      go_simp
      (go_at_call 23; refine (fsub_calls b.vx (mulF s ry) _).mono ?_; rintro e wn ⟨rfl, hb⟩; try (replace hT := keepVZ hb hT))
      refine hK.out _ _ ?hsr2_14 (fun hH2 => ?hrr2_14)
      case hsr2_14 => exact S2i0 (by have hG := hH; replace hG := S2o0 hG; (try dsimp only at hG); have q0 := hG.1; have q1 := hG.2.1; have q2 := hG.2.2.1; have q3 := hG.2.2.2.1; have q4 := hG.2.2.2.2; exact ⟨keepBd hb q0, keepVZ hb q1, keepBelow hb q2, keepCell hb q3, keepCell hb q4⟩)
      clear hK K hH
      have hH := hH2
      clear hH2
      try simp only [Act.put, List.setIfInBounds_toArray, List.set_cons_zero, List.set_cons_succ]
      refine wpAnyU_ready (rs := [14]) (by kernel_rfl) (by simp) ?_
      refine AllReadyU.cons 0 (by kernel_rfl) (o := _) rfl (fun K hK => ?_) AllReadyU.nil
      try clear hb
      go_simp
      (go_at_call 22; refine (fmul_calls s rx _).mono ?_; rintro e wn ⟨rfl, hb⟩; try (replace hT := keepVZ hb hT))
      refine hK.out _ _ ?hsr2_15 (fun hH2 => ?hrr2_15)
      case hsr2_15 => exact S2i0 (by have hG := hH; replace hG := S2o0 hG; (try dsimp only at hG); have q0 := hG.1; have q1 := hG.2.1; have q2 := hG.2.2.1; have q3 := hG.2.2.2.1; have q4 := hG.2.2.2.2; exact ⟨keepBd hb q0, keepVZ hb q1, keepBelow hb q2, keepCell hb q3, keepCell hb q4⟩)
      clear hK K hH
      have hH := hH2
      clear hH2
      try simp only [Act.put, List.setIfInBounds_toArray, List.set_cons_zero, List.set_cons_succ]
      refine wpAnyU_ready (rs := [15]) (by kernel_rfl) (by simp) ?_
      refine AllReadyU.cons 0 (by kernel_rfl) (o := _) rfl (fun K hK => ?_) AllReadyU.nil
      try clear hb
      go_simp
      (go_at_call 24; refine (fadd_calls b.vy (mulF s rx) _).mono ?_; rintro e wn ⟨rfl, hb⟩; try (replace hT := keepVZ hb hT))
      refine hK.out _ _ ?hsr2_16 (fun hH2 => ?hrr2_16)
      case hsr2_16 => exact S2i0 (by have hG := hH; replace hG := S2o0 hG; (try dsimp only at hG); have q0 := hG.1; have q1 := hG.2.1; have q2 := hG.2.2.1; have q3 := hG.2.2.2.1; have q4 := hG.2.2.2.2; exact ⟨keepBd hb q0, keepVZ hb q1, keepBelow hb q2, keepCell hb q3, keepCell hb q4⟩)
      clear hK K hH
      have hH := hH2
      clear hH2
      try simp only [Act.put, List.setIfInBounds_toArray, List.set_cons_zero, List.set_cons_succ]
      refine U_take 16 34 1 0 0 (v := ?vr2_17) rfl (by kernel_rfl) (by kernel_rfl) hWr2 (by kernel_rfl) (by kernel_rfl) (by kernel_rfl) (by kernel_rfl) (by kernel_rfl) (by kernel_rfl) (fun _ _ _ _ h => h) (by kernel_rfl) ?hyr2_17 (by omega) hH ?_
      case hyr2_17 => (intro w' hSw; clear hSw; go_simp; try (with_reducible rfl))
      simp only [List.set_cons_zero, List.set_cons_succ]
      refine wpAnyU_ready (rs := [17]) (by kernel_rfl) (by simp) ?_
      refine AllReadyU.cons 1 (by kernel_rfl) (o := _) rfl (fun K hK => ?_) AllReadyU.nil
      have hG := hH
      replace hG := S2o0 hG; (try dsimp only at hG); have q0 := hG.1; have q1 := hG.2.1; have q2 := hG.2.2.1; have q3 := hG.2.2.2.1; have q4 := hG.2.2.2.2
      obtain ⟨⟨z0, z1, y0, y1⟩, yf⟩ := q1
      have hB9 := q2
      go_simp
      refine hK.out _ _ ?hsr2_18 (fun hH2 => ?hrr2_18)
      case hsr2_18 => exact S2i1
      clear hK K hH
      have hH := hH2
      clear hH2
      try simp only [Act.put, List.setIfInBounds_toArray, List.set_cons_zero, List.set_cons_succ]
      refine wpAnyU_done (by kernel_rfl) ?_ _ _
      refine NoPanic.normal ?_
      go_wp2
      refine bodyPost_ret (v := vecV (subF b.vx (mulF s ry)) (addF b.vy (mulF s rx))) (by simp [results, Try.results9, go_sem, y0, y1]) rfl ⟨by rw [HX.out, HY.out, HRS.out.1, HRS.out.2.1, HRS.out.2.2], by go_grown⟩
  · have hne : (bodyE b l != 0) = true := by simp [hE]
    have HX : Hid (atX b l p q = 0) := by show _ = _; unfold atX; rw [if_pos hE]
    have HY : Hid (atY b l p q = 0) := by show _ = _; unfold atY; rw [if_pos hE]
    obtain ⟨⟨z0, z1, y0, y1⟩, yf⟩ := HZ1.out
    go_wp2
    refine bodyPost_ret (v := vecV 0 0) (by simp [results, Try.results9, go_sem, y0, y1]) rfl ⟨by rw [HX.out, HY.out], by go_grown⟩
end
end Go.Proofs.Ytkiiehobphkmgaa
