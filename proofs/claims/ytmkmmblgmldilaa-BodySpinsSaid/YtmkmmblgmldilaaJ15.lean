/- The walk of BodySpins. -/
import Derived.Test.YtmkmmblgmldilaaM14
import Derived.Test.YtmkmmblgmldilaaJ11
import Derived.BigQuiet
namespace Go.Proofs.Ytmkmmblgmldilaa
set_option linter.unusedVariables false
set_option linter.unusedSimpArgs false
open Go.RowKit

/-- what lies in memory behind the two velocities -/
def SpinsEnd (b : Bd) (A1 : Option Addr) (n1 c1 gb g9 : Nat) (w : World) (v1 v2 u1 u2 : Int) (t u : Value) (wx : World) : Prop :=
  ∃ gT gU : Nat, t = .pointer (some ⟨gT, 0, none⟩) ∧ u = .pointer (some ⟨gU, 0, none⟩) ∧ wx.cell? ⟨gT, 0, none⟩ = some (.int .i64 v1) ∧ wx.cell? ⟨gT, 1, none⟩ = some (.int .i64 v2) ∧ wx.cell? ⟨gU, 0, none⟩ = some (.int .i64 u1) ∧ wx.cell? ⟨gU, 1, none⟩ = some (.int .i64 u2) ∧ BdAt wx gb b A1 n1 c1 ∧ wx.cell? ⟨g9, 0, none⟩ = some (.int .i64 b.vx) ∧ wx.cell? ⟨g9, 1, none⟩ = some (.int .i64 b.vy) ∧ Below w.heap.size w wx
theorem spins_end {b : Bd} {A1 : Option Addr} {n1 c1 gb g9 gT gU : Nat} {w w' : World} {v1 v2 u1 u2 : Int} (hgb : gb < g9) (hT : g9 < gT) (hU : g9 < gU) (hne : gT ≠ gU) (hw : w.heap.size ≤ gb)
    (q0 : BdAt w' gb b A1 n1 c1) (q4 : w'.cell? ⟨g9, 0, none⟩ = some (.int .i64 b.vx)) (q5 : w'.cell? ⟨g9, 1, none⟩ = some (.int .i64 b.vy)) (q6 : Below w.heap.size w w') (HT : VZ w' gT) (HU : VZ w' gU) :
    SpinsEnd b A1 n1 c1 gb g9 w v1 v2 u1 u2 (.pointer (some ⟨gT, 0, none⟩)) (.pointer (some ⟨gU, 0, none⟩)) ((((w'.setCell ⟨gT, 0, none⟩ (.int .i64 v1)).setCell ⟨gT, 1, none⟩ (.int .i64 v2)).setCell ⟨gU, 0, none⟩ (.int .i64 u1)).setCell ⟨gU, 1, none⟩ (.int .i64 u2)) := by
  obtain ⟨⟨z0, z1, y0, y1⟩, yf⟩ := HT
  obtain ⟨⟨x0, x1, t0, t1⟩, tf⟩ := HU
  have hn2 : ¬ gU = gT := fun h => hne h.symm
  refine ⟨gT, gU, rfl, rfl, by go_simp, by go_simp, by go_simp, by go_simp, (((q0.far _ _ _ (by omega)).far _ _ _ (by omega)).far _ _ _ (by omega)).far _ _ _ (by omega), by go_simp, by go_simp, by go_grown⟩

set_option maxRecDepth 100000 in
set_option maxHeartbeats 16000000 in
theorem bodySpins_walk (A : Option Addr) (n c : Nat) (r : List Int) (X Y : Int) (w : World) (hS : SlI w A n c r) :
    Calls Try.prog 5 #[.slice A n c, .int .i64 X, .int .i64 Y] w (Ret (.bool true) w) := by
  obtain ⟨x, hx⟩ : ∃ a, a = X % 1572864 - 786432 := ⟨_, rfl⟩
  obtain ⟨y, hy⟩ : ∃ a, a = Y % 1572864 - 786432 := ⟨_, rfl⟩
  have bx : -786432 ≤ x ∧ x ≤ 786432 := by omega
  have by_ : -786432 ≤ y ∧ y ≤ 786432 := by omega
  have EX := hid hx
  have EY := hid hy
  have HSI := hid hS
  clear hS hx hy
  go_enter Try.func5, Try.ntmps5
  go_wp2_with fail
  refine (mBody_calls _ _ _ r _ HSI.out).mono ?_
  rintro e w1 ⟨b, l, A1, n1, c1, rfl, hmb, hml, hs1, hf1, hb1⟩
  have HL := hid (spinLaw hmb hml bx by_)
  obtain ⟨v1, hv1⟩ : ∃ v, v = atX b l (addF b.px x) (addF b.py y) := ⟨_, rfl⟩
  obtain ⟨v2, hv2⟩ : ∃ v, v = atY b l (addF b.px x) (addF b.py y) := ⟨_, rfl⟩
  obtain ⟨u1, hu1⟩ : ∃ v, v = atX b l (subF b.px x) (subF b.py y) := ⟨_, rfl⟩
  obtain ⟨u2, hu2⟩ : ∃ v, v = atY b l (subF b.px x) (subF b.py y) := ⟨_, rfl⟩
  have HA0 : Hid (∀ (w : World) (A : Option Addr) (n c : Nat), Sl w A n c l → Calls Try.prog 29 #[bodyV b A n c, vecV b.px b.py] w (Ret (vecV b.vx b.vy) w)) := fun w A n c h => by
    have := at_calls b A n c l b.px b.py w h
    rwa [HL.out.ax, HL.out.ay] at this
  have HA1 : Hid (∀ (w : World) (A : Option Addr) (n c : Nat), Sl w A n c l → Calls Try.prog 29 #[bodyV b A n c, vecV (addF b.px x) (addF b.py y)] w (Ret (vecV v1 v2) w)) := fun w A n c h => by
    have := at_calls b A n c l (addF b.px x) (addF b.py y) w h
    rwa [← hv1, ← hv2] at this
  have HA2 : Hid (∀ (w : World) (A : Option Addr) (n c : Nat), Sl w A n c l → Calls Try.prog 29 #[bodyV b A n c, vecV (subF b.px x) (subF b.py y)] w (Ret (vecV u1 u2) w)) := fun w A n c h => by
    have := at_calls b A n c l (subF b.px x) (subF b.py y) w h
    rwa [← hu1, ← hu2] at this
  have HD : Hid ((-400000 ≤ b.vx ∧ b.vx ≤ 400000) ∧ (-400000 ≤ b.vy ∧ b.vy ≤ 400000) ∧ (-100000000 ≤ v1 ∧ v1 ≤ 100000000) ∧ (-100000000 ≤ v2 ∧ v2 ≤ 100000000) ∧ (-100000000 ≤ u1 ∧ u1 ≤ 100000000) ∧ (-100000000 ≤ u2 ∧ u2 ≤ 100000000) ∧ (-1 ≤ v1 + u1 - 2 * b.vx ∧ v1 + u1 - 2 * b.vx ≤ 1) ∧ (-1 ≤ v2 + u2 - 2 * b.vy ∧ v2 + u2 - 2 * b.vy ≤ 1)) := by
    have L := HL.out
    rw [hv1, hv2, hu1, hu2]
    exact ⟨L.bx, L.bY, L.vx, L.vy, L.wx, L.wy, L.dx, L.dy⟩
  have HNE1 : Hid (∀ bx off, A1 = some ⟨bx, off, none⟩ → bx < w1.heap.size) := fun bx off e => by
    by_cases h : l = []
    · have := (made_len hml).1; rw [h] at this; simp at this
    · obtain ⟨b2, off2, e2, hc2⟩ := hs1.at_ h; rw [e] at e2; cases e2; exact hc2.lt
  have HS1 := hid hs1
  clear hmb hml hs1 hf1 hv1 hv2 hu1 hu2 HL HSI
  go_wp2_with fail
  refine (place_calls X Y _).mono ?_
  rintro e w2 ⟨rfl, hb2⟩
  rw [← EX.out, ← EY.out]
  have hB2 := keepBelow hb2 hb1
  have hwa := hb1.size
  have hwb := hb2.size
  have HS2 := hid (HS1.out.below hb2)
  clear hb1 hb2 HS1
  obtain ⟨wd, hwd⟩ : ∃ wd, wd = (w2.alloc (.cells #[.int .i64 b.px, .int .i64 b.py, .int .i64 b.vx, .int .i64 b.vy, .int .i64 b.ang, .int .i64 b.spin, .int .i64 b.mass, .int .i64 b.iner, .int .i64 b.bounce, .int .i64 b.rub, .slice A1 n1 c1, .bool b.asleep, .int .i64 b.calm] 39)).alloc (.cells #[.int .i64 x, .int .i64 y] 34) := ⟨_, rfl⟩
  obtain ⟨gb, hgb⟩ : ∃ gb, gb = w2.heap.size := ⟨_, rfl⟩
  have HNE : Hid (∀ bx off, A1 = some ⟨bx, off, none⟩ → bx < gb) := fun bx off e => by have := HNE1.out bx off e; omega
  have hw0 : w.heap.size ≤ gb := by omega
  have HK := hid (show BdAt wd gb b A1 n1 c1 by rw [hwd, hgb]; exact (BdAt.here w2 b A1 n1 c1 _).alloc _)
  have HS := hid (show Sl wd A1 n1 c1 l by rw [hwd]; exact (HS2.out.alloc _).alloc _)
  have hB : Below w.heap.size w wd := by rw [hwd]; have := hB2.size; go_grown
  have j0 : wd.cell? ⟨gb + 1, 0, none⟩ = some (.int .i64 x) := by rw [hwd, hgb]; go_simp
  have j1 : wd.cell? ⟨gb + 1, 1, none⟩ = some (.int .i64 y) := by rw [hwd, hgb]; go_simp
  clear HS2 hB2 HNE1 hwa hwb
  go_upto_region 2 with fail
  rw [← hwd, ← hgb]
  clear hwd hgb
  obtain ⟨k0, k1, k2, k3, k4, k5, k6, k7, k8, k9, k10, k11, k12, kf⟩ := HK.out
  go_wp2_with fail
  refine (HA0.out _ _ _ _ HS.out).mono ?_
  rintro e w3 ⟨rfl, hb3⟩
  have HKa := hid (keepBd hb3 HK.out)
  have HSa := hid (keepSl hb3 HS.out)
  have hBa := keepBelow hb3 hB
  replace j0 := keepCell hb3 j0
  replace j1 := keepCell hb3 j1
  clear hb3 HK HS hB HA0 k0 k1 k2 k3 k4 k5 k6 k7 k8 k9 k10 k11 k12 kf
  obtain ⟨wy, hwy⟩ : ∃ wy, wy = w3.alloc (.cells #[.int .i64 b.vx, .int .i64 b.vy] 34) := ⟨_, rfl⟩
  obtain ⟨g9, hg9e⟩ : ∃ g9, g9 = w3.heap.size := ⟨_, rfl⟩
  have hg9 : gb + 1 < g9 := by rw [hg9e]; exact lt_of_cell j0
  have HK := hid (show BdAt wy gb b A1 n1 c1 by rw [hwy]; exact HKa.out.alloc _)
  have HS := hid (show Sl wy A1 n1 c1 l by rw [hwy]; exact HSa.out.alloc _)
  have hB : Below w.heap.size w wy := by rw [hwy]; exact hBa.alloc hBa.size _
  replace j0 : wy.cell? ⟨gb + 1, 0, none⟩ = some (.int .i64 x) := by rw [hwy]; exact keepCell ((Below.refl _ _).alloc (Nat.le_refl _) _) j0
  replace j1 : wy.cell? ⟨gb + 1, 1, none⟩ = some (.int .i64 y) := by rw [hwy]; exact keepCell ((Below.refl _ _).alloc (Nat.le_refl _) _) j1
  have e0 : wy.cell? ⟨g9, 0, none⟩ = some (.int .i64 b.vx) := by rw [hwy, hg9e]; go_simp
  have e1 : wy.cell? ⟨g9, 1, none⟩ = some (.int .i64 b.vy) := by rw [hwy, hg9e]; go_simp
  clear HKa HSa hBa
  have hgb : gb < g9 := by omega
  go_upto_region 3 with fail
  rw [← hwy, ← hg9e]
  clear hwy hg9e
  go_cut [10, 11] from 23 to 34 (fun t u wx => SpinsEnd b A1 n1 c1 gb g9 w v1 v2 u1 u2 t u wx)
  case first =>
    refine wp_region_noPanic ?_
    refine wp_region_U (S := (S2 (fun w' => BdAt w' gb b A1 n1 c1 ∧ Sl w' A1 n1 c1 l ∧ w'.cell? ⟨gb + 1, 0, none⟩ = some (.int .i64 x) ∧ w'.cell? ⟨gb + 1, 1, none⟩ = some (.int .i64 y) ∧ w'.cell? ⟨g9, 0, none⟩ = some (.int .i64 b.vx) ∧ w'.cell? ⟨g9, 1, none⟩ = some (.int .i64 b.vy) ∧ Below w.heap.size w w'))) (T := (fun j => [0, 0, 0, 0, 0, 0, 0, 0, 0, 0, 0, 0, 0, 0, 1, 1].getD j 0)) (by kernel_rfl) (S2i0 ⟨HK.out.drew, HS.out.drew', j0, j1, e0, e1, hB.drew⟩) (fun hH => ?_)
    have hWr2 : Weaker (S2 (fun w' => BdAt w' gb b A1 n1 c1 ∧ Sl w' A1 n1 c1 l ∧ w'.cell? ⟨gb + 1, 0, none⟩ = some (.int .i64 x) ∧ w'.cell? ⟨gb + 1, 1, none⟩ = some (.int .i64 y) ∧ w'.cell? ⟨g9, 0, none⟩ = some (.int .i64 b.vx) ∧ w'.cell? ⟨g9, 1, none⟩ = some (.int .i64 b.vy) ∧ Below w.heap.size w w')) := weaker2 _
    refine U_take 0 23 15 0 0 (v := ?vr2_1) rfl (by kernel_rfl) (by kernel_rfl) hWr2 (by kernel_rfl) (by kernel_rfl) (by kernel_rfl) (by kernel_rfl) (by kernel_rfl) (by kernel_rfl) (fun _ _ _ _ h => h) (by kernel_rfl) ?hyr2_1 (by omega) hH ?_
    case hyr2_1 => (intro w' hSw; replace hSw := S2o0 hSw; (try dsimp only at hSw); have q0 := hSw.1; have q1 := hSw.2.1; have q2 := hSw.2.2.1; have q3 := hSw.2.2.2.1; have q4 := hSw.2.2.2.2.1; have q5 := hSw.2.2.2.2.2.1; have q6 := hSw.2.2.2.2.2.2; obtain ⟨qa0_0, qa0_1, qa0_2, qa0_3, qa0_4, qa0_5, qa0_6, qa0_7, qa0_8, qa0_9, qa0_10, qa0_11, qa0_12, qa0_f⟩ := id q0; go_simp; try (with_reducible rfl))
    simp only [List.set_cons_zero, List.set_cons_succ]
    refine U_take 1 24 14 0 0 (v := ?vr2_2) rfl (by kernel_rfl) (by kernel_rfl) hWr2 (by kernel_rfl) (by kernel_rfl) (by kernel_rfl) (by kernel_rfl) (by kernel_rfl) (by kernel_rfl) (fun _ _ _ _ h => h) (by kernel_rfl) ?hyr2_2 (by omega) hH ?_
    case hyr2_2 => (intro w' hSw; clear hSw; go_simp; try (with_reducible rfl))
    simp only [List.set_cons_zero, List.set_cons_succ]
    refine U_take 2 25 13 0 0 (v := ?vr2_3) rfl (by kernel_rfl) (by kernel_rfl) hWr2 (by kernel_rfl) (by kernel_rfl) (by kernel_rfl) (by kernel_rfl) (by kernel_rfl) (by kernel_rfl) (fun _ _ _ _ h => h) (by kernel_rfl) ?hyr2_3 (by omega) hH ?_
    case hyr2_3 => (intro w' hSw; replace hSw := S2o0 hSw; (try dsimp only at hSw); have q0 := hSw.1; have q1 := hSw.2.1; have q2 := hSw.2.2.1; have q3 := hSw.2.2.2.1; have q4 := hSw.2.2.2.2.1; have q5 := hSw.2.2.2.2.2.1; have q6 := hSw.2.2.2.2.2.2; obtain ⟨qa0_0, qa0_1, qa0_2, qa0_3, qa0_4, qa0_5, qa0_6, qa0_7, qa0_8, qa0_9, qa0_10, qa0_11, qa0_12, qa0_f⟩ := id q0; go_simp; try (with_reducible rfl))
    simp only [List.set_cons_zero, List.set_cons_succ]
    refine U_take 3 26 12 0 0 (v := ?vr2_4) rfl (by kernel_rfl) (by kernel_rfl) hWr2 (by kernel_rfl) (by kernel_rfl) (by kernel_rfl) (by kernel_rfl) (by kernel_rfl) (by kernel_rfl) (fun _ _ _ _ h => h) (by kernel_rfl) ?hyr2_4 (by omega) hH ?_
    case hyr2_4 => (intro w' hSw; replace hSw := S2o0 hSw; (try dsimp only at hSw); have q0 := hSw.1; have q1 := hSw.2.1; have q2 := hSw.2.2.1; have q3 := hSw.2.2.2.1; have q4 := hSw.2.2.2.2.1; have q5 := hSw.2.2.2.2.2.1; have q6 := hSw.2.2.2.2.2.2; obtain ⟨qa0_0, qa0_1, qa0_2, qa0_3, qa0_4, qa0_5, qa0_6, qa0_7, qa0_8, qa0_9, qa0_10, qa0_11, qa0_12, qa0_f⟩ := id q0; go_simp; try (with_reducible rfl))
    simp only [List.set_cons_zero, List.set_cons_succ]
    refine U_take 6 29 11 0 0 (v := ?vr2_5) rfl (by kernel_rfl) (by kernel_rfl) hWr2 (by kernel_rfl) (by kernel_rfl) (by kernel_rfl) (by kernel_rfl) (by kernel_rfl) (by kernel_rfl) (fun _ _ _ _ h => h) (by kernel_rfl) ?hyr2_5 (by omega) hH ?_
    case hyr2_5 => (intro w' hSw; replace hSw := S2o0 hSw; (try dsimp only at hSw); have q0 := hSw.1; have q1 := hSw.2.1; have q2 := hSw.2.2.1; have q3 := hSw.2.2.2.1; have q4 := hSw.2.2.2.2.1; have q5 := hSw.2.2.2.2.2.1; have q6 := hSw.2.2.2.2.2.2; obtain ⟨qa0_0, qa0_1, qa0_2, qa0_3, qa0_4, qa0_5, qa0_6, qa0_7, qa0_8, qa0_9, qa0_10, qa0_11, qa0_12, qa0_f⟩ := id q0; go_simp; try (with_reducible rfl))
    simp only [List.set_cons_zero, List.set_cons_succ]
    refine U_take 7 30 10 0 0 (v := ?vr2_6) rfl (by kernel_rfl) (by kernel_rfl) hWr2 (by kernel_rfl) (by kernel_rfl) (by kernel_rfl) (by kernel_rfl) (by kernel_rfl) (by kernel_rfl) (fun _ _ _ _ h => h) (by kernel_rfl) ?hyr2_6 (by omega) hH ?_
    case hyr2_6 => (intro w' hSw; clear hSw; go_simp; try (with_reducible rfl))
    simp only [List.set_cons_zero, List.set_cons_succ]
    refine U_take 8 31 9 0 0 (v := ?vr2_7) rfl (by kernel_rfl) (by kernel_rfl) hWr2 (by kernel_rfl) (by kernel_rfl) (by kernel_rfl) (by kernel_rfl) (by kernel_rfl) (by kernel_rfl) (fun _ _ _ _ h => h) (by kernel_rfl) ?hyr2_7 (by omega) hH ?_
    case hyr2_7 => (intro w' hSw; replace hSw := S2o0 hSw; (try dsimp only at hSw); have q0 := hSw.1; have q1 := hSw.2.1; have q2 := hSw.2.2.1; have q3 := hSw.2.2.2.1; have q4 := hSw.2.2.2.2.1; have q5 := hSw.2.2.2.2.2.1; have q6 := hSw.2.2.2.2.2.2; obtain ⟨qa0_0, qa0_1, qa0_2, qa0_3, qa0_4, qa0_5, qa0_6, qa0_7, qa0_8, qa0_9, qa0_10, qa0_11, qa0_12, qa0_f⟩ := id q0; go_simp; try (with_reducible rfl))
    simp only [List.set_cons_zero, List.set_cons_succ]
    refine U_take 9 32 8 0 0 (v := ?vr2_8) rfl (by kernel_rfl) (by kernel_rfl) hWr2 (by kernel_rfl) (by kernel_rfl) (by kernel_rfl) (by kernel_rfl) (by kernel_rfl) (by kernel_rfl) (fun _ _ _ _ h => h) (by kernel_rfl) ?hyr2_8 (by omega) hH ?_
    case hyr2_8 => (intro w' hSw; replace hSw := S2o0 hSw; (try dsimp only at hSw); have q0 := hSw.1; have q1 := hSw.2.1; have q2 := hSw.2.2.1; have q3 := hSw.2.2.2.1; have q4 := hSw.2.2.2.2.1; have q5 := hSw.2.2.2.2.2.1; have q6 := hSw.2.2.2.2.2.2; obtain ⟨qa0_0, qa0_1, qa0_2, qa0_3, qa0_4, qa0_5, qa0_6, qa0_7, qa0_8, qa0_9, qa0_10, qa0_11, qa0_12, qa0_f⟩ := id q0; go_simp; try (with_reducible rfl))
    simp only [List.set_cons_zero, List.set_cons_succ]
    refine wpAnyU_ready (rs := [4, 12, 13]) (by kernel_rfl) (by simp) ?_
    refine AllReadyU.cons 0 (by kernel_rfl) (o := _) rfl (fun K hK => ?_) ?_
    · try clear hb
      go_simp
      (go_at_call 30; refine (vadd_calls b.px b.py x y _).mono ?_; rintro e wn ⟨rfl, hb⟩; (try (replace hT := keepVZ hb hT)); (try (replace hU := keepVZ hb hU)))
      refine hK.out _ _ ?hsr2_9 (fun hH2 => ?hrr2_9)
      case hsr2_9 => exact S2i0 (by have hG := hH; replace hG := S2o0 hG; (try dsimp only at hG); have q0 := hG.1; have q1 := hG.2.1; have q2 := hG.2.2.1; have q3 := hG.2.2.2.1; have q4 := hG.2.2.2.2.1; have q5 := hG.2.2.2.2.2.1; have q6 := hG.2.2.2.2.2.2; exact ⟨keepBd hb q0, keepSl hb q1, keepCell hb q2, keepCell hb q3, keepCell hb q4, keepCell hb q5, keepBelow hb q6⟩)
      clear hK K hH
      have hH := hH2
      clear hH2
      try simp only [Act.put, List.setIfInBounds_toArray, List.set_cons_zero, List.set_cons_succ]
      refine wpAnyU_ready (rs := [5, 12, 13]) (by kernel_rfl) (by simp) ?_
      refine AllReadyU.cons 0 (by kernel_rfl) (o := _) rfl (fun K hK => ?_) ?_
      · try clear hb
        have hG := hH
        replace hG := S2o0 hG; (try dsimp only at hG); have q0 := hG.1; have q1 := hG.2.1; have q2 := hG.2.2.1; have q3 := hG.2.2.2.1; have q4 := hG.2.2.2.2.1; have q5 := hG.2.2.2.2.2.1; have q6 := hG.2.2.2.2.2.2
        go_simp
        (go_at_call 29; refine (HA1.out _ _ _ _ q1).mono ?_; rintro e wn ⟨rfl, hb⟩; (try (replace hT := keepVZ hb hT)); (try (replace hU := keepVZ hb hU)))
        refine hK.out _ _ ?hsr2_10 (fun hH2 => ?hrr2_10)
        case hsr2_10 => exact S2i0 (by have hG := hH; replace hG := S2o0 hG; (try dsimp only at hG); have q0 := hG.1; have q1 := hG.2.1; have q2 := hG.2.2.1; have q3 := hG.2.2.2.1; have q4 := hG.2.2.2.2.1; have q5 := hG.2.2.2.2.2.1; have q6 := hG.2.2.2.2.2.2; exact ⟨keepBd hb q0, keepSl hb q1, keepCell hb q2, keepCell hb q3, keepCell hb q4, keepCell hb q5, keepBelow hb q6⟩)
        clear hK K hH
        have hH := hH2
        clear hH2
        try simp only [Act.put, List.setIfInBounds_toArray, List.set_cons_zero, List.set_cons_succ]
        refine wpAnyU_ready (rs := [10, 12, 13]) (by kernel_rfl) (by simp) ?_
        refine AllReadyU.cons 0 (by kernel_rfl) (o := _) rfl (fun K hK => ?_) ?_
        · try clear hb
          go_simp
          (go_at_call 31; refine (vsub_calls b.px b.py x y _).mono ?_; rintro e wn ⟨rfl, hb⟩; (try (replace hT := keepVZ hb hT)); (try (replace hU := keepVZ hb hU)))
          refine hK.out _ _ ?hsr2_11 (fun hH2 => ?hrr2_11)
          case hsr2_11 => exact S2i0 (by have hG := hH; replace hG := S2o0 hG; (try dsimp only at hG); have q0 := hG.1; have q1 := hG.2.1; have q2 := hG.2.2.1; have q3 := hG.2.2.2.1; have q4 := hG.2.2.2.2.1; have q5 := hG.2.2.2.2.2.1; have q6 := hG.2.2.2.2.2.2; exact ⟨keepBd hb q0, keepSl hb q1, keepCell hb q2, keepCell hb q3, keepCell hb q4, keepCell hb q5, keepBelow hb q6⟩)
          clear hK K hH
          have hH := hH2
          clear hH2
          try simp only [Act.put, List.setIfInBounds_toArray, List.set_cons_zero, List.set_cons_succ]
          refine wpAnyU_ready (rs := [11, 12, 13]) (by kernel_rfl) (by simp) ?_
          refine AllReadyU.cons 0 (by kernel_rfl) (o := _) rfl (fun K hK => ?_) ?_
          · try clear hb
            have hG := hH
            replace hG := S2o0 hG; (try dsimp only at hG); have q0 := hG.1; have q1 := hG.2.1; have q2 := hG.2.2.1; have q3 := hG.2.2.2.1; have q4 := hG.2.2.2.2.1; have q5 := hG.2.2.2.2.2.1; have q6 := hG.2.2.2.2.2.2
            go_simp
            (go_at_call 29; refine (HA2.out _ _ _ _ q1).mono ?_; rintro e wn ⟨rfl, hb⟩; (try (replace hT := keepVZ hb hT)); (try (replace hU := keepVZ hb hU)))
            refine hK.out _ _ ?hsr2_12 (fun hH2 => ?hrr2_12)
            case hsr2_12 => exact S2i0 (by have hG := hH; replace hG := S2o0 hG; (try dsimp only at hG); have q0 := hG.1; have q1 := hG.2.1; have q2 := hG.2.2.1; have q3 := hG.2.2.2.1; have q4 := hG.2.2.2.2.1; have q5 := hG.2.2.2.2.2.1; have q6 := hG.2.2.2.2.2.2; exact ⟨keepBd hb q0, keepSl hb q1, keepCell hb q2, keepCell hb q3, keepCell hb q4, keepCell hb q5, keepBelow hb q6⟩)
            clear hK K hH
            have hH := hH2
            clear hH2
            try simp only [Act.put, List.setIfInBounds_toArray, List.set_cons_zero, List.set_cons_succ]
            refine wpAnyU_ready (rs := [12, 13]) (by kernel_rfl) (by simp) ?_
            refine AllReadyU.cons 0 (by kernel_rfl) (o := _) rfl (fun K hK => ?_) ?_
            · try clear hb
              have hG := hH
              replace hG := S2o0 hG; (try dsimp only at hG); have q0 := hG.1; have q1 := hG.2.1; have q2 := hG.2.2.1; have q3 := hG.2.2.2.1; have q4 := hG.2.2.2.2.1; have q5 := hG.2.2.2.2.2.1; have q6 := hG.2.2.2.2.2.2
              go_simp
              refine hK.out _ _ ?hsr2_13 (fun hH2 => ?hrr2_13)
              case hsr2_13 => exact S2i0 (by have hG := hH; replace hG := S2o0 hG; (try dsimp only at hG); have q0 := hG.1; have q1 := hG.2.1; have q2 := hG.2.2.1; have q3 := hG.2.2.2.1; have q4 := hG.2.2.2.2.1; have q5 := hG.2.2.2.2.2.1; have q6 := hG.2.2.2.2.2.2; exact ⟨q0.alloc _, Sl.alloc q1 _, keepCell ((Below.refl _ _).alloc (Nat.le_refl _) _) q2, keepCell ((Below.refl _ _).alloc (Nat.le_refl _) _) q3, keepCell ((Below.refl _ _).alloc (Nat.le_refl _) _) q4, keepCell ((Below.refl _ _).alloc (Nat.le_refl _) _) q5, q6.alloc q6.size _⟩)
              clear hK K hH
              have hH := hH2
              clear hH2
              try simp only [Act.put, List.setIfInBounds_toArray, List.set_cons_zero, List.set_cons_succ]
              have hT : VZ (wn.alloc (.cells #[.int .i64 0, .int .i64 0] 34)) wn.heap.size := VZ.here _ _ _ _
              obtain ⟨gT, hgT⟩ : ∃ g, g = wn.heap.size := ⟨_, rfl⟩
              have hlT : g9 < gT := by rw [hgT]; exact lt_of_cell q4
              rw [← hgT] at hT
              try rw [← hgT]
              clear hgT q0 q1 q2 q3 q4 q5 q6
              generalize wn.alloc (.cells #[.int .i64 0, .int .i64 0] 34) = wx12 at *
              refine wpAnyU_ready (rs := [13]) (by kernel_rfl) (by simp) ?_
              refine AllReadyU.cons 0 (by kernel_rfl) (o := _) rfl (fun K hK => ?_) AllReadyU.nil
              try clear hb
              have hG := hH
              replace hG := S2o0 hG; (try dsimp only at hG); have q0 := hG.1; have q1 := hG.2.1; have q2 := hG.2.2.1; have q3 := hG.2.2.2.1; have q4 := hG.2.2.2.2.1; have q5 := hG.2.2.2.2.2.1; have q6 := hG.2.2.2.2.2.2
              have hZT := VZ.lt hT
              go_simp
              refine hK.out _ _ ?hsr2_14 (fun hH2 => ?hrr2_14)
              case hsr2_14 => exact S2i0 (by have hG := hH; replace hG := S2o0 hG; (try dsimp only at hG); have q0 := hG.1; have q1 := hG.2.1; have q2 := hG.2.2.1; have q3 := hG.2.2.2.1; have q4 := hG.2.2.2.2.1; have q5 := hG.2.2.2.2.2.1; have q6 := hG.2.2.2.2.2.2; exact ⟨q0.alloc _, Sl.alloc q1 _, keepCell ((Below.refl _ _).alloc (Nat.le_refl _) _) q2, keepCell ((Below.refl _ _).alloc (Nat.le_refl _) _) q3, keepCell ((Below.refl _ _).alloc (Nat.le_refl _) _) q4, keepCell ((Below.refl _ _).alloc (Nat.le_refl _) _) q5, q6.alloc q6.size _⟩)
              clear hK K hH
              have hH := hH2
              clear hH2
              try simp only [Act.put, List.setIfInBounds_toArray, List.set_cons_zero, List.set_cons_succ]
              have hU : VZ (wx12.alloc (.cells #[.int .i64 0, .int .i64 0] 34)) wx12.heap.size := VZ.here _ _ _ _
              replace hT := keepVZ ((Below.refl _ _).alloc (Nat.le_refl _) (.cells #[.int .i64 0, .int .i64 0] 34)) hT
              obtain ⟨gU, hgU⟩ : ∃ g, g = wx12.heap.size := ⟨_, rfl⟩
              have hlU : g9 < gU ∧ gT < gU := by rw [hgU]; exact ⟨lt_of_cell q4, hZT⟩
              rw [← hgU] at hU
              try rw [← hgU]
              clear hgU q0 q1 q2 q3 q4 q5 q6
              generalize wx12.alloc (.cells #[.int .i64 0, .int .i64 0] 34) = wx13 at *
              refine wpAnyU_ready (rs := [14]) (by kernel_rfl) (by simp) ?_
              refine AllReadyU.cons 1 (by kernel_rfl) (o := _) rfl (fun K hK => ?_) AllReadyU.nil
              have hG := hH
              replace hG := S2o0 hG; (try dsimp only at hG); have q0 := hG.1; have q1 := hG.2.1; have q2 := hG.2.2.1; have q3 := hG.2.2.2.1; have q4 := hG.2.2.2.2.1; have q5 := hG.2.2.2.2.2.1; have q6 := hG.2.2.2.2.2.2
              have HT := hid hT
              have HU := hid hU
              obtain ⟨⟨z0, z1, y0, y1⟩, yf⟩ := hT
              obtain ⟨⟨u0, u1, v0, v1⟩, uf⟩ := hU
              go_simp
              refine hK.out _ _ ?hsr2_15 (fun hH2 => ?hrr2_15)
              case hsr2_15 => exact S2i1
              clear hK K hH
              have hH := hH2
              clear hH2
              try simp only [Act.put, List.setIfInBounds_toArray, List.set_cons_zero, List.set_cons_succ]
              refine wpAnyU_ready (rs := [15]) (by kernel_rfl) (by simp) ?_
              refine AllReadyU.cons 1 (by kernel_rfl) (o := _) rfl (fun K hK => ?_) AllReadyU.nil
              go_simp
              refine hK.out _ _ ?hsr2_16 (fun hH2 => ?hrr2_16)
              case hsr2_16 => exact S2i1
              clear hK K hH
              have hH := hH2
              clear hH2
              try simp only [Act.put, List.setIfInBounds_toArray, List.set_cons_zero, List.set_cons_succ]
              refine wpAnyU_done (by kernel_rfl) ?_ _ _
              refine NoPanic.normal ?_
              go_wp2_with fail
              go_meet
              exact spins_end hgb (by omega) (by omega) (by omega) hw0 q0 q4 q5 q6 HT.out HU.out
            refine AllReadyU.cons 0 (by kernel_rfl) (o := _) rfl (fun K hK => ?_) ?_
            · try clear hb
              have hG := hH
              replace hG := S2o0 hG; (try dsimp only at hG); have q0 := hG.1; have q1 := hG.2.1; have q2 := hG.2.2.1; have q3 := hG.2.2.2.1; have q4 := hG.2.2.2.2.1; have q5 := hG.2.2.2.2.2.1; have q6 := hG.2.2.2.2.2.2
              go_simp
              refine hK.out _ _ ?hsr2_17 (fun hH2 => ?hrr2_17)
              case hsr2_17 => exact S2i0 (by have hG := hH; replace hG := S2o0 hG; (try dsimp only at hG); have q0 := hG.1; have q1 := hG.2.1; have q2 := hG.2.2.1; have q3 := hG.2.2.2.1; have q4 := hG.2.2.2.2.1; have q5 := hG.2.2.2.2.2.1; have q6 := hG.2.2.2.2.2.2; exact ⟨q0.alloc _, Sl.alloc q1 _, keepCell ((Below.refl _ _).alloc (Nat.le_refl _) _) q2, keepCell ((Below.refl _ _).alloc (Nat.le_refl _) _) q3, keepCell ((Below.refl _ _).alloc (Nat.le_refl _) _) q4, keepCell ((Below.refl _ _).alloc (Nat.le_refl _) _) q5, q6.alloc q6.size _⟩)
              clear hK K hH
              have hH := hH2
              clear hH2
              try simp only [Act.put, List.setIfInBounds_toArray, List.set_cons_zero, List.set_cons_succ]
              have hU : VZ (wn.alloc (.cells #[.int .i64 0, .int .i64 0] 34)) wn.heap.size := VZ.here _ _ _ _
              obtain ⟨gU, hgU⟩ : ∃ g, g = wn.heap.size := ⟨_, rfl⟩
              have hlU : g9 < gU := by rw [hgU]; exact lt_of_cell q4
              rw [← hgU] at hU
              try rw [← hgU]
              clear hgU q0 q1 q2 q3 q4 q5 q6
              generalize wn.alloc (.cells #[.int .i64 0, .int .i64 0] 34) = wx13 at *
              refine wpAnyU_ready (rs := [12]) (by kernel_rfl) (by simp) ?_
              refine AllReadyU.cons 0 (by kernel_rfl) (o := _) rfl (fun K hK => ?_) AllReadyU.nil
              try clear hb
              have hG := hH
              replace hG := S2o0 hG; (try dsimp only at hG); have q0 := hG.1; have q1 := hG.2.1; have q2 := hG.2.2.1; have q3 := hG.2.2.2.1; have q4 := hG.2.2.2.2.1; have q5 := hG.2.2.2.2.2.1; have q6 := hG.2.2.2.2.2.2
              have hZU := VZ.lt hU
              go_simp
              refine hK.out _ _ ?hsr2_18 (fun hH2 => ?hrr2_18)
              case hsr2_18 => exact S2i0 (by have hG := hH; replace hG := S2o0 hG; (try dsimp only at hG); have q0 := hG.1; have q1 := hG.2.1; have q2 := hG.2.2.1; have q3 := hG.2.2.2.1; have q4 := hG.2.2.2.2.1; have q5 := hG.2.2.2.2.2.1; have q6 := hG.2.2.2.2.2.2; exact ⟨q0.alloc _, Sl.alloc q1 _, keepCell ((Below.refl _ _).alloc (Nat.le_refl _) _) q2, keepCell ((Below.refl _ _).alloc (Nat.le_refl _) _) q3, keepCell ((Below.refl _ _).alloc (Nat.le_refl _) _) q4, keepCell ((Below.refl _ _).alloc (Nat.le_refl _) _) q5, q6.alloc q6.size _⟩)
              clear hK K hH
              have hH := hH2
              clear hH2
              try simp only [Act.put, List.setIfInBounds_toArray, List.set_cons_zero, List.set_cons_succ]
              have hT : VZ (wx13.alloc (.cells #[.int .i64 0, .int .i64 0] 34)) wx13.heap.size := VZ.here _ _ _ _
              replace hU := keepVZ ((Below.refl _ _).alloc (Nat.le_refl _) (.cells #[.int .i64 0, .int .i64 0] 34)) hU
              obtain ⟨gT, hgT⟩ : ∃ g, g = wx13.heap.size := ⟨_, rfl⟩
              have hlT : g9 < gT ∧ gU < gT := by rw [hgT]; exact ⟨lt_of_cell q4, hZU⟩
              rw [← hgT] at hT
              try rw [← hgT]
              clear hgT q0 q1 q2 q3 q4 q5 q6
              generalize wx13.alloc (.cells #[.int .i64 0, .int .i64 0] 34) = wx12 at *
              refine wpAnyU_ready (rs := [14]) (by kernel_rfl) (by simp) ?_
              refine AllReadyU.cons 1 (by kernel_rfl) (o := _) rfl (fun K hK => ?_) AllReadyU.nil
              have hG := hH
              replace hG := S2o0 hG; (try dsimp only at hG); have q0 := hG.1; have q1 := hG.2.1; have q2 := hG.2.2.1; have q3 := hG.2.2.2.1; have q4 := hG.2.2.2.2.1; have q5 := hG.2.2.2.2.2.1; have q6 := hG.2.2.2.2.2.2
              have HT := hid hT
              have HU := hid hU
              obtain ⟨⟨z0, z1, y0, y1⟩, yf⟩ := hT
              obtain ⟨⟨u0, u1, v0, v1⟩, uf⟩ := hU
              go_simp
              refine hK.out _ _ ?hsr2_19 (fun hH2 => ?hrr2_19)
              case hsr2_19 => exact S2i1
              clear hK K hH
              have hH := hH2
              clear hH2
              try simp only [Act.put, List.setIfInBounds_toArray, List.set_cons_zero, List.set_cons_succ]
              refine wpAnyU_ready (rs := [15]) (by kernel_rfl) (by simp) ?_
              refine AllReadyU.cons 1 (by kernel_rfl) (o := _) rfl (fun K hK => ?_) AllReadyU.nil
              go_simp
              refine hK.out _ _ ?hsr2_20 (fun hH2 => ?hrr2_20)
              case hsr2_20 => exact S2i1
              clear hK K hH
              have hH := hH2
              clear hH2
              try simp only [Act.put, List.setIfInBounds_toArray, List.set_cons_zero, List.set_cons_succ]
              refine wpAnyU_done (by kernel_rfl) ?_ _ _
              refine NoPanic.normal ?_
              go_wp2_with fail
              go_meet
              exact spins_end hgb (by omega) (by omega) (by omega) hw0 q0 q4 q5 q6 HT.out HU.out
            exact AllReadyU.nil
          refine AllReadyU.cons 0 (by kernel_rfl) (o := _) rfl (fun K hK => ?_) ?_
          · try clear hb
            have hG := hH
            replace hG := S2o0 hG; (try dsimp only at hG); have q0 := hG.1; have q1 := hG.2.1; have q2 := hG.2.2.1; have q3 := hG.2.2.2.1; have q4 := hG.2.2.2.2.1; have q5 := hG.2.2.2.2.2.1; have q6 := hG.2.2.2.2.2.2
            go_simp
            refine hK.out _ _ ?hsr2_21 (fun hH2 => ?hrr2_21)
            case hsr2_21 => exact S2i0 (by have hG := hH; replace hG := S2o0 hG; (try dsimp only at hG); have q0 := hG.1; have q1 := hG.2.1; have q2 := hG.2.2.1; have q3 := hG.2.2.2.1; have q4 := hG.2.2.2.2.1; have q5 := hG.2.2.2.2.2.1; have q6 := hG.2.2.2.2.2.2; exact ⟨q0.alloc _, Sl.alloc q1 _, keepCell ((Below.refl _ _).alloc (Nat.le_refl _) _) q2, keepCell ((Below.refl _ _).alloc (Nat.le_refl _) _) q3, keepCell ((Below.refl _ _).alloc (Nat.le_refl _) _) q4, keepCell ((Below.refl _ _).alloc (Nat.le_refl _) _) q5, q6.alloc q6.size _⟩)
            clear hK K hH
            have hH := hH2
            clear hH2
            try simp only [Act.put, List.setIfInBounds_toArray, List.set_cons_zero, List.set_cons_succ]
            have hT : VZ (wn.alloc (.cells #[.int .i64 0, .int .i64 0] 34)) wn.heap.size := VZ.here _ _ _ _
            obtain ⟨gT, hgT⟩ : ∃ g, g = wn.heap.size := ⟨_, rfl⟩
            have hlT : g9 < gT := by rw [hgT]; exact lt_of_cell q4
            rw [← hgT] at hT
            try rw [← hgT]
            clear hgT q0 q1 q2 q3 q4 q5 q6
            generalize wn.alloc (.cells #[.int .i64 0, .int .i64 0] 34) = wx12 at *
            refine wpAnyU_ready (rs := [11, 13]) (by kernel_rfl) (by simp) ?_
            refine AllReadyU.cons 0 (by kernel_rfl) (o := _) rfl (fun K hK => ?_) ?_
            · try clear hb
              have hG := hH
              replace hG := S2o0 hG; (try dsimp only at hG); have q0 := hG.1; have q1 := hG.2.1; have q2 := hG.2.2.1; have q3 := hG.2.2.2.1; have q4 := hG.2.2.2.2.1; have q5 := hG.2.2.2.2.2.1; have q6 := hG.2.2.2.2.2.2
              go_simp
              (go_at_call 29; refine (HA2.out _ _ _ _ q1).mono ?_; rintro e wn ⟨rfl, hb⟩; (try (replace hT := keepVZ hb hT)); (try (replace hU := keepVZ hb hU)))
              refine hK.out _ _ ?hsr2_22 (fun hH2 => ?hrr2_22)
              case hsr2_22 => exact S2i0 (by have hG := hH; replace hG := S2o0 hG; (try dsimp only at hG); have q0 := hG.1; have q1 := hG.2.1; have q2 := hG.2.2.1; have q3 := hG.2.2.2.1; have q4 := hG.2.2.2.2.1; have q5 := hG.2.2.2.2.2.1; have q6 := hG.2.2.2.2.2.2; exact ⟨keepBd hb q0, keepSl hb q1, keepCell hb q2, keepCell hb q3, keepCell hb q4, keepCell hb q5, keepBelow hb q6⟩)
              clear hK K hH
              have hH := hH2
              clear hH2
              try simp only [Act.put, List.setIfInBounds_toArray, List.set_cons_zero, List.set_cons_succ]
              refine wpAnyU_ready (rs := [13]) (by kernel_rfl) (by simp) ?_
              refine AllReadyU.cons 0 (by kernel_rfl) (o := _) rfl (fun K hK => ?_) AllReadyU.nil
              try clear hb
              have hG := hH
              replace hG := S2o0 hG; (try dsimp only at hG); have q0 := hG.1; have q1 := hG.2.1; have q2 := hG.2.2.1; have q3 := hG.2.2.2.1; have q4 := hG.2.2.2.2.1; have q5 := hG.2.2.2.2.2.1; have q6 := hG.2.2.2.2.2.2
              have hZT := VZ.lt hT
              go_simp
              refine hK.out _ _ ?hsr2_23 (fun hH2 => ?hrr2_23)
              case hsr2_23 => exact S2i0 (by have hG := hH; replace hG := S2o0 hG; (try dsimp only at hG); have q0 := hG.1; have q1 := hG.2.1; have q2 := hG.2.2.1; have q3 := hG.2.2.2.1; have q4 := hG.2.2.2.2.1; have q5 := hG.2.2.2.2.2.1; have q6 := hG.2.2.2.2.2.2; exact ⟨q0.alloc _, Sl.alloc q1 _, keepCell ((Below.refl _ _).alloc (Nat.le_refl _) _) q2, keepCell ((Below.refl _ _).alloc (Nat.le_refl _) _) q3, keepCell ((Below.refl _ _).alloc (Nat.le_refl _) _) q4, keepCell ((Below.refl _ _).alloc (Nat.le_refl _) _) q5, q6.alloc q6.size _⟩)
              clear hK K hH
              have hH := hH2
              clear hH2
              try simp only [Act.put, List.setIfInBounds_toArray, List.set_cons_zero, List.set_cons_succ]
              have hU : VZ (wn.alloc (.cells #[.int .i64 0, .int .i64 0] 34)) wn.heap.size := VZ.here _ _ _ _
              replace hT := keepVZ ((Below.refl _ _).alloc (Nat.le_refl _) (.cells #[.int .i64 0, .int .i64 0] 34)) hT
              obtain ⟨gU, hgU⟩ : ∃ g, g = wn.heap.size := ⟨_, rfl⟩
              have hlU : g9 < gU ∧ gT < gU := by rw [hgU]; exact ⟨lt_of_cell q4, hZT⟩
              rw [← hgU] at hU
              try rw [← hgU]
              clear hgU q0 q1 q2 q3 q4 q5 q6
              generalize wn.alloc (.cells #[.int .i64 0, .int .i64 0] 34) = wx13 at *
              refine wpAnyU_ready (rs := [14]) (by kernel_rfl) (by simp) ?_
              refine AllReadyU.cons 1 (by kernel_rfl) (o := _) rfl (fun K hK => ?_) AllReadyU.nil
              have hG := hH
              replace hG := S2o0 hG; (try dsimp only at hG); have q0 := hG.1; have q1 := hG.2.1; have q2 := hG.2.2.1; have q3 := hG.2.2.2.1; have q4 := hG.2.2.2.2.1; have q5 := hG.2.2.2.2.2.1; have q6 := hG.2.2.2.2.2.2
              have HT := hid hT
              have HU := hid hU
              obtain ⟨⟨z0, z1, y0, y1⟩, yf⟩ := hT
              obtain ⟨⟨u0, u1, v0, v1⟩, uf⟩ := hU
              go_simp
              refine hK.out _ _ ?hsr2_24 (fun hH2 => ?hrr2_24)
              case hsr2_24 => exact S2i1
              clear hK K hH
              have hH := hH2
              clear hH2
              try simp only [Act.put, List.setIfInBounds_toArray, List.set_cons_zero, List.set_cons_succ]
              refine wpAnyU_ready (rs := [15]) (by kernel_rfl) (by simp) ?_
              refine AllReadyU.cons 1 (by kernel_rfl) (o := _) rfl (fun K hK => ?_) AllReadyU.nil
              go_simp
              refine hK.out _ _ ?hsr2_25 (fun hH2 => ?hrr2_25)
              case hsr2_25 => exact S2i1
              clear hK K hH
              have hH := hH2
              clear hH2
              try simp only [Act.put, List.setIfInBounds_toArray, List.set_cons_zero, List.set_cons_succ]
              refine wpAnyU_done (by kernel_rfl) ?_ _ _
              refine NoPanic.normal ?_
              go_wp2_with fail
              go_meet
              exact spins_end hgb (by omega) (by omega) (by omega) hw0 q0 q4 q5 q6 HT.out HU.out
            refine AllReadyU.cons 0 (by kernel_rfl) (o := _) rfl (fun K hK => ?_) ?_
            · try clear hb
              have hG := hH
              replace hG := S2o0 hG; (try dsimp only at hG); have q0 := hG.1; have q1 := hG.2.1; have q2 := hG.2.2.1; have q3 := hG.2.2.2.1; have q4 := hG.2.2.2.2.1; have q5 := hG.2.2.2.2.2.1; have q6 := hG.2.2.2.2.2.2
              have hZT := VZ.lt hT
              go_simp
              refine hK.out _ _ ?hsr2_26 (fun hH2 => ?hrr2_26)
              case hsr2_26 => exact S2i0 (by have hG := hH; replace hG := S2o0 hG; (try dsimp only at hG); have q0 := hG.1; have q1 := hG.2.1; have q2 := hG.2.2.1; have q3 := hG.2.2.2.1; have q4 := hG.2.2.2.2.1; have q5 := hG.2.2.2.2.2.1; have q6 := hG.2.2.2.2.2.2; exact ⟨q0.alloc _, Sl.alloc q1 _, keepCell ((Below.refl _ _).alloc (Nat.le_refl _) _) q2, keepCell ((Below.refl _ _).alloc (Nat.le_refl _) _) q3, keepCell ((Below.refl _ _).alloc (Nat.le_refl _) _) q4, keepCell ((Below.refl _ _).alloc (Nat.le_refl _) _) q5, q6.alloc q6.size _⟩)
              clear hK K hH
              have hH := hH2
              clear hH2
              try simp only [Act.put, List.setIfInBounds_toArray, List.set_cons_zero, List.set_cons_succ]
              have hU : VZ (wx12.alloc (.cells #[.int .i64 0, .int .i64 0] 34)) wx12.heap.size := VZ.here _ _ _ _
              replace hT := keepVZ ((Below.refl _ _).alloc (Nat.le_refl _) (.cells #[.int .i64 0, .int .i64 0] 34)) hT
              obtain ⟨gU, hgU⟩ : ∃ g, g = wx12.heap.size := ⟨_, rfl⟩
              have hlU : g9 < gU ∧ gT < gU := by rw [hgU]; exact ⟨lt_of_cell q4, hZT⟩
              rw [← hgU] at hU
              try rw [← hgU]
              clear hgU q0 q1 q2 q3 q4 q5 q6
              generalize wx12.alloc (.cells #[.int .i64 0, .int .i64 0] 34) = wx13 at *
              refine wpAnyU_ready (rs := [11]) (by kernel_rfl) (by simp) ?_
              refine AllReadyU.cons 0 (by kernel_rfl) (o := _) rfl (fun K hK => ?_) AllReadyU.nil
              try clear hb
              have hG := hH
              replace hG := S2o0 hG; (try dsimp only at hG); have q0 := hG.1; have q1 := hG.2.1; have q2 := hG.2.2.1; have q3 := hG.2.2.2.1; have q4 := hG.2.2.2.2.1; have q5 := hG.2.2.2.2.2.1; have q6 := hG.2.2.2.2.2.2
              go_simp
              (go_at_call 29; refine (HA2.out _ _ _ _ q1).mono ?_; rintro e wn ⟨rfl, hb⟩; (try (replace hT := keepVZ hb hT)); (try (replace hU := keepVZ hb hU)))
              refine hK.out _ _ ?hsr2_27 (fun hH2 => ?hrr2_27)
              case hsr2_27 => exact S2i0 (by have hG := hH; replace hG := S2o0 hG; (try dsimp only at hG); have q0 := hG.1; have q1 := hG.2.1; have q2 := hG.2.2.1; have q3 := hG.2.2.2.1; have q4 := hG.2.2.2.2.1; have q5 := hG.2.2.2.2.2.1; have q6 := hG.2.2.2.2.2.2; exact ⟨keepBd hb q0, keepSl hb q1, keepCell hb q2, keepCell hb q3, keepCell hb q4, keepCell hb q5, keepBelow hb q6⟩)
              clear hK K hH
              have hH := hH2
              clear hH2
              try simp only [Act.put, List.setIfInBounds_toArray, List.set_cons_zero, List.set_cons_succ]
              refine wpAnyU_ready (rs := [14]) (by kernel_rfl) (by simp) ?_
              refine AllReadyU.cons 1 (by kernel_rfl) (o := _) rfl (fun K hK => ?_) AllReadyU.nil
              have hG := hH
              replace hG := S2o0 hG; (try dsimp only at hG); have q0 := hG.1; have q1 := hG.2.1; have q2 := hG.2.2.1; have q3 := hG.2.2.2.1; have q4 := hG.2.2.2.2.1; have q5 := hG.2.2.2.2.2.1; have q6 := hG.2.2.2.2.2.2
              have HT := hid hT
              have HU := hid hU
              obtain ⟨⟨z0, z1, y0, y1⟩, yf⟩ := hT
              obtain ⟨⟨u0, u1, v0, v1⟩, uf⟩ := hU
              go_simp
              refine hK.out _ _ ?hsr2_28 (fun hH2 => ?hrr2_28)
              case hsr2_28 => exact S2i1
              clear hK K hH
              have hH := hH2
              clear hH2
              try simp only [Act.put, List.setIfInBounds_toArray, List.set_cons_zero, List.set_cons_succ]
              refine wpAnyU_ready (rs := [15]) (by kernel_rfl) (by simp) ?_
              refine AllReadyU.cons 1 (by kernel_rfl) (o := _) rfl (fun K hK => ?_) AllReadyU.nil
              go_simp
              refine hK.out _ _ ?hsr2_29 (fun hH2 => ?hrr2_29)
              case hsr2_29 => exact S2i1
              clear hK K hH
              have hH := hH2
              clear hH2
              try simp only [Act.put, List.setIfInBounds_toArray, List.set_cons_zero, List.set_cons_succ]
              refine wpAnyU_done (by kernel_rfl) ?_ _ _
              refine NoPanic.normal ?_
              go_wp2_with fail
              go_meet
              exact spins_end hgb (by omega) (by omega) (by omega) hw0 q0 q4 q5 q6 HT.out HU.out
            exact AllReadyU.nil
          refine AllReadyU.cons 0 (by kernel_rfl) (o := _) rfl (fun K hK => ?_) ?_
          · try clear hb
            have hG := hH
            replace hG := S2o0 hG; (try dsimp only at hG); have q0 := hG.1; have q1 := hG.2.1; have q2 := hG.2.2.1; have q3 := hG.2.2.2.1; have q4 := hG.2.2.2.2.1; have q5 := hG.2.2.2.2.2.1; have q6 := hG.2.2.2.2.2.2
            go_simp
            refine hK.out _ _ ?hsr2_30 (fun hH2 => ?hrr2_30)
            case hsr2_30 => exact S2i0 (by have hG := hH; replace hG := S2o0 hG; (try dsimp only at hG); have q0 := hG.1; have q1 := hG.2.1; have q2 := hG.2.2.1; have q3 := hG.2.2.2.1; have q4 := hG.2.2.2.2.1; have q5 := hG.2.2.2.2.2.1; have q6 := hG.2.2.2.2.2.2; exact ⟨q0.alloc _, Sl.alloc q1 _, keepCell ((Below.refl _ _).alloc (Nat.le_refl _) _) q2, keepCell ((Below.refl _ _).alloc (Nat.le_refl _) _) q3, keepCell ((Below.refl _ _).alloc (Nat.le_refl _) _) q4, keepCell ((Below.refl _ _).alloc (Nat.le_refl _) _) q5, q6.alloc q6.size _⟩)
            clear hK K hH
            have hH := hH2
            clear hH2
            try simp only [Act.put, List.setIfInBounds_toArray, List.set_cons_zero, List.set_cons_succ]
            have hU : VZ (wn.alloc (.cells #[.int .i64 0, .int .i64 0] 34)) wn.heap.size := VZ.here _ _ _ _
            obtain ⟨gU, hgU⟩ : ∃ g, g = wn.heap.size := ⟨_, rfl⟩
            have hlU : g9 < gU := by rw [hgU]; exact lt_of_cell q4
            rw [← hgU] at hU
            try rw [← hgU]
            clear hgU q0 q1 q2 q3 q4 q5 q6
            generalize wn.alloc (.cells #[.int .i64 0, .int .i64 0] 34) = wx13 at *
            refine wpAnyU_ready (rs := [11, 12]) (by kernel_rfl) (by simp) ?_
            refine AllReadyU.cons 0 (by kernel_rfl) (o := _) rfl (fun K hK => ?_) ?_
            · try clear hb
              have hG := hH
              replace hG := S2o0 hG; (try dsimp only at hG); have q0 := hG.1; have q1 := hG.2.1; have q2 := hG.2.2.1; have q3 := hG.2.2.2.1; have q4 := hG.2.2.2.2.1; have q5 := hG.2.2.2.2.2.1; have q6 := hG.2.2.2.2.2.2
              go_simp
              (go_at_call 29; refine (HA2.out _ _ _ _ q1).mono ?_; rintro e wn ⟨rfl, hb⟩; (try (replace hT := keepVZ hb hT)); (try (replace hU := keepVZ hb hU)))
              refine hK.out _ _ ?hsr2_31 (fun hH2 => ?hrr2_31)
              case hsr2_31 => exact S2i0 (by have hG := hH; replace hG := S2o0 hG; (try dsimp only at hG); have q0 := hG.1; have q1 := hG.2.1; have q2 := hG.2.2.1; have q3 := hG.2.2.2.1; have q4 := hG.2.2.2.2.1; have q5 := hG.2.2.2.2.2.1; have q6 := hG.2.2.2.2.2.2; exact ⟨keepBd hb q0, keepSl hb q1, keepCell hb q2, keepCell hb q3, keepCell hb q4, keepCell hb q5, keepBelow hb q6⟩)
              clear hK K hH
              have hH := hH2
              clear hH2
              try simp only [Act.put, List.setIfInBounds_toArray, List.set_cons_zero, List.set_cons_succ]
              refine wpAnyU_ready (rs := [12]) (by kernel_rfl) (by simp) ?_
              refine AllReadyU.cons 0 (by kernel_rfl) (o := _) rfl (fun K hK => ?_) AllReadyU.nil
              try clear hb
              have hG := hH
              replace hG := S2o0 hG; (try dsimp only at hG); have q0 := hG.1; have q1 := hG.2.1; have q2 := hG.2.2.1; have q3 := hG.2.2.2.1; have q4 := hG.2.2.2.2.1; have q5 := hG.2.2.2.2.2.1; have q6 := hG.2.2.2.2.2.2
              have hZU := VZ.lt hU
              go_simp
              refine hK.out _ _ ?hsr2_32 (fun hH2 => ?hrr2_32)
              case hsr2_32 => exact S2i0 (by have hG := hH; replace hG := S2o0 hG; (try dsimp only at hG); have q0 := hG.1; have q1 := hG.2.1; have q2 := hG.2.2.1; have q3 := hG.2.2.2.1; have q4 := hG.2.2.2.2.1; have q5 := hG.2.2.2.2.2.1; have q6 := hG.2.2.2.2.2.2; exact ⟨q0.alloc _, Sl.alloc q1 _, keepCell ((Below.refl _ _).alloc (Nat.le_refl _) _) q2, keepCell ((Below.refl _ _).alloc (Nat.le_refl _) _) q3, keepCell ((Below.refl _ _).alloc (Nat.le_refl _) _) q4, keepCell ((Below.refl _ _).alloc (Nat.le_refl _) _) q5, q6.alloc q6.size _⟩)
              clear hK K hH
              have hH := hH2
              clear hH2
              try simp only [Act.put, List.setIfInBounds_toArray, List.set_cons_zero, List.set_cons_succ]
              have hT : VZ (wn.alloc (.cells #[.int .i64 0, .int .i64 0] 34)) wn.heap.size := VZ.here _ _ _ _
              replace hU := keepVZ ((Below.refl _ _).alloc (Nat.le_refl _) (.cells #[.int .i64 0, .int .i64 0] 34)) hU
              obtain ⟨gT, hgT⟩ : ∃ g, g = wn.heap.size := ⟨_, rfl⟩
              have hlT : g9 < gT ∧ gU < gT := by rw [hgT]; exact ⟨lt_of_cell q4, hZU⟩
              rw [← hgT] at hT
              try rw [← hgT]
              clear hgT q0 q1 q2 q3 q4 q5 q6
              generalize wn.alloc (.cells #[.int .i64 0, .int .i64 0] 34) = wx12 at *
              refine wpAnyU_ready (rs := [14]) (by kernel_rfl) (by simp) ?_
              refine AllReadyU.cons 1 (by kernel_rfl) (o := _) rfl (fun K hK => ?_) AllReadyU.nil
              have hG := hH
              replace hG := S2o0 hG; (try dsimp only at hG); have q0 := hG.1; have q1 := hG.2.1; have q2 := hG.2.2.1; have q3 := hG.2.2.2.1; have q4 := hG.2.2.2.2.1; have q5 := hG.2.2.2.2.2.1; have q6 := hG.2.2.2.2.2.2
              have HT := hid hT
              have HU := hid hU
              obtain ⟨⟨z0, z1, y0, y1⟩, yf⟩ := hT
              obtain ⟨⟨u0, u1, v0, v1⟩, uf⟩ := hU
              go_simp
              refine hK.out _ _ ?hsr2_33 (fun hH2 => ?hrr2_33)
              case hsr2_33 => exact S2i1
              clear hK K hH
              have hH := hH2
              clear hH2
              try simp only [Act.put, List.setIfInBounds_toArray, List.set_cons_zero, List.set_cons_succ]
              refine wpAnyU_ready (rs := [15]) (by kernel_rfl) (by simp) ?_
              refine AllReadyU.cons 1 (by kernel_rfl) (o := _) rfl (fun K hK => ?_) AllReadyU.nil
              go_simp
              refine hK.out _ _ ?hsr2_34 (fun hH2 => ?hrr2_34)
              case hsr2_34 => exact S2i1
              clear hK K hH
              have hH := hH2
              clear hH2
              try simp only [Act.put, List.setIfInBounds_toArray, List.set_cons_zero, List.set_cons_succ]
              refine wpAnyU_done (by kernel_rfl) ?_ _ _
              refine NoPanic.normal ?_
              go_wp2_with fail
              go_meet
              exact spins_end hgb (by omega) (by omega) (by omega) hw0 q0 q4 q5 q6 HT.out HU.out
            refine AllReadyU.cons 0 (by kernel_rfl) (o := _) rfl (fun K hK => ?_) ?_
            · try clear hb
              have hG := hH
              replace hG := S2o0 hG; (try dsimp only at hG); have q0 := hG.1; have q1 := hG.2.1; have q2 := hG.2.2.1; have q3 := hG.2.2.2.1; have q4 := hG.2.2.2.2.1; have q5 := hG.2.2.2.2.2.1; have q6 := hG.2.2.2.2.2.2
              have hZU := VZ.lt hU
              go_simp
              refine hK.out _ _ ?hsr2_35 (fun hH2 => ?hrr2_35)
              case hsr2_35 => exact S2i0 (by have hG := hH; replace hG := S2o0 hG; (try dsimp only at hG); have q0 := hG.1; have q1 := hG.2.1; have q2 := hG.2.2.1; have q3 := hG.2.2.2.1; have q4 := hG.2.2.2.2.1; have q5 := hG.2.2.2.2.2.1; have q6 := hG.2.2.2.2.2.2; exact ⟨q0.alloc _, Sl.alloc q1 _, keepCell ((Below.refl _ _).alloc (Nat.le_refl _) _) q2, keepCell ((Below.refl _ _).alloc (Nat.le_refl _) _) q3, keepCell ((Below.refl _ _).alloc (Nat.le_refl _) _) q4, keepCell ((Below.refl _ _).alloc (Nat.le_refl _) _) q5, q6.alloc q6.size _⟩)
              clear hK K hH
              have hH := hH2
              clear hH2
              try simp only [Act.put, List.setIfInBounds_toArray, List.set_cons_zero, List.set_cons_succ]
              have hT : VZ (wx13.alloc (.cells #[.int .i64 0, .int .i64 0] 34)) wx13.heap.size := VZ.here _ _ _ _
              replace hU := keepVZ ((Below.refl _ _).alloc (Nat.le_refl _) (.cells #[.int .i64 0, .int .i64 0] 34)) hU
              obtain ⟨gT, hgT⟩ : ∃ g, g = wx13.heap.size := ⟨_, rfl⟩
              have hlT : g9 < gT ∧ gU < gT := by rw [hgT]; exact ⟨lt_of_cell q4, hZU⟩
              rw [← hgT] at hT
              try rw [← hgT]
              clear hgT q0 q1 q2 q3 q4 q5 q6
              generalize wx13.alloc (.cells #[.int .i64 0, .int .i64 0] 34) = wx12 at *
              refine wpAnyU_ready (rs := [11]) (by kernel_rfl) (by simp) ?_
              refine AllReadyU.cons 0 (by kernel_rfl) (o := _) rfl (fun K hK => ?_) AllReadyU.nil
              try clear hb
              have hG := hH
              replace hG := S2o0 hG; (try dsimp only at hG); have q0 := hG.1; have q1 := hG.2.1; have q2 := hG.2.2.1; have q3 := hG.2.2.2.1; have q4 := hG.2.2.2.2.1; have q5 := hG.2.2.2.2.2.1; have q6 := hG.2.2.2.2.2.2
              go_simp
              (go_at_call 29; refine (HA2.out _ _ _ _ q1).mono ?_; rintro e wn ⟨rfl, hb⟩; (try (replace hT := keepVZ hb hT)); (try (replace hU := keepVZ hb hU)))
              refine hK.out _ _ ?hsr2_36 (fun hH2 => ?hrr2_36)
              case hsr2_36 => exact S2i0 (by have hG := hH; replace hG := S2o0 hG; (try dsimp only at hG); have q0 := hG.1; have q1 := hG.2.1; have q2 := hG.2.2.1; have q3 := hG.2.2.2.1; have q4 := hG.2.2.2.2.1; have q5 := hG.2.2.2.2.2.1; have q6 := hG.2.2.2.2.2.2; exact ⟨keepBd hb q0, keepSl hb q1, keepCell hb q2, keepCell hb q3, keepCell hb q4, keepCell hb q5, keepBelow hb q6⟩)
              clear hK K hH
              have hH := hH2
              clear hH2
              try simp only [Act.put, List.setIfInBounds_toArray, List.set_cons_zero, List.set_cons_succ]
              refine wpAnyU_ready (rs := [14]) (by kernel_rfl) (by simp) ?_
              refine AllReadyU.cons 1 (by kernel_rfl) (o := _) rfl (fun K hK => ?_) AllReadyU.nil
              have hG := hH
              replace hG := S2o0 hG; (try dsimp only at hG); have q0 := hG.1; have q1 := hG.2.1; have q2 := hG.2.2.1; have q3 := hG.2.2.2.1; have q4 := hG.2.2.2.2.1; have q5 := hG.2.2.2.2.2.1; have q6 := hG.2.2.2.2.2.2
              have HT := hid hT
              have HU := hid hU
              obtain ⟨⟨z0, z1, y0, y1⟩, yf⟩ := hT
              obtain ⟨⟨u0, u1, v0, v1⟩, uf⟩ := hU
              go_simp
              refine hK.out _ _ ?hsr2_37 (fun hH2 => ?hrr2_37)
              case hsr2_37 => exact S2i1
              clear hK K hH
              have hH := hH2
              clear hH2
              try simp only [Act.put, List.setIfInBounds_toArray, List.set_cons_zero, List.set_cons_succ]
              refine wpAnyU_ready (rs := [15]) (by kernel_rfl) (by simp) ?_
              refine AllReadyU.cons 1 (by kernel_rfl) (o := _) rfl (fun K hK => ?_) AllReadyU.nil
              go_simp
              refine hK.out _ _ ?hsr2_38 (fun hH2 => ?hrr2_38)
              case hsr2_38 => exact S2i1
              clear hK K hH
              have hH := hH2
              clear hH2
              try simp only [Act.put, List.setIfInBounds_toArray, List.set_cons_zero, List.set_cons_succ]
              refine wpAnyU_done (by kernel_rfl) ?_ _ _
              refine NoPanic.normal ?_
              go_wp2_with fail
              go_meet
              exact spins_end hgb (by omega) (by omega) (by omega) hw0 q0 q4 q5 q6 HT.out HU.out
            exact AllReadyU.nil
          exact AllReadyU.nil
        refine AllReadyU.cons 0 (by kernel_rfl) (o := _) rfl (fun K hK => ?_) ?_
        · try clear hb
          have hG := hH
          replace hG := S2o0 hG; (try dsimp only at hG); have q0 := hG.1; have q1 := hG.2.1; have q2 := hG.2.2.1; have q3 := hG.2.2.2.1; have q4 := hG.2.2.2.2.1; have q5 := hG.2.2.2.2.2.1; have q6 := hG.2.2.2.2.2.2
          go_simp
          refine hK.out _ _ ?hsr2_39 (fun hH2 => ?hrr2_39)
          case hsr2_39 => exact S2i0 (by have hG := hH; replace hG := S2o0 hG; (try dsimp only at hG); have q0 := hG.1; have q1 := hG.2.1; have q2 := hG.2.2.1; have q3 := hG.2.2.2.1; have q4 := hG.2.2.2.2.1; have q5 := hG.2.2.2.2.2.1; have q6 := hG.2.2.2.2.2.2; exact ⟨q0.alloc _, Sl.alloc q1 _, keepCell ((Below.refl _ _).alloc (Nat.le_refl _) _) q2, keepCell ((Below.refl _ _).alloc (Nat.le_refl _) _) q3, keepCell ((Below.refl _ _).alloc (Nat.le_refl _) _) q4, keepCell ((Below.refl _ _).alloc (Nat.le_refl _) _) q5, q6.alloc q6.size _⟩)
          clear hK K hH
          have hH := hH2
          clear hH2
          try simp only [Act.put, List.setIfInBounds_toArray, List.set_cons_zero, List.set_cons_succ]
          have hT : VZ (wn.alloc (.cells #[.int .i64 0, .int .i64 0] 34)) wn.heap.size := VZ.here _ _ _ _
          obtain ⟨gT, hgT⟩ : ∃ g, g = wn.heap.size := ⟨_, rfl⟩
          have hlT : g9 < gT := by rw [hgT]; exact lt_of_cell q4
          rw [← hgT] at hT
          try rw [← hgT]
          clear hgT q0 q1 q2 q3 q4 q5 q6
          generalize wn.alloc (.cells #[.int .i64 0, .int .i64 0] 34) = wx12 at *
          refine wpAnyU_ready (rs := [10, 13]) (by kernel_rfl) (by simp) ?_
          refine AllReadyU.cons 0 (by kernel_rfl) (o := _) rfl (fun K hK => ?_) ?_
          · try clear hb
            go_simp
            (go_at_call 31; refine (vsub_calls b.px b.py x y _).mono ?_; rintro e wn ⟨rfl, hb⟩; (try (replace hT := keepVZ hb hT)); (try (replace hU := keepVZ hb hU)))
            refine hK.out _ _ ?hsr2_40 (fun hH2 => ?hrr2_40)
            case hsr2_40 => exact S2i0 (by have hG := hH; replace hG := S2o0 hG; (try dsimp only at hG); have q0 := hG.1; have q1 := hG.2.1; have q2 := hG.2.2.1; have q3 := hG.2.2.2.1; have q4 := hG.2.2.2.2.1; have q5 := hG.2.2.2.2.2.1; have q6 := hG.2.2.2.2.2.2; exact ⟨keepBd hb q0, keepSl hb q1, keepCell hb q2, keepCell hb q3, keepCell hb q4, keepCell hb q5, keepBelow hb q6⟩)
            clear hK K hH
            have hH := hH2
            clear hH2
            try simp only [Act.put, List.setIfInBounds_toArray, List.set_cons_zero, List.set_cons_succ]
            refine wpAnyU_ready (rs := [11, 13]) (by kernel_rfl) (by simp) ?_
            refine AllReadyU.cons 0 (by kernel_rfl) (o := _) rfl (fun K hK => ?_) ?_
            · try clear hb
              have hG := hH
              replace hG := S2o0 hG; (try dsimp only at hG); have q0 := hG.1; have q1 := hG.2.1; have q2 := hG.2.2.1; have q3 := hG.2.2.2.1; have q4 := hG.2.2.2.2.1; have q5 := hG.2.2.2.2.2.1; have q6 := hG.2.2.2.2.2.2
              go_simp
              (go_at_call 29; refine (HA2.out _ _ _ _ q1).mono ?_; rintro e wn ⟨rfl, hb⟩; (try (replace hT := keepVZ hb hT)); (try (replace hU := keepVZ hb hU)))
              refine hK.out _ _ ?hsr2_41 (fun hH2 => ?hrr2_41)
              case hsr2_41 => exact S2i0 (by have hG := hH; replace hG := S2o0 hG; (try dsimp only at hG); have q0 := hG.1; have q1 := hG.2.1; have q2 := hG.2.2.1; have q3 := hG.2.2.2.1; have q4 := hG.2.2.2.2.1; have q5 := hG.2.2.2.2.2.1; have q6 := hG.2.2.2.2.2.2; exact ⟨keepBd hb q0, keepSl hb q1, keepCell hb q2, keepCell hb q3, keepCell hb q4, keepCell hb q5, keepBelow hb q6⟩)
              clear hK K hH
              have hH := hH2
              clear hH2
              try simp only [Act.put, List.setIfInBounds_toArray, List.set_cons_zero, List.set_cons_succ]
              refine wpAnyU_ready (rs := [13]) (by kernel_rfl) (by simp) ?_
              refine AllReadyU.cons 0 (by kernel_rfl) (o := _) rfl (fun K hK => ?_) AllReadyU.nil
              try clear hb
              have hG := hH
              replace hG := S2o0 hG; (try dsimp only at hG); have q0 := hG.1; have q1 := hG.2.1; have q2 := hG.2.2.1; have q3 := hG.2.2.2.1; have q4 := hG.2.2.2.2.1; have q5 := hG.2.2.2.2.2.1; have q6 := hG.2.2.2.2.2.2
              have hZT := VZ.lt hT
              go_simp
              refine hK.out _ _ ?hsr2_42 (fun hH2 => ?hrr2_42)
              case hsr2_42 => exact S2i0 (by have hG := hH; replace hG := S2o0 hG; (try dsimp only at hG); have q0 := hG.1; have q1 := hG.2.1; have q2 := hG.2.2.1; have q3 := hG.2.2.2.1; have q4 := hG.2.2.2.2.1; have q5 := hG.2.2.2.2.2.1; have q6 := hG.2.2.2.2.2.2; exact ⟨q0.alloc _, Sl.alloc q1 _, keepCell ((Below.refl _ _).alloc (Nat.le_refl _) _) q2, keepCell ((Below.refl _ _).alloc (Nat.le_refl _) _) q3, keepCell ((Below.refl _ _).alloc (Nat.le_refl _) _) q4, keepCell ((Below.refl _ _).alloc (Nat.le_refl _) _) q5, q6.alloc q6.size _⟩)
              clear hK K hH
              have hH := hH2
              clear hH2
              try simp only [Act.put, List.setIfInBounds_toArray, List.set_cons_zero, List.set_cons_succ]
              have hU : VZ (wn.alloc (.cells #[.int .i64 0, .int .i64 0] 34)) wn.heap.size := VZ.here _ _ _ _
              replace hT := keepVZ ((Below.refl _ _).alloc (Nat.le_refl _) (.cells #[.int .i64 0, .int .i64 0] 34)) hT
              obtain ⟨gU, hgU⟩ : ∃ g, g = wn.heap.size := ⟨_, rfl⟩
              have hlU : g9 < gU ∧ gT < gU := by rw [hgU]; exact ⟨lt_of_cell q4, hZT⟩
              rw [← hgU] at hU
              try rw [← hgU]
              clear hgU q0 q1 q2 q3 q4 q5 q6
              generalize wn.alloc (.cells #[.int .i64 0, .int .i64 0] 34) = wx13 at *
              refine wpAnyU_ready (rs := [14]) (by kernel_rfl) (by simp) ?_
              refine AllReadyU.cons 1 (by kernel_rfl) (o := _) rfl (fun K hK => ?_) AllReadyU.nil
              have hG := hH
              replace hG := S2o0 hG; (try dsimp only at hG); have q0 := hG.1; have q1 := hG.2.1; have q2 := hG.2.2.1; have q3 := hG.2.2.2.1; have q4 := hG.2.2.2.2.1; have q5 := hG.2.2.2.2.2.1; have q6 := hG.2.2.2.2.2.2
              have HT := hid hT
              have HU := hid hU
              obtain ⟨⟨z0, z1, y0, y1⟩, yf⟩ := hT
              obtain ⟨⟨u0, u1, v0, v1⟩, uf⟩ := hU
              go_simp
              refine hK.out _ _ ?hsr2_43 (fun hH2 => ?hrr2_43)
              case hsr2_43 => exact S2i1
              clear hK K hH
              have hH := hH2
              clear hH2
              try simp only [Act.put, List.setIfInBounds_toArray, List.set_cons_zero, List.set_cons_succ]
              refine wpAnyU_ready (rs := [15]) (by kernel_rfl) (by simp) ?_
              refine AllReadyU.cons 1 (by kernel_rfl) (o := _) rfl (fun K hK => ?_) AllReadyU.nil
              go_simp
              refine hK.out _ _ ?hsr2_44 (fun hH2 => ?hrr2_44)
              case hsr2_44 => exact S2i1
              clear hK K hH
              have hH := hH2
              clear hH2
              try simp only [Act.put, List.setIfInBounds_toArray, List.set_cons_zero, List.set_cons_succ]
              refine wpAnyU_done (by kernel_rfl) ?_ _ _
              refine NoPanic.normal ?_
              go_wp2_with fail
              go_meet
              exact spins_end hgb (by omega) (by omega) (by omega) hw0 q0 q4 q5 q6 HT.out HU.out
            refine AllReadyU.cons 0 (by kernel_rfl) (o := _) rfl (fun K hK => ?_) ?_
            · try clear hb
              have hG := hH
              replace hG := S2o0 hG; (try dsimp only at hG); have q0 := hG.1; have q1 := hG.2.1; have q2 := hG.2.2.1; have q3 := hG.2.2.2.1; have q4 := hG.2.2.2.2.1; have q5 := hG.2.2.2.2.2.1; have q6 := hG.2.2.2.2.2.2
              have hZT := VZ.lt hT
              go_simp
              refine hK.out _ _ ?hsr2_45 (fun hH2 => ?hrr2_45)
              case hsr2_45 => exact S2i0 (by have hG := hH; replace hG := S2o0 hG; (try dsimp only at hG); have q0 := hG.1; have q1 := hG.2.1; have q2 := hG.2.2.1; have q3 := hG.2.2.2.1; have q4 := hG.2.2.2.2.1; have q5 := hG.2.2.2.2.2.1; have q6 := hG.2.2.2.2.2.2; exact ⟨q0.alloc _, Sl.alloc q1 _, keepCell ((Below.refl _ _).alloc (Nat.le_refl _) _) q2, keepCell ((Below.refl _ _).alloc (Nat.le_refl _) _) q3, keepCell ((Below.refl _ _).alloc (Nat.le_refl _) _) q4, keepCell ((Below.refl _ _).alloc (Nat.le_refl _) _) q5, q6.alloc q6.size _⟩)
              clear hK K hH
              have hH := hH2
              clear hH2
              try simp only [Act.put, List.setIfInBounds_toArray, List.set_cons_zero, List.set_cons_succ]
              have hU : VZ (wn.alloc (.cells #[.int .i64 0, .int .i64 0] 34)) wn.heap.size := VZ.here _ _ _ _
              replace hT := keepVZ ((Below.refl _ _).alloc (Nat.le_refl _) (.cells #[.int .i64 0, .int .i64 0] 34)) hT
              obtain ⟨gU, hgU⟩ : ∃ g, g = wn.heap.size := ⟨_, rfl⟩
              have hlU : g9 < gU ∧ gT < gU := by rw [hgU]; exact ⟨lt_of_cell q4, hZT⟩
              rw [← hgU] at hU
              try rw [← hgU]
              clear hgU q0 q1 q2 q3 q4 q5 q6
              generalize wn.alloc (.cells #[.int .i64 0, .int .i64 0] 34) = wx13 at *
              refine wpAnyU_ready (rs := [11]) (by kernel_rfl) (by simp) ?_
              refine AllReadyU.cons 0 (by kernel_rfl) (o := _) rfl (fun K hK => ?_) AllReadyU.nil
              try clear hb
              have hG := hH
              replace hG := S2o0 hG; (try dsimp only at hG); have q0 := hG.1; have q1 := hG.2.1; have q2 := hG.2.2.1; have q3 := hG.2.2.2.1; have q4 := hG.2.2.2.2.1; have q5 := hG.2.2.2.2.2.1; have q6 := hG.2.2.2.2.2.2
              go_simp
              (go_at_call 29; refine (HA2.out _ _ _ _ q1).mono ?_; rintro e wn ⟨rfl, hb⟩; (try (replace hT := keepVZ hb hT)); (try (replace hU := keepVZ hb hU)))
              refine hK.out _ _ ?hsr2_46 (fun hH2 => ?hrr2_46)
              case hsr2_46 => exact S2i0 (by have hG := hH; replace hG := S2o0 hG; (try dsimp only at hG); have q0 := hG.1; have q1 := hG.2.1; have q2 := hG.2.2.1; have q3 := hG.2.2.2.1; have q4 := hG.2.2.2.2.1; have q5 := hG.2.2.2.2.2.1; have q6 := hG.2.2.2.2.2.2; exact ⟨keepBd hb q0, keepSl hb q1, keepCell hb q2, keepCell hb q3, keepCell hb q4, keepCell hb q5, keepBelow hb q6⟩)
              clear hK K hH
              have hH := hH2
              clear hH2
              try simp only [Act.put, List.setIfInBounds_toArray, List.set_cons_zero, List.set_cons_succ]
              refine wpAnyU_ready (rs := [14]) (by kernel_rfl) (by simp) ?_
              refine AllReadyU.cons 1 (by kernel_rfl) (o := _) rfl (fun K hK => ?_) AllReadyU.nil
              have hG := hH
              replace hG := S2o0 hG; (try dsimp only at hG); have q0 := hG.1; have q1 := hG.2.1; have q2 := hG.2.2.1; have q3 := hG.2.2.2.1; have q4 := hG.2.2.2.2.1; have q5 := hG.2.2.2.2.2.1; have q6 := hG.2.2.2.2.2.2
              have HT := hid hT
              have HU := hid hU
              obtain ⟨⟨z0, z1, y0, y1⟩, yf⟩ := hT
              obtain ⟨⟨u0, u1, v0, v1⟩, uf⟩ := hU
              go_simp
              refine hK.out _ _ ?hsr2_47 (fun hH2 => ?hrr2_47)
              case hsr2_47 => exact S2i1
              clear hK K hH
              have hH := hH2
              clear hH2
              try simp only [Act.put, List.setIfInBounds_toArray, List.set_cons_zero, List.set_cons_succ]
              refine wpAnyU_ready (rs := [15]) (by kernel_rfl) (by simp) ?_
              refine AllReadyU.cons 1 (by kernel_rfl) (o := _) rfl (fun K hK => ?_) AllReadyU.nil
              go_simp
              refine hK.out _ _ ?hsr2_48 (fun hH2 => ?hrr2_48)
              case hsr2_48 => exact S2i1
              clear hK K hH
              have hH := hH2
              clear hH2
              try simp only [Act.put, List.setIfInBounds_toArray, List.set_cons_zero, List.set_cons_succ]
              refine wpAnyU_done (by kernel_rfl) ?_ _ _
              refine NoPanic.normal ?_
              go_wp2_with fail
              go_meet
              exact spins_end hgb (by omega) (by omega) (by omega) hw0 q0 q4 q5 q6 HT.out HU.out
            exact AllReadyU.nil
          refine AllReadyU.cons 0 (by kernel_rfl) (o := _) rfl (fun K hK => ?_) ?_
          · try clear hb
            have hG := hH
            replace hG := S2o0 hG; (try dsimp only at hG); have q0 := hG.1; have q1 := hG.2.1; have q2 := hG.2.2.1; have q3 := hG.2.2.2.1; have q4 := hG.2.2.2.2.1; have q5 := hG.2.2.2.2.2.1; have q6 := hG.2.2.2.2.2.2
            have hZT := VZ.lt hT
            go_simp
            refine hK.out _ _ ?hsr2_49 (fun hH2 => ?hrr2_49)
            case hsr2_49 => exact S2i0 (by have hG := hH; replace hG := S2o0 hG; (try dsimp only at hG); have q0 := hG.1; have q1 := hG.2.1; have q2 := hG.2.2.1; have q3 := hG.2.2.2.1; have q4 := hG.2.2.2.2.1; have q5 := hG.2.2.2.2.2.1; have q6 := hG.2.2.2.2.2.2; exact ⟨q0.alloc _, Sl.alloc q1 _, keepCell ((Below.refl _ _).alloc (Nat.le_refl _) _) q2, keepCell ((Below.refl _ _).alloc (Nat.le_refl _) _) q3, keepCell ((Below.refl _ _).alloc (Nat.le_refl _) _) q4, keepCell ((Below.refl _ _).alloc (Nat.le_refl _) _) q5, q6.alloc q6.size _⟩)
            clear hK K hH
            have hH := hH2
            clear hH2
            try simp only [Act.put, List.setIfInBounds_toArray, List.set_cons_zero, List.set_cons_succ]
            have hU : VZ (wx12.alloc (.cells #[.int .i64 0, .int .i64 0] 34)) wx12.heap.size := VZ.here _ _ _ _
            replace hT := keepVZ ((Below.refl _ _).alloc (Nat.le_refl _) (.cells #[.int .i64 0, .int .i64 0] 34)) hT
            obtain ⟨gU, hgU⟩ : ∃ g, g = wx12.heap.size := ⟨_, rfl⟩
            have hlU : g9 < gU ∧ gT < gU := by rw [hgU]; exact ⟨lt_of_cell q4, hZT⟩
            rw [← hgU] at hU
            try rw [← hgU]
            clear hgU q0 q1 q2 q3 q4 q5 q6
            generalize wx12.alloc (.cells #[.int .i64 0, .int .i64 0] 34) = wx13 at *
            refine wpAnyU_ready (rs := [10]) (by kernel_rfl) (by simp) ?_
            refine AllReadyU.cons 0 (by kernel_rfl) (o := _) rfl (fun K hK => ?_) AllReadyU.nil
            try clear hb
            go_simp
            (go_at_call 31; refine (vsub_calls b.px b.py x y _).mono ?_; rintro e wn ⟨rfl, hb⟩; (try (replace hT := keepVZ hb hT)); (try (replace hU := keepVZ hb hU)))
            refine hK.out _ _ ?hsr2_50 (fun hH2 => ?hrr2_50)
            case hsr2_50 => exact S2i0 (by have hG := hH; replace hG := S2o0 hG; (try dsimp only at hG); have q0 := hG.1; have q1 := hG.2.1; have q2 := hG.2.2.1; have q3 := hG.2.2.2.1; have q4 := hG.2.2.2.2.1; have q5 := hG.2.2.2.2.2.1; have q6 := hG.2.2.2.2.2.2; exact ⟨keepBd hb q0, keepSl hb q1, keepCell hb q2, keepCell hb q3, keepCell hb q4, keepCell hb q5, keepBelow hb q6⟩)
            clear hK K hH
            have hH := hH2
            clear hH2
            try simp only [Act.put, List.setIfInBounds_toArray, List.set_cons_zero, List.set_cons_succ]
            refine wpAnyU_ready (rs := [11]) (by kernel_rfl) (by simp) ?_
            refine AllReadyU.cons 0 (by kernel_rfl) (o := _) rfl (fun K hK => ?_) AllReadyU.nil
            try clear hb
            have hG := hH
            replace hG := S2o0 hG; (try dsimp only at hG); have q0 := hG.1; have q1 := hG.2.1; have q2 := hG.2.2.1; have q3 := hG.2.2.2.1; have q4 := hG.2.2.2.2.1; have q5 := hG.2.2.2.2.2.1; have q6 := hG.2.2.2.2.2.2
            go_simp
            (go_at_call 29; refine (HA2.out _ _ _ _ q1).mono ?_; rintro e wn ⟨rfl, hb⟩; (try (replace hT := keepVZ hb hT)); (try (replace hU := keepVZ hb hU)))
            refine hK.out _ _ ?hsr2_51 (fun hH2 => ?hrr2_51)
            case hsr2_51 => exact S2i0 (by have hG := hH; replace hG := S2o0 hG; (try dsimp only at hG); have q0 := hG.1; have q1 := hG.2.1; have q2 := hG.2.2.1; have q3 := hG.2.2.2.1; have q4 := hG.2.2.2.2.1; have q5 := hG.2.2.2.2.2.1; have q6 := hG.2.2.2.2.2.2; exact ⟨keepBd hb q0, keepSl hb q1, keepCell hb q2, keepCell hb q3, keepCell hb q4, keepCell hb q5, keepBelow hb q6⟩)
            clear hK K hH
            have hH := hH2
            clear hH2
            try simp only [Act.put, List.setIfInBounds_toArray, List.set_cons_zero, List.set_cons_succ]
            refine wpAnyU_ready (rs := [14]) (by kernel_rfl) (by simp) ?_
            refine AllReadyU.cons 1 (by kernel_rfl) (o := _) rfl (fun K hK => ?_) AllReadyU.nil
            have hG := hH
            replace hG := S2o0 hG; (try dsimp only at hG); have q0 := hG.1; have q1 := hG.2.1; have q2 := hG.2.2.1; have q3 := hG.2.2.2.1; have q4 := hG.2.2.2.2.1; have q5 := hG.2.2.2.2.2.1; have q6 := hG.2.2.2.2.2.2
            have HT := hid hT
            have HU := hid hU
            obtain ⟨⟨z0, z1, y0, y1⟩, yf⟩ := hT
            obtain ⟨⟨u0, u1, v0, v1⟩, uf⟩ := hU
            go_simp
            refine hK.out _ _ ?hsr2_52 (fun hH2 => ?hrr2_52)
            case hsr2_52 => exact S2i1
            clear hK K hH
            have hH := hH2
            clear hH2
            try simp only [Act.put, List.setIfInBounds_toArray, List.set_cons_zero, List.set_cons_succ]
            refine wpAnyU_ready (rs := [15]) (by kernel_rfl) (by simp) ?_
            refine AllReadyU.cons 1 (by kernel_rfl) (o := _) rfl (fun K hK => ?_) AllReadyU.nil
            go_simp
            refine hK.out _ _ ?hsr2_53 (fun hH2 => ?hrr2_53)
            case hsr2_53 => exact S2i1
            clear hK K hH
            have hH := hH2
            clear hH2
            try simp only [Act.put, List.setIfInBounds_toArray, List.set_cons_zero, List.set_cons_succ]
            refine wpAnyU_done (by kernel_rfl) ?_ _ _
            refine NoPanic.normal ?_
            go_wp2_with fail
            go_meet
            exact spins_end hgb (by omega) (by omega) (by omega) hw0 q0 q4 q5 q6 HT.out HU.out
          exact AllReadyU.nil
        refine AllReadyU.cons 0 (by kernel_rfl) (o := _) rfl (fun K hK => ?_) ?_
        · try clear hb
          have hG := hH
          replace hG := S2o0 hG; (try dsimp only at hG); have q0 := hG.1; have q1 := hG.2.1; have q2 := hG.2.2.1; have q3 := hG.2.2.2.1; have q4 := hG.2.2.2.2.1; have q5 := hG.2.2.2.2.2.1; have q6 := hG.2.2.2.2.2.2
          go_simp
          refine hK.out _ _ ?hsr2_54 (fun hH2 => ?hrr2_54)
          case hsr2_54 => exact S2i0 (by have hG := hH; replace hG := S2o0 hG; (try dsimp only at hG); have q0 := hG.1; have q1 := hG.2.1; have q2 := hG.2.2.1; have q3 := hG.2.2.2.1; have q4 := hG.2.2.2.2.1; have q5 := hG.2.2.2.2.2.1; have q6 := hG.2.2.2.2.2.2; exact ⟨q0.alloc _, Sl.alloc q1 _, keepCell ((Below.refl _ _).alloc (Nat.le_refl _) _) q2, keepCell ((Below.refl _ _).alloc (Nat.le_refl _) _) q3, keepCell ((Below.refl _ _).alloc (Nat.le_refl _) _) q4, keepCell ((Below.refl _ _).alloc (Nat.le_refl _) _) q5, q6.alloc q6.size _⟩)
          clear hK K hH
          have hH := hH2
          clear hH2
          try simp only [Act.put, List.setIfInBounds_toArray, List.set_cons_zero, List.set_cons_succ]
          have hU : VZ (wn.alloc (.cells #[.int .i64 0, .int .i64 0] 34)) wn.heap.size := VZ.here _ _ _ _
          obtain ⟨gU, hgU⟩ : ∃ g, g = wn.heap.size := ⟨_, rfl⟩
          have hlU : g9 < gU := by rw [hgU]; exact lt_of_cell q4
          rw [← hgU] at hU
          try rw [← hgU]
          clear hgU q0 q1 q2 q3 q4 q5 q6
          generalize wn.alloc (.cells #[.int .i64 0, .int .i64 0] 34) = wx13 at *
          refine wpAnyU_ready (rs := [10, 12]) (by kernel_rfl) (by simp) ?_
          refine AllReadyU.cons 0 (by kernel_rfl) (o := _) rfl (fun K hK => ?_) ?_
          · try clear hb
            go_simp
            (go_at_call 31; refine (vsub_calls b.px b.py x y _).mono ?_; rintro e wn ⟨rfl, hb⟩; (try (replace hT := keepVZ hb hT)); (try (replace hU := keepVZ hb hU)))
            refine hK.out _ _ ?hsr2_55 (fun hH2 => ?hrr2_55)
            case hsr2_55 => exact S2i0 (by have hG := hH; replace hG := S2o0 hG; (try dsimp only at hG); have q0 := hG.1; have q1 := hG.2.1; have q2 := hG.2.2.1; have q3 := hG.2.2.2.1; have q4 := hG.2.2.2.2.1; have q5 := hG.2.2.2.2.2.1; have q6 := hG.2.2.2.2.2.2; exact ⟨keepBd hb q0, keepSl hb q1, keepCell hb q2, keepCell hb q3, keepCell hb q4, keepCell hb q5, keepBelow hb q6⟩)
            clear hK K hH
            have hH := hH2
            clear hH2
            try simp only [Act.put, List.setIfInBounds_toArray, List.set_cons_zero, List.set_cons_succ]
            refine wpAnyU_ready (rs := [11, 12]) (by kernel_rfl) (by simp) ?_
            refine AllReadyU.cons 0 (by kernel_rfl) (o := _) rfl (fun K hK => ?_) ?_
            · try clear hb
              have hG := hH
              replace hG := S2o0 hG; (try dsimp only at hG); have q0 := hG.1; have q1 := hG.2.1; have q2 := hG.2.2.1; have q3 := hG.2.2.2.1; have q4 := hG.2.2.2.2.1; have q5 := hG.2.2.2.2.2.1; have q6 := hG.2.2.2.2.2.2
              go_simp
              (go_at_call 29; refine (HA2.out _ _ _ _ q1).mono ?_; rintro e wn ⟨rfl, hb⟩; (try (replace hT := keepVZ hb hT)); (try (replace hU := keepVZ hb hU)))
              refine hK.out _ _ ?hsr2_56 (fun hH2 => ?hrr2_56)
              case hsr2_56 => exact S2i0 (by have hG := hH; replace hG := S2o0 hG; (try dsimp only at hG); have q0 := hG.1; have q1 := hG.2.1; have q2 := hG.2.2.1; have q3 := hG.2.2.2.1; have q4 := hG.2.2.2.2.1; have q5 := hG.2.2.2.2.2.1; have q6 := hG.2.2.2.2.2.2; exact ⟨keepBd hb q0, keepSl hb q1, keepCell hb q2, keepCell hb q3, keepCell hb q4, keepCell hb q5, keepBelow hb q6⟩)
              clear hK K hH
              have hH := hH2
              clear hH2
              try simp only [Act.put, List.setIfInBounds_toArray, List.set_cons_zero, List.set_cons_succ]
              refine wpAnyU_ready (rs := [12]) (by kernel_rfl) (by simp) ?_
              refine AllReadyU.cons 0 (by kernel_rfl) (o := _) rfl (fun K hK => ?_) AllReadyU.nil
              try clear hb
              have hG := hH
              replace hG := S2o0 hG; (try dsimp only at hG); have q0 := hG.1; have q1 := hG.2.1; have q2 := hG.2.2.1; have q3 := hG.2.2.2.1; have q4 := hG.2.2.2.2.1; have q5 := hG.2.2.2.2.2.1; have q6 := hG.2.2.2.2.2.2
              have hZU := VZ.lt hU
              go_simp
              refine hK.out _ _ ?hsr2_57 (fun hH2 => ?hrr2_57)
              case hsr2_57 => exact S2i0 (by have hG := hH; replace hG := S2o0 hG; (try dsimp only at hG); have q0 := hG.1; have q1 := hG.2.1; have q2 := hG.2.2.1; have q3 := hG.2.2.2.1; have q4 := hG.2.2.2.2.1; have q5 := hG.2.2.2.2.2.1; have q6 := hG.2.2.2.2.2.2; exact ⟨q0.alloc _, Sl.alloc q1 _, keepCell ((Below.refl _ _).alloc (Nat.le_refl _) _) q2, keepCell ((Below.refl _ _).alloc (Nat.le_refl _) _) q3, keepCell ((Below.refl _ _).alloc (Nat.le_refl _) _) q4, keepCell ((Below.refl _ _).alloc (Nat.le_refl _) _) q5, q6.alloc q6.size _⟩)
              clear hK K hH
              have hH := hH2
              clear hH2
              try simp only [Act.put, List.setIfInBounds_toArray, List.set_cons_zero, List.set_cons_succ]
              have hT : VZ (wn.alloc (.cells #[.int .i64 0, .int .i64 0] 34)) wn.heap.size := VZ.here _ _ _ _
              replace hU := keepVZ ((Below.refl _ _).alloc (Nat.le_refl _) (.cells #[.int .i64 0, .int .i64 0] 34)) hU
              obtain ⟨gT, hgT⟩ : ∃ g, g = wn.heap.size := ⟨_, rfl⟩
              have hlT : g9 < gT ∧ gU < gT := by rw [hgT]; exact ⟨lt_of_cell q4, hZU⟩
              rw [← hgT] at hT
              try rw [← hgT]
              clear hgT q0 q1 q2 q3 q4 q5 q6
              generalize wn.alloc (.cells #[.int .i64 0, .int .i64 0] 34) = wx12 at *
              refine wpAnyU_ready (rs := [14]) (by kernel_rfl) (by simp) ?_
              refine AllReadyU.cons 1 (by kernel_rfl) (o := _) rfl (fun K hK => ?_) AllReadyU.nil
              have hG := hH
              replace hG := S2o0 hG; (try dsimp only at hG); have q0 := hG.1; have q1 := hG.2.1; have q2 := hG.2.2.1; have q3 := hG.2.2.2.1; have q4 := hG.2.2.2.2.1; have q5 := hG.2.2.2.2.2.1; have q6 := hG.2.2.2.2.2.2
              have HT := hid hT
              have HU := hid hU
              obtain ⟨⟨z0, z1, y0, y1⟩, yf⟩ := hT
              obtain ⟨⟨u0, u1, v0, v1⟩, uf⟩ := hU
              go_simp
              refine hK.out _ _ ?hsr2_58 (fun hH2 => ?hrr2_58)
              case hsr2_58 => exact S2i1
              clear hK K hH
              have hH := hH2
              clear hH2
              try simp only [Act.put, List.setIfInBounds_toArray, List.set_cons_zero, List.set_cons_succ]
              refine wpAnyU_ready (rs := [15]) (by kernel_rfl) (by simp) ?_
              refine AllReadyU.cons 1 (by kernel_rfl) (o := _) rfl (fun K hK => ?_) AllReadyU.nil
              go_simp
              refine hK.out _ _ ?hsr2_59 (fun hH2 => ?hrr2_59)
              case hsr2_59 => exact S2i1
              clear hK K hH
              have hH := hH2
              clear hH2
              try simp only [Act.put, List.setIfInBounds_toArray, List.set_cons_zero, List.set_cons_succ]
              refine wpAnyU_done (by kernel_rfl) ?_ _ _
              refine NoPanic.normal ?_
              go_wp2_with fail
              go_meet
              exact spins_end hgb (by omega) (by omega) (by omega) hw0 q0 q4 q5 q6 HT.out HU.out
            refine AllReadyU.cons 0 (by kernel_rfl) (o := _) rfl (fun K hK => ?_) ?_
            · try clear hb
              have hG := hH
              replace hG := S2o0 hG; (try dsimp only at hG); have q0 := hG.1; have q1 := hG.2.1; have q2 := hG.2.2.1; have q3 := hG.2.2.2.1; have q4 := hG.2.2.2.2.1; have q5 := hG.2.2.2.2.2.1; have q6 := hG.2.2.2.2.2.2
              have hZU := VZ.lt hU
              go_simp
              refine hK.out _ _ ?hsr2_60 (fun hH2 => ?hrr2_60)
              case hsr2_60 => exact S2i0 (by have hG := hH; replace hG := S2o0 hG; (try dsimp only at hG); have q0 := hG.1; have q1 := hG.2.1; have q2 := hG.2.2.1; have q3 := hG.2.2.2.1; have q4 := hG.2.2.2.2.1; have q5 := hG.2.2.2.2.2.1; have q6 := hG.2.2.2.2.2.2; exact ⟨q0.alloc _, Sl.alloc q1 _, keepCell ((Below.refl _ _).alloc (Nat.le_refl _) _) q2, keepCell ((Below.refl _ _).alloc (Nat.le_refl _) _) q3, keepCell ((Below.refl _ _).alloc (Nat.le_refl _) _) q4, keepCell ((Below.refl _ _).alloc (Nat.le_refl _) _) q5, q6.alloc q6.size _⟩)
              clear hK K hH
              have hH := hH2
              clear hH2
              try simp only [Act.put, List.setIfInBounds_toArray, List.set_cons_zero, List.set_cons_succ]
              have hT : VZ (wn.alloc (.cells #[.int .i64 0, .int .i64 0] 34)) wn.heap.size := VZ.here _ _ _ _
              replace hU := keepVZ ((Below.refl _ _).alloc (Nat.le_refl _) (.cells #[.int .i64 0, .int .i64 0] 34)) hU
              obtain ⟨gT, hgT⟩ : ∃ g, g = wn.heap.size := ⟨_, rfl⟩
              have hlT : g9 < gT ∧ gU < gT := by rw [hgT]; exact ⟨lt_of_cell q4, hZU⟩
              rw [← hgT] at hT
              try rw [← hgT]
              clear hgT q0 q1 q2 q3 q4 q5 q6
              generalize wn.alloc (.cells #[.int .i64 0, .int .i64 0] 34) = wx12 at *
              refine wpAnyU_ready (rs := [11]) (by kernel_rfl) (by simp) ?_
              refine AllReadyU.cons 0 (by kernel_rfl) (o := _) rfl (fun K hK => ?_) AllReadyU.nil
              try clear hb
              have hG := hH
              replace hG := S2o0 hG; (try dsimp only at hG); have q0 := hG.1; have q1 := hG.2.1; have q2 := hG.2.2.1; have q3 := hG.2.2.2.1; have q4 := hG.2.2.2.2.1; have q5 := hG.2.2.2.2.2.1; have q6 := hG.2.2.2.2.2.2
              go_simp
              (go_at_call 29; refine (HA2.out _ _ _ _ q1).mono ?_; rintro e wn ⟨rfl, hb⟩; (try (replace hT := keepVZ hb hT)); (try (replace hU := keepVZ hb hU)))
              refine hK.out _ _ ?hsr2_61 (fun hH2 => ?hrr2_61)
              case hsr2_61 => exact S2i0 (by have hG := hH; replace hG := S2o0 hG; (try dsimp only at hG); have q0 := hG.1; have q1 := hG.2.1; have q2 := hG.2.2.1; have q3 := hG.2.2.2.1; have q4 := hG.2.2.2.2.1; have q5 := hG.2.2.2.2.2.1; have q6 := hG.2.2.2.2.2.2; exact ⟨keepBd hb q0, keepSl hb q1, keepCell hb q2, keepCell hb q3, keepCell hb q4, keepCell hb q5, keepBelow hb q6⟩)
              clear hK K hH
              have hH := hH2
              clear hH2
              try simp only [Act.put, List.setIfInBounds_toArray, List.set_cons_zero, List.set_cons_succ]
              refine wpAnyU_ready (rs := [14]) (by kernel_rfl) (by simp) ?_
              refine AllReadyU.cons 1 (by kernel_rfl) (o := _) rfl (fun K hK => ?_) AllReadyU.nil
              have hG := hH
              replace hG := S2o0 hG; (try dsimp only at hG); have q0 := hG.1; have q1 := hG.2.1; have q2 := hG.2.2.1; have q3 := hG.2.2.2.1; have q4 := hG.2.2.2.2.1; have q5 := hG.2.2.2.2.2.1; have q6 := hG.2.2.2.2.2.2
              have HT := hid hT
              have HU := hid hU
              obtain ⟨⟨z0, z1, y0, y1⟩, yf⟩ := hT
              obtain ⟨⟨u0, u1, v0, v1⟩, uf⟩ := hU
              go_simp
              refine hK.out _ _ ?hsr2_62 (fun hH2 => ?hrr2_62)
              case hsr2_62 => exact S2i1
              clear hK K hH
              have hH := hH2
              clear hH2
              try simp only [Act.put, List.setIfInBounds_toArray, List.set_cons_zero, List.set_cons_succ]
              refine wpAnyU_ready (rs := [15]) (by kernel_rfl) (by simp) ?_
              refine AllReadyU.cons 1 (by kernel_rfl) (o := _) rfl (fun K hK => ?_) AllReadyU.nil
              go_simp
              refine hK.out _ _ ?hsr2_63 (fun hH2 => ?hrr2_63)
              case hsr2_63 => exact S2i1
              clear hK K hH
              have hH := hH2
              clear hH2
              try simp only [Act.put, List.setIfInBounds_toArray, List.set_cons_zero, List.set_cons_succ]
              refine wpAnyU_done (by kernel_rfl) ?_ _ _
              refine NoPanic.normal ?_
              go_wp2_with fail
              go_meet
              exact spins_end hgb (by omega) (by omega) (by omega) hw0 q0 q4 q5 q6 HT.out HU.out
            exact AllReadyU.nil
          refine AllReadyU.cons 0 (by kernel_rfl) (o := _) rfl (fun K hK => ?_) ?_
          · try clear hb
            have hG := hH
            replace hG := S2o0 hG; (try dsimp only at hG); have q0 := hG.1; have q1 := hG.2.1; have q2 := hG.2.2.1; have q3 := hG.2.2.2.1; have q4 := hG.2.2.2.2.1; have q5 := hG.2.2.2.2.2.1; have q6 := hG.2.2.2.2.2.2
            have hZU := VZ.lt hU
            go_simp
            refine hK.out _ _ ?hsr2_64 (fun hH2 => ?hrr2_64)
            case hsr2_64 => exact S2i0 (by have hG := hH; replace hG := S2o0 hG; (try dsimp only at hG); have q0 := hG.1; have q1 := hG.2.1; have q2 := hG.2.2.1; have q3 := hG.2.2.2.1; have q4 := hG.2.2.2.2.1; have q5 := hG.2.2.2.2.2.1; have q6 := hG.2.2.2.2.2.2; exact ⟨q0.alloc _, Sl.alloc q1 _, keepCell ((Below.refl _ _).alloc (Nat.le_refl _) _) q2, keepCell ((Below.refl _ _).alloc (Nat.le_refl _) _) q3, keepCell ((Below.refl _ _).alloc (Nat.le_refl _) _) q4, keepCell ((Below.refl _ _).alloc (Nat.le_refl _) _) q5, q6.alloc q6.size _⟩)
            clear hK K hH
            have hH := hH2
            clear hH2
            try simp only [Act.put, List.setIfInBounds_toArray, List.set_cons_zero, List.set_cons_succ]
            have hT : VZ (wx13.alloc (.cells #[.int .i64 0, .int .i64 0] 34)) wx13.heap.size := VZ.here _ _ _ _
            replace hU := keepVZ ((Below.refl _ _).alloc (Nat.le_refl _) (.cells #[.int .i64 0, .int .i64 0] 34)) hU
            obtain ⟨gT, hgT⟩ : ∃ g, g = wx13.heap.size := ⟨_, rfl⟩
            have hlT : g9 < gT ∧ gU < gT := by rw [hgT]; exact ⟨lt_of_cell q4, hZU⟩
            rw [← hgT] at hT
            try rw [← hgT]
            clear hgT q0 q1 q2 q3 q4 q5 q6
            generalize wx13.alloc (.cells #[.int .i64 0, .int .i64 0] 34) = wx12 at *
            refine wpAnyU_ready (rs := [10]) (by kernel_rfl) (by simp) ?_
            refine AllReadyU.cons 0 (by kernel_rfl) (o := _) rfl (fun K hK => ?_) AllReadyU.nil
            try clear hb
            go_simp
            (go_at_call 31; refine (vsub_calls b.px b.py x y _).mono ?_; rintro e wn ⟨rfl, hb⟩; (try (replace hT := keepVZ hb hT)); (try (replace hU := keepVZ hb hU)))
            refine hK.out _ _ ?hsr2_65 (fun hH2 => ?hrr2_65)
            case hsr2_65 => exact S2i0 (by have hG := hH; replace hG := S2o0 hG; (try dsimp only at hG); have q0 := hG.1; have q1 := hG.2.1; have q2 := hG.2.2.1; have q3 := hG.2.2.2.1; have q4 := hG.2.2.2.2.1; have q5 := hG.2.2.2.2.2.1; have q6 := hG.2.2.2.2.2.2; exact ⟨keepBd hb q0, keepSl hb q1, keepCell hb q2, keepCell hb q3, keepCell hb q4, keepCell hb q5, keepBelow hb q6⟩)
            clear hK K hH
            have hH := hH2
            clear hH2
            try simp only [Act.put, List.setIfInBounds_toArray, List.set_cons_zero, List.set_cons_succ]
            refine wpAnyU_ready (rs := [11]) (by kernel_rfl) (by simp) ?_
            refine AllReadyU.cons 0 (by kernel_rfl) (o := _) rfl (fun K hK => ?_) AllReadyU.nil
            try clear hb
            have hG := hH
            replace hG := S2o0 hG; (try dsimp only at hG); have q0 := hG.1; have q1 := hG.2.1; have q2 := hG.2.2.1; have q3 := hG.2.2.2.1; have q4 := hG.2.2.2.2.1; have q5 := hG.2.2.2.2.2.1; have q6 := hG.2.2.2.2.2.2
            go_simp
            (go_at_call 29; refine (HA2.out _ _ _ _ q1).mono ?_; rintro e wn ⟨rfl, hb⟩; (try (replace hT := keepVZ hb hT)); (try (replace hU := keepVZ hb hU)))
            refine hK.out _ _ ?hsr2_66 (fun hH2 => ?hrr2_66)
            case hsr2_66 => exact S2i0 (by have hG := hH; replace hG := S2o0 hG; (try dsimp only at hG); have q0 := hG.1; have q1 := hG.2.1; have q2 := hG.2.2.1; have q3 := hG.2.2.2.1; have q4 := hG.2.2.2.2.1; have q5 := hG.2.2.2.2.2.1; have q6 := hG.2.2.2.2.2.2; exact ⟨keepBd hb q0, keepSl hb q1, keepCell hb q2, keepCell hb q3, keepCell hb q4, keepCell hb q5, keepBelow hb q6⟩)
            clear hK K hH
            have hH := hH2
            clear hH2
            try simp only [Act.put, List.setIfInBounds_toArray, List.set_cons_zero, List.set_cons_succ]
            refine wpAnyU_ready (rs := [14]) (by kernel_rfl) (by simp) ?_
            refine AllReadyU.cons 1 (by kernel_rfl) (o := _) rfl (fun K hK => ?_) AllReadyU.nil
            have hG := hH
            replace hG := S2o0 hG; (try dsimp only at hG); have q0 := hG.1; have q1 := hG.2.1; have q2 := hG.2.2.1; have q3 := hG.2.2.2.1; have q4 := hG.2.2.2.2.1; have q5 := hG.2.2.2.2.2.1; have q6 := hG.2.2.2.2.2.2
            have HT := hid hT
            have HU := hid hU
            obtain ⟨⟨z0, z1, y0, y1⟩, yf⟩ := hT
            obtain ⟨⟨u0, u1, v0, v1⟩, uf⟩ := hU
            go_simp
            refine hK.out _ _ ?hsr2_67 (fun hH2 => ?hrr2_67)
            case hsr2_67 => exact S2i1
            clear hK K hH
            have hH := hH2
            clear hH2
            try simp only [Act.put, List.setIfInBounds_toArray, List.set_cons_zero, List.set_cons_succ]
            refine wpAnyU_ready (rs := [15]) (by kernel_rfl) (by simp) ?_
            refine AllReadyU.cons 1 (by kernel_rfl) (o := _) rfl (fun K hK => ?_) AllReadyU.nil
            go_simp
            refine hK.out _ _ ?hsr2_68 (fun hH2 => ?hrr2_68)
            case hsr2_68 => exact S2i1
            clear hK K hH
            have hH := hH2
            clear hH2
            try simp only [Act.put, List.setIfInBounds_toArray, List.set_cons_zero, List.set_cons_succ]
            refine wpAnyU_done (by kernel_rfl) ?_ _ _
            refine NoPanic.normal ?_
            go_wp2_with fail
            go_meet
            exact spins_end hgb (by omega) (by omega) (by omega) hw0 q0 q4 q5 q6 HT.out HU.out
          exact AllReadyU.nil
        exact AllReadyU.nil
      refine AllReadyU.cons 0 (by kernel_rfl) (o := _) rfl (fun K hK => ?_) ?_
      · try clear hb
        have hG := hH
        replace hG := S2o0 hG; (try dsimp only at hG); have q0 := hG.1; have q1 := hG.2.1; have q2 := hG.2.2.1; have q3 := hG.2.2.2.1; have q4 := hG.2.2.2.2.1; have q5 := hG.2.2.2.2.2.1; have q6 := hG.2.2.2.2.2.2
        go_simp
        refine hK.out _ _ ?hsr2_69 (fun hH2 => ?hrr2_69)
        case hsr2_69 => exact S2i0 (by have hG := hH; replace hG := S2o0 hG; (try dsimp only at hG); have q0 := hG.1; have q1 := hG.2.1; have q2 := hG.2.2.1; have q3 := hG.2.2.2.1; have q4 := hG.2.2.2.2.1; have q5 := hG.2.2.2.2.2.1; have q6 := hG.2.2.2.2.2.2; exact ⟨q0.alloc _, Sl.alloc q1 _, keepCell ((Below.refl _ _).alloc (Nat.le_refl _) _) q2, keepCell ((Below.refl _ _).alloc (Nat.le_refl _) _) q3, keepCell ((Below.refl _ _).alloc (Nat.le_refl _) _) q4, keepCell ((Below.refl _ _).alloc (Nat.le_refl _) _) q5, q6.alloc q6.size _⟩)
        clear hK K hH
        have hH := hH2
        clear hH2
        try simp only [Act.put, List.setIfInBounds_toArray, List.set_cons_zero, List.set_cons_succ]
        have hT : VZ (wn.alloc (.cells #[.int .i64 0, .int .i64 0] 34)) wn.heap.size := VZ.here _ _ _ _
        obtain ⟨gT, hgT⟩ : ∃ g, g = wn.heap.size := ⟨_, rfl⟩
        have hlT : g9 < gT := by rw [hgT]; exact lt_of_cell q4
        rw [← hgT] at hT
        try rw [← hgT]
        clear hgT q0 q1 q2 q3 q4 q5 q6
        generalize wn.alloc (.cells #[.int .i64 0, .int .i64 0] 34) = wx12 at *
        refine wpAnyU_ready (rs := [5, 13]) (by kernel_rfl) (by simp) ?_
        refine AllReadyU.cons 0 (by kernel_rfl) (o := _) rfl (fun K hK => ?_) ?_
        · try clear hb
          have hG := hH
          replace hG := S2o0 hG; (try dsimp only at hG); have q0 := hG.1; have q1 := hG.2.1; have q2 := hG.2.2.1; have q3 := hG.2.2.2.1; have q4 := hG.2.2.2.2.1; have q5 := hG.2.2.2.2.2.1; have q6 := hG.2.2.2.2.2.2
          go_simp
          (go_at_call 29; refine (HA1.out _ _ _ _ q1).mono ?_; rintro e wn ⟨rfl, hb⟩; (try (replace hT := keepVZ hb hT)); (try (replace hU := keepVZ hb hU)))
          refine hK.out _ _ ?hsr2_70 (fun hH2 => ?hrr2_70)
          case hsr2_70 => exact S2i0 (by have hG := hH; replace hG := S2o0 hG; (try dsimp only at hG); have q0 := hG.1; have q1 := hG.2.1; have q2 := hG.2.2.1; have q3 := hG.2.2.2.1; have q4 := hG.2.2.2.2.1; have q5 := hG.2.2.2.2.2.1; have q6 := hG.2.2.2.2.2.2; exact ⟨keepBd hb q0, keepSl hb q1, keepCell hb q2, keepCell hb q3, keepCell hb q4, keepCell hb q5, keepBelow hb q6⟩)
          clear hK K hH
          have hH := hH2
          clear hH2
          try simp only [Act.put, List.setIfInBounds_toArray, List.set_cons_zero, List.set_cons_succ]
          refine wpAnyU_ready (rs := [10, 13]) (by kernel_rfl) (by simp) ?_
          refine AllReadyU.cons 0 (by kernel_rfl) (o := _) rfl (fun K hK => ?_) ?_
          · try clear hb
            go_simp
            (go_at_call 31; refine (vsub_calls b.px b.py x y _).mono ?_; rintro e wn ⟨rfl, hb⟩; (try (replace hT := keepVZ hb hT)); (try (replace hU := keepVZ hb hU)))
            refine hK.out _ _ ?hsr2_71 (fun hH2 => ?hrr2_71)
            case hsr2_71 => exact S2i0 (by have hG := hH; replace hG := S2o0 hG; (try dsimp only at hG); have q0 := hG.1; have q1 := hG.2.1; have q2 := hG.2.2.1; have q3 := hG.2.2.2.1; have q4 := hG.2.2.2.2.1; have q5 := hG.2.2.2.2.2.1; have q6 := hG.2.2.2.2.2.2; exact ⟨keepBd hb q0, keepSl hb q1, keepCell hb q2, keepCell hb q3, keepCell hb q4, keepCell hb q5, keepBelow hb q6⟩)
            clear hK K hH
            have hH := hH2
            clear hH2
            try simp only [Act.put, List.setIfInBounds_toArray, List.set_cons_zero, List.set_cons_succ]
            refine wpAnyU_ready (rs := [11, 13]) (by kernel_rfl) (by simp) ?_
            refine AllReadyU.cons 0 (by kernel_rfl) (o := _) rfl (fun K hK => ?_) ?_
            · try clear hb
              have hG := hH
              replace hG := S2o0 hG; (try dsimp only at hG); have q0 := hG.1; have q1 := hG.2.1; have q2 := hG.2.2.1; have q3 := hG.2.2.2.1; have q4 := hG.2.2.2.2.1; have q5 := hG.2.2.2.2.2.1; have q6 := hG.2.2.2.2.2.2
              go_simp
              (go_at_call 29; refine (HA2.out _ _ _ _ q1).mono ?_; rintro e wn ⟨rfl, hb⟩; (try (replace hT := keepVZ hb hT)); (try (replace hU := keepVZ hb hU)))
              refine hK.out _ _ ?hsr2_72 (fun hH2 => ?hrr2_72)
              case hsr2_72 => exact S2i0 (by have hG := hH; replace hG := S2o0 hG; (try dsimp only at hG); have q0 := hG.1; have q1 := hG.2.1; have q2 := hG.2.2.1; have q3 := hG.2.2.2.1; have q4 := hG.2.2.2.2.1; have q5 := hG.2.2.2.2.2.1; have q6 := hG.2.2.2.2.2.2; exact ⟨keepBd hb q0, keepSl hb q1, keepCell hb q2, keepCell hb q3, keepCell hb q4, keepCell hb q5, keepBelow hb q6⟩)
              clear hK K hH
              have hH := hH2
              clear hH2
              try simp only [Act.put, List.setIfInBounds_toArray, List.set_cons_zero, List.set_cons_succ]
              refine wpAnyU_ready (rs := [13]) (by kernel_rfl) (by simp) ?_
              refine AllReadyU.cons 0 (by kernel_rfl) (o := _) rfl (fun K hK => ?_) AllReadyU.nil
              try clear hb
              have hG := hH
              replace hG := S2o0 hG; (try dsimp only at hG); have q0 := hG.1; have q1 := hG.2.1; have q2 := hG.2.2.1; have q3 := hG.2.2.2.1; have q4 := hG.2.2.2.2.1; have q5 := hG.2.2.2.2.2.1; have q6 := hG.2.2.2.2.2.2
              have hZT := VZ.lt hT
              go_simp
              refine hK.out _ _ ?hsr2_73 (fun hH2 => ?hrr2_73)
              case hsr2_73 => exact S2i0 (by have hG := hH; replace hG := S2o0 hG; (try dsimp only at hG); have q0 := hG.1; have q1 := hG.2.1; have q2 := hG.2.2.1; have q3 := hG.2.2.2.1; have q4 := hG.2.2.2.2.1; have q5 := hG.2.2.2.2.2.1; have q6 := hG.2.2.2.2.2.2; exact ⟨q0.alloc _, Sl.alloc q1 _, keepCell ((Below.refl _ _).alloc (Nat.le_refl _) _) q2, keepCell ((Below.refl _ _).alloc (Nat.le_refl _) _) q3, keepCell ((Below.refl _ _).alloc (Nat.le_refl _) _) q4, keepCell ((Below.refl _ _).alloc (Nat.le_refl _) _) q5, q6.alloc q6.size _⟩)
              clear hK K hH
              have hH := hH2
              clear hH2
              try simp only [Act.put, List.setIfInBounds_toArray, List.set_cons_zero, List.set_cons_succ]
              have hU : VZ (wn.alloc (.cells #[.int .i64 0, .int .i64 0] 34)) wn.heap.size := VZ.here _ _ _ _
              replace hT := keepVZ ((Below.refl _ _).alloc (Nat.le_refl _) (.cells #[.int .i64 0, .int .i64 0] 34)) hT
              obtain ⟨gU, hgU⟩ : ∃ g, g = wn.heap.size := ⟨_, rfl⟩
              have hlU : g9 < gU ∧ gT < gU := by rw [hgU]; exact ⟨lt_of_cell q4, hZT⟩
              rw [← hgU] at hU
              try rw [← hgU]
              clear hgU q0 q1 q2 q3 q4 q5 q6
              generalize wn.alloc (.cells #[.int .i64 0, .int .i64 0] 34) = wx13 at *
              refine wpAnyU_ready (rs := [14]) (by kernel_rfl) (by simp) ?_
              refine AllReadyU.cons 1 (by kernel_rfl) (o := _) rfl (fun K hK => ?_) AllReadyU.nil
              have hG := hH
              replace hG := S2o0 hG; (try dsimp only at hG); have q0 := hG.1; have q1 := hG.2.1; have q2 := hG.2.2.1; have q3 := hG.2.2.2.1; have q4 := hG.2.2.2.2.1; have q5 := hG.2.2.2.2.2.1; have q6 := hG.2.2.2.2.2.2
              have HT := hid hT
              have HU := hid hU
              obtain ⟨⟨z0, z1, y0, y1⟩, yf⟩ := hT
              obtain ⟨⟨u0, u1, v0, v1⟩, uf⟩ := hU
              go_simp
              refine hK.out _ _ ?hsr2_74 (fun hH2 => ?hrr2_74)
              case hsr2_74 => exact S2i1
              clear hK K hH
              have hH := hH2
              clear hH2
              try simp only [Act.put, List.setIfInBounds_toArray, List.set_cons_zero, List.set_cons_succ]
              refine wpAnyU_ready (rs := [15]) (by kernel_rfl) (by simp) ?_
              refine AllReadyU.cons 1 (by kernel_rfl) (o := _) rfl (fun K hK => ?_) AllReadyU.nil
              go_simp
              refine hK.out _ _ ?hsr2_75 (fun hH2 => ?hrr2_75)
              case hsr2_75 => exact S2i1
              clear hK K hH
              have hH := hH2
              clear hH2
              try simp only [Act.put, List.setIfInBounds_toArray, List.set_cons_zero, List.set_cons_succ]
              refine wpAnyU_done (by kernel_rfl) ?_ _ _
              refine NoPanic.normal ?_
              go_wp2_with fail
              go_meet
              exact spins_end hgb (by omega) (by omega) (by omega) hw0 q0 q4 q5 q6 HT.out HU.out
            refine AllReadyU.cons 0 (by kernel_rfl) (o := _) rfl (fun K hK => ?_) ?_
            · try clear hb
              have hG := hH
              replace hG := S2o0 hG; (try dsimp only at hG); have q0 := hG.1; have q1 := hG.2.1; have q2 := hG.2.2.1; have q3 := hG.2.2.2.1; have q4 := hG.2.2.2.2.1; have q5 := hG.2.2.2.2.2.1; have q6 := hG.2.2.2.2.2.2
              have hZT := VZ.lt hT
              go_simp
              refine hK.out _ _ ?hsr2_76 (fun hH2 => ?hrr2_76)
              case hsr2_76 => exact S2i0 (by have hG := hH; replace hG := S2o0 hG; (try dsimp only at hG); have q0 := hG.1; have q1 := hG.2.1; have q2 := hG.2.2.1; have q3 := hG.2.2.2.1; have q4 := hG.2.2.2.2.1; have q5 := hG.2.2.2.2.2.1; have q6 := hG.2.2.2.2.2.2; exact ⟨q0.alloc _, Sl.alloc q1 _, keepCell ((Below.refl _ _).alloc (Nat.le_refl _) _) q2, keepCell ((Below.refl _ _).alloc (Nat.le_refl _) _) q3, keepCell ((Below.refl _ _).alloc (Nat.le_refl _) _) q4, keepCell ((Below.refl _ _).alloc (Nat.le_refl _) _) q5, q6.alloc q6.size _⟩)
              clear hK K hH
              have hH := hH2
              clear hH2
              try simp only [Act.put, List.setIfInBounds_toArray, List.set_cons_zero, List.set_cons_succ]
              have hU : VZ (wn.alloc (.cells #[.int .i64 0, .int .i64 0] 34)) wn.heap.size := VZ.here _ _ _ _
              replace hT := keepVZ ((Below.refl _ _).alloc (Nat.le_refl _) (.cells #[.int .i64 0, .int .i64 0] 34)) hT
              obtain ⟨gU, hgU⟩ : ∃ g, g = wn.heap.size := ⟨_, rfl⟩
              have hlU : g9 < gU ∧ gT < gU := by rw [hgU]; exact ⟨lt_of_cell q4, hZT⟩
              rw [← hgU] at hU
              try rw [← hgU]
              clear hgU q0 q1 q2 q3 q4 q5 q6
              generalize wn.alloc (.cells #[.int .i64 0, .int .i64 0] 34) = wx13 at *
              refine wpAnyU_ready (rs := [11]) (by kernel_rfl) (by simp) ?_
              refine AllReadyU.cons 0 (by kernel_rfl) (o := _) rfl (fun K hK => ?_) AllReadyU.nil
              try clear hb
              have hG := hH
              replace hG := S2o0 hG; (try dsimp only at hG); have q0 := hG.1; have q1 := hG.2.1; have q2 := hG.2.2.1; have q3 := hG.2.2.2.1; have q4 := hG.2.2.2.2.1; have q5 := hG.2.2.2.2.2.1; have q6 := hG.2.2.2.2.2.2
              go_simp
              (go_at_call 29; refine (HA2.out _ _ _ _ q1).mono ?_; rintro e wn ⟨rfl, hb⟩; (try (replace hT := keepVZ hb hT)); (try (replace hU := keepVZ hb hU)))
              refine hK.out _ _ ?hsr2_77 (fun hH2 => ?hrr2_77)
              case hsr2_77 => exact S2i0 (by have hG := hH; replace hG := S2o0 hG; (try dsimp only at hG); have q0 := hG.1; have q1 := hG.2.1; have q2 := hG.2.2.1; have q3 := hG.2.2.2.1; have q4 := hG.2.2.2.2.1; have q5 := hG.2.2.2.2.2.1; have q6 := hG.2.2.2.2.2.2; exact ⟨keepBd hb q0, keepSl hb q1, keepCell hb q2, keepCell hb q3, keepCell hb q4, keepCell hb q5, keepBelow hb q6⟩)
              clear hK K hH
              have hH := hH2
              clear hH2
              try simp only [Act.put, List.setIfInBounds_toArray, List.set_cons_zero, List.set_cons_succ]
              refine wpAnyU_ready (rs := [14]) (by kernel_rfl) (by simp) ?_
              refine AllReadyU.cons 1 (by kernel_rfl) (o := _) rfl (fun K hK => ?_) AllReadyU.nil
              have hG := hH
              replace hG := S2o0 hG; (try dsimp only at hG); have q0 := hG.1; have q1 := hG.2.1; have q2 := hG.2.2.1; have q3 := hG.2.2.2.1; have q4 := hG.2.2.2.2.1; have q5 := hG.2.2.2.2.2.1; have q6 := hG.2.2.2.2.2.2
              have HT := hid hT
              have HU := hid hU
              obtain ⟨⟨z0, z1, y0, y1⟩, yf⟩ := hT
              obtain ⟨⟨u0, u1, v0, v1⟩, uf⟩ := hU
              go_simp
              refine hK.out _ _ ?hsr2_78 (fun hH2 => ?hrr2_78)
              case hsr2_78 => exact S2i1
              clear hK K hH
              have hH := hH2
              clear hH2
              try simp only [Act.put, List.setIfInBounds_toArray, List.set_cons_zero, List.set_cons_succ]
              refine wpAnyU_ready (rs := [15]) (by kernel_rfl) (by simp) ?_
              refine AllReadyU.cons 1 (by kernel_rfl) (o := _) rfl (fun K hK => ?_) AllReadyU.nil
              go_simp
              refine hK.out _ _ ?hsr2_79 (fun hH2 => ?hrr2_79)
              case hsr2_79 => exact S2i1
              clear hK K hH
              have hH := hH2
              clear hH2
              try simp only [Act.put, List.setIfInBounds_toArray, List.set_cons_zero, List.set_cons_succ]
              refine wpAnyU_done (by kernel_rfl) ?_ _ _
              refine NoPanic.normal ?_
              go_wp2_with fail
              go_meet
              exact spins_end hgb (by omega) (by omega) (by omega) hw0 q0 q4 q5 q6 HT.out HU.out
            exact AllReadyU.nil
          refine AllReadyU.cons 0 (by kernel_rfl) (o := _) rfl (fun K hK => ?_) ?_
          · try clear hb
            have hG := hH
            replace hG := S2o0 hG; (try dsimp only at hG); have q0 := hG.1; have q1 := hG.2.1; have q2 := hG.2.2.1; have q3 := hG.2.2.2.1; have q4 := hG.2.2.2.2.1; have q5 := hG.2.2.2.2.2.1; have q6 := hG.2.2.2.2.2.2
            have hZT := VZ.lt hT
            go_simp
            refine hK.out _ _ ?hsr2_80 (fun hH2 => ?hrr2_80)
            case hsr2_80 => exact S2i0 (by have hG := hH; replace hG := S2o0 hG; (try dsimp only at hG); have q0 := hG.1; have q1 := hG.2.1; have q2 := hG.2.2.1; have q3 := hG.2.2.2.1; have q4 := hG.2.2.2.2.1; have q5 := hG.2.2.2.2.2.1; have q6 := hG.2.2.2.2.2.2; exact ⟨q0.alloc _, Sl.alloc q1 _, keepCell ((Below.refl _ _).alloc (Nat.le_refl _) _) q2, keepCell ((Below.refl _ _).alloc (Nat.le_refl _) _) q3, keepCell ((Below.refl _ _).alloc (Nat.le_refl _) _) q4, keepCell ((Below.refl _ _).alloc (Nat.le_refl _) _) q5, q6.alloc q6.size _⟩)
            clear hK K hH
            have hH := hH2
            clear hH2
            try simp only [Act.put, List.setIfInBounds_toArray, List.set_cons_zero, List.set_cons_succ]
            have hU : VZ (wn.alloc (.cells #[.int .i64 0, .int .i64 0] 34)) wn.heap.size := VZ.here _ _ _ _
            replace hT := keepVZ ((Below.refl _ _).alloc (Nat.le_refl _) (.cells #[.int .i64 0, .int .i64 0] 34)) hT
            obtain ⟨gU, hgU⟩ : ∃ g, g = wn.heap.size := ⟨_, rfl⟩
            have hlU : g9 < gU ∧ gT < gU := by rw [hgU]; exact ⟨lt_of_cell q4, hZT⟩
            rw [← hgU] at hU
            try rw [← hgU]
            clear hgU q0 q1 q2 q3 q4 q5 q6
            generalize wn.alloc (.cells #[.int .i64 0, .int .i64 0] 34) = wx13 at *
            refine wpAnyU_ready (rs := [10]) (by kernel_rfl) (by simp) ?_
            refine AllReadyU.cons 0 (by kernel_rfl) (o := _) rfl (fun K hK => ?_) AllReadyU.nil
            try clear hb
            go_simp
            (go_at_call 31; refine (vsub_calls b.px b.py x y _).mono ?_; rintro e wn ⟨rfl, hb⟩; (try (replace hT := keepVZ hb hT)); (try (replace hU := keepVZ hb hU)))
            refine hK.out _ _ ?hsr2_81 (fun hH2 => ?hrr2_81)
            case hsr2_81 => exact S2i0 (by have hG := hH; replace hG := S2o0 hG; (try dsimp only at hG); have q0 := hG.1; have q1 := hG.2.1; have q2 := hG.2.2.1; have q3 := hG.2.2.2.1; have q4 := hG.2.2.2.2.1; have q5 := hG.2.2.2.2.2.1; have q6 := hG.2.2.2.2.2.2; exact ⟨keepBd hb q0, keepSl hb q1, keepCell hb q2, keepCell hb q3, keepCell hb q4, keepCell hb q5, keepBelow hb q6⟩)
            clear hK K hH
            have hH := hH2
            clear hH2
            try simp only [Act.put, List.setIfInBounds_toArray, List.set_cons_zero, List.set_cons_succ]
            refine wpAnyU_ready (rs := [11]) (by kernel_rfl) (by simp) ?_
            refine AllReadyU.cons 0 (by kernel_rfl) (o := _) rfl (fun K hK => ?_) AllReadyU.nil
            try clear hb
            have hG := hH
            replace hG := S2o0 hG; (try dsimp only at hG); have q0 := hG.1; have q1 := hG.2.1; have q2 := hG.2.2.1; have q3 := hG.2.2.2.1; have q4 := hG.2.2.2.2.1; have q5 := hG.2.2.2.2.2.1; have q6 := hG.2.2.2.2.2.2
            go_simp
            (go_at_call 29; refine (HA2.out _ _ _ _ q1).mono ?_; rintro e wn ⟨rfl, hb⟩; (try (replace hT := keepVZ hb hT)); (try (replace hU := keepVZ hb hU)))
            refine hK.out _ _ ?hsr2_82 (fun hH2 => ?hrr2_82)
            case hsr2_82 => exact S2i0 (by have hG := hH; replace hG := S2o0 hG; (try dsimp only at hG); have q0 := hG.1; have q1 := hG.2.1; have q2 := hG.2.2.1; have q3 := hG.2.2.2.1; have q4 := hG.2.2.2.2.1; have q5 := hG.2.2.2.2.2.1; have q6 := hG.2.2.2.2.2.2; exact ⟨keepBd hb q0, keepSl hb q1, keepCell hb q2, keepCell hb q3, keepCell hb q4, keepCell hb q5, keepBelow hb q6⟩)
            clear hK K hH
            have hH := hH2
            clear hH2
            try simp only [Act.put, List.setIfInBounds_toArray, List.set_cons_zero, List.set_cons_succ]
            refine wpAnyU_ready (rs := [14]) (by kernel_rfl) (by simp) ?_
            refine AllReadyU.cons 1 (by kernel_rfl) (o := _) rfl (fun K hK => ?_) AllReadyU.nil
            have hG := hH
            replace hG := S2o0 hG; (try dsimp only at hG); have q0 := hG.1; have q1 := hG.2.1; have q2 := hG.2.2.1; have q3 := hG.2.2.2.1; have q4 := hG.2.2.2.2.1; have q5 := hG.2.2.2.2.2.1; have q6 := hG.2.2.2.2.2.2
            have HT := hid hT
            have HU := hid hU
            obtain ⟨⟨z0, z1, y0, y1⟩, yf⟩ := hT
            obtain ⟨⟨u0, u1, v0, v1⟩, uf⟩ := hU
            go_simp
            refine hK.out _ _ ?hsr2_83 (fun hH2 => ?hrr2_83)
            case hsr2_83 => exact S2i1
            clear hK K hH
            have hH := hH2
            clear hH2
            try simp only [Act.put, List.setIfInBounds_toArray, List.set_cons_zero, List.set_cons_succ]
            refine wpAnyU_ready (rs := [15]) (by kernel_rfl) (by simp) ?_
            refine AllReadyU.cons 1 (by kernel_rfl) (o := _) rfl (fun K hK => ?_) AllReadyU.nil
            go_simp
            refine hK.out _ _ ?hsr2_84 (fun hH2 => ?hrr2_84)
            case hsr2_84 => exact S2i1
            clear hK K hH
            have hH := hH2
            clear hH2
            try simp only [Act.put, List.setIfInBounds_toArray, List.set_cons_zero, List.set_cons_succ]
            refine wpAnyU_done (by kernel_rfl) ?_ _ _
            refine NoPanic.normal ?_
            go_wp2_with fail
            go_meet
            exact spins_end hgb (by omega) (by omega) (by omega) hw0 q0 q4 q5 q6 HT.out HU.out
          exact AllReadyU.nil
        refine AllReadyU.cons 0 (by kernel_rfl) (o := _) rfl (fun K hK => ?_) ?_
        · try clear hb
          have hG := hH
          replace hG := S2o0 hG; (try dsimp only at hG); have q0 := hG.1; have q1 := hG.2.1; have q2 := hG.2.2.1; have q3 := hG.2.2.2.1; have q4 := hG.2.2.2.2.1; have q5 := hG.2.2.2.2.2.1; have q6 := hG.2.2.2.2.2.2
          have hZT := VZ.lt hT
          go_simp
          refine hK.out _ _ ?hsr2_85 (fun hH2 => ?hrr2_85)
          case hsr2_85 => exact S2i0 (by have hG := hH; replace hG := S2o0 hG; (try dsimp only at hG); have q0 := hG.1; have q1 := hG.2.1; have q2 := hG.2.2.1; have q3 := hG.2.2.2.1; have q4 := hG.2.2.2.2.1; have q5 := hG.2.2.2.2.2.1; have q6 := hG.2.2.2.2.2.2; exact ⟨q0.alloc _, Sl.alloc q1 _, keepCell ((Below.refl _ _).alloc (Nat.le_refl _) _) q2, keepCell ((Below.refl _ _).alloc (Nat.le_refl _) _) q3, keepCell ((Below.refl _ _).alloc (Nat.le_refl _) _) q4, keepCell ((Below.refl _ _).alloc (Nat.le_refl _) _) q5, q6.alloc q6.size _⟩)
          clear hK K hH
          have hH := hH2
          clear hH2
          try simp only [Act.put, List.setIfInBounds_toArray, List.set_cons_zero, List.set_cons_succ]
          have hU : VZ (wx12.alloc (.cells #[.int .i64 0, .int .i64 0] 34)) wx12.heap.size := VZ.here _ _ _ _
          replace hT := keepVZ ((Below.refl _ _).alloc (Nat.le_refl _) (.cells #[.int .i64 0, .int .i64 0] 34)) hT
          obtain ⟨gU, hgU⟩ : ∃ g, g = wx12.heap.size := ⟨_, rfl⟩
          have hlU : g9 < gU ∧ gT < gU := by rw [hgU]; exact ⟨lt_of_cell q4, hZT⟩
          rw [← hgU] at hU
          try rw [← hgU]
          clear hgU q0 q1 q2 q3 q4 q5 q6
          generalize wx12.alloc (.cells #[.int .i64 0, .int .i64 0] 34) = wx13 at *
          refine wpAnyU_ready (rs := [5]) (by kernel_rfl) (by simp) ?_
          refine AllReadyU.cons 0 (by kernel_rfl) (o := _) rfl (fun K hK => ?_) AllReadyU.nil
          try clear hb
          have hG := hH
          replace hG := S2o0 hG; (try dsimp only at hG); have q0 := hG.1; have q1 := hG.2.1; have q2 := hG.2.2.1; have q3 := hG.2.2.2.1; have q4 := hG.2.2.2.2.1; have q5 := hG.2.2.2.2.2.1; have q6 := hG.2.2.2.2.2.2
          go_simp
          (go_at_call 29; refine (HA1.out _ _ _ _ q1).mono ?_; rintro e wn ⟨rfl, hb⟩; (try (replace hT := keepVZ hb hT)); (try (replace hU := keepVZ hb hU)))
          refine hK.out _ _ ?hsr2_86 (fun hH2 => ?hrr2_86)
          case hsr2_86 => exact S2i0 (by have hG := hH; replace hG := S2o0 hG; (try dsimp only at hG); have q0 := hG.1; have q1 := hG.2.1; have q2 := hG.2.2.1; have q3 := hG.2.2.2.1; have q4 := hG.2.2.2.2.1; have q5 := hG.2.2.2.2.2.1; have q6 := hG.2.2.2.2.2.2; exact ⟨keepBd hb q0, keepSl hb q1, keepCell hb q2, keepCell hb q3, keepCell hb q4, keepCell hb q5, keepBelow hb q6⟩)
          clear hK K hH
          have hH := hH2
          clear hH2
          try simp only [Act.put, List.setIfInBounds_toArray, List.set_cons_zero, List.set_cons_succ]
          refine wpAnyU_ready (rs := [10]) (by kernel_rfl) (by simp) ?_
          refine AllReadyU.cons 0 (by kernel_rfl) (o := _) rfl (fun K hK => ?_) AllReadyU.nil
          try clear hb
          go_simp
          (go_at_call 31; refine (vsub_calls b.px b.py x y _).mono ?_; rintro e wn ⟨rfl, hb⟩; (try (replace hT := keepVZ hb hT)); (try (replace hU := keepVZ hb hU)))
          refine hK.out _ _ ?hsr2_87 (fun hH2 => ?hrr2_87)
          case hsr2_87 => exact S2i0 (by have hG := hH; replace hG := S2o0 hG; (try dsimp only at hG); have q0 := hG.1; have q1 := hG.2.1; have q2 := hG.2.2.1; have q3 := hG.2.2.2.1; have q4 := hG.2.2.2.2.1; have q5 := hG.2.2.2.2.2.1; have q6 := hG.2.2.2.2.2.2; exact ⟨keepBd hb q0, keepSl hb q1, keepCell hb q2, keepCell hb q3, keepCell hb q4, keepCell hb q5, keepBelow hb q6⟩)
          clear hK K hH
          have hH := hH2
          clear hH2
          try simp only [Act.put, List.setIfInBounds_toArray, List.set_cons_zero, List.set_cons_succ]
          refine wpAnyU_ready (rs := [11]) (by kernel_rfl) (by simp) ?_
          refine AllReadyU.cons 0 (by kernel_rfl) (o := _) rfl (fun K hK => ?_) AllReadyU.nil
          try clear hb
          have hG := hH
          replace hG := S2o0 hG; (try dsimp only at hG); have q0 := hG.1; have q1 := hG.2.1; have q2 := hG.2.2.1; have q3 := hG.2.2.2.1; have q4 := hG.2.2.2.2.1; have q5 := hG.2.2.2.2.2.1; have q6 := hG.2.2.2.2.2.2
          go_simp
          (go_at_call 29; refine (HA2.out _ _ _ _ q1).mono ?_; rintro e wn ⟨rfl, hb⟩; (try (replace hT := keepVZ hb hT)); (try (replace hU := keepVZ hb hU)))
          refine hK.out _ _ ?hsr2_88 (fun hH2 => ?hrr2_88)
          case hsr2_88 => exact S2i0 (by have hG := hH; replace hG := S2o0 hG; (try dsimp only at hG); have q0 := hG.1; have q1 := hG.2.1; have q2 := hG.2.2.1; have q3 := hG.2.2.2.1; have q4 := hG.2.2.2.2.1; have q5 := hG.2.2.2.2.2.1; have q6 := hG.2.2.2.2.2.2; exact ⟨keepBd hb q0, keepSl hb q1, keepCell hb q2, keepCell hb q3, keepCell hb q4, keepCell hb q5, keepBelow hb q6⟩)
          clear hK K hH
          have hH := hH2
          clear hH2
          try simp only [Act.put, List.setIfInBounds_toArray, List.set_cons_zero, List.set_cons_succ]
          refine wpAnyU_ready (rs := [14]) (by kernel_rfl) (by simp) ?_
          refine AllReadyU.cons 1 (by kernel_rfl) (o := _) rfl (fun K hK => ?_) AllReadyU.nil
          have hG := hH
          replace hG := S2o0 hG; (try dsimp only at hG); have q0 := hG.1; have q1 := hG.2.1; have q2 := hG.2.2.1; have q3 := hG.2.2.2.1; have q4 := hG.2.2.2.2.1; have q5 := hG.2.2.2.2.2.1; have q6 := hG.2.2.2.2.2.2
          have HT := hid hT
          have HU := hid hU
          obtain ⟨⟨z0, z1, y0, y1⟩, yf⟩ := hT
          obtain ⟨⟨u0, u1, v0, v1⟩, uf⟩ := hU
          go_simp
          refine hK.out _ _ ?hsr2_89 (fun hH2 => ?hrr2_89)
          case hsr2_89 => exact S2i1
          clear hK K hH
          have hH := hH2
          clear hH2
          try simp only [Act.put, List.setIfInBounds_toArray, List.set_cons_zero, List.set_cons_succ]
          refine wpAnyU_ready (rs := [15]) (by kernel_rfl) (by simp) ?_
          refine AllReadyU.cons 1 (by kernel_rfl) (o := _) rfl (fun K hK => ?_) AllReadyU.nil
          go_simp
          refine hK.out _ _ ?hsr2_90 (fun hH2 => ?hrr2_90)
          case hsr2_90 => exact S2i1
          clear hK K hH
          have hH := hH2
          clear hH2
          try simp only [Act.put, List.setIfInBounds_toArray, List.set_cons_zero, List.set_cons_succ]
          refine wpAnyU_done (by kernel_rfl) ?_ _ _
          refine NoPanic.normal ?_
          go_wp2_with fail
          go_meet
          exact spins_end hgb (by omega) (by omega) (by omega) hw0 q0 q4 q5 q6 HT.out HU.out
        exact AllReadyU.nil
      refine AllReadyU.cons 0 (by kernel_rfl) (o := _) rfl (fun K hK => ?_) ?_
      · try clear hb
        have hG := hH
        replace hG := S2o0 hG; (try dsimp only at hG); have q0 := hG.1; have q1 := hG.2.1; have q2 := hG.2.2.1; have q3 := hG.2.2.2.1; have q4 := hG.2.2.2.2.1; have q5 := hG.2.2.2.2.2.1; have q6 := hG.2.2.2.2.2.2
        go_simp
        refine hK.out _ _ ?hsr2_91 (fun hH2 => ?hrr2_91)
        case hsr2_91 => exact S2i0 (by have hG := hH; replace hG := S2o0 hG; (try dsimp only at hG); have q0 := hG.1; have q1 := hG.2.1; have q2 := hG.2.2.1; have q3 := hG.2.2.2.1; have q4 := hG.2.2.2.2.1; have q5 := hG.2.2.2.2.2.1; have q6 := hG.2.2.2.2.2.2; exact ⟨q0.alloc _, Sl.alloc q1 _, keepCell ((Below.refl _ _).alloc (Nat.le_refl _) _) q2, keepCell ((Below.refl _ _).alloc (Nat.le_refl _) _) q3, keepCell ((Below.refl _ _).alloc (Nat.le_refl _) _) q4, keepCell ((Below.refl _ _).alloc (Nat.le_refl _) _) q5, q6.alloc q6.size _⟩)
        clear hK K hH
        have hH := hH2
        clear hH2
        try simp only [Act.put, List.setIfInBounds_toArray, List.set_cons_zero, List.set_cons_succ]
        have hU : VZ (wn.alloc (.cells #[.int .i64 0, .int .i64 0] 34)) wn.heap.size := VZ.here _ _ _ _
        obtain ⟨gU, hgU⟩ : ∃ g, g = wn.heap.size := ⟨_, rfl⟩
        have hlU : g9 < gU := by rw [hgU]; exact lt_of_cell q4
        rw [← hgU] at hU
        try rw [← hgU]
        clear hgU q0 q1 q2 q3 q4 q5 q6
        generalize wn.alloc (.cells #[.int .i64 0, .int .i64 0] 34) = wx13 at *
        refine wpAnyU_ready (rs := [5, 12]) (by kernel_rfl) (by simp) ?_
        refine AllReadyU.cons 0 (by kernel_rfl) (o := _) rfl (fun K hK => ?_) ?_
        · try clear hb
          have hG := hH
          replace hG := S2o0 hG; (try dsimp only at hG); have q0 := hG.1; have q1 := hG.2.1; have q2 := hG.2.2.1; have q3 := hG.2.2.2.1; have q4 := hG.2.2.2.2.1; have q5 := hG.2.2.2.2.2.1; have q6 := hG.2.2.2.2.2.2
          go_simp
          (go_at_call 29; refine (HA1.out _ _ _ _ q1).mono ?_; rintro e wn ⟨rfl, hb⟩; (try (replace hT := keepVZ hb hT)); (try (replace hU := keepVZ hb hU)))
          refine hK.out _ _ ?hsr2_92 (fun hH2 => ?hrr2_92)
          case hsr2_92 => exact S2i0 (by have hG := hH; replace hG := S2o0 hG; (try dsimp only at hG); have q0 := hG.1; have q1 := hG.2.1; have q2 := hG.2.2.1; have q3 := hG.2.2.2.1; have q4 := hG.2.2.2.2.1; have q5 := hG.2.2.2.2.2.1; have q6 := hG.2.2.2.2.2.2; exact ⟨keepBd hb q0, keepSl hb q1, keepCell hb q2, keepCell hb q3, keepCell hb q4, keepCell hb q5, keepBelow hb q6⟩)
          clear hK K hH
          have hH := hH2
          clear hH2
          try simp only [Act.put, List.setIfInBounds_toArray, List.set_cons_zero, List.set_cons_succ]
          refine wpAnyU_ready (rs := [10, 12]) (by kernel_rfl) (by simp) ?_
          refine AllReadyU.cons 0 (by kernel_rfl) (o := _) rfl (fun K hK => ?_) ?_
          · try clear hb
            go_simp
            (go_at_call 31; refine (vsub_calls b.px b.py x y _).mono ?_; rintro e wn ⟨rfl, hb⟩; (try (replace hT := keepVZ hb hT)); (try (replace hU := keepVZ hb hU)))
            refine hK.out _ _ ?hsr2_93 (fun hH2 => ?hrr2_93)
            case hsr2_93 => exact S2i0 (by have hG := hH; replace hG := S2o0 hG; (try dsimp only at hG); have q0 := hG.1; have q1 := hG.2.1; have q2 := hG.2.2.1; have q3 := hG.2.2.2.1; have q4 := hG.2.2.2.2.1; have q5 := hG.2.2.2.2.2.1; have q6 := hG.2.2.2.2.2.2; exact ⟨keepBd hb q0, keepSl hb q1, keepCell hb q2, keepCell hb q3, keepCell hb q4, keepCell hb q5, keepBelow hb q6⟩)
            clear hK K hH
            have hH := hH2
            clear hH2
            try simp only [Act.put, List.setIfInBounds_toArray, List.set_cons_zero, List.set_cons_succ]
            refine wpAnyU_ready (rs := [11, 12]) (by kernel_rfl) (by simp) ?_
            refine AllReadyU.cons 0 (by kernel_rfl) (o := _) rfl (fun K hK => ?_) ?_
            · try clear hb
              have hG := hH
              replace hG := S2o0 hG; (try dsimp only at hG); have q0 := hG.1; have q1 := hG.2.1; have q2 := hG.2.2.1; have q3 := hG.2.2.2.1; have q4 := hG.2.2.2.2.1; have q5 := hG.2.2.2.2.2.1; have q6 := hG.2.2.2.2.2.2
              go_simp
              (go_at_call 29; refine (HA2.out _ _ _ _ q1).mono ?_; rintro e wn ⟨rfl, hb⟩; (try (replace hT := keepVZ hb hT)); (try (replace hU := keepVZ hb hU)))
              refine hK.out _ _ ?hsr2_94 (fun hH2 => ?hrr2_94)
              case hsr2_94 => exact S2i0 (by have hG := hH; replace hG := S2o0 hG; (try dsimp only at hG); have q0 := hG.1; have q1 := hG.2.1; have q2 := hG.2.2.1; have q3 := hG.2.2.2.1; have q4 := hG.2.2.2.2.1; have q5 := hG.2.2.2.2.2.1; have q6 := hG.2.2.2.2.2.2; exact ⟨keepBd hb q0, keepSl hb q1, keepCell hb q2, keepCell hb q3, keepCell hb q4, keepCell hb q5, keepBelow hb q6⟩)
              clear hK K hH
              have hH := hH2
              clear hH2
              try simp only [Act.put, List.setIfInBounds_toArray, List.set_cons_zero, List.set_cons_succ]
              refine wpAnyU_ready (rs := [12]) (by kernel_rfl) (by simp) ?_
              refine AllReadyU.cons 0 (by kernel_rfl) (o := _) rfl (fun K hK => ?_) AllReadyU.nil
              try clear hb
              have hG := hH
              replace hG := S2o0 hG; (try dsimp only at hG); have q0 := hG.1; have q1 := hG.2.1; have q2 := hG.2.2.1; have q3 := hG.2.2.2.1; have q4 := hG.2.2.2.2.1; have q5 := hG.2.2.2.2.2.1; have q6 := hG.2.2.2.2.2.2
              have hZU := VZ.lt hU
              go_simp
              refine hK.out _ _ ?hsr2_95 (fun hH2 => ?hrr2_95)
              case hsr2_95 => exact S2i0 (by have hG := hH; replace hG := S2o0 hG; (try dsimp only at hG); have q0 := hG.1; have q1 := hG.2.1; have q2 := hG.2.2.1; have q3 := hG.2.2.2.1; have q4 := hG.2.2.2.2.1; have q5 := hG.2.2.2.2.2.1; have q6 := hG.2.2.2.2.2.2; exact ⟨q0.alloc _, Sl.alloc q1 _, keepCell ((Below.refl _ _).alloc (Nat.le_refl _) _) q2, keepCell ((Below.refl _ _).alloc (Nat.le_refl _) _) q3, keepCell ((Below.refl _ _).alloc (Nat.le_refl _) _) q4, keepCell ((Below.refl _ _).alloc (Nat.le_refl _) _) q5, q6.alloc q6.size _⟩)
              clear hK K hH
              have hH := hH2
              clear hH2
              try simp only [Act.put, List.setIfInBounds_toArray, List.set_cons_zero, List.set_cons_succ]
              have hT : VZ (wn.alloc (.cells #[.int .i64 0, .int .i64 0] 34)) wn.heap.size := VZ.here _ _ _ _
              replace hU := keepVZ ((Below.refl _ _).alloc (Nat.le_refl _) (.cells #[.int .i64 0, .int .i64 0] 34)) hU
              obtain ⟨gT, hgT⟩ : ∃ g, g = wn.heap.size := ⟨_, rfl⟩
              have hlT : g9 < gT ∧ gU < gT := by rw [hgT]; exact ⟨lt_of_cell q4, hZU⟩
              rw [← hgT] at hT
              try rw [← hgT]
              clear hgT q0 q1 q2 q3 q4 q5 q6
              generalize wn.alloc (.cells #[.int .i64 0, .int .i64 0] 34) = wx12 at *
              refine wpAnyU_ready (rs := [14]) (by kernel_rfl) (by simp) ?_
              refine AllReadyU.cons 1 (by kernel_rfl) (o := _) rfl (fun K hK => ?_) AllReadyU.nil
              have hG := hH
              replace hG := S2o0 hG; (try dsimp only at hG); have q0 := hG.1; have q1 := hG.2.1; have q2 := hG.2.2.1; have q3 := hG.2.2.2.1; have q4 := hG.2.2.2.2.1; have q5 := hG.2.2.2.2.2.1; have q6 := hG.2.2.2.2.2.2
              have HT := hid hT
              have HU := hid hU
              obtain ⟨⟨z0, z1, y0, y1⟩, yf⟩ := hT
              obtain ⟨⟨u0, u1, v0, v1⟩, uf⟩ := hU
              go_simp
              refine hK.out _ _ ?hsr2_96 (fun hH2 => ?hrr2_96)
              case hsr2_96 => exact S2i1
              clear hK K hH
              have hH := hH2
              clear hH2
              try simp only [Act.put, List.setIfInBounds_toArray, List.set_cons_zero, List.set_cons_succ]
              refine wpAnyU_ready (rs := [15]) (by kernel_rfl) (by simp) ?_
              refine AllReadyU.cons 1 (by kernel_rfl) (o := _) rfl (fun K hK => ?_) AllReadyU.nil
              go_simp
              refine hK.out _ _ ?hsr2_97 (fun hH2 => ?hrr2_97)
              case hsr2_97 => exact S2i1
              clear hK K hH
              have hH := hH2
              clear hH2
              try simp only [Act.put, List.setIfInBounds_toArray, List.set_cons_zero, List.set_cons_succ]
              refine wpAnyU_done (by kernel_rfl) ?_ _ _
              refine NoPanic.normal ?_
              go_wp2_with fail
              go_meet
              exact spins_end hgb (by omega) (by omega) (by omega) hw0 q0 q4 q5 q6 HT.out HU.out
            refine AllReadyU.cons 0 (by kernel_rfl) (o := _) rfl (fun K hK => ?_) ?_
            · try clear hb
              have hG := hH
              replace hG := S2o0 hG; (try dsimp only at hG); have q0 := hG.1; have q1 := hG.2.1; have q2 := hG.2.2.1; have q3 := hG.2.2.2.1; have q4 := hG.2.2.2.2.1; have q5 := hG.2.2.2.2.2.1; have q6 := hG.2.2.2.2.2.2
              have hZU := VZ.lt hU
              go_simp
              refine hK.out _ _ ?hsr2_98 (fun hH2 => ?hrr2_98)
              case hsr2_98 => exact S2i0 (by have hG := hH; replace hG := S2o0 hG; (try dsimp only at hG); have q0 := hG.1; have q1 := hG.2.1; have q2 := hG.2.2.1; have q3 := hG.2.2.2.1; have q4 := hG.2.2.2.2.1; have q5 := hG.2.2.2.2.2.1; have q6 := hG.2.2.2.2.2.2; exact ⟨q0.alloc _, Sl.alloc q1 _, keepCell ((Below.refl _ _).alloc (Nat.le_refl _) _) q2, keepCell ((Below.refl _ _).alloc (Nat.le_refl _) _) q3, keepCell ((Below.refl _ _).alloc (Nat.le_refl _) _) q4, keepCell ((Below.refl _ _).alloc (Nat.le_refl _) _) q5, q6.alloc q6.size _⟩)
              clear hK K hH
              have hH := hH2
              clear hH2
              try simp only [Act.put, List.setIfInBounds_toArray, List.set_cons_zero, List.set_cons_succ]
              have hT : VZ (wn.alloc (.cells #[.int .i64 0, .int .i64 0] 34)) wn.heap.size := VZ.here _ _ _ _
              replace hU := keepVZ ((Below.refl _ _).alloc (Nat.le_refl _) (.cells #[.int .i64 0, .int .i64 0] 34)) hU
              obtain ⟨gT, hgT⟩ : ∃ g, g = wn.heap.size := ⟨_, rfl⟩
              have hlT : g9 < gT ∧ gU < gT := by rw [hgT]; exact ⟨lt_of_cell q4, hZU⟩
              rw [← hgT] at hT
              try rw [← hgT]
              clear hgT q0 q1 q2 q3 q4 q5 q6
              generalize wn.alloc (.cells #[.int .i64 0, .int .i64 0] 34) = wx12 at *
              refine wpAnyU_ready (rs := [11]) (by kernel_rfl) (by simp) ?_
              refine AllReadyU.cons 0 (by kernel_rfl) (o := _) rfl (fun K hK => ?_) AllReadyU.nil
              try clear hb
              have hG := hH
              replace hG := S2o0 hG; (try dsimp only at hG); have q0 := hG.1; have q1 := hG.2.1; have q2 := hG.2.2.1; have q3 := hG.2.2.2.1; have q4 := hG.2.2.2.2.1; have q5 := hG.2.2.2.2.2.1; have q6 := hG.2.2.2.2.2.2
              go_simp
              (go_at_call 29; refine (HA2.out _ _ _ _ q1).mono ?_; rintro e wn ⟨rfl, hb⟩; (try (replace hT := keepVZ hb hT)); (try (replace hU := keepVZ hb hU)))
              refine hK.out _ _ ?hsr2_99 (fun hH2 => ?hrr2_99)
              case hsr2_99 => exact S2i0 (by have hG := hH; replace hG := S2o0 hG; (try dsimp only at hG); have q0 := hG.1; have q1 := hG.2.1; have q2 := hG.2.2.1; have q3 := hG.2.2.2.1; have q4 := hG.2.2.2.2.1; have q5 := hG.2.2.2.2.2.1; have q6 := hG.2.2.2.2.2.2; exact ⟨keepBd hb q0, keepSl hb q1, keepCell hb q2, keepCell hb q3, keepCell hb q4, keepCell hb q5, keepBelow hb q6⟩)
              clear hK K hH
              have hH := hH2
              clear hH2
              try simp only [Act.put, List.setIfInBounds_toArray, List.set_cons_zero, List.set_cons_succ]
              refine wpAnyU_ready (rs := [14]) (by kernel_rfl) (by simp) ?_
              refine AllReadyU.cons 1 (by kernel_rfl) (o := _) rfl (fun K hK => ?_) AllReadyU.nil
              have hG := hH
              replace hG := S2o0 hG; (try dsimp only at hG); have q0 := hG.1; have q1 := hG.2.1; have q2 := hG.2.2.1; have q3 := hG.2.2.2.1; have q4 := hG.2.2.2.2.1; have q5 := hG.2.2.2.2.2.1; have q6 := hG.2.2.2.2.2.2
              have HT := hid hT
              have HU := hid hU
              obtain ⟨⟨z0, z1, y0, y1⟩, yf⟩ := hT
              obtain ⟨⟨u0, u1, v0, v1⟩, uf⟩ := hU
              go_simp
              refine hK.out _ _ ?hsr2_100 (fun hH2 => ?hrr2_100)
              case hsr2_100 => exact S2i1
              clear hK K hH
              have hH := hH2
              clear hH2
              try simp only [Act.put, List.setIfInBounds_toArray, List.set_cons_zero, List.set_cons_succ]
              refine wpAnyU_ready (rs := [15]) (by kernel_rfl) (by simp) ?_
              refine AllReadyU.cons 1 (by kernel_rfl) (o := _) rfl (fun K hK => ?_) AllReadyU.nil
              go_simp
              refine hK.out _ _ ?hsr2_101 (fun hH2 => ?hrr2_101)
              case hsr2_101 => exact S2i1
              clear hK K hH
              have hH := hH2
              clear hH2
              try simp only [Act.put, List.setIfInBounds_toArray, List.set_cons_zero, List.set_cons_succ]
              refine wpAnyU_done (by kernel_rfl) ?_ _ _
              refine NoPanic.normal ?_
              go_wp2_with fail
              go_meet
              exact spins_end hgb (by omega) (by omega) (by omega) hw0 q0 q4 q5 q6 HT.out HU.out
            exact AllReadyU.nil
          refine AllReadyU.cons 0 (by kernel_rfl) (o := _) rfl (fun K hK => ?_) ?_
          · try clear hb
            have hG := hH
            replace hG := S2o0 hG; (try dsimp only at hG); have q0 := hG.1; have q1 := hG.2.1; have q2 := hG.2.2.1; have q3 := hG.2.2.2.1; have q4 := hG.2.2.2.2.1; have q5 := hG.2.2.2.2.2.1; have q6 := hG.2.2.2.2.2.2
            have hZU := VZ.lt hU
            go_simp
            refine hK.out _ _ ?hsr2_102 (fun hH2 => ?hrr2_102)
            case hsr2_102 => exact S2i0 (by have hG := hH; replace hG := S2o0 hG; (try dsimp only at hG); have q0 := hG.1; have q1 := hG.2.1; have q2 := hG.2.2.1; have q3 := hG.2.2.2.1; have q4 := hG.2.2.2.2.1; have q5 := hG.2.2.2.2.2.1; have q6 := hG.2.2.2.2.2.2; exact ⟨q0.alloc _, Sl.alloc q1 _, keepCell ((Below.refl _ _).alloc (Nat.le_refl _) _) q2, keepCell ((Below.refl _ _).alloc (Nat.le_refl _) _) q3, keepCell ((Below.refl _ _).alloc (Nat.le_refl _) _) q4, keepCell ((Below.refl _ _).alloc (Nat.le_refl _) _) q5, q6.alloc q6.size _⟩)
            clear hK K hH
            have hH := hH2
            clear hH2
            try simp only [Act.put, List.setIfInBounds_toArray, List.set_cons_zero, List.set_cons_succ]
            have hT : VZ (wn.alloc (.cells #[.int .i64 0, .int .i64 0] 34)) wn.heap.size := VZ.here _ _ _ _
            replace hU := keepVZ ((Below.refl _ _).alloc (Nat.le_refl _) (.cells #[.int .i64 0, .int .i64 0] 34)) hU
            obtain ⟨gT, hgT⟩ : ∃ g, g = wn.heap.size := ⟨_, rfl⟩
            have hlT : g9 < gT ∧ gU < gT := by rw [hgT]; exact ⟨lt_of_cell q4, hZU⟩
            rw [← hgT] at hT
            try rw [← hgT]
            clear hgT q0 q1 q2 q3 q4 q5 q6
            generalize wn.alloc (.cells #[.int .i64 0, .int .i64 0] 34) = wx12 at *
            refine wpAnyU_ready (rs := [10]) (by kernel_rfl) (by simp) ?_
            refine AllReadyU.cons 0 (by kernel_rfl) (o := _) rfl (fun K hK => ?_) AllReadyU.nil
            try clear hb
            go_simp
            (go_at_call 31; refine (vsub_calls b.px b.py x y _).mono ?_; rintro e wn ⟨rfl, hb⟩; (try (replace hT := keepVZ hb hT)); (try (replace hU := keepVZ hb hU)))
            refine hK.out _ _ ?hsr2_103 (fun hH2 => ?hrr2_103)
            case hsr2_103 => exact S2i0 (by have hG := hH; replace hG := S2o0 hG; (try dsimp only at hG); have q0 := hG.1; have q1 := hG.2.1; have q2 := hG.2.2.1; have q3 := hG.2.2.2.1; have q4 := hG.2.2.2.2.1; have q5 := hG.2.2.2.2.2.1; have q6 := hG.2.2.2.2.2.2; exact ⟨keepBd hb q0, keepSl hb q1, keepCell hb q2, keepCell hb q3, keepCell hb q4, keepCell hb q5, keepBelow hb q6⟩)
            clear hK K hH
            have hH := hH2
            clear hH2
            try simp only [Act.put, List.setIfInBounds_toArray, List.set_cons_zero, List.set_cons_succ]
            refine wpAnyU_ready (rs := [11]) (by kernel_rfl) (by simp) ?_
            refine AllReadyU.cons 0 (by kernel_rfl) (o := _) rfl (fun K hK => ?_) AllReadyU.nil
            try clear hb
            have hG := hH
            replace hG := S2o0 hG; (try dsimp only at hG); have q0 := hG.1; have q1 := hG.2.1; have q2 := hG.2.2.1; have q3 := hG.2.2.2.1; have q4 := hG.2.2.2.2.1; have q5 := hG.2.2.2.2.2.1; have q6 := hG.2.2.2.2.2.2
            go_simp
            (go_at_call 29; refine (HA2.out _ _ _ _ q1).mono ?_; rintro e wn ⟨rfl, hb⟩; (try (replace hT := keepVZ hb hT)); (try (replace hU := keepVZ hb hU)))
            refine hK.out _ _ ?hsr2_104 (fun hH2 => ?hrr2_104)
            case hsr2_104 => exact S2i0 (by have hG := hH; replace hG := S2o0 hG; (try dsimp only at hG); have q0 := hG.1; have q1 := hG.2.1; have q2 := hG.2.2.1; have q3 := hG.2.2.2.1; have q4 := hG.2.2.2.2.1; have q5 := hG.2.2.2.2.2.1; have q6 := hG.2.2.2.2.2.2; exact ⟨keepBd hb q0, keepSl hb q1, keepCell hb q2, keepCell hb q3, keepCell hb q4, keepCell hb q5, keepBelow hb q6⟩)
            clear hK K hH
            have hH := hH2
            clear hH2
            try simp only [Act.put, List.setIfInBounds_toArray, List.set_cons_zero, List.set_cons_succ]
            refine wpAnyU_ready (rs := [14]) (by kernel_rfl) (by simp) ?_
            refine AllReadyU.cons 1 (by kernel_rfl) (o := _) rfl (fun K hK => ?_) AllReadyU.nil
            have hG := hH
            replace hG := S2o0 hG; (try dsimp only at hG); have q0 := hG.1; have q1 := hG.2.1; have q2 := hG.2.2.1; have q3 := hG.2.2.2.1; have q4 := hG.2.2.2.2.1; have q5 := hG.2.2.2.2.2.1; have q6 := hG.2.2.2.2.2.2
            have HT := hid hT
            have HU := hid hU
            obtain ⟨⟨z0, z1, y0, y1⟩, yf⟩ := hT
            obtain ⟨⟨u0, u1, v0, v1⟩, uf⟩ := hU
            go_simp
            refine hK.out _ _ ?hsr2_105 (fun hH2 => ?hrr2_105)
            case hsr2_105 => exact S2i1
            clear hK K hH
            have hH := hH2
            clear hH2
            try simp only [Act.put, List.setIfInBounds_toArray, List.set_cons_zero, List.set_cons_succ]
            refine wpAnyU_ready (rs := [15]) (by kernel_rfl) (by simp) ?_
            refine AllReadyU.cons 1 (by kernel_rfl) (o := _) rfl (fun K hK => ?_) AllReadyU.nil
            go_simp
            refine hK.out _ _ ?hsr2_106 (fun hH2 => ?hrr2_106)
            case hsr2_106 => exact S2i1
            clear hK K hH
            have hH := hH2
            clear hH2
            try simp only [Act.put, List.setIfInBounds_toArray, List.set_cons_zero, List.set_cons_succ]
            refine wpAnyU_done (by kernel_rfl) ?_ _ _
            refine NoPanic.normal ?_
            go_wp2_with fail
            go_meet
            exact spins_end hgb (by omega) (by omega) (by omega) hw0 q0 q4 q5 q6 HT.out HU.out
          exact AllReadyU.nil
        refine AllReadyU.cons 0 (by kernel_rfl) (o := _) rfl (fun K hK => ?_) ?_
        · try clear hb
          have hG := hH
          replace hG := S2o0 hG; (try dsimp only at hG); have q0 := hG.1; have q1 := hG.2.1; have q2 := hG.2.2.1; have q3 := hG.2.2.2.1; have q4 := hG.2.2.2.2.1; have q5 := hG.2.2.2.2.2.1; have q6 := hG.2.2.2.2.2.2
          have hZU := VZ.lt hU
          go_simp
          refine hK.out _ _ ?hsr2_107 (fun hH2 => ?hrr2_107)
          case hsr2_107 => exact S2i0 (by have hG := hH; replace hG := S2o0 hG; (try dsimp only at hG); have q0 := hG.1; have q1 := hG.2.1; have q2 := hG.2.2.1; have q3 := hG.2.2.2.1; have q4 := hG.2.2.2.2.1; have q5 := hG.2.2.2.2.2.1; have q6 := hG.2.2.2.2.2.2; exact ⟨q0.alloc _, Sl.alloc q1 _, keepCell ((Below.refl _ _).alloc (Nat.le_refl _) _) q2, keepCell ((Below.refl _ _).alloc (Nat.le_refl _) _) q3, keepCell ((Below.refl _ _).alloc (Nat.le_refl _) _) q4, keepCell ((Below.refl _ _).alloc (Nat.le_refl _) _) q5, q6.alloc q6.size _⟩)
          clear hK K hH
          have hH := hH2
          clear hH2
          try simp only [Act.put, List.setIfInBounds_toArray, List.set_cons_zero, List.set_cons_succ]
          have hT : VZ (wx13.alloc (.cells #[.int .i64 0, .int .i64 0] 34)) wx13.heap.size := VZ.here _ _ _ _
          replace hU := keepVZ ((Below.refl _ _).alloc (Nat.le_refl _) (.cells #[.int .i64 0, .int .i64 0] 34)) hU
          obtain ⟨gT, hgT⟩ : ∃ g, g = wx13.heap.size := ⟨_, rfl⟩
          have hlT : g9 < gT ∧ gU < gT := by rw [hgT]; exact ⟨lt_of_cell q4, hZU⟩
          rw [← hgT] at hT
          try rw [← hgT]
          clear hgT q0 q1 q2 q3 q4 q5 q6
          generalize wx13.alloc (.cells #[.int .i64 0, .int .i64 0] 34) = wx12 at *
          refine wpAnyU_ready (rs := [5]) (by kernel_rfl) (by simp) ?_
          refine AllReadyU.cons 0 (by kernel_rfl) (o := _) rfl (fun K hK => ?_) AllReadyU.nil
          try clear hb
          have hG := hH
          replace hG := S2o0 hG; (try dsimp only at hG); have q0 := hG.1; have q1 := hG.2.1; have q2 := hG.2.2.1; have q3 := hG.2.2.2.1; have q4 := hG.2.2.2.2.1; have q5 := hG.2.2.2.2.2.1; have q6 := hG.2.2.2.2.2.2
          go_simp
          (go_at_call 29; refine (HA1.out _ _ _ _ q1).mono ?_; rintro e wn ⟨rfl, hb⟩; (try (replace hT := keepVZ hb hT)); (try (replace hU := keepVZ hb hU)))
          refine hK.out _ _ ?hsr2_108 (fun hH2 => ?hrr2_108)
          case hsr2_108 => exact S2i0 (by have hG := hH; replace hG := S2o0 hG; (try dsimp only at hG); have q0 := hG.1; have q1 := hG.2.1; have q2 := hG.2.2.1; have q3 := hG.2.2.2.1; have q4 := hG.2.2.2.2.1; have q5 := hG.2.2.2.2.2.1; have q6 := hG.2.2.2.2.2.2; exact ⟨keepBd hb q0, keepSl hb q1, keepCell hb q2, keepCell hb q3, keepCell hb q4, keepCell hb q5, keepBelow hb q6⟩)
          clear hK K hH
          have hH := hH2
          clear hH2
          try simp only [Act.put, List.setIfInBounds_toArray, List.set_cons_zero, List.set_cons_succ]
          refine wpAnyU_ready (rs := [10]) (by kernel_rfl) (by simp) ?_
          refine AllReadyU.cons 0 (by kernel_rfl) (o := _) rfl (fun K hK => ?_) AllReadyU.nil
          try clear hb
          go_simp
          (go_at_call 31; refine (vsub_calls b.px b.py x y _).mono ?_; rintro e wn ⟨rfl, hb⟩; (try (replace hT := keepVZ hb hT)); (try (replace hU := keepVZ hb hU)))
          refine hK.out _ _ ?hsr2_109 (fun hH2 => ?hrr2_109)
          case hsr2_109 => exact S2i0 (by have hG := hH; replace hG := S2o0 hG; (try dsimp only at hG); have q0 := hG.1; have q1 := hG.2.1; have q2 := hG.2.2.1; have q3 := hG.2.2.2.1; have q4 := hG.2.2.2.2.1; have q5 := hG.2.2.2.2.2.1; have q6 := hG.2.2.2.2.2.2; exact ⟨keepBd hb q0, keepSl hb q1, keepCell hb q2, keepCell hb q3, keepCell hb q4, keepCell hb q5, keepBelow hb q6⟩)
          clear hK K hH
          have hH := hH2
          clear hH2
          try simp only [Act.put, List.setIfInBounds_toArray, List.set_cons_zero, List.set_cons_succ]
          refine wpAnyU_ready (rs := [11]) (by kernel_rfl) (by simp) ?_
          refine AllReadyU.cons 0 (by kernel_rfl) (o := _) rfl (fun K hK => ?_) AllReadyU.nil
          try clear hb
          have hG := hH
          replace hG := S2o0 hG; (try dsimp only at hG); have q0 := hG.1; have q1 := hG.2.1; have q2 := hG.2.2.1; have q3 := hG.2.2.2.1; have q4 := hG.2.2.2.2.1; have q5 := hG.2.2.2.2.2.1; have q6 := hG.2.2.2.2.2.2
          go_simp
          (go_at_call 29; refine (HA2.out _ _ _ _ q1).mono ?_; rintro e wn ⟨rfl, hb⟩; (try (replace hT := keepVZ hb hT)); (try (replace hU := keepVZ hb hU)))
          refine hK.out _ _ ?hsr2_110 (fun hH2 => ?hrr2_110)
          case hsr2_110 => exact S2i0 (by have hG := hH; replace hG := S2o0 hG; (try dsimp only at hG); have q0 := hG.1; have q1 := hG.2.1; have q2 := hG.2.2.1; have q3 := hG.2.2.2.1; have q4 := hG.2.2.2.2.1; have q5 := hG.2.2.2.2.2.1; have q6 := hG.2.2.2.2.2.2; exact ⟨keepBd hb q0, keepSl hb q1, keepCell hb q2, keepCell hb q3, keepCell hb q4, keepCell hb q5, keepBelow hb q6⟩)
          clear hK K hH
          have hH := hH2
          clear hH2
          try simp only [Act.put, List.setIfInBounds_toArray, List.set_cons_zero, List.set_cons_succ]
          refine wpAnyU_ready (rs := [14]) (by kernel_rfl) (by simp) ?_
          refine AllReadyU.cons 1 (by kernel_rfl) (o := _) rfl (fun K hK => ?_) AllReadyU.nil
          have hG := hH
          replace hG := S2o0 hG; (try dsimp only at hG); have q0 := hG.1; have q1 := hG.2.1; have q2 := hG.2.2.1; have q3 := hG.2.2.2.1; have q4 := hG.2.2.2.2.1; have q5 := hG.2.2.2.2.2.1; have q6 := hG.2.2.2.2.2.2
          have HT := hid hT
          have HU := hid hU
          obtain ⟨⟨z0, z1, y0, y1⟩, yf⟩ := hT
          obtain ⟨⟨u0, u1, v0, v1⟩, uf⟩ := hU
          go_simp
          refine hK.out _ _ ?hsr2_111 (fun hH2 => ?hrr2_111)
          case hsr2_111 => exact S2i1
          clear hK K hH
          have hH := hH2
          clear hH2
          try simp only [Act.put, List.setIfInBounds_toArray, List.set_cons_zero, List.set_cons_succ]
          refine wpAnyU_ready (rs := [15]) (by kernel_rfl) (by simp) ?_
          refine AllReadyU.cons 1 (by kernel_rfl) (o := _) rfl (fun K hK => ?_) AllReadyU.nil
          go_simp
          refine hK.out _ _ ?hsr2_112 (fun hH2 => ?hrr2_112)
          case hsr2_112 => exact S2i1
          clear hK K hH
          have hH := hH2
          clear hH2
          try simp only [Act.put, List.setIfInBounds_toArray, List.set_cons_zero, List.set_cons_succ]
          refine wpAnyU_done (by kernel_rfl) ?_ _ _
          refine NoPanic.normal ?_
          go_wp2_with fail
          go_meet
          exact spins_end hgb (by omega) (by omega) (by omega) hw0 q0 q4 q5 q6 HT.out HU.out
        exact AllReadyU.nil
      exact AllReadyU.nil
    refine AllReadyU.cons 0 (by kernel_rfl) (o := _) rfl (fun K hK => ?_) ?_
    · try clear hb
      have hG := hH
      replace hG := S2o0 hG; (try dsimp only at hG); have q0 := hG.1; have q1 := hG.2.1; have q2 := hG.2.2.1; have q3 := hG.2.2.2.1; have q4 := hG.2.2.2.2.1; have q5 := hG.2.2.2.2.2.1; have q6 := hG.2.2.2.2.2.2
      go_simp
      refine hK.out _ _ ?hsr2_113 (fun hH2 => ?hrr2_113)
      case hsr2_113 => exact S2i0 (by have hG := hH; replace hG := S2o0 hG; (try dsimp only at hG); have q0 := hG.1; have q1 := hG.2.1; have q2 := hG.2.2.1; have q3 := hG.2.2.2.1; have q4 := hG.2.2.2.2.1; have q5 := hG.2.2.2.2.2.1; have q6 := hG.2.2.2.2.2.2; exact ⟨q0.alloc _, Sl.alloc q1 _, keepCell ((Below.refl _ _).alloc (Nat.le_refl _) _) q2, keepCell ((Below.refl _ _).alloc (Nat.le_refl _) _) q3, keepCell ((Below.refl _ _).alloc (Nat.le_refl _) _) q4, keepCell ((Below.refl _ _).alloc (Nat.le_refl _) _) q5, q6.alloc q6.size _⟩)
      clear hK K hH
      have hH := hH2
      clear hH2
      try simp only [Act.put, List.setIfInBounds_toArray, List.set_cons_zero, List.set_cons_succ]
      have hT : VZ ((wy.alloc (.cells #[.int .i64 0, .int .i64 0] 34)).drew) wy.heap.size := VZ.drew (VZ.here _ _ _ _)
      obtain ⟨gT, hgT⟩ : ∃ g, g = wy.heap.size := ⟨_, rfl⟩
      have hlT : g9 < gT := by rw [hgT]; exact lt_of_cell q4
      rw [← hgT] at hT
      try rw [← hgT]
      clear hgT q0 q1 q2 q3 q4 q5 q6
      generalize (wy.alloc (.cells #[.int .i64 0, .int .i64 0] 34)).drew = wx12 at *
      refine wpAnyU_ready (rs := [4, 13]) (by kernel_rfl) (by simp) ?_
      refine AllReadyU.cons 0 (by kernel_rfl) (o := _) rfl (fun K hK => ?_) ?_
      · try clear hb
        go_simp
        (go_at_call 30; refine (vadd_calls b.px b.py x y _).mono ?_; rintro e wn ⟨rfl, hb⟩; (try (replace hT := keepVZ hb hT)); (try (replace hU := keepVZ hb hU)))
        refine hK.out _ _ ?hsr2_114 (fun hH2 => ?hrr2_114)
        case hsr2_114 => exact S2i0 (by have hG := hH; replace hG := S2o0 hG; (try dsimp only at hG); have q0 := hG.1; have q1 := hG.2.1; have q2 := hG.2.2.1; have q3 := hG.2.2.2.1; have q4 := hG.2.2.2.2.1; have q5 := hG.2.2.2.2.2.1; have q6 := hG.2.2.2.2.2.2; exact ⟨keepBd hb q0, keepSl hb q1, keepCell hb q2, keepCell hb q3, keepCell hb q4, keepCell hb q5, keepBelow hb q6⟩)
        clear hK K hH
        have hH := hH2
        clear hH2
        try simp only [Act.put, List.setIfInBounds_toArray, List.set_cons_zero, List.set_cons_succ]
        refine wpAnyU_ready (rs := [5, 13]) (by kernel_rfl) (by simp) ?_
        refine AllReadyU.cons 0 (by kernel_rfl) (o := _) rfl (fun K hK => ?_) ?_
        · try clear hb
          have hG := hH
          replace hG := S2o0 hG; (try dsimp only at hG); have q0 := hG.1; have q1 := hG.2.1; have q2 := hG.2.2.1; have q3 := hG.2.2.2.1; have q4 := hG.2.2.2.2.1; have q5 := hG.2.2.2.2.2.1; have q6 := hG.2.2.2.2.2.2
          go_simp
          (go_at_call 29; refine (HA1.out _ _ _ _ q1).mono ?_; rintro e wn ⟨rfl, hb⟩; (try (replace hT := keepVZ hb hT)); (try (replace hU := keepVZ hb hU)))
          refine hK.out _ _ ?hsr2_115 (fun hH2 => ?hrr2_115)
          case hsr2_115 => exact S2i0 (by have hG := hH; replace hG := S2o0 hG; (try dsimp only at hG); have q0 := hG.1; have q1 := hG.2.1; have q2 := hG.2.2.1; have q3 := hG.2.2.2.1; have q4 := hG.2.2.2.2.1; have q5 := hG.2.2.2.2.2.1; have q6 := hG.2.2.2.2.2.2; exact ⟨keepBd hb q0, keepSl hb q1, keepCell hb q2, keepCell hb q3, keepCell hb q4, keepCell hb q5, keepBelow hb q6⟩)
          clear hK K hH
          have hH := hH2
          clear hH2
          try simp only [Act.put, List.setIfInBounds_toArray, List.set_cons_zero, List.set_cons_succ]
          refine wpAnyU_ready (rs := [10, 13]) (by kernel_rfl) (by simp) ?_
          refine AllReadyU.cons 0 (by kernel_rfl) (o := _) rfl (fun K hK => ?_) ?_
          · try clear hb
            go_simp
            (go_at_call 31; refine (vsub_calls b.px b.py x y _).mono ?_; rintro e wn ⟨rfl, hb⟩; (try (replace hT := keepVZ hb hT)); (try (replace hU := keepVZ hb hU)))
            refine hK.out _ _ ?hsr2_116 (fun hH2 => ?hrr2_116)
            case hsr2_116 => exact S2i0 (by have hG := hH; replace hG := S2o0 hG; (try dsimp only at hG); have q0 := hG.1; have q1 := hG.2.1; have q2 := hG.2.2.1; have q3 := hG.2.2.2.1; have q4 := hG.2.2.2.2.1; have q5 := hG.2.2.2.2.2.1; have q6 := hG.2.2.2.2.2.2; exact ⟨keepBd hb q0, keepSl hb q1, keepCell hb q2, keepCell hb q3, keepCell hb q4, keepCell hb q5, keepBelow hb q6⟩)
            clear hK K hH
            have hH := hH2
            clear hH2
            try simp only [Act.put, List.setIfInBounds_toArray, List.set_cons_zero, List.set_cons_succ]
            refine wpAnyU_ready (rs := [11, 13]) (by kernel_rfl) (by simp) ?_
            refine AllReadyU.cons 0 (by kernel_rfl) (o := _) rfl (fun K hK => ?_) ?_
            · try clear hb
              have hG := hH
              replace hG := S2o0 hG; (try dsimp only at hG); have q0 := hG.1; have q1 := hG.2.1; have q2 := hG.2.2.1; have q3 := hG.2.2.2.1; have q4 := hG.2.2.2.2.1; have q5 := hG.2.2.2.2.2.1; have q6 := hG.2.2.2.2.2.2
              go_simp
              (go_at_call 29; refine (HA2.out _ _ _ _ q1).mono ?_; rintro e wn ⟨rfl, hb⟩; (try (replace hT := keepVZ hb hT)); (try (replace hU := keepVZ hb hU)))
              refine hK.out _ _ ?hsr2_117 (fun hH2 => ?hrr2_117)
              case hsr2_117 => exact S2i0 (by have hG := hH; replace hG := S2o0 hG; (try dsimp only at hG); have q0 := hG.1; have q1 := hG.2.1; have q2 := hG.2.2.1; have q3 := hG.2.2.2.1; have q4 := hG.2.2.2.2.1; have q5 := hG.2.2.2.2.2.1; have q6 := hG.2.2.2.2.2.2; exact ⟨keepBd hb q0, keepSl hb q1, keepCell hb q2, keepCell hb q3, keepCell hb q4, keepCell hb q5, keepBelow hb q6⟩)
              clear hK K hH
              have hH := hH2
              clear hH2
              try simp only [Act.put, List.setIfInBounds_toArray, List.set_cons_zero, List.set_cons_succ]
              refine wpAnyU_ready (rs := [13]) (by kernel_rfl) (by simp) ?_
              refine AllReadyU.cons 0 (by kernel_rfl) (o := _) rfl (fun K hK => ?_) AllReadyU.nil
              try clear hb
              have hG := hH
              replace hG := S2o0 hG; (try dsimp only at hG); have q0 := hG.1; have q1 := hG.2.1; have q2 := hG.2.2.1; have q3 := hG.2.2.2.1; have q4 := hG.2.2.2.2.1; have q5 := hG.2.2.2.2.2.1; have q6 := hG.2.2.2.2.2.2
              have hZT := VZ.lt hT
              go_simp
              refine hK.out _ _ ?hsr2_118 (fun hH2 => ?hrr2_118)
              case hsr2_118 => exact S2i0 (by have hG := hH; replace hG := S2o0 hG; (try dsimp only at hG); have q0 := hG.1; have q1 := hG.2.1; have q2 := hG.2.2.1; have q3 := hG.2.2.2.1; have q4 := hG.2.2.2.2.1; have q5 := hG.2.2.2.2.2.1; have q6 := hG.2.2.2.2.2.2; exact ⟨q0.alloc _, Sl.alloc q1 _, keepCell ((Below.refl _ _).alloc (Nat.le_refl _) _) q2, keepCell ((Below.refl _ _).alloc (Nat.le_refl _) _) q3, keepCell ((Below.refl _ _).alloc (Nat.le_refl _) _) q4, keepCell ((Below.refl _ _).alloc (Nat.le_refl _) _) q5, q6.alloc q6.size _⟩)
              clear hK K hH
              have hH := hH2
              clear hH2
              try simp only [Act.put, List.setIfInBounds_toArray, List.set_cons_zero, List.set_cons_succ]
              have hU : VZ (wn.alloc (.cells #[.int .i64 0, .int .i64 0] 34)) wn.heap.size := VZ.here _ _ _ _
              replace hT := keepVZ ((Below.refl _ _).alloc (Nat.le_refl _) (.cells #[.int .i64 0, .int .i64 0] 34)) hT
              obtain ⟨gU, hgU⟩ : ∃ g, g = wn.heap.size := ⟨_, rfl⟩
              have hlU : g9 < gU ∧ gT < gU := by rw [hgU]; exact ⟨lt_of_cell q4, hZT⟩
              rw [← hgU] at hU
              try rw [← hgU]
              clear hgU q0 q1 q2 q3 q4 q5 q6
              generalize wn.alloc (.cells #[.int .i64 0, .int .i64 0] 34) = wx13 at *
              refine wpAnyU_ready (rs := [14]) (by kernel_rfl) (by simp) ?_
              refine AllReadyU.cons 1 (by kernel_rfl) (o := _) rfl (fun K hK => ?_) AllReadyU.nil
              have hG := hH
              replace hG := S2o0 hG; (try dsimp only at hG); have q0 := hG.1; have q1 := hG.2.1; have q2 := hG.2.2.1; have q3 := hG.2.2.2.1; have q4 := hG.2.2.2.2.1; have q5 := hG.2.2.2.2.2.1; have q6 := hG.2.2.2.2.2.2
              have HT := hid hT
              have HU := hid hU
              obtain ⟨⟨z0, z1, y0, y1⟩, yf⟩ := hT
              obtain ⟨⟨u0, u1, v0, v1⟩, uf⟩ := hU
              go_simp
              refine hK.out _ _ ?hsr2_119 (fun hH2 => ?hrr2_119)
              case hsr2_119 => exact S2i1
              clear hK K hH
              have hH := hH2
              clear hH2
              try simp only [Act.put, List.setIfInBounds_toArray, List.set_cons_zero, List.set_cons_succ]
              refine wpAnyU_ready (rs := [15]) (by kernel_rfl) (by simp) ?_
              refine AllReadyU.cons 1 (by kernel_rfl) (o := _) rfl (fun K hK => ?_) AllReadyU.nil
              go_simp
              refine hK.out _ _ ?hsr2_120 (fun hH2 => ?hrr2_120)
              case hsr2_120 => exact S2i1
              clear hK K hH
              have hH := hH2
              clear hH2
              try simp only [Act.put, List.setIfInBounds_toArray, List.set_cons_zero, List.set_cons_succ]
              refine wpAnyU_done (by kernel_rfl) ?_ _ _
              refine NoPanic.normal ?_
              go_wp2_with fail
              go_meet
              exact spins_end hgb (by omega) (by omega) (by omega) hw0 q0 q4 q5 q6 HT.out HU.out
            refine AllReadyU.cons 0 (by kernel_rfl) (o := _) rfl (fun K hK => ?_) ?_
            · try clear hb
              have hG := hH
              replace hG := S2o0 hG; (try dsimp only at hG); have q0 := hG.1; have q1 := hG.2.1; have q2 := hG.2.2.1; have q3 := hG.2.2.2.1; have q4 := hG.2.2.2.2.1; have q5 := hG.2.2.2.2.2.1; have q6 := hG.2.2.2.2.2.2
              have hZT := VZ.lt hT
              go_simp
              refine hK.out _ _ ?hsr2_121 (fun hH2 => ?hrr2_121)
              case hsr2_121 => exact S2i0 (by have hG := hH; replace hG := S2o0 hG; (try dsimp only at hG); have q0 := hG.1; have q1 := hG.2.1; have q2 := hG.2.2.1; have q3 := hG.2.2.2.1; have q4 := hG.2.2.2.2.1; have q5 := hG.2.2.2.2.2.1; have q6 := hG.2.2.2.2.2.2; exact ⟨q0.alloc _, Sl.alloc q1 _, keepCell ((Below.refl _ _).alloc (Nat.le_refl _) _) q2, keepCell ((Below.refl _ _).alloc (Nat.le_refl _) _) q3, keepCell ((Below.refl _ _).alloc (Nat.le_refl _) _) q4, keepCell ((Below.refl _ _).alloc (Nat.le_refl _) _) q5, q6.alloc q6.size _⟩)
              clear hK K hH
              have hH := hH2
              clear hH2
              try simp only [Act.put, List.setIfInBounds_toArray, List.set_cons_zero, List.set_cons_succ]
              have hU : VZ (wn.alloc (.cells #[.int .i64 0, .int .i64 0] 34)) wn.heap.size := VZ.here _ _ _ _
              replace hT := keepVZ ((Below.refl _ _).alloc (Nat.le_refl _) (.cells #[.int .i64 0, .int .i64 0] 34)) hT
              obtain ⟨gU, hgU⟩ : ∃ g, g = wn.heap.size := ⟨_, rfl⟩
              have hlU : g9 < gU ∧ gT < gU := by rw [hgU]; exact ⟨lt_of_cell q4, hZT⟩
              rw [← hgU] at hU
              try rw [← hgU]
              clear hgU q0 q1 q2 q3 q4 q5 q6
              generalize wn.alloc (.cells #[.int .i64 0, .int .i64 0] 34) = wx13 at *
              refine wpAnyU_ready (rs := [11]) (by kernel_rfl) (by simp) ?_
              refine AllReadyU.cons 0 (by kernel_rfl) (o := _) rfl (fun K hK => ?_) AllReadyU.nil
              try clear hb
              have hG := hH
              replace hG := S2o0 hG; (try dsimp only at hG); have q0 := hG.1; have q1 := hG.2.1; have q2 := hG.2.2.1; have q3 := hG.2.2.2.1; have q4 := hG.2.2.2.2.1; have q5 := hG.2.2.2.2.2.1; have q6 := hG.2.2.2.2.2.2
              go_simp
              (go_at_call 29; refine (HA2.out _ _ _ _ q1).mono ?_; rintro e wn ⟨rfl, hb⟩; (try (replace hT := keepVZ hb hT)); (try (replace hU := keepVZ hb hU)))
              refine hK.out _ _ ?hsr2_122 (fun hH2 => ?hrr2_122)
              case hsr2_122 => exact S2i0 (by have hG := hH; replace hG := S2o0 hG; (try dsimp only at hG); have q0 := hG.1; have q1 := hG.2.1; have q2 := hG.2.2.1; have q3 := hG.2.2.2.1; have q4 := hG.2.2.2.2.1; have q5 := hG.2.2.2.2.2.1; have q6 := hG.2.2.2.2.2.2; exact ⟨keepBd hb q0, keepSl hb q1, keepCell hb q2, keepCell hb q3, keepCell hb q4, keepCell hb q5, keepBelow hb q6⟩)
              clear hK K hH
              have hH := hH2
              clear hH2
              try simp only [Act.put, List.setIfInBounds_toArray, List.set_cons_zero, List.set_cons_succ]
              refine wpAnyU_ready (rs := [14]) (by kernel_rfl) (by simp) ?_
              refine AllReadyU.cons 1 (by kernel_rfl) (o := _) rfl (fun K hK => ?_) AllReadyU.nil
              have hG := hH
              replace hG := S2o0 hG; (try dsimp only at hG); have q0 := hG.1; have q1 := hG.2.1; have q2 := hG.2.2.1; have q3 := hG.2.2.2.1; have q4 := hG.2.2.2.2.1; have q5 := hG.2.2.2.2.2.1; have q6 := hG.2.2.2.2.2.2
              have HT := hid hT
              have HU := hid hU
              obtain ⟨⟨z0, z1, y0, y1⟩, yf⟩ := hT
              obtain ⟨⟨u0, u1, v0, v1⟩, uf⟩ := hU
              go_simp
              refine hK.out _ _ ?hsr2_123 (fun hH2 => ?hrr2_123)
              case hsr2_123 => exact S2i1
              clear hK K hH
              have hH := hH2
              clear hH2
              try simp only [Act.put, List.setIfInBounds_toArray, List.set_cons_zero, List.set_cons_succ]
              refine wpAnyU_ready (rs := [15]) (by kernel_rfl) (by simp) ?_
              refine AllReadyU.cons 1 (by kernel_rfl) (o := _) rfl (fun K hK => ?_) AllReadyU.nil
              go_simp
              refine hK.out _ _ ?hsr2_124 (fun hH2 => ?hrr2_124)
              case hsr2_124 => exact S2i1
              clear hK K hH
              have hH := hH2
              clear hH2
              try simp only [Act.put, List.setIfInBounds_toArray, List.set_cons_zero, List.set_cons_succ]
              refine wpAnyU_done (by kernel_rfl) ?_ _ _
              refine NoPanic.normal ?_
              go_wp2_with fail
              go_meet
              exact spins_end hgb (by omega) (by omega) (by omega) hw0 q0 q4 q5 q6 HT.out HU.out
            exact AllReadyU.nil
          refine AllReadyU.cons 0 (by kernel_rfl) (o := _) rfl (fun K hK => ?_) ?_
          · try clear hb
            have hG := hH
            replace hG := S2o0 hG; (try dsimp only at hG); have q0 := hG.1; have q1 := hG.2.1; have q2 := hG.2.2.1; have q3 := hG.2.2.2.1; have q4 := hG.2.2.2.2.1; have q5 := hG.2.2.2.2.2.1; have q6 := hG.2.2.2.2.2.2
            have hZT := VZ.lt hT
            go_simp
            refine hK.out _ _ ?hsr2_125 (fun hH2 => ?hrr2_125)
            case hsr2_125 => exact S2i0 (by have hG := hH; replace hG := S2o0 hG; (try dsimp only at hG); have q0 := hG.1; have q1 := hG.2.1; have q2 := hG.2.2.1; have q3 := hG.2.2.2.1; have q4 := hG.2.2.2.2.1; have q5 := hG.2.2.2.2.2.1; have q6 := hG.2.2.2.2.2.2; exact ⟨q0.alloc _, Sl.alloc q1 _, keepCell ((Below.refl _ _).alloc (Nat.le_refl _) _) q2, keepCell ((Below.refl _ _).alloc (Nat.le_refl _) _) q3, keepCell ((Below.refl _ _).alloc (Nat.le_refl _) _) q4, keepCell ((Below.refl _ _).alloc (Nat.le_refl _) _) q5, q6.alloc q6.size _⟩)
            clear hK K hH
            have hH := hH2
            clear hH2
            try simp only [Act.put, List.setIfInBounds_toArray, List.set_cons_zero, List.set_cons_succ]
            have hU : VZ (wn.alloc (.cells #[.int .i64 0, .int .i64 0] 34)) wn.heap.size := VZ.here _ _ _ _
            replace hT := keepVZ ((Below.refl _ _).alloc (Nat.le_refl _) (.cells #[.int .i64 0, .int .i64 0] 34)) hT
            obtain ⟨gU, hgU⟩ : ∃ g, g = wn.heap.size := ⟨_, rfl⟩
            have hlU : g9 < gU ∧ gT < gU := by rw [hgU]; exact ⟨lt_of_cell q4, hZT⟩
            rw [← hgU] at hU
            try rw [← hgU]
            clear hgU q0 q1 q2 q3 q4 q5 q6
            generalize wn.alloc (.cells #[.int .i64 0, .int .i64 0] 34) = wx13 at *
            refine wpAnyU_ready (rs := [10]) (by kernel_rfl) (by simp) ?_
            refine AllReadyU.cons 0 (by kernel_rfl) (o := _) rfl (fun K hK => ?_) AllReadyU.nil
            try clear hb
            go_simp
            (go_at_call 31; refine (vsub_calls b.px b.py x y _).mono ?_; rintro e wn ⟨rfl, hb⟩; (try (replace hT := keepVZ hb hT)); (try (replace hU := keepVZ hb hU)))
            refine hK.out _ _ ?hsr2_126 (fun hH2 => ?hrr2_126)
            case hsr2_126 => exact S2i0 (by have hG := hH; replace hG := S2o0 hG; (try dsimp only at hG); have q0 := hG.1; have q1 := hG.2.1; have q2 := hG.2.2.1; have q3 := hG.2.2.2.1; have q4 := hG.2.2.2.2.1; have q5 := hG.2.2.2.2.2.1; have q6 := hG.2.2.2.2.2.2; exact ⟨keepBd hb q0, keepSl hb q1, keepCell hb q2, keepCell hb q3, keepCell hb q4, keepCell hb q5, keepBelow hb q6⟩)
            clear hK K hH
            have hH := hH2
            clear hH2
            try simp only [Act.put, List.setIfInBounds_toArray, List.set_cons_zero, List.set_cons_succ]
            refine wpAnyU_ready (rs := [11]) (by kernel_rfl) (by simp) ?_
            refine AllReadyU.cons 0 (by kernel_rfl) (o := _) rfl (fun K hK => ?_) AllReadyU.nil
            try clear hb
            have hG := hH
            replace hG := S2o0 hG; (try dsimp only at hG); have q0 := hG.1; have q1 := hG.2.1; have q2 := hG.2.2.1; have q3 := hG.2.2.2.1; have q4 := hG.2.2.2.2.1; have q5 := hG.2.2.2.2.2.1; have q6 := hG.2.2.2.2.2.2
            go_simp
            (go_at_call 29; refine (HA2.out _ _ _ _ q1).mono ?_; rintro e wn ⟨rfl, hb⟩; (try (replace hT := keepVZ hb hT)); (try (replace hU := keepVZ hb hU)))
            refine hK.out _ _ ?hsr2_127 (fun hH2 => ?hrr2_127)
            case hsr2_127 => exact S2i0 (by have hG := hH; replace hG := S2o0 hG; (try dsimp only at hG); have q0 := hG.1; have q1 := hG.2.1; have q2 := hG.2.2.1; have q3 := hG.2.2.2.1; have q4 := hG.2.2.2.2.1; have q5 := hG.2.2.2.2.2.1; have q6 := hG.2.2.2.2.2.2; exact ⟨keepBd hb q0, keepSl hb q1, keepCell hb q2, keepCell hb q3, keepCell hb q4, keepCell hb q5, keepBelow hb q6⟩)
            clear hK K hH
            have hH := hH2
            clear hH2
            try simp only [Act.put, List.setIfInBounds_toArray, List.set_cons_zero, List.set_cons_succ]
            refine wpAnyU_ready (rs := [14]) (by kernel_rfl) (by simp) ?_
            refine AllReadyU.cons 1 (by kernel_rfl) (o := _) rfl (fun K hK => ?_) AllReadyU.nil
            have hG := hH
            replace hG := S2o0 hG; (try dsimp only at hG); have q0 := hG.1; have q1 := hG.2.1; have q2 := hG.2.2.1; have q3 := hG.2.2.2.1; have q4 := hG.2.2.2.2.1; have q5 := hG.2.2.2.2.2.1; have q6 := hG.2.2.2.2.2.2
            have HT := hid hT
            have HU := hid hU
            obtain ⟨⟨z0, z1, y0, y1⟩, yf⟩ := hT
            obtain ⟨⟨u0, u1, v0, v1⟩, uf⟩ := hU
            go_simp
            refine hK.out _ _ ?hsr2_128 (fun hH2 => ?hrr2_128)
            case hsr2_128 => exact S2i1
            clear hK K hH
            have hH := hH2
            clear hH2
            try simp only [Act.put, List.setIfInBounds_toArray, List.set_cons_zero, List.set_cons_succ]
            refine wpAnyU_ready (rs := [15]) (by kernel_rfl) (by simp) ?_
            refine AllReadyU.cons 1 (by kernel_rfl) (o := _) rfl (fun K hK => ?_) AllReadyU.nil
            go_simp
            refine hK.out _ _ ?hsr2_129 (fun hH2 => ?hrr2_129)
            case hsr2_129 => exact S2i1
            clear hK K hH
            have hH := hH2
            clear hH2
            try simp only [Act.put, List.setIfInBounds_toArray, List.set_cons_zero, List.set_cons_succ]
            refine wpAnyU_done (by kernel_rfl) ?_ _ _
            refine NoPanic.normal ?_
            go_wp2_with fail
            go_meet
            exact spins_end hgb (by omega) (by omega) (by omega) hw0 q0 q4 q5 q6 HT.out HU.out
          exact AllReadyU.nil
        refine AllReadyU.cons 0 (by kernel_rfl) (o := _) rfl (fun K hK => ?_) ?_
        · try clear hb
          have hG := hH
          replace hG := S2o0 hG; (try dsimp only at hG); have q0 := hG.1; have q1 := hG.2.1; have q2 := hG.2.2.1; have q3 := hG.2.2.2.1; have q4 := hG.2.2.2.2.1; have q5 := hG.2.2.2.2.2.1; have q6 := hG.2.2.2.2.2.2
          have hZT := VZ.lt hT
          go_simp
          refine hK.out _ _ ?hsr2_130 (fun hH2 => ?hrr2_130)
          case hsr2_130 => exact S2i0 (by have hG := hH; replace hG := S2o0 hG; (try dsimp only at hG); have q0 := hG.1; have q1 := hG.2.1; have q2 := hG.2.2.1; have q3 := hG.2.2.2.1; have q4 := hG.2.2.2.2.1; have q5 := hG.2.2.2.2.2.1; have q6 := hG.2.2.2.2.2.2; exact ⟨q0.alloc _, Sl.alloc q1 _, keepCell ((Below.refl _ _).alloc (Nat.le_refl _) _) q2, keepCell ((Below.refl _ _).alloc (Nat.le_refl _) _) q3, keepCell ((Below.refl _ _).alloc (Nat.le_refl _) _) q4, keepCell ((Below.refl _ _).alloc (Nat.le_refl _) _) q5, q6.alloc q6.size _⟩)
          clear hK K hH
          have hH := hH2
          clear hH2
          try simp only [Act.put, List.setIfInBounds_toArray, List.set_cons_zero, List.set_cons_succ]
          have hU : VZ (wn.alloc (.cells #[.int .i64 0, .int .i64 0] 34)) wn.heap.size := VZ.here _ _ _ _
          replace hT := keepVZ ((Below.refl _ _).alloc (Nat.le_refl _) (.cells #[.int .i64 0, .int .i64 0] 34)) hT
          obtain ⟨gU, hgU⟩ : ∃ g, g = wn.heap.size := ⟨_, rfl⟩
          have hlU : g9 < gU ∧ gT < gU := by rw [hgU]; exact ⟨lt_of_cell q4, hZT⟩
          rw [← hgU] at hU
          try rw [← hgU]
          clear hgU q0 q1 q2 q3 q4 q5 q6
          generalize wn.alloc (.cells #[.int .i64 0, .int .i64 0] 34) = wx13 at *
          refine wpAnyU_ready (rs := [5]) (by kernel_rfl) (by simp) ?_
          refine AllReadyU.cons 0 (by kernel_rfl) (o := _) rfl (fun K hK => ?_) AllReadyU.nil
          try clear hb
          have hG := hH
          replace hG := S2o0 hG; (try dsimp only at hG); have q0 := hG.1; have q1 := hG.2.1; have q2 := hG.2.2.1; have q3 := hG.2.2.2.1; have q4 := hG.2.2.2.2.1; have q5 := hG.2.2.2.2.2.1; have q6 := hG.2.2.2.2.2.2
          go_simp
          (go_at_call 29; refine (HA1.out _ _ _ _ q1).mono ?_; rintro e wn ⟨rfl, hb⟩; (try (replace hT := keepVZ hb hT)); (try (replace hU := keepVZ hb hU)))
          refine hK.out _ _ ?hsr2_131 (fun hH2 => ?hrr2_131)
          case hsr2_131 => exact S2i0 (by have hG := hH; replace hG := S2o0 hG; (try dsimp only at hG); have q0 := hG.1; have q1 := hG.2.1; have q2 := hG.2.2.1; have q3 := hG.2.2.2.1; have q4 := hG.2.2.2.2.1; have q5 := hG.2.2.2.2.2.1; have q6 := hG.2.2.2.2.2.2; exact ⟨keepBd hb q0, keepSl hb q1, keepCell hb q2, keepCell hb q3, keepCell hb q4, keepCell hb q5, keepBelow hb q6⟩)
          clear hK K hH
          have hH := hH2
          clear hH2
          try simp only [Act.put, List.setIfInBounds_toArray, List.set_cons_zero, List.set_cons_succ]
          refine wpAnyU_ready (rs := [10]) (by kernel_rfl) (by simp) ?_
          refine AllReadyU.cons 0 (by kernel_rfl) (o := _) rfl (fun K hK => ?_) AllReadyU.nil
          try clear hb
          go_simp
          (go_at_call 31; refine (vsub_calls b.px b.py x y _).mono ?_; rintro e wn ⟨rfl, hb⟩; (try (replace hT := keepVZ hb hT)); (try (replace hU := keepVZ hb hU)))
          refine hK.out _ _ ?hsr2_132 (fun hH2 => ?hrr2_132)
          case hsr2_132 => exact S2i0 (by have hG := hH; replace hG := S2o0 hG; (try dsimp only at hG); have q0 := hG.1; have q1 := hG.2.1; have q2 := hG.2.2.1; have q3 := hG.2.2.2.1; have q4 := hG.2.2.2.2.1; have q5 := hG.2.2.2.2.2.1; have q6 := hG.2.2.2.2.2.2; exact ⟨keepBd hb q0, keepSl hb q1, keepCell hb q2, keepCell hb q3, keepCell hb q4, keepCell hb q5, keepBelow hb q6⟩)
          clear hK K hH
          have hH := hH2
          clear hH2
          try simp only [Act.put, List.setIfInBounds_toArray, List.set_cons_zero, List.set_cons_succ]
          refine wpAnyU_ready (rs := [11]) (by kernel_rfl) (by simp) ?_
          refine AllReadyU.cons 0 (by kernel_rfl) (o := _) rfl (fun K hK => ?_) AllReadyU.nil
          try clear hb
          have hG := hH
          replace hG := S2o0 hG; (try dsimp only at hG); have q0 := hG.1; have q1 := hG.2.1; have q2 := hG.2.2.1; have q3 := hG.2.2.2.1; have q4 := hG.2.2.2.2.1; have q5 := hG.2.2.2.2.2.1; have q6 := hG.2.2.2.2.2.2
          go_simp
          (go_at_call 29; refine (HA2.out _ _ _ _ q1).mono ?_; rintro e wn ⟨rfl, hb⟩; (try (replace hT := keepVZ hb hT)); (try (replace hU := keepVZ hb hU)))
          refine hK.out _ _ ?hsr2_133 (fun hH2 => ?hrr2_133)
          case hsr2_133 => exact S2i0 (by have hG := hH; replace hG := S2o0 hG; (try dsimp only at hG); have q0 := hG.1; have q1 := hG.2.1; have q2 := hG.2.2.1; have q3 := hG.2.2.2.1; have q4 := hG.2.2.2.2.1; have q5 := hG.2.2.2.2.2.1; have q6 := hG.2.2.2.2.2.2; exact ⟨keepBd hb q0, keepSl hb q1, keepCell hb q2, keepCell hb q3, keepCell hb q4, keepCell hb q5, keepBelow hb q6⟩)
          clear hK K hH
          have hH := hH2
          clear hH2
          try simp only [Act.put, List.setIfInBounds_toArray, List.set_cons_zero, List.set_cons_succ]
          refine wpAnyU_ready (rs := [14]) (by kernel_rfl) (by simp) ?_
          refine AllReadyU.cons 1 (by kernel_rfl) (o := _) rfl (fun K hK => ?_) AllReadyU.nil
          have hG := hH
          replace hG := S2o0 hG; (try dsimp only at hG); have q0 := hG.1; have q1 := hG.2.1; have q2 := hG.2.2.1; have q3 := hG.2.2.2.1; have q4 := hG.2.2.2.2.1; have q5 := hG.2.2.2.2.2.1; have q6 := hG.2.2.2.2.2.2
          have HT := hid hT
          have HU := hid hU
          obtain ⟨⟨z0, z1, y0, y1⟩, yf⟩ := hT
          obtain ⟨⟨u0, u1, v0, v1⟩, uf⟩ := hU
          go_simp
          refine hK.out _ _ ?hsr2_134 (fun hH2 => ?hrr2_134)
          case hsr2_134 => exact S2i1
          clear hK K hH
          have hH := hH2
          clear hH2
          try simp only [Act.put, List.setIfInBounds_toArray, List.set_cons_zero, List.set_cons_succ]
          refine wpAnyU_ready (rs := [15]) (by kernel_rfl) (by simp) ?_
          refine AllReadyU.cons 1 (by kernel_rfl) (o := _) rfl (fun K hK => ?_) AllReadyU.nil
          go_simp
          refine hK.out _ _ ?hsr2_135 (fun hH2 => ?hrr2_135)
          case hsr2_135 => exact S2i1
          clear hK K hH
          have hH := hH2
          clear hH2
          try simp only [Act.put, List.setIfInBounds_toArray, List.set_cons_zero, List.set_cons_succ]
          refine wpAnyU_done (by kernel_rfl) ?_ _ _
          refine NoPanic.normal ?_
          go_wp2_with fail
          go_meet
          exact spins_end hgb (by omega) (by omega) (by omega) hw0 q0 q4 q5 q6 HT.out HU.out
        exact AllReadyU.nil
      refine AllReadyU.cons 0 (by kernel_rfl) (o := _) rfl (fun K hK => ?_) ?_
      · try clear hb
        have hG := hH
        replace hG := S2o0 hG; (try dsimp only at hG); have q0 := hG.1; have q1 := hG.2.1; have q2 := hG.2.2.1; have q3 := hG.2.2.2.1; have q4 := hG.2.2.2.2.1; have q5 := hG.2.2.2.2.2.1; have q6 := hG.2.2.2.2.2.2
        have hZT := VZ.lt hT
        go_simp
        refine hK.out _ _ ?hsr2_136 (fun hH2 => ?hrr2_136)
        case hsr2_136 => exact S2i0 (by have hG := hH; replace hG := S2o0 hG; (try dsimp only at hG); have q0 := hG.1; have q1 := hG.2.1; have q2 := hG.2.2.1; have q3 := hG.2.2.2.1; have q4 := hG.2.2.2.2.1; have q5 := hG.2.2.2.2.2.1; have q6 := hG.2.2.2.2.2.2; exact ⟨q0.alloc _, Sl.alloc q1 _, keepCell ((Below.refl _ _).alloc (Nat.le_refl _) _) q2, keepCell ((Below.refl _ _).alloc (Nat.le_refl _) _) q3, keepCell ((Below.refl _ _).alloc (Nat.le_refl _) _) q4, keepCell ((Below.refl _ _).alloc (Nat.le_refl _) _) q5, q6.alloc q6.size _⟩)
        clear hK K hH
        have hH := hH2
        clear hH2
        try simp only [Act.put, List.setIfInBounds_toArray, List.set_cons_zero, List.set_cons_succ]
        have hU : VZ (wx12.alloc (.cells #[.int .i64 0, .int .i64 0] 34)) wx12.heap.size := VZ.here _ _ _ _
        replace hT := keepVZ ((Below.refl _ _).alloc (Nat.le_refl _) (.cells #[.int .i64 0, .int .i64 0] 34)) hT
        obtain ⟨gU, hgU⟩ : ∃ g, g = wx12.heap.size := ⟨_, rfl⟩
        have hlU : g9 < gU ∧ gT < gU := by rw [hgU]; exact ⟨lt_of_cell q4, hZT⟩
        rw [← hgU] at hU
        try rw [← hgU]
        clear hgU q0 q1 q2 q3 q4 q5 q6
        generalize wx12.alloc (.cells #[.int .i64 0, .int .i64 0] 34) = wx13 at *
        refine wpAnyU_ready (rs := [4]) (by kernel_rfl) (by simp) ?_
        refine AllReadyU.cons 0 (by kernel_rfl) (o := _) rfl (fun K hK => ?_) AllReadyU.nil
        try clear hb
        go_simp
        (go_at_call 30; refine (vadd_calls b.px b.py x y _).mono ?_; rintro e wn ⟨rfl, hb⟩; (try (replace hT := keepVZ hb hT)); (try (replace hU := keepVZ hb hU)))
        refine hK.out _ _ ?hsr2_137 (fun hH2 => ?hrr2_137)
        case hsr2_137 => exact S2i0 (by have hG := hH; replace hG := S2o0 hG; (try dsimp only at hG); have q0 := hG.1; have q1 := hG.2.1; have q2 := hG.2.2.1; have q3 := hG.2.2.2.1; have q4 := hG.2.2.2.2.1; have q5 := hG.2.2.2.2.2.1; have q6 := hG.2.2.2.2.2.2; exact ⟨keepBd hb q0, keepSl hb q1, keepCell hb q2, keepCell hb q3, keepCell hb q4, keepCell hb q5, keepBelow hb q6⟩)
        clear hK K hH
        have hH := hH2
        clear hH2
        try simp only [Act.put, List.setIfInBounds_toArray, List.set_cons_zero, List.set_cons_succ]
        refine wpAnyU_ready (rs := [5]) (by kernel_rfl) (by simp) ?_
        refine AllReadyU.cons 0 (by kernel_rfl) (o := _) rfl (fun K hK => ?_) AllReadyU.nil
        try clear hb
        have hG := hH
        replace hG := S2o0 hG; (try dsimp only at hG); have q0 := hG.1; have q1 := hG.2.1; have q2 := hG.2.2.1; have q3 := hG.2.2.2.1; have q4 := hG.2.2.2.2.1; have q5 := hG.2.2.2.2.2.1; have q6 := hG.2.2.2.2.2.2
        go_simp
        (go_at_call 29; refine (HA1.out _ _ _ _ q1).mono ?_; rintro e wn ⟨rfl, hb⟩; (try (replace hT := keepVZ hb hT)); (try (replace hU := keepVZ hb hU)))
        refine hK.out _ _ ?hsr2_138 (fun hH2 => ?hrr2_138)
        case hsr2_138 => exact S2i0 (by have hG := hH; replace hG := S2o0 hG; (try dsimp only at hG); have q0 := hG.1; have q1 := hG.2.1; have q2 := hG.2.2.1; have q3 := hG.2.2.2.1; have q4 := hG.2.2.2.2.1; have q5 := hG.2.2.2.2.2.1; have q6 := hG.2.2.2.2.2.2; exact ⟨keepBd hb q0, keepSl hb q1, keepCell hb q2, keepCell hb q3, keepCell hb q4, keepCell hb q5, keepBelow hb q6⟩)
        clear hK K hH
        have hH := hH2
        clear hH2
        try simp only [Act.put, List.setIfInBounds_toArray, List.set_cons_zero, List.set_cons_succ]
        refine wpAnyU_ready (rs := [10]) (by kernel_rfl) (by simp) ?_
        refine AllReadyU.cons 0 (by kernel_rfl) (o := _) rfl (fun K hK => ?_) AllReadyU.nil
        try clear hb
        go_simp
        (go_at_call 31; refine (vsub_calls b.px b.py x y _).mono ?_; rintro e wn ⟨rfl, hb⟩; (try (replace hT := keepVZ hb hT)); (try (replace hU := keepVZ hb hU)))
        refine hK.out _ _ ?hsr2_139 (fun hH2 => ?hrr2_139)
        case hsr2_139 => exact S2i0 (by have hG := hH; replace hG := S2o0 hG; (try dsimp only at hG); have q0 := hG.1; have q1 := hG.2.1; have q2 := hG.2.2.1; have q3 := hG.2.2.2.1; have q4 := hG.2.2.2.2.1; have q5 := hG.2.2.2.2.2.1; have q6 := hG.2.2.2.2.2.2; exact ⟨keepBd hb q0, keepSl hb q1, keepCell hb q2, keepCell hb q3, keepCell hb q4, keepCell hb q5, keepBelow hb q6⟩)
        clear hK K hH
        have hH := hH2
        clear hH2
        try simp only [Act.put, List.setIfInBounds_toArray, List.set_cons_zero, List.set_cons_succ]
        refine wpAnyU_ready (rs := [11]) (by kernel_rfl) (by simp) ?_
        refine AllReadyU.cons 0 (by kernel_rfl) (o := _) rfl (fun K hK => ?_) AllReadyU.nil
        try clear hb
        have hG := hH
        replace hG := S2o0 hG; (try dsimp only at hG); have q0 := hG.1; have q1 := hG.2.1; have q2 := hG.2.2.1; have q3 := hG.2.2.2.1; have q4 := hG.2.2.2.2.1; have q5 := hG.2.2.2.2.2.1; have q6 := hG.2.2.2.2.2.2
        go_simp
        (go_at_call 29; refine (HA2.out _ _ _ _ q1).mono ?_; rintro e wn ⟨rfl, hb⟩; (try (replace hT := keepVZ hb hT)); (try (replace hU := keepVZ hb hU)))
        refine hK.out _ _ ?hsr2_140 (fun hH2 => ?hrr2_140)
        case hsr2_140 => exact S2i0 (by have hG := hH; replace hG := S2o0 hG; (try dsimp only at hG); have q0 := hG.1; have q1 := hG.2.1; have q2 := hG.2.2.1; have q3 := hG.2.2.2.1; have q4 := hG.2.2.2.2.1; have q5 := hG.2.2.2.2.2.1; have q6 := hG.2.2.2.2.2.2; exact ⟨keepBd hb q0, keepSl hb q1, keepCell hb q2, keepCell hb q3, keepCell hb q4, keepCell hb q5, keepBelow hb q6⟩)
        clear hK K hH
        have hH := hH2
        clear hH2
        try simp only [Act.put, List.setIfInBounds_toArray, List.set_cons_zero, List.set_cons_succ]
        refine wpAnyU_ready (rs := [14]) (by kernel_rfl) (by simp) ?_
        refine AllReadyU.cons 1 (by kernel_rfl) (o := _) rfl (fun K hK => ?_) AllReadyU.nil
        have hG := hH
        replace hG := S2o0 hG; (try dsimp only at hG); have q0 := hG.1; have q1 := hG.2.1; have q2 := hG.2.2.1; have q3 := hG.2.2.2.1; have q4 := hG.2.2.2.2.1; have q5 := hG.2.2.2.2.2.1; have q6 := hG.2.2.2.2.2.2
        have HT := hid hT
        have HU := hid hU
        obtain ⟨⟨z0, z1, y0, y1⟩, yf⟩ := hT
        obtain ⟨⟨u0, u1, v0, v1⟩, uf⟩ := hU
        go_simp
        refine hK.out _ _ ?hsr2_141 (fun hH2 => ?hrr2_141)
        case hsr2_141 => exact S2i1
        clear hK K hH
        have hH := hH2
        clear hH2
        try simp only [Act.put, List.setIfInBounds_toArray, List.set_cons_zero, List.set_cons_succ]
        refine wpAnyU_ready (rs := [15]) (by kernel_rfl) (by simp) ?_
        refine AllReadyU.cons 1 (by kernel_rfl) (o := _) rfl (fun K hK => ?_) AllReadyU.nil
        go_simp
        refine hK.out _ _ ?hsr2_142 (fun hH2 => ?hrr2_142)
        case hsr2_142 => exact S2i1
        clear hK K hH
        have hH := hH2
        clear hH2
        try simp only [Act.put, List.setIfInBounds_toArray, List.set_cons_zero, List.set_cons_succ]
        refine wpAnyU_done (by kernel_rfl) ?_ _ _
        refine NoPanic.normal ?_
        go_wp2_with fail
        go_meet
        exact spins_end hgb (by omega) (by omega) (by omega) hw0 q0 q4 q5 q6 HT.out HU.out
      exact AllReadyU.nil
    refine AllReadyU.cons 0 (by kernel_rfl) (o := _) rfl (fun K hK => ?_) ?_
    · try clear hb
      have hG := hH
      replace hG := S2o0 hG; (try dsimp only at hG); have q0 := hG.1; have q1 := hG.2.1; have q2 := hG.2.2.1; have q3 := hG.2.2.2.1; have q4 := hG.2.2.2.2.1; have q5 := hG.2.2.2.2.2.1; have q6 := hG.2.2.2.2.2.2
      go_simp
      refine hK.out _ _ ?hsr2_143 (fun hH2 => ?hrr2_143)
      case hsr2_143 => exact S2i0 (by have hG := hH; replace hG := S2o0 hG; (try dsimp only at hG); have q0 := hG.1; have q1 := hG.2.1; have q2 := hG.2.2.1; have q3 := hG.2.2.2.1; have q4 := hG.2.2.2.2.1; have q5 := hG.2.2.2.2.2.1; have q6 := hG.2.2.2.2.2.2; exact ⟨q0.alloc _, Sl.alloc q1 _, keepCell ((Below.refl _ _).alloc (Nat.le_refl _) _) q2, keepCell ((Below.refl _ _).alloc (Nat.le_refl _) _) q3, keepCell ((Below.refl _ _).alloc (Nat.le_refl _) _) q4, keepCell ((Below.refl _ _).alloc (Nat.le_refl _) _) q5, q6.alloc q6.size _⟩)
      clear hK K hH
      have hH := hH2
      clear hH2
      try simp only [Act.put, List.setIfInBounds_toArray, List.set_cons_zero, List.set_cons_succ]
      have hU : VZ ((wy.alloc (.cells #[.int .i64 0, .int .i64 0] 34)).drew) wy.heap.size := VZ.drew (VZ.here _ _ _ _)
      obtain ⟨gU, hgU⟩ : ∃ g, g = wy.heap.size := ⟨_, rfl⟩
      have hlU : g9 < gU := by rw [hgU]; exact lt_of_cell q4
      rw [← hgU] at hU
      try rw [← hgU]
      clear hgU q0 q1 q2 q3 q4 q5 q6
      generalize (wy.alloc (.cells #[.int .i64 0, .int .i64 0] 34)).drew = wx13 at *
      refine wpAnyU_ready (rs := [4, 12]) (by kernel_rfl) (by simp) ?_
      refine AllReadyU.cons 0 (by kernel_rfl) (o := _) rfl (fun K hK => ?_) ?_
      · try clear hb
        go_simp
        (go_at_call 30; refine (vadd_calls b.px b.py x y _).mono ?_; rintro e wn ⟨rfl, hb⟩; (try (replace hT := keepVZ hb hT)); (try (replace hU := keepVZ hb hU)))
        refine hK.out _ _ ?hsr2_144 (fun hH2 => ?hrr2_144)
        case hsr2_144 => exact S2i0 (by have hG := hH; replace hG := S2o0 hG; (try dsimp only at hG); have q0 := hG.1; have q1 := hG.2.1; have q2 := hG.2.2.1; have q3 := hG.2.2.2.1; have q4 := hG.2.2.2.2.1; have q5 := hG.2.2.2.2.2.1; have q6 := hG.2.2.2.2.2.2; exact ⟨keepBd hb q0, keepSl hb q1, keepCell hb q2, keepCell hb q3, keepCell hb q4, keepCell hb q5, keepBelow hb q6⟩)
        clear hK K hH
        have hH := hH2
        clear hH2
        try simp only [Act.put, List.setIfInBounds_toArray, List.set_cons_zero, List.set_cons_succ]
        refine wpAnyU_ready (rs := [5, 12]) (by kernel_rfl) (by simp) ?_
        refine AllReadyU.cons 0 (by kernel_rfl) (o := _) rfl (fun K hK => ?_) ?_
        · try clear hb
          have hG := hH
          replace hG := S2o0 hG; (try dsimp only at hG); have q0 := hG.1; have q1 := hG.2.1; have q2 := hG.2.2.1; have q3 := hG.2.2.2.1; have q4 := hG.2.2.2.2.1; have q5 := hG.2.2.2.2.2.1; have q6 := hG.2.2.2.2.2.2
          go_simp
          (go_at_call 29; refine (HA1.out _ _ _ _ q1).mono ?_; rintro e wn ⟨rfl, hb⟩; (try (replace hT := keepVZ hb hT)); (try (replace hU := keepVZ hb hU)))
          refine hK.out _ _ ?hsr2_145 (fun hH2 => ?hrr2_145)
          case hsr2_145 => exact S2i0 (by have hG := hH; replace hG := S2o0 hG; (try dsimp only at hG); have q0 := hG.1; have q1 := hG.2.1; have q2 := hG.2.2.1; have q3 := hG.2.2.2.1; have q4 := hG.2.2.2.2.1; have q5 := hG.2.2.2.2.2.1; have q6 := hG.2.2.2.2.2.2; exact ⟨keepBd hb q0, keepSl hb q1, keepCell hb q2, keepCell hb q3, keepCell hb q4, keepCell hb q5, keepBelow hb q6⟩)
          clear hK K hH
          have hH := hH2
          clear hH2
          try simp only [Act.put, List.setIfInBounds_toArray, List.set_cons_zero, List.set_cons_succ]
          refine wpAnyU_ready (rs := [10, 12]) (by kernel_rfl) (by simp) ?_
          refine AllReadyU.cons 0 (by kernel_rfl) (o := _) rfl (fun K hK => ?_) ?_
          · try clear hb
            go_simp
            (go_at_call 31; refine (vsub_calls b.px b.py x y _).mono ?_; rintro e wn ⟨rfl, hb⟩; (try (replace hT := keepVZ hb hT)); (try (replace hU := keepVZ hb hU)))
            refine hK.out _ _ ?hsr2_146 (fun hH2 => ?hrr2_146)
            case hsr2_146 => exact S2i0 (by have hG := hH; replace hG := S2o0 hG; (try dsimp only at hG); have q0 := hG.1; have q1 := hG.2.1; have q2 := hG.2.2.1; have q3 := hG.2.2.2.1; have q4 := hG.2.2.2.2.1; have q5 := hG.2.2.2.2.2.1; have q6 := hG.2.2.2.2.2.2; exact ⟨keepBd hb q0, keepSl hb q1, keepCell hb q2, keepCell hb q3, keepCell hb q4, keepCell hb q5, keepBelow hb q6⟩)
            clear hK K hH
            have hH := hH2
            clear hH2
            try simp only [Act.put, List.setIfInBounds_toArray, List.set_cons_zero, List.set_cons_succ]
            refine wpAnyU_ready (rs := [11, 12]) (by kernel_rfl) (by simp) ?_
            refine AllReadyU.cons 0 (by kernel_rfl) (o := _) rfl (fun K hK => ?_) ?_
            · try clear hb
              have hG := hH
              replace hG := S2o0 hG; (try dsimp only at hG); have q0 := hG.1; have q1 := hG.2.1; have q2 := hG.2.2.1; have q3 := hG.2.2.2.1; have q4 := hG.2.2.2.2.1; have q5 := hG.2.2.2.2.2.1; have q6 := hG.2.2.2.2.2.2
              go_simp
              (go_at_call 29; refine (HA2.out _ _ _ _ q1).mono ?_; rintro e wn ⟨rfl, hb⟩; (try (replace hT := keepVZ hb hT)); (try (replace hU := keepVZ hb hU)))
              refine hK.out _ _ ?hsr2_147 (fun hH2 => ?hrr2_147)
              case hsr2_147 => exact S2i0 (by have hG := hH; replace hG := S2o0 hG; (try dsimp only at hG); have q0 := hG.1; have q1 := hG.2.1; have q2 := hG.2.2.1; have q3 := hG.2.2.2.1; have q4 := hG.2.2.2.2.1; have q5 := hG.2.2.2.2.2.1; have q6 := hG.2.2.2.2.2.2; exact ⟨keepBd hb q0, keepSl hb q1, keepCell hb q2, keepCell hb q3, keepCell hb q4, keepCell hb q5, keepBelow hb q6⟩)
              clear hK K hH
              have hH := hH2
              clear hH2
              try simp only [Act.put, List.setIfInBounds_toArray, List.set_cons_zero, List.set_cons_succ]
              refine wpAnyU_ready (rs := [12]) (by kernel_rfl) (by simp) ?_
              refine AllReadyU.cons 0 (by kernel_rfl) (o := _) rfl (fun K hK => ?_) AllReadyU.nil
              try clear hb
              have hG := hH
              replace hG := S2o0 hG; (try dsimp only at hG); have q0 := hG.1; have q1 := hG.2.1; have q2 := hG.2.2.1; have q3 := hG.2.2.2.1; have q4 := hG.2.2.2.2.1; have q5 := hG.2.2.2.2.2.1; have q6 := hG.2.2.2.2.2.2
              have hZU := VZ.lt hU
              go_simp
              refine hK.out _ _ ?hsr2_148 (fun hH2 => ?hrr2_148)
              case hsr2_148 => exact S2i0 (by have hG := hH; replace hG := S2o0 hG; (try dsimp only at hG); have q0 := hG.1; have q1 := hG.2.1; have q2 := hG.2.2.1; have q3 := hG.2.2.2.1; have q4 := hG.2.2.2.2.1; have q5 := hG.2.2.2.2.2.1; have q6 := hG.2.2.2.2.2.2; exact ⟨q0.alloc _, Sl.alloc q1 _, keepCell ((Below.refl _ _).alloc (Nat.le_refl _) _) q2, keepCell ((Below.refl _ _).alloc (Nat.le_refl _) _) q3, keepCell ((Below.refl _ _).alloc (Nat.le_refl _) _) q4, keepCell ((Below.refl _ _).alloc (Nat.le_refl _) _) q5, q6.alloc q6.size _⟩)
              clear hK K hH
              have hH := hH2
              clear hH2
              try simp only [Act.put, List.setIfInBounds_toArray, List.set_cons_zero, List.set_cons_succ]
              have hT : VZ (wn.alloc (.cells #[.int .i64 0, .int .i64 0] 34)) wn.heap.size := VZ.here _ _ _ _
              replace hU := keepVZ ((Below.refl _ _).alloc (Nat.le_refl _) (.cells #[.int .i64 0, .int .i64 0] 34)) hU
              obtain ⟨gT, hgT⟩ : ∃ g, g = wn.heap.size := ⟨_, rfl⟩
              have hlT : g9 < gT ∧ gU < gT := by rw [hgT]; exact ⟨lt_of_cell q4, hZU⟩
              rw [← hgT] at hT
              try rw [← hgT]
              clear hgT q0 q1 q2 q3 q4 q5 q6
              generalize wn.alloc (.cells #[.int .i64 0, .int .i64 0] 34) = wx12 at *
              refine wpAnyU_ready (rs := [14]) (by kernel_rfl) (by simp) ?_
              refine AllReadyU.cons 1 (by kernel_rfl) (o := _) rfl (fun K hK => ?_) AllReadyU.nil
              have hG := hH
              replace hG := S2o0 hG; (try dsimp only at hG); have q0 := hG.1; have q1 := hG.2.1; have q2 := hG.2.2.1; have q3 := hG.2.2.2.1; have q4 := hG.2.2.2.2.1; have q5 := hG.2.2.2.2.2.1; have q6 := hG.2.2.2.2.2.2
              have HT := hid hT
              have HU := hid hU
              obtain ⟨⟨z0, z1, y0, y1⟩, yf⟩ := hT
              obtain ⟨⟨u0, u1, v0, v1⟩, uf⟩ := hU
              go_simp
              refine hK.out _ _ ?hsr2_149 (fun hH2 => ?hrr2_149)
              case hsr2_149 => exact S2i1
              clear hK K hH
              have hH := hH2
              clear hH2
              try simp only [Act.put, List.setIfInBounds_toArray, List.set_cons_zero, List.set_cons_succ]
              refine wpAnyU_ready (rs := [15]) (by kernel_rfl) (by simp) ?_
              refine AllReadyU.cons 1 (by kernel_rfl) (o := _) rfl (fun K hK => ?_) AllReadyU.nil
              go_simp
              refine hK.out _ _ ?hsr2_150 (fun hH2 => ?hrr2_150)
              case hsr2_150 => exact S2i1
              clear hK K hH
              have hH := hH2
              clear hH2
              try simp only [Act.put, List.setIfInBounds_toArray, List.set_cons_zero, List.set_cons_succ]
              refine wpAnyU_done (by kernel_rfl) ?_ _ _
              refine NoPanic.normal ?_
              go_wp2_with fail
              go_meet
              exact spins_end hgb (by omega) (by omega) (by omega) hw0 q0 q4 q5 q6 HT.out HU.out
            refine AllReadyU.cons 0 (by kernel_rfl) (o := _) rfl (fun K hK => ?_) ?_
            · try clear hb
              have hG := hH
              replace hG := S2o0 hG; (try dsimp only at hG); have q0 := hG.1; have q1 := hG.2.1; have q2 := hG.2.2.1; have q3 := hG.2.2.2.1; have q4 := hG.2.2.2.2.1; have q5 := hG.2.2.2.2.2.1; have q6 := hG.2.2.2.2.2.2
              have hZU := VZ.lt hU
              go_simp
              refine hK.out _ _ ?hsr2_151 (fun hH2 => ?hrr2_151)
              case hsr2_151 => exact S2i0 (by have hG := hH; replace hG := S2o0 hG; (try dsimp only at hG); have q0 := hG.1; have q1 := hG.2.1; have q2 := hG.2.2.1; have q3 := hG.2.2.2.1; have q4 := hG.2.2.2.2.1; have q5 := hG.2.2.2.2.2.1; have q6 := hG.2.2.2.2.2.2; exact ⟨q0.alloc _, Sl.alloc q1 _, keepCell ((Below.refl _ _).alloc (Nat.le_refl _) _) q2, keepCell ((Below.refl _ _).alloc (Nat.le_refl _) _) q3, keepCell ((Below.refl _ _).alloc (Nat.le_refl _) _) q4, keepCell ((Below.refl _ _).alloc (Nat.le_refl _) _) q5, q6.alloc q6.size _⟩)
              clear hK K hH
              have hH := hH2
              clear hH2
              try simp only [Act.put, List.setIfInBounds_toArray, List.set_cons_zero, List.set_cons_succ]
              have hT : VZ (wn.alloc (.cells #[.int .i64 0, .int .i64 0] 34)) wn.heap.size := VZ.here _ _ _ _
              replace hU := keepVZ ((Below.refl _ _).alloc (Nat.le_refl _) (.cells #[.int .i64 0, .int .i64 0] 34)) hU
              obtain ⟨gT, hgT⟩ : ∃ g, g = wn.heap.size := ⟨_, rfl⟩
              have hlT : g9 < gT ∧ gU < gT := by rw [hgT]; exact ⟨lt_of_cell q4, hZU⟩
              rw [← hgT] at hT
              try rw [← hgT]
              clear hgT q0 q1 q2 q3 q4 q5 q6
              generalize wn.alloc (.cells #[.int .i64 0, .int .i64 0] 34) = wx12 at *
              refine wpAnyU_ready (rs := [11]) (by kernel_rfl) (by simp) ?_
              refine AllReadyU.cons 0 (by kernel_rfl) (o := _) rfl (fun K hK => ?_) AllReadyU.nil
              try clear hb
              have hG := hH
              replace hG := S2o0 hG; (try dsimp only at hG); have q0 := hG.1; have q1 := hG.2.1; have q2 := hG.2.2.1; have q3 := hG.2.2.2.1; have q4 := hG.2.2.2.2.1; have q5 := hG.2.2.2.2.2.1; have q6 := hG.2.2.2.2.2.2
              go_simp
              (go_at_call 29; refine (HA2.out _ _ _ _ q1).mono ?_; rintro e wn ⟨rfl, hb⟩; (try (replace hT := keepVZ hb hT)); (try (replace hU := keepVZ hb hU)))
              refine hK.out _ _ ?hsr2_152 (fun hH2 => ?hrr2_152)
              case hsr2_152 => exact S2i0 (by have hG := hH; replace hG := S2o0 hG; (try dsimp only at hG); have q0 := hG.1; have q1 := hG.2.1; have q2 := hG.2.2.1; have q3 := hG.2.2.2.1; have q4 := hG.2.2.2.2.1; have q5 := hG.2.2.2.2.2.1; have q6 := hG.2.2.2.2.2.2; exact ⟨keepBd hb q0, keepSl hb q1, keepCell hb q2, keepCell hb q3, keepCell hb q4, keepCell hb q5, keepBelow hb q6⟩)
              clear hK K hH
              have hH := hH2
              clear hH2
              try simp only [Act.put, List.setIfInBounds_toArray, List.set_cons_zero, List.set_cons_succ]
              refine wpAnyU_ready (rs := [14]) (by kernel_rfl) (by simp) ?_
              refine AllReadyU.cons 1 (by kernel_rfl) (o := _) rfl (fun K hK => ?_) AllReadyU.nil
              have hG := hH
              replace hG := S2o0 hG; (try dsimp only at hG); have q0 := hG.1; have q1 := hG.2.1; have q2 := hG.2.2.1; have q3 := hG.2.2.2.1; have q4 := hG.2.2.2.2.1; have q5 := hG.2.2.2.2.2.1; have q6 := hG.2.2.2.2.2.2
              have HT := hid hT
              have HU := hid hU
              obtain ⟨⟨z0, z1, y0, y1⟩, yf⟩ := hT
              obtain ⟨⟨u0, u1, v0, v1⟩, uf⟩ := hU
              go_simp
              refine hK.out _ _ ?hsr2_153 (fun hH2 => ?hrr2_153)
              case hsr2_153 => exact S2i1
              clear hK K hH
              have hH := hH2
              clear hH2
              try simp only [Act.put, List.setIfInBounds_toArray, List.set_cons_zero, List.set_cons_succ]
              refine wpAnyU_ready (rs := [15]) (by kernel_rfl) (by simp) ?_
              refine AllReadyU.cons 1 (by kernel_rfl) (o := _) rfl (fun K hK => ?_) AllReadyU.nil
              go_simp
              refine hK.out _ _ ?hsr2_154 (fun hH2 => ?hrr2_154)
              case hsr2_154 => exact S2i1
              clear hK K hH
              have hH := hH2
              clear hH2
              try simp only [Act.put, List.setIfInBounds_toArray, List.set_cons_zero, List.set_cons_succ]
              refine wpAnyU_done (by kernel_rfl) ?_ _ _
              refine NoPanic.normal ?_
              go_wp2_with fail
              go_meet
              exact spins_end hgb (by omega) (by omega) (by omega) hw0 q0 q4 q5 q6 HT.out HU.out
            exact AllReadyU.nil
          refine AllReadyU.cons 0 (by kernel_rfl) (o := _) rfl (fun K hK => ?_) ?_
          · try clear hb
            have hG := hH
            replace hG := S2o0 hG; (try dsimp only at hG); have q0 := hG.1; have q1 := hG.2.1; have q2 := hG.2.2.1; have q3 := hG.2.2.2.1; have q4 := hG.2.2.2.2.1; have q5 := hG.2.2.2.2.2.1; have q6 := hG.2.2.2.2.2.2
            have hZU := VZ.lt hU
            go_simp
            refine hK.out _ _ ?hsr2_155 (fun hH2 => ?hrr2_155)
            case hsr2_155 => exact S2i0 (by have hG := hH; replace hG := S2o0 hG; (try dsimp only at hG); have q0 := hG.1; have q1 := hG.2.1; have q2 := hG.2.2.1; have q3 := hG.2.2.2.1; have q4 := hG.2.2.2.2.1; have q5 := hG.2.2.2.2.2.1; have q6 := hG.2.2.2.2.2.2; exact ⟨q0.alloc _, Sl.alloc q1 _, keepCell ((Below.refl _ _).alloc (Nat.le_refl _) _) q2, keepCell ((Below.refl _ _).alloc (Nat.le_refl _) _) q3, keepCell ((Below.refl _ _).alloc (Nat.le_refl _) _) q4, keepCell ((Below.refl _ _).alloc (Nat.le_refl _) _) q5, q6.alloc q6.size _⟩)
            clear hK K hH
            have hH := hH2
            clear hH2
            try simp only [Act.put, List.setIfInBounds_toArray, List.set_cons_zero, List.set_cons_succ]
            have hT : VZ (wn.alloc (.cells #[.int .i64 0, .int .i64 0] 34)) wn.heap.size := VZ.here _ _ _ _
            replace hU := keepVZ ((Below.refl _ _).alloc (Nat.le_refl _) (.cells #[.int .i64 0, .int .i64 0] 34)) hU
            obtain ⟨gT, hgT⟩ : ∃ g, g = wn.heap.size := ⟨_, rfl⟩
            have hlT : g9 < gT ∧ gU < gT := by rw [hgT]; exact ⟨lt_of_cell q4, hZU⟩
            rw [← hgT] at hT
            try rw [← hgT]
            clear hgT q0 q1 q2 q3 q4 q5 q6
            generalize wn.alloc (.cells #[.int .i64 0, .int .i64 0] 34) = wx12 at *
            refine wpAnyU_ready (rs := [10]) (by kernel_rfl) (by simp) ?_
            refine AllReadyU.cons 0 (by kernel_rfl) (o := _) rfl (fun K hK => ?_) AllReadyU.nil
            try clear hb
            go_simp
            (go_at_call 31; refine (vsub_calls b.px b.py x y _).mono ?_; rintro e wn ⟨rfl, hb⟩; (try (replace hT := keepVZ hb hT)); (try (replace hU := keepVZ hb hU)))
            refine hK.out _ _ ?hsr2_156 (fun hH2 => ?hrr2_156)
            case hsr2_156 => exact S2i0 (by have hG := hH; replace hG := S2o0 hG; (try dsimp only at hG); have q0 := hG.1; have q1 := hG.2.1; have q2 := hG.2.2.1; have q3 := hG.2.2.2.1; have q4 := hG.2.2.2.2.1; have q5 := hG.2.2.2.2.2.1; have q6 := hG.2.2.2.2.2.2; exact ⟨keepBd hb q0, keepSl hb q1, keepCell hb q2, keepCell hb q3, keepCell hb q4, keepCell hb q5, keepBelow hb q6⟩)
            clear hK K hH
            have hH := hH2
            clear hH2
            try simp only [Act.put, List.setIfInBounds_toArray, List.set_cons_zero, List.set_cons_succ]
            refine wpAnyU_ready (rs := [11]) (by kernel_rfl) (by simp) ?_
            refine AllReadyU.cons 0 (by kernel_rfl) (o := _) rfl (fun K hK => ?_) AllReadyU.nil
            try clear hb
            have hG := hH
            replace hG := S2o0 hG; (try dsimp only at hG); have q0 := hG.1; have q1 := hG.2.1; have q2 := hG.2.2.1; have q3 := hG.2.2.2.1; have q4 := hG.2.2.2.2.1; have q5 := hG.2.2.2.2.2.1; have q6 := hG.2.2.2.2.2.2
            go_simp
            (go_at_call 29; refine (HA2.out _ _ _ _ q1).mono ?_; rintro e wn ⟨rfl, hb⟩; (try (replace hT := keepVZ hb hT)); (try (replace hU := keepVZ hb hU)))
            refine hK.out _ _ ?hsr2_157 (fun hH2 => ?hrr2_157)
            case hsr2_157 => exact S2i0 (by have hG := hH; replace hG := S2o0 hG; (try dsimp only at hG); have q0 := hG.1; have q1 := hG.2.1; have q2 := hG.2.2.1; have q3 := hG.2.2.2.1; have q4 := hG.2.2.2.2.1; have q5 := hG.2.2.2.2.2.1; have q6 := hG.2.2.2.2.2.2; exact ⟨keepBd hb q0, keepSl hb q1, keepCell hb q2, keepCell hb q3, keepCell hb q4, keepCell hb q5, keepBelow hb q6⟩)
            clear hK K hH
            have hH := hH2
            clear hH2
            try simp only [Act.put, List.setIfInBounds_toArray, List.set_cons_zero, List.set_cons_succ]
            refine wpAnyU_ready (rs := [14]) (by kernel_rfl) (by simp) ?_
            refine AllReadyU.cons 1 (by kernel_rfl) (o := _) rfl (fun K hK => ?_) AllReadyU.nil
            have hG := hH
            replace hG := S2o0 hG; (try dsimp only at hG); have q0 := hG.1; have q1 := hG.2.1; have q2 := hG.2.2.1; have q3 := hG.2.2.2.1; have q4 := hG.2.2.2.2.1; have q5 := hG.2.2.2.2.2.1; have q6 := hG.2.2.2.2.2.2
            have HT := hid hT
            have HU := hid hU
            obtain ⟨⟨z0, z1, y0, y1⟩, yf⟩ := hT
            obtain ⟨⟨u0, u1, v0, v1⟩, uf⟩ := hU
            go_simp
            refine hK.out _ _ ?hsr2_158 (fun hH2 => ?hrr2_158)
            case hsr2_158 => exact S2i1
            clear hK K hH
            have hH := hH2
            clear hH2
            try simp only [Act.put, List.setIfInBounds_toArray, List.set_cons_zero, List.set_cons_succ]
            refine wpAnyU_ready (rs := [15]) (by kernel_rfl) (by simp) ?_
            refine AllReadyU.cons 1 (by kernel_rfl) (o := _) rfl (fun K hK => ?_) AllReadyU.nil
            go_simp
            refine hK.out _ _ ?hsr2_159 (fun hH2 => ?hrr2_159)
            case hsr2_159 => exact S2i1
            clear hK K hH
            have hH := hH2
            clear hH2
            try simp only [Act.put, List.setIfInBounds_toArray, List.set_cons_zero, List.set_cons_succ]
            refine wpAnyU_done (by kernel_rfl) ?_ _ _
            refine NoPanic.normal ?_
            go_wp2_with fail
            go_meet
            exact spins_end hgb (by omega) (by omega) (by omega) hw0 q0 q4 q5 q6 HT.out HU.out
          exact AllReadyU.nil
        refine AllReadyU.cons 0 (by kernel_rfl) (o := _) rfl (fun K hK => ?_) ?_
        · try clear hb
          have hG := hH
          replace hG := S2o0 hG; (try dsimp only at hG); have q0 := hG.1; have q1 := hG.2.1; have q2 := hG.2.2.1; have q3 := hG.2.2.2.1; have q4 := hG.2.2.2.2.1; have q5 := hG.2.2.2.2.2.1; have q6 := hG.2.2.2.2.2.2
          have hZU := VZ.lt hU
          go_simp
          refine hK.out _ _ ?hsr2_160 (fun hH2 => ?hrr2_160)
          case hsr2_160 => exact S2i0 (by have hG := hH; replace hG := S2o0 hG; (try dsimp only at hG); have q0 := hG.1; have q1 := hG.2.1; have q2 := hG.2.2.1; have q3 := hG.2.2.2.1; have q4 := hG.2.2.2.2.1; have q5 := hG.2.2.2.2.2.1; have q6 := hG.2.2.2.2.2.2; exact ⟨q0.alloc _, Sl.alloc q1 _, keepCell ((Below.refl _ _).alloc (Nat.le_refl _) _) q2, keepCell ((Below.refl _ _).alloc (Nat.le_refl _) _) q3, keepCell ((Below.refl _ _).alloc (Nat.le_refl _) _) q4, keepCell ((Below.refl _ _).alloc (Nat.le_refl _) _) q5, q6.alloc q6.size _⟩)
          clear hK K hH
          have hH := hH2
          clear hH2
          try simp only [Act.put, List.setIfInBounds_toArray, List.set_cons_zero, List.set_cons_succ]
          have hT : VZ (wn.alloc (.cells #[.int .i64 0, .int .i64 0] 34)) wn.heap.size := VZ.here _ _ _ _
          replace hU := keepVZ ((Below.refl _ _).alloc (Nat.le_refl _) (.cells #[.int .i64 0, .int .i64 0] 34)) hU
          obtain ⟨gT, hgT⟩ : ∃ g, g = wn.heap.size := ⟨_, rfl⟩
          have hlT : g9 < gT ∧ gU < gT := by rw [hgT]; exact ⟨lt_of_cell q4, hZU⟩
          rw [← hgT] at hT
          try rw [← hgT]
          clear hgT q0 q1 q2 q3 q4 q5 q6
          generalize wn.alloc (.cells #[.int .i64 0, .int .i64 0] 34) = wx12 at *
          refine wpAnyU_ready (rs := [5]) (by kernel_rfl) (by simp) ?_
          refine AllReadyU.cons 0 (by kernel_rfl) (o := _) rfl (fun K hK => ?_) AllReadyU.nil
          try clear hb
          have hG := hH
          replace hG := S2o0 hG; (try dsimp only at hG); have q0 := hG.1; have q1 := hG.2.1; have q2 := hG.2.2.1; have q3 := hG.2.2.2.1; have q4 := hG.2.2.2.2.1; have q5 := hG.2.2.2.2.2.1; have q6 := hG.2.2.2.2.2.2
          go_simp
          (go_at_call 29; refine (HA1.out _ _ _ _ q1).mono ?_; rintro e wn ⟨rfl, hb⟩; (try (replace hT := keepVZ hb hT)); (try (replace hU := keepVZ hb hU)))
          refine hK.out _ _ ?hsr2_161 (fun hH2 => ?hrr2_161)
          case hsr2_161 => exact S2i0 (by have hG := hH; replace hG := S2o0 hG; (try dsimp only at hG); have q0 := hG.1; have q1 := hG.2.1; have q2 := hG.2.2.1; have q3 := hG.2.2.2.1; have q4 := hG.2.2.2.2.1; have q5 := hG.2.2.2.2.2.1; have q6 := hG.2.2.2.2.2.2; exact ⟨keepBd hb q0, keepSl hb q1, keepCell hb q2, keepCell hb q3, keepCell hb q4, keepCell hb q5, keepBelow hb q6⟩)
          clear hK K hH
          have hH := hH2
          clear hH2
          try simp only [Act.put, List.setIfInBounds_toArray, List.set_cons_zero, List.set_cons_succ]
          refine wpAnyU_ready (rs := [10]) (by kernel_rfl) (by simp) ?_
          refine AllReadyU.cons 0 (by kernel_rfl) (o := _) rfl (fun K hK => ?_) AllReadyU.nil
          try clear hb
          go_simp
          (go_at_call 31; refine (vsub_calls b.px b.py x y _).mono ?_; rintro e wn ⟨rfl, hb⟩; (try (replace hT := keepVZ hb hT)); (try (replace hU := keepVZ hb hU)))
          refine hK.out _ _ ?hsr2_162 (fun hH2 => ?hrr2_162)
          case hsr2_162 => exact S2i0 (by have hG := hH; replace hG := S2o0 hG; (try dsimp only at hG); have q0 := hG.1; have q1 := hG.2.1; have q2 := hG.2.2.1; have q3 := hG.2.2.2.1; have q4 := hG.2.2.2.2.1; have q5 := hG.2.2.2.2.2.1; have q6 := hG.2.2.2.2.2.2; exact ⟨keepBd hb q0, keepSl hb q1, keepCell hb q2, keepCell hb q3, keepCell hb q4, keepCell hb q5, keepBelow hb q6⟩)
          clear hK K hH
          have hH := hH2
          clear hH2
          try simp only [Act.put, List.setIfInBounds_toArray, List.set_cons_zero, List.set_cons_succ]
          refine wpAnyU_ready (rs := [11]) (by kernel_rfl) (by simp) ?_
          refine AllReadyU.cons 0 (by kernel_rfl) (o := _) rfl (fun K hK => ?_) AllReadyU.nil
          try clear hb
          have hG := hH
          replace hG := S2o0 hG; (try dsimp only at hG); have q0 := hG.1; have q1 := hG.2.1; have q2 := hG.2.2.1; have q3 := hG.2.2.2.1; have q4 := hG.2.2.2.2.1; have q5 := hG.2.2.2.2.2.1; have q6 := hG.2.2.2.2.2.2
          go_simp
          (go_at_call 29; refine (HA2.out _ _ _ _ q1).mono ?_; rintro e wn ⟨rfl, hb⟩; (try (replace hT := keepVZ hb hT)); (try (replace hU := keepVZ hb hU)))
          refine hK.out _ _ ?hsr2_163 (fun hH2 => ?hrr2_163)
          case hsr2_163 => exact S2i0 (by have hG := hH; replace hG := S2o0 hG; (try dsimp only at hG); have q0 := hG.1; have q1 := hG.2.1; have q2 := hG.2.2.1; have q3 := hG.2.2.2.1; have q4 := hG.2.2.2.2.1; have q5 := hG.2.2.2.2.2.1; have q6 := hG.2.2.2.2.2.2; exact ⟨keepBd hb q0, keepSl hb q1, keepCell hb q2, keepCell hb q3, keepCell hb q4, keepCell hb q5, keepBelow hb q6⟩)
          clear hK K hH
          have hH := hH2
          clear hH2
          try simp only [Act.put, List.setIfInBounds_toArray, List.set_cons_zero, List.set_cons_succ]
          refine wpAnyU_ready (rs := [14]) (by kernel_rfl) (by simp) ?_
          refine AllReadyU.cons 1 (by kernel_rfl) (o := _) rfl (fun K hK => ?_) AllReadyU.nil
          have hG := hH
          replace hG := S2o0 hG; (try dsimp only at hG); have q0 := hG.1; have q1 := hG.2.1; have q2 := hG.2.2.1; have q3 := hG.2.2.2.1; have q4 := hG.2.2.2.2.1; have q5 := hG.2.2.2.2.2.1; have q6 := hG.2.2.2.2.2.2
          have HT := hid hT
          have HU := hid hU
          obtain ⟨⟨z0, z1, y0, y1⟩, yf⟩ := hT
          obtain ⟨⟨u0, u1, v0, v1⟩, uf⟩ := hU
          go_simp
          refine hK.out _ _ ?hsr2_164 (fun hH2 => ?hrr2_164)
          case hsr2_164 => exact S2i1
          clear hK K hH
          have hH := hH2
          clear hH2
          try simp only [Act.put, List.setIfInBounds_toArray, List.set_cons_zero, List.set_cons_succ]
          refine wpAnyU_ready (rs := [15]) (by kernel_rfl) (by simp) ?_
          refine AllReadyU.cons 1 (by kernel_rfl) (o := _) rfl (fun K hK => ?_) AllReadyU.nil
          go_simp
          refine hK.out _ _ ?hsr2_165 (fun hH2 => ?hrr2_165)
          case hsr2_165 => exact S2i1
          clear hK K hH
          have hH := hH2
          clear hH2
          try simp only [Act.put, List.setIfInBounds_toArray, List.set_cons_zero, List.set_cons_succ]
          refine wpAnyU_done (by kernel_rfl) ?_ _ _
          refine NoPanic.normal ?_
          go_wp2_with fail
          go_meet
          exact spins_end hgb (by omega) (by omega) (by omega) hw0 q0 q4 q5 q6 HT.out HU.out
        exact AllReadyU.nil
      refine AllReadyU.cons 0 (by kernel_rfl) (o := _) rfl (fun K hK => ?_) ?_
      · try clear hb
        have hG := hH
        replace hG := S2o0 hG; (try dsimp only at hG); have q0 := hG.1; have q1 := hG.2.1; have q2 := hG.2.2.1; have q3 := hG.2.2.2.1; have q4 := hG.2.2.2.2.1; have q5 := hG.2.2.2.2.2.1; have q6 := hG.2.2.2.2.2.2
        have hZU := VZ.lt hU
        go_simp
        refine hK.out _ _ ?hsr2_166 (fun hH2 => ?hrr2_166)
        case hsr2_166 => exact S2i0 (by have hG := hH; replace hG := S2o0 hG; (try dsimp only at hG); have q0 := hG.1; have q1 := hG.2.1; have q2 := hG.2.2.1; have q3 := hG.2.2.2.1; have q4 := hG.2.2.2.2.1; have q5 := hG.2.2.2.2.2.1; have q6 := hG.2.2.2.2.2.2; exact ⟨q0.alloc _, Sl.alloc q1 _, keepCell ((Below.refl _ _).alloc (Nat.le_refl _) _) q2, keepCell ((Below.refl _ _).alloc (Nat.le_refl _) _) q3, keepCell ((Below.refl _ _).alloc (Nat.le_refl _) _) q4, keepCell ((Below.refl _ _).alloc (Nat.le_refl _) _) q5, q6.alloc q6.size _⟩)
        clear hK K hH
        have hH := hH2
        clear hH2
        try simp only [Act.put, List.setIfInBounds_toArray, List.set_cons_zero, List.set_cons_succ]
        have hT : VZ (wx13.alloc (.cells #[.int .i64 0, .int .i64 0] 34)) wx13.heap.size := VZ.here _ _ _ _
        replace hU := keepVZ ((Below.refl _ _).alloc (Nat.le_refl _) (.cells #[.int .i64 0, .int .i64 0] 34)) hU
        obtain ⟨gT, hgT⟩ : ∃ g, g = wx13.heap.size := ⟨_, rfl⟩
        have hlT : g9 < gT ∧ gU < gT := by rw [hgT]; exact ⟨lt_of_cell q4, hZU⟩
        rw [← hgT] at hT
        try rw [← hgT]
        clear hgT q0 q1 q2 q3 q4 q5 q6
        generalize wx13.alloc (.cells #[.int .i64 0, .int .i64 0] 34) = wx12 at *
        refine wpAnyU_ready (rs := [4]) (by kernel_rfl) (by simp) ?_
        refine AllReadyU.cons 0 (by kernel_rfl) (o := _) rfl (fun K hK => ?_) AllReadyU.nil
        try clear hb
        go_simp
        (go_at_call 30; refine (vadd_calls b.px b.py x y _).mono ?_; rintro e wn ⟨rfl, hb⟩; (try (replace hT := keepVZ hb hT)); (try (replace hU := keepVZ hb hU)))
        refine hK.out _ _ ?hsr2_167 (fun hH2 => ?hrr2_167)
        case hsr2_167 => exact S2i0 (by have hG := hH; replace hG := S2o0 hG; (try dsimp only at hG); have q0 := hG.1; have q1 := hG.2.1; have q2 := hG.2.2.1; have q3 := hG.2.2.2.1; have q4 := hG.2.2.2.2.1; have q5 := hG.2.2.2.2.2.1; have q6 := hG.2.2.2.2.2.2; exact ⟨keepBd hb q0, keepSl hb q1, keepCell hb q2, keepCell hb q3, keepCell hb q4, keepCell hb q5, keepBelow hb q6⟩)
        clear hK K hH
        have hH := hH2
        clear hH2
        try simp only [Act.put, List.setIfInBounds_toArray, List.set_cons_zero, List.set_cons_succ]
        refine wpAnyU_ready (rs := [5]) (by kernel_rfl) (by simp) ?_
        refine AllReadyU.cons 0 (by kernel_rfl) (o := _) rfl (fun K hK => ?_) AllReadyU.nil
        try clear hb
        have hG := hH
        replace hG := S2o0 hG; (try dsimp only at hG); have q0 := hG.1; have q1 := hG.2.1; have q2 := hG.2.2.1; have q3 := hG.2.2.2.1; have q4 := hG.2.2.2.2.1; have q5 := hG.2.2.2.2.2.1; have q6 := hG.2.2.2.2.2.2
        go_simp
        (go_at_call 29; refine (HA1.out _ _ _ _ q1).mono ?_; rintro e wn ⟨rfl, hb⟩; (try (replace hT := keepVZ hb hT)); (try (replace hU := keepVZ hb hU)))
        refine hK.out _ _ ?hsr2_168 (fun hH2 => ?hrr2_168)
        case hsr2_168 => exact S2i0 (by have hG := hH; replace hG := S2o0 hG; (try dsimp only at hG); have q0 := hG.1; have q1 := hG.2.1; have q2 := hG.2.2.1; have q3 := hG.2.2.2.1; have q4 := hG.2.2.2.2.1; have q5 := hG.2.2.2.2.2.1; have q6 := hG.2.2.2.2.2.2; exact ⟨keepBd hb q0, keepSl hb q1, keepCell hb q2, keepCell hb q3, keepCell hb q4, keepCell hb q5, keepBelow hb q6⟩)
        clear hK K hH
        have hH := hH2
        clear hH2
        try simp only [Act.put, List.setIfInBounds_toArray, List.set_cons_zero, List.set_cons_succ]
        refine wpAnyU_ready (rs := [10]) (by kernel_rfl) (by simp) ?_
        refine AllReadyU.cons 0 (by kernel_rfl) (o := _) rfl (fun K hK => ?_) AllReadyU.nil
        try clear hb
        go_simp
        (go_at_call 31; refine (vsub_calls b.px b.py x y _).mono ?_; rintro e wn ⟨rfl, hb⟩; (try (replace hT := keepVZ hb hT)); (try (replace hU := keepVZ hb hU)))
        refine hK.out _ _ ?hsr2_169 (fun hH2 => ?hrr2_169)
        case hsr2_169 => exact S2i0 (by have hG := hH; replace hG := S2o0 hG; (try dsimp only at hG); have q0 := hG.1; have q1 := hG.2.1; have q2 := hG.2.2.1; have q3 := hG.2.2.2.1; have q4 := hG.2.2.2.2.1; have q5 := hG.2.2.2.2.2.1; have q6 := hG.2.2.2.2.2.2; exact ⟨keepBd hb q0, keepSl hb q1, keepCell hb q2, keepCell hb q3, keepCell hb q4, keepCell hb q5, keepBelow hb q6⟩)
        clear hK K hH
        have hH := hH2
        clear hH2
        try simp only [Act.put, List.setIfInBounds_toArray, List.set_cons_zero, List.set_cons_succ]
        refine wpAnyU_ready (rs := [11]) (by kernel_rfl) (by simp) ?_
        refine AllReadyU.cons 0 (by kernel_rfl) (o := _) rfl (fun K hK => ?_) AllReadyU.nil
        try clear hb
        have hG := hH
        replace hG := S2o0 hG; (try dsimp only at hG); have q0 := hG.1; have q1 := hG.2.1; have q2 := hG.2.2.1; have q3 := hG.2.2.2.1; have q4 := hG.2.2.2.2.1; have q5 := hG.2.2.2.2.2.1; have q6 := hG.2.2.2.2.2.2
        go_simp
        (go_at_call 29; refine (HA2.out _ _ _ _ q1).mono ?_; rintro e wn ⟨rfl, hb⟩; (try (replace hT := keepVZ hb hT)); (try (replace hU := keepVZ hb hU)))
        refine hK.out _ _ ?hsr2_170 (fun hH2 => ?hrr2_170)
        case hsr2_170 => exact S2i0 (by have hG := hH; replace hG := S2o0 hG; (try dsimp only at hG); have q0 := hG.1; have q1 := hG.2.1; have q2 := hG.2.2.1; have q3 := hG.2.2.2.1; have q4 := hG.2.2.2.2.1; have q5 := hG.2.2.2.2.2.1; have q6 := hG.2.2.2.2.2.2; exact ⟨keepBd hb q0, keepSl hb q1, keepCell hb q2, keepCell hb q3, keepCell hb q4, keepCell hb q5, keepBelow hb q6⟩)
        clear hK K hH
        have hH := hH2
        clear hH2
        try simp only [Act.put, List.setIfInBounds_toArray, List.set_cons_zero, List.set_cons_succ]
        refine wpAnyU_ready (rs := [14]) (by kernel_rfl) (by simp) ?_
        refine AllReadyU.cons 1 (by kernel_rfl) (o := _) rfl (fun K hK => ?_) AllReadyU.nil
        have hG := hH
        replace hG := S2o0 hG; (try dsimp only at hG); have q0 := hG.1; have q1 := hG.2.1; have q2 := hG.2.2.1; have q3 := hG.2.2.2.1; have q4 := hG.2.2.2.2.1; have q5 := hG.2.2.2.2.2.1; have q6 := hG.2.2.2.2.2.2
        have HT := hid hT
        have HU := hid hU
        obtain ⟨⟨z0, z1, y0, y1⟩, yf⟩ := hT
        obtain ⟨⟨u0, u1, v0, v1⟩, uf⟩ := hU
        go_simp
        refine hK.out _ _ ?hsr2_171 (fun hH2 => ?hrr2_171)
        case hsr2_171 => exact S2i1
        clear hK K hH
        have hH := hH2
        clear hH2
        try simp only [Act.put, List.setIfInBounds_toArray, List.set_cons_zero, List.set_cons_succ]
        refine wpAnyU_ready (rs := [15]) (by kernel_rfl) (by simp) ?_
        refine AllReadyU.cons 1 (by kernel_rfl) (o := _) rfl (fun K hK => ?_) AllReadyU.nil
        go_simp
        refine hK.out _ _ ?hsr2_172 (fun hH2 => ?hrr2_172)
        case hsr2_172 => exact S2i1
        clear hK K hH
        have hH := hH2
        clear hH2
        try simp only [Act.put, List.setIfInBounds_toArray, List.set_cons_zero, List.set_cons_succ]
        refine wpAnyU_done (by kernel_rfl) ?_ _ _
        refine NoPanic.normal ?_
        go_wp2_with fail
        go_meet
        exact spins_end hgb (by omega) (by omega) (by omega) hw0 q0 q4 q5 q6 HT.out HU.out
      exact AllReadyU.nil
    exact AllReadyU.nil
  case rest =>
    obtain ⟨gT, gU, rfl, rfl, a0, a1, d0, d1, hk, i0, i1, hBz⟩ := hcut
    have HK9 := hid hk
    clear hk HK HS hB j0 j1 e0 e1 HA1 HA2
    go_wp2_with fail
    refine (pushes_calls _).mono ?_
    rintro e w5 ⟨rfl, hb5⟩
    obtain ⟨k0, k1, k2, k3, k4, k5, k6, k7, k8, k9, k10, k11, k12, _⟩ := keepBd hb5 HK9.out
    replace a0 := keepCell hb5 a0
    replace a1 := keepCell hb5 a1
    replace d0 := keepCell hb5 d0
    replace d1 := keepCell hb5 d1
    replace i0 := keepCell hb5 i0
    replace i1 := keepCell hb5 i1
    have hB5 := keepBelow hb5 hBz
    obtain ⟨⟨m1, m2⟩, ⟨m3, m4⟩, ⟨m5, m6⟩, ⟨m7, m8⟩, ⟨m9, m10⟩, ⟨m11, m12⟩, ⟨m13, m14⟩, m15, m16⟩ := HD.out
    obtain ⟨d, hd⟩ : ∃ d, d = v1 + u1 - 2 * b.vx := ⟨_, rfl⟩
    obtain ⟨e, he⟩ : ∃ e, e = v2 + u2 - 2 * b.vy := ⟨_, rfl⟩
    have wr1 : IntKind.i64.wrap (v1 + u1) = v1 + u1 := IntWalk.i64_in _ (by omega)
    have wr2 : IntKind.i64.wrap (v2 + u2) = v2 + u2 := IntWalk.i64_in _ (by omega)
    have wr3 : IntKind.i64.wrap (2 * b.vx) = 2 * b.vx := IntWalk.i64_in _ (by omega)
    have wr4 : IntKind.i64.wrap (2 * b.vy) = 2 * b.vy := IntWalk.i64_in _ (by omega)
    have wr5 : IntKind.i64.wrap (v1 + u1 - 2 * b.vx) = d := by rw [← hd]; exact IntWalk.i64_in _ (by omega)
    have wr6 : IntKind.i64.wrap (v2 + u2 - 2 * b.vy) = e := by rw [← he]; exact IntWalk.i64_in _ (by omega)
    have wr7 : IntKind.i64.wrap (-d) = -d := IntWalk.i64_in _ (by omega)
    have wr8 : IntKind.i64.wrap (-e) = -e := IntWalk.i64_in _ (by omega)
    obtain ⟨m, hm⟩ : ∃ m, m = max (max (max d (-d)) e) (-e) := ⟨_, rfl⟩
    have hmm : m ≤ 2 := by omega
    have hrun : ∀ (ts : Array TypeId) (t : TypeId) (w : World), (Builtin.max_ ts t #[.int .i64 d, .int .i64 (-d), .int .i64 e, .int .i64 (-e)]).run Try.prog w = .ok (.int .i64 m) w := fun ts t w => by rw [hm]; exact run_max4 ts t _ _ _ _ w
    clear hb5 HK9 HD m1 m2 m3 m4 m5 m6 m7 m8 m9 m10 m11 m12 m13 m14 m15 m16 hd he hm
    go_wp2_with fail
    go_quiet (fail)
    go_wp2
    go_returns
    exact ret_bool (by simp [hmm]) (below_drewN' hB5 _)

end Go.Proofs.Ytmkmmblgmldilaa
