/- Parts of a proof: contracts and laws. -/
import Derived.Test.YtiaoandbdgdecaaPT12
namespace Go.Proofs.Ytiaoandbdgdecaa
section
set_option linter.unusedVariables false
set_option linter.unusedSimpArgs false
open Go.RowKit
theorem outBx {w w1 : World} {b : Nat} (k : Below w.heap.size w w1) (x y u v : Int) : Out (fun i => i = b) w (setBx w1 b x y u v) := by
  unfold setBx
  exact ((((Out.below (D := fun i => i = b) k).setCell (p := ⟨b, 0, none⟩) (.inr rfl) _).setCell (p := ⟨b, 1, none⟩) (.inr rfl) _).setCell (p := ⟨b, 2, none⟩) (.inr rfl) _).setCell (p := ⟨b, 3, none⟩) (.inr rfl) _
def RetFit (n : Nat) (r : NR) (w : World) (e : Ending) (w' : World) : Prop := e = .returned (.tuple #[]) ∧ NdC w' n r ∧ Out (fun i => i = n) w w'
set_option maxRecDepth 100000 in
set_option maxHeartbeats 4000000 in
theorem fit0_calls (n a c : Nat) (x1 x2 x3 x4 id ht p1 p2 p3 p4 ida ha q1 q2 q3 q4 idc hc j1 j2 j3 j4 : Int) (up upa k0a k1a upc k0c k1c : Option Addr) (hj : joinB ((p1, p2), (p3, p4)) ((q1, q2), (q3, q4)) = ((j1, j2), (j3, j4)))
    (h1 : 0 ≤ ha ∧ ha ≤ 1000000) (h2 : 0 ≤ hc ∧ hc ≤ 1000000) (w : World) (hN : NdC w n ⟨((x1, x2), (x3, x4)), id, ht, up, some ⟨a, 0, none⟩, some ⟨c, 0, none⟩⟩) (hA : NdC w a ⟨((p1, p2), (p3, p4)), ida, ha, upa, k0a, k1a⟩) (hC : NdC w c ⟨((q1, q2), (q3, q4)), idc, hc, upc, k0c, k1c⟩) : Calls Try.prog 47 #[.pointer (some ⟨n, 0, none⟩)] w (RetFit n ⟨((j1, j2), (j3, j4)), id, 1 + max ha hc, up, some ⟨a, 0, none⟩, some ⟨c, 0, none⟩⟩ w) := by
  have HJ : Hid (∀ w, Calls Try.prog 45 #[bxV ((p1, p2), (p3, p4)), bxV ((q1, q2), (q3, q4))] w (Ret (bxV ((j1, j2), (j3, j4))) w)) := fun w => by have := sjoin_calls p1 p2 p3 p4 q1 q2 q3 q4 w; rwa [hj] at this
  obtain ⟨M, hM⟩ : ∃ M, M = max ha hc := ⟨_, rfl⟩
  have hmx : ∀ (ts : Array TypeId) (t : TypeId) (w : World), (Builtin.max_ ts t #[.int .i64 ha, .int .i64 hc]).run Try.prog w = .ok (.int .i64 M) w := fun ts t w => by
    rw [run_max_int2, hM]
    congr 2
    omega
  have hMw : IntKind.i64.wrap (1 + M) = 1 + M := IntWalk.i64_in _ (by omega)
  rw [← hM]
  clear hj hM h1 h2
  have hnl := hN.lt
  go_enter Try.func47, Try.ntmps47
  go_upto_region 0 with fail
  refine wp_region_noPanic ?_
  refine wp_region_U (S := (S2 (fun w' => NdC w' n ⟨((x1, x2), (x3, x4)), id, ht, up, some ⟨a, 0, none⟩, some ⟨c, 0, none⟩⟩))) (T := (fun _ => 0)) (by kernel_rfl) (S2i0 (keepNd (Below.refl _ _).drew hN)) (fun hH => ?_)
  have hWr1 : Weaker (S2 (fun w' => NdC w' n ⟨((x1, x2), (x3, x4)), id, ht, up, some ⟨a, 0, none⟩, some ⟨c, 0, none⟩⟩)) := weaker2 _
  refine Ut 0 4 11 0 0 (v := ?vr1_1) rfl hWr1 hH ?yr1_1 ?_
  case yr1_1 => (intro w' hSw; clear hSw; go_simp; try (with_reducible rfl))
  simp only [sB, sC]
  refine Ut 1 5 10 0 0 (v := ?vr1_2) rfl hWr1 hH ?yr1_2 ?_
  case yr1_2 => (intro w' hSw; clear hSw; go_simp; try (with_reducible rfl))
  simp only [sB, sC]
  refine Ut 2 6 9 0 0 (v := ?vr1_3) rfl hWr1 hH ?yr1_3 ?_
  case yr1_3 => (intro w' hSw; clear hSw; go_simp; try (with_reducible rfl))
  simp only [sB, sC]
  refine Ut 3 7 8 0 0 (v := ?vr1_4) rfl hWr1 hH ?yr1_4 ?_
  case yr1_4 => (intro w' hSw; clear hSw; go_simp; try (with_reducible rfl))
  simp only [sB, sC]
  refine Ut 4 8 7 0 0 (v := ?vr1_5) rfl hWr1 hH ?yr1_5 ?_
  case yr1_5 => (intro w' hSw; replace hSw := S2o0 hSw; (try dsimp only at hSw); have q0 := hSw; obtain ⟨n0_0, n0_1, n0_2, n0_3, n0_4, n0_5, n0_6, n0_7, n0_8⟩ := NdC.cells q0; go_simp; try (with_reducible rfl))
  simp only [sB, sC]
  refine Ut 5 9 6 0 0 (v := ?vr1_6) rfl hWr1 hH ?yr1_6 ?_
  case yr1_6 => (intro w' hSw; clear hSw; go_simp; try (with_reducible rfl))
  simp only [sB, sC]
  refine Ut 6 10 5 0 0 (v := ?vr1_7) rfl hWr1 hH ?yr1_7 ?_
  case yr1_7 => (intro w' hSw; clear hSw; go_simp; try (with_reducible rfl))
  simp only [sB, sC]
  refine Ut 7 11 4 0 0 (v := ?vr1_8) rfl hWr1 hH ?yr1_8 ?_
  case yr1_8 => (intro w' hSw; clear hSw; go_simp; try (with_reducible rfl))
  simp only [sB, sC]
  refine Ut 8 12 3 0 0 (v := ?vr1_9) rfl hWr1 hH ?yr1_9 ?_
  case yr1_9 => (intro w' hSw; clear hSw; go_simp; try (with_reducible rfl))
  simp only [sB, sC]
  refine Ut 9 13 2 0 0 (v := ?vr1_10) rfl hWr1 hH ?yr1_10 ?_
  case yr1_10 => (intro w' hSw; replace hSw := S2o0 hSw; (try dsimp only at hSw); have q0 := hSw; obtain ⟨n0_0, n0_1, n0_2, n0_3, n0_4, n0_5, n0_6, n0_7, n0_8⟩ := NdC.cells q0; go_simp; try (with_reducible rfl))
  simp only [sB, sC]
  refine Ut 10 2 1 0 0 (v := ?vr1_11) rfl hWr1 hH ?yr1_11 ?_
  case yr1_11 => (intro w' hSw; clear hSw; go_simp; try (with_reducible rfl))
  simp only [sB, sC]
  refine Ut 11 3 0 0 0 (v := ?vr1_12) rfl hWr1 hH ?yr1_12 ?_
  case yr1_12 => (intro w' hSw; clear hSw; go_simp; try (with_reducible rfl))
  simp only [sB, sC]
  refine wpAnyU_done (by kernel_rfl) ?_ _ _
  refine NoPanic.normal ?_
  clear hWr1 hH
  go_upto_region 1 with fail
  refine wp_region_noPanic ?_
  refine wp_region_U (S := (S2 (fun w' => NdC w' n ⟨((x1, x2), (x3, x4)), id, ht, up, some ⟨a, 0, none⟩, some ⟨c, 0, none⟩⟩ ∧ NdC w' a ⟨((p1, p2), (p3, p4)), ida, ha, upa, k0a, k1a⟩ ∧ NdC w' c ⟨((q1, q2), (q3, q4)), idc, hc, upc, k0c, k1c⟩ ∧ Below w.heap.size w w'))) (T := (fun j => [0, 0, 0, 0, 0, 0, 0, 0, 0, 0, 0, 0, 0, 0, 0, 0, 0, 0, 0, 0, 0, 0, 0, 1].getD j 0)) (by kernel_rfl) (S2i0 ⟨hN.same rfl, hA.same rfl, hC.same rfl, (Below.refl _ _).drew.drew⟩) (fun hH => ?_)
  have hWr2 : Weaker (S2 (fun w' => NdC w' n ⟨((x1, x2), (x3, x4)), id, ht, up, some ⟨a, 0, none⟩, some ⟨c, 0, none⟩⟩ ∧ NdC w' a ⟨((p1, p2), (p3, p4)), ida, ha, upa, k0a, k1a⟩ ∧ NdC w' c ⟨((q1, q2), (q3, q4)), idc, hc, upc, k0c, k1c⟩ ∧ Below w.heap.size w w')) := weaker2 _
  refine Ut 0 14 26 0 0 (v := ?vr2_1) rfl hWr2 hH ?yr2_1 ?_
  case yr2_1 => (intro w' hSw; clear hSw; go_simp; try (with_reducible rfl))
  simp only [sB, sC]
  refine Ut 2 16 25 0 0 (v := ?vr2_2) rfl hWr2 hH ?yr2_2 ?_
  case yr2_2 => (intro w' hSw; clear hSw; go_simp; try (with_reducible rfl))
  simp only [sB, sC]
  refine Ut 3 17 24 0 0 (v := ?vr2_3) rfl hWr2 hH ?yr2_3 ?_
  case yr2_3 => (intro w' hSw; clear hSw; go_simp; try (with_reducible rfl))
  simp only [sB, sC]
  refine Ut 4 18 23 0 0 (v := ?vr2_4) rfl hWr2 hH ?yr2_4 ?_
  case yr2_4 => (intro w' hSw; clear hSw; go_simp; try (with_reducible rfl))
  simp only [sB, sC]
  refine Ut 5 19 22 0 0 (v := ?vr2_5) rfl hWr2 hH ?yr2_5 ?_
  case yr2_5 => (intro w' hSw; replace hSw := S2o0 hSw; (try dsimp only at hSw); have q0 := hSw.1; have q1 := hSw.2.1; have q2 := hSw.2.2.1; have q3 := hSw.2.2.2; obtain ⟨n0_0, n0_1, n0_2, n0_3, n0_4, n0_5, n0_6, n0_7, n0_8⟩ := NdC.cells q0; obtain ⟨m1_0, m1_1, m1_2, m1_3, m1_4, m1_5, m1_6, m1_7, m1_8⟩ := NdC.cells q1; obtain ⟨o2_0, o2_1, o2_2, o2_3, o2_4, o2_5, o2_6, o2_7, o2_8⟩ := NdC.cells q2; go_simp; try (with_reducible rfl))
  simp only [sB, sC]
  refine Ut 6 20 21 0 0 (v := ?vr2_6) rfl hWr2 hH ?yr2_6 ?_
  case yr2_6 => (intro w' hSw; clear hSw; go_simp; try (with_reducible rfl))
  simp only [sB, sC]
  refine Ut 7 21 20 0 0 (v := ?vr2_7) rfl hWr2 hH ?yr2_7 ?_
  case yr2_7 => (intro w' hSw; clear hSw; go_simp; try (with_reducible rfl))
  simp only [sB, sC]
  refine Ut 8 22 19 0 0 (v := ?vr2_8) rfl hWr2 hH ?yr2_8 ?_
  case yr2_8 => (intro w' hSw; clear hSw; go_simp; try (with_reducible rfl))
  simp only [sB, sC]
  refine Ut 9 23 18 0 0 (v := ?vr2_9) rfl hWr2 hH ?yr2_9 ?_
  case yr2_9 => (intro w' hSw; replace hSw := S2o0 hSw; (try dsimp only at hSw); have q0 := hSw.1; have q1 := hSw.2.1; have q2 := hSw.2.2.1; have q3 := hSw.2.2.2; obtain ⟨n0_0, n0_1, n0_2, n0_3, n0_4, n0_5, n0_6, n0_7, n0_8⟩ := NdC.cells q0; obtain ⟨m1_0, m1_1, m1_2, m1_3, m1_4, m1_5, m1_6, m1_7, m1_8⟩ := NdC.cells q1; obtain ⟨o2_0, o2_1, o2_2, o2_3, o2_4, o2_5, o2_6, o2_7, o2_8⟩ := NdC.cells q2; go_simp; try (with_reducible rfl))
  simp only [sB, sC]
  refine Ut 11 25 17 0 0 (v := ?vr2_10) rfl hWr2 hH ?yr2_10 ?_
  case yr2_10 => (intro w' hSw; clear hSw; go_simp; try (with_reducible rfl))
  simp only [sB, sC]
  refine Ut 12 26 16 0 0 (v := ?vr2_11) rfl hWr2 hH ?yr2_11 ?_
  case yr2_11 => (intro w' hSw; clear hSw; go_simp; try (with_reducible rfl))
  simp only [sB, sC]
  refine Ut 13 27 15 0 0 (v := ?vr2_12) rfl hWr2 hH ?yr2_12 ?_
  case yr2_12 => (intro w' hSw; clear hSw; go_simp; try (with_reducible rfl))
  simp only [sB, sC]
  refine Ut 14 28 14 0 0 (v := ?vr2_13) rfl hWr2 hH ?yr2_13 ?_
  case yr2_13 => (intro w' hSw; replace hSw := S2o0 hSw; (try dsimp only at hSw); have q0 := hSw.1; have q1 := hSw.2.1; have q2 := hSw.2.2.1; have q3 := hSw.2.2.2; obtain ⟨n0_0, n0_1, n0_2, n0_3, n0_4, n0_5, n0_6, n0_7, n0_8⟩ := NdC.cells q0; obtain ⟨m1_0, m1_1, m1_2, m1_3, m1_4, m1_5, m1_6, m1_7, m1_8⟩ := NdC.cells q1; obtain ⟨o2_0, o2_1, o2_2, o2_3, o2_4, o2_5, o2_6, o2_7, o2_8⟩ := NdC.cells q2; go_simp; try (with_reducible rfl))
  simp only [sB, sC]
  refine Ut 15 29 13 0 0 (v := ?vr2_14) rfl hWr2 hH ?yr2_14 ?_
  case yr2_14 => (intro w' hSw; clear hSw; go_simp; try (with_reducible rfl))
  simp only [sB, sC]
  refine Ut 16 30 12 0 0 (v := ?vr2_15) rfl hWr2 hH ?yr2_15 ?_
  case yr2_15 => (intro w' hSw; clear hSw; go_simp; try (with_reducible rfl))
  simp only [sB, sC]
  refine Ut 17 31 11 0 0 (v := ?vr2_16) rfl hWr2 hH ?yr2_16 ?_
  case yr2_16 => (intro w' hSw; clear hSw; go_simp; try (with_reducible rfl))
  simp only [sB, sC]
  refine Ut 18 32 10 0 0 (v := ?vr2_17) rfl hWr2 hH ?yr2_17 ?_
  case yr2_17 => (intro w' hSw; replace hSw := S2o0 hSw; (try dsimp only at hSw); have q0 := hSw.1; have q1 := hSw.2.1; have q2 := hSw.2.2.1; have q3 := hSw.2.2.2; obtain ⟨n0_0, n0_1, n0_2, n0_3, n0_4, n0_5, n0_6, n0_7, n0_8⟩ := NdC.cells q0; obtain ⟨m1_0, m1_1, m1_2, m1_3, m1_4, m1_5, m1_6, m1_7, m1_8⟩ := NdC.cells q1; obtain ⟨o2_0, o2_1, o2_2, o2_3, o2_4, o2_5, o2_6, o2_7, o2_8⟩ := NdC.cells q2; go_simp; try (with_reducible rfl))
  simp only [sB, sC]
  refine Ut 1 15 9 1 0 (v := ?vr2_18) rfl hWr2 hH ?yr2_18 ?_
  case yr2_18 => (intro w' hSw; clear hSw; go_simp; try (with_reducible rfl))
  simp only [sB, sC]
  refine Ut 19 33 8 1 0 (v := ?vr2_19) rfl hWr2 hH ?yr2_19 ?_
  case yr2_19 => (intro w' hSw; clear hSw; go_simp; try (with_reducible rfl))
  simp only [sB, sC]
  refine Ut 20 34 7 1 0 (v := ?vr2_20) rfl hWr2 hH ?yr2_20 ?_
  case yr2_20 => (intro w' hSw; clear hSw; go_simp; try (with_reducible rfl))
  simp only [sB, sC]
  refine U1 10 0 rfl (fun K hK => ?_)
  try clear hb
  go_simp
  (go_at_call 45; refine (HJ.out _).mono ?_; rintro e wn ⟨rfl, hb⟩)
  refine hK.out _ _ (S2i0 (by have hG := hH; replace hG := S2o0 hG; (try dsimp only at hG); have q0 := hG.1; have q1 := hG.2.1; have q2 := hG.2.2.1; have q3 := hG.2.2.2; exact ⟨keepNd hb q0, keepNd hb q1, keepNd hb q2, keepBelow hb q3⟩)) (fun hH2 => ?_)
  clear hK K hH
  rename _ => hH
  try simp only [Act.put, sA, sB, sC]
  refine Ut 21 35 5 0 0 (v := ?vr2_22) rfl hWr2 hH ?yr2_22 ?_
  case yr2_22 => (intro w' hSw; clear hSw; go_simp; try (with_reducible rfl))
  simp only [sB, sC]
  refine Ut 22 36 4 0 0 (v := ?vr2_23) rfl hWr2 hH ?yr2_23 ?_
  case yr2_23 => (intro w' hSw; clear hSw; go_simp; try (with_reducible rfl))
  simp only [sB, sC]
  refine U1 23 1 rfl (fun K hK => ?_)
  try clear hb
  have hG := hH
  replace hG := S2o0 hG; (try dsimp only at hG); have q0 := hG.1; have q1 := hG.2.1; have q2 := hG.2.2.1; have q3 := hG.2.2.2
  obtain ⟨z0, z1, z2, z3, -⟩ := NdC.cells q0
  have zf := q0.free
  have hgl := q0.lt
  have hN2 := NdC.setBx q0 j1 j2 j3 j4
  have hO2 := outBx (b := n) q3 j1 j2 j3 j4
  go_simp
  refine hK.out _ _ (S2i1) (fun hH2 => ?_)
  clear hK K hH
  rename _ => hH
  try simp only [Act.put, sA, sB, sC]
  obtain ⟨wy, hwy⟩ : ∃ w', w' = setBx wn n j1 j2 j3 j4 := ⟨_, rfl⟩
  rw [← hwy] at hN2 hO2
  unfold setBx at hwy
  try rw [← hwy] at hH
  rw [← hwy]
  clear hwy z0 z1 z2 z3 zf hgl q0 q1 q2 q3
  refine Ut 24 37 2 1 1 (v := ?vr2_25) rfl hWr2 hH ?yr2_25 ?_
  case yr2_25 => (intro w' hSw; clear hSw; go_simp; try (with_reducible rfl))
  simp only [sB, sC]
  refine Ut 25 38 1 1 1 (v := ?vr2_26) rfl hWr2 hH ?yr2_26 ?_
  case yr2_26 => (intro w' hSw; clear hSw; go_simp; try (with_reducible rfl))
  simp only [sB, sC]
  refine U1 26 1 rfl (fun K hK => ?_)
  obtain ⟨-, -, -, -, -, z5, -⟩ := NdC.cells hN2
  have zf := hN2.free
  have hgl := hN2.lt
  have hN3 := hN2.setHt (1 + M)
  have hO3 := hO2.setCell (p := ⟨n, 5, none⟩) (.inr rfl) (.int .i64 (1 + M))
  go_simp
  refine hK.out _ _ (S2i1) (fun hH2 => ?_)
  clear hK K hH
  rename _ => hH
  try simp only [Act.put, sA, sB, sC]
  clear z5 zf hgl hN2 hO2
  refine wpAnyU_done (by kernel_rfl) ?_ _ _
  refine NoPanic.normal ?_
  go_wp2_with fail
  go_returns
  exact ⟨rfl, hN3, hO3⟩
end
end Go.Proofs.Ytiaoandbdgdecaa
