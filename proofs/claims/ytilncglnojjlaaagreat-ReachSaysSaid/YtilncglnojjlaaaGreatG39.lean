/- Parts of a proof: contracts and laws. -/
import Derived.Test.YtilncglnojjlaaaGreatG11
import Derived.Test.YtilncglnojjlaaaGreatG04
namespace Go.Proofs.YtilncglnojjlaaaGreat
section
set_option linter.unusedVariables false
set_option linter.unusedSimpArgs false
open Go.RowKit
def stepB (b : Bd) (s : Int) : Bd :=
 if b.mass = 0 ∨ b.asleep = true then b
 else { b with px := clampN (b.px + mulF s b.vx) 58982400, py := clampN (b.py + mulF s b.vy) 58982400, ang := (b.ang + mulF s b.spin) % 65536 }
set_option maxRecDepth 100000 in
set_option maxHeartbeats 4000000 in
theorem rstep_calls (b : Bd) (A : Option Addr) (n c : Nat) (s : Int) (hpx : -58982400 ≤ b.px ∧ b.px ≤ 58982400) (hpy : -58982400 ≤ b.py ∧ b.py ≤ 58982400) (hang : 0 ≤ b.ang ∧ b.ang ≤ 65535) (w : World) : Calls Tryz.prog 29 #[bodyV b A n c, .int .i64 s] w (Ret (bodyV (stepB b s) A n c) w) := by
 obtain ⟨W, hW⟩ : ∃ W, W = (w.alloc (.cells #[.int .i64 b.px, .int .i64 b.py, .int .i64 b.vx, .int .i64 b.vy, .int .i64 b.ang, .int .i64 b.spin, .int .i64 b.mass, .int .i64 b.iner, .int .i64 b.bounce, .int .i64 b.rub, .slice A n c, .bool b.asleep, .int .i64 b.calm] 26)).alloc (.cells #[.int .i64 0, .int .i64 0, .int .i64 0, .int .i64 0, .int .i64 0, .int .i64 0, .int .i64 0, .int .i64 0, .int .i64 0, .int .i64 0, .slice none 0 0, .bool false, .int .i64 0] 26) := ⟨_, rfl⟩
 have HK0 := hid (show BdAt W w.heap.size b A n c by rw [hW]; exact (BdAt.here w b A n c _).alloc _)
 have HZ0 := hid (show BdZ W (w.heap.size + 1) by rw [hW]; have := BdAt.here (w.alloc (.cells #[.int .i64 b.px, .int .i64 b.py, .int .i64 b.vx, .int .i64 b.vy, .int .i64 b.ang, .int .i64 b.spin, .int .i64 b.mass, .int .i64 b.iner, .int .i64 b.bounce, .int .i64 b.rub, .slice A n c, .bool b.asleep, .int .i64 b.calm] 26)) bd0 none 0 0 26; simp only [bd0] at this; exact BdZ.of (by simpa using this))
 have hB0 : Below w.heap.size w W := by rw [hW]; go_grown
 obtain ⟨k0, k1, k2, k3, k4, k5, k6, k7, k8, k9, k10, k11, k12, kf⟩ := HK0.out
 go_enter Tryz.func29, Tryz.ntmps29
 go_wp2_with fail
 rw [← hW]
 clear hW k0 k1 k2 k3 k4 k5 k6 k7 k8 k9 k10 k11 k12 kf
 refine (rfree_calls b A n c _).mono ?_
 rintro e w1 ⟨rfl, hb1⟩
 have HK1 := hid (keepBd hb1 HK0.out)
 have HZ1 := hid (keepBdZ hb1 HZ0.out)
 have hB1 := keepBelow hb1 hB0
 clear hb1 HK0 HZ0 hB0
 cases hfr : freeB b with
 | false =>
  have hz := freeB_false hfr
  obtain ⟨k0, k1, k2, k3, k4, k5, k6, k7, k8, k9, k10, k11, k12, kf⟩ := HK1.out
  obtain ⟨z0, z1, z2, z3, z4, z5, z6, z7, z8, z9, z10, z11, z12, y0, y1, y2, y3, y4, y5, y6, y7, y8, y9, y10, y11, y12⟩ := HZ1.out.all
  have yf := HZ1.out.free
  have hl1 := HZ1.out.lt
  have hz8 := HK1.out.lt
  clear HK1 HZ1
  have HR : Hid (stepB b s = b) := by show _ = _; unfold stepB; rw [if_pos hz]
  go_wp2
  refine bodyPost_ret (v := bodyV b A n c) (by simp [results, Tryz.results29, go_sem, y0, y1, y2, y3, y4, y5, y6, y7, y8, y9, y10, y11, y12, hl1]) rfl ⟨by rw [HR.out], by go_grown⟩
 | true =>
  have HC := hid (freeB_true hfr)
  clear hfr
  go_wp2_with fail
  obtain ⟨m1, hm1⟩ : ∃ m, m = mulF s b.vx := ⟨_, rfl⟩
  obtain ⟨m2, hm2⟩ : ∃ m, m = mulF s b.vy := ⟨_, rfl⟩
  have bm1 := mulF_bd s b.vx
  have bm2 := mulF_bd s b.vy
  rw [← hm1] at bm1
  rw [← hm2] at bm2
  have u1 : IntKind.i64.wrap (b.px + m1) = b.px + m1 := IntWalk.i64_in _ (by omega)
  have u2 : IntKind.i64.wrap (b.py + m2) = b.py + m2 := IntWalk.i64_in _ (by omega)
  have HM1 : Hid (∀ w, Calls Tryz.prog 14 #[.int .i64 s, .int .i64 b.vx] w (Ret (.int .i64 m1) w)) := fun w => by rw [hm1]; exact fmul_calls s b.vx w
  have HM2 : Hid (∀ w, Calls Tryz.prog 14 #[.int .i64 s, .int .i64 b.vy] w (Ret (.int .i64 m2) w)) := fun w => by rw [hm2]; exact fmul_calls s b.vy w
  obtain ⟨x, hx⟩ : ∃ x, x = clampN (b.px + m1) 58982400 := ⟨_, rfl⟩
  obtain ⟨y, hy⟩ : ∃ y, y = clampN (b.py + m2) 58982400 := ⟨_, rfl⟩
  have HX : Hid (x = clampN (b.px + mulF s b.vx) 58982400) := by show _ = _; rw [hx, hm1]
  have HY : Hid (y = clampN (b.py + mulF s b.vy) 58982400) := by show _ = _; rw [hy, hm2]
  have HN1 : Hid (∀ w, Calls Tryz.prog 57 #[.int .i64 (b.px + m1), .int .i64 58982400] w (Ret (.int .i64 x) w)) := fun w => by rw [hx]; exact rnearest_calls _ _ (by omega) (by omega) w
  have HN2 : Hid (∀ w, Calls Tryz.prog 57 #[.int .i64 (b.py + m2), .int .i64 58982400] w (Ret (.int .i64 y) w)) := fun w => by rw [hy]; exact rnearest_calls _ _ (by omega) (by omega) w
  clear hm1 hm2 hx hy bm1 bm2
  refine wp_region_noPanic ?_
  refine wp_region_U (S := (S2 (fun w' => BdAt w' w.heap.size b A n c ∧ BdZ w' (w.heap.size + 1) ∧ Below w.heap.size w w'))) (T := (fun j => [0, 0, 0, 0, 0, 0, 0, 0, 0, 0, 0, 0, 0, 0, 0, 0, 0, 0, 0, 0, 0, 0, 1].getD j 0)) (by kernel_rfl) (S2i0 ⟨HK1.out.drew, HZ1.out.drew, hB1.drew⟩) (fun hH => ?_)
  have hWr1 : Weaker (S2 (fun w' => BdAt w' w.heap.size b A n c ∧ BdZ w' (w.heap.size + 1) ∧ Below w.heap.size w w')) := weaker2 _
  refine Ut 0 9 22 0 0 (v := ?vr1_1) rfl hWr1 hH ?hyr1_1 ?_
  case hyr1_1 => (intro w' hSw; clear hSw; go_simp; try (with_reducible rfl))
  simp only [sB, sC]
  refine Ut 1 10 21 0 0 (v := ?vr1_2) rfl hWr1 hH ?hyr1_2 ?_
  case hyr1_2 => (intro w' hSw; clear hSw; go_simp; try (with_reducible rfl))
  simp only [sB, sC]
  refine Ut 2 11 20 0 0 (v := ?vr1_3) rfl hWr1 hH ?hyr1_3 ?_
  case hyr1_3 => (intro w' hSw; replace hSw := S2o0 hSw; (try dsimp only at hSw); have q0 := hSw.1; have q1 := hSw.2.1; have q2 := hSw.2.2; obtain ⟨qa0_0, qa0_1, qa0_2, qa0_3, qa0_4, qa0_5, qa0_6, qa0_7, qa0_8, qa0_9, qa0_10, qa0_11, qa0_12, qa0_f⟩ := id q0; go_simp; try (with_reducible rfl))
  simp only [sB, sC]
  refine Ut 3 12 19 0 0 (v := ?vr1_4) rfl hWr1 hH ?hyr1_4 ?_
  case hyr1_4 => (intro w' hSw; clear hSw; go_simp; try (with_reducible rfl))
  simp only [sB, sC]
  refine Ut 4 13 18 0 0 (v := ?vr1_5) rfl hWr1 hH ?hyr1_5 ?_
  case hyr1_5 => (intro w' hSw; clear hSw; go_simp; try (with_reducible rfl))
  simp only [sB, sC]
  refine Ut 5 14 17 0 0 (v := ?vr1_6) rfl hWr1 hH ?hyr1_6 ?_
  case hyr1_6 => (intro w' hSw; clear hSw; go_simp; try (with_reducible rfl))
  simp only [sB, sC]
  refine Ut 6 15 16 0 0 (v := ?vr1_7) rfl hWr1 hH ?hyr1_7 ?_
  case hyr1_7 => (intro w' hSw; replace hSw := S2o0 hSw; (try dsimp only at hSw); have q0 := hSw.1; have q1 := hSw.2.1; have q2 := hSw.2.2; obtain ⟨qa0_0, qa0_1, qa0_2, qa0_3, qa0_4, qa0_5, qa0_6, qa0_7, qa0_8, qa0_9, qa0_10, qa0_11, qa0_12, qa0_f⟩ := id q0; go_simp; try (with_reducible rfl))
  simp only [sB, sC]
  refine Ut 10 19 15 0 0 (v := ?vr1_8) rfl hWr1 hH ?hyr1_8 ?_
  case hyr1_8 => (intro w' hSw; clear hSw; go_simp; try (with_reducible rfl))
  simp only [sB, sC]
  refine Ut 11 20 14 0 0 (v := ?vr1_9) rfl hWr1 hH ?hyr1_9 ?_
  case hyr1_9 => (intro w' hSw; clear hSw; go_simp; try (with_reducible rfl))
  simp only [sB, sC]
  refine Ut 12 21 13 0 0 (v := ?vr1_10) rfl hWr1 hH ?hyr1_10 ?_
  case hyr1_10 => (intro w' hSw; replace hSw := S2o0 hSw; (try dsimp only at hSw); have q0 := hSw.1; have q1 := hSw.2.1; have q2 := hSw.2.2; obtain ⟨qa0_0, qa0_1, qa0_2, qa0_3, qa0_4, qa0_5, qa0_6, qa0_7, qa0_8, qa0_9, qa0_10, qa0_11, qa0_12, qa0_f⟩ := id q0; go_simp; try (with_reducible rfl))
  simp only [sB, sC]
  refine Ut 13 22 12 0 0 (v := ?vr1_11) rfl hWr1 hH ?hyr1_11 ?_
  case hyr1_11 => (intro w' hSw; clear hSw; go_simp; try (with_reducible rfl))
  simp only [sB, sC]
  refine Ut 14 23 11 0 0 (v := ?vr1_12) rfl hWr1 hH ?hyr1_12 ?_
  case hyr1_12 => (intro w' hSw; clear hSw; go_simp; try (with_reducible rfl))
  simp only [sB, sC]
  refine Ut 15 24 10 0 0 (v := ?vr1_13) rfl hWr1 hH ?hyr1_13 ?_
  case hyr1_13 => (intro w' hSw; clear hSw; go_simp; try (with_reducible rfl))
  simp only [sB, sC]
  refine Ut 16 25 9 0 0 (v := ?vr1_14) rfl hWr1 hH ?hyr1_14 ?_
  case hyr1_14 => (intro w' hSw; replace hSw := S2o0 hSw; (try dsimp only at hSw); have q0 := hSw.1; have q1 := hSw.2.1; have q2 := hSw.2.2; obtain ⟨qa0_0, qa0_1, qa0_2, qa0_3, qa0_4, qa0_5, qa0_6, qa0_7, qa0_8, qa0_9, qa0_10, qa0_11, qa0_12, qa0_f⟩ := id q0; go_simp; try (with_reducible rfl))
  simp only [sB, sC]
  refine U1 7 0 rfl (fun K hK => ?_)
  try clear hb
  go_simp
  (go_at_call 14; refine (HM1.out _).mono ?_; rintro e wn ⟨rfl, hb⟩)
  refine hK.out _ _ ?hsr1_15 (fun hH2 => ?hrr1_15)
  case hsr1_15 => exact S2i0 (by have hG := hH; replace hG := S2o0 hG; (try dsimp only at hG); have q0 := hG.1; have q1 := hG.2.1; have q2 := hG.2.2; exact ⟨keepBd hb q0, keepBdZ hb q1, keepBelow hb q2⟩)
  clear hK K hH
  have hH := hH2
  clear hH2
  try simp only [Act.put, sA, sB, sC]
  refine Ut 8 17 7 0 0 (v := ?vr1_16) rfl hWr1 hH ?hyr1_16 ?_
  case hyr1_16 => (intro w' hSw; clear hSw; go_simp; try (with_reducible rfl))
  simp only [sB, sC]
  refine U1 9 0 rfl (fun K hK => ?_)
  try clear hb
  go_simp
  (go_at_call 57; refine (HN1.out _).mono ?_; rintro e wn ⟨rfl, hb⟩)
  refine hK.out _ _ ?hsr1_17 (fun hH2 => ?hrr1_17)
  case hsr1_17 => exact S2i0 (by have hG := hH; replace hG := S2o0 hG; (try dsimp only at hG); have q0 := hG.1; have q1 := hG.2.1; have q2 := hG.2.2; exact ⟨keepBd hb q0, keepBdZ hb q1, keepBelow hb q2⟩)
  clear hK K hH
  have hH := hH2
  clear hH2
  try simp only [Act.put, sA, sB, sC]
  refine U1 17 0 rfl (fun K hK => ?_)
  try clear hb
  go_simp
  (go_at_call 14; refine (HM2.out _).mono ?_; rintro e wn ⟨rfl, hb⟩)
  refine hK.out _ _ ?hsr1_18 (fun hH2 => ?hrr1_18)
  case hsr1_18 => exact S2i0 (by have hG := hH; replace hG := S2o0 hG; (try dsimp only at hG); have q0 := hG.1; have q1 := hG.2.1; have q2 := hG.2.2; exact ⟨keepBd hb q0, keepBdZ hb q1, keepBelow hb q2⟩)
  clear hK K hH
  have hH := hH2
  clear hH2
  try simp only [Act.put, sA, sB, sC]
  refine Ut 18 27 4 0 0 (v := ?vr1_19) rfl hWr1 hH ?hyr1_19 ?_
  case hyr1_19 => (intro w' hSw; clear hSw; go_simp; try (with_reducible rfl))
  simp only [sB, sC]
  refine U1 19 0 rfl (fun K hK => ?_)
  try clear hb
  go_simp
  (go_at_call 57; refine (HN2.out _).mono ?_; rintro e wn ⟨rfl, hb⟩)
  refine hK.out _ _ ?hsr1_20 (fun hH2 => ?hrr1_20)
  case hsr1_20 => exact S2i0 (by have hG := hH; replace hG := S2o0 hG; (try dsimp only at hG); have q0 := hG.1; have q1 := hG.2.1; have q2 := hG.2.2; exact ⟨keepBd hb q0, keepBdZ hb q1, keepBelow hb q2⟩)
  clear hK K hH
  have hH := hH2
  clear hH2
  try simp only [Act.put, sA, sB, sC]
  refine Ut 20 29 2 0 0 (v := ?vr1_21) rfl hWr1 hH ?hyr1_21 ?_
  case hyr1_21 => (intro w' hSw; clear hSw; go_simp; try (with_reducible rfl))
  simp only [sB, sC]
  refine Ut 21 30 1 0 0 (v := ?vr1_22) rfl hWr1 hH ?hyr1_22 ?_
  case hyr1_22 => (intro w' hSw; clear hSw; go_simp; try (with_reducible rfl))
  simp only [sB, sC]
  refine U1 22 1 rfl (fun K hK => ?_)
  have hG := hH
  replace hG := S2o0 hG; (try dsimp only at hG); have q0 := hG.1; have q1 := hG.2.1; have q2 := hG.2.2; obtain ⟨qa0_0, qa0_1, qa0_2, qa0_3, qa0_4, qa0_5, qa0_6, qa0_7, qa0_8, qa0_9, qa0_10, qa0_11, qa0_12, qa0_f⟩ := id q0
  go_simp
  refine hK.out _ _ ?hsr1_23 (fun hH2 => ?hrr1_23)
  case hsr1_23 => exact S2i1
  clear hK K hH
  have hH := hH2
  clear hH2
  try simp only [Act.put, sA, sB, sC]
  refine wpAnyU_done (by kernel_rfl) ?_ _ _
  refine NoPanic.normal ?_
  clear hWr1
  have HK3 := hid ((q0.set_px x).set_py y)
  have HZ3 := hid ((q1.set ⟨w.heap.size, 0, none⟩ (.int .i64 x)).set ⟨w.heap.size, 1, none⟩ (.int .i64 y))
  have hB3 : Below w.heap.size w ((wn.setCell ⟨w.heap.size, 0, none⟩ (.int .i64 x)).setCell ⟨w.heap.size, 1, none⟩ (.int .i64 y)) := by go_grown
  clear hH hG q0 q1 q2 qa0_0 qa0_1 qa0_2 qa0_3 qa0_4 qa0_5 qa0_6 qa0_7 qa0_8 qa0_9 qa0_10 qa0_11 qa0_12 qa0_f HK1 HZ1 hB1 HM1 HM2 HN1 HN2 u1 u2
  generalize (wn.setCell ⟨w.heap.size, 0, none⟩ (.int .i64 x)).setCell ⟨w.heap.size, 1, none⟩ (.int .i64 y) = wd at *
  obtain ⟨b2, hb2⟩ : ∃ b2 : Bd, b2 = { b with px := x, py := y } := ⟨_, rfl⟩
  rw [show ({ ({ b with px := x } : Bd) with py := y } : Bd) = b2 from hb2.symm] at HK3
  have ha2 : b2.ang = b.ang := by rw [hb2]
  have hs2 : b2.spin = b.spin := by rw [hb2]
  go_wp2_with fail
  obtain ⟨m3, hm3⟩ : ∃ m, m = mulF s b2.spin := ⟨_, rfl⟩
  have bm3 := mulF_bd s b2.spin
  rw [← hm3] at bm3
  rw [← ha2] at hang
  have u3 : IntKind.i64.wrap (b2.ang + m3) = b2.ang + m3 := IntWalk.i64_in _ (by omega)
  have HM3 : Hid (∀ w, Calls Tryz.prog 14 #[.int .i64 s, .int .i64 b2.spin] w (Ret (.int .i64 m3) w)) := fun w => by rw [hm3]; exact fmul_calls s b2.spin w
  have HA : Hid (b2.ang + m3 = b.ang + mulF s b.spin) := by show _ = _; rw [hm3, ha2, hs2]
  have HB2 := hid hb2
  clear hm3 ha2 hs2 hb2
  refine wp_region_noPanic ?_
  refine wp_region_U (S := (S2 (fun w' => BdAt w' w.heap.size b2 A n c ∧ BdZ w' (w.heap.size + 1) ∧ Below w.heap.size w w'))) (T := (fun j => [0, 0, 0, 0, 0, 0, 0, 0, 1].getD j 0)) (by kernel_rfl) (S2i0 ⟨HK3.out.drew, HZ3.out.drew, hB3.drew⟩) (fun hH => ?_)
  have hWr2 : Weaker (S2 (fun w' => BdAt w' w.heap.size b2 A n c ∧ BdZ w' (w.heap.size + 1) ∧ Below w.heap.size w w')) := weaker2 _
  refine Ut 0 31 8 0 0 (v := ?vr2_1) rfl hWr2 hH ?hyr2_1 ?_
  case hyr2_1 => (intro w' hSw; clear hSw; go_simp; try (with_reducible rfl))
  simp only [sB, sC]
  refine Ut 1 32 7 0 0 (v := ?vr2_2) rfl hWr2 hH ?hyr2_2 ?_
  case hyr2_2 => (intro w' hSw; replace hSw := S2o0 hSw; (try dsimp only at hSw); have q0 := hSw.1; have q1 := hSw.2.1; have q2 := hSw.2.2; obtain ⟨qa0_0, qa0_1, qa0_2, qa0_3, qa0_4, qa0_5, qa0_6, qa0_7, qa0_8, qa0_9, qa0_10, qa0_11, qa0_12, qa0_f⟩ := id q0; go_simp; try (with_reducible rfl))
  simp only [sB, sC]
  refine Ut 2 33 6 0 0 (v := ?vr2_3) rfl hWr2 hH ?hyr2_3 ?_
  case hyr2_3 => (intro w' hSw; clear hSw; go_simp; try (with_reducible rfl))
  simp only [sB, sC]
  refine Ut 3 34 5 0 0 (v := ?vr2_4) rfl hWr2 hH ?hyr2_4 ?_
  case hyr2_4 => (intro w' hSw; clear hSw; go_simp; try (with_reducible rfl))
  simp only [sB, sC]
  refine Ut 4 35 4 0 0 (v := ?vr2_5) rfl hWr2 hH ?hyr2_5 ?_
  case hyr2_5 => (intro w' hSw; replace hSw := S2o0 hSw; (try dsimp only at hSw); have q0 := hSw.1; have q1 := hSw.2.1; have q2 := hSw.2.2; obtain ⟨qa0_0, qa0_1, qa0_2, qa0_3, qa0_4, qa0_5, qa0_6, qa0_7, qa0_8, qa0_9, qa0_10, qa0_11, qa0_12, qa0_f⟩ := id q0; go_simp; try (with_reducible rfl))
  simp only [sB, sC]
  refine U1 5 0 rfl (fun K hK => ?_)
  try clear hb
  go_simp
  (go_at_call 14; refine (HM3.out _).mono ?_; rintro e wn ⟨rfl, hb⟩)
  refine hK.out _ _ ?hsr2_6 (fun hH2 => ?hrr2_6)
  case hsr2_6 => exact S2i0 (by have hG := hH; replace hG := S2o0 hG; (try dsimp only at hG); have q0 := hG.1; have q1 := hG.2.1; have q2 := hG.2.2; exact ⟨keepBd hb q0, keepBdZ hb q1, keepBelow hb q2⟩)
  clear hK K hH
  have hH := hH2
  clear hH2
  try simp only [Act.put, sA, sB, sC]
  refine Ut 6 37 2 0 0 (v := ?vr2_7) rfl hWr2 hH ?hyr2_7 ?_
  case hyr2_7 => (intro w' hSw; clear hSw; go_simp; try (with_reducible rfl))
  simp only [sB, sC]
  refine Ut 7 38 1 0 0 (v := ?vr2_8) rfl hWr2 hH ?hyr2_8 ?_
  case hyr2_8 => (intro w' hSw; clear hSw; go_simp; try (with_reducible rfl))
  simp only [sB, sC]
  refine U1 8 1 rfl (fun K hK => ?_)
  have hG := hH
  replace hG := S2o0 hG; (try dsimp only at hG); have q0 := hG.1; have q1 := hG.2.1; have q2 := hG.2.2; obtain ⟨qa0_0, qa0_1, qa0_2, qa0_3, qa0_4, qa0_5, qa0_6, qa0_7, qa0_8, qa0_9, qa0_10, qa0_11, qa0_12, qa0_f⟩ := id q0
  go_simp
  refine hK.out _ _ ?hsr2_9 (fun hH2 => ?hrr2_9)
  case hsr2_9 => exact S2i1
  clear hK K hH
  have hH := hH2
  clear hH2
  try simp only [Act.put, sA, sB, sC]
  refine wpAnyU_done (by kernel_rfl) ?_ _ _
  refine NoPanic.normal ?_
  clear hWr2
  obtain ⟨a0, ha0⟩ : ∃ a, a = b2.ang + m3 := ⟨_, rfl⟩
  rw [← ha0] at HA ⊢
  have HK4 := hid (q0.set_ang a0)
  have HZ4 := hid (q1.set ⟨w.heap.size, 4, none⟩ (.int .i64 a0))
  have hB4 : Below w.heap.size w (wn.setCell ⟨w.heap.size, 4, none⟩ (.int .i64 a0)) := by go_grown
  clear hH hG q0 q1 q2 qa0_0 qa0_1 qa0_2 qa0_3 qa0_4 qa0_5 qa0_6 qa0_7 qa0_8 qa0_9 qa0_10 qa0_11 qa0_12 qa0_f HK3 HZ3 hB3 HM3 u3
  generalize wn.setCell ⟨w.heap.size, 4, none⟩ (.int .i64 a0) = wd at *
  have ba0 : -1099511627776 ≤ a0 ∧ a0 ≤ 1099511758848 := by omega
  clear ha0 bm3
  go_wp2_with fail
  go_loopw [] (fun wr => ∃ a : Int, a % 65536 = a0 % 65536 ∧ -1099511627776 ≤ a ∧ a ≤ 1099511758848 ∧ BdAt wr w.heap.size { b2 with ang := a } A n c ∧ BdZ wr (w.heap.size + 1) ∧ Below w.heap.size w wr) (fun wr => (1099511824384 - intOf ((wr.cell? ⟨w.heap.size, 4, none⟩).getD (.int .i64 0))).toNat)
  case atStart => exact ⟨a0, rfl, ba0.1, ba0.2, HK4.out, HZ4.out, hB4⟩
  case round =>
   clear HK4 HZ4 hB4
   obtain ⟨a, ham, hlo, hhi, hbd, hbz, hB⟩ := hrel
   obtain ⟨wo, rfl⟩ : ∃ wo : World, wo = wr := ⟨_, rfl⟩
   have HK := hid hbd
   have HZ := hid hbz
   clear hbz
   obtain ⟨k0, k1, k2, k3, k4, k5, k6, k7, k8, k9, k10, k11, k12, kf⟩ := hbd
   have hz5 := HK.out.lt
   by_cases hneg : a < 0
   ·have u : IntKind.i64.wrap (a + 65536) = a + 65536 := IntWalk.i64_in _ (by omega)
    have HKn := hid (HK.out.set_ang (a + 65536))
    have HZn := hid (HZ.out.set ⟨w.heap.size, 4, none⟩ (.int .i64 (a + 65536)))
    have hBn : Below w.heap.size w (wo.setCell ⟨w.heap.size, 4, none⟩ (.int .i64 (a + 65536))) := by go_grown
    have k4' := k4
    go_wp2
    go_roundw
    case rel => exact ⟨a + 65536, by omega, by omega, by omega, HKn.out, HZn.out, hBn⟩
    case measure =>
     have e1 := HKn.out.c4
     rw [e1, k4']
     simp [intOf]
     omega
   ·have hpos : 0 ≤ a := by omega
    obtain ⟨ar, har⟩ : ∃ ar, ar = a % 65536 := ⟨_, rfl⟩
    have ht : a.tmod 65536 = ar := by rw [Int.tmod_eq_emod_of_nonneg hpos, har]
    have u : IntKind.i64.wrap ar = ar := IntWalk.i64_in _ (by omega)
    have HKn := hid (HK.out.set_ang ar)
    have HZn := hid (HZ.out.set ⟨w.heap.size, 4, none⟩ (.int .i64 ar))
    have hBn : Below w.heap.size w (wo.setCell ⟨w.heap.size, 4, none⟩ (.int .i64 ar)) := by go_grown
    have HAR : Hid (ar = (b.ang + mulF s b.spin) % 65536) := by show _ = _; rw [har, ham, HA.out]
    clear har ham HK HZ
    go_upto_region 8 with fail
    clear k0 k1 k2 k3 k4 k5 k6 k7 k8 k9 k10 k11 k12 kf
    generalize wo.setCell ⟨w.heap.size, 4, none⟩ (.int .i64 ar) = we at *
    obtain ⟨b4, hb4⟩ : ∃ b4 : Bd, b4 = { b2 with ang := ar } := ⟨_, rfl⟩
    rw [show ({ ({ b2 with ang := a } : Bd) with ang := ar } : Bd) = b4 from hb4.symm] at HKn
    have HK8 := HKn
    have HZ8 := HZn
    clear HKn HZn
    obtain ⟨k0, k1, k2, k3, k4, k5, k6, k7, k8, k9, k10, k11, k12, kf⟩ := HK8.out
    obtain ⟨z0, z1, z2, z3, z4, z5, z6, z7, z8, z9, z10, z11, z12, y0, y1, y2, y3, y4, y5, y6, y7, y8, y9, y10, y11, y12⟩ := HZ8.out.all
    have yf := HZ8.out.free
    have hl1 := HZ8.out.lt
    have hz8 := HK8.out.lt
    clear HK8 HZ8
    have HR : Hid (stepB b s = b4) := by show _ = _; unfold stepB; rw [if_neg HC.out, hb4, HB2.out, HX.out, HY.out, HAR.out]
    clear hb4
    go_wp2
    refine bodyPost_ret (v := bodyV b4 A n c) (by simp [results, Tryz.results29, go_sem, y0, y1, y2, y3, y4, y5, y6, y7, y8, y9, y10, y11, y12, hl1]) rfl ⟨by rw [HR.out], by go_grown⟩
end
end Go.Proofs.YtilncglnojjlaaaGreat
