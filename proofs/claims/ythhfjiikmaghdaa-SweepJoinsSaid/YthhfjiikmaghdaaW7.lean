/- The walk of SweepJoins. -/
import Derived.Test.YthhfjiikmaghdaaW6
namespace Go.Proofs.Ythhfjiikmaghdaa
set_option linter.unusedVariables false
set_option linter.unusedSimpArgs false
open Go.RowKit

set_option maxRecDepth 100000 in
set_option maxHeartbeats 16000000 in
theorem sweepJoins_walk (A : Option Addr) (n c : Nat) (r : List Int) (w : World) (hS : SlI w A n c r) : Calls Try.prog 6 #[.slice A n c] w (Ret (.bool true) w) := by
  have HBX := hid (boxes_calls A n c r w hS)
  clear hS
  go_enter Try.func6, Try.ntmps6
  go_wp2_with fail
  refine HBX.out.mono ?_
  rintro e w0 ⟨l, Al, nl, cl, rfl, hsl, hfl, hl24, hvl, hb0⟩
  have hnl := hsl.len
  subst hnl
  have HSL := hid hsl
  have HVL := hid hvl
  clear hsl hfl hvl HBX
  go_wp2_with fail
  refine (sweeps_calls _).mono ?_
  rintro e w1 ⟨rfl, hb1⟩
  have HSL1 := hid (HSL.out.below hb1)
  have hBase := keepBelow hb1 hb0
  clear hb1 hb0 HSL
  go_wp2
  go_loopw [4] (fun j wr => ∃ k : Nat, k ≤ 9 ∧ j = .int .i64 ((3 * k : Nat) : Int) ∧ Below w1.heap.size w1 wr) (fun j _ => 30 - (intOf j).toNat)
  case atStart => exact ⟨0, by omega, rfl, Below.refl _ _⟩
  case round =>
    obtain ⟨k, hk, rfl, hBo⟩ := hrel
    obtain ⟨wo, rfl⟩ : ∃ wo : World, wo = wr := ⟨_, rfl⟩
    obtain ⟨i, hi⟩ : ∃ i, i = 3 * k := ⟨_, rfl⟩
    rw [← hi]
    have wi2 : IntKind.i64.wrap ((i : Int) + 2) = (i : Int) + 2 := IntWalk.i64_in _ (by omega)
    by_cases h1 : i + 2 < l.length
    · obtain ⟨b, off, rfl, hC0⟩ := HSL1.out.at_ (by intro h; rw [h] at h1; simp at h1)
      have hC := hC0.below hBo
      have hbw := hC0.lt
      obtain ⟨i1, hi1⟩ : ∃ j, j = i + 1 := ⟨_, rfl⟩
      obtain ⟨i2, hi2⟩ : ∃ j, j = i + 2 := ⟨_, rfl⟩
      have w1' : IntKind.i64.wrap ((i : Int) + 1) = (i1 : Int) := by rw [IntWalk.i64_in _ (by omega)]; omega
      have w2' : IntKind.i64.wrap ((i : Int) + 2) = (i2 : Int) := by rw [IntWalk.i64_in _ (by omega)]; omega
      have w3' : IntKind.i64.wrap ((i : Int) + 3) = (i : Int) + 3 := IntWalk.i64_in _ (by omega)
      have l0 : i < l.length := by omega
      have l1 : i1 < l.length := by omega
      have l2 : i2 < l.length := by omega
      have g0 : (i : Int) < (l.length : Int) := by omega
      have g1 : (i1 : Int) < (l.length : Int) := by omega
      have g2 : (i2 : Int) < (l.length : Int) := by omega
      obtain ⟨ka0, ka1, ka2, ka3⟩ := hC.box l0
      obtain ⟨kb0, kb1, kb2, kb3⟩ := hC.box l1
      obtain ⟨kc0, kc1, kc2, kc3⟩ := hC.box l2
      have hbl := hC.lt
      have va : vldB (bxAt l i) = true := by have e : bxAt l i = l[i] := by unfold bxAt; simp [l0]
                                             rw [e]; exact HVL.out _ (List.getElem_mem l0)
      have vb : vldB (bxAt l i1) = true := by have e : bxAt l i1 = l[i1] := by unfold bxAt; simp [l1]
                                              rw [e]; exact HVL.out _ (List.getElem_mem l1)
      have HLAW := hid (joins_law (c := bxAt l i2) va vb)
      generalize bxAt l i = pa at *
      generalize bxAt l i1 = pb at *
      generalize bxAt l i2 = pc at *
      obtain ⟨⟨a1, a2⟩, a3, a4⟩ := pa
      obtain ⟨⟨b1, b2⟩, b3, b4⟩ := pb
      obtain ⟨⟨c1, c2⟩, c3, c4⟩ := pc
      dsimp only at ka0 ka1 ka2 ka3 kb0 kb1 kb2 kb3 kc0 kc1 kc2 kc3
      have HJ0 := hid (sjoin_calls a1 a2 a3 a4 b1 b2 b3 b4)
      have HJ1 := hid (sjoin_calls b1 b2 b3 b4 a1 a2 a3 a4)
      have HJ3 := hid (sjoin_calls a1 a2 a3 a4 a1 a2 a3 a4)
      have HM1 := hid (smeet_calls a1 a2 a3 a4 c1 c2 c3 c4)
      have HM2 := hid (smeet_calls b1 b2 b3 b4 c1 c2 c3 c4)
      rw [HLAW.out.1] at HJ1
      rw [HLAW.out.2.2.1] at HJ3
      obtain ⟨⟨⟨j1, j2⟩, j3, j4⟩, hJ⟩ : ∃ J, J = joinB ((a1, a2), (a3, a4)) ((b1, b2), (b3, b4)) := ⟨_, rfl⟩
      rw [← hJ] at HJ0 HJ1 HLAW
      have HJ2 := hid (sjoin_calls j1 j2 j3 j4 a1 a2 a3 a4)
      rw [HLAW.out.2.1] at HJ2
      have HM3 := hid (smeet_calls j1 j2 j3 j4 c1 c2 c3 c4)
      have HLW := hid HLAW.out.2.2.2
      generalize tchB ((a1, a2), (a3, a4)) ((c1, c2), (c3, c4)) = m1 at *
      generalize tchB ((b1, b2), (b3, b4)) ((c1, c2), (c3, c4)) = m2 at *
      generalize tchB ((j1, j2), (j3, j4)) ((c1, c2), (c3, c4)) = m3 at *
      have HI := hid hi
      clear hC hC0 hi hi1 hi2 va vb hJ wi2 HLAW h1
      go_upto_region 7 with fail
      go_cut [5, 6, 7] from 20 to 33 (fun t u v wx => JoinsE w1 ((a1, a2), (a3, a4)) ((b1, b2), (b3, b4)) ((c1, c2), (c3, c4)) t u v wx)
      case first =>
        clear HJ0 HJ1 HJ2 HJ3 HM1 HM2 HM3 HLW HSL1 HVL hBase HI hk hl24
        refine wp_region_noPanic ?_
        refine wp_region_U (S := (S4 (fun w' => w'.cell? ⟨b, off + i * 4, none⟩ = some (.int .i64 a1) ∧ w'.cell? ⟨b, off + i * 4 + 1, none⟩ = some (.int .i64 a2) ∧ w'.cell? ⟨b, off + i * 4 + 2, none⟩ = some (.int .i64 a3) ∧ w'.cell? ⟨b, off + i * 4 + 3, none⟩ = some (.int .i64 a4) ∧ w'.cell? ⟨b, off + i1 * 4, none⟩ = some (.int .i64 b1) ∧ w'.cell? ⟨b, off + i1 * 4 + 1, none⟩ = some (.int .i64 b2) ∧ w'.cell? ⟨b, off + i1 * 4 + 2, none⟩ = some (.int .i64 b3) ∧ w'.cell? ⟨b, off + i1 * 4 + 3, none⟩ = some (.int .i64 b4) ∧ w'.cell? ⟨b, off + i2 * 4, none⟩ = some (.int .i64 c1) ∧ w'.cell? ⟨b, off + i2 * 4 + 1, none⟩ = some (.int .i64 c2) ∧ w'.cell? ⟨b, off + i2 * 4 + 2, none⟩ = some (.int .i64 c3) ∧ w'.cell? ⟨b, off + i2 * 4 + 3, none⟩ = some (.int .i64 c4) ∧ Below w1.heap.size w1 w') (fun w' => w'.cell? ⟨b, off + i1 * 4, none⟩ = some (.int .i64 b1) ∧ w'.cell? ⟨b, off + i1 * 4 + 1, none⟩ = some (.int .i64 b2) ∧ w'.cell? ⟨b, off + i1 * 4 + 2, none⟩ = some (.int .i64 b3) ∧ w'.cell? ⟨b, off + i1 * 4 + 3, none⟩ = some (.int .i64 b4) ∧ w'.cell? ⟨b, off + i2 * 4, none⟩ = some (.int .i64 c1) ∧ w'.cell? ⟨b, off + i2 * 4 + 1, none⟩ = some (.int .i64 c2) ∧ w'.cell? ⟨b, off + i2 * 4 + 2, none⟩ = some (.int .i64 c3) ∧ w'.cell? ⟨b, off + i2 * 4 + 3, none⟩ = some (.int .i64 c4)) (fun w' => w'.cell? ⟨b, off + i2 * 4, none⟩ = some (.int .i64 c1) ∧ w'.cell? ⟨b, off + i2 * 4 + 1, none⟩ = some (.int .i64 c2) ∧ w'.cell? ⟨b, off + i2 * 4 + 2, none⟩ = some (.int .i64 c3) ∧ w'.cell? ⟨b, off + i2 * 4 + 3, none⟩ = some (.int .i64 c4)))) (T := (fun j => [0, 0, 0, 0, 0, 0, 0, 0, 0, 0, 0, 0, 0, 0, 0, 0, 0, 1, 2, 3].getD j 0)) (by kernel_rfl) (S4i0 ⟨ka0, ka1, ka2, ka3, kb0, kb1, kb2, kb3, kc0, kc1, kc2, kc3, hBo.drew⟩) (fun hH => ?_)
        have hWr3 : Weaker (S4 (fun w' => w'.cell? ⟨b, off + i * 4, none⟩ = some (.int .i64 a1) ∧ w'.cell? ⟨b, off + i * 4 + 1, none⟩ = some (.int .i64 a2) ∧ w'.cell? ⟨b, off + i * 4 + 2, none⟩ = some (.int .i64 a3) ∧ w'.cell? ⟨b, off + i * 4 + 3, none⟩ = some (.int .i64 a4) ∧ w'.cell? ⟨b, off + i1 * 4, none⟩ = some (.int .i64 b1) ∧ w'.cell? ⟨b, off + i1 * 4 + 1, none⟩ = some (.int .i64 b2) ∧ w'.cell? ⟨b, off + i1 * 4 + 2, none⟩ = some (.int .i64 b3) ∧ w'.cell? ⟨b, off + i1 * 4 + 3, none⟩ = some (.int .i64 b4) ∧ w'.cell? ⟨b, off + i2 * 4, none⟩ = some (.int .i64 c1) ∧ w'.cell? ⟨b, off + i2 * 4 + 1, none⟩ = some (.int .i64 c2) ∧ w'.cell? ⟨b, off + i2 * 4 + 2, none⟩ = some (.int .i64 c3) ∧ w'.cell? ⟨b, off + i2 * 4 + 3, none⟩ = some (.int .i64 c4) ∧ Below w1.heap.size w1 w') (fun w' => w'.cell? ⟨b, off + i1 * 4, none⟩ = some (.int .i64 b1) ∧ w'.cell? ⟨b, off + i1 * 4 + 1, none⟩ = some (.int .i64 b2) ∧ w'.cell? ⟨b, off + i1 * 4 + 2, none⟩ = some (.int .i64 b3) ∧ w'.cell? ⟨b, off + i1 * 4 + 3, none⟩ = some (.int .i64 b4) ∧ w'.cell? ⟨b, off + i2 * 4, none⟩ = some (.int .i64 c1) ∧ w'.cell? ⟨b, off + i2 * 4 + 1, none⟩ = some (.int .i64 c2) ∧ w'.cell? ⟨b, off + i2 * 4 + 2, none⟩ = some (.int .i64 c3) ∧ w'.cell? ⟨b, off + i2 * 4 + 3, none⟩ = some (.int .i64 c4)) (fun w' => w'.cell? ⟨b, off + i2 * 4, none⟩ = some (.int .i64 c1) ∧ w'.cell? ⟨b, off + i2 * 4 + 1, none⟩ = some (.int .i64 c2) ∧ w'.cell? ⟨b, off + i2 * 4 + 2, none⟩ = some (.int .i64 c3) ∧ w'.cell? ⟨b, off + i2 * 4 + 3, none⟩ = some (.int .i64 c4))) := weaker4 (fun _ ⟨q0, q1, q2, q3, q4, q5, q6, q7, q8, q9, q10, q11, q12⟩ => ⟨q4, q5, q6, q7, q8, q9, q10, q11⟩) (fun _ ⟨q4, q5, q6, q7, q8, q9, q10, q11⟩ => ⟨q8, q9, q10, q11⟩)
        refine U_take 0 20 19 0 0 (v := ?vr3_1) rfl (by kernel_rfl) (by kernel_rfl) hWr3 (by kernel_rfl) (by kernel_rfl) (by kernel_rfl) (by kernel_rfl) (by kernel_rfl) (by kernel_rfl) (fun _ _ _ _ h => h) (by kernel_rfl) ?hyr3_1 (by omega) hH ?_
        case hyr3_1 => (intro w' hSw; clear hSw; go_simp; try (with_reducible rfl))
        simp only [List.set_cons_zero, List.set_cons_succ]
        refine U_take 1 21 18 0 0 (v := ?vr3_2) rfl (by kernel_rfl) (by kernel_rfl) hWr3 (by kernel_rfl) (by kernel_rfl) (by kernel_rfl) (by kernel_rfl) (by kernel_rfl) (by kernel_rfl) (fun _ _ _ _ h => h) (by kernel_rfl) ?hyr3_2 (by omega) hH ?_
        case hyr3_2 => (intro w' hSw; clear hSw; go_simp; try (with_reducible rfl))
        simp only [List.set_cons_zero, List.set_cons_succ]
        refine U_take 2 22 17 0 0 (v := ?vr3_3) rfl (by kernel_rfl) (by kernel_rfl) hWr3 (by kernel_rfl) (by kernel_rfl) (by kernel_rfl) (by kernel_rfl) (by kernel_rfl) (by kernel_rfl) (fun _ _ _ _ h => h) (by kernel_rfl) ?hyr3_3 (by omega) hH ?_
        case hyr3_3 => (intro w' hSw; clear hSw; go_simp; try (with_reducible rfl))
        simp only [List.set_cons_zero, List.set_cons_succ]
        refine U_take 3 23 16 0 0 (v := ?vr3_4) rfl (by kernel_rfl) (by kernel_rfl) hWr3 (by kernel_rfl) (by kernel_rfl) (by kernel_rfl) (by kernel_rfl) (by kernel_rfl) (by kernel_rfl) (fun _ _ _ _ h => h) (by kernel_rfl) ?hyr3_4 (by omega) hH ?_
        case hyr3_4 => (intro w' hSw; replace hSw := S4o0 hSw; (try dsimp only at hSw); have q0 := hSw.1; have q1 := hSw.2.1; have q2 := hSw.2.2.1; have q3 := hSw.2.2.2.1; have q4 := hSw.2.2.2.2.1; have q5 := hSw.2.2.2.2.2.1; have q6 := hSw.2.2.2.2.2.2.1; have q7 := hSw.2.2.2.2.2.2.2.1; have q8 := hSw.2.2.2.2.2.2.2.2.1; have q9 := hSw.2.2.2.2.2.2.2.2.2.1; have q10 := hSw.2.2.2.2.2.2.2.2.2.2.1; have q11 := hSw.2.2.2.2.2.2.2.2.2.2.2.1; have q12 := hSw.2.2.2.2.2.2.2.2.2.2.2.2; go_simp; try (with_reducible rfl))
        simp only [List.set_cons_zero, List.set_cons_succ]
        refine U_take 4 24 15 1 0 (v := ?vr3_5) rfl (by kernel_rfl) (by kernel_rfl) hWr3 (by kernel_rfl) (by kernel_rfl) (by kernel_rfl) (by kernel_rfl) (by kernel_rfl) (by kernel_rfl) (fun _ _ _ _ h => h) (by kernel_rfl) ?hyr3_5 (by omega) hH ?_
        case hyr3_5 => (intro w' hSw; clear hSw; go_simp; try (with_reducible rfl))
        simp only [List.set_cons_zero, List.set_cons_succ]
        refine U_take 5 25 14 1 0 (v := ?vr3_6) rfl (by kernel_rfl) (by kernel_rfl) hWr3 (by kernel_rfl) (by kernel_rfl) (by kernel_rfl) (by kernel_rfl) (by kernel_rfl) (by kernel_rfl) (fun _ _ _ _ h => h) (by kernel_rfl) ?hyr3_6 (by omega) hH ?_
        case hyr3_6 => (intro w' hSw; clear hSw; go_simp; try (with_reducible rfl))
        simp only [List.set_cons_zero, List.set_cons_succ]
        refine U_take 6 26 13 1 0 (v := ?vr3_7) rfl (by kernel_rfl) (by kernel_rfl) hWr3 (by kernel_rfl) (by kernel_rfl) (by kernel_rfl) (by kernel_rfl) (by kernel_rfl) (by kernel_rfl) (fun _ _ _ _ h => h) (by kernel_rfl) ?hyr3_7 (by omega) hH ?_
        case hyr3_7 => (intro w' hSw; clear hSw; go_simp; try (with_reducible rfl))
        simp only [List.set_cons_zero, List.set_cons_succ]
        refine U_take 7 27 12 1 0 (v := ?vr3_8) rfl (by kernel_rfl) (by kernel_rfl) hWr3 (by kernel_rfl) (by kernel_rfl) (by kernel_rfl) (by kernel_rfl) (by kernel_rfl) (by kernel_rfl) (fun _ _ _ _ h => h) (by kernel_rfl) ?hyr3_8 (by omega) hH ?_
        case hyr3_8 => (intro w' hSw; clear hSw; go_simp; try (with_reducible rfl))
        simp only [List.set_cons_zero, List.set_cons_succ]
        refine U_take 8 28 11 1 0 (v := ?vr3_9) rfl (by kernel_rfl) (by kernel_rfl) hWr3 (by kernel_rfl) (by kernel_rfl) (by kernel_rfl) (by kernel_rfl) (by kernel_rfl) (by kernel_rfl) (fun _ _ _ _ h => h) (by kernel_rfl) ?hyr3_9 (by omega) hH ?_
        case hyr3_9 => (intro w' hSw; replace hSw := S4o1 hSw; (try dsimp only at hSw); have q4 := hSw.1; have q5 := hSw.2.1; have q6 := hSw.2.2.1; have q7 := hSw.2.2.2.1; have q8 := hSw.2.2.2.2.1; have q9 := hSw.2.2.2.2.2.1; have q10 := hSw.2.2.2.2.2.2.1; have q11 := hSw.2.2.2.2.2.2.2; go_simp; try (with_reducible rfl))
        simp only [List.set_cons_zero, List.set_cons_succ]
        refine U_take 9 29 10 2 0 (v := ?vr3_10) rfl (by kernel_rfl) (by kernel_rfl) hWr3 (by kernel_rfl) (by kernel_rfl) (by kernel_rfl) (by kernel_rfl) (by kernel_rfl) (by kernel_rfl) (fun _ _ _ _ h => h) (by kernel_rfl) ?hyr3_10 (by omega) hH ?_
        case hyr3_10 => (intro w' hSw; clear hSw; go_simp; try (with_reducible rfl))
        simp only [List.set_cons_zero, List.set_cons_succ]
        refine U_take 10 30 9 2 0 (v := ?vr3_11) rfl (by kernel_rfl) (by kernel_rfl) hWr3 (by kernel_rfl) (by kernel_rfl) (by kernel_rfl) (by kernel_rfl) (by kernel_rfl) (by kernel_rfl) (fun _ _ _ _ h => h) (by kernel_rfl) ?hyr3_11 (by omega) hH ?_
        case hyr3_11 => (intro w' hSw; clear hSw; go_simp; try (with_reducible rfl))
        simp only [List.set_cons_zero, List.set_cons_succ]
        refine U_take 11 31 8 2 0 (v := ?vr3_12) rfl (by kernel_rfl) (by kernel_rfl) hWr3 (by kernel_rfl) (by kernel_rfl) (by kernel_rfl) (by kernel_rfl) (by kernel_rfl) (by kernel_rfl) (fun _ _ _ _ h => h) (by kernel_rfl) ?hyr3_12 (by omega) hH ?_
        case hyr3_12 => (intro w' hSw; clear hSw; go_simp; try (with_reducible rfl))
        simp only [List.set_cons_zero, List.set_cons_succ]
        refine U_take 12 32 7 2 0 (v := ?vr3_13) rfl (by kernel_rfl) (by kernel_rfl) hWr3 (by kernel_rfl) (by kernel_rfl) (by kernel_rfl) (by kernel_rfl) (by kernel_rfl) (by kernel_rfl) (fun _ _ _ _ h => h) (by kernel_rfl) ?hyr3_13 (by omega) hH ?_
        case hyr3_13 => (intro w' hSw; clear hSw; go_simp; try (with_reducible rfl))
        simp only [List.set_cons_zero, List.set_cons_succ]
        refine U_take 13 33 6 2 0 (v := ?vr3_14) rfl (by kernel_rfl) (by kernel_rfl) hWr3 (by kernel_rfl) (by kernel_rfl) (by kernel_rfl) (by kernel_rfl) (by kernel_rfl) (by kernel_rfl) (fun _ _ _ _ h => h) (by kernel_rfl) ?hyr3_14 (by omega) hH ?_
        case hyr3_14 => (intro w' hSw; replace hSw := S4o2 hSw; (try dsimp only at hSw); have q8 := hSw.1; have q9 := hSw.2.1; have q10 := hSw.2.2.1; have q11 := hSw.2.2.2; go_simp; try (with_reducible rfl))
        simp only [List.set_cons_zero, List.set_cons_succ]
        refine wpAnyU_ready (rs := [14, 15, 16]) (by kernel_rfl) (by simp) ?_
        refine AllReadyU.cons 0 (by kernel_rfl) (o := _) rfl (fun K hK => ?_) ?_
        · try clear hb
          have hG := hH
          replace hG := S4o0 hG; (try dsimp only at hG); have q0 := hG.1; have q1 := hG.2.1; have q2 := hG.2.2.1; have q3 := hG.2.2.2.1; have q4 := hG.2.2.2.2.1; have q5 := hG.2.2.2.2.2.1; have q6 := hG.2.2.2.2.2.2.1; have q7 := hG.2.2.2.2.2.2.2.1; have q8 := hG.2.2.2.2.2.2.2.2.1; have q9 := hG.2.2.2.2.2.2.2.2.2.1; have q10 := hG.2.2.2.2.2.2.2.2.2.2.1; have q11 := hG.2.2.2.2.2.2.2.2.2.2.2.1; have q12 := hG.2.2.2.2.2.2.2.2.2.2.2.2
          go_simp
          refine hK.out _ _ ?hsr3_15 (fun hH2 => ?hrr3_15)
          case hsr3_15 => exact S4i0 (by have hG := hH; replace hG := S4o0 hG; (try dsimp only at hG); have q0 := hG.1; have q1 := hG.2.1; have q2 := hG.2.2.1; have q3 := hG.2.2.2.1; have q4 := hG.2.2.2.2.1; have q5 := hG.2.2.2.2.2.1; have q6 := hG.2.2.2.2.2.2.1; have q7 := hG.2.2.2.2.2.2.2.1; have q8 := hG.2.2.2.2.2.2.2.2.1; have q9 := hG.2.2.2.2.2.2.2.2.2.1; have q10 := hG.2.2.2.2.2.2.2.2.2.2.1; have q11 := hG.2.2.2.2.2.2.2.2.2.2.2.1; have q12 := hG.2.2.2.2.2.2.2.2.2.2.2.2; exact ⟨keepCell ((Below.refl _ _).alloc (Nat.le_refl _) _) q0, keepCell ((Below.refl _ _).alloc (Nat.le_refl _) _) q1, keepCell ((Below.refl _ _).alloc (Nat.le_refl _) _) q2, keepCell ((Below.refl _ _).alloc (Nat.le_refl _) _) q3, keepCell ((Below.refl _ _).alloc (Nat.le_refl _) _) q4, keepCell ((Below.refl _ _).alloc (Nat.le_refl _) _) q5, keepCell ((Below.refl _ _).alloc (Nat.le_refl _) _) q6, keepCell ((Below.refl _ _).alloc (Nat.le_refl _) _) q7, keepCell ((Below.refl _ _).alloc (Nat.le_refl _) _) q8, keepCell ((Below.refl _ _).alloc (Nat.le_refl _) _) q9, keepCell ((Below.refl _ _).alloc (Nat.le_refl _) _) q10, keepCell ((Below.refl _ _).alloc (Nat.le_refl _) _) q11, q12.alloc q12.size _⟩)
          clear hK K hH
          have hH := hH2
          clear hH2
          try simp only [Act.put, List.setIfInBounds_toArray, List.set_cons_zero, List.set_cons_succ]
          have hT : Vb ((wo.alloc (.cells #[.int .i64 0, .int .i64 0, .int .i64 0, .int .i64 0] 55)).drew) wo.heap.size := Vb.drew (Vb.here wo)
          obtain ⟨gT, hgT⟩ : ∃ g, g = wo.heap.size := ⟨_, rfl⟩
          have hlT : w1.heap.size ≤ gT := by rw [hgT]; exact q12.size
          rw [← hgT] at hT
          try rw [← hgT]
          clear hgT q0 q1 q2 q3 q4 q5 q6 q7 q8 q9 q10 q11 q12
          generalize (wo.alloc (.cells #[.int .i64 0, .int .i64 0, .int .i64 0, .int .i64 0] 55)).drew = wx14 at *
          refine wpAnyU_ready (rs := [15, 16]) (by kernel_rfl) (by simp) ?_
          refine AllReadyU.cons 0 (by kernel_rfl) (o := _) rfl (fun K hK => ?_) ?_
          · try clear hb
            have hG := hH
            replace hG := S4o0 hG; (try dsimp only at hG); have q0 := hG.1; have q1 := hG.2.1; have q2 := hG.2.2.1; have q3 := hG.2.2.2.1; have q4 := hG.2.2.2.2.1; have q5 := hG.2.2.2.2.2.1; have q6 := hG.2.2.2.2.2.2.1; have q7 := hG.2.2.2.2.2.2.2.1; have q8 := hG.2.2.2.2.2.2.2.2.1; have q9 := hG.2.2.2.2.2.2.2.2.2.1; have q10 := hG.2.2.2.2.2.2.2.2.2.2.1; have q11 := hG.2.2.2.2.2.2.2.2.2.2.2.1; have q12 := hG.2.2.2.2.2.2.2.2.2.2.2.2
            have hZT := Vb.lt hT
            go_simp
            refine hK.out _ _ ?hsr3_16 (fun hH2 => ?hrr3_16)
            case hsr3_16 => exact S4i0 (by have hG := hH; replace hG := S4o0 hG; (try dsimp only at hG); have q0 := hG.1; have q1 := hG.2.1; have q2 := hG.2.2.1; have q3 := hG.2.2.2.1; have q4 := hG.2.2.2.2.1; have q5 := hG.2.2.2.2.2.1; have q6 := hG.2.2.2.2.2.2.1; have q7 := hG.2.2.2.2.2.2.2.1; have q8 := hG.2.2.2.2.2.2.2.2.1; have q9 := hG.2.2.2.2.2.2.2.2.2.1; have q10 := hG.2.2.2.2.2.2.2.2.2.2.1; have q11 := hG.2.2.2.2.2.2.2.2.2.2.2.1; have q12 := hG.2.2.2.2.2.2.2.2.2.2.2.2; exact ⟨keepCell ((Below.refl _ _).alloc (Nat.le_refl _) _) q0, keepCell ((Below.refl _ _).alloc (Nat.le_refl _) _) q1, keepCell ((Below.refl _ _).alloc (Nat.le_refl _) _) q2, keepCell ((Below.refl _ _).alloc (Nat.le_refl _) _) q3, keepCell ((Below.refl _ _).alloc (Nat.le_refl _) _) q4, keepCell ((Below.refl _ _).alloc (Nat.le_refl _) _) q5, keepCell ((Below.refl _ _).alloc (Nat.le_refl _) _) q6, keepCell ((Below.refl _ _).alloc (Nat.le_refl _) _) q7, keepCell ((Below.refl _ _).alloc (Nat.le_refl _) _) q8, keepCell ((Below.refl _ _).alloc (Nat.le_refl _) _) q9, keepCell ((Below.refl _ _).alloc (Nat.le_refl _) _) q10, keepCell ((Below.refl _ _).alloc (Nat.le_refl _) _) q11, q12.alloc q12.size _⟩)
            clear hK K hH
            have hH := hH2
            clear hH2
            try simp only [Act.put, List.setIfInBounds_toArray, List.set_cons_zero, List.set_cons_succ]
            have hU : Vb (wx14.alloc (.cells #[.int .i64 0, .int .i64 0, .int .i64 0, .int .i64 0] 55)) wx14.heap.size := Vb.here wx14
            replace hT := keepVb ((Below.refl _ _).alloc (Nat.le_refl _) (.cells #[.int .i64 0, .int .i64 0, .int .i64 0, .int .i64 0] 55)) hT
            obtain ⟨gU, hgU⟩ : ∃ g, g = wx14.heap.size := ⟨_, rfl⟩
            have hlU : w1.heap.size ≤ gU ∧ gT < gU := by rw [hgU]; exact ⟨q12.size, hZT⟩
            rw [← hgU] at hU
            try rw [← hgU]
            clear hgU q0 q1 q2 q3 q4 q5 q6 q7 q8 q9 q10 q11 q12
            generalize wx14.alloc (.cells #[.int .i64 0, .int .i64 0, .int .i64 0, .int .i64 0] 55) = wx15 at *
            refine wpAnyU_ready (rs := [16]) (by kernel_rfl) (by simp) ?_
            refine AllReadyU.cons 0 (by kernel_rfl) (o := _) rfl (fun K hK => ?_) AllReadyU.nil
            try clear hb
            have hG := hH
            replace hG := S4o0 hG; (try dsimp only at hG); have q0 := hG.1; have q1 := hG.2.1; have q2 := hG.2.2.1; have q3 := hG.2.2.2.1; have q4 := hG.2.2.2.2.1; have q5 := hG.2.2.2.2.2.1; have q6 := hG.2.2.2.2.2.2.1; have q7 := hG.2.2.2.2.2.2.2.1; have q8 := hG.2.2.2.2.2.2.2.2.1; have q9 := hG.2.2.2.2.2.2.2.2.2.1; have q10 := hG.2.2.2.2.2.2.2.2.2.2.1; have q11 := hG.2.2.2.2.2.2.2.2.2.2.2.1; have q12 := hG.2.2.2.2.2.2.2.2.2.2.2.2
            have hZT := Vb.lt hT
            have hZU := Vb.lt hU
            go_simp
            refine hK.out _ _ ?hsr3_17 (fun hH2 => ?hrr3_17)
            case hsr3_17 => exact S4i0 (by have hG := hH; replace hG := S4o0 hG; (try dsimp only at hG); have q0 := hG.1; have q1 := hG.2.1; have q2 := hG.2.2.1; have q3 := hG.2.2.2.1; have q4 := hG.2.2.2.2.1; have q5 := hG.2.2.2.2.2.1; have q6 := hG.2.2.2.2.2.2.1; have q7 := hG.2.2.2.2.2.2.2.1; have q8 := hG.2.2.2.2.2.2.2.2.1; have q9 := hG.2.2.2.2.2.2.2.2.2.1; have q10 := hG.2.2.2.2.2.2.2.2.2.2.1; have q11 := hG.2.2.2.2.2.2.2.2.2.2.2.1; have q12 := hG.2.2.2.2.2.2.2.2.2.2.2.2; exact ⟨keepCell ((Below.refl _ _).alloc (Nat.le_refl _) _) q0, keepCell ((Below.refl _ _).alloc (Nat.le_refl _) _) q1, keepCell ((Below.refl _ _).alloc (Nat.le_refl _) _) q2, keepCell ((Below.refl _ _).alloc (Nat.le_refl _) _) q3, keepCell ((Below.refl _ _).alloc (Nat.le_refl _) _) q4, keepCell ((Below.refl _ _).alloc (Nat.le_refl _) _) q5, keepCell ((Below.refl _ _).alloc (Nat.le_refl _) _) q6, keepCell ((Below.refl _ _).alloc (Nat.le_refl _) _) q7, keepCell ((Below.refl _ _).alloc (Nat.le_refl _) _) q8, keepCell ((Below.refl _ _).alloc (Nat.le_refl _) _) q9, keepCell ((Below.refl _ _).alloc (Nat.le_refl _) _) q10, keepCell ((Below.refl _ _).alloc (Nat.le_refl _) _) q11, q12.alloc q12.size _⟩)
            clear hK K hH
            have hH := hH2
            clear hH2
            try simp only [Act.put, List.setIfInBounds_toArray, List.set_cons_zero, List.set_cons_succ]
            have hV : Vb (wx15.alloc (.cells #[.int .i64 0, .int .i64 0, .int .i64 0, .int .i64 0] 55)) wx15.heap.size := Vb.here wx15
            replace hT := keepVb ((Below.refl _ _).alloc (Nat.le_refl _) (.cells #[.int .i64 0, .int .i64 0, .int .i64 0, .int .i64 0] 55)) hT
            replace hU := keepVb ((Below.refl _ _).alloc (Nat.le_refl _) (.cells #[.int .i64 0, .int .i64 0, .int .i64 0, .int .i64 0] 55)) hU
            obtain ⟨gV, hgV⟩ : ∃ g, g = wx15.heap.size := ⟨_, rfl⟩
            have hlV : w1.heap.size ≤ gV ∧ gT < gV ∧ gU < gV := by rw [hgV]; exact ⟨q12.size, hZT, hZU⟩
            rw [← hgV] at hV
            try rw [← hgV]
            clear hgV q0 q1 q2 q3 q4 q5 q6 q7 q8 q9 q10 q11 q12
            generalize wx15.alloc (.cells #[.int .i64 0, .int .i64 0, .int .i64 0, .int .i64 0] 55) = wx16 at *
            refine wpAnyU_ready (rs := [17]) (by kernel_rfl) (by simp) ?_
            refine AllReadyU.cons 1 (by kernel_rfl) (o := _) rfl (fun K hK => ?_) AllReadyU.nil
            have hG := hH
            replace hG := S4o0 hG; (try dsimp only at hG); have q0 := hG.1; have q1 := hG.2.1; have q2 := hG.2.2.1; have q3 := hG.2.2.2.1; have q4 := hG.2.2.2.2.1; have q5 := hG.2.2.2.2.2.1; have q6 := hG.2.2.2.2.2.2.1; have q7 := hG.2.2.2.2.2.2.2.1; have q8 := hG.2.2.2.2.2.2.2.2.1; have q9 := hG.2.2.2.2.2.2.2.2.2.1; have q10 := hG.2.2.2.2.2.2.2.2.2.2.1; have q11 := hG.2.2.2.2.2.2.2.2.2.2.2.1; have q12 := hG.2.2.2.2.2.2.2.2.2.2.2.2
            have HT := hid hT
            have HU := hid hU
            have HV := hid hV
            have HB := hid q12
            clear hT hU hV q0 q1 q2 q3 q12
            have hnb : gT ≠ b := by omega
            obtain ⟨⟨⟨_, x0⟩, ⟨_, x1⟩, ⟨_, x2⟩, ⟨_, x3⟩⟩, xf⟩ := HT.out
            go_simp
            refine hK.out _ _ ?hsr3_18 (fun hH2 => ?hrr3_18)
            case hsr3_18 => exact S4i1 ⟨far1 hnb (far1 hnb (far1 hnb (far1 hnb q4))), far1 hnb (far1 hnb (far1 hnb (far1 hnb q5))), far1 hnb (far1 hnb (far1 hnb (far1 hnb q6))), far1 hnb (far1 hnb (far1 hnb (far1 hnb q7))), far1 hnb (far1 hnb (far1 hnb (far1 hnb q8))), far1 hnb (far1 hnb (far1 hnb (far1 hnb q9))), far1 hnb (far1 hnb (far1 hnb (far1 hnb q10))), far1 hnb (far1 hnb (far1 hnb (far1 hnb q11)))⟩
            clear hK K hH
            have hH := hH2
            clear hH2
            try simp only [Act.put, List.setIfInBounds_toArray, List.set_cons_zero, List.set_cons_succ]
            replace HT := hid (HT.out.put4 ((a1, a2), (a3, a4)))
            replace HU := hid (HU.out.off4 (show gT ≠ gU by omega) ((a1, a2), (a3, a4)))
            replace HV := hid (HV.out.off4 (show gT ≠ gV by omega) ((a1, a2), (a3, a4)))
            replace HB := hid (below_put4 HB.out (show w1.heap.size ≤ gT by omega) ((a1, a2), (a3, a4)))
            obtain ⟨wy17, hwy⟩ : ∃ w', w' = (((wx16.setCell ⟨gT, 0, none⟩ (.int .i64 a1)).setCell ⟨gT, 1, none⟩ (.int .i64 a2)).setCell ⟨gT, 2, none⟩ (.int .i64 a3)).setCell ⟨gT, 3, none⟩ (.int .i64 a4) := ⟨_, rfl⟩
            replace HT : Hid (Vd wy17 gT ((a1, a2), (a3, a4))) := by rw [hwy]; exact HT
            replace HU : Hid (Vb wy17 gU) := by rw [hwy]; exact HU
            replace HV : Hid (Vb wy17 gV) := by rw [hwy]; exact HV
            replace HB : Hid (Below w1.heap.size w1 wy17) := by rw [hwy]; exact HB
            try rw [← hwy] at hH
            rw [← hwy]
            clear hwy x0 x1 x2 x3 xf hnb q4 q5 q6 q7 q8 q9 q10 q11
            refine wpAnyU_ready (rs := [18]) (by kernel_rfl) (by simp) ?_
            refine AllReadyU.cons 2 (by kernel_rfl) (o := _) rfl (fun K hK => ?_) AllReadyU.nil
            have hG := hH
            replace hG := S4o1 hG; (try dsimp only at hG); have q4 := hG.1; have q5 := hG.2.1; have q6 := hG.2.2.1; have q7 := hG.2.2.2.1; have q8 := hG.2.2.2.2.1; have q9 := hG.2.2.2.2.2.1; have q10 := hG.2.2.2.2.2.2.1; have q11 := hG.2.2.2.2.2.2.2
            have hnb : gU ≠ b := by omega
            obtain ⟨⟨⟨_, x0⟩, ⟨_, x1⟩, ⟨_, x2⟩, ⟨_, x3⟩⟩, xf⟩ := HU.out
            go_simp
            refine hK.out _ _ ?hsr3_19 (fun hH2 => ?hrr3_19)
            case hsr3_19 => exact S4i2 ⟨far1 hnb (far1 hnb (far1 hnb (far1 hnb q8))), far1 hnb (far1 hnb (far1 hnb (far1 hnb q9))), far1 hnb (far1 hnb (far1 hnb (far1 hnb q10))), far1 hnb (far1 hnb (far1 hnb (far1 hnb q11)))⟩
            clear hK K hH
            have hH := hH2
            clear hH2
            try simp only [Act.put, List.setIfInBounds_toArray, List.set_cons_zero, List.set_cons_succ]
            replace HT := hid (HT.out.off4 (show gU ≠ gT by omega) ((b1, b2), (b3, b4)))
            replace HU := hid (HU.out.put4 ((b1, b2), (b3, b4)))
            replace HV := hid (HV.out.off4 (show gU ≠ gV by omega) ((b1, b2), (b3, b4)))
            replace HB := hid (below_put4 HB.out (show w1.heap.size ≤ gU by omega) ((b1, b2), (b3, b4)))
            obtain ⟨wy18, hwy⟩ : ∃ w', w' = (((wy17.setCell ⟨gU, 0, none⟩ (.int .i64 b1)).setCell ⟨gU, 1, none⟩ (.int .i64 b2)).setCell ⟨gU, 2, none⟩ (.int .i64 b3)).setCell ⟨gU, 3, none⟩ (.int .i64 b4) := ⟨_, rfl⟩
            replace HT : Hid (Vd wy18 gT ((a1, a2), (a3, a4))) := by rw [hwy]; exact HT
            replace HU : Hid (Vd wy18 gU ((b1, b2), (b3, b4))) := by rw [hwy]; exact HU
            replace HV : Hid (Vb wy18 gV) := by rw [hwy]; exact HV
            replace HB : Hid (Below w1.heap.size w1 wy18) := by rw [hwy]; exact HB
            try rw [← hwy] at hH
            rw [← hwy]
            clear hwy x0 x1 x2 x3 xf hnb q4 q5 q6 q7 q8 q9 q10 q11
            refine wpAnyU_ready (rs := [19]) (by kernel_rfl) (by simp) ?_
            refine AllReadyU.cons 3 (by kernel_rfl) (o := _) rfl (fun K hK => ?_) AllReadyU.nil
            have hnb : gV ≠ b := by omega
            obtain ⟨⟨⟨_, x0⟩, ⟨_, x1⟩, ⟨_, x2⟩, ⟨_, x3⟩⟩, xf⟩ := HV.out
            go_simp
            refine hK.out _ _ ?hsr3_20 (fun hH2 => ?hrr3_20)
            case hsr3_20 => exact S4i3
            clear hK K hH
            have hH := hH2
            clear hH2
            try simp only [Act.put, List.setIfInBounds_toArray, List.set_cons_zero, List.set_cons_succ]
            replace HT := hid (HT.out.off4 (show gV ≠ gT by omega) ((c1, c2), (c3, c4)))
            replace HU := hid (HU.out.off4 (show gV ≠ gU by omega) ((c1, c2), (c3, c4)))
            replace HV := hid (HV.out.put4 ((c1, c2), (c3, c4)))
            replace HB := hid (below_put4 HB.out (show w1.heap.size ≤ gV by omega) ((c1, c2), (c3, c4)))
            obtain ⟨wy19, hwy⟩ : ∃ w', w' = (((wy18.setCell ⟨gV, 0, none⟩ (.int .i64 c1)).setCell ⟨gV, 1, none⟩ (.int .i64 c2)).setCell ⟨gV, 2, none⟩ (.int .i64 c3)).setCell ⟨gV, 3, none⟩ (.int .i64 c4) := ⟨_, rfl⟩
            replace HT : Hid (Vd wy19 gT ((a1, a2), (a3, a4))) := by rw [hwy]; exact HT
            replace HU : Hid (Vd wy19 gU ((b1, b2), (b3, b4))) := by rw [hwy]; exact HU
            replace HV : Hid (Vd wy19 gV ((c1, c2), (c3, c4))) := by rw [hwy]; exact HV
            replace HB : Hid (Below w1.heap.size w1 wy19) := by rw [hwy]; exact HB
            try rw [← hwy] at hH
            rw [← hwy]
            clear hwy x0 x1 x2 x3 xf hnb
            refine wpAnyU_done (by kernel_rfl) ?_ _ _
            refine NoPanic.normal ?_
            go_wp2_with fail
            go_meet
            exact ⟨gT, gU, gV, rfl, rfl, rfl, HT.out, HU.out, HV.out, HB.out⟩
          refine AllReadyU.cons 0 (by kernel_rfl) (o := _) rfl (fun K hK => ?_) ?_
          · try clear hb
            have hG := hH
            replace hG := S4o0 hG; (try dsimp only at hG); have q0 := hG.1; have q1 := hG.2.1; have q2 := hG.2.2.1; have q3 := hG.2.2.2.1; have q4 := hG.2.2.2.2.1; have q5 := hG.2.2.2.2.2.1; have q6 := hG.2.2.2.2.2.2.1; have q7 := hG.2.2.2.2.2.2.2.1; have q8 := hG.2.2.2.2.2.2.2.2.1; have q9 := hG.2.2.2.2.2.2.2.2.2.1; have q10 := hG.2.2.2.2.2.2.2.2.2.2.1; have q11 := hG.2.2.2.2.2.2.2.2.2.2.2.1; have q12 := hG.2.2.2.2.2.2.2.2.2.2.2.2
            have hZT := Vb.lt hT
            go_simp
            refine hK.out _ _ ?hsr3_21 (fun hH2 => ?hrr3_21)
            case hsr3_21 => exact S4i0 (by have hG := hH; replace hG := S4o0 hG; (try dsimp only at hG); have q0 := hG.1; have q1 := hG.2.1; have q2 := hG.2.2.1; have q3 := hG.2.2.2.1; have q4 := hG.2.2.2.2.1; have q5 := hG.2.2.2.2.2.1; have q6 := hG.2.2.2.2.2.2.1; have q7 := hG.2.2.2.2.2.2.2.1; have q8 := hG.2.2.2.2.2.2.2.2.1; have q9 := hG.2.2.2.2.2.2.2.2.2.1; have q10 := hG.2.2.2.2.2.2.2.2.2.2.1; have q11 := hG.2.2.2.2.2.2.2.2.2.2.2.1; have q12 := hG.2.2.2.2.2.2.2.2.2.2.2.2; exact ⟨keepCell ((Below.refl _ _).alloc (Nat.le_refl _) _) q0, keepCell ((Below.refl _ _).alloc (Nat.le_refl _) _) q1, keepCell ((Below.refl _ _).alloc (Nat.le_refl _) _) q2, keepCell ((Below.refl _ _).alloc (Nat.le_refl _) _) q3, keepCell ((Below.refl _ _).alloc (Nat.le_refl _) _) q4, keepCell ((Below.refl _ _).alloc (Nat.le_refl _) _) q5, keepCell ((Below.refl _ _).alloc (Nat.le_refl _) _) q6, keepCell ((Below.refl _ _).alloc (Nat.le_refl _) _) q7, keepCell ((Below.refl _ _).alloc (Nat.le_refl _) _) q8, keepCell ((Below.refl _ _).alloc (Nat.le_refl _) _) q9, keepCell ((Below.refl _ _).alloc (Nat.le_refl _) _) q10, keepCell ((Below.refl _ _).alloc (Nat.le_refl _) _) q11, q12.alloc q12.size _⟩)
            clear hK K hH
            have hH := hH2
            clear hH2
            try simp only [Act.put, List.setIfInBounds_toArray, List.set_cons_zero, List.set_cons_succ]
            have hV : Vb (wx14.alloc (.cells #[.int .i64 0, .int .i64 0, .int .i64 0, .int .i64 0] 55)) wx14.heap.size := Vb.here wx14
            replace hT := keepVb ((Below.refl _ _).alloc (Nat.le_refl _) (.cells #[.int .i64 0, .int .i64 0, .int .i64 0, .int .i64 0] 55)) hT
            obtain ⟨gV, hgV⟩ : ∃ g, g = wx14.heap.size := ⟨_, rfl⟩
            have hlV : w1.heap.size ≤ gV ∧ gT < gV := by rw [hgV]; exact ⟨q12.size, hZT⟩
            rw [← hgV] at hV
            try rw [← hgV]
            clear hgV q0 q1 q2 q3 q4 q5 q6 q7 q8 q9 q10 q11 q12
            generalize wx14.alloc (.cells #[.int .i64 0, .int .i64 0, .int .i64 0, .int .i64 0] 55) = wx16 at *
            refine wpAnyU_ready (rs := [15]) (by kernel_rfl) (by simp) ?_
            refine AllReadyU.cons 0 (by kernel_rfl) (o := _) rfl (fun K hK => ?_) AllReadyU.nil
            try clear hb
            have hG := hH
            replace hG := S4o0 hG; (try dsimp only at hG); have q0 := hG.1; have q1 := hG.2.1; have q2 := hG.2.2.1; have q3 := hG.2.2.2.1; have q4 := hG.2.2.2.2.1; have q5 := hG.2.2.2.2.2.1; have q6 := hG.2.2.2.2.2.2.1; have q7 := hG.2.2.2.2.2.2.2.1; have q8 := hG.2.2.2.2.2.2.2.2.1; have q9 := hG.2.2.2.2.2.2.2.2.2.1; have q10 := hG.2.2.2.2.2.2.2.2.2.2.1; have q11 := hG.2.2.2.2.2.2.2.2.2.2.2.1; have q12 := hG.2.2.2.2.2.2.2.2.2.2.2.2
            have hZT := Vb.lt hT
            have hZV := Vb.lt hV
            go_simp
            refine hK.out _ _ ?hsr3_22 (fun hH2 => ?hrr3_22)
            case hsr3_22 => exact S4i0 (by have hG := hH; replace hG := S4o0 hG; (try dsimp only at hG); have q0 := hG.1; have q1 := hG.2.1; have q2 := hG.2.2.1; have q3 := hG.2.2.2.1; have q4 := hG.2.2.2.2.1; have q5 := hG.2.2.2.2.2.1; have q6 := hG.2.2.2.2.2.2.1; have q7 := hG.2.2.2.2.2.2.2.1; have q8 := hG.2.2.2.2.2.2.2.2.1; have q9 := hG.2.2.2.2.2.2.2.2.2.1; have q10 := hG.2.2.2.2.2.2.2.2.2.2.1; have q11 := hG.2.2.2.2.2.2.2.2.2.2.2.1; have q12 := hG.2.2.2.2.2.2.2.2.2.2.2.2; exact ⟨keepCell ((Below.refl _ _).alloc (Nat.le_refl _) _) q0, keepCell ((Below.refl _ _).alloc (Nat.le_refl _) _) q1, keepCell ((Below.refl _ _).alloc (Nat.le_refl _) _) q2, keepCell ((Below.refl _ _).alloc (Nat.le_refl _) _) q3, keepCell ((Below.refl _ _).alloc (Nat.le_refl _) _) q4, keepCell ((Below.refl _ _).alloc (Nat.le_refl _) _) q5, keepCell ((Below.refl _ _).alloc (Nat.le_refl _) _) q6, keepCell ((Below.refl _ _).alloc (Nat.le_refl _) _) q7, keepCell ((Below.refl _ _).alloc (Nat.le_refl _) _) q8, keepCell ((Below.refl _ _).alloc (Nat.le_refl _) _) q9, keepCell ((Below.refl _ _).alloc (Nat.le_refl _) _) q10, keepCell ((Below.refl _ _).alloc (Nat.le_refl _) _) q11, q12.alloc q12.size _⟩)
            clear hK K hH
            have hH := hH2
            clear hH2
            try simp only [Act.put, List.setIfInBounds_toArray, List.set_cons_zero, List.set_cons_succ]
            have hU : Vb (wx16.alloc (.cells #[.int .i64 0, .int .i64 0, .int .i64 0, .int .i64 0] 55)) wx16.heap.size := Vb.here wx16
            replace hT := keepVb ((Below.refl _ _).alloc (Nat.le_refl _) (.cells #[.int .i64 0, .int .i64 0, .int .i64 0, .int .i64 0] 55)) hT
            replace hV := keepVb ((Below.refl _ _).alloc (Nat.le_refl _) (.cells #[.int .i64 0, .int .i64 0, .int .i64 0, .int .i64 0] 55)) hV
            obtain ⟨gU, hgU⟩ : ∃ g, g = wx16.heap.size := ⟨_, rfl⟩
            have hlU : w1.heap.size ≤ gU ∧ gT < gU ∧ gV < gU := by rw [hgU]; exact ⟨q12.size, hZT, hZV⟩
            rw [← hgU] at hU
            try rw [← hgU]
            clear hgU q0 q1 q2 q3 q4 q5 q6 q7 q8 q9 q10 q11 q12
            generalize wx16.alloc (.cells #[.int .i64 0, .int .i64 0, .int .i64 0, .int .i64 0] 55) = wx15 at *
            refine wpAnyU_ready (rs := [17]) (by kernel_rfl) (by simp) ?_
            refine AllReadyU.cons 1 (by kernel_rfl) (o := _) rfl (fun K hK => ?_) AllReadyU.nil
            have hG := hH
            replace hG := S4o0 hG; (try dsimp only at hG); have q0 := hG.1; have q1 := hG.2.1; have q2 := hG.2.2.1; have q3 := hG.2.2.2.1; have q4 := hG.2.2.2.2.1; have q5 := hG.2.2.2.2.2.1; have q6 := hG.2.2.2.2.2.2.1; have q7 := hG.2.2.2.2.2.2.2.1; have q8 := hG.2.2.2.2.2.2.2.2.1; have q9 := hG.2.2.2.2.2.2.2.2.2.1; have q10 := hG.2.2.2.2.2.2.2.2.2.2.1; have q11 := hG.2.2.2.2.2.2.2.2.2.2.2.1; have q12 := hG.2.2.2.2.2.2.2.2.2.2.2.2
            have HT := hid hT
            have HU := hid hU
            have HV := hid hV
            have HB := hid q12
            clear hT hU hV q0 q1 q2 q3 q12
            have hnb : gT ≠ b := by omega
            obtain ⟨⟨⟨_, x0⟩, ⟨_, x1⟩, ⟨_, x2⟩, ⟨_, x3⟩⟩, xf⟩ := HT.out
            go_simp
            refine hK.out _ _ ?hsr3_23 (fun hH2 => ?hrr3_23)
            case hsr3_23 => exact S4i1 ⟨far1 hnb (far1 hnb (far1 hnb (far1 hnb q4))), far1 hnb (far1 hnb (far1 hnb (far1 hnb q5))), far1 hnb (far1 hnb (far1 hnb (far1 hnb q6))), far1 hnb (far1 hnb (far1 hnb (far1 hnb q7))), far1 hnb (far1 hnb (far1 hnb (far1 hnb q8))), far1 hnb (far1 hnb (far1 hnb (far1 hnb q9))), far1 hnb (far1 hnb (far1 hnb (far1 hnb q10))), far1 hnb (far1 hnb (far1 hnb (far1 hnb q11)))⟩
            clear hK K hH
            have hH := hH2
            clear hH2
            try simp only [Act.put, List.setIfInBounds_toArray, List.set_cons_zero, List.set_cons_succ]
            replace HT := hid (HT.out.put4 ((a1, a2), (a3, a4)))
            replace HU := hid (HU.out.off4 (show gT ≠ gU by omega) ((a1, a2), (a3, a4)))
            replace HV := hid (HV.out.off4 (show gT ≠ gV by omega) ((a1, a2), (a3, a4)))
            replace HB := hid (below_put4 HB.out (show w1.heap.size ≤ gT by omega) ((a1, a2), (a3, a4)))
            obtain ⟨wy17, hwy⟩ : ∃ w', w' = (((wx15.setCell ⟨gT, 0, none⟩ (.int .i64 a1)).setCell ⟨gT, 1, none⟩ (.int .i64 a2)).setCell ⟨gT, 2, none⟩ (.int .i64 a3)).setCell ⟨gT, 3, none⟩ (.int .i64 a4) := ⟨_, rfl⟩
            replace HT : Hid (Vd wy17 gT ((a1, a2), (a3, a4))) := by rw [hwy]; exact HT
            replace HU : Hid (Vb wy17 gU) := by rw [hwy]; exact HU
            replace HV : Hid (Vb wy17 gV) := by rw [hwy]; exact HV
            replace HB : Hid (Below w1.heap.size w1 wy17) := by rw [hwy]; exact HB
            try rw [← hwy] at hH
            rw [← hwy]
            clear hwy x0 x1 x2 x3 xf hnb q4 q5 q6 q7 q8 q9 q10 q11
            refine wpAnyU_ready (rs := [18]) (by kernel_rfl) (by simp) ?_
            refine AllReadyU.cons 2 (by kernel_rfl) (o := _) rfl (fun K hK => ?_) AllReadyU.nil
            have hG := hH
            replace hG := S4o1 hG; (try dsimp only at hG); have q4 := hG.1; have q5 := hG.2.1; have q6 := hG.2.2.1; have q7 := hG.2.2.2.1; have q8 := hG.2.2.2.2.1; have q9 := hG.2.2.2.2.2.1; have q10 := hG.2.2.2.2.2.2.1; have q11 := hG.2.2.2.2.2.2.2
            have hnb : gU ≠ b := by omega
            obtain ⟨⟨⟨_, x0⟩, ⟨_, x1⟩, ⟨_, x2⟩, ⟨_, x3⟩⟩, xf⟩ := HU.out
            go_simp
            refine hK.out _ _ ?hsr3_24 (fun hH2 => ?hrr3_24)
            case hsr3_24 => exact S4i2 ⟨far1 hnb (far1 hnb (far1 hnb (far1 hnb q8))), far1 hnb (far1 hnb (far1 hnb (far1 hnb q9))), far1 hnb (far1 hnb (far1 hnb (far1 hnb q10))), far1 hnb (far1 hnb (far1 hnb (far1 hnb q11)))⟩
            clear hK K hH
            have hH := hH2
            clear hH2
            try simp only [Act.put, List.setIfInBounds_toArray, List.set_cons_zero, List.set_cons_succ]
            replace HT := hid (HT.out.off4 (show gU ≠ gT by omega) ((b1, b2), (b3, b4)))
            replace HU := hid (HU.out.put4 ((b1, b2), (b3, b4)))
            replace HV := hid (HV.out.off4 (show gU ≠ gV by omega) ((b1, b2), (b3, b4)))
            replace HB := hid (below_put4 HB.out (show w1.heap.size ≤ gU by omega) ((b1, b2), (b3, b4)))
            obtain ⟨wy18, hwy⟩ : ∃ w', w' = (((wy17.setCell ⟨gU, 0, none⟩ (.int .i64 b1)).setCell ⟨gU, 1, none⟩ (.int .i64 b2)).setCell ⟨gU, 2, none⟩ (.int .i64 b3)).setCell ⟨gU, 3, none⟩ (.int .i64 b4) := ⟨_, rfl⟩
            replace HT : Hid (Vd wy18 gT ((a1, a2), (a3, a4))) := by rw [hwy]; exact HT
            replace HU : Hid (Vd wy18 gU ((b1, b2), (b3, b4))) := by rw [hwy]; exact HU
            replace HV : Hid (Vb wy18 gV) := by rw [hwy]; exact HV
            replace HB : Hid (Below w1.heap.size w1 wy18) := by rw [hwy]; exact HB
            try rw [← hwy] at hH
            rw [← hwy]
            clear hwy x0 x1 x2 x3 xf hnb q4 q5 q6 q7 q8 q9 q10 q11
            refine wpAnyU_ready (rs := [19]) (by kernel_rfl) (by simp) ?_
            refine AllReadyU.cons 3 (by kernel_rfl) (o := _) rfl (fun K hK => ?_) AllReadyU.nil
            have hnb : gV ≠ b := by omega
            obtain ⟨⟨⟨_, x0⟩, ⟨_, x1⟩, ⟨_, x2⟩, ⟨_, x3⟩⟩, xf⟩ := HV.out
            go_simp
            refine hK.out _ _ ?hsr3_25 (fun hH2 => ?hrr3_25)
            case hsr3_25 => exact S4i3
            clear hK K hH
            have hH := hH2
            clear hH2
            try simp only [Act.put, List.setIfInBounds_toArray, List.set_cons_zero, List.set_cons_succ]
            replace HT := hid (HT.out.off4 (show gV ≠ gT by omega) ((c1, c2), (c3, c4)))
            replace HU := hid (HU.out.off4 (show gV ≠ gU by omega) ((c1, c2), (c3, c4)))
            replace HV := hid (HV.out.put4 ((c1, c2), (c3, c4)))
            replace HB := hid (below_put4 HB.out (show w1.heap.size ≤ gV by omega) ((c1, c2), (c3, c4)))
            obtain ⟨wy19, hwy⟩ : ∃ w', w' = (((wy18.setCell ⟨gV, 0, none⟩ (.int .i64 c1)).setCell ⟨gV, 1, none⟩ (.int .i64 c2)).setCell ⟨gV, 2, none⟩ (.int .i64 c3)).setCell ⟨gV, 3, none⟩ (.int .i64 c4) := ⟨_, rfl⟩
            replace HT : Hid (Vd wy19 gT ((a1, a2), (a3, a4))) := by rw [hwy]; exact HT
            replace HU : Hid (Vd wy19 gU ((b1, b2), (b3, b4))) := by rw [hwy]; exact HU
            replace HV : Hid (Vd wy19 gV ((c1, c2), (c3, c4))) := by rw [hwy]; exact HV
            replace HB : Hid (Below w1.heap.size w1 wy19) := by rw [hwy]; exact HB
            try rw [← hwy] at hH
            rw [← hwy]
            clear hwy x0 x1 x2 x3 xf hnb
            refine wpAnyU_done (by kernel_rfl) ?_ _ _
            refine NoPanic.normal ?_
            go_wp2_with fail
            go_meet
            exact ⟨gT, gU, gV, rfl, rfl, rfl, HT.out, HU.out, HV.out, HB.out⟩
          exact AllReadyU.nil
        refine AllReadyU.cons 0 (by kernel_rfl) (o := _) rfl (fun K hK => ?_) ?_
        · try clear hb
          have hG := hH
          replace hG := S4o0 hG; (try dsimp only at hG); have q0 := hG.1; have q1 := hG.2.1; have q2 := hG.2.2.1; have q3 := hG.2.2.2.1; have q4 := hG.2.2.2.2.1; have q5 := hG.2.2.2.2.2.1; have q6 := hG.2.2.2.2.2.2.1; have q7 := hG.2.2.2.2.2.2.2.1; have q8 := hG.2.2.2.2.2.2.2.2.1; have q9 := hG.2.2.2.2.2.2.2.2.2.1; have q10 := hG.2.2.2.2.2.2.2.2.2.2.1; have q11 := hG.2.2.2.2.2.2.2.2.2.2.2.1; have q12 := hG.2.2.2.2.2.2.2.2.2.2.2.2
          go_simp
          refine hK.out _ _ ?hsr3_26 (fun hH2 => ?hrr3_26)
          case hsr3_26 => exact S4i0 (by have hG := hH; replace hG := S4o0 hG; (try dsimp only at hG); have q0 := hG.1; have q1 := hG.2.1; have q2 := hG.2.2.1; have q3 := hG.2.2.2.1; have q4 := hG.2.2.2.2.1; have q5 := hG.2.2.2.2.2.1; have q6 := hG.2.2.2.2.2.2.1; have q7 := hG.2.2.2.2.2.2.2.1; have q8 := hG.2.2.2.2.2.2.2.2.1; have q9 := hG.2.2.2.2.2.2.2.2.2.1; have q10 := hG.2.2.2.2.2.2.2.2.2.2.1; have q11 := hG.2.2.2.2.2.2.2.2.2.2.2.1; have q12 := hG.2.2.2.2.2.2.2.2.2.2.2.2; exact ⟨keepCell ((Below.refl _ _).alloc (Nat.le_refl _) _) q0, keepCell ((Below.refl _ _).alloc (Nat.le_refl _) _) q1, keepCell ((Below.refl _ _).alloc (Nat.le_refl _) _) q2, keepCell ((Below.refl _ _).alloc (Nat.le_refl _) _) q3, keepCell ((Below.refl _ _).alloc (Nat.le_refl _) _) q4, keepCell ((Below.refl _ _).alloc (Nat.le_refl _) _) q5, keepCell ((Below.refl _ _).alloc (Nat.le_refl _) _) q6, keepCell ((Below.refl _ _).alloc (Nat.le_refl _) _) q7, keepCell ((Below.refl _ _).alloc (Nat.le_refl _) _) q8, keepCell ((Below.refl _ _).alloc (Nat.le_refl _) _) q9, keepCell ((Below.refl _ _).alloc (Nat.le_refl _) _) q10, keepCell ((Below.refl _ _).alloc (Nat.le_refl _) _) q11, q12.alloc q12.size _⟩)
          clear hK K hH
          have hH := hH2
          clear hH2
          try simp only [Act.put, List.setIfInBounds_toArray, List.set_cons_zero, List.set_cons_succ]
          have hU : Vb ((wo.alloc (.cells #[.int .i64 0, .int .i64 0, .int .i64 0, .int .i64 0] 55)).drew) wo.heap.size := Vb.drew (Vb.here wo)
          obtain ⟨gU, hgU⟩ : ∃ g, g = wo.heap.size := ⟨_, rfl⟩
          have hlU : w1.heap.size ≤ gU := by rw [hgU]; exact q12.size
          rw [← hgU] at hU
          try rw [← hgU]
          clear hgU q0 q1 q2 q3 q4 q5 q6 q7 q8 q9 q10 q11 q12
          generalize (wo.alloc (.cells #[.int .i64 0, .int .i64 0, .int .i64 0, .int .i64 0] 55)).drew = wx15 at *
          refine wpAnyU_ready (rs := [14, 16]) (by kernel_rfl) (by simp) ?_
          refine AllReadyU.cons 0 (by kernel_rfl) (o := _) rfl (fun K hK => ?_) ?_
          · try clear hb
            have hG := hH
            replace hG := S4o0 hG; (try dsimp only at hG); have q0 := hG.1; have q1 := hG.2.1; have q2 := hG.2.2.1; have q3 := hG.2.2.2.1; have q4 := hG.2.2.2.2.1; have q5 := hG.2.2.2.2.2.1; have q6 := hG.2.2.2.2.2.2.1; have q7 := hG.2.2.2.2.2.2.2.1; have q8 := hG.2.2.2.2.2.2.2.2.1; have q9 := hG.2.2.2.2.2.2.2.2.2.1; have q10 := hG.2.2.2.2.2.2.2.2.2.2.1; have q11 := hG.2.2.2.2.2.2.2.2.2.2.2.1; have q12 := hG.2.2.2.2.2.2.2.2.2.2.2.2
            have hZU := Vb.lt hU
            go_simp
            refine hK.out _ _ ?hsr3_27 (fun hH2 => ?hrr3_27)
            case hsr3_27 => exact S4i0 (by have hG := hH; replace hG := S4o0 hG; (try dsimp only at hG); have q0 := hG.1; have q1 := hG.2.1; have q2 := hG.2.2.1; have q3 := hG.2.2.2.1; have q4 := hG.2.2.2.2.1; have q5 := hG.2.2.2.2.2.1; have q6 := hG.2.2.2.2.2.2.1; have q7 := hG.2.2.2.2.2.2.2.1; have q8 := hG.2.2.2.2.2.2.2.2.1; have q9 := hG.2.2.2.2.2.2.2.2.2.1; have q10 := hG.2.2.2.2.2.2.2.2.2.2.1; have q11 := hG.2.2.2.2.2.2.2.2.2.2.2.1; have q12 := hG.2.2.2.2.2.2.2.2.2.2.2.2; exact ⟨keepCell ((Below.refl _ _).alloc (Nat.le_refl _) _) q0, keepCell ((Below.refl _ _).alloc (Nat.le_refl _) _) q1, keepCell ((Below.refl _ _).alloc (Nat.le_refl _) _) q2, keepCell ((Below.refl _ _).alloc (Nat.le_refl _) _) q3, keepCell ((Below.refl _ _).alloc (Nat.le_refl _) _) q4, keepCell ((Below.refl _ _).alloc (Nat.le_refl _) _) q5, keepCell ((Below.refl _ _).alloc (Nat.le_refl _) _) q6, keepCell ((Below.refl _ _).alloc (Nat.le_refl _) _) q7, keepCell ((Below.refl _ _).alloc (Nat.le_refl _) _) q8, keepCell ((Below.refl _ _).alloc (Nat.le_refl _) _) q9, keepCell ((Below.refl _ _).alloc (Nat.le_refl _) _) q10, keepCell ((Below.refl _ _).alloc (Nat.le_refl _) _) q11, q12.alloc q12.size _⟩)
            clear hK K hH
            have hH := hH2
            clear hH2
            try simp only [Act.put, List.setIfInBounds_toArray, List.set_cons_zero, List.set_cons_succ]
            have hT : Vb (wx15.alloc (.cells #[.int .i64 0, .int .i64 0, .int .i64 0, .int .i64 0] 55)) wx15.heap.size := Vb.here wx15
            replace hU := keepVb ((Below.refl _ _).alloc (Nat.le_refl _) (.cells #[.int .i64 0, .int .i64 0, .int .i64 0, .int .i64 0] 55)) hU
            obtain ⟨gT, hgT⟩ : ∃ g, g = wx15.heap.size := ⟨_, rfl⟩
            have hlT : w1.heap.size ≤ gT ∧ gU < gT := by rw [hgT]; exact ⟨q12.size, hZU⟩
            rw [← hgT] at hT
            try rw [← hgT]
            clear hgT q0 q1 q2 q3 q4 q5 q6 q7 q8 q9 q10 q11 q12
            generalize wx15.alloc (.cells #[.int .i64 0, .int .i64 0, .int .i64 0, .int .i64 0] 55) = wx14 at *
            refine wpAnyU_ready (rs := [16]) (by kernel_rfl) (by simp) ?_
            refine AllReadyU.cons 0 (by kernel_rfl) (o := _) rfl (fun K hK => ?_) AllReadyU.nil
            try clear hb
            have hG := hH
            replace hG := S4o0 hG; (try dsimp only at hG); have q0 := hG.1; have q1 := hG.2.1; have q2 := hG.2.2.1; have q3 := hG.2.2.2.1; have q4 := hG.2.2.2.2.1; have q5 := hG.2.2.2.2.2.1; have q6 := hG.2.2.2.2.2.2.1; have q7 := hG.2.2.2.2.2.2.2.1; have q8 := hG.2.2.2.2.2.2.2.2.1; have q9 := hG.2.2.2.2.2.2.2.2.2.1; have q10 := hG.2.2.2.2.2.2.2.2.2.2.1; have q11 := hG.2.2.2.2.2.2.2.2.2.2.2.1; have q12 := hG.2.2.2.2.2.2.2.2.2.2.2.2
            have hZT := Vb.lt hT
            have hZU := Vb.lt hU
            go_simp
            refine hK.out _ _ ?hsr3_28 (fun hH2 => ?hrr3_28)
            case hsr3_28 => exact S4i0 (by have hG := hH; replace hG := S4o0 hG; (try dsimp only at hG); have q0 := hG.1; have q1 := hG.2.1; have q2 := hG.2.2.1; have q3 := hG.2.2.2.1; have q4 := hG.2.2.2.2.1; have q5 := hG.2.2.2.2.2.1; have q6 := hG.2.2.2.2.2.2.1; have q7 := hG.2.2.2.2.2.2.2.1; have q8 := hG.2.2.2.2.2.2.2.2.1; have q9 := hG.2.2.2.2.2.2.2.2.2.1; have q10 := hG.2.2.2.2.2.2.2.2.2.2.1; have q11 := hG.2.2.2.2.2.2.2.2.2.2.2.1; have q12 := hG.2.2.2.2.2.2.2.2.2.2.2.2; exact ⟨keepCell ((Below.refl _ _).alloc (Nat.le_refl _) _) q0, keepCell ((Below.refl _ _).alloc (Nat.le_refl _) _) q1, keepCell ((Below.refl _ _).alloc (Nat.le_refl _) _) q2, keepCell ((Below.refl _ _).alloc (Nat.le_refl _) _) q3, keepCell ((Below.refl _ _).alloc (Nat.le_refl _) _) q4, keepCell ((Below.refl _ _).alloc (Nat.le_refl _) _) q5, keepCell ((Below.refl _ _).alloc (Nat.le_refl _) _) q6, keepCell ((Below.refl _ _).alloc (Nat.le_refl _) _) q7, keepCell ((Below.refl _ _).alloc (Nat.le_refl _) _) q8, keepCell ((Below.refl _ _).alloc (Nat.le_refl _) _) q9, keepCell ((Below.refl _ _).alloc (Nat.le_refl _) _) q10, keepCell ((Below.refl _ _).alloc (Nat.le_refl _) _) q11, q12.alloc q12.size _⟩)
            clear hK K hH
            have hH := hH2
            clear hH2
            try simp only [Act.put, List.setIfInBounds_toArray, List.set_cons_zero, List.set_cons_succ]
            have hV : Vb (wx14.alloc (.cells #[.int .i64 0, .int .i64 0, .int .i64 0, .int .i64 0] 55)) wx14.heap.size := Vb.here wx14
            replace hT := keepVb ((Below.refl _ _).alloc (Nat.le_refl _) (.cells #[.int .i64 0, .int .i64 0, .int .i64 0, .int .i64 0] 55)) hT
            replace hU := keepVb ((Below.refl _ _).alloc (Nat.le_refl _) (.cells #[.int .i64 0, .int .i64 0, .int .i64 0, .int .i64 0] 55)) hU
            obtain ⟨gV, hgV⟩ : ∃ g, g = wx14.heap.size := ⟨_, rfl⟩
            have hlV : w1.heap.size ≤ gV ∧ gT < gV ∧ gU < gV := by rw [hgV]; exact ⟨q12.size, hZT, hZU⟩
            rw [← hgV] at hV
            try rw [← hgV]
            clear hgV q0 q1 q2 q3 q4 q5 q6 q7 q8 q9 q10 q11 q12
            generalize wx14.alloc (.cells #[.int .i64 0, .int .i64 0, .int .i64 0, .int .i64 0] 55) = wx16 at *
            refine wpAnyU_ready (rs := [17]) (by kernel_rfl) (by simp) ?_
            refine AllReadyU.cons 1 (by kernel_rfl) (o := _) rfl (fun K hK => ?_) AllReadyU.nil
            have hG := hH
            replace hG := S4o0 hG; (try dsimp only at hG); have q0 := hG.1; have q1 := hG.2.1; have q2 := hG.2.2.1; have q3 := hG.2.2.2.1; have q4 := hG.2.2.2.2.1; have q5 := hG.2.2.2.2.2.1; have q6 := hG.2.2.2.2.2.2.1; have q7 := hG.2.2.2.2.2.2.2.1; have q8 := hG.2.2.2.2.2.2.2.2.1; have q9 := hG.2.2.2.2.2.2.2.2.2.1; have q10 := hG.2.2.2.2.2.2.2.2.2.2.1; have q11 := hG.2.2.2.2.2.2.2.2.2.2.2.1; have q12 := hG.2.2.2.2.2.2.2.2.2.2.2.2
            have HT := hid hT
            have HU := hid hU
            have HV := hid hV
            have HB := hid q12
            clear hT hU hV q0 q1 q2 q3 q12
            have hnb : gT ≠ b := by omega
            obtain ⟨⟨⟨_, x0⟩, ⟨_, x1⟩, ⟨_, x2⟩, ⟨_, x3⟩⟩, xf⟩ := HT.out
            go_simp
            refine hK.out _ _ ?hsr3_29 (fun hH2 => ?hrr3_29)
            case hsr3_29 => exact S4i1 ⟨far1 hnb (far1 hnb (far1 hnb (far1 hnb q4))), far1 hnb (far1 hnb (far1 hnb (far1 hnb q5))), far1 hnb (far1 hnb (far1 hnb (far1 hnb q6))), far1 hnb (far1 hnb (far1 hnb (far1 hnb q7))), far1 hnb (far1 hnb (far1 hnb (far1 hnb q8))), far1 hnb (far1 hnb (far1 hnb (far1 hnb q9))), far1 hnb (far1 hnb (far1 hnb (far1 hnb q10))), far1 hnb (far1 hnb (far1 hnb (far1 hnb q11)))⟩
            clear hK K hH
            have hH := hH2
            clear hH2
            try simp only [Act.put, List.setIfInBounds_toArray, List.set_cons_zero, List.set_cons_succ]
            replace HT := hid (HT.out.put4 ((a1, a2), (a3, a4)))
            replace HU := hid (HU.out.off4 (show gT ≠ gU by omega) ((a1, a2), (a3, a4)))
            replace HV := hid (HV.out.off4 (show gT ≠ gV by omega) ((a1, a2), (a3, a4)))
            replace HB := hid (below_put4 HB.out (show w1.heap.size ≤ gT by omega) ((a1, a2), (a3, a4)))
            obtain ⟨wy17, hwy⟩ : ∃ w', w' = (((wx16.setCell ⟨gT, 0, none⟩ (.int .i64 a1)).setCell ⟨gT, 1, none⟩ (.int .i64 a2)).setCell ⟨gT, 2, none⟩ (.int .i64 a3)).setCell ⟨gT, 3, none⟩ (.int .i64 a4) := ⟨_, rfl⟩
            replace HT : Hid (Vd wy17 gT ((a1, a2), (a3, a4))) := by rw [hwy]; exact HT
            replace HU : Hid (Vb wy17 gU) := by rw [hwy]; exact HU
            replace HV : Hid (Vb wy17 gV) := by rw [hwy]; exact HV
            replace HB : Hid (Below w1.heap.size w1 wy17) := by rw [hwy]; exact HB
            try rw [← hwy] at hH
            rw [← hwy]
            clear hwy x0 x1 x2 x3 xf hnb q4 q5 q6 q7 q8 q9 q10 q11
            refine wpAnyU_ready (rs := [18]) (by kernel_rfl) (by simp) ?_
            refine AllReadyU.cons 2 (by kernel_rfl) (o := _) rfl (fun K hK => ?_) AllReadyU.nil
            have hG := hH
            replace hG := S4o1 hG; (try dsimp only at hG); have q4 := hG.1; have q5 := hG.2.1; have q6 := hG.2.2.1; have q7 := hG.2.2.2.1; have q8 := hG.2.2.2.2.1; have q9 := hG.2.2.2.2.2.1; have q10 := hG.2.2.2.2.2.2.1; have q11 := hG.2.2.2.2.2.2.2
            have hnb : gU ≠ b := by omega
            obtain ⟨⟨⟨_, x0⟩, ⟨_, x1⟩, ⟨_, x2⟩, ⟨_, x3⟩⟩, xf⟩ := HU.out
            go_simp
            refine hK.out _ _ ?hsr3_30 (fun hH2 => ?hrr3_30)
            case hsr3_30 => exact S4i2 ⟨far1 hnb (far1 hnb (far1 hnb (far1 hnb q8))), far1 hnb (far1 hnb (far1 hnb (far1 hnb q9))), far1 hnb (far1 hnb (far1 hnb (far1 hnb q10))), far1 hnb (far1 hnb (far1 hnb (far1 hnb q11)))⟩
            clear hK K hH
            have hH := hH2
            clear hH2
            try simp only [Act.put, List.setIfInBounds_toArray, List.set_cons_zero, List.set_cons_succ]
            replace HT := hid (HT.out.off4 (show gU ≠ gT by omega) ((b1, b2), (b3, b4)))
            replace HU := hid (HU.out.put4 ((b1, b2), (b3, b4)))
            replace HV := hid (HV.out.off4 (show gU ≠ gV by omega) ((b1, b2), (b3, b4)))
            replace HB := hid (below_put4 HB.out (show w1.heap.size ≤ gU by omega) ((b1, b2), (b3, b4)))
            obtain ⟨wy18, hwy⟩ : ∃ w', w' = (((wy17.setCell ⟨gU, 0, none⟩ (.int .i64 b1)).setCell ⟨gU, 1, none⟩ (.int .i64 b2)).setCell ⟨gU, 2, none⟩ (.int .i64 b3)).setCell ⟨gU, 3, none⟩ (.int .i64 b4) := ⟨_, rfl⟩
            replace HT : Hid (Vd wy18 gT ((a1, a2), (a3, a4))) := by rw [hwy]; exact HT
            replace HU : Hid (Vd wy18 gU ((b1, b2), (b3, b4))) := by rw [hwy]; exact HU
            replace HV : Hid (Vb wy18 gV) := by rw [hwy]; exact HV
            replace HB : Hid (Below w1.heap.size w1 wy18) := by rw [hwy]; exact HB
            try rw [← hwy] at hH
            rw [← hwy]
            clear hwy x0 x1 x2 x3 xf hnb q4 q5 q6 q7 q8 q9 q10 q11
            refine wpAnyU_ready (rs := [19]) (by kernel_rfl) (by simp) ?_
            refine AllReadyU.cons 3 (by kernel_rfl) (o := _) rfl (fun K hK => ?_) AllReadyU.nil
            have hnb : gV ≠ b := by omega
            obtain ⟨⟨⟨_, x0⟩, ⟨_, x1⟩, ⟨_, x2⟩, ⟨_, x3⟩⟩, xf⟩ := HV.out
            go_simp
            refine hK.out _ _ ?hsr3_31 (fun hH2 => ?hrr3_31)
            case hsr3_31 => exact S4i3
            clear hK K hH
            have hH := hH2
            clear hH2
            try simp only [Act.put, List.setIfInBounds_toArray, List.set_cons_zero, List.set_cons_succ]
            replace HT := hid (HT.out.off4 (show gV ≠ gT by omega) ((c1, c2), (c3, c4)))
            replace HU := hid (HU.out.off4 (show gV ≠ gU by omega) ((c1, c2), (c3, c4)))
            replace HV := hid (HV.out.put4 ((c1, c2), (c3, c4)))
            replace HB := hid (below_put4 HB.out (show w1.heap.size ≤ gV by omega) ((c1, c2), (c3, c4)))
            obtain ⟨wy19, hwy⟩ : ∃ w', w' = (((wy18.setCell ⟨gV, 0, none⟩ (.int .i64 c1)).setCell ⟨gV, 1, none⟩ (.int .i64 c2)).setCell ⟨gV, 2, none⟩ (.int .i64 c3)).setCell ⟨gV, 3, none⟩ (.int .i64 c4) := ⟨_, rfl⟩
            replace HT : Hid (Vd wy19 gT ((a1, a2), (a3, a4))) := by rw [hwy]; exact HT
            replace HU : Hid (Vd wy19 gU ((b1, b2), (b3, b4))) := by rw [hwy]; exact HU
            replace HV : Hid (Vd wy19 gV ((c1, c2), (c3, c4))) := by rw [hwy]; exact HV
            replace HB : Hid (Below w1.heap.size w1 wy19) := by rw [hwy]; exact HB
            try rw [← hwy] at hH
            rw [← hwy]
            clear hwy x0 x1 x2 x3 xf hnb
            refine wpAnyU_done (by kernel_rfl) ?_ _ _
            refine NoPanic.normal ?_
            go_wp2_with fail
            go_meet
            exact ⟨gT, gU, gV, rfl, rfl, rfl, HT.out, HU.out, HV.out, HB.out⟩
          refine AllReadyU.cons 0 (by kernel_rfl) (o := _) rfl (fun K hK => ?_) ?_
          · try clear hb
            have hG := hH
            replace hG := S4o0 hG; (try dsimp only at hG); have q0 := hG.1; have q1 := hG.2.1; have q2 := hG.2.2.1; have q3 := hG.2.2.2.1; have q4 := hG.2.2.2.2.1; have q5 := hG.2.2.2.2.2.1; have q6 := hG.2.2.2.2.2.2.1; have q7 := hG.2.2.2.2.2.2.2.1; have q8 := hG.2.2.2.2.2.2.2.2.1; have q9 := hG.2.2.2.2.2.2.2.2.2.1; have q10 := hG.2.2.2.2.2.2.2.2.2.2.1; have q11 := hG.2.2.2.2.2.2.2.2.2.2.2.1; have q12 := hG.2.2.2.2.2.2.2.2.2.2.2.2
            have hZU := Vb.lt hU
            go_simp
            refine hK.out _ _ ?hsr3_32 (fun hH2 => ?hrr3_32)
            case hsr3_32 => exact S4i0 (by have hG := hH; replace hG := S4o0 hG; (try dsimp only at hG); have q0 := hG.1; have q1 := hG.2.1; have q2 := hG.2.2.1; have q3 := hG.2.2.2.1; have q4 := hG.2.2.2.2.1; have q5 := hG.2.2.2.2.2.1; have q6 := hG.2.2.2.2.2.2.1; have q7 := hG.2.2.2.2.2.2.2.1; have q8 := hG.2.2.2.2.2.2.2.2.1; have q9 := hG.2.2.2.2.2.2.2.2.2.1; have q10 := hG.2.2.2.2.2.2.2.2.2.2.1; have q11 := hG.2.2.2.2.2.2.2.2.2.2.2.1; have q12 := hG.2.2.2.2.2.2.2.2.2.2.2.2; exact ⟨keepCell ((Below.refl _ _).alloc (Nat.le_refl _) _) q0, keepCell ((Below.refl _ _).alloc (Nat.le_refl _) _) q1, keepCell ((Below.refl _ _).alloc (Nat.le_refl _) _) q2, keepCell ((Below.refl _ _).alloc (Nat.le_refl _) _) q3, keepCell ((Below.refl _ _).alloc (Nat.le_refl _) _) q4, keepCell ((Below.refl _ _).alloc (Nat.le_refl _) _) q5, keepCell ((Below.refl _ _).alloc (Nat.le_refl _) _) q6, keepCell ((Below.refl _ _).alloc (Nat.le_refl _) _) q7, keepCell ((Below.refl _ _).alloc (Nat.le_refl _) _) q8, keepCell ((Below.refl _ _).alloc (Nat.le_refl _) _) q9, keepCell ((Below.refl _ _).alloc (Nat.le_refl _) _) q10, keepCell ((Below.refl _ _).alloc (Nat.le_refl _) _) q11, q12.alloc q12.size _⟩)
            clear hK K hH
            have hH := hH2
            clear hH2
            try simp only [Act.put, List.setIfInBounds_toArray, List.set_cons_zero, List.set_cons_succ]
            have hV : Vb (wx15.alloc (.cells #[.int .i64 0, .int .i64 0, .int .i64 0, .int .i64 0] 55)) wx15.heap.size := Vb.here wx15
            replace hU := keepVb ((Below.refl _ _).alloc (Nat.le_refl _) (.cells #[.int .i64 0, .int .i64 0, .int .i64 0, .int .i64 0] 55)) hU
            obtain ⟨gV, hgV⟩ : ∃ g, g = wx15.heap.size := ⟨_, rfl⟩
            have hlV : w1.heap.size ≤ gV ∧ gU < gV := by rw [hgV]; exact ⟨q12.size, hZU⟩
            rw [← hgV] at hV
            try rw [← hgV]
            clear hgV q0 q1 q2 q3 q4 q5 q6 q7 q8 q9 q10 q11 q12
            generalize wx15.alloc (.cells #[.int .i64 0, .int .i64 0, .int .i64 0, .int .i64 0] 55) = wx16 at *
            refine wpAnyU_ready (rs := [14]) (by kernel_rfl) (by simp) ?_
            refine AllReadyU.cons 0 (by kernel_rfl) (o := _) rfl (fun K hK => ?_) AllReadyU.nil
            try clear hb
            have hG := hH
            replace hG := S4o0 hG; (try dsimp only at hG); have q0 := hG.1; have q1 := hG.2.1; have q2 := hG.2.2.1; have q3 := hG.2.2.2.1; have q4 := hG.2.2.2.2.1; have q5 := hG.2.2.2.2.2.1; have q6 := hG.2.2.2.2.2.2.1; have q7 := hG.2.2.2.2.2.2.2.1; have q8 := hG.2.2.2.2.2.2.2.2.1; have q9 := hG.2.2.2.2.2.2.2.2.2.1; have q10 := hG.2.2.2.2.2.2.2.2.2.2.1; have q11 := hG.2.2.2.2.2.2.2.2.2.2.2.1; have q12 := hG.2.2.2.2.2.2.2.2.2.2.2.2
            have hZU := Vb.lt hU
            have hZV := Vb.lt hV
            go_simp
            refine hK.out _ _ ?hsr3_33 (fun hH2 => ?hrr3_33)
            case hsr3_33 => exact S4i0 (by have hG := hH; replace hG := S4o0 hG; (try dsimp only at hG); have q0 := hG.1; have q1 := hG.2.1; have q2 := hG.2.2.1; have q3 := hG.2.2.2.1; have q4 := hG.2.2.2.2.1; have q5 := hG.2.2.2.2.2.1; have q6 := hG.2.2.2.2.2.2.1; have q7 := hG.2.2.2.2.2.2.2.1; have q8 := hG.2.2.2.2.2.2.2.2.1; have q9 := hG.2.2.2.2.2.2.2.2.2.1; have q10 := hG.2.2.2.2.2.2.2.2.2.2.1; have q11 := hG.2.2.2.2.2.2.2.2.2.2.2.1; have q12 := hG.2.2.2.2.2.2.2.2.2.2.2.2; exact ⟨keepCell ((Below.refl _ _).alloc (Nat.le_refl _) _) q0, keepCell ((Below.refl _ _).alloc (Nat.le_refl _) _) q1, keepCell ((Below.refl _ _).alloc (Nat.le_refl _) _) q2, keepCell ((Below.refl _ _).alloc (Nat.le_refl _) _) q3, keepCell ((Below.refl _ _).alloc (Nat.le_refl _) _) q4, keepCell ((Below.refl _ _).alloc (Nat.le_refl _) _) q5, keepCell ((Below.refl _ _).alloc (Nat.le_refl _) _) q6, keepCell ((Below.refl _ _).alloc (Nat.le_refl _) _) q7, keepCell ((Below.refl _ _).alloc (Nat.le_refl _) _) q8, keepCell ((Below.refl _ _).alloc (Nat.le_refl _) _) q9, keepCell ((Below.refl _ _).alloc (Nat.le_refl _) _) q10, keepCell ((Below.refl _ _).alloc (Nat.le_refl _) _) q11, q12.alloc q12.size _⟩)
            clear hK K hH
            have hH := hH2
            clear hH2
            try simp only [Act.put, List.setIfInBounds_toArray, List.set_cons_zero, List.set_cons_succ]
            have hT : Vb (wx16.alloc (.cells #[.int .i64 0, .int .i64 0, .int .i64 0, .int .i64 0] 55)) wx16.heap.size := Vb.here wx16
            replace hU := keepVb ((Below.refl _ _).alloc (Nat.le_refl _) (.cells #[.int .i64 0, .int .i64 0, .int .i64 0, .int .i64 0] 55)) hU
            replace hV := keepVb ((Below.refl _ _).alloc (Nat.le_refl _) (.cells #[.int .i64 0, .int .i64 0, .int .i64 0, .int .i64 0] 55)) hV
            obtain ⟨gT, hgT⟩ : ∃ g, g = wx16.heap.size := ⟨_, rfl⟩
            have hlT : w1.heap.size ≤ gT ∧ gU < gT ∧ gV < gT := by rw [hgT]; exact ⟨q12.size, hZU, hZV⟩
            rw [← hgT] at hT
            try rw [← hgT]
            clear hgT q0 q1 q2 q3 q4 q5 q6 q7 q8 q9 q10 q11 q12
            generalize wx16.alloc (.cells #[.int .i64 0, .int .i64 0, .int .i64 0, .int .i64 0] 55) = wx14 at *
            refine wpAnyU_ready (rs := [17]) (by kernel_rfl) (by simp) ?_
            refine AllReadyU.cons 1 (by kernel_rfl) (o := _) rfl (fun K hK => ?_) AllReadyU.nil
            have hG := hH
            replace hG := S4o0 hG; (try dsimp only at hG); have q0 := hG.1; have q1 := hG.2.1; have q2 := hG.2.2.1; have q3 := hG.2.2.2.1; have q4 := hG.2.2.2.2.1; have q5 := hG.2.2.2.2.2.1; have q6 := hG.2.2.2.2.2.2.1; have q7 := hG.2.2.2.2.2.2.2.1; have q8 := hG.2.2.2.2.2.2.2.2.1; have q9 := hG.2.2.2.2.2.2.2.2.2.1; have q10 := hG.2.2.2.2.2.2.2.2.2.2.1; have q11 := hG.2.2.2.2.2.2.2.2.2.2.2.1; have q12 := hG.2.2.2.2.2.2.2.2.2.2.2.2
            have HT := hid hT
            have HU := hid hU
            have HV := hid hV
            have HB := hid q12
            clear hT hU hV q0 q1 q2 q3 q12
            have hnb : gT ≠ b := by omega
            obtain ⟨⟨⟨_, x0⟩, ⟨_, x1⟩, ⟨_, x2⟩, ⟨_, x3⟩⟩, xf⟩ := HT.out
            go_simp
            refine hK.out _ _ ?hsr3_34 (fun hH2 => ?hrr3_34)
            case hsr3_34 => exact S4i1 ⟨far1 hnb (far1 hnb (far1 hnb (far1 hnb q4))), far1 hnb (far1 hnb (far1 hnb (far1 hnb q5))), far1 hnb (far1 hnb (far1 hnb (far1 hnb q6))), far1 hnb (far1 hnb (far1 hnb (far1 hnb q7))), far1 hnb (far1 hnb (far1 hnb (far1 hnb q8))), far1 hnb (far1 hnb (far1 hnb (far1 hnb q9))), far1 hnb (far1 hnb (far1 hnb (far1 hnb q10))), far1 hnb (far1 hnb (far1 hnb (far1 hnb q11)))⟩
            clear hK K hH
            have hH := hH2
            clear hH2
            try simp only [Act.put, List.setIfInBounds_toArray, List.set_cons_zero, List.set_cons_succ]
            replace HT := hid (HT.out.put4 ((a1, a2), (a3, a4)))
            replace HU := hid (HU.out.off4 (show gT ≠ gU by omega) ((a1, a2), (a3, a4)))
            replace HV := hid (HV.out.off4 (show gT ≠ gV by omega) ((a1, a2), (a3, a4)))
            replace HB := hid (below_put4 HB.out (show w1.heap.size ≤ gT by omega) ((a1, a2), (a3, a4)))
            obtain ⟨wy17, hwy⟩ : ∃ w', w' = (((wx14.setCell ⟨gT, 0, none⟩ (.int .i64 a1)).setCell ⟨gT, 1, none⟩ (.int .i64 a2)).setCell ⟨gT, 2, none⟩ (.int .i64 a3)).setCell ⟨gT, 3, none⟩ (.int .i64 a4) := ⟨_, rfl⟩
            replace HT : Hid (Vd wy17 gT ((a1, a2), (a3, a4))) := by rw [hwy]; exact HT
            replace HU : Hid (Vb wy17 gU) := by rw [hwy]; exact HU
            replace HV : Hid (Vb wy17 gV) := by rw [hwy]; exact HV
            replace HB : Hid (Below w1.heap.size w1 wy17) := by rw [hwy]; exact HB
            try rw [← hwy] at hH
            rw [← hwy]
            clear hwy x0 x1 x2 x3 xf hnb q4 q5 q6 q7 q8 q9 q10 q11
            refine wpAnyU_ready (rs := [18]) (by kernel_rfl) (by simp) ?_
            refine AllReadyU.cons 2 (by kernel_rfl) (o := _) rfl (fun K hK => ?_) AllReadyU.nil
            have hG := hH
            replace hG := S4o1 hG; (try dsimp only at hG); have q4 := hG.1; have q5 := hG.2.1; have q6 := hG.2.2.1; have q7 := hG.2.2.2.1; have q8 := hG.2.2.2.2.1; have q9 := hG.2.2.2.2.2.1; have q10 := hG.2.2.2.2.2.2.1; have q11 := hG.2.2.2.2.2.2.2
            have hnb : gU ≠ b := by omega
            obtain ⟨⟨⟨_, x0⟩, ⟨_, x1⟩, ⟨_, x2⟩, ⟨_, x3⟩⟩, xf⟩ := HU.out
            go_simp
            refine hK.out _ _ ?hsr3_35 (fun hH2 => ?hrr3_35)
            case hsr3_35 => exact S4i2 ⟨far1 hnb (far1 hnb (far1 hnb (far1 hnb q8))), far1 hnb (far1 hnb (far1 hnb (far1 hnb q9))), far1 hnb (far1 hnb (far1 hnb (far1 hnb q10))), far1 hnb (far1 hnb (far1 hnb (far1 hnb q11)))⟩
            clear hK K hH
            have hH := hH2
            clear hH2
            try simp only [Act.put, List.setIfInBounds_toArray, List.set_cons_zero, List.set_cons_succ]
            replace HT := hid (HT.out.off4 (show gU ≠ gT by omega) ((b1, b2), (b3, b4)))
            replace HU := hid (HU.out.put4 ((b1, b2), (b3, b4)))
            replace HV := hid (HV.out.off4 (show gU ≠ gV by omega) ((b1, b2), (b3, b4)))
            replace HB := hid (below_put4 HB.out (show w1.heap.size ≤ gU by omega) ((b1, b2), (b3, b4)))
            obtain ⟨wy18, hwy⟩ : ∃ w', w' = (((wy17.setCell ⟨gU, 0, none⟩ (.int .i64 b1)).setCell ⟨gU, 1, none⟩ (.int .i64 b2)).setCell ⟨gU, 2, none⟩ (.int .i64 b3)).setCell ⟨gU, 3, none⟩ (.int .i64 b4) := ⟨_, rfl⟩
            replace HT : Hid (Vd wy18 gT ((a1, a2), (a3, a4))) := by rw [hwy]; exact HT
            replace HU : Hid (Vd wy18 gU ((b1, b2), (b3, b4))) := by rw [hwy]; exact HU
            replace HV : Hid (Vb wy18 gV) := by rw [hwy]; exact HV
            replace HB : Hid (Below w1.heap.size w1 wy18) := by rw [hwy]; exact HB
            try rw [← hwy] at hH
            rw [← hwy]
            clear hwy x0 x1 x2 x3 xf hnb q4 q5 q6 q7 q8 q9 q10 q11
            refine wpAnyU_ready (rs := [19]) (by kernel_rfl) (by simp) ?_
            refine AllReadyU.cons 3 (by kernel_rfl) (o := _) rfl (fun K hK => ?_) AllReadyU.nil
            have hnb : gV ≠ b := by omega
            obtain ⟨⟨⟨_, x0⟩, ⟨_, x1⟩, ⟨_, x2⟩, ⟨_, x3⟩⟩, xf⟩ := HV.out
            go_simp
            refine hK.out _ _ ?hsr3_36 (fun hH2 => ?hrr3_36)
            case hsr3_36 => exact S4i3
            clear hK K hH
            have hH := hH2
            clear hH2
            try simp only [Act.put, List.setIfInBounds_toArray, List.set_cons_zero, List.set_cons_succ]
            replace HT := hid (HT.out.off4 (show gV ≠ gT by omega) ((c1, c2), (c3, c4)))
            replace HU := hid (HU.out.off4 (show gV ≠ gU by omega) ((c1, c2), (c3, c4)))
            replace HV := hid (HV.out.put4 ((c1, c2), (c3, c4)))
            replace HB := hid (below_put4 HB.out (show w1.heap.size ≤ gV by omega) ((c1, c2), (c3, c4)))
            obtain ⟨wy19, hwy⟩ : ∃ w', w' = (((wy18.setCell ⟨gV, 0, none⟩ (.int .i64 c1)).setCell ⟨gV, 1, none⟩ (.int .i64 c2)).setCell ⟨gV, 2, none⟩ (.int .i64 c3)).setCell ⟨gV, 3, none⟩ (.int .i64 c4) := ⟨_, rfl⟩
            replace HT : Hid (Vd wy19 gT ((a1, a2), (a3, a4))) := by rw [hwy]; exact HT
            replace HU : Hid (Vd wy19 gU ((b1, b2), (b3, b4))) := by rw [hwy]; exact HU
            replace HV : Hid (Vd wy19 gV ((c1, c2), (c3, c4))) := by rw [hwy]; exact HV
            replace HB : Hid (Below w1.heap.size w1 wy19) := by rw [hwy]; exact HB
            try rw [← hwy] at hH
            rw [← hwy]
            clear hwy x0 x1 x2 x3 xf hnb
            refine wpAnyU_done (by kernel_rfl) ?_ _ _
            refine NoPanic.normal ?_
            go_wp2_with fail
            go_meet
            exact ⟨gT, gU, gV, rfl, rfl, rfl, HT.out, HU.out, HV.out, HB.out⟩
          exact AllReadyU.nil
        refine AllReadyU.cons 0 (by kernel_rfl) (o := _) rfl (fun K hK => ?_) ?_
        · try clear hb
          have hG := hH
          replace hG := S4o0 hG; (try dsimp only at hG); have q0 := hG.1; have q1 := hG.2.1; have q2 := hG.2.2.1; have q3 := hG.2.2.2.1; have q4 := hG.2.2.2.2.1; have q5 := hG.2.2.2.2.2.1; have q6 := hG.2.2.2.2.2.2.1; have q7 := hG.2.2.2.2.2.2.2.1; have q8 := hG.2.2.2.2.2.2.2.2.1; have q9 := hG.2.2.2.2.2.2.2.2.2.1; have q10 := hG.2.2.2.2.2.2.2.2.2.2.1; have q11 := hG.2.2.2.2.2.2.2.2.2.2.2.1; have q12 := hG.2.2.2.2.2.2.2.2.2.2.2.2
          go_simp
          refine hK.out _ _ ?hsr3_37 (fun hH2 => ?hrr3_37)
          case hsr3_37 => exact S4i0 (by have hG := hH; replace hG := S4o0 hG; (try dsimp only at hG); have q0 := hG.1; have q1 := hG.2.1; have q2 := hG.2.2.1; have q3 := hG.2.2.2.1; have q4 := hG.2.2.2.2.1; have q5 := hG.2.2.2.2.2.1; have q6 := hG.2.2.2.2.2.2.1; have q7 := hG.2.2.2.2.2.2.2.1; have q8 := hG.2.2.2.2.2.2.2.2.1; have q9 := hG.2.2.2.2.2.2.2.2.2.1; have q10 := hG.2.2.2.2.2.2.2.2.2.2.1; have q11 := hG.2.2.2.2.2.2.2.2.2.2.2.1; have q12 := hG.2.2.2.2.2.2.2.2.2.2.2.2; exact ⟨keepCell ((Below.refl _ _).alloc (Nat.le_refl _) _) q0, keepCell ((Below.refl _ _).alloc (Nat.le_refl _) _) q1, keepCell ((Below.refl _ _).alloc (Nat.le_refl _) _) q2, keepCell ((Below.refl _ _).alloc (Nat.le_refl _) _) q3, keepCell ((Below.refl _ _).alloc (Nat.le_refl _) _) q4, keepCell ((Below.refl _ _).alloc (Nat.le_refl _) _) q5, keepCell ((Below.refl _ _).alloc (Nat.le_refl _) _) q6, keepCell ((Below.refl _ _).alloc (Nat.le_refl _) _) q7, keepCell ((Below.refl _ _).alloc (Nat.le_refl _) _) q8, keepCell ((Below.refl _ _).alloc (Nat.le_refl _) _) q9, keepCell ((Below.refl _ _).alloc (Nat.le_refl _) _) q10, keepCell ((Below.refl _ _).alloc (Nat.le_refl _) _) q11, q12.alloc q12.size _⟩)
          clear hK K hH
          have hH := hH2
          clear hH2
          try simp only [Act.put, List.setIfInBounds_toArray, List.set_cons_zero, List.set_cons_succ]
          have hV : Vb ((wo.alloc (.cells #[.int .i64 0, .int .i64 0, .int .i64 0, .int .i64 0] 55)).drew) wo.heap.size := Vb.drew (Vb.here wo)
          obtain ⟨gV, hgV⟩ : ∃ g, g = wo.heap.size := ⟨_, rfl⟩
          have hlV : w1.heap.size ≤ gV := by rw [hgV]; exact q12.size
          rw [← hgV] at hV
          try rw [← hgV]
          clear hgV q0 q1 q2 q3 q4 q5 q6 q7 q8 q9 q10 q11 q12
          generalize (wo.alloc (.cells #[.int .i64 0, .int .i64 0, .int .i64 0, .int .i64 0] 55)).drew = wx16 at *
          refine wpAnyU_ready (rs := [14, 15]) (by kernel_rfl) (by simp) ?_
          refine AllReadyU.cons 0 (by kernel_rfl) (o := _) rfl (fun K hK => ?_) ?_
          · try clear hb
            have hG := hH
            replace hG := S4o0 hG; (try dsimp only at hG); have q0 := hG.1; have q1 := hG.2.1; have q2 := hG.2.2.1; have q3 := hG.2.2.2.1; have q4 := hG.2.2.2.2.1; have q5 := hG.2.2.2.2.2.1; have q6 := hG.2.2.2.2.2.2.1; have q7 := hG.2.2.2.2.2.2.2.1; have q8 := hG.2.2.2.2.2.2.2.2.1; have q9 := hG.2.2.2.2.2.2.2.2.2.1; have q10 := hG.2.2.2.2.2.2.2.2.2.2.1; have q11 := hG.2.2.2.2.2.2.2.2.2.2.2.1; have q12 := hG.2.2.2.2.2.2.2.2.2.2.2.2
            have hZV := Vb.lt hV
            go_simp
            refine hK.out _ _ ?hsr3_38 (fun hH2 => ?hrr3_38)
            case hsr3_38 => exact S4i0 (by have hG := hH; replace hG := S4o0 hG; (try dsimp only at hG); have q0 := hG.1; have q1 := hG.2.1; have q2 := hG.2.2.1; have q3 := hG.2.2.2.1; have q4 := hG.2.2.2.2.1; have q5 := hG.2.2.2.2.2.1; have q6 := hG.2.2.2.2.2.2.1; have q7 := hG.2.2.2.2.2.2.2.1; have q8 := hG.2.2.2.2.2.2.2.2.1; have q9 := hG.2.2.2.2.2.2.2.2.2.1; have q10 := hG.2.2.2.2.2.2.2.2.2.2.1; have q11 := hG.2.2.2.2.2.2.2.2.2.2.2.1; have q12 := hG.2.2.2.2.2.2.2.2.2.2.2.2; exact ⟨keepCell ((Below.refl _ _).alloc (Nat.le_refl _) _) q0, keepCell ((Below.refl _ _).alloc (Nat.le_refl _) _) q1, keepCell ((Below.refl _ _).alloc (Nat.le_refl _) _) q2, keepCell ((Below.refl _ _).alloc (Nat.le_refl _) _) q3, keepCell ((Below.refl _ _).alloc (Nat.le_refl _) _) q4, keepCell ((Below.refl _ _).alloc (Nat.le_refl _) _) q5, keepCell ((Below.refl _ _).alloc (Nat.le_refl _) _) q6, keepCell ((Below.refl _ _).alloc (Nat.le_refl _) _) q7, keepCell ((Below.refl _ _).alloc (Nat.le_refl _) _) q8, keepCell ((Below.refl _ _).alloc (Nat.le_refl _) _) q9, keepCell ((Below.refl _ _).alloc (Nat.le_refl _) _) q10, keepCell ((Below.refl _ _).alloc (Nat.le_refl _) _) q11, q12.alloc q12.size _⟩)
            clear hK K hH
            have hH := hH2
            clear hH2
            try simp only [Act.put, List.setIfInBounds_toArray, List.set_cons_zero, List.set_cons_succ]
            have hT : Vb (wx16.alloc (.cells #[.int .i64 0, .int .i64 0, .int .i64 0, .int .i64 0] 55)) wx16.heap.size := Vb.here wx16
            replace hV := keepVb ((Below.refl _ _).alloc (Nat.le_refl _) (.cells #[.int .i64 0, .int .i64 0, .int .i64 0, .int .i64 0] 55)) hV
            obtain ⟨gT, hgT⟩ : ∃ g, g = wx16.heap.size := ⟨_, rfl⟩
            have hlT : w1.heap.size ≤ gT ∧ gV < gT := by rw [hgT]; exact ⟨q12.size, hZV⟩
            rw [← hgT] at hT
            try rw [← hgT]
            clear hgT q0 q1 q2 q3 q4 q5 q6 q7 q8 q9 q10 q11 q12
            generalize wx16.alloc (.cells #[.int .i64 0, .int .i64 0, .int .i64 0, .int .i64 0] 55) = wx14 at *
            refine wpAnyU_ready (rs := [15]) (by kernel_rfl) (by simp) ?_
            refine AllReadyU.cons 0 (by kernel_rfl) (o := _) rfl (fun K hK => ?_) AllReadyU.nil
            try clear hb
            have hG := hH
            replace hG := S4o0 hG; (try dsimp only at hG); have q0 := hG.1; have q1 := hG.2.1; have q2 := hG.2.2.1; have q3 := hG.2.2.2.1; have q4 := hG.2.2.2.2.1; have q5 := hG.2.2.2.2.2.1; have q6 := hG.2.2.2.2.2.2.1; have q7 := hG.2.2.2.2.2.2.2.1; have q8 := hG.2.2.2.2.2.2.2.2.1; have q9 := hG.2.2.2.2.2.2.2.2.2.1; have q10 := hG.2.2.2.2.2.2.2.2.2.2.1; have q11 := hG.2.2.2.2.2.2.2.2.2.2.2.1; have q12 := hG.2.2.2.2.2.2.2.2.2.2.2.2
            have hZT := Vb.lt hT
            have hZV := Vb.lt hV
            go_simp
            refine hK.out _ _ ?hsr3_39 (fun hH2 => ?hrr3_39)
            case hsr3_39 => exact S4i0 (by have hG := hH; replace hG := S4o0 hG; (try dsimp only at hG); have q0 := hG.1; have q1 := hG.2.1; have q2 := hG.2.2.1; have q3 := hG.2.2.2.1; have q4 := hG.2.2.2.2.1; have q5 := hG.2.2.2.2.2.1; have q6 := hG.2.2.2.2.2.2.1; have q7 := hG.2.2.2.2.2.2.2.1; have q8 := hG.2.2.2.2.2.2.2.2.1; have q9 := hG.2.2.2.2.2.2.2.2.2.1; have q10 := hG.2.2.2.2.2.2.2.2.2.2.1; have q11 := hG.2.2.2.2.2.2.2.2.2.2.2.1; have q12 := hG.2.2.2.2.2.2.2.2.2.2.2.2; exact ⟨keepCell ((Below.refl _ _).alloc (Nat.le_refl _) _) q0, keepCell ((Below.refl _ _).alloc (Nat.le_refl _) _) q1, keepCell ((Below.refl _ _).alloc (Nat.le_refl _) _) q2, keepCell ((Below.refl _ _).alloc (Nat.le_refl _) _) q3, keepCell ((Below.refl _ _).alloc (Nat.le_refl _) _) q4, keepCell ((Below.refl _ _).alloc (Nat.le_refl _) _) q5, keepCell ((Below.refl _ _).alloc (Nat.le_refl _) _) q6, keepCell ((Below.refl _ _).alloc (Nat.le_refl _) _) q7, keepCell ((Below.refl _ _).alloc (Nat.le_refl _) _) q8, keepCell ((Below.refl _ _).alloc (Nat.le_refl _) _) q9, keepCell ((Below.refl _ _).alloc (Nat.le_refl _) _) q10, keepCell ((Below.refl _ _).alloc (Nat.le_refl _) _) q11, q12.alloc q12.size _⟩)
            clear hK K hH
            have hH := hH2
            clear hH2
            try simp only [Act.put, List.setIfInBounds_toArray, List.set_cons_zero, List.set_cons_succ]
            have hU : Vb (wx14.alloc (.cells #[.int .i64 0, .int .i64 0, .int .i64 0, .int .i64 0] 55)) wx14.heap.size := Vb.here wx14
            replace hT := keepVb ((Below.refl _ _).alloc (Nat.le_refl _) (.cells #[.int .i64 0, .int .i64 0, .int .i64 0, .int .i64 0] 55)) hT
            replace hV := keepVb ((Below.refl _ _).alloc (Nat.le_refl _) (.cells #[.int .i64 0, .int .i64 0, .int .i64 0, .int .i64 0] 55)) hV
            obtain ⟨gU, hgU⟩ : ∃ g, g = wx14.heap.size := ⟨_, rfl⟩
            have hlU : w1.heap.size ≤ gU ∧ gT < gU ∧ gV < gU := by rw [hgU]; exact ⟨q12.size, hZT, hZV⟩
            rw [← hgU] at hU
            try rw [← hgU]
            clear hgU q0 q1 q2 q3 q4 q5 q6 q7 q8 q9 q10 q11 q12
            generalize wx14.alloc (.cells #[.int .i64 0, .int .i64 0, .int .i64 0, .int .i64 0] 55) = wx15 at *
            refine wpAnyU_ready (rs := [17]) (by kernel_rfl) (by simp) ?_
            refine AllReadyU.cons 1 (by kernel_rfl) (o := _) rfl (fun K hK => ?_) AllReadyU.nil
            have hG := hH
            replace hG := S4o0 hG; (try dsimp only at hG); have q0 := hG.1; have q1 := hG.2.1; have q2 := hG.2.2.1; have q3 := hG.2.2.2.1; have q4 := hG.2.2.2.2.1; have q5 := hG.2.2.2.2.2.1; have q6 := hG.2.2.2.2.2.2.1; have q7 := hG.2.2.2.2.2.2.2.1; have q8 := hG.2.2.2.2.2.2.2.2.1; have q9 := hG.2.2.2.2.2.2.2.2.2.1; have q10 := hG.2.2.2.2.2.2.2.2.2.2.1; have q11 := hG.2.2.2.2.2.2.2.2.2.2.2.1; have q12 := hG.2.2.2.2.2.2.2.2.2.2.2.2
            have HT := hid hT
            have HU := hid hU
            have HV := hid hV
            have HB := hid q12
            clear hT hU hV q0 q1 q2 q3 q12
            have hnb : gT ≠ b := by omega
            obtain ⟨⟨⟨_, x0⟩, ⟨_, x1⟩, ⟨_, x2⟩, ⟨_, x3⟩⟩, xf⟩ := HT.out
            go_simp
            refine hK.out _ _ ?hsr3_40 (fun hH2 => ?hrr3_40)
            case hsr3_40 => exact S4i1 ⟨far1 hnb (far1 hnb (far1 hnb (far1 hnb q4))), far1 hnb (far1 hnb (far1 hnb (far1 hnb q5))), far1 hnb (far1 hnb (far1 hnb (far1 hnb q6))), far1 hnb (far1 hnb (far1 hnb (far1 hnb q7))), far1 hnb (far1 hnb (far1 hnb (far1 hnb q8))), far1 hnb (far1 hnb (far1 hnb (far1 hnb q9))), far1 hnb (far1 hnb (far1 hnb (far1 hnb q10))), far1 hnb (far1 hnb (far1 hnb (far1 hnb q11)))⟩
            clear hK K hH
            have hH := hH2
            clear hH2
            try simp only [Act.put, List.setIfInBounds_toArray, List.set_cons_zero, List.set_cons_succ]
            replace HT := hid (HT.out.put4 ((a1, a2), (a3, a4)))
            replace HU := hid (HU.out.off4 (show gT ≠ gU by omega) ((a1, a2), (a3, a4)))
            replace HV := hid (HV.out.off4 (show gT ≠ gV by omega) ((a1, a2), (a3, a4)))
            replace HB := hid (below_put4 HB.out (show w1.heap.size ≤ gT by omega) ((a1, a2), (a3, a4)))
            obtain ⟨wy17, hwy⟩ : ∃ w', w' = (((wx15.setCell ⟨gT, 0, none⟩ (.int .i64 a1)).setCell ⟨gT, 1, none⟩ (.int .i64 a2)).setCell ⟨gT, 2, none⟩ (.int .i64 a3)).setCell ⟨gT, 3, none⟩ (.int .i64 a4) := ⟨_, rfl⟩
            replace HT : Hid (Vd wy17 gT ((a1, a2), (a3, a4))) := by rw [hwy]; exact HT
            replace HU : Hid (Vb wy17 gU) := by rw [hwy]; exact HU
            replace HV : Hid (Vb wy17 gV) := by rw [hwy]; exact HV
            replace HB : Hid (Below w1.heap.size w1 wy17) := by rw [hwy]; exact HB
            try rw [← hwy] at hH
            rw [← hwy]
            clear hwy x0 x1 x2 x3 xf hnb q4 q5 q6 q7 q8 q9 q10 q11
            refine wpAnyU_ready (rs := [18]) (by kernel_rfl) (by simp) ?_
            refine AllReadyU.cons 2 (by kernel_rfl) (o := _) rfl (fun K hK => ?_) AllReadyU.nil
            have hG := hH
            replace hG := S4o1 hG; (try dsimp only at hG); have q4 := hG.1; have q5 := hG.2.1; have q6 := hG.2.2.1; have q7 := hG.2.2.2.1; have q8 := hG.2.2.2.2.1; have q9 := hG.2.2.2.2.2.1; have q10 := hG.2.2.2.2.2.2.1; have q11 := hG.2.2.2.2.2.2.2
            have hnb : gU ≠ b := by omega
            obtain ⟨⟨⟨_, x0⟩, ⟨_, x1⟩, ⟨_, x2⟩, ⟨_, x3⟩⟩, xf⟩ := HU.out
            go_simp
            refine hK.out _ _ ?hsr3_41 (fun hH2 => ?hrr3_41)
            case hsr3_41 => exact S4i2 ⟨far1 hnb (far1 hnb (far1 hnb (far1 hnb q8))), far1 hnb (far1 hnb (far1 hnb (far1 hnb q9))), far1 hnb (far1 hnb (far1 hnb (far1 hnb q10))), far1 hnb (far1 hnb (far1 hnb (far1 hnb q11)))⟩
            clear hK K hH
            have hH := hH2
            clear hH2
            try simp only [Act.put, List.setIfInBounds_toArray, List.set_cons_zero, List.set_cons_succ]
            replace HT := hid (HT.out.off4 (show gU ≠ gT by omega) ((b1, b2), (b3, b4)))
            replace HU := hid (HU.out.put4 ((b1, b2), (b3, b4)))
            replace HV := hid (HV.out.off4 (show gU ≠ gV by omega) ((b1, b2), (b3, b4)))
            replace HB := hid (below_put4 HB.out (show w1.heap.size ≤ gU by omega) ((b1, b2), (b3, b4)))
            obtain ⟨wy18, hwy⟩ : ∃ w', w' = (((wy17.setCell ⟨gU, 0, none⟩ (.int .i64 b1)).setCell ⟨gU, 1, none⟩ (.int .i64 b2)).setCell ⟨gU, 2, none⟩ (.int .i64 b3)).setCell ⟨gU, 3, none⟩ (.int .i64 b4) := ⟨_, rfl⟩
            replace HT : Hid (Vd wy18 gT ((a1, a2), (a3, a4))) := by rw [hwy]; exact HT
            replace HU : Hid (Vd wy18 gU ((b1, b2), (b3, b4))) := by rw [hwy]; exact HU
            replace HV : Hid (Vb wy18 gV) := by rw [hwy]; exact HV
            replace HB : Hid (Below w1.heap.size w1 wy18) := by rw [hwy]; exact HB
            try rw [← hwy] at hH
            rw [← hwy]
            clear hwy x0 x1 x2 x3 xf hnb q4 q5 q6 q7 q8 q9 q10 q11
            refine wpAnyU_ready (rs := [19]) (by kernel_rfl) (by simp) ?_
            refine AllReadyU.cons 3 (by kernel_rfl) (o := _) rfl (fun K hK => ?_) AllReadyU.nil
            have hnb : gV ≠ b := by omega
            obtain ⟨⟨⟨_, x0⟩, ⟨_, x1⟩, ⟨_, x2⟩, ⟨_, x3⟩⟩, xf⟩ := HV.out
            go_simp
            refine hK.out _ _ ?hsr3_42 (fun hH2 => ?hrr3_42)
            case hsr3_42 => exact S4i3
            clear hK K hH
            have hH := hH2
            clear hH2
            try simp only [Act.put, List.setIfInBounds_toArray, List.set_cons_zero, List.set_cons_succ]
            replace HT := hid (HT.out.off4 (show gV ≠ gT by omega) ((c1, c2), (c3, c4)))
            replace HU := hid (HU.out.off4 (show gV ≠ gU by omega) ((c1, c2), (c3, c4)))
            replace HV := hid (HV.out.put4 ((c1, c2), (c3, c4)))
            replace HB := hid (below_put4 HB.out (show w1.heap.size ≤ gV by omega) ((c1, c2), (c3, c4)))
            obtain ⟨wy19, hwy⟩ : ∃ w', w' = (((wy18.setCell ⟨gV, 0, none⟩ (.int .i64 c1)).setCell ⟨gV, 1, none⟩ (.int .i64 c2)).setCell ⟨gV, 2, none⟩ (.int .i64 c3)).setCell ⟨gV, 3, none⟩ (.int .i64 c4) := ⟨_, rfl⟩
            replace HT : Hid (Vd wy19 gT ((a1, a2), (a3, a4))) := by rw [hwy]; exact HT
            replace HU : Hid (Vd wy19 gU ((b1, b2), (b3, b4))) := by rw [hwy]; exact HU
            replace HV : Hid (Vd wy19 gV ((c1, c2), (c3, c4))) := by rw [hwy]; exact HV
            replace HB : Hid (Below w1.heap.size w1 wy19) := by rw [hwy]; exact HB
            try rw [← hwy] at hH
            rw [← hwy]
            clear hwy x0 x1 x2 x3 xf hnb
            refine wpAnyU_done (by kernel_rfl) ?_ _ _
            refine NoPanic.normal ?_
            go_wp2_with fail
            go_meet
            exact ⟨gT, gU, gV, rfl, rfl, rfl, HT.out, HU.out, HV.out, HB.out⟩
          refine AllReadyU.cons 0 (by kernel_rfl) (o := _) rfl (fun K hK => ?_) ?_
          · try clear hb
            have hG := hH
            replace hG := S4o0 hG; (try dsimp only at hG); have q0 := hG.1; have q1 := hG.2.1; have q2 := hG.2.2.1; have q3 := hG.2.2.2.1; have q4 := hG.2.2.2.2.1; have q5 := hG.2.2.2.2.2.1; have q6 := hG.2.2.2.2.2.2.1; have q7 := hG.2.2.2.2.2.2.2.1; have q8 := hG.2.2.2.2.2.2.2.2.1; have q9 := hG.2.2.2.2.2.2.2.2.2.1; have q10 := hG.2.2.2.2.2.2.2.2.2.2.1; have q11 := hG.2.2.2.2.2.2.2.2.2.2.2.1; have q12 := hG.2.2.2.2.2.2.2.2.2.2.2.2
            have hZV := Vb.lt hV
            go_simp
            refine hK.out _ _ ?hsr3_43 (fun hH2 => ?hrr3_43)
            case hsr3_43 => exact S4i0 (by have hG := hH; replace hG := S4o0 hG; (try dsimp only at hG); have q0 := hG.1; have q1 := hG.2.1; have q2 := hG.2.2.1; have q3 := hG.2.2.2.1; have q4 := hG.2.2.2.2.1; have q5 := hG.2.2.2.2.2.1; have q6 := hG.2.2.2.2.2.2.1; have q7 := hG.2.2.2.2.2.2.2.1; have q8 := hG.2.2.2.2.2.2.2.2.1; have q9 := hG.2.2.2.2.2.2.2.2.2.1; have q10 := hG.2.2.2.2.2.2.2.2.2.2.1; have q11 := hG.2.2.2.2.2.2.2.2.2.2.2.1; have q12 := hG.2.2.2.2.2.2.2.2.2.2.2.2; exact ⟨keepCell ((Below.refl _ _).alloc (Nat.le_refl _) _) q0, keepCell ((Below.refl _ _).alloc (Nat.le_refl _) _) q1, keepCell ((Below.refl _ _).alloc (Nat.le_refl _) _) q2, keepCell ((Below.refl _ _).alloc (Nat.le_refl _) _) q3, keepCell ((Below.refl _ _).alloc (Nat.le_refl _) _) q4, keepCell ((Below.refl _ _).alloc (Nat.le_refl _) _) q5, keepCell ((Below.refl _ _).alloc (Nat.le_refl _) _) q6, keepCell ((Below.refl _ _).alloc (Nat.le_refl _) _) q7, keepCell ((Below.refl _ _).alloc (Nat.le_refl _) _) q8, keepCell ((Below.refl _ _).alloc (Nat.le_refl _) _) q9, keepCell ((Below.refl _ _).alloc (Nat.le_refl _) _) q10, keepCell ((Below.refl _ _).alloc (Nat.le_refl _) _) q11, q12.alloc q12.size _⟩)
            clear hK K hH
            have hH := hH2
            clear hH2
            try simp only [Act.put, List.setIfInBounds_toArray, List.set_cons_zero, List.set_cons_succ]
            have hU : Vb (wx16.alloc (.cells #[.int .i64 0, .int .i64 0, .int .i64 0, .int .i64 0] 55)) wx16.heap.size := Vb.here wx16
            replace hV := keepVb ((Below.refl _ _).alloc (Nat.le_refl _) (.cells #[.int .i64 0, .int .i64 0, .int .i64 0, .int .i64 0] 55)) hV
            obtain ⟨gU, hgU⟩ : ∃ g, g = wx16.heap.size := ⟨_, rfl⟩
            have hlU : w1.heap.size ≤ gU ∧ gV < gU := by rw [hgU]; exact ⟨q12.size, hZV⟩
            rw [← hgU] at hU
            try rw [← hgU]
            clear hgU q0 q1 q2 q3 q4 q5 q6 q7 q8 q9 q10 q11 q12
            generalize wx16.alloc (.cells #[.int .i64 0, .int .i64 0, .int .i64 0, .int .i64 0] 55) = wx15 at *
            refine wpAnyU_ready (rs := [14]) (by kernel_rfl) (by simp) ?_
            refine AllReadyU.cons 0 (by kernel_rfl) (o := _) rfl (fun K hK => ?_) AllReadyU.nil
            try clear hb
            have hG := hH
            replace hG := S4o0 hG; (try dsimp only at hG); have q0 := hG.1; have q1 := hG.2.1; have q2 := hG.2.2.1; have q3 := hG.2.2.2.1; have q4 := hG.2.2.2.2.1; have q5 := hG.2.2.2.2.2.1; have q6 := hG.2.2.2.2.2.2.1; have q7 := hG.2.2.2.2.2.2.2.1; have q8 := hG.2.2.2.2.2.2.2.2.1; have q9 := hG.2.2.2.2.2.2.2.2.2.1; have q10 := hG.2.2.2.2.2.2.2.2.2.2.1; have q11 := hG.2.2.2.2.2.2.2.2.2.2.2.1; have q12 := hG.2.2.2.2.2.2.2.2.2.2.2.2
            have hZU := Vb.lt hU
            have hZV := Vb.lt hV
            go_simp
            refine hK.out _ _ ?hsr3_44 (fun hH2 => ?hrr3_44)
            case hsr3_44 => exact S4i0 (by have hG := hH; replace hG := S4o0 hG; (try dsimp only at hG); have q0 := hG.1; have q1 := hG.2.1; have q2 := hG.2.2.1; have q3 := hG.2.2.2.1; have q4 := hG.2.2.2.2.1; have q5 := hG.2.2.2.2.2.1; have q6 := hG.2.2.2.2.2.2.1; have q7 := hG.2.2.2.2.2.2.2.1; have q8 := hG.2.2.2.2.2.2.2.2.1; have q9 := hG.2.2.2.2.2.2.2.2.2.1; have q10 := hG.2.2.2.2.2.2.2.2.2.2.1; have q11 := hG.2.2.2.2.2.2.2.2.2.2.2.1; have q12 := hG.2.2.2.2.2.2.2.2.2.2.2.2; exact ⟨keepCell ((Below.refl _ _).alloc (Nat.le_refl _) _) q0, keepCell ((Below.refl _ _).alloc (Nat.le_refl _) _) q1, keepCell ((Below.refl _ _).alloc (Nat.le_refl _) _) q2, keepCell ((Below.refl _ _).alloc (Nat.le_refl _) _) q3, keepCell ((Below.refl _ _).alloc (Nat.le_refl _) _) q4, keepCell ((Below.refl _ _).alloc (Nat.le_refl _) _) q5, keepCell ((Below.refl _ _).alloc (Nat.le_refl _) _) q6, keepCell ((Below.refl _ _).alloc (Nat.le_refl _) _) q7, keepCell ((Below.refl _ _).alloc (Nat.le_refl _) _) q8, keepCell ((Below.refl _ _).alloc (Nat.le_refl _) _) q9, keepCell ((Below.refl _ _).alloc (Nat.le_refl _) _) q10, keepCell ((Below.refl _ _).alloc (Nat.le_refl _) _) q11, q12.alloc q12.size _⟩)
            clear hK K hH
            have hH := hH2
            clear hH2
            try simp only [Act.put, List.setIfInBounds_toArray, List.set_cons_zero, List.set_cons_succ]
            have hT : Vb (wx15.alloc (.cells #[.int .i64 0, .int .i64 0, .int .i64 0, .int .i64 0] 55)) wx15.heap.size := Vb.here wx15
            replace hU := keepVb ((Below.refl _ _).alloc (Nat.le_refl _) (.cells #[.int .i64 0, .int .i64 0, .int .i64 0, .int .i64 0] 55)) hU
            replace hV := keepVb ((Below.refl _ _).alloc (Nat.le_refl _) (.cells #[.int .i64 0, .int .i64 0, .int .i64 0, .int .i64 0] 55)) hV
            obtain ⟨gT, hgT⟩ : ∃ g, g = wx15.heap.size := ⟨_, rfl⟩
            have hlT : w1.heap.size ≤ gT ∧ gU < gT ∧ gV < gT := by rw [hgT]; exact ⟨q12.size, hZU, hZV⟩
            rw [← hgT] at hT
            try rw [← hgT]
            clear hgT q0 q1 q2 q3 q4 q5 q6 q7 q8 q9 q10 q11 q12
            generalize wx15.alloc (.cells #[.int .i64 0, .int .i64 0, .int .i64 0, .int .i64 0] 55) = wx14 at *
            refine wpAnyU_ready (rs := [17]) (by kernel_rfl) (by simp) ?_
            refine AllReadyU.cons 1 (by kernel_rfl) (o := _) rfl (fun K hK => ?_) AllReadyU.nil
            have hG := hH
            replace hG := S4o0 hG; (try dsimp only at hG); have q0 := hG.1; have q1 := hG.2.1; have q2 := hG.2.2.1; have q3 := hG.2.2.2.1; have q4 := hG.2.2.2.2.1; have q5 := hG.2.2.2.2.2.1; have q6 := hG.2.2.2.2.2.2.1; have q7 := hG.2.2.2.2.2.2.2.1; have q8 := hG.2.2.2.2.2.2.2.2.1; have q9 := hG.2.2.2.2.2.2.2.2.2.1; have q10 := hG.2.2.2.2.2.2.2.2.2.2.1; have q11 := hG.2.2.2.2.2.2.2.2.2.2.2.1; have q12 := hG.2.2.2.2.2.2.2.2.2.2.2.2
            have HT := hid hT
            have HU := hid hU
            have HV := hid hV
            have HB := hid q12
            clear hT hU hV q0 q1 q2 q3 q12
            have hnb : gT ≠ b := by omega
            obtain ⟨⟨⟨_, x0⟩, ⟨_, x1⟩, ⟨_, x2⟩, ⟨_, x3⟩⟩, xf⟩ := HT.out
            go_simp
            refine hK.out _ _ ?hsr3_45 (fun hH2 => ?hrr3_45)
            case hsr3_45 => exact S4i1 ⟨far1 hnb (far1 hnb (far1 hnb (far1 hnb q4))), far1 hnb (far1 hnb (far1 hnb (far1 hnb q5))), far1 hnb (far1 hnb (far1 hnb (far1 hnb q6))), far1 hnb (far1 hnb (far1 hnb (far1 hnb q7))), far1 hnb (far1 hnb (far1 hnb (far1 hnb q8))), far1 hnb (far1 hnb (far1 hnb (far1 hnb q9))), far1 hnb (far1 hnb (far1 hnb (far1 hnb q10))), far1 hnb (far1 hnb (far1 hnb (far1 hnb q11)))⟩
            clear hK K hH
            have hH := hH2
            clear hH2
            try simp only [Act.put, List.setIfInBounds_toArray, List.set_cons_zero, List.set_cons_succ]
            replace HT := hid (HT.out.put4 ((a1, a2), (a3, a4)))
            replace HU := hid (HU.out.off4 (show gT ≠ gU by omega) ((a1, a2), (a3, a4)))
            replace HV := hid (HV.out.off4 (show gT ≠ gV by omega) ((a1, a2), (a3, a4)))
            replace HB := hid (below_put4 HB.out (show w1.heap.size ≤ gT by omega) ((a1, a2), (a3, a4)))
            obtain ⟨wy17, hwy⟩ : ∃ w', w' = (((wx14.setCell ⟨gT, 0, none⟩ (.int .i64 a1)).setCell ⟨gT, 1, none⟩ (.int .i64 a2)).setCell ⟨gT, 2, none⟩ (.int .i64 a3)).setCell ⟨gT, 3, none⟩ (.int .i64 a4) := ⟨_, rfl⟩
            replace HT : Hid (Vd wy17 gT ((a1, a2), (a3, a4))) := by rw [hwy]; exact HT
            replace HU : Hid (Vb wy17 gU) := by rw [hwy]; exact HU
            replace HV : Hid (Vb wy17 gV) := by rw [hwy]; exact HV
            replace HB : Hid (Below w1.heap.size w1 wy17) := by rw [hwy]; exact HB
            try rw [← hwy] at hH
            rw [← hwy]
            clear hwy x0 x1 x2 x3 xf hnb q4 q5 q6 q7 q8 q9 q10 q11
            refine wpAnyU_ready (rs := [18]) (by kernel_rfl) (by simp) ?_
            refine AllReadyU.cons 2 (by kernel_rfl) (o := _) rfl (fun K hK => ?_) AllReadyU.nil
            have hG := hH
            replace hG := S4o1 hG; (try dsimp only at hG); have q4 := hG.1; have q5 := hG.2.1; have q6 := hG.2.2.1; have q7 := hG.2.2.2.1; have q8 := hG.2.2.2.2.1; have q9 := hG.2.2.2.2.2.1; have q10 := hG.2.2.2.2.2.2.1; have q11 := hG.2.2.2.2.2.2.2
            have hnb : gU ≠ b := by omega
            obtain ⟨⟨⟨_, x0⟩, ⟨_, x1⟩, ⟨_, x2⟩, ⟨_, x3⟩⟩, xf⟩ := HU.out
            go_simp
            refine hK.out _ _ ?hsr3_46 (fun hH2 => ?hrr3_46)
            case hsr3_46 => exact S4i2 ⟨far1 hnb (far1 hnb (far1 hnb (far1 hnb q8))), far1 hnb (far1 hnb (far1 hnb (far1 hnb q9))), far1 hnb (far1 hnb (far1 hnb (far1 hnb q10))), far1 hnb (far1 hnb (far1 hnb (far1 hnb q11)))⟩
            clear hK K hH
            have hH := hH2
            clear hH2
            try simp only [Act.put, List.setIfInBounds_toArray, List.set_cons_zero, List.set_cons_succ]
            replace HT := hid (HT.out.off4 (show gU ≠ gT by omega) ((b1, b2), (b3, b4)))
            replace HU := hid (HU.out.put4 ((b1, b2), (b3, b4)))
            replace HV := hid (HV.out.off4 (show gU ≠ gV by omega) ((b1, b2), (b3, b4)))
            replace HB := hid (below_put4 HB.out (show w1.heap.size ≤ gU by omega) ((b1, b2), (b3, b4)))
            obtain ⟨wy18, hwy⟩ : ∃ w', w' = (((wy17.setCell ⟨gU, 0, none⟩ (.int .i64 b1)).setCell ⟨gU, 1, none⟩ (.int .i64 b2)).setCell ⟨gU, 2, none⟩ (.int .i64 b3)).setCell ⟨gU, 3, none⟩ (.int .i64 b4) := ⟨_, rfl⟩
            replace HT : Hid (Vd wy18 gT ((a1, a2), (a3, a4))) := by rw [hwy]; exact HT
            replace HU : Hid (Vd wy18 gU ((b1, b2), (b3, b4))) := by rw [hwy]; exact HU
            replace HV : Hid (Vb wy18 gV) := by rw [hwy]; exact HV
            replace HB : Hid (Below w1.heap.size w1 wy18) := by rw [hwy]; exact HB
            try rw [← hwy] at hH
            rw [← hwy]
            clear hwy x0 x1 x2 x3 xf hnb q4 q5 q6 q7 q8 q9 q10 q11
            refine wpAnyU_ready (rs := [19]) (by kernel_rfl) (by simp) ?_
            refine AllReadyU.cons 3 (by kernel_rfl) (o := _) rfl (fun K hK => ?_) AllReadyU.nil
            have hnb : gV ≠ b := by omega
            obtain ⟨⟨⟨_, x0⟩, ⟨_, x1⟩, ⟨_, x2⟩, ⟨_, x3⟩⟩, xf⟩ := HV.out
            go_simp
            refine hK.out _ _ ?hsr3_47 (fun hH2 => ?hrr3_47)
            case hsr3_47 => exact S4i3
            clear hK K hH
            have hH := hH2
            clear hH2
            try simp only [Act.put, List.setIfInBounds_toArray, List.set_cons_zero, List.set_cons_succ]
            replace HT := hid (HT.out.off4 (show gV ≠ gT by omega) ((c1, c2), (c3, c4)))
            replace HU := hid (HU.out.off4 (show gV ≠ gU by omega) ((c1, c2), (c3, c4)))
            replace HV := hid (HV.out.put4 ((c1, c2), (c3, c4)))
            replace HB := hid (below_put4 HB.out (show w1.heap.size ≤ gV by omega) ((c1, c2), (c3, c4)))
            obtain ⟨wy19, hwy⟩ : ∃ w', w' = (((wy18.setCell ⟨gV, 0, none⟩ (.int .i64 c1)).setCell ⟨gV, 1, none⟩ (.int .i64 c2)).setCell ⟨gV, 2, none⟩ (.int .i64 c3)).setCell ⟨gV, 3, none⟩ (.int .i64 c4) := ⟨_, rfl⟩
            replace HT : Hid (Vd wy19 gT ((a1, a2), (a3, a4))) := by rw [hwy]; exact HT
            replace HU : Hid (Vd wy19 gU ((b1, b2), (b3, b4))) := by rw [hwy]; exact HU
            replace HV : Hid (Vd wy19 gV ((c1, c2), (c3, c4))) := by rw [hwy]; exact HV
            replace HB : Hid (Below w1.heap.size w1 wy19) := by rw [hwy]; exact HB
            try rw [← hwy] at hH
            rw [← hwy]
            clear hwy x0 x1 x2 x3 xf hnb
            refine wpAnyU_done (by kernel_rfl) ?_ _ _
            refine NoPanic.normal ?_
            go_wp2_with fail
            go_meet
            exact ⟨gT, gU, gV, rfl, rfl, rfl, HT.out, HU.out, HV.out, HB.out⟩
          exact AllReadyU.nil
        exact AllReadyU.nil
      case rest =>
        obtain ⟨gT, gU, gV, rfl, rfl, rfl, vT, vU, vV, hB2⟩ := hcut
        clear ka0 ka1 ka2 ka3 kb0 kb1 kb2 kb3 kc0 kc1 kc2 kc3 hbl hBo
        obtain ⟨t0, t1, t2, t3⟩ := id vT
        obtain ⟨u0, u1, u2, u3⟩ := id vU
        dsimp only at t0 t1 t2 t3 u0 u1 u2 u3
        have VT := hid vT
        have VU := hid vU
        have VVV := hid vV
        clear vT vU vV
        go_wp2_with fail
        refine (HJ0.out _).mono ?_
        rintro e w3 ⟨rfl, hb3⟩
        clear HJ0 t0 t1 t2 t3 u0 u1 u2 u3
        replace VT := hid (keepVd hb3 VT.out)
        replace VU := hid (keepVd hb3 VU.out)
        replace VVV := hid (keepVd hb3 VVV.out)
        replace hB2 := keepBelow hb3 hB2
        clear hb3
        obtain ⟨wj, hwj⟩ : ∃ W, W = w3.alloc (.cells #[.int .i64 j1, .int .i64 j2, .int .i64 j3, .int .i64 j4] 55) := ⟨_, rfl⟩
        obtain ⟨gJ, hgJ⟩ : ∃ g, g = w3.heap.size := ⟨_, rfl⟩
        have vJ : Vd wj gJ ((j1, j2), (j3, j4)) := by rw [hwj, hgJ]; exact ⟨by go_simp, by go_simp, by go_simp, by go_simp⟩
        have hba : Below w3.heap.size w3 wj := by rw [hwj]; go_grown
        have vT := keepVd hba VT.out
        have vU := keepVd hba VU.out
        have vV := keepVd hba VVV.out
        have hB3 := keepBelow hba hB2
        clear hba VT VU VVV hB2
        have HQJ := run_eqB j1 j2 j3 j4
        have HQA := run_eqB a1 a2 a3 a4
        go_upto_region 9 with fail
        rw [← hwj, ← hgJ]
        clear hwj hgJ
        cases m1 with
        | true =>
          cases m3 with
          | false => exact absurd (HLW.out (.inl rfl)) (by simp)
          | true =>
            clear HLW HM2
            refine wp_region_noPanic ?_
            refine wp_region_U (S := (S2 (fun w' => Vd w' (gT) ((a1, a2), (a3, a4)) ∧ Vd w' (gU) ((b1, b2), (b3, b4)) ∧ Vd w' (gV) ((c1, c2), (c3, c4)) ∧ Vd w' (gJ) ((j1, j2), (j3, j4)) ∧ Below w1.heap.size w1 w'))) (T := (fun _ => 0)) (by kernel_rfl) (S2i0 ⟨vT.drew, vU.drew, vV.drew, vJ.drew, hB3.drew⟩) (fun hH => ?_)
            have hWr4 : Weaker (S2 (fun w' => Vd w' (gT) ((a1, a2), (a3, a4)) ∧ Vd w' (gU) ((b1, b2), (b3, b4)) ∧ Vd w' (gV) ((c1, c2), (c3, c4)) ∧ Vd w' (gJ) ((j1, j2), (j3, j4)) ∧ Below w1.heap.size w1 w')) := weaker2 _
            refine U_take 0 37 34 0 0 (v := ?vr4_1) rfl (by kernel_rfl) (by kernel_rfl) hWr4 (by kernel_rfl) (by kernel_rfl) (by kernel_rfl) (by kernel_rfl) (by kernel_rfl) (by kernel_rfl) (fun _ _ _ _ h => h) (by kernel_rfl) ?hyr4_1 (by omega) hH ?_
            case hyr4_1 => (intro w' hSw; replace hSw := S2o0 hSw; (try dsimp only at hSw); have q0 := hSw.1; have q1 := hSw.2.1; have q2 := hSw.2.2.1; have q3 := hSw.2.2.2.1; have q4 := hSw.2.2.2.2; obtain ⟨qa0_0, qa0_1, qa0_2, qa0_3⟩ := q0; obtain ⟨qa1_0, qa1_1, qa1_2, qa1_3⟩ := q1; obtain ⟨qa2_0, qa2_1, qa2_2, qa2_3⟩ := q2; obtain ⟨qa3_0, qa3_1, qa3_2, qa3_3⟩ := q3; go_simp; try (with_reducible rfl))
            simp only [List.set_cons_zero, List.set_cons_succ]
            refine U_take 1 38 33 0 0 (v := ?vr4_2) rfl (by kernel_rfl) (by kernel_rfl) hWr4 (by kernel_rfl) (by kernel_rfl) (by kernel_rfl) (by kernel_rfl) (by kernel_rfl) (by kernel_rfl) (fun _ _ _ _ h => h) (by kernel_rfl) ?hyr4_2 (by omega) hH ?_
            case hyr4_2 => (intro w' hSw; replace hSw := S2o0 hSw; (try dsimp only at hSw); have q0 := hSw.1; have q1 := hSw.2.1; have q2 := hSw.2.2.1; have q3 := hSw.2.2.2.1; have q4 := hSw.2.2.2.2; obtain ⟨qa0_0, qa0_1, qa0_2, qa0_3⟩ := q0; obtain ⟨qa1_0, qa1_1, qa1_2, qa1_3⟩ := q1; obtain ⟨qa2_0, qa2_1, qa2_2, qa2_3⟩ := q2; obtain ⟨qa3_0, qa3_1, qa3_2, qa3_3⟩ := q3; go_simp; try (with_reducible rfl))
            simp only [List.set_cons_zero, List.set_cons_succ]
            refine U_take 2 39 32 0 0 (v := ?vr4_3) rfl (by kernel_rfl) (by kernel_rfl) hWr4 (by kernel_rfl) (by kernel_rfl) (by kernel_rfl) (by kernel_rfl) (by kernel_rfl) (by kernel_rfl) (fun _ _ _ _ h => h) (by kernel_rfl) ?hyr4_3 (by omega) hH ?_
            case hyr4_3 => (intro w' hSw; replace hSw := S2o0 hSw; (try dsimp only at hSw); have q0 := hSw.1; have q1 := hSw.2.1; have q2 := hSw.2.2.1; have q3 := hSw.2.2.2.1; have q4 := hSw.2.2.2.2; obtain ⟨qa0_0, qa0_1, qa0_2, qa0_3⟩ := q0; obtain ⟨qa1_0, qa1_1, qa1_2, qa1_3⟩ := q1; obtain ⟨qa2_0, qa2_1, qa2_2, qa2_3⟩ := q2; obtain ⟨qa3_0, qa3_1, qa3_2, qa3_3⟩ := q3; go_simp; try (with_reducible rfl))
            simp only [List.set_cons_zero, List.set_cons_succ]
            refine wpAnyU_ready (rs := [3]) (by kernel_rfl) (by simp) ?_
            refine AllReadyU.cons 0 (by kernel_rfl) (o := _) rfl (fun K hK => ?_) AllReadyU.nil
            try clear hb
            go_simp
            (go_at_call 35; refine (HJ1.out _).mono ?_; rintro e wn ⟨rfl, hb⟩; (try (replace hT := keepVZ hb hT)))
            refine hK.out _ _ ?hsr4_4 (fun hH2 => ?hrr4_4)
            case hsr4_4 => exact S2i0 (by have hG := hH; replace hG := S2o0 hG; (try dsimp only at hG); have q0 := hG.1; have q1 := hG.2.1; have q2 := hG.2.2.1; have q3 := hG.2.2.2.1; have q4 := hG.2.2.2.2; exact ⟨keepVd hb q0, keepVd hb q1, keepVd hb q2, keepVd hb q3, keepBelow hb q4⟩)
            clear hK K hH
            have hH := hH2
            clear hH2
            try simp only [Act.put, List.setIfInBounds_toArray, List.set_cons_zero, List.set_cons_succ]
            refine U_take 4 41 30 0 0 (v := ?vr4_5) rfl (by kernel_rfl) (by kernel_rfl) hWr4 (by kernel_rfl) (by kernel_rfl) (by kernel_rfl) (by kernel_rfl) (by kernel_rfl) (by kernel_rfl) (fun _ _ _ _ h => h) (by kernel_rfl) ?hyr4_5 (by omega) hH ?_
            case hyr4_5 => (intro w' hSw; clear hSw; go_simp; try (with_reducible rfl))
            simp only [List.set_cons_zero, List.set_cons_succ]
            refine U_take 5 42 29 0 0 (v := ?vr4_6) rfl (by kernel_rfl) (by kernel_rfl) hWr4 (by kernel_rfl) (by kernel_rfl) (by kernel_rfl) (by kernel_rfl) (by kernel_rfl) (by kernel_rfl) (fun _ _ _ _ h => h) (by kernel_rfl) ?hyr4_6 (by omega) hH ?_
            case hyr4_6 => (intro w' hSw; clear hSw; go_simp; try (with_reducible rfl))
            simp only [List.set_cons_zero, List.set_cons_succ]
            refine U_take 6 43 28 0 0 (v := ?vr4_7) rfl (by kernel_rfl) (by kernel_rfl) hWr4 (by kernel_rfl) (by kernel_rfl) (by kernel_rfl) (by kernel_rfl) (by kernel_rfl) (by kernel_rfl) (fun _ _ _ _ h => h) (by kernel_rfl) ?hyr4_7 (by omega) hH ?_
            case hyr4_7 => (intro w' hSw; replace hSw := S2o0 hSw; (try dsimp only at hSw); have q0 := hSw.1; have q1 := hSw.2.1; have q2 := hSw.2.2.1; have q3 := hSw.2.2.2.1; have q4 := hSw.2.2.2.2; obtain ⟨qa0_0, qa0_1, qa0_2, qa0_3⟩ := q0; obtain ⟨qa1_0, qa1_1, qa1_2, qa1_3⟩ := q1; obtain ⟨qa2_0, qa2_1, qa2_2, qa2_3⟩ := q2; obtain ⟨qa3_0, qa3_1, qa3_2, qa3_3⟩ := q3; go_simp; try (with_reducible rfl))
            simp only [List.set_cons_zero, List.set_cons_succ]
            refine U_take 7 44 27 0 0 (v := ?vr4_8) rfl (by kernel_rfl) (by kernel_rfl) hWr4 (by kernel_rfl) (by kernel_rfl) (by kernel_rfl) (by kernel_rfl) (by kernel_rfl) (by kernel_rfl) (fun _ _ _ _ h => h) (by kernel_rfl) ?hyr4_8 (by omega) hH ?_
            case hyr4_8 => (intro w' hSw; replace hSw := S2o0 hSw; (try dsimp only at hSw); have q0 := hSw.1; have q1 := hSw.2.1; have q2 := hSw.2.2.1; have q3 := hSw.2.2.2.1; have q4 := hSw.2.2.2.2; obtain ⟨qa0_0, qa0_1, qa0_2, qa0_3⟩ := q0; obtain ⟨qa1_0, qa1_1, qa1_2, qa1_3⟩ := q1; obtain ⟨qa2_0, qa2_1, qa2_2, qa2_3⟩ := q2; obtain ⟨qa3_0, qa3_1, qa3_2, qa3_3⟩ := q3; go_simp; try (with_reducible rfl))
            simp only [List.set_cons_zero, List.set_cons_succ]
            refine U_take 9 46 26 0 0 (v := ?vr4_9) rfl (by kernel_rfl) (by kernel_rfl) hWr4 (by kernel_rfl) (by kernel_rfl) (by kernel_rfl) (by kernel_rfl) (by kernel_rfl) (by kernel_rfl) (fun _ _ _ _ h => h) (by kernel_rfl) ?hyr4_9 (by omega) hH ?_
            case hyr4_9 => (intro w' hSw; replace hSw := S2o0 hSw; (try dsimp only at hSw); have q0 := hSw.1; have q1 := hSw.2.1; have q2 := hSw.2.2.1; have q3 := hSw.2.2.2.1; have q4 := hSw.2.2.2.2; obtain ⟨qa0_0, qa0_1, qa0_2, qa0_3⟩ := q0; obtain ⟨qa1_0, qa1_1, qa1_2, qa1_3⟩ := q1; obtain ⟨qa2_0, qa2_1, qa2_2, qa2_3⟩ := q2; obtain ⟨qa3_0, qa3_1, qa3_2, qa3_3⟩ := q3; go_simp; try (with_reducible rfl))
            simp only [List.set_cons_zero, List.set_cons_succ]
            refine wpAnyU_ready (rs := [8]) (by kernel_rfl) (by simp) ?_
            refine AllReadyU.cons 0 (by kernel_rfl) (o := _) rfl (fun K hK => ?_) AllReadyU.nil
            try clear hb
            go_simp
            (go_at_call 35; refine (HJ2.out _).mono ?_; rintro e wn ⟨rfl, hb⟩; (try (replace hT := keepVZ hb hT)))
            refine hK.out _ _ ?hsr4_10 (fun hH2 => ?hrr4_10)
            case hsr4_10 => exact S2i0 (by have hG := hH; replace hG := S2o0 hG; (try dsimp only at hG); have q0 := hG.1; have q1 := hG.2.1; have q2 := hG.2.2.1; have q3 := hG.2.2.2.1; have q4 := hG.2.2.2.2; exact ⟨keepVd hb q0, keepVd hb q1, keepVd hb q2, keepVd hb q3, keepBelow hb q4⟩)
            clear hK K hH
            have hH := hH2
            clear hH2
            try simp only [Act.put, List.setIfInBounds_toArray, List.set_cons_zero, List.set_cons_succ]
            refine U_take 10 47 24 0 0 (v := ?vr4_11) rfl (by kernel_rfl) (by kernel_rfl) hWr4 (by kernel_rfl) (by kernel_rfl) (by kernel_rfl) (by kernel_rfl) (by kernel_rfl) (by kernel_rfl) (fun _ _ _ _ h => h) (by kernel_rfl) ?hyr4_11 (by omega) hH ?_
            case hyr4_11 => (intro w' hSw; clear hSw; go_simp; try (with_reducible rfl))
            simp only [List.set_cons_zero, List.set_cons_succ]
            refine U_take 11 48 23 0 0 (v := ?vr4_12) rfl (by kernel_rfl) (by kernel_rfl) hWr4 (by kernel_rfl) (by kernel_rfl) (by kernel_rfl) (by kernel_rfl) (by kernel_rfl) (by kernel_rfl) (fun _ _ _ _ h => h) (by kernel_rfl) ?hyr4_12 (by omega) hH ?_
            case hyr4_12 => (intro w' hSw; clear hSw; go_simp; try (with_reducible rfl))
            simp only [List.set_cons_zero, List.set_cons_succ]
            refine U_take 12 49 22 0 0 (v := ?vr4_13) rfl (by kernel_rfl) (by kernel_rfl) hWr4 (by kernel_rfl) (by kernel_rfl) (by kernel_rfl) (by kernel_rfl) (by kernel_rfl) (by kernel_rfl) (fun _ _ _ _ h => h) (by kernel_rfl) ?hyr4_13 (by omega) hH ?_
            case hyr4_13 => (intro w' hSw; clear hSw; go_simp; try (with_reducible rfl))
            simp only [List.set_cons_zero, List.set_cons_succ]
            refine U_take 13 50 21 0 0 (v := ?vr4_14) rfl (by kernel_rfl) (by kernel_rfl) hWr4 (by kernel_rfl) (by kernel_rfl) (by kernel_rfl) (by kernel_rfl) (by kernel_rfl) (by kernel_rfl) (fun _ _ _ _ h => h) (by kernel_rfl) ?hyr4_14 (by omega) hH ?_
            case hyr4_14 => (intro w' hSw; replace hSw := S2o0 hSw; (try dsimp only at hSw); have q0 := hSw.1; have q1 := hSw.2.1; have q2 := hSw.2.2.1; have q3 := hSw.2.2.2.1; have q4 := hSw.2.2.2.2; obtain ⟨qa0_0, qa0_1, qa0_2, qa0_3⟩ := q0; obtain ⟨qa1_0, qa1_1, qa1_2, qa1_3⟩ := q1; obtain ⟨qa2_0, qa2_1, qa2_2, qa2_3⟩ := q2; obtain ⟨qa3_0, qa3_1, qa3_2, qa3_3⟩ := q3; go_simp; try (with_reducible rfl))
            simp only [List.set_cons_zero, List.set_cons_succ]
            refine U_take 14 51 20 0 0 (v := ?vr4_15) rfl (by kernel_rfl) (by kernel_rfl) hWr4 (by kernel_rfl) (by kernel_rfl) (by kernel_rfl) (by kernel_rfl) (by kernel_rfl) (by kernel_rfl) (fun _ _ _ _ h => h) (by kernel_rfl) ?hyr4_15 (by omega) hH ?_
            case hyr4_15 => (intro w' hSw; replace hSw := S2o0 hSw; (try dsimp only at hSw); have q0 := hSw.1; have q1 := hSw.2.1; have q2 := hSw.2.2.1; have q3 := hSw.2.2.2.1; have q4 := hSw.2.2.2.2; obtain ⟨qa0_0, qa0_1, qa0_2, qa0_3⟩ := q0; obtain ⟨qa1_0, qa1_1, qa1_2, qa1_3⟩ := q1; obtain ⟨qa2_0, qa2_1, qa2_2, qa2_3⟩ := q2; obtain ⟨qa3_0, qa3_1, qa3_2, qa3_3⟩ := q3; go_simp; try (with_reducible rfl))
            simp only [List.set_cons_zero, List.set_cons_succ]
            refine U_take 16 53 19 0 0 (v := ?vr4_16) rfl (by kernel_rfl) (by kernel_rfl) hWr4 (by kernel_rfl) (by kernel_rfl) (by kernel_rfl) (by kernel_rfl) (by kernel_rfl) (by kernel_rfl) (fun _ _ _ _ h => h) (by kernel_rfl) ?hyr4_16 (by omega) hH ?_
            case hyr4_16 => (intro w' hSw; replace hSw := S2o0 hSw; (try dsimp only at hSw); have q0 := hSw.1; have q1 := hSw.2.1; have q2 := hSw.2.2.1; have q3 := hSw.2.2.2.1; have q4 := hSw.2.2.2.2; obtain ⟨qa0_0, qa0_1, qa0_2, qa0_3⟩ := q0; obtain ⟨qa1_0, qa1_1, qa1_2, qa1_3⟩ := q1; obtain ⟨qa2_0, qa2_1, qa2_2, qa2_3⟩ := q2; obtain ⟨qa3_0, qa3_1, qa3_2, qa3_3⟩ := q3; go_simp; try (with_reducible rfl))
            simp only [List.set_cons_zero, List.set_cons_succ]
            refine wpAnyU_ready (rs := [15]) (by kernel_rfl) (by simp) ?_
            refine AllReadyU.cons 0 (by kernel_rfl) (o := _) rfl (fun K hK => ?_) AllReadyU.nil
            try clear hb
            go_simp
            (go_at_call 35; refine (HJ3.out _).mono ?_; rintro e wn ⟨rfl, hb⟩; (try (replace hT := keepVZ hb hT)))
            refine hK.out _ _ ?hsr4_17 (fun hH2 => ?hrr4_17)
            case hsr4_17 => exact S2i0 (by have hG := hH; replace hG := S2o0 hG; (try dsimp only at hG); have q0 := hG.1; have q1 := hG.2.1; have q2 := hG.2.2.1; have q3 := hG.2.2.2.1; have q4 := hG.2.2.2.2; exact ⟨keepVd hb q0, keepVd hb q1, keepVd hb q2, keepVd hb q3, keepBelow hb q4⟩)
            clear hK K hH
            have hH := hH2
            clear hH2
            try simp only [Act.put, List.setIfInBounds_toArray, List.set_cons_zero, List.set_cons_succ]
            refine U_take 17 54 17 0 0 (v := ?vr4_18) rfl (by kernel_rfl) (by kernel_rfl) hWr4 (by kernel_rfl) (by kernel_rfl) (by kernel_rfl) (by kernel_rfl) (by kernel_rfl) (by kernel_rfl) (fun _ _ _ _ h => h) (by kernel_rfl) ?hyr4_18 (by omega) hH ?_
            case hyr4_18 => (intro w' hSw; clear hSw; go_simp; try (with_reducible rfl))
            simp only [List.set_cons_zero, List.set_cons_succ]
            refine U_take 18 55 16 0 0 (v := ?vr4_19) rfl (by kernel_rfl) (by kernel_rfl) hWr4 (by kernel_rfl) (by kernel_rfl) (by kernel_rfl) (by kernel_rfl) (by kernel_rfl) (by kernel_rfl) (fun _ _ _ _ h => h) (by kernel_rfl) ?hyr4_19 (by omega) hH ?_
            case hyr4_19 => (intro w' hSw; clear hSw; go_simp; try (with_reducible rfl))
            simp only [List.set_cons_zero, List.set_cons_succ]
            refine U_take 19 56 15 0 0 (v := ?vr4_20) rfl (by kernel_rfl) (by kernel_rfl) hWr4 (by kernel_rfl) (by kernel_rfl) (by kernel_rfl) (by kernel_rfl) (by kernel_rfl) (by kernel_rfl) (fun _ _ _ _ h => h) (by kernel_rfl) ?hyr4_20 (by omega) hH ?_
            case hyr4_20 => (intro w' hSw; clear hSw; go_simp; try (with_reducible rfl))
            simp only [List.set_cons_zero, List.set_cons_succ]
            refine U_take 20 57 14 0 0 (v := ?vr4_21) rfl (by kernel_rfl) (by kernel_rfl) hWr4 (by kernel_rfl) (by kernel_rfl) (by kernel_rfl) (by kernel_rfl) (by kernel_rfl) (by kernel_rfl) (fun _ _ _ _ h => h) (by kernel_rfl) ?hyr4_21 (by omega) hH ?_
            case hyr4_21 => (intro w' hSw; replace hSw := S2o0 hSw; (try dsimp only at hSw); have q0 := hSw.1; have q1 := hSw.2.1; have q2 := hSw.2.2.1; have q3 := hSw.2.2.2.1; have q4 := hSw.2.2.2.2; obtain ⟨qa0_0, qa0_1, qa0_2, qa0_3⟩ := q0; obtain ⟨qa1_0, qa1_1, qa1_2, qa1_3⟩ := q1; obtain ⟨qa2_0, qa2_1, qa2_2, qa2_3⟩ := q2; obtain ⟨qa3_0, qa3_1, qa3_2, qa3_3⟩ := q3; go_simp; try (with_reducible rfl))
            simp only [List.set_cons_zero, List.set_cons_succ]
            refine U_take 21 58 13 0 0 (v := ?vr4_22) rfl (by kernel_rfl) (by kernel_rfl) hWr4 (by kernel_rfl) (by kernel_rfl) (by kernel_rfl) (by kernel_rfl) (by kernel_rfl) (by kernel_rfl) (fun _ _ _ _ h => h) (by kernel_rfl) ?hyr4_22 (by omega) hH ?_
            case hyr4_22 => (intro w' hSw; replace hSw := S2o0 hSw; (try dsimp only at hSw); have q0 := hSw.1; have q1 := hSw.2.1; have q2 := hSw.2.2.1; have q3 := hSw.2.2.2.1; have q4 := hSw.2.2.2.2; obtain ⟨qa0_0, qa0_1, qa0_2, qa0_3⟩ := q0; obtain ⟨qa1_0, qa1_1, qa1_2, qa1_3⟩ := q1; obtain ⟨qa2_0, qa2_1, qa2_2, qa2_3⟩ := q2; obtain ⟨qa3_0, qa3_1, qa3_2, qa3_3⟩ := q3; go_simp; try (with_reducible rfl))
            simp only [List.set_cons_zero, List.set_cons_succ]
            refine wpAnyU_ready (rs := [22]) (by kernel_rfl) (by simp) ?_
            refine AllReadyU.cons 0 (by kernel_rfl) (o := _) rfl (fun K hK => ?_) AllReadyU.nil
            try clear hb
            go_simp
            (go_at_call 36; refine (HM1.out _).mono ?_; rintro e wn ⟨rfl, hb⟩; (try (replace hT := keepVZ hb hT)))
            refine hK.out _ _ ?hsr4_23 (fun hH2 => ?hrr4_23)
            case hsr4_23 => exact S2i0 (by have hG := hH; replace hG := S2o0 hG; (try dsimp only at hG); have q0 := hG.1; have q1 := hG.2.1; have q2 := hG.2.2.1; have q3 := hG.2.2.2.1; have q4 := hG.2.2.2.2; exact ⟨keepVd hb q0, keepVd hb q1, keepVd hb q2, keepVd hb q3, keepBelow hb q4⟩)
            clear hK K hH
            have hH := hH2
            clear hH2
            try simp only [Act.put, List.setIfInBounds_toArray, List.set_cons_zero, List.set_cons_succ]
            refine U_take 23 60 11 0 0 (v := ?vr4_24) rfl (by kernel_rfl) (by kernel_rfl) hWr4 (by kernel_rfl) (by kernel_rfl) (by kernel_rfl) (by kernel_rfl) (by kernel_rfl) (by kernel_rfl) (fun _ _ _ _ h => h) (by kernel_rfl) ?hyr4_24 (by omega) hH ?_
            case hyr4_24 => (intro w' hSw; clear hSw; go_simp; try (with_reducible rfl))
            simp only [List.set_cons_zero, List.set_cons_succ]
            refine U_skips (by kernel_rfl) (fun _ _ _ _ h => h) hWr4 0 0 (by omega) hH [(24, 61), (25, 62), (26, 63)] 8 _ _ _ (by kernel_rfl) (by kernel_rfl) ?_
            simp only [tsetUndef, List.set_cons_zero, List.set_cons_succ]
            refine U_take 27 64 7 0 0 (v := ?vr4_25) rfl (by kernel_rfl) (by kernel_rfl) hWr4 (by kernel_rfl) (by kernel_rfl) (by kernel_rfl) (by kernel_rfl) (by kernel_rfl) (by kernel_rfl) (fun _ _ _ _ h => h) (by kernel_rfl) ?hyr4_25 (by omega) hH ?_
            case hyr4_25 => (intro w' hSw; clear hSw; go_simp; try (with_reducible rfl))
            simp only [List.set_cons_zero, List.set_cons_succ]
            refine U_take 28 65 6 0 0 (v := ?vr4_26) rfl (by kernel_rfl) (by kernel_rfl) hWr4 (by kernel_rfl) (by kernel_rfl) (by kernel_rfl) (by kernel_rfl) (by kernel_rfl) (by kernel_rfl) (fun _ _ _ _ h => h) (by kernel_rfl) ?hyr4_26 (by omega) hH ?_
            case hyr4_26 => (intro w' hSw; clear hSw; go_simp; try (with_reducible rfl))
            simp only [List.set_cons_zero, List.set_cons_succ]
            refine U_take 29 66 5 0 0 (v := ?vr4_27) rfl (by kernel_rfl) (by kernel_rfl) hWr4 (by kernel_rfl) (by kernel_rfl) (by kernel_rfl) (by kernel_rfl) (by kernel_rfl) (by kernel_rfl) (fun _ _ _ _ h => h) (by kernel_rfl) ?hyr4_27 (by omega) hH ?_
            case hyr4_27 => (intro w' hSw; replace hSw := S2o0 hSw; (try dsimp only at hSw); have q0 := hSw.1; have q1 := hSw.2.1; have q2 := hSw.2.2.1; have q3 := hSw.2.2.2.1; have q4 := hSw.2.2.2.2; obtain ⟨qa0_0, qa0_1, qa0_2, qa0_3⟩ := q0; obtain ⟨qa1_0, qa1_1, qa1_2, qa1_3⟩ := q1; obtain ⟨qa2_0, qa2_1, qa2_2, qa2_3⟩ := q2; obtain ⟨qa3_0, qa3_1, qa3_2, qa3_3⟩ := q3; go_simp; try (with_reducible rfl))
            simp only [List.set_cons_zero, List.set_cons_succ]
            refine U_take 30 67 4 0 0 (v := ?vr4_28) rfl (by kernel_rfl) (by kernel_rfl) hWr4 (by kernel_rfl) (by kernel_rfl) (by kernel_rfl) (by kernel_rfl) (by kernel_rfl) (by kernel_rfl) (fun _ _ _ _ h => h) (by kernel_rfl) ?hyr4_28 (by omega) hH ?_
            case hyr4_28 => (intro w' hSw; replace hSw := S2o0 hSw; (try dsimp only at hSw); have q0 := hSw.1; have q1 := hSw.2.1; have q2 := hSw.2.2.1; have q3 := hSw.2.2.2.1; have q4 := hSw.2.2.2.2; obtain ⟨qa0_0, qa0_1, qa0_2, qa0_3⟩ := q0; obtain ⟨qa1_0, qa1_1, qa1_2, qa1_3⟩ := q1; obtain ⟨qa2_0, qa2_1, qa2_2, qa2_3⟩ := q2; obtain ⟨qa3_0, qa3_1, qa3_2, qa3_3⟩ := q3; go_simp; try (with_reducible rfl))
            simp only [List.set_cons_zero, List.set_cons_succ]
            refine wpAnyU_ready (rs := [31]) (by kernel_rfl) (by simp) ?_
            refine AllReadyU.cons 0 (by kernel_rfl) (o := _) rfl (fun K hK => ?_) AllReadyU.nil
            try clear hb
            go_simp
            (go_at_call 36; refine (HM3.out _).mono ?_; rintro e wn ⟨rfl, hb⟩; (try (replace hT := keepVZ hb hT)))
            refine hK.out _ _ ?hsr4_29 (fun hH2 => ?hrr4_29)
            case hsr4_29 => exact S2i0 (by have hG := hH; replace hG := S2o0 hG; (try dsimp only at hG); have q0 := hG.1; have q1 := hG.2.1; have q2 := hG.2.2.1; have q3 := hG.2.2.2.1; have q4 := hG.2.2.2.2; exact ⟨keepVd hb q0, keepVd hb q1, keepVd hb q2, keepVd hb q3, keepBelow hb q4⟩)
            clear hK K hH
            have hH := hH2
            clear hH2
            try simp only [Act.put, List.setIfInBounds_toArray, List.set_cons_zero, List.set_cons_succ]
            refine U_take 32 69 2 0 0 (v := ?vr4_30) rfl (by kernel_rfl) (by kernel_rfl) hWr4 (by kernel_rfl) (by kernel_rfl) (by kernel_rfl) (by kernel_rfl) (by kernel_rfl) (by kernel_rfl) (fun _ _ _ _ h => h) (by kernel_rfl) ?hyr4_30 (by omega) hH ?_
            case hyr4_30 => (intro w' hSw; clear hSw; go_simp; try (with_reducible rfl))
            simp only [List.set_cons_zero, List.set_cons_succ]
            refine U_take 33 70 1 0 0 (v := ?vr4_31) rfl (by kernel_rfl) (by kernel_rfl) hWr4 (by kernel_rfl) (by kernel_rfl) (by kernel_rfl) (by kernel_rfl) (by kernel_rfl) (by kernel_rfl) (fun _ _ _ _ h => h) (by kernel_rfl) ?hyr4_31 (by omega) hH ?_
            case hyr4_31 => (intro w' hSw; clear hSw; go_simp; try (with_reducible rfl))
            simp only [List.set_cons_zero, List.set_cons_succ]
            refine U_take 34 71 0 0 0 (v := ?vr4_32) rfl (by kernel_rfl) (by kernel_rfl) hWr4 (by kernel_rfl) (by kernel_rfl) (by kernel_rfl) (by kernel_rfl) (by kernel_rfl) (by kernel_rfl) (fun _ _ _ _ h => h) (by kernel_rfl) ?hyr4_32 (by omega) hH ?_
            case hyr4_32 => (intro w' hSw; clear hSw; go_simp; try (with_reducible rfl))
            simp only [List.set_cons_zero, List.set_cons_succ]
            refine wpAnyU_done (by kernel_rfl) ?_ _ _
            refine NoPanic.normal ?_
            clear hWr4
            replace hH := S2o0 hH
            (try dsimp only at hH)
            have q0 := hH.1
            have q1 := hH.2.1
            have q2 := hH.2.2.1
            have q3 := hH.2.2.2.1
            have q4 := hH.2.2.2.2
            clear hH hb
            clear vT vU vV vJ hB3 HJ1 HJ2 HJ3 HM1 HM3 q0 q1 q2 q3
            go_wp2
            go_roundw
            case rel => exact ⟨k + 1, by have := HI.out; omega, by have := HI.out; (go_num <;> omega), q4⟩
            case measure => have := HI.out; simp [intOf]; omega
        | false =>
          cases m2 with
          | true =>
            cases m3 with
            | false => exact absurd (HLW.out (.inr rfl)) (by simp)
            | true =>
              clear HLW
              refine wp_region_noPanic ?_
              refine wp_region_U (S := (S2 (fun w' => Vd w' (gT) ((a1, a2), (a3, a4)) ∧ Vd w' (gU) ((b1, b2), (b3, b4)) ∧ Vd w' (gV) ((c1, c2), (c3, c4)) ∧ Vd w' (gJ) ((j1, j2), (j3, j4)) ∧ Below w1.heap.size w1 w'))) (T := (fun _ => 0)) (by kernel_rfl) (S2i0 ⟨vT.drew, vU.drew, vV.drew, vJ.drew, hB3.drew⟩) (fun hH => ?_)
              have hWr5 : Weaker (S2 (fun w' => Vd w' (gT) ((a1, a2), (a3, a4)) ∧ Vd w' (gU) ((b1, b2), (b3, b4)) ∧ Vd w' (gV) ((c1, c2), (c3, c4)) ∧ Vd w' (gJ) ((j1, j2), (j3, j4)) ∧ Below w1.heap.size w1 w')) := weaker2 _
              refine U_take 0 37 34 0 0 (v := ?vr5_1) rfl (by kernel_rfl) (by kernel_rfl) hWr5 (by kernel_rfl) (by kernel_rfl) (by kernel_rfl) (by kernel_rfl) (by kernel_rfl) (by kernel_rfl) (fun _ _ _ _ h => h) (by kernel_rfl) ?hyr5_1 (by omega) hH ?_
              case hyr5_1 => (intro w' hSw; replace hSw := S2o0 hSw; (try dsimp only at hSw); have q0 := hSw.1; have q1 := hSw.2.1; have q2 := hSw.2.2.1; have q3 := hSw.2.2.2.1; have q4 := hSw.2.2.2.2; obtain ⟨qa0_0, qa0_1, qa0_2, qa0_3⟩ := q0; obtain ⟨qa1_0, qa1_1, qa1_2, qa1_3⟩ := q1; obtain ⟨qa2_0, qa2_1, qa2_2, qa2_3⟩ := q2; obtain ⟨qa3_0, qa3_1, qa3_2, qa3_3⟩ := q3; go_simp; try (with_reducible rfl))
              simp only [List.set_cons_zero, List.set_cons_succ]
              refine U_take 1 38 33 0 0 (v := ?vr5_2) rfl (by kernel_rfl) (by kernel_rfl) hWr5 (by kernel_rfl) (by kernel_rfl) (by kernel_rfl) (by kernel_rfl) (by kernel_rfl) (by kernel_rfl) (fun _ _ _ _ h => h) (by kernel_rfl) ?hyr5_2 (by omega) hH ?_
              case hyr5_2 => (intro w' hSw; replace hSw := S2o0 hSw; (try dsimp only at hSw); have q0 := hSw.1; have q1 := hSw.2.1; have q2 := hSw.2.2.1; have q3 := hSw.2.2.2.1; have q4 := hSw.2.2.2.2; obtain ⟨qa0_0, qa0_1, qa0_2, qa0_3⟩ := q0; obtain ⟨qa1_0, qa1_1, qa1_2, qa1_3⟩ := q1; obtain ⟨qa2_0, qa2_1, qa2_2, qa2_3⟩ := q2; obtain ⟨qa3_0, qa3_1, qa3_2, qa3_3⟩ := q3; go_simp; try (with_reducible rfl))
              simp only [List.set_cons_zero, List.set_cons_succ]
              refine U_take 2 39 32 0 0 (v := ?vr5_3) rfl (by kernel_rfl) (by kernel_rfl) hWr5 (by kernel_rfl) (by kernel_rfl) (by kernel_rfl) (by kernel_rfl) (by kernel_rfl) (by kernel_rfl) (fun _ _ _ _ h => h) (by kernel_rfl) ?hyr5_3 (by omega) hH ?_
              case hyr5_3 => (intro w' hSw; replace hSw := S2o0 hSw; (try dsimp only at hSw); have q0 := hSw.1; have q1 := hSw.2.1; have q2 := hSw.2.2.1; have q3 := hSw.2.2.2.1; have q4 := hSw.2.2.2.2; obtain ⟨qa0_0, qa0_1, qa0_2, qa0_3⟩ := q0; obtain ⟨qa1_0, qa1_1, qa1_2, qa1_3⟩ := q1; obtain ⟨qa2_0, qa2_1, qa2_2, qa2_3⟩ := q2; obtain ⟨qa3_0, qa3_1, qa3_2, qa3_3⟩ := q3; go_simp; try (with_reducible rfl))
              simp only [List.set_cons_zero, List.set_cons_succ]
              refine wpAnyU_ready (rs := [3]) (by kernel_rfl) (by simp) ?_
              refine AllReadyU.cons 0 (by kernel_rfl) (o := _) rfl (fun K hK => ?_) AllReadyU.nil
              try clear hb
              go_simp
              (go_at_call 35; refine (HJ1.out _).mono ?_; rintro e wn ⟨rfl, hb⟩; (try (replace hT := keepVZ hb hT)))
              refine hK.out _ _ ?hsr5_4 (fun hH2 => ?hrr5_4)
              case hsr5_4 => exact S2i0 (by have hG := hH; replace hG := S2o0 hG; (try dsimp only at hG); have q0 := hG.1; have q1 := hG.2.1; have q2 := hG.2.2.1; have q3 := hG.2.2.2.1; have q4 := hG.2.2.2.2; exact ⟨keepVd hb q0, keepVd hb q1, keepVd hb q2, keepVd hb q3, keepBelow hb q4⟩)
              clear hK K hH
              have hH := hH2
              clear hH2
              try simp only [Act.put, List.setIfInBounds_toArray, List.set_cons_zero, List.set_cons_succ]
              refine U_take 4 41 30 0 0 (v := ?vr5_5) rfl (by kernel_rfl) (by kernel_rfl) hWr5 (by kernel_rfl) (by kernel_rfl) (by kernel_rfl) (by kernel_rfl) (by kernel_rfl) (by kernel_rfl) (fun _ _ _ _ h => h) (by kernel_rfl) ?hyr5_5 (by omega) hH ?_
              case hyr5_5 => (intro w' hSw; clear hSw; go_simp; try (with_reducible rfl))
              simp only [List.set_cons_zero, List.set_cons_succ]
              refine U_take 5 42 29 0 0 (v := ?vr5_6) rfl (by kernel_rfl) (by kernel_rfl) hWr5 (by kernel_rfl) (by kernel_rfl) (by kernel_rfl) (by kernel_rfl) (by kernel_rfl) (by kernel_rfl) (fun _ _ _ _ h => h) (by kernel_rfl) ?hyr5_6 (by omega) hH ?_
              case hyr5_6 => (intro w' hSw; clear hSw; go_simp; try (with_reducible rfl))
              simp only [List.set_cons_zero, List.set_cons_succ]
              refine U_take 6 43 28 0 0 (v := ?vr5_7) rfl (by kernel_rfl) (by kernel_rfl) hWr5 (by kernel_rfl) (by kernel_rfl) (by kernel_rfl) (by kernel_rfl) (by kernel_rfl) (by kernel_rfl) (fun _ _ _ _ h => h) (by kernel_rfl) ?hyr5_7 (by omega) hH ?_
              case hyr5_7 => (intro w' hSw; replace hSw := S2o0 hSw; (try dsimp only at hSw); have q0 := hSw.1; have q1 := hSw.2.1; have q2 := hSw.2.2.1; have q3 := hSw.2.2.2.1; have q4 := hSw.2.2.2.2; obtain ⟨qa0_0, qa0_1, qa0_2, qa0_3⟩ := q0; obtain ⟨qa1_0, qa1_1, qa1_2, qa1_3⟩ := q1; obtain ⟨qa2_0, qa2_1, qa2_2, qa2_3⟩ := q2; obtain ⟨qa3_0, qa3_1, qa3_2, qa3_3⟩ := q3; go_simp; try (with_reducible rfl))
              simp only [List.set_cons_zero, List.set_cons_succ]
              refine U_take 7 44 27 0 0 (v := ?vr5_8) rfl (by kernel_rfl) (by kernel_rfl) hWr5 (by kernel_rfl) (by kernel_rfl) (by kernel_rfl) (by kernel_rfl) (by kernel_rfl) (by kernel_rfl) (fun _ _ _ _ h => h) (by kernel_rfl) ?hyr5_8 (by omega) hH ?_
              case hyr5_8 => (intro w' hSw; replace hSw := S2o0 hSw; (try dsimp only at hSw); have q0 := hSw.1; have q1 := hSw.2.1; have q2 := hSw.2.2.1; have q3 := hSw.2.2.2.1; have q4 := hSw.2.2.2.2; obtain ⟨qa0_0, qa0_1, qa0_2, qa0_3⟩ := q0; obtain ⟨qa1_0, qa1_1, qa1_2, qa1_3⟩ := q1; obtain ⟨qa2_0, qa2_1, qa2_2, qa2_3⟩ := q2; obtain ⟨qa3_0, qa3_1, qa3_2, qa3_3⟩ := q3; go_simp; try (with_reducible rfl))
              simp only [List.set_cons_zero, List.set_cons_succ]
              refine U_take 9 46 26 0 0 (v := ?vr5_9) rfl (by kernel_rfl) (by kernel_rfl) hWr5 (by kernel_rfl) (by kernel_rfl) (by kernel_rfl) (by kernel_rfl) (by kernel_rfl) (by kernel_rfl) (fun _ _ _ _ h => h) (by kernel_rfl) ?hyr5_9 (by omega) hH ?_
              case hyr5_9 => (intro w' hSw; replace hSw := S2o0 hSw; (try dsimp only at hSw); have q0 := hSw.1; have q1 := hSw.2.1; have q2 := hSw.2.2.1; have q3 := hSw.2.2.2.1; have q4 := hSw.2.2.2.2; obtain ⟨qa0_0, qa0_1, qa0_2, qa0_3⟩ := q0; obtain ⟨qa1_0, qa1_1, qa1_2, qa1_3⟩ := q1; obtain ⟨qa2_0, qa2_1, qa2_2, qa2_3⟩ := q2; obtain ⟨qa3_0, qa3_1, qa3_2, qa3_3⟩ := q3; go_simp; try (with_reducible rfl))
              simp only [List.set_cons_zero, List.set_cons_succ]
              refine wpAnyU_ready (rs := [8]) (by kernel_rfl) (by simp) ?_
              refine AllReadyU.cons 0 (by kernel_rfl) (o := _) rfl (fun K hK => ?_) AllReadyU.nil
              try clear hb
              go_simp
              (go_at_call 35; refine (HJ2.out _).mono ?_; rintro e wn ⟨rfl, hb⟩; (try (replace hT := keepVZ hb hT)))
              refine hK.out _ _ ?hsr5_10 (fun hH2 => ?hrr5_10)
              case hsr5_10 => exact S2i0 (by have hG := hH; replace hG := S2o0 hG; (try dsimp only at hG); have q0 := hG.1; have q1 := hG.2.1; have q2 := hG.2.2.1; have q3 := hG.2.2.2.1; have q4 := hG.2.2.2.2; exact ⟨keepVd hb q0, keepVd hb q1, keepVd hb q2, keepVd hb q3, keepBelow hb q4⟩)
              clear hK K hH
              have hH := hH2
              clear hH2
              try simp only [Act.put, List.setIfInBounds_toArray, List.set_cons_zero, List.set_cons_succ]
              refine U_take 10 47 24 0 0 (v := ?vr5_11) rfl (by kernel_rfl) (by kernel_rfl) hWr5 (by kernel_rfl) (by kernel_rfl) (by kernel_rfl) (by kernel_rfl) (by kernel_rfl) (by kernel_rfl) (fun _ _ _ _ h => h) (by kernel_rfl) ?hyr5_11 (by omega) hH ?_
              case hyr5_11 => (intro w' hSw; clear hSw; go_simp; try (with_reducible rfl))
              simp only [List.set_cons_zero, List.set_cons_succ]
              refine U_take 11 48 23 0 0 (v := ?vr5_12) rfl (by kernel_rfl) (by kernel_rfl) hWr5 (by kernel_rfl) (by kernel_rfl) (by kernel_rfl) (by kernel_rfl) (by kernel_rfl) (by kernel_rfl) (fun _ _ _ _ h => h) (by kernel_rfl) ?hyr5_12 (by omega) hH ?_
              case hyr5_12 => (intro w' hSw; clear hSw; go_simp; try (with_reducible rfl))
              simp only [List.set_cons_zero, List.set_cons_succ]
              refine U_take 12 49 22 0 0 (v := ?vr5_13) rfl (by kernel_rfl) (by kernel_rfl) hWr5 (by kernel_rfl) (by kernel_rfl) (by kernel_rfl) (by kernel_rfl) (by kernel_rfl) (by kernel_rfl) (fun _ _ _ _ h => h) (by kernel_rfl) ?hyr5_13 (by omega) hH ?_
              case hyr5_13 => (intro w' hSw; clear hSw; go_simp; try (with_reducible rfl))
              simp only [List.set_cons_zero, List.set_cons_succ]
              refine U_take 13 50 21 0 0 (v := ?vr5_14) rfl (by kernel_rfl) (by kernel_rfl) hWr5 (by kernel_rfl) (by kernel_rfl) (by kernel_rfl) (by kernel_rfl) (by kernel_rfl) (by kernel_rfl) (fun _ _ _ _ h => h) (by kernel_rfl) ?hyr5_14 (by omega) hH ?_
              case hyr5_14 => (intro w' hSw; replace hSw := S2o0 hSw; (try dsimp only at hSw); have q0 := hSw.1; have q1 := hSw.2.1; have q2 := hSw.2.2.1; have q3 := hSw.2.2.2.1; have q4 := hSw.2.2.2.2; obtain ⟨qa0_0, qa0_1, qa0_2, qa0_3⟩ := q0; obtain ⟨qa1_0, qa1_1, qa1_2, qa1_3⟩ := q1; obtain ⟨qa2_0, qa2_1, qa2_2, qa2_3⟩ := q2; obtain ⟨qa3_0, qa3_1, qa3_2, qa3_3⟩ := q3; go_simp; try (with_reducible rfl))
              simp only [List.set_cons_zero, List.set_cons_succ]
              refine U_take 14 51 20 0 0 (v := ?vr5_15) rfl (by kernel_rfl) (by kernel_rfl) hWr5 (by kernel_rfl) (by kernel_rfl) (by kernel_rfl) (by kernel_rfl) (by kernel_rfl) (by kernel_rfl) (fun _ _ _ _ h => h) (by kernel_rfl) ?hyr5_15 (by omega) hH ?_
              case hyr5_15 => (intro w' hSw; replace hSw := S2o0 hSw; (try dsimp only at hSw); have q0 := hSw.1; have q1 := hSw.2.1; have q2 := hSw.2.2.1; have q3 := hSw.2.2.2.1; have q4 := hSw.2.2.2.2; obtain ⟨qa0_0, qa0_1, qa0_2, qa0_3⟩ := q0; obtain ⟨qa1_0, qa1_1, qa1_2, qa1_3⟩ := q1; obtain ⟨qa2_0, qa2_1, qa2_2, qa2_3⟩ := q2; obtain ⟨qa3_0, qa3_1, qa3_2, qa3_3⟩ := q3; go_simp; try (with_reducible rfl))
              simp only [List.set_cons_zero, List.set_cons_succ]
              refine U_take 16 53 19 0 0 (v := ?vr5_16) rfl (by kernel_rfl) (by kernel_rfl) hWr5 (by kernel_rfl) (by kernel_rfl) (by kernel_rfl) (by kernel_rfl) (by kernel_rfl) (by kernel_rfl) (fun _ _ _ _ h => h) (by kernel_rfl) ?hyr5_16 (by omega) hH ?_
              case hyr5_16 => (intro w' hSw; replace hSw := S2o0 hSw; (try dsimp only at hSw); have q0 := hSw.1; have q1 := hSw.2.1; have q2 := hSw.2.2.1; have q3 := hSw.2.2.2.1; have q4 := hSw.2.2.2.2; obtain ⟨qa0_0, qa0_1, qa0_2, qa0_3⟩ := q0; obtain ⟨qa1_0, qa1_1, qa1_2, qa1_3⟩ := q1; obtain ⟨qa2_0, qa2_1, qa2_2, qa2_3⟩ := q2; obtain ⟨qa3_0, qa3_1, qa3_2, qa3_3⟩ := q3; go_simp; try (with_reducible rfl))
              simp only [List.set_cons_zero, List.set_cons_succ]
              refine wpAnyU_ready (rs := [15]) (by kernel_rfl) (by simp) ?_
              refine AllReadyU.cons 0 (by kernel_rfl) (o := _) rfl (fun K hK => ?_) AllReadyU.nil
              try clear hb
              go_simp
              (go_at_call 35; refine (HJ3.out _).mono ?_; rintro e wn ⟨rfl, hb⟩; (try (replace hT := keepVZ hb hT)))
              refine hK.out _ _ ?hsr5_17 (fun hH2 => ?hrr5_17)
              case hsr5_17 => exact S2i0 (by have hG := hH; replace hG := S2o0 hG; (try dsimp only at hG); have q0 := hG.1; have q1 := hG.2.1; have q2 := hG.2.2.1; have q3 := hG.2.2.2.1; have q4 := hG.2.2.2.2; exact ⟨keepVd hb q0, keepVd hb q1, keepVd hb q2, keepVd hb q3, keepBelow hb q4⟩)
              clear hK K hH
              have hH := hH2
              clear hH2
              try simp only [Act.put, List.setIfInBounds_toArray, List.set_cons_zero, List.set_cons_succ]
              refine U_take 17 54 17 0 0 (v := ?vr5_18) rfl (by kernel_rfl) (by kernel_rfl) hWr5 (by kernel_rfl) (by kernel_rfl) (by kernel_rfl) (by kernel_rfl) (by kernel_rfl) (by kernel_rfl) (fun _ _ _ _ h => h) (by kernel_rfl) ?hyr5_18 (by omega) hH ?_
              case hyr5_18 => (intro w' hSw; clear hSw; go_simp; try (with_reducible rfl))
              simp only [List.set_cons_zero, List.set_cons_succ]
              refine U_take 18 55 16 0 0 (v := ?vr5_19) rfl (by kernel_rfl) (by kernel_rfl) hWr5 (by kernel_rfl) (by kernel_rfl) (by kernel_rfl) (by kernel_rfl) (by kernel_rfl) (by kernel_rfl) (fun _ _ _ _ h => h) (by kernel_rfl) ?hyr5_19 (by omega) hH ?_
              case hyr5_19 => (intro w' hSw; clear hSw; go_simp; try (with_reducible rfl))
              simp only [List.set_cons_zero, List.set_cons_succ]
              refine U_take 19 56 15 0 0 (v := ?vr5_20) rfl (by kernel_rfl) (by kernel_rfl) hWr5 (by kernel_rfl) (by kernel_rfl) (by kernel_rfl) (by kernel_rfl) (by kernel_rfl) (by kernel_rfl) (fun _ _ _ _ h => h) (by kernel_rfl) ?hyr5_20 (by omega) hH ?_
              case hyr5_20 => (intro w' hSw; clear hSw; go_simp; try (with_reducible rfl))
              simp only [List.set_cons_zero, List.set_cons_succ]
              refine U_take 20 57 14 0 0 (v := ?vr5_21) rfl (by kernel_rfl) (by kernel_rfl) hWr5 (by kernel_rfl) (by kernel_rfl) (by kernel_rfl) (by kernel_rfl) (by kernel_rfl) (by kernel_rfl) (fun _ _ _ _ h => h) (by kernel_rfl) ?hyr5_21 (by omega) hH ?_
              case hyr5_21 => (intro w' hSw; replace hSw := S2o0 hSw; (try dsimp only at hSw); have q0 := hSw.1; have q1 := hSw.2.1; have q2 := hSw.2.2.1; have q3 := hSw.2.2.2.1; have q4 := hSw.2.2.2.2; obtain ⟨qa0_0, qa0_1, qa0_2, qa0_3⟩ := q0; obtain ⟨qa1_0, qa1_1, qa1_2, qa1_3⟩ := q1; obtain ⟨qa2_0, qa2_1, qa2_2, qa2_3⟩ := q2; obtain ⟨qa3_0, qa3_1, qa3_2, qa3_3⟩ := q3; go_simp; try (with_reducible rfl))
              simp only [List.set_cons_zero, List.set_cons_succ]
              refine U_take 21 58 13 0 0 (v := ?vr5_22) rfl (by kernel_rfl) (by kernel_rfl) hWr5 (by kernel_rfl) (by kernel_rfl) (by kernel_rfl) (by kernel_rfl) (by kernel_rfl) (by kernel_rfl) (fun _ _ _ _ h => h) (by kernel_rfl) ?hyr5_22 (by omega) hH ?_
              case hyr5_22 => (intro w' hSw; replace hSw := S2o0 hSw; (try dsimp only at hSw); have q0 := hSw.1; have q1 := hSw.2.1; have q2 := hSw.2.2.1; have q3 := hSw.2.2.2.1; have q4 := hSw.2.2.2.2; obtain ⟨qa0_0, qa0_1, qa0_2, qa0_3⟩ := q0; obtain ⟨qa1_0, qa1_1, qa1_2, qa1_3⟩ := q1; obtain ⟨qa2_0, qa2_1, qa2_2, qa2_3⟩ := q2; obtain ⟨qa3_0, qa3_1, qa3_2, qa3_3⟩ := q3; go_simp; try (with_reducible rfl))
              simp only [List.set_cons_zero, List.set_cons_succ]
              refine wpAnyU_ready (rs := [22]) (by kernel_rfl) (by simp) ?_
              refine AllReadyU.cons 0 (by kernel_rfl) (o := _) rfl (fun K hK => ?_) AllReadyU.nil
              try clear hb
              go_simp
              (go_at_call 36; refine (HM1.out _).mono ?_; rintro e wn ⟨rfl, hb⟩; (try (replace hT := keepVZ hb hT)))
              refine hK.out _ _ ?hsr5_23 (fun hH2 => ?hrr5_23)
              case hsr5_23 => exact S2i0 (by have hG := hH; replace hG := S2o0 hG; (try dsimp only at hG); have q0 := hG.1; have q1 := hG.2.1; have q2 := hG.2.2.1; have q3 := hG.2.2.2.1; have q4 := hG.2.2.2.2; exact ⟨keepVd hb q0, keepVd hb q1, keepVd hb q2, keepVd hb q3, keepBelow hb q4⟩)
              clear hK K hH
              have hH := hH2
              clear hH2
              try simp only [Act.put, List.setIfInBounds_toArray, List.set_cons_zero, List.set_cons_succ]
              refine U_take 23 60 11 0 0 (v := ?vr5_24) rfl (by kernel_rfl) (by kernel_rfl) hWr5 (by kernel_rfl) (by kernel_rfl) (by kernel_rfl) (by kernel_rfl) (by kernel_rfl) (by kernel_rfl) (fun _ _ _ _ h => h) (by kernel_rfl) ?hyr5_24 (by omega) hH ?_
              case hyr5_24 => (intro w' hSw; clear hSw; go_simp; try (with_reducible rfl))
              simp only [List.set_cons_zero, List.set_cons_succ]
              refine U_take 24 61 10 0 0 (v := ?vr5_25) rfl (by kernel_rfl) (by kernel_rfl) hWr5 (by kernel_rfl) (by kernel_rfl) (by kernel_rfl) (by kernel_rfl) (by kernel_rfl) (by kernel_rfl) (fun _ _ _ _ h => h) (by kernel_rfl) ?hyr5_25 (by omega) hH ?_
              case hyr5_25 => (intro w' hSw; replace hSw := S2o0 hSw; (try dsimp only at hSw); have q0 := hSw.1; have q1 := hSw.2.1; have q2 := hSw.2.2.1; have q3 := hSw.2.2.2.1; have q4 := hSw.2.2.2.2; obtain ⟨qa0_0, qa0_1, qa0_2, qa0_3⟩ := q0; obtain ⟨qa1_0, qa1_1, qa1_2, qa1_3⟩ := q1; obtain ⟨qa2_0, qa2_1, qa2_2, qa2_3⟩ := q2; obtain ⟨qa3_0, qa3_1, qa3_2, qa3_3⟩ := q3; go_simp; try (with_reducible rfl))
              simp only [List.set_cons_zero, List.set_cons_succ]
              refine U_take 25 62 9 0 0 (v := ?vr5_26) rfl (by kernel_rfl) (by kernel_rfl) hWr5 (by kernel_rfl) (by kernel_rfl) (by kernel_rfl) (by kernel_rfl) (by kernel_rfl) (by kernel_rfl) (fun _ _ _ _ h => h) (by kernel_rfl) ?hyr5_26 (by omega) hH ?_
              case hyr5_26 => (intro w' hSw; replace hSw := S2o0 hSw; (try dsimp only at hSw); have q0 := hSw.1; have q1 := hSw.2.1; have q2 := hSw.2.2.1; have q3 := hSw.2.2.2.1; have q4 := hSw.2.2.2.2; obtain ⟨qa0_0, qa0_1, qa0_2, qa0_3⟩ := q0; obtain ⟨qa1_0, qa1_1, qa1_2, qa1_3⟩ := q1; obtain ⟨qa2_0, qa2_1, qa2_2, qa2_3⟩ := q2; obtain ⟨qa3_0, qa3_1, qa3_2, qa3_3⟩ := q3; go_simp; try (with_reducible rfl))
              simp only [List.set_cons_zero, List.set_cons_succ]
              refine wpAnyU_ready (rs := [26]) (by kernel_rfl) (by simp) ?_
              refine AllReadyU.cons 0 (by kernel_rfl) (o := _) rfl (fun K hK => ?_) AllReadyU.nil
              try clear hb
              go_simp
              (go_at_call 36; refine (HM2.out _).mono ?_; rintro e wn ⟨rfl, hb⟩; (try (replace hT := keepVZ hb hT)))
              refine hK.out _ _ ?hsr5_27 (fun hH2 => ?hrr5_27)
              case hsr5_27 => exact S2i0 (by have hG := hH; replace hG := S2o0 hG; (try dsimp only at hG); have q0 := hG.1; have q1 := hG.2.1; have q2 := hG.2.2.1; have q3 := hG.2.2.2.1; have q4 := hG.2.2.2.2; exact ⟨keepVd hb q0, keepVd hb q1, keepVd hb q2, keepVd hb q3, keepBelow hb q4⟩)
              clear hK K hH
              have hH := hH2
              clear hH2
              try simp only [Act.put, List.setIfInBounds_toArray, List.set_cons_zero, List.set_cons_succ]
              refine U_take 27 64 7 0 0 (v := ?vr5_28) rfl (by kernel_rfl) (by kernel_rfl) hWr5 (by kernel_rfl) (by kernel_rfl) (by kernel_rfl) (by kernel_rfl) (by kernel_rfl) (by kernel_rfl) (fun _ _ _ _ h => h) (by kernel_rfl) ?hyr5_28 (by omega) hH ?_
              case hyr5_28 => (intro w' hSw; clear hSw; go_simp; try (with_reducible rfl))
              simp only [List.set_cons_zero, List.set_cons_succ]
              refine U_take 28 65 6 0 0 (v := ?vr5_29) rfl (by kernel_rfl) (by kernel_rfl) hWr5 (by kernel_rfl) (by kernel_rfl) (by kernel_rfl) (by kernel_rfl) (by kernel_rfl) (by kernel_rfl) (fun _ _ _ _ h => h) (by kernel_rfl) ?hyr5_29 (by omega) hH ?_
              case hyr5_29 => (intro w' hSw; clear hSw; go_simp; try (with_reducible rfl))
              simp only [List.set_cons_zero, List.set_cons_succ]
              refine U_take 29 66 5 0 0 (v := ?vr5_30) rfl (by kernel_rfl) (by kernel_rfl) hWr5 (by kernel_rfl) (by kernel_rfl) (by kernel_rfl) (by kernel_rfl) (by kernel_rfl) (by kernel_rfl) (fun _ _ _ _ h => h) (by kernel_rfl) ?hyr5_30 (by omega) hH ?_
              case hyr5_30 => (intro w' hSw; replace hSw := S2o0 hSw; (try dsimp only at hSw); have q0 := hSw.1; have q1 := hSw.2.1; have q2 := hSw.2.2.1; have q3 := hSw.2.2.2.1; have q4 := hSw.2.2.2.2; obtain ⟨qa0_0, qa0_1, qa0_2, qa0_3⟩ := q0; obtain ⟨qa1_0, qa1_1, qa1_2, qa1_3⟩ := q1; obtain ⟨qa2_0, qa2_1, qa2_2, qa2_3⟩ := q2; obtain ⟨qa3_0, qa3_1, qa3_2, qa3_3⟩ := q3; go_simp; try (with_reducible rfl))
              simp only [List.set_cons_zero, List.set_cons_succ]
              refine U_take 30 67 4 0 0 (v := ?vr5_31) rfl (by kernel_rfl) (by kernel_rfl) hWr5 (by kernel_rfl) (by kernel_rfl) (by kernel_rfl) (by kernel_rfl) (by kernel_rfl) (by kernel_rfl) (fun _ _ _ _ h => h) (by kernel_rfl) ?hyr5_31 (by omega) hH ?_
              case hyr5_31 => (intro w' hSw; replace hSw := S2o0 hSw; (try dsimp only at hSw); have q0 := hSw.1; have q1 := hSw.2.1; have q2 := hSw.2.2.1; have q3 := hSw.2.2.2.1; have q4 := hSw.2.2.2.2; obtain ⟨qa0_0, qa0_1, qa0_2, qa0_3⟩ := q0; obtain ⟨qa1_0, qa1_1, qa1_2, qa1_3⟩ := q1; obtain ⟨qa2_0, qa2_1, qa2_2, qa2_3⟩ := q2; obtain ⟨qa3_0, qa3_1, qa3_2, qa3_3⟩ := q3; go_simp; try (with_reducible rfl))
              simp only [List.set_cons_zero, List.set_cons_succ]
              refine wpAnyU_ready (rs := [31]) (by kernel_rfl) (by simp) ?_
              refine AllReadyU.cons 0 (by kernel_rfl) (o := _) rfl (fun K hK => ?_) AllReadyU.nil
              try clear hb
              go_simp
              (go_at_call 36; refine (HM3.out _).mono ?_; rintro e wn ⟨rfl, hb⟩; (try (replace hT := keepVZ hb hT)))
              refine hK.out _ _ ?hsr5_32 (fun hH2 => ?hrr5_32)
              case hsr5_32 => exact S2i0 (by have hG := hH; replace hG := S2o0 hG; (try dsimp only at hG); have q0 := hG.1; have q1 := hG.2.1; have q2 := hG.2.2.1; have q3 := hG.2.2.2.1; have q4 := hG.2.2.2.2; exact ⟨keepVd hb q0, keepVd hb q1, keepVd hb q2, keepVd hb q3, keepBelow hb q4⟩)
              clear hK K hH
              have hH := hH2
              clear hH2
              try simp only [Act.put, List.setIfInBounds_toArray, List.set_cons_zero, List.set_cons_succ]
              refine U_take 32 69 2 0 0 (v := ?vr5_33) rfl (by kernel_rfl) (by kernel_rfl) hWr5 (by kernel_rfl) (by kernel_rfl) (by kernel_rfl) (by kernel_rfl) (by kernel_rfl) (by kernel_rfl) (fun _ _ _ _ h => h) (by kernel_rfl) ?hyr5_33 (by omega) hH ?_
              case hyr5_33 => (intro w' hSw; clear hSw; go_simp; try (with_reducible rfl))
              simp only [List.set_cons_zero, List.set_cons_succ]
              refine U_take 33 70 1 0 0 (v := ?vr5_34) rfl (by kernel_rfl) (by kernel_rfl) hWr5 (by kernel_rfl) (by kernel_rfl) (by kernel_rfl) (by kernel_rfl) (by kernel_rfl) (by kernel_rfl) (fun _ _ _ _ h => h) (by kernel_rfl) ?hyr5_34 (by omega) hH ?_
              case hyr5_34 => (intro w' hSw; clear hSw; go_simp; try (with_reducible rfl))
              simp only [List.set_cons_zero, List.set_cons_succ]
              refine U_take 34 71 0 0 0 (v := ?vr5_35) rfl (by kernel_rfl) (by kernel_rfl) hWr5 (by kernel_rfl) (by kernel_rfl) (by kernel_rfl) (by kernel_rfl) (by kernel_rfl) (by kernel_rfl) (fun _ _ _ _ h => h) (by kernel_rfl) ?hyr5_35 (by omega) hH ?_
              case hyr5_35 => (intro w' hSw; clear hSw; go_simp; try (with_reducible rfl))
              simp only [List.set_cons_zero, List.set_cons_succ]
              refine wpAnyU_done (by kernel_rfl) ?_ _ _
              refine NoPanic.normal ?_
              clear hWr5
              replace hH := S2o0 hH
              (try dsimp only at hH)
              have q0 := hH.1
              have q1 := hH.2.1
              have q2 := hH.2.2.1
              have q3 := hH.2.2.2.1
              have q4 := hH.2.2.2.2
              clear hH hb
              clear vT vU vV vJ hB3 HJ1 HJ2 HJ3 HM1 HM2 HM3 q0 q1 q2 q3
              go_wp2
              go_roundw
              case rel => exact ⟨k + 1, by have := HI.out; omega, by have := HI.out; (go_num <;> omega), q4⟩
              case measure => have := HI.out; simp [intOf]; omega
          | false =>
            clear HLW HM3
            refine wp_region_noPanic ?_
            refine wp_region_U (S := (S2 (fun w' => Vd w' (gT) ((a1, a2), (a3, a4)) ∧ Vd w' (gU) ((b1, b2), (b3, b4)) ∧ Vd w' (gV) ((c1, c2), (c3, c4)) ∧ Vd w' (gJ) ((j1, j2), (j3, j4)) ∧ Below w1.heap.size w1 w'))) (T := (fun _ => 0)) (by kernel_rfl) (S2i0 ⟨vT.drew, vU.drew, vV.drew, vJ.drew, hB3.drew⟩) (fun hH => ?_)
            have hWr6 : Weaker (S2 (fun w' => Vd w' (gT) ((a1, a2), (a3, a4)) ∧ Vd w' (gU) ((b1, b2), (b3, b4)) ∧ Vd w' (gV) ((c1, c2), (c3, c4)) ∧ Vd w' (gJ) ((j1, j2), (j3, j4)) ∧ Below w1.heap.size w1 w')) := weaker2 _
            refine U_take 0 37 34 0 0 (v := ?vr6_1) rfl (by kernel_rfl) (by kernel_rfl) hWr6 (by kernel_rfl) (by kernel_rfl) (by kernel_rfl) (by kernel_rfl) (by kernel_rfl) (by kernel_rfl) (fun _ _ _ _ h => h) (by kernel_rfl) ?hyr6_1 (by omega) hH ?_
            case hyr6_1 => (intro w' hSw; replace hSw := S2o0 hSw; (try dsimp only at hSw); have q0 := hSw.1; have q1 := hSw.2.1; have q2 := hSw.2.2.1; have q3 := hSw.2.2.2.1; have q4 := hSw.2.2.2.2; obtain ⟨qa0_0, qa0_1, qa0_2, qa0_3⟩ := q0; obtain ⟨qa1_0, qa1_1, qa1_2, qa1_3⟩ := q1; obtain ⟨qa2_0, qa2_1, qa2_2, qa2_3⟩ := q2; obtain ⟨qa3_0, qa3_1, qa3_2, qa3_3⟩ := q3; go_simp; try (with_reducible rfl))
            simp only [List.set_cons_zero, List.set_cons_succ]
            refine U_take 1 38 33 0 0 (v := ?vr6_2) rfl (by kernel_rfl) (by kernel_rfl) hWr6 (by kernel_rfl) (by kernel_rfl) (by kernel_rfl) (by kernel_rfl) (by kernel_rfl) (by kernel_rfl) (fun _ _ _ _ h => h) (by kernel_rfl) ?hyr6_2 (by omega) hH ?_
            case hyr6_2 => (intro w' hSw; replace hSw := S2o0 hSw; (try dsimp only at hSw); have q0 := hSw.1; have q1 := hSw.2.1; have q2 := hSw.2.2.1; have q3 := hSw.2.2.2.1; have q4 := hSw.2.2.2.2; obtain ⟨qa0_0, qa0_1, qa0_2, qa0_3⟩ := q0; obtain ⟨qa1_0, qa1_1, qa1_2, qa1_3⟩ := q1; obtain ⟨qa2_0, qa2_1, qa2_2, qa2_3⟩ := q2; obtain ⟨qa3_0, qa3_1, qa3_2, qa3_3⟩ := q3; go_simp; try (with_reducible rfl))
            simp only [List.set_cons_zero, List.set_cons_succ]
            refine U_take 2 39 32 0 0 (v := ?vr6_3) rfl (by kernel_rfl) (by kernel_rfl) hWr6 (by kernel_rfl) (by kernel_rfl) (by kernel_rfl) (by kernel_rfl) (by kernel_rfl) (by kernel_rfl) (fun _ _ _ _ h => h) (by kernel_rfl) ?hyr6_3 (by omega) hH ?_
            case hyr6_3 => (intro w' hSw; replace hSw := S2o0 hSw; (try dsimp only at hSw); have q0 := hSw.1; have q1 := hSw.2.1; have q2 := hSw.2.2.1; have q3 := hSw.2.2.2.1; have q4 := hSw.2.2.2.2; obtain ⟨qa0_0, qa0_1, qa0_2, qa0_3⟩ := q0; obtain ⟨qa1_0, qa1_1, qa1_2, qa1_3⟩ := q1; obtain ⟨qa2_0, qa2_1, qa2_2, qa2_3⟩ := q2; obtain ⟨qa3_0, qa3_1, qa3_2, qa3_3⟩ := q3; go_simp; try (with_reducible rfl))
            simp only [List.set_cons_zero, List.set_cons_succ]
            refine wpAnyU_ready (rs := [3]) (by kernel_rfl) (by simp) ?_
            refine AllReadyU.cons 0 (by kernel_rfl) (o := _) rfl (fun K hK => ?_) AllReadyU.nil
            try clear hb
            go_simp
            (go_at_call 35; refine (HJ1.out _).mono ?_; rintro e wn ⟨rfl, hb⟩; (try (replace hT := keepVZ hb hT)))
            refine hK.out _ _ ?hsr6_4 (fun hH2 => ?hrr6_4)
            case hsr6_4 => exact S2i0 (by have hG := hH; replace hG := S2o0 hG; (try dsimp only at hG); have q0 := hG.1; have q1 := hG.2.1; have q2 := hG.2.2.1; have q3 := hG.2.2.2.1; have q4 := hG.2.2.2.2; exact ⟨keepVd hb q0, keepVd hb q1, keepVd hb q2, keepVd hb q3, keepBelow hb q4⟩)
            clear hK K hH
            have hH := hH2
            clear hH2
            try simp only [Act.put, List.setIfInBounds_toArray, List.set_cons_zero, List.set_cons_succ]
            refine U_take 4 41 30 0 0 (v := ?vr6_5) rfl (by kernel_rfl) (by kernel_rfl) hWr6 (by kernel_rfl) (by kernel_rfl) (by kernel_rfl) (by kernel_rfl) (by kernel_rfl) (by kernel_rfl) (fun _ _ _ _ h => h) (by kernel_rfl) ?hyr6_5 (by omega) hH ?_
            case hyr6_5 => (intro w' hSw; clear hSw; go_simp; try (with_reducible rfl))
            simp only [List.set_cons_zero, List.set_cons_succ]
            refine U_take 5 42 29 0 0 (v := ?vr6_6) rfl (by kernel_rfl) (by kernel_rfl) hWr6 (by kernel_rfl) (by kernel_rfl) (by kernel_rfl) (by kernel_rfl) (by kernel_rfl) (by kernel_rfl) (fun _ _ _ _ h => h) (by kernel_rfl) ?hyr6_6 (by omega) hH ?_
            case hyr6_6 => (intro w' hSw; clear hSw; go_simp; try (with_reducible rfl))
            simp only [List.set_cons_zero, List.set_cons_succ]
            refine U_take 6 43 28 0 0 (v := ?vr6_7) rfl (by kernel_rfl) (by kernel_rfl) hWr6 (by kernel_rfl) (by kernel_rfl) (by kernel_rfl) (by kernel_rfl) (by kernel_rfl) (by kernel_rfl) (fun _ _ _ _ h => h) (by kernel_rfl) ?hyr6_7 (by omega) hH ?_
            case hyr6_7 => (intro w' hSw; replace hSw := S2o0 hSw; (try dsimp only at hSw); have q0 := hSw.1; have q1 := hSw.2.1; have q2 := hSw.2.2.1; have q3 := hSw.2.2.2.1; have q4 := hSw.2.2.2.2; obtain ⟨qa0_0, qa0_1, qa0_2, qa0_3⟩ := q0; obtain ⟨qa1_0, qa1_1, qa1_2, qa1_3⟩ := q1; obtain ⟨qa2_0, qa2_1, qa2_2, qa2_3⟩ := q2; obtain ⟨qa3_0, qa3_1, qa3_2, qa3_3⟩ := q3; go_simp; try (with_reducible rfl))
            simp only [List.set_cons_zero, List.set_cons_succ]
            refine U_take 7 44 27 0 0 (v := ?vr6_8) rfl (by kernel_rfl) (by kernel_rfl) hWr6 (by kernel_rfl) (by kernel_rfl) (by kernel_rfl) (by kernel_rfl) (by kernel_rfl) (by kernel_rfl) (fun _ _ _ _ h => h) (by kernel_rfl) ?hyr6_8 (by omega) hH ?_
            case hyr6_8 => (intro w' hSw; replace hSw := S2o0 hSw; (try dsimp only at hSw); have q0 := hSw.1; have q1 := hSw.2.1; have q2 := hSw.2.2.1; have q3 := hSw.2.2.2.1; have q4 := hSw.2.2.2.2; obtain ⟨qa0_0, qa0_1, qa0_2, qa0_3⟩ := q0; obtain ⟨qa1_0, qa1_1, qa1_2, qa1_3⟩ := q1; obtain ⟨qa2_0, qa2_1, qa2_2, qa2_3⟩ := q2; obtain ⟨qa3_0, qa3_1, qa3_2, qa3_3⟩ := q3; go_simp; try (with_reducible rfl))
            simp only [List.set_cons_zero, List.set_cons_succ]
            refine U_take 9 46 26 0 0 (v := ?vr6_9) rfl (by kernel_rfl) (by kernel_rfl) hWr6 (by kernel_rfl) (by kernel_rfl) (by kernel_rfl) (by kernel_rfl) (by kernel_rfl) (by kernel_rfl) (fun _ _ _ _ h => h) (by kernel_rfl) ?hyr6_9 (by omega) hH ?_
            case hyr6_9 => (intro w' hSw; replace hSw := S2o0 hSw; (try dsimp only at hSw); have q0 := hSw.1; have q1 := hSw.2.1; have q2 := hSw.2.2.1; have q3 := hSw.2.2.2.1; have q4 := hSw.2.2.2.2; obtain ⟨qa0_0, qa0_1, qa0_2, qa0_3⟩ := q0; obtain ⟨qa1_0, qa1_1, qa1_2, qa1_3⟩ := q1; obtain ⟨qa2_0, qa2_1, qa2_2, qa2_3⟩ := q2; obtain ⟨qa3_0, qa3_1, qa3_2, qa3_3⟩ := q3; go_simp; try (with_reducible rfl))
            simp only [List.set_cons_zero, List.set_cons_succ]
            refine wpAnyU_ready (rs := [8]) (by kernel_rfl) (by simp) ?_
            refine AllReadyU.cons 0 (by kernel_rfl) (o := _) rfl (fun K hK => ?_) AllReadyU.nil
            try clear hb
            go_simp
            (go_at_call 35; refine (HJ2.out _).mono ?_; rintro e wn ⟨rfl, hb⟩; (try (replace hT := keepVZ hb hT)))
            refine hK.out _ _ ?hsr6_10 (fun hH2 => ?hrr6_10)
            case hsr6_10 => exact S2i0 (by have hG := hH; replace hG := S2o0 hG; (try dsimp only at hG); have q0 := hG.1; have q1 := hG.2.1; have q2 := hG.2.2.1; have q3 := hG.2.2.2.1; have q4 := hG.2.2.2.2; exact ⟨keepVd hb q0, keepVd hb q1, keepVd hb q2, keepVd hb q3, keepBelow hb q4⟩)
            clear hK K hH
            have hH := hH2
            clear hH2
            try simp only [Act.put, List.setIfInBounds_toArray, List.set_cons_zero, List.set_cons_succ]
            refine U_take 10 47 24 0 0 (v := ?vr6_11) rfl (by kernel_rfl) (by kernel_rfl) hWr6 (by kernel_rfl) (by kernel_rfl) (by kernel_rfl) (by kernel_rfl) (by kernel_rfl) (by kernel_rfl) (fun _ _ _ _ h => h) (by kernel_rfl) ?hyr6_11 (by omega) hH ?_
            case hyr6_11 => (intro w' hSw; clear hSw; go_simp; try (with_reducible rfl))
            simp only [List.set_cons_zero, List.set_cons_succ]
            refine U_take 11 48 23 0 0 (v := ?vr6_12) rfl (by kernel_rfl) (by kernel_rfl) hWr6 (by kernel_rfl) (by kernel_rfl) (by kernel_rfl) (by kernel_rfl) (by kernel_rfl) (by kernel_rfl) (fun _ _ _ _ h => h) (by kernel_rfl) ?hyr6_12 (by omega) hH ?_
            case hyr6_12 => (intro w' hSw; clear hSw; go_simp; try (with_reducible rfl))
            simp only [List.set_cons_zero, List.set_cons_succ]
            refine U_take 12 49 22 0 0 (v := ?vr6_13) rfl (by kernel_rfl) (by kernel_rfl) hWr6 (by kernel_rfl) (by kernel_rfl) (by kernel_rfl) (by kernel_rfl) (by kernel_rfl) (by kernel_rfl) (fun _ _ _ _ h => h) (by kernel_rfl) ?hyr6_13 (by omega) hH ?_
            case hyr6_13 => (intro w' hSw; clear hSw; go_simp; try (with_reducible rfl))
            simp only [List.set_cons_zero, List.set_cons_succ]
            refine U_take 13 50 21 0 0 (v := ?vr6_14) rfl (by kernel_rfl) (by kernel_rfl) hWr6 (by kernel_rfl) (by kernel_rfl) (by kernel_rfl) (by kernel_rfl) (by kernel_rfl) (by kernel_rfl) (fun _ _ _ _ h => h) (by kernel_rfl) ?hyr6_14 (by omega) hH ?_
            case hyr6_14 => (intro w' hSw; replace hSw := S2o0 hSw; (try dsimp only at hSw); have q0 := hSw.1; have q1 := hSw.2.1; have q2 := hSw.2.2.1; have q3 := hSw.2.2.2.1; have q4 := hSw.2.2.2.2; obtain ⟨qa0_0, qa0_1, qa0_2, qa0_3⟩ := q0; obtain ⟨qa1_0, qa1_1, qa1_2, qa1_3⟩ := q1; obtain ⟨qa2_0, qa2_1, qa2_2, qa2_3⟩ := q2; obtain ⟨qa3_0, qa3_1, qa3_2, qa3_3⟩ := q3; go_simp; try (with_reducible rfl))
            simp only [List.set_cons_zero, List.set_cons_succ]
            refine U_take 14 51 20 0 0 (v := ?vr6_15) rfl (by kernel_rfl) (by kernel_rfl) hWr6 (by kernel_rfl) (by kernel_rfl) (by kernel_rfl) (by kernel_rfl) (by kernel_rfl) (by kernel_rfl) (fun _ _ _ _ h => h) (by kernel_rfl) ?hyr6_15 (by omega) hH ?_
            case hyr6_15 => (intro w' hSw; replace hSw := S2o0 hSw; (try dsimp only at hSw); have q0 := hSw.1; have q1 := hSw.2.1; have q2 := hSw.2.2.1; have q3 := hSw.2.2.2.1; have q4 := hSw.2.2.2.2; obtain ⟨qa0_0, qa0_1, qa0_2, qa0_3⟩ := q0; obtain ⟨qa1_0, qa1_1, qa1_2, qa1_3⟩ := q1; obtain ⟨qa2_0, qa2_1, qa2_2, qa2_3⟩ := q2; obtain ⟨qa3_0, qa3_1, qa3_2, qa3_3⟩ := q3; go_simp; try (with_reducible rfl))
            simp only [List.set_cons_zero, List.set_cons_succ]
            refine U_take 16 53 19 0 0 (v := ?vr6_16) rfl (by kernel_rfl) (by kernel_rfl) hWr6 (by kernel_rfl) (by kernel_rfl) (by kernel_rfl) (by kernel_rfl) (by kernel_rfl) (by kernel_rfl) (fun _ _ _ _ h => h) (by kernel_rfl) ?hyr6_16 (by omega) hH ?_
            case hyr6_16 => (intro w' hSw; replace hSw := S2o0 hSw; (try dsimp only at hSw); have q0 := hSw.1; have q1 := hSw.2.1; have q2 := hSw.2.2.1; have q3 := hSw.2.2.2.1; have q4 := hSw.2.2.2.2; obtain ⟨qa0_0, qa0_1, qa0_2, qa0_3⟩ := q0; obtain ⟨qa1_0, qa1_1, qa1_2, qa1_3⟩ := q1; obtain ⟨qa2_0, qa2_1, qa2_2, qa2_3⟩ := q2; obtain ⟨qa3_0, qa3_1, qa3_2, qa3_3⟩ := q3; go_simp; try (with_reducible rfl))
            simp only [List.set_cons_zero, List.set_cons_succ]
            refine wpAnyU_ready (rs := [15]) (by kernel_rfl) (by simp) ?_
            refine AllReadyU.cons 0 (by kernel_rfl) (o := _) rfl (fun K hK => ?_) AllReadyU.nil
            try clear hb
            go_simp
            (go_at_call 35; refine (HJ3.out _).mono ?_; rintro e wn ⟨rfl, hb⟩; (try (replace hT := keepVZ hb hT)))
            refine hK.out _ _ ?hsr6_17 (fun hH2 => ?hrr6_17)
            case hsr6_17 => exact S2i0 (by have hG := hH; replace hG := S2o0 hG; (try dsimp only at hG); have q0 := hG.1; have q1 := hG.2.1; have q2 := hG.2.2.1; have q3 := hG.2.2.2.1; have q4 := hG.2.2.2.2; exact ⟨keepVd hb q0, keepVd hb q1, keepVd hb q2, keepVd hb q3, keepBelow hb q4⟩)
            clear hK K hH
            have hH := hH2
            clear hH2
            try simp only [Act.put, List.setIfInBounds_toArray, List.set_cons_zero, List.set_cons_succ]
            refine U_take 17 54 17 0 0 (v := ?vr6_18) rfl (by kernel_rfl) (by kernel_rfl) hWr6 (by kernel_rfl) (by kernel_rfl) (by kernel_rfl) (by kernel_rfl) (by kernel_rfl) (by kernel_rfl) (fun _ _ _ _ h => h) (by kernel_rfl) ?hyr6_18 (by omega) hH ?_
            case hyr6_18 => (intro w' hSw; clear hSw; go_simp; try (with_reducible rfl))
            simp only [List.set_cons_zero, List.set_cons_succ]
            refine U_take 18 55 16 0 0 (v := ?vr6_19) rfl (by kernel_rfl) (by kernel_rfl) hWr6 (by kernel_rfl) (by kernel_rfl) (by kernel_rfl) (by kernel_rfl) (by kernel_rfl) (by kernel_rfl) (fun _ _ _ _ h => h) (by kernel_rfl) ?hyr6_19 (by omega) hH ?_
            case hyr6_19 => (intro w' hSw; clear hSw; go_simp; try (with_reducible rfl))
            simp only [List.set_cons_zero, List.set_cons_succ]
            refine U_take 19 56 15 0 0 (v := ?vr6_20) rfl (by kernel_rfl) (by kernel_rfl) hWr6 (by kernel_rfl) (by kernel_rfl) (by kernel_rfl) (by kernel_rfl) (by kernel_rfl) (by kernel_rfl) (fun _ _ _ _ h => h) (by kernel_rfl) ?hyr6_20 (by omega) hH ?_
            case hyr6_20 => (intro w' hSw; clear hSw; go_simp; try (with_reducible rfl))
            simp only [List.set_cons_zero, List.set_cons_succ]
            refine U_take 20 57 14 0 0 (v := ?vr6_21) rfl (by kernel_rfl) (by kernel_rfl) hWr6 (by kernel_rfl) (by kernel_rfl) (by kernel_rfl) (by kernel_rfl) (by kernel_rfl) (by kernel_rfl) (fun _ _ _ _ h => h) (by kernel_rfl) ?hyr6_21 (by omega) hH ?_
            case hyr6_21 => (intro w' hSw; replace hSw := S2o0 hSw; (try dsimp only at hSw); have q0 := hSw.1; have q1 := hSw.2.1; have q2 := hSw.2.2.1; have q3 := hSw.2.2.2.1; have q4 := hSw.2.2.2.2; obtain ⟨qa0_0, qa0_1, qa0_2, qa0_3⟩ := q0; obtain ⟨qa1_0, qa1_1, qa1_2, qa1_3⟩ := q1; obtain ⟨qa2_0, qa2_1, qa2_2, qa2_3⟩ := q2; obtain ⟨qa3_0, qa3_1, qa3_2, qa3_3⟩ := q3; go_simp; try (with_reducible rfl))
            simp only [List.set_cons_zero, List.set_cons_succ]
            refine U_take 21 58 13 0 0 (v := ?vr6_22) rfl (by kernel_rfl) (by kernel_rfl) hWr6 (by kernel_rfl) (by kernel_rfl) (by kernel_rfl) (by kernel_rfl) (by kernel_rfl) (by kernel_rfl) (fun _ _ _ _ h => h) (by kernel_rfl) ?hyr6_22 (by omega) hH ?_
            case hyr6_22 => (intro w' hSw; replace hSw := S2o0 hSw; (try dsimp only at hSw); have q0 := hSw.1; have q1 := hSw.2.1; have q2 := hSw.2.2.1; have q3 := hSw.2.2.2.1; have q4 := hSw.2.2.2.2; obtain ⟨qa0_0, qa0_1, qa0_2, qa0_3⟩ := q0; obtain ⟨qa1_0, qa1_1, qa1_2, qa1_3⟩ := q1; obtain ⟨qa2_0, qa2_1, qa2_2, qa2_3⟩ := q2; obtain ⟨qa3_0, qa3_1, qa3_2, qa3_3⟩ := q3; go_simp; try (with_reducible rfl))
            simp only [List.set_cons_zero, List.set_cons_succ]
            refine wpAnyU_ready (rs := [22]) (by kernel_rfl) (by simp) ?_
            refine AllReadyU.cons 0 (by kernel_rfl) (o := _) rfl (fun K hK => ?_) AllReadyU.nil
            try clear hb
            go_simp
            (go_at_call 36; refine (HM1.out _).mono ?_; rintro e wn ⟨rfl, hb⟩; (try (replace hT := keepVZ hb hT)))
            refine hK.out _ _ ?hsr6_23 (fun hH2 => ?hrr6_23)
            case hsr6_23 => exact S2i0 (by have hG := hH; replace hG := S2o0 hG; (try dsimp only at hG); have q0 := hG.1; have q1 := hG.2.1; have q2 := hG.2.2.1; have q3 := hG.2.2.2.1; have q4 := hG.2.2.2.2; exact ⟨keepVd hb q0, keepVd hb q1, keepVd hb q2, keepVd hb q3, keepBelow hb q4⟩)
            clear hK K hH
            have hH := hH2
            clear hH2
            try simp only [Act.put, List.setIfInBounds_toArray, List.set_cons_zero, List.set_cons_succ]
            refine U_take 23 60 11 0 0 (v := ?vr6_24) rfl (by kernel_rfl) (by kernel_rfl) hWr6 (by kernel_rfl) (by kernel_rfl) (by kernel_rfl) (by kernel_rfl) (by kernel_rfl) (by kernel_rfl) (fun _ _ _ _ h => h) (by kernel_rfl) ?hyr6_24 (by omega) hH ?_
            case hyr6_24 => (intro w' hSw; clear hSw; go_simp; try (with_reducible rfl))
            simp only [List.set_cons_zero, List.set_cons_succ]
            refine U_take 24 61 10 0 0 (v := ?vr6_25) rfl (by kernel_rfl) (by kernel_rfl) hWr6 (by kernel_rfl) (by kernel_rfl) (by kernel_rfl) (by kernel_rfl) (by kernel_rfl) (by kernel_rfl) (fun _ _ _ _ h => h) (by kernel_rfl) ?hyr6_25 (by omega) hH ?_
            case hyr6_25 => (intro w' hSw; replace hSw := S2o0 hSw; (try dsimp only at hSw); have q0 := hSw.1; have q1 := hSw.2.1; have q2 := hSw.2.2.1; have q3 := hSw.2.2.2.1; have q4 := hSw.2.2.2.2; obtain ⟨qa0_0, qa0_1, qa0_2, qa0_3⟩ := q0; obtain ⟨qa1_0, qa1_1, qa1_2, qa1_3⟩ := q1; obtain ⟨qa2_0, qa2_1, qa2_2, qa2_3⟩ := q2; obtain ⟨qa3_0, qa3_1, qa3_2, qa3_3⟩ := q3; go_simp; try (with_reducible rfl))
            simp only [List.set_cons_zero, List.set_cons_succ]
            refine U_take 25 62 9 0 0 (v := ?vr6_26) rfl (by kernel_rfl) (by kernel_rfl) hWr6 (by kernel_rfl) (by kernel_rfl) (by kernel_rfl) (by kernel_rfl) (by kernel_rfl) (by kernel_rfl) (fun _ _ _ _ h => h) (by kernel_rfl) ?hyr6_26 (by omega) hH ?_
            case hyr6_26 => (intro w' hSw; replace hSw := S2o0 hSw; (try dsimp only at hSw); have q0 := hSw.1; have q1 := hSw.2.1; have q2 := hSw.2.2.1; have q3 := hSw.2.2.2.1; have q4 := hSw.2.2.2.2; obtain ⟨qa0_0, qa0_1, qa0_2, qa0_3⟩ := q0; obtain ⟨qa1_0, qa1_1, qa1_2, qa1_3⟩ := q1; obtain ⟨qa2_0, qa2_1, qa2_2, qa2_3⟩ := q2; obtain ⟨qa3_0, qa3_1, qa3_2, qa3_3⟩ := q3; go_simp; try (with_reducible rfl))
            simp only [List.set_cons_zero, List.set_cons_succ]
            refine wpAnyU_ready (rs := [26]) (by kernel_rfl) (by simp) ?_
            refine AllReadyU.cons 0 (by kernel_rfl) (o := _) rfl (fun K hK => ?_) AllReadyU.nil
            try clear hb
            go_simp
            (go_at_call 36; refine (HM2.out _).mono ?_; rintro e wn ⟨rfl, hb⟩; (try (replace hT := keepVZ hb hT)))
            refine hK.out _ _ ?hsr6_27 (fun hH2 => ?hrr6_27)
            case hsr6_27 => exact S2i0 (by have hG := hH; replace hG := S2o0 hG; (try dsimp only at hG); have q0 := hG.1; have q1 := hG.2.1; have q2 := hG.2.2.1; have q3 := hG.2.2.2.1; have q4 := hG.2.2.2.2; exact ⟨keepVd hb q0, keepVd hb q1, keepVd hb q2, keepVd hb q3, keepBelow hb q4⟩)
            clear hK K hH
            have hH := hH2
            clear hH2
            try simp only [Act.put, List.setIfInBounds_toArray, List.set_cons_zero, List.set_cons_succ]
            refine U_take 27 64 7 0 0 (v := ?vr6_28) rfl (by kernel_rfl) (by kernel_rfl) hWr6 (by kernel_rfl) (by kernel_rfl) (by kernel_rfl) (by kernel_rfl) (by kernel_rfl) (by kernel_rfl) (fun _ _ _ _ h => h) (by kernel_rfl) ?hyr6_28 (by omega) hH ?_
            case hyr6_28 => (intro w' hSw; clear hSw; go_simp; try (with_reducible rfl))
            simp only [List.set_cons_zero, List.set_cons_succ]
            refine U_take 28 65 6 0 0 (v := ?vr6_29) rfl (by kernel_rfl) (by kernel_rfl) hWr6 (by kernel_rfl) (by kernel_rfl) (by kernel_rfl) (by kernel_rfl) (by kernel_rfl) (by kernel_rfl) (fun _ _ _ _ h => h) (by kernel_rfl) ?hyr6_29 (by omega) hH ?_
            case hyr6_29 => (intro w' hSw; clear hSw; go_simp; try (with_reducible rfl))
            simp only [List.set_cons_zero, List.set_cons_succ]
            refine U_skips (by kernel_rfl) (fun _ _ _ _ h => h) hWr6 0 0 (by omega) hH [(29, 66), (30, 67), (31, 68), (32, 69)] 2 _ _ _ (by kernel_rfl) (by kernel_rfl) ?_
            simp only [tsetUndef, List.set_cons_zero, List.set_cons_succ]
            refine U_take 33 70 1 0 0 (v := ?vr6_30) rfl (by kernel_rfl) (by kernel_rfl) hWr6 (by kernel_rfl) (by kernel_rfl) (by kernel_rfl) (by kernel_rfl) (by kernel_rfl) (by kernel_rfl) (fun _ _ _ _ h => h) (by kernel_rfl) ?hyr6_30 (by omega) hH ?_
            case hyr6_30 => (intro w' hSw; clear hSw; go_simp; try (with_reducible rfl))
            simp only [List.set_cons_zero, List.set_cons_succ]
            refine U_take 34 71 0 0 0 (v := ?vr6_31) rfl (by kernel_rfl) (by kernel_rfl) hWr6 (by kernel_rfl) (by kernel_rfl) (by kernel_rfl) (by kernel_rfl) (by kernel_rfl) (by kernel_rfl) (fun _ _ _ _ h => h) (by kernel_rfl) ?hyr6_31 (by omega) hH ?_
            case hyr6_31 => (intro w' hSw; clear hSw; go_simp; try (with_reducible rfl))
            simp only [List.set_cons_zero, List.set_cons_succ]
            refine wpAnyU_done (by kernel_rfl) ?_ _ _
            refine NoPanic.normal ?_
            clear hWr6
            replace hH := S2o0 hH
            (try dsimp only at hH)
            have q0 := hH.1
            have q1 := hH.2.1
            have q2 := hH.2.2.1
            have q3 := hH.2.2.2.1
            have q4 := hH.2.2.2.2
            clear hH hb
            clear vT vU vV vJ hB3 HJ1 HJ2 HJ3 HM1 HM2 q0 q1 q2 q3
            go_wp2
            go_roundw
            case rel => exact ⟨k + 1, by have := HI.out; omega, by have := HI.out; (go_num <;> omega), q4⟩
            case measure => have := HI.out; simp [intOf]; omega
    · have g1 : ¬ (i : Int) + 2 < (l.length : Int) := by omega
      have hB := keepBelow hBo hBase
      clear hBo hi
      go_wp2
      go_returns
      exact ret_bool rfl hB

end Go.Proofs.Ythhfjiikmaghdaa
