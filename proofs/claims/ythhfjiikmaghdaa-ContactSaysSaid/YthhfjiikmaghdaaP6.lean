/- slices.Equal of equal points of contact; the walk of ContactSays. -/
import Derived.Test.YthhfjiikmaghdaaP5
import Derived.Test.YthhfjiikmaghdaaQ2
namespace Go.Proofs.Ythhfjiikmaghdaa
set_option linter.unusedVariables false
set_option linter.unusedSimpArgs false
open Go.RowKit

set_option maxRecDepth 100000 in
theorem run_eqPt (t0 t1 t2 t3 t4 t5 : Int) (w : World) : (Op.equalIn 10000 44 (.agg #[.int .i64 t0, .int .i64 t1, .int .i64 t2, .int .i64 t3, .int .i64 t4, .int .i64 t5]) (.agg #[.int .i64 t0, .int .i64 t1, .int .i64 t2, .int .i64 t3, .int .i64 t4, .int .i64 t5])).run Try.prog w = .ok true w := by
  have hS : Try.prog.underlying 44 = some (.struct (Try.prog.fieldsOf 44)) := by kernel_rfl
  have hp : Try.prog.stoodInHeld 44 = false := by kernel_rfl
  have hS2 : Try.prog.underlying 25 = some (.struct (Try.prog.fieldsOf 25)) := by kernel_rfl
  have hp2 : Try.prog.stoodInHeld 25 = false := by kernel_rfl
  have inner : ∀ a b : Int, ∀ w, (Op.equalIn 9999 25 (.agg #[.int .i64 a, .int .i64 b]) (.agg #[.int .i64 a, .int .i64 b])).run Try.prog w = .ok true w := fun a b w => by
    rw [show (9999 : Nat) = 9998 + 1 from rfl, run_equalIn_agg w 9998 25 _ _ hS2 hp2]
    simp only [Program.fieldsOf, Try.underlying25]
    go_simp
  rw [show (10000 : Nat) = 9999 + 1 from rfl, run_equalIn_agg w 9999 44 _ _ hS hp]
  simp only [Program.fieldsOf, Try.underlying44]
  go_simp
theorem CellsE.pt {w : World} {b off : Nat} {l : List Pt} (h : CellsE layPt w b off l) {i : Nat} (hi : i < l.length) :
    w.cell? ⟨b, off + i * 6, none⟩ = some (.int .i64 l[i].1.1.1) ∧ w.cell? ⟨b, off + i * 6 + 1, none⟩ = some (.int .i64 l[i].1.1.2) ∧ w.cell? ⟨b, off + i * 6 + 2, none⟩ = some (.int .i64 l[i].1.2.1) ∧ w.cell? ⟨b, off + i * 6 + 3, none⟩ = some (.int .i64 l[i].1.2.2) ∧ w.cell? ⟨b, off + i * 6 + 4, none⟩ = some (.int .i64 l[i].2.1) ∧ w.cell? ⟨b, off + i * 6 + 5, none⟩ = some (.int .i64 l[i].2.2) :=
  ⟨h.at_ i hi 0 _ rfl, h.at_ i hi 1 _ rfl, h.at_ i hi 2 _ rfl, h.at_ i hi 3 _ rfl, h.at_ i hi 4 _ rfl, h.at_ i hi 5 _ rfl⟩
set_option maxRecDepth 100000 in
set_option maxHeartbeats 4000000 in
theorem equalPt_calls (A B : Option Addr) (n c m c' : Nat) (l : List Pt) (w : World) (hS : SlE layPt w A n c l) (hR : SlE layPt w B m c' l) :
    Calls Try.prog 28 #[.slice A n c, .slice B m c'] w (Ret (.bool true) w) := by
  have hn := hS.len
  have hm := hR.len
  subst hn hm
  have HS := hid hS
  have HR := hid hR
  have hbig := Nat.le_trans hS.cap hS.big
  clear hS hR
  go_enter Try.func28, Try.ntmps28
  go_wp2
  go_loopw [13] (fun j wr => ∃ k : Nat, k ≤ l.length ∧ j = .int .i64 k ∧ Below w.heap.size w wr) (fun j _ => l.length - (intOf j).toNat)
  case atStart => exact ⟨0, Nat.zero_le _, rfl, Below.refl _ _⟩
  case round =>
    obtain ⟨i, hi, rfl, hB⟩ := hrel
    obtain ⟨wo, rfl⟩ : ∃ wo : World, wo = wr := ⟨_, rfl⟩
    by_cases hlt : i < l.length
    · have hlt' : (i : Int) < (l.length : Int) := by omega
      have hwk : IntKind.i64.wrap ((i : Int) + 1) = (i : Int) + 1 := IntWalk.i64_in _ (by omega)
      obtain ⟨bA, oA, rfl, hC⟩ := (HS.out.below hB).at_ (by intro h; rw [h] at hlt; simp at hlt)
      obtain ⟨bB, oB, rfl, hD⟩ := (HR.out.below hB).at_ (by intro h; rw [h] at hlt; simp at hlt)
      obtain ⟨c0, c1, c2, c3, c4, c5⟩ := hC.pt hlt
      obtain ⟨d0, d1, d2, d3, d4, d5⟩ := hD.pt hlt
      have hbl := hC.lt
      have hbl2 := hD.lt
      generalize l[i].1.1.1 = t0 at *
      generalize l[i].1.1.2 = t1 at *
      generalize l[i].1.2.1 = t2 at *
      generalize l[i].1.2.2 = t3 at *
      generalize l[i].2.1 = t4 at *
      generalize l[i].2.2 = t5 at *
      have HQ := run_eqPt t0 t1 t2 t3 t4 t5
      clear hC hD
      go_upto_region 6 with fail
      (refine wp_region_noPanic ?_); (refine wp_region_U (S := (S2 (fun w' => w'.cell? ⟨bA, oA + i * 6, none⟩ = some (.int .i64 t0) ∧ w'.cell? ⟨bA, oA + i * 6 + 1, none⟩ = some (.int .i64 t1) ∧ w'.cell? ⟨bA, oA + i * 6 + 2, none⟩ = some (.int .i64 t2) ∧ w'.cell? ⟨bA, oA + i * 6 + 3, none⟩ = some (.int .i64 t3) ∧ w'.cell? ⟨bA, oA + i * 6 + 4, none⟩ = some (.int .i64 t4) ∧ w'.cell? ⟨bA, oA + i * 6 + 5, none⟩ = some (.int .i64 t5) ∧ w'.cell? ⟨bB, oB + i * 6, none⟩ = some (.int .i64 t0) ∧ w'.cell? ⟨bB, oB + i * 6 + 1, none⟩ = some (.int .i64 t1) ∧ w'.cell? ⟨bB, oB + i * 6 + 2, none⟩ = some (.int .i64 t2) ∧ w'.cell? ⟨bB, oB + i * 6 + 3, none⟩ = some (.int .i64 t3) ∧ w'.cell? ⟨bB, oB + i * 6 + 4, none⟩ = some (.int .i64 t4) ∧ w'.cell? ⟨bB, oB + i * 6 + 5, none⟩ = some (.int .i64 t5) ∧ Below w.heap.size w w'))) (T := (fun _ => 0)) (by kernel_rfl) (S2i0 ⟨c0, c1, c2, c3, c4, c5, d0, d1, d2, d3, d4, d5, hB.drew⟩) (fun hH => ?_)); (have hWr1 : Weaker (S2 (fun w' => w'.cell? ⟨bA, oA + i * 6, none⟩ = some (.int .i64 t0) ∧ w'.cell? ⟨bA, oA + i * 6 + 1, none⟩ = some (.int .i64 t1) ∧ w'.cell? ⟨bA, oA + i * 6 + 2, none⟩ = some (.int .i64 t2) ∧ w'.cell? ⟨bA, oA + i * 6 + 3, none⟩ = some (.int .i64 t3) ∧ w'.cell? ⟨bA, oA + i * 6 + 4, none⟩ = some (.int .i64 t4) ∧ w'.cell? ⟨bA, oA + i * 6 + 5, none⟩ = some (.int .i64 t5) ∧ w'.cell? ⟨bB, oB + i * 6, none⟩ = some (.int .i64 t0) ∧ w'.cell? ⟨bB, oB + i * 6 + 1, none⟩ = some (.int .i64 t1) ∧ w'.cell? ⟨bB, oB + i * 6 + 2, none⟩ = some (.int .i64 t2) ∧ w'.cell? ⟨bB, oB + i * 6 + 3, none⟩ = some (.int .i64 t3) ∧ w'.cell? ⟨bB, oB + i * 6 + 4, none⟩ = some (.int .i64 t4) ∧ w'.cell? ⟨bB, oB + i * 6 + 5, none⟩ = some (.int .i64 t5) ∧ Below w.heap.size w w')) := weaker2 _); (refine Ut 0 16 8 0 0 (v := ?vr1_1) rfl hWr1 hH ?yr1_1 ?_); (case yr1_1 => (intro w' hSw; clear hSw; go_simp; try (with_reducible rfl))); (simp only [sB, sC]); (refine Ut 1 17 7 0 0 (v := ?vr1_2) rfl hWr1 hH ?yr1_2 ?_); (case yr1_2 => (intro w' hSw; clear hSw; go_simp; try (with_reducible rfl))); (simp only [sB, sC]); (refine Ut 2 18 6 0 0 (v := ?vr1_3) rfl hWr1 hH ?yr1_3 ?_); (case yr1_3 => (intro w' hSw; clear hSw; go_simp; try (with_reducible rfl))); (simp only [sB, sC]); (refine Ut 3 19 5 0 0 (v := ?vr1_4) rfl hWr1 hH ?yr1_4 ?_); (case yr1_4 => (intro w' hSw; replace hSw := S2o0 hSw; (try dsimp only at hSw); have q0 := hSw.1; have q1 := hSw.2.1; have q2 := hSw.2.2.1; have q3 := hSw.2.2.2.1; have q4 := hSw.2.2.2.2.1; have q5 := hSw.2.2.2.2.2.1; have q6 := hSw.2.2.2.2.2.2.1; have q7 := hSw.2.2.2.2.2.2.2.1; have q8 := hSw.2.2.2.2.2.2.2.2.1; have q9 := hSw.2.2.2.2.2.2.2.2.2.1; have q10 := hSw.2.2.2.2.2.2.2.2.2.2.1; have q11 := hSw.2.2.2.2.2.2.2.2.2.2.2.1; have q12 := hSw.2.2.2.2.2.2.2.2.2.2.2.2; go_simp; try (with_reducible rfl))); (simp only [sB, sC]); (refine Ut 4 20 4 0 0 (v := ?vr1_5) rfl hWr1 hH ?yr1_5 ?_); (case yr1_5 => (intro w' hSw; clear hSw; go_simp; try (with_reducible rfl))); (simp only [sB, sC]); (refine Ut 5 21 3 0 0 (v := ?vr1_6) rfl hWr1 hH ?yr1_6 ?_); (case yr1_6 => (intro w' hSw; clear hSw; go_simp; try (with_reducible rfl))); (simp only [sB, sC]); (refine Ut 6 22 2 0 0 (v := ?vr1_7) rfl hWr1 hH ?yr1_7 ?_); (case yr1_7 => (intro w' hSw; clear hSw; go_simp; try (with_reducible rfl))); (simp only [sB, sC]); (refine Ut 7 23 1 0 0 (v := ?vr1_8) rfl hWr1 hH ?yr1_8 ?_); (case yr1_8 => (intro w' hSw; replace hSw := S2o0 hSw; (try dsimp only at hSw); have q0 := hSw.1; have q1 := hSw.2.1; have q2 := hSw.2.2.1; have q3 := hSw.2.2.2.1; have q4 := hSw.2.2.2.2.1; have q5 := hSw.2.2.2.2.2.1; have q6 := hSw.2.2.2.2.2.2.1; have q7 := hSw.2.2.2.2.2.2.2.1; have q8 := hSw.2.2.2.2.2.2.2.2.1; have q9 := hSw.2.2.2.2.2.2.2.2.2.1; have q10 := hSw.2.2.2.2.2.2.2.2.2.2.1; have q11 := hSw.2.2.2.2.2.2.2.2.2.2.2.1; have q12 := hSw.2.2.2.2.2.2.2.2.2.2.2.2; go_simp; try (with_reducible rfl))); (simp only [sB, sC]); (refine Ut 8 24 0 0 0 (v := ?vr1_9) rfl hWr1 hH ?yr1_9 ?_); (case yr1_9 => (intro w' hSw; clear hSw; go_simp; try (with_reducible rfl))); (simp only [sB, sC]); (refine wpAnyU_done (by kernel_rfl) ?_ _ _); (refine NoPanic.normal ?_); (clear hWr1); (replace hH := S2o0 hH); ((try dsimp only at hH)); (have q0 := hH.1); (have q1 := hH.2.1); (have q2 := hH.2.2.1); (have q3 := hH.2.2.2.1); (have q4 := hH.2.2.2.2.1); (have q5 := hH.2.2.2.2.2.1); (have q6 := hH.2.2.2.2.2.2.1); (have q7 := hH.2.2.2.2.2.2.2.1); (have q8 := hH.2.2.2.2.2.2.2.2.1); (have q9 := hH.2.2.2.2.2.2.2.2.2.1); (have q10 := hH.2.2.2.2.2.2.2.2.2.2.1); (have q11 := hH.2.2.2.2.2.2.2.2.2.2.2.1); (have q12 := hH.2.2.2.2.2.2.2.2.2.2.2.2); (clear hH)
      clear c0 c1 c2 c3 c4 c5 d0 d1 d2 d3 d4 d5 q0 q1 q2 q3 q4 q5 q6 q7 q8 q9 q10 q11 hB HQ
      generalize wo.drew = wq at *
      go_wp2
      go_roundw
      case rel => exact ⟨i + 1, hlt, by go_num, q12⟩
      case measure => simp [intOf]; omega
    · have hie : i = l.length := by omega
      subst hie
      go_wp2
      go_returns
      exact ret_bool rfl hB

set_option maxRecDepth 100000 in
theorem pts_sq : ptsZ (sqL 0 0 4) (sqL 3 1 4) = [(((196608, 262144), (65536, 0)), (65536, 22)), (((196608, 65536), (65536, 0)), (65536, 23))] := by kernel_rfl
theorem pts_none {l m : List V} (h : meetsB l m = false) : ptsZ l m = [] := by unfold ptsZ leastO; rw [h]; rfl
set_option maxRecDepth 100000 in
set_option maxHeartbeats 8000000 in
theorem contactSays_walk (A B : Option Addr) (n c n' c' : Nat) (l m : List V) (w : World) (hS : Sl w A n c l) (hM : Sl w B n' c' m) : Calls Try.prog 4 #[.slice A n c, .slice B n' c'] w (Ret (.bool true) w) := by
  have HS := hid hS
  have HMM := hid hM
  have hn := hS.len
  have hn' := hM.len
  subst hn hn'
  have PS := hid pts_sq
  clear hS hM
  go_enter Try.func4, Try.ntmps4
  go_wp2_with fail
  refine (square_calls 0 0 4 (by omega) (by omega) (by omega) _).mono ?_
  rintro e w1 ⟨A1, n1, c1, rfl, hs1, hb1⟩
  have HS1 := hid hs1
  clear hs1
  go_wp2_with fail
  refine (square_calls 3 1 4 (by omega) (by omega) (by omega) _).mono ?_
  rintro e w2 ⟨A2, n2, c2, rfl, hs2, hb2⟩
  have HO := hid (cof_calls A1 A2 n1 c1 n2 c2 _ _ w2 (HS1.out.below hb2) hs2)
  have hB2 := keepBelow hb2 hb1
  rw [PS.out] at HO
  clear hs2 hb1 hb2 HS1 PS
  go_wp2_with fail
  refine HO.out.mono ?_
  rintro e w3 ⟨A3, n3, c3, rfl, hs3, -, hb3⟩
  have hB3 := keepBelow hb3 hB2
  obtain ⟨b, off, rfl, hC⟩ := hs3.at_ (by simp)
  have hn3 : n3 = 2 := hs3.len
  subst hn3
  obtain ⟨k0, k1, -, -, -, k5⟩ := hC.pt (i := 0) (by simp)
  obtain ⟨-, -, -, -, k4, -⟩ := hC.pt (i := 1) (by simp)
  simp only [Nat.zero_mul, Nat.add_zero, Nat.one_mul, List.getElem_cons_zero, List.getElem_cons_succ] at k0 k1 k4 k5
  have hbl := hC.lt
  have HQ := run_eqV' 196608 262144 196608 262144
  clear HO hs3 hC hb3 hB2
  have HO2 := hid (fun w' (h : Below w.heap.size w w') => cof_calls A B _ c _ c' l m w' (HS.out.below h) (HMM.out.below h))
  go_wp2_with fail
  refine (HO2.out _ hB3).mono ?_
  rintro e w4 ⟨A4, n4, c4, rfl, hs4, -, hb4⟩
  have HS4 := hid hs4
  have HN4 := hid hs4.len
  have hB4 := keepBelow hb4 hB3
  clear hs4 hb4 HO2 k0 k1 k4 k5 hbl HQ hB3
  go_wp2_with fail
  refine (rtwo_calls A B _ c _ c' l m _ (HS.out.below hB4) (HMM.out.below hB4)).mono ?_
  rintro e w5 ⟨rfl, hb5⟩
  have HS5 := hid (HS4.out.below hb5)
  have hB5 := keepBelow hb5 hB4
  clear HS4 hb5 hB4
  by_cases hE : bothE l m = 0
  · obtain ⟨hcl, hcm⟩ := bothE_zero.1 hE
    have HME := hid (fun w' (h : Below w.heap.size w w') => rmeet_calls A B _ c _ c' l m w' (HS.out.below h) (HMM.out.below h) hcl hcm)
    have HMQ := hid (meet_eq hcl hcm)
    rw [HMQ.out] at HME
    have HNO := hid (pts_none (l := l) (m := m))
    have HPO : Hid (meetsB l m = true → ∀ w', Below w.heap.size w w' → Calls Try.prog 29 #[.slice A l.length c, .slice B m.length c'] w' (RetPt (ptsZ l m) w')) := fun hm w' h => rpoints_calls A B _ c _ c' l m w' (HS.out.below h) (HMM.out.below h) hm
    rw [hE]
    clear hE hcl hcm HMQ
    generalize meetsB l m = mt at *
    generalize ptsZ l m = P at *
    go_wp2_with fail
    refine (HME.out _ hB5).mono ?_
    rintro e w6 ⟨rfl, hb6⟩
    replace HS5 := hid (HS5.out.below hb6)
    replace hB5 := keepBelow hb6 hB5
    clear hb6 HME
    cases mt with
    | false =>
      have hP := HNO.out rfl
      subst hP
      have hn4 := HN4.out
      simp at hn4
      subst hn4
      clear HNO HPO
      go_wp2
      go_returns
      exact ret_bool rfl hB5
    | true =>
      have HPO2 := hid (HPO.out rfl)
      clear HNO HPO
      go_wp2_with fail
      refine (HPO2.out _ hB5).mono ?_
      rintro e w7 ⟨A7, n7, c7, rfl, hs7, -, hb7⟩
      have HS7 := hid hs7
      replace HS5 := hid (HS5.out.below hb7)
      replace hB5 := keepBelow hb7 hB5
      clear hs7 hb7 HPO2
      go_wp2_with fail
      refine (equalPt_calls A4 A7 n4 c4 n7 c7 P _ HS5.out HS7.out).mono ?_
      rintro e w8 ⟨rfl, hb8⟩
      have hB8 := keepBelow hb8 hB5
      clear hb8 HS5 HS7
      go_wp2
      go_returns
      exact ret_bool rfl hB8
  · have hmt : meetsB l m = false := by
      cases h : meetsB l m
      · rfl
      · unfold meetsB at h
        exact absurd (of_decide_eq_true h).1 hE
    have hP := pts_none hmt
    have hn4 := HN4.out
    rw [hP] at hn4
    simp at hn4
    subst hn4
    have hne : (bothE l m != 0) = true := by simp [hE]
    generalize bothE l m = E at *
    clear hmt hP hE
    go_wp2
    go_returns
    exact ret_bool rfl hB5

end Go.Proofs.Ythhfjiikmaghdaa
