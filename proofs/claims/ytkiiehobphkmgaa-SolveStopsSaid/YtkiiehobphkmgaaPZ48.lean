/- The walk of SolveStops. -/
import Derived.Test.YtkiiehobphkmgaaPZ47
import Derived.Test.YtkiiehobphkmgaaPZ25
namespace Go.Proofs.Ytkiiehobphkmgaa
section
set_option linter.unusedVariables false
set_option linter.unusedSimpArgs false
open Go.RowKit
theorem run_fldY (x y : Int) (w : World) : (Instr.field 24 (.agg #[.int .i64 x, .int .i64 y]) 1).run Try.prog w = .ok (.int .i64 y) w := by kernel_rfl
set_option maxRecDepth 100000 in
set_option maxHeartbeats 8000000 in
theorem solveStops_walk (A : Option Addr) (n c : Nat) (r : List Int) (z1 z2 : Int) (w : World) (hS : SlI w A n c r) : Calls Try.prog 3 #[.slice A n c, .int .i64 z1, .int .i64 z2] w (Ret (.bool true) w) := by
  have HSI := hid hS
  clear hS
  go_enter Try.func3, Try.ntmps3
  go_wp2_with fail
  refine (mBody_calls A n c r _ HSI.out).mono ?_
  rintro e w1 ⟨b, l, A1, n1, c1, rfl, hmb, hml, hs1, hf1, hb1⟩
  obtain ⟨w2, hw2⟩ : ∃ x, x = w1.alloc (.cells #[.int .i64 b.px, .int .i64 b.py, .int .i64 b.vx, .int .i64 b.vy, .int .i64 b.ang, .int .i64 b.spin, .int .i64 b.mass, .int .i64 b.iner, .int .i64 b.bounce, .int .i64 b.rub, .slice A1 n1 c1, .bool b.asleep, .int .i64 b.calm] 27) := ⟨_, rfl⟩
  obtain ⟨gb, hgb⟩ : ∃ x, x = w1.heap.size := ⟨_, rfl⟩
  have HK2 := hid (show BdAt w2 gb b A1 n1 c1 by rw [hw2, hgb]; exact BdAt.here w1 b A1 n1 c1 _)
  have hb2 : Below w1.heap.size w1 w2 := by rw [hw2]; go_grown
  obtain ⟨w3, hw3⟩ : ∃ x, x = (((w2.setCell ⟨gb, 0, none⟩ (.int .i64 0)).setCell ⟨gb, 1, none⟩ (.int .i64 0)).setCell ⟨gb, 8, none⟩ (.int .i64 0)).setCell ⟨gb, 9, none⟩ (.int .i64 0) := ⟨_, rfl⟩
  have HK3 := hid (show BdAt w3 gb (bd00 b) A1 n1 c1 by rw [hw3]; exact HK2.out.set00)
  have hg1 : w1.heap.size ≤ gb := Nat.le_of_eq hgb.symm
  have hb3 : Below w1.heap.size w1 w3 := by rw [hw3]; exact (((hb2.setCell (p := ⟨gb, 0, none⟩) hg1 _).setCell (p := ⟨gb, 1, none⟩) hg1 _).setCell (p := ⟨gb, 8, none⟩) hg1 _).setCell (p := ⟨gb, 9, none⟩) hg1 _
  have HS3 := hid (hs1.below hb3)
  have HB3 := hid (keepBelow hb3 hb1)
  have HMB := hid hmb
  have HML := hid hml
  obtain ⟨k0, k1, k2, k3, k4, k5, k6, k7, k8, k9, k10, k11, k12, kf⟩ := HK2.out
  have lk := lt_of_cell k0
  clear hmb hml hs1 hf1 hb1 hb2 hb3 hg1 HSI HK2
  go_upto_region 2 with fail
  rw [← hw2, ← hgb]
  clear hw2 hgb
  go_upto_region 3 with fail
  rw [← hw3]
  clear hw3 k0 k1 k2 k3 k4 k5 k6 k7 k8 k9 k10 k11 k12 kf lk
  go_wp2_with fail
  refine (kblock_calls_fix 0 (-20) 1 (by omega) (by omega) (by omega) _).mono ?_
  rintro e w4 ⟨A2, n2, c2, rfl, hs2, hf2, hb4⟩
  have HEND := hid (fun (p q : Int) hp hq => stops_end HMB.out HML.out A1 A2 n1 n2 c1 c2 (p := p) (q := q) hp hq)
  obtain ⟨bw, hbw⟩ : ∃ x, x = bdK 0 (-20) 0 := ⟨_, rfl⟩
  obtain ⟨sq, hsq⟩ : ∃ x, x = sqK 0 0 1 := ⟨_, rfl⟩
  obtain ⟨bb, hbb⟩ : ∃ x, x = bd00 b := ⟨_, rfl⟩
  rw [← hbw, ← hsq, ← hbb] at HEND
  rw [← hsq] at hs2
  rw [← hbw]
  have HM : Hid (bb.mass = b.mass) := by rw [hbb]; exact hid rfl
  rw [← hbb] at HK3
  clear hbw hsq hbb
  obtain ⟨w5, hw5⟩ : ∃ x, x = w4.alloc (.cells #[.int .i64 bw.px, .int .i64 bw.py, .int .i64 bw.vx, .int .i64 bw.vy, .int .i64 bw.ang, .int .i64 bw.spin, .int .i64 bw.mass, .int .i64 bw.iner, .int .i64 bw.bounce, .int .i64 bw.rub, .slice A2 n2 c2, .bool bw.asleep, .int .i64 bw.calm] 27) := ⟨_, rfl⟩
  obtain ⟨gw, hgw⟩ : ∃ x, x = w4.heap.size := ⟨_, rfl⟩
  have HW5 := hid (show BdAt w5 gw bw A2 n2 c2 by rw [hw5, hgw]; exact BdAt.here w4 bw A2 n2 c2 _)
  have hb5 : Below w4.heap.size w4 w5 := by rw [hw5]; go_grown
  have HK5 := hid (keepBd hb5 (keepBd hb4 HK3.out))
  have HS5 := hid ((HS3.out.below hb4).below hb5)
  have HT5 := hid (hs2.below hb5)
  have HB5 := hid (keepBelow hb5 (keepBelow hb4 HB3.out))
  clear hs2 hf2 hb4 hb5 HK3 HS3 HB3 HMB HML
  go_upto_region 4 with fail
  rw [← hw5, ← hgw]
  clear hw5 hgw
  obtain ⟨u, hu⟩ : ∃ x, x = z1 % 262144 := ⟨_, rfl⟩
  have hub : 0 ≤ u ∧ u < 262144 := by omega
  obtain ⟨p, hp⟩ : ∃ x, x = u - 131072 := ⟨_, rfl⟩
  have hwp : IntKind.i64.wrap (u - 131072) = p := by rw [IntWalk.i64_in _ (by omega)]; omega
  have hpb : -131072 ≤ p ∧ p ≤ 131072 := by omega
  obtain ⟨v, hv⟩ : ∃ x, x = z2 % 131072 := ⟨_, rfl⟩
  have hvb : 0 ≤ v ∧ v < 131072 := by omega
  obtain ⟨q, hq⟩ : ∃ x, x = v - 131072 := ⟨_, rfl⟩
  have hwq : IntKind.i64.wrap (v - 131072) = q := by rw [IntWalk.i64_in _ (by omega)]; omega
  have hqb : -131072 ≤ q ∧ q ≤ 131072 := by omega
  have HBU := hid (fun w => tbelow_calls z1 262144 (by omega) (by omega) w)
  have HBV := hid (fun w => tbelow_calls z2 131072 (by omega) (by omega) w)
  rw [← hu] at HBU
  rw [← hv] at HBV
  obtain ⟨hE, hL2, hEND⟩ := HEND.out p q hpb hqb
  have HE := hid hE
  have HL2 := hid hL2
  have HEN := hid hEND
  clear hE hL2 hEND HEND hu hv hp hq hub hvb hpb hqb
  go_wp2_with fail
  refine (HBU.out _).mono ?_
  rintro e w6 ⟨rfl, hb6⟩
  go_wp2_with fail
  refine (HBV.out _).mono ?_
  rintro e w7 ⟨rfl, hb7⟩
  obtain ⟨w8, hw8⟩ : ∃ x, x = w7.alloc (.cells #[.int .i64 p, .int .i64 q] 24) := ⟨_, rfl⟩
  obtain ⟨gp, hgp⟩ : ∃ x, x = w7.heap.size := ⟨_, rfl⟩
  have hb8 : Below w7.heap.size w7 w8 := by rw [hw8]; go_grown
  have hp0 : w8.cell? ⟨gp, 0, none⟩ = some (.int .i64 p) := by rw [hw8, hgp]; go_simp
  have hp1 : w8.cell? ⟨gp, 1, none⟩ = some (.int .i64 q) := by rw [hw8, hgp]; go_simp
  have lp := lt_of_cell hp0
  have HW8 := hid (keepBd hb8 (keepBd hb7 (keepBd hb6 HW5.out)))
  have HK8 := hid (keepBd hb8 (keepBd hb7 (keepBd hb6 HK5.out)))
  have HS8 := hid (((HS5.out.below hb6).below hb7).below hb8)
  have HT8 := hid (((HT5.out.below hb6).below hb7).below hb8)
  have HB8 := hid (keepBelow hb8 (keepBelow hb7 (keepBelow hb6 HB5.out)))
  clear hb6 hb7 hb8 HW5 HK5 HS5 HT5 HB5 HBU HBV
  obtain ⟨a0, a1, a2, a3, a4, a5, a6, a7, a8, a9, a10, a11, a12, af⟩ := HW8.out
  obtain ⟨d0, d1, d2, d3, d4, d5, d6, d7, d8, d9, d10, d11, d12, df⟩ := HK8.out
  have la := lt_of_cell a0
  have ld := lt_of_cell d0
  obtain ⟨L, hL⟩ : ∃ L : List BE, L = [⟨bw, A2, n2, c2, sq⟩, ⟨bb, A1, n1, c1, l⟩] := ⟨_, rfl⟩
  rw [← hL] at HE HL2 HEN
  obtain ⟨w9, hw9⟩ : ∃ x, x = w8.alloc (.cells #[.int .i64 bw.px, .int .i64 bw.py, .int .i64 bw.vx, .int .i64 bw.vy, .int .i64 bw.ang, .int .i64 bw.spin, .int .i64 bw.mass, .int .i64 bw.iner, .int .i64 bw.bounce, .int .i64 bw.rub, .slice A2 n2 c2, .bool bw.asleep, .int .i64 bw.calm, .int .i64 bb.px, .int .i64 bb.py, .int .i64 bb.vx, .int .i64 bb.vy, .int .i64 bb.ang, .int .i64 bb.spin, .int .i64 bb.mass, .int .i64 bb.iner, .int .i64 bb.bounce, .int .i64 bb.rub, .slice A1 n1 c1, .bool bb.asleep, .int .i64 bb.calm] 27) := ⟨_, rfl⟩
  obtain ⟨g9, hg9⟩ : ∃ x, x = w8.heap.size := ⟨_, rfl⟩
  have hb9 : Below w8.heap.size w8 w9 := by rw [hw9]; go_grown
  have HO : Hid (OwnE layB 27 w9 w8.heap.size (.slice (some ⟨g9, 0, none⟩) 2 2) L) := by
    show OwnE _ _ _ _ _ _
    rw [hw9, hg9, hL]
    exact ⟨by simp [flatE, layB, encB], .inr ⟨w8.heap.size, 2, _, rfl, Nat.le_refl _, heap_alloc_new w8 _, Nat.le_refl _, by decide, by simp [layB], by simp [flatE, layB, encB]⟩⟩
  have hc9 : CellsE layB w9 g9 0 L := by
    rcases HO.out.form with ⟨h1, -⟩ | ⟨g', cap', hv, -, -, -, -, hf, hc⟩
    · cases h1
    · injection hv with e1 e2 e3
      cases e1
      exact hc
  obtain ⟨w10, hw10⟩ : ∃ x, x = w9.alloc (.cells #[.int .i64 0, .int .i64 1, .int .i64 0, .int .i64 p, .int .i64 q, .int .i64 0, .int .i64 65536, .int .i64 0, .int .i64 0, .int .i64 0] 37) := ⟨_, rfl⟩
  have hsz9 : w9.heap.size = w8.heap.size + 1 := by rw [hw9]; simp
  have hb10 : Below w9.heap.size w9 w10 := by rw [hw10]; go_grown
  have hJ : CellsE layC w10 w9.heap.size 0 [stopC p q] := by rw [hw10]; exact cells_ct_one (by go_simp; rfl) (by go_simp; rfl) (by go_simp; rfl) (by go_simp; rfl) (by go_simp; rfl) (by go_simp; rfl) (by go_simp; rfl) (by go_simp; rfl) (by go_simp; rfl) (by go_simp; rfl)
  rw [hsz9, ← hg9] at hJ
  have hSC : SlE layC w10 (some ⟨g9 + 1, 0, none⟩) 1 1 [stopC p q] := ⟨rfl, Nat.le_refl _, by omega, fun _ => ⟨g9 + 1, 0, rfl, hJ⟩⟩
  have hSB : SlB w10 (some ⟨g9, 0, none⟩) 2 2 L := ⟨⟨by rw [hL]; rfl, Nat.le_refl _, by omega, fun _ => ⟨g9, 0, rfl, hc9.below hb10⟩⟩, fun x hx => by
    rw [hL] at hx
    rcases List.mem_cons.1 hx with rfl | hx
    · exact (HT8.out.below hb9).below hb10
    · rw [List.mem_singleton.1 hx]; exact (HS8.out.below hb9).below hb10⟩
  have HRUN := hid (srun_calls (some ⟨g9, 0, none⟩) (some ⟨g9 + 1, 0, none⟩) 2 2 1 1 L [stopC p q] 4096 1 w10 hSB hSC)
  have HB10 := hid (keepBelow hb10 (keepBelow hb9 HB8.out))
  have HK10 := hid (keepBd hb10 (keepBd hb9 HK8.out))
  have HP0 := hid (keepCell hb10 (keepCell hb9 hp0))
  have HP1 := hid (keepCell hb10 (keepCell hb9 hp1))
  rw [hw9] at hw10
  have HW10 := hid hw10
  have HG9 := hid hg9
  clear HO hc9 hJ hSC hSB hb9 hb10 hsz9 HB8 HK8 HW8 HS8 HT8 hL hw9 hw10 hg9
  go_upto_region 5 with fail
  rw [← hw8, ← hgp]
  clear hw8 hgp hwp hwq
  go_wp2_with fail
  rw [← HW10.out, ← HG9.out]
  refine HRUN.out.mono ?_
  rintro e w11 ⟨A3, B3, n3, c3, m3, e3, L', rfl, hs, hcS, hm, hb11⟩
  rw [HE.out]
  obtain ⟨h2, hy⟩ := HEN.out L' hm
  have hn := hs.sl.len
  rw [h2] at hn
  subst hn
  have hmn := hcS.len
  rw [HL2.out] at hmn
  subst hmn
  have H1L : Hid (1 < L'.length) := by show _ < _; omega
  obtain ⟨y, hye⟩ : ∃ y, y = L'[1]'(H1L.out) := ⟨_, rfl⟩
  have HY := hid hye
  have HYB : Hid (b.mass ≠ 0 → -512 ≤ atY y.b y.l p q) := fun h => hy y (by rw [hye]; exact List.getElem?_eq_getElem _) h
  obtain ⟨bA, oA, hA3, hC⟩ := hs.sl.at_ (by intro h; rw [h] at h2; simp at h2)
  subst hA3
  have HSL11 := hid hs
  have HCL11 := hid hC
  have M611 : Hid (w11.cell? ⟨gb, 6, none⟩ = some (.int .i64 b.mass)) := by show _ = _; rw [← HM.out]; exact keepCell hb11 HK10.out.c6
  have P011 := hid (keepCell hb11 HP0.out)
  have P111 := hid (keepCell hb11 HP1.out)
  have HB11 := hid (keepBelow hb11 HB10.out)
  clear hs hcS hm hb11 h2 hy hye hC HRUN HE HL2 HEN HK10 HP0 HP1 HB10 HW10 HG9 HM hp0 hp1 lp a0 a1 a2 a3 a4 a5 a6 a7 a8 a9 a10 a11 a12 af d0 d1 d2 d3 d4 d5 d6 d7 d8 d9 d10 d11 d12 df la ld
  go_wp2_with fail
  refine (solves_calls _).mono ?_
  rintro e w12 ⟨rfl, hb⟩
  have HSL := hid (HSL11.out.below hb)
  have HCL := hid (CellsE.below hb HCL11.out)
  have M6 := hid (keepCell hb M611.out)
  have P0 := hid (keepCell hb P011.out)
  have P1 := hid (keepCell hb P111.out)
  have HB := hid (keepBelow hb HB11.out)
  have HAT := hid (fun w h => at_calls y.b y.A y.n y.c y.l p q w h)
  generalize atY y.b y.l p q = Y at *
  generalize atX y.b y.l p q = X at *
  have hfld := run_fldY X Y
  clear hb HSL11 HCL11 M611 P011 P111 HB11
  go_upto_region 8 with fail
  by_cases hz : b.mass = 0
  · have hzb : (b.mass == 0) = true := by simp [hz]
    clear HYB HAT
    refine wp_region_noPanic ?_
    refine wp_region_U (S := (S2 (fun w' => w'.cell? ⟨gb, 6, none⟩ = some (.int .i64 b.mass) ∧ CellsE layB w' bA oA L' ∧ w'.cell? ⟨gp, 0, none⟩ = some (.int .i64 p) ∧ w'.cell? ⟨gp, 1, none⟩ = some (.int .i64 q) ∧ SlB w' (some ⟨bA, oA, none⟩) 2 c3 L' ∧ Below w.heap.size w w'))) (T := (fun _ => 0)) (by kernel_rfl) (S2i0 ⟨M6.out, CellsE.below (Below.refl _ _).drew HCL.out, P0.out, P1.out, HSL.out.below (Below.refl _ _).drew, HB.out.drew⟩) (fun hH => ?_)
    have hWr1 : Weaker (S2 (fun w' => w'.cell? ⟨gb, 6, none⟩ = some (.int .i64 b.mass) ∧ CellsE layB w' bA oA L' ∧ w'.cell? ⟨gp, 0, none⟩ = some (.int .i64 p) ∧ w'.cell? ⟨gp, 1, none⟩ = some (.int .i64 q) ∧ SlB w' (some ⟨bA, oA, none⟩) 2 c3 L' ∧ Below w.heap.size w w')) := weaker2 _
    refine Ut 0 55 12 0 0 (v := ?vr1_1) rfl hWr1 hH ?yr1_1 ?_
    case yr1_1 => (intro w' hSw; clear hSw; go_simp; try (with_reducible rfl))
    simp only [sB, sC]
    refine Ut 1 56 11 0 0 (v := ?vr1_2) rfl hWr1 hH ?yr1_2 ?_
    case yr1_2 => (intro w' hSw; replace hSw := S2o0 hSw; (try dsimp only at hSw); have q0 := hSw.1; have q1 := hSw.2.1; have q2 := hSw.2.2.1; have q3 := hSw.2.2.2.1; have q4 := hSw.2.2.2.2.1; have q5 := hSw.2.2.2.2.2; obtain ⟨qa1_0, qa1_1, qa1_2, qa1_3, qa1_4, qa1_5, qa1_6, qa1_7, qa1_8, qa1_9, qa1_10, qa1_11, qa1_12⟩ := cells_bd1 (q1) H1L.out HY.out; go_simp; try (with_reducible rfl))
    simp only [sB, sC]
    refine Ut 2 57 10 0 0 (v := ?vr1_3) rfl hWr1 hH ?yr1_3 ?_
    case yr1_3 => (intro w' hSw; clear hSw; go_simp; try (with_reducible rfl))
    simp only [sB, sC]
    refine Ut 3 58 9 0 0 (v := ?vr1_4) rfl hWr1 hH ?yr1_4 ?_
    case yr1_4 => (intro w' hSw; clear hSw; go_simp; try (with_reducible rfl))
    simp only [sB, sC]
    refine U_skips (by kernel_rfl) (fun _ _ _ _ h => h) hWr1 0 0 (by omega) hH [(4, 59), (5, 60), (6, 61), (7, 62), (8, 63), (9, 64), (10, 65)] 2 _ _ _ (by kernel_rfl) (by kernel_rfl) ?_
    simp only [tsetUndef, List.set_cons_zero, List.set_cons_succ]
    refine Ut 11 66 1 0 0 (v := ?vr1_5) rfl hWr1 hH ?yr1_5 ?_
    case yr1_5 => (intro w' hSw; clear hSw; go_simp; try (with_reducible rfl))
    simp only [sB, sC]
    refine Ut 12 6 0 0 0 (v := ?vr1_6) rfl hWr1 hH ?yr1_6 ?_
    case yr1_6 => (intro w' hSw; clear hSw; go_simp; try (with_reducible rfl))
    simp only [sB, sC]
    refine wpAnyU_done (by kernel_rfl) ?_ _ _
    refine NoPanic.normal ?_
    clear hWr1
    replace hH := S2o0 hH
    (try dsimp only at hH)
    have t0 := hH.1
    have t1 := hH.2.1
    have t2 := hH.2.2.1
    have t3 := hH.2.2.2.1
    have t4 := hH.2.2.2.2.1
    have t5 := hH.2.2.2.2.2
    go_wp2_with fail
    go_returns
    exact ret_bool (by simp) (by first | exact t5 | exact t5.drew)
  · have hzb : (b.mass == 0) = false := by simp [hz]
    have hYB : Y ≥ -512 := HYB.out hz
    refine wp_region_noPanic ?_
    refine wp_region_U (S := (S2 (fun w' => w'.cell? ⟨gb, 6, none⟩ = some (.int .i64 b.mass) ∧ CellsE layB w' bA oA L' ∧ w'.cell? ⟨gp, 0, none⟩ = some (.int .i64 p) ∧ w'.cell? ⟨gp, 1, none⟩ = some (.int .i64 q) ∧ SlB w' (some ⟨bA, oA, none⟩) 2 c3 L' ∧ Below w.heap.size w w'))) (T := (fun _ => 0)) (by kernel_rfl) (S2i0 ⟨M6.out, CellsE.below (Below.refl _ _).drew HCL.out, P0.out, P1.out, HSL.out.below (Below.refl _ _).drew, HB.out.drew⟩) (fun hH => ?_)
    have hWr2 : Weaker (S2 (fun w' => w'.cell? ⟨gb, 6, none⟩ = some (.int .i64 b.mass) ∧ CellsE layB w' bA oA L' ∧ w'.cell? ⟨gp, 0, none⟩ = some (.int .i64 p) ∧ w'.cell? ⟨gp, 1, none⟩ = some (.int .i64 q) ∧ SlB w' (some ⟨bA, oA, none⟩) 2 c3 L' ∧ Below w.heap.size w w')) := weaker2 _
    refine Ut 0 55 12 0 0 (v := ?vr2_1) rfl hWr2 hH ?yr2_1 ?_
    case yr2_1 => (intro w' hSw; clear hSw; go_simp; try (with_reducible rfl))
    simp only [sB, sC]
    refine Ut 1 56 11 0 0 (v := ?vr2_2) rfl hWr2 hH ?yr2_2 ?_
    case yr2_2 => (intro w' hSw; replace hSw := S2o0 hSw; (try dsimp only at hSw); have q0 := hSw.1; have q1 := hSw.2.1; have q2 := hSw.2.2.1; have q3 := hSw.2.2.2.1; have q4 := hSw.2.2.2.2.1; have q5 := hSw.2.2.2.2.2; obtain ⟨qa1_0, qa1_1, qa1_2, qa1_3, qa1_4, qa1_5, qa1_6, qa1_7, qa1_8, qa1_9, qa1_10, qa1_11, qa1_12⟩ := cells_bd1 (q1) H1L.out HY.out; go_simp; try (with_reducible rfl))
    simp only [sB, sC]
    refine Ut 2 57 10 0 0 (v := ?vr2_3) rfl hWr2 hH ?yr2_3 ?_
    case yr2_3 => (intro w' hSw; clear hSw; go_simp; try (with_reducible rfl))
    simp only [sB, sC]
    refine Ut 3 58 9 0 0 (v := ?vr2_4) rfl hWr2 hH ?yr2_4 ?_
    case yr2_4 => (intro w' hSw; clear hSw; go_simp; try (with_reducible rfl))
    simp only [sB, sC]
    refine Ut 4 59 8 0 0 (v := ?vr2_5) rfl hWr2 hH ?yr2_5 ?_
    case yr2_5 => (intro w' hSw; clear hSw; go_simp; try (with_reducible rfl))
    simp only [sB, sC]
    refine Ut 5 60 7 0 0 (v := ?vr2_6) rfl hWr2 hH ?yr2_6 ?_
    case yr2_6 => (intro w' hSw; clear hSw; go_simp; try (with_reducible rfl))
    simp only [sB, sC]
    refine Ut 6 61 6 0 0 (v := ?vr2_7) rfl hWr2 hH ?yr2_7 ?_
    case yr2_7 => (intro w' hSw; replace hSw := S2o0 hSw; (try dsimp only at hSw); have q0 := hSw.1; have q1 := hSw.2.1; have q2 := hSw.2.2.1; have q3 := hSw.2.2.2.1; have q4 := hSw.2.2.2.2.1; have q5 := hSw.2.2.2.2.2; obtain ⟨qa1_0, qa1_1, qa1_2, qa1_3, qa1_4, qa1_5, qa1_6, qa1_7, qa1_8, qa1_9, qa1_10, qa1_11, qa1_12⟩ := cells_bd1 (q1) H1L.out HY.out; go_simp; try (with_reducible rfl))
    simp only [sB, sC]
    refine Ut 7 62 5 0 0 (v := ?vr2_8) rfl hWr2 hH ?yr2_8 ?_
    case yr2_8 => (intro w' hSw; replace hSw := S2o0 hSw; (try dsimp only at hSw); have q0 := hSw.1; have q1 := hSw.2.1; have q2 := hSw.2.2.1; have q3 := hSw.2.2.2.1; have q4 := hSw.2.2.2.2.1; have q5 := hSw.2.2.2.2.2; obtain ⟨qa1_0, qa1_1, qa1_2, qa1_3, qa1_4, qa1_5, qa1_6, qa1_7, qa1_8, qa1_9, qa1_10, qa1_11, qa1_12⟩ := cells_bd1 (q1) H1L.out HY.out; go_simp; try (with_reducible rfl))
    simp only [sB, sC]
    refine U1 8 0 rfl (fun K hK => ?_)
    try clear hb
    have hG := hH
    replace hG := S2o0 hG; (try dsimp only at hG); have fq0 := hG.1; have fq1 := hG.2.1; have fq2 := hG.2.2.1; have fq3 := hG.2.2.2.1; have fq4 := hG.2.2.2.2.1; have fq5 := hG.2.2.2.2.2
    go_simp
    (go_at_call 9; refine (HAT.out _ (fq4.co y (by rw [HY.out]; exact List.getElem_mem _))).mono ?_; rintro e wn ⟨rfl, hb⟩)
    refine hK.out _ _ (S2i0 (by have hG := hH; replace hG := S2o0 hG; (try dsimp only at hG); have q0 := hG.1; have q1 := hG.2.1; have q2 := hG.2.2.1; have q3 := hG.2.2.2.1; have q4 := hG.2.2.2.2.1; have q5 := hG.2.2.2.2.2; exact ⟨keepCell hb q0, CellsE.below hb q1, keepCell hb q2, keepCell hb q3, keepSlB hb q4, keepBelow hb q5⟩)) (fun hH2 => ?_)
    clear hK K hH
    rename _ => hH
    try simp only [Act.put, sA, sB, sC]
    clear hG fq0 fq1 fq2 fq3 fq4 fq5
    refine Ut 9 64 3 0 0 (v := ?vr2_10) rfl hWr2 hH ?yr2_10 ?_
    case yr2_10 => (intro w' hSw; clear hSw; go_simp; try (with_reducible rfl))
    simp only [sB, sC]
    refine Ut 10 65 2 0 0 (v := ?vr2_11) rfl hWr2 hH ?yr2_11 ?_
    case yr2_11 => (intro w' hSw; clear hSw; go_simp; try (with_reducible rfl))
    simp only [sB, sC]
    refine Ut 11 66 1 0 0 (v := ?vr2_12) rfl hWr2 hH ?yr2_12 ?_
    case yr2_12 => (intro w' hSw; clear hSw; go_simp; try (with_reducible rfl))
    simp only [sB, sC]
    refine Ut 12 6 0 0 0 (v := ?vr2_13) rfl hWr2 hH ?yr2_13 ?_
    case yr2_13 => (intro w' hSw; clear hSw; go_simp; try (with_reducible rfl))
    simp only [sB, sC]
    refine wpAnyU_done (by kernel_rfl) ?_ _ _
    refine NoPanic.normal ?_
    clear hWr2
    replace hH := S2o0 hH
    (try dsimp only at hH)
    have t0 := hH.1
    have t1 := hH.2.1
    have t2 := hH.2.2.1
    have t3 := hH.2.2.2.1
    have t4 := hH.2.2.2.2.1
    have t5 := hH.2.2.2.2.2
    go_wp2_with fail
    go_returns
    exact ret_bool (by simp [hYB]) (by first | exact t5 | exact t5.drew)
end
end Go.Proofs.Ytkiiehobphkmgaa
