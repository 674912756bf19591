/- The walk of SolveSmooth. -/
import Derived.Test.YtiaoandbdgdecaaGreatPN28
import Derived.Test.YtiaoandbdgdecaaGreatPN43
import Derived.Test.YtiaoandbdgdecaaGreatPN47
import Derived.Test.YtiaoandbdgdecaaGreatPN48
import Derived.Test.YtiaoandbdgdecaaGreatPN03
namespace Go.Proofs.YtiaoandbdgdecaaGreat
section
set_option linter.unusedVariables false
set_option linter.unusedSimpArgs false
open Go.RowKit
theorem keepSlC2 {w w' : World} {A : Option Addr} {n c : Nat} {l : List Ct} (hb : Below w.heap.size w w') (h : SlE layC w A n c l) : SlE layC w' A n c l := h.below hb
set_option maxRecDepth 100000 in
set_option maxHeartbeats 8000000 in
theorem solveSmooth_walk (A : Option Addr) (n c : Nat) (r : List Int) (z : Int) (w : World) (hS : SlI w A n c r) : Calls Tryz.prog 5 #[.slice A n c, .int .i64 z] w (Ret (.bool true) w) := by
 have HSI := hid hS
 clear hS
 go_enter Tryz.func5, Tryz.ntmps5
 go_wp2_with fail
 refine (scene_calls A n c r _ HSI.out).mono ?_
 rintro e w1 ⟨sv, jv, L, J, gy, st, rfl, hok⟩
 obtain ⟨A1, n1, c1, rfl, hs1, -⟩ := hok.own.sl
 obtain ⟨A8, n8, c8, rfl, -, -⟩ := hok.jown.sl
 obtain rfl : n1 = L.length := hs1.len
 have HMD : Hid (∀ x ∈ L, MadeB x.b ∧ Made x.l) := fun x hx => (hok.co x hx).2
 have HV := hid (made_all HMD.out)
 have hln : L.length ≤ 5 := hok.len
 have HBE0 : Hid (bodiesE L = 0) := bodiesE_ok (by omega) HV.out
 have hst := hok.stb
 obtain ⟨C, hC⟩ : ∃ C, C = fndL L := ⟨_, rfl⟩
 have HFE : Hid (findE L [] = C) := by show _ = _; unfold findE; rw [if_pos HBE0.out, carL_nil _ (fnd_zero L), hC]
 have hCl : C.length ≤ 50 := by
  have h1 := fnd_len L
  have h2 := Nat.mul_le_mul hln hln
  rw [hC]; omega
 have HCZ : Hid (∀ c ∈ C, c.push = 0 ∧ c.sli = 0) := by rw [hC]; exact fnd_zero L
 have HCE : Hid (contactsE L C = 0) := contactsE_ok HBE0.out (by omega) (by rw [hC]; exact fnd_ok HMD.out)
 obtain ⟨gs, hgs⟩ : ∃ g, g = w1.heap.size := ⟨_, rfl⟩
 obtain ⟨W, hW⟩ : ∃ W, W = w1.alloc (.cells #[.slice A1 L.length c1, .slice A8 n8 c8, .slice none 0 0, .int .i64 0, .int .i64 gy, .int .i64 st] 29) := ⟨_, rfl⟩
 have hbW : Below w1.heap.size w1 W := by rw [hW]; go_grown
 have hB := keepBelow hbW hok.bel
 have HL := hid ((show SlB w1 A1 L.length c1 L from ⟨hs1, fun x hx => (hok.co x hx).1⟩).below hbW)
 have c0 : W.cell? ⟨gs, 0, none⟩ = some (.slice A1 L.length c1) := by rw [hW, hgs]; go_simp
 have c5 : W.cell? ⟨gs, 5, none⟩ = some (.int .i64 st) := by rw [hW, hgs]; go_simp
 clear hok hs1 hC hbW
 go_upto_region 2 with fail
 rw [← hW, ← hgs]
 clear hW hgs
 go_wp2_with fail
 refine (kfind_calls A1 none L.length c1 0 0 L [] _ HL.out (SlE.nil _ _)).mono ?_
 rintro e w3 ⟨A3, n3, c3, rfl, hs3, hb⟩
 rw [HFE.out] at hs3
 obtain rfl : n3 = C.length := hs3.len
 have HS3 := hid hs3
 replace HL := hid (HL.out.below hb)
 replace hB := keepBelow hb hB
 replace c0 := keepCell hb c0
 replace c5 := keepCell hb c5
 rw [HBE0.out]
 clear hb hs3
 have HBE := hid (tbelow_calls z 33 (by omega) (by omega))
 have hz33 : 0 ≤ z % 33 ∧ z % 33 ≤ 32 := by omega
 obtain ⟨hE1, hS1⟩ := srun_ok (r := z % 33) HCE.out (show 1 ≤ st ∧ st ≤ 65536 by omega) hz33
 obtain ⟨D, hD⟩ : ∃ D, D = (solveQ (L.map valB) C st (z % 33).toNat).2 := ⟨_, rfl⟩
 obtain ⟨hlen, hlaw⟩ := smooth_law HCE.out HCZ.out st (z % 33).toNat
 rw [← hD] at hlen hlaw
 have HLAW := hid hlaw
 have HDL := hid hlen
 have HRUN : Hid (∀ w', SlB w' A1 L.length c1 L → SlE layC w' A3 C.length c3 C → Calls Tryz.prog 25 #[.slice A1 L.length c1, .slice A3 C.length c3, .int .i64 st, .int .i64 (z % 33)] w' (fun e w2 => ∃ (A B : Option Addr) (n c m d : Nat) (L' : List BE), e = .returned (.tuple #[.slice A n c, .slice B m d, .int .i64 0]) ∧ SlB w2 A n c L' ∧ SlE layC w2 B m d D ∧ True ∧ Below w'.heap.size w' w2)) := fun w' h h2 => by
  have := srun_calls A1 A3 L.length c1 C.length c3 L C st (z % 33) w' h h2
  rw [hE1, hS1] at this
  refine this.mono fun e w2 h => ?_
  obtain ⟨A, B, n, c, m, d, L', rfl, h1, h2, -, h3⟩ := h
  exact ⟨A, B, n, c, m, d, L', rfl, h1, by rw [hD]; exact h2, trivial, h3⟩
 generalize z % 33 = zz at *
 have HL9 := HL
 have HC0 := hid c0
 have HC5 := hid c5
 have HB3 := hid hB
 have HHS3 := HS3
 clear hE1 hS1 hD hlen hlaw hz33 HL hB
 obtain ⟨w9, hw9⟩ : ∃ w9, w9 = w3 := ⟨_, rfl⟩
 rw [← hw9] at HL9 HC0 HC5 HB3 HS3 HHS3 c0 c5 ⊢
 clear hw9
 go_upto_region 3 with fail
 refine wp_region_noPanic ?_
 refine wp_region_U (S := (S2 (fun w' => w'.cell? ⟨gs, 0, none⟩ = some (.slice A1 L.length c1) ∧ w'.cell? ⟨gs, 5, none⟩ = some (.int .i64 st) ∧ SlB w' A1 L.length c1 L ∧ SlE layC w' A3 C.length c3 C ∧ Below w9.heap.size w9 w'))) (T := (fun _ => 0)) (by kernel_rfl) (S2i0 ⟨HC0.out, HC5.out, HL9.out.below (Below.refl _ _).drew, HS3.out.below (Below.refl _ _).drew, (Below.refl _ _).drew⟩) (fun hH => ?_)
 have hWr6 : Weaker (S2 (fun w' => w'.cell? ⟨gs, 0, none⟩ = some (.slice A1 L.length c1) ∧ w'.cell? ⟨gs, 5, none⟩ = some (.int .i64 st) ∧ SlB w' A1 L.length c1 L ∧ SlE layC w' A3 C.length c3 C ∧ Below w9.heap.size w9 w')) := weaker2 _
 refine Utn [(0, 22), (1, 23), (2, 24), (3, 25), (4, 26), (5, 27)] 9 0 0 (L' := ?Lr6_1) hWr6 hH ?hyr6_1 ?_
 case hyr6_1 => ((iterate 6 apply tkC; rfl; kernel_rfl; intro w' hSw; replace hSw := S2o0 hSw; (try dsimp only at hSw); have q0 := hSw.1; have q1 := hSw.2.1; have q2 := hSw.2.2.1; have q3 := hSw.2.2.2.1; have q4 := hSw.2.2.2.2; (try simp only [sB, sC]); go_simp; (try with_reducible rfl)); exact tkN)
 simp only [sB, sC]
 refine U1 6 0 rfl (fun K hK => ?_)
 try clear hb
 go_simp
 (go_at_call 12; refine (HBE.out _).mono ?_; rintro e wn ⟨rfl, hb⟩)
 refine hK.out _ _ ?hsr6_7 (fun hH2 => ?hrr6_7)
 case hsr6_7 => exact S2i0 (by have hG := hH; replace hG := S2o0 hG; (try dsimp only at hG); have q0 := hG.1; have q1 := hG.2.1; have q2 := hG.2.2.1; have q3 := hG.2.2.2.1; have q4 := hG.2.2.2.2; exact ⟨keepCell hb q0, keepCell hb q1, keepSlB hb q2, keepSlC2 hb q3, keepBelow hb q4⟩)
 clear hK K hH
 have hH := hH2
 clear hH2
 try simp only [Act.put, sA, sB, sC]
 refine U1 7 0 rfl (fun K hK => ?_)
 try clear hb
 have hG := hH
 replace hG := S2o0 hG; (try dsimp only at hG); have fq0 := hG.1; have fq1 := hG.2.1; have fq2 := hG.2.2.1; have fq3 := hG.2.2.2.1; have fq4 := hG.2.2.2.2
 go_simp
 (go_at_call 25; refine (HRUN.out _ fq2 fq3).mono ?_; rintro e wl ⟨A6, B6, n6, c6, m6, d6, L6, rfl, -, hd6, -, hb⟩)
 refine hK.out _ _ ?hsr6_8 (fun hH2 => ?hrr6_8)
 case hsr6_8 => exact S2i0 (by have hG := hH; replace hG := S2o0 hG; (try dsimp only at hG); have q0 := hG.1; have q1 := hG.2.1; have q2 := hG.2.2.1; have q3 := hG.2.2.2.1; have q4 := hG.2.2.2.2; exact ⟨keepCell hb q0, keepCell hb q1, keepSlB hb q2, keepSlC2 hb q3, keepBelow hb q4⟩)
 clear hK K hH
 have hH := hH2
 clear hH2
 try simp only [Act.put, sA, sB, sC]
 clear hG fq0 fq1 fq2 fq3 fq4
 refine Utn [(8, 21), (9, 30), (10, 31), (11, 32), (12, 8), (13, 9), (14, 10)] 0 0 0 (L' := ?Lr6_9) hWr6 hH ?hyr6_9 ?_
 case hyr6_9 => ((iterate 7 apply tkC; rfl; kernel_rfl; intro w' hSw; clear hSw; (try simp only [sB, sC]); go_simp; (try with_reducible rfl)); exact tkN)
 simp only [sB, sC]
 refine wpAnyU_done (by kernel_rfl) ?_ _ _
 refine NoPanic.normal ?_
 clear hWr6
 replace hH := S2o0 hH
 (try dsimp only at hH)
 have t0 := hH.1
 have t1 := hH.2.1
 have t2 := hH.2.2.1
 have t3 := hH.2.2.2.1
 have t4 := hH.2.2.2.2
 have HC06 := hid t0
 have HL6 := hid t2
 have HD6 := hid hd6
 have hB6 := keepBelow t4 HB3.out
 clear t0 t1 t2 t3 t4 hd6 c0 c5 HC0 HC5 HL9 HB3 HBE HRUN HS3 HHS3
 go_wp2_with fail
 refine (solves_calls _).mono ?_
 rintro e w11 ⟨rfl, hb⟩
 replace HD6 := hid (HD6.out.below hb)
 replace HL6 := hid (HL6.out.below hb)
 replace HC06 := hid (keepCell hb HC06.out)
 replace hB6 := keepBelow hb hB6
 have hm6 := HD6.out.len
 rw [HDL.out] at hm6
 subst hm6
 have hcc := HD6.out.cap
 have hcb := HD6.out.big
 clear hb
 go_wp2
 go_loopw [48] (fun i wr => ∃ k : Nat, k ≤ C.length ∧ i = .int .i64 k ∧ Below w11.heap.size w11 wr) (fun i _ => C.length - (intOf i).toNat)
 case atStart => exact ⟨0, Nat.zero_le _, rfl, Below.refl _ _⟩
 case round =>
  obtain ⟨t, ht, rfl, hbr⟩ := hrel
  obtain ⟨wo, rfl⟩ : ∃ wo : World, wo = wr := ⟨_, rfl⟩
  by_cases hlt : t < C.length
  ·have htD : t < D.length := by rw [HDL.out]; exact hlt
   obtain ⟨x, hx⟩ : ∃ x, x = D[t] := ⟨_, rfl⟩
   obtain ⟨hok, hrub⟩ := HLAW.out x (by rw [hx]; exact List.getElem_mem htD)
   obtain ⟨⟨ha0, hab, hbn, -⟩, -, -, -, ⟨hp0, -⟩, -⟩ := hok
   obtain ⟨i, hi⟩ : ∃ i : Nat, x.a = i := ⟨x.a.toNat, by omega⟩
   obtain ⟨k, hk⟩ : ∃ k : Nat, x.b = k := ⟨x.b.toNat, by omega⟩
   have HIA := hid hi
   have HKB := hid hk
   have hiL : i < L.length := by omega
   have hkL : k < L.length := by omega
   have hik : (i : Int) < (k : Int) := by omega
   clear hi hk
   obtain ⟨bD, oD, hA, hCD⟩ := (HD6.out.below hbr).at_ (by intro h; rw [h] at htD; simp at htD)
   subst hA
   obtain ⟨d0, d1, d2, d3, d4, d5, d6, d7, d8, d9⟩ := cells_ct hCD htD hx
   have hbl := hCD.lt
   have hlt' : (t : Int) < (C.length : Int) := by omega
   have htw : IntKind.i64.wrap ((t : Int) + 1) = (t : Int) + 1 := IntWalk.i64_in _ (by omega)
   obtain ⟨y, hy⟩ : ∃ y, y = L[i] := ⟨_, rfl⟩
   obtain ⟨v, hv⟩ : ∃ v, v = L[k] := ⟨_, rfl⟩
   have HX := hid hy
   have HY := hid hv
   have HRB : Hid (min y.b.rub v.b.rub = 0 → x.sli = 0) := fun h => hrub i k hiL hkL HIA.out HKB.out (by rw [← hy, ← hv]; exact h)
   obtain ⟨gx, hgx⟩ : ∃ g, g = wo.heap.size := ⟨_, rfl⟩
   obtain ⟨wj, hwj⟩ : ∃ w', w' = wo.alloc (.cells #[.int .i64 x.a, .int .i64 x.b, .int .i64 x.id, .int .i64 x.px, .int .i64 x.py, .int .i64 x.nx, .int .i64 x.ny, .int .i64 x.dep, .int .i64 x.push, .int .i64 x.sli] 40) := ⟨_, rfl⟩
   have hbw : Below wo.heap.size wo wj := by rw [hwj]; go_grown
   have HKX : Hid (Kg wj gx x) := by rw [hwj, hgx]; exact ⟨by go_simp, by go_simp, by go_simp, by go_simp, by go_simp, by go_simp, by go_simp, by go_simp, by go_simp, by go_simp⟩
   have hbj := keepBelow hbw hbr
   have HBJ := hid hbj
   obtain ⟨bL, oL, hA1, hCLj⟩ := (HL6.out.below hbj).sl.at_ (by intro h; rw [h] at hiL; simp at hiL)
   subst hA1
   have HCL := hid hCLj
   have hj0 := keepCell hbj HC06.out
   have HC0J := hid hj0
   obtain ⟨mr, hmr⟩ : ∃ m, m = min y.b.rub v.b.rub := ⟨_, rfl⟩
   rw [← hmr] at HRB
   have hrm : ∀ (ts : Array TypeId) (t : TypeId) (w : World), (Builtin.min_ ts t #[.int .i64 y.b.rub, .int .i64 v.b.rub]).run Tryz.prog w = .ok (.int .i64 mr) w := fun ts t w => by
    rw [run_min_int2, hmr]
    congr 2
    omega
   have n1 : ¬ x.push < 0 := by omega
   have n2 : ¬ (i : Int) < 0 := by omega
   have n3 : ¬ (i : Int) ≥ (k : Int) := by omega
   have n4 : ¬ (k : Int) ≥ (L.length : Int) := by omega
   have hi' : (i : Int) < (L.length : Int) := by omega
   have hk' : (k : Int) < (L.length : Int) := by omega
   have hi := hiL
   have hk := hkL
   have x0 : wj.cell? ⟨gx, 0, none⟩ = some (.int .i64 (i : Nat)) := by rw [← HIA.out]; exact HKX.out.c0
   have x1 : wj.cell? ⟨gx, 1, none⟩ = some (.int .i64 (k : Nat)) := by rw [← HKB.out]; exact HKX.out.c1
   have x8 := HKX.out.c8
   have x9 := HKX.out.c9
   clear hCD hx hbw hbr hCLj hrub hy hv hmr ha0 hab hbn hp0 hbj
   go_upto_region 9 with fail
   rw [← hwj, ← hgx]
   clear hwj hgx d0 d1 d2 d3 d4 d5 d6 d7 d8 d9 hbl HKX
   by_cases hm0 : mr = 0
   ·have hsl : (x.sli != 0) = false := by simp [HRB.out hm0]
    have hmb : (mr == 0) = true := by simp [hm0]
    clear hm0 HRB
    refine wp_region_noPanic ?_
    refine wp_region_U (S := (S2 (fun w' => w'.cell? ⟨gx, 0, none⟩ = some (.int .i64 (i : Nat)) ∧ w'.cell? ⟨gx, 1, none⟩ = some (.int .i64 (k : Nat)) ∧ w'.cell? ⟨gx, 8, none⟩ = some (.int .i64 x.push) ∧ w'.cell? ⟨gx, 9, none⟩ = some (.int .i64 x.sli) ∧ w'.cell? ⟨gs, 0, none⟩ = some (.slice (some ⟨bL, oL, none⟩) L.length c1) ∧ CellsE layB w' bL oL L ∧ Below wj.heap.size wj w'))) (T := (fun _ => 0)) (by kernel_rfl) (S2i0 ⟨x0, x1, x8, x9, HC0J.out, CellsE.below (Below.refl _ _).drew HCL.out, (Below.refl _ _).drew⟩) (fun hH => ?_)
    have hWr9 : Weaker (S2 (fun w' => w'.cell? ⟨gx, 0, none⟩ = some (.int .i64 (i : Nat)) ∧ w'.cell? ⟨gx, 1, none⟩ = some (.int .i64 (k : Nat)) ∧ w'.cell? ⟨gx, 8, none⟩ = some (.int .i64 x.push) ∧ w'.cell? ⟨gx, 9, none⟩ = some (.int .i64 x.sli) ∧ w'.cell? ⟨gs, 0, none⟩ = some (.slice (some ⟨bL, oL, none⟩) L.length c1) ∧ CellsE layB w' bL oL L ∧ Below wj.heap.size wj w')) := weaker2 _
    refine Utn [(0, 52), (1, 53), (2, 54), (3, 55), (4, 56), (5, 57), (6, 58), (7, 59), (8, 60), (9, 61), (10, 62), (11, 63), (12, 64), (13, 65), (14, 66), (15, 67), (16, 68), (17, 69), (18, 70), (19, 71), (20, 72), (21, 73), (22, 74), (23, 75), (24, 76), (25, 77), (26, 78), (27, 79), (28, 80), (29, 81), (30, 82), (31, 83), (32, 84), (33, 85), (34, 86), (35, 87), (36, 88), (37, 89), (38, 90), (39, 91), (40, 92), (41, 93), (42, 94), (43, 95), (44, 96), (45, 97)] 0 0 0 (L' := ?Lr9_1) hWr9 hH ?hyr9_1 ?_
    case hyr9_1 => ((iterate 46 apply tkC; rfl; kernel_rfl; intro w' hSw; replace hSw := S2o0 hSw; (try dsimp only at hSw); have q0 := hSw.1; have q1 := hSw.2.1; have q2 := hSw.2.2.1; have q3 := hSw.2.2.2.1; have q4 := hSw.2.2.2.2.1; have q5 := hSw.2.2.2.2.2.1; have q6 := hSw.2.2.2.2.2.2; obtain ⟨qa5_0, qa5_1, qa5_2, qa5_3, qa5_4, qa5_5, qa5_6, qa5_7, qa5_8, qa5_9, qa5_10, qa5_11, qa5_12⟩ := cells_bd (q5) hi HX.out; obtain ⟨bb5_0, bb5_1, bb5_2, bb5_3, bb5_4, bb5_5, bb5_6, bb5_7, bb5_8, bb5_9, bb5_10, bb5_11, bb5_12⟩ := cells_bd (q5) hk HY.out; (try simp only [sB, sC]); go_simp; (try with_reducible rfl)); exact tkN)
    simp only [sB, sC]
    refine wpAnyU_done (by kernel_rfl) ?_ _ _
    refine NoPanic.normal ?_
    clear hWr9
    replace hH := S2o0 hH
    (try dsimp only at hH)
    have t0 := hH.1
    have t1 := hH.2.1
    have t2 := hH.2.2.1
    have t3 := hH.2.2.2.1
    have t4 := hH.2.2.2.2.1
    have t5 := hH.2.2.2.2.2.1
    have t6 := hH.2.2.2.2.2.2
    have HBE := hid (keepBelow t6 HBJ.out)
    clear t0 t1 t2 t3 t4 t5 t6 x0 x1 x8 x9 HCL HC0J HBJ
    go_wp2
    go_roundw
    case rel => exact ⟨t + 1, hlt, by go_num, HBE.out⟩
    case measure => simp [intOf]; omega
   ·have hmb : (mr == 0) = false := by simp [hm0]
    clear hm0 HRB
    refine wp_region_noPanic ?_
    refine wp_region_U (S := (S2 (fun w' => w'.cell? ⟨gx, 0, none⟩ = some (.int .i64 (i : Nat)) ∧ w'.cell? ⟨gx, 1, none⟩ = some (.int .i64 (k : Nat)) ∧ w'.cell? ⟨gx, 8, none⟩ = some (.int .i64 x.push) ∧ w'.cell? ⟨gx, 9, none⟩ = some (.int .i64 x.sli) ∧ w'.cell? ⟨gs, 0, none⟩ = some (.slice (some ⟨bL, oL, none⟩) L.length c1) ∧ CellsE layB w' bL oL L ∧ Below wj.heap.size wj w'))) (T := (fun _ => 0)) (by kernel_rfl) (S2i0 ⟨x0, x1, x8, x9, HC0J.out, CellsE.below (Below.refl _ _).drew HCL.out, (Below.refl _ _).drew⟩) (fun hH => ?_)
    have hWr10 : Weaker (S2 (fun w' => w'.cell? ⟨gx, 0, none⟩ = some (.int .i64 (i : Nat)) ∧ w'.cell? ⟨gx, 1, none⟩ = some (.int .i64 (k : Nat)) ∧ w'.cell? ⟨gx, 8, none⟩ = some (.int .i64 x.push) ∧ w'.cell? ⟨gx, 9, none⟩ = some (.int .i64 x.sli) ∧ w'.cell? ⟨gs, 0, none⟩ = some (.slice (some ⟨bL, oL, none⟩) L.length c1) ∧ CellsE layB w' bL oL L ∧ Below wj.heap.size wj w')) := weaker2 _
    refine Utn [(0, 52), (1, 53), (2, 54), (3, 55), (4, 56), (5, 57), (6, 58), (7, 59), (8, 60), (9, 61), (10, 62), (11, 63), (12, 64), (13, 65), (14, 66), (15, 67), (16, 68), (17, 69), (18, 70), (19, 71), (20, 72), (21, 73), (22, 74), (23, 75), (24, 76), (25, 77), (26, 78), (27, 79), (28, 80), (29, 81), (30, 82), (31, 83), (32, 84), (33, 85), (34, 86), (35, 87), (36, 88), (37, 89), (38, 90), (39, 91), (40, 92)] 5 0 0 (L' := ?Lr10_1) hWr10 hH ?hyr10_1 ?_
    case hyr10_1 => ((iterate 41 apply tkC; rfl; kernel_rfl; intro w' hSw; replace hSw := S2o0 hSw; (try dsimp only at hSw); have q0 := hSw.1; have q1 := hSw.2.1; have q2 := hSw.2.2.1; have q3 := hSw.2.2.2.1; have q4 := hSw.2.2.2.2.1; have q5 := hSw.2.2.2.2.2.1; have q6 := hSw.2.2.2.2.2.2; obtain ⟨qa5_0, qa5_1, qa5_2, qa5_3, qa5_4, qa5_5, qa5_6, qa5_7, qa5_8, qa5_9, qa5_10, qa5_11, qa5_12⟩ := cells_bd (q5) hi HX.out; obtain ⟨bb5_0, bb5_1, bb5_2, bb5_3, bb5_4, bb5_5, bb5_6, bb5_7, bb5_8, bb5_9, bb5_10, bb5_11, bb5_12⟩ := cells_bd (q5) hk HY.out; (try simp only [sB, sC]); go_simp; (try with_reducible rfl)); exact tkN)
    simp only [sB, sC]
    refine U_skips (by kernel_rfl) (fun _ _ _ _ h => h) hWr10 0 0 (by omega) hH [(41, 93), (42, 94), (43, 95)] 2 _ _ _ (by kernel_rfl) (by kernel_rfl) ?_
    simp only [tsetUndef, List.set_cons_zero, List.set_cons_succ]
    refine Utn [(44, 96), (45, 97)] 0 0 0 (L' := ?Lr10_42) hWr10 hH ?hyr10_42 ?_
    case hyr10_42 => ((iterate 2 apply tkC; rfl; kernel_rfl; intro w' hSw; clear hSw; (try simp only [sB, sC]); go_simp; (try with_reducible rfl)); exact tkN)
    simp only [sB, sC]
    refine wpAnyU_done (by kernel_rfl) ?_ _ _
    refine NoPanic.normal ?_
    clear hWr10
    replace hH := S2o0 hH
    (try dsimp only at hH)
    have t0 := hH.1
    have t1 := hH.2.1
    have t2 := hH.2.2.1
    have t3 := hH.2.2.2.1
    have t4 := hH.2.2.2.2.1
    have t5 := hH.2.2.2.2.2.1
    have t6 := hH.2.2.2.2.2.2
    have HBE := hid (keepBelow t6 HBJ.out)
    clear t0 t1 t2 t3 t4 t5 t6 x0 x1 x8 x9 HCL HC0J HBJ
    go_wp2
    go_roundw
    case rel => exact ⟨t + 1, hlt, by go_num, HBE.out⟩
    case measure => simp [intOf]; omega
  ·have htn : t = C.length := by omega
   subst htn
   have hBE := keepBelow hbr hB6
   clear hbr
   go_wp2
   go_returns
   exact ret_bool rfl hBE
end
end Go.Proofs.YtiaoandbdgdecaaGreat
