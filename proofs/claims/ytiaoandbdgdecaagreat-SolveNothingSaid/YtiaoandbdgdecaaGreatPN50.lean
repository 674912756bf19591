/- The walk of SolveNothing. -/
import Derived.Test.YtiaoandbdgdecaaGreatPN28
import Derived.Test.YtiaoandbdgdecaaGreatPN43
import Derived.Test.YtiaoandbdgdecaaGreatPN47
import Derived.Test.YtiaoandbdgdecaaGreatPN48
import Derived.Test.YtiaoandbdgdecaaGreatPN49
import Derived.Test.YtiaoandbdgdecaaGreatPN44
import Derived.Test.YtiaoandbdgdecaaGreatPN03
namespace Go.Proofs.YtiaoandbdgdecaaGreat
section
set_option linter.unusedVariables false
set_option linter.unusedSimpArgs false
open Go.RowKit
theorem keepSlC {w w' : World} {A : Option Addr} {n c : Nat} {l : List Ct} (hb : Below w.heap.size w w') (h : SlE layC w A n c l) : SlE layC w' A n c l := h.below hb
theorem cf_ksameK (args : Array Value) (w : World) : (callFunc 28 args).run Tryz.prog w = .ok (.enter 28 args) w := by kernel_rfl
set_option maxRecDepth 100000 in
set_option maxHeartbeats 8000000 in
theorem solveNothing_walk (A : Option Addr) (n c : Nat) (r : List Int) (z : Int) (w : World) (hS : SlI w A n c r) : Calls Tryz.prog 6 #[.slice A n c, .int .i64 z] w (Ret (.bool true) w) := by
 have HSI := hid hS
 clear hS
 go_enter Tryz.func6, Tryz.ntmps6
 go_wp2_with fail
 refine (scene_calls A n c r _ HSI.out).mono ?_
 rintro e w1 ⟨sv, jv, L, J, gy, st, rfl, hok⟩
 obtain ⟨A1, n1, c1, rfl, hs1, -⟩ := hok.own.sl
 obtain ⟨A8, n8, c8, rfl, -, -⟩ := hok.jown.sl
 obtain rfl : n1 = L.length := hs1.len
 have HMD : Hid (∀ x ∈ L, MadeB x.b ∧ Made x.l) := fun x hx => (hok.co x hx).2
 have HV := hid (made_all HMD.out)
 have hln : L.length ≤ 5 := hok.len
 have HBE0 : Hid (bodiesE L = 0) := bodiesE_ok (by omega) HV.out
 have hst := hok.stb
 obtain ⟨C, hC⟩ : ∃ C, C = fndL L := ⟨_, rfl⟩
 have HFE : Hid (findE L [] = C) := by show _ = _; unfold findE; rw [if_pos HBE0.out, carL_nil _ (fnd_zero L), hC]
 have hCl : C.length ≤ 50 := by
  have h1 := fnd_len L
  have h2 := Nat.mul_le_mul hln hln
  rw [hC]; omega
 have HCZ : Hid (∀ c ∈ C, c.push = 0 ∧ c.sli = 0) := by rw [hC]; exact fnd_zero L
 have HCE : Hid (contactsE L C = 0) := contactsE_ok HBE0.out (by omega) (by rw [hC]; exact fnd_ok HMD.out)
 obtain ⟨gs, hgs⟩ : ∃ g, g = w1.heap.size := ⟨_, rfl⟩
 obtain ⟨W, hW⟩ : ∃ W, W = w1.alloc (.cells #[.slice A1 L.length c1, .slice A8 n8 c8, .slice none 0 0, .int .i64 0, .int .i64 gy, .int .i64 st] 29) := ⟨_, rfl⟩
 have hbW : Below w1.heap.size w1 W := by rw [hW]; go_grown
 have hB := keepBelow hbW hok.bel
 have HL := hid ((show SlB w1 A1 L.length c1 L from ⟨hs1, fun x hx => (hok.co x hx).1⟩).below hbW)
 have c0 : W.cell? ⟨gs, 0, none⟩ = some (.slice A1 L.length c1) := by rw [hW, hgs]; go_simp
 have c5 : W.cell? ⟨gs, 5, none⟩ = some (.int .i64 st) := by rw [hW, hgs]; go_simp
 clear hok hs1 hC hbW
 go_upto_region 2 with fail
 rw [← hW, ← hgs]
 clear hW hgs
 go_wp2_with fail
 refine (kfind_calls A1 none L.length c1 0 0 L [] _ HL.out (SlE.nil _ _)).mono ?_
 rintro e w3 ⟨A3, n3, c3, rfl, hs3, hb⟩
 rw [HFE.out] at hs3
 obtain rfl : n3 = C.length := hs3.len
 have HS3 := hid hs3
 replace HL := hid (HL.out.below hb)
 replace hB := keepBelow hb hB
 replace c0 := keepCell hb c0
 replace c5 := keepCell hb c5
 rw [HBE0.out]
 clear hb hs3
 have HBE := hid (tbelow_calls z 33 (by omega) (by omega))
 have hz33 : 0 ≤ z % 33 ∧ z % 33 ≤ 32 := by omega
 obtain ⟨hE1, hS1⟩ := srun_ok (r := 0) HCE.out (show 1 ≤ st ∧ st ≤ 65536 by omega) (by omega)
 rw [show (0 : Int).toNat = 0 from rfl, nothing_law HV.out HCZ.out] at hS1
 have HRUN := hid (srun_calls A1 A3 L.length c1 C.length c3 L C st 0 w3 HL.out HS3.out)
 rw [hE1, hS1] at HRUN
 have HCN : Hid (contactsE L [] = 0) := contactsE_ok HBE0.out (by simp) (by simp)
 obtain ⟨hE2, hS2⟩ := srun_ok (r := z % 33) HCN.out (show 1 ≤ st ∧ st ≤ 65536 by omega) hz33
 rw [solveQ_nil] at hS2
 have HRUN2 : Hid (∀ w', SlB w' A1 L.length c1 L → Calls Tryz.prog 25 #[.slice A1 L.length c1, .slice none 0 0, .int .i64 st, .int .i64 (z % 33)] w' (RetSolve 0 (L.map valB, []) w')) := fun w' h => by have := srun_calls A1 none L.length c1 0 0 L [] st (z % 33) w' h (SlE.nil _ _); rwa [hE2, hS2] at this
 generalize z % 33 = zz at *
 clear hE1 hS1 hE2 hS2 hz33 HCN
 go_wp2_with fail
 refine HRUN.out.mono ?_
 rintro e w9 ⟨A4, B4, n4, c4, m4, d4, L4, rfl, hs4, hd4, hm4, hb⟩
 have hd4 : SlE layC w9 B4 m4 d4 C := hd4
 have hm4 : L4.map valB = L.map valB := hm4
 have HS4 := hid hs4
 have HD4 := hid hd4
 have HM4 := hid hm4
 have HS39 := hid (HS3.out.below hb)
 have HL9 := hid (HL.out.below hb)
 have HBW := hid (keepBelow hb hB)
 have hc0 := keepCell hb c0
 have hc5 := keepCell hb c5
 have HC0 := hid hc0
 have HC5 := hid hc5
 clear hs4 hd4 hm4 hb HS3 HL hB c0 c5 HRUN
 go_upto_region 4 with fail
 refine wp_region_noPanic ?_
 refine wp_region_U (S := (S2 (fun w' => w'.cell? ⟨gs, 0, none⟩ = some (.slice A1 L.length c1) ∧ w'.cell? ⟨gs, 5, none⟩ = some (.int .i64 st) ∧ SlB w' A1 L.length c1 L ∧ Below w9.heap.size w9 w'))) (T := (fun _ => 0)) (by kernel_rfl) (S2i0 ⟨HC0.out, HC5.out, HL9.out.below (Below.refl _ _).drew, (Below.refl _ _).drew⟩) (fun hH => ?_)
 have hWr5 : Weaker (S2 (fun w' => w'.cell? ⟨gs, 0, none⟩ = some (.slice A1 L.length c1) ∧ w'.cell? ⟨gs, 5, none⟩ = some (.int .i64 st) ∧ SlB w' A1 L.length c1 L ∧ Below w9.heap.size w9 w')) := weaker2 _
 refine Utn [(0, 33), (1, 34), (2, 35), (3, 36), (4, 37)] 9 0 0 (L' := ?Lr5_1) hWr5 hH ?hyr5_1 ?_
 case hyr5_1 => ((iterate 5 apply tkC; rfl; kernel_rfl; intro w' hSw; replace hSw := S2o0 hSw; (try dsimp only at hSw); have q0 := hSw.1; have q1 := hSw.2.1; have q2 := hSw.2.2.1; have q3 := hSw.2.2.2; (try simp only [sB, sC]); go_simp; (try with_reducible rfl)); exact tkN)
 simp only [sB, sC]
 refine U1 5 0 rfl (fun K hK => ?_)
 try clear hb
 go_simp
 (go_at_call 12; refine (HBE.out _).mono ?_; rintro e wn ⟨rfl, hb⟩)
 refine hK.out _ _ ?hsr5_6 (fun hH2 => ?hrr5_6)
 case hsr5_6 => exact S2i0 (by have hG := hH; replace hG := S2o0 hG; (try dsimp only at hG); have q0 := hG.1; have q1 := hG.2.1; have q2 := hG.2.2.1; have q3 := hG.2.2.2; exact ⟨keepCell hb q0, keepCell hb q1, keepSlB hb q2, keepBelow hb q3⟩)
 clear hK K hH
 have hH := hH2
 clear hH2
 try simp only [Act.put, sA, sB, sC]
 refine U1 6 0 rfl (fun K hK => ?_)
 try clear hb
 have hG := hH
 replace hG := S2o0 hG; (try dsimp only at hG); have fq0 := hG.1; have fq1 := hG.2.1; have fq2 := hG.2.2.1; have fq3 := hG.2.2.2
 go_simp
 (go_at_call 25; refine (HRUN2.out _ fq2).mono ?_; rintro e wl ⟨A6, B6, n6, c6, m6, d6, L6, rfl, hs6, -, hm6, hb⟩)
 refine hK.out _ _ ?hsr5_7 (fun hH2 => ?hrr5_7)
 case hsr5_7 => exact S2i0 (by have hG := hH; replace hG := S2o0 hG; (try dsimp only at hG); have q0 := hG.1; have q1 := hG.2.1; have q2 := hG.2.2.1; have q3 := hG.2.2.2; exact ⟨keepCell hb q0, keepCell hb q1, keepSlB hb q2, keepBelow hb q3⟩)
 clear hK K hH
 have hH := hH2
 clear hH2
 try simp only [Act.put, sA, sB, sC]
 clear hG fq0 fq1 fq2 fq3
 refine Utn [(7, 32), (8, 40), (9, 41), (10, 42), (11, 11), (12, 12), (13, 13)] 0 0 0 (L' := ?Lr5_8) hWr5 hH ?hyr5_8 ?_
 case hyr5_8 => ((iterate 7 apply tkC; rfl; kernel_rfl; intro w' hSw; clear hSw; (try simp only [sB, sC]); go_simp; (try with_reducible rfl)); exact tkN)
 simp only [sB, sC]
 refine wpAnyU_done (by kernel_rfl) ?_ _ _
 refine NoPanic.normal ?_
 clear hWr5
 replace hH := S2o0 hH
 (try dsimp only at hH)
 have t0 := hH.1
 have t1 := hH.2.1
 have t2 := hH.2.2.1
 have t3 := hH.2.2.2
 have HB6 := hid t3
 have HC06 := hid t0
 have HL6 := hid t2
 have HS6 := hid hs6
 have hm6 : L6.map valB = L.map valB := hm6
 have HM6 := hid hm6
 replace HS4 := hid (HS4.out.below t3)
 replace HD4 := hid (HD4.out.below t3)
 replace HS39 := hid (HS39.out.below t3)
 have hB6 := keepBelow t3 HBW.out
 clear t0 t1 t2 t3 hs6 hm6 hc0 hc5 HC0 HC5 HL9 HBW HBE HRUN2 HB6
 go_wp2_with fail
 refine (solves_calls _).mono ?_
 rintro e w11 ⟨rfl, hb⟩
 replace HS4 := hid (HS4.out.below hb)
 replace HD4 := hid (HD4.out.below hb)
 replace HS39 := hid (HS39.out.below hb)
 replace HS6 := hid (HS6.out.below hb)
 replace HL6 := hid (HL6.out.below hb)
 have c06 := keepCell hb HC06.out
 replace hB6 := keepBelow hb hB6
 have HEQ := hid (equalFuncB_calls 28 cf_ksameK same_calls A4 A1 n4 c4 L.length c1 L4 L w11 HS4.out HL6.out HM4.out)
 clear hb HC06
 go_wp2_with fail
 refine HEQ.out.mono ?_
 rintro e w12 ⟨rfl, hb⟩
 replace HD4 := hid (HD4.out.below hb)
 replace HS39 := hid (HS39.out.below hb)
 replace HS6 := hid (HS6.out.below hb)
 replace HL6 := hid (HL6.out.below hb)
 replace c06 := keepCell hb c06
 replace hB6 := keepBelow hb hB6
 have HEQ2 := hid (equalFuncB_calls 28 cf_ksameK same_calls A6 A1 n6 c6 L.length c1 L6 L w12 HS6.out HL6.out HM6.out)
 clear hb HEQ HS4
 go_wp2_with fail
 refine HEQ2.out.mono ?_
 rintro e w13 ⟨rfl, hb⟩
 replace HD4 := hid (HD4.out.below hb)
 replace HS39 := hid (HS39.out.below hb)
 replace hB6 := keepBelow hb hB6
 have HEQ3 := hid (equalCt_calls A3 B4 C.length c3 m4 d4 C w13 HS39.out HD4.out)
 clear hb HEQ2 HS6 HL6 c06
 go_wp2_with fail
 refine HEQ3.out.mono ?_
 rintro e w14 ⟨rfl, hb⟩
 replace hB6 := keepBelow hb hB6
 clear hb HEQ3
 go_wp2
 go_returns
 exact ret_bool (by simp) hB6
end
end Go.Proofs.YtiaoandbdgdecaaGreat
