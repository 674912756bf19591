/- Parts of a proof: contracts and laws. -/
import Derived.Test.YtilncglnojjlaaaGreatG32
import Derived.Test.YtilncglnojjlaaaGreatG44
import Derived.Test.YtilncglnojjlaaaGreatG46
import Derived.Test.YtilncglnojjlaaaGreatG04
import Derived.Test.YtilncglnojjlaaaGreatG27
import Derived.Test.YtilncglnojjlaaaGreatG03
import Derived.BigQuiet
import Derived.BigRegion
import Derived.Deep.DeepCutAuto
namespace Go.Proofs.YtilncglnojjlaaaGreat
section
set_option linter.unusedVariables false
set_option linter.unusedSimpArgs false
open Go.RowKit
theorem run_dep (b : Bool) (e d : Int) (w : World) : (Instr.field 57 (.agg #[.bool b, .int .i64 e, .int .i64 d]) 2).run Tryz.prog w = .ok (.int .i64 d) w := by kernel_rfl
theorem cf_sink (args : Array Value) (w : World) : (callFunc 32 args).run Tryz.prog w = .ok (.enter 32 args) w := by kernel_rfl
theorem dpZ_none {l m : List V} (h : meetsB l m = false) : tstD l m = 0 := by unfold tstD leastO; rw [h, if_neg (by simp)]; rfl
set_option maxRecDepth 100000 in
set_option maxHeartbeats 8000000 in
theorem rsink1_calls (ga gs gb : Nat) (a b : Bd) (A B : Option Addr) (n c m d : Nat) (l l2 : List V) (s t : Int) (w : World) (hKA : BdAt w ga a A n c) (hKB : BdAt w gb b B m d) (hKS : Hold1 w gs s) (hS : Sl w A n c l) (hM : Sl w B m d l2) (hea : bodyE a l = 0) (heb : bodyE b l2 = 0) (hs0 : 0 ≤ s ∧ s ≤ 65536) (ht : 0 ≤ t ∧ t ≤ 65536) :
  Calls Tryz.prog 32 #[.int .i64 t, .pointer (some ⟨ga, 0, none⟩), .pointer (some ⟨gs, 0, none⟩), .pointer (some ⟨gb, 0, none⟩)] w (Ret (.int .i64 (dpZ a l b l2 s t)) w) := by
 have HKA := hid hKA
 have HKB := hid hKB
 have HKS := hid hKS
 have na := numE_zero (bodyE_zero hea).2
 have nb := numE_zero (bodyE_zero heb).2
 obtain ⟨z, hz⟩ : ∃ z, z = mulF s t := ⟨_, rfl⟩
 have hp := mulF_part hs0 ht
 rw [← hz] at hp
 have HAT := hid (fmul_calls s t)
 rw [← hz] at HAT
 have HSA := hid (fun (w' : World) => rstep_calls a A n c z ⟨na.1.1, na.1.2.1⟩ na.1.2.2 na.2.2.2.1 w')
 have HSB := hid (fun (w' : World) => rstep_calls b B m d z ⟨nb.1.1, nb.1.2.1⟩ nb.1.2.2 nb.2.2.2.1 w')
 have sa : bodyE (stepB a z) l = 0 := by rw [← moveB_stepR hea hp.1 hp.2]; exact moveB_ok hea
 have sb : bodyE (stepB b z) l2 = 0 := by rw [← moveB_stepR heb hp.1 hp.2]; exact moveB_ok heb
 have HPA := hid (fun (w' : World) (hb : Below w.heap.size w w') => rplaced_calls (stepB a z) A n c l w' sa (hS.below hb))
 have HPB := hid (fun (w' : World) (hb : Below w.heap.size w w') => rplaced_calls (stepB b z) B m d l2 w' sb (hM.below hb))
 have HDP : Hid (dpZ a l b l2 s t = tstD (placeL (stepB a z) l) (placeL (stepB b z) l2)) := by show _ = _; unfold dpZ atL; rw [← hz, moveB_stepR hea hp.1 hp.2, moveB_stepR heb hp.1 hp.2]
 have HCP : Hid (checkE (placeL (stepB a z) l) = 0 ∧ checkE (placeL (stepB b z) l2) = 0) := ⟨placed_ok sa, placed_ok sb⟩
 clear hKA hKB hKS hS hM hea heb hs0 ht na nb hz hp sa sb
 generalize placeL (stepB a z) l = pa at *
 generalize placeL (stepB b z) l2 = pb at *
 generalize stepB a z = ma at *
 generalize stepB b z = mb at *
 generalize dpZ a l b l2 s t = dq at *
 have HEQ := hid (meet_eq HCP.out.1 HCP.out.2)
 go_enter Tryz.func32, Tryz.ntmps32
 go_upto_region 1 with fail
 refine wp_region_noPanic ?_
 refine wp_region_U (S := (S2 (fun w' => BdAt w' ga a A n c ∧ BdAt w' gb b B m d ∧ Hold1 w' gs s ∧ Below w.heap.size w w'))) (T := (fun _ => 0)) (by kernel_rfl) (S2i0 ⟨HKA.out.drew, HKB.out.drew, HKS.out.drew, (Below.refl _ _).drew⟩) (fun hH => ?_)
 have hWr3 : Weaker (S2 (fun w' => BdAt w' ga a A n c ∧ BdAt w' gb b B m d ∧ Hold1 w' gs s ∧ Below w.heap.size w w')) := weaker2 _
 refine Ut 0 8 13 0 0 (v := ?vr3_1) rfl hWr3 hH ?hyr3_1 ?_
 case hyr3_1 => (intro w' hSw; replace hSw := S2o0 hSw; (try dsimp only at hSw); have q0 := hSw.1; have q1 := hSw.2.1; have q2 := hSw.2.2.1; have q3 := hSw.2.2.2; obtain ⟨qa0_0, qa0_1, qa0_2, qa0_3, qa0_4, qa0_5, qa0_6, qa0_7, qa0_8, qa0_9, qa0_10, qa0_11, qa0_12, qa0_f⟩ := id q0; obtain ⟨qa1_0, qa1_1, qa1_2, qa1_3, qa1_4, qa1_5, qa1_6, qa1_7, qa1_8, qa1_9, qa1_10, qa1_11, qa1_12, qa1_f⟩ := id q1; have qa2_0 := (q2).c; go_simp; try (with_reducible rfl))
 simp only [sB, sC]
 refine Ut 1 9 12 0 0 (v := ?vr3_2) rfl hWr3 hH ?hyr3_2 ?_
 case hyr3_2 => (intro w' hSw; replace hSw := S2o0 hSw; (try dsimp only at hSw); have q0 := hSw.1; have q1 := hSw.2.1; have q2 := hSw.2.2.1; have q3 := hSw.2.2.2; obtain ⟨qa0_0, qa0_1, qa0_2, qa0_3, qa0_4, qa0_5, qa0_6, qa0_7, qa0_8, qa0_9, qa0_10, qa0_11, qa0_12, qa0_f⟩ := id q0; obtain ⟨qa1_0, qa1_1, qa1_2, qa1_3, qa1_4, qa1_5, qa1_6, qa1_7, qa1_8, qa1_9, qa1_10, qa1_11, qa1_12, qa1_f⟩ := id q1; have qa2_0 := (q2).c; go_simp; try (with_reducible rfl))
 simp only [sB, sC]
 refine Ut 2 10 11 0 0 (v := ?vr3_3) rfl hWr3 hH ?hyr3_3 ?_
 case hyr3_3 => (intro w' hSw; clear hSw; go_simp; try (with_reducible rfl))
 simp only [sB, sC]
 refine Ut 6 14 10 0 0 (v := ?vr3_4) rfl hWr3 hH ?hyr3_4 ?_
 case hyr3_4 => (intro w' hSw; replace hSw := S2o0 hSw; (try dsimp only at hSw); have q0 := hSw.1; have q1 := hSw.2.1; have q2 := hSw.2.2.1; have q3 := hSw.2.2.2; obtain ⟨qa0_0, qa0_1, qa0_2, qa0_3, qa0_4, qa0_5, qa0_6, qa0_7, qa0_8, qa0_9, qa0_10, qa0_11, qa0_12, qa0_f⟩ := id q0; obtain ⟨qa1_0, qa1_1, qa1_2, qa1_3, qa1_4, qa1_5, qa1_6, qa1_7, qa1_8, qa1_9, qa1_10, qa1_11, qa1_12, qa1_f⟩ := id q1; have qa2_0 := (q2).c; go_simp; try (with_reducible rfl))
 simp only [sB, sC]
 refine Ut 7 15 9 0 0 (v := ?vr3_5) rfl hWr3 hH ?hyr3_5 ?_
 case hyr3_5 => (intro w' hSw; replace hSw := S2o0 hSw; (try dsimp only at hSw); have q0 := hSw.1; have q1 := hSw.2.1; have q2 := hSw.2.2.1; have q3 := hSw.2.2.2; obtain ⟨qa0_0, qa0_1, qa0_2, qa0_3, qa0_4, qa0_5, qa0_6, qa0_7, qa0_8, qa0_9, qa0_10, qa0_11, qa0_12, qa0_f⟩ := id q0; obtain ⟨qa1_0, qa1_1, qa1_2, qa1_3, qa1_4, qa1_5, qa1_6, qa1_7, qa1_8, qa1_9, qa1_10, qa1_11, qa1_12, qa1_f⟩ := id q1; have qa2_0 := (q2).c; go_simp; try (with_reducible rfl))
 simp only [sB, sC]
 refine Ut 8 16 8 0 0 (v := ?vr3_6) rfl hWr3 hH ?hyr3_6 ?_
 case hyr3_6 => (intro w' hSw; clear hSw; go_simp; try (with_reducible rfl))
 simp only [sB, sC]
 refine U1 3 0 rfl (fun K hK => ?_)
 try clear hb
 go_simp
 (go_at_call 14; refine (HAT.out _).mono ?_; rintro e wn ⟨rfl, hb⟩; try replace hp1 := hp1.below hb)
 refine hK.out _ _ ?hsr3_7 (fun hH2 => ?hrr3_7)
 case hsr3_7 => exact S2i0 (by have hG := hH; replace hG := S2o0 hG; (try dsimp only at hG); have q0 := hG.1; have q1 := hG.2.1; have q2 := hG.2.2.1; have q3 := hG.2.2.2; exact ⟨keepBd hb q0, keepBd hb q1, keepHold1 hb q2, keepBelow hb q3⟩)
 clear hK K hH
 have hH := hH2
 clear hH2
 try simp only [Act.put, sA, sB, sC]
 refine U1 4 0 rfl (fun K hK => ?_)
 try clear hb
 go_simp
 (go_at_call 29; refine (HSA.out _).mono ?_; rintro e wn ⟨rfl, hb⟩; try replace hp1 := hp1.below hb)
 refine hK.out _ _ ?hsr3_8 (fun hH2 => ?hrr3_8)
 case hsr3_8 => exact S2i0 (by have hG := hH; replace hG := S2o0 hG; (try dsimp only at hG); have q0 := hG.1; have q1 := hG.2.1; have q2 := hG.2.2.1; have q3 := hG.2.2.2; exact ⟨keepBd hb q0, keepBd hb q1, keepHold1 hb q2, keepBelow hb q3⟩)
 clear hK K hH
 have hH := hH2
 clear hH2
 try simp only [Act.put, sA, sB, sC]
 refine U1 5 0 rfl (fun K hK => ?_)
 try clear hb
 have hG := hH
 replace hG := S2o0 hG; (try dsimp only at hG); have q0 := hG.1; have q1 := hG.2.1; have q2 := hG.2.2.1; have q3 := hG.2.2.2
 go_simp
 (go_at_call 28; refine (HPA.out _ q3).mono ?_; rintro e wn ⟨A2, n2, c2, rfl, hp1, -, hb⟩)
 refine hK.out _ _ ?hsr3_9 (fun hH2 => ?hrr3_9)
 case hsr3_9 => exact S2i0 (by have hG := hH; replace hG := S2o0 hG; (try dsimp only at hG); have q0 := hG.1; have q1 := hG.2.1; have q2 := hG.2.2.1; have q3 := hG.2.2.2; exact ⟨keepBd hb q0, keepBd hb q1, keepHold1 hb q2, keepBelow hb q3⟩)
 clear hK K hH
 have hH := hH2
 clear hH2
 try simp only [Act.put, sA, sB, sC]
 refine U1 9 0 rfl (fun K hK => ?_)
 try clear hb
 go_simp
 (go_at_call 14; refine (HAT.out _).mono ?_; rintro e wn ⟨rfl, hb⟩; try replace hp1 := hp1.below hb)
 refine hK.out _ _ ?hsr3_10 (fun hH2 => ?hrr3_10)
 case hsr3_10 => exact S2i0 (by have hG := hH; replace hG := S2o0 hG; (try dsimp only at hG); have q0 := hG.1; have q1 := hG.2.1; have q2 := hG.2.2.1; have q3 := hG.2.2.2; exact ⟨keepBd hb q0, keepBd hb q1, keepHold1 hb q2, keepBelow hb q3⟩)
 clear hK K hH
 have hH := hH2
 clear hH2
 try simp only [Act.put, sA, sB, sC]
 refine U1 10 0 rfl (fun K hK => ?_)
 try clear hb
 go_simp
 (go_at_call 29; refine (HSB.out _).mono ?_; rintro e wn ⟨rfl, hb⟩; try replace hp1 := hp1.below hb)
 refine hK.out _ _ ?hsr3_11 (fun hH2 => ?hrr3_11)
 case hsr3_11 => exact S2i0 (by have hG := hH; replace hG := S2o0 hG; (try dsimp only at hG); have q0 := hG.1; have q1 := hG.2.1; have q2 := hG.2.2.1; have q3 := hG.2.2.2; exact ⟨keepBd hb q0, keepBd hb q1, keepHold1 hb q2, keepBelow hb q3⟩)
 clear hK K hH
 have hH := hH2
 clear hH2
 try simp only [Act.put, sA, sB, sC]
 refine U1 11 0 rfl (fun K hK => ?_)
 try clear hb
 have hG := hH
 replace hG := S2o0 hG; (try dsimp only at hG); have q0 := hG.1; have q1 := hG.2.1; have q2 := hG.2.2.1; have q3 := hG.2.2.2
 go_simp
 (go_at_call 28; refine (HPB.out _ q3).mono ?_; rintro e wn ⟨A3, n3, c3, rfl, hp2, -, hb⟩; try replace hp1 := hp1.below hb)
 refine hK.out _ _ ?hsr3_12 (fun hH2 => ?hrr3_12)
 case hsr3_12 => exact S2i0 (by have hG := hH; replace hG := S2o0 hG; (try dsimp only at hG); have q0 := hG.1; have q1 := hG.2.1; have q2 := hG.2.2.1; have q3 := hG.2.2.2; exact ⟨keepBd hb q0, keepBd hb q1, keepHold1 hb q2, keepBelow hb q3⟩)
 clear hK K hH
 have hH := hH2
 clear hH2
 try simp only [Act.put, sA, sB, sC]
 refine Ut 12 6 1 0 0 (v := ?vr3_13) rfl hWr3 hH ?hyr3_13 ?_
 case hyr3_13 => (intro w' hSw; clear hSw; go_simp; try (with_reducible rfl))
 simp only [sB, sC]
 refine Ut 13 7 0 0 0 (v := ?vr3_14) rfl hWr3 hH ?hyr3_14 ?_
 case hyr3_14 => (intro w' hSw; clear hSw; go_simp; try (with_reducible rfl))
 simp only [sB, sC]
 refine wpAnyU_done (by kernel_rfl) ?_ _ _
 refine NoPanic.normal ?_
 clear hWr3
 replace hH := S2o0 hH
 (try dsimp only at hH)
 have t0 := hH.1
 have t1 := hH.2.1
 have t2 := hH.2.2.1
 have t3 := hH.2.2.2
 clear t0 t1 t2 hb HSA HSB HPA HPB HAT
 have hBf := t3
 clear t3
 go_wp2_with fail
 refine (rmeet_calls A2 A3 n2 c2 n3 c3 pa pb _ hp1 hp2 HCP.out.1 HCP.out.2).mono ?_
 rw [HEQ.out]
 rintro e w8 ⟨rfl, hb⟩
 replace hBf := keepBelow hb hBf
 have HP1 := hid (hp1.below hb)
 have HP2 := hid (hp2.below hb)
 clear hb hp1 hp2 HEQ
 cases hm : meetsB pa pb with
 | false =>
  have HR : Hid (dq = 0) := by show _ = _; rw [HDP.out, dpZ_none hm]
  clear hm HDP
  go_wp2
  go_returns
  exact ret_int HR.out.symm hBf
 | true =>
  have HLE := hid (rleast_calls A2 A3 n2 c2 n3 c3 pa pb w8 HP1.out HP2.out hm)
  have HR : Hid (dq = axD (leastO pa pb)) := by show _ = _; rw [HDP.out]; rfl
  clear hm HDP HP1 HP2
  unfold axV at HLE
  generalize axS (leastO pa pb) = xs at *
  generalize axE (leastO pa pb) = ae at *
  generalize axD (leastO pa pb) = ad at *
  have hfld : ∀ w : World, (Instr.field 57 (.agg #[.bool xs, .int .i64 ae, .int .i64 ad]) 2).run Tryz.prog w = .ok (.int .i64 ad) w := fun w => run_dep _ _ _ _
  go_wp2_with fail
  refine HLE.out.mono ?_
  rintro e w9 ⟨rfl, hb⟩
  replace hBf := keepBelow hb hBf
  clear hb HLE
  go_wp2
  go_returns
  exact ret_int HR.out.symm hBf
set_option maxRecDepth 100000 in
set_option maxHeartbeats 8000000 in
theorem rsink_calls (a b : Bd) (A B : Option Addr) (n c m d : Nat) (l l2 : List V) (s : Int) (w : World) (hS : Sl w A n c l) (hM : Sl w B m d l2) (hea : bodyE a l = 0) (heb : bodyE b l2 = 0) (hs0 : 0 ≤ s ∧ s ≤ 65536) : Calls Tryz.prog 11 #[bodyV a A n c, bodyV b B m d, .int .i64 s] w (Ret (.int .i64 (sinkO a l b l2 s)) w) := by
 obtain ⟨W, hW⟩ : ∃ W, W = ((w.alloc (.cells #[.int .i64 a.px, .int .i64 a.py, .int .i64 a.vx, .int .i64 a.vy, .int .i64 a.ang, .int .i64 a.spin, .int .i64 a.mass, .int .i64 a.iner, .int .i64 a.bounce, .int .i64 a.rub, .slice A n c, .bool a.asleep, .int .i64 a.calm] 26)).alloc (.cells #[.int .i64 b.px, .int .i64 b.py, .int .i64 b.vx, .int .i64 b.vy, .int .i64 b.ang, .int .i64 b.spin, .int .i64 b.mass, .int .i64 b.iner, .int .i64 b.bounce, .int .i64 b.rub, .slice B m d, .bool b.asleep, .int .i64 b.calm] 26)).alloc (.cells #[.int .i64 s] 3) := ⟨_, rfl⟩
 have HKA : Hid (BdAt W w.heap.size a A n c) := by show BdAt _ _ _ _ _ _; rw [hW]; exact ((BdAt.here w a A n c _).alloc _).alloc _
 have HKB : Hid (BdAt W (w.heap.size + 1) b B m d) := by show BdAt _ _ _ _ _ _; rw [hW]; have := BdAt.here (w.alloc (.cells #[.int .i64 a.px, .int .i64 a.py, .int .i64 a.vx, .int .i64 a.vy, .int .i64 a.ang, .int .i64 a.spin, .int .i64 a.mass, .int .i64 a.iner, .int .i64 a.bounce, .int .i64 a.rub, .slice A n c, .bool a.asleep, .int .i64 a.calm] 26)) b B m d 26; exact BdAt.alloc (by simpa using this) _
 have HKS : Hid (Hold1 W (w.heap.size + 2) s) := by show Hold1 _ _ _; rw [hW]; exact ⟨by go_simp, by simp⟩
 have hB : Below w.heap.size w W := by rw [hW]; go_grown
 have HBO := hid (fun (w' : World) (hb : Below w.heap.size w w') => rbound_calls a b A B n c m d l l2 s w' (hS.below hb) (hM.below hb) hea heb hs0.1)
 have HCL0 : Hid (∀ t, 0 ≤ t ∧ t ≤ 65536 → ∀ w', Below W.heap.size W w' → Calls Tryz.prog 32 #[.int .i64 t, .pointer (some ⟨w.heap.size, 0, none⟩), .pointer (some ⟨w.heap.size + 2, 0, none⟩), .pointer (some ⟨w.heap.size + 1, 0, none⟩)] w' (Ret (.int .i64 (dpZ a l b l2 s t)) w')) := fun t ht w' hb =>
  rsink1_calls _ _ _ a b A B n c m d l l2 s t w' (keepBd hb HKA.out) (keepBd hb HKB.out) (keepHold1 hb HKS.out) ((hS.below hB).below hb) ((hM.below hB).below hb) hea heb hs0 ht
 have z1 := rbdZ_bd a l b l2 hs0.1
 obtain ⟨N, hN⟩ : ∃ N, N = sinkN a l b l2 s := ⟨_, rfl⟩
 have hNe : N = (rbdZ a l b l2 s).tdiv 8192 + 1 := hN
 obtain ⟨most, hmo⟩ : ∃ z, z = rbdZ a l b l2 s := ⟨_, rfl⟩
 rw [← hmo] at z1 hNe HBO
 obtain ⟨q, hq⟩ : ∃ q, q = most.tdiv 8192 := ⟨_, rfl⟩
 have hq2 : 0 ≤ q ∧ q ≤ 500000000 := by rw [hq, Int.tdiv_eq_ediv_of_nonneg (by omega)]; omega
 have hqw : IntKind.i64.wrap (most.tdiv 8192) = q := by rw [← hq]; exact IntWalk.i64_in _ (by omega)
 have hNq : N = q + 1 := by rw [hNe, hq]
 have hNw : IntKind.i64.wrap (q + 1) = N := by rw [hNq]; exact IntWalk.i64_in _ (by omega)
 have hNb : 1 ≤ N ∧ N ≤ 500000001 := by omega
 have HDP : Hid (∀ t, -34359738368000000 ≤ dpZ a l b l2 s t ∧ dpZ a l b l2 s t ≤ 34359738368000000) := fun t => tstD_bd (placed_ok (moveB_ok hea)) (placed_ok (moveB_ok heb))
 obtain ⟨dp, hdp⟩ : ∃ dp, dp = dpZ a l b l2 s := ⟨_, rfl⟩
 rw [← hdp] at HDP HCL0
 obtain ⟨f, hf⟩ : ∃ f, f = dp 0 := ⟨_, rfl⟩
 have hfb := HDP.out 0
 rw [← hf] at hfb
 obtain ⟨K, hK⟩ : ∃ K : Nat, K = (min N 1024).toNat := ⟨_, rfl⟩
 have hKN : (K : Int) = min N 1024 := by rw [hK]; omega
 have hK2 : K ≤ 1024 := by omega
 have HR : Hid (sinkO a l b l2 s = ((sinkC dp f N K 0 : Nat) * 65536 : Int).tdiv N) := by
  show _ = _
  unfold sinkO
  rw [← hN, ← hdp, ← hf, ← hK]
 have HCF : Hid (∀ w', Below W.heap.size W w' → Calls Tryz.prog 32 #[.int .i64 0, .pointer (some ⟨w.heap.size, 0, none⟩), .pointer (some ⟨w.heap.size + 2, 0, none⟩), .pointer (some ⟨w.heap.size + 1, 0, none⟩)] w' (Ret (.int .i64 f) w')) := fun w' hb => by rw [hf]; exact HCL0.out 0 (by omega) w' hb
 have hrmin : ∀ (ts : Array TypeId) (t : TypeId) (w : World), (Builtin.min_ ts t #[.int .i64 N, .int .i64 1024]).run Tryz.prog w = .ok (.int .i64 K) w := fun ts t w => by
  rw [run_min_int2, show (if (1024 : Int) < N then (1024 : Int) else N) = K by rw [hKN]; split <;> omega]
 have hf6 : IntKind.i64.wrap (f + 16384) = f + 16384 := IntWalk.i64_in _ (by omega)
 have hcf := cf_sink
 have HKN := hid hKN
 have hB1 : Below W.heap.size W W := Below.refl _ _
 clear hea heb hs0 hN hNe hmo hq hq2 hNq hdp hf hfb hK hKN z1 hS hM
 generalize sinkO a l b l2 s = so at *
 obtain ⟨k0, k1, k2, k3, k4, k5, k6, k7, k8, k9, k10, k11, k12, -⟩ := HKA.out
 obtain ⟨m0, m1, m2, m3, m4, m5, m6, m7, m8, m9, m10, m11, m12, -⟩ := HKB.out
 have hks := HKS.out.c
 have hlw : w.heap.size + 2 < W.heap.size := HKS.out.lt
 go_enter Tryz.func11, Tryz.ntmps11
 go_upto_region 1 with fail
 rw [← hW]
 clear hW
 go_wp2_with fail
 refine (HBO.out _ hB).mono ?_
 rintro e w1 ⟨rfl, hb⟩
 replace hB1 := keepBelow hb hB1
 clear hb k0 k1 k2 k3 k4 k5 k6 k7 k8 k9 k10 k11 k12 m0 m1 m2 m3 m4 m5 m6 m7 m8 m9 m10 m11 m12 hks hlw HBO HKA HKB HKS
 go_wp2_with fail
 refine (HCF.out _ hB1).mono ?_
 rintro e w2 ⟨rfl, hb⟩
 replace hB1 := keepBelow hb hB1
 clear hb HCF hqw
 go_wp2
 go_loopw [10] (fun i wr => ∃ k : Nat, k ≤ K ∧ i = .int .i64 ((k : Int) + 1) ∧ sinkC dp f N K 0 = sinkC dp f N (K - k) k ∧ Below W.heap.size W wr) (fun i _ => K + 1 - (intOf i).toNat)
 case atStart => exact ⟨0, Nat.zero_le _, rfl, rfl, hB1⟩
 case round =>
  obtain ⟨k, hk, rfl, hsk, hBk⟩ := hrel
  obtain ⟨wo, rfl⟩ : ∃ wo : World, wo = wr := ⟨_, rfl⟩
  have HSK := hid hsk
  clear hsk hB1
  have hBf := keepBelow hBk hB
  have hkn := HKN.out
  have hkw0 : IntKind.i64.wrap (k : Int) = (k : Int) := IntWalk.i64_in _ (by omega)
  have hkw1 : IntKind.i64.wrap ((k : Int) + 1 - 1) = (k : Int) := by rw [Int.add_sub_cancel]; exact hkw0
  have hkw2 : IntKind.i64.wrap ((k : Int) * 65536) = (k : Int) * 65536 := IntWalk.i64_in _ (by omega)
  have hN0 : ¬ N = 0 := by omega
  obtain ⟨T0, hT0⟩ : ∃ T0, T0 = ((k : Int) * 65536).tdiv N := ⟨_, rfl⟩
  have hT0b : 0 ≤ T0 ∧ T0 ≤ 67108864 := by
   rw [hT0, Int.tdiv_eq_ediv_of_nonneg (by omega)]
   have := Int.ediv_le_self N (a := (k : Int) * 65536) (by omega)
   exact ⟨Int.ediv_nonneg (by omega) (by omega), by omega⟩
  have hTw0 : IntKind.i64.wrap (((k : Int) * 65536).tdiv N) = T0 := by rw [← hT0]; exact IntWalk.i64_in _ (by omega)
  by_cases hlt : k < K
  ·obtain ⟨g, hg⟩ : ∃ g, K - k = g + 1 := ⟨K - k - 1, by omega⟩
   obtain ⟨T, hT⟩ : ∃ T, T = (((k : Int) + 1) * 65536).tdiv N := ⟨_, rfl⟩
   have HST : Hid (sinkC dp f N K 0 = if f + 16384 < dp T then k else sinkC dp f N (K - (k + 1)) (k + 1)) := by
    show _ = _
    rw [HSK.out, hg, show K - (k + 1) = g by omega, hT]
    rfl
   have h1 : (k : Int) + 1 ≤ N := by omega
   have h2 : (k : Int) + 1 ≤ 1024 := by omega
   have hTb : 0 ≤ T ∧ T ≤ 65536 := by
    rw [hT, Int.tdiv_eq_ediv_of_nonneg (by omega)]
    have e1 : ((k : Int) + 1) * 65536 ≤ 65536 * N := by omega
    exact ⟨Int.ediv_nonneg (by omega) (by omega), Int.ediv_le_of_le_mul (by omega) e1⟩
   have hkw : IntKind.i64.wrap ((k : Int) + 1 + 1) = (k : Int) + 1 + 1 := IntWalk.i64_in _ (by omega)
   have hmw : IntKind.i64.wrap (((k : Int) + 1) * 65536) = ((k : Int) + 1) * 65536 := IntWalk.i64_in _ (by omega)
   have hTw : IntKind.i64.wrap ((((k : Int) + 1) * 65536).tdiv N) = T := by rw [← hT]; exact IntWalk.i64_in _ (by omega)
   have HCT := hid (HCL0.out T hTb)
   obtain ⟨dt, hdt⟩ : ∃ dt, dt = dp T := ⟨_, rfl⟩
   rw [← hdt] at HCT HST
   clear hT hg hdt HSK hTb hkn
   go_wp2_with fail
   refine (HCT.out _ hBk).mono ?_
   rintro e w3 ⟨rfl, hb⟩
   replace hBk := keepBelow hb hBk
   have hBf := keepBelow hb hBf
   clear hb HCT hTw hmw h1 h2
   by_cases hbr : f + 16384 < dt
   ·have HF : Hid (so = T0) := by show _ = _; rw [HR.out, HST.out, if_pos hbr, hT0]
    have hbb : dt > f + 16384 := hbr
    clear HST hT0
    go_wp2
    go_returns
    exact ret_int HF.out.symm hBf
   ·have HF : Hid (sinkC dp f N K 0 = sinkC dp f N (K - (k + 1)) (k + 1)) := by show _ = _; rw [HST.out, if_neg hbr]
    have hbb : ¬ dt > f + 16384 := hbr
    clear HST hTw0 hT0
    go_wp2
    go_roundw
    case rel => exact ⟨k + 1, by omega, by go_num, HF.out, hBk⟩
    case measure => simp [intOf]; omega
  ·have hkK : k = K := by omega
   subst hkK
   have HF : Hid (so = T0) := by show _ = _; rw [HR.out, HSK.out, Nat.sub_self, hT0]; rfl
   have HF2 : Hid (min N 1024 * 65536 / N = so) := by show _ = _; rw [HF.out, hT0, Int.tdiv_eq_ediv_of_nonneg (by omega), ← HKN.out]
   clear HSK hlt hT0
   by_cases h1 : (k : Int) + 1 ≤ N
   ·have h2 : ¬ (k : Int) + 1 ≤ 1024 := by omega
    go_wp2
    go_returns
    exact ret_int HF2.out hBf
   ·go_wp2
    go_returns
    exact ret_int HF2.out hBf
end
end Go.Proofs.YtilncglnojjlaaaGreat
namespace Go.Proofs.YtilncglnojjlaaaGreat
section
set_option linter.unusedVariables false
set_option linter.unusedSimpArgs false
open Go.RowKit
theorem BdAt.far {w : World} {g : Nat} {b : Bd} {A : Option Addr} {n c : Nat} (h : BdAt w g b A n c) (k o : Nat) (v : Value) (hne : k ≠ g) : BdAt (w.setCell ⟨k, o, none⟩ v) g b A n c :=
 ⟨far1 hne h.c0, far1 hne h.c1, far1 hne h.c2, far1 hne h.c3, far1 hne h.c4, far1 hne h.c5, far1 hne h.c6, far1 hne h.c7, far1 hne h.c8, far1 hne h.c9, far1 hne h.c10, far1 hne h.c11, far1 hne h.c12, fun j => by rw [World.frozen?_setCell]; exact h.free j⟩
end
end Go.Proofs.YtilncglnojjlaaaGreat
