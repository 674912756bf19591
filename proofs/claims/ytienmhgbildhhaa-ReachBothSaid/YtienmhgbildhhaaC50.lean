/- The walk of ReachBoth. -/
import Derived.Test.YtienmhgbildhhaaC49
import Derived.Test.YtienmhgbildhhaaC38
namespace Go.Proofs.Ytienmhgbildhhaa
section
set_option linter.unusedVariables false
set_option linter.unusedSimpArgs false
open Go.RowKit
set_option maxRecDepth 100000 in
set_option maxHeartbeats 8000000 in
theorem reachBoth_walk (A B : Option Addr) (n c n' c' : Nat) (r r' : List Int) (st : Int) (w : World) (hS : SlI w A n c r) (hM : SlI w B n' c' r') :
    Calls Try.prog 11 #[.slice A n c, .slice B n' c', .int .i64 st] w (Ret (.bool true) w) := by
  have HSI := hid hS
  have HMI := hid hM
  clear hS hM
  go_enter Try.func11, Try.ntmps11
  go_wp2_with fail
  refine (mBody_calls A n c r _ HSI.out).mono ?_
  rintro e w1 ⟨a, l, A1, n1, c1, rfl, hma, hml, hs1, -, hb1⟩
  have HMA := hid hma
  have HML := hid hml
  clear hma hml
  unfold bodyV
  go_wp2_with fail
  refine (mBody_calls B n' c' r' _ (HMI.out.below hb1)).mono ?_
  rintro e w2 ⟨b, m, A2, n2, c2, rfl, hmb, hmm, hs2, -, hb2⟩
  have HMB := hid hmb
  have HMM := hid hmm
  have hB2 := keepBelow hb2 hb1
  have hs1' := hs1.below hb2
  clear hmb hmm hs1 hb1 hb2
  unfold bodyV
  obtain ⟨wk, hwk⟩ : ∃ wk, wk = (w2.alloc (.cells #[.int .i64 a.px, .int .i64 a.py, .int .i64 a.vx, .int .i64 a.vy, .int .i64 a.ang, .int .i64 a.spin, .int .i64 a.mass, .int .i64 a.iner, .int .i64 a.bounce, .int .i64 a.rub, .slice A1 n1 c1, .bool a.asleep, .int .i64 a.calm] 27)).alloc (.cells #[.int .i64 b.px, .int .i64 b.py, .int .i64 b.vx, .int .i64 b.vy, .int .i64 b.ang, .int .i64 b.spin, .int .i64 b.mass, .int .i64 b.iner, .int .i64 b.bounce, .int .i64 b.rub, .slice A2 n2 c2, .bool b.asleep, .int .i64 b.calm] 27) := ⟨_, rfl⟩
  obtain ⟨gA, hgA⟩ : ∃ g, g = w2.heap.size := ⟨_, rfl⟩
  have HKA : Hid (BdAt wk gA a A1 n1 c1) := by show BdAt _ _ _ _ _ _; rw [hwk, hgA]; exact (BdAt.here w2 a A1 n1 c1 _).alloc _
  have HKB : Hid (BdAt wk (gA + 1) b A2 n2 c2) := by show BdAt _ _ _ _ _ _; rw [hwk, hgA]; have := BdAt.here (w2.alloc (.cells #[.int .i64 a.px, .int .i64 a.py, .int .i64 a.vx, .int .i64 a.vy, .int .i64 a.ang, .int .i64 a.spin, .int .i64 a.mass, .int .i64 a.iner, .int .i64 a.bounce, .int .i64 a.rub, .slice A1 n1 c1, .bool a.asleep, .int .i64 a.calm] 27)) b A2 n2 c2 27; simpa using this
  have hB : Below w.heap.size w wk := by rw [hwk]; exact (hB2.alloc hB2.size _).alloc (by have := hB2.size; simp; omega) _
  have HS1 : Hid (Sl wk A1 n1 c1 l) := by show Sl _ _ _ _ _; rw [hwk]; exact (hs1'.alloc _).alloc _
  have HS2 : Hid (Sl wk A2 n2 c2 m) := by show Sl _ _ _ _ _; rw [hwk]; exact (hs2.alloc _).alloc _
  clear hs1' hs2 hB2
  go_upto_region 2 with fail
  rw [← hwk]
  try rw [← hgA]
  clear hwk hgA
  have hea := madeB_ok HMA.out HML.out
  have heb := madeB_ok HMB.out HMM.out
  have hla : l.length ≤ 8796093022208 := by have := (made_len HML.out).2; omega
  have hlb : m.length ≤ 8796093022208 := by have := (made_len HMM.out).2; omega
  have hbd : 0 ≤ st % 65537 ∧ st % 65537 ≤ 65536 := by omega
  have HBE := hid (fun (w' : World) => tbelow_calls st 65537 (by omega) (by omega) w')
  generalize st % 65537 = s at *
  have HLW := hid (bothLaw HMA.out HML.out HMB.out HMM.out s)
  have e1 : rbdE a l b m s = 0 := by unfold rbdE; rw [if_neg (by simp [hea]), if_neg (by simp [heb]), if_neg (by omega)]
  have e2 : rbdE b m a l s = 0 := by unfold rbdE; rw [if_neg (by simp [heb]), if_neg (by simp [hea]), if_neg (by omega)]
  have HV1 : Hid (timeV a l b m s = .tuple #[.int .i64 (timeO a l b m s).1, .bool (timeO a l b m s).2, .int .i64 0]) := by show _ = _; unfold timeV; rw [if_neg (by simp [e1])]
  have HV2 : Hid (timeV b m a l s = .tuple #[.int .i64 (timeO a l b m s).1, .bool (timeO a l b m s).2, .int .i64 0]) := by show _ = _; unfold timeV; rw [if_neg (by simp [e2]), HLW.out.swap]
  have HT1 := hid (fun (w' : World) (hb : Below wk.heap.size wk w') => time_calls a b A1 A2 n1 c1 n2 c2 l m s w' (HS1.out.below hb) (HS2.out.below hb) hla hlb)
  have HT2 := hid (fun (w' : World) (hb : Below wk.heap.size wk w') => time_calls b a A2 A1 n2 c2 n1 c1 m l s w' (HS2.out.below hb) (HS1.out.below hb) hlb hla)
  rw [HV1.out] at HT1
  rw [HV2.out] at HT2
  have HPA : Hid (∀ w', Below wk.heap.size wk w' → Calls Try.prog 68 #[bodyV a A1 n1 c1] w' (RetPl (placeL a l) w')) := fun w' hb => by
    have := bplace_calls a A1 n1 c1 l w' (HS1.out.below hb)
    rwa [show placeR a l = placeL a l by unfold placeR; rw [if_neg (by simp [hea])]] at this
  have HPB : Hid (∀ w', Below wk.heap.size wk w' → Calls Try.prog 68 #[bodyV b A2 n2 c2] w' (RetPl (placeL b m) w')) := fun w' hb => by
    have := bplace_calls b A2 n2 c2 m w' (HS2.out.below hb)
    rwa [show placeR b m = placeL b m by unfold placeR; rw [if_neg (by simp [heb])]] at this
  have HME : Hid (∀ A3 n3 c3 A4 n4 c4 w', Sl w' A3 n3 c3 (placeL a l) → Sl w' A4 n4 c4 (placeL b m) → Calls Try.prog 67 #[.slice A3 n3 c3, .slice A4 n4 c4] w' (Ret (.tuple #[.bool (nmeetB (placeL a l) (placeL b m)), .int .i64 0]) w')) := fun A3 n3 c3 A4 n4 c4 w' h1 h2 => by
    have := nmeet_calls A3 A4 n3 c3 n4 c4 (placeL a l) (placeL b m) w' h1 h2
    rwa [bothE_zero.2 ⟨placed_ok hea, placed_ok heb⟩] at this
  have HZ := hid HLW.out.zero
  have HST := hid HLW.out.still
  have hm1 := (numE_zero (bodyE_zero hea).2).2.2.2.2.1.1
  have hm2 := (numE_zero (bodyE_zero heb).2).2.2.2.2.1.1
  clear HLW HV1 HV2 e1 e2 hea heb hla hlb
  generalize nmeetB (placeL a l) (placeL b m) = is at *
  generalize placeL a l = pa at *
  generalize placeL b m = pb at *
  generalize timeO a l b m s = o at *
  obtain ⟨t, p⟩ := o
  dsimp only at HT1 HT2 HZ HST
  go_wp2_with fail
  refine (HBE.out _).mono ?_
  rintro e w3 ⟨rfl, hb⟩
  have hBk := hb
  replace HKA := hid (keepBd hb HKA.out)
  replace HKB := hid (keepBd hb HKB.out)
  replace hB := keepBelow hb hB
  clear hb
  obtain ⟨k0, k1, k2, k3, k4, k5, k6, k7, k8, k9, k10, k11, k12, -⟩ := HKA.out
  obtain ⟨m0, m1, m2, m3, m4, m5, m6, m7, m8, m9, m10, m11, m12, -⟩ := HKB.out
  go_wp2_with fail
  refine (HT1.out _ hBk).mono ?_
  rintro e w4 ⟨rfl, hb⟩
  replace HKA := hid (keepBd hb HKA.out)
  replace HKB := hid (keepBd hb HKB.out)
  replace hB := keepBelow hb hB
  replace hBk := keepBelow hb hBk
  clear hb
  clear k0 k1 k2 k3 k4 k5 k6 k7 k8 k9 k10 k11 k12 m0 m1 m2 m3 m4 m5 m6 m7 m8 m9 m10 m11 m12
  obtain ⟨k0, k1, k2, k3, k4, k5, k6, k7, k8, k9, k10, k11, k12, -⟩ := HKA.out
  obtain ⟨m0, m1, m2, m3, m4, m5, m6, m7, m8, m9, m10, m11, m12, -⟩ := HKB.out
  go_wp2_with fail
  refine (HT2.out _ hBk).mono ?_
  rintro e w5 ⟨rfl, hb⟩
  replace HKA := hid (keepBd hb HKA.out)
  replace HKB := hid (keepBd hb HKB.out)
  replace hB := keepBelow hb hB
  replace hBk := keepBelow hb hBk
  clear hb
  clear k0 k1 k2 k3 k4 k5 k6 k7 k8 k9 k10 k11 k12 m0 m1 m2 m3 m4 m5 m6 m7 m8 m9 m10 m11 m12
  go_upto_region 5 with fail
  replace HPA := hid (fun (w' : World) (hb : Below w5.heap.size w5 w') => HPA.out w' (keepBelow hb hBk))
  replace HPB := hid (fun (w' : World) (hb : Below w5.heap.size w5 w') => HPB.out w' (keepBelow hb hBk))
  refine wp_region_noPanic ?_
  refine wp_region_U (S := (S2 (fun w' => BdAt w' gA a A1 n1 c1 ∧ BdAt w' (gA + 1) b A2 n2 c2 ∧ Below w5.heap.size w5 w'))) (T := (fun _ => 0)) (by kernel_rfl) (S2i0 ⟨HKA.out.drew, HKB.out.drew, (Below.refl _ _).drew⟩) (fun hH => ?_)
  have hWr1 : Weaker (S2 (fun w' => BdAt w' gA a A1 n1 c1 ∧ BdAt w' (gA + 1) b A2 n2 c2 ∧ Below w5.heap.size w5 w')) := weaker2 _
  refine U_take 0 40 9 0 0 (v := ?vr1_1) rfl (by kernel_rfl) (by kernel_rfl) hWr1 (by kernel_rfl) (by kernel_rfl) (by kernel_rfl) (by kernel_rfl) (by kernel_rfl) (by kernel_rfl) (fun _ _ _ _ h => h) (by kernel_rfl) ?hyr1_1 (by omega) hH ?_
  case hyr1_1 => (intro w' hSw; replace hSw := S2o0 hSw; (try dsimp only at hSw); have q0 := hSw.1; have q1 := hSw.2.1; have q2 := hSw.2.2; obtain ⟨qa0_0, qa0_1, qa0_2, qa0_3, qa0_4, qa0_5, qa0_6, qa0_7, qa0_8, qa0_9, qa0_10, qa0_11, qa0_12, qa0_f⟩ := id q0; obtain ⟨qa1_0, qa1_1, qa1_2, qa1_3, qa1_4, qa1_5, qa1_6, qa1_7, qa1_8, qa1_9, qa1_10, qa1_11, qa1_12, qa1_f⟩ := id q1; go_simp; try (with_reducible rfl))
  simp only [List.set_cons_zero, List.set_cons_succ]
  refine U_take 2 42 8 0 0 (v := ?vr1_2) rfl (by kernel_rfl) (by kernel_rfl) hWr1 (by kernel_rfl) (by kernel_rfl) (by kernel_rfl) (by kernel_rfl) (by kernel_rfl) (by kernel_rfl) (fun _ _ _ _ h => h) (by kernel_rfl) ?hyr1_2 (by omega) hH ?_
  case hyr1_2 => (intro w' hSw; replace hSw := S2o0 hSw; (try dsimp only at hSw); have q0 := hSw.1; have q1 := hSw.2.1; have q2 := hSw.2.2; obtain ⟨qa0_0, qa0_1, qa0_2, qa0_3, qa0_4, qa0_5, qa0_6, qa0_7, qa0_8, qa0_9, qa0_10, qa0_11, qa0_12, qa0_f⟩ := id q0; obtain ⟨qa1_0, qa1_1, qa1_2, qa1_3, qa1_4, qa1_5, qa1_6, qa1_7, qa1_8, qa1_9, qa1_10, qa1_11, qa1_12, qa1_f⟩ := id q1; go_simp; try (with_reducible rfl))
  simp only [List.set_cons_zero, List.set_cons_succ]
  refine wpAnyU_ready (rs := [1]) (by kernel_rfl) (by simp) ?_
  refine AllReadyU.cons 0 (by kernel_rfl) (o := _) rfl (fun K hK => ?_) AllReadyU.nil
  try clear hb
  have hG := hH
  replace hG := S2o0 hG; (try dsimp only at hG); have q0 := hG.1; have q1 := hG.2.1; have q2 := hG.2.2
  go_simp
  (go_at_call 68; refine (HPA.out _ q2).mono ?_; rintro e wn ⟨A3, n3, c3, rfl, hp1, -, -, hb⟩)
  refine hK.out _ _ ?hsr1_3 (fun hH2 => ?hrr1_3)
  case hsr1_3 => exact S2i0 (by have hG := hH; replace hG := S2o0 hG; (try dsimp only at hG); have q0 := hG.1; have q1 := hG.2.1; have q2 := hG.2.2; exact ⟨keepBd hb q0, keepBd hb q1, keepBelow hb q2⟩)
  clear hK K hH
  have hH := hH2
  clear hH2
  try simp only [Act.put, List.setIfInBounds_toArray, List.set_cons_zero, List.set_cons_succ]
  refine wpAnyU_ready (rs := [3]) (by kernel_rfl) (by simp) ?_
  refine AllReadyU.cons 0 (by kernel_rfl) (o := _) rfl (fun K hK => ?_) AllReadyU.nil
  try clear hb
  have hG := hH
  replace hG := S2o0 hG; (try dsimp only at hG); have q0 := hG.1; have q1 := hG.2.1; have q2 := hG.2.2
  go_simp
  (go_at_call 68; refine (HPB.out _ q2).mono ?_; rintro e wn ⟨A4, n4, c4, rfl, hp2, -, -, hb⟩; replace hp1 := hp1.below hb)
  refine hK.out _ _ ?hsr1_4 (fun hH2 => ?hrr1_4)
  case hsr1_4 => exact S2i0 (by have hG := hH; replace hG := S2o0 hG; (try dsimp only at hG); have q0 := hG.1; have q1 := hG.2.1; have q2 := hG.2.2; exact ⟨keepBd hb q0, keepBd hb q1, keepBelow hb q2⟩)
  clear hK K hH
  have hH := hH2
  clear hH2
  try simp only [Act.put, List.setIfInBounds_toArray, List.set_cons_zero, List.set_cons_succ]
  refine wpAnyU_ready (rs := [4]) (by kernel_rfl) (by simp) ?_
  refine AllReadyU.cons 0 (by kernel_rfl) (o := _) rfl (fun K hK => ?_) AllReadyU.nil
  try clear hb
  go_simp
  (go_at_call 67; refine (HME.out A3 n3 c3 A4 n4 c4 _ hp1 hp2).mono ?_; rintro e wn ⟨rfl, hb⟩)
  refine hK.out _ _ ?hsr1_5 (fun hH2 => ?hrr1_5)
  case hsr1_5 => exact S2i0 (by have hG := hH; replace hG := S2o0 hG; (try dsimp only at hG); have q0 := hG.1; have q1 := hG.2.1; have q2 := hG.2.2; exact ⟨keepBd hb q0, keepBd hb q1, keepBelow hb q2⟩)
  clear hK K hH
  have hH := hH2
  clear hH2
  try simp only [Act.put, List.setIfInBounds_toArray, List.set_cons_zero, List.set_cons_succ]
  refine U_take 5 39 4 0 0 (v := ?vr1_6) rfl (by kernel_rfl) (by kernel_rfl) hWr1 (by kernel_rfl) (by kernel_rfl) (by kernel_rfl) (by kernel_rfl) (by kernel_rfl) (by kernel_rfl) (fun _ _ _ _ h => h) (by kernel_rfl) ?hyr1_6 (by omega) hH ?_
  case hyr1_6 => (intro w' hSw; clear hSw; go_simp; try (with_reducible rfl))
  simp only [List.set_cons_zero, List.set_cons_succ]
  refine U_take 6 45 3 0 0 (v := ?vr1_7) rfl (by kernel_rfl) (by kernel_rfl) hWr1 (by kernel_rfl) (by kernel_rfl) (by kernel_rfl) (by kernel_rfl) (by kernel_rfl) (by kernel_rfl) (fun _ _ _ _ h => h) (by kernel_rfl) ?hyr1_7 (by omega) hH ?_
  case hyr1_7 => (intro w' hSw; clear hSw; go_simp; try (with_reducible rfl))
  simp only [List.set_cons_zero, List.set_cons_succ]
  refine U_take 7 46 2 0 0 (v := ?vr1_8) rfl (by kernel_rfl) (by kernel_rfl) hWr1 (by kernel_rfl) (by kernel_rfl) (by kernel_rfl) (by kernel_rfl) (by kernel_rfl) (by kernel_rfl) (fun _ _ _ _ h => h) (by kernel_rfl) ?hyr1_8 (by omega) hH ?_
  case hyr1_8 => (intro w' hSw; clear hSw; go_simp; try (with_reducible rfl))
  simp only [List.set_cons_zero, List.set_cons_succ]
  refine U_take 8 15 1 0 0 (v := ?vr1_9) rfl (by kernel_rfl) (by kernel_rfl) hWr1 (by kernel_rfl) (by kernel_rfl) (by kernel_rfl) (by kernel_rfl) (by kernel_rfl) (by kernel_rfl) (fun _ _ _ _ h => h) (by kernel_rfl) ?hyr1_9 (by omega) hH ?_
  case hyr1_9 => (intro w' hSw; clear hSw; go_simp; try (with_reducible rfl))
  simp only [List.set_cons_zero, List.set_cons_succ]
  refine U_take 9 16 0 0 0 (v := ?vr1_10) rfl (by kernel_rfl) (by kernel_rfl) hWr1 (by kernel_rfl) (by kernel_rfl) (by kernel_rfl) (by kernel_rfl) (by kernel_rfl) (by kernel_rfl) (fun _ _ _ _ h => h) (by kernel_rfl) ?hyr1_10 (by omega) hH ?_
  case hyr1_10 => (intro w' hSw; clear hSw; go_simp; try (with_reducible rfl))
  simp only [List.set_cons_zero, List.set_cons_succ]
  refine wpAnyU_done (by kernel_rfl) ?_ _ _
  refine NoPanic.normal ?_
  clear hWr1
  replace hH := S2o0 hH
  (try dsimp only at hH)
  have t0 := hH.1
  have t1 := hH.2.1
  have t2 := hH.2.2
  have HKA9 := hid t0
  have HKB9 := hid t1
  have hBf := keepBelow t2 hB
  clear t0 t1 t2 hb hB hBk HPA HPB HME HT1 HT2 hp1 hp2 HKA HKB HBE
  go_wp2_with fail
  refine (reaches_calls _).mono ?_
  rintro e w9 ⟨rfl, hb⟩
  replace HKA9 := hid (keepBd hb HKA9.out)
  replace HKB9 := hid (keepBd hb HKB9.out)
  replace hBf := keepBelow hb hBf
  clear hb
  obtain ⟨k0, k1, k2, k3, k4, k5, k6, k7, k8, k9, k10, k11, k12, -⟩ := HKA9.out
  obtain ⟨m0, m1, m2, m3, m4, m5, m6, m7, m8, m9, m10, m11, m12, -⟩ := HKB9.out
  clear HKA9 HKB9
  by_cases h1 : 0 < a.mass
  · cases p with
    | true =>
      by_cases ht : t = 0
      · obtain rfl : is = true := by rw [HZ.out]; simp [ht]
        clear HZ HST
        subst ht
        go_wp2
        go_returns
        exact ret_bool (by simp) hBf
      · obtain rfl : is = false := by rw [HZ.out]; simp [ht]
        clear HZ HST
        go_wp2
        go_returns
        exact ret_bool (by simp) hBf
    | false =>
      obtain rfl : is = false := by rw [HZ.out]; rfl
      clear HZ HST
      go_wp2
      go_returns
      exact ret_bool (by simp) hBf
  · by_cases h2 : 0 < b.mass
    · cases p with
      | true =>
        by_cases ht : t = 0
        · obtain rfl : is = true := by rw [HZ.out]; simp [ht]
          clear HZ HST
          subst ht
          go_wp2
          go_returns
          exact ret_bool (by simp) hBf
        · obtain rfl : is = false := by rw [HZ.out]; simp [ht]
          clear HZ HST
          go_wp2
          go_returns
          exact ret_bool (by simp) hBf
      | false =>
        obtain rfl : is = false := by rw [HZ.out]; rfl
        clear HZ HST
        go_wp2
        go_returns
        exact ret_bool (by simp) hBf
    · obtain rfl : p = is := HST.out (by omega) (by omega)
      cases p with
      | true =>
        have ht : t = 0 := by
          by_cases ht : t = 0
          · exact ht
          · have := HZ.out; simp [ht] at this
        clear HZ HST
        subst ht
        go_wp2
        go_returns
        exact ret_bool (by simp) hBf
      | false =>
        clear HZ HST
        go_wp2
        go_returns
        exact ret_bool (by simp) hBf
end
end Go.Proofs.Ytienmhgbildhhaa
