/- The contract of the reference's Mass. -/
import Derived.Test.YtjoodpjndpdjnaaG2
import Derived.Test.YtjoodpjndpdjnaaG5
import Derived.Test.YtjoodpjndpdjnaaZ7
import Derived.Test.YtjoodpjndpdjnaaZ3
namespace Go.Proofs.Ytjoodpjndpdjnaa
set_option linter.unusedVariables false
set_option linter.unusedSimpArgs false
open Go.RowKit

theorem keepCells {w w' : World} {b off : Nat} {l : List V} (hb : Below w.heap.size w w') (h : Cells w b off l) : Cells w' b off l := h.below hb
theorem Cells.drew {w : World} {b off : Nat} {l : List V} (h : Cells w b off l) : Cells w.drew b off l := ⟨h.lt, h.x, h.y⟩
theorem Cells.far8 {w : World} {b off g : Nat} {l : List V} {v0 v1 v2 v3 v4 v5 v6 v7 : Value} (h : Cells w b off l) (hne : g ≠ b) : Cells ((((((((w.setCell ⟨g, 0, none⟩ v0).setCell ⟨g, 1, none⟩ v1).setCell ⟨g, 2, none⟩ v2).setCell ⟨g, 3, none⟩ v3).setCell ⟨g, 4, none⟩ v4).setCell ⟨g, 5, none⟩ v5).setCell ⟨g, 6, none⟩ v6).setCell ⟨g, 7, none⟩ v7) b off l :=
  ⟨by simp; exact h.lt, fun j hj => Go.Proofs.Ytjoodpjndpdjnaa.far8 hne (h.x j hj), fun j hj => Go.Proofs.Ytjoodpjndpdjnaa.far8 hne (h.y j hj)⟩
theorem cf_rmass1 (args : Array Value) (w : World) : (callFunc 98 args).run Try.prog w = .ok (.enter 98 args) w := by kernel_rfl
theorem rmass1_calls (a b : Int) (w : World) : Calls Try.prog 98 #[vecV a b] w (Ret (.bool (!withinB 2097152 a b)) w) := by
  go_enter Try.func98, Try.ntmps98
  go_wp2_with (go_at_call 70; refine (coord_calls _ _ _ _ (by omega) (by omega)).mono ?_; rintro e w1 ⟨rfl, hb⟩)
  go_returns
  exact ⟨rfl, by simpa using ((Below.refl _ _).alloc (by simp) _).trans (hb.mono (by simp))⟩
theorem any_not (m : Int) (l : List V) : l.any (fun p => !withinB m p.1 p.2) = !allWithin m l := by
  unfold allWithin
  induction l with
  | nil => rfl
  | cons x r ih => simp only [List.any_cons, List.all_cons, ih, Bool.not_and]

set_option maxRecDepth 100000 in
set_option maxHeartbeats 4000000 in
theorem rmass_calls (A : Option Addr) (n c : Nat) (l : List V) (d : Int) (w : World) (hS : Sl w A n c l) (hd : i64 d) :
    Calls Try.prog 58 #[.slice A n c, .int .i64 d] w (Ret (massV l d) w) := by
  have hpe : polyE l = checkE l := (check_eq_poly l).symm
  by_cases hE : checkE l = 0
  · obtain ⟨h8, h3, hw, _⟩ := checkE_zero hE
    have hn := hS.len
    subst hn
    have hcap := hS.cap
    rw [hE] at hpe
    have HE := hid hE
    have HPE := hid hpe
    have HS := hid hS
    have HW := hid hw
    have HD := hid hd
    have d1 := hd.1
    have d2 := hd.2
    clear hE hS hw hd hpe
    go_enter Try.func58, Try.ntmps58
    go_wp2_with fail
    refine (rpoly_calls _ _ _ l _ (HS.out.alloc _)).mono ?_
    rintro e w1 ⟨rfl, hb1⟩
    rw [HPE.out]
    have HS1 := hid ((HS.out.alloc _).below hb1)
    have HT1 := hid (There.below hb1 (There.fresh2 rfl rfl))
    have hB1 : Below w.heap.size w w1 := keepBelow hb1 (by go_grown)
    clear hb1 HS
    go_wp2_with fail
    refine (containsFunc_any _ (fun p => !withinB 2097152 p.1 p.2) cf_rmass1 rmass1_calls _ _ _ l _ HS1.out).mono ?_
    rintro e w1' ⟨rfl, hb1⟩
    rw [any_not]
    have HS2 := hid (HS1.out.below hb1)
    have HT2 := hid (There.below hb1 HT1.out)
    have hB2 : Below w.heap.size w w1' := keepBelow hb1 hB1
    clear hb1 HS1 HT1 hB1
    by_cases hbad : allWithin 2097152 l = false ∨ d < 1 ∨ 1048576 < d
    · have he : ofE l d = 1 := by
        unfold ofE
        rw [if_neg (by simp [HE.out]), if_pos hbad]
      have HR := hid (massV_bad he (by omega))
      obtain ⟨z0, z1, y0, y1', f0, f1⟩ := HT2.out.get2
      have hl9 := lt_of_cell y0
      clear he
      cases hall : allWithin 2097152 l with
      | false =>
        clear hbad hall
        go_wp2
        refine bodyPost_ret (v := .tuple #[.int .i64 0, .int .i64 0, vecV 0 0, .int .i64 1]) (by simp [results, Try.results58, go_sem, y0, y1', hl9]) rfl ⟨by rw [HR.out], ?_⟩
        go_grown
      | true =>
        rw [hall] at hbad
        clear hall
        by_cases hd1 : d < 1
        · clear hbad
          go_wp2
          refine bodyPost_ret (v := .tuple #[.int .i64 0, .int .i64 0, vecV 0 0, .int .i64 1]) (by simp [results, Try.results58, go_sem, y0, y1', hl9]) rfl ⟨by rw [HR.out], ?_⟩
          go_grown
        · have hd2 : 1048576 < d := by rcases hbad with h | h | h <;> first | (simp at h; done) | omega
          clear hbad
          go_wp2
          refine bodyPost_ret (v := .tuple #[.int .i64 0, .int .i64 0, vecV 0 0, .int .i64 1]) (by simp [results, Try.results58, go_sem, y0, y1', hl9]) rfl ⟨by rw [HR.out], ?_⟩
          go_grown
    · have hall : allWithin 2097152 l = true := by
        rcases Bool.eq_false_or_eq_true (allWithin 2097152 l) with h | h
        · exact h
        · exact absurd (.inl h) hbad
      have hd1 : ¬ d < 1 := fun h => hbad (.inr (.inl h))
      have hd2 : ¬ 1048576 < d := fun h => hbad (.inr (.inr h))
      have HW2 := hid hall
      rw [hall]
      clear hall hbad
      have har : 0 < areaZ l ∧ areaZ l ≤ 300000000000000000 := ⟨area_pos HE.out, by have := areaTo_bd HW.out (l.length - 2) (by omega); unfold areaZ; omega⟩
      have hab := hid har
      clear har
      obtain ⟨u, hu⟩ : ∃ u, u = (cenQ l).1 := ⟨_, rfl⟩
      obtain ⟨v, hv⟩ : ∃ v, v = (cenQ l).2 := ⟨_, rfl⟩
      have hcb := withinB_iff.1 (cenQ_bd HE.out)
      rw [← hu, ← hv] at hcb
      obtain ⟨c1, c2, c3, c4⟩ := hcb
      have HU2 := hid hu
      have HV2 := hid hv
      clear hu hv
      obtain ⟨M, hM⟩ : ∃ M, M = movL l (-u) (-v) := ⟨_, rfl⟩
      have hMl : M.length = l.length := by rw [hM, movL_len]
      have HMW : Hid (allWithin 68000000 M = true) := by
        rw [hM]
        exact within_le (within_movL HW2.out (n := 65536000) (by omega) (by omega)) (by omega)
      have HM := hid hM
      have HML := hid hMl
      clear hM hMl
      go_wp2_with fail
      refine (rcentre_calls _ _ _ l _ HS2.out HE.out).mono ?_
      rintro e w2 ⟨rfl, hb2⟩
      rw [← HU2.out, ← HV2.out]
      have HS3 := hid (HS2.out.below hb2)
      have HT3 := hid (There.below hb2 HT2.out)
      have hB3 := keepBelow hb2 hB2
      clear hb2 HS2 HT2 hB2
      go_wp2_with fail
      refine (rmoved_calls _ _ _ l u v _ ((HS3.out.alloc _).alloc _) (by omega) (by omega) (by omega) HW.out).mono ?_
      rintro e w3 ⟨A', n', c'', rfl, hS3, hfr, hb3⟩
      have hsz3 := hb3.size
      simp at hsz3
      rw [HM.out.symm] at hS3
      obtain ⟨bM, oM, rfl, hCM⟩ := hS3.at_ (by intro h; have := HML.out; rw [h] at this; simp at this; omega)
      have hbM := hfr bM oM rfl
      have hn3 := hS3.len
      rw [HML.out] at hn3
      subst hn3
      have hcap3 := hS3.cap
      have HCM0 := hid hCM
      have hgM : w2.heap.size + 2 ≤ bM := by simpa using hbM
      have k1 := keepCell (b := w2.heap.size) (o := 0) (v := .int .i64 u) hb3 (by go_simp)
      have k2 := keepCell (b := w2.heap.size) (o := 1) (v := .int .i64 v) hb3 (by go_simp)
      have HX0 := hid (keepBlk hb3 (Blk8.fresh (w := w2.alloc _) (g := w2.heap.size + 1) (by simp)))
      have HT4 := hid (There.below hb3 ((HT3.out.alloc _).alloc _))
      have HS4 := hid (((HS3.out.alloc _).alloc _).below hb3)
      have hB4 : Below w2.heap.size w2 w3 := keepBelow hb3 (by go_grown)
      have K1 := hid k1
      have K2 := hid k2
      clear hS3 hCM hfr hbM hb3 HT3 k1 k2
      go_wp2_with fail
      have hz : (fun _ => 0) = digs 0 := by funext j; simp [digs]
      rw [hz] at HX0
      have HX1 : Hid (Blk8 w3 (w2.heap.size + 1) (digs 0)) := HX0
      clear hz HX0
      go_loopw [45] (fun i wr => ∃ k : Nat, k ≤ l.length ∧ i = .int .i64 k ∧ Blk8 wr (w2.heap.size + 1) (digs (sumTo (secL M) k)) ∧ wr.cell? ⟨w2.heap.size, 0, none⟩ = some (.int .i64 u) ∧ wr.cell? ⟨w2.heap.size, 1, none⟩ = some (.int .i64 v) ∧ Cells wr bM oM M ∧ There wr w.heap.size 2 ∧ Below w2.heap.size w2 wr) (fun i _ => l.length - (intOf i).toNat)
      case atStart => exact ⟨0, by omega, rfl, HX1.out, K1.out, K2.out, HCM0.out, HT4.out, hB4⟩
      case round =>
        obtain ⟨k, hk, rfl, hX, ku, kv, hCk, hT, hB⟩ := hrel
        obtain ⟨wo, rfl⟩ : ∃ wo : World, wo = wr := ⟨_, rfl⟩
        have HT5 := hid hT
        have HX2 := hid hX
        have HCM := hid hCk
        have hB5 : Below w.heap.size w wo := keepBelow hB hB3
        have hz1 := hX.lt
        have hzM := hCk.lt
        have hz0 := lt_of_cell ku
        clear hT hX HX1 K1 K2 HCM0 HT4 hB4 hCk
        by_cases hlt : k < l.length
        · obtain ⟨X, hXe⟩ : ∃ X, X = sumTo (secL M) k := ⟨_, rfl⟩
          obtain ⟨j, hje⟩ : ∃ j, j = (k + 1) % l.length := ⟨_, rfl⟩
          have hj : j < l.length := by rw [hje]; exact Nat.mod_lt _ (by omega)
          have hji : ((k : Int) + 1) % (l.length : Int) = (j : Int) := by rw [hje]; simp
          have hji2 : (((k : Int) + 1) % (l.length : Int)).toNat = j := by omega
          have hji3 : ((k : Int) + 1) % (l.length : Int) < (l.length : Int) := by omega
          have hji4 : 0 ≤ ((k : Int) + 1) % (l.length : Int) := by omega
          have hkM : k < M.length := by rw [HML.out]; exact hlt
          have hjM : j < M.length := by rw [HML.out]; exact hj
          have hx := HCM.out.x k hkM
          have hy := HCM.out.y k hkM
          have hx2 := HCM.out.x j hjM
          have hy2 := HCM.out.y j hjM
          obtain ⟨q1, q2, q3, q4⟩ := withinB_iff.1 (allWithin_at HMW.out hkM)
          obtain ⟨q5, q6, q7, q8⟩ := withinB_iff.1 (allWithin_at HMW.out hjM)
          obtain ⟨p, hp⟩ : ∃ p, p = px M k := ⟨_, rfl⟩
          obtain ⟨q, hq⟩ : ∃ q, q = py M k := ⟨_, rfl⟩
          obtain ⟨r, hr⟩ : ∃ r, r = px M j := ⟨_, rfl⟩
          obtain ⟨s, hs⟩ : ∃ s, s = py M j := ⟨_, rfl⟩
          have hstep : Hid (sumTo (secL M) (k + 1) = X + (p * s - q * r) * (p * p + q * q + (p * r + q * s) + (r * r + s * s))) := by
            show sumTo (secL M) k + secL M k = _
            have e : secL M k = crsZ p q r s * (p * p + p * r + r * r + q * q + q * s + s * s) := by rw [hp, hq, hr, hs, hje, ← HML.out]; rfl
            rw [← hXe, e]
            unfold crsZ
            grind
          rw [← hp] at hx q1 q2
          rw [← hq] at hy q3 q4
          rw [← hr] at hx2 q5 q6
          rw [← hs] at hy2 q7 q8
          have IP : Hid (-9223372036854775808 ≤ p ∧ p ≤ 9223372036854775807) := by show _ ∧ _; omega
          have IQ : Hid (-9223372036854775808 ≤ q ∧ q ≤ 9223372036854775807) := by show _ ∧ _; omega
          have IR : Hid (-9223372036854775808 ≤ r ∧ r ≤ 9223372036854775807) := by show _ ∧ _; omega
          have IS : Hid (-9223372036854775808 ≤ s ∧ s ≤ 9223372036854775807) := by show _ ∧ _; omega
          rw [← hXe] at HX2
          clear hXe hp hq hr hs hje hkM hjM q1 q2 q3 q4 q5 q6 q7 q8
          obtain ⟨wg, hwg⟩ : ∃ wg, wg = (wo.alloc (.cells #[.int .i64 p, .int .i64 q] 24)).alloc (.cells #[.int .i64 r, .int .i64 s] 24) := ⟨_, rfl⟩
          have p1 : wg.cell? ⟨wo.heap.size, 0, none⟩ = some (.int .i64 p) := by rw [hwg]; go_simp
          have p2 : wg.cell? ⟨wo.heap.size, 1, none⟩ = some (.int .i64 q) := by rw [hwg]; go_simp
          have p3 : wg.cell? ⟨wo.heap.size + 1, 0, none⟩ = some (.int .i64 r) := by rw [hwg]; go_simp
          have p4 : wg.cell? ⟨wo.heap.size + 1, 1, none⟩ = some (.int .i64 s) := by rw [hwg]; go_simp
          have k1 : wg.cell? ⟨w2.heap.size, 0, none⟩ = some (.int .i64 u) := by rw [hwg]; go_simp
          have k2 : wg.cell? ⟨w2.heap.size, 1, none⟩ = some (.int .i64 v) := by rw [hwg]; go_simp
          have HX : Hid (Blk8 wg (w2.heap.size + 1) (digs X)) := by rw [hwg]; exact (HX2.out.later _).later _
          have HT : Hid (There wg w.heap.size 2) := by rw [hwg]; exact (HT5.out.alloc _).alloc _
          have hCg : Cells wg bM oM M := by rw [hwg]; exact (HCM.out.below ((Below.refl _ _).alloc (Nat.le_refl _) _)).below ((Below.refl _ _).alloc (Nat.le_refl _) _)
          have hBg : Below w2.heap.size w2 wg := by rw [hwg]; exact (hB.alloc hB.size _).alloc (by have := hB.size; simp; omega) _
          have HWG := hid hwg
          have HCM2 := hid hCg.drew
          clear hCg hwg HCM HX2 HT5
          go_upto_region 13 with fail
          rw [← HWG.out]
          clear HWG hx hy hx2 hy2 ku kv
          have hgp2 : w2.heap.size + 2 ≤ wo.heap.size := by omega
          have HCM := HCM2
          clear HCM2
--R13--
          refine wp_region_noPanic ?_
          refine wp_region_U (S := (S2 (fun w' => Blk8 w' (w2.heap.size + 1) (digs X) ∧ w'.cell? ⟨wo.heap.size, 0, none⟩ = some (.int .i64 (p)) ∧ w'.cell? ⟨wo.heap.size, 1, none⟩ = some (.int .i64 (q)) ∧ w'.cell? ⟨wo.heap.size + 1, 0, none⟩ = some (.int .i64 (r)) ∧ w'.cell? ⟨wo.heap.size + 1, 1, none⟩ = some (.int .i64 (s)) ∧ w'.cell? ⟨w2.heap.size, 0, none⟩ = some (.int .i64 (u)) ∧ w'.cell? ⟨w2.heap.size, 1, none⟩ = some (.int .i64 (v)) ∧ Cells w' bM oM M ∧ There w' (w.heap.size) 2 ∧ Below w2.heap.size w2 w'))) (T := (fun j => [0, 0, 0, 0, 0, 0, 0, 0, 0, 0, 0, 0, 0, 0, 0, 0, 0, 1].getD j 0)) (by kernel_rfl) (S2i0 ⟨HX.out.drew, p1, p2, p3, p4, k1, k2, HCM.out, HT.out, hBg.drew⟩) (fun hH => ?_)
          have hWr1 : Weaker (S2 (fun w' => Blk8 w' (w2.heap.size + 1) (digs X) ∧ w'.cell? ⟨wo.heap.size, 0, none⟩ = some (.int .i64 (p)) ∧ w'.cell? ⟨wo.heap.size, 1, none⟩ = some (.int .i64 (q)) ∧ w'.cell? ⟨wo.heap.size + 1, 0, none⟩ = some (.int .i64 (r)) ∧ w'.cell? ⟨wo.heap.size + 1, 1, none⟩ = some (.int .i64 (s)) ∧ w'.cell? ⟨w2.heap.size, 0, none⟩ = some (.int .i64 (u)) ∧ w'.cell? ⟨w2.heap.size, 1, none⟩ = some (.int .i64 (v)) ∧ Cells w' bM oM M ∧ There w' (w.heap.size) 2 ∧ Below w2.heap.size w2 w')) := weaker2 _
          refine U_take 0 58 17 0 0 (v := ?vr1_1) rfl (by kernel_rfl) (by kernel_rfl) hWr1 (by kernel_rfl) (by kernel_rfl) (by kernel_rfl) (by kernel_rfl) (by kernel_rfl) (by kernel_rfl) (fun _ _ _ _ h => h) (by kernel_rfl) ?hyr1_1 (by omega) hH ?_
          case hyr1_1 => (intro w' hSw; replace hSw := S2o0 hSw; (try dsimp only at hSw); have q0 := hSw.1; have q1 := hSw.2.1; have q2 := hSw.2.2.1; have q3 := hSw.2.2.2.1; have q4 := hSw.2.2.2.2.1; have q5 := hSw.2.2.2.2.2.1; have q6 := hSw.2.2.2.2.2.2.1; have q7 := hSw.2.2.2.2.2.2.2.1; have q8 := hSw.2.2.2.2.2.2.2.2.1; have q9 := hSw.2.2.2.2.2.2.2.2.2; obtain ⟨qa0_0, qa0_1, qa0_2, qa0_3, qa0_4, qa0_5, qa0_6, qa0_7⟩ := Blk8.all q0; go_simp; try (with_reducible rfl))
          simp only [List.set_cons_zero, List.set_cons_succ]
          refine U_take 1 59 16 0 0 (v := ?vr1_2) rfl (by kernel_rfl) (by kernel_rfl) hWr1 (by kernel_rfl) (by kernel_rfl) (by kernel_rfl) (by kernel_rfl) (by kernel_rfl) (by kernel_rfl) (fun _ _ _ _ h => h) (by kernel_rfl) ?hyr1_2 (by omega) hH ?_
          case hyr1_2 => (intro w' hSw; replace hSw := S2o0 hSw; (try dsimp only at hSw); have q0 := hSw.1; have q1 := hSw.2.1; have q2 := hSw.2.2.1; have q3 := hSw.2.2.2.1; have q4 := hSw.2.2.2.2.1; have q5 := hSw.2.2.2.2.2.1; have q6 := hSw.2.2.2.2.2.2.1; have q7 := hSw.2.2.2.2.2.2.2.1; have q8 := hSw.2.2.2.2.2.2.2.2.1; have q9 := hSw.2.2.2.2.2.2.2.2.2; obtain ⟨qa0_0, qa0_1, qa0_2, qa0_3, qa0_4, qa0_5, qa0_6, qa0_7⟩ := Blk8.all q0; go_simp; try (with_reducible rfl))
          simp only [List.set_cons_zero, List.set_cons_succ]
          refine U_take 2 60 15 0 0 (v := ?vr1_3) rfl (by kernel_rfl) (by kernel_rfl) hWr1 (by kernel_rfl) (by kernel_rfl) (by kernel_rfl) (by kernel_rfl) (by kernel_rfl) (by kernel_rfl) (fun _ _ _ _ h => h) (by kernel_rfl) ?hyr1_3 (by omega) hH ?_
          case hyr1_3 => (intro w' hSw; replace hSw := S2o0 hSw; (try dsimp only at hSw); have q0 := hSw.1; have q1 := hSw.2.1; have q2 := hSw.2.2.1; have q3 := hSw.2.2.2.1; have q4 := hSw.2.2.2.2.1; have q5 := hSw.2.2.2.2.2.1; have q6 := hSw.2.2.2.2.2.2.1; have q7 := hSw.2.2.2.2.2.2.2.1; have q8 := hSw.2.2.2.2.2.2.2.2.1; have q9 := hSw.2.2.2.2.2.2.2.2.2; obtain ⟨qa0_0, qa0_1, qa0_2, qa0_3, qa0_4, qa0_5, qa0_6, qa0_7⟩ := Blk8.all q0; go_simp; try (with_reducible rfl))
          simp only [List.set_cons_zero, List.set_cons_succ]
          refine U_take 4 62 14 0 0 (v := ?vr1_4) rfl (by kernel_rfl) (by kernel_rfl) hWr1 (by kernel_rfl) (by kernel_rfl) (by kernel_rfl) (by kernel_rfl) (by kernel_rfl) (by kernel_rfl) (fun _ _ _ _ h => h) (by kernel_rfl) ?hyr1_4 (by omega) hH ?_
          case hyr1_4 => (intro w' hSw; replace hSw := S2o0 hSw; (try dsimp only at hSw); have q0 := hSw.1; have q1 := hSw.2.1; have q2 := hSw.2.2.1; have q3 := hSw.2.2.2.1; have q4 := hSw.2.2.2.2.1; have q5 := hSw.2.2.2.2.2.1; have q6 := hSw.2.2.2.2.2.2.1; have q7 := hSw.2.2.2.2.2.2.2.1; have q8 := hSw.2.2.2.2.2.2.2.2.1; have q9 := hSw.2.2.2.2.2.2.2.2.2; obtain ⟨qa0_0, qa0_1, qa0_2, qa0_3, qa0_4, qa0_5, qa0_6, qa0_7⟩ := Blk8.all q0; go_simp; try (with_reducible rfl))
          simp only [List.set_cons_zero, List.set_cons_succ]
          refine U_take 5 63 13 0 0 (v := ?vr1_5) rfl (by kernel_rfl) (by kernel_rfl) hWr1 (by kernel_rfl) (by kernel_rfl) (by kernel_rfl) (by kernel_rfl) (by kernel_rfl) (by kernel_rfl) (fun _ _ _ _ h => h) (by kernel_rfl) ?hyr1_5 (by omega) hH ?_
          case hyr1_5 => (intro w' hSw; replace hSw := S2o0 hSw; (try dsimp only at hSw); have q0 := hSw.1; have q1 := hSw.2.1; have q2 := hSw.2.2.1; have q3 := hSw.2.2.2.1; have q4 := hSw.2.2.2.2.1; have q5 := hSw.2.2.2.2.2.1; have q6 := hSw.2.2.2.2.2.2.1; have q7 := hSw.2.2.2.2.2.2.2.1; have q8 := hSw.2.2.2.2.2.2.2.2.1; have q9 := hSw.2.2.2.2.2.2.2.2.2; obtain ⟨qa0_0, qa0_1, qa0_2, qa0_3, qa0_4, qa0_5, qa0_6, qa0_7⟩ := Blk8.all q0; go_simp; try (with_reducible rfl))
          simp only [List.set_cons_zero, List.set_cons_succ]
          refine U_take 7 65 12 0 0 (v := ?vr1_6) rfl (by kernel_rfl) (by kernel_rfl) hWr1 (by kernel_rfl) (by kernel_rfl) (by kernel_rfl) (by kernel_rfl) (by kernel_rfl) (by kernel_rfl) (fun _ _ _ _ h => h) (by kernel_rfl) ?hyr1_6 (by omega) hH ?_
          case hyr1_6 => (intro w' hSw; replace hSw := S2o0 hSw; (try dsimp only at hSw); have q0 := hSw.1; have q1 := hSw.2.1; have q2 := hSw.2.2.1; have q3 := hSw.2.2.2.1; have q4 := hSw.2.2.2.2.1; have q5 := hSw.2.2.2.2.2.1; have q6 := hSw.2.2.2.2.2.2.1; have q7 := hSw.2.2.2.2.2.2.2.1; have q8 := hSw.2.2.2.2.2.2.2.2.1; have q9 := hSw.2.2.2.2.2.2.2.2.2; obtain ⟨qa0_0, qa0_1, qa0_2, qa0_3, qa0_4, qa0_5, qa0_6, qa0_7⟩ := Blk8.all q0; go_simp; try (with_reducible rfl))
          simp only [List.set_cons_zero, List.set_cons_succ]
          refine U_take 8 66 11 0 0 (v := ?vr1_7) rfl (by kernel_rfl) (by kernel_rfl) hWr1 (by kernel_rfl) (by kernel_rfl) (by kernel_rfl) (by kernel_rfl) (by kernel_rfl) (by kernel_rfl) (fun _ _ _ _ h => h) (by kernel_rfl) ?hyr1_7 (by omega) hH ?_
          case hyr1_7 => (intro w' hSw; replace hSw := S2o0 hSw; (try dsimp only at hSw); have q0 := hSw.1; have q1 := hSw.2.1; have q2 := hSw.2.2.1; have q3 := hSw.2.2.2.1; have q4 := hSw.2.2.2.2.1; have q5 := hSw.2.2.2.2.2.1; have q6 := hSw.2.2.2.2.2.2.1; have q7 := hSw.2.2.2.2.2.2.2.1; have q8 := hSw.2.2.2.2.2.2.2.2.1; have q9 := hSw.2.2.2.2.2.2.2.2.2; obtain ⟨qa0_0, qa0_1, qa0_2, qa0_3, qa0_4, qa0_5, qa0_6, qa0_7⟩ := Blk8.all q0; go_simp; try (with_reducible rfl))
          simp only [List.set_cons_zero, List.set_cons_succ]
          refine U_take 11 69 10 0 0 (v := ?vr1_8) rfl (by kernel_rfl) (by kernel_rfl) hWr1 (by kernel_rfl) (by kernel_rfl) (by kernel_rfl) (by kernel_rfl) (by kernel_rfl) (by kernel_rfl) (fun _ _ _ _ h => h) (by kernel_rfl) ?hyr1_8 (by omega) hH ?_
          case hyr1_8 => (intro w' hSw; replace hSw := S2o0 hSw; (try dsimp only at hSw); have q0 := hSw.1; have q1 := hSw.2.1; have q2 := hSw.2.2.1; have q3 := hSw.2.2.2.1; have q4 := hSw.2.2.2.2.1; have q5 := hSw.2.2.2.2.2.1; have q6 := hSw.2.2.2.2.2.2.1; have q7 := hSw.2.2.2.2.2.2.2.1; have q8 := hSw.2.2.2.2.2.2.2.2.1; have q9 := hSw.2.2.2.2.2.2.2.2.2; obtain ⟨qa0_0, qa0_1, qa0_2, qa0_3, qa0_4, qa0_5, qa0_6, qa0_7⟩ := Blk8.all q0; go_simp; try (with_reducible rfl))
          simp only [List.set_cons_zero, List.set_cons_succ]
          refine U_take 12 70 9 0 0 (v := ?vr1_9) rfl (by kernel_rfl) (by kernel_rfl) hWr1 (by kernel_rfl) (by kernel_rfl) (by kernel_rfl) (by kernel_rfl) (by kernel_rfl) (by kernel_rfl) (fun _ _ _ _ h => h) (by kernel_rfl) ?hyr1_9 (by omega) hH ?_
          case hyr1_9 => (intro w' hSw; replace hSw := S2o0 hSw; (try dsimp only at hSw); have q0 := hSw.1; have q1 := hSw.2.1; have q2 := hSw.2.2.1; have q3 := hSw.2.2.2.1; have q4 := hSw.2.2.2.2.1; have q5 := hSw.2.2.2.2.2.1; have q6 := hSw.2.2.2.2.2.2.1; have q7 := hSw.2.2.2.2.2.2.2.1; have q8 := hSw.2.2.2.2.2.2.2.2.1; have q9 := hSw.2.2.2.2.2.2.2.2.2; obtain ⟨qa0_0, qa0_1, qa0_2, qa0_3, qa0_4, qa0_5, qa0_6, qa0_7⟩ := Blk8.all q0; go_simp; try (with_reducible rfl))
          simp only [List.set_cons_zero, List.set_cons_succ]
          refine wpAnyU_ready (rs := [3]) (by kernel_rfl) (by simp) ?_
          refine AllReadyU.cons 0 (by kernel_rfl) (o := _) rfl (fun K hK => ?_) AllReadyU.nil
          try clear hb
          go_simp
          (go_at_call 44; refine (rcross_calls p q r s IP.out IQ.out IR.out IS.out _).mono ?_; rintro e wn ⟨rfl, hb⟩)
          refine hK.out _ _ ?hsr1_10 (fun hH2 => ?hrr1_10)
          case hsr1_10 => exact S2i0 (by have hG := hH; replace hG := S2o0 hG; (try dsimp only at hG); have q0 := hG.1; have q1 := hG.2.1; have q2 := hG.2.2.1; have q3 := hG.2.2.2.1; have q4 := hG.2.2.2.2.1; have q5 := hG.2.2.2.2.2.1; have q6 := hG.2.2.2.2.2.2.1; have q7 := hG.2.2.2.2.2.2.2.1; have q8 := hG.2.2.2.2.2.2.2.2.1; have q9 := hG.2.2.2.2.2.2.2.2.2; exact ⟨keepBlk hb q0, keepCell hb q1, keepCell hb q2, keepCell hb q3, keepCell hb q4, keepCell hb q5, keepCell hb q6, keepCells hb q7, There.below hb q8, keepBelow hb q9⟩)
          clear hK K hH
          have hH := hH2
          clear hH2
          try simp only [Act.put, List.setIfInBounds_toArray, List.set_cons_zero, List.set_cons_succ]
          refine wpAnyU_ready (rs := [6]) (by kernel_rfl) (by simp) ?_
          refine AllReadyU.cons 0 (by kernel_rfl) (o := _) rfl (fun K hK => ?_) AllReadyU.nil
          try clear hb
          go_simp
          (go_at_call 42; refine (rdot_calls p q p q IP.out IQ.out IP.out IQ.out _).mono ?_; rintro e wn ⟨rfl, hb⟩)
          refine hK.out _ _ ?hsr1_11 (fun hH2 => ?hrr1_11)
          case hsr1_11 => exact S2i0 (by have hG := hH; replace hG := S2o0 hG; (try dsimp only at hG); have q0 := hG.1; have q1 := hG.2.1; have q2 := hG.2.2.1; have q3 := hG.2.2.2.1; have q4 := hG.2.2.2.2.1; have q5 := hG.2.2.2.2.2.1; have q6 := hG.2.2.2.2.2.2.1; have q7 := hG.2.2.2.2.2.2.2.1; have q8 := hG.2.2.2.2.2.2.2.2.1; have q9 := hG.2.2.2.2.2.2.2.2.2; exact ⟨keepBlk hb q0, keepCell hb q1, keepCell hb q2, keepCell hb q3, keepCell hb q4, keepCell hb q5, keepCell hb q6, keepCells hb q7, There.below hb q8, keepBelow hb q9⟩)
          clear hK K hH
          have hH := hH2
          clear hH2
          try simp only [Act.put, List.setIfInBounds_toArray, List.set_cons_zero, List.set_cons_succ]
          refine wpAnyU_ready (rs := [9]) (by kernel_rfl) (by simp) ?_
          refine AllReadyU.cons 0 (by kernel_rfl) (o := _) rfl (fun K hK => ?_) AllReadyU.nil
          try clear hb
          go_simp
          (go_at_call 42; refine (rdot_calls p q r s IP.out IQ.out IR.out IS.out _).mono ?_; rintro e wn ⟨rfl, hb⟩)
          refine hK.out _ _ ?hsr1_12 (fun hH2 => ?hrr1_12)
          case hsr1_12 => exact S2i0 (by have hG := hH; replace hG := S2o0 hG; (try dsimp only at hG); have q0 := hG.1; have q1 := hG.2.1; have q2 := hG.2.2.1; have q3 := hG.2.2.2.1; have q4 := hG.2.2.2.2.1; have q5 := hG.2.2.2.2.2.1; have q6 := hG.2.2.2.2.2.2.1; have q7 := hG.2.2.2.2.2.2.2.1; have q8 := hG.2.2.2.2.2.2.2.2.1; have q9 := hG.2.2.2.2.2.2.2.2.2; exact ⟨keepBlk hb q0, keepCell hb q1, keepCell hb q2, keepCell hb q3, keepCell hb q4, keepCell hb q5, keepCell hb q6, keepCells hb q7, There.below hb q8, keepBelow hb q9⟩)
          clear hK K hH
          have hH := hH2
          clear hH2
          try simp only [Act.put, List.setIfInBounds_toArray, List.set_cons_zero, List.set_cons_succ]
          refine wpAnyU_ready (rs := [10]) (by kernel_rfl) (by simp) ?_
          refine AllReadyU.cons 0 (by kernel_rfl) (o := _) rfl (fun K hK => ?_) AllReadyU.nil
          try clear hb
          go_simp
          (go_at_call 39; refine (add_calls (p * p + q * q) (p * r + q * s) _).mono ?_; rintro e wn ⟨rfl, hb⟩)
          refine hK.out _ _ ?hsr1_13 (fun hH2 => ?hrr1_13)
          case hsr1_13 => exact S2i0 (by have hG := hH; replace hG := S2o0 hG; (try dsimp only at hG); have q0 := hG.1; have q1 := hG.2.1; have q2 := hG.2.2.1; have q3 := hG.2.2.2.1; have q4 := hG.2.2.2.2.1; have q5 := hG.2.2.2.2.2.1; have q6 := hG.2.2.2.2.2.2.1; have q7 := hG.2.2.2.2.2.2.2.1; have q8 := hG.2.2.2.2.2.2.2.2.1; have q9 := hG.2.2.2.2.2.2.2.2.2; exact ⟨keepBlk hb q0, keepCell hb q1, keepCell hb q2, keepCell hb q3, keepCell hb q4, keepCell hb q5, keepCell hb q6, keepCells hb q7, There.below hb q8, keepBelow hb q9⟩)
          clear hK K hH
          have hH := hH2
          clear hH2
          try simp only [Act.put, List.setIfInBounds_toArray, List.set_cons_zero, List.set_cons_succ]
          refine wpAnyU_ready (rs := [13]) (by kernel_rfl) (by simp) ?_
          refine AllReadyU.cons 0 (by kernel_rfl) (o := _) rfl (fun K hK => ?_) AllReadyU.nil
          try clear hb
          go_simp
          (go_at_call 42; refine (rdot_calls r s r s IR.out IS.out IR.out IS.out _).mono ?_; rintro e wn ⟨rfl, hb⟩)
          refine hK.out _ _ ?hsr1_14 (fun hH2 => ?hrr1_14)
          case hsr1_14 => exact S2i0 (by have hG := hH; replace hG := S2o0 hG; (try dsimp only at hG); have q0 := hG.1; have q1 := hG.2.1; have q2 := hG.2.2.1; have q3 := hG.2.2.2.1; have q4 := hG.2.2.2.2.1; have q5 := hG.2.2.2.2.2.1; have q6 := hG.2.2.2.2.2.2.1; have q7 := hG.2.2.2.2.2.2.2.1; have q8 := hG.2.2.2.2.2.2.2.2.1; have q9 := hG.2.2.2.2.2.2.2.2.2; exact ⟨keepBlk hb q0, keepCell hb q1, keepCell hb q2, keepCell hb q3, keepCell hb q4, keepCell hb q5, keepCell hb q6, keepCells hb q7, There.below hb q8, keepBelow hb q9⟩)
          clear hK K hH
          have hH := hH2
          clear hH2
          try simp only [Act.put, List.setIfInBounds_toArray, List.set_cons_zero, List.set_cons_succ]
          refine wpAnyU_ready (rs := [14]) (by kernel_rfl) (by simp) ?_
          refine AllReadyU.cons 0 (by kernel_rfl) (o := _) rfl (fun K hK => ?_) AllReadyU.nil
          try clear hb
          go_simp
          (go_at_call 39; refine (add_calls (p * p + q * q + (p * r + q * s)) (r * r + s * s) _).mono ?_; rintro e wn ⟨rfl, hb⟩)
          refine hK.out _ _ ?hsr1_15 (fun hH2 => ?hrr1_15)
          case hsr1_15 => exact S2i0 (by have hG := hH; replace hG := S2o0 hG; (try dsimp only at hG); have q0 := hG.1; have q1 := hG.2.1; have q2 := hG.2.2.1; have q3 := hG.2.2.2.1; have q4 := hG.2.2.2.2.1; have q5 := hG.2.2.2.2.2.1; have q6 := hG.2.2.2.2.2.2.1; have q7 := hG.2.2.2.2.2.2.2.1; have q8 := hG.2.2.2.2.2.2.2.2.1; have q9 := hG.2.2.2.2.2.2.2.2.2; exact ⟨keepBlk hb q0, keepCell hb q1, keepCell hb q2, keepCell hb q3, keepCell hb q4, keepCell hb q5, keepCell hb q6, keepCells hb q7, There.below hb q8, keepBelow hb q9⟩)
          clear hK K hH
          have hH := hH2
          clear hH2
          try simp only [Act.put, List.setIfInBounds_toArray, List.set_cons_zero, List.set_cons_succ]
          refine wpAnyU_ready (rs := [15]) (by kernel_rfl) (by simp) ?_
          refine AllReadyU.cons 0 (by kernel_rfl) (o := _) rfl (fun K hK => ?_) AllReadyU.nil
          try clear hb
          go_simp
          (go_at_call 37; refine (mul_calls (p * s - q * r) (p * p + q * q + (p * r + q * s) + (r * r + s * s)) _).mono ?_; rintro e wn ⟨rfl, hb⟩)
          refine hK.out _ _ ?hsr1_16 (fun hH2 => ?hrr1_16)
          case hsr1_16 => exact S2i0 (by have hG := hH; replace hG := S2o0 hG; (try dsimp only at hG); have q0 := hG.1; have q1 := hG.2.1; have q2 := hG.2.2.1; have q3 := hG.2.2.2.1; have q4 := hG.2.2.2.2.1; have q5 := hG.2.2.2.2.2.1; have q6 := hG.2.2.2.2.2.2.1; have q7 := hG.2.2.2.2.2.2.2.1; have q8 := hG.2.2.2.2.2.2.2.2.1; have q9 := hG.2.2.2.2.2.2.2.2.2; exact ⟨keepBlk hb q0, keepCell hb q1, keepCell hb q2, keepCell hb q3, keepCell hb q4, keepCell hb q5, keepCell hb q6, keepCells hb q7, There.below hb q8, keepBelow hb q9⟩)
          clear hK K hH
          have hH := hH2
          clear hH2
          try simp only [Act.put, List.setIfInBounds_toArray, List.set_cons_zero, List.set_cons_succ]
          refine wpAnyU_ready (rs := [16]) (by kernel_rfl) (by simp) ?_
          refine AllReadyU.cons 0 (by kernel_rfl) (o := _) rfl (fun K hK => ?_) AllReadyU.nil
          try clear hb
          go_simp
          (go_at_call 39; refine (add_calls X ((p * s - q * r) * (p * p + q * q + (p * r + q * s) + (r * r + s * s))) _).mono ?_; rintro e wn ⟨rfl, hb⟩)
          refine hK.out _ _ ?hsr1_17 (fun hH2 => ?hrr1_17)
          case hsr1_17 => exact S2i0 (by have hG := hH; replace hG := S2o0 hG; (try dsimp only at hG); have q0 := hG.1; have q1 := hG.2.1; have q2 := hG.2.2.1; have q3 := hG.2.2.2.1; have q4 := hG.2.2.2.2.1; have q5 := hG.2.2.2.2.2.1; have q6 := hG.2.2.2.2.2.2.1; have q7 := hG.2.2.2.2.2.2.2.1; have q8 := hG.2.2.2.2.2.2.2.2.1; have q9 := hG.2.2.2.2.2.2.2.2.2; exact ⟨keepBlk hb q0, keepCell hb q1, keepCell hb q2, keepCell hb q3, keepCell hb q4, keepCell hb q5, keepCell hb q6, keepCells hb q7, There.below hb q8, keepBelow hb q9⟩)
          clear hK K hH
          have hH := hH2
          clear hH2
          try simp only [Act.put, List.setIfInBounds_toArray, List.set_cons_zero, List.set_cons_succ]
          refine wpAnyU_ready (rs := [17]) (by kernel_rfl) (by simp) ?_
          refine AllReadyU.cons 1 (by kernel_rfl) (o := _) rfl (fun K hK => ?_) AllReadyU.nil
          have hG := hH
          replace hG := S2o0 hG; (try dsimp only at hG); have q0 := hG.1; have q1 := hG.2.1; have q2 := hG.2.2.1; have q3 := hG.2.2.2.1; have q4 := hG.2.2.2.2.1; have q5 := hG.2.2.2.2.2.1; have q6 := hG.2.2.2.2.2.2.1; have q7 := hG.2.2.2.2.2.2.2.1; have q8 := hG.2.2.2.2.2.2.2.2.1; have q9 := hG.2.2.2.2.2.2.2.2.2; obtain ⟨qa0_0, qa0_1, qa0_2, qa0_3, qa0_4, qa0_5, qa0_6, qa0_7⟩ := Blk8.all q0
          have qf0 := q0.free
          go_simp
          refine hK.out _ _ ?hsr1_18 (fun hH2 => ?hrr1_18)
          case hsr1_18 => exact S2i1
          clear hK K hH
          have hH := hH2
          clear hH2
          try simp only [Act.put, List.setIfInBounds_toArray, List.set_cons_zero, List.set_cons_succ]
          refine wpAnyU_done (by kernel_rfl) ?_ _ _
          refine NoPanic.normal ?_
          clear hWr1
--R13end--
          clear hH hG
          have HQ0 := hid q0
          have HQ7 := hid q7
          have HQ8 := hid q8
          have h8' := q9
          clear q0 q1 q2 q3 q4 q7 q8 q9 qa0_0 qa0_1 qa0_2 qa0_3 qa0_4 qa0_5 qa0_6 qa0_7 p1 p2 p3 p4 k1 k2
          go_wp2_with fail
          refine ⟨⟨k + 1, hlt, by go_num, by rw [hstep.out]; exact HQ0.out.sets8, by go_simp, by go_simp, HQ7.out.far8 (by omega), HQ8.out.sets8, by go_grown⟩, by simp [intOf]; omega⟩
        · obtain rfl : k = l.length := by omega
          obtain ⟨S, hS⟩ : ∃ S, S = sumTo (secL M) l.length := ⟨_, rfl⟩
          have hSb := sec_bd HMW.out (by rw [HML.out]; exact h8) l.length (by rw [HML.out]; omega)
          rw [← hS] at hSb
          rw [← hS] at HX2
          obtain ⟨x0, x1, x2, x3, x4, x5, x6, x7⟩ := HX2.out.all
          have H2 : Hid (overQ S 51539607552 = secQ l (cenQ l)) := by
            rw [hS, HM.out, HU2.out, HV2.out]; rfl
          clear hS
          go_wp2_with fail
          refine (bover_calls S 51539607552 (by omega) (by omega) (by omega) (by omega) _).mono ?_
          rintro e w4 ⟨rfl, hb4⟩
          rw [H2.out]
          have k1 := keepCell hb4 ku
          have k2 := keepCell hb4 kv
          have HT6 := hid (There.below hb4 HT5.out)
          have hB6 := keepBelow hb4 hB5
          have hB2' := keepBelow hb4 hB
          clear x0 x1 x2 x3 x4 x5 x6 x7 hb4 ku kv HT5 hB5 HX2 hB HCM
          have hmb := hid (mul_bd (x := areaZ l) (y := d) (M := 300000000000000000) (N := 1048576) (by have := hab.out; omega) (by have := hab.out; omega) (by omega) (by omega))
          have hsi := hid (overQ_i64 (sumTo (secL (movL l (-(cenQ l).1) (-(cenQ l).2))) l.length) 51539607552)
          have hsi2 : Hid (i64 (secQ l (cenQ l))) := hsi
          have hmb2 := hid (mul_bd (x := secQ l (cenQ l)) (y := d) (M := 9223372036854775808) (N := 1048576) (by have := hsi2.out.1; omega) (by have := hsi2.out.2; omega) (by omega) (by omega))
          have HAE := hid (area_eq l h3)
          go_wp2_with fail
          refine (rarea_calls _ _ _ l _ (HS3.out.below hB2') HW.out h8 (by omega)).mono ?_
          rintro e w5 ⟨rfl, hb5⟩
          rw [← HAE.out]
          clear hB2' HS3
          replace k1 := keepCell hb5 k1
          replace k2 := keepCell hb5 k2
          have HTx5 := hid (There.below hb5 HT6.out)
          have hBx5 := keepBelow hb5 hB6
          clear hb5 HT6 hB6
          go_wp2_with fail
          refine (of_calls (areaZ l) (by have := hab.out; omega) (by have := hab.out; omega) _).mono ?_
          rintro e w6 ⟨rfl, hb6⟩
          replace k1 := keepCell hb6 k1
          replace k2 := keepCell hb6 k2
          have HTx6 := hid (There.below hb6 HTx5.out)
          have hBx6 := keepBelow hb6 hBx5
          clear hb6 HTx5 hBx5
          go_wp2_with fail
          refine (of_calls d (by omega) (by omega) _).mono ?_
          rintro e w7 ⟨rfl, hb7⟩
          replace k1 := keepCell hb7 k1
          replace k2 := keepCell hb7 k2
          have HTx7 := hid (There.below hb7 HTx6.out)
          have hBx7 := keepBelow hb7 hBx6
          clear hb7 HTx6 hBx6
          go_wp2_with fail
          refine (mul_calls (areaZ l) d _).mono ?_
          rintro e w8 ⟨rfl, hb8⟩
          replace k1 := keepCell hb8 k1
          replace k2 := keepCell hb8 k2
          have HTx8 := hid (There.below hb8 HTx7.out)
          have hBx8 := keepBelow hb8 hBx7
          clear hb8 HTx7 hBx7
          go_wp2_with fail
          refine (bover_calls (areaZ l * d) 8589934592 (by have := hmb.out; omega) (by have := hmb.out; omega) (by omega) (by omega) _).mono ?_
          rintro e w9 ⟨rfl, hb9⟩
          replace k1 := keepCell hb9 k1
          replace k2 := keepCell hb9 k2
          have HTx9 := hid (There.below hb9 HTx8.out)
          have hBx9 := keepBelow hb9 hBx8
          clear hb9 HTx8 hBx8
          go_wp2_with fail
          refine (of_calls (secQ l (cenQ l)) (by have := hsi2.out.1; omega) (by have := hsi2.out.2; omega) _).mono ?_
          rintro e w10 ⟨rfl, hb10⟩
          replace k1 := keepCell hb10 k1
          replace k2 := keepCell hb10 k2
          have HTx10 := hid (There.below hb10 HTx9.out)
          have hBx10 := keepBelow hb10 hBx9
          clear hb10 HTx9 hBx9
          go_wp2_with fail
          refine (of_calls d (by omega) (by omega) _).mono ?_
          rintro e w11 ⟨rfl, hb11⟩
          replace k1 := keepCell hb11 k1
          replace k2 := keepCell hb11 k2
          have HTx11 := hid (There.below hb11 HTx10.out)
          have hBx11 := keepBelow hb11 hBx10
          clear hb11 HTx10 hBx10
          go_wp2_with fail
          refine (mul_calls (secQ l (cenQ l)) d _).mono ?_
          rintro e w12 ⟨rfl, hb12⟩
          replace k1 := keepCell hb12 k1
          replace k2 := keepCell hb12 k2
          have HTx12 := hid (There.below hb12 HTx11.out)
          have hBx12 := keepBelow hb12 hBx11
          clear hb12 HTx11 hBx11
          go_wp2_with fail
          refine (bover_calls (secQ l (cenQ l) * d) 4294967296 (by have := hmb2.out; omega) (by have := hmb2.out; omega) (by omega) (by omega) _).mono ?_
          rintro e w13 ⟨rfl, hb13⟩
          replace k1 := keepCell hb13 k1
          replace k2 := keepCell hb13 k2
          have HTx13 := hid (There.below hb13 HTx12.out)
          have hBx13 := keepBelow hb13 hBx12
          clear hb13 HTx12 hBx12
          have HT8 := HTx13
          have hB7 := hBx13
          clear HTx13 hBx13
          obtain ⟨m, hm⟩ : ∃ m, m = massQ l d := ⟨_, rfl⟩
          obtain ⟨i, hi⟩ : ∃ i, i = inerQ l d := ⟨_, rfl⟩
          rw [show overQ (areaZ l * d) 8589934592 = m from hm.symm, show overQ (secQ l (cenQ l) * d) 4294967296 = i from hi.symm]
          have hof : ofE l d = if m = 0 ∨ i = 0 then 17 else if 1099511627776 < m ∨ 1099511627776 < i then 2 else 0 := by
            unfold ofE
            rw [if_neg (by simp [HE.out]), if_neg (by rw [HW2.out]; simp; omega), ← hm, ← hi]
          have HOF := hid hof
          have HMI := hid (And.intro hm hi)
          clear hof hm hi
          obtain ⟨mx, hmx⟩ : ∃ mx, mx = if i > m then i else m := ⟨_, rfl⟩
          have hrun : ∀ (ts : Array TypeId) (t : TypeId) (w : World), (Builtin.max_ ts t #[.int .i64 m, .int .i64 i]).run Try.prog w = .ok (.int .i64 mx) w := fun ts t w => by rw [hmx]; exact run_max_int2 w ts t _ _ _ _
          have HMX : Hid ((i ≤ m ∧ mx = m) ∨ (m < i ∧ mx = i)) := by
            rw [hmx]
            by_cases h : i > m
            · rw [if_pos h]; exact .inr ⟨h, rfl⟩
            · rw [if_neg h]; exact .inl ⟨by omega, rfl⟩
          clear hmx
          by_cases hz0 : m = 0 ∨ i = 0
          · have HR := hid (massV_bad (e := 17) (by rw [HOF.out, if_pos hz0]) (by omega))
            obtain ⟨z0, z1, y0, y1', f0, f1⟩ := HT8.out.get2
            have hl9 := lt_of_cell y0
            have hz1 : (m == 0) = true ∨ (m == 0) = false ∧ (i == 0) = true := by
              by_cases h : m = 0
              · exact .inl (by simp [h])
              · exact .inr ⟨by simp [h], by have : i = 0 := by omega
                                            simp [this]⟩
            clear hz0
            rcases hz1 with hz1 | ⟨hz1, hz2⟩
            · go_wp2
              refine bodyPost_ret (v := .tuple #[.int .i64 0, .int .i64 0, vecV 0 0, .int .i64 17]) (by simp [results, Try.results58, go_sem, y0, y1', hl9]) rfl ⟨by rw [HR.out], ?_⟩
              go_grown
            · go_wp2
              refine bodyPost_ret (v := .tuple #[.int .i64 0, .int .i64 0, vecV 0 0, .int .i64 17]) (by simp [results, Try.results58, go_sem, y0, y1', hl9]) rfl ⟨by rw [HR.out], ?_⟩
              go_grown
          · have hm0 : ¬ m = 0 := fun h => hz0 (.inl h)
            have hi0 : ¬ i = 0 := fun h => hz0 (.inr h)
            have hm0b : (m == 0) = false := by simp [hm0]
            have hi0b : (i == 0) = false := by simp [hi0]
            by_cases hg : 1099511627776 < m ∨ 1099511627776 < i
            · have HR := hid (massV_bad (e := 2) (by rw [HOF.out, if_neg hz0, if_pos hg]) (by omega))
              obtain ⟨z0, z1, y0, y1', f0, f1⟩ := HT8.out.get2
              have hl9 := lt_of_cell y0
              clear hz0 hm0 hi0
              have hmx2 : 1099511627776 < mx := by have := HMX.out; omega
              clear hg
              · go_wp2
                refine bodyPost_ret (v := .tuple #[.int .i64 0, .int .i64 0, vecV 0 0, .int .i64 2]) (by simp [results, Try.results58, go_sem, y0, y1', hl9]) rfl ⟨by rw [HR.out], ?_⟩
                go_grown
            · have hg1 : ¬ 1099511627776 < m := fun h => hg (.inl h)
              have hg2 : ¬ 1099511627776 < i := fun h => hg (.inr h)
              have hmx2 : mx ≤ 1099511627776 := by have := HMX.out; omega
              have HR := hid (massV_ok (show ofE l d = 0 by rw [HOF.out, if_neg hz0, if_neg hg]))
              clear hg hz0 hm0 hi0
              obtain ⟨z0, z1, y0, y1', f0, f1⟩ := HT8.out.get2
              have hl9 := lt_of_cell y0
              go_wp2_with fail
--R22--
              refine wp_region_noPanic ?_
              refine wp_region_U (S := (S2 (fun w' => w'.cell? ⟨w2.heap.size, 0, none⟩ = some (.int .i64 (u)) ∧ w'.cell? ⟨w2.heap.size, 1, none⟩ = some (.int .i64 (v)) ∧ There w' (w.heap.size) 2 ∧ Below w.heap.size w w'))) (T := (fun j => [0, 0, 0, 0, 0, 1].getD j 0)) (by kernel_rfl) (S2i0 ⟨k1, k2, HT8.out, hB7.drew⟩) (fun hH => ?_)
              have hWr2 : Weaker (S2 (fun w' => w'.cell? ⟨w2.heap.size, 0, none⟩ = some (.int .i64 (u)) ∧ w'.cell? ⟨w2.heap.size, 1, none⟩ = some (.int .i64 (v)) ∧ There w' (w.heap.size) 2 ∧ Below w.heap.size w w')) := weaker2 _
              refine U_take 0 112 6 0 0 (v := ?vr2_1) rfl (by kernel_rfl) (by kernel_rfl) hWr2 (by kernel_rfl) (by kernel_rfl) (by kernel_rfl) (by kernel_rfl) (by kernel_rfl) (by kernel_rfl) (fun _ _ _ _ h => h) (by kernel_rfl) ?hyr2_1 (by omega) hH ?_
              case hyr2_1 => (intro w' hSw; clear hSw; go_simp; try (with_reducible rfl))
              simp only [List.set_cons_zero, List.set_cons_succ]
              refine U_take 1 113 5 0 0 (v := ?vr2_2) rfl (by kernel_rfl) (by kernel_rfl) hWr2 (by kernel_rfl) (by kernel_rfl) (by kernel_rfl) (by kernel_rfl) (by kernel_rfl) (by kernel_rfl) (fun _ _ _ _ h => h) (by kernel_rfl) ?hyr2_2 (by omega) hH ?_
              case hyr2_2 => (intro w' hSw; clear hSw; go_simp; try (with_reducible rfl))
              simp only [List.set_cons_zero, List.set_cons_succ]
              refine U_take 2 114 4 0 0 (v := ?vr2_3) rfl (by kernel_rfl) (by kernel_rfl) hWr2 (by kernel_rfl) (by kernel_rfl) (by kernel_rfl) (by kernel_rfl) (by kernel_rfl) (by kernel_rfl) (fun _ _ _ _ h => h) (by kernel_rfl) ?hyr2_3 (by omega) hH ?_
              case hyr2_3 => (intro w' hSw; replace hSw := S2o0 hSw; (try dsimp only at hSw); have q0 := hSw.1; have q1 := hSw.2.1; have q2 := hSw.2.2.1; have q3 := hSw.2.2.2; go_simp; try (with_reducible rfl))
              simp only [List.set_cons_zero, List.set_cons_succ]
              refine U_take 3 4 3 0 0 (v := ?vr2_4) rfl (by kernel_rfl) (by kernel_rfl) hWr2 (by kernel_rfl) (by kernel_rfl) (by kernel_rfl) (by kernel_rfl) (by kernel_rfl) (by kernel_rfl) (fun _ _ _ _ h => h) (by kernel_rfl) ?hyr2_4 (by omega) hH ?_
              case hyr2_4 => (intro w' hSw; clear hSw; go_simp; try (with_reducible rfl))
              simp only [List.set_cons_zero, List.set_cons_succ]
              refine U_take 4 5 2 0 0 (v := ?vr2_5) rfl (by kernel_rfl) (by kernel_rfl) hWr2 (by kernel_rfl) (by kernel_rfl) (by kernel_rfl) (by kernel_rfl) (by kernel_rfl) (by kernel_rfl) (fun _ _ _ _ h => h) (by kernel_rfl) ?hyr2_5 (by omega) hH ?_
              case hyr2_5 => (intro w' hSw; clear hSw; go_simp; try (with_reducible rfl))
              simp only [List.set_cons_zero, List.set_cons_succ]
              refine wpAnyU_ready (rs := [5]) (by kernel_rfl) (by simp) ?_
              refine AllReadyU.cons 1 (by kernel_rfl) (o := _) rfl (fun K hK => ?_) AllReadyU.nil
              go_simp
              refine hK.out _ _ ?hsr2_6 (fun hH2 => ?hrr2_6)
              case hsr2_6 => exact S2i1
              clear hK K hH
              have hH := hH2
              clear hH2
              try simp only [Act.put, List.setIfInBounds_toArray, List.set_cons_zero, List.set_cons_succ]
              refine U_take 6 7 0 1 1 (v := ?vr2_7) rfl (by kernel_rfl) (by kernel_rfl) hWr2 (by kernel_rfl) (by kernel_rfl) (by kernel_rfl) (by kernel_rfl) (by kernel_rfl) (by kernel_rfl) (fun _ _ _ _ h => h) (by kernel_rfl) ?hyr2_7 (by omega) hH ?_
              case hyr2_7 => (intro w' hSw; clear hSw; go_simp; try (with_reducible rfl))
              simp only [List.set_cons_zero, List.set_cons_succ]
              refine wpAnyU_done (by kernel_rfl) ?_ _ _
              refine NoPanic.normal ?_
              clear hWr2
--R22end--
              clear hH
              go_wp2
              refine bodyPost_ret (v := .tuple #[.int .i64 m, .int .i64 i, vecV u v, .int .i64 0]) (by simp [results, Try.results58, go_sem, y0, y1', hl9]) rfl ⟨by rw [HR.out, ← HMI.out.1, ← HMI.out.2, ← HU2.out, ← HV2.out], ?_⟩
              go_grown
  · have he : ofE l d = checkE l := by unfold ofE; rw [if_pos hE]
    have HR := hid (massV_bad he hE)
    have HS := hid hS
    have HPE := hid hpe
    have hne : (checkE l != 0) = true := by simp [hE]
    clear hS hE he hpe
    go_enter Try.func58, Try.ntmps58
    go_wp2_with fail
    refine (rpoly_calls _ _ _ l _ (HS.out.alloc _)).mono ?_
    rintro e w1 ⟨rfl, hb1⟩
    rw [HPE.out]
    obtain ⟨z0, z1, y0, y1', f0, f1⟩ := (There.below hb1 (There.fresh2 rfl rfl)).get2
    have hl9 := lt_of_cell y0
    have hB1 : Below w.heap.size w w1 := keepBelow hb1 (by go_grown)
    clear hb1
    go_wp2
    refine bodyPost_ret (v := .tuple #[.int .i64 0, .int .i64 0, vecV 0 0, .int .i64 (checkE l)]) (by simp [results, Try.results58, go_sem, y0, y1', hl9]) rfl ⟨by rw [HR.out], ?_⟩
    go_grown

end Go.Proofs.Ytjoodpjndpdjnaa
