/- The walk of ContactPoints. -/
import Derived.Test.YthhfjiikmaghdaaM28
import Derived.Test.YthhfjiikmaghdaaT1
namespace Go.Proofs.Ythhfjiikmaghdaa
set_option linter.unusedVariables false
set_option linter.unusedSimpArgs false
open Go.RowKit

theorem CellsE.pt' {w : World} {b off : Nat} {l : List Pt} (h : CellsE layPt w b off l) {i : Nat} (hi : i < l.length) :
    w.cell? ⟨b, off + i * 6, none⟩ = some (.int .i64 l[i].1.1.1) ∧ w.cell? ⟨b, off + i * 6 + 1, none⟩ = some (.int .i64 l[i].1.1.2) ∧ w.cell? ⟨b, off + i * 6 + 2, none⟩ = some (.int .i64 l[i].1.2.1) ∧ w.cell? ⟨b, off + i * 6 + 3, none⟩ = some (.int .i64 l[i].1.2.2) ∧ w.cell? ⟨b, off + i * 6 + 4, none⟩ = some (.int .i64 l[i].2.1) ∧ w.cell? ⟨b, off + i * 6 + 5, none⟩ = some (.int .i64 l[i].2.2) :=
  ⟨h.at_ i hi 0 _ rfl, h.at_ i hi 1 _ rfl, h.at_ i hi 2 _ rfl, h.at_ i hi 3 _ rfl, h.at_ i hi 4 _ rfl, h.at_ i hi 5 _ rfl⟩
set_option maxRecDepth 100000 in
set_option maxHeartbeats 2000000 in
theorem cpt1_calls (x y wx wy d i : Int) (gW : Nat) (h1 : 0 ≤ d) (h2 : d ≤ 2621440) (h3 : 0 ≤ i) (h4 : i ≤ 255) (w : World) (m0 : w.cell? ⟨gW, 0, none⟩ = some (.int .i64 wx)) (m1 : w.cell? ⟨gW, 1, none⟩ = some (.int .i64 wy)) :
    Calls Try.prog 61 #[.agg #[.int .i64 x, .int .i64 y, .int .i64 wx, .int .i64 wy, .int .i64 d, .int .i64 i], .pointer (some ⟨gW, 0, none⟩)] w (Ret (.bool false) w) := by
  have hQ := run_eqV' wx wy wx wy
  have e0 : (wx == wx && wy == wy) = true := by simp
  rw [e0] at hQ
  have n1 : ¬ d < 0 := by omega
  have n2 : ¬ 2621440 < d := by omega
  have n3 : ¬ i < 0 := by omega
  have n4 : ¬ 255 < i := by omega
  have hgl := lt_of_cell m0
  clear h1 h2 h3 h4 e0
  go_enter Try.func61, Try.ntmps61
  go_wp2
  go_returns
  exact ⟨by simp, by go_grown⟩
theorem cf_cpt1 (args : Array Value) (w : World) : (callFunc 61 args).run Try.prog w = .ok (.enter 61 args) w := by kernel_rfl
set_option maxRecDepth 100000 in
set_option maxHeartbeats 2000000 in
theorem idxPt_calls (A : Option Addr) (n c : Nat) (l : List Pt) (gW : Nat) (wx wy : Int) (hok : ∀ p ∈ l, PtOk (wx, wy) p) (w : World) (hS : SlE layPt w A n c l) (m0 : w.cell? ⟨gW, 0, none⟩ = some (.int .i64 wx)) (m1 : w.cell? ⟨gW, 1, none⟩ = some (.int .i64 wy)) :
    Calls Try.prog 141 #[.slice A n c, .func (.func 61) #[] #[.pointer (some ⟨gW, 0, none⟩)]] w (Ret (.int .i64 (-1)) w) := by
  have hn := hS.len
  subst hn
  have HS := hid hS
  have HOK := hid hok
  have HM := hid (And.intro m0 m1)
  have hbig := Nat.le_trans hS.cap hS.big
  clear hS hok m0 m1
  go_enter Try.func141, Try.ntmps141
  go_wp2
  go_loopw [8] (fun j wr => ∃ k : Nat, k ≤ l.length ∧ j = .int .i64 k ∧ Below w.heap.size w wr) (fun j _ => l.length - (intOf j).toNat)
  case atStart => exact ⟨0, Nat.zero_le _, rfl, Below.refl _ _⟩
  case round =>
    obtain ⟨i, hi, rfl, hB⟩ := hrel
    obtain ⟨wo, rfl⟩ : ∃ wo : World, wo = wr := ⟨_, rfl⟩
    by_cases hlt : i < l.length
    · have hlt' : (i : Int) < (l.length : Int) := by omega
      have hwk : IntKind.i64.wrap ((i : Int) + 1) = (i : Int) + 1 := IntWalk.i64_in _ (by omega)
      obtain ⟨b, off, rfl, hC⟩ := (HS.out.below hB).at_ (by intro h; rw [h] at hlt; simp at hlt)
      obtain ⟨c0, c1, c2, c3, c4, c5⟩ := hC.pt' hlt
      have hbl := hC.lt
      have hp := HOK.out _ (List.getElem_mem hlt)
      obtain ⟨p, hpe⟩ : ∃ p, p = l[i] := ⟨_, rfl⟩
      rw [← hpe] at c0 c1 c2 c3 c4 c5 hp
      obtain ⟨⟨⟨x, y⟩, z, t⟩, d, id⟩ := p
      obtain ⟨e1, h1, h2, h3, h4⟩ := hp
      cases e1
      dsimp only at c0 c1 c2 c3 c4 c5 h1 h2 h3 h4
      have HCL := hid (cpt1_calls x y wx wy d id gW h1 h2 h3 h4 wo (keepCell hB HM.out.1) (keepCell hB HM.out.2))
      clear hC hpe h1 h2 h3 h4
      go_wp2_with fail
      refine HCL.out.mono ?_
      rintro e w5 ⟨rfl, hb5⟩
      have hB5 := keepBelow hb5 hB
      clear hb5 HCL c0 c1 c2 c3 c4 c5 hbl hB
      go_wp2
      go_roundw
      case rel => exact ⟨i + 1, hlt, by go_num, hB5⟩
      case measure => simp [intOf]; omega
    · have hie : i = l.length := by omega
      subst hie
      go_wp2
      refine bodyPost_ret (v := .int .i64 (-1)) (by simp [results, Try.results141, go_sem]) rfl ⟨rfl, hB⟩
set_option maxRecDepth 100000 in
theorem conPt_calls (A : Option Addr) (n c : Nat) (l : List Pt) (gW : Nat) (wx wy : Int) (hok : ∀ p ∈ l, PtOk (wx, wy) p) (w : World) (hS : SlE layPt w A n c l) (m0 : w.cell? ⟨gW, 0, none⟩ = some (.int .i64 wx)) (m1 : w.cell? ⟨gW, 1, none⟩ = some (.int .i64 wy)) :
    Calls Try.prog 60 #[.slice A n c, .func (.func 61) #[] #[.pointer (some ⟨gW, 0, none⟩)]] w (Ret (.bool false) w) := by
  have HI := hid (idxPt_calls A n c l gW wx wy hok w hS m0 m1)
  clear hok hS m0 m1
  go_enter Try.func60, Try.ntmps60
  go_wp2_with fail
  refine HI.out.mono ?_
  rintro e w1 ⟨rfl, hb1⟩
  clear HI
  go_wp2
  go_returns
  exact ret_bool rfl hb1

theorem pts_none' {l m : List V} (h : meetsB l m = false) : ptsZ l m = [] := by unfold ptsZ leastO; rw [h]; rfl
set_option maxRecDepth 100000 in
theorem pts_sqK : ptsZ (sqK 0 0 2) (sqK 3 1 2) = [(((65536, 131072), (65536, 0)), (65536, 22)), (((65536, -65536), (65536, 0)), (65536, 23))] := by kernel_rfl
set_option maxRecDepth 100000 in
set_option maxHeartbeats 16000000 in
theorem contactPoints_walk (A B : Option Addr) (n c n' c' : Nat) (r s : List Int) (x y : Int) (w : World) (hS : SlI w A n c r) (hM : SlI w B n' c' s) : Calls Try.prog 11 #[.slice A n c, .slice B n' c', .int .i64 x, .int .i64 y] w (Ret (.bool true) w) := by
  have HPA := hid (pair_calls A B n c n' c' r s x y w hS hM)
  have PS := hid pts_sqK
  have hm1 := made_within (polyL_made r)
  have hm2 := made_within (polyL_made s)
  have hm3 : allWithin 1048576 (movL (polyL s) (plc x) (plc y)) = true := by have h := within_movL hm2 (plc_bd x) (plc_bd y); rwa [show (262144 : Int) + 786432 = 1048576 from rfl] at h
  have HW := hid (And.intro hm1 hm3)
  clear hS hM hm1 hm2 hm3
  generalize polyL r = l at *
  generalize movL (polyL s) (plc x) (plc y) = m at *
  go_enter Try.func11, Try.ntmps11
  go_wp2_with fail
  refine HPA.out.mono ?_
  rintro e w1 ⟨A1, n1, c1, B1, k1, d1, rfl, hs1, hs2, -, -, hb1⟩
  have HL := hid hs1
  have HM := hid hs2
  have HO := hid (cof_calls A1 B1 n1 c1 k1 d1 l m w1 hs1 hs2)
  clear HPA hs1 hs2
  go_wp2_with fail
  refine HO.out.mono ?_
  rintro e w2 ⟨A2, n2, c2, rfl, hs2, -, hb2⟩
  have HP2 := hid hs2
  have hB2 := keepBelow hb2 hb1
  have HTE := hid (test_calls A1 B1 n1 c1 k1 d1 l m w2 (HL.out.below hb2) (HM.out.below hb2))
  clear HO hs2 hb2 hb1 HL HM
  have HNO := hid (pts_none' (l := l) (m := m))
  have HOK := hid (fun h => pts_ok (l := l) (m := m) h HW.out.1 HW.out.2)
  clear HW
  generalize ptsZ l m = P at *
  generalize tstX l m = wx at *
  generalize tstY l m = wy at *
  generalize tstD l m = td at *
  generalize meetsB l m = mt at *
  go_wp2_with fail
  refine HTE.out.mono ?_
  rintro e w3 ⟨rfl, hb3⟩
  obtain ⟨w4, hw4⟩ : ∃ W, W = w3.alloc (.cells #[.int .i64 wx, .int .i64 wy] 25) := ⟨_, rfl⟩
  obtain ⟨gW, hgW⟩ : ∃ g, g = w3.heap.size := ⟨_, rfl⟩
  have m0 : w4.cell? ⟨gW, 0, none⟩ = some (.int .i64 wx) := by rw [hw4, hgW]; go_simp
  have m1 : w4.cell? ⟨gW, 1, none⟩ = some (.int .i64 wy) := by rw [hw4, hgW]; go_simp
  have hba : Below w3.heap.size w3 w4 := by rw [hw4]; go_grown
  have HP4 := hid ((HP2.out.below hb3).below hba)
  have hB4 := keepBelow hba (keepBelow hb3 hB2)
  clear HTE hb3 hba HP2 hB2
  go_wp2_with fail
  rw [← hw4]
  try rw [← hgW]
  clear hw4 hgW
  refine (squareK_calls 0 0 2 (by omega) (by omega) (by omega) _).mono ?_
  rintro e w5 ⟨A5, n5, c5, rfl, hs5, hb5⟩
  have HS5 := hid hs5
  replace m0 := keepCell hb5 m0
  replace m1 := keepCell hb5 m1
  replace HP4 := hid (HP4.out.below hb5)
  replace hB4 := keepBelow hb5 hB4
  clear hs5 hb5
  go_wp2_with fail
  refine (squareK_calls 3 1 2 (by omega) (by omega) (by omega) _).mono ?_
  rintro e w6 ⟨A6, n6, c6, rfl, hs6, hb6⟩
  have HO := hid (cof_calls A5 A6 n5 c5 n6 c6 _ _ w6 (HS5.out.below hb6) hs6)
  rw [PS.out] at HO
  replace m0 := keepCell hb6 m0
  replace m1 := keepCell hb6 m1
  replace HP4 := hid (HP4.out.below hb6)
  replace hB4 := keepBelow hb6 hB4
  clear hs6 hb6 HS5 PS
  go_wp2_with fail
  refine HO.out.mono ?_
  rintro e wv ⟨A7, n7, c7, rfl, hs7, -, hb7⟩
  replace m0 := keepCell hb7 m0
  replace m1 := keepCell hb7 m1
  replace HP4 := hid (HP4.out.below hb7)
  replace hB4 := keepBelow hb7 hB4
  obtain ⟨b, off, rfl, hC⟩ := hs7.at_ (by simp)
  have hn7 : n7 = 2 := hs7.len
  subst hn7
  obtain ⟨-, -, -, -, -, k5⟩ := hC.pt' (i := 0) (by simp)
  obtain ⟨-, -, -, -, -, k11⟩ := hC.pt' (i := 1) (by simp)
  simp only [Nat.zero_mul, Nat.add_zero, Nat.one_mul, List.getElem_cons_zero, List.getElem_cons_succ] at k5 k11
  have hbl := hC.lt
  clear HO hs7 hC hb7
  go_upto_region 5 with fail
  (refine wp_region_noPanic ?_); (refine wp_region_U (S := (S2 (fun w' => w'.cell? ⟨b, off + 5, none⟩ = some (.int .i64 (22)) ∧ w'.cell? ⟨b, off + 6 + 5, none⟩ = some (.int .i64 (23)) ∧ Below wv.heap.size wv w'))) (T := (fun _ => 0)) (by kernel_rfl) (S2i0 ⟨k5, k11, (Below.refl _ _).drew⟩) (fun hH => ?_)); (have hWr1 : Weaker (S2 (fun w' => w'.cell? ⟨b, off + 5, none⟩ = some (.int .i64 (22)) ∧ w'.cell? ⟨b, off + 6 + 5, none⟩ = some (.int .i64 (23)) ∧ Below wv.heap.size wv w')) := weaker2 _); (refine U1 0 0 rfl (fun K hK => ?_)); (try clear hb); (go_simp); ((go_at_call 59; refine (tests_calls _).mono ?_; rintro e wn ⟨rfl, hb⟩)); (refine hK.out _ _ (S2i0 (by have hG := hH; replace hG := S2o0 hG; (try dsimp only at hG); have q0 := hG.1; have q1 := hG.2.1; have q2 := hG.2.2; exact ⟨keepCell hb q0, keepCell hb q1, keepBelow hb q2⟩)) (fun hH2 => ?_)); (clear hK K hH); (rename _ => hH); (try simp only [Act.put, sA, sB, sC]); (refine Ut 1 38 16 0 0 (v := ?vr1_2) rfl hWr1 hH ?yr1_2 ?_); (case yr1_2 => (intro w' hSw; clear hSw; go_simp; try (with_reducible rfl))); (simp only [sB, sC]); (refine Ut 2 39 15 0 0 (v := ?vr1_3) rfl hWr1 hH ?yr1_3 ?_); (case yr1_3 => (intro w' hSw; clear hSw; go_simp; try (with_reducible rfl))); (simp only [sB, sC]); (refine Ut 3 40 14 0 0 (v := ?vr1_4) rfl hWr1 hH ?yr1_4 ?_); (case yr1_4 => (intro w' hSw; clear hSw; go_simp; try (with_reducible rfl))); (simp only [sB, sC]); (refine Ut 4 41 13 0 0 (v := ?vr1_5) rfl hWr1 hH ?yr1_5 ?_); (case yr1_5 => (intro w' hSw; clear hSw; go_simp; try (with_reducible rfl))); (simp only [sB, sC]); (refine Ut 5 42 12 0 0 (v := ?vr1_6) rfl hWr1 hH ?yr1_6 ?_); (case yr1_6 => (intro w' hSw; clear hSw; go_simp; try (with_reducible rfl))); (simp only [sB, sC]); (refine Ut 6 43 11 0 0 (v := ?vr1_7) rfl hWr1 hH ?yr1_7 ?_); (case yr1_7 => (intro w' hSw; clear hSw; go_simp; try (with_reducible rfl))); (simp only [sB, sC]); (refine Ut 7 44 10 0 0 (v := ?vr1_8) rfl hWr1 hH ?yr1_8 ?_); (case yr1_8 => (intro w' hSw; clear hSw; go_simp; try (with_reducible rfl))); (simp only [sB, sC]); (refine Ut 8 45 9 0 0 (v := ?vr1_9) rfl hWr1 hH ?yr1_9 ?_); (case yr1_9 => (intro w' hSw; clear hSw; go_simp; try (with_reducible rfl))); (simp only [sB, sC]); (refine Ut 9 46 8 0 0 (v := ?vr1_10) rfl hWr1 hH ?yr1_10 ?_); (case yr1_10 => (intro w' hSw; clear hSw; go_simp; try (with_reducible rfl))); (simp only [sB, sC]); (refine Ut 10 47 7 0 0 (v := ?vr1_11) rfl hWr1 hH ?yr1_11 ?_); (case yr1_11 => (intro w' hSw; clear hSw; go_simp; try (with_reducible rfl))); (simp only [sB, sC]); (refine Ut 11 48 6 0 0 (v := ?vr1_12) rfl hWr1 hH ?yr1_12 ?_); (case yr1_12 => (intro w' hSw; replace hSw := S2o0 hSw; (try dsimp only at hSw); have q0 := hSw.1; have q1 := hSw.2.1; have q2 := hSw.2.2; go_simp; try (with_reducible rfl))); (simp only [sB, sC]); (refine Ut 12 49 5 0 0 (v := ?vr1_13) rfl hWr1 hH ?yr1_13 ?_); (case yr1_13 => (intro w' hSw; clear hSw; go_simp; try (with_reducible rfl))); (simp only [sB, sC]); (refine Ut 13 50 4 0 0 (v := ?vr1_14) rfl hWr1 hH ?yr1_14 ?_); (case yr1_14 => (intro w' hSw; clear hSw; go_simp; try (with_reducible rfl))); (simp only [sB, sC]); (refine Ut 14 51 3 0 0 (v := ?vr1_15) rfl hWr1 hH ?yr1_15 ?_); (case yr1_15 => (intro w' hSw; clear hSw; go_simp; try (with_reducible rfl))); (simp only [sB, sC]); (refine Ut 15 52 2 0 0 (v := ?vr1_16) rfl hWr1 hH ?yr1_16 ?_); (case yr1_16 => (intro w' hSw; replace hSw := S2o0 hSw; (try dsimp only at hSw); have q0 := hSw.1; have q1 := hSw.2.1; have q2 := hSw.2.2; go_simp; try (with_reducible rfl))); (simp only [sB, sC]); (refine Ut 16 53 1 0 0 (v := ?vr1_17) rfl hWr1 hH ?yr1_17 ?_); (case yr1_17 => (intro w' hSw; clear hSw; go_simp; try (with_reducible rfl))); (simp only [sB, sC]); (refine Ut 17 54 0 0 0 (v := ?vr1_18) rfl hWr1 hH ?yr1_18 ?_); (case yr1_18 => (intro w' hSw; clear hSw; go_simp; try (with_reducible rfl))); (simp only [sB, sC]); (refine wpAnyU_done (by kernel_rfl) ?_ _ _); (refine NoPanic.normal ?_); (clear hWr1); (replace hH := S2o0 hH); ((try dsimp only at hH)); (have q0 := hH.1); (have q1 := hH.2.1); (have q2 := hH.2.2); (clear hH)
  replace m0 := keepCell q2 m0
  replace m1 := keepCell q2 m1
  replace HP4 := hid (HP4.out.below q2)
  replace hB4 := keepBelow q2 hB4
  clear q0 q1 q2 k5 k11 hbl
  try clear hb
  have hnP := HP4.out.len
  cases mt with
  | false =>
    have hP := HNO.out rfl
    subst hP
    simp at hnP
    subst hnP
    clear HNO HOK
    go_wp2
    go_returns
    exact ret_bool rfl hB4
  | true =>
    have hOK := HOK.out rfl
    clear HNO HOK
    obtain ⟨wv, rfl⟩ : ∃ wo : World, wo = wn := ⟨_, rfl⟩
    rcases hOK with ⟨p, rfl, ok1⟩ | ⟨p, q, rfl, ok1, ok2, ne1, ne2⟩
    · have HOK : Hid (∀ p' ∈ [p], PtOk (wx, wy) p') := fun p' hp' => by rw [List.mem_singleton] at hp'; rw [hp']; exact ok1
      obtain ⟨b, off, rfl, hC⟩ := HP4.out.at_ (by simp)
      obtain ⟨a0, a1, a2, a3, a4, a5⟩ := hC.pt' (i := 0) (by simp)
      simp only [Nat.zero_mul, Nat.add_zero, List.getElem_cons_zero] at a0 a1 a2 a3 a4 a5
      have hbl := hC.lt
      simp at hnP
      subst hnP
      have HCO := hid (fun w' (h : Below wv.heap.size wv w') => conPt_calls _ _ c2 _ gW wx wy HOK.out w' (HP4.out.below h) (keepCell h m0) (keepCell h m1))
      clear hC ok1
      generalize p.1.1.1 = p0 at *
      generalize p.1.1.2 = p1 at *
      generalize p.1.2.1 = p2 at *
      generalize p.1.2.2 = p3 at *
      generalize p.2.1 = p4 at *
      generalize p.2.2 = p5 at *
      go_upto_region 9 with fail
      (refine wp_region_noPanic ?_); (refine wp_region_U (S := (S2 (fun w' => w'.cell? ⟨b, off, none⟩ = some (.int .i64 (p0)) ∧ w'.cell? ⟨b, off + 1, none⟩ = some (.int .i64 (p1)) ∧ w'.cell? ⟨b, off + 2, none⟩ = some (.int .i64 (p2)) ∧ w'.cell? ⟨b, off + 3, none⟩ = some (.int .i64 (p3)) ∧ w'.cell? ⟨b, off + 4, none⟩ = some (.int .i64 (p4)) ∧ w'.cell? ⟨b, off + 5, none⟩ = some (.int .i64 (p5)) ∧ Below wv.heap.size wv w'))) (T := (fun _ => 0)) (by kernel_rfl) (S2i0 ⟨a0, a1, a2, a3, a4, a5, (Below.refl _ _).drew⟩) (fun hH => ?_)); (have hWr2 : Weaker (S2 (fun w' => w'.cell? ⟨b, off, none⟩ = some (.int .i64 (p0)) ∧ w'.cell? ⟨b, off + 1, none⟩ = some (.int .i64 (p1)) ∧ w'.cell? ⟨b, off + 2, none⟩ = some (.int .i64 (p2)) ∧ w'.cell? ⟨b, off + 3, none⟩ = some (.int .i64 (p3)) ∧ w'.cell? ⟨b, off + 4, none⟩ = some (.int .i64 (p4)) ∧ w'.cell? ⟨b, off + 5, none⟩ = some (.int .i64 (p5)) ∧ Below wv.heap.size wv w')) := weaker2 _); (refine Ut 0 60 34 0 0 (v := ?vr2_1) rfl hWr2 hH ?yr2_1 ?_); (case yr2_1 => (intro w' hSw; clear hSw; go_simp; try (with_reducible rfl))); (simp only [sB, sC]); (refine Ut 1 61 33 0 0 (v := ?vr2_2) rfl hWr2 hH ?yr2_2 ?_); (case yr2_2 => (intro w' hSw; clear hSw; go_simp; try (with_reducible rfl))); (simp only [sB, sC]); (refine Ut 2 62 32 0 0 (v := ?vr2_3) rfl hWr2 hH ?yr2_3 ?_); (case yr2_3 => (intro w' hSw; clear hSw; go_simp; try (with_reducible rfl))); (simp only [sB, sC]); (refine Ut 3 63 31 0 0 (v := ?vr2_4) rfl hWr2 hH ?yr2_4 ?_); (case yr2_4 => (intro w' hSw; clear hSw; go_simp; try (with_reducible rfl))); (simp only [sB, sC]); (refine Ut 4 64 30 0 0 (v := ?vr2_5) rfl hWr2 hH ?yr2_5 ?_); (case yr2_5 => (intro w' hSw; clear hSw; go_simp; try (with_reducible rfl))); (simp only [sB, sC]); (refine Ut 5 65 29 0 0 (v := ?vr2_6) rfl hWr2 hH ?yr2_6 ?_); (case yr2_6 => (intro w' hSw; clear hSw; go_simp; try (with_reducible rfl))); (simp only [sB, sC]); (refine Ut 6 66 28 0 0 (v := ?vr2_7) rfl hWr2 hH ?yr2_7 ?_); (case yr2_7 => (intro w' hSw; clear hSw; go_simp; try (with_reducible rfl))); (simp only [sB, sC]); (refine Ut 7 67 27 0 0 (v := ?vr2_8) rfl hWr2 hH ?yr2_8 ?_); (case yr2_8 => (intro w' hSw; clear hSw; go_simp; try (with_reducible rfl))); (simp only [sB, sC]); (refine Ut 8 68 26 0 0 (v := ?vr2_9) rfl hWr2 hH ?yr2_9 ?_); (case yr2_9 => (intro w' hSw; clear hSw; go_simp; try (with_reducible rfl))); (simp only [sB, sC]); (refine Ut 9 69 25 0 0 (v := ?vr2_10) rfl hWr2 hH ?yr2_10 ?_); (case yr2_10 => (intro w' hSw; clear hSw; go_simp; try (with_reducible rfl))); (simp only [sB, sC]); (refine Ut 10 70 24 0 0 (v := ?vr2_11) rfl hWr2 hH ?yr2_11 ?_); (case yr2_11 => (intro w' hSw; clear hSw; go_simp; try (with_reducible rfl))); (simp only [sB, sC]); (refine Ut 11 71 23 0 0 (v := ?vr2_12) rfl hWr2 hH ?yr2_12 ?_); (case yr2_12 => (intro w' hSw; clear hSw; go_simp; try (with_reducible rfl))); (simp only [sB, sC]); (refine Ut 12 72 22 0 0 (v := ?vr2_13) rfl hWr2 hH ?yr2_13 ?_); (case yr2_13 => (intro w' hSw; clear hSw; go_simp; try (with_reducible rfl))); (simp only [sB, sC]); (refine U_skips (by kernel_rfl) (fun _ _ _ _ h => h) hWr2 0 0 (by omega) hH [(13, 73), (14, 74), (15, 75), (16, 76), (17, 77), (18, 78), (19, 79), (20, 80), (21, 81), (22, 82), (23, 83), (24, 84), (25, 85), (26, 86), (27, 87), (28, 88), (29, 89), (30, 90), (31, 91), (32, 92)] 2 _ _ _ (by kernel_rfl) (by kernel_rfl) ?_); (simp only [tsetUndef, List.set_cons_zero, List.set_cons_succ]); (refine Ut 33 93 1 0 0 (v := ?vr2_14) rfl hWr2 hH ?yr2_14 ?_); (case yr2_14 => (intro w' hSw; clear hSw; go_simp; try (with_reducible rfl))); (simp only [sB, sC]); (refine Ut 34 94 0 0 0 (v := ?vr2_15) rfl hWr2 hH ?yr2_15 ?_); (case yr2_15 => (intro w' hSw; clear hSw; go_simp; try (with_reducible rfl))); (simp only [sB, sC]); (refine wpAnyU_done (by kernel_rfl) ?_ _ _); (refine NoPanic.normal ?_); (clear hWr2); (replace hH := S2o0 hH); ((try dsimp only at hH)); (have k0 := hH.1); (have k1 := hH.2.1); (have k2 := hH.2.2.1); (have k3 := hH.2.2.2.1); (have k4 := hH.2.2.2.2.1); (have k5 := hH.2.2.2.2.2.1); (have k6 := hH.2.2.2.2.2.2); (clear hH)
      clear a0 a1 a2 a3 a4 a5 k0 k1 k2 k3 k4 k5 hbl m0 m1 HP4
      replace hB4 := keepBelow k6 hB4
      generalize wv.drew = wq at *
      go_wp2_with fail
      refine (HCO.out _ k6).mono ?_
      rintro e w9 ⟨rfl, hb9⟩
      have hB9 := keepBelow hb9 hB4
      clear hb9 HCO k6
      go_wp2
      go_returns
      exact ret_bool rfl hB9
    · have HOK : Hid (∀ p' ∈ [p, q], PtOk (wx, wy) p') := fun p' hp' => by
        rcases List.mem_cons.1 hp' with h | h
        · rw [h]; exact ok1
        · rw [List.mem_singleton] at h; rw [h]; exact ok2
      obtain ⟨b, off, rfl, hC⟩ := HP4.out.at_ (by simp)
      obtain ⟨a0, a1, a2, a3, a4, a5⟩ := hC.pt' (i := 0) (by simp)
      obtain ⟨b0, b1, b2, b3, b4, b5⟩ := hC.pt' (i := 1) (by simp)
      simp only [Nat.zero_mul, Nat.one_mul, Nat.add_zero, List.getElem_cons_zero, List.getElem_cons_succ] at a0 a1 a2 a3 a4 a5 b0 b1 b2 b3 b4 b5
      have hbl := hC.lt
      simp at hnP
      subst hnP
      have HCO := hid (fun w' (h : Below wv.heap.size wv w') => conPt_calls _ _ c2 _ gW wx wy HOK.out w' (HP4.out.below h) (keepCell h m0) (keepCell h m1))
      have hq := run_eqV' p.1.1.1 p.1.1.2 q.1.1.1 q.1.1.2
      have he : (p.1.1.1 == q.1.1.1 && p.1.1.2 == q.1.1.2) = false := by
        cases h : (p.1.1.1 == q.1.1.1 && p.1.1.2 == q.1.1.2)
        · rfl
        · simp only [Bool.and_eq_true, beq_iff_eq] at h
          exact absurd (Prod.ext h.1 h.2) ne2
      rw [he] at hq
      have hid' : (p.2.2 == q.2.2) = false := by simp [ne1]
      clear hC ok1 ok2 ne1 ne2 he
      generalize p.1.1.1 = p0 at *
      generalize p.1.1.2 = p1 at *
      generalize p.1.2.1 = p2 at *
      generalize p.1.2.2 = p3 at *
      generalize p.2.1 = p4 at *
      generalize p.2.2 = p5 at *
      generalize q.1.1.1 = q0_ at *
      generalize q.1.1.2 = q1_ at *
      generalize q.1.2.1 = q2_ at *
      generalize q.1.2.2 = q3_ at *
      generalize q.2.1 = q4_ at *
      generalize q.2.2 = q5_ at *
      go_upto_region 9 with fail
      (refine wp_region_noPanic ?_); (refine wp_region_U (S := (S2 (fun w' => w'.cell? ⟨b, off, none⟩ = some (.int .i64 (p0)) ∧ w'.cell? ⟨b, off + 1, none⟩ = some (.int .i64 (p1)) ∧ w'.cell? ⟨b, off + 2, none⟩ = some (.int .i64 (p2)) ∧ w'.cell? ⟨b, off + 3, none⟩ = some (.int .i64 (p3)) ∧ w'.cell? ⟨b, off + 4, none⟩ = some (.int .i64 (p4)) ∧ w'.cell? ⟨b, off + 5, none⟩ = some (.int .i64 (p5)) ∧ w'.cell? ⟨b, off + 6, none⟩ = some (.int .i64 (q0_)) ∧ w'.cell? ⟨b, off + 6 + 1, none⟩ = some (.int .i64 (q1_)) ∧ w'.cell? ⟨b, off + 6 + 2, none⟩ = some (.int .i64 (q2_)) ∧ w'.cell? ⟨b, off + 6 + 3, none⟩ = some (.int .i64 (q3_)) ∧ w'.cell? ⟨b, off + 6 + 4, none⟩ = some (.int .i64 (q4_)) ∧ w'.cell? ⟨b, off + 6 + 5, none⟩ = some (.int .i64 (q5_)) ∧ Below wv.heap.size wv w'))) (T := (fun _ => 0)) (by kernel_rfl) (S2i0 ⟨a0, a1, a2, a3, a4, a5, b0, b1, b2, b3, b4, b5, (Below.refl _ _).drew⟩) (fun hH => ?_)); (have hWr3 : Weaker (S2 (fun w' => w'.cell? ⟨b, off, none⟩ = some (.int .i64 (p0)) ∧ w'.cell? ⟨b, off + 1, none⟩ = some (.int .i64 (p1)) ∧ w'.cell? ⟨b, off + 2, none⟩ = some (.int .i64 (p2)) ∧ w'.cell? ⟨b, off + 3, none⟩ = some (.int .i64 (p3)) ∧ w'.cell? ⟨b, off + 4, none⟩ = some (.int .i64 (p4)) ∧ w'.cell? ⟨b, off + 5, none⟩ = some (.int .i64 (p5)) ∧ w'.cell? ⟨b, off + 6, none⟩ = some (.int .i64 (q0_)) ∧ w'.cell? ⟨b, off + 6 + 1, none⟩ = some (.int .i64 (q1_)) ∧ w'.cell? ⟨b, off + 6 + 2, none⟩ = some (.int .i64 (q2_)) ∧ w'.cell? ⟨b, off + 6 + 3, none⟩ = some (.int .i64 (q3_)) ∧ w'.cell? ⟨b, off + 6 + 4, none⟩ = some (.int .i64 (q4_)) ∧ w'.cell? ⟨b, off + 6 + 5, none⟩ = some (.int .i64 (q5_)) ∧ Below wv.heap.size wv w')) := weaker2 _); (refine Ut 0 60 34 0 0 (v := ?vr3_1) rfl hWr3 hH ?yr3_1 ?_); (case yr3_1 => (intro w' hSw; clear hSw; go_simp; try (with_reducible rfl))); (simp only [sB, sC]); (refine Ut 1 61 33 0 0 (v := ?vr3_2) rfl hWr3 hH ?yr3_2 ?_); (case yr3_2 => (intro w' hSw; clear hSw; go_simp; try (with_reducible rfl))); (simp only [sB, sC]); (refine Ut 2 62 32 0 0 (v := ?vr3_3) rfl hWr3 hH ?yr3_3 ?_); (case yr3_3 => (intro w' hSw; clear hSw; go_simp; try (with_reducible rfl))); (simp only [sB, sC]); (refine Ut 3 63 31 0 0 (v := ?vr3_4) rfl hWr3 hH ?yr3_4 ?_); (case yr3_4 => (intro w' hSw; clear hSw; go_simp; try (with_reducible rfl))); (simp only [sB, sC]); (refine Ut 4 64 30 0 0 (v := ?vr3_5) rfl hWr3 hH ?yr3_5 ?_); (case yr3_5 => (intro w' hSw; clear hSw; go_simp; try (with_reducible rfl))); (simp only [sB, sC]); (refine Ut 5 65 29 0 0 (v := ?vr3_6) rfl hWr3 hH ?yr3_6 ?_); (case yr3_6 => (intro w' hSw; clear hSw; go_simp; try (with_reducible rfl))); (simp only [sB, sC]); (refine Ut 6 66 28 0 0 (v := ?vr3_7) rfl hWr3 hH ?yr3_7 ?_); (case yr3_7 => (intro w' hSw; clear hSw; go_simp; try (with_reducible rfl))); (simp only [sB, sC]); (refine Ut 7 67 27 0 0 (v := ?vr3_8) rfl hWr3 hH ?yr3_8 ?_); (case yr3_8 => (intro w' hSw; clear hSw; go_simp; try (with_reducible rfl))); (simp only [sB, sC]); (refine Ut 8 68 26 0 0 (v := ?vr3_9) rfl hWr3 hH ?yr3_9 ?_); (case yr3_9 => (intro w' hSw; clear hSw; go_simp; try (with_reducible rfl))); (simp only [sB, sC]); (refine Ut 9 69 25 0 0 (v := ?vr3_10) rfl hWr3 hH ?yr3_10 ?_); (case yr3_10 => (intro w' hSw; clear hSw; go_simp; try (with_reducible rfl))); (simp only [sB, sC]); (refine Ut 10 70 24 0 0 (v := ?vr3_11) rfl hWr3 hH ?yr3_11 ?_); (case yr3_11 => (intro w' hSw; clear hSw; go_simp; try (with_reducible rfl))); (simp only [sB, sC]); (refine Ut 11 71 23 0 0 (v := ?vr3_12) rfl hWr3 hH ?yr3_12 ?_); (case yr3_12 => (intro w' hSw; clear hSw; go_simp; try (with_reducible rfl))); (simp only [sB, sC]); (refine Ut 12 72 22 0 0 (v := ?vr3_13) rfl hWr3 hH ?yr3_13 ?_); (case yr3_13 => (intro w' hSw; clear hSw; go_simp; try (with_reducible rfl))); (simp only [sB, sC]); (refine Ut 13 73 21 0 0 (v := ?vr3_14) rfl hWr3 hH ?yr3_14 ?_); (case yr3_14 => (intro w' hSw; clear hSw; go_simp; try (with_reducible rfl))); (simp only [sB, sC]); (refine Ut 14 74 20 0 0 (v := ?vr3_15) rfl hWr3 hH ?yr3_15 ?_); (case yr3_15 => (intro w' hSw; clear hSw; go_simp; try (with_reducible rfl))); (simp only [sB, sC]); (refine Ut 15 75 19 0 0 (v := ?vr3_16) rfl hWr3 hH ?yr3_16 ?_); (case yr3_16 => (intro w' hSw; clear hSw; go_simp; try (with_reducible rfl))); (simp only [sB, sC]); (refine Ut 16 76 18 0 0 (v := ?vr3_17) rfl hWr3 hH ?yr3_17 ?_); (case yr3_17 => (intro w' hSw; replace hSw := S2o0 hSw; (try dsimp only at hSw); have q0 := hSw.1; have q1 := hSw.2.1; have q2 := hSw.2.2.1; have q3 := hSw.2.2.2.1; have q4 := hSw.2.2.2.2.1; have q5 := hSw.2.2.2.2.2.1; have q6 := hSw.2.2.2.2.2.2.1; have q7 := hSw.2.2.2.2.2.2.2.1; have q8 := hSw.2.2.2.2.2.2.2.2.1; have q9 := hSw.2.2.2.2.2.2.2.2.2.1; have q10 := hSw.2.2.2.2.2.2.2.2.2.2.1; have q11 := hSw.2.2.2.2.2.2.2.2.2.2.2.1; have q12 := hSw.2.2.2.2.2.2.2.2.2.2.2.2; go_simp; try (with_reducible rfl))); (simp only [sB, sC]); (refine Ut 17 77 17 0 0 (v := ?vr3_18) rfl hWr3 hH ?yr3_18 ?_); (case yr3_18 => (intro w' hSw; clear hSw; go_simp; try (with_reducible rfl))); (simp only [sB, sC]); (refine Ut 18 78 16 0 0 (v := ?vr3_19) rfl hWr3 hH ?yr3_19 ?_); (case yr3_19 => (intro w' hSw; clear hSw; go_simp; try (with_reducible rfl))); (simp only [sB, sC]); (refine Ut 19 79 15 0 0 (v := ?vr3_20) rfl hWr3 hH ?yr3_20 ?_); (case yr3_20 => (intro w' hSw; clear hSw; go_simp; try (with_reducible rfl))); (simp only [sB, sC]); (refine Ut 20 80 14 0 0 (v := ?vr3_21) rfl hWr3 hH ?yr3_21 ?_); (case yr3_21 => (intro w' hSw; replace hSw := S2o0 hSw; (try dsimp only at hSw); have q0 := hSw.1; have q1 := hSw.2.1; have q2 := hSw.2.2.1; have q3 := hSw.2.2.2.1; have q4 := hSw.2.2.2.2.1; have q5 := hSw.2.2.2.2.2.1; have q6 := hSw.2.2.2.2.2.2.1; have q7 := hSw.2.2.2.2.2.2.2.1; have q8 := hSw.2.2.2.2.2.2.2.2.1; have q9 := hSw.2.2.2.2.2.2.2.2.2.1; have q10 := hSw.2.2.2.2.2.2.2.2.2.2.1; have q11 := hSw.2.2.2.2.2.2.2.2.2.2.2.1; have q12 := hSw.2.2.2.2.2.2.2.2.2.2.2.2; go_simp; try (with_reducible rfl))); (simp only [sB, sC]); (refine Ut 21 81 13 0 0 (v := ?vr3_22) rfl hWr3 hH ?yr3_22 ?_); (case yr3_22 => (intro w' hSw; clear hSw; go_simp; try (with_reducible rfl))); (simp only [sB, sC]); (refine Ut 22 82 12 0 0 (v := ?vr3_23) rfl hWr3 hH ?yr3_23 ?_); (case yr3_23 => (intro w' hSw; clear hSw; go_simp; try (with_reducible rfl))); (simp only [sB, sC]); (refine Ut 23 83 11 0 0 (v := ?vr3_24) rfl hWr3 hH ?yr3_24 ?_); (case yr3_24 => (intro w' hSw; clear hSw; go_simp; try (with_reducible rfl))); (simp only [sB, sC]); (refine Ut 24 84 10 0 0 (v := ?vr3_25) rfl hWr3 hH ?yr3_25 ?_); (case yr3_25 => (intro w' hSw; clear hSw; go_simp; try (with_reducible rfl))); (simp only [sB, sC]); (refine Ut 25 85 9 0 0 (v := ?vr3_26) rfl hWr3 hH ?yr3_26 ?_); (case yr3_26 => (intro w' hSw; clear hSw; go_simp; try (with_reducible rfl))); (simp only [sB, sC]); (refine Ut 26 86 8 0 0 (v := ?vr3_27) rfl hWr3 hH ?yr3_27 ?_); (case yr3_27 => (intro w' hSw; replace hSw := S2o0 hSw; (try dsimp only at hSw); have q0 := hSw.1; have q1 := hSw.2.1; have q2 := hSw.2.2.1; have q3 := hSw.2.2.2.1; have q4 := hSw.2.2.2.2.1; have q5 := hSw.2.2.2.2.2.1; have q6 := hSw.2.2.2.2.2.2.1; have q7 := hSw.2.2.2.2.2.2.2.1; have q8 := hSw.2.2.2.2.2.2.2.2.1; have q9 := hSw.2.2.2.2.2.2.2.2.2.1; have q10 := hSw.2.2.2.2.2.2.2.2.2.2.1; have q11 := hSw.2.2.2.2.2.2.2.2.2.2.2.1; have q12 := hSw.2.2.2.2.2.2.2.2.2.2.2.2; go_simp; try (with_reducible rfl))); (simp only [sB, sC]); (refine Ut 27 87 7 0 0 (v := ?vr3_28) rfl hWr3 hH ?yr3_28 ?_); (case yr3_28 => (intro w' hSw; clear hSw; go_simp; try (with_reducible rfl))); (simp only [sB, sC]); (refine Ut 28 88 6 0 0 (v := ?vr3_29) rfl hWr3 hH ?yr3_29 ?_); (case yr3_29 => (intro w' hSw; clear hSw; go_simp; try (with_reducible rfl))); (simp only [sB, sC]); (refine Ut 29 89 5 0 0 (v := ?vr3_30) rfl hWr3 hH ?yr3_30 ?_); (case yr3_30 => (intro w' hSw; clear hSw; go_simp; try (with_reducible rfl))); (simp only [sB, sC]); (refine Ut 30 90 4 0 0 (v := ?vr3_31) rfl hWr3 hH ?yr3_31 ?_); (case yr3_31 => (intro w' hSw; replace hSw := S2o0 hSw; (try dsimp only at hSw); have q0 := hSw.1; have q1 := hSw.2.1; have q2 := hSw.2.2.1; have q3 := hSw.2.2.2.1; have q4 := hSw.2.2.2.2.1; have q5 := hSw.2.2.2.2.2.1; have q6 := hSw.2.2.2.2.2.2.1; have q7 := hSw.2.2.2.2.2.2.2.1; have q8 := hSw.2.2.2.2.2.2.2.2.1; have q9 := hSw.2.2.2.2.2.2.2.2.2.1; have q10 := hSw.2.2.2.2.2.2.2.2.2.2.1; have q11 := hSw.2.2.2.2.2.2.2.2.2.2.2.1; have q12 := hSw.2.2.2.2.2.2.2.2.2.2.2.2; go_simp; try (with_reducible rfl))); (simp only [sB, sC]); (refine Ut 31 91 3 0 0 (v := ?vr3_32) rfl hWr3 hH ?yr3_32 ?_); (case yr3_32 => (intro w' hSw; clear hSw; go_simp; try (with_reducible rfl))); (simp only [sB, sC]); (refine Ut 32 92 2 0 0 (v := ?vr3_33) rfl hWr3 hH ?yr3_33 ?_); (case yr3_33 => (intro w' hSw; clear hSw; go_simp; try (with_reducible rfl))); (simp only [sB, sC]); (refine Ut 33 93 1 0 0 (v := ?vr3_34) rfl hWr3 hH ?yr3_34 ?_); (case yr3_34 => (intro w' hSw; clear hSw; go_simp; try (with_reducible rfl))); (simp only [sB, sC]); (refine Ut 34 94 0 0 0 (v := ?vr3_35) rfl hWr3 hH ?yr3_35 ?_); (case yr3_35 => (intro w' hSw; clear hSw; go_simp; try (with_reducible rfl))); (simp only [sB, sC]); (refine wpAnyU_done (by kernel_rfl) ?_ _ _); (refine NoPanic.normal ?_); (clear hWr3); (replace hH := S2o0 hH); ((try dsimp only at hH)); (have k0 := hH.1); (have k1 := hH.2.1); (have k2 := hH.2.2.1); (have k3 := hH.2.2.2.1); (have k4 := hH.2.2.2.2.1); (have k5 := hH.2.2.2.2.2.1); (have k6 := hH.2.2.2.2.2.2.1); (have k7 := hH.2.2.2.2.2.2.2.1); (have k8 := hH.2.2.2.2.2.2.2.2.1); (have k9 := hH.2.2.2.2.2.2.2.2.2.1); (have k10 := hH.2.2.2.2.2.2.2.2.2.2.1); (have k11 := hH.2.2.2.2.2.2.2.2.2.2.2.1); (have k12 := hH.2.2.2.2.2.2.2.2.2.2.2.2); (clear hH)
      clear a0 a1 a2 a3 a4 a5 b0 b1 b2 b3 b4 b5 k0 k1 k2 k3 k4 k5 k6 k7 k8 k9 k10 k11 hbl m0 m1 HP4 hq hid'
      replace hB4 := keepBelow k12 hB4
      generalize wv.drew = wq at *
      go_wp2_with fail
      refine (HCO.out _ k12).mono ?_
      rintro e w9 ⟨rfl, hb9⟩
      have hB9 := keepBelow hb9 hB4
      clear hb9 HCO k12
      go_wp2
      go_returns
      exact ret_bool rfl hB9

end Go.Proofs.Ythhfjiikmaghdaa
