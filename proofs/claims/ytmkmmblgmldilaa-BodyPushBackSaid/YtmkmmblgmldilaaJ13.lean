/- The walk of BodyPushBack. -/
import Derived.Test.YtmkmmblgmldilaaM13
import Derived.Test.YtmkmmblgmldilaaJ12
namespace Go.Proofs.Ytmkmmblgmldilaa
set_option linter.unusedVariables false
set_option linter.unusedSimpArgs false
open Go.RowKit

theorem BdAt.setBd_far {w : World} {g k : Nat} {b : Bd} {A : Option Addr} {n c : Nat} (h : BdAt w g b A n c) (hne : k ≠ g) (b' : Bd) (A' : Option Addr) (n' c' : Nat) : BdAt (setBd w k b' A' n' c') g b A n c :=
  BdAt.far (BdAt.far (BdAt.far (BdAt.far (BdAt.far (BdAt.far (BdAt.far (BdAt.far (BdAt.far (BdAt.far (BdAt.far (BdAt.far (BdAt.far (h) k 0 _ hne) k 1 _ hne) k 2 _ hne) k 3 _ hne) k 4 _ hne) k 5 _ hne) k 6 _ hne) k 7 _ hne) k 8 _ hne) k 9 _ hne) k 10 _ hne) k 11 _ hne) k 12 _ hne
def nearB (a b : Int) : Bool := decide (a - b ≤ 2 ∧ b - a ≤ 2)
theorem near_calls (a b : Int) (ha : -1099511627776 ≤ a ∧ a ≤ 1099511627776) (hb : -1099511627776 ≤ b ∧ b ≤ 1099511627776) (h : -2 ≤ a - b ∧ a - b ≤ 2) (w : World) : Calls Try.prog 28 #[.int .i64 a, .int .i64 b] w (Ret (.bool true) w) := by
  have w1 : IntKind.i64.wrap (a - b) = a - b := IntWalk.i64_in _ (by omega)
  have w2 : IntKind.i64.wrap (b - a) = b - a := IntWalk.i64_in _ (by omega)
  have h1 : a - b ≤ 2 := by omega
  have h2 : b - a ≤ 2 := by omega
  go_enter Try.func28, Try.ntmps28
  go_wp2
  go_returns
  exact ret_bool (by simp [h1, h2]) (Below.refl _ _)

set_option maxRecDepth 100000 in
set_option maxHeartbeats 4000000 in
theorem bodyPushBack_walk (A : Option Addr) (n c : Nat) (r : List Int) (x y x' y' : Int) (w : World) (hS : SlI w A n c r) :
    Calls Try.prog 4 #[.slice A n c, .int .i64 x, .int .i64 y, .int .i64 x', .int .i64 y'] w (Ret (.bool true) w) := by
  obtain ⟨jx, hjx⟩ : ∃ a, a = x % 1572864 - 786432 := ⟨_, rfl⟩
  obtain ⟨jy, hjy⟩ : ∃ a, a = y % 1572864 - 786432 := ⟨_, rfl⟩
  obtain ⟨u, hu⟩ : ∃ a, a = x' % 1572864 - 786432 := ⟨_, rfl⟩
  obtain ⟨v, hv⟩ : ∃ a, a = y' % 1572864 - 786432 := ⟨_, rfl⟩
  have bj : -786432 ≤ jx ∧ jx ≤ 786432 := by omega
  have bk : -786432 ≤ jy ∧ jy ≤ 786432 := by omega
  have bu : -786432 ≤ u ∧ u ≤ 786432 := by omega
  have bv : -786432 ≤ v ∧ v ≤ 786432 := by omega
  have EJX := hid hjx
  have EJY := hid hjy
  have EU := hid hu
  have EV := hid hv
  have HSI := hid hS
  clear hS hjx hjy hu hv
  go_enter Try.func4, Try.ntmps4
  go_wp2_with fail
  refine (mBody_calls _ _ _ r _ HSI.out).mono ?_
  rintro e w1 ⟨b, l, A1, n1, c1, rfl, hmb, hml, hs1, hf1, hb1⟩
  have HL := hid (backLaw hmb l bj bk bu bv)
  have HMB := hid hmb
  have hlen : l.length ≤ 8796093022208 := by have := made_len hml; omega
  obtain ⟨b1, hb1e⟩ : ∃ b1, b1 = pushB b l jx jy u v := ⟨_, rfl⟩
  rw [← hb1e] at HL
  obtain ⟨c, hce⟩ : ∃ c, c = pushB b1 l (-jx) (-jy) u v := ⟨_, rfl⟩
  rw [← hce] at HL
  have HP1 : Hid (∀ (w : World) (A : Option Addr) (n c : Nat), Sl w A n c l → Calls Try.prog 26 #[bodyV b A n c, vecV jx jy, vecV u v] w (RetBody b1 l w)) := fun w A n c h => by
    have := push_calls b A n c l jx jy u v w h hlen
    rwa [← hb1e] at this
  have HP2 : Hid (∀ (w : World) (A : Option Addr) (n c' : Nat), Sl w A n c' l → Calls Try.prog 26 #[bodyV b1 A n c', vecV (-jx) (-jy), vecV u v] w (RetBody c l w)) := fun w A n c' h => by
    have := push_calls b1 A n c' l (-jx) (-jy) u v w h hlen
    rwa [← hce] at this
  have wj : IntKind.i64.wrap (-jx) = -jx := IntWalk.i64_in _ (by omega)
  have wk : IntKind.i64.wrap (-jy) = -jy := IntWalk.i64_in _ (by omega)
  have HS1 := hid hs1
  clear hmb hml hs1 hf1 hb1e hce HSI
  go_wp2_with fail
  refine (place_calls x y _).mono ?_
  rintro e w2 ⟨rfl, hb2⟩
  rw [← EJX.out, ← EJY.out]
  have hB2 := keepBelow hb2 hb1
  have HS2 := hid (HS1.out.below hb2)
  clear hb1 hb2 HS1
  go_wp2_with fail
  refine (place_calls x' y' _).mono ?_
  rintro e w3 ⟨rfl, hb3⟩
  rw [← EU.out, ← EV.out]
  have hB3 := keepBelow hb3 hB2
  have HS3 := hid (HS2.out.below hb3)
  clear hb3 hB2 HS2
  obtain ⟨wd, hwd⟩ : ∃ wd, wd = ((w3.alloc (.cells #[.int .i64 b.px, .int .i64 b.py, .int .i64 b.vx, .int .i64 b.vy, .int .i64 b.ang, .int .i64 b.spin, .int .i64 b.mass, .int .i64 b.iner, .int .i64 b.bounce, .int .i64 b.rub, .slice A1 n1 c1, .bool b.asleep, .int .i64 b.calm] 39)).alloc (.cells #[.int .i64 jx, .int .i64 jy] 34)).alloc (.cells #[.int .i64 u, .int .i64 v] 34) := ⟨_, rfl⟩
  have HK := hid (show BdAt wd w3.heap.size b A1 n1 c1 by rw [hwd]; exact ((BdAt.here w3 b A1 n1 c1 _).alloc _).alloc _)
  have HS := hid (show Sl wd A1 n1 c1 l by rw [hwd]; exact ((HS3.out.alloc _).alloc _).alloc _)
  have hB : Below w.heap.size w wd := by rw [hwd]; have := hB3.size; go_grown
  have j0 : wd.cell? ⟨w3.heap.size + 1, 0, none⟩ = some (.int .i64 jx) := by rw [hwd]; go_simp
  have j1 : wd.cell? ⟨w3.heap.size + 1, 1, none⟩ = some (.int .i64 jy) := by rw [hwd]; go_simp
  have p0 : wd.cell? ⟨w3.heap.size + 2, 0, none⟩ = some (.int .i64 u) := by rw [hwd]; go_simp
  have p1 : wd.cell? ⟨w3.heap.size + 2, 1, none⟩ = some (.int .i64 v) := by rw [hwd]; go_simp
  have hw3 := hB3.size
  clear HS3 hB3
  go_upto_region 2 with fail
  rw [← hwd]
  clear hwd
  go_cut [14] from 24 to 36 (fun t wx => ∃ gx A3 n3 c3, t = .pointer (some ⟨gx, 0, none⟩) ∧ BdAt wx gx c A3 n3 c3 ∧ BdAt wx w3.heap.size b A1 n1 c1 ∧ Below w.heap.size w wx)
  case first =>
    refine wp_region_noPanic ?_
    refine wp_region_U (S := (S2 (fun w' => BdAt w' w3.heap.size b A1 n1 c1 ∧ Sl w' A1 n1 c1 l ∧ w'.cell? ⟨w3.heap.size + 1, 0, none⟩ = some (.int .i64 jx) ∧ w'.cell? ⟨w3.heap.size + 1, 1, none⟩ = some (.int .i64 jy) ∧ w'.cell? ⟨w3.heap.size + 2, 0, none⟩ = some (.int .i64 u) ∧ w'.cell? ⟨w3.heap.size + 2, 1, none⟩ = some (.int .i64 v) ∧ Below w.heap.size w w'))) (T := (fun j => [0, 0, 0, 0, 0, 0, 0, 0, 0, 0, 0, 0, 0, 0, 1].getD j 0)) (by kernel_rfl) (S2i0 ⟨HK.out.drew, HS.out.drew', j0, j1, p0, p1, hB.drew⟩) (fun hH => ?_)
    have hWr1 : Weaker (S2 (fun w' => BdAt w' w3.heap.size b A1 n1 c1 ∧ Sl w' A1 n1 c1 l ∧ w'.cell? ⟨w3.heap.size + 1, 0, none⟩ = some (.int .i64 jx) ∧ w'.cell? ⟨w3.heap.size + 1, 1, none⟩ = some (.int .i64 jy) ∧ w'.cell? ⟨w3.heap.size + 2, 0, none⟩ = some (.int .i64 u) ∧ w'.cell? ⟨w3.heap.size + 2, 1, none⟩ = some (.int .i64 v) ∧ Below w.heap.size w w')) := weaker2 _
    refine U_take 0 24 14 0 0 (v := ?vr1_1) rfl (by kernel_rfl) (by kernel_rfl) hWr1 (by kernel_rfl) (by kernel_rfl) (by kernel_rfl) (by kernel_rfl) (by kernel_rfl) (by kernel_rfl) (fun _ _ _ _ h => h) (by kernel_rfl) ?hyr1_1 (by omega) hH ?_
    case hyr1_1 => (intro w' hSw; replace hSw := S2o0 hSw; (try dsimp only at hSw); have q0 := hSw.1; have q1 := hSw.2.1; have q2 := hSw.2.2.1; have q3 := hSw.2.2.2.1; have q4 := hSw.2.2.2.2.1; have q5 := hSw.2.2.2.2.2.1; have q6 := hSw.2.2.2.2.2.2; obtain ⟨qa0_0, qa0_1, qa0_2, qa0_3, qa0_4, qa0_5, qa0_6, qa0_7, qa0_8, qa0_9, qa0_10, qa0_11, qa0_12, qa0_f⟩ := id q0; go_simp; try (with_reducible rfl))
    simp only [List.set_cons_zero, List.set_cons_succ]
    refine U_take 1 25 13 0 0 (v := ?vr1_2) rfl (by kernel_rfl) (by kernel_rfl) hWr1 (by kernel_rfl) (by kernel_rfl) (by kernel_rfl) (by kernel_rfl) (by kernel_rfl) (by kernel_rfl) (fun _ _ _ _ h => h) (by kernel_rfl) ?hyr1_2 (by omega) hH ?_
    case hyr1_2 => (intro w' hSw; replace hSw := S2o0 hSw; (try dsimp only at hSw); have q0 := hSw.1; have q1 := hSw.2.1; have q2 := hSw.2.2.1; have q3 := hSw.2.2.2.1; have q4 := hSw.2.2.2.2.1; have q5 := hSw.2.2.2.2.2.1; have q6 := hSw.2.2.2.2.2.2; obtain ⟨qa0_0, qa0_1, qa0_2, qa0_3, qa0_4, qa0_5, qa0_6, qa0_7, qa0_8, qa0_9, qa0_10, qa0_11, qa0_12, qa0_f⟩ := id q0; go_simp; try (with_reducible rfl))
    simp only [List.set_cons_zero, List.set_cons_succ]
    refine U_take 2 26 12 0 0 (v := ?vr1_3) rfl (by kernel_rfl) (by kernel_rfl) hWr1 (by kernel_rfl) (by kernel_rfl) (by kernel_rfl) (by kernel_rfl) (by kernel_rfl) (by kernel_rfl) (fun _ _ _ _ h => h) (by kernel_rfl) ?hyr1_3 (by omega) hH ?_
    case hyr1_3 => (intro w' hSw; replace hSw := S2o0 hSw; (try dsimp only at hSw); have q0 := hSw.1; have q1 := hSw.2.1; have q2 := hSw.2.2.1; have q3 := hSw.2.2.2.1; have q4 := hSw.2.2.2.2.1; have q5 := hSw.2.2.2.2.2.1; have q6 := hSw.2.2.2.2.2.2; obtain ⟨qa0_0, qa0_1, qa0_2, qa0_3, qa0_4, qa0_5, qa0_6, qa0_7, qa0_8, qa0_9, qa0_10, qa0_11, qa0_12, qa0_f⟩ := id q0; go_simp; try (with_reducible rfl))
    simp only [List.set_cons_zero, List.set_cons_succ]
    refine U_take 4 28 11 0 0 (v := ?vr1_4) rfl (by kernel_rfl) (by kernel_rfl) hWr1 (by kernel_rfl) (by kernel_rfl) (by kernel_rfl) (by kernel_rfl) (by kernel_rfl) (by kernel_rfl) (fun _ _ _ _ h => h) (by kernel_rfl) ?hyr1_4 (by omega) hH ?_
    case hyr1_4 => (intro w' hSw; clear hSw; go_simp; try (with_reducible rfl))
    simp only [List.set_cons_zero, List.set_cons_succ]
    refine U_take 5 29 10 0 0 (v := ?vr1_5) rfl (by kernel_rfl) (by kernel_rfl) hWr1 (by kernel_rfl) (by kernel_rfl) (by kernel_rfl) (by kernel_rfl) (by kernel_rfl) (by kernel_rfl) (fun _ _ _ _ h => h) (by kernel_rfl) ?hyr1_5 (by omega) hH ?_
    case hyr1_5 => (intro w' hSw; replace hSw := S2o0 hSw; (try dsimp only at hSw); have q0 := hSw.1; have q1 := hSw.2.1; have q2 := hSw.2.2.1; have q3 := hSw.2.2.2.1; have q4 := hSw.2.2.2.2.1; have q5 := hSw.2.2.2.2.2.1; have q6 := hSw.2.2.2.2.2.2; obtain ⟨qa0_0, qa0_1, qa0_2, qa0_3, qa0_4, qa0_5, qa0_6, qa0_7, qa0_8, qa0_9, qa0_10, qa0_11, qa0_12, qa0_f⟩ := id q0; go_simp; try (with_reducible rfl))
    simp only [List.set_cons_zero, List.set_cons_succ]
    refine U_take 6 30 9 0 0 (v := ?vr1_6) rfl (by kernel_rfl) (by kernel_rfl) hWr1 (by kernel_rfl) (by kernel_rfl) (by kernel_rfl) (by kernel_rfl) (by kernel_rfl) (by kernel_rfl) (fun _ _ _ _ h => h) (by kernel_rfl) ?hyr1_6 (by omega) hH ?_
    case hyr1_6 => (intro w' hSw; clear hSw; go_simp; try (with_reducible rfl))
    simp only [List.set_cons_zero, List.set_cons_succ]
    refine U_take 7 31 8 0 0 (v := ?vr1_7) rfl (by kernel_rfl) (by kernel_rfl) hWr1 (by kernel_rfl) (by kernel_rfl) (by kernel_rfl) (by kernel_rfl) (by kernel_rfl) (by kernel_rfl) (fun _ _ _ _ h => h) (by kernel_rfl) ?hyr1_7 (by omega) hH ?_
    case hyr1_7 => (intro w' hSw; clear hSw; go_simp; try (with_reducible rfl))
    simp only [List.set_cons_zero, List.set_cons_succ]
    refine U_take 8 32 7 0 0 (v := ?vr1_8) rfl (by kernel_rfl) (by kernel_rfl) hWr1 (by kernel_rfl) (by kernel_rfl) (by kernel_rfl) (by kernel_rfl) (by kernel_rfl) (by kernel_rfl) (fun _ _ _ _ h => h) (by kernel_rfl) ?hyr1_8 (by omega) hH ?_
    case hyr1_8 => (intro w' hSw; replace hSw := S2o0 hSw; (try dsimp only at hSw); have q0 := hSw.1; have q1 := hSw.2.1; have q2 := hSw.2.2.1; have q3 := hSw.2.2.2.1; have q4 := hSw.2.2.2.2.1; have q5 := hSw.2.2.2.2.2.1; have q6 := hSw.2.2.2.2.2.2; obtain ⟨qa0_0, qa0_1, qa0_2, qa0_3, qa0_4, qa0_5, qa0_6, qa0_7, qa0_8, qa0_9, qa0_10, qa0_11, qa0_12, qa0_f⟩ := id q0; go_simp; try (with_reducible rfl))
    simp only [List.set_cons_zero, List.set_cons_succ]
    refine U_take 9 33 6 0 0 (v := ?vr1_9) rfl (by kernel_rfl) (by kernel_rfl) hWr1 (by kernel_rfl) (by kernel_rfl) (by kernel_rfl) (by kernel_rfl) (by kernel_rfl) (by kernel_rfl) (fun _ _ _ _ h => h) (by kernel_rfl) ?hyr1_9 (by omega) hH ?_
    case hyr1_9 => (intro w' hSw; clear hSw; go_simp; try (with_reducible rfl))
    simp only [List.set_cons_zero, List.set_cons_succ]
    refine U_take 10 34 5 0 0 (v := ?vr1_10) rfl (by kernel_rfl) (by kernel_rfl) hWr1 (by kernel_rfl) (by kernel_rfl) (by kernel_rfl) (by kernel_rfl) (by kernel_rfl) (by kernel_rfl) (fun _ _ _ _ h => h) (by kernel_rfl) ?hyr1_10 (by omega) hH ?_
    case hyr1_10 => (intro w' hSw; clear hSw; go_simp; try (with_reducible rfl))
    simp only [List.set_cons_zero, List.set_cons_succ]
    refine U_take 11 35 4 0 0 (v := ?vr1_11) rfl (by kernel_rfl) (by kernel_rfl) hWr1 (by kernel_rfl) (by kernel_rfl) (by kernel_rfl) (by kernel_rfl) (by kernel_rfl) (by kernel_rfl) (fun _ _ _ _ h => h) (by kernel_rfl) ?hyr1_11 (by omega) hH ?_
    case hyr1_11 => (intro w' hSw; replace hSw := S2o0 hSw; (try dsimp only at hSw); have q0 := hSw.1; have q1 := hSw.2.1; have q2 := hSw.2.2.1; have q3 := hSw.2.2.2.1; have q4 := hSw.2.2.2.2.1; have q5 := hSw.2.2.2.2.2.1; have q6 := hSw.2.2.2.2.2.2; obtain ⟨qa0_0, qa0_1, qa0_2, qa0_3, qa0_4, qa0_5, qa0_6, qa0_7, qa0_8, qa0_9, qa0_10, qa0_11, qa0_12, qa0_f⟩ := id q0; go_simp; try (with_reducible rfl))
    simp only [List.set_cons_zero, List.set_cons_succ]
    refine wpAnyU_ready (rs := [3, 13]) (by kernel_rfl) (by simp) ?_
    refine AllReadyU.cons 0 (by kernel_rfl) (o := _) rfl (fun K hK => ?_) ?_
    · try clear hb
      have hG := hH
      replace hG := S2o0 hG; (try dsimp only at hG); have q0 := hG.1; have q1 := hG.2.1; have q2 := hG.2.2.1; have q3 := hG.2.2.2.1; have q4 := hG.2.2.2.2.1; have q5 := hG.2.2.2.2.2.1; have q6 := hG.2.2.2.2.2.2
      go_simp
      (go_at_call 26; refine (HP1.out _ _ _ _ q1).mono ?_; rintro e wn ⟨A2, n2, c2, rfl, hs2, hf2, hb⟩; try (replace hT := keepBdZ hb hT))
      refine hK.out _ _ ?hsr1_12 (fun hH2 => ?hrr1_12)
      case hsr1_12 => exact S2i0 (by have hG := hH; replace hG := S2o0 hG; (try dsimp only at hG); have q0 := hG.1; have q1 := hG.2.1; have q2 := hG.2.2.1; have q3 := hG.2.2.2.1; have q4 := hG.2.2.2.2.1; have q5 := hG.2.2.2.2.2.1; have q6 := hG.2.2.2.2.2.2; exact ⟨keepBd hb q0, keepSl hb q1, keepCell hb q2, keepCell hb q3, keepCell hb q4, keepCell hb q5, keepBelow hb q6⟩)
      clear hK K hH
      have hH := hH2
      clear hH2
      try simp only [Act.put, List.setIfInBounds_toArray, List.set_cons_zero, List.set_cons_succ]
      refine wpAnyU_ready (rs := [12, 13]) (by kernel_rfl) (by simp) ?_
      refine AllReadyU.cons 0 (by kernel_rfl) (o := _) rfl (fun K hK => ?_) ?_
      · try clear hb
        go_simp
        (go_at_call 26; refine (HP2.out _ _ _ _ hs2).mono ?_; rintro e wn ⟨A3, n3, c3, rfl, hs3, hf3, hb⟩; try (replace hT := keepBdZ hb hT))
        refine hK.out _ _ ?hsr1_13 (fun hH2 => ?hrr1_13)
        case hsr1_13 => exact S2i0 (by have hG := hH; replace hG := S2o0 hG; (try dsimp only at hG); have q0 := hG.1; have q1 := hG.2.1; have q2 := hG.2.2.1; have q3 := hG.2.2.2.1; have q4 := hG.2.2.2.2.1; have q5 := hG.2.2.2.2.2.1; have q6 := hG.2.2.2.2.2.2; exact ⟨keepBd hb q0, keepSl hb q1, keepCell hb q2, keepCell hb q3, keepCell hb q4, keepCell hb q5, keepBelow hb q6⟩)
        clear hK K hH
        have hH := hH2
        clear hH2
        try simp only [Act.put, List.setIfInBounds_toArray, List.set_cons_zero, List.set_cons_succ]
        refine wpAnyU_ready (rs := [13]) (by kernel_rfl) (by simp) ?_
        refine AllReadyU.cons 0 (by kernel_rfl) (o := _) rfl (fun K hK => ?_) AllReadyU.nil
        try clear hb
        have hG := hH
        replace hG := S2o0 hG; (try dsimp only at hG); have q0 := hG.1; have q1 := hG.2.1; have q2 := hG.2.2.1; have q3 := hG.2.2.2.1; have q4 := hG.2.2.2.2.1; have q5 := hG.2.2.2.2.2.1; have q6 := hG.2.2.2.2.2.2
        go_simp
        refine hK.out _ _ ?hsr1_14 (fun hH2 => ?hrr1_14)
        case hsr1_14 => exact S2i0 (by have hG := hH; replace hG := S2o0 hG; (try dsimp only at hG); have q0 := hG.1; have q1 := hG.2.1; have q2 := hG.2.2.1; have q3 := hG.2.2.2.1; have q4 := hG.2.2.2.2.1; have q5 := hG.2.2.2.2.2.1; have q6 := hG.2.2.2.2.2.2; exact ⟨q0.alloc _, Sl.alloc q1 _, keepCell ((Below.refl _ _).alloc (Nat.le_refl _) _) q2, keepCell ((Below.refl _ _).alloc (Nat.le_refl _) _) q3, keepCell ((Below.refl _ _).alloc (Nat.le_refl _) _) q4, keepCell ((Below.refl _ _).alloc (Nat.le_refl _) _) q5, q6.alloc q6.size _⟩)
        clear hK K hH
        have hH := hH2
        clear hH2
        try simp only [Act.put, List.setIfInBounds_toArray, List.set_cons_zero, List.set_cons_succ]
        have hT : BdZ (wn.alloc (.cells #[.int .i64 0, .int .i64 0, .int .i64 0, .int .i64 0, .int .i64 0, .int .i64 0, .int .i64 0, .int .i64 0, .int .i64 0, .int .i64 0, .slice none 0 0, .bool false, .int .i64 0] 39)) wn.heap.size := by have := BdAt.here wn bd0 none 0 0 39; simp only [bd0] at this; exact BdZ.of this
        obtain ⟨gT, hgT⟩ : ∃ g, g = wn.heap.size := ⟨_, rfl⟩
        have hlT : w3.heap.size + 2 < gT := by rw [hgT]; exact lt_of_cell q4
        rw [← hgT] at hT
        try rw [← hgT]
        clear hgT q0 q1 q2 q3 q4 q5 q6
        generalize wn.alloc (.cells #[.int .i64 0, .int .i64 0, .int .i64 0, .int .i64 0, .int .i64 0, .int .i64 0, .int .i64 0, .int .i64 0, .int .i64 0, .int .i64 0, .slice none 0 0, .bool false, .int .i64 0] 39) = wx13 at *
        refine wpAnyU_ready (rs := [14]) (by kernel_rfl) (by simp) ?_
        refine AllReadyU.cons 1 (by kernel_rfl) (o := _) rfl (fun K hK => ?_) AllReadyU.nil
        have hG := hH
        replace hG := S2o0 hG; (try dsimp only at hG); have q0 := hG.1; have q1 := hG.2.1; have q2 := hG.2.2.1; have q3 := hG.2.2.2.1; have q4 := hG.2.2.2.2.1; have q5 := hG.2.2.2.2.2.1; have q6 := hG.2.2.2.2.2.2
        obtain ⟨z0, z1, z2, z3, z4, z5, z6, z7, z8, z9, z10, z11, z12, y0, y1, y2, y3, y4, y5, y6, y7, y8, y9, y10, y11, y12⟩ := hT.all
        have yf := hT.free
        have hl9 := hT.lt
        go_simp
        refine hK.out _ _ ?hsr1_15 (fun hH2 => ?hrr1_15)
        case hsr1_15 => exact S2i1
        clear hK K hH
        have hH := hH2
        clear hH2
        try simp only [Act.put, List.setIfInBounds_toArray, List.set_cons_zero, List.set_cons_succ]
        refine wpAnyU_done (by kernel_rfl) ?_ _ _
        refine NoPanic.normal ?_
        go_wp2_with fail
        go_meet
        refine ⟨gT, A3, n3, c3, rfl, ?_, ?_, ?_⟩
        · have := setBd_at hT c A3 n3 c3
          unfold setBd at this
          exact this
        · have := BdAt.setBd_far q0 (show gT ≠ w3.heap.size by omega) c A3 n3 c3
          unfold setBd at this
          exact this
        · have := below_setBd q6 (show w.heap.size ≤ gT by omega) c A3 n3 c3
          unfold setBd at this
          exact this
      refine AllReadyU.cons 0 (by kernel_rfl) (o := _) rfl (fun K hK => ?_) ?_
      · try clear hb
        have hG := hH
        replace hG := S2o0 hG; (try dsimp only at hG); have q0 := hG.1; have q1 := hG.2.1; have q2 := hG.2.2.1; have q3 := hG.2.2.2.1; have q4 := hG.2.2.2.2.1; have q5 := hG.2.2.2.2.2.1; have q6 := hG.2.2.2.2.2.2
        go_simp
        refine hK.out _ _ ?hsr1_16 (fun hH2 => ?hrr1_16)
        case hsr1_16 => exact S2i0 (by have hG := hH; replace hG := S2o0 hG; (try dsimp only at hG); have q0 := hG.1; have q1 := hG.2.1; have q2 := hG.2.2.1; have q3 := hG.2.2.2.1; have q4 := hG.2.2.2.2.1; have q5 := hG.2.2.2.2.2.1; have q6 := hG.2.2.2.2.2.2; exact ⟨q0.alloc _, Sl.alloc q1 _, keepCell ((Below.refl _ _).alloc (Nat.le_refl _) _) q2, keepCell ((Below.refl _ _).alloc (Nat.le_refl _) _) q3, keepCell ((Below.refl _ _).alloc (Nat.le_refl _) _) q4, keepCell ((Below.refl _ _).alloc (Nat.le_refl _) _) q5, q6.alloc q6.size _⟩)
        clear hK K hH
        have hH := hH2
        clear hH2
        try simp only [Act.put, List.setIfInBounds_toArray, List.set_cons_zero, List.set_cons_succ]
        replace hs2 := Sl.alloc hs2 (.cells #[.int .i64 0, .int .i64 0, .int .i64 0, .int .i64 0, .int .i64 0, .int .i64 0, .int .i64 0, .int .i64 0, .int .i64 0, .int .i64 0, .slice none 0 0, .bool false, .int .i64 0] 39)
        have hT : BdZ (wn.alloc (.cells #[.int .i64 0, .int .i64 0, .int .i64 0, .int .i64 0, .int .i64 0, .int .i64 0, .int .i64 0, .int .i64 0, .int .i64 0, .int .i64 0, .slice none 0 0, .bool false, .int .i64 0] 39)) wn.heap.size := by have := BdAt.here wn bd0 none 0 0 39; simp only [bd0] at this; exact BdZ.of this
        obtain ⟨gT, hgT⟩ : ∃ g, g = wn.heap.size := ⟨_, rfl⟩
        have hlT : w3.heap.size + 2 < gT := by rw [hgT]; exact lt_of_cell q4
        rw [← hgT] at hT
        try rw [← hgT]
        clear hgT q0 q1 q2 q3 q4 q5 q6
        generalize wn.alloc (.cells #[.int .i64 0, .int .i64 0, .int .i64 0, .int .i64 0, .int .i64 0, .int .i64 0, .int .i64 0, .int .i64 0, .int .i64 0, .int .i64 0, .slice none 0 0, .bool false, .int .i64 0] 39) = wx13 at *
        refine wpAnyU_ready (rs := [12]) (by kernel_rfl) (by simp) ?_
        refine AllReadyU.cons 0 (by kernel_rfl) (o := _) rfl (fun K hK => ?_) AllReadyU.nil
        try clear hb
        go_simp
        (go_at_call 26; refine (HP2.out _ _ _ _ hs2).mono ?_; rintro e wn ⟨A3, n3, c3, rfl, hs3, hf3, hb⟩; try (replace hT := keepBdZ hb hT))
        refine hK.out _ _ ?hsr1_17 (fun hH2 => ?hrr1_17)
        case hsr1_17 => exact S2i0 (by have hG := hH; replace hG := S2o0 hG; (try dsimp only at hG); have q0 := hG.1; have q1 := hG.2.1; have q2 := hG.2.2.1; have q3 := hG.2.2.2.1; have q4 := hG.2.2.2.2.1; have q5 := hG.2.2.2.2.2.1; have q6 := hG.2.2.2.2.2.2; exact ⟨keepBd hb q0, keepSl hb q1, keepCell hb q2, keepCell hb q3, keepCell hb q4, keepCell hb q5, keepBelow hb q6⟩)
        clear hK K hH
        have hH := hH2
        clear hH2
        try simp only [Act.put, List.setIfInBounds_toArray, List.set_cons_zero, List.set_cons_succ]
        refine wpAnyU_ready (rs := [14]) (by kernel_rfl) (by simp) ?_
        refine AllReadyU.cons 1 (by kernel_rfl) (o := _) rfl (fun K hK => ?_) AllReadyU.nil
        have hG := hH
        replace hG := S2o0 hG; (try dsimp only at hG); have q0 := hG.1; have q1 := hG.2.1; have q2 := hG.2.2.1; have q3 := hG.2.2.2.1; have q4 := hG.2.2.2.2.1; have q5 := hG.2.2.2.2.2.1; have q6 := hG.2.2.2.2.2.2
        obtain ⟨z0, z1, z2, z3, z4, z5, z6, z7, z8, z9, z10, z11, z12, y0, y1, y2, y3, y4, y5, y6, y7, y8, y9, y10, y11, y12⟩ := hT.all
        have yf := hT.free
        have hl9 := hT.lt
        go_simp
        refine hK.out _ _ ?hsr1_18 (fun hH2 => ?hrr1_18)
        case hsr1_18 => exact S2i1
        clear hK K hH
        have hH := hH2
        clear hH2
        try simp only [Act.put, List.setIfInBounds_toArray, List.set_cons_zero, List.set_cons_succ]
        refine wpAnyU_done (by kernel_rfl) ?_ _ _
        refine NoPanic.normal ?_
        go_wp2_with fail
        go_meet
        refine ⟨gT, A3, n3, c3, rfl, ?_, ?_, ?_⟩
        · have := setBd_at hT c A3 n3 c3
          unfold setBd at this
          exact this
        · have := BdAt.setBd_far q0 (show gT ≠ w3.heap.size by omega) c A3 n3 c3
          unfold setBd at this
          exact this
        · have := below_setBd q6 (show w.heap.size ≤ gT by omega) c A3 n3 c3
          unfold setBd at this
          exact this
      exact AllReadyU.nil
    refine AllReadyU.cons 0 (by kernel_rfl) (o := _) rfl (fun K hK => ?_) ?_
    · try clear hb
      have hG := hH
      replace hG := S2o0 hG; (try dsimp only at hG); have q0 := hG.1; have q1 := hG.2.1; have q2 := hG.2.2.1; have q3 := hG.2.2.2.1; have q4 := hG.2.2.2.2.1; have q5 := hG.2.2.2.2.2.1; have q6 := hG.2.2.2.2.2.2
      go_simp
      refine hK.out _ _ ?hsr1_19 (fun hH2 => ?hrr1_19)
      case hsr1_19 => exact S2i0 (by have hG := hH; replace hG := S2o0 hG; (try dsimp only at hG); have q0 := hG.1; have q1 := hG.2.1; have q2 := hG.2.2.1; have q3 := hG.2.2.2.1; have q4 := hG.2.2.2.2.1; have q5 := hG.2.2.2.2.2.1; have q6 := hG.2.2.2.2.2.2; exact ⟨q0.alloc _, Sl.alloc q1 _, keepCell ((Below.refl _ _).alloc (Nat.le_refl _) _) q2, keepCell ((Below.refl _ _).alloc (Nat.le_refl _) _) q3, keepCell ((Below.refl _ _).alloc (Nat.le_refl _) _) q4, keepCell ((Below.refl _ _).alloc (Nat.le_refl _) _) q5, q6.alloc q6.size _⟩)
      clear hK K hH
      have hH := hH2
      clear hH2
      try simp only [Act.put, List.setIfInBounds_toArray, List.set_cons_zero, List.set_cons_succ]
      have hT : BdZ ((wd.alloc (.cells #[.int .i64 0, .int .i64 0, .int .i64 0, .int .i64 0, .int .i64 0, .int .i64 0, .int .i64 0, .int .i64 0, .int .i64 0, .int .i64 0, .slice none 0 0, .bool false, .int .i64 0] 39)).drew) wd.heap.size := BdZ.drew (by have := BdAt.here wd bd0 none 0 0 39; simp only [bd0] at this; exact BdZ.of this)
      obtain ⟨gT, hgT⟩ : ∃ g, g = wd.heap.size := ⟨_, rfl⟩
      have hlT : w3.heap.size + 2 < gT := by rw [hgT]; exact lt_of_cell q4
      rw [← hgT] at hT
      try rw [← hgT]
      clear hgT q0 q1 q2 q3 q4 q5 q6
      generalize (wd.alloc (.cells #[.int .i64 0, .int .i64 0, .int .i64 0, .int .i64 0, .int .i64 0, .int .i64 0, .int .i64 0, .int .i64 0, .int .i64 0, .int .i64 0, .slice none 0 0, .bool false, .int .i64 0] 39)).drew = wx13 at *
      refine wpAnyU_ready (rs := [3]) (by kernel_rfl) (by simp) ?_
      refine AllReadyU.cons 0 (by kernel_rfl) (o := _) rfl (fun K hK => ?_) AllReadyU.nil
      try clear hb
      have hG := hH
      replace hG := S2o0 hG; (try dsimp only at hG); have q0 := hG.1; have q1 := hG.2.1; have q2 := hG.2.2.1; have q3 := hG.2.2.2.1; have q4 := hG.2.2.2.2.1; have q5 := hG.2.2.2.2.2.1; have q6 := hG.2.2.2.2.2.2
      go_simp
      (go_at_call 26; refine (HP1.out _ _ _ _ q1).mono ?_; rintro e wn ⟨A2, n2, c2, rfl, hs2, hf2, hb⟩; try (replace hT := keepBdZ hb hT))
      refine hK.out _ _ ?hsr1_20 (fun hH2 => ?hrr1_20)
      case hsr1_20 => exact S2i0 (by have hG := hH; replace hG := S2o0 hG; (try dsimp only at hG); have q0 := hG.1; have q1 := hG.2.1; have q2 := hG.2.2.1; have q3 := hG.2.2.2.1; have q4 := hG.2.2.2.2.1; have q5 := hG.2.2.2.2.2.1; have q6 := hG.2.2.2.2.2.2; exact ⟨keepBd hb q0, keepSl hb q1, keepCell hb q2, keepCell hb q3, keepCell hb q4, keepCell hb q5, keepBelow hb q6⟩)
      clear hK K hH
      have hH := hH2
      clear hH2
      try simp only [Act.put, List.setIfInBounds_toArray, List.set_cons_zero, List.set_cons_succ]
      refine wpAnyU_ready (rs := [12]) (by kernel_rfl) (by simp) ?_
      refine AllReadyU.cons 0 (by kernel_rfl) (o := _) rfl (fun K hK => ?_) AllReadyU.nil
      try clear hb
      go_simp
      (go_at_call 26; refine (HP2.out _ _ _ _ hs2).mono ?_; rintro e wn ⟨A3, n3, c3, rfl, hs3, hf3, hb⟩; try (replace hT := keepBdZ hb hT))
      refine hK.out _ _ ?hsr1_21 (fun hH2 => ?hrr1_21)
      case hsr1_21 => exact S2i0 (by have hG := hH; replace hG := S2o0 hG; (try dsimp only at hG); have q0 := hG.1; have q1 := hG.2.1; have q2 := hG.2.2.1; have q3 := hG.2.2.2.1; have q4 := hG.2.2.2.2.1; have q5 := hG.2.2.2.2.2.1; have q6 := hG.2.2.2.2.2.2; exact ⟨keepBd hb q0, keepSl hb q1, keepCell hb q2, keepCell hb q3, keepCell hb q4, keepCell hb q5, keepBelow hb q6⟩)
      clear hK K hH
      have hH := hH2
      clear hH2
      try simp only [Act.put, List.setIfInBounds_toArray, List.set_cons_zero, List.set_cons_succ]
      refine wpAnyU_ready (rs := [14]) (by kernel_rfl) (by simp) ?_
      refine AllReadyU.cons 1 (by kernel_rfl) (o := _) rfl (fun K hK => ?_) AllReadyU.nil
      have hG := hH
      replace hG := S2o0 hG; (try dsimp only at hG); have q0 := hG.1; have q1 := hG.2.1; have q2 := hG.2.2.1; have q3 := hG.2.2.2.1; have q4 := hG.2.2.2.2.1; have q5 := hG.2.2.2.2.2.1; have q6 := hG.2.2.2.2.2.2
      obtain ⟨z0, z1, z2, z3, z4, z5, z6, z7, z8, z9, z10, z11, z12, y0, y1, y2, y3, y4, y5, y6, y7, y8, y9, y10, y11, y12⟩ := hT.all
      have yf := hT.free
      have hl9 := hT.lt
      go_simp
      refine hK.out _ _ ?hsr1_22 (fun hH2 => ?hrr1_22)
      case hsr1_22 => exact S2i1
      clear hK K hH
      have hH := hH2
      clear hH2
      try simp only [Act.put, List.setIfInBounds_toArray, List.set_cons_zero, List.set_cons_succ]
      refine wpAnyU_done (by kernel_rfl) ?_ _ _
      refine NoPanic.normal ?_
      go_wp2_with fail
      go_meet
      refine ⟨gT, A3, n3, c3, rfl, ?_, ?_, ?_⟩
      · have := setBd_at hT c A3 n3 c3
        unfold setBd at this
        exact this
      · have := BdAt.setBd_far q0 (show gT ≠ w3.heap.size by omega) c A3 n3 c3
        unfold setBd at this
        exact this
      · have := below_setBd q6 (show w.heap.size ≤ gT by omega) c A3 n3 c3
        unfold setBd at this
        exact this
    exact AllReadyU.nil
  case rest =>
    obtain ⟨gx, A3, n3, c3, rfl, hx, hk, hBc⟩ := hcut
    have HX0 := hid hx
    have HK0 := hid hk
    clear hx hk HK HS hB j0 j1 p0 p1 wj wk
    go_wp2_with fail
    refine (pushes_calls _).mono ?_
    rintro e w5 ⟨rfl, hb5⟩
    obtain ⟨k0, k1, k2, k3, k4, k5, k6, k7, k8, k9, k10, k11, k12, _⟩ := keepBd hb5 HX0.out
    obtain ⟨m0, m1, m2, m3, m4, m5, m6, m7, m8, m9, m10, m11, m12, _⟩ := keepBd hb5 HK0.out
    have HX5 := hid (keepBd hb5 HX0.out)
    have HK5 := hid (keepBd hb5 HK0.out)
    have hB5 := keepBelow hb5 hBc
    have L1 := HL.out
    have bvx : -268435456 ≤ b.vx ∧ b.vx ≤ 268435456 := by rcases HMB.out.kind with ⟨h, _⟩ | ⟨h, _⟩ <;> omega
    have bvy : -268435456 ≤ b.vy ∧ b.vy ≤ 268435456 := by rcases HMB.out.kind with ⟨_, h, _⟩ | ⟨_, h, _⟩ <;> omega
    have bsp : -268435456 ≤ b.spin ∧ b.spin ≤ 268435456 := by rcases HMB.out.kind with ⟨_, _, h, _⟩ | ⟨_, _, h, _⟩ <;> omega
    have l1 := L1.vx
    have l2 := L1.vy
    have l3 := L1.spin
    have N1 := hid (near_calls c.vx b.vx (by omega) (by omega) l1)
    have N2 := hid (near_calls c.vy b.vy (by omega) (by omega) l2)
    have N3 := hid (near_calls c.spin b.spin (by omega) (by omega) l3)
    have E := hid L1
    clear L1 l1 l2 l3 bvx bvy bsp hb5 HX0 HK0 hBc
    go_wp2_with fail
    refine (N1.out _).mono ?_
    rintro e w6 ⟨rfl, hb6⟩
    clear k0 m0 k1 m1 k2 m2 k3 m3 k4 m4 k5 m5 k6 m6 k7 m7 k8 m8 k9 m9 k10 m10 k11 m11 k12 m12
    obtain ⟨k0, k1, k2, k3, k4, k5, k6, k7, k8, k9, k10, k11, k12, _⟩ := keepBd hb6 HX5.out
    obtain ⟨m0, m1, m2, m3, m4, m5, m6, m7, m8, m9, m10, m11, m12, _⟩ := keepBd hb6 HK5.out
    have HX6 := hid (keepBd hb6 HX5.out)
    have HK6 := hid (keepBd hb6 HK5.out)
    have hB6 := keepBelow hb6 hB5
    clear hb6 hB5 HX5 HK5
    go_wp2_with fail
    refine (N2.out _).mono ?_
    rintro e w7 ⟨rfl, hb7⟩
    clear k0 m0 k1 m1 k2 m2 k3 m3 k4 m4 k5 m5 k6 m6 k7 m7 k8 m8 k9 m9 k10 m10 k11 m11 k12 m12
    obtain ⟨k0, k1, k2, k3, k4, k5, k6, k7, k8, k9, k10, k11, k12, _⟩ := keepBd hb7 HX6.out
    obtain ⟨m0, m1, m2, m3, m4, m5, m6, m7, m8, m9, m10, m11, m12, _⟩ := keepBd hb7 HK6.out
    have HX7 := hid (keepBd hb7 HX6.out)
    have HK7 := hid (keepBd hb7 HK6.out)
    have hB7 := keepBelow hb7 hB6
    clear hb7 hB6 HX6 HK6
    go_wp2_with fail
    refine (N3.out _).mono ?_
    rintro e w8 ⟨rfl, hb8⟩
    clear k0 m0 k1 m1 k2 m2 k3 m3 k4 m4 k5 m5 k6 m6 k7 m7 k8 m8 k9 m9 k10 m10 k11 m11 k12 m12
    obtain ⟨k0, k1, k2, k3, k4, k5, k6, k7, k8, k9, k10, k11, k12, _⟩ := keepBd hb8 HX7.out
    obtain ⟨m0, m1, m2, m3, m4, m5, m6, m7, m8, m9, m10, m11, m12, _⟩ := keepBd hb8 HK7.out
    have hB8 := keepBelow hb8 hB7
    clear hb8 hB7 HX7 HK7
    have e1 := E.out.px
    have e2 := E.out.py
    have e3 := E.out.ang
    rw [e1] at k0
    rw [e2] at k1
    rw [e3] at k4
    clear e1 e2 e3
    go_wp2
    go_returns
    exact ret_bool (by simp) hB8

end Go.Proofs.Ytmkmmblgmldilaa
