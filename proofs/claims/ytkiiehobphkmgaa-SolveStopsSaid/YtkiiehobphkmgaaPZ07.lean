/- Parts of a proof: contracts and laws. -/
import Derived.Test.YtkiiehobphkmgaaPZ06
import Derived.Test.YtkiiehobphkmgaaPZ00
import Derived.BigQuiet
namespace Go.Proofs.Ytkiiehobphkmgaa
section
set_option linter.unusedVariables false
set_option linter.unusedSimpArgs false
open Go.RowKit
def sizeL (l : List V) (i k : Nat) : Int := absZ (px l k - px l i) + absZ (py l k - py l i)
def fatBad (l : List V) (i k : Nat) : Bool := decide (k ≠ i ∧ k ≠ (i + 1) % l.length ∧ sideL l i ((i + 1) % l.length) k < 8 * (sizeL l i ((i + 1) % l.length) + sizeL l i k))
def fatRows (l : List V) (i : Nat) : Prop := ∀ i', i' < i → ∀ k, k < l.length → fatBad l i' k = false
def fatCols (l : List V) (i k : Nat) : Prop := ∀ k', k' < k → fatBad l i k' = false
def fatB (l : List V) : Bool := !((List.range l.length).any fun i => (List.range l.length).any fun k => fatBad l i k)
theorem fatB_bad {l : List V} {i k : Nat} (hi : i < l.length) (hk : k < l.length) (hb : fatBad l i k = true) : fatB l = false := by
  unfold fatB
  rw [Bool.not_eq_false']
  simp only [List.any_eq_true, List.mem_range]
  exact ⟨i, hi, k, hk, hb⟩
theorem fatB_ok {l : List V} (h : fatRows l l.length) : fatB l = true := by
  unfold fatB
  rw [Bool.not_eq_true', ← Bool.not_eq_true]
  simp only [List.any_eq_true, List.mem_range, not_exists, not_and]
  intro i hi k hk
  simp [h i hi k hk]
theorem fatCols_succ {l : List V} {i k : Nat} (h : fatCols l i k) (hb : fatBad l i k = false) : fatCols l i (k + 1) := fun k' hk => by
  by_cases e : k' = k
  · subst e; exact hb
  · exact h k' (by omega)
theorem fatRows_succ {l : List V} {i : Nat} (h : fatRows l i) (hb : fatCols l i l.length) : fatRows l (i + 1) := fun i' hi k hk => by
  by_cases e : i' = i
  · subst e; exact hb k hk
  · exact h i' (by omega) k hk
set_option maxRecDepth 100000 in
set_option maxHeartbeats 4000000 in
theorem fat_calls (A : Option Addr) (n c : Nat) (l : List V) (w : World) (hS : Sl w A n c l) (hw : allWithin 65536000 l = true) (h3 : 3 ≤ l.length) (h8 : l.length ≤ 8) :
    Calls Try.prog 47 #[.slice A n c] w (Ret (.bool (fatB l)) w) := by
  obtain ⟨hn, hcap, hbig, hat⟩ := hS
  subst hn
  obtain ⟨b, off, rfl, hC⟩ := hat (by intro h; subst h; simp at h3)
  have HW := hid hw
  clear hat hw
  go_enter Try.func47, Try.ntmps47
  go_wp2
  go_loopw [12] (fun i wr => ∃ k : Nat, k ≤ l.length ∧ i = .int .i64 k ∧ fatRows l k ∧ Below w.heap.size w wr) (fun i _ => l.length - (intOf i).toNat)
  case atStart => exact ⟨0, Nat.zero_le _, rfl, fun _ h => absurd h (by omega), Below.refl _ _⟩
  case round =>
    obtain ⟨k, hk, rfl, hno, hB⟩ := hrel
    obtain ⟨wo, rfl⟩ : ∃ wo : World, wo = wr := ⟨_, rfl⟩
    have HN := hid hno
    have hCo := hC.below hB
    have hbo := hCo.lt
    have HC1 := hid hC
    clear hno hC
    by_cases hlt : k < l.length
    · obtain ⟨j, hje⟩ : ∃ j, j = (k + 1) % l.length := ⟨_, rfl⟩
      have hj : j < l.length := by rw [hje]; exact Nat.mod_lt _ (by omega)
      have hji : ((k : Int) + 1) % (l.length : Int) = (j : Int) := by rw [hje]; simp
      have hji2 : (((k : Int) + 1) % (l.length : Int)).toNat = j := by omega
      have hji3 : ((k : Int) + 1) % (l.length : Int) < (l.length : Int) := by omega
      have hji4 : 0 ≤ ((k : Int) + 1) % (l.length : Int) := by omega
      have hx := hCo.x k hlt
      have hy := hCo.y k hlt
      have hx2 := hCo.x j hj
      have hy2 := hCo.y j hj
      obtain ⟨q1, q2, q3, q4⟩ := withinB_iff.1 (allWithin_at HW.out hlt)
      obtain ⟨q5, q6, q7, q8⟩ := withinB_iff.1 (allWithin_at HW.out hj)
      obtain ⟨ex, hex⟩ : ∃ ex, ex = px l j - px l k := ⟨_, rfl⟩
      obtain ⟨ey, hey⟩ : ∃ ey, ey = py l j - py l k := ⟨_, rfl⟩
      have b1 : -131072000 ≤ ex ∧ ex ≤ 131072000 := by omega
      have b2 : -131072000 ≤ ey ∧ ey ≤ 131072000 := by omega
      have v1 : IntKind.i64.wrap (px l j - px l k) = ex := by rw [← hex]; exact IntWalk.i64_in _ (by omega)
      have v2 : IntKind.i64.wrap (py l j - py l k) = ey := by rw [← hey]; exact IntWalk.i64_in _ (by omega)
      have HJ := hid hje
      have HEX := hid hex
      have HEY := hid hey
      clear hCo hje hex hey
      go_wp2
      obtain ⟨wa, hwa⟩ : ∃ wa, wa = ((wo.alloc (.cells #[.int .i64 (px l k), .int .i64 (py l k)] 24)).alloc (.cells #[.int .i64 (px l j), .int .i64 (py l j)] 24)).alloc (.cells #[.int .i64 ex, .int .i64 ey] 24) := ⟨_, rfl⟩
      have r1 : wa.cell? ⟨wo.heap.size, 0, none⟩ = some (.int .i64 (px l k)) := by rw [hwa]; go_simp
      have r2 : wa.cell? ⟨wo.heap.size, 1, none⟩ = some (.int .i64 (py l k)) := by rw [hwa]; go_simp
      have r3 : wa.cell? ⟨wo.heap.size + 2, 0, none⟩ = some (.int .i64 ex) := by rw [hwa]; go_simp
      have r4 : wa.cell? ⟨wo.heap.size + 2, 1, none⟩ = some (.int .i64 ey) := by rw [hwa]; go_simp
      have hBa : Below w.heap.size w wa := by rw [hwa]; exact ((hB.alloc hB.size _).alloc (by have := hB.size; simp; omega) _).alloc (by have := hB.size; simp; omega) _
      rw [← hwa]
      clear hwa hx hy hx2 hy2 hB v1 v2
      go_loopw [38] (fun i wr => ∃ m : Nat, m ≤ l.length ∧ i = .int .i64 m ∧ fatCols l k m ∧ Below wa.heap.size wa wr) (fun i _ => l.length - (intOf i).toNat)
      case atStart => exact ⟨0, Nat.zero_le _, rfl, fun _ h => absurd h (by omega), Below.refl _ _⟩
      case round =>
        obtain ⟨m, hm, rfl, hcol, hBi⟩ := hrel
        have HCo := hid hcol
        clear hcol
        obtain ⟨wi, rfl⟩ : ∃ wi : World, wi = wr := ⟨_, rfl⟩
        have hBw : Below w.heap.size w wi := keepBelow hBi hBa
        by_cases hlt2 : m < l.length
        · have hCi := HC1.out.below hBw
          have hx3 := hCi.x m hlt2
          have hy3 := hCi.y m hlt2
          have hbi := hCi.lt
          have g5 := keepCell hBi r1
          have g6 := keepCell hBi r2
          have g7 := keepCell hBi r3
          have g8 := keepCell hBi r4
          obtain ⟨q9, q10, q11, q12⟩ := withinB_iff.1 (allWithin_at HW.out hlt2)
          obtain ⟨fx, hfx⟩ : ∃ fx, fx = px l m - px l k := ⟨_, rfl⟩
          obtain ⟨fy, hfy⟩ : ∃ fy, fy = py l m - py l k := ⟨_, rfl⟩
          have b3 : -131072000 ≤ fx ∧ fx ≤ 131072000 := by omega
          have b4 : -131072000 ≤ fy ∧ fy ≤ 131072000 := by omega
          have v1 : IntKind.i64.wrap (px l m - px l k) = fx := by rw [← hfx]; exact IntWalk.i64_in _ (by omega)
          have v2 : IntKind.i64.wrap (py l m - py l k) = fy := by rw [← hfy]; exact IntWalk.i64_in _ (by omega)
          have HFX := hid hfx
          have HFY := hid hfy
          have hz1 := lt_of_cell g5
          have hz2 := lt_of_cell g7
          have hBs := hBi.size
          clear hCi hfx hfy
          by_cases hi1 : m = k
          · have HE : Hid (fatBad l k m = false) := by
              show _ = _
              unfold fatBad
              rw [decide_eq_false_iff_not]
              exact fun h => h.1 hi1
            have hne : (((m : Int) != (k : Int)) = false) := by simp [hi1]
            clear hi1 HFX HFY HEX HEY HJ r1 r2 r3 r4
            go_wp2_with fail
            go_quiet (fail)
            go_wp2
            go_roundw
            case rel => exact ⟨m + 1, hlt2, by go_num, fatCols_succ HCo.out HE.out, below_drewN' ((hBi.alloc hBs _).alloc (by simp; omega) _) _⟩
            case measure => simp [intOf]; omega
          by_cases hi2 : m = j
          · have HE : Hid (fatBad l k m = false) := by
              show _ = _
              unfold fatBad
              rw [decide_eq_false_iff_not]
              exact fun h => h.2.1 (by rw [hi2]; exact HJ.out)
            have hne : (((m : Int) != (k : Int)) = true) := by simp; omega
            have hne2 : (((m : Int) != (j : Int)) = false) := by simp [hi2]
            clear hi1 hi2 HFX HFY HEX HEY HJ r1 r2 r3 r4
            go_wp2_with fail
            go_quiet (fail)
            go_wp2
            go_roundw
            case rel => exact ⟨m + 1, hlt2, by go_num, fatCols_succ HCo.out HE.out, below_drewN' ((hBi.alloc hBs _).alloc (by simp; omega) _) _⟩
            case measure => simp [intOf]; omega
          have hne : (((m : Int) != (k : Int)) = true) := by simp; omega
          have hne2 : (((m : Int) != (j : Int)) = true) := by simp; omega
          have HBD : Hid (fatBad l k m = decide (ex * fy - ey * fx < 8 * (absZ ex + absZ ey + (absZ fx + absZ fy)))) := by
            show _ = _
            unfold fatBad sizeL sideL sideZ
            rw [decide_eq_decide, ← HJ.out, ← HEX.out, ← HEY.out, ← HFX.out, ← HFY.out]
            exact ⟨fun h => h.2.2, fun h => ⟨hi1, hi2, h⟩⟩
          have m1 := mul_bd (x := ex) (y := fy) (M := 131072000) (N := 131072000) (by omega) (by omega) (by omega) (by omega)
          have m2 := mul_bd (x := ey) (y := fx) (M := 131072000) (N := 131072000) (by omega) (by omega) (by omega) (by omega)
          have w1 : IntKind.i64.wrap (ex * fy) = ex * fy := IntWalk.i64_in _ (by omega)
          have w2 : IntKind.i64.wrap (ey * fx) = ey * fx := IntWalk.i64_in _ (by omega)
          have w3 : IntKind.i64.wrap (ex * fy - ey * fx) = ex * fy - ey * fx := IntWalk.i64_in _ (by omega)
          have s1 : 0 ≤ absZ ex ∧ absZ ex ≤ 131072000 := by unfold absZ; split <;> omega
          have s2 : 0 ≤ absZ ey ∧ absZ ey ≤ 131072000 := by unfold absZ; split <;> omega
          have s3 : 0 ≤ absZ fx ∧ absZ fx ≤ 131072000 := by unfold absZ; split <;> omega
          have s4 : 0 ≤ absZ fy ∧ absZ fy ≤ 131072000 := by unfold absZ; split <;> omega
          have w4 : IntKind.i64.wrap (absZ ex + absZ ey + (absZ fx + absZ fy)) = absZ ex + absZ ey + (absZ fx + absZ fy) := IntWalk.i64_in _ (by omega)
          have w5 : IntKind.i64.wrap (8 * (absZ ex + absZ ey + (absZ fx + absZ fy))) = 8 * (absZ ex + absZ ey + (absZ fx + absZ fy)) := IntWalk.i64_in _ (by omega)
          clear hi1 hi2 HFX HFY HEX HEY HJ m1 m2 s1 s2 s3 s4
          obtain ⟨wg, hwg⟩ : ∃ wg, wg = (wi.alloc (.cells #[.int .i64 (px l m), .int .i64 (py l m)] 24)).alloc (.cells #[.int .i64 fx, .int .i64 fy] 24) := ⟨_, rfl⟩
          have g1 : wg.cell? ⟨wo.heap.size + 2, 0, none⟩ = some (.int .i64 ex) := by rw [hwg]; go_simp
          have g2 : wg.cell? ⟨wo.heap.size + 2, 1, none⟩ = some (.int .i64 ey) := by rw [hwg]; go_simp
          have g3 : wg.cell? ⟨wi.heap.size + 1, 0, none⟩ = some (.int .i64 fx) := by rw [hwg]; go_simp
          have g4 : wg.cell? ⟨wi.heap.size + 1, 1, none⟩ = some (.int .i64 fy) := by rw [hwg]; go_simp
          have hBg : Below wi.heap.size wi wg := by rw [hwg]; go_grown
          have HWG := hid hwg
          clear hwg
          go_upto_region 10 with fail
          rw [← HWG.out]
          have hl0 : ¬ l = [] := by intro h; rw [h] at hlt; simp at hlt
          have hwk : IntKind.i64.wrap ((k : Int) + 1) = (k : Int) + 1 := IntWalk.i64_in _ (by omega)
          have htm : ((k : Int) + 1).tmod (l.length : Int) = (j : Int) := by rw [Int.tmod_eq_emod_of_nonneg (by omega)]; exact hji
          clear HWG g5 g6 g7 g8 hx3 hy3 v1 v2
          refine wp_region_noPanic ?_
          refine wp_region_U (S := (S2 (fun w' => w'.cell? ⟨wo.heap.size + 2, 0, none⟩ = some (.int .i64 (ex)) ∧ w'.cell? ⟨wo.heap.size + 2, 1, none⟩ = some (.int .i64 (ey)) ∧ w'.cell? ⟨wi.heap.size + 1, 0, none⟩ = some (.int .i64 (fx)) ∧ w'.cell? ⟨wi.heap.size + 1, 1, none⟩ = some (.int .i64 (fy)) ∧ Below wi.heap.size wi w'))) (T := (fun _ => 0)) (by kernel_rfl) (S2i0 ⟨g1, g2, g3, g4, hBg.drew⟩) (fun hH => ?_)
          have hWr1 : Weaker (S2 (fun w' => w'.cell? ⟨wo.heap.size + 2, 0, none⟩ = some (.int .i64 (ex)) ∧ w'.cell? ⟨wo.heap.size + 2, 1, none⟩ = some (.int .i64 (ey)) ∧ w'.cell? ⟨wi.heap.size + 1, 0, none⟩ = some (.int .i64 (fx)) ∧ w'.cell? ⟨wi.heap.size + 1, 1, none⟩ = some (.int .i64 (fy)) ∧ Below wi.heap.size wi w')) := weaker2 _
          refine U_take 0 54 31 0 0 (v := ?vr1_1) rfl (by kernel_rfl) (by kernel_rfl) hWr1 (by kernel_rfl) (by kernel_rfl) (by kernel_rfl) (by kernel_rfl) (by kernel_rfl) (by kernel_rfl) (fun _ _ _ _ h => h) (by kernel_rfl) ?hyr1_1 (by omega) hH ?_
          case hyr1_1 => (intro w' hSw; clear hSw; go_simp; try (with_reducible rfl))
          simp only [List.set_cons_zero, List.set_cons_succ]
          refine U_take 1 55 30 0 0 (v := ?vr1_2) rfl (by kernel_rfl) (by kernel_rfl) hWr1 (by kernel_rfl) (by kernel_rfl) (by kernel_rfl) (by kernel_rfl) (by kernel_rfl) (by kernel_rfl) (fun _ _ _ _ h => h) (by kernel_rfl) ?hyr1_2 (by omega) hH ?_
          case hyr1_2 => (intro w' hSw; clear hSw; go_simp; try (with_reducible rfl))
          simp only [List.set_cons_zero, List.set_cons_succ]
          refine U_take 2 56 29 0 0 (v := ?vr1_3) rfl (by kernel_rfl) (by kernel_rfl) hWr1 (by kernel_rfl) (by kernel_rfl) (by kernel_rfl) (by kernel_rfl) (by kernel_rfl) (by kernel_rfl) (fun _ _ _ _ h => h) (by kernel_rfl) ?hyr1_3 (by omega) hH ?_
          case hyr1_3 => (intro w' hSw; clear hSw; go_simp; try (with_reducible rfl))
          simp only [List.set_cons_zero, List.set_cons_succ]
          refine U_take 3 57 28 0 0 (v := ?vr1_4) rfl (by kernel_rfl) (by kernel_rfl) hWr1 (by kernel_rfl) (by kernel_rfl) (by kernel_rfl) (by kernel_rfl) (by kernel_rfl) (by kernel_rfl) (fun _ _ _ _ h => h) (by kernel_rfl) ?hyr1_4 (by omega) hH ?_
          case hyr1_4 => (intro w' hSw; clear hSw; go_simp; try (with_reducible rfl))
          simp only [List.set_cons_zero, List.set_cons_succ]
          refine U_take 4 58 27 0 0 (v := ?vr1_5) rfl (by kernel_rfl) (by kernel_rfl) hWr1 (by kernel_rfl) (by kernel_rfl) (by kernel_rfl) (by kernel_rfl) (by kernel_rfl) (by kernel_rfl) (fun _ _ _ _ h => h) (by kernel_rfl) ?hyr1_5 (by omega) hH ?_
          case hyr1_5 => (intro w' hSw; clear hSw; go_simp; try (with_reducible rfl))
          simp only [List.set_cons_zero, List.set_cons_succ]
          refine U_take 5 59 26 0 0 (v := ?vr1_6) rfl (by kernel_rfl) (by kernel_rfl) hWr1 (by kernel_rfl) (by kernel_rfl) (by kernel_rfl) (by kernel_rfl) (by kernel_rfl) (by kernel_rfl) (fun _ _ _ _ h => h) (by kernel_rfl) ?hyr1_6 (by omega) hH ?_
          case hyr1_6 => (intro w' hSw; clear hSw; go_simp; try (with_reducible rfl))
          simp only [List.set_cons_zero, List.set_cons_succ]
          refine U_take 6 60 25 0 0 (v := ?vr1_7) rfl (by kernel_rfl) (by kernel_rfl) hWr1 (by kernel_rfl) (by kernel_rfl) (by kernel_rfl) (by kernel_rfl) (by kernel_rfl) (by kernel_rfl) (fun _ _ _ _ h => h) (by kernel_rfl) ?hyr1_7 (by omega) hH ?_
          case hyr1_7 => (intro w' hSw; clear hSw; go_simp; try (with_reducible rfl))
          simp only [List.set_cons_zero, List.set_cons_succ]
          refine U_take 7 61 24 0 0 (v := ?vr1_8) rfl (by kernel_rfl) (by kernel_rfl) hWr1 (by kernel_rfl) (by kernel_rfl) (by kernel_rfl) (by kernel_rfl) (by kernel_rfl) (by kernel_rfl) (fun _ _ _ _ h => h) (by kernel_rfl) ?hyr1_8 (by omega) hH ?_
          case hyr1_8 => (intro w' hSw; clear hSw; go_simp; try (with_reducible rfl))
          simp only [List.set_cons_zero, List.set_cons_succ]
          refine U_take 8 62 23 0 0 (v := ?vr1_9) rfl (by kernel_rfl) (by kernel_rfl) hWr1 (by kernel_rfl) (by kernel_rfl) (by kernel_rfl) (by kernel_rfl) (by kernel_rfl) (by kernel_rfl) (fun _ _ _ _ h => h) (by kernel_rfl) ?hyr1_9 (by omega) hH ?_
          case hyr1_9 => (intro w' hSw; clear hSw; go_simp; try (with_reducible rfl))
          simp only [List.set_cons_zero, List.set_cons_succ]
          refine U_take 9 63 22 0 0 (v := ?vr1_10) rfl (by kernel_rfl) (by kernel_rfl) hWr1 (by kernel_rfl) (by kernel_rfl) (by kernel_rfl) (by kernel_rfl) (by kernel_rfl) (by kernel_rfl) (fun _ _ _ _ h => h) (by kernel_rfl) ?hyr1_10 (by omega) hH ?_
          case hyr1_10 => (intro w' hSw; clear hSw; go_simp; try (with_reducible rfl))
          simp only [List.set_cons_zero, List.set_cons_succ]
          refine U_take 10 64 21 0 0 (v := ?vr1_11) rfl (by kernel_rfl) (by kernel_rfl) hWr1 (by kernel_rfl) (by kernel_rfl) (by kernel_rfl) (by kernel_rfl) (by kernel_rfl) (by kernel_rfl) (fun _ _ _ _ h => h) (by kernel_rfl) ?hyr1_11 (by omega) hH ?_
          case hyr1_11 => (intro w' hSw; clear hSw; go_simp; try (with_reducible rfl))
          simp only [List.set_cons_zero, List.set_cons_succ]
          refine U_take 11 65 20 0 0 (v := ?vr1_12) rfl (by kernel_rfl) (by kernel_rfl) hWr1 (by kernel_rfl) (by kernel_rfl) (by kernel_rfl) (by kernel_rfl) (by kernel_rfl) (by kernel_rfl) (fun _ _ _ _ h => h) (by kernel_rfl) ?hyr1_12 (by omega) hH ?_
          case hyr1_12 => (intro w' hSw; clear hSw; go_simp; try (with_reducible rfl))
          simp only [List.set_cons_zero, List.set_cons_succ]
          refine U_take 12 66 19 0 0 (v := ?vr1_13) rfl (by kernel_rfl) (by kernel_rfl) hWr1 (by kernel_rfl) (by kernel_rfl) (by kernel_rfl) (by kernel_rfl) (by kernel_rfl) (by kernel_rfl) (fun _ _ _ _ h => h) (by kernel_rfl) ?hyr1_13 (by omega) hH ?_
          case hyr1_13 => (intro w' hSw; clear hSw; go_simp; try (with_reducible rfl))
          simp only [List.set_cons_zero, List.set_cons_succ]
          refine U_take 13 67 18 0 0 (v := ?vr1_14) rfl (by kernel_rfl) (by kernel_rfl) hWr1 (by kernel_rfl) (by kernel_rfl) (by kernel_rfl) (by kernel_rfl) (by kernel_rfl) (by kernel_rfl) (fun _ _ _ _ h => h) (by kernel_rfl) ?hyr1_14 (by omega) hH ?_
          case hyr1_14 => (intro w' hSw; clear hSw; go_simp; try (with_reducible rfl))
          simp only [List.set_cons_zero, List.set_cons_succ]
          refine U_take 14 68 17 0 0 (v := ?vr1_15) rfl (by kernel_rfl) (by kernel_rfl) hWr1 (by kernel_rfl) (by kernel_rfl) (by kernel_rfl) (by kernel_rfl) (by kernel_rfl) (by kernel_rfl) (fun _ _ _ _ h => h) (by kernel_rfl) ?hyr1_15 (by omega) hH ?_
          case hyr1_15 => (intro w' hSw; replace hSw := S2o0 hSw; (try dsimp only at hSw); have q0 := hSw.1; have q1 := hSw.2.1; have q2 := hSw.2.2.1; have q3 := hSw.2.2.2.1; have q4 := hSw.2.2.2.2; go_simp; try (with_reducible rfl))
          simp only [List.set_cons_zero, List.set_cons_succ]
          refine U_take 15 69 16 0 0 (v := ?vr1_16) rfl (by kernel_rfl) (by kernel_rfl) hWr1 (by kernel_rfl) (by kernel_rfl) (by kernel_rfl) (by kernel_rfl) (by kernel_rfl) (by kernel_rfl) (fun _ _ _ _ h => h) (by kernel_rfl) ?hyr1_16 (by omega) hH ?_
          case hyr1_16 => (intro w' hSw; clear hSw; go_simp; try (with_reducible rfl))
          simp only [List.set_cons_zero, List.set_cons_succ]
          refine U_take 16 70 15 0 0 (v := ?vr1_17) rfl (by kernel_rfl) (by kernel_rfl) hWr1 (by kernel_rfl) (by kernel_rfl) (by kernel_rfl) (by kernel_rfl) (by kernel_rfl) (by kernel_rfl) (fun _ _ _ _ h => h) (by kernel_rfl) ?hyr1_17 (by omega) hH ?_
          case hyr1_17 => (intro w' hSw; replace hSw := S2o0 hSw; (try dsimp only at hSw); have q0 := hSw.1; have q1 := hSw.2.1; have q2 := hSw.2.2.1; have q3 := hSw.2.2.2.1; have q4 := hSw.2.2.2.2; go_simp; try (with_reducible rfl))
          simp only [List.set_cons_zero, List.set_cons_succ]
          refine U_take 17 71 14 0 0 (v := ?vr1_18) rfl (by kernel_rfl) (by kernel_rfl) hWr1 (by kernel_rfl) (by kernel_rfl) (by kernel_rfl) (by kernel_rfl) (by kernel_rfl) (by kernel_rfl) (fun _ _ _ _ h => h) (by kernel_rfl) ?hyr1_18 (by omega) hH ?_
          case hyr1_18 => (intro w' hSw; clear hSw; go_simp; try (with_reducible rfl))
          simp only [List.set_cons_zero, List.set_cons_succ]
          refine U_take 18 72 13 0 0 (v := ?vr1_19) rfl (by kernel_rfl) (by kernel_rfl) hWr1 (by kernel_rfl) (by kernel_rfl) (by kernel_rfl) (by kernel_rfl) (by kernel_rfl) (by kernel_rfl) (fun _ _ _ _ h => h) (by kernel_rfl) ?hyr1_19 (by omega) hH ?_
          case hyr1_19 => (intro w' hSw; clear hSw; go_simp; try (with_reducible rfl))
          simp only [List.set_cons_zero, List.set_cons_succ]
          refine U_take 19 73 12 0 0 (v := ?vr1_20) rfl (by kernel_rfl) (by kernel_rfl) hWr1 (by kernel_rfl) (by kernel_rfl) (by kernel_rfl) (by kernel_rfl) (by kernel_rfl) (by kernel_rfl) (fun _ _ _ _ h => h) (by kernel_rfl) ?hyr1_20 (by omega) hH ?_
          case hyr1_20 => (intro w' hSw; replace hSw := S2o0 hSw; (try dsimp only at hSw); have q0 := hSw.1; have q1 := hSw.2.1; have q2 := hSw.2.2.1; have q3 := hSw.2.2.2.1; have q4 := hSw.2.2.2.2; go_simp; try (with_reducible rfl))
          simp only [List.set_cons_zero, List.set_cons_succ]
          refine U_take 20 74 11 0 0 (v := ?vr1_21) rfl (by kernel_rfl) (by kernel_rfl) hWr1 (by kernel_rfl) (by kernel_rfl) (by kernel_rfl) (by kernel_rfl) (by kernel_rfl) (by kernel_rfl) (fun _ _ _ _ h => h) (by kernel_rfl) ?hyr1_21 (by omega) hH ?_
          case hyr1_21 => (intro w' hSw; clear hSw; go_simp; try (with_reducible rfl))
          simp only [List.set_cons_zero, List.set_cons_succ]
          refine U_take 21 75 10 0 0 (v := ?vr1_22) rfl (by kernel_rfl) (by kernel_rfl) hWr1 (by kernel_rfl) (by kernel_rfl) (by kernel_rfl) (by kernel_rfl) (by kernel_rfl) (by kernel_rfl) (fun _ _ _ _ h => h) (by kernel_rfl) ?hyr1_22 (by omega) hH ?_
          case hyr1_22 => (intro w' hSw; replace hSw := S2o0 hSw; (try dsimp only at hSw); have q0 := hSw.1; have q1 := hSw.2.1; have q2 := hSw.2.2.1; have q3 := hSw.2.2.2.1; have q4 := hSw.2.2.2.2; go_simp; try (with_reducible rfl))
          simp only [List.set_cons_zero, List.set_cons_succ]
          refine U_take 22 76 9 0 0 (v := ?vr1_23) rfl (by kernel_rfl) (by kernel_rfl) hWr1 (by kernel_rfl) (by kernel_rfl) (by kernel_rfl) (by kernel_rfl) (by kernel_rfl) (by kernel_rfl) (fun _ _ _ _ h => h) (by kernel_rfl) ?hyr1_23 (by omega) hH ?_
          case hyr1_23 => (intro w' hSw; clear hSw; go_simp; try (with_reducible rfl))
          simp only [List.set_cons_zero, List.set_cons_succ]
          refine U_take 23 77 8 0 0 (v := ?vr1_24) rfl (by kernel_rfl) (by kernel_rfl) hWr1 (by kernel_rfl) (by kernel_rfl) (by kernel_rfl) (by kernel_rfl) (by kernel_rfl) (by kernel_rfl) (fun _ _ _ _ h => h) (by kernel_rfl) ?hyr1_24 (by omega) hH ?_
          case hyr1_24 => (intro w' hSw; clear hSw; go_simp; try (with_reducible rfl))
          simp only [List.set_cons_zero, List.set_cons_succ]
          refine U_take 24 78 7 0 0 (v := ?vr1_25) rfl (by kernel_rfl) (by kernel_rfl) hWr1 (by kernel_rfl) (by kernel_rfl) (by kernel_rfl) (by kernel_rfl) (by kernel_rfl) (by kernel_rfl) (fun _ _ _ _ h => h) (by kernel_rfl) ?hyr1_25 (by omega) hH ?_
          case hyr1_25 => (intro w' hSw; replace hSw := S2o0 hSw; (try dsimp only at hSw); have q0 := hSw.1; have q1 := hSw.2.1; have q2 := hSw.2.2.1; have q3 := hSw.2.2.2.1; have q4 := hSw.2.2.2.2; go_simp; try (with_reducible rfl))
          simp only [List.set_cons_zero, List.set_cons_succ]
          refine U_take 26 80 6 0 0 (v := ?vr1_26) rfl (by kernel_rfl) (by kernel_rfl) hWr1 (by kernel_rfl) (by kernel_rfl) (by kernel_rfl) (by kernel_rfl) (by kernel_rfl) (by kernel_rfl) (fun _ _ _ _ h => h) (by kernel_rfl) ?hyr1_26 (by omega) hH ?_
          case hyr1_26 => (intro w' hSw; replace hSw := S2o0 hSw; (try dsimp only at hSw); have q0 := hSw.1; have q1 := hSw.2.1; have q2 := hSw.2.2.1; have q3 := hSw.2.2.2.1; have q4 := hSw.2.2.2.2; go_simp; try (with_reducible rfl))
          simp only [List.set_cons_zero, List.set_cons_succ]
          refine wpAnyU_ready (rs := [25]) (by kernel_rfl) (by simp) ?_
          refine AllReadyU.cons 0 (by kernel_rfl) (o := _) rfl (fun K hK => ?_) AllReadyU.nil
          try clear hb
          go_simp
          (go_at_call 56; refine (bsize_calls ex ey ⟨by omega, by omega⟩ ⟨by omega, by omega⟩ _).mono ?_; rintro e wn ⟨rfl, hb⟩)
          refine hK.out _ _ ?hsr1_27 (fun hH2 => ?hrr1_27)
          case hsr1_27 => exact S2i0 (by have hG := hH; replace hG := S2o0 hG; (try dsimp only at hG); have q0 := hG.1; have q1 := hG.2.1; have q2 := hG.2.2.1; have q3 := hG.2.2.2.1; have q4 := hG.2.2.2.2; exact ⟨keepCell hb q0, keepCell hb q1, keepCell hb q2, keepCell hb q3, keepBelow hb q4⟩)
          clear hK K hH
          have hH := hH2
          clear hH2
          try simp only [Act.put, List.setIfInBounds_toArray, List.set_cons_zero, List.set_cons_succ]
          refine wpAnyU_ready (rs := [27]) (by kernel_rfl) (by simp) ?_
          refine AllReadyU.cons 0 (by kernel_rfl) (o := _) rfl (fun K hK => ?_) AllReadyU.nil
          try clear hb
          go_simp
          (go_at_call 56; refine (bsize_calls fx fy ⟨by omega, by omega⟩ ⟨by omega, by omega⟩ _).mono ?_; rintro e wn ⟨rfl, hb⟩)
          refine hK.out _ _ ?hsr1_28 (fun hH2 => ?hrr1_28)
          case hsr1_28 => exact S2i0 (by have hG := hH; replace hG := S2o0 hG; (try dsimp only at hG); have q0 := hG.1; have q1 := hG.2.1; have q2 := hG.2.2.1; have q3 := hG.2.2.2.1; have q4 := hG.2.2.2.2; exact ⟨keepCell hb q0, keepCell hb q1, keepCell hb q2, keepCell hb q3, keepBelow hb q4⟩)
          clear hK K hH
          have hH := hH2
          clear hH2
          try simp only [Act.put, List.setIfInBounds_toArray, List.set_cons_zero, List.set_cons_succ]
          refine U_take 28 82 3 0 0 (v := ?vr1_29) rfl (by kernel_rfl) (by kernel_rfl) hWr1 (by kernel_rfl) (by kernel_rfl) (by kernel_rfl) (by kernel_rfl) (by kernel_rfl) (by kernel_rfl) (fun _ _ _ _ h => h) (by kernel_rfl) ?hyr1_29 (by omega) hH ?_
          case hyr1_29 => (intro w' hSw; clear hSw; go_simp; try (with_reducible rfl))
          simp only [List.set_cons_zero, List.set_cons_succ]
          refine U_take 29 83 2 0 0 (v := ?vr1_30) rfl (by kernel_rfl) (by kernel_rfl) hWr1 (by kernel_rfl) (by kernel_rfl) (by kernel_rfl) (by kernel_rfl) (by kernel_rfl) (by kernel_rfl) (fun _ _ _ _ h => h) (by kernel_rfl) ?hyr1_30 (by omega) hH ?_
          case hyr1_30 => (intro w' hSw; clear hSw; go_simp; try (with_reducible rfl))
          simp only [List.set_cons_zero, List.set_cons_succ]
          refine U_take 30 84 1 0 0 (v := ?vr1_31) rfl (by kernel_rfl) (by kernel_rfl) hWr1 (by kernel_rfl) (by kernel_rfl) (by kernel_rfl) (by kernel_rfl) (by kernel_rfl) (by kernel_rfl) (fun _ _ _ _ h => h) (by kernel_rfl) ?hyr1_31 (by omega) hH ?_
          case hyr1_31 => (intro w' hSw; clear hSw; go_simp; try (with_reducible rfl))
          simp only [List.set_cons_zero, List.set_cons_succ]
          refine U_take 31 85 0 0 0 (v := ?vr1_32) rfl (by kernel_rfl) (by kernel_rfl) hWr1 (by kernel_rfl) (by kernel_rfl) (by kernel_rfl) (by kernel_rfl) (by kernel_rfl) (by kernel_rfl) (fun _ _ _ _ h => h) (by kernel_rfl) ?hyr1_32 (by omega) hH ?_
          case hyr1_32 => (intro w' hSw; clear hSw; go_simp; try (with_reducible rfl))
          simp only [List.set_cons_zero, List.set_cons_succ]
          refine wpAnyU_done (by kernel_rfl) ?_ _ _
          refine NoPanic.normal ?_
          clear hWr1
          replace hH := S2o0 hH
          (try dsimp only at hH)
          have q0 := hH.1
          have q1 := hH.2.1
          have q2 := hH.2.2.1
          have q3 := hH.2.2.2.1
          have q4 := hH.2.2.2.2
          have hBn : Below wa.heap.size wa wn := hBi.trans (q4.mono hBs)
          have hBnw : Below w.heap.size w wn := hBw.trans (q4.mono hBw.size)
          clear q0 q1 q2 q3 q4 hH hb g1 g2 g3 g4 hBg
          by_cases hbad : ex * fy - ey * fx < 8 * (absZ ex + absZ ey + (absZ fx + absZ fy))
          · have HE : Hid (fatB l = false) := fatB_bad hlt hlt2 (by rw [HBD.out, decide_eq_true_eq]; exact hbad)
            clear HBD
            go_wp2
            go_returns
            exact ret_bool HE.out.symm hBnw
          · have HE : Hid (fatBad l k m = false) := by show _ = _; rw [HBD.out, decide_eq_false_iff_not]; exact hbad
            clear HBD
            go_wp2
            go_roundw
            case rel =>
              refine ⟨_, _, _, _, _, ⟨m + 1, hlt2, ?_, fatCols_succ HCo.out HE.out⟩, rfl, rfl, rfl, rfl, rfl⟩
              go_num
            case measure => simp [intOf]; omega
        · have hge : l.length ≤ m := by omega
          clear r1 r2 r3 r4
          go_wp2
          go_roundw
          case rel => exact ⟨k + 1, hlt, by go_num, fatRows_succ HN.out (by have := HCo.out; rwa [show m = l.length by omega] at this), hBw⟩
          case measure => simp [intOf]; omega
    · clear hCo
      have hge : l.length ≤ k := by omega
      go_wp2
      go_returns
      exact ret_bool (fatB_ok (by have := HN.out; rwa [show k = l.length by omega] at this)).symm hB
end
end Go.Proofs.Ytkiiehobphkmgaa
