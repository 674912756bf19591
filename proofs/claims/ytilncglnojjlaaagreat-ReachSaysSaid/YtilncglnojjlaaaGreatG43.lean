/- Parts of a proof: contracts and laws. -/
import Derived.Test.YtilncglnojjlaaaGreatG42
import Derived.Test.YtilncglnojjlaaaGreatG04
import Derived.Test.YtilncglnojjlaaaGreatG37
import Derived.Test.YtilncglnojjlaaaGreatG29
import Derived.Test.YtilncglnojjlaaaGreatG33
namespace Go.Proofs.YtilncglnojjlaaaGreat
section
set_option linter.unusedVariables false
set_option linter.unusedSimpArgs false
open Go.RowKit
def rapI (a b : List V) : Nat → Int
 | 0 => 1099511627776
 | 1 => rap2 a b a.length 1099511627776
 | _ => rapZ a b
def rapartZ (a b : List V) : Int := if rmeetB a b = true then 0 else rapZ a b
set_option maxRecDepth 100000 in
set_option maxHeartbeats 8000000 in
theorem rApart_calls (A B : Option Addr) (n c n' c' : Nat) (a b : List V) (w : World) (hS : Sl w A n c a) (hM : Sl w B n' c' b) (ha : checkE a = 0) (hb : checkE b = 0) :
  Calls Tryz.prog 31 #[.slice A n c, .slice B n' c'] w (Ret (.int .i64 (rapartZ a b)) w) := by
 obtain ⟨a8, a3, wa, _⟩ := checkE_zero ha
 obtain ⟨b8, b3, wb, _⟩ := checkE_zero hb
 have hn := hS.len
 have hn' := hM.len
 subst hn hn'
 have HME := hid (rmeet_calls A B _ c _ c' a b w hS hM ha hb)
 have HS := hid hS
 have HM := hid hM
 have HWA := hid wa
 have HWB := hid wb
 have HZ : Hid (rapartZ a b = if rmeetB a b = true then 0 else rapZ a b) := rfl
 generalize rapartZ a b = Z at *
 generalize rmeetB a b = mt at *
 clear hS hM ha hb wa wb
 go_enter Tryz.func31, Tryz.ntmps31
 go_wp2_with fail
 refine HME.out.mono ?_
 rintro e w1 ⟨rfl, hb1⟩
 clear HME
 cases mt with
 | true =>
  go_wp2
  go_returns
  exact ret_int (by rw [HZ.out]; rfl) hb1
 | false =>
  have HZ2 : Hid (Z = rapZ a b) := HZ.out
  have HS1 := hid (HS.out.below hb1)
  have HM1 := hid (HM.out.below hb1)
  clear HZ HS HM
  obtain ⟨W, hW⟩ : ∃ W, W = w1.alloc (.cells #[.slice A a.length c, .slice B b.length c', .slice B b.length c', .slice A a.length c] 82) := ⟨_, rfl⟩
  obtain ⟨gA, hgA⟩ : ∃ g, g = w1.heap.size := ⟨_, rfl⟩
  have a0 : W.cell? ⟨gA, 0, none⟩ = some (.slice A a.length c) := by rw [hW, hgA]; go_simp
  have a1 : W.cell? ⟨gA, 1, none⟩ = some (.slice B b.length c') := by rw [hW, hgA]; go_simp
  have a2 : W.cell? ⟨gA, 2, none⟩ = some (.slice B b.length c') := by rw [hW, hgA]; go_simp
  have a4 : W.cell? ⟨gA, 3, none⟩ = some (.slice A a.length c) := by rw [hW, hgA]; go_simp
  have hBW : Below w.heap.size w W := by rw [hW]; exact hb1.alloc hb1.size _
  have HS2 : Hid (Sl W A a.length c a) := by show Sl _ _ _ _ _; rw [hW]; exact HS1.out.alloc _
  have HM2 : Hid (Sl W B b.length c' b) := by show Sl _ _ _ _ _; rw [hW]; exact HM1.out.alloc _
  go_wp2
  rw [← hW, ← hgA]
  clear hW hgA HS1 HM1 hb1
  go_loopw [5, 23] (fun t j wr => ∃ i : Nat, i ≤ 2 ∧ j = .int .i64 i ∧ t = .int .i64 (rapI a b i) ∧ Below W.heap.size W wr) (fun _ j _ => 2 - (intOf j).toNat)
  case atStart => exact ⟨0, by omega, rfl, rfl, Below.refl _ _⟩
  case round =>
   obtain ⟨i, hi, rfl, rfl, hB⟩ := hrel
   obtain ⟨wo, rfl⟩ : ∃ wo : World, wo = wr := ⟨_, rfl⟩
   by_cases hlt : i < 2
   ·have hlt' : (i : Int) < 2 := by omega
    have HG : Hid (∃ (A1 : Option Addr) (c1 : Nat) (l1 : List V) (B1 : Option Addr) (c2 : Nat) (l2 : List V), wo.cell? ⟨gA, i * 2, none⟩ = some (.slice A1 l1.length c1) ∧ wo.cell? ⟨gA, i * 2 + 1, none⟩ = some (.slice B1 l2.length c2) ∧ Sl W A1 l1.length c1 l1 ∧ Sl W B1 l2.length c2 l2 ∧ allWithin 65536000 l1 = true ∧ allWithin 65536000 l2 = true ∧ (3 ≤ l1.length ∧ l1.length ≤ 8) ∧ (3 ≤ l2.length ∧ l2.length ≤ 8) ∧ rapI a b (i + 1) = rap2 l1 l2 l1.length (rapI a b i)) := by
     have hi2 : i = 0 ∨ i = 1 := by omega
     rcases hi2 with rfl | rfl
     ·exact ⟨A, c, a, B, c', b, keepCell hB a0, keepCell hB a1, HS2.out, HM2.out, HWA.out, HWB.out, ⟨a3, a8⟩, ⟨b3, b8⟩, rfl⟩
     ·exact ⟨B, c', b, A, c, a, keepCell hB a2, keepCell hB a4, HM2.out, HS2.out, HWB.out, HWA.out, ⟨b3, b8⟩, ⟨a3, a8⟩, rfl⟩
    obtain ⟨A1, c1, l1, B1, c2, l2, X0, X1, SL1, SL2, w1', w2', ⟨n1, n1'⟩, ⟨n2, n2'⟩, hnext⟩ := HG.out
    have HNX := hid hnext
    have HW1 := hid w1'
    have HW2 := hid w2'
    have hgl := lt_of_cell X0
    have hBW2 := keepBelow hB hBW
    have hwki : IntKind.i64.wrap ((i : Int) + 1) = (i : Int) + 1 := IntWalk.i64_in _ (by omega)
    obtain ⟨b0, hb0⟩ : ∃ z, z = rapI a b i := ⟨_, rfl⟩
    rw [← hb0] at HNX ⊢
    clear HG hnext w1' w2' hb0 a0 a1 a2 a4
    obtain ⟨gX, hgX⟩ : ∃ g, g = wo.heap.size := ⟨_, rfl⟩
    obtain ⟨wx, hwx⟩ : ∃ w, w = wo.alloc (.cells #[.slice A1 l1.length c1, .slice B1 l2.length c2] 82) := ⟨_, rfl⟩
    have x0 : wx.cell? ⟨gX, 0, none⟩ = some (.slice A1 l1.length c1) := by rw [hwx, hgX]; go_simp
    have x1 : wx.cell? ⟨gX, 1, none⟩ = some (.slice B1 l2.length c2) := by rw [hwx, hgX]; go_simp
    have hBx : Below W.heap.size W wx := by rw [hwx]; exact hB.alloc hB.size _
    go_wp2
    rw [← hwx, ← hgX]
    clear hwx hgX hB X0 X1 hgl
    go_loopw [5, 30] (fun t j wr => ∃ j1 : Nat, j1 ≤ l1.length ∧ j = .int .i64 j1 ∧ t = .int .i64 (rap2 l1 l2 j1 b0) ∧ Below wx.heap.size wx wr) (fun _ j _ => l1.length - (intOf j).toNat)
    case atStart => exact ⟨0, Nat.zero_le _, rfl, rfl, Below.refl _ _⟩
    case round =>
     obtain ⟨j, hj, rfl, rfl, hB⟩ := hrel
     obtain ⟨wo2, rfl⟩ : ∃ wo : World, wo = wr := ⟨_, rfl⟩
     have hBa := keepBelow hB hBx
     by_cases hlt2 : j < l1.length
     ·have hlt2' : (j : Int) < (l1.length : Int) := by omega
      obtain ⟨bA, oA, rfl, hC⟩ := (SL1.below hBa).at_ (by intro h; subst h; simp at hlt2)
      have xk := hC.x j hlt2
      have yk := hC.y j hlt2
      have hbl := hC.lt
      have hPA := allWithin_at HW1.out hlt2
      have hwkj : IntKind.i64.wrap ((j : Int) + 1) = (j : Int) + 1 := IntWalk.i64_in _ (by omega)
      have HR2 : Hid (rap2 l1 l2 (j + 1) b0 = rap1 (px l1 j, py l1 j) l2 l2.length (rap2 l1 l2 j b0)) := rfl
      have X1' := keepCell hB x1
      obtain ⟨b1, hb1⟩ : ∃ z, z = rap2 l1 l2 j b0 := ⟨_, rfl⟩
      rw [← hb1] at HR2 ⊢
      generalize px l1 j = x1c at *
      generalize py l1 j = y1c at *
      clear hb1 hC
      obtain ⟨gp, hgp⟩ : ∃ g, g = wo2.heap.size := ⟨_, rfl⟩
      obtain ⟨wp, hwp⟩ : ∃ w, w = wo2.alloc (.cells #[.int .i64 x1c, .int .i64 y1c] 23) := ⟨_, rfl⟩
      have p0 : wp.cell? ⟨gp, 0, none⟩ = some (.int .i64 x1c) := by rw [hwp, hgp]; go_simp
      have p1 : wp.cell? ⟨gp, 1, none⟩ = some (.int .i64 y1c) := by rw [hwp, hgp]; go_simp
      have hX1 : wp.cell? ⟨gX, 1, none⟩ = some (.slice B1 l2.length c2) := by rw [hwp]; exact keepCell ((Below.refl _ _).alloc (Nat.le_refl _) _) X1'
      have hBp : Below wx.heap.size wx wp := by rw [hwp]; exact hB.alloc hB.size _
      have hgl := lt_of_cell X1'
      go_wp2
      rw [← hwp, ← hgp]
      clear hwp hgp hB hBa xk yk hbl X1' hgl
      go_loopw [5, 37] (fun t j' wr => ∃ k : Nat, k ≤ l2.length ∧ j' = .int .i64 k ∧ t = .int .i64 (rap1 (x1c, y1c) l2 k b1) ∧ Below wp.heap.size wp wr) (fun _ j' _ => l2.length - (intOf j').toNat)
      case atStart => exact ⟨0, Nat.zero_le _, rfl, rfl, Below.refl _ _⟩
      case round =>
       obtain ⟨k, hk, rfl, rfl, hB⟩ := hrel
       obtain ⟨wo3, rfl⟩ : ∃ wo : World, wo = wr := ⟨_, rfl⟩
       have hBb := keepBelow hB hBp
       by_cases hlt3 : k < l2.length
       ·have hlt3' : (k : Int) < (l2.length : Int) := by omega
        obtain ⟨bB, oB, rfl, hC⟩ := (SL2.below (keepBelow hBb hBx)).at_ (by intro h; subst h; simp at hlt3)
        obtain ⟨m, hjem⟩ : ∃ j, j = (k + 1) % l2.length := ⟨_, rfl⟩
        have hjm : m < l2.length := by rw [hjem]; exact Nat.mod_lt _ (by omega)
        have hjam : ((k : Int) + 1) % (l2.length : Int) = (m : Int) := by rw [hjem]; simp
        have hjbm : (((k : Int) + 1) % (l2.length : Int)).toNat = m := by omega
        have hjcm : ((k : Int) + 1) % (l2.length : Int) < (l2.length : Int) := by omega
        have hjdm : 0 ≤ ((k : Int) + 1) % (l2.length : Int) := by omega
        have hwkm : IntKind.i64.wrap ((k : Int) + 1) = (k : Int) + 1 := IntWalk.i64_in _ (by omega)
        have htmm : ((k : Int) + 1).tmod (l2.length : Int) = (m : Int) := by rw [Int.tmod_eq_emod_of_nonneg (by omega)]; exact hjam
        have hjlm : (m : Int) < (l2.length : Int) := by omega
        have hl0m : ¬ l2 = [] := by intro h; rw [h] at hlt3; simp at hlt3
        have xk := hC.x k hlt3
        have yk := hC.y k hlt3
        have f0 := hC.x m hjm
        have f1 := hC.y m hjm
        have hbl := hC.lt
        have p0' := keepCell hB p0
        have p1' := keepCell hB p1
        have hX1' := keepCell hB hX1
        have hgl := lt_of_cell hX1'
        have HAP := hid (fun w => rapart_calls x1c y1c (px l2 k) (py l2 k) (px l2 m) (py l2 m) w hPA (allWithin_at HW2.out hlt3) (allWithin_at HW2.out hjm))
        have HR1 : Hid (rap1 (x1c, y1c) l2 (k + 1) b1 = min (rap1 (x1c, y1c) l2 k b1) (rfar (x1c, y1c) (px l2 k, py l2 k) (px l2 m, py l2 m))) := by
         show _ = _
         rw [rap1, cyP_lt hlt3]
         unfold cyP
         rw [← hjem]
        generalize rfar (x1c, y1c) (px l2 k, py l2 k) (px l2 m, py l2 m) = rf at *
        obtain ⟨b2, hb2⟩ : ∃ z, z = rap1 (x1c, y1c) l2 k b1 := ⟨_, rfl⟩
        rw [← hb2] at HR1 ⊢
        generalize px l2 k = x2c at *
        generalize py l2 k = y2c at *
        generalize px l2 m = x3c at *
        generalize py l2 m = y3c at *
        clear hb2 hC hjem
        obtain ⟨gq, hgq⟩ : ∃ g, g = wo3.heap.size := ⟨_, rfl⟩
        obtain ⟨wz, hwz⟩ : ∃ w, w = wo3.alloc (.cells #[.int .i64 x2c, .int .i64 y2c] 23) := ⟨_, rfl⟩
        have up : ∀ b o v, wo3.cell? ⟨b, o, none⟩ = some v → wz.cell? ⟨b, o, none⟩ = some v := fun b o v h => by rw [hwz]; exact keepCell ((Below.refl _ _).alloc (Nat.le_refl _) _) h
        have q0 : wz.cell? ⟨gq, 0, none⟩ = some (.int .i64 x2c) := by rw [hwz, hgq]; go_simp
        have q1 : wz.cell? ⟨gq, 1, none⟩ = some (.int .i64 y2c) := by rw [hwz, hgq]; go_simp
        have hBz : Below wp.heap.size wp wz := by rw [hwz]; exact hB.alloc hB.size _
        go_upto_region 13 with fail
        rw [← hwz, ← hgq]
        replace p0' := up _ _ _ p0'
        replace p1' := up _ _ _ p1'
        replace hX1' := up _ _ _ hX1'
        replace f0 := up _ _ _ f0
        replace f1 := up _ _ _ f1
        clear hwz hgq up xk yk hbl hB hBb hgl
        refine wp_region_noPanic ?_
        refine wp_region_U (S := (S2 (fun w' => w'.cell? ⟨gp, 0, none⟩ = some (.int .i64 (x1c)) ∧ w'.cell? ⟨gp, 1, none⟩ = some (.int .i64 (y1c)) ∧ w'.cell? ⟨gq, 0, none⟩ = some (.int .i64 (x2c)) ∧ w'.cell? ⟨gq, 1, none⟩ = some (.int .i64 (y2c)) ∧ w'.cell? ⟨gX, 1, none⟩ = some (.slice (some ⟨bB, oB, none⟩) l2.length c2) ∧ w'.cell? ⟨bB, oB + m * 2, none⟩ = some (.int .i64 (x3c)) ∧ w'.cell? ⟨bB, oB + m * 2 + 1, none⟩ = some (.int .i64 (y3c)) ∧ Below wp.heap.size wp w'))) (T := (fun _ => 0)) (by kernel_rfl) (S2i0 ⟨p0', p1', q0, q1, hX1', f0, f1, hBz.drew⟩) (fun hH => ?_)
        have hWr1 : Weaker (S2 (fun w' => w'.cell? ⟨gp, 0, none⟩ = some (.int .i64 (x1c)) ∧ w'.cell? ⟨gp, 1, none⟩ = some (.int .i64 (y1c)) ∧ w'.cell? ⟨gq, 0, none⟩ = some (.int .i64 (x2c)) ∧ w'.cell? ⟨gq, 1, none⟩ = some (.int .i64 (y2c)) ∧ w'.cell? ⟨gX, 1, none⟩ = some (.slice (some ⟨bB, oB, none⟩) l2.length c2) ∧ w'.cell? ⟨bB, oB + m * 2, none⟩ = some (.int .i64 (x3c)) ∧ w'.cell? ⟨bB, oB + m * 2 + 1, none⟩ = some (.int .i64 (y3c)) ∧ Below wp.heap.size wp w')) := weaker2 _
        refine Ut 0 42 15 0 0 (v := ?vr1_1) rfl hWr1 hH ?hyr1_1 ?_
        case hyr1_1 => (intro w' hSw; clear hSw; go_simp; try (with_reducible rfl))
        simp only [sB, sC]
        refine Ut 1 43 14 0 0 (v := ?vr1_2) rfl hWr1 hH ?hyr1_2 ?_
        case hyr1_2 => (intro w' hSw; replace hSw := S2o0 hSw; (try dsimp only at hSw); have q0 := hSw.1; have q1 := hSw.2.1; have q2 := hSw.2.2.1; have q3 := hSw.2.2.2.1; have q4 := hSw.2.2.2.2.1; have q5 := hSw.2.2.2.2.2.1; have q6 := hSw.2.2.2.2.2.2.1; have q7 := hSw.2.2.2.2.2.2.2; go_simp; try (with_reducible rfl))
        simp only [sB, sC]
        refine Ut 2 44 13 0 0 (v := ?vr1_3) rfl hWr1 hH ?hyr1_3 ?_
        case hyr1_3 => (intro w' hSw; replace hSw := S2o0 hSw; (try dsimp only at hSw); have q0 := hSw.1; have q1 := hSw.2.1; have q2 := hSw.2.2.1; have q3 := hSw.2.2.2.1; have q4 := hSw.2.2.2.2.1; have q5 := hSw.2.2.2.2.2.1; have q6 := hSw.2.2.2.2.2.2.1; have q7 := hSw.2.2.2.2.2.2.2; go_simp; try (with_reducible rfl))
        simp only [sB, sC]
        refine Ut 3 45 12 0 0 (v := ?vr1_4) rfl hWr1 hH ?hyr1_4 ?_
        case hyr1_4 => (intro w' hSw; clear hSw; go_simp; try (with_reducible rfl))
        simp only [sB, sC]
        refine Ut 4 46 11 0 0 (v := ?vr1_5) rfl hWr1 hH ?hyr1_5 ?_
        case hyr1_5 => (intro w' hSw; replace hSw := S2o0 hSw; (try dsimp only at hSw); have q0 := hSw.1; have q1 := hSw.2.1; have q2 := hSw.2.2.1; have q3 := hSw.2.2.2.1; have q4 := hSw.2.2.2.2.1; have q5 := hSw.2.2.2.2.2.1; have q6 := hSw.2.2.2.2.2.2.1; have q7 := hSw.2.2.2.2.2.2.2; go_simp; try (with_reducible rfl))
        simp only [sB, sC]
        refine Ut 5 47 10 0 0 (v := ?vr1_6) rfl hWr1 hH ?hyr1_6 ?_
        case hyr1_6 => (intro w' hSw; clear hSw; go_simp; try (with_reducible rfl))
        simp only [sB, sC]
        refine Ut 6 48 9 0 0 (v := ?vr1_7) rfl hWr1 hH ?hyr1_7 ?_
        case hyr1_7 => (intro w' hSw; clear hSw; go_simp; try (with_reducible rfl))
        simp only [sB, sC]
        refine Ut 7 49 8 0 0 (v := ?vr1_8) rfl hWr1 hH ?hyr1_8 ?_
        case hyr1_8 => (intro w' hSw; clear hSw; go_simp; try (with_reducible rfl))
        simp only [sB, sC]
        refine Ut 8 50 7 0 0 (v := ?vr1_9) rfl hWr1 hH ?hyr1_9 ?_
        case hyr1_9 => (intro w' hSw; replace hSw := S2o0 hSw; (try dsimp only at hSw); have q0 := hSw.1; have q1 := hSw.2.1; have q2 := hSw.2.2.1; have q3 := hSw.2.2.2.1; have q4 := hSw.2.2.2.2.1; have q5 := hSw.2.2.2.2.2.1; have q6 := hSw.2.2.2.2.2.2.1; have q7 := hSw.2.2.2.2.2.2.2; go_simp; try (with_reducible rfl))
        simp only [sB, sC]
        refine Ut 9 51 6 0 0 (v := ?vr1_10) rfl hWr1 hH ?hyr1_10 ?_
        case hyr1_10 => (intro w' hSw; clear hSw; go_simp; try (with_reducible rfl))
        simp only [sB, sC]
        refine Ut 10 52 5 0 0 (v := ?vr1_11) rfl hWr1 hH ?hyr1_11 ?_
        case hyr1_11 => (intro w' hSw; clear hSw; go_simp; try (with_reducible rfl))
        simp only [sB, sC]
        refine Ut 11 53 4 0 0 (v := ?vr1_12) rfl hWr1 hH ?hyr1_12 ?_
        case hyr1_12 => (intro w' hSw; clear hSw; go_simp; try (with_reducible rfl))
        simp only [sB, sC]
        refine Ut 12 54 3 0 0 (v := ?vr1_13) rfl hWr1 hH ?hyr1_13 ?_
        case hyr1_13 => (intro w' hSw; replace hSw := S2o0 hSw; (try dsimp only at hSw); have q0 := hSw.1; have q1 := hSw.2.1; have q2 := hSw.2.2.1; have q3 := hSw.2.2.2.1; have q4 := hSw.2.2.2.2.1; have q5 := hSw.2.2.2.2.2.1; have q6 := hSw.2.2.2.2.2.2.1; have q7 := hSw.2.2.2.2.2.2.2; go_simp; try (with_reducible rfl))
        simp only [sB, sC]
        refine U1 13 0 rfl (fun K hK => ?_)
        try clear hb
        go_simp
        (go_at_call 59; refine (HAP.out _).mono ?_; rintro e wn ⟨rfl, hb⟩)
        refine hK.out _ _ ?hsr1_14 (fun hH2 => ?hrr1_14)
        case hsr1_14 => exact S2i0 (by have hG := hH; replace hG := S2o0 hG; (try dsimp only at hG); have q0 := hG.1; have q1 := hG.2.1; have q2 := hG.2.2.1; have q3 := hG.2.2.2.1; have q4 := hG.2.2.2.2.1; have q5 := hG.2.2.2.2.2.1; have q6 := hG.2.2.2.2.2.2.1; have q7 := hG.2.2.2.2.2.2.2; exact ⟨keepCell hb q0, keepCell hb q1, keepCell hb q2, keepCell hb q3, keepCell hb q4, keepCell hb q5, keepCell hb q6, keepBelow hb q7⟩)
        clear hK K hH
        have hH := hH2
        clear hH2
        try simp only [Act.put, sA, sB, sC]
        refine Ut 14 56 1 0 0 (v := ?vr1_15) rfl hWr1 hH ?hyr1_15 ?_
        case hyr1_15 => (intro w' hSw; clear hSw; go_simp; try (with_reducible rfl))
        simp only [sB, sC]
        refine Ut 15 5 0 0 0 (v := ?vr1_16) rfl hWr1 hH ?hyr1_16 ?_
        case hyr1_16 => (intro w' hSw; clear hSw; go_simp; try (with_reducible rfl))
        simp only [sB, sC]
        refine wpAnyU_done (by kernel_rfl) ?_ _ _
        refine NoPanic.normal ?_
        clear hWr1
        replace hH := S2o0 hH
        (try dsimp only at hH)
        have t0 := hH.1
        have t1 := hH.2.1
        have t2 := hH.2.2.1
        have t3 := hH.2.2.2.1
        have t4 := hH.2.2.2.2.1
        have t5 := hH.2.2.2.2.2.1
        have t6 := hH.2.2.2.2.2.2.1
        have t7 := hH.2.2.2.2.2.2.2
        clear hH hb t0 t1 t2 t3 t4 t5 t6 HAP p0' p1' q0 q1 hX1' f0 f1 hBz
        rw [← HR1.out]
        clear HR1
        go_wp2
        go_roundw
        case rel => exact ⟨k + 1, hlt3, by go_num, rfl, t7⟩
        case measure => simp [intOf]; omega
       ·have hke : k = l2.length := by omega
        subst hke
        rw [← HR2.out]
        clear HR2 hB
        go_wp2
        go_roundw
        case rel => exact ⟨j + 1, hlt2, by go_num, rfl, hBb⟩
        case measure => simp [intOf]; omega
     ·have hke : j = l1.length := by omega
      subst hke
      rw [← HNX.out]
      clear HNX hB
      go_wp2
      go_roundw
      case rel => exact ⟨i + 1, hlt, by go_num, rfl, hBa⟩
      case measure => simp [intOf]; omega
   ·have hie : i = 2 := by omega
    subst hie
    have hBE := keepBelow hB hBW
    have HR : Hid (Z = rapI a b 2) := HZ2.out
    clear hB HZ2
    go_wp2
    go_returns
    exact ret_int HR.out.symm hBE
end
end Go.Proofs.YtilncglnojjlaaaGreat
namespace Go.Proofs.YtilncglnojjlaaaGreat
section
set_option linter.unusedVariables false
set_option linter.unusedSimpArgs false
open Go.RowKit
theorem nmeet_req {a b : List V} (ha : checkE a = 0) (hb : checkE b = 0) : nmeetB a b = rmeetB a b := by
 rw [meet_eq ha hb, meets_nin ha hb]
 unfold nmeetB
 rw [decide_eq_true (bothE_zero.2 ⟨ha, hb⟩), Bool.true_and]
end
end Go.Proofs.YtilncglnojjlaaaGreat
