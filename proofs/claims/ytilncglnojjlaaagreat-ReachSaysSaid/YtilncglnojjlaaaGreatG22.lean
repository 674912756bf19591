/- Parts of a proof: contracts and laws. -/
import Derived.Test.YtilncglnojjlaaaGreatG21
import Derived.Test.YtilncglnojjlaaaGreatG04
namespace Go.Proofs.YtilncglnojjlaaaGreat
section
set_option linter.unusedVariables false
set_option linter.unusedSimpArgs false
open Go.RowKit
set_option maxRecDepth 100000 in
set_option maxHeartbeats 4000000 in
theorem ninside_calls (A : Option Addr) (n c : Nat) (m : List V) (w : World) (hS : Sl w A n c m) (hw : allWithin 131072000 m = true) (h16 : m.length ≤ 1000) :
  Calls Tryz.prog 46 #[.slice A n c] w (Ret (.bool (ninB m)) w) := by
 have hn := hS.len
 subst hn
 have HS := hid hS
 have HW := hid hw
 clear hS hw
 go_enter Tryz.func46, Tryz.ntmps46
 go_wp2
 go_loopw [7] (fun j wr => ∃ k : Nat, k ≤ m.length ∧ j = .int .i64 k ∧ (∀ i, i < k → 0 ≤ ninC m i) ∧ Below w.heap.size w wr) (fun j _ => m.length - (intOf j).toNat)
 case atStart => exact ⟨0, Nat.zero_le _, rfl, fun i h => absurd h (by omega), Below.refl _ _⟩
 case round =>
  obtain ⟨k, hk, rfl, hnn, hB⟩ := hrel
  obtain ⟨wo, rfl⟩ : ∃ wo : World, wo = wr := ⟨_, rfl⟩
  by_cases hlt : k < m.length
  ·have hlt' : (k : Int) < (m.length : Int) := by omega
   obtain ⟨b, off, hA, hC⟩ := (HS.out.below hB).at_ (by intro h; rw [h] at hlt; simp at hlt)
   subst hA
   obtain ⟨j, hje⟩ : ∃ j, j = (k + 1) % m.length := ⟨_, rfl⟩
   have hj : j < m.length := by rw [hje]; exact Nat.mod_lt _ (by omega)
   have hji : ((k : Int) + 1) % (m.length : Int) = (j : Int) := by rw [hje]; simp
   have hji2 : (((k : Int) + 1) % (m.length : Int)).toNat = j := by omega
   have hji3 : ((k : Int) + 1) % (m.length : Int) < (m.length : Int) := by omega
   have hji4 : 0 ≤ ((k : Int) + 1) % (m.length : Int) := by omega
   have hwk : IntKind.i64.wrap ((k : Int) + 1) = (k : Int) + 1 := IntWalk.i64_in _ (by omega)
   have htm : ((k : Int) + 1).tmod (m.length : Int) = (j : Int) := by rw [Int.tmod_eq_emod_of_nonneg (by omega)]; exact hji
   have hl0 : ¬ m = [] := by intro h; rw [h] at hlt; simp at hlt
   have hjl : (j : Int) < (m.length : Int) := by omega
   obtain ⟨a1, a2, a3, a4⟩ := withinB_iff.1 (allWithin_at HW.out hlt)
   obtain ⟨b1, b2, b3, b4⟩ := withinB_iff.1 (allWithin_at HW.out hj)
   have xk := hC.x k hlt
   have yk := hC.y k hlt
   have xj := hC.x j hj
   have yj := hC.y j hj
   have hbl := hC.lt
   have HIC : Hid (ninC m k = crsZ (px m k) (py m k) (px m j) (py m j)) := by show _ = _; unfold ninC; rw [← hje]
   have HNN := hid hnn
   generalize px m k = x1 at *
   generalize py m k = y1 at *
   generalize px m j = x2 at *
   generalize py m j = y2 at *
   have HCR := hid (ncross_calls x1 y1 x2 y2 (by omega) (by omega) (by omega) (by omega))
   obtain ⟨cz, hcz⟩ : ∃ z, z = crsZ x1 y1 x2 y2 := ⟨_, rfl⟩
   rw [← hcz] at HCR HIC
   clear hnn hC hje hcz
   go_upto_region 4 with fail
   obtain ⟨g4, hg4⟩ : ∃ g, g = wo.heap.size := ⟨_, rfl⟩
   obtain ⟨wz, hwz⟩ : ∃ wz, wz = wo.alloc (.cells #[.int .i64 x1, .int .i64 y1] 23) := ⟨_, rfl⟩
   have z0 : wz.cell? ⟨g4, 0, none⟩ = some (.int .i64 x1) := by rw [hwz, hg4]; go_simp
   have z1 : wz.cell? ⟨g4, 1, none⟩ = some (.int .i64 y1) := by rw [hwz, hg4]; go_simp
   replace xj : wz.cell? ⟨b, off + j * 2, none⟩ = some (.int .i64 x2) := by rw [hwz]; exact keepCell ((Below.refl _ _).alloc (Nat.le_refl _) _) xj
   replace yj : wz.cell? ⟨b, off + j * 2 + 1, none⟩ = some (.int .i64 y2) := by rw [hwz]; exact keepCell ((Below.refl _ _).alloc (Nat.le_refl _) _) yj
   have hBz : Below w.heap.size w wz := by rw [hwz]; exact hB.alloc hB.size _
   rw [← hwz, ← hg4]
   clear hwz hg4 xk yk hB hbl
   refine wp_region_noPanic ?_
   refine wp_region_U (S := (S2 (fun w' => w'.cell? ⟨g4, 0, none⟩ = some (.int .i64 x1) ∧ w'.cell? ⟨g4, 1, none⟩ = some (.int .i64 y1) ∧ w'.cell? ⟨b, off + j * 2, none⟩ = some (.int .i64 (x2)) ∧ w'.cell? ⟨b, off + j * 2 + 1, none⟩ = some (.int .i64 (y2)) ∧ Below w.heap.size w w'))) (T := (fun _ => 0)) (by kernel_rfl) (S2i0 ⟨z0, z1, xj, yj, hBz.drew⟩) (fun hH => ?_)
   have hWr1 : Weaker (S2 (fun w' => w'.cell? ⟨g4, 0, none⟩ = some (.int .i64 x1) ∧ w'.cell? ⟨g4, 1, none⟩ = some (.int .i64 y1) ∧ w'.cell? ⟨b, off + j * 2, none⟩ = some (.int .i64 (x2)) ∧ w'.cell? ⟨b, off + j * 2 + 1, none⟩ = some (.int .i64 (y2)) ∧ Below w.heap.size w w')) := weaker2 _
   refine Ut 0 12 10 0 0 (v := ?vr1_1) rfl hWr1 hH ?hyr1_1 ?_
   case hyr1_1 => (intro w' hSw; replace hSw := S2o0 hSw; (try dsimp only at hSw); have q0 := hSw.1; have q1 := hSw.2.1; have q2 := hSw.2.2.1; have q3 := hSw.2.2.2.1; have q4 := hSw.2.2.2.2; go_simp; try (with_reducible rfl))
   simp only [sB, sC]
   refine Ut 1 13 9 0 0 (v := ?vr1_2) rfl hWr1 hH ?hyr1_2 ?_
   case hyr1_2 => (intro w' hSw; clear hSw; go_simp; try (with_reducible rfl))
   simp only [sB, sC]
   refine Ut 2 14 8 0 0 (v := ?vr1_3) rfl hWr1 hH ?hyr1_3 ?_
   case hyr1_3 => (intro w' hSw; clear hSw; go_simp; try (with_reducible rfl))
   simp only [sB, sC]
   refine Ut 3 15 7 0 0 (v := ?vr1_4) rfl hWr1 hH ?hyr1_4 ?_
   case hyr1_4 => (intro w' hSw; clear hSw; go_simp; try (with_reducible rfl))
   simp only [sB, sC]
   refine Ut 4 16 6 0 0 (v := ?vr1_5) rfl hWr1 hH ?hyr1_5 ?_
   case hyr1_5 => (intro w' hSw; clear hSw; go_simp; try (with_reducible rfl))
   simp only [sB, sC]
   refine Ut 5 17 5 0 0 (v := ?vr1_6) rfl hWr1 hH ?hyr1_6 ?_
   case hyr1_6 => (intro w' hSw; clear hSw; go_simp; try (with_reducible rfl))
   simp only [sB, sC]
   refine Ut 6 18 4 0 0 (v := ?vr1_7) rfl hWr1 hH ?hyr1_7 ?_
   case hyr1_7 => (intro w' hSw; clear hSw; go_simp; try (with_reducible rfl))
   simp only [sB, sC]
   refine Ut 7 19 3 0 0 (v := ?vr1_8) rfl hWr1 hH ?hyr1_8 ?_
   case hyr1_8 => (intro w' hSw; clear hSw; go_simp; try (with_reducible rfl))
   simp only [sB, sC]
   refine Ut 8 20 2 0 0 (v := ?vr1_9) rfl hWr1 hH ?hyr1_9 ?_
   case hyr1_9 => (intro w' hSw; replace hSw := S2o0 hSw; (try dsimp only at hSw); have q0 := hSw.1; have q1 := hSw.2.1; have q2 := hSw.2.2.1; have q3 := hSw.2.2.2.1; have q4 := hSw.2.2.2.2; go_simp; try (with_reducible rfl))
   simp only [sB, sC]
   refine U1 9 0 rfl (fun K hK => ?_)
   try clear hb
   go_simp
   (go_at_call 79; refine (HCR.out _).mono ?_; rintro e wn ⟨rfl, hb⟩)
   refine hK.out _ _ ?hsr1_10 (fun hH2 => ?hrr1_10)
   case hsr1_10 => exact S2i0 (by have hG := hH; replace hG := S2o0 hG; (try dsimp only at hG); have q0 := hG.1; have q1 := hG.2.1; have q2 := hG.2.2.1; have q3 := hG.2.2.2.1; have q4 := hG.2.2.2.2; exact ⟨keepCell hb q0, keepCell hb q1, keepCell hb q2, keepCell hb q3, keepBelow hb q4⟩)
   clear hK K hH
   have hH := hH2
   clear hH2
   try simp only [Act.put, sA, sB, sC]
   refine Ut 10 22 0 0 0 (v := ?vr1_11) rfl hWr1 hH ?hyr1_11 ?_
   case hyr1_11 => (intro w' hSw; clear hSw; go_simp; try (with_reducible rfl))
   simp only [sB, sC]
   refine wpAnyU_done (by kernel_rfl) ?_ _ _
   refine NoPanic.normal ?_
   clear hWr1
   replace hH := S2o0 hH
   (try dsimp only at hH)
   have q0 := hH.1
   have q1 := hH.2.1
   have q2 := hH.2.2.1
   have q3 := hH.2.2.2.1
   have q4 := hH.2.2.2.2
   clear hH hb q0 q1 q2 q3 HCR z0 z1 xj yj hBz
   by_cases hneg : cz < 0
   ·have HR : Hid (ninB m = false) := by
     show _ = _
     unfold ninB
     rw [decide_eq_false_iff_not]
     intro h
     have := h k hlt
     rw [HIC.out] at this
     omega
    go_wp2
    go_returns
    exact ret_bool HR.out.symm q4
   ·have HN2 : Hid (∀ i, i < k + 1 → 0 ≤ ninC m i) := fun i h => by
     rcases Nat.lt_or_ge i k with g | g
     ·exact HNN.out i g
     ·have : i = k := by omega
      rw [this, HIC.out]; omega
    clear HNN HIC
    go_wp2
    go_roundw
    case rel => exact ⟨k + 1, hlt, by go_num, HN2.out, q4⟩
    case measure => simp [intOf]; omega
  ·have hke : k = m.length := by omega
   have HR : Hid (ninB m = true) := by show _ = _; unfold ninB; rw [decide_eq_true_iff, ← hke]; exact hnn
   clear hnn
   go_wp2
   go_returns
   exact ret_bool HR.out.symm hB
set_option maxRecDepth 100000 in
set_option maxHeartbeats 4000000 in
theorem greatest_any (g : Nat) (caps : Array Value) (p : Int → Bool) (r : Int) (w : World) (h0 : 0 ≤ r) (h1 : r < 536870912) (hp : ∀ n, 0 ≤ n → n < 536870912 → (p n = true ↔ n ≤ r)) (hcf : ∀ (args : Array Value) (w : World), (callFunc g args).run Tryz.prog w = .ok (.enter g args) w)
  (hg : ∀ n w', 0 ≤ n → n < 536870912 → Below w.heap.size w w' → Calls Tryz.prog g (#[.int .i64 n] ++ caps) w' (Ret (.bool (p n)) w')) :
  Calls Tryz.prog 80 #[.func (.func g) #[] caps] w (Ret (.int .i64 r) w) := by
 have HP := hid hp
 have HG := hid hg
 clear hp hg
 go_enter Tryz.func80, Tryz.ntmps80
 go_wp2
 go_loopw [3, 4] (fun a b wr => ∃ lo hi : Int, a = .int .i64 lo ∧ b = .int .i64 hi ∧ 0 ≤ lo ∧ lo < hi ∧ hi ≤ 536870912 ∧ lo ≤ r ∧ r < hi ∧ Below w.heap.size w wr) (fun a b _ => (intOf b - intOf a).toNat)
 case atStart => exact ⟨0, 536870912, rfl, rfl, by omega, by omega, by omega, h0, h1, Below.refl _ _⟩
 case round =>
  obtain ⟨lo, hi, rfl, rfl, b0, b1, b2, s1, s2, hB⟩ := hrel
  obtain ⟨wo, rfl⟩ : ∃ wo : World, wo = wr := ⟨_, rfl⟩
  have w1 : IntKind.i64.wrap (hi - lo) = hi - lo := IntWalk.i64_in _ (by omega)
  by_cases hgt : 1 < hi - lo
  ·obtain ⟨m, hm⟩ : ∃ m, m = (lo + hi) / 2 := ⟨_, rfl⟩
   have w2 : IntKind.i64.wrap (lo + hi) = lo + hi := IntWalk.i64_in _ (by omega)
   have w3 : (lo + hi).tdiv 2 = m := by rw [Int.tdiv_eq_ediv_of_nonneg (by omega), hm]
   have w4 : IntKind.i64.wrap m = m := IntWalk.i64_in _ (by omega)
   have hm1 : lo < m := by omega
   have hm2 : m < hi := by omega
   clear hm
   have hpm := HP.out m (by omega) (by omega)
   have HGM := hid (HG.out m wo (by omega) (by omega) hB)
   cases hv : p m with
   | true =>
    have hmr := hpm.1 hv
    rw [hv] at HGM
    clear hv hpm
    go_wp2_with fail
    refine HGM.out.mono ?_
    rintro e w5 ⟨rfl, hb5⟩
    have hB5 := keepBelow hb5 hB
    clear hb5 hB HGM
    go_wp2
    go_roundw
    case rel => exact ⟨m, hi, rfl, rfl, by omega, by omega, b2, hmr, s2, hB5⟩
    case measure => simp [intOf]; omega
   | false =>
    have hmr : r < m := by
     rcases Int.lt_or_le r m with g | g
     ·exact g
     ·have := hpm.2 g; rw [hv] at this; cases this
    rw [hv] at HGM
    clear hv hpm
    go_wp2_with fail
    refine HGM.out.mono ?_
    rintro e w5 ⟨rfl, hb5⟩
    have hB5 := keepBelow hb5 hB
    clear hb5 hB HGM
    go_wp2
    go_roundw
    case rel => exact ⟨lo, m, rfl, rfl, by omega, by omega, by omega, s1, hmr, hB5⟩
    case measure => simp [intOf]; omega
  ·have he : r = lo := by omega
   have HR := hid he
   clear he s1 s2
   go_wp2
   go_returns
   exact ret_int HR.out.symm hB
end
end Go.Proofs.YtilncglnojjlaaaGreat
