/- Parts of a proof: contracts and laws. -/
import Derived.Test.YtilncglnojjlaaaGreatG14
import Derived.Test.YtilncglnojjlaaaGreatG04
namespace Go.Proofs.YtilncglnojjlaaaGreat
section
set_option linter.unusedVariables false
set_option linter.unusedSimpArgs false
open Go.RowKit
set_option maxRecDepth 100000 in
set_option maxHeartbeats 4000000 in
theorem rroot_calls (n : Int) (h0 : 0 ≤ n) (h1 : n < 4611686018427387904) (w : World) : Calls Tryz.prog 95 #[.int .i64 n] w (Ret (.int .i64 (rootZ n)) w) := by
 go_enter Tryz.func95, Tryz.ntmps95
 go_wp2_with fail
 go_loopw [3, 4] (fun a b wr => ∃ (k : Nat) (o : Int), k ≤ 31 ∧ a = .int .i64 o ∧ b = .int .i64 (2 ^ k / 2) ∧ 0 ≤ o ∧ o + 2 ^ k ≤ 2147483648 ∧ o * o ≤ n ∧ n < (o + 2 ^ k) * (o + 2 ^ k) ∧ Below w.heap.size w wr) (fun _ b _ => (intOf b).toNat)
 case atStart =>
  have e : (2 : Int) ^ 31 = 2147483648 := by decide
  refine ⟨31, 0, by omega, rfl, by rw [e]; rfl, by omega, by rw [e]; omega, by omega, by rw [e]; omega, Below.refl _ _⟩
 case round =>
  obtain ⟨k, o, hk, rfl, rfl, o0, o1, s1, s2, hB⟩ := hrel
  obtain ⟨wo, rfl⟩ : ∃ wo : World, wo = wr := ⟨_, rfl⟩
  cases k with
  | zero =>
   have e0 : (2 : Int) ^ 0 / 2 = 0 := by decide
   have e1 : (2 : Int) ^ 0 = 1 := by decide
   rw [e1] at s2
   have HR : Hid (rootZ n = o) := rootZ_eq h0 (by omega) o0 s1 s2
   rw [e0]
   clear s1 s2 o1 e0 e1
   go_wp2
   go_returns
   exact ret_int HR.out.symm hB
  | succ k =>
   have e2 : (2 : Int) ^ (k + 1) = 2 ^ k + 2 ^ k := by rw [Int.pow_succ]; omega
   have e3 : (2 : Int) ^ (k + 1) / 2 = 2 ^ k := by rw [e2]; omega
   have hp : (0 : Int) < 2 ^ k := Int.pow_pos (by omega)
   have hpk : (2 : Int) ^ k / 2 ≤ 2 ^ k - 1 := by omega
   rw [e3]
   rw [e2] at o1 s2
   have HK := hid (show ∃ m : Nat, m = k from ⟨k, rfl⟩)
   obtain ⟨b, hb⟩ : ∃ b : Int, b = 2 ^ k := ⟨_, rfl⟩
   rw [← hb] at o1 s2 hp hpk ⊢
   have hbb := hid hb
   clear hb e2 e3 HK
   have w1 : IntKind.i64.wrap (o + b) = o + b := IntWalk.i64_in _ (by omega)
   have m1 := mul_bd (x := o + b) (y := o + b) (M := 2147483648) (N := 2147483648) (by omega) (by omega) (by omega) (by omega)
   have w2 : IntKind.i64.wrap ((o + b) * (o + b)) = (o + b) * (o + b) := IntWalk.i64_in _ (by omega)
   have w3 : b.tdiv 2 = b / 2 := Int.tdiv_eq_ediv_of_nonneg (by omega)
   have w4 : IntKind.i64.wrap (b / 2) = b / 2 := IntWalk.i64_in _ (by omega)
   have s2' : n < (o + b + b) * (o + b + b) := by rwa [show o + b + b = o + (b + b) by omega]
   clear m1 s2
   by_cases hle : (o + b) * (o + b) ≤ n
   ·have HS := hid s2'
    clear s2'
    go_wp2
    go_roundw
    case rel => exact ⟨k, o + b, by omega, rfl, by rw [← hbb.out], by omega, by rw [← hbb.out]; omega, hle, by rw [← hbb.out]; exact HS.out, hB⟩
    case measure => simp [intOf]; omega
   ·clear s2'
    go_wp2
    go_roundw
    case rel => exact ⟨k, o, by omega, rfl, by rw [← hbb.out], o0, by rw [← hbb.out]; omega, s1, by rw [← hbb.out]; omega, hB⟩
    case measure => simp [intOf]; omega
set_option maxRecDepth 100000 in
set_option maxHeartbeats 4000000 in
theorem out_calls (A : Option Addr) (n c : Nat) (l : List V) (i : Nat) (w : World) (hS : Sl w A n c l) (hw : allWithin 65536000 l = true) (h3 : 3 ≤ l.length) (h8 : l.length ≤ 8) (hi : i < l.length) :
  Calls Tryz.prog 96 #[.slice A n c, .int .i64 i] w (Ret (vecV (nrmX l i) (nrmY l i)) w) := by
 have hn := hS.len
 subst hn
 obtain ⟨b, off, rfl, hC⟩ := hS.at_ (by intro h; subst h; simp at hi)
 obtain ⟨j, hje⟩ : ∃ j, j = (i + 1) % l.length := ⟨_, rfl⟩
 have hj : j < l.length := by rw [hje]; exact Nat.mod_lt _ (by omega)
 have hji : ((i : Int) + 1) % (l.length : Int) = (j : Int) := by rw [hje]; simp
 have hji2 : (((i : Int) + 1) % (l.length : Int)).toNat = j := by omega
 have hji3 : ((i : Int) + 1) % (l.length : Int) < (l.length : Int) := by omega
 have hji4 : 0 ≤ ((i : Int) + 1) % (l.length : Int) := by omega
 have hwk : IntKind.i64.wrap ((i : Int) + 1) = (i : Int) + 1 := IntWalk.i64_in _ (by omega)
 have htm : ((i : Int) + 1).tmod (l.length : Int) = (j : Int) := by rw [Int.tmod_eq_emod_of_nonneg (by omega)]; exact hji
 have hl0 : ¬ l = [] := by intro h; rw [h] at hi; simp at hi
 have hlt' : (i : Int) < (l.length : Int) := by omega
 have hjl : (j : Int) < (l.length : Int) := by omega
 obtain ⟨a1, a2, a3, a4⟩ := withinB_iff.1 (allWithin_at hw hi)
 obtain ⟨b1, b2, b3, b4⟩ := withinB_iff.1 (allWithin_at hw hj)
 obtain ⟨W, hW⟩ : ∃ W, W = w.alloc (.cells #[.int .i64 0, .int .i64 0] 23) := ⟨_, rfl⟩
 have HZ0 := hid (show VZ W w.heap.size by rw [hW]; exact VZ.here _ _ _ _)
 have hB0 : Below w.heap.size w W := by rw [hW]; go_grown
 have hCW := hC.below hB0
 have xi := hCW.x i hi
 have yi := hCW.y i hi
 have xj := hCW.x j hj
 have yj := hCW.y j hj
 have HN : Hid (nrmX l i = py l j - py l i ∧ nrmY l i = -(px l j - px l i)) := by show _ ∧ _; unfold nrmX nrmY; rw [← hje]; exact ⟨rfl, by omega⟩
 have u1 : wrap64 (px l j - px l i) = px l j - px l i := wrap64_id (by omega) (by omega)
 have u2 : wrap64 (py l j - py l i) = py l j - py l i := wrap64_id (by omega) (by omega)
 have u3 : IntKind.i64.wrap (-(px l j - px l i)) = -(px l j - px l i) := IntWalk.i64_in _ (by omega)
 have HSB := hid (sub_calls (px l j) (py l j) (px l i) (py l i))
 rw [u1, u2] at HSB
 clear hS hC hje hw hCW u1 u2
 obtain ⟨nx, hnx⟩ : ∃ z, z = nrmX l i := ⟨_, rfl⟩
 obtain ⟨ny, hny⟩ : ∃ z, z = nrmY l i := ⟨_, rfl⟩
 rw [← hnx, ← hny] at HN ⊢
 clear hnx hny
 generalize px l i = x1 at *
 generalize py l i = y1 at *
 generalize px l j = x2 at *
 generalize py l j = y2 at *
 generalize x2 - x1 = ex at *
 generalize y2 - y1 = ey at *
 go_enter Tryz.func96, Tryz.ntmps96
 go_upto_region 1 with fail
 rw [← hW]
 clear hW
 go_cut [5] from 6 to 18 (fun t wx => ∃ gT : Nat, t = .pointer (some ⟨gT, 0, none⟩) ∧ wx.cell? ⟨gT, 0, none⟩ = some (.int .i64 ex) ∧ wx.cell? ⟨gT, 1, none⟩ = some (.int .i64 ey) ∧ w.heap.size < gT ∧ VZ wx w.heap.size ∧ Below w.heap.size w wx)
 case first =>
  refine wp_region_noPanic ?_
  refine wp_region_U (S := (S2 (fun w' => w'.cell? ⟨b, off + j * 2, none⟩ = some (.int .i64 (x2)) ∧ w'.cell? ⟨b, off + j * 2 + 1, none⟩ = some (.int .i64 (y2)) ∧ w'.cell? ⟨b, off + i * 2, none⟩ = some (.int .i64 (x1)) ∧ w'.cell? ⟨b, off + i * 2 + 1, none⟩ = some (.int .i64 (y1)) ∧ VZ w' w.heap.size ∧ Below w.heap.size w w'))) (T := (fun j => [0, 0, 0, 0, 0, 0, 0, 0, 0, 0, 0, 0, 0, 0, 1].getD j 0)) (by kernel_rfl) (S2i0 ⟨xj, yj, xi, yi, HZ0.out.drew, hB0.drew⟩) (fun hH => ?_)
  have hWr1 : Weaker (S2 (fun w' => w'.cell? ⟨b, off + j * 2, none⟩ = some (.int .i64 (x2)) ∧ w'.cell? ⟨b, off + j * 2 + 1, none⟩ = some (.int .i64 (y2)) ∧ w'.cell? ⟨b, off + i * 2, none⟩ = some (.int .i64 (x1)) ∧ w'.cell? ⟨b, off + i * 2 + 1, none⟩ = some (.int .i64 (y1)) ∧ VZ w' w.heap.size ∧ Below w.heap.size w w')) := weaker2 _
  refine Ut 0 6 14 0 0 (v := ?vr1_1) rfl hWr1 hH ?hyr1_1 ?_
  case hyr1_1 => (intro w' hSw; clear hSw; go_simp; try (with_reducible rfl))
  simp only [sB, sC]
  refine Ut 1 7 13 0 0 (v := ?vr1_2) rfl hWr1 hH ?hyr1_2 ?_
  case hyr1_2 => (intro w' hSw; clear hSw; go_simp; try (with_reducible rfl))
  simp only [sB, sC]
  refine Ut 2 8 12 0 0 (v := ?vr1_3) rfl hWr1 hH ?hyr1_3 ?_
  case hyr1_3 => (intro w' hSw; clear hSw; go_simp; try (with_reducible rfl))
  simp only [sB, sC]
  refine Ut 3 9 11 0 0 (v := ?vr1_4) rfl hWr1 hH ?hyr1_4 ?_
  case hyr1_4 => (intro w' hSw; clear hSw; go_simp; try (with_reducible rfl))
  simp only [sB, sC]
  refine Ut 4 10 10 0 0 (v := ?vr1_5) rfl hWr1 hH ?hyr1_5 ?_
  case hyr1_5 => (intro w' hSw; clear hSw; go_simp; try (with_reducible rfl))
  simp only [sB, sC]
  refine Ut 5 11 9 0 0 (v := ?vr1_6) rfl hWr1 hH ?hyr1_6 ?_
  case hyr1_6 => (intro w' hSw; clear hSw; go_simp; try (with_reducible rfl))
  simp only [sB, sC]
  refine Ut 6 12 8 0 0 (v := ?vr1_7) rfl hWr1 hH ?hyr1_7 ?_
  case hyr1_7 => (intro w' hSw; clear hSw; go_simp; try (with_reducible rfl))
  simp only [sB, sC]
  refine Ut 7 13 7 0 0 (v := ?vr1_8) rfl hWr1 hH ?hyr1_8 ?_
  case hyr1_8 => (intro w' hSw; replace hSw := S2o0 hSw; (try dsimp only at hSw); have q0 := hSw.1; have q1 := hSw.2.1; have q2 := hSw.2.2.1; have q3 := hSw.2.2.2.1; have q4 := hSw.2.2.2.2.1; have q5 := hSw.2.2.2.2.2; go_simp; try (with_reducible rfl))
  simp only [sB, sC]
  refine Ut 8 14 6 0 0 (v := ?vr1_9) rfl hWr1 hH ?hyr1_9 ?_
  case hyr1_9 => (intro w' hSw; clear hSw; go_simp; try (with_reducible rfl))
  simp only [sB, sC]
  refine Ut 9 15 5 0 0 (v := ?vr1_10) rfl hWr1 hH ?hyr1_10 ?_
  case hyr1_10 => (intro w' hSw; clear hSw; go_simp; try (with_reducible rfl))
  simp only [sB, sC]
  refine Ut 10 16 4 0 0 (v := ?vr1_11) rfl hWr1 hH ?hyr1_11 ?_
  case hyr1_11 => (intro w' hSw; clear hSw; go_simp; try (with_reducible rfl))
  simp only [sB, sC]
  refine Ut 11 17 3 0 0 (v := ?vr1_12) rfl hWr1 hH ?hyr1_12 ?_
  case hyr1_12 => (intro w' hSw; replace hSw := S2o0 hSw; (try dsimp only at hSw); have q0 := hSw.1; have q1 := hSw.2.1; have q2 := hSw.2.2.1; have q3 := hSw.2.2.2.1; have q4 := hSw.2.2.2.2.1; have q5 := hSw.2.2.2.2.2; go_simp; try (with_reducible rfl))
  simp only [sB, sC]
  refine Ur [12, 13] ?_
  refine Uc 0 rfl (fun K hK => ?_) ?_
  ·try clear hb
   go_simp
   (go_at_call 50; refine (HSB.out _).mono ?_; rintro e wn ⟨rfl, hb⟩; try (replace hT := keepVZ hb hT))
   refine hK.out _ _ ?hsr1_13 (fun hH2 => ?hrr1_13)
   case hsr1_13 => exact S2i0 (by have hG := hH; replace hG := S2o0 hG; (try dsimp only at hG); have q0 := hG.1; have q1 := hG.2.1; have q2 := hG.2.2.1; have q3 := hG.2.2.2.1; have q4 := hG.2.2.2.2.1; have q5 := hG.2.2.2.2.2; exact ⟨keepCell hb q0, keepCell hb q1, keepCell hb q2, keepCell hb q3, keepVZ hb q4, keepBelow hb q5⟩)
   clear hK K hH
   have hH := hH2
   clear hH2
   try simp only [Act.put, sA, sB, sC]
   refine U1 13 0 rfl (fun K hK => ?_)
   try clear hb
   have hG := hH
   replace hG := S2o0 hG; (try dsimp only at hG); have q0 := hG.1; have q1 := hG.2.1; have q2 := hG.2.2.1; have q3 := hG.2.2.2.1; have q4 := hG.2.2.2.2.1; have q5 := hG.2.2.2.2.2
   go_simp
   refine hK.out _ _ ?hsr1_14 (fun hH2 => ?hrr1_14)
   case hsr1_14 => exact S2i0 (by have hG := hH; replace hG := S2o0 hG; (try dsimp only at hG); have q0 := hG.1; have q1 := hG.2.1; have q2 := hG.2.2.1; have q3 := hG.2.2.2.1; have q4 := hG.2.2.2.2.1; have q5 := hG.2.2.2.2.2; exact ⟨keepCell ((Below.refl _ _).alloc (Nat.le_refl _) _) q0, keepCell ((Below.refl _ _).alloc (Nat.le_refl _) _) q1, keepCell ((Below.refl _ _).alloc (Nat.le_refl _) _) q2, keepCell ((Below.refl _ _).alloc (Nat.le_refl _) _) q3, q4.alloc _, q5.alloc q5.size _⟩)
   clear hK K hH
   have hH := hH2
   clear hH2
   try simp only [Act.put, sA, sB, sC]
   have hT : VZ (wn.alloc (.cells #[.int .i64 0, .int .i64 0] 23)) wn.heap.size := VZ.here wn _ _ _
   obtain ⟨gT, hgT⟩ : ∃ g, g = wn.heap.size := ⟨_, rfl⟩
   have hlT : w.heap.size < gT := by rw [hgT]; exact q4.lt
   rw [← hgT] at hT
   try rw [← hgT]
   clear hgT q0 q1 q2 q3 q4 q5
   generalize wn.alloc (.cells #[.int .i64 0, .int .i64 0] 23) = wx13 at *
   refine U1 14 1 rfl (fun K hK => ?_)
   have hG := hH
   replace hG := S2o0 hG; (try dsimp only at hG); have q0 := hG.1; have q1 := hG.2.1; have q2 := hG.2.2.1; have q3 := hG.2.2.2.1; have q4 := hG.2.2.2.2.1; have q5 := hG.2.2.2.2.2
   obtain ⟨⟨z0, z1, y0, y1'⟩, yf⟩ := hT
   have hle : w.heap.size ≤ gT := by omega
   go_simp
   refine hK.out _ _ ?hsr1_15 (fun hH2 => ?hrr1_15)
   case hsr1_15 => exact S2i1
   clear hK K hH
   have hH := hH2
   clear hH2
   try simp only [Act.put, sA, sB, sC]
   refine wpAnyU_done (by kernel_rfl) ?_ _ _
   refine NoPanic.normal ?_
   go_wp2_with fail
   go_meet
   refine ⟨gT, rfl, by go_simp, by go_simp, by omega, (q4.set _ _).set _ _, by go_grown⟩
  refine Uc 0 rfl (fun K hK => ?_) ?_
  ·try clear hb
   have hG := hH
   replace hG := S2o0 hG; (try dsimp only at hG); have q0 := hG.1; have q1 := hG.2.1; have q2 := hG.2.2.1; have q3 := hG.2.2.2.1; have q4 := hG.2.2.2.2.1; have q5 := hG.2.2.2.2.2
   go_simp
   refine hK.out _ _ ?hsr1_16 (fun hH2 => ?hrr1_16)
   case hsr1_16 => exact S2i0 (by have hG := hH; replace hG := S2o0 hG; (try dsimp only at hG); have q0 := hG.1; have q1 := hG.2.1; have q2 := hG.2.2.1; have q3 := hG.2.2.2.1; have q4 := hG.2.2.2.2.1; have q5 := hG.2.2.2.2.2; exact ⟨keepCell ((Below.refl _ _).alloc (Nat.le_refl _) _) q0, keepCell ((Below.refl _ _).alloc (Nat.le_refl _) _) q1, keepCell ((Below.refl _ _).alloc (Nat.le_refl _) _) q2, keepCell ((Below.refl _ _).alloc (Nat.le_refl _) _) q3, q4.alloc _, q5.alloc q5.size _⟩)
   clear hK K hH
   have hH := hH2
   clear hH2
   try simp only [Act.put, sA, sB, sC]
   have hT : VZ ((W.alloc (.cells #[.int .i64 0, .int .i64 0] 23)).drew) W.heap.size := VZ.drew (VZ.here W _ _ _)
   obtain ⟨gT, hgT⟩ : ∃ g, g = W.heap.size := ⟨_, rfl⟩
   have hlT : w.heap.size < gT := by rw [hgT]; exact q4.lt
   rw [← hgT] at hT
   try rw [← hgT]
   clear hgT q0 q1 q2 q3 q4 q5
   generalize (W.alloc (.cells #[.int .i64 0, .int .i64 0] 23)).drew = wx13 at *
   refine U1 12 0 rfl (fun K hK => ?_)
   try clear hb
   go_simp
   (go_at_call 50; refine (HSB.out _).mono ?_; rintro e wn ⟨rfl, hb⟩; try (replace hT := keepVZ hb hT))
   refine hK.out _ _ ?hsr1_17 (fun hH2 => ?hrr1_17)
   case hsr1_17 => exact S2i0 (by have hG := hH; replace hG := S2o0 hG; (try dsimp only at hG); have q0 := hG.1; have q1 := hG.2.1; have q2 := hG.2.2.1; have q3 := hG.2.2.2.1; have q4 := hG.2.2.2.2.1; have q5 := hG.2.2.2.2.2; exact ⟨keepCell hb q0, keepCell hb q1, keepCell hb q2, keepCell hb q3, keepVZ hb q4, keepBelow hb q5⟩)
   clear hK K hH
   have hH := hH2
   clear hH2
   try simp only [Act.put, sA, sB, sC]
   refine U1 14 1 rfl (fun K hK => ?_)
   have hG := hH
   replace hG := S2o0 hG; (try dsimp only at hG); have q0 := hG.1; have q1 := hG.2.1; have q2 := hG.2.2.1; have q3 := hG.2.2.2.1; have q4 := hG.2.2.2.2.1; have q5 := hG.2.2.2.2.2
   obtain ⟨⟨z0, z1, y0, y1'⟩, yf⟩ := hT
   have hle : w.heap.size ≤ gT := by omega
   go_simp
   refine hK.out _ _ ?hsr1_18 (fun hH2 => ?hrr1_18)
   case hsr1_18 => exact S2i1
   clear hK K hH
   have hH := hH2
   clear hH2
   try simp only [Act.put, sA, sB, sC]
   refine wpAnyU_done (by kernel_rfl) ?_ _ _
   refine NoPanic.normal ?_
   go_wp2_with fail
   go_meet
   refine ⟨gT, rfl, by go_simp, by go_simp, by omega, (q4.set _ _).set _ _, by go_grown⟩
  exact AllReadyU.nil
 case rest =>
  obtain ⟨gT, rfl, x0, x1', hg, hz, hB⟩ := hcut
  obtain ⟨⟨z0, z1, y0, y1'⟩, yf⟩ := hz
  clear HZ0 hB0 xi yi xj yj
  have hne : ¬ w.heap.size = gT := by omega
  go_wp2
  refine bodyPost_ret (v := vecV ey (-ex)) (by simp [results, Tryz.results96, go_sem, y0, y1']) rfl ⟨by rw [HN.out.1, HN.out.2], by go_grown⟩
end
end Go.Proofs.YtilncglnojjlaaaGreat
