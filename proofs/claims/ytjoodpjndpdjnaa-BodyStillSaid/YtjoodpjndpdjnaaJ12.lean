/- The walk of BodyStill. -/
import Derived.Test.YtjoodpjndpdjnaaJ11
namespace Go.Proofs.Ytjoodpjndpdjnaa
set_option linter.unusedVariables false
set_option linter.unusedSimpArgs false
open Go.RowKit

theorem mulF_zero (a : Int) : mulF a 0 = 0 := by
  have h : clampF 65536 = 65536 := by decide
  have h0 : clampF 0 = 0 := by decide
  unfold mulF mdF
  rw [h, h0, Int.mul_zero, if_neg (by omega)]
  decide
theorem clampN_id {n m : Int} (h1 : -m ≤ n) (h2 : n ≤ m) : clampN n m = n := by unfold clampN; rw [if_neg (by omega), if_neg (by omega)]
theorem angF_id {a : Int} (h1 : 0 ≤ a) (h2 : a ≤ 65535) : angF a = a := by
  unfold angF
  rw [Int.tmod_eq_emod_of_nonneg h1, Int.emod_eq_of_lt h1 (by omega), Int.tmod_eq_emod_of_nonneg (by omega)]
  omega
theorem moveB_zero {b : Bd} (h : MadeB b) (l : List V) : moveB b l 0 = b := by
  unfold moveB
  split
  · rfl
  · have e1 := h.px
    have e2 := h.py
    have e3 := h.ang
    rw [mulF_zero, mulF_zero, mulF_zero, Int.add_zero, Int.add_zero, Int.add_zero, clampN_id (by omega) (by omega), clampN_id (by omega) (by omega), angF_id (by omega) (by omega)]
def stopB (b : Bd) : Bd := if 0 < b.mass then { b with vx := 0, vy := 0, spin := 0, asleep := true } else b
theorem stopB_stays {b : Bd} (h : MadeB b) : (stopB b).mass = 0 ∨ (stopB b).asleep = true := by
  unfold stopB
  split
  · exact .inr rfl
  · rename_i hm
    refine .inl ?_
    rcases h.kind with ⟨_, _, _, h1, _⟩ | ⟨_, _, _, h1, _⟩
    · exact h1
    · omega
theorem moveB_stays {b : Bd} (h : b.mass = 0 ∨ b.asleep = true) (l : List V) (s : Int) : moveB b l s = b := by
  unfold moveB
  rw [if_pos (by rcases h with h | h; exact .inr (.inl h); exact .inr (.inr (.inl h)))]
theorem pushB_stays {b : Bd} (h : b.mass = 0 ∨ b.asleep = true) (l : List V) (jx jy u v : Int) : pushB b l jx jy u v = b := by
  unfold pushB
  rw [if_pos (by rcases h with h | h; exact .inr (.inl h); exact .inr (.inr h))]

theorem BdAt.set_asleep {w : World} {g : Nat} {b : Bd} {A : Option Addr} {n c : Nat} (h : BdAt w g b A n c) (v : Bool) : BdAt (w.setCell ⟨g, 11, none⟩ (.bool v)) g { b with asleep := v } A n c := by
  obtain ⟨k0, k1, k2, k3, k4, k5, k6, k7, k8, k9, k10, k11, k12, kf⟩ := h
  exact ⟨by go_simp, by go_simp, by go_simp, by go_simp, by go_simp, by go_simp, by go_simp, by go_simp, by go_simp, by go_simp, by go_simp, by go_simp, by go_simp, fun j => by rw [World.frozen?_setCell]; exact kf j⟩

set_option maxRecDepth 100000 in
set_option maxHeartbeats 4000000 in
theorem bodyStill_walk (A : Option Addr) (n c : Nat) (r : List Int) (s jx jy u v : Int) (w : World) (hS : SlI w A n c r) :
    Calls Try.prog 14 #[.slice A n c, .int .i64 s, vecV jx jy, vecV u v] w (Ret (.bool true) w) := by
  obtain ⟨W, hW⟩ : ∃ W, W = (w.alloc (.cells #[.int .i64 jx, .int .i64 jy] 24)).alloc (.cells #[.int .i64 u, .int .i64 v] 24) := ⟨_, rfl⟩
  have j0 : W.cell? ⟨w.heap.size, 0, none⟩ = some (.int .i64 jx) := by rw [hW]; go_simp
  have j1 : W.cell? ⟨w.heap.size, 1, none⟩ = some (.int .i64 jy) := by rw [hW]; go_simp
  have p0 : W.cell? ⟨w.heap.size + 1, 0, none⟩ = some (.int .i64 u) := by rw [hW]; go_simp
  have p1 : W.cell? ⟨w.heap.size + 1, 1, none⟩ = some (.int .i64 v) := by rw [hW]; go_simp
  have hB0 : Below w.heap.size w W := by rw [hW]; go_grown
  have HSI := hid (hS.below hB0)
  clear hS
  go_enter Try.func14, Try.ntmps14
  go_wp2_with fail
  rw [← hW]
  clear hW
  refine (mBody_calls _ _ _ r _ HSI.out).mono ?_
  rintro e w1 ⟨b, l, A1, n1, c1, rfl, hmb, hml, hs1, hf1, hb1⟩
  replace j0 := keepCell hb1 j0
  replace j1 := keepCell hb1 j1
  replace p0 := keepCell hb1 p0
  replace p1 := keepCell hb1 p1
  have hlen : l.length ≤ 1000000 := by have := made_len hml; omega
  have HMV : Hid (∀ (w : World) (A : Option Addr) (n c : Nat), Sl w A n c l → Calls Try.prog 69 #[bodyV b A n c, .int .i64 0] w (RetBody b l w)) := fun w A n c h => by
    have := move_calls b A n c l 0 w h hlen
    rwa [moveB_zero hmb] at this
  obtain ⟨b', hb'⟩ : ∃ b', b' = stopB b := ⟨_, rfl⟩
  have hst := stopB_stays hmb
  rw [← hb'] at hst
  have HMV2 : Hid (∀ (w : World) (A : Option Addr) (n c : Nat), Sl w A n c l → Calls Try.prog 69 #[bodyV b' A n c, .int .i64 s] w (RetBody b' l w)) := fun w A n c h => by
    have := move_calls b' A n c l s w h hlen
    rwa [moveB_stays hst] at this
  have HPV : Hid (∀ (w : World) (A : Option Addr) (n c : Nat), Sl w A n c l → Calls Try.prog 62 #[bodyV b' A n c, vecV jx jy, vecV u v] w (RetBody b' l w)) := fun w A n c h => by
    have := push_calls b' A n c l jx jy u v w h hlen
    rwa [pushB_stays hst] at this
  have HB' := hid hb'
  obtain ⟨wd, hwd⟩ : ∃ wd, wd = w1.alloc (.cells #[.int .i64 b.px, .int .i64 b.py, .int .i64 b.vx, .int .i64 b.vy, .int .i64 b.ang, .int .i64 b.spin, .int .i64 b.mass, .int .i64 b.iner, .int .i64 b.bounce, .int .i64 b.rub, .slice A1 n1 c1, .bool b.asleep, .int .i64 b.calm] 77) := ⟨_, rfl⟩
  have HK1 := hid (show BdAt wd w1.heap.size b A1 n1 c1 by rw [hwd]; exact BdAt.here w1 b A1 n1 c1 _)
  have HS1 := hid (show Sl wd A1 n1 c1 l by rw [hwd]; exact hs1.alloc _)
  have hB1 : Below w.heap.size w wd := by rw [hwd]; exact (keepBelow hb1 hB0).alloc (keepBelow hb1 hB0).size _
  have HNE : Hid (∀ bx off, A1 = some ⟨bx, off, none⟩ → bx ≠ w1.heap.size) := fun bx off e => by
    by_cases h : l = []
    · have := (made_len hml).1; rw [h] at this; simp at this
    · obtain ⟨b2, off2, e2, hc2⟩ := hs1.at_ h; rw [e] at e2; cases e2; have := hc2.lt; omega
  have hjl := lt_of_cell j0
  have hpl := lt_of_cell p0
  replace j0 : wd.cell? ⟨w.heap.size, 0, none⟩ = some (.int .i64 jx) := by rw [hwd]; go_simp
  replace j1 : wd.cell? ⟨w.heap.size, 1, none⟩ = some (.int .i64 jy) := by rw [hwd]; go_simp
  replace p0 : wd.cell? ⟨w.heap.size + 1, 0, none⟩ = some (.int .i64 u) := by rw [hwd]; go_simp
  replace p1 : wd.cell? ⟨w.heap.size + 1, 1, none⟩ = some (.int .i64 v) := by rw [hwd]; go_simp
  have hMm : 0 < b.mass ∨ ¬ 0 < b.mass := by omega
  clear HSI hs1 hf1 hb1 hB0 hmb hml hb' hst
  go_upto_region 2 with fail
  rw [← hwd]
  clear hwd
  refine wp_region_noPanic ?_
  refine wp_region_U (S := (S2 (fun w' => BdAt w' w1.heap.size b A1 n1 c1 ∧ Sl w' A1 n1 c1 l ∧ w'.cell? ⟨w.heap.size, 0, none⟩ = some (.int .i64 jx) ∧ w'.cell? ⟨w.heap.size, 1, none⟩ = some (.int .i64 jy) ∧ w'.cell? ⟨w.heap.size + 1, 0, none⟩ = some (.int .i64 u) ∧ w'.cell? ⟨w.heap.size + 1, 1, none⟩ = some (.int .i64 v) ∧ Below w.heap.size w w'))) (T := (fun _ => 0)) (by kernel_rfl) (S2i0 ⟨HK1.out.drew, HS1.out.drew', j0, j1, p0, p1, hB1.drew⟩) (fun hH => ?_)
  have hWr1 : Weaker (S2 (fun w' => BdAt w' w1.heap.size b A1 n1 c1 ∧ Sl w' A1 n1 c1 l ∧ w'.cell? ⟨w.heap.size, 0, none⟩ = some (.int .i64 jx) ∧ w'.cell? ⟨w.heap.size, 1, none⟩ = some (.int .i64 jy) ∧ w'.cell? ⟨w.heap.size + 1, 0, none⟩ = some (.int .i64 u) ∧ w'.cell? ⟨w.heap.size + 1, 1, none⟩ = some (.int .i64 v) ∧ Below w.heap.size w w')) := weaker2 _
  refine wpAnyU_ready (rs := [0]) (by kernel_rfl) (by simp) ?_
  refine AllReadyU.cons 0 (by kernel_rfl) (o := _) rfl (fun K hK => ?_) AllReadyU.nil
  try clear hb
  have hG := hH
  replace hG := S2o0 hG; (try dsimp only at hG); have q0 := hG.1; have q1 := hG.2.1; have q2 := hG.2.2.1; have q3 := hG.2.2.2.1; have q4 := hG.2.2.2.2.1; have q5 := hG.2.2.2.2.2.1; have q6 := hG.2.2.2.2.2.2
  go_simp
  (go_at_call 63; refine (pushes_calls _).mono ?_; rintro e wn ⟨rfl, hb⟩)
  refine hK.out _ _ ?hsr1_1 (fun hH2 => ?hrr1_1)
  case hsr1_1 => exact S2i0 (by have hG := hH; replace hG := S2o0 hG; (try dsimp only at hG); have q0 := hG.1; have q1 := hG.2.1; have q2 := hG.2.2.1; have q3 := hG.2.2.2.1; have q4 := hG.2.2.2.2.1; have q5 := hG.2.2.2.2.2.1; have q6 := hG.2.2.2.2.2.2; exact ⟨keepBd hb q0, keepSl hb q1, keepCell hb q2, keepCell hb q3, keepCell hb q4, keepCell hb q5, keepBelow hb q6⟩)
  clear hK K hH
  have hH := hH2
  clear hH2
  try simp only [Act.put, List.setIfInBounds_toArray, List.set_cons_zero, List.set_cons_succ]
  refine U_take 1 13 7 0 0 (v := ?vr1_2) rfl (by kernel_rfl) (by kernel_rfl) hWr1 (by kernel_rfl) (by kernel_rfl) (by kernel_rfl) (by kernel_rfl) (by kernel_rfl) (by kernel_rfl) (fun _ _ _ _ h => h) (by kernel_rfl) ?hyr1_2 (by omega) hH ?_
  case hyr1_2 => (intro w' hSw; clear hSw; go_simp; try (with_reducible rfl))
  simp only [List.set_cons_zero, List.set_cons_succ]
  refine U_take 2 14 6 0 0 (v := ?vr1_3) rfl (by kernel_rfl) (by kernel_rfl) hWr1 (by kernel_rfl) (by kernel_rfl) (by kernel_rfl) (by kernel_rfl) (by kernel_rfl) (by kernel_rfl) (fun _ _ _ _ h => h) (by kernel_rfl) ?hyr1_3 (by omega) hH ?_
  case hyr1_3 => (intro w' hSw; clear hSw; go_simp; try (with_reducible rfl))
  simp only [List.set_cons_zero, List.set_cons_succ]
  refine U_take 3 15 5 0 0 (v := ?vr1_4) rfl (by kernel_rfl) (by kernel_rfl) hWr1 (by kernel_rfl) (by kernel_rfl) (by kernel_rfl) (by kernel_rfl) (by kernel_rfl) (by kernel_rfl) (fun _ _ _ _ h => h) (by kernel_rfl) ?hyr1_4 (by omega) hH ?_
  case hyr1_4 => (intro w' hSw; replace hSw := S2o0 hSw; (try dsimp only at hSw); have q0 := hSw.1; have q1 := hSw.2.1; have q2 := hSw.2.2.1; have q3 := hSw.2.2.2.1; have q4 := hSw.2.2.2.2.1; have q5 := hSw.2.2.2.2.2.1; have q6 := hSw.2.2.2.2.2.2; obtain ⟨qa0_0, qa0_1, qa0_2, qa0_3, qa0_4, qa0_5, qa0_6, qa0_7, qa0_8, qa0_9, qa0_10, qa0_11, qa0_12, qa0_f⟩ := id q0; go_simp; try (with_reducible rfl))
  simp only [List.set_cons_zero, List.set_cons_succ]
  refine U_take 5 17 4 0 0 (v := ?vr1_5) rfl (by kernel_rfl) (by kernel_rfl) hWr1 (by kernel_rfl) (by kernel_rfl) (by kernel_rfl) (by kernel_rfl) (by kernel_rfl) (by kernel_rfl) (fun _ _ _ _ h => h) (by kernel_rfl) ?hyr1_5 (by omega) hH ?_
  case hyr1_5 => (intro w' hSw; replace hSw := S2o0 hSw; (try dsimp only at hSw); have q0 := hSw.1; have q1 := hSw.2.1; have q2 := hSw.2.2.1; have q3 := hSw.2.2.2.1; have q4 := hSw.2.2.2.2.1; have q5 := hSw.2.2.2.2.2.1; have q6 := hSw.2.2.2.2.2.2; obtain ⟨qa0_0, qa0_1, qa0_2, qa0_3, qa0_4, qa0_5, qa0_6, qa0_7, qa0_8, qa0_9, qa0_10, qa0_11, qa0_12, qa0_f⟩ := id q0; go_simp; try (with_reducible rfl))
  simp only [List.set_cons_zero, List.set_cons_succ]
  refine wpAnyU_ready (rs := [4]) (by kernel_rfl) (by simp) ?_
  refine AllReadyU.cons 0 (by kernel_rfl) (o := _) rfl (fun K hK => ?_) AllReadyU.nil
  try clear hb
  have hG := hH
  replace hG := S2o0 hG; (try dsimp only at hG); have q0 := hG.1; have q1 := hG.2.1; have q2 := hG.2.2.1; have q3 := hG.2.2.2.1; have q4 := hG.2.2.2.2.1; have q5 := hG.2.2.2.2.2.1; have q6 := hG.2.2.2.2.2.2
  go_simp
  (go_at_call 69; refine (HMV.out _ _ _ _ q1).mono ?_; rintro e wn ⟨A2, n2, c2, rfl, hs2, hf2, hb⟩)
  refine hK.out _ _ ?hsr1_6 (fun hH2 => ?hrr1_6)
  case hsr1_6 => exact S2i0 (by have hG := hH; replace hG := S2o0 hG; (try dsimp only at hG); have q0 := hG.1; have q1 := hG.2.1; have q2 := hG.2.2.1; have q3 := hG.2.2.2.1; have q4 := hG.2.2.2.2.1; have q5 := hG.2.2.2.2.2.1; have q6 := hG.2.2.2.2.2.2; exact ⟨keepBd hb q0, keepSl hb q1, keepCell hb q2, keepCell hb q3, keepCell hb q4, keepCell hb q5, keepBelow hb q6⟩)
  clear hK K hH
  have hH := hH2
  clear hH2
  try simp only [Act.put, List.setIfInBounds_toArray, List.set_cons_zero, List.set_cons_succ]
  refine wpAnyU_ready (rs := [6]) (by kernel_rfl) (by simp) ?_
  refine AllReadyU.cons 0 (by kernel_rfl) (o := _) rfl (fun K hK => ?_) AllReadyU.nil
  try clear hb
  have hG := hH
  replace hG := S2o0 hG; (try dsimp only at hG); have q0 := hG.1; have q1 := hG.2.1; have q2 := hG.2.2.1; have q3 := hG.2.2.2.1; have q4 := hG.2.2.2.2.1; have q5 := hG.2.2.2.2.2.1; have q6 := hG.2.2.2.2.2.2
  go_simp
  (go_at_call 68; refine (same_calls b _ _ _ _ _ _ l _ hs2 q1).mono ?_; rintro e wn ⟨rfl, hb⟩)
  refine hK.out _ _ ?hsr1_7 (fun hH2 => ?hrr1_7)
  case hsr1_7 => exact S2i0 (by have hG := hH; replace hG := S2o0 hG; (try dsimp only at hG); have q0 := hG.1; have q1 := hG.2.1; have q2 := hG.2.2.1; have q3 := hG.2.2.2.1; have q4 := hG.2.2.2.2.1; have q5 := hG.2.2.2.2.2.1; have q6 := hG.2.2.2.2.2.2; exact ⟨keepBd hb q0, keepSl hb q1, keepCell hb q2, keepCell hb q3, keepCell hb q4, keepCell hb q5, keepBelow hb q6⟩)
  clear hK K hH
  have hH := hH2
  clear hH2
  try simp only [Act.put, List.setIfInBounds_toArray, List.set_cons_zero, List.set_cons_succ]
  refine U_take 7 19 1 0 0 (v := ?vr1_8) rfl (by kernel_rfl) (by kernel_rfl) hWr1 (by kernel_rfl) (by kernel_rfl) (by kernel_rfl) (by kernel_rfl) (by kernel_rfl) (by kernel_rfl) (fun _ _ _ _ h => h) (by kernel_rfl) ?hyr1_8 (by omega) hH ?_
  case hyr1_8 => (intro w' hSw; clear hSw; go_simp; try (with_reducible rfl))
  simp only [List.set_cons_zero, List.set_cons_succ]
  refine U_take 8 20 0 0 0 (v := ?vr1_9) rfl (by kernel_rfl) (by kernel_rfl) hWr1 (by kernel_rfl) (by kernel_rfl) (by kernel_rfl) (by kernel_rfl) (by kernel_rfl) (by kernel_rfl) (fun _ _ _ _ h => h) (by kernel_rfl) ?hyr1_9 (by omega) hH ?_
  case hyr1_9 => (intro w' hSw; clear hSw; go_simp; try (with_reducible rfl))
  simp only [List.set_cons_zero, List.set_cons_succ]
  refine wpAnyU_done (by kernel_rfl) ?_ _ _
  refine NoPanic.normal ?_
  clear hWr1
  replace hH := S2o0 hH
  (try dsimp only at hH)
  have r0 := hH.1
  have r1 := hH.2.1
  have r2 := hH.2.2.1
  have r3 := hH.2.2.2.1
  have r4 := hH.2.2.2.2.1
  have r5 := hH.2.2.2.2.2.1
  have r6 := hH.2.2.2.2.2.2
  have HK2 := hid r0
  have HS2 := hid r1
  have hB2 := r6
  replace j0 := r2
  replace j1 := r3
  replace p0 := r4
  replace p1 := r5
  clear r0 r1 r2 r3 r4 r5 r6 hH hb HK1 HS1 hB1 hG
  go_upto_region 4 with fail
  obtain ⟨k0, k1, k2, k3, k4, k5, k6, k7, k8, k9, k10, k11, k12, kf⟩ := HK2.out
  have hl2 := HK2.out.lt
  go_upto_if 23 with fail
  go_cut [] from 24 to 27 (fun wx => BdAt wx w1.heap.size b' A1 n1 c1 ∧ Sl wx A1 n1 c1 l ∧ wx.cell? ⟨w.heap.size, 0, none⟩ = some (.int .i64 jx) ∧ wx.cell? ⟨w.heap.size, 1, none⟩ = some (.int .i64 jy) ∧ wx.cell? ⟨w.heap.size + 1, 0, none⟩ = some (.int .i64 u) ∧ wx.cell? ⟨w.heap.size + 1, 1, none⟩ = some (.int .i64 v) ∧ Below w.heap.size w wx)
  case first =>
    have n1' : ¬ w1.heap.size = w.heap.size := by omega
    have n2' : ¬ w1.heap.size = w.heap.size + 1 := by omega
    by_cases hm : 0 < b.mass
    · have HE : Hid (b' = { b with vx := 0, vy := 0, spin := 0, asleep := true }) := by show _ = _; rw [HB'.out, stopB, if_pos hm]
      go_wp2
      go_meet
      have hsz1 : w.heap.size ≤ w1.heap.size := by omega
      refine ⟨?_, Sl.setAt (Sl.setAt (Sl.setAt (Sl.setAt HS2.out HNE.out) HNE.out) HNE.out) HNE.out, by go_simp, by go_simp, by go_simp, by go_simp, by go_grown⟩
      rw [HE.out]
      exact (((HK2.out.set_vx 0).set_vy 0).set_spin 0).set_asleep true
    · have HE : Hid (b' = b) := by show _ = _; rw [HB'.out, stopB, if_neg hm]
      go_wp2
      go_meet
      exact ⟨by rw [HE.out]; exact HK2.out, HS2.out, j0, j1, p0, p1, hB2⟩
  case rest =>
    obtain ⟨hk, hs, j0, j1, p0, p1, hB⟩ := hcut
    have HK := hid hk
    have HS := hid hs
    clear hk hs HK2 HS2 hB2 k0 k1 k2 k3 k4 k5 k6 k7 k8 k9 k10 k11 k12 kf hl2
    go_upto_region 6 with fail
    refine wp_region_noPanic ?_
    refine wp_region_U (S := (S2 (fun w' => BdAt w' w1.heap.size b' A1 n1 c1 ∧ Sl w' A1 n1 c1 l ∧ w'.cell? ⟨w.heap.size, 0, none⟩ = some (.int .i64 jx) ∧ w'.cell? ⟨w.heap.size, 1, none⟩ = some (.int .i64 jy) ∧ w'.cell? ⟨w.heap.size + 1, 0, none⟩ = some (.int .i64 u) ∧ w'.cell? ⟨w.heap.size + 1, 1, none⟩ = some (.int .i64 v) ∧ Below w.heap.size w w'))) (T := (fun _ => 0)) (by kernel_rfl) (S2i0 ⟨HK.out.drew, HS.out.drew', j0, j1, p0, p1, hB.drew⟩) (fun hH => ?_)
    have hWr2 : Weaker (S2 (fun w' => BdAt w' w1.heap.size b' A1 n1 c1 ∧ Sl w' A1 n1 c1 l ∧ w'.cell? ⟨w.heap.size, 0, none⟩ = some (.int .i64 jx) ∧ w'.cell? ⟨w.heap.size, 1, none⟩ = some (.int .i64 jy) ∧ w'.cell? ⟨w.heap.size + 1, 0, none⟩ = some (.int .i64 u) ∧ w'.cell? ⟨w.heap.size + 1, 1, none⟩ = some (.int .i64 v) ∧ Below w.heap.size w w')) := weaker2 _
    refine U_take 0 28 13 0 0 (v := ?vr2_1) rfl (by kernel_rfl) (by kernel_rfl) hWr2 (by kernel_rfl) (by kernel_rfl) (by kernel_rfl) (by kernel_rfl) (by kernel_rfl) (by kernel_rfl) (fun _ _ _ _ h => h) (by kernel_rfl) ?hyr2_1 (by omega) hH ?_
    case hyr2_1 => (intro w' hSw; replace hSw := S2o0 hSw; (try dsimp only at hSw); have q0 := hSw.1; have q1 := hSw.2.1; have q2 := hSw.2.2.1; have q3 := hSw.2.2.2.1; have q4 := hSw.2.2.2.2.1; have q5 := hSw.2.2.2.2.2.1; have q6 := hSw.2.2.2.2.2.2; obtain ⟨qa0_0, qa0_1, qa0_2, qa0_3, qa0_4, qa0_5, qa0_6, qa0_7, qa0_8, qa0_9, qa0_10, qa0_11, qa0_12, qa0_f⟩ := id q0; go_simp; try (with_reducible rfl))
    simp only [List.set_cons_zero, List.set_cons_succ]
    refine U_take 1 29 12 0 0 (v := ?vr2_2) rfl (by kernel_rfl) (by kernel_rfl) hWr2 (by kernel_rfl) (by kernel_rfl) (by kernel_rfl) (by kernel_rfl) (by kernel_rfl) (by kernel_rfl) (fun _ _ _ _ h => h) (by kernel_rfl) ?hyr2_2 (by omega) hH ?_
    case hyr2_2 => (intro w' hSw; clear hSw; go_simp; try (with_reducible rfl))
    simp only [List.set_cons_zero, List.set_cons_succ]
    refine U_take 3 31 11 0 0 (v := ?vr2_3) rfl (by kernel_rfl) (by kernel_rfl) hWr2 (by kernel_rfl) (by kernel_rfl) (by kernel_rfl) (by kernel_rfl) (by kernel_rfl) (by kernel_rfl) (fun _ _ _ _ h => h) (by kernel_rfl) ?hyr2_3 (by omega) hH ?_
    case hyr2_3 => (intro w' hSw; replace hSw := S2o0 hSw; (try dsimp only at hSw); have q0 := hSw.1; have q1 := hSw.2.1; have q2 := hSw.2.2.1; have q3 := hSw.2.2.2.1; have q4 := hSw.2.2.2.2.1; have q5 := hSw.2.2.2.2.2.1; have q6 := hSw.2.2.2.2.2.2; obtain ⟨qa0_0, qa0_1, qa0_2, qa0_3, qa0_4, qa0_5, qa0_6, qa0_7, qa0_8, qa0_9, qa0_10, qa0_11, qa0_12, qa0_f⟩ := id q0; go_simp; try (with_reducible rfl))
    simp only [List.set_cons_zero, List.set_cons_succ]
    refine wpAnyU_ready (rs := [2]) (by kernel_rfl) (by simp) ?_
    refine AllReadyU.cons 0 (by kernel_rfl) (o := _) rfl (fun K hK => ?_) AllReadyU.nil
    try clear hb
    have hG := hH
    replace hG := S2o0 hG; (try dsimp only at hG); have q0 := hG.1; have q1 := hG.2.1; have q2 := hG.2.2.1; have q3 := hG.2.2.2.1; have q4 := hG.2.2.2.2.1; have q5 := hG.2.2.2.2.2.1; have q6 := hG.2.2.2.2.2.2
    go_simp
    (go_at_call 69; refine (HMV2.out _ _ _ _ q1).mono ?_; rintro e wn ⟨A2, n2, c2, rfl, hs2, hf2, hb⟩)
    refine hK.out _ _ ?hsr2_4 (fun hH2 => ?hrr2_4)
    case hsr2_4 => exact S2i0 (by have hG := hH; replace hG := S2o0 hG; (try dsimp only at hG); have q0 := hG.1; have q1 := hG.2.1; have q2 := hG.2.2.1; have q3 := hG.2.2.2.1; have q4 := hG.2.2.2.2.1; have q5 := hG.2.2.2.2.2.1; have q6 := hG.2.2.2.2.2.2; exact ⟨keepBd hb q0, keepSl hb q1, keepCell hb q2, keepCell hb q3, keepCell hb q4, keepCell hb q5, keepBelow hb q6⟩)
    clear hK K hH
    have hH := hH2
    clear hH2
    try simp only [Act.put, List.setIfInBounds_toArray, List.set_cons_zero, List.set_cons_succ]
    refine wpAnyU_ready (rs := [4]) (by kernel_rfl) (by simp) ?_
    refine AllReadyU.cons 0 (by kernel_rfl) (o := _) rfl (fun K hK => ?_) AllReadyU.nil
    try clear hb
    have hG := hH
    replace hG := S2o0 hG; (try dsimp only at hG); have q0 := hG.1; have q1 := hG.2.1; have q2 := hG.2.2.1; have q3 := hG.2.2.2.1; have q4 := hG.2.2.2.2.1; have q5 := hG.2.2.2.2.2.1; have q6 := hG.2.2.2.2.2.2
    go_simp
    (go_at_call 68; refine (same_calls b' _ _ _ _ _ _ l _ hs2 q1).mono ?_; rintro e wn ⟨rfl, hb⟩)
    refine hK.out _ _ ?hsr2_5 (fun hH2 => ?hrr2_5)
    case hsr2_5 => exact S2i0 (by have hG := hH; replace hG := S2o0 hG; (try dsimp only at hG); have q0 := hG.1; have q1 := hG.2.1; have q2 := hG.2.2.1; have q3 := hG.2.2.2.1; have q4 := hG.2.2.2.2.1; have q5 := hG.2.2.2.2.2.1; have q6 := hG.2.2.2.2.2.2; exact ⟨keepBd hb q0, keepSl hb q1, keepCell hb q2, keepCell hb q3, keepCell hb q4, keepCell hb q5, keepBelow hb q6⟩)
    clear hK K hH
    have hH := hH2
    clear hH2
    try simp only [Act.put, List.setIfInBounds_toArray, List.set_cons_zero, List.set_cons_succ]
    refine U_take 5 33 8 0 0 (v := ?vr2_6) rfl (by kernel_rfl) (by kernel_rfl) hWr2 (by kernel_rfl) (by kernel_rfl) (by kernel_rfl) (by kernel_rfl) (by kernel_rfl) (by kernel_rfl) (fun _ _ _ _ h => h) (by kernel_rfl) ?hyr2_6 (by omega) hH ?_
    case hyr2_6 => (intro w' hSw; clear hSw; go_simp; try (with_reducible rfl))
    simp only [List.set_cons_zero, List.set_cons_succ]
    refine U_take 6 34 7 0 0 (v := ?vr2_7) rfl (by kernel_rfl) (by kernel_rfl) hWr2 (by kernel_rfl) (by kernel_rfl) (by kernel_rfl) (by kernel_rfl) (by kernel_rfl) (by kernel_rfl) (fun _ _ _ _ h => h) (by kernel_rfl) ?hyr2_7 (by omega) hH ?_
    case hyr2_7 => (intro w' hSw; replace hSw := S2o0 hSw; (try dsimp only at hSw); have q0 := hSw.1; have q1 := hSw.2.1; have q2 := hSw.2.2.1; have q3 := hSw.2.2.2.1; have q4 := hSw.2.2.2.2.1; have q5 := hSw.2.2.2.2.2.1; have q6 := hSw.2.2.2.2.2.2; obtain ⟨qa0_0, qa0_1, qa0_2, qa0_3, qa0_4, qa0_5, qa0_6, qa0_7, qa0_8, qa0_9, qa0_10, qa0_11, qa0_12, qa0_f⟩ := id q0; go_simp; try (with_reducible rfl))
    simp only [List.set_cons_zero, List.set_cons_succ]
    refine U_take 7 35 6 0 0 (v := ?vr2_8) rfl (by kernel_rfl) (by kernel_rfl) hWr2 (by kernel_rfl) (by kernel_rfl) (by kernel_rfl) (by kernel_rfl) (by kernel_rfl) (by kernel_rfl) (fun _ _ _ _ h => h) (by kernel_rfl) ?hyr2_8 (by omega) hH ?_
    case hyr2_8 => (intro w' hSw; replace hSw := S2o0 hSw; (try dsimp only at hSw); have q0 := hSw.1; have q1 := hSw.2.1; have q2 := hSw.2.2.1; have q3 := hSw.2.2.2.1; have q4 := hSw.2.2.2.2.1; have q5 := hSw.2.2.2.2.2.1; have q6 := hSw.2.2.2.2.2.2; obtain ⟨qa0_0, qa0_1, qa0_2, qa0_3, qa0_4, qa0_5, qa0_6, qa0_7, qa0_8, qa0_9, qa0_10, qa0_11, qa0_12, qa0_f⟩ := id q0; go_simp; try (with_reducible rfl))
    simp only [List.set_cons_zero, List.set_cons_succ]
    refine U_take 8 36 5 0 0 (v := ?vr2_9) rfl (by kernel_rfl) (by kernel_rfl) hWr2 (by kernel_rfl) (by kernel_rfl) (by kernel_rfl) (by kernel_rfl) (by kernel_rfl) (by kernel_rfl) (fun _ _ _ _ h => h) (by kernel_rfl) ?hyr2_9 (by omega) hH ?_
    case hyr2_9 => (intro w' hSw; replace hSw := S2o0 hSw; (try dsimp only at hSw); have q0 := hSw.1; have q1 := hSw.2.1; have q2 := hSw.2.2.1; have q3 := hSw.2.2.2.1; have q4 := hSw.2.2.2.2.1; have q5 := hSw.2.2.2.2.2.1; have q6 := hSw.2.2.2.2.2.2; obtain ⟨qa0_0, qa0_1, qa0_2, qa0_3, qa0_4, qa0_5, qa0_6, qa0_7, qa0_8, qa0_9, qa0_10, qa0_11, qa0_12, qa0_f⟩ := id q0; go_simp; try (with_reducible rfl))
    simp only [List.set_cons_zero, List.set_cons_succ]
    refine U_take 10 38 4 0 0 (v := ?vr2_10) rfl (by kernel_rfl) (by kernel_rfl) hWr2 (by kernel_rfl) (by kernel_rfl) (by kernel_rfl) (by kernel_rfl) (by kernel_rfl) (by kernel_rfl) (fun _ _ _ _ h => h) (by kernel_rfl) ?hyr2_10 (by omega) hH ?_
    case hyr2_10 => (intro w' hSw; replace hSw := S2o0 hSw; (try dsimp only at hSw); have q0 := hSw.1; have q1 := hSw.2.1; have q2 := hSw.2.2.1; have q3 := hSw.2.2.2.1; have q4 := hSw.2.2.2.2.1; have q5 := hSw.2.2.2.2.2.1; have q6 := hSw.2.2.2.2.2.2; obtain ⟨qa0_0, qa0_1, qa0_2, qa0_3, qa0_4, qa0_5, qa0_6, qa0_7, qa0_8, qa0_9, qa0_10, qa0_11, qa0_12, qa0_f⟩ := id q0; go_simp; try (with_reducible rfl))
    simp only [List.set_cons_zero, List.set_cons_succ]
    refine wpAnyU_ready (rs := [9]) (by kernel_rfl) (by simp) ?_
    refine AllReadyU.cons 0 (by kernel_rfl) (o := _) rfl (fun K hK => ?_) AllReadyU.nil
    try clear hb
    have hG := hH
    replace hG := S2o0 hG; (try dsimp only at hG); have q0 := hG.1; have q1 := hG.2.1; have q2 := hG.2.2.1; have q3 := hG.2.2.2.1; have q4 := hG.2.2.2.2.1; have q5 := hG.2.2.2.2.2.1; have q6 := hG.2.2.2.2.2.2
    go_simp
    (go_at_call 62; refine (HPV.out _ _ _ _ q1).mono ?_; rintro e wn ⟨A3, n3, c3, rfl, hs3, hf3, hb⟩)
    refine hK.out _ _ ?hsr2_11 (fun hH2 => ?hrr2_11)
    case hsr2_11 => exact S2i0 (by have hG := hH; replace hG := S2o0 hG; (try dsimp only at hG); have q0 := hG.1; have q1 := hG.2.1; have q2 := hG.2.2.1; have q3 := hG.2.2.2.1; have q4 := hG.2.2.2.2.1; have q5 := hG.2.2.2.2.2.1; have q6 := hG.2.2.2.2.2.2; exact ⟨keepBd hb q0, keepSl hb q1, keepCell hb q2, keepCell hb q3, keepCell hb q4, keepCell hb q5, keepBelow hb q6⟩)
    clear hK K hH
    have hH := hH2
    clear hH2
    try simp only [Act.put, List.setIfInBounds_toArray, List.set_cons_zero, List.set_cons_succ]
    refine wpAnyU_ready (rs := [11]) (by kernel_rfl) (by simp) ?_
    refine AllReadyU.cons 0 (by kernel_rfl) (o := _) rfl (fun K hK => ?_) AllReadyU.nil
    try clear hb
    have hG := hH
    replace hG := S2o0 hG; (try dsimp only at hG); have q0 := hG.1; have q1 := hG.2.1; have q2 := hG.2.2.1; have q3 := hG.2.2.2.1; have q4 := hG.2.2.2.2.1; have q5 := hG.2.2.2.2.2.1; have q6 := hG.2.2.2.2.2.2
    go_simp
    (go_at_call 68; refine (same_calls b' _ _ _ _ _ _ l _ hs3 q1).mono ?_; rintro e wn ⟨rfl, hb⟩)
    refine hK.out _ _ ?hsr2_12 (fun hH2 => ?hrr2_12)
    case hsr2_12 => exact S2i0 (by have hG := hH; replace hG := S2o0 hG; (try dsimp only at hG); have q0 := hG.1; have q1 := hG.2.1; have q2 := hG.2.2.1; have q3 := hG.2.2.2.1; have q4 := hG.2.2.2.2.1; have q5 := hG.2.2.2.2.2.1; have q6 := hG.2.2.2.2.2.2; exact ⟨keepBd hb q0, keepSl hb q1, keepCell hb q2, keepCell hb q3, keepCell hb q4, keepCell hb q5, keepBelow hb q6⟩)
    clear hK K hH
    have hH := hH2
    clear hH2
    try simp only [Act.put, List.setIfInBounds_toArray, List.set_cons_zero, List.set_cons_succ]
    refine U_take 12 40 1 0 0 (v := ?vr2_13) rfl (by kernel_rfl) (by kernel_rfl) hWr2 (by kernel_rfl) (by kernel_rfl) (by kernel_rfl) (by kernel_rfl) (by kernel_rfl) (by kernel_rfl) (fun _ _ _ _ h => h) (by kernel_rfl) ?hyr2_13 (by omega) hH ?_
    case hyr2_13 => (intro w' hSw; clear hSw; go_simp; try (with_reducible rfl))
    simp only [List.set_cons_zero, List.set_cons_succ]
    refine U_take 13 8 0 0 0 (v := ?vr2_14) rfl (by kernel_rfl) (by kernel_rfl) hWr2 (by kernel_rfl) (by kernel_rfl) (by kernel_rfl) (by kernel_rfl) (by kernel_rfl) (by kernel_rfl) (fun _ _ _ _ h => h) (by kernel_rfl) ?hyr2_14 (by omega) hH ?_
    case hyr2_14 => (intro w' hSw; clear hSw; go_simp; try (with_reducible rfl))
    simp only [List.set_cons_zero, List.set_cons_succ]
    refine wpAnyU_done (by kernel_rfl) ?_ _ _
    refine NoPanic.normal ?_
    clear hWr2
    replace hH := S2o0 hH
    (try dsimp only at hH)
    have r0 := hH.1
    have r1 := hH.2.1
    have r2 := hH.2.2.1
    have r3 := hH.2.2.2.1
    have r4 := hH.2.2.2.2.1
    have r5 := hH.2.2.2.2.2.1
    have r6 := hH.2.2.2.2.2.2
    clear hH r0 r1 r2 r3 r4 r5
    go_wp2
    go_returns
    exact ret_bool (by simp) r6

end Go.Proofs.Ytjoodpjndpdjnaa
