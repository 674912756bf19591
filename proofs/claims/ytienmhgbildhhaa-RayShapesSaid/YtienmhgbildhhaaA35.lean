/- Parts of a proof: contracts and laws. -/
import Derived.Test.YtienmhgbildhhaaA34
namespace Go.Proofs.Ytienmhgbildhhaa
section
set_option linter.unusedVariables false
set_option linter.unusedSimpArgs false
open Go.RowKit

structure PlAt (w : World) (g : Nat) (b : Bd) (l : List V) (k : Nat) : Prop where
  lt : g < w.heap.size
  x : ∀ j, j < k → w.cell? ⟨g, j * 2, none⟩ = some (.int .i64 (wX b (px l j) (py l j)))
  y : ∀ j, j < k → w.cell? ⟨g, j * 2 + 1, none⟩ = some (.int .i64 (wY b (px l j) (py l j)))
  c : ∀ j, j < l.length * 2 → ∃ v, w.cell? ⟨g, j, none⟩ = some v
  free : ∀ j, w.frozen? ⟨g, j, none⟩ = false
theorem keepPl {w w' : World} {g : Nat} {b : Bd} {l : List V} {k : Nat} (hb : Below w.heap.size w w') (h : PlAt w g b l k) : PlAt w' g b l k :=
  ⟨by have := hb.size; have := h.lt; omega, fun j hj => keepCell hb (h.x j hj), fun j hj => keepCell hb (h.y j hj), fun j hj => by obtain ⟨v, hv⟩ := h.c j hj; exact ⟨v, keepCell hb hv⟩, fun j => ((bcell hb).2 _ _ h.lt).trans (h.free j)⟩
theorem PlAt.drew {w : World} {g : Nat} {b : Bd} {l : List V} {k : Nat} (h : PlAt w g b l k) : PlAt w.drew g b l k := ⟨h.lt, h.x, h.y, h.c, h.free⟩
theorem PlAt.set {w : World} {g : Nat} {b : Bd} {l : List V} {k : Nat} (h : PlAt w g b l k) (hk : k < l.length) :
    PlAt ((w.setCell ⟨g, k * 2, none⟩ (.int .i64 (wX b (px l k) (py l k)))).setCell ⟨g, k * 2 + 1, none⟩ (.int .i64 (wY b (px l k) (py l k)))) g b l (k + 1) := by
  obtain ⟨z0, y0⟩ := h.c (k * 2) (by omega)
  obtain ⟨z1, y1⟩ := h.c (k * 2 + 1) (by omega)
  refine ⟨by simpa using h.lt, fun j hj => ?_, fun j hj => ?_, fun j hj => ?_, fun j => by rw [World.frozen?_setCell, World.frozen?_setCell]; exact h.free j⟩
  · by_cases e : j = k
    · subst e; go_simp
    · have := h.x j (by omega)
      have n1 : ¬ (k * 2 = j * 2) := by omega
      have n2 : ¬ (k * 2 + 1 = j * 2) := by omega
      have n3 : ¬ (j * 2 = k * 2) := by omega
      have n4 : ¬ (j * 2 = k * 2 + 1) := by omega
      go_simp
  · by_cases e : j = k
    · subst e; go_simp
    · have := h.y j (by omega)
      have n1 : ¬ (k * 2 = j * 2 + 1) := by omega
      have n2 : ¬ (k * 2 + 1 = j * 2 + 1) := by omega
      have n3 : ¬ (j * 2 + 1 = k * 2) := by omega
      have n4 : ¬ (j * 2 + 1 = k * 2 + 1) := by omega
      go_simp
  · obtain ⟨v, hv⟩ := h.c j hj
    by_cases e : k * 2 + 1 = j
    · subst e; exact ⟨.int .i64 (wY b (px l k) (py l k)), by go_simp⟩
    · by_cases e2 : k * 2 = j
      · subst e2; exact ⟨.int .i64 (wX b (px l k) (py l k)), by go_simp⟩
      · exact ⟨v, by go_simp⟩
theorem px_placeL {b : Bd} {l : List V} {j : Nat} (h : j < l.length) : px (placeL b l) j = wX b (px l j) (py l j) := by simp [px, py, placeL, h]
theorem py_placeL {b : Bd} {l : List V} {j : Nat} (h : j < l.length) : py (placeL b l) j = wY b (px l j) (py l j) := by simp [px, py, placeL, h]
set_option maxRecDepth 100000 in
set_option maxHeartbeats 4000000 in
theorem rplaced_calls (b : Bd) (A : Option Addr) (n c : Nat) (l : List V) (w : World) (hE : bodyE b l = 0) (hS : Sl w A n c l) : Calls Try.prog 44 #[bodyV b A n c] w (RetVecs (placeL b l) w) := by
  have hn := hS.len
  subst hn
  obtain ⟨hsh, hnu⟩ := bodyE_zero hE
  have hang := (numE_zero hnu).2.2.2.1
  obtain ⟨h8, h3, _, _⟩ := checkE_zero (shapeE_zero hsh)
  obtain ⟨W, hW⟩ : ∃ W, W = w.alloc (.cells #[.int .i64 b.px, .int .i64 b.py, .int .i64 b.vx, .int .i64 b.vy, .int .i64 b.ang, .int .i64 b.spin, .int .i64 b.mass, .int .i64 b.iner, .int .i64 b.bounce, .int .i64 b.rub, .slice A l.length c, .bool b.asleep, .int .i64 b.calm] 27) := ⟨_, rfl⟩
  have HK0 := hid (show BdAt W w.heap.size b A l.length c by rw [hW]; exact BdAt.here w b A l.length c _)
  have hB0 : Below w.heap.size w W := by rw [hW]; go_grown
  have HS0 := hid hS
  have hmk : ∀ w : World, (Instr.makeSlice 25 (.int .i64 (l.length : Int)) (.int .i64 (l.length : Int))).run Try.prog w = .ok (.slice (some ⟨w.heap.size, 0, none⟩) l.length l.length) (w.alloc (.cells (Array.replicate (l.length * 2) (.int .i64 0)) 24)) := by
    have hl : l.length = 3 ∨ l.length = 4 ∨ l.length = 5 ∨ l.length = 6 ∨ l.length = 7 ∨ l.length = 8 := by omega
    intro w
    generalize l.length = m at hl ⊢
    rcases hl with rfl | rfl | rfl | rfl | rfl | rfl <;> kernel_rfl
  obtain ⟨k0, k1, k2, k3, k4, k5, k6, k7, k8, k9, k10, k11, k12, kf⟩ := HK0.out
  clear hE hsh hnu hS
  go_enter Try.func44, Try.ntmps44
  go_wp2_with fail
  rw [← hW]
  have hWs : W.heap.size = w.heap.size + 1 := by rw [hW]; simp
  obtain ⟨g, hg⟩ : ∃ g, g = w.heap.size + 1 := ⟨_, rfl⟩
  have hgw : w.heap.size < g := by omega
  obtain ⟨w1, hw1⟩ : ∃ w1, w1 = W.alloc (.cells (Array.replicate (l.length * 2) (.int .i64 0)) 24) := ⟨_, rfl⟩
  have HK1 := hid (show BdAt w1 w.heap.size b A l.length c by rw [hw1]; exact HK0.out.alloc _)
  have hB1 : Below w.heap.size w w1 := by rw [hw1]; exact hB0.alloc hB0.size _
  have HP1 := hid (show PlAt w1 g b l 0 by
    rw [hw1, hg, ← hWs]
    refine ⟨by simp, fun _ h => absurd h (by omega), fun _ h => absurd h (by omega), fun j hj => ⟨.int .i64 0, ?_⟩, fun j => by go_simp⟩
    rw [cell_of_row _ _ j _ _ (0, 0) (heap_alloc_last W _)]
    simp [hj])
  rw [← hg, ← hw1]
  clear hW hg hw1 hWs hB0 HK0 hmk k0 k1 k2 k3 k4 k5 k6 k7 k8 k9 k10 k11 k12 kf
  go_loopw [11] (fun i wr => ∃ k : Nat, k ≤ l.length ∧ i = .int .i64 k ∧ PlAt wr g b l k ∧ BdAt wr w.heap.size b A l.length c ∧ Below w.heap.size w wr) (fun i _ => l.length - (intOf i).toNat)
  case atStart => exact ⟨0, Nat.zero_le _, rfl, HP1.out, HK1.out, hB1⟩
  case round =>
    clear HK1 HP1 hB1
    obtain ⟨k, hk, rfl, hpl, hbd, hB⟩ := hrel
    obtain ⟨wo, rfl⟩ : ∃ wo : World, wo = wr := ⟨_, rfl⟩
    have HP := hid hpl
    have HK := hid hbd
    clear hpl hbd
    by_cases hlt : k < l.length
    · obtain ⟨ba, off, hA, hC⟩ := (HS0.out.below hB).at_ (by intro h; subst h; simp at hlt)
      subst hA
      have x0 := hC.x k hlt
      have x1 := hC.y k hlt
      have hlt' : (k : Int) < (l.length : Int) := by omega
      clear hC
      go_upto_region 5 with fail
      refine wp_region_noPanic ?_
      refine wp_region_U (S := (S2 (fun w' => BdAt w' w.heap.size b (some ⟨ba, off, none⟩) l.length c ∧ PlAt w' g b l k ∧ w'.cell? ⟨ba, off + k * 2, none⟩ = some (.int .i64 (px l k)) ∧ w'.cell? ⟨ba, off + k * 2 + 1, none⟩ = some (.int .i64 (py l k)) ∧ Below w.heap.size w w'))) (T := (fun j => [0, 0, 0, 0, 0, 0, 0, 0, 0, 0, 1].getD j 0)) (by kernel_rfl) (S2i0 ⟨HK.out.drew, HP.out.drew, x0, x1, hB.drew⟩) (fun hH => ?_)
      have hWr1 : Weaker (S2 (fun w' => BdAt w' w.heap.size b (some ⟨ba, off, none⟩) l.length c ∧ PlAt w' g b l k ∧ w'.cell? ⟨ba, off + k * 2, none⟩ = some (.int .i64 (px l k)) ∧ w'.cell? ⟨ba, off + k * 2 + 1, none⟩ = some (.int .i64 (py l k)) ∧ Below w.heap.size w w')) := weaker2 _
      refine U_take 0 14 10 0 0 (v := ?vr1_1) rfl (by kernel_rfl) (by kernel_rfl) hWr1 (by kernel_rfl) (by kernel_rfl) (by kernel_rfl) (by kernel_rfl) (by kernel_rfl) (by kernel_rfl) (fun _ _ _ _ h => h) (by kernel_rfl) ?hyr1_1 (by omega) hH ?_
      case hyr1_1 => (intro w' hSw; clear hSw; go_simp; try (with_reducible rfl))
      simp only [List.set_cons_zero, List.set_cons_succ]
      refine U_take 1 15 9 0 0 (v := ?vr1_2) rfl (by kernel_rfl) (by kernel_rfl) hWr1 (by kernel_rfl) (by kernel_rfl) (by kernel_rfl) (by kernel_rfl) (by kernel_rfl) (by kernel_rfl) (fun _ _ _ _ h => h) (by kernel_rfl) ?hyr1_2 (by omega) hH ?_
      case hyr1_2 => (intro w' hSw; clear hSw; go_simp; try (with_reducible rfl))
      simp only [List.set_cons_zero, List.set_cons_succ]
      refine U_take 2 16 8 0 0 (v := ?vr1_3) rfl (by kernel_rfl) (by kernel_rfl) hWr1 (by kernel_rfl) (by kernel_rfl) (by kernel_rfl) (by kernel_rfl) (by kernel_rfl) (by kernel_rfl) (fun _ _ _ _ h => h) (by kernel_rfl) ?hyr1_3 (by omega) hH ?_
      case hyr1_3 => (intro w' hSw; replace hSw := S2o0 hSw; (try dsimp only at hSw); have q0 := hSw.1; have q1 := hSw.2.1; have q2 := hSw.2.2.1; have q3 := hSw.2.2.2.1; have q4 := hSw.2.2.2.2; obtain ⟨qa0_0, qa0_1, qa0_2, qa0_3, qa0_4, qa0_5, qa0_6, qa0_7, qa0_8, qa0_9, qa0_10, qa0_11, qa0_12, qa0_f⟩ := id q0; go_simp; try (with_reducible rfl))
      simp only [List.set_cons_zero, List.set_cons_succ]
      refine U_take 3 17 7 0 0 (v := ?vr1_4) rfl (by kernel_rfl) (by kernel_rfl) hWr1 (by kernel_rfl) (by kernel_rfl) (by kernel_rfl) (by kernel_rfl) (by kernel_rfl) (by kernel_rfl) (fun _ _ _ _ h => h) (by kernel_rfl) ?hyr1_4 (by omega) hH ?_
      case hyr1_4 => (intro w' hSw; clear hSw; go_simp; try (with_reducible rfl))
      simp only [List.set_cons_zero, List.set_cons_succ]
      refine U_take 4 18 6 0 0 (v := ?vr1_5) rfl (by kernel_rfl) (by kernel_rfl) hWr1 (by kernel_rfl) (by kernel_rfl) (by kernel_rfl) (by kernel_rfl) (by kernel_rfl) (by kernel_rfl) (fun _ _ _ _ h => h) (by kernel_rfl) ?hyr1_5 (by omega) hH ?_
      case hyr1_5 => (intro w' hSw; replace hSw := S2o0 hSw; (try dsimp only at hSw); have q0 := hSw.1; have q1 := hSw.2.1; have q2 := hSw.2.2.1; have q3 := hSw.2.2.2.1; have q4 := hSw.2.2.2.2; obtain ⟨qa0_0, qa0_1, qa0_2, qa0_3, qa0_4, qa0_5, qa0_6, qa0_7, qa0_8, qa0_9, qa0_10, qa0_11, qa0_12, qa0_f⟩ := id q0; go_simp; try (with_reducible rfl))
      simp only [List.set_cons_zero, List.set_cons_succ]
      refine U_take 5 19 5 0 0 (v := ?vr1_6) rfl (by kernel_rfl) (by kernel_rfl) hWr1 (by kernel_rfl) (by kernel_rfl) (by kernel_rfl) (by kernel_rfl) (by kernel_rfl) (by kernel_rfl) (fun _ _ _ _ h => h) (by kernel_rfl) ?hyr1_6 (by omega) hH ?_
      case hyr1_6 => (intro w' hSw; clear hSw; go_simp; try (with_reducible rfl))
      simp only [List.set_cons_zero, List.set_cons_succ]
      refine U_take 6 20 4 0 0 (v := ?vr1_7) rfl (by kernel_rfl) (by kernel_rfl) hWr1 (by kernel_rfl) (by kernel_rfl) (by kernel_rfl) (by kernel_rfl) (by kernel_rfl) (by kernel_rfl) (fun _ _ _ _ h => h) (by kernel_rfl) ?hyr1_7 (by omega) hH ?_
      case hyr1_7 => (intro w' hSw; clear hSw; go_simp; try (with_reducible rfl))
      simp only [List.set_cons_zero, List.set_cons_succ]
      refine U_take 7 21 3 0 0 (v := ?vr1_8) rfl (by kernel_rfl) (by kernel_rfl) hWr1 (by kernel_rfl) (by kernel_rfl) (by kernel_rfl) (by kernel_rfl) (by kernel_rfl) (by kernel_rfl) (fun _ _ _ _ h => h) (by kernel_rfl) ?hyr1_8 (by omega) hH ?_
      case hyr1_8 => (intro w' hSw; replace hSw := S2o0 hSw; (try dsimp only at hSw); have q0 := hSw.1; have q1 := hSw.2.1; have q2 := hSw.2.2.1; have q3 := hSw.2.2.2.1; have q4 := hSw.2.2.2.2; obtain ⟨qa0_0, qa0_1, qa0_2, qa0_3, qa0_4, qa0_5, qa0_6, qa0_7, qa0_8, qa0_9, qa0_10, qa0_11, qa0_12, qa0_f⟩ := id q0; go_simp; try (with_reducible rfl))
      simp only [List.set_cons_zero, List.set_cons_succ]
      refine wpAnyU_ready (rs := [8]) (by kernel_rfl) (by simp) ?_
      refine AllReadyU.cons 0 (by kernel_rfl) (o := _) rfl (fun K hK => ?_) AllReadyU.nil
      try clear hb
      go_simp
      (go_at_call 57; refine (rworld_calls b (some ⟨ba, off, none⟩) l.length c (px l k) (py l k) hang.1 (by omega) _).mono ?_; rintro e wn ⟨rfl, hb⟩)
      refine hK.out _ _ ?hsr1_9 (fun hH2 => ?hrr1_9)
      case hsr1_9 => exact S2i0 (by have hG := hH; replace hG := S2o0 hG; (try dsimp only at hG); have q0 := hG.1; have q1 := hG.2.1; have q2 := hG.2.2.1; have q3 := hG.2.2.2.1; have q4 := hG.2.2.2.2; exact ⟨keepBd hb q0, keepPl hb q1, keepCell hb q2, keepCell hb q3, keepBelow hb q4⟩)
      clear hK K hH
      have hH := hH2
      clear hH2
      try simp only [Act.put, List.setIfInBounds_toArray, List.set_cons_zero, List.set_cons_succ]
      refine U_take 9 23 1 0 0 (v := ?vr1_10) rfl (by kernel_rfl) (by kernel_rfl) hWr1 (by kernel_rfl) (by kernel_rfl) (by kernel_rfl) (by kernel_rfl) (by kernel_rfl) (by kernel_rfl) (fun _ _ _ _ h => h) (by kernel_rfl) ?hyr1_10 (by omega) hH ?_
      case hyr1_10 => (intro w' hSw; clear hSw; go_simp; try (with_reducible rfl))
      simp only [List.set_cons_zero, List.set_cons_succ]
      refine wpAnyU_ready (rs := [10]) (by kernel_rfl) (by simp) ?_
      refine AllReadyU.cons 1 (by kernel_rfl) (o := _) rfl (fun K hK => ?_) AllReadyU.nil
      have hG := hH
      replace hG := S2o0 hG; (try dsimp only at hG); have q0 := hG.1; have q1 := hG.2.1; have q2 := hG.2.2.1; have q3 := hG.2.2.2.1; have q4 := hG.2.2.2.2
      obtain ⟨z0, y0⟩ := q1.c (k * 2) (by omega)
      obtain ⟨z1, y1⟩ := q1.c (k * 2 + 1) (by omega)
      have yf := q1.free
      go_simp
      refine hK.out _ _ ?hsr1_11 (fun hH2 => ?hrr1_11)
      case hsr1_11 => exact S2i1
      clear hK K hH
      have hH := hH2
      clear hH2
      try simp only [Act.put, List.setIfInBounds_toArray, List.set_cons_zero, List.set_cons_succ]
      refine wpAnyU_done (by kernel_rfl) ?_ _ _
      refine NoPanic.normal ?_
      have HPn := hid (q1.set hlt)
      have HKn := hid ((q0.away g (k * 2) (.int .i64 (wX b (px l k) (py l k))) (by omega)).away g (k * 2 + 1) (.int .i64 (wY b (px l k) (py l k))) (by omega))
      have hBn : Below w.heap.size w ((wn.setCell ⟨g, k * 2, none⟩ (.int .i64 (wX b (px l k) (py l k)))).setCell ⟨g, k * 2 + 1, none⟩ (.int .i64 (wY b (px l k) (py l k)))) := by go_grown
      clear hH hG q0 q1 q2 q3 q4 y0 y1 yf x0 x1
      go_wp2
      go_roundw
      case rel => exact ⟨k + 1, hlt, by go_num, HPn.out, HKn.out, hBn⟩
      case measure => simp [intOf]; omega
    · have hge : l.length ≤ k := by omega
      have hke : k = l.length := by omega
      subst hke
      have H2 : Hid (Sl wo (some ⟨g, 0, none⟩) l.length l.length (placeL b l)) :=
        ⟨(placeL_len b l).symm, Nat.le_refl _, by omega, fun _ => ⟨g, 0, rfl, HP.out.lt, fun j hj => by rw [placeL_len] at hj; rw [Nat.zero_add, px_placeL hj]; exact HP.out.x j hj, fun j hj => by rw [placeL_len] at hj; rw [Nat.zero_add, py_placeL hj]; exact HP.out.y j hj⟩⟩
      clear HP HK
      go_wp2
      go_returns
      exact ⟨_, _, _, rfl, H2.out, fun b off e => by cases e; omega, hB⟩
end
end Go.Proofs.Ytienmhgbildhhaa
