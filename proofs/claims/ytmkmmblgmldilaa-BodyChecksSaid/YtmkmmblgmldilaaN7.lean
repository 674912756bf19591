/- The walk of BodyChecks. -/
import Derived.Test.YtmkmmblgmldilaaK4
import Derived.Test.YtmkmmblgmldilaaN5
import Derived.Test.YtmkmmblgmldilaaN6
namespace Go.Proofs.Ytmkmmblgmldilaa
set_option linter.unusedVariables false
set_option linter.unusedSimpArgs false
open Go.RowKit

theorem mulF_comm (a b : Int) : mulF a b = mulF b a := by unfold mulF mdF; rw [Int.mul_comm (clampF a)]
theorem angF_mod (a : Int) : angF a = a % 65536 := by
  unfold angF
  have e := Int.tmod_add_mul_tdiv a 65536
  have t1 := Int.tmod_lt_of_pos a (show (0 : Int) < 65536 by omega)
  have t2 := Int.lt_tmod_of_pos a (show (0 : Int) < 65536 by omega)
  rw [Int.tmod_eq_emod_of_nonneg (show 0 ≤ a.tmod 65536 + 65536 by omega)]
  omega
theorem moveB_step {b : Bd} {l : List V} {s : Int} (hE : bodyE b l = 0) (h0 : 0 ≤ s) (h1 : s ≤ 65536) : moveB b l s = stepB b s := by
  unfold moveB stepB
  by_cases hc : b.mass = 0 ∨ b.asleep = true
  · rw [if_pos (by rcases hc with h | h; exact .inr (.inl h); exact .inr (.inr (.inl h))), if_pos hc]
  · rw [if_neg (by rintro (h | h | h | h | h); exact h hE; exact hc (.inl h); exact hc (.inr h); omega; omega), if_neg hc, angF_mod, mulF_comm b.vx, mulF_comm b.vy, mulF_comm b.spin]
theorem Sl.nil_of {w w' : World} {A : Option Addr} {n c : Nat} {l : List V} (h : Sl w A n c l) (hl : l = []) : Sl w' A n c l := ⟨h.len, h.cap, h.big, fun hne => absurd hl hne⟩
theorem Sl.setBd2 {w : World} {A : Option Addr} {n c g : Nat} {l : List V} (h : Sl w A n c l) (b : Bd) (A' : Option Addr) (n' c' : Nat) (hne : l ≠ [] → ∀ bx off, A = some ⟨bx, off, none⟩ → bx ≠ g) : Sl (Go.Proofs.Ytmkmmblgmldilaa.setBd w g b A' n' c') A n c l := by
  by_cases hl : l = []
  · exact h.nil_of hl
  · exact h.setBd b (hne hl)
theorem BdAt.setBd_off {w : World} {g k : Nat} {b : Bd} {A : Option Addr} {n c : Nat} (h : BdAt w g b A n c) (hne : k ≠ g) (b' : Bd) (A' : Option Addr) (n' c' : Nat) : BdAt (Go.Proofs.Ytmkmmblgmldilaa.setBd w k b' A' n' c') g b A n c := by
  unfold Go.Proofs.Ytmkmmblgmldilaa.setBd
  exact ((((((((((((h.away k 0 _ hne).away k 1 _ hne).away k 2 _ hne).away k 3 _ hne).away k 4 _ hne).away k 5 _ hne).away k 6 _ hne).away k 7 _ hne).away k 8 _ hne).away k 9 _ hne).away k 10 _ hne).away k 11 _ hne).away k 12 _ hne

set_option maxRecDepth 100000 in
set_option maxHeartbeats 8000000 in
theorem bodyChecks_walk (b : Bd) (A : Option Addr) (n c : Nat) (l : List V) (s : Int) (w : World) (hS : Sl w A n c l) (hl : l.length ≤ 8796093022208) :
    Calls Try.prog 9 #[bodyV b A n c, .int .i64 s] w (Ret (.bool true) w) := by
  obtain ⟨W, hW⟩ : ∃ W, W = w.alloc (.cells #[.int .i64 b.px, .int .i64 b.py, .int .i64 b.vx, .int .i64 b.vy, .int .i64 b.ang, .int .i64 b.spin, .int .i64 b.mass, .int .i64 b.iner, .int .i64 b.bounce, .int .i64 b.rub, .slice A n c, .bool b.asleep, .int .i64 b.calm] 39) := ⟨_, rfl⟩
  have HK0 := hid (show BdAt W w.heap.size b A n c by rw [hW]; exact BdAt.here w b A n c _)
  have hB0 : Below w.heap.size w W := by rw [hW]; go_grown
  have HS0 := hid (hS.below hB0)
  have HSW := hid hS
  clear hS
  obtain ⟨k0, k1, k2, k3, k4, k5, k6, k7, k8, k9, k10, k11, k12, kf⟩ := HK0.out
  go_enter Try.func9, Try.ntmps9
  go_wp2_with fail
  rw [← hW]
  clear hW
  refine (rbody_calls b A n c l _ HS0.out).mono ?_
  rintro e w0 ⟨rfl, hb0⟩
  clear k0 k1 k2 k3 k4 k5 k6 k7 k8 k9 k10 k11 k12 kf
  have HK1 := hid (keepBd hb0 HK0.out)
  have HS1 := hid (keepSl hb0 HS0.out)
  have hB1 := keepBelow hb0 hB0
  clear hb0 hB0 HK0 HS0
  obtain ⟨E, hEE⟩ : ∃ E, E = bodyE b l := ⟨_, rfl⟩
  have HEE := hid hEE
  rw [← hEE]
  clear hEE
  go_wp2_with fail
  refine (bodyBegun_calls _).mono ?_
  rintro e w1 ⟨rfl, hb1⟩
  have HKa := hid (keepBd hb1 HK1.out)
  have HSa := hid (keepSl hb1 HS1.out)
  have hBa := keepBelow hb1 hB1
  clear hb1 hB1 HK1 HS1
  obtain ⟨k0, k1, k2, k3, k4, k5, k6, k7, k8, k9, k10, k11, k12, kf⟩ := HKa.out
  go_wp2_with fail
  refine (bcheck_calls b A n c l _ HSa.out).mono ?_
  rintro e w2 ⟨rfl, hb2⟩
  rw [← HEE.out]
  clear k0 k1 k2 k3 k4 k5 k6 k7 k8 k9 k10 k11 k12 kf
  have HK2 := hid (keepBd hb2 HKa.out)
  have HS2 := hid (keepSl hb2 HSa.out)
  have hB2 := keepBelow hb2 hBa
  clear hb2 hBa HKa HSa
  obtain ⟨x, hx⟩ : ∃ x, x = moveB b l s := ⟨_, rfl⟩
  have HXX := hid hx
  have HMV : Hid (∀ (w : World) (A : Option Addr) (n c : Nat), Sl w A n c l → Calls Try.prog 53 #[bodyV b A n c, .int .i64 s] w (RetBody x l w)) := fun w A n c h => by rw [hx]; exact move_calls b A n c l s w h hl
  clear hx
  go_upto_region 4 with fail
  go_cut [6, 7] from 18 to 22 (fun t u wx => ∃ gx A2 n2 c2 A3 n3 c3, t = .pointer (some ⟨gx, 0, none⟩) ∧ u = .slice A3 n3 c3 ∧ w.heap.size < gx ∧ BdAt wx gx x A2 n2 c2 ∧ Sl wx A2 n2 c2 l ∧ Sl wx A3 n3 c3 (placeR b l) ∧ (placeR b l = [] → A3 = none) ∧ BdAt wx w.heap.size b A n c ∧ Sl wx A n c l ∧ Below w.heap.size w wx)
  case first =>
    refine wp_region_noPanic ?_
    refine wp_region_U (S := (S2 (fun w' => BdAt w' w.heap.size b A n c ∧ Sl w' A n c l ∧ Below w.heap.size w w'))) (T := (fun j => [0, 0, 0, 0, 0, 0, 1].getD j 0)) (by kernel_rfl) (S2i0 ⟨HK2.out.drew, HS2.out.drew', hB2.drew⟩) (fun hH => ?_)
    have hWr1 : Weaker (S2 (fun w' => BdAt w' w.heap.size b A n c ∧ Sl w' A n c l ∧ Below w.heap.size w w')) := weaker2 _
    refine U_take 0 18 7 0 0 (v := ?vr1_1) rfl (by kernel_rfl) (by kernel_rfl) hWr1 (by kernel_rfl) (by kernel_rfl) (by kernel_rfl) (by kernel_rfl) (by kernel_rfl) (by kernel_rfl) (fun _ _ _ _ h => h) (by kernel_rfl) ?hyr1_1 (by omega) hH ?_
    case hyr1_1 => (intro w' hSw; replace hSw := S2o0 hSw; (try dsimp only at hSw); have q0 := hSw.1; have q1 := hSw.2.1; have q2 := hSw.2.2; obtain ⟨qa0_0, qa0_1, qa0_2, qa0_3, qa0_4, qa0_5, qa0_6, qa0_7, qa0_8, qa0_9, qa0_10, qa0_11, qa0_12, qa0_f⟩ := id q0; go_simp; try (with_reducible rfl))
    simp only [List.set_cons_zero, List.set_cons_succ]
    refine U_take 1 19 6 0 0 (v := ?vr1_2) rfl (by kernel_rfl) (by kernel_rfl) hWr1 (by kernel_rfl) (by kernel_rfl) (by kernel_rfl) (by kernel_rfl) (by kernel_rfl) (by kernel_rfl) (fun _ _ _ _ h => h) (by kernel_rfl) ?hyr1_2 (by omega) hH ?_
    case hyr1_2 => (intro w' hSw; clear hSw; go_simp; try (with_reducible rfl))
    simp only [List.set_cons_zero, List.set_cons_succ]
    refine U_take 3 21 5 0 0 (v := ?vr1_3) rfl (by kernel_rfl) (by kernel_rfl) hWr1 (by kernel_rfl) (by kernel_rfl) (by kernel_rfl) (by kernel_rfl) (by kernel_rfl) (by kernel_rfl) (fun _ _ _ _ h => h) (by kernel_rfl) ?hyr1_3 (by omega) hH ?_
    case hyr1_3 => (intro w' hSw; replace hSw := S2o0 hSw; (try dsimp only at hSw); have q0 := hSw.1; have q1 := hSw.2.1; have q2 := hSw.2.2; obtain ⟨qa0_0, qa0_1, qa0_2, qa0_3, qa0_4, qa0_5, qa0_6, qa0_7, qa0_8, qa0_9, qa0_10, qa0_11, qa0_12, qa0_f⟩ := id q0; go_simp; try (with_reducible rfl))
    simp only [List.set_cons_zero, List.set_cons_succ]
    refine wpAnyU_ready (rs := [2, 5]) (by kernel_rfl) (by simp) ?_
    refine AllReadyU.cons 0 (by kernel_rfl) (o := _) rfl (fun K hK => ?_) ?_
    · try clear hb
      have hG := hH
      replace hG := S2o0 hG; (try dsimp only at hG); have q0 := hG.1; have q1 := hG.2.1; have q2 := hG.2.2
      go_simp
      (go_at_call 53; refine (HMV.out _ _ _ _ q1).mono ?_; rintro e wn ⟨A2, n2, c2, rfl, hs2, hf2, hb⟩)
      refine hK.out _ _ ?hsr1_4 (fun hH2 => ?hrr1_4)
      case hsr1_4 => exact S2i0 (by have hG := hH; replace hG := S2o0 hG; (try dsimp only at hG); have q0 := hG.1; have q1 := hG.2.1; have q2 := hG.2.2; exact ⟨keepBd hb q0, keepSl hb q1, keepBelow hb q2⟩)
      clear hK K hH
      have hH := hH2
      clear hH2
      try simp only [Act.put, List.setIfInBounds_toArray, List.set_cons_zero, List.set_cons_succ]
      refine wpAnyU_ready (rs := [4, 5]) (by kernel_rfl) (by simp) ?_
      refine AllReadyU.cons 0 (by kernel_rfl) (o := _) rfl (fun K hK => ?_) ?_
      · try clear hb
        have hG := hH
        replace hG := S2o0 hG; (try dsimp only at hG); have q0 := hG.1; have q1 := hG.2.1; have q2 := hG.2.2
        go_simp
        (go_at_call 48; refine (bplace_calls b A n c l _ q1).mono ?_; rintro e wn ⟨A3, n3, c3, rfl, hs3, hnil, hf3, hb⟩; replace hs2 := Sl.below hs2 hb)
        refine hK.out _ _ ?hsr1_5 (fun hH2 => ?hrr1_5)
        case hsr1_5 => exact S2i0 (by have hG := hH; replace hG := S2o0 hG; (try dsimp only at hG); have q0 := hG.1; have q1 := hG.2.1; have q2 := hG.2.2; exact ⟨keepBd hb q0, keepSl hb q1, keepBelow hb q2⟩)
        clear hK K hH
        have hH := hH2
        clear hH2
        try simp only [Act.put, List.setIfInBounds_toArray, List.set_cons_zero, List.set_cons_succ]
        refine wpAnyU_ready (rs := [5]) (by kernel_rfl) (by simp) ?_
        refine AllReadyU.cons 0 (by kernel_rfl) (o := _) rfl (fun K hK => ?_) AllReadyU.nil
        try clear hb
        have hG := hH
        replace hG := S2o0 hG; (try dsimp only at hG); have q0 := hG.1; have q1 := hG.2.1; have q2 := hG.2.2
        go_simp
        refine hK.out _ _ ?hsr1_6 (fun hH2 => ?hrr1_6)
        case hsr1_6 => exact S2i0 (by have hG := hH; replace hG := S2o0 hG; (try dsimp only at hG); have q0 := hG.1; have q1 := hG.2.1; have q2 := hG.2.2; exact ⟨q0.alloc _, Sl.alloc q1 _, q2.alloc q2.size _⟩)
        clear hK K hH
        have hH := hH2
        clear hH2
        try simp only [Act.put, List.setIfInBounds_toArray, List.set_cons_zero, List.set_cons_succ]
        have hT : BdZ (wn.alloc (.cells #[.int .i64 0, .int .i64 0, .int .i64 0, .int .i64 0, .int .i64 0, .int .i64 0, .int .i64 0, .int .i64 0, .int .i64 0, .int .i64 0, .slice none 0 0, .bool false, .int .i64 0] 39)) wn.heap.size := by have := BdAt.here wn bd0 none 0 0 39; simp only [bd0] at this; exact BdZ.of this
        obtain ⟨gT, hgT⟩ : ∃ g, g = wn.heap.size := ⟨_, rfl⟩
        have hlT : w.heap.size < gT := by rw [hgT]; exact q0.lt
        have hx2 : (l ≠ [] → ∀ bx off, A2 = some ⟨bx, off, none⟩ → bx ≠ gT) := fun hne bx off e => by obtain ⟨b2, off2, e2, hc2⟩ := hs2.at_ hne; rw [e] at e2; cases e2; have := hc2.lt; omega
        have hx3 : (placeR b l ≠ [] → ∀ bx off, A3 = some ⟨bx, off, none⟩ → bx ≠ gT) := fun hne bx off e => by obtain ⟨b2, off2, e2, hc2⟩ := hs3.at_ hne; rw [e] at e2; cases e2; have := hc2.lt; omega
        replace hs2 := Sl.alloc hs2 (.cells #[.int .i64 0, .int .i64 0, .int .i64 0, .int .i64 0, .int .i64 0, .int .i64 0, .int .i64 0, .int .i64 0, .int .i64 0, .int .i64 0, .slice none 0 0, .bool false, .int .i64 0] 39)
        replace hs3 := Sl.alloc hs3 (.cells #[.int .i64 0, .int .i64 0, .int .i64 0, .int .i64 0, .int .i64 0, .int .i64 0, .int .i64 0, .int .i64 0, .int .i64 0, .int .i64 0, .slice none 0 0, .bool false, .int .i64 0] 39)
        rw [← hgT] at hT
        try rw [← hgT]
        clear hgT q0 q1 q2
        generalize wn.alloc (.cells #[.int .i64 0, .int .i64 0, .int .i64 0, .int .i64 0, .int .i64 0, .int .i64 0, .int .i64 0, .int .i64 0, .int .i64 0, .int .i64 0, .slice none 0 0, .bool false, .int .i64 0] 39) = wx5 at *
        refine wpAnyU_ready (rs := [6]) (by kernel_rfl) (by simp) ?_
        refine AllReadyU.cons 1 (by kernel_rfl) (o := _) rfl (fun K hK => ?_) AllReadyU.nil
        have hG := hH
        replace hG := S2o0 hG; (try dsimp only at hG); have q0 := hG.1; have q1 := hG.2.1; have q2 := hG.2.2
        have HT := hid hT
        obtain ⟨z0, z1, z2, z3, z4, z5, z6, z7, z8, z9, z10, z11, z12, y0, y1, y2, y3, y4, y5, y6, y7, y8, y9, y10, y11, y12⟩ := hT.all
        have yf := hT.free
        have hl9 := hT.lt
        go_simp
        refine hK.out _ _ ?hsr1_7 (fun hH2 => ?hrr1_7)
        case hsr1_7 => exact S2i1
        clear hK K hH
        have hH := hH2
        clear hH2
        try simp only [Act.put, List.setIfInBounds_toArray, List.set_cons_zero, List.set_cons_succ]
        refine U_take 7 7 0 1 1 (v := ?vr1_8) rfl (by kernel_rfl) (by kernel_rfl) hWr1 (by kernel_rfl) (by kernel_rfl) (by kernel_rfl) (by kernel_rfl) (by kernel_rfl) (by kernel_rfl) (fun _ _ _ _ h => h) (by kernel_rfl) ?hyr1_8 (by omega) hH ?_
        case hyr1_8 => (intro w' hSw; clear hSw; go_simp; try (with_reducible rfl))
        simp only [List.set_cons_zero, List.set_cons_succ]
        refine wpAnyU_done (by kernel_rfl) ?_ _ _
        refine NoPanic.normal ?_
        go_wp2_with fail
        go_meet
        have hBz := below_setBd q2 (show w.heap.size ≤ gT by omega) x A2 n2 c2
        have h1 := setBd_at HT.out x A2 n2 c2
        have h2 := Sl.setBd2 hs2 x A2 n2 c2 hx2
        have h3 := Sl.setBd2 hs3 x A2 n2 c2 hx3
        have h4 := BdAt.setBd_off q0 (show gT ≠ w.heap.size by omega) x A2 n2 c2
        have h5 := HSW.out.below hBz
        unfold setBd at hBz h1 h2 h3 h4 h5
        exact ⟨gT, A2, n2, c2, A3, n3, c3, rfl, rfl, hlT, h1, h2, h3, hnil, h4, h5, hBz⟩
      refine AllReadyU.cons 0 (by kernel_rfl) (o := _) rfl (fun K hK => ?_) ?_
      · try clear hb
        have hG := hH
        replace hG := S2o0 hG; (try dsimp only at hG); have q0 := hG.1; have q1 := hG.2.1; have q2 := hG.2.2
        go_simp
        refine hK.out _ _ ?hsr1_9 (fun hH2 => ?hrr1_9)
        case hsr1_9 => exact S2i0 (by have hG := hH; replace hG := S2o0 hG; (try dsimp only at hG); have q0 := hG.1; have q1 := hG.2.1; have q2 := hG.2.2; exact ⟨q0.alloc _, Sl.alloc q1 _, q2.alloc q2.size _⟩)
        clear hK K hH
        have hH := hH2
        clear hH2
        try simp only [Act.put, List.setIfInBounds_toArray, List.set_cons_zero, List.set_cons_succ]
        have hT : BdZ (wn.alloc (.cells #[.int .i64 0, .int .i64 0, .int .i64 0, .int .i64 0, .int .i64 0, .int .i64 0, .int .i64 0, .int .i64 0, .int .i64 0, .int .i64 0, .slice none 0 0, .bool false, .int .i64 0] 39)) wn.heap.size := by have := BdAt.here wn bd0 none 0 0 39; simp only [bd0] at this; exact BdZ.of this
        obtain ⟨gT, hgT⟩ : ∃ g, g = wn.heap.size := ⟨_, rfl⟩
        have hlT : w.heap.size < gT := by rw [hgT]; exact q0.lt
        have hx2 : (l ≠ [] → ∀ bx off, A2 = some ⟨bx, off, none⟩ → bx ≠ gT) := fun hne bx off e => by obtain ⟨b2, off2, e2, hc2⟩ := hs2.at_ hne; rw [e] at e2; cases e2; have := hc2.lt; omega
        replace hs2 := Sl.alloc hs2 (.cells #[.int .i64 0, .int .i64 0, .int .i64 0, .int .i64 0, .int .i64 0, .int .i64 0, .int .i64 0, .int .i64 0, .int .i64 0, .int .i64 0, .slice none 0 0, .bool false, .int .i64 0] 39)
        rw [← hgT] at hT
        try rw [← hgT]
        clear hgT q0 q1 q2
        generalize wn.alloc (.cells #[.int .i64 0, .int .i64 0, .int .i64 0, .int .i64 0, .int .i64 0, .int .i64 0, .int .i64 0, .int .i64 0, .int .i64 0, .int .i64 0, .slice none 0 0, .bool false, .int .i64 0] 39) = wx5 at *
        refine wpAnyU_ready (rs := [4]) (by kernel_rfl) (by simp) ?_
        refine AllReadyU.cons 0 (by kernel_rfl) (o := _) rfl (fun K hK => ?_) AllReadyU.nil
        try clear hb
        have hG := hH
        replace hG := S2o0 hG; (try dsimp only at hG); have q0 := hG.1; have q1 := hG.2.1; have q2 := hG.2.2
        go_simp
        (go_at_call 48; refine (bplace_calls b A n c l _ q1).mono ?_; rintro e wn ⟨A3, n3, c3, rfl, hs3, hnil, hf3, hb⟩; replace hs2 := Sl.below hs2 hb; have hx3 : (placeR b l ≠ [] → ∀ bx off, A3 = some ⟨bx, off, none⟩ → bx ≠ gT) := fun _ bx off e => by have := hf3 bx off e; have := hT.lt; omega); (replace hT := keepBdZ hb hT)
        refine hK.out _ _ ?hsr1_10 (fun hH2 => ?hrr1_10)
        case hsr1_10 => exact S2i0 (by have hG := hH; replace hG := S2o0 hG; (try dsimp only at hG); have q0 := hG.1; have q1 := hG.2.1; have q2 := hG.2.2; exact ⟨keepBd hb q0, keepSl hb q1, keepBelow hb q2⟩)
        clear hK K hH
        have hH := hH2
        clear hH2
        try simp only [Act.put, List.setIfInBounds_toArray, List.set_cons_zero, List.set_cons_succ]
        refine wpAnyU_ready (rs := [6]) (by kernel_rfl) (by simp) ?_
        refine AllReadyU.cons 1 (by kernel_rfl) (o := _) rfl (fun K hK => ?_) AllReadyU.nil
        have hG := hH
        replace hG := S2o0 hG; (try dsimp only at hG); have q0 := hG.1; have q1 := hG.2.1; have q2 := hG.2.2
        have HT := hid hT
        obtain ⟨z0, z1, z2, z3, z4, z5, z6, z7, z8, z9, z10, z11, z12, y0, y1, y2, y3, y4, y5, y6, y7, y8, y9, y10, y11, y12⟩ := hT.all
        have yf := hT.free
        have hl9 := hT.lt
        go_simp
        refine hK.out _ _ ?hsr1_11 (fun hH2 => ?hrr1_11)
        case hsr1_11 => exact S2i1
        clear hK K hH
        have hH := hH2
        clear hH2
        try simp only [Act.put, List.setIfInBounds_toArray, List.set_cons_zero, List.set_cons_succ]
        refine U_take 7 7 0 1 1 (v := ?vr1_12) rfl (by kernel_rfl) (by kernel_rfl) hWr1 (by kernel_rfl) (by kernel_rfl) (by kernel_rfl) (by kernel_rfl) (by kernel_rfl) (by kernel_rfl) (fun _ _ _ _ h => h) (by kernel_rfl) ?hyr1_12 (by omega) hH ?_
        case hyr1_12 => (intro w' hSw; clear hSw; go_simp; try (with_reducible rfl))
        simp only [List.set_cons_zero, List.set_cons_succ]
        refine wpAnyU_done (by kernel_rfl) ?_ _ _
        refine NoPanic.normal ?_
        go_wp2_with fail
        go_meet
        have hBz := below_setBd q2 (show w.heap.size ≤ gT by omega) x A2 n2 c2
        have h1 := setBd_at HT.out x A2 n2 c2
        have h2 := Sl.setBd2 hs2 x A2 n2 c2 hx2
        have h3 := Sl.setBd2 hs3 x A2 n2 c2 hx3
        have h4 := BdAt.setBd_off q0 (show gT ≠ w.heap.size by omega) x A2 n2 c2
        have h5 := HSW.out.below hBz
        unfold setBd at hBz h1 h2 h3 h4 h5
        exact ⟨gT, A2, n2, c2, A3, n3, c3, rfl, rfl, hlT, h1, h2, h3, hnil, h4, h5, hBz⟩
      exact AllReadyU.nil
    refine AllReadyU.cons 0 (by kernel_rfl) (o := _) rfl (fun K hK => ?_) ?_
    · try clear hb
      have hG := hH
      replace hG := S2o0 hG; (try dsimp only at hG); have q0 := hG.1; have q1 := hG.2.1; have q2 := hG.2.2
      go_simp
      refine hK.out _ _ ?hsr1_13 (fun hH2 => ?hrr1_13)
      case hsr1_13 => exact S2i0 (by have hG := hH; replace hG := S2o0 hG; (try dsimp only at hG); have q0 := hG.1; have q1 := hG.2.1; have q2 := hG.2.2; exact ⟨q0.alloc _, Sl.alloc q1 _, q2.alloc q2.size _⟩)
      clear hK K hH
      have hH := hH2
      clear hH2
      try simp only [Act.put, List.setIfInBounds_toArray, List.set_cons_zero, List.set_cons_succ]
      have hT : BdZ ((w2.alloc (.cells #[.int .i64 0, .int .i64 0, .int .i64 0, .int .i64 0, .int .i64 0, .int .i64 0, .int .i64 0, .int .i64 0, .int .i64 0, .int .i64 0, .slice none 0 0, .bool false, .int .i64 0] 39)).drew) w2.heap.size := BdZ.drew (by have := BdAt.here w2 bd0 none 0 0 39; simp only [bd0] at this; exact BdZ.of this)
      obtain ⟨gT, hgT⟩ : ∃ g, g = w2.heap.size := ⟨_, rfl⟩
      have hlT : w.heap.size < gT := by rw [hgT]; exact q0.lt
      rw [← hgT] at hT
      try rw [← hgT]
      clear hgT q0 q1 q2
      generalize (w2.alloc (.cells #[.int .i64 0, .int .i64 0, .int .i64 0, .int .i64 0, .int .i64 0, .int .i64 0, .int .i64 0, .int .i64 0, .int .i64 0, .int .i64 0, .slice none 0 0, .bool false, .int .i64 0] 39)).drew = wx5 at *
      refine wpAnyU_ready (rs := [2]) (by kernel_rfl) (by simp) ?_
      refine AllReadyU.cons 0 (by kernel_rfl) (o := _) rfl (fun K hK => ?_) AllReadyU.nil
      try clear hb
      have hG := hH
      replace hG := S2o0 hG; (try dsimp only at hG); have q0 := hG.1; have q1 := hG.2.1; have q2 := hG.2.2
      go_simp
      (go_at_call 53; refine (HMV.out _ _ _ _ q1).mono ?_; rintro e wn ⟨A2, n2, c2, rfl, hs2, hf2, hb⟩; have hx2 : (l ≠ [] → ∀ bx off, A2 = some ⟨bx, off, none⟩ → bx ≠ gT) := fun _ bx off e => by have := hf2 bx off e; have := hT.lt; omega); (replace hT := keepBdZ hb hT)
      refine hK.out _ _ ?hsr1_14 (fun hH2 => ?hrr1_14)
      case hsr1_14 => exact S2i0 (by have hG := hH; replace hG := S2o0 hG; (try dsimp only at hG); have q0 := hG.1; have q1 := hG.2.1; have q2 := hG.2.2; exact ⟨keepBd hb q0, keepSl hb q1, keepBelow hb q2⟩)
      clear hK K hH
      have hH := hH2
      clear hH2
      try simp only [Act.put, List.setIfInBounds_toArray, List.set_cons_zero, List.set_cons_succ]
      refine wpAnyU_ready (rs := [4]) (by kernel_rfl) (by simp) ?_
      refine AllReadyU.cons 0 (by kernel_rfl) (o := _) rfl (fun K hK => ?_) AllReadyU.nil
      try clear hb
      have hG := hH
      replace hG := S2o0 hG; (try dsimp only at hG); have q0 := hG.1; have q1 := hG.2.1; have q2 := hG.2.2
      go_simp
      (go_at_call 48; refine (bplace_calls b A n c l _ q1).mono ?_; rintro e wn ⟨A3, n3, c3, rfl, hs3, hnil, hf3, hb⟩; replace hs2 := Sl.below hs2 hb; have hx3 : (placeR b l ≠ [] → ∀ bx off, A3 = some ⟨bx, off, none⟩ → bx ≠ gT) := fun _ bx off e => by have := hf3 bx off e; have := hT.lt; omega); (replace hT := keepBdZ hb hT)
      refine hK.out _ _ ?hsr1_15 (fun hH2 => ?hrr1_15)
      case hsr1_15 => exact S2i0 (by have hG := hH; replace hG := S2o0 hG; (try dsimp only at hG); have q0 := hG.1; have q1 := hG.2.1; have q2 := hG.2.2; exact ⟨keepBd hb q0, keepSl hb q1, keepBelow hb q2⟩)
      clear hK K hH
      have hH := hH2
      clear hH2
      try simp only [Act.put, List.setIfInBounds_toArray, List.set_cons_zero, List.set_cons_succ]
      refine wpAnyU_ready (rs := [6]) (by kernel_rfl) (by simp) ?_
      refine AllReadyU.cons 1 (by kernel_rfl) (o := _) rfl (fun K hK => ?_) AllReadyU.nil
      have hG := hH
      replace hG := S2o0 hG; (try dsimp only at hG); have q0 := hG.1; have q1 := hG.2.1; have q2 := hG.2.2
      have HT := hid hT
      obtain ⟨z0, z1, z2, z3, z4, z5, z6, z7, z8, z9, z10, z11, z12, y0, y1, y2, y3, y4, y5, y6, y7, y8, y9, y10, y11, y12⟩ := hT.all
      have yf := hT.free
      have hl9 := hT.lt
      go_simp
      refine hK.out _ _ ?hsr1_16 (fun hH2 => ?hrr1_16)
      case hsr1_16 => exact S2i1
      clear hK K hH
      have hH := hH2
      clear hH2
      try simp only [Act.put, List.setIfInBounds_toArray, List.set_cons_zero, List.set_cons_succ]
      refine U_take 7 7 0 1 1 (v := ?vr1_17) rfl (by kernel_rfl) (by kernel_rfl) hWr1 (by kernel_rfl) (by kernel_rfl) (by kernel_rfl) (by kernel_rfl) (by kernel_rfl) (by kernel_rfl) (fun _ _ _ _ h => h) (by kernel_rfl) ?hyr1_17 (by omega) hH ?_
      case hyr1_17 => (intro w' hSw; clear hSw; go_simp; try (with_reducible rfl))
      simp only [List.set_cons_zero, List.set_cons_succ]
      refine wpAnyU_done (by kernel_rfl) ?_ _ _
      refine NoPanic.normal ?_
      go_wp2_with fail
      go_meet
      have hBz := below_setBd q2 (show w.heap.size ≤ gT by omega) x A2 n2 c2
      have h1 := setBd_at HT.out x A2 n2 c2
      have h2 := Sl.setBd2 hs2 x A2 n2 c2 hx2
      have h3 := Sl.setBd2 hs3 x A2 n2 c2 hx3
      have h4 := BdAt.setBd_off q0 (show gT ≠ w.heap.size by omega) x A2 n2 c2
      have h5 := HSW.out.below hBz
      unfold setBd at hBz h1 h2 h3 h4 h5
      exact ⟨gT, A2, n2, c2, A3, n3, c3, rfl, rfl, hlT, h1, h2, h3, hnil, h4, h5, hBz⟩
    exact AllReadyU.nil
  case rest =>
    obtain ⟨gx, A2, n2, c2, A3, n3, c3, rfl, rfl, hgx, h1, h2, h3, hnil, h4, h5, hB3⟩ := hcut
    have HX3 := hid h1
    have HT3 := hid h2
    have HP3 := hid h3
    have HK3 := hid h4
    have HS3 := hid h5
    clear h1 h2 h3 h4 h5 HK2 HS2 hB2 HMV
    by_cases hE : bodyE b l = 0
    · have HE := hid hE
      have hpr : placeR b l = placeL b l := by unfold placeR; rw [if_neg (by simp [hE])]
      have HP4 := HP3
      rw [hpr] at HP4
      have HK4 := HK3
      have HX4 := HX3
      have HS4 := HS3
      have HT4 := HT3
      have hB4 := hB3
      obtain ⟨hsh, hnu⟩ := bodyE_zero hE
      have hz := numE_zero hnu
      have hpb := hz.1
      have hang := hz.2.2.2.1
      obtain ⟨h8, hl3, _, _⟩ := checkE_zero (shapeE_zero hsh)
      have hE0 : E = 0 := by rw [HEE.out]; exact hE
      subst hE0
      obtain ⟨m1, hm1⟩ : ∃ m, m = minL (xsL (placeL b l)) := ⟨_, rfl⟩
      obtain ⟨m2, hm2⟩ : ∃ m, m = minL (ysL (placeL b l)) := ⟨_, rfl⟩
      obtain ⟨m3, hm3⟩ : ∃ m, m = maxL (xsL (placeL b l)) := ⟨_, rfl⟩
      obtain ⟨m4, hm4⟩ : ∃ m, m = maxL (ysL (placeL b l)) := ⟨_, rfl⟩
      have HBN : Hid (∀ w, Sl w A n c l → Calls Try.prog 49 #[bodyV b A n c] w (Ret (boxV m1 m2 m3 m4) w)) := fun w h => by
        have := bbounds_calls b A n c l w h
        rwa [show bndV b l = boxV m1 m2 m3 m4 by unfold bndV; rw [if_neg (by simp [hE]), hm1, hm2, hm3, hm4]] at this
      have HAR : Hid (∀ w A n c, Sl w A n c (placeL b l) → Calls Try.prog 55 #[.slice A n c] w (Ret (boxV m1 m2 m3 m4) w)) := fun w A n c h => by
        have := raround_calls A n c (placeL b l) w h (by rw [placeL_len]; omega) (by rw [placeL_len]; omega)
        rwa [← hm1, ← hm2, ← hm3, ← hm4] at this
      have HSTEP : Hid (∀ w, 0 ≤ s → s ≤ 65536 → Calls Try.prog 56 #[bodyV b A n c, .int .i64 s] w (Ret (bodyV x A n c) w)) := fun w h0 h1 => by
        have := rstep_calls b A n c s ⟨hpb.1, hpb.2.1⟩ ⟨hpb.2.2.1, hpb.2.2.2⟩ hang w
        rwa [← moveB_step hE h0 h1, ← HXX.out] at this
      have HOUT : Hid (s < 0 ∨ 65536 < s → x = b) := fun h => by rw [HXX.out]; unfold moveB; rw [if_pos (by rcases h with h | h; exact .inr (.inr (.inr (.inl h))); exact .inr (.inr (.inr (.inr h))))]
      clear hm1 hm2 hm3 hm4 hpr hsh hnu hz hpb hang HP3 HK3 HX3 HS3 HT3 hB3 hnil HXX HEE hE
      go_upto_region 7 with fail
      refine wp_region_noPanic ?_
      refine wp_region_U (S := (S2 (fun w' => BdAt w' w.heap.size b A n c ∧ BdAt w' gx x A2 n2 c2 ∧ Sl w' A n c l ∧ Sl w' A2 n2 c2 l ∧ Sl w' A3 n3 c3 (placeL b l) ∧ Below w.heap.size w w'))) (T := (fun _ => 0)) (by kernel_rfl) (S2i0 ⟨HK4.out.drew, HX4.out.drew, HS4.out.drew', HT4.out.drew', HP4.out.drew', hB4.drew⟩) (fun hH => ?_)
      have hWr2 : Weaker (S2 (fun w' => BdAt w' w.heap.size b A n c ∧ BdAt w' gx x A2 n2 c2 ∧ Sl w' A n c l ∧ Sl w' A2 n2 c2 l ∧ Sl w' A3 n3 c3 (placeL b l) ∧ Below w.heap.size w w')) := weaker2 _
      refine U_take 0 39 12 0 0 (v := ?vr2_1) rfl (by kernel_rfl) (by kernel_rfl) hWr2 (by kernel_rfl) (by kernel_rfl) (by kernel_rfl) (by kernel_rfl) (by kernel_rfl) (by kernel_rfl) (fun _ _ _ _ h => h) (by kernel_rfl) ?hyr2_1 (by omega) hH ?_
      case hyr2_1 => (intro w' hSw; clear hSw; go_simp; try (with_reducible rfl))
      simp only [List.set_cons_zero, List.set_cons_succ]
      refine U_take 1 40 11 0 0 (v := ?vr2_2) rfl (by kernel_rfl) (by kernel_rfl) hWr2 (by kernel_rfl) (by kernel_rfl) (by kernel_rfl) (by kernel_rfl) (by kernel_rfl) (by kernel_rfl) (fun _ _ _ _ h => h) (by kernel_rfl) ?hyr2_2 (by omega) hH ?_
      case hyr2_2 => (intro w' hSw; replace hSw := S2o0 hSw; (try dsimp only at hSw); have q0 := hSw.1; have q1 := hSw.2.1; have q2 := hSw.2.2.1; have q3 := hSw.2.2.2.1; have q4 := hSw.2.2.2.2.1; have q5 := hSw.2.2.2.2.2; obtain ⟨qa0_0, qa0_1, qa0_2, qa0_3, qa0_4, qa0_5, qa0_6, qa0_7, qa0_8, qa0_9, qa0_10, qa0_11, qa0_12, qa0_f⟩ := id q0; go_simp; try (with_reducible rfl))
      simp only [List.set_cons_zero, List.set_cons_succ]
      refine wpAnyU_ready (rs := [2]) (by kernel_rfl) (by simp) ?_
      refine AllReadyU.cons 0 (by kernel_rfl) (o := _) rfl (fun K hK => ?_) AllReadyU.nil
      try clear hb
      have hG := hH
      replace hG := S2o0 hG; (try dsimp only at hG); have q0 := hG.1; have q1 := hG.2.1; have q2 := hG.2.2.1; have q3 := hG.2.2.2.1; have q4 := hG.2.2.2.2.1; have q5 := hG.2.2.2.2.2
      go_simp
      (go_at_call 54; refine (rplaced_calls b A n c l _ HE.out q2).mono ?_; rintro e wn ⟨A4, n4, c4, rfl, hs4, hf4, hb⟩)
      refine hK.out _ _ ?hsr2_3 (fun hH2 => ?hrr2_3)
      case hsr2_3 => exact S2i0 (by have hG := hH; replace hG := S2o0 hG; (try dsimp only at hG); have q0 := hG.1; have q1 := hG.2.1; have q2 := hG.2.2.1; have q3 := hG.2.2.2.1; have q4 := hG.2.2.2.2.1; have q5 := hG.2.2.2.2.2; exact ⟨keepBd hb q0, keepBd hb q1, keepSl hb q2, keepSl hb q3, keepSl hb q4, keepBelow hb q5⟩)
      clear hK K hH
      have hH := hH2
      clear hH2
      try simp only [Act.put, List.setIfInBounds_toArray, List.set_cons_zero, List.set_cons_succ]
      refine wpAnyU_ready (rs := [3]) (by kernel_rfl) (by simp) ?_
      refine AllReadyU.cons 0 (by kernel_rfl) (o := _) rfl (fun K hK => ?_) AllReadyU.nil
      try clear hb
      have hG := hH
      replace hG := S2o0 hG; (try dsimp only at hG); have q0 := hG.1; have q1 := hG.2.1; have q2 := hG.2.2.1; have q3 := hG.2.2.2.1; have q4 := hG.2.2.2.2.1; have q5 := hG.2.2.2.2.2
      go_simp
      (go_at_call 20; refine (equal_calls _ _ _ _ _ _ (placeL b l) (placeL b l) _ q4 hs4).mono ?_; rintro e wn ⟨rfl, hb⟩; rw [show decide (placeL b l = placeL b l) = true by simp]; clear hs4 hf4)
      refine hK.out _ _ ?hsr2_4 (fun hH2 => ?hrr2_4)
      case hsr2_4 => exact S2i0 (by have hG := hH; replace hG := S2o0 hG; (try dsimp only at hG); have q0 := hG.1; have q1 := hG.2.1; have q2 := hG.2.2.1; have q3 := hG.2.2.2.1; have q4 := hG.2.2.2.2.1; have q5 := hG.2.2.2.2.2; exact ⟨keepBd hb q0, keepBd hb q1, keepSl hb q2, keepSl hb q3, keepSl hb q4, keepBelow hb q5⟩)
      clear hK K hH
      have hH := hH2
      clear hH2
      try simp only [Act.put, List.setIfInBounds_toArray, List.set_cons_zero, List.set_cons_succ]
      refine U_take 4 43 8 0 0 (v := ?vr2_5) rfl (by kernel_rfl) (by kernel_rfl) hWr2 (by kernel_rfl) (by kernel_rfl) (by kernel_rfl) (by kernel_rfl) (by kernel_rfl) (by kernel_rfl) (fun _ _ _ _ h => h) (by kernel_rfl) ?hyr2_5 (by omega) hH ?_
      case hyr2_5 => (intro w' hSw; clear hSw; go_simp; try (with_reducible rfl))
      simp only [List.set_cons_zero, List.set_cons_succ]
      refine U_take 5 44 7 0 0 (v := ?vr2_6) rfl (by kernel_rfl) (by kernel_rfl) hWr2 (by kernel_rfl) (by kernel_rfl) (by kernel_rfl) (by kernel_rfl) (by kernel_rfl) (by kernel_rfl) (fun _ _ _ _ h => h) (by kernel_rfl) ?hyr2_6 (by omega) hH ?_
      case hyr2_6 => (intro w' hSw; clear hSw; go_simp; try (with_reducible rfl))
      simp only [List.set_cons_zero, List.set_cons_succ]
      refine U_take 6 45 6 0 0 (v := ?vr2_7) rfl (by kernel_rfl) (by kernel_rfl) hWr2 (by kernel_rfl) (by kernel_rfl) (by kernel_rfl) (by kernel_rfl) (by kernel_rfl) (by kernel_rfl) (fun _ _ _ _ h => h) (by kernel_rfl) ?hyr2_7 (by omega) hH ?_
      case hyr2_7 => (intro w' hSw; replace hSw := S2o0 hSw; (try dsimp only at hSw); have q0 := hSw.1; have q1 := hSw.2.1; have q2 := hSw.2.2.1; have q3 := hSw.2.2.2.1; have q4 := hSw.2.2.2.2.1; have q5 := hSw.2.2.2.2.2; obtain ⟨qa0_0, qa0_1, qa0_2, qa0_3, qa0_4, qa0_5, qa0_6, qa0_7, qa0_8, qa0_9, qa0_10, qa0_11, qa0_12, qa0_f⟩ := id q0; go_simp; try (with_reducible rfl))
      simp only [List.set_cons_zero, List.set_cons_succ]
      refine U_take 8 47 5 0 0 (v := ?vr2_8) rfl (by kernel_rfl) (by kernel_rfl) hWr2 (by kernel_rfl) (by kernel_rfl) (by kernel_rfl) (by kernel_rfl) (by kernel_rfl) (by kernel_rfl) (fun _ _ _ _ h => h) (by kernel_rfl) ?hyr2_8 (by omega) hH ?_
      case hyr2_8 => (intro w' hSw; replace hSw := S2o0 hSw; (try dsimp only at hSw); have q0 := hSw.1; have q1 := hSw.2.1; have q2 := hSw.2.2.1; have q3 := hSw.2.2.2.1; have q4 := hSw.2.2.2.2.1; have q5 := hSw.2.2.2.2.2; obtain ⟨qa0_0, qa0_1, qa0_2, qa0_3, qa0_4, qa0_5, qa0_6, qa0_7, qa0_8, qa0_9, qa0_10, qa0_11, qa0_12, qa0_f⟩ := id q0; go_simp; try (with_reducible rfl))
      simp only [List.set_cons_zero, List.set_cons_succ]
      refine wpAnyU_ready (rs := [7]) (by kernel_rfl) (by simp) ?_
      refine AllReadyU.cons 0 (by kernel_rfl) (o := _) rfl (fun K hK => ?_) AllReadyU.nil
      try clear hb
      have hG := hH
      replace hG := S2o0 hG; (try dsimp only at hG); have q0 := hG.1; have q1 := hG.2.1; have q2 := hG.2.2.1; have q3 := hG.2.2.2.1; have q4 := hG.2.2.2.2.1; have q5 := hG.2.2.2.2.2
      go_simp
      (go_at_call 49; refine (HBN.out _ q2).mono ?_; rintro e wn ⟨rfl, hb⟩)
      refine hK.out _ _ ?hsr2_9 (fun hH2 => ?hrr2_9)
      case hsr2_9 => exact S2i0 (by have hG := hH; replace hG := S2o0 hG; (try dsimp only at hG); have q0 := hG.1; have q1 := hG.2.1; have q2 := hG.2.2.1; have q3 := hG.2.2.2.1; have q4 := hG.2.2.2.2.1; have q5 := hG.2.2.2.2.2; exact ⟨keepBd hb q0, keepBd hb q1, keepSl hb q2, keepSl hb q3, keepSl hb q4, keepBelow hb q5⟩)
      clear hK K hH
      have hH := hH2
      clear hH2
      try simp only [Act.put, List.setIfInBounds_toArray, List.set_cons_zero, List.set_cons_succ]
      refine wpAnyU_ready (rs := [9]) (by kernel_rfl) (by simp) ?_
      refine AllReadyU.cons 0 (by kernel_rfl) (o := _) rfl (fun K hK => ?_) AllReadyU.nil
      try clear hb
      have hG := hH
      replace hG := S2o0 hG; (try dsimp only at hG); have q0 := hG.1; have q1 := hG.2.1; have q2 := hG.2.2.1; have q3 := hG.2.2.2.1; have q4 := hG.2.2.2.2.1; have q5 := hG.2.2.2.2.2
      go_simp
      (go_at_call 54; refine (rplaced_calls b A n c l _ HE.out q2).mono ?_; rintro e wn ⟨A5, n5, c5, rfl, hs5, hf5, hb⟩)
      refine hK.out _ _ ?hsr2_10 (fun hH2 => ?hrr2_10)
      case hsr2_10 => exact S2i0 (by have hG := hH; replace hG := S2o0 hG; (try dsimp only at hG); have q0 := hG.1; have q1 := hG.2.1; have q2 := hG.2.2.1; have q3 := hG.2.2.2.1; have q4 := hG.2.2.2.2.1; have q5 := hG.2.2.2.2.2; exact ⟨keepBd hb q0, keepBd hb q1, keepSl hb q2, keepSl hb q3, keepSl hb q4, keepBelow hb q5⟩)
      clear hK K hH
      have hH := hH2
      clear hH2
      try simp only [Act.put, List.setIfInBounds_toArray, List.set_cons_zero, List.set_cons_succ]
      refine wpAnyU_ready (rs := [10]) (by kernel_rfl) (by simp) ?_
      refine AllReadyU.cons 0 (by kernel_rfl) (o := _) rfl (fun K hK => ?_) AllReadyU.nil
      try clear hb
      have hG := hH
      replace hG := S2o0 hG; (try dsimp only at hG); have q0 := hG.1; have q1 := hG.2.1; have q2 := hG.2.2.1; have q3 := hG.2.2.2.1; have q4 := hG.2.2.2.2.1; have q5 := hG.2.2.2.2.2
      go_simp
      (go_at_call 55; refine (HAR.out _ _ _ _ hs5).mono ?_; rintro e wn ⟨rfl, hb⟩)
      refine hK.out _ _ ?hsr2_11 (fun hH2 => ?hrr2_11)
      case hsr2_11 => exact S2i0 (by have hG := hH; replace hG := S2o0 hG; (try dsimp only at hG); have q0 := hG.1; have q1 := hG.2.1; have q2 := hG.2.2.1; have q3 := hG.2.2.2.1; have q4 := hG.2.2.2.2.1; have q5 := hG.2.2.2.2.2; exact ⟨keepBd hb q0, keepBd hb q1, keepSl hb q2, keepSl hb q3, keepSl hb q4, keepBelow hb q5⟩)
      clear hK K hH
      have hH := hH2
      clear hH2
      try simp only [Act.put, List.setIfInBounds_toArray, List.set_cons_zero, List.set_cons_succ]
      refine U_take 11 50 1 0 0 (v := ?vr2_12) rfl (by kernel_rfl) (by kernel_rfl) hWr2 (by kernel_rfl) (by kernel_rfl) (by kernel_rfl) (by kernel_rfl) (by kernel_rfl) (by kernel_rfl) (fun _ _ _ _ h => h) (by kernel_rfl) ?hyr2_12 (by omega) hH ?_
      case hyr2_12 => (intro w' hSw; clear hSw; go_simp; try (with_reducible rfl))
      simp only [List.set_cons_zero, List.set_cons_succ]
      refine U_take 12 51 0 0 0 (v := ?vr2_13) rfl (by kernel_rfl) (by kernel_rfl) hWr2 (by kernel_rfl) (by kernel_rfl) (by kernel_rfl) (by kernel_rfl) (by kernel_rfl) (by kernel_rfl) (fun _ _ _ _ h => h) (by kernel_rfl) ?hyr2_13 (by omega) hH ?_
      case hyr2_13 => (intro w' hSw; clear hSw; go_simp; try (with_reducible rfl))
      simp only [List.set_cons_zero, List.set_cons_succ]
      refine wpAnyU_done (by kernel_rfl) ?_ _ _
      refine NoPanic.normal ?_
      clear hWr2
      replace hH := S2o0 hH
      (try dsimp only at hH)
      have q0 := hH.1
      have q1 := hH.2.1
      have q2 := hH.2.2.1
      have q3 := hH.2.2.2.1
      have q4 := hH.2.2.2.2.1
      have q5 := hH.2.2.2.2.2
      have HK5 := hid q0
      have HX5 := hid q1
      have HS5 := hid q2
      have HT5 := hid q3
      have hB5 := q5
      clear hH hb q0 q1 q2 q3 q4 q5 HK4 HX4 HS4 HT4 HP4 hB4 hs5 hf5 HBN HAR
      by_cases hs0 : s < 0
      · have hxb : x = b := HOUT.out (.inl hs0)
        subst hxb
        obtain ⟨k0, k1, k2, k3, k4, k5, k6, k7, k8, k9, k10, k11, k12, kf⟩ := HK5.out
        obtain ⟨m0, m1, m2, m3, m4, m5, m6, m7, m8, m9, m10, m11, m12, mf⟩ := HX5.out
        clear HOUT HSTEP
        go_wp2_with fail
        refine (rsame_calls x A2 A n2 c2 n c l _ HT5.out HS5.out).mono ?_
        rintro e w6 ⟨rfl, hb6⟩
        have hB6 := keepBelow hb6 hB5
        clear hb6 hB5 HK5 HX5 HS5 HT5 kf mf k0 k1 k2 k3 k4 k5 k6 k7 k8 k9 k10 k11 k12 m0 m1 m2 m3 m4 m5 m6 m7 m8 m9 m10 m11 m12
        go_wp2
        go_returns
        exact ret_bool (by simp) hB6
      by_cases hs1 : 65536 < s
      · have hxb : x = b := HOUT.out (.inr hs1)
        subst hxb
        obtain ⟨k0, k1, k2, k3, k4, k5, k6, k7, k8, k9, k10, k11, k12, kf⟩ := HK5.out
        obtain ⟨m0, m1, m2, m3, m4, m5, m6, m7, m8, m9, m10, m11, m12, mf⟩ := HX5.out
        clear HOUT HSTEP
        go_wp2_with fail
        refine (rsame_calls x A2 A n2 c2 n c l _ HT5.out HS5.out).mono ?_
        rintro e w6 ⟨rfl, hb6⟩
        have hB6 := keepBelow hb6 hB5
        clear hb6 hB5 HK5 HX5 HS5 HT5 kf mf k0 k1 k2 k3 k4 k5 k6 k7 k8 k9 k10 k11 k12 m0 m1 m2 m3 m4 m5 m6 m7 m8 m9 m10 m11 m12
        go_wp2
        go_returns
        exact ret_bool (by simp) hB6
      · have HST : Hid (∀ w, Calls Try.prog 56 #[bodyV b A n c, .int .i64 s] w (Ret (bodyV x A n c) w)) := fun w => HSTEP.out w (by omega) (by omega)
        clear HOUT HSTEP
        go_upto_region 11 with fail
        refine wp_region_noPanic ?_
        refine wp_region_U (S := (S2 (fun w' => BdAt w' w.heap.size b A n c ∧ BdAt w' gx x A2 n2 c2 ∧ Sl w' A n c l ∧ Sl w' A2 n2 c2 l ∧ Below w.heap.size w w'))) (T := (fun _ => 0)) (by kernel_rfl) (S2i0 ⟨HK5.out.drew, HX5.out.drew, HS5.out.drew', HT5.out.drew', hB5.drew⟩) (fun hH => ?_)
        have hWr3 : Weaker (S2 (fun w' => BdAt w' w.heap.size b A n c ∧ BdAt w' gx x A2 n2 c2 ∧ Sl w' A n c l ∧ Sl w' A2 n2 c2 l ∧ Below w.heap.size w w')) := weaker2 _
        refine U_take 0 61 5 0 0 (v := ?vr3_1) rfl (by kernel_rfl) (by kernel_rfl) hWr3 (by kernel_rfl) (by kernel_rfl) (by kernel_rfl) (by kernel_rfl) (by kernel_rfl) (by kernel_rfl) (fun _ _ _ _ h => h) (by kernel_rfl) ?hyr3_1 (by omega) hH ?_
        case hyr3_1 => (intro w' hSw; replace hSw := S2o0 hSw; (try dsimp only at hSw); have q0 := hSw.1; have q1 := hSw.2.1; have q2 := hSw.2.2.1; have q3 := hSw.2.2.2.1; have q4 := hSw.2.2.2.2; obtain ⟨qa0_0, qa0_1, qa0_2, qa0_3, qa0_4, qa0_5, qa0_6, qa0_7, qa0_8, qa0_9, qa0_10, qa0_11, qa0_12, qa0_f⟩ := id q0; obtain ⟨qa1_0, qa1_1, qa1_2, qa1_3, qa1_4, qa1_5, qa1_6, qa1_7, qa1_8, qa1_9, qa1_10, qa1_11, qa1_12, qa1_f⟩ := id q1; go_simp; try (with_reducible rfl))
        simp only [List.set_cons_zero, List.set_cons_succ]
        refine U_take 1 62 4 0 0 (v := ?vr3_2) rfl (by kernel_rfl) (by kernel_rfl) hWr3 (by kernel_rfl) (by kernel_rfl) (by kernel_rfl) (by kernel_rfl) (by kernel_rfl) (by kernel_rfl) (fun _ _ _ _ h => h) (by kernel_rfl) ?hyr3_2 (by omega) hH ?_
        case hyr3_2 => (intro w' hSw; replace hSw := S2o0 hSw; (try dsimp only at hSw); have q0 := hSw.1; have q1 := hSw.2.1; have q2 := hSw.2.2.1; have q3 := hSw.2.2.2.1; have q4 := hSw.2.2.2.2; obtain ⟨qa0_0, qa0_1, qa0_2, qa0_3, qa0_4, qa0_5, qa0_6, qa0_7, qa0_8, qa0_9, qa0_10, qa0_11, qa0_12, qa0_f⟩ := id q0; obtain ⟨qa1_0, qa1_1, qa1_2, qa1_3, qa1_4, qa1_5, qa1_6, qa1_7, qa1_8, qa1_9, qa1_10, qa1_11, qa1_12, qa1_f⟩ := id q1; go_simp; try (with_reducible rfl))
        simp only [List.set_cons_zero, List.set_cons_succ]
        refine U_take 2 63 3 0 0 (v := ?vr3_3) rfl (by kernel_rfl) (by kernel_rfl) hWr3 (by kernel_rfl) (by kernel_rfl) (by kernel_rfl) (by kernel_rfl) (by kernel_rfl) (by kernel_rfl) (fun _ _ _ _ h => h) (by kernel_rfl) ?hyr3_3 (by omega) hH ?_
        case hyr3_3 => (intro w' hSw; clear hSw; go_simp; try (with_reducible rfl))
        simp only [List.set_cons_zero, List.set_cons_succ]
        refine wpAnyU_ready (rs := [3]) (by kernel_rfl) (by simp) ?_
        refine AllReadyU.cons 0 (by kernel_rfl) (o := _) rfl (fun K hK => ?_) AllReadyU.nil
        try clear hb
        have hG := hH
        replace hG := S2o0 hG; (try dsimp only at hG); have q0 := hG.1; have q1 := hG.2.1; have q2 := hG.2.2.1; have q3 := hG.2.2.2.1; have q4 := hG.2.2.2.2
        go_simp
        (go_at_call 56; refine (HST.out _).mono ?_; rintro e wn ⟨rfl, hb⟩)
        refine hK.out _ _ ?hsr3_4 (fun hH2 => ?hrr3_4)
        case hsr3_4 => exact S2i0 (by have hG := hH; replace hG := S2o0 hG; (try dsimp only at hG); have q0 := hG.1; have q1 := hG.2.1; have q2 := hG.2.2.1; have q3 := hG.2.2.2.1; have q4 := hG.2.2.2.2; exact ⟨keepBd hb q0, keepBd hb q1, keepSl hb q2, keepSl hb q3, keepBelow hb q4⟩)
        clear hK K hH
        have hH := hH2
        clear hH2
        try simp only [Act.put, List.setIfInBounds_toArray, List.set_cons_zero, List.set_cons_succ]
        refine wpAnyU_ready (rs := [4]) (by kernel_rfl) (by simp) ?_
        refine AllReadyU.cons 0 (by kernel_rfl) (o := _) rfl (fun K hK => ?_) AllReadyU.nil
        try clear hb
        have hG := hH
        replace hG := S2o0 hG; (try dsimp only at hG); have q0 := hG.1; have q1 := hG.2.1; have q2 := hG.2.2.1; have q3 := hG.2.2.2.1; have q4 := hG.2.2.2.2
        go_simp
        (go_at_call 34; refine (rsame_calls x A2 A n2 c2 n c l _ q3 q2).mono ?_; rintro e wn ⟨rfl, hb⟩)
        refine hK.out _ _ ?hsr3_5 (fun hH2 => ?hrr3_5)
        case hsr3_5 => exact S2i0 (by have hG := hH; replace hG := S2o0 hG; (try dsimp only at hG); have q0 := hG.1; have q1 := hG.2.1; have q2 := hG.2.2.1; have q3 := hG.2.2.2.1; have q4 := hG.2.2.2.2; exact ⟨keepBd hb q0, keepBd hb q1, keepSl hb q2, keepSl hb q3, keepBelow hb q4⟩)
        clear hK K hH
        have hH := hH2
        clear hH2
        try simp only [Act.put, List.setIfInBounds_toArray, List.set_cons_zero, List.set_cons_succ]
        refine U_take 5 4 0 0 0 (v := ?vr3_6) rfl (by kernel_rfl) (by kernel_rfl) hWr3 (by kernel_rfl) (by kernel_rfl) (by kernel_rfl) (by kernel_rfl) (by kernel_rfl) (by kernel_rfl) (fun _ _ _ _ h => h) (by kernel_rfl) ?hyr3_6 (by omega) hH ?_
        case hyr3_6 => (intro w' hSw; clear hSw; go_simp; try (with_reducible rfl))
        simp only [List.set_cons_zero, List.set_cons_succ]
        refine wpAnyU_done (by kernel_rfl) ?_ _ _
        refine NoPanic.normal ?_
        clear hWr3
        replace hH := S2o0 hH
        (try dsimp only at hH)
        have q0 := hH.1
        have q1 := hH.2.1
        have q2 := hH.2.2.1
        have q3 := hH.2.2.2.1
        have q4 := hH.2.2.2.2
        go_wp2
        go_returns
        exact ret_bool (by simp) q4
    · have hpr : placeR b l = [] := by unfold placeR; rw [if_pos hE]
      have hA3 : A3 = none := hnil hpr
      have hn3 : n3 = 0 := by have := HP3.out.len; rw [hpr] at this; simpa using this
      subst hA3
      subst hn3
      have hxb : x = b := by rw [HXX.out]; unfold moveB; rw [if_pos (.inl hE)]
      have hne : (E != 0) = true := by rw [HEE.out]; simp [hE]
      have HBN : Hid (∀ w, Sl w A n c l → Calls Try.prog 49 #[bodyV b A n c] w (Ret (boxV 0 0 0 0) w)) := fun w h => by
        have := bbounds_calls b A n c l w h
        rwa [show bndV b l = boxV 0 0 0 0 by unfold bndV; rw [if_pos hE]] at this
      subst hxb
      clear hE hpr hnil HXX HEE
      obtain ⟨k0, k1, k2, k3, k4, k5, k6, k7, k8, k9, k10, k11, k12, kf⟩ := HK3.out
      go_wp2_with fail
      refine (HBN.out _ HS3.out).mono ?_
      rintro e w4 ⟨rfl, hb4⟩
      clear k0 k1 k2 k3 k4 k5 k6 k7 k8 k9 k10 k11 k12 kf
      have HK4 := hid (keepBd hb4 HK3.out)
      have HX4 := hid (keepBd hb4 HX3.out)
      have HS4 := hid (keepSl hb4 HS3.out)
      have HT4 := hid (keepSl hb4 HT3.out)
      have hB4 := keepBelow hb4 hB3
      clear hb4 hB3 HK3 HX3 HS3 HT3
      obtain ⟨k0, k1, k2, k3, k4, k5, k6, k7, k8, k9, k10, k11, k12, kf⟩ := HK4.out
      obtain ⟨m0, m1, m2, m3, m4, m5, m6, m7, m8, m9, m10, m11, m12, mf⟩ := HX4.out
      go_wp2_with fail
      refine (rsame_calls x A2 A n2 c2 n c l _ HT4.out HS4.out).mono ?_
      rintro e w5 ⟨rfl, hb5⟩
      have hB5 := keepBelow hb5 hB4
      clear hb5 hB4 HK4 HX4 HS4 HT4 kf mf k0 k1 k2 k3 k4 k5 k6 k7 k8 k9 k10 k11 k12 m0 m1 m2 m3 m4 m5 m6 m7 m8 m9 m10 m11 m12
      go_wp2
      go_returns
      exact ret_bool (by simp) hB5

end Go.Proofs.Ytmkmmblgmldilaa
