/- The walk of BodyPlaced. -/
import Derived.Test.YtmkmmblgmldilaaM16
import Derived.Test.YtmkmmblgmldilaaJ11
namespace Go.Proofs.Ytmkmmblgmldilaa
set_option linter.unusedVariables false
set_option linter.unusedSimpArgs false
open Go.RowKit

theorem valid_calls (x y u v : Int) (h1 : x ≤ u) (h2 : y ≤ v) (w : World) : Calls Try.prog 51 #[boxV x y u v] w (Ret (.bool true) w) := by
  go_enter Try.func51, Try.ntmps51
  go_wp2
  go_returns
  exact ret_bool (by simp) (by go_grown)

set_option maxRecDepth 100000 in
set_option maxHeartbeats 8000000 in
theorem bodyPlaced_walk (A : Option Addr) (n c : Nat) (r : List Int) (w : World) (hS : SlI w A n c r) :
    Calls Try.prog 8 #[.slice A n c] w (Ret (.bool true) w) := by
  have HSI := hid hS
  clear hS
  go_enter Try.func8, Try.ntmps8
  go_wp2_with fail
  refine (mBody_calls _ _ _ r _ HSI.out).mono ?_
  rintro e w1 ⟨b, l, A1, n1, c1, rfl, hmb, hml, hs1, hf1, hb1⟩
  have HL := hid (placedLaw hmb hml)
  have hE := HL.out.ok
  have hpr : placeR b l = placeL b l := by unfold placeR; rw [if_neg (by simp [hE])]
  obtain ⟨L, hL⟩ : ∃ L, L = placeL b l := ⟨_, rfl⟩
  have hLl : L.length = l.length := by rw [hL, placeL_len]
  obtain ⟨m1, hm1⟩ : ∃ m, m = minL (xsL (placeL b l)) := ⟨_, rfl⟩
  obtain ⟨m2, hm2⟩ : ∃ m, m = minL (ysL (placeL b l)) := ⟨_, rfl⟩
  obtain ⟨m3, hm3⟩ : ∃ m, m = maxL (xsL (placeL b l)) := ⟨_, rfl⟩
  obtain ⟨m4, hm4⟩ : ∃ m, m = maxL (ysL (placeL b l)) := ⟨_, rfl⟩
  have HPC : Hid (∀ (w : World) (A : Option Addr) (n c : Nat), Sl w A n c l → Calls Try.prog 48 #[bodyV b A n c] w (RetPl L w)) := fun w A n c h => by
    have := bplace_calls b A n c l w h
    rwa [hpr, ← hL] at this
  have HBN : Hid (∀ (w : World) (A : Option Addr) (n c : Nat), Sl w A n c l → Calls Try.prog 49 #[bodyV b A n c] w (Ret (boxV m1 m2 m3 m4) w)) := fun w A n c h => by
    have := bbounds_calls b A n c l w h
    rwa [show bndV b l = boxV m1 m2 m3 m4 by unfold bndV; rw [if_neg (by simp [hE]), hm1, hm2, hm3, hm4]] at this
  have HCH : Hid (checkE L = 0) := by show _ = _; rw [hL]; exact HL.out.check
  have HIN : Hid (∀ j, j < L.length → (m1 ≤ px L j ∧ px L j ≤ m3) ∧ (m2 ≤ py L j ∧ py L j ≤ m4)) := fun j hj => by
    rw [hL, placeL_len] at hj
    rw [hL, hm1, hm2, hm3, hm4]
    exact ⟨HL.out.lx j hj, HL.out.ly j hj⟩
  have HBB : Hid ((-2000000 ≤ m1 ∧ m1 ≤ b.px + 2) ∧ (b.px - 2 ≤ m3 ∧ m3 ≤ 2000000) ∧ (-2000000 ≤ m2 ∧ m2 ≤ b.py + 2) ∧ (b.py - 2 ≤ m4 ∧ m4 ≤ 2000000) ∧ (-655360 ≤ b.px ∧ b.px ≤ 655360) ∧ (-655360 ≤ b.py ∧ b.py ≤ 655360)) := by
    rw [hm1, hm2, hm3, hm4]
    exact ⟨HL.out.bx.1, HL.out.bx.2, HL.out.bY.1, HL.out.bY.2, HL.out.pos.1, HL.out.pos.2⟩
  have hlen := HL.out.len
  have HNE : Hid (L ≠ []) := by show _ ≠ _; intro h; rw [h] at hLl; simp at hLl; omega
  have hn1 := hs1.len
  subst hn1
  rw [← hLl] at hs1 hlen ⊢
  have HLL := hid hLl
  clear hL hLl hm1 hm2 hm3 hm4 hpr hE HL
  obtain ⟨gb, hgb⟩ : ∃ g, g = w1.heap.size := ⟨_, rfl⟩
  obtain ⟨w2, hw2⟩ : ∃ w2, w2 = w1.alloc (.cells #[.int .i64 b.px, .int .i64 b.py, .int .i64 b.vx, .int .i64 b.vy, .int .i64 b.ang, .int .i64 b.spin, .int .i64 b.mass, .int .i64 b.iner, .int .i64 b.bounce, .int .i64 b.rub, .slice A1 L.length c1, .bool b.asleep, .int .i64 b.calm] 39) := ⟨_, rfl⟩
  have HK2 := hid (show BdAt w2 gb b A1 L.length c1 by rw [hw2, hgb]; exact BdAt.here w1 b A1 L.length c1 _)
  have HS2 := hid (show Sl w2 A1 L.length c1 l by rw [hw2]; exact hs1.alloc _)
  have hB2 : Below w.heap.size w w2 := by rw [hw2]; exact hb1.alloc hb1.size _
  have hgw : w.heap.size ≤ gb := by rw [hgb]; exact hb1.size
  clear hmb hml hs1 hf1 hb1 HSI
  go_upto_region 2 with fail
  rw [← hw2, ← hgb]
  clear hw2 hgb
  go_cut [4, 5] from 10 to 13 (fun t u wx => ∃ A3 n3 c3 gx, t = .slice A3 n3 c3 ∧ u = .pointer (some ⟨gx, 0, none⟩) ∧ gb < gx ∧ BxAt wx gx m1 m2 m3 m4 ∧ Sl wx A3 n3 c3 L ∧ BdAt wx gb b A1 L.length c1 ∧ Below w.heap.size w wx)
  case first =>
    refine wp_region_noPanic ?_
    refine wp_region_U (S := (S2 (fun w' => BdAt w' gb b A1 L.length c1 ∧ Sl w' A1 L.length c1 l ∧ Below w.heap.size w w'))) (T := (fun j => [0, 0, 0, 0, 0, 0, 1].getD j 0)) (by kernel_rfl) (S2i0 ⟨HK2.out.drew, HS2.out.drew', hB2.drew⟩) (fun hH => ?_)
    have hWr1 : Weaker (S2 (fun w' => BdAt w' gb b A1 L.length c1 ∧ Sl w' A1 L.length c1 l ∧ Below w.heap.size w w')) := weaker2 _
    refine U_take 0 10 6 0 0 (v := ?vr1_1) rfl (by kernel_rfl) (by kernel_rfl) hWr1 (by kernel_rfl) (by kernel_rfl) (by kernel_rfl) (by kernel_rfl) (by kernel_rfl) (by kernel_rfl) (fun _ _ _ _ h => h) (by kernel_rfl) ?hyr1_1 (by omega) hH ?_
    case hyr1_1 => (intro w' hSw; replace hSw := S2o0 hSw; (try dsimp only at hSw); have q0 := hSw.1; have q1 := hSw.2.1; have q2 := hSw.2.2; obtain ⟨qa0_0, qa0_1, qa0_2, qa0_3, qa0_4, qa0_5, qa0_6, qa0_7, qa0_8, qa0_9, qa0_10, qa0_11, qa0_12, qa0_f⟩ := id q0; go_simp; try (with_reducible rfl))
    simp only [List.set_cons_zero, List.set_cons_succ]
    refine U_take 2 12 5 0 0 (v := ?vr1_2) rfl (by kernel_rfl) (by kernel_rfl) hWr1 (by kernel_rfl) (by kernel_rfl) (by kernel_rfl) (by kernel_rfl) (by kernel_rfl) (by kernel_rfl) (fun _ _ _ _ h => h) (by kernel_rfl) ?hyr1_2 (by omega) hH ?_
    case hyr1_2 => (intro w' hSw; replace hSw := S2o0 hSw; (try dsimp only at hSw); have q0 := hSw.1; have q1 := hSw.2.1; have q2 := hSw.2.2; obtain ⟨qa0_0, qa0_1, qa0_2, qa0_3, qa0_4, qa0_5, qa0_6, qa0_7, qa0_8, qa0_9, qa0_10, qa0_11, qa0_12, qa0_f⟩ := id q0; go_simp; try (with_reducible rfl))
    simp only [List.set_cons_zero, List.set_cons_succ]
    refine wpAnyU_ready (rs := [1, 4]) (by kernel_rfl) (by simp) ?_
    refine AllReadyU.cons 0 (by kernel_rfl) (o := _) rfl (fun K hK => ?_) ?_
    · try clear hb
      have hG := hH
      replace hG := S2o0 hG; (try dsimp only at hG); have q0 := hG.1; have q1 := hG.2.1; have q2 := hG.2.2
      go_simp
      (go_at_call 48; refine (HPC.out _ _ _ _ q1).mono ?_; rintro e wn ⟨A3, n3, c3, rfl, hs3, hnil, hf3, hb⟩)
      refine hK.out _ _ ?hsr1_3 (fun hH2 => ?hrr1_3)
      case hsr1_3 => exact S2i0 (by have hG := hH; replace hG := S2o0 hG; (try dsimp only at hG); have q0 := hG.1; have q1 := hG.2.1; have q2 := hG.2.2; exact ⟨keepBd hb q0, keepSl hb q1, keepBelow hb q2⟩)
      clear hK K hH
      have hH := hH2
      clear hH2
      try simp only [Act.put, List.setIfInBounds_toArray, List.set_cons_zero, List.set_cons_succ]
      refine wpAnyU_ready (rs := [3, 4]) (by kernel_rfl) (by simp) ?_
      refine AllReadyU.cons 0 (by kernel_rfl) (o := _) rfl (fun K hK => ?_) ?_
      · try clear hb
        have hG := hH
        replace hG := S2o0 hG; (try dsimp only at hG); have q0 := hG.1; have q1 := hG.2.1; have q2 := hG.2.2
        go_simp
        (go_at_call 49; refine (HBN.out _ _ _ _ q1).mono ?_; rintro e wn ⟨rfl, hb⟩; replace hs3 := Sl.below hs3 hb)
        refine hK.out _ _ ?hsr1_4 (fun hH2 => ?hrr1_4)
        case hsr1_4 => exact S2i0 (by have hG := hH; replace hG := S2o0 hG; (try dsimp only at hG); have q0 := hG.1; have q1 := hG.2.1; have q2 := hG.2.2; exact ⟨keepBd hb q0, keepSl hb q1, keepBelow hb q2⟩)
        clear hK K hH
        have hH := hH2
        clear hH2
        try simp only [Act.put, List.setIfInBounds_toArray, List.set_cons_zero, List.set_cons_succ]
        refine wpAnyU_ready (rs := [4]) (by kernel_rfl) (by simp) ?_
        refine AllReadyU.cons 0 (by kernel_rfl) (o := _) rfl (fun K hK => ?_) AllReadyU.nil
        try clear hb
        have hG := hH
        replace hG := S2o0 hG; (try dsimp only at hG); have q0 := hG.1; have q1 := hG.2.1; have q2 := hG.2.2
        go_simp
        refine hK.out _ _ ?hsr1_5 (fun hH2 => ?hrr1_5)
        case hsr1_5 => exact S2i0 (by have hG := hH; replace hG := S2o0 hG; (try dsimp only at hG); have q0 := hG.1; have q1 := hG.2.1; have q2 := hG.2.2; exact ⟨q0.alloc _, Sl.alloc q1 _, q2.alloc q2.size _⟩)
        clear hK K hH
        have hH := hH2
        clear hH2
        try simp only [Act.put, List.setIfInBounds_toArray, List.set_cons_zero, List.set_cons_succ]
        have hT : B4 (wn.alloc (.cells #[.int .i64 0, .int .i64 0, .int .i64 0, .int .i64 0] 67)) wn.heap.size := B4.here _ _ _ _ _ _
        obtain ⟨gT, hgT⟩ : ∃ g, g = wn.heap.size := ⟨_, rfl⟩
        have hlT : gb < gT := by rw [hgT]; exact q0.lt
        have hx3 : ∀ bx off, A3 = some ⟨bx, off, none⟩ → bx ≠ gT := fun bx off e => by obtain ⟨b2, off2, e2, hc2⟩ := hs3.at_ HNE.out; rw [e] at e2; cases e2; have := hc2.lt; omega
        replace hs3 := Sl.alloc hs3 (.cells #[.int .i64 0, .int .i64 0, .int .i64 0, .int .i64 0] 67)
        rw [← hgT] at hT
        try rw [← hgT]
        clear hgT q0 q1 q2
        generalize wn.alloc (.cells #[.int .i64 0, .int .i64 0, .int .i64 0, .int .i64 0] 67) = wx4 at *
        refine U_take 5 4 1 0 0 (v := ?vr1_6) rfl (by kernel_rfl) (by kernel_rfl) hWr1 (by kernel_rfl) (by kernel_rfl) (by kernel_rfl) (by kernel_rfl) (by kernel_rfl) (by kernel_rfl) (fun _ _ _ _ h => h) (by kernel_rfl) ?hyr1_6 (by omega) hH ?_
        case hyr1_6 => (intro w' hSw; clear hSw; go_simp; try (with_reducible rfl))
        simp only [List.set_cons_zero, List.set_cons_succ]
        refine wpAnyU_ready (rs := [6]) (by kernel_rfl) (by simp) ?_
        refine AllReadyU.cons 1 (by kernel_rfl) (o := _) rfl (fun K hK => ?_) AllReadyU.nil
        have hG := hH
        replace hG := S2o0 hG; (try dsimp only at hG); have q0 := hG.1; have q1 := hG.2.1; have q2 := hG.2.2
        obtain ⟨⟨z0, z1, z2, z3, y0, y1, y2, y3⟩, yf⟩ := hT
        go_simp
        refine hK.out _ _ ?hsr1_7 (fun hH2 => ?hrr1_7)
        case hsr1_7 => exact S2i1
        clear hK K hH
        have hH := hH2
        clear hH2
        try simp only [Act.put, List.setIfInBounds_toArray, List.set_cons_zero, List.set_cons_succ]
        refine wpAnyU_done (by kernel_rfl) ?_ _ _
        refine NoPanic.normal ?_
        go_wp2_with fail
        go_meet
        exact ⟨A3, n3, c3, gT, rfl, rfl, hlT, ⟨by go_simp, by go_simp, by go_simp, by go_simp, fun j => by rw [World.frozen?_setCell, World.frozen?_setCell, World.frozen?_setCell, World.frozen?_setCell]; exact yf j⟩, (((hs3.setAt hx3).setAt hx3).setAt hx3).setAt hx3, (((q0.away _ _ _ (by omega)).away _ _ _ (by omega)).away _ _ _ (by omega)).away _ _ _ (by omega), by go_grown⟩
      refine AllReadyU.cons 0 (by kernel_rfl) (o := _) rfl (fun K hK => ?_) ?_
      · try clear hb
        have hG := hH
        replace hG := S2o0 hG; (try dsimp only at hG); have q0 := hG.1; have q1 := hG.2.1; have q2 := hG.2.2
        go_simp
        refine hK.out _ _ ?hsr1_8 (fun hH2 => ?hrr1_8)
        case hsr1_8 => exact S2i0 (by have hG := hH; replace hG := S2o0 hG; (try dsimp only at hG); have q0 := hG.1; have q1 := hG.2.1; have q2 := hG.2.2; exact ⟨q0.alloc _, Sl.alloc q1 _, q2.alloc q2.size _⟩)
        clear hK K hH
        have hH := hH2
        clear hH2
        try simp only [Act.put, List.setIfInBounds_toArray, List.set_cons_zero, List.set_cons_succ]
        have hT : B4 (wn.alloc (.cells #[.int .i64 0, .int .i64 0, .int .i64 0, .int .i64 0] 67)) wn.heap.size := B4.here _ _ _ _ _ _
        obtain ⟨gT, hgT⟩ : ∃ g, g = wn.heap.size := ⟨_, rfl⟩
        have hlT : gb < gT := by rw [hgT]; exact q0.lt
        have hx3 : ∀ bx off, A3 = some ⟨bx, off, none⟩ → bx ≠ gT := fun bx off e => by obtain ⟨b2, off2, e2, hc2⟩ := hs3.at_ HNE.out; rw [e] at e2; cases e2; have := hc2.lt; omega
        replace hs3 := Sl.alloc hs3 (.cells #[.int .i64 0, .int .i64 0, .int .i64 0, .int .i64 0] 67)
        rw [← hgT] at hT
        try rw [← hgT]
        clear hgT q0 q1 q2
        generalize wn.alloc (.cells #[.int .i64 0, .int .i64 0, .int .i64 0, .int .i64 0] 67) = wx4 at *
        refine wpAnyU_ready (rs := [3]) (by kernel_rfl) (by simp) ?_
        refine AllReadyU.cons 0 (by kernel_rfl) (o := _) rfl (fun K hK => ?_) AllReadyU.nil
        try clear hb
        have hG := hH
        replace hG := S2o0 hG; (try dsimp only at hG); have q0 := hG.1; have q1 := hG.2.1; have q2 := hG.2.2
        go_simp
        (go_at_call 49; refine (HBN.out _ _ _ _ q1).mono ?_; rintro e wn ⟨rfl, hb⟩; replace hs3 := Sl.below hs3 hb); (replace hT := keepB4 hb hT)
        refine hK.out _ _ ?hsr1_9 (fun hH2 => ?hrr1_9)
        case hsr1_9 => exact S2i0 (by have hG := hH; replace hG := S2o0 hG; (try dsimp only at hG); have q0 := hG.1; have q1 := hG.2.1; have q2 := hG.2.2; exact ⟨keepBd hb q0, keepSl hb q1, keepBelow hb q2⟩)
        clear hK K hH
        have hH := hH2
        clear hH2
        try simp only [Act.put, List.setIfInBounds_toArray, List.set_cons_zero, List.set_cons_succ]
        refine U_take 5 4 1 0 0 (v := ?vr1_10) rfl (by kernel_rfl) (by kernel_rfl) hWr1 (by kernel_rfl) (by kernel_rfl) (by kernel_rfl) (by kernel_rfl) (by kernel_rfl) (by kernel_rfl) (fun _ _ _ _ h => h) (by kernel_rfl) ?hyr1_10 (by omega) hH ?_
        case hyr1_10 => (intro w' hSw; clear hSw; go_simp; try (with_reducible rfl))
        simp only [List.set_cons_zero, List.set_cons_succ]
        refine wpAnyU_ready (rs := [6]) (by kernel_rfl) (by simp) ?_
        refine AllReadyU.cons 1 (by kernel_rfl) (o := _) rfl (fun K hK => ?_) AllReadyU.nil
        have hG := hH
        replace hG := S2o0 hG; (try dsimp only at hG); have q0 := hG.1; have q1 := hG.2.1; have q2 := hG.2.2
        obtain ⟨⟨z0, z1, z2, z3, y0, y1, y2, y3⟩, yf⟩ := hT
        go_simp
        refine hK.out _ _ ?hsr1_11 (fun hH2 => ?hrr1_11)
        case hsr1_11 => exact S2i1
        clear hK K hH
        have hH := hH2
        clear hH2
        try simp only [Act.put, List.setIfInBounds_toArray, List.set_cons_zero, List.set_cons_succ]
        refine wpAnyU_done (by kernel_rfl) ?_ _ _
        refine NoPanic.normal ?_
        go_wp2_with fail
        go_meet
        exact ⟨A3, n3, c3, gT, rfl, rfl, hlT, ⟨by go_simp, by go_simp, by go_simp, by go_simp, fun j => by rw [World.frozen?_setCell, World.frozen?_setCell, World.frozen?_setCell, World.frozen?_setCell]; exact yf j⟩, (((hs3.setAt hx3).setAt hx3).setAt hx3).setAt hx3, (((q0.away _ _ _ (by omega)).away _ _ _ (by omega)).away _ _ _ (by omega)).away _ _ _ (by omega), by go_grown⟩
      exact AllReadyU.nil
    refine AllReadyU.cons 0 (by kernel_rfl) (o := _) rfl (fun K hK => ?_) ?_
    · try clear hb
      have hG := hH
      replace hG := S2o0 hG; (try dsimp only at hG); have q0 := hG.1; have q1 := hG.2.1; have q2 := hG.2.2
      go_simp
      refine hK.out _ _ ?hsr1_12 (fun hH2 => ?hrr1_12)
      case hsr1_12 => exact S2i0 (by have hG := hH; replace hG := S2o0 hG; (try dsimp only at hG); have q0 := hG.1; have q1 := hG.2.1; have q2 := hG.2.2; exact ⟨q0.alloc _, Sl.alloc q1 _, q2.alloc q2.size _⟩)
      clear hK K hH
      have hH := hH2
      clear hH2
      try simp only [Act.put, List.setIfInBounds_toArray, List.set_cons_zero, List.set_cons_succ]
      have hT : B4 ((w2.alloc (.cells #[.int .i64 0, .int .i64 0, .int .i64 0, .int .i64 0] 67)).drew) w2.heap.size := B4.drew (B4.here _ _ _ _ _ _)
      obtain ⟨gT, hgT⟩ : ∃ g, g = w2.heap.size := ⟨_, rfl⟩
      have hlT : gb < gT := by rw [hgT]; exact q0.lt
      rw [← hgT] at hT
      try rw [← hgT]
      clear hgT q0 q1 q2
      generalize (w2.alloc (.cells #[.int .i64 0, .int .i64 0, .int .i64 0, .int .i64 0] 67)).drew = wx4 at *
      refine wpAnyU_ready (rs := [1]) (by kernel_rfl) (by simp) ?_
      refine AllReadyU.cons 0 (by kernel_rfl) (o := _) rfl (fun K hK => ?_) AllReadyU.nil
      try clear hb
      have hG := hH
      replace hG := S2o0 hG; (try dsimp only at hG); have q0 := hG.1; have q1 := hG.2.1; have q2 := hG.2.2
      go_simp
      (go_at_call 48; refine (HPC.out _ _ _ _ q1).mono ?_; rintro e wn ⟨A3, n3, c3, rfl, hs3, hnil, hf3, hb⟩; have hx3 : ∀ bx off, A3 = some ⟨bx, off, none⟩ → bx ≠ gT := fun bx off e => by have := hf3 bx off e; have := hT.lt; omega); (replace hT := keepB4 hb hT)
      refine hK.out _ _ ?hsr1_13 (fun hH2 => ?hrr1_13)
      case hsr1_13 => exact S2i0 (by have hG := hH; replace hG := S2o0 hG; (try dsimp only at hG); have q0 := hG.1; have q1 := hG.2.1; have q2 := hG.2.2; exact ⟨keepBd hb q0, keepSl hb q1, keepBelow hb q2⟩)
      clear hK K hH
      have hH := hH2
      clear hH2
      try simp only [Act.put, List.setIfInBounds_toArray, List.set_cons_zero, List.set_cons_succ]
      refine wpAnyU_ready (rs := [3]) (by kernel_rfl) (by simp) ?_
      refine AllReadyU.cons 0 (by kernel_rfl) (o := _) rfl (fun K hK => ?_) AllReadyU.nil
      try clear hb
      have hG := hH
      replace hG := S2o0 hG; (try dsimp only at hG); have q0 := hG.1; have q1 := hG.2.1; have q2 := hG.2.2
      go_simp
      (go_at_call 49; refine (HBN.out _ _ _ _ q1).mono ?_; rintro e wn ⟨rfl, hb⟩; replace hs3 := Sl.below hs3 hb); (replace hT := keepB4 hb hT)
      refine hK.out _ _ ?hsr1_14 (fun hH2 => ?hrr1_14)
      case hsr1_14 => exact S2i0 (by have hG := hH; replace hG := S2o0 hG; (try dsimp only at hG); have q0 := hG.1; have q1 := hG.2.1; have q2 := hG.2.2; exact ⟨keepBd hb q0, keepSl hb q1, keepBelow hb q2⟩)
      clear hK K hH
      have hH := hH2
      clear hH2
      try simp only [Act.put, List.setIfInBounds_toArray, List.set_cons_zero, List.set_cons_succ]
      refine U_take 5 4 1 0 0 (v := ?vr1_15) rfl (by kernel_rfl) (by kernel_rfl) hWr1 (by kernel_rfl) (by kernel_rfl) (by kernel_rfl) (by kernel_rfl) (by kernel_rfl) (by kernel_rfl) (fun _ _ _ _ h => h) (by kernel_rfl) ?hyr1_15 (by omega) hH ?_
      case hyr1_15 => (intro w' hSw; clear hSw; go_simp; try (with_reducible rfl))
      simp only [List.set_cons_zero, List.set_cons_succ]
      refine wpAnyU_ready (rs := [6]) (by kernel_rfl) (by simp) ?_
      refine AllReadyU.cons 1 (by kernel_rfl) (o := _) rfl (fun K hK => ?_) AllReadyU.nil
      have hG := hH
      replace hG := S2o0 hG; (try dsimp only at hG); have q0 := hG.1; have q1 := hG.2.1; have q2 := hG.2.2
      obtain ⟨⟨z0, z1, z2, z3, y0, y1, y2, y3⟩, yf⟩ := hT
      go_simp
      refine hK.out _ _ ?hsr1_16 (fun hH2 => ?hrr1_16)
      case hsr1_16 => exact S2i1
      clear hK K hH
      have hH := hH2
      clear hH2
      try simp only [Act.put, List.setIfInBounds_toArray, List.set_cons_zero, List.set_cons_succ]
      refine wpAnyU_done (by kernel_rfl) ?_ _ _
      refine NoPanic.normal ?_
      go_wp2_with fail
      go_meet
      exact ⟨A3, n3, c3, gT, rfl, rfl, hlT, ⟨by go_simp, by go_simp, by go_simp, by go_simp, fun j => by rw [World.frozen?_setCell, World.frozen?_setCell, World.frozen?_setCell, World.frozen?_setCell]; exact yf j⟩, (((hs3.setAt hx3).setAt hx3).setAt hx3).setAt hx3, (((q0.away _ _ _ (by omega)).away _ _ _ (by omega)).away _ _ _ (by omega)).away _ _ _ (by omega), by go_grown⟩
    exact AllReadyU.nil
  case rest =>
    obtain ⟨A3, n3, c3, gx, rfl, rfl, hgx, h1, h2, h3, hB3⟩ := hcut
    have HX3 := hid h1
    have HP3 := hid h2
    have HK3 := hid h3
    have hn3 := h2.len
    subst hn3
    clear h1 h2 h3 HK2 HS2 hB2 HPC HBN
    go_wp2_with fail
    refine (pushes_calls _).mono ?_
    rintro e w4 ⟨rfl, hb4⟩
    have HX4 := hid (keepBx hb4 HX3.out)
    have HP4 := hid (keepSl hb4 HP3.out)
    have HK4 := hid (keepBd hb4 HK3.out)
    have hB4 := keepBelow hb4 hB3
    clear hb4 HX3 HP3 HK3 hB3
    go_wp2_with fail
    refine (check_calls A3 L.length c3 L _ HP4.out).mono ?_
    rintro e w5 ⟨rfl, hb5⟩
    rw [HCH.out]
    have HX5 := hid (keepBx hb5 HX4.out)
    have HP5 := hid (keepSl hb5 HP4.out)
    have HK5 := hid (keepBd hb5 HK4.out)
    have hB5 := keepBelow hb5 hB4
    clear hb5 HX4 HP4 HK4 hB4
    obtain ⟨k0, k1, k2, k3, k4, k5, k6, k7, k8, k9, k10, k11, k12, kf⟩ := HK5.out
    obtain ⟨x0, x1, x2, x3, xf⟩ := HX5.out
    obtain ⟨e1, e2, e3, e4, e5, e6⟩ := HBB.out
    have hin0 := HIN.out 0 (by omega)
    go_wp2_with fail
    refine (valid_calls m1 m2 m3 m4 (by omega) (by omega) _).mono ?_
    rintro e w6 ⟨rfl, hb6⟩
    have HX6 := hid (keepBx hb6 HX5.out)
    have HP6 := hid (keepSl hb6 HP5.out)
    have HK6 := hid (keepBd hb6 HK5.out)
    have hB6 := keepBelow hb6 hB5
    clear k0 k1 k2 k3 k4 k5 k6 k7 k8 k9 k10 k11 k12 kf
    clear hb6 HX5 HP5 HK5 hB5 x0 x1 x2 x3 xf hin0
    go_wp2
    go_loopw [36] (fun i wr => ∃ k : Nat, k ≤ L.length ∧ i = .int .i64 k ∧ Below w6.heap.size w6 wr) (fun i _ => L.length - (intOf i).toNat)
    case atStart => exact ⟨0, Nat.zero_le _, rfl, Below.refl _ _⟩
    case round =>
      obtain ⟨k, hk, rfl, hB⟩ := hrel
      obtain ⟨wo, rfl⟩ : ∃ wo : World, wo = wr := ⟨_, rfl⟩
      have HX := hid (keepBx hB HX6.out)
      have HK := hid (keepBd hB HK6.out)
      have hBw := keepBelow hB hB6
      by_cases hlt : k < L.length
      · obtain ⟨ba, off, hA, hC⟩ := (keepSl hB HP6.out).at_ HNE.out
        subst hA
        have hx := hC.x k hlt
        have hy := hC.y k hlt
        have hbo := hC.lt
        obtain ⟨⟨i1, i2⟩, ⟨i3, i4⟩⟩ := HIN.out k hlt
        obtain ⟨u, hu⟩ : ∃ u, u = px L k := ⟨_, rfl⟩
        obtain ⟨v, hv⟩ : ∃ v, v = py L k := ⟨_, rfl⟩
        rw [← hu] at hx i1 i2
        rw [← hv] at hy i3 i4
        clear hu hv
        obtain ⟨wa, hwa⟩ : ∃ wa, wa = wo.alloc (.cells #[.int .i64 u, .int .i64 v] 34) := ⟨_, rfl⟩
        obtain ⟨gp, hgp⟩ : ∃ g, g = wo.heap.size := ⟨_, rfl⟩
        have p0 : wa.cell? ⟨gp, 0, none⟩ = some (.int .i64 u) := by rw [hwa, hgp]; go_simp
        have p1 : wa.cell? ⟨gp, 1, none⟩ = some (.int .i64 v) := by rw [hwa, hgp]; go_simp
        have hbA : Below wo.heap.size wo wa := by rw [hwa]; exact (Below.refl _ _).alloc (Nat.le_refl _) _
        have hBn := keepBelow hbA hB
        obtain ⟨x0, x1, x2, x3, xf⟩ := keepBx hbA HX.out
        have n1 : ¬ u < m1 := by omega
        have n2 : ¬ m3 < u := by omega
        have n3 : ¬ v < m2 := by omega
        have n4 : ¬ m4 < v := by omega
        clear HX HK hB hBw hC i1 i2 i3 i4 hbA
        go_upto_region 8 with fail
        rw [← hwa, ← hgp]
        clear hwa hgp hx hy hbo
        go_wp2
        go_roundw
        case rel => exact ⟨k + 1, hlt, by go_num, hBn⟩
        case measure => simp [intOf]; omega
      · have hge : L.length ≤ k := by omega
        obtain ⟨k0, k1, k2, k3, k4, k5, k6, k7, k8, k9, k10, k11, k12, kf⟩ := HK.out
        obtain ⟨x0, x1, x2, x3, xf⟩ := HX.out
        have u1 : IntKind.i64.wrap (m1 - 2) = m1 - 2 := IntWalk.i64_in _ (by omega)
        have u2 : IntKind.i64.wrap (m2 - 2) = m2 - 2 := IntWalk.i64_in _ (by omega)
        have u3 : IntKind.i64.wrap (m3 + 2) = m3 + 2 := IntWalk.i64_in _ (by omega)
        have u4 : IntKind.i64.wrap (m4 + 2) = m4 + 2 := IntWalk.i64_in _ (by omega)
        have c1 : m1 - 2 ≤ b.px := by omega
        have c2 : b.px ≤ m3 + 2 := by omega
        have c3' : m2 - 2 ≤ b.py := by omega
        have c4 : b.py ≤ m4 + 2 := by omega
        clear HK HX e1 e2 e3 e4 e5 e6
        go_wp2
        go_returns
        exact ret_bool (by simp) hBw

end Go.Proofs.Ytmkmmblgmldilaa
