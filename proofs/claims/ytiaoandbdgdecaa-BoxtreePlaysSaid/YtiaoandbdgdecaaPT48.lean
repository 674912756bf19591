/- Parts of a proof: contracts and laws. -/
import Derived.Test.YtiaoandbdgdecaaPT47
namespace Go.Proofs.Ytiaoandbdgdecaa
section
set_option linter.unusedVariables false
set_option linter.unusedSimpArgs false
open Go.RowKit
theorem keepCellB {w w' : World} {g o : Nat} {v : Value} (hb : Below w.heap.size w w') (h : w.cell? ⟨g, o, none⟩ = some v) : w'.cell? ⟨g, o, none⟩ = some v := keepCell hb h
theorem CellsE.keepB {α : Type} {L : Lay α} {w w' : World} {b off : Nat} {l : List α} (hb : Below w.heap.size w w') (h : CellsE L w b off l) : CellsE L w' b off l := CellsE.below hb h
set_option maxRecDepth 100000 in
set_option maxHeartbeats 16000000 in
theorem found_calls {w : World} {g : Nat} {D : Nat → Prop} {H : Nat → Bool} {X : Nat → Bx} (h : TrA w g D (FofH H X)) (dO id b1 b2 b3 b4 : Int) :
    Calls Try.prog 18 #[.pointer (some ⟨g, 0, none⟩), .agg #[.int .i64 dO, .int .i64 id, .int .i64 b1, .int .i64 b2, .int .i64 b3, .int .i64 b4], .agg (hasV H), .agg (bxsV X)] w (Ret (.bool true) w) := by
  obtain ⟨av, hav⟩ : ∃ x, x = hasV H := ⟨_, rfl⟩
  obtain ⟨bv, hbv⟩ : ∃ x, x = bxsV X := ⟨_, rfl⟩
  rw [← hav, ← hbv]
  obtain ⟨wB, hwB⟩ : ∃ x, x = ((w.alloc (.cells #[.int .i64 dO, .int .i64 id, .int .i64 b1, .int .i64 b2, .int .i64 b3, .int .i64 b4] 44)).alloc (.cells av 41)).alloc (.cells bv 42) := ⟨_, rfl⟩
  obtain ⟨ga, hga⟩ : ∃ x, x = w.heap.size := ⟨_, rfl⟩
  obtain ⟨gh, hgh⟩ : ∃ x, x = w.heap.size + 1 := ⟨_, rfl⟩
  obtain ⟨gx, hgx⟩ : ∃ x, x = w.heap.size + 1 + 1 := ⟨_, rfl⟩
  have hbB : Below w.heap.size w wB := by rw [hwB]; go_grown
  have AB2 : Hid (wB.cell? ⟨ga, 2, none⟩ = some (.int .i64 b1)) := by show _ = _; rw [hwB, hga]; go_simp
  have AB3 : Hid (wB.cell? ⟨ga, 3, none⟩ = some (.int .i64 b2)) := by show _ = _; rw [hwB, hga]; go_simp
  have AB4 : Hid (wB.cell? ⟨ga, 4, none⟩ = some (.int .i64 b3)) := by show _ = _; rw [hwB, hga]; go_simp
  have AB5 : Hid (wB.cell? ⟨ga, 5, none⟩ = some (.int .i64 b4)) := by show _ = _; rw [hwB, hga]; go_simp
  have hhB : wB.heap[gh]? = some (.cells av 41) := by
    obtain ⟨W0, hW0⟩ : ∃ x, x = w.alloc (.cells #[.int .i64 dO, .int .i64 id, .int .i64 b1, .int .i64 b2, .int .i64 b3, .int .i64 b4] 44) := ⟨_, rfl⟩
    have hs : W0.heap.size = gh := by rw [hW0, hgh]; simp
    rw [hwB, ← hW0, ← hs]
    have h1 := heap_alloc_new W0 (.cells av 41)
    exact (Below.alloc (Below.refl (W0.heap.size + 1) (W0.alloc (.cells av 41))) (by simp) (.cells bv 42)).block _ (Nat.lt_succ_self _) |>.trans h1
  have hxB : wB.heap[gx]? = some (.cells bv 42) := by
    obtain ⟨W1, hW1⟩ : ∃ x, x = (w.alloc (.cells #[.int .i64 dO, .int .i64 id, .int .i64 b1, .int .i64 b2, .int .i64 b3, .int .i64 b4] 44)).alloc (.cells av 41) := ⟨_, rfl⟩
    have hs : W1.heap.size = gx := by rw [hW1, hgx]; simp
    rw [hwB, ← hW1, ← hs]
    exact heap_alloc_new W1 _
  have HAS : Hid (∀ i, i < 256 → wB.cell? ⟨gh, i, none⟩ = some (.bool (H i))) := fun i hi => by
    unfold World.cell?
    rw [hhB, hav]
    show (hasV H)[i]? = _
    unfold hasV
    rw [List.getElem?_toArray]
    exact has_at hi
  have HXS : Hid (CellsE layBox wB gx 0 (bxL X)) := ⟨(Array.getElem?_eq_some_iff.1 hxB).1, fun j hj i u hu => by
    have h1 := flatE_at (L := layBox) (bxL X) j hj i u hu
    unfold World.cell?
    rw [hxB, hbv]
    show (bxsV X)[0 + j * 4 + i]? = _
    unfold bxsV
    rw [List.getElem?_toArray, Nat.zero_add]
    exact h1⟩
  have HTR := hid (TrA.below hbB h)
  have HB0 := hid hbB
  have HS0 : Hid (FoS wB (hitH H X ((b1, b2), (b3, b4)) 0) (hitH H X ((b1, b2), (b1, b2)) 0) (allH H X 0) (.slice none 0 0) (.slice none 0 0) (.slice none 0 0) wB) := ⟨OwnE.nil _ _ _ _, OwnE.nil _ _ _ _, OwnE.nil _ _ _ _, fun k q => (by cases q), fun k q => (by cases q), fun k q => (by cases q), Below.refl _ _⟩
  clear h hbB hhB hxB hav hbv
  go_enter Try.func18, Try.ntmps18
  go_upto_region 1 with fail
  rw [← hwB]
  rw [← hgx]
  rw [← hgh]
  rw [← hga]
  clear hwB hga hgh hgx
  go_wp2
  go_loopw [9, 10, 11, 15] (fun s1 s2 s3 j wr => ∃ k : Nat, k ≤ 256 ∧ j = .int .i64 k ∧ Hid (FoS wB (hitH H X ((b1, b2), (b3, b4)) k) (hitH H X ((b1, b2), (b1, b2)) k) (allH H X k) s1 s2 s3 wr)) (fun _ _ _ j _ => 256 - (intOf j).toNat)
  case atStart => exact ⟨0, Nat.zero_le _, rfl, HS0⟩
  case round =>
    clear HS0
    obtain ⟨k, hk, rfl, HK⟩ := hrel
    obtain ⟨wo, rfl⟩ : ∃ wo : World, wo = wr := ⟨_, rfl⟩
    by_cases hlt : k < 256
    · have hlt' : (k : Int) < 256 := by omega
      have hwk : IntKind.i64.wrap ((k : Int) + 1) = (k : Int) + 1 := IntWalk.i64_in _ (by omega)
      have F00 := hid (keepCellB HK.out.bel (HAS.out k hlt))
      have HXO : Hid (CellsE layBox wo gx 0 (bxL X)) := CellsE.keepB HK.out.bel HXS.out
      have hbx := HXO.out.box (i := k) (by rw [bxL_len]; exact hlt)
      rw [bxL_at hlt] at hbx
      obtain ⟨x, hx⟩ : ∃ x, x = X k := ⟨_, rfl⟩
      rw [← hx] at hbx
      have HXE := hid hx
      obtain ⟨⟨x1, x2⟩, x3, x4⟩ := x
      obtain ⟨q0, q1, q2, q3⟩ := hbx
      rw [Nat.zero_add] at q0 q1 q2 q3
      dsimp only at q0 q1 q2 q3
      have X0 := hid q0
      have X1 := hid q1
      have X2 := hid q2
      have X3 := hid q3
      have A2 := hid (keepCellB HK.out.bel AB2.out)
      have A3 := hid (keepCellB HK.out.bel AB3.out)
      have A4 := hid (keepCellB HK.out.bel AB4.out)
      have A5 := hid (keepCellB HK.out.bel AB5.out)
      clear q0 q1 q2 q3 hx
      go_upto_region 6 with fail
      go_cut [28] from 18 to 27 (fun t wx => ∃ z : Bool, t = .bool z ∧ (z = (H k && tchB (X k) ((b1, b2), (b3, b4)))) ∧ Below wo.heap.size wo wx)
      case first =>
        cases hh : H k with
        | true =>
          have HT : Hid (tchB ((x1, x2), (x3, x4)) ((b1, b2), (b3, b4)) = (H k && tchB (X k) ((b1, b2), (b3, b4)))) := by show _ = _; rw [hh, ← HXE.out]; simp
          have F0 : Hid (wo.cell? ⟨gh, k, none⟩ = some (.bool true)) := by rw [← hh]; exact F00
          clear F00 HK HXO HXE hh HTR HB0
          refine wp_region_noPanic ?_
          refine wp_region_U (S := (S2 (fun w' => w'.cell? ⟨gh, k, none⟩ = some (.bool true) ∧ w'.cell? ⟨gx, k * 4, none⟩ = some (.int .i64 x1) ∧ w'.cell? ⟨gx, k * 4 + 1, none⟩ = some (.int .i64 x2) ∧ w'.cell? ⟨gx, k * 4 + 2, none⟩ = some (.int .i64 x3) ∧ w'.cell? ⟨gx, k * 4 + 3, none⟩ = some (.int .i64 x4) ∧ w'.cell? ⟨ga, 2, none⟩ = some (.int .i64 b1) ∧ w'.cell? ⟨ga, 3, none⟩ = some (.int .i64 b2) ∧ w'.cell? ⟨ga, 4, none⟩ = some (.int .i64 b3) ∧ w'.cell? ⟨ga, 5, none⟩ = some (.int .i64 b4) ∧ Below wo.heap.size wo w'))) (T := (fun _ => 0)) (by kernel_rfl) (S2i0 ⟨F0.out, X0.out, X1.out, X2.out, X3.out, A2.out, A3.out, A4.out, A5.out, (Below.refl _ _).drew⟩) (fun hH => ?_)
          have hWr6 : Weaker (S2 (fun w' => w'.cell? ⟨gh, k, none⟩ = some (.bool true) ∧ w'.cell? ⟨gx, k * 4, none⟩ = some (.int .i64 x1) ∧ w'.cell? ⟨gx, k * 4 + 1, none⟩ = some (.int .i64 x2) ∧ w'.cell? ⟨gx, k * 4 + 2, none⟩ = some (.int .i64 x3) ∧ w'.cell? ⟨gx, k * 4 + 3, none⟩ = some (.int .i64 x4) ∧ w'.cell? ⟨ga, 2, none⟩ = some (.int .i64 b1) ∧ w'.cell? ⟨ga, 3, none⟩ = some (.int .i64 b2) ∧ w'.cell? ⟨ga, 4, none⟩ = some (.int .i64 b3) ∧ w'.cell? ⟨ga, 5, none⟩ = some (.int .i64 b4) ∧ Below wo.heap.size wo w')) := weaker2 _
          refine Ut 0 18 10 0 0 (v := ?vr6_1) rfl hWr6 hH ?yr6_1 ?_
          case yr6_1 => (intro w' hSw; clear hSw; go_simp; try (with_reducible rfl))
          simp only [sB, sC]
          refine Ut 1 19 9 0 0 (v := ?vr6_2) rfl hWr6 hH ?yr6_2 ?_
          case yr6_2 => (intro w' hSw; clear hSw; go_simp; try (with_reducible rfl))
          simp only [sB, sC]
          refine Ut 2 20 8 0 0 (v := ?vr6_3) rfl hWr6 hH ?yr6_3 ?_
          case yr6_3 => (intro w' hSw; replace hSw := S2o0 hSw; (try dsimp only at hSw); have q0 := hSw.1; have q1 := hSw.2.1; have q2 := hSw.2.2.1; have q3 := hSw.2.2.2.1; have q4 := hSw.2.2.2.2.1; have q5 := hSw.2.2.2.2.2.1; have q6 := hSw.2.2.2.2.2.2.1; have q7 := hSw.2.2.2.2.2.2.2.1; have q8 := hSw.2.2.2.2.2.2.2.2.1; have q9 := hSw.2.2.2.2.2.2.2.2.2; go_simp; try (with_reducible rfl))
          simp only [sB, sC]
          refine Ut 3 21 7 0 0 (v := ?vr6_4) rfl hWr6 hH ?yr6_4 ?_
          case yr6_4 => (intro w' hSw; clear hSw; go_simp; try (with_reducible rfl))
          simp only [sB, sC]
          refine Ut 4 22 6 0 0 (v := ?vr6_5) rfl hWr6 hH ?yr6_5 ?_
          case yr6_5 => (intro w' hSw; clear hSw; go_simp; try (with_reducible rfl))
          simp only [sB, sC]
          refine Ut 5 23 5 0 0 (v := ?vr6_6) rfl hWr6 hH ?yr6_6 ?_
          case yr6_6 => (intro w' hSw; clear hSw; go_simp; try (with_reducible rfl))
          simp only [sB, sC]
          refine Ut 6 24 4 0 0 (v := ?vr6_7) rfl hWr6 hH ?yr6_7 ?_
          case yr6_7 => (intro w' hSw; replace hSw := S2o0 hSw; (try dsimp only at hSw); have q0 := hSw.1; have q1 := hSw.2.1; have q2 := hSw.2.2.1; have q3 := hSw.2.2.2.1; have q4 := hSw.2.2.2.2.1; have q5 := hSw.2.2.2.2.2.1; have q6 := hSw.2.2.2.2.2.2.1; have q7 := hSw.2.2.2.2.2.2.2.1; have q8 := hSw.2.2.2.2.2.2.2.2.1; have q9 := hSw.2.2.2.2.2.2.2.2.2; go_simp; try (with_reducible rfl))
          simp only [sB, sC]
          refine Ut 7 25 3 0 0 (v := ?vr6_8) rfl hWr6 hH ?yr6_8 ?_
          case yr6_8 => (intro w' hSw; clear hSw; go_simp; try (with_reducible rfl))
          simp only [sB, sC]
          refine Ut 8 26 2 0 0 (v := ?vr6_9) rfl hWr6 hH ?yr6_9 ?_
          case yr6_9 => (intro w' hSw; replace hSw := S2o0 hSw; (try dsimp only at hSw); have q0 := hSw.1; have q1 := hSw.2.1; have q2 := hSw.2.2.1; have q3 := hSw.2.2.2.1; have q4 := hSw.2.2.2.2.1; have q5 := hSw.2.2.2.2.2.1; have q6 := hSw.2.2.2.2.2.2.1; have q7 := hSw.2.2.2.2.2.2.2.1; have q8 := hSw.2.2.2.2.2.2.2.2.1; have q9 := hSw.2.2.2.2.2.2.2.2.2; go_simp; try (with_reducible rfl))
          simp only [sB, sC]
          refine U1 9 0 rfl (fun K hK => ?_)
          try clear hb
          go_simp
          (go_at_call 35; refine (rtouch_calls x1 x2 x3 x4 b1 b2 b3 b4 _).mono ?_; rintro e wn ⟨rfl, hb⟩)
          refine hK.out _ _ (S2i0 (by have hG := hH; replace hG := S2o0 hG; (try dsimp only at hG); have q0 := hG.1; have q1 := hG.2.1; have q2 := hG.2.2.1; have q3 := hG.2.2.2.1; have q4 := hG.2.2.2.2.1; have q5 := hG.2.2.2.2.2.1; have q6 := hG.2.2.2.2.2.2.1; have q7 := hG.2.2.2.2.2.2.2.1; have q8 := hG.2.2.2.2.2.2.2.2.1; have q9 := hG.2.2.2.2.2.2.2.2.2; exact ⟨keepCell hb q0, keepCell hb q1, keepCell hb q2, keepCell hb q3, keepCell hb q4, keepCell hb q5, keepCell hb q6, keepCell hb q7, keepCell hb q8, keepBelow hb q9⟩)) (fun hH2 => ?_)
          clear hK K hH
          rename _ => hH
          try simp only [Act.put, sA, sB, sC]
          refine Ut 10 28 0 0 0 (v := ?vr6_11) rfl hWr6 hH ?yr6_11 ?_
          case yr6_11 => (intro w' hSw; clear hSw; go_simp; try (with_reducible rfl))
          simp only [sB, sC]
          refine wpAnyU_done (by kernel_rfl) ?_ _ _
          refine NoPanic.normal ?_
          clear hWr6
          replace hH := S2o0 hH
          (try dsimp only at hH)
          have t0 := hH.1
          have t1 := hH.2.1
          have t2 := hH.2.2.1
          have t3 := hH.2.2.2.1
          have t4 := hH.2.2.2.2.1
          have t5 := hH.2.2.2.2.2.1
          have t6 := hH.2.2.2.2.2.2.1
          have t7 := hH.2.2.2.2.2.2.2.1
          have t8 := hH.2.2.2.2.2.2.2.2.1
          have t9 := hH.2.2.2.2.2.2.2.2.2
          go_wp2_with fail
          go_meet
          exact ⟨_, rfl, HT.out, by first | exact t9 | exact t9.drew⟩
        | false =>
          have HT : Hid (false = (H k && tchB (X k) ((b1, b2), (b3, b4)))) := by show _ = _; rw [hh]; simp
          have F0 : Hid (wo.cell? ⟨gh, k, none⟩ = some (.bool false)) := by rw [← hh]; exact F00
          clear F00 HK HXO HXE hh HTR HB0
          refine wp_region_noPanic ?_
          refine wp_region_U (S := (S2 (fun w' => w'.cell? ⟨gh, k, none⟩ = some (.bool false) ∧ w'.cell? ⟨gx, k * 4, none⟩ = some (.int .i64 x1) ∧ w'.cell? ⟨gx, k * 4 + 1, none⟩ = some (.int .i64 x2) ∧ w'.cell? ⟨gx, k * 4 + 2, none⟩ = some (.int .i64 x3) ∧ w'.cell? ⟨gx, k * 4 + 3, none⟩ = some (.int .i64 x4) ∧ w'.cell? ⟨ga, 2, none⟩ = some (.int .i64 b1) ∧ w'.cell? ⟨ga, 3, none⟩ = some (.int .i64 b2) ∧ w'.cell? ⟨ga, 4, none⟩ = some (.int .i64 b3) ∧ w'.cell? ⟨ga, 5, none⟩ = some (.int .i64 b4) ∧ Below wo.heap.size wo w'))) (T := (fun _ => 0)) (by kernel_rfl) (S2i0 ⟨F0.out, X0.out, X1.out, X2.out, X3.out, A2.out, A3.out, A4.out, A5.out, (Below.refl _ _).drew⟩) (fun hH => ?_)
          have hWr7 : Weaker (S2 (fun w' => w'.cell? ⟨gh, k, none⟩ = some (.bool false) ∧ w'.cell? ⟨gx, k * 4, none⟩ = some (.int .i64 x1) ∧ w'.cell? ⟨gx, k * 4 + 1, none⟩ = some (.int .i64 x2) ∧ w'.cell? ⟨gx, k * 4 + 2, none⟩ = some (.int .i64 x3) ∧ w'.cell? ⟨gx, k * 4 + 3, none⟩ = some (.int .i64 x4) ∧ w'.cell? ⟨ga, 2, none⟩ = some (.int .i64 b1) ∧ w'.cell? ⟨ga, 3, none⟩ = some (.int .i64 b2) ∧ w'.cell? ⟨ga, 4, none⟩ = some (.int .i64 b3) ∧ w'.cell? ⟨ga, 5, none⟩ = some (.int .i64 b4) ∧ Below wo.heap.size wo w')) := weaker2 _
          refine Ut 0 18 10 0 0 (v := ?vr7_1) rfl hWr7 hH ?yr7_1 ?_
          case yr7_1 => (intro w' hSw; clear hSw; go_simp; try (with_reducible rfl))
          simp only [sB, sC]
          refine Ut 1 19 9 0 0 (v := ?vr7_2) rfl hWr7 hH ?yr7_2 ?_
          case yr7_2 => (intro w' hSw; clear hSw; go_simp; try (with_reducible rfl))
          simp only [sB, sC]
          refine Ut 2 20 8 0 0 (v := ?vr7_3) rfl hWr7 hH ?yr7_3 ?_
          case yr7_3 => (intro w' hSw; replace hSw := S2o0 hSw; (try dsimp only at hSw); have q0 := hSw.1; have q1 := hSw.2.1; have q2 := hSw.2.2.1; have q3 := hSw.2.2.2.1; have q4 := hSw.2.2.2.2.1; have q5 := hSw.2.2.2.2.2.1; have q6 := hSw.2.2.2.2.2.2.1; have q7 := hSw.2.2.2.2.2.2.2.1; have q8 := hSw.2.2.2.2.2.2.2.2.1; have q9 := hSw.2.2.2.2.2.2.2.2.2; go_simp; try (with_reducible rfl))
          simp only [sB, sC]
          refine Ut 3 21 7 0 0 (v := ?vr7_4) rfl hWr7 hH ?yr7_4 ?_
          case yr7_4 => (intro w' hSw; clear hSw; go_simp; try (with_reducible rfl))
          simp only [sB, sC]
          refine U_skips (by kernel_rfl) (fun _ _ _ _ h => h) hWr7 0 0 (by omega) hH [(4, 22), (5, 23), (6, 24), (7, 25), (8, 26), (9, 27)] 1 _ _ _ (by kernel_rfl) (by kernel_rfl) ?_
          simp only [tsetUndef, List.set_cons_zero, List.set_cons_succ]
          refine Ut 10 28 0 0 0 (v := ?vr7_5) rfl hWr7 hH ?yr7_5 ?_
          case yr7_5 => (intro w' hSw; clear hSw; go_simp; try (with_reducible rfl))
          simp only [sB, sC]
          refine wpAnyU_done (by kernel_rfl) ?_ _ _
          refine NoPanic.normal ?_
          clear hWr7
          replace hH := S2o0 hH
          (try dsimp only at hH)
          have t0 := hH.1
          have t1 := hH.2.1
          have t2 := hH.2.2.1
          have t3 := hH.2.2.2.1
          have t4 := hH.2.2.2.2.1
          have t5 := hH.2.2.2.2.2.1
          have t6 := hH.2.2.2.2.2.2.1
          have t7 := hH.2.2.2.2.2.2.2.1
          have t8 := hH.2.2.2.2.2.2.2.2.1
          have t9 := hH.2.2.2.2.2.2.2.2.2
          go_wp2_with fail
          go_meet
          exact ⟨_, rfl, HT.out, by first | exact t9 | exact t9.drew⟩
      case rest =>
        obtain ⟨z, rfl, hz, hbx⟩ := hcut
        obtain ⟨w1, rfl⟩ : ∃ w1 : World, w1 = wc := ⟨_, rfl⟩
        have HZ := hid hz
        have HK1 := hid (HK.out.keep hbx)
        clear hz hbx HK F00 HXO X0 X1 X2 X3 A2 A3 A4 A5
        go_upto_if 28 with fail
        go_cut [9] from 29 to 32 (fun t wx => FoS wB (hitH H X ((b1, b2), (b3, b4)) (k + 1)) (hitH H X ((b1, b2), (b1, b2)) k) (allH H X k) t u10 u11 wx)
        case first =>
          cases z with
          | true =>
            have HLN : Hid ((hitH H X ((b1, b2), (b3, b4)) k).length ≤ 256) := Nat.le_trans (hitH_len _ _ _ _) hk
            have HE : Hid (hitH H X ((b1, b2), (b3, b4)) (k + 1) = hitH H X ((b1, b2), (b3, b4)) k ++ [k]) := by show _ = _; rw [hitH_succ, ← HZ.out, if_pos rfl]
            go_wp2_with (at_builtin; refine wpList_append_E tyNat rfl _ _ rfl wB.heap.size _ _ rfl (HK1.out.o1.alloc _) w1.heap.size 0 1 1 [k] rfl rfl (cells_nat1 (by go_simp)) (by have := HLN.out; simp; omega) (by have := HLN.out; simp; omega) (by have := HK1.out.bel.size; simp; omega) ?_; intro v' w7 ho1 hg1 hat; have HK2 := hid ((HK1.out.keep ((Below.refl _ _).alloc (Nat.le_refl _) _)).app1 ho1 hg1 hat); clear ho1 hg1 hat)
            go_meet
            rw [HE.out]
            exact HK2.out
          | false =>
            have HE : Hid (hitH H X ((b1, b2), (b3, b4)) (k + 1) = hitH H X ((b1, b2), (b3, b4)) k) := by show _ = _; rw [hitH_succ, ← HZ.out]; simp
            go_wp2_with fail
            go_meet
            rw [HE.out]
            exact HK1.out
        case rest =>
          obtain ⟨w2, rfl⟩ : ∃ w2 : World, w2 = wc := ⟨_, rfl⟩
          have HK2 := hid hcut
          clear hcut HK1 HZ
          have a2 := keepCellB HK2.out.bel AB2.out
          have a3 := keepCellB HK2.out.bel AB3.out
          have la := lt_of_cell a2
          obtain ⟨w3, hw3⟩ : ∃ x, x = w2.alloc (.cells #[.int .i64 b1, .int .i64 b2] 30) := ⟨_, rfl⟩
          obtain ⟨gv, hgv⟩ : ∃ x, x = w2.heap.size := ⟨_, rfl⟩
          have hb3 : Below w2.heap.size w2 w3 := by rw [hw3]; go_grown
          have V0 : Hid (w3.cell? ⟨gv, 0, none⟩ = some (.int .i64 b1)) := by show _ = _; rw [hw3, hgv]; go_simp
          have V1 : Hid (w3.cell? ⟨gv, 1, none⟩ = some (.int .i64 b2)) := by show _ = _; rw [hw3, hgv]; go_simp
          have HK3 := hid (HK2.out.keep hb3)
          have F00 := hid (keepCellB HK3.out.bel (HAS.out k hlt))
          have hbx := (CellsE.keepB HK3.out.bel HXS.out).box (i := k) (by rw [bxL_len]; exact hlt)
          rw [bxL_at hlt, ← HXE.out] at hbx
          obtain ⟨q0, q1, q2, q3⟩ := hbx
          rw [Nat.zero_add] at q0 q1 q2 q3
          dsimp only at q0 q1 q2 q3
          have X0 := hid q0
          have X1 := hid q1
          have X2 := hid q2
          have X3 := hid q3
          clear q0 q1 q2 q3 hb3 HK2
          go_upto_region 9 with fail
          rw [← hw3, ← hgv]
          clear hw3 hgv a2 a3 la
          go_cut [47] from 36 to 46 (fun t wx => ∃ z : Bool, t = .bool z ∧ (z = (H k && tchB (X k) ((b1, b2), (b1, b2)))) ∧ Below w3.heap.size w3 wx)
          case first =>
            cases hh : H k with
            | true =>
              have HT : Hid (tchB ((x1, x2), (x3, x4)) ((b1, b2), (b1, b2)) = (H k && tchB (X k) ((b1, b2), (b1, b2)))) := by show _ = _; rw [hh, ← HXE.out]; simp
              have F0 : Hid (w3.cell? ⟨gh, k, none⟩ = some (.bool true)) := by rw [← hh]; exact F00
              clear F00 HK3 HXE hh HTR HB0
              refine wp_region_noPanic ?_
              refine wp_region_U (S := (S2 (fun w' => w'.cell? ⟨gh, k, none⟩ = some (.bool true) ∧ w'.cell? ⟨gx, k * 4, none⟩ = some (.int .i64 x1) ∧ w'.cell? ⟨gx, k * 4 + 1, none⟩ = some (.int .i64 x2) ∧ w'.cell? ⟨gx, k * 4 + 2, none⟩ = some (.int .i64 x3) ∧ w'.cell? ⟨gx, k * 4 + 3, none⟩ = some (.int .i64 x4) ∧ w'.cell? ⟨gv, 0, none⟩ = some (.int .i64 b1) ∧ w'.cell? ⟨gv, 1, none⟩ = some (.int .i64 b2) ∧ Below w3.heap.size w3 w'))) (T := (fun _ => 0)) (by kernel_rfl) (S2i0 ⟨F0.out, X0.out, X1.out, X2.out, X3.out, V0.out, V1.out, (Below.refl _ _).drew⟩) (fun hH => ?_)
              have hWr4 : Weaker (S2 (fun w' => w'.cell? ⟨gh, k, none⟩ = some (.bool true) ∧ w'.cell? ⟨gx, k * 4, none⟩ = some (.int .i64 x1) ∧ w'.cell? ⟨gx, k * 4 + 1, none⟩ = some (.int .i64 x2) ∧ w'.cell? ⟨gx, k * 4 + 2, none⟩ = some (.int .i64 x3) ∧ w'.cell? ⟨gx, k * 4 + 3, none⟩ = some (.int .i64 x4) ∧ w'.cell? ⟨gv, 0, none⟩ = some (.int .i64 b1) ∧ w'.cell? ⟨gv, 1, none⟩ = some (.int .i64 b2) ∧ Below w3.heap.size w3 w')) := weaker2 _
              refine Ut 0 36 11 0 0 (v := ?vr4_1) rfl hWr4 hH ?yr4_1 ?_
              case yr4_1 => (intro w' hSw; clear hSw; go_simp; try (with_reducible rfl))
              simp only [sB, sC]
              refine Ut 1 37 10 0 0 (v := ?vr4_2) rfl hWr4 hH ?yr4_2 ?_
              case yr4_2 => (intro w' hSw; clear hSw; go_simp; try (with_reducible rfl))
              simp only [sB, sC]
              refine Ut 2 38 9 0 0 (v := ?vr4_3) rfl hWr4 hH ?yr4_3 ?_
              case yr4_3 => (intro w' hSw; replace hSw := S2o0 hSw; (try dsimp only at hSw); have q0 := hSw.1; have q1 := hSw.2.1; have q2 := hSw.2.2.1; have q3 := hSw.2.2.2.1; have q4 := hSw.2.2.2.2.1; have q5 := hSw.2.2.2.2.2.1; have q6 := hSw.2.2.2.2.2.2.1; have q7 := hSw.2.2.2.2.2.2.2; go_simp; try (with_reducible rfl))
              simp only [sB, sC]
              refine Ut 3 39 8 0 0 (v := ?vr4_4) rfl hWr4 hH ?yr4_4 ?_
              case yr4_4 => (intro w' hSw; clear hSw; go_simp; try (with_reducible rfl))
              simp only [sB, sC]
              refine Ut 4 40 7 0 0 (v := ?vr4_5) rfl hWr4 hH ?yr4_5 ?_
              case yr4_5 => (intro w' hSw; clear hSw; go_simp; try (with_reducible rfl))
              simp only [sB, sC]
              refine Ut 5 41 6 0 0 (v := ?vr4_6) rfl hWr4 hH ?yr4_6 ?_
              case yr4_6 => (intro w' hSw; clear hSw; go_simp; try (with_reducible rfl))
              simp only [sB, sC]
              refine Ut 6 42 5 0 0 (v := ?vr4_7) rfl hWr4 hH ?yr4_7 ?_
              case yr4_7 => (intro w' hSw; replace hSw := S2o0 hSw; (try dsimp only at hSw); have q0 := hSw.1; have q1 := hSw.2.1; have q2 := hSw.2.2.1; have q3 := hSw.2.2.2.1; have q4 := hSw.2.2.2.2.1; have q5 := hSw.2.2.2.2.2.1; have q6 := hSw.2.2.2.2.2.2.1; have q7 := hSw.2.2.2.2.2.2.2; go_simp; try (with_reducible rfl))
              simp only [sB, sC]
              refine Ut 7 43 4 0 0 (v := ?vr4_8) rfl hWr4 hH ?yr4_8 ?_
              case yr4_8 => (intro w' hSw; replace hSw := S2o0 hSw; (try dsimp only at hSw); have q0 := hSw.1; have q1 := hSw.2.1; have q2 := hSw.2.2.1; have q3 := hSw.2.2.2.1; have q4 := hSw.2.2.2.2.1; have q5 := hSw.2.2.2.2.2.1; have q6 := hSw.2.2.2.2.2.2.1; have q7 := hSw.2.2.2.2.2.2.2; go_simp; try (with_reducible rfl))
              simp only [sB, sC]
              refine Ut 8 44 3 0 0 (v := ?vr4_9) rfl hWr4 hH ?yr4_9 ?_
              case yr4_9 => (intro w' hSw; replace hSw := S2o0 hSw; (try dsimp only at hSw); have q0 := hSw.1; have q1 := hSw.2.1; have q2 := hSw.2.2.1; have q3 := hSw.2.2.2.1; have q4 := hSw.2.2.2.2.1; have q5 := hSw.2.2.2.2.2.1; have q6 := hSw.2.2.2.2.2.2.1; have q7 := hSw.2.2.2.2.2.2.2; go_simp; try (with_reducible rfl))
              simp only [sB, sC]
              refine Ut 9 45 2 0 0 (v := ?vr4_10) rfl hWr4 hH ?yr4_10 ?_
              case yr4_10 => (intro w' hSw; clear hSw; go_simp; try (with_reducible rfl))
              simp only [sB, sC]
              refine U1 10 0 rfl (fun K hK => ?_)
              try clear hb
              go_simp
              (go_at_call 35; refine (rtouch_calls x1 x2 x3 x4 b1 b2 b1 b2 _).mono ?_; rintro e wn ⟨rfl, hb⟩)
              refine hK.out _ _ (S2i0 (by have hG := hH; replace hG := S2o0 hG; (try dsimp only at hG); have q0 := hG.1; have q1 := hG.2.1; have q2 := hG.2.2.1; have q3 := hG.2.2.2.1; have q4 := hG.2.2.2.2.1; have q5 := hG.2.2.2.2.2.1; have q6 := hG.2.2.2.2.2.2.1; have q7 := hG.2.2.2.2.2.2.2; exact ⟨keepCell hb q0, keepCell hb q1, keepCell hb q2, keepCell hb q3, keepCell hb q4, keepCell hb q5, keepCell hb q6, keepBelow hb q7⟩)) (fun hH2 => ?_)
              clear hK K hH
              rename _ => hH
              try simp only [Act.put, sA, sB, sC]
              refine Ut 11 47 0 0 0 (v := ?vr4_12) rfl hWr4 hH ?yr4_12 ?_
              case yr4_12 => (intro w' hSw; clear hSw; go_simp; try (with_reducible rfl))
              simp only [sB, sC]
              refine wpAnyU_done (by kernel_rfl) ?_ _ _
              refine NoPanic.normal ?_
              clear hWr4
              replace hH := S2o0 hH
              (try dsimp only at hH)
              have t0 := hH.1
              have t1 := hH.2.1
              have t2 := hH.2.2.1
              have t3 := hH.2.2.2.1
              have t4 := hH.2.2.2.2.1
              have t5 := hH.2.2.2.2.2.1
              have t6 := hH.2.2.2.2.2.2.1
              have t7 := hH.2.2.2.2.2.2.2
              go_wp2_with fail
              go_meet
              exact ⟨_, rfl, HT.out, by first | exact t7 | exact t7.drew⟩
            | false =>
              have HT : Hid (false = (H k && tchB (X k) ((b1, b2), (b1, b2)))) := by show _ = _; rw [hh]; simp
              have F0 : Hid (w3.cell? ⟨gh, k, none⟩ = some (.bool false)) := by rw [← hh]; exact F00
              clear F00 HK3 HXE hh HTR HB0
              refine wp_region_noPanic ?_
              refine wp_region_U (S := (S2 (fun w' => w'.cell? ⟨gh, k, none⟩ = some (.bool false) ∧ w'.cell? ⟨gx, k * 4, none⟩ = some (.int .i64 x1) ∧ w'.cell? ⟨gx, k * 4 + 1, none⟩ = some (.int .i64 x2) ∧ w'.cell? ⟨gx, k * 4 + 2, none⟩ = some (.int .i64 x3) ∧ w'.cell? ⟨gx, k * 4 + 3, none⟩ = some (.int .i64 x4) ∧ w'.cell? ⟨gv, 0, none⟩ = some (.int .i64 b1) ∧ w'.cell? ⟨gv, 1, none⟩ = some (.int .i64 b2) ∧ Below w3.heap.size w3 w'))) (T := (fun _ => 0)) (by kernel_rfl) (S2i0 ⟨F0.out, X0.out, X1.out, X2.out, X3.out, V0.out, V1.out, (Below.refl _ _).drew⟩) (fun hH => ?_)
              have hWr5 : Weaker (S2 (fun w' => w'.cell? ⟨gh, k, none⟩ = some (.bool false) ∧ w'.cell? ⟨gx, k * 4, none⟩ = some (.int .i64 x1) ∧ w'.cell? ⟨gx, k * 4 + 1, none⟩ = some (.int .i64 x2) ∧ w'.cell? ⟨gx, k * 4 + 2, none⟩ = some (.int .i64 x3) ∧ w'.cell? ⟨gx, k * 4 + 3, none⟩ = some (.int .i64 x4) ∧ w'.cell? ⟨gv, 0, none⟩ = some (.int .i64 b1) ∧ w'.cell? ⟨gv, 1, none⟩ = some (.int .i64 b2) ∧ Below w3.heap.size w3 w')) := weaker2 _
              refine Ut 0 36 11 0 0 (v := ?vr5_1) rfl hWr5 hH ?yr5_1 ?_
              case yr5_1 => (intro w' hSw; clear hSw; go_simp; try (with_reducible rfl))
              simp only [sB, sC]
              refine Ut 1 37 10 0 0 (v := ?vr5_2) rfl hWr5 hH ?yr5_2 ?_
              case yr5_2 => (intro w' hSw; clear hSw; go_simp; try (with_reducible rfl))
              simp only [sB, sC]
              refine Ut 2 38 9 0 0 (v := ?vr5_3) rfl hWr5 hH ?yr5_3 ?_
              case yr5_3 => (intro w' hSw; replace hSw := S2o0 hSw; (try dsimp only at hSw); have q0 := hSw.1; have q1 := hSw.2.1; have q2 := hSw.2.2.1; have q3 := hSw.2.2.2.1; have q4 := hSw.2.2.2.2.1; have q5 := hSw.2.2.2.2.2.1; have q6 := hSw.2.2.2.2.2.2.1; have q7 := hSw.2.2.2.2.2.2.2; go_simp; try (with_reducible rfl))
              simp only [sB, sC]
              refine Ut 3 39 8 0 0 (v := ?vr5_4) rfl hWr5 hH ?yr5_4 ?_
              case yr5_4 => (intro w' hSw; clear hSw; go_simp; try (with_reducible rfl))
              simp only [sB, sC]
              refine U_skips (by kernel_rfl) (fun _ _ _ _ h => h) hWr5 0 0 (by omega) hH [(4, 40), (5, 41), (6, 42), (7, 43), (8, 44), (9, 45), (10, 46)] 1 _ _ _ (by kernel_rfl) (by kernel_rfl) ?_
              simp only [tsetUndef, List.set_cons_zero, List.set_cons_succ]
              refine Ut 11 47 0 0 0 (v := ?vr5_5) rfl hWr5 hH ?yr5_5 ?_
              case yr5_5 => (intro w' hSw; clear hSw; go_simp; try (with_reducible rfl))
              simp only [sB, sC]
              refine wpAnyU_done (by kernel_rfl) ?_ _ _
              refine NoPanic.normal ?_
              clear hWr5
              replace hH := S2o0 hH
              (try dsimp only at hH)
              have t0 := hH.1
              have t1 := hH.2.1
              have t2 := hH.2.2.1
              have t3 := hH.2.2.2.1
              have t4 := hH.2.2.2.2.1
              have t5 := hH.2.2.2.2.2.1
              have t6 := hH.2.2.2.2.2.2.1
              have t7 := hH.2.2.2.2.2.2.2
              go_wp2_with fail
              go_meet
              exact ⟨_, rfl, HT.out, by first | exact t7 | exact t7.drew⟩
          case rest =>
            obtain ⟨z, rfl, hz, hbx⟩ := hcut
            obtain ⟨w4, rfl⟩ : ∃ w4 : World, w4 = wc := ⟨_, rfl⟩
            have HZ := hid hz
            have HK1 := hid (HK3.out.keep hbx)
            clear hz hbx HK3 F00 X0 X1 X2 X3 V0 V1
            go_upto_if 47 with fail
            go_cut [10] from 48 to 51 (fun t wx => FoS wB (hitH H X ((b1, b2), (b3, b4)) (k + 1)) (hitH H X ((b1, b2), (b1, b2)) (k + 1)) (allH H X k) u9 t u11 wx)
            case first =>
              cases z with
              | true =>
                have HLN : Hid ((hitH H X ((b1, b2), (b1, b2)) k).length ≤ 256) := Nat.le_trans (hitH_len _ _ _ _) hk
                have HE : Hid (hitH H X ((b1, b2), (b1, b2)) (k + 1) = hitH H X ((b1, b2), (b1, b2)) k ++ [k]) := by show _ = _; rw [hitH_succ, ← HZ.out, if_pos rfl]
                go_wp2_with (at_builtin; refine wpList_append_E tyNat rfl _ _ rfl wB.heap.size _ _ rfl (HK1.out.o2.alloc _) w4.heap.size 0 1 1 [k] rfl rfl (cells_nat1 (by go_simp)) (by have := HLN.out; simp; omega) (by have := HLN.out; simp; omega) (by have := HK1.out.bel.size; simp; omega) ?_; intro v' w7 ho1 hg1 hat; have HK2 := hid ((HK1.out.keep ((Below.refl _ _).alloc (Nat.le_refl _) _)).app2 ho1 hg1 hat); clear ho1 hg1 hat)
                go_meet
                rw [HE.out]
                exact HK2.out
              | false =>
                have HE : Hid (hitH H X ((b1, b2), (b1, b2)) (k + 1) = hitH H X ((b1, b2), (b1, b2)) k) := by show _ = _; rw [hitH_succ, ← HZ.out]; simp
                go_wp2_with fail
                go_meet
                rw [HE.out]
                exact HK1.out
            case rest =>
              obtain ⟨w5, rfl⟩ : ∃ w5 : World, w5 = wc := ⟨_, rfl⟩
              have HI0 : Hid (FoS wB (hitH H X ((b1, b2), (b3, b4)) (k + 1)) (hitH H X ((b1, b2), (b1, b2)) (k + 1)) (allH H X k ++ rowH H X k (k + 1)) u9 u10 u11 w5) := by show FoS _ _ _ _ _ _ _ _; rw [rowH_start, List.append_nil]; exact hcut
              clear hcut HK1 HZ
              go_wp2
              go_loopw [11, 14] (fun s3 j wr => ∃ q : Nat, k < q ∧ q ≤ 256 ∧ j = .int .i64 q ∧ Hid (FoS wB (hitH H X ((b1, b2), (b3, b4)) (k + 1)) (hitH H X ((b1, b2), (b1, b2)) (k + 1)) (allH H X k ++ rowH H X k q) u9 u10 s3 wr)) (fun _ j _ => 256 - (intOf j).toNat)
              case atStart => exact ⟨k + 1, Nat.lt_succ_self _, hlt, by go_num, HI0⟩
              case round =>
                clear HI0
                obtain ⟨q, hkq, hq, rfl, HI⟩ := hrel
                obtain ⟨wi, rfl⟩ : ∃ wi : World, wi = wr := ⟨_, rfl⟩
                by_cases hql : q < 256
                · have hql' : (q : Int) < 256 := by omega
                  have hwq : IntKind.i64.wrap ((q : Int) + 1) = (q : Int) + 1 := IntWalk.i64_in _ (by omega)
                  have F00 := hid (keepCellB HI.out.bel (HAS.out k hlt))
                  have G00 := hid (keepCellB HI.out.bel (HAS.out q hql))
                  have hbx := (CellsE.keepB HI.out.bel HXS.out).box (i := k) (by rw [bxL_len]; exact hlt)
                  rw [bxL_at hlt, ← HXE.out] at hbx
                  obtain ⟨q0, q1, q2, q3⟩ := hbx
                  rw [Nat.zero_add] at q0 q1 q2 q3
                  dsimp only at q0 q1 q2 q3
                  have X0 := hid q0
                  have X1 := hid q1
                  have X2 := hid q2
                  have X3 := hid q3
                  clear q0 q1 q2 q3
                  have hbx := (CellsE.keepB HI.out.bel HXS.out).box (i := q) (by rw [bxL_len]; exact hql)
                  rw [bxL_at hql] at hbx
                  obtain ⟨y, hy⟩ : ∃ y, y = X q := ⟨_, rfl⟩
                  rw [← hy] at hbx
                  have HYE := hid hy
                  obtain ⟨⟨y1, y2⟩, y3, y4⟩ := y
                  obtain ⟨q0, q1, q2, q3⟩ := hbx
                  rw [Nat.zero_add] at q0 q1 q2 q3
                  dsimp only at q0 q1 q2 q3
                  have Y0 := hid q0
                  have Y1 := hid q1
                  have Y2 := hid q2
                  have Y3 := hid q3
                  clear q0 q1 q2 q3 hy
                  go_upto_region 14 with fail
                  go_cut [74] from 58 to 73 (fun t wx => ∃ z : Bool, t = .bool z ∧ (z = (H k && (H q && tchB (X k) (X q)))) ∧ Below wi.heap.size wi wx)
                  case first =>
                    cases hh : H k with
                    | true =>
                      have F0 : Hid (wi.cell? ⟨gh, k, none⟩ = some (.bool true)) := by rw [← hh]; exact F00
                      cases hh2 : H q with
                      | true =>
                        have HT : Hid (tchB ((x1, x2), (x3, x4)) ((y1, y2), (y3, y4)) = (H k && (H q && tchB (X k) (X q)))) := by show _ = _; rw [hh, hh2, ← HXE.out, ← HYE.out]; simp
                        have G0 : Hid (wi.cell? ⟨gh, q, none⟩ = some (.bool true)) := by rw [← hh2]; exact G00
                        clear F00 G00 HI HXE HYE hh hh2 HTR HB0
                        refine wp_region_noPanic ?_
                        refine wp_region_U (S := (S2 (fun w' => w'.cell? ⟨gh, k, none⟩ = some (.bool true) ∧ w'.cell? ⟨gh, q, none⟩ = some (.bool true) ∧ w'.cell? ⟨gx, k * 4, none⟩ = some (.int .i64 x1) ∧ w'.cell? ⟨gx, k * 4 + 1, none⟩ = some (.int .i64 x2) ∧ w'.cell? ⟨gx, k * 4 + 2, none⟩ = some (.int .i64 x3) ∧ w'.cell? ⟨gx, k * 4 + 3, none⟩ = some (.int .i64 x4) ∧ w'.cell? ⟨gx, q * 4, none⟩ = some (.int .i64 y1) ∧ w'.cell? ⟨gx, q * 4 + 1, none⟩ = some (.int .i64 y2) ∧ w'.cell? ⟨gx, q * 4 + 2, none⟩ = some (.int .i64 y3) ∧ w'.cell? ⟨gx, q * 4 + 3, none⟩ = some (.int .i64 y4) ∧ Below wi.heap.size wi w'))) (T := (fun _ => 0)) (by kernel_rfl) (S2i0 ⟨F0.out, G0.out, X0.out, X1.out, X2.out, X3.out, Y0.out, Y1.out, Y2.out, Y3.out, (Below.refl _ _).drew⟩) (fun hH => ?_)
                        have hWr1 : Weaker (S2 (fun w' => w'.cell? ⟨gh, k, none⟩ = some (.bool true) ∧ w'.cell? ⟨gh, q, none⟩ = some (.bool true) ∧ w'.cell? ⟨gx, k * 4, none⟩ = some (.int .i64 x1) ∧ w'.cell? ⟨gx, k * 4 + 1, none⟩ = some (.int .i64 x2) ∧ w'.cell? ⟨gx, k * 4 + 2, none⟩ = some (.int .i64 x3) ∧ w'.cell? ⟨gx, k * 4 + 3, none⟩ = some (.int .i64 x4) ∧ w'.cell? ⟨gx, q * 4, none⟩ = some (.int .i64 y1) ∧ w'.cell? ⟨gx, q * 4 + 1, none⟩ = some (.int .i64 y2) ∧ w'.cell? ⟨gx, q * 4 + 2, none⟩ = some (.int .i64 y3) ∧ w'.cell? ⟨gx, q * 4 + 3, none⟩ = some (.int .i64 y4) ∧ Below wi.heap.size wi w')) := weaker2 _
                        refine Ut 0 58 16 0 0 (v := ?vr1_1) rfl hWr1 hH ?yr1_1 ?_
                        case yr1_1 => (intro w' hSw; clear hSw; go_simp; try (with_reducible rfl))
                        simp only [sB, sC]
                        refine Ut 1 59 15 0 0 (v := ?vr1_2) rfl hWr1 hH ?yr1_2 ?_
                        case yr1_2 => (intro w' hSw; clear hSw; go_simp; try (with_reducible rfl))
                        simp only [sB, sC]
                        refine Ut 2 60 14 0 0 (v := ?vr1_3) rfl hWr1 hH ?yr1_3 ?_
                        case yr1_3 => (intro w' hSw; replace hSw := S2o0 hSw; (try dsimp only at hSw); have q0 := hSw.1; have q1 := hSw.2.1; have q2 := hSw.2.2.1; have q3 := hSw.2.2.2.1; have q4 := hSw.2.2.2.2.1; have q5 := hSw.2.2.2.2.2.1; have q6 := hSw.2.2.2.2.2.2.1; have q7 := hSw.2.2.2.2.2.2.2.1; have q8 := hSw.2.2.2.2.2.2.2.2.1; have q9 := hSw.2.2.2.2.2.2.2.2.2.1; have q10 := hSw.2.2.2.2.2.2.2.2.2.2; go_simp; try (with_reducible rfl))
                        simp only [sB, sC]
                        refine Ut 3 61 13 0 0 (v := ?vr1_4) rfl hWr1 hH ?yr1_4 ?_
                        case yr1_4 => (intro w' hSw; clear hSw; go_simp; try (with_reducible rfl))
                        simp only [sB, sC]
                        refine Ut 4 62 12 0 0 (v := ?vr1_5) rfl hWr1 hH ?yr1_5 ?_
                        case yr1_5 => (intro w' hSw; clear hSw; go_simp; try (with_reducible rfl))
                        simp only [sB, sC]
                        refine Ut 5 63 11 0 0 (v := ?vr1_6) rfl hWr1 hH ?yr1_6 ?_
                        case yr1_6 => (intro w' hSw; clear hSw; go_simp; try (with_reducible rfl))
                        simp only [sB, sC]
                        refine Ut 6 64 10 0 0 (v := ?vr1_7) rfl hWr1 hH ?yr1_7 ?_
                        case yr1_7 => (intro w' hSw; replace hSw := S2o0 hSw; (try dsimp only at hSw); have q0 := hSw.1; have q1 := hSw.2.1; have q2 := hSw.2.2.1; have q3 := hSw.2.2.2.1; have q4 := hSw.2.2.2.2.1; have q5 := hSw.2.2.2.2.2.1; have q6 := hSw.2.2.2.2.2.2.1; have q7 := hSw.2.2.2.2.2.2.2.1; have q8 := hSw.2.2.2.2.2.2.2.2.1; have q9 := hSw.2.2.2.2.2.2.2.2.2.1; have q10 := hSw.2.2.2.2.2.2.2.2.2.2; go_simp; try (with_reducible rfl))
                        simp only [sB, sC]
                        refine Ut 7 65 9 0 0 (v := ?vr1_8) rfl hWr1 hH ?yr1_8 ?_
                        case yr1_8 => (intro w' hSw; clear hSw; go_simp; try (with_reducible rfl))
                        simp only [sB, sC]
                        refine Ut 8 66 8 0 0 (v := ?vr1_9) rfl hWr1 hH ?yr1_9 ?_
                        case yr1_9 => (intro w' hSw; clear hSw; go_simp; try (with_reducible rfl))
                        simp only [sB, sC]
                        refine Ut 9 67 7 0 0 (v := ?vr1_10) rfl hWr1 hH ?yr1_10 ?_
                        case yr1_10 => (intro w' hSw; clear hSw; go_simp; try (with_reducible rfl))
                        simp only [sB, sC]
                        refine Ut 10 68 6 0 0 (v := ?vr1_11) rfl hWr1 hH ?yr1_11 ?_
                        case yr1_11 => (intro w' hSw; clear hSw; go_simp; try (with_reducible rfl))
                        simp only [sB, sC]
                        refine Ut 11 69 5 0 0 (v := ?vr1_12) rfl hWr1 hH ?yr1_12 ?_
                        case yr1_12 => (intro w' hSw; replace hSw := S2o0 hSw; (try dsimp only at hSw); have q0 := hSw.1; have q1 := hSw.2.1; have q2 := hSw.2.2.1; have q3 := hSw.2.2.2.1; have q4 := hSw.2.2.2.2.1; have q5 := hSw.2.2.2.2.2.1; have q6 := hSw.2.2.2.2.2.2.1; have q7 := hSw.2.2.2.2.2.2.2.1; have q8 := hSw.2.2.2.2.2.2.2.2.1; have q9 := hSw.2.2.2.2.2.2.2.2.2.1; have q10 := hSw.2.2.2.2.2.2.2.2.2.2; go_simp; try (with_reducible rfl))
                        simp only [sB, sC]
                        refine Ut 12 70 4 0 0 (v := ?vr1_13) rfl hWr1 hH ?yr1_13 ?_
                        case yr1_13 => (intro w' hSw; clear hSw; go_simp; try (with_reducible rfl))
                        simp only [sB, sC]
                        refine Ut 13 71 3 0 0 (v := ?vr1_14) rfl hWr1 hH ?yr1_14 ?_
                        case yr1_14 => (intro w' hSw; clear hSw; go_simp; try (with_reducible rfl))
                        simp only [sB, sC]
                        refine Ut 14 72 2 0 0 (v := ?vr1_15) rfl hWr1 hH ?yr1_15 ?_
                        case yr1_15 => (intro w' hSw; replace hSw := S2o0 hSw; (try dsimp only at hSw); have q0 := hSw.1; have q1 := hSw.2.1; have q2 := hSw.2.2.1; have q3 := hSw.2.2.2.1; have q4 := hSw.2.2.2.2.1; have q5 := hSw.2.2.2.2.2.1; have q6 := hSw.2.2.2.2.2.2.1; have q7 := hSw.2.2.2.2.2.2.2.1; have q8 := hSw.2.2.2.2.2.2.2.2.1; have q9 := hSw.2.2.2.2.2.2.2.2.2.1; have q10 := hSw.2.2.2.2.2.2.2.2.2.2; go_simp; try (with_reducible rfl))
                        simp only [sB, sC]
                        refine U1 15 0 rfl (fun K hK => ?_)
                        try clear hb
                        go_simp
                        (go_at_call 35; refine (rtouch_calls x1 x2 x3 x4 y1 y2 y3 y4 _).mono ?_; rintro e wn ⟨rfl, hb⟩)
                        refine hK.out _ _ (S2i0 (by have hG := hH; replace hG := S2o0 hG; (try dsimp only at hG); have q0 := hG.1; have q1 := hG.2.1; have q2 := hG.2.2.1; have q3 := hG.2.2.2.1; have q4 := hG.2.2.2.2.1; have q5 := hG.2.2.2.2.2.1; have q6 := hG.2.2.2.2.2.2.1; have q7 := hG.2.2.2.2.2.2.2.1; have q8 := hG.2.2.2.2.2.2.2.2.1; have q9 := hG.2.2.2.2.2.2.2.2.2.1; have q10 := hG.2.2.2.2.2.2.2.2.2.2; exact ⟨keepCell hb q0, keepCell hb q1, keepCell hb q2, keepCell hb q3, keepCell hb q4, keepCell hb q5, keepCell hb q6, keepCell hb q7, keepCell hb q8, keepCell hb q9, keepBelow hb q10⟩)) (fun hH2 => ?_)
                        clear hK K hH
                        rename _ => hH
                        try simp only [Act.put, sA, sB, sC]
                        refine Ut 16 74 0 0 0 (v := ?vr1_17) rfl hWr1 hH ?yr1_17 ?_
                        case yr1_17 => (intro w' hSw; clear hSw; go_simp; try (with_reducible rfl))
                        simp only [sB, sC]
                        refine wpAnyU_done (by kernel_rfl) ?_ _ _
                        refine NoPanic.normal ?_
                        clear hWr1
                        replace hH := S2o0 hH
                        (try dsimp only at hH)
                        have t0 := hH.1
                        have t1 := hH.2.1
                        have t2 := hH.2.2.1
                        have t3 := hH.2.2.2.1
                        have t4 := hH.2.2.2.2.1
                        have t5 := hH.2.2.2.2.2.1
                        have t6 := hH.2.2.2.2.2.2.1
                        have t7 := hH.2.2.2.2.2.2.2.1
                        have t8 := hH.2.2.2.2.2.2.2.2.1
                        have t9 := hH.2.2.2.2.2.2.2.2.2.1
                        have t10 := hH.2.2.2.2.2.2.2.2.2.2
                        go_wp2_with fail
                        go_meet
                        exact ⟨_, rfl, HT.out, by first | exact t10 | exact t10.drew⟩
                      | false =>
                        have HT : Hid (false = (H k && (H q && tchB (X k) (X q)))) := by show _ = _; rw [hh2]; simp
                        have G0 : Hid (wi.cell? ⟨gh, q, none⟩ = some (.bool false)) := by rw [← hh2]; exact G00
                        clear F00 G00 HI HXE HYE hh hh2 HTR HB0
                        refine wp_region_noPanic ?_
                        refine wp_region_U (S := (S2 (fun w' => w'.cell? ⟨gh, k, none⟩ = some (.bool true) ∧ w'.cell? ⟨gh, q, none⟩ = some (.bool false) ∧ w'.cell? ⟨gx, k * 4, none⟩ = some (.int .i64 x1) ∧ w'.cell? ⟨gx, k * 4 + 1, none⟩ = some (.int .i64 x2) ∧ w'.cell? ⟨gx, k * 4 + 2, none⟩ = some (.int .i64 x3) ∧ w'.cell? ⟨gx, k * 4 + 3, none⟩ = some (.int .i64 x4) ∧ w'.cell? ⟨gx, q * 4, none⟩ = some (.int .i64 y1) ∧ w'.cell? ⟨gx, q * 4 + 1, none⟩ = some (.int .i64 y2) ∧ w'.cell? ⟨gx, q * 4 + 2, none⟩ = some (.int .i64 y3) ∧ w'.cell? ⟨gx, q * 4 + 3, none⟩ = some (.int .i64 y4) ∧ Below wi.heap.size wi w'))) (T := (fun _ => 0)) (by kernel_rfl) (S2i0 ⟨F0.out, G0.out, X0.out, X1.out, X2.out, X3.out, Y0.out, Y1.out, Y2.out, Y3.out, (Below.refl _ _).drew⟩) (fun hH => ?_)
                        have hWr2 : Weaker (S2 (fun w' => w'.cell? ⟨gh, k, none⟩ = some (.bool true) ∧ w'.cell? ⟨gh, q, none⟩ = some (.bool false) ∧ w'.cell? ⟨gx, k * 4, none⟩ = some (.int .i64 x1) ∧ w'.cell? ⟨gx, k * 4 + 1, none⟩ = some (.int .i64 x2) ∧ w'.cell? ⟨gx, k * 4 + 2, none⟩ = some (.int .i64 x3) ∧ w'.cell? ⟨gx, k * 4 + 3, none⟩ = some (.int .i64 x4) ∧ w'.cell? ⟨gx, q * 4, none⟩ = some (.int .i64 y1) ∧ w'.cell? ⟨gx, q * 4 + 1, none⟩ = some (.int .i64 y2) ∧ w'.cell? ⟨gx, q * 4 + 2, none⟩ = some (.int .i64 y3) ∧ w'.cell? ⟨gx, q * 4 + 3, none⟩ = some (.int .i64 y4) ∧ Below wi.heap.size wi w')) := weaker2 _
                        refine Ut 0 58 16 0 0 (v := ?vr2_1) rfl hWr2 hH ?yr2_1 ?_
                        case yr2_1 => (intro w' hSw; clear hSw; go_simp; try (with_reducible rfl))
                        simp only [sB, sC]
                        refine Ut 1 59 15 0 0 (v := ?vr2_2) rfl hWr2 hH ?yr2_2 ?_
                        case yr2_2 => (intro w' hSw; clear hSw; go_simp; try (with_reducible rfl))
                        simp only [sB, sC]
                        refine Ut 2 60 14 0 0 (v := ?vr2_3) rfl hWr2 hH ?yr2_3 ?_
                        case yr2_3 => (intro w' hSw; replace hSw := S2o0 hSw; (try dsimp only at hSw); have q0 := hSw.1; have q1 := hSw.2.1; have q2 := hSw.2.2.1; have q3 := hSw.2.2.2.1; have q4 := hSw.2.2.2.2.1; have q5 := hSw.2.2.2.2.2.1; have q6 := hSw.2.2.2.2.2.2.1; have q7 := hSw.2.2.2.2.2.2.2.1; have q8 := hSw.2.2.2.2.2.2.2.2.1; have q9 := hSw.2.2.2.2.2.2.2.2.2.1; have q10 := hSw.2.2.2.2.2.2.2.2.2.2; go_simp; try (with_reducible rfl))
                        simp only [sB, sC]
                        refine Ut 3 61 13 0 0 (v := ?vr2_4) rfl hWr2 hH ?yr2_4 ?_
                        case yr2_4 => (intro w' hSw; clear hSw; go_simp; try (with_reducible rfl))
                        simp only [sB, sC]
                        refine Ut 4 62 12 0 0 (v := ?vr2_5) rfl hWr2 hH ?yr2_5 ?_
                        case yr2_5 => (intro w' hSw; clear hSw; go_simp; try (with_reducible rfl))
                        simp only [sB, sC]
                        refine Ut 5 63 11 0 0 (v := ?vr2_6) rfl hWr2 hH ?yr2_6 ?_
                        case yr2_6 => (intro w' hSw; clear hSw; go_simp; try (with_reducible rfl))
                        simp only [sB, sC]
                        refine Ut 6 64 10 0 0 (v := ?vr2_7) rfl hWr2 hH ?yr2_7 ?_
                        case yr2_7 => (intro w' hSw; replace hSw := S2o0 hSw; (try dsimp only at hSw); have q0 := hSw.1; have q1 := hSw.2.1; have q2 := hSw.2.2.1; have q3 := hSw.2.2.2.1; have q4 := hSw.2.2.2.2.1; have q5 := hSw.2.2.2.2.2.1; have q6 := hSw.2.2.2.2.2.2.1; have q7 := hSw.2.2.2.2.2.2.2.1; have q8 := hSw.2.2.2.2.2.2.2.2.1; have q9 := hSw.2.2.2.2.2.2.2.2.2.1; have q10 := hSw.2.2.2.2.2.2.2.2.2.2; go_simp; try (with_reducible rfl))
                        simp only [sB, sC]
                        refine Ut 7 65 9 0 0 (v := ?vr2_8) rfl hWr2 hH ?yr2_8 ?_
                        case yr2_8 => (intro w' hSw; clear hSw; go_simp; try (with_reducible rfl))
                        simp only [sB, sC]
                        refine Ut 8 66 8 0 0 (v := ?vr2_9) rfl hWr2 hH ?yr2_9 ?_
                        case yr2_9 => (intro w' hSw; clear hSw; go_simp; try (with_reducible rfl))
                        simp only [sB, sC]
                        refine U_skips (by kernel_rfl) (fun _ _ _ _ h => h) hWr2 0 0 (by omega) hH [(9, 67), (10, 68), (11, 69), (12, 70), (13, 71), (14, 72), (15, 73)] 1 _ _ _ (by kernel_rfl) (by kernel_rfl) ?_
                        simp only [tsetUndef, List.set_cons_zero, List.set_cons_succ]
                        refine Ut 16 74 0 0 0 (v := ?vr2_10) rfl hWr2 hH ?yr2_10 ?_
                        case yr2_10 => (intro w' hSw; clear hSw; go_simp; try (with_reducible rfl))
                        simp only [sB, sC]
                        refine wpAnyU_done (by kernel_rfl) ?_ _ _
                        refine NoPanic.normal ?_
                        clear hWr2
                        replace hH := S2o0 hH
                        (try dsimp only at hH)
                        have t0 := hH.1
                        have t1 := hH.2.1
                        have t2 := hH.2.2.1
                        have t3 := hH.2.2.2.1
                        have t4 := hH.2.2.2.2.1
                        have t5 := hH.2.2.2.2.2.1
                        have t6 := hH.2.2.2.2.2.2.1
                        have t7 := hH.2.2.2.2.2.2.2.1
                        have t8 := hH.2.2.2.2.2.2.2.2.1
                        have t9 := hH.2.2.2.2.2.2.2.2.2.1
                        have t10 := hH.2.2.2.2.2.2.2.2.2.2
                        go_wp2_with fail
                        go_meet
                        exact ⟨_, rfl, HT.out, by first | exact t10 | exact t10.drew⟩
                    | false =>
                      have HT : Hid (false = (H k && (H q && tchB (X k) (X q)))) := by show _ = _; rw [hh]; simp
                      have F0 : Hid (wi.cell? ⟨gh, k, none⟩ = some (.bool false)) := by rw [← hh]; exact F00
                      obtain ⟨hb2, hhb⟩ : ∃ z, z = H q := ⟨_, rfl⟩
                      have G0 : Hid (wi.cell? ⟨gh, q, none⟩ = some (.bool hb2)) := by rw [hhb]; exact G00
                      clear F00 G00 HI HXE HYE hh hhb HTR HB0
                      refine wp_region_noPanic ?_
                      refine wp_region_U (S := (S2 (fun w' => w'.cell? ⟨gh, k, none⟩ = some (.bool false) ∧ w'.cell? ⟨gh, q, none⟩ = some (.bool hb2) ∧ w'.cell? ⟨gx, k * 4, none⟩ = some (.int .i64 x1) ∧ w'.cell? ⟨gx, k * 4 + 1, none⟩ = some (.int .i64 x2) ∧ w'.cell? ⟨gx, k * 4 + 2, none⟩ = some (.int .i64 x3) ∧ w'.cell? ⟨gx, k * 4 + 3, none⟩ = some (.int .i64 x4) ∧ w'.cell? ⟨gx, q * 4, none⟩ = some (.int .i64 y1) ∧ w'.cell? ⟨gx, q * 4 + 1, none⟩ = some (.int .i64 y2) ∧ w'.cell? ⟨gx, q * 4 + 2, none⟩ = some (.int .i64 y3) ∧ w'.cell? ⟨gx, q * 4 + 3, none⟩ = some (.int .i64 y4) ∧ Below wi.heap.size wi w'))) (T := (fun _ => 0)) (by kernel_rfl) (S2i0 ⟨F0.out, G0.out, X0.out, X1.out, X2.out, X3.out, Y0.out, Y1.out, Y2.out, Y3.out, (Below.refl _ _).drew⟩) (fun hH => ?_)
                      have hWr3 : Weaker (S2 (fun w' => w'.cell? ⟨gh, k, none⟩ = some (.bool false) ∧ w'.cell? ⟨gh, q, none⟩ = some (.bool hb2) ∧ w'.cell? ⟨gx, k * 4, none⟩ = some (.int .i64 x1) ∧ w'.cell? ⟨gx, k * 4 + 1, none⟩ = some (.int .i64 x2) ∧ w'.cell? ⟨gx, k * 4 + 2, none⟩ = some (.int .i64 x3) ∧ w'.cell? ⟨gx, k * 4 + 3, none⟩ = some (.int .i64 x4) ∧ w'.cell? ⟨gx, q * 4, none⟩ = some (.int .i64 y1) ∧ w'.cell? ⟨gx, q * 4 + 1, none⟩ = some (.int .i64 y2) ∧ w'.cell? ⟨gx, q * 4 + 2, none⟩ = some (.int .i64 y3) ∧ w'.cell? ⟨gx, q * 4 + 3, none⟩ = some (.int .i64 y4) ∧ Below wi.heap.size wi w')) := weaker2 _
                      refine Ut 0 58 16 0 0 (v := ?vr3_1) rfl hWr3 hH ?yr3_1 ?_
                      case yr3_1 => (intro w' hSw; clear hSw; go_simp; try (with_reducible rfl))
                      simp only [sB, sC]
                      refine Ut 1 59 15 0 0 (v := ?vr3_2) rfl hWr3 hH ?yr3_2 ?_
                      case yr3_2 => (intro w' hSw; clear hSw; go_simp; try (with_reducible rfl))
                      simp only [sB, sC]
                      refine Ut 2 60 14 0 0 (v := ?vr3_3) rfl hWr3 hH ?yr3_3 ?_
                      case yr3_3 => (intro w' hSw; replace hSw := S2o0 hSw; (try dsimp only at hSw); have q0 := hSw.1; have q1 := hSw.2.1; have q2 := hSw.2.2.1; have q3 := hSw.2.2.2.1; have q4 := hSw.2.2.2.2.1; have q5 := hSw.2.2.2.2.2.1; have q6 := hSw.2.2.2.2.2.2.1; have q7 := hSw.2.2.2.2.2.2.2.1; have q8 := hSw.2.2.2.2.2.2.2.2.1; have q9 := hSw.2.2.2.2.2.2.2.2.2.1; have q10 := hSw.2.2.2.2.2.2.2.2.2.2; go_simp; try (with_reducible rfl))
                      simp only [sB, sC]
                      refine Ut 3 61 13 0 0 (v := ?vr3_4) rfl hWr3 hH ?yr3_4 ?_
                      case yr3_4 => (intro w' hSw; clear hSw; go_simp; try (with_reducible rfl))
                      simp only [sB, sC]
                      refine U_skips (by kernel_rfl) (fun _ _ _ _ h => h) hWr3 0 0 (by omega) hH [(4, 62), (5, 63), (6, 64)] 10 _ _ _ (by kernel_rfl) (by kernel_rfl) ?_
                      simp only [tsetUndef, List.set_cons_zero, List.set_cons_succ]
                      refine Ut 7 65 9 0 0 (v := ?vr3_5) rfl hWr3 hH ?yr3_5 ?_
                      case yr3_5 => (intro w' hSw; clear hSw; go_simp; try (with_reducible rfl))
                      simp only [sB, sC]
                      refine Ut 8 66 8 0 0 (v := ?vr3_6) rfl hWr3 hH ?yr3_6 ?_
                      case yr3_6 => (intro w' hSw; clear hSw; go_simp; try (with_reducible rfl))
                      simp only [sB, sC]
                      refine U_skips (by kernel_rfl) (fun _ _ _ _ h => h) hWr3 0 0 (by omega) hH [(9, 67), (10, 68), (11, 69), (12, 70), (13, 71), (14, 72), (15, 73)] 1 _ _ _ (by kernel_rfl) (by kernel_rfl) ?_
                      simp only [tsetUndef, List.set_cons_zero, List.set_cons_succ]
                      refine Ut 16 74 0 0 0 (v := ?vr3_7) rfl hWr3 hH ?yr3_7 ?_
                      case yr3_7 => (intro w' hSw; clear hSw; go_simp; try (with_reducible rfl))
                      simp only [sB, sC]
                      refine wpAnyU_done (by kernel_rfl) ?_ _ _
                      refine NoPanic.normal ?_
                      clear hWr3
                      replace hH := S2o0 hH
                      (try dsimp only at hH)
                      have t0 := hH.1
                      have t1 := hH.2.1
                      have t2 := hH.2.2.1
                      have t3 := hH.2.2.2.1
                      have t4 := hH.2.2.2.2.1
                      have t5 := hH.2.2.2.2.2.1
                      have t6 := hH.2.2.2.2.2.2.1
                      have t7 := hH.2.2.2.2.2.2.2.1
                      have t8 := hH.2.2.2.2.2.2.2.2.1
                      have t9 := hH.2.2.2.2.2.2.2.2.2.1
                      have t10 := hH.2.2.2.2.2.2.2.2.2.2
                      go_wp2_with fail
                      go_meet
                      exact ⟨_, rfl, HT.out, by first | exact t10 | exact t10.drew⟩
                  case rest =>
                    obtain ⟨z, rfl, hz, hbx⟩ := hcut
                    obtain ⟨w6, rfl⟩ : ∃ w6 : World, w6 = wc := ⟨_, rfl⟩
                    have HZ := hid hz
                    have HK1 := hid (HI.out.keep hbx)
                    have HLN0 : (allH H X k ++ rowH H X k q).length ≤ 100000 := by
                      rw [List.length_append]
                      have h1 := allH_len H X k
                      have h2 := rowH_len H X k q
                      omega
                    have HLN := hid HLN0
                    clear hz hbx HI F00 G00 X0 X1 X2 X3 Y0 Y1 Y2 Y3 HYE HLN0
                    cases z with
                    | true =>
                      have HE : Hid (allH H X k ++ rowH H X k (q + 1) = (allH H X k ++ rowH H X k q) ++ [(k, q)]) := by show _ = _; rw [rowH_succ _ _ _ _ hkq, ← HZ.out, if_pos rfl, List.append_assoc]
                      generalize allH H X k ++ rowH H X k q = O at *
                      go_wp2_with (at_builtin; refine wpList_append_E tyPair rfl _ _ rfl wB.heap.size _ _ rfl (HK1.out.o3.alloc _) w6.heap.size 0 1 1 [(k, q)] rfl rfl (cells_pair (by go_simp) (by go_simp)) (by have := HLN.out; simp; omega) (by have := HLN.out; simp; omega) (by have := HK1.out.bel.size; simp; omega) ?_; intro v' w7 ho1 hg1 hat; have HK2 := hid ((HK1.out.keep ((Below.refl _ _).alloc (Nat.le_refl _) _)).app3 ho1 hg1 hat); clear ho1 hg1 hat)
                      go_roundw
                      case rel => exact ⟨q + 1, by omega, hql, by go_num, by rw [HE.out]; exact HK2⟩
                      case measure => simp [intOf]; omega
                    | false =>
                      have HE : Hid (allH H X k ++ rowH H X k (q + 1) = allH H X k ++ rowH H X k q) := by show _ = _; rw [rowH_succ _ _ _ _ hkq, ← HZ.out]; simp
                      clear HLN
                      go_wp2
                      go_roundw
                      case rel => exact ⟨q + 1, by omega, hql, by go_num, by rw [HE.out]; exact HK1⟩
                      case measure => simp [intOf]; omega
                · have hqe : q = 256 := by omega
                  subst hqe
                  have HN : Hid (FoS wB (hitH H X ((b1, b2), (b3, b4)) (k + 1)) (hitH H X ((b1, b2), (b1, b2)) (k + 1)) (allH H X (k + 1)) u9 u10 u11 wi) := by show FoS _ _ _ _ _ _ _ _; rw [allH_succ]; exact HI.out
                  clear HI
                  go_wp2
                  go_roundw
                  case rel => exact ⟨k + 1, hlt, by go_num, HN⟩
                  case measure => simp [intOf]; omega
    · have hke : k = 256 := by omega
      subst hke
      have HE1 : Hid (hitH H X ((b1, b2), (b3, b4)) 256 = hitF (FofH H X) (fun x => tchB x ((b1, b2), (b3, b4)))) := hitH_all _ _ _
      have HE2 : Hid (hitH H X ((b1, b2), (b1, b2)) 256 = hitF (FofH H X) (fun x => tchB x ((b1, b2), (b1, b2)))) := hitH_all _ _ _
      have HE3 : Hid (allH H X 256 = prsF (FofH H X) tchB 256) := allH_all _ _
      rw [HE1.out, HE2.out, HE3.out] at HK
      obtain ⟨A1, n1, c1, rfl, hs1, -⟩ := HK.out.o1.sl
      obtain ⟨A2, n2, c2, rfl, hs2, -⟩ := HK.out.o2.sl
      obtain ⟨A3, n3, c3, rfl, hs3, -⟩ := HK.out.o3.sl
      have a2 := keepCellB HK.out.bel AB2.out
      have a3 := keepCellB HK.out.bel AB3.out
      have a4 := keepCellB HK.out.bel AB4.out
      have a5 := keepCellB HK.out.bel AB5.out
      have la := lt_of_cell a2
      have HT := hid (TrA.below HK.out.bel HTR.out)
      have HB := hid (keepBelow HK.out.bel HB0.out)
      have HS1 := hid hs1
      have HS2 := hid hs2
      have HS3 := hid hs3
      have HM := hid (tmeet_calls HT.out b1 b2 b3 b4)
      clear HE1 HE2 HE3 HK hs1 hs2 hs3 HTR HB0 HAS HXS AB2 AB3 AB4 AB5
      go_wp2_with fail
      refine HM.out.mono ?_
      rintro e w1 ⟨A4, n4, c4, rfl, hs4, hb⟩
      have HEQ := hid (equalI_calls A4 A1 n4 c4 n1 c1 _ _ w1 hs4.toI (HS1.out.below hb).toI)
      replace HS2 := hid (HS2.out.below hb)
      replace HS3 := hid (HS3.out.below hb)
      replace HT := hid (TrA.below hb HT.out)
      replace HB := hid (keepBelow hb HB.out)
      replace a2 := keepCell hb a2
      replace a3 := keepCell hb a3
      have la1 := lt_of_cell a2
      clear hb hs4 HM HS1 a4 a5 la
      go_wp2_with fail
      refine HEQ.out.mono ?_
      rintro e w2 ⟨rfl, hb⟩
      replace HS2 := hid (HS2.out.below hb)
      replace HS3 := hid (HS3.out.below hb)
      replace HT := hid (TrA.below hb HT.out)
      replace HB := hid (keepBelow hb HB.out)
      replace a2 := keepCell hb a2
      replace a3 := keepCell hb a3
      have la2 := lt_of_cell a2
      have HM := hid (thas_calls HT.out b1 b2)
      clear hb HEQ la1
      go_wp2_with fail
      refine HM.out.mono ?_
      rintro e w3 ⟨A5, n5, c5, rfl, hs5, hb⟩
      have HEQ := hid (equalI_calls A5 A2 n5 c5 n2 c2 _ _ w3 hs5.toI (HS2.out.below hb).toI)
      replace HS3 := hid (HS3.out.below hb)
      replace HT := hid (TrA.below hb HT.out)
      replace HB := hid (keepBelow hb HB.out)
      clear hb hs5 HM HS2 a2 a3 la2
      go_wp2_with fail
      refine HEQ.out.mono ?_
      rintro e w4 ⟨rfl, hb⟩
      replace HS3 := hid (HS3.out.below hb)
      replace HT := hid (TrA.below hb HT.out)
      replace HB := hid (keepBelow hb HB.out)
      have HM := hid (tpairs_calls HT.out)
      clear hb HEQ
      go_wp2_with fail
      refine HM.out.mono ?_
      rintro e w5 ⟨A6, n6, c6, rfl, hs6, hb⟩
      have HEQ := hid (equalP_calls A6 A3 n6 c6 n3 c3 _ _ w5 hs6 (HS3.out.below hb))
      replace HB := hid (keepBelow hb HB.out)
      clear hb hs6 HM HS3 HT
      go_wp2_with fail
      refine HEQ.out.mono ?_
      rintro e w6 ⟨rfl, hb⟩
      have hB := keepBelow hb HB.out
      clear hb HEQ HB
      go_wp2
      go_returns
      exact ret_bool (by simp) hB
end
end Go.Proofs.Ytiaoandbdgdecaa
