/- Parts of a proof: contracts and laws. -/
import Derived.Test.YtiaoandbdgdecaaPT17
namespace Go.Proofs.Ytiaoandbdgdecaa
section
set_option linter.unusedVariables false
set_option linter.unusedSimpArgs false
open Go.RowKit
def RetBal (g u : Nat) (l r : TB) (up : Option Addr) (C : List Fr) (s : TS) (w : World) (e : Ending) (w' : World) : Prop := ∃ s', e = .returned (.pointer (pA (balTB u l r).root)) ∧ Mem w' g s' ∧ Out (s.In g) w w' ∧ (balTB u l r).Rp s' up ∧ CxR s' C up (balTB u l r).root ∧ (∀ k, k ∉ (u :: (l.blocks ++ r.blocks)) → k ∉ cxB C → s'.nd k = s.nd k) ∧ s'.lv = s.lv ∧ s'.cnt = s.cnt ∧ ∀ i, s'.In g i → s.In g i
set_option maxRecDepth 100000 in
set_option maxHeartbeats 4000000 in
theorem balance_stay {w : World} {g : Nat} {s : TS} (h : Mem w g s) {u : Nat} {l r : TB} {up : Option Addr} {C : List Fr} (hR : (TB.nd u l r).Rp s up) (hC : CxR s C up u) (hH : l.tr.ht ≤ 1000 ∧ r.tr.ht ≤ 1000) (hB : l.tr.ht ≤ r.tr.ht + 1 ∧ r.tr.ht ≤ l.tr.ht + 1) :
    Calls Try.prog 48 #[.pointer (pA g), .pointer (pA u)] w (RetBal g u l r up C s w) := by
  have c := h.nd _ _ hR.1
  obtain ⟨rl, hrl, -, -, tl⟩ := hR.2.1.top
  obtain ⟨rr, hrr, -, -, tr⟩ := hR.2.2.top
  have U7 : w.cell? ⟨u, 7, none⟩ = some (.pointer (some ⟨l.root, 0, none⟩)) := c.c7
  have U8 : w.cell? ⟨u, 8, none⟩ = some (.pointer (some ⟨r.root, 0, none⟩)) := c.c8
  have L5 : w.cell? ⟨l.root, 5, none⟩ = some (.int .i64 ((l.tr.ht : Nat) : Int)) := by rw [(h.nd _ _ hrl).c5, tl]
  have R5 : w.cell? ⟨r.root, 5, none⟩ = some (.int .i64 ((r.tr.ht : Nat) : Int)) := by rw [(h.nd _ _ hrr).c5, tr]
  have lu := lt_of_cell U7
  have ll := lt_of_cell L5
  have lr := lt_of_cell R5
  have hbal : balTB u l r = TB.nd u l r := by
    unfold balTB
    split
    · rw [if_pos (by omega)]
    · rw [if_pos (by omega)]
  have RET : ∀ w', Below w.heap.size w w' → RetBal g u l r up C s w (.returned (.pointer (pA u))) w' := fun w' hb => by
    unfold RetBal
    rw [hbal]
    exact ⟨s, rfl, h.below hb, Out.below hb, hR, hC, fun k _ _ => rfl, rfl, rfl, fun i q => q⟩
  obtain ⟨lb, hlb⟩ : ∃ b, b = l.root := ⟨_, rfl⟩
  obtain ⟨rb, hrb⟩ : ∃ b, b = r.root := ⟨_, rfl⟩
  rw [← hlb] at U7 L5 ll
  rw [← hrb] at U8 R5 lr
  obtain ⟨hl, hhl⟩ : ∃ z, z = ((l.tr.ht : Nat) : Int) := ⟨_, rfl⟩
  obtain ⟨hr, hhr⟩ : ∃ z, z = ((r.tr.ht : Nat) : Int) := ⟨_, rfl⟩
  rw [← hhl] at L5
  rw [← hhr] at R5
  have w1 : IntKind.i64.wrap (hl + 1) = hl + 1 := IntWalk.i64_in _ (by omega)
  have w2 : IntKind.i64.wrap (hr + 1) = hr + 1 := IntWalk.i64_in _ (by omega)
  by_cases hgt : hl > hr
  · have hle : hl ≤ hr + 1 := by omega
    clear h hR hC hbal c hrl hrr tl tr hlb hrb hhl hhr hH hB
    go_enter Try.func48, Try.ntmps48
    go_upto_region 1 with fail
    refine wp_region_noPanic ?_
    refine wp_region_U (S := (S2 (fun w' => w'.cell? ⟨u, 7, none⟩ = some (.pointer (some ⟨lb, 0, none⟩)) ∧ w'.cell? ⟨u, 8, none⟩ = some (.pointer (some ⟨rb, 0, none⟩))))) (T := (fun _ => 0)) (by kernel_rfl) (S2i0 ⟨by exact U7, by exact U8⟩) (fun hH => ?_)
    have hWr1 : Weaker (S2 (fun w' => w'.cell? ⟨u, 7, none⟩ = some (.pointer (some ⟨lb, 0, none⟩)) ∧ w'.cell? ⟨u, 8, none⟩ = some (.pointer (some ⟨rb, 0, none⟩)))) := weaker2 _
    refine Ut 0 9 11 0 0 (v := ?vr1_1) rfl hWr1 hH ?yr1_1 ?_
    case yr1_1 => (intro w' hSw; clear hSw; go_simp; try (with_reducible rfl))
    simp only [sB, sC]
    refine Ut 1 10 10 0 0 (v := ?vr1_2) rfl hWr1 hH ?yr1_2 ?_
    case yr1_2 => (intro w' hSw; clear hSw; go_simp; try (with_reducible rfl))
    simp only [sB, sC]
    refine Ut 2 11 9 0 0 (v := ?vr1_3) rfl hWr1 hH ?yr1_3 ?_
    case yr1_3 => (intro w' hSw; clear hSw; go_simp; try (with_reducible rfl))
    simp only [sB, sC]
    refine Ut 3 12 8 0 0 (v := ?vr1_4) rfl hWr1 hH ?yr1_4 ?_
    case yr1_4 => (intro w' hSw; clear hSw; go_simp; try (with_reducible rfl))
    simp only [sB, sC]
    refine Ut 4 13 7 0 0 (v := ?vr1_5) rfl hWr1 hH ?yr1_5 ?_
    case yr1_5 => (intro w' hSw; replace hSw := S2o0 hSw; (try dsimp only at hSw); have q0 := hSw.1; have q1 := hSw.2; go_simp; try (with_reducible rfl))
    simp only [sB, sC]
    refine Ut 5 14 6 0 0 (v := ?vr1_6) rfl hWr1 hH ?yr1_6 ?_
    case yr1_6 => (intro w' hSw; clear hSw; go_simp; try (with_reducible rfl))
    simp only [sB, sC]
    refine Ut 6 15 5 0 0 (v := ?vr1_7) rfl hWr1 hH ?yr1_7 ?_
    case yr1_7 => (intro w' hSw; clear hSw; go_simp; try (with_reducible rfl))
    simp only [sB, sC]
    refine Ut 7 16 4 0 0 (v := ?vr1_8) rfl hWr1 hH ?yr1_8 ?_
    case yr1_8 => (intro w' hSw; clear hSw; go_simp; try (with_reducible rfl))
    simp only [sB, sC]
    refine Ut 8 17 3 0 0 (v := ?vr1_9) rfl hWr1 hH ?yr1_9 ?_
    case yr1_9 => (intro w' hSw; clear hSw; go_simp; try (with_reducible rfl))
    simp only [sB, sC]
    refine Ut 9 18 2 0 0 (v := ?vr1_10) rfl hWr1 hH ?yr1_10 ?_
    case yr1_10 => (intro w' hSw; replace hSw := S2o0 hSw; (try dsimp only at hSw); have q0 := hSw.1; have q1 := hSw.2; go_simp; try (with_reducible rfl))
    simp only [sB, sC]
    refine Ut 10 5 1 0 0 (v := ?vr1_11) rfl hWr1 hH ?yr1_11 ?_
    case yr1_11 => (intro w' hSw; clear hSw; go_simp; try (with_reducible rfl))
    simp only [sB, sC]
    refine Ut 11 6 0 0 0 (v := ?vr1_12) rfl hWr1 hH ?yr1_12 ?_
    case yr1_12 => (intro w' hSw; clear hSw; go_simp; try (with_reducible rfl))
    simp only [sB, sC]
    refine wpAnyU_done (by kernel_rfl) ?_ _ _
    refine NoPanic.normal ?_
    clear hWr1
    clear hH
    go_upto_region 2 with fail
    refine wp_region_noPanic ?_
    refine wp_region_U (S := (S2 (fun w' => w'.cell? ⟨lb, 5, none⟩ = some (.int .i64 hl) ∧ w'.cell? ⟨rb, 5, none⟩ = some (.int .i64 hr)))) (T := (fun _ => 0)) (by kernel_rfl) (S2i0 ⟨by exact L5, by exact R5⟩) (fun hH => ?_)
    have hWr2 : Weaker (S2 (fun w' => w'.cell? ⟨lb, 5, none⟩ = some (.int .i64 hl) ∧ w'.cell? ⟨rb, 5, none⟩ = some (.int .i64 hr))) := weaker2 _
    refine Ut 0 19 8 0 0 (v := ?vr2_1) rfl hWr2 hH ?yr2_1 ?_
    case yr2_1 => (intro w' hSw; clear hSw; go_simp; try (with_reducible rfl))
    simp only [sB, sC]
    refine Ut 1 20 7 0 0 (v := ?vr2_2) rfl hWr2 hH ?yr2_2 ?_
    case yr2_2 => (intro w' hSw; clear hSw; go_simp; try (with_reducible rfl))
    simp only [sB, sC]
    refine Ut 2 21 6 0 0 (v := ?vr2_3) rfl hWr2 hH ?yr2_3 ?_
    case yr2_3 => (intro w' hSw; clear hSw; go_simp; try (with_reducible rfl))
    simp only [sB, sC]
    refine Ut 3 22 5 0 0 (v := ?vr2_4) rfl hWr2 hH ?yr2_4 ?_
    case yr2_4 => (intro w' hSw; replace hSw := S2o0 hSw; (try dsimp only at hSw); have q0 := hSw.1; have q1 := hSw.2; go_simp; try (with_reducible rfl))
    simp only [sB, sC]
    refine Ut 4 23 4 0 0 (v := ?vr2_5) rfl hWr2 hH ?yr2_5 ?_
    case yr2_5 => (intro w' hSw; clear hSw; go_simp; try (with_reducible rfl))
    simp only [sB, sC]
    refine Ut 5 24 3 0 0 (v := ?vr2_6) rfl hWr2 hH ?yr2_6 ?_
    case yr2_6 => (intro w' hSw; clear hSw; go_simp; try (with_reducible rfl))
    simp only [sB, sC]
    refine Ut 6 25 2 0 0 (v := ?vr2_7) rfl hWr2 hH ?yr2_7 ?_
    case yr2_7 => (intro w' hSw; clear hSw; go_simp; try (with_reducible rfl))
    simp only [sB, sC]
    refine Ut 7 26 1 0 0 (v := ?vr2_8) rfl hWr2 hH ?yr2_8 ?_
    case yr2_8 => (intro w' hSw; replace hSw := S2o0 hSw; (try dsimp only at hSw); have q0 := hSw.1; have q1 := hSw.2; go_simp; try (with_reducible rfl))
    simp only [sB, sC]
    refine Ut 8 27 0 0 0 (v := ?vr2_9) rfl hWr2 hH ?yr2_9 ?_
    case yr2_9 => (intro w' hSw; clear hSw; go_simp; try (with_reducible rfl))
    simp only [sB, sC]
    refine wpAnyU_done (by kernel_rfl) ?_ _ _
    refine NoPanic.normal ?_
    clear hWr2
    clear hH
    go_upto_region 4 with fail
    refine wp_region_noPanic ?_
    refine wp_region_U (S := (S2 (fun w' => w'.cell? ⟨lb, 5, none⟩ = some (.int .i64 hl) ∧ w'.cell? ⟨rb, 5, none⟩ = some (.int .i64 hr)))) (T := (fun _ => 0)) (by kernel_rfl) (S2i0 ⟨by exact L5, by exact R5⟩) (fun hH => ?_)
    have hWr3 : Weaker (S2 (fun w' => w'.cell? ⟨lb, 5, none⟩ = some (.int .i64 hl) ∧ w'.cell? ⟨rb, 5, none⟩ = some (.int .i64 hr))) := weaker2 _
    refine Ut 0 30 9 0 0 (v := ?vr3_1) rfl hWr3 hH ?yr3_1 ?_
    case yr3_1 => (intro w' hSw; clear hSw; go_simp; try (with_reducible rfl))
    simp only [sB, sC]
    refine Ut 1 31 8 0 0 (v := ?vr3_2) rfl hWr3 hH ?yr3_2 ?_
    case yr3_2 => (intro w' hSw; clear hSw; go_simp; try (with_reducible rfl))
    simp only [sB, sC]
    refine Ut 2 32 7 0 0 (v := ?vr3_3) rfl hWr3 hH ?yr3_3 ?_
    case yr3_3 => (intro w' hSw; clear hSw; go_simp; try (with_reducible rfl))
    simp only [sB, sC]
    refine Ut 3 33 6 0 0 (v := ?vr3_4) rfl hWr3 hH ?yr3_4 ?_
    case yr3_4 => (intro w' hSw; replace hSw := S2o0 hSw; (try dsimp only at hSw); have q0 := hSw.1; have q1 := hSw.2; go_simp; try (with_reducible rfl))
    simp only [sB, sC]
    refine Ut 4 34 5 0 0 (v := ?vr3_5) rfl hWr3 hH ?yr3_5 ?_
    case yr3_5 => (intro w' hSw; clear hSw; go_simp; try (with_reducible rfl))
    simp only [sB, sC]
    refine Ut 5 35 4 0 0 (v := ?vr3_6) rfl hWr3 hH ?yr3_6 ?_
    case yr3_6 => (intro w' hSw; clear hSw; go_simp; try (with_reducible rfl))
    simp only [sB, sC]
    refine Ut 6 36 3 0 0 (v := ?vr3_7) rfl hWr3 hH ?yr3_7 ?_
    case yr3_7 => (intro w' hSw; clear hSw; go_simp; try (with_reducible rfl))
    simp only [sB, sC]
    refine Ut 7 37 2 0 0 (v := ?vr3_8) rfl hWr3 hH ?yr3_8 ?_
    case yr3_8 => (intro w' hSw; replace hSw := S2o0 hSw; (try dsimp only at hSw); have q0 := hSw.1; have q1 := hSw.2; go_simp; try (with_reducible rfl))
    simp only [sB, sC]
    refine Ut 8 38 1 0 0 (v := ?vr3_9) rfl hWr3 hH ?yr3_9 ?_
    case yr3_9 => (intro w' hSw; clear hSw; go_simp; try (with_reducible rfl))
    simp only [sB, sC]
    refine Ut 9 39 0 0 0 (v := ?vr3_10) rfl hWr3 hH ?yr3_10 ?_
    case yr3_10 => (intro w' hSw; clear hSw; go_simp; try (with_reducible rfl))
    simp only [sB, sC]
    refine wpAnyU_done (by kernel_rfl) ?_ _ _
    refine NoPanic.normal ?_
    clear hWr3
    clear hH
    go_wp2
    go_returns
    exact RET _ (by first | exact Below.refl _ _ | exact (Below.refl _ _).drew | exact (Below.refl _ _).drew.drew | exact (Below.refl _ _).drew.drew.drew | exact (Below.refl _ _).drew.drew.drew.drew)
  · have hle : hr ≤ hl + 1 := by omega
    clear h hR hC hbal c hrl hrr tl tr hlb hrb hhl hhr hH hB
    go_enter Try.func48, Try.ntmps48
    go_upto_region 1 with fail
    refine wp_region_noPanic ?_
    refine wp_region_U (S := (S2 (fun w' => w'.cell? ⟨u, 7, none⟩ = some (.pointer (some ⟨lb, 0, none⟩)) ∧ w'.cell? ⟨u, 8, none⟩ = some (.pointer (some ⟨rb, 0, none⟩))))) (T := (fun _ => 0)) (by kernel_rfl) (S2i0 ⟨by exact U7, by exact U8⟩) (fun hH => ?_)
    have hWr4 : Weaker (S2 (fun w' => w'.cell? ⟨u, 7, none⟩ = some (.pointer (some ⟨lb, 0, none⟩)) ∧ w'.cell? ⟨u, 8, none⟩ = some (.pointer (some ⟨rb, 0, none⟩)))) := weaker2 _
    refine Ut 0 9 11 0 0 (v := ?vr4_1) rfl hWr4 hH ?yr4_1 ?_
    case yr4_1 => (intro w' hSw; clear hSw; go_simp; try (with_reducible rfl))
    simp only [sB, sC]
    refine Ut 1 10 10 0 0 (v := ?vr4_2) rfl hWr4 hH ?yr4_2 ?_
    case yr4_2 => (intro w' hSw; clear hSw; go_simp; try (with_reducible rfl))
    simp only [sB, sC]
    refine Ut 2 11 9 0 0 (v := ?vr4_3) rfl hWr4 hH ?yr4_3 ?_
    case yr4_3 => (intro w' hSw; clear hSw; go_simp; try (with_reducible rfl))
    simp only [sB, sC]
    refine Ut 3 12 8 0 0 (v := ?vr4_4) rfl hWr4 hH ?yr4_4 ?_
    case yr4_4 => (intro w' hSw; clear hSw; go_simp; try (with_reducible rfl))
    simp only [sB, sC]
    refine Ut 4 13 7 0 0 (v := ?vr4_5) rfl hWr4 hH ?yr4_5 ?_
    case yr4_5 => (intro w' hSw; replace hSw := S2o0 hSw; (try dsimp only at hSw); have q0 := hSw.1; have q1 := hSw.2; go_simp; try (with_reducible rfl))
    simp only [sB, sC]
    refine Ut 5 14 6 0 0 (v := ?vr4_6) rfl hWr4 hH ?yr4_6 ?_
    case yr4_6 => (intro w' hSw; clear hSw; go_simp; try (with_reducible rfl))
    simp only [sB, sC]
    refine Ut 6 15 5 0 0 (v := ?vr4_7) rfl hWr4 hH ?yr4_7 ?_
    case yr4_7 => (intro w' hSw; clear hSw; go_simp; try (with_reducible rfl))
    simp only [sB, sC]
    refine Ut 7 16 4 0 0 (v := ?vr4_8) rfl hWr4 hH ?yr4_8 ?_
    case yr4_8 => (intro w' hSw; clear hSw; go_simp; try (with_reducible rfl))
    simp only [sB, sC]
    refine Ut 8 17 3 0 0 (v := ?vr4_9) rfl hWr4 hH ?yr4_9 ?_
    case yr4_9 => (intro w' hSw; clear hSw; go_simp; try (with_reducible rfl))
    simp only [sB, sC]
    refine Ut 9 18 2 0 0 (v := ?vr4_10) rfl hWr4 hH ?yr4_10 ?_
    case yr4_10 => (intro w' hSw; replace hSw := S2o0 hSw; (try dsimp only at hSw); have q0 := hSw.1; have q1 := hSw.2; go_simp; try (with_reducible rfl))
    simp only [sB, sC]
    refine Ut 10 5 1 0 0 (v := ?vr4_11) rfl hWr4 hH ?yr4_11 ?_
    case yr4_11 => (intro w' hSw; clear hSw; go_simp; try (with_reducible rfl))
    simp only [sB, sC]
    refine Ut 11 6 0 0 0 (v := ?vr4_12) rfl hWr4 hH ?yr4_12 ?_
    case yr4_12 => (intro w' hSw; clear hSw; go_simp; try (with_reducible rfl))
    simp only [sB, sC]
    refine wpAnyU_done (by kernel_rfl) ?_ _ _
    refine NoPanic.normal ?_
    clear hWr4
    clear hH
    go_upto_region 2 with fail
    refine wp_region_noPanic ?_
    refine wp_region_U (S := (S2 (fun w' => w'.cell? ⟨lb, 5, none⟩ = some (.int .i64 hl) ∧ w'.cell? ⟨rb, 5, none⟩ = some (.int .i64 hr)))) (T := (fun _ => 0)) (by kernel_rfl) (S2i0 ⟨by exact L5, by exact R5⟩) (fun hH => ?_)
    have hWr5 : Weaker (S2 (fun w' => w'.cell? ⟨lb, 5, none⟩ = some (.int .i64 hl) ∧ w'.cell? ⟨rb, 5, none⟩ = some (.int .i64 hr))) := weaker2 _
    refine Ut 0 19 8 0 0 (v := ?vr5_1) rfl hWr5 hH ?yr5_1 ?_
    case yr5_1 => (intro w' hSw; clear hSw; go_simp; try (with_reducible rfl))
    simp only [sB, sC]
    refine Ut 1 20 7 0 0 (v := ?vr5_2) rfl hWr5 hH ?yr5_2 ?_
    case yr5_2 => (intro w' hSw; clear hSw; go_simp; try (with_reducible rfl))
    simp only [sB, sC]
    refine Ut 2 21 6 0 0 (v := ?vr5_3) rfl hWr5 hH ?yr5_3 ?_
    case yr5_3 => (intro w' hSw; clear hSw; go_simp; try (with_reducible rfl))
    simp only [sB, sC]
    refine Ut 3 22 5 0 0 (v := ?vr5_4) rfl hWr5 hH ?yr5_4 ?_
    case yr5_4 => (intro w' hSw; replace hSw := S2o0 hSw; (try dsimp only at hSw); have q0 := hSw.1; have q1 := hSw.2; go_simp; try (with_reducible rfl))
    simp only [sB, sC]
    refine Ut 4 23 4 0 0 (v := ?vr5_5) rfl hWr5 hH ?yr5_5 ?_
    case yr5_5 => (intro w' hSw; clear hSw; go_simp; try (with_reducible rfl))
    simp only [sB, sC]
    refine Ut 5 24 3 0 0 (v := ?vr5_6) rfl hWr5 hH ?yr5_6 ?_
    case yr5_6 => (intro w' hSw; clear hSw; go_simp; try (with_reducible rfl))
    simp only [sB, sC]
    refine Ut 6 25 2 0 0 (v := ?vr5_7) rfl hWr5 hH ?yr5_7 ?_
    case yr5_7 => (intro w' hSw; clear hSw; go_simp; try (with_reducible rfl))
    simp only [sB, sC]
    refine Ut 7 26 1 0 0 (v := ?vr5_8) rfl hWr5 hH ?yr5_8 ?_
    case yr5_8 => (intro w' hSw; replace hSw := S2o0 hSw; (try dsimp only at hSw); have q0 := hSw.1; have q1 := hSw.2; go_simp; try (with_reducible rfl))
    simp only [sB, sC]
    refine Ut 8 27 0 0 0 (v := ?vr5_9) rfl hWr5 hH ?yr5_9 ?_
    case yr5_9 => (intro w' hSw; clear hSw; go_simp; try (with_reducible rfl))
    simp only [sB, sC]
    refine wpAnyU_done (by kernel_rfl) ?_ _ _
    refine NoPanic.normal ?_
    clear hWr5
    clear hH
    go_upto_region 4 with fail
    refine wp_region_noPanic ?_
    refine wp_region_U (S := (S2 (fun w' => w'.cell? ⟨rb, 5, none⟩ = some (.int .i64 hr) ∧ w'.cell? ⟨lb, 5, none⟩ = some (.int .i64 hl)))) (T := (fun _ => 0)) (by kernel_rfl) (S2i0 ⟨by exact R5, by exact L5⟩) (fun hH => ?_)
    have hWr6 : Weaker (S2 (fun w' => w'.cell? ⟨rb, 5, none⟩ = some (.int .i64 hr) ∧ w'.cell? ⟨lb, 5, none⟩ = some (.int .i64 hl))) := weaker2 _
    refine Ut 0 30 9 0 0 (v := ?vr6_1) rfl hWr6 hH ?yr6_1 ?_
    case yr6_1 => (intro w' hSw; clear hSw; go_simp; try (with_reducible rfl))
    simp only [sB, sC]
    refine Ut 1 31 8 0 0 (v := ?vr6_2) rfl hWr6 hH ?yr6_2 ?_
    case yr6_2 => (intro w' hSw; clear hSw; go_simp; try (with_reducible rfl))
    simp only [sB, sC]
    refine Ut 2 32 7 0 0 (v := ?vr6_3) rfl hWr6 hH ?yr6_3 ?_
    case yr6_3 => (intro w' hSw; clear hSw; go_simp; try (with_reducible rfl))
    simp only [sB, sC]
    refine Ut 3 33 6 0 0 (v := ?vr6_4) rfl hWr6 hH ?yr6_4 ?_
    case yr6_4 => (intro w' hSw; replace hSw := S2o0 hSw; (try dsimp only at hSw); have q0 := hSw.1; have q1 := hSw.2; go_simp; try (with_reducible rfl))
    simp only [sB, sC]
    refine Ut 4 34 5 0 0 (v := ?vr6_5) rfl hWr6 hH ?yr6_5 ?_
    case yr6_5 => (intro w' hSw; clear hSw; go_simp; try (with_reducible rfl))
    simp only [sB, sC]
    refine Ut 5 35 4 0 0 (v := ?vr6_6) rfl hWr6 hH ?yr6_6 ?_
    case yr6_6 => (intro w' hSw; clear hSw; go_simp; try (with_reducible rfl))
    simp only [sB, sC]
    refine Ut 6 36 3 0 0 (v := ?vr6_7) rfl hWr6 hH ?yr6_7 ?_
    case yr6_7 => (intro w' hSw; clear hSw; go_simp; try (with_reducible rfl))
    simp only [sB, sC]
    refine Ut 7 37 2 0 0 (v := ?vr6_8) rfl hWr6 hH ?yr6_8 ?_
    case yr6_8 => (intro w' hSw; replace hSw := S2o0 hSw; (try dsimp only at hSw); have q0 := hSw.1; have q1 := hSw.2; go_simp; try (with_reducible rfl))
    simp only [sB, sC]
    refine Ut 8 38 1 0 0 (v := ?vr6_9) rfl hWr6 hH ?yr6_9 ?_
    case yr6_9 => (intro w' hSw; clear hSw; go_simp; try (with_reducible rfl))
    simp only [sB, sC]
    refine Ut 9 39 0 0 0 (v := ?vr6_10) rfl hWr6 hH ?yr6_10 ?_
    case yr6_10 => (intro w' hSw; clear hSw; go_simp; try (with_reducible rfl))
    simp only [sB, sC]
    refine wpAnyU_done (by kernel_rfl) ?_ _ _
    refine NoPanic.normal ?_
    clear hWr6
    clear hH
    go_wp2
    go_returns
    exact RET _ (by first | exact Below.refl _ _ | exact (Below.refl _ _).drew | exact (Below.refl _ _).drew.drew | exact (Below.refl _ _).drew.drew.drew | exact (Below.refl _ _).drew.drew.drew.drew)
end
end Go.Proofs.Ytiaoandbdgdecaa
