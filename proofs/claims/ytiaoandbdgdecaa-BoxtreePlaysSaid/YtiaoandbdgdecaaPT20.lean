/- Parts of a proof: contracts and laws. -/
import Derived.Test.YtiaoandbdgdecaaPT19
namespace Go.Proofs.Ytiaoandbdgdecaa
section
set_option linter.unusedVariables false
set_option linter.unusedSimpArgs false
open Go.RowKit
theorem TB.tr_ht (q : Nat) (c d : TB) : (TB.nd q c d).tr.ht = 1 + max c.tr.ht d.tr.ht := rfl
set_option maxRecDepth 100000 in
set_option maxHeartbeats 8000000 in
theorem balance_liftR {w : World} {g : Nat} {s : TS} (h : Mem w g s) {u q : Nat} {l c d : TB} {up : Option Addr} {C : List Fr} (hR : (TB.nd u l (.nd q c d)).Rp s up) (hC : CxR s C up u) (hCd : (cxB C).Nodup)
    (hd : (u :: q :: (l.blocks ++ (c.blocks ++ d.blocks))).Nodup) (hdis : ∀ k ∈ (u :: q :: (l.blocks ++ (c.blocks ++ d.blocks))), k ∉ cxB C) (hH : l.tr.ht ≤ 1000 ∧ c.tr.ht ≤ 1000 ∧ d.tr.ht ≤ 1000) (hB : l.tr.ht + 1 < (TB.nd q c d).tr.ht) :
    Calls Try.prog 48 #[.pointer (pA g), .pointer (pA u)] w (RetBal g u l (.nd q c d) up C s w) := by
  have cu := h.nd _ _ hR.1
  obtain ⟨rl, hrl, -, -, tl⟩ := (hR.2.1).top
  have hhi := hR.2.2
  have cq := h.nd _ _ hhi.1
  obtain ⟨rc, hrc, -, -, tc⟩ := hhi.2.1.top
  obtain ⟨rd, hrd, -, -, td⟩ := hhi.2.2.top
  have hbd := TB.tr_ht q c d
  have U7 : w.cell? ⟨u, 7, none⟩ = some (.pointer (some ⟨l.root, 0, none⟩)) := cu.c7
  have U8 : w.cell? ⟨u, 8, none⟩ = some (.pointer (some ⟨q, 0, none⟩)) := cu.c8
  have L5 : w.cell? ⟨l.root, 5, none⟩ = some (.int .i64 ((l.tr.ht : Nat) : Int)) := by rw [(h.nd _ _ hrl).c5, tl]
  have R5 : w.cell? ⟨q, 5, none⟩ = some (.int .i64 (((TB.nd q c d).tr.ht : Nat) : Int)) := cq.c5
  have Q7 : w.cell? ⟨q, 7, none⟩ = some (.pointer (some ⟨c.root, 0, none⟩)) := cq.c7
  have Q8 : w.cell? ⟨q, 8, none⟩ = some (.pointer (some ⟨d.root, 0, none⟩)) := cq.c8
  have C5 : w.cell? ⟨c.root, 5, none⟩ = some (.int .i64 ((c.tr.ht : Nat) : Int)) := by rw [(h.nd _ _ hrc).c5, tc]
  have D5 : w.cell? ⟨d.root, 5, none⟩ = some (.int .i64 ((d.tr.ht : Nat) : Int)) := by rw [(h.nd _ _ hrd).c5, td]
  have lu := lt_of_cell U7
  have ll := lt_of_cell L5
  have lq := lt_of_cell Q7
  have lc := lt_of_cell C5
  have ld := lt_of_cell D5
  have nuq : u ≠ q := fun e => (List.nodup_cons.1 hd).1 (by rw [e]; simp)
  have HPL0 : Hid (∀ (stay moves : TB), balTB u l (.nd q c d) = TB.nd q stay (TB.nd u l moves) → (∀ k, k ∈ (u :: q :: (l.blocks ++ (stay.blocks ++ moves.blocks))) ↔ k ∈ (u :: q :: (l.blocks ++ (c.blocks ++ d.blocks)))) → stay.Rp s (pA q) → moves.Rp s (pA q) → (u :: q :: (l.blocks ++ (stay.blocks ++ moves.blocks))).Nodup → stay.tr.ht ≤ 1000 → moves.tr.ht ≤ 1000 →
      ∀ w', Below w.heap.size w w' → Calls Try.prog 27 #[.pointer (pA g), .pointer (pA u), .pointer (pA q)] w' (fun e w1 => e = .returned (.tuple #[]) ∧ Calls Try.prog 28 #[.pointer (pA u), .pointer (pA l.root), .pointer (pA moves.root)] w1 (fun e w2 => e = .returned (.tuple #[]) ∧
      Calls Try.prog 28 #[.pointer (pA q), .pointer (pA stay.root), .pointer (pA u)] w2 (fun e w3 => e = .returned (.tuple #[]) ∧ RetBal g u l (.nd q c d) up C s w (.returned (.pointer (pA q))) w3)))) := by
    intro stay moves hbal hblk hs hm hnd b2 b3 w' hb
    refine (place_cx (h.below hb) hC hCd hR.1 rfl hhi.1 nuq (hdis u (by simp)) (hdis q (by simp))).mono ?_
    rintro e w1 ⟨s1, rfl, m1, o1, cx1, hq1, pk1, in1⟩
    refine ⟨rfl, ?_⟩
    exact lift_tail hbal (fun k => (hblk k).trans (by simp only [TB.blocks, List.mem_cons, List.mem_append]; grind)) hR.1 rfl rfl (hR.2.1) hs hm hnd (fun k hk => hdis k ((hblk k).1 hk)) hH.1 b2 b3 m1 ((Out.below hb).trans o1 (fun i _ k => k)) cx1 hq1 pk1 in1
  have hbalc : ¬ d.tr.ht > c.tr.ht → balTB u l (.nd q c d) = TB.nd q c (TB.nd u l d) := fun hn => by
    unfold balTB
    rw [if_neg (by omega), if_neg (by omega)]
    show (if d.tr.ht > c.tr.ht then _ else _) = _
    rw [if_neg hn]
  have hbald : d.tr.ht > c.tr.ht → balTB u l (.nd q c d) = TB.nd q d (TB.nd u l c) := fun hn => by
    unfold balTB
    rw [if_neg (by omega), if_neg (by omega)]
    show (if d.tr.ht > c.tr.ht then _ else _) = _
    rw [if_pos hn]
  have HPLc : Hid (¬ d.tr.ht > c.tr.ht → _) := hid (fun hn => HPL0.out c d (hbalc hn) (fun k => Iff.rfl) hhi.2.1 hhi.2.2 hd hH.2.1 hH.2.2)
  have HPLd : Hid (d.tr.ht > c.tr.ht → _) := hid (fun hn => HPL0.out d c (hbald hn) (fun k => by simp only [List.mem_cons, List.mem_append]; grind) hhi.2.2 hhi.2.1 (by
    refine (List.Perm.nodup_iff ?_).1 hd
    refine List.perm_iff_count.2 fun a => ?_
    simp only [List.count_cons, List.count_append]; omega) hH.2.2 hH.2.1)
  clear HPL0 hbalc hbald
  obtain ⟨hl, hhl⟩ : ∃ z, z = ((l.tr.ht : Nat) : Int) := ⟨_, rfl⟩
  obtain ⟨hr, hhr⟩ : ∃ z, z = (((TB.nd q c d).tr.ht : Nat) : Int) := ⟨_, rfl⟩
  obtain ⟨hc, hhc⟩ : ∃ z, z = ((c.tr.ht : Nat) : Int) := ⟨_, rfl⟩
  obtain ⟨hdd, hhd⟩ : ∃ z, z = ((d.tr.ht : Nat) : Int) := ⟨_, rfl⟩
  rw [← hhl] at L5
  rw [← hhr] at R5
  rw [← hhc] at C5
  rw [← hhd] at D5
  obtain ⟨lb, hlb⟩ : ∃ b, b = l.root := ⟨_, rfl⟩
  obtain ⟨cb, hcb⟩ : ∃ b, b = c.root := ⟨_, rfl⟩
  obtain ⟨db, hdb⟩ : ∃ b, b = d.root := ⟨_, rfl⟩
  obtain ⟨rb, hqb⟩ : ∃ b, b = q := ⟨_, rfl⟩
  rw [← hlb] at U7 L5 ll HPLc HPLd
  rw [← hcb] at Q7 C5 lc HPLc HPLd
  rw [← hdb] at Q8 D5 ld HPLc HPLd
  rw [← hqb] at U8 R5 Q7 Q8 lq
  have w1 : IntKind.i64.wrap (hl + 1) = hl + 1 := IntWalk.i64_in _ (by omega)
  have hgt : ¬ hl > hr := by omega
  have hle : ¬ hr ≤ hl + 1 := by omega
  by_cases h2 : d.tr.ht > c.tr.ht
  · have HPL := hid (HPLd.out h2)
    have hg2 : hdd > hc := by omega
    rw [← hqb] at HPL
    have HQB := hid hqb
    clear h hR hC hCd hd hdis hH hB cu hrl tl hhi cq hrc tc hrd td hbd nuq HPLc HPLd hlb hcb hdb hqb hhl hhr hhc hhd h2
    go_enter Try.func48, Try.ntmps48
    go_upto_region 1 with fail
    refine wp_region_noPanic ?_
    refine wp_region_U (S := (S2 (fun w' => w'.cell? ⟨u, 7, none⟩ = some (.pointer (some ⟨lb, 0, none⟩)) ∧ w'.cell? ⟨u, 8, none⟩ = some (.pointer (some ⟨rb, 0, none⟩))))) (T := (fun _ => 0)) (by kernel_rfl) (S2i0 ⟨by exact U7, by exact U8⟩) (fun hH => ?_)
    have hWr7 : Weaker (S2 (fun w' => w'.cell? ⟨u, 7, none⟩ = some (.pointer (some ⟨lb, 0, none⟩)) ∧ w'.cell? ⟨u, 8, none⟩ = some (.pointer (some ⟨rb, 0, none⟩)))) := weaker2 _
    refine Ut 0 9 11 0 0 (v := ?vr7_1) rfl hWr7 hH ?yr7_1 ?_
    case yr7_1 => (intro w' hSw; clear hSw; go_simp; try (with_reducible rfl))
    simp only [sB, sC]
    refine Ut 1 10 10 0 0 (v := ?vr7_2) rfl hWr7 hH ?yr7_2 ?_
    case yr7_2 => (intro w' hSw; clear hSw; go_simp; try (with_reducible rfl))
    simp only [sB, sC]
    refine Ut 2 11 9 0 0 (v := ?vr7_3) rfl hWr7 hH ?yr7_3 ?_
    case yr7_3 => (intro w' hSw; clear hSw; go_simp; try (with_reducible rfl))
    simp only [sB, sC]
    refine Ut 3 12 8 0 0 (v := ?vr7_4) rfl hWr7 hH ?yr7_4 ?_
    case yr7_4 => (intro w' hSw; clear hSw; go_simp; try (with_reducible rfl))
    simp only [sB, sC]
    refine Ut 4 13 7 0 0 (v := ?vr7_5) rfl hWr7 hH ?yr7_5 ?_
    case yr7_5 => (intro w' hSw; replace hSw := S2o0 hSw; (try dsimp only at hSw); have q0 := hSw.1; have q1 := hSw.2; go_simp; try (with_reducible rfl))
    simp only [sB, sC]
    refine Ut 5 14 6 0 0 (v := ?vr7_6) rfl hWr7 hH ?yr7_6 ?_
    case yr7_6 => (intro w' hSw; clear hSw; go_simp; try (with_reducible rfl))
    simp only [sB, sC]
    refine Ut 6 15 5 0 0 (v := ?vr7_7) rfl hWr7 hH ?yr7_7 ?_
    case yr7_7 => (intro w' hSw; clear hSw; go_simp; try (with_reducible rfl))
    simp only [sB, sC]
    refine Ut 7 16 4 0 0 (v := ?vr7_8) rfl hWr7 hH ?yr7_8 ?_
    case yr7_8 => (intro w' hSw; clear hSw; go_simp; try (with_reducible rfl))
    simp only [sB, sC]
    refine Ut 8 17 3 0 0 (v := ?vr7_9) rfl hWr7 hH ?yr7_9 ?_
    case yr7_9 => (intro w' hSw; clear hSw; go_simp; try (with_reducible rfl))
    simp only [sB, sC]
    refine Ut 9 18 2 0 0 (v := ?vr7_10) rfl hWr7 hH ?yr7_10 ?_
    case yr7_10 => (intro w' hSw; replace hSw := S2o0 hSw; (try dsimp only at hSw); have q0 := hSw.1; have q1 := hSw.2; go_simp; try (with_reducible rfl))
    simp only [sB, sC]
    refine Ut 10 5 1 0 0 (v := ?vr7_11) rfl hWr7 hH ?yr7_11 ?_
    case yr7_11 => (intro w' hSw; clear hSw; go_simp; try (with_reducible rfl))
    simp only [sB, sC]
    refine Ut 11 6 0 0 0 (v := ?vr7_12) rfl hWr7 hH ?yr7_12 ?_
    case yr7_12 => (intro w' hSw; clear hSw; go_simp; try (with_reducible rfl))
    simp only [sB, sC]
    refine wpAnyU_done (by kernel_rfl) ?_ _ _
    refine NoPanic.normal ?_
    clear hWr7
    clear hH
    go_upto_region 2 with fail
    refine wp_region_noPanic ?_
    refine wp_region_U (S := (S2 (fun w' => w'.cell? ⟨lb, 5, none⟩ = some (.int .i64 hl) ∧ w'.cell? ⟨rb, 5, none⟩ = some (.int .i64 hr)))) (T := (fun _ => 0)) (by kernel_rfl) (S2i0 ⟨by exact L5, by exact R5⟩) (fun hH => ?_)
    have hWr8 : Weaker (S2 (fun w' => w'.cell? ⟨lb, 5, none⟩ = some (.int .i64 hl) ∧ w'.cell? ⟨rb, 5, none⟩ = some (.int .i64 hr))) := weaker2 _
    refine Ut 0 19 8 0 0 (v := ?vr8_1) rfl hWr8 hH ?yr8_1 ?_
    case yr8_1 => (intro w' hSw; clear hSw; go_simp; try (with_reducible rfl))
    simp only [sB, sC]
    refine Ut 1 20 7 0 0 (v := ?vr8_2) rfl hWr8 hH ?yr8_2 ?_
    case yr8_2 => (intro w' hSw; clear hSw; go_simp; try (with_reducible rfl))
    simp only [sB, sC]
    refine Ut 2 21 6 0 0 (v := ?vr8_3) rfl hWr8 hH ?yr8_3 ?_
    case yr8_3 => (intro w' hSw; clear hSw; go_simp; try (with_reducible rfl))
    simp only [sB, sC]
    refine Ut 3 22 5 0 0 (v := ?vr8_4) rfl hWr8 hH ?yr8_4 ?_
    case yr8_4 => (intro w' hSw; replace hSw := S2o0 hSw; (try dsimp only at hSw); have q0 := hSw.1; have q1 := hSw.2; go_simp; try (with_reducible rfl))
    simp only [sB, sC]
    refine Ut 4 23 4 0 0 (v := ?vr8_5) rfl hWr8 hH ?yr8_5 ?_
    case yr8_5 => (intro w' hSw; clear hSw; go_simp; try (with_reducible rfl))
    simp only [sB, sC]
    refine Ut 5 24 3 0 0 (v := ?vr8_6) rfl hWr8 hH ?yr8_6 ?_
    case yr8_6 => (intro w' hSw; clear hSw; go_simp; try (with_reducible rfl))
    simp only [sB, sC]
    refine Ut 6 25 2 0 0 (v := ?vr8_7) rfl hWr8 hH ?yr8_7 ?_
    case yr8_7 => (intro w' hSw; clear hSw; go_simp; try (with_reducible rfl))
    simp only [sB, sC]
    refine Ut 7 26 1 0 0 (v := ?vr8_8) rfl hWr8 hH ?yr8_8 ?_
    case yr8_8 => (intro w' hSw; replace hSw := S2o0 hSw; (try dsimp only at hSw); have q0 := hSw.1; have q1 := hSw.2; go_simp; try (with_reducible rfl))
    simp only [sB, sC]
    refine Ut 8 27 0 0 0 (v := ?vr8_9) rfl hWr8 hH ?yr8_9 ?_
    case yr8_9 => (intro w' hSw; clear hSw; go_simp; try (with_reducible rfl))
    simp only [sB, sC]
    refine wpAnyU_done (by kernel_rfl) ?_ _ _
    refine NoPanic.normal ?_
    clear hWr8
    clear hH
    go_upto_region 4 with fail
    refine wp_region_noPanic ?_
    refine wp_region_U (S := (S2 (fun w' => w'.cell? ⟨rb, 5, none⟩ = some (.int .i64 hr) ∧ w'.cell? ⟨lb, 5, none⟩ = some (.int .i64 hl)))) (T := (fun _ => 0)) (by kernel_rfl) (S2i0 ⟨by exact R5, by exact L5⟩) (fun hH => ?_)
    have hWr9 : Weaker (S2 (fun w' => w'.cell? ⟨rb, 5, none⟩ = some (.int .i64 hr) ∧ w'.cell? ⟨lb, 5, none⟩ = some (.int .i64 hl))) := weaker2 _
    refine Ut 0 30 9 0 0 (v := ?vr9_1) rfl hWr9 hH ?yr9_1 ?_
    case yr9_1 => (intro w' hSw; clear hSw; go_simp; try (with_reducible rfl))
    simp only [sB, sC]
    refine Ut 1 31 8 0 0 (v := ?vr9_2) rfl hWr9 hH ?yr9_2 ?_
    case yr9_2 => (intro w' hSw; clear hSw; go_simp; try (with_reducible rfl))
    simp only [sB, sC]
    refine Ut 2 32 7 0 0 (v := ?vr9_3) rfl hWr9 hH ?yr9_3 ?_
    case yr9_3 => (intro w' hSw; clear hSw; go_simp; try (with_reducible rfl))
    simp only [sB, sC]
    refine Ut 3 33 6 0 0 (v := ?vr9_4) rfl hWr9 hH ?yr9_4 ?_
    case yr9_4 => (intro w' hSw; replace hSw := S2o0 hSw; (try dsimp only at hSw); have q0 := hSw.1; have q1 := hSw.2; go_simp; try (with_reducible rfl))
    simp only [sB, sC]
    refine Ut 4 34 5 0 0 (v := ?vr9_5) rfl hWr9 hH ?yr9_5 ?_
    case yr9_5 => (intro w' hSw; clear hSw; go_simp; try (with_reducible rfl))
    simp only [sB, sC]
    refine Ut 5 35 4 0 0 (v := ?vr9_6) rfl hWr9 hH ?yr9_6 ?_
    case yr9_6 => (intro w' hSw; clear hSw; go_simp; try (with_reducible rfl))
    simp only [sB, sC]
    refine Ut 6 36 3 0 0 (v := ?vr9_7) rfl hWr9 hH ?yr9_7 ?_
    case yr9_7 => (intro w' hSw; clear hSw; go_simp; try (with_reducible rfl))
    simp only [sB, sC]
    refine Ut 7 37 2 0 0 (v := ?vr9_8) rfl hWr9 hH ?yr9_8 ?_
    case yr9_8 => (intro w' hSw; replace hSw := S2o0 hSw; (try dsimp only at hSw); have q0 := hSw.1; have q1 := hSw.2; go_simp; try (with_reducible rfl))
    simp only [sB, sC]
    refine Ut 8 38 1 0 0 (v := ?vr9_9) rfl hWr9 hH ?yr9_9 ?_
    case yr9_9 => (intro w' hSw; clear hSw; go_simp; try (with_reducible rfl))
    simp only [sB, sC]
    refine Ut 9 39 0 0 0 (v := ?vr9_10) rfl hWr9 hH ?yr9_10 ?_
    case yr9_10 => (intro w' hSw; clear hSw; go_simp; try (with_reducible rfl))
    simp only [sB, sC]
    refine wpAnyU_done (by kernel_rfl) ?_ _ _
    refine NoPanic.normal ?_
    clear hWr9
    clear hH
    go_upto_region 6 with fail
    refine wp_region_noPanic ?_
    refine wp_region_U (S := (S2 (fun w' => w'.cell? ⟨rb, 7, none⟩ = some (.pointer (some ⟨cb, 0, none⟩)) ∧ w'.cell? ⟨rb, 8, none⟩ = some (.pointer (some ⟨db, 0, none⟩))))) (T := (fun _ => 0)) (by kernel_rfl) (S2i0 ⟨by exact Q7, by exact Q8⟩) (fun hH => ?_)
    have hWr10 : Weaker (S2 (fun w' => w'.cell? ⟨rb, 7, none⟩ = some (.pointer (some ⟨cb, 0, none⟩)) ∧ w'.cell? ⟨rb, 8, none⟩ = some (.pointer (some ⟨db, 0, none⟩)))) := weaker2 _
    refine Ut 0 41 11 0 0 (v := ?vr10_1) rfl hWr10 hH ?yr10_1 ?_
    case yr10_1 => (intro w' hSw; clear hSw; go_simp; try (with_reducible rfl))
    simp only [sB, sC]
    refine Ut 1 42 10 0 0 (v := ?vr10_2) rfl hWr10 hH ?yr10_2 ?_
    case yr10_2 => (intro w' hSw; clear hSw; go_simp; try (with_reducible rfl))
    simp only [sB, sC]
    refine Ut 2 43 9 0 0 (v := ?vr10_3) rfl hWr10 hH ?yr10_3 ?_
    case yr10_3 => (intro w' hSw; clear hSw; go_simp; try (with_reducible rfl))
    simp only [sB, sC]
    refine Ut 3 44 8 0 0 (v := ?vr10_4) rfl hWr10 hH ?yr10_4 ?_
    case yr10_4 => (intro w' hSw; clear hSw; go_simp; try (with_reducible rfl))
    simp only [sB, sC]
    refine Ut 4 45 7 0 0 (v := ?vr10_5) rfl hWr10 hH ?yr10_5 ?_
    case yr10_5 => (intro w' hSw; replace hSw := S2o0 hSw; (try dsimp only at hSw); have q0 := hSw.1; have q1 := hSw.2; go_simp; try (with_reducible rfl))
    simp only [sB, sC]
    refine Ut 5 46 6 0 0 (v := ?vr10_6) rfl hWr10 hH ?yr10_6 ?_
    case yr10_6 => (intro w' hSw; clear hSw; go_simp; try (with_reducible rfl))
    simp only [sB, sC]
    refine Ut 6 47 5 0 0 (v := ?vr10_7) rfl hWr10 hH ?yr10_7 ?_
    case yr10_7 => (intro w' hSw; clear hSw; go_simp; try (with_reducible rfl))
    simp only [sB, sC]
    refine Ut 7 48 4 0 0 (v := ?vr10_8) rfl hWr10 hH ?yr10_8 ?_
    case yr10_8 => (intro w' hSw; clear hSw; go_simp; try (with_reducible rfl))
    simp only [sB, sC]
    refine Ut 8 49 3 0 0 (v := ?vr10_9) rfl hWr10 hH ?yr10_9 ?_
    case yr10_9 => (intro w' hSw; clear hSw; go_simp; try (with_reducible rfl))
    simp only [sB, sC]
    refine Ut 9 50 2 0 0 (v := ?vr10_10) rfl hWr10 hH ?yr10_10 ?_
    case yr10_10 => (intro w' hSw; replace hSw := S2o0 hSw; (try dsimp only at hSw); have q0 := hSw.1; have q1 := hSw.2; go_simp; try (with_reducible rfl))
    simp only [sB, sC]
    refine Ut 10 7 1 0 0 (v := ?vr10_11) rfl hWr10 hH ?yr10_11 ?_
    case yr10_11 => (intro w' hSw; clear hSw; go_simp; try (with_reducible rfl))
    simp only [sB, sC]
    refine Ut 11 8 0 0 0 (v := ?vr10_12) rfl hWr10 hH ?yr10_12 ?_
    case yr10_12 => (intro w' hSw; clear hSw; go_simp; try (with_reducible rfl))
    simp only [sB, sC]
    refine wpAnyU_done (by kernel_rfl) ?_ _ _
    refine NoPanic.normal ?_
    clear hWr10
    clear hH
    go_upto_region 7 with fail
    refine wp_region_noPanic ?_
    refine wp_region_U (S := (S2 (fun w' => w'.cell? ⟨cb, 5, none⟩ = some (.int .i64 hc) ∧ w'.cell? ⟨db, 5, none⟩ = some (.int .i64 hdd)))) (T := (fun _ => 0)) (by kernel_rfl) (S2i0 ⟨by exact C5, by exact D5⟩) (fun hH => ?_)
    have hWr11 : Weaker (S2 (fun w' => w'.cell? ⟨cb, 5, none⟩ = some (.int .i64 hc) ∧ w'.cell? ⟨db, 5, none⟩ = some (.int .i64 hdd))) := weaker2 _
    refine Ut 0 51 8 0 0 (v := ?vr11_1) rfl hWr11 hH ?yr11_1 ?_
    case yr11_1 => (intro w' hSw; clear hSw; go_simp; try (with_reducible rfl))
    simp only [sB, sC]
    refine Ut 1 52 7 0 0 (v := ?vr11_2) rfl hWr11 hH ?yr11_2 ?_
    case yr11_2 => (intro w' hSw; clear hSw; go_simp; try (with_reducible rfl))
    simp only [sB, sC]
    refine Ut 2 53 6 0 0 (v := ?vr11_3) rfl hWr11 hH ?yr11_3 ?_
    case yr11_3 => (intro w' hSw; clear hSw; go_simp; try (with_reducible rfl))
    simp only [sB, sC]
    refine Ut 3 54 5 0 0 (v := ?vr11_4) rfl hWr11 hH ?yr11_4 ?_
    case yr11_4 => (intro w' hSw; replace hSw := S2o0 hSw; (try dsimp only at hSw); have q0 := hSw.1; have q1 := hSw.2; go_simp; try (with_reducible rfl))
    simp only [sB, sC]
    refine Ut 4 55 4 0 0 (v := ?vr11_5) rfl hWr11 hH ?yr11_5 ?_
    case yr11_5 => (intro w' hSw; clear hSw; go_simp; try (with_reducible rfl))
    simp only [sB, sC]
    refine Ut 5 56 3 0 0 (v := ?vr11_6) rfl hWr11 hH ?yr11_6 ?_
    case yr11_6 => (intro w' hSw; clear hSw; go_simp; try (with_reducible rfl))
    simp only [sB, sC]
    refine Ut 6 57 2 0 0 (v := ?vr11_7) rfl hWr11 hH ?yr11_7 ?_
    case yr11_7 => (intro w' hSw; clear hSw; go_simp; try (with_reducible rfl))
    simp only [sB, sC]
    refine Ut 7 58 1 0 0 (v := ?vr11_8) rfl hWr11 hH ?yr11_8 ?_
    case yr11_8 => (intro w' hSw; replace hSw := S2o0 hSw; (try dsimp only at hSw); have q0 := hSw.1; have q1 := hSw.2; go_simp; try (with_reducible rfl))
    simp only [sB, sC]
    refine Ut 8 59 0 0 0 (v := ?vr11_9) rfl hWr11 hH ?yr11_9 ?_
    case yr11_9 => (intro w' hSw; clear hSw; go_simp; try (with_reducible rfl))
    simp only [sB, sC]
    refine wpAnyU_done (by kernel_rfl) ?_ _ _
    refine NoPanic.normal ?_
    clear hWr11
    clear hH
    go_wp2_with fail
    refine (HPL.out _ (by first | exact Below.refl _ _ | exact (Below.refl _ _).drew | exact (Below.refl _ _).drew.drew | exact (Below.refl _ _).drew.drew.drew | exact (Below.refl _ _).drew.drew.drew.drew | exact (Below.refl _ _).drew.drew.drew.drew.drew | exact (Below.refl _ _).drew.drew.drew.drew.drew.drew)).mono ?_
    rintro e w1 ⟨rfl, htl⟩
    have HTL := hid htl
    clear htl HPL
    go_wp2_with fail
    refine HTL.out.mono ?_
    rintro e w2 ⟨rfl, hc2⟩
    have HC2 := hid hc2
    clear hc2 HTL
    go_wp2_with fail
    refine HC2.out.mono ?_
    rintro e w3 ⟨rfl, hret⟩
    have HRET := hid hret
    clear hret HC2
    go_wp2
    go_returns
    have hqe := HQB.out
    subst hqe
    exact HRET.out
  · have HPL := hid (HPLc.out h2)
    have hg2 : ¬ hdd > hc := by omega
    rw [← hqb] at HPL
    have HQB := hid hqb
    clear h hR hC hCd hd hdis hH hB cu hrl tl hhi cq hrc tc hrd td hbd nuq HPLc HPLd hlb hcb hdb hqb hhl hhr hhc hhd h2
    go_enter Try.func48, Try.ntmps48
    go_upto_region 1 with fail
    refine wp_region_noPanic ?_
    refine wp_region_U (S := (S2 (fun w' => w'.cell? ⟨u, 7, none⟩ = some (.pointer (some ⟨lb, 0, none⟩)) ∧ w'.cell? ⟨u, 8, none⟩ = some (.pointer (some ⟨rb, 0, none⟩))))) (T := (fun _ => 0)) (by kernel_rfl) (S2i0 ⟨by exact U7, by exact U8⟩) (fun hH => ?_)
    have hWr12 : Weaker (S2 (fun w' => w'.cell? ⟨u, 7, none⟩ = some (.pointer (some ⟨lb, 0, none⟩)) ∧ w'.cell? ⟨u, 8, none⟩ = some (.pointer (some ⟨rb, 0, none⟩)))) := weaker2 _
    refine Ut 0 9 11 0 0 (v := ?vr12_1) rfl hWr12 hH ?yr12_1 ?_
    case yr12_1 => (intro w' hSw; clear hSw; go_simp; try (with_reducible rfl))
    simp only [sB, sC]
    refine Ut 1 10 10 0 0 (v := ?vr12_2) rfl hWr12 hH ?yr12_2 ?_
    case yr12_2 => (intro w' hSw; clear hSw; go_simp; try (with_reducible rfl))
    simp only [sB, sC]
    refine Ut 2 11 9 0 0 (v := ?vr12_3) rfl hWr12 hH ?yr12_3 ?_
    case yr12_3 => (intro w' hSw; clear hSw; go_simp; try (with_reducible rfl))
    simp only [sB, sC]
    refine Ut 3 12 8 0 0 (v := ?vr12_4) rfl hWr12 hH ?yr12_4 ?_
    case yr12_4 => (intro w' hSw; clear hSw; go_simp; try (with_reducible rfl))
    simp only [sB, sC]
    refine Ut 4 13 7 0 0 (v := ?vr12_5) rfl hWr12 hH ?yr12_5 ?_
    case yr12_5 => (intro w' hSw; replace hSw := S2o0 hSw; (try dsimp only at hSw); have q0 := hSw.1; have q1 := hSw.2; go_simp; try (with_reducible rfl))
    simp only [sB, sC]
    refine Ut 5 14 6 0 0 (v := ?vr12_6) rfl hWr12 hH ?yr12_6 ?_
    case yr12_6 => (intro w' hSw; clear hSw; go_simp; try (with_reducible rfl))
    simp only [sB, sC]
    refine Ut 6 15 5 0 0 (v := ?vr12_7) rfl hWr12 hH ?yr12_7 ?_
    case yr12_7 => (intro w' hSw; clear hSw; go_simp; try (with_reducible rfl))
    simp only [sB, sC]
    refine Ut 7 16 4 0 0 (v := ?vr12_8) rfl hWr12 hH ?yr12_8 ?_
    case yr12_8 => (intro w' hSw; clear hSw; go_simp; try (with_reducible rfl))
    simp only [sB, sC]
    refine Ut 8 17 3 0 0 (v := ?vr12_9) rfl hWr12 hH ?yr12_9 ?_
    case yr12_9 => (intro w' hSw; clear hSw; go_simp; try (with_reducible rfl))
    simp only [sB, sC]
    refine Ut 9 18 2 0 0 (v := ?vr12_10) rfl hWr12 hH ?yr12_10 ?_
    case yr12_10 => (intro w' hSw; replace hSw := S2o0 hSw; (try dsimp only at hSw); have q0 := hSw.1; have q1 := hSw.2; go_simp; try (with_reducible rfl))
    simp only [sB, sC]
    refine Ut 10 5 1 0 0 (v := ?vr12_11) rfl hWr12 hH ?yr12_11 ?_
    case yr12_11 => (intro w' hSw; clear hSw; go_simp; try (with_reducible rfl))
    simp only [sB, sC]
    refine Ut 11 6 0 0 0 (v := ?vr12_12) rfl hWr12 hH ?yr12_12 ?_
    case yr12_12 => (intro w' hSw; clear hSw; go_simp; try (with_reducible rfl))
    simp only [sB, sC]
    refine wpAnyU_done (by kernel_rfl) ?_ _ _
    refine NoPanic.normal ?_
    clear hWr12
    clear hH
    go_upto_region 2 with fail
    refine wp_region_noPanic ?_
    refine wp_region_U (S := (S2 (fun w' => w'.cell? ⟨lb, 5, none⟩ = some (.int .i64 hl) ∧ w'.cell? ⟨rb, 5, none⟩ = some (.int .i64 hr)))) (T := (fun _ => 0)) (by kernel_rfl) (S2i0 ⟨by exact L5, by exact R5⟩) (fun hH => ?_)
    have hWr13 : Weaker (S2 (fun w' => w'.cell? ⟨lb, 5, none⟩ = some (.int .i64 hl) ∧ w'.cell? ⟨rb, 5, none⟩ = some (.int .i64 hr))) := weaker2 _
    refine Ut 0 19 8 0 0 (v := ?vr13_1) rfl hWr13 hH ?yr13_1 ?_
    case yr13_1 => (intro w' hSw; clear hSw; go_simp; try (with_reducible rfl))
    simp only [sB, sC]
    refine Ut 1 20 7 0 0 (v := ?vr13_2) rfl hWr13 hH ?yr13_2 ?_
    case yr13_2 => (intro w' hSw; clear hSw; go_simp; try (with_reducible rfl))
    simp only [sB, sC]
    refine Ut 2 21 6 0 0 (v := ?vr13_3) rfl hWr13 hH ?yr13_3 ?_
    case yr13_3 => (intro w' hSw; clear hSw; go_simp; try (with_reducible rfl))
    simp only [sB, sC]
    refine Ut 3 22 5 0 0 (v := ?vr13_4) rfl hWr13 hH ?yr13_4 ?_
    case yr13_4 => (intro w' hSw; replace hSw := S2o0 hSw; (try dsimp only at hSw); have q0 := hSw.1; have q1 := hSw.2; go_simp; try (with_reducible rfl))
    simp only [sB, sC]
    refine Ut 4 23 4 0 0 (v := ?vr13_5) rfl hWr13 hH ?yr13_5 ?_
    case yr13_5 => (intro w' hSw; clear hSw; go_simp; try (with_reducible rfl))
    simp only [sB, sC]
    refine Ut 5 24 3 0 0 (v := ?vr13_6) rfl hWr13 hH ?yr13_6 ?_
    case yr13_6 => (intro w' hSw; clear hSw; go_simp; try (with_reducible rfl))
    simp only [sB, sC]
    refine Ut 6 25 2 0 0 (v := ?vr13_7) rfl hWr13 hH ?yr13_7 ?_
    case yr13_7 => (intro w' hSw; clear hSw; go_simp; try (with_reducible rfl))
    simp only [sB, sC]
    refine Ut 7 26 1 0 0 (v := ?vr13_8) rfl hWr13 hH ?yr13_8 ?_
    case yr13_8 => (intro w' hSw; replace hSw := S2o0 hSw; (try dsimp only at hSw); have q0 := hSw.1; have q1 := hSw.2; go_simp; try (with_reducible rfl))
    simp only [sB, sC]
    refine Ut 8 27 0 0 0 (v := ?vr13_9) rfl hWr13 hH ?yr13_9 ?_
    case yr13_9 => (intro w' hSw; clear hSw; go_simp; try (with_reducible rfl))
    simp only [sB, sC]
    refine wpAnyU_done (by kernel_rfl) ?_ _ _
    refine NoPanic.normal ?_
    clear hWr13
    clear hH
    go_upto_region 4 with fail
    refine wp_region_noPanic ?_
    refine wp_region_U (S := (S2 (fun w' => w'.cell? ⟨rb, 5, none⟩ = some (.int .i64 hr) ∧ w'.cell? ⟨lb, 5, none⟩ = some (.int .i64 hl)))) (T := (fun _ => 0)) (by kernel_rfl) (S2i0 ⟨by exact R5, by exact L5⟩) (fun hH => ?_)
    have hWr14 : Weaker (S2 (fun w' => w'.cell? ⟨rb, 5, none⟩ = some (.int .i64 hr) ∧ w'.cell? ⟨lb, 5, none⟩ = some (.int .i64 hl))) := weaker2 _
    refine Ut 0 30 9 0 0 (v := ?vr14_1) rfl hWr14 hH ?yr14_1 ?_
    case yr14_1 => (intro w' hSw; clear hSw; go_simp; try (with_reducible rfl))
    simp only [sB, sC]
    refine Ut 1 31 8 0 0 (v := ?vr14_2) rfl hWr14 hH ?yr14_2 ?_
    case yr14_2 => (intro w' hSw; clear hSw; go_simp; try (with_reducible rfl))
    simp only [sB, sC]
    refine Ut 2 32 7 0 0 (v := ?vr14_3) rfl hWr14 hH ?yr14_3 ?_
    case yr14_3 => (intro w' hSw; clear hSw; go_simp; try (with_reducible rfl))
    simp only [sB, sC]
    refine Ut 3 33 6 0 0 (v := ?vr14_4) rfl hWr14 hH ?yr14_4 ?_
    case yr14_4 => (intro w' hSw; replace hSw := S2o0 hSw; (try dsimp only at hSw); have q0 := hSw.1; have q1 := hSw.2; go_simp; try (with_reducible rfl))
    simp only [sB, sC]
    refine Ut 4 34 5 0 0 (v := ?vr14_5) rfl hWr14 hH ?yr14_5 ?_
    case yr14_5 => (intro w' hSw; clear hSw; go_simp; try (with_reducible rfl))
    simp only [sB, sC]
    refine Ut 5 35 4 0 0 (v := ?vr14_6) rfl hWr14 hH ?yr14_6 ?_
    case yr14_6 => (intro w' hSw; clear hSw; go_simp; try (with_reducible rfl))
    simp only [sB, sC]
    refine Ut 6 36 3 0 0 (v := ?vr14_7) rfl hWr14 hH ?yr14_7 ?_
    case yr14_7 => (intro w' hSw; clear hSw; go_simp; try (with_reducible rfl))
    simp only [sB, sC]
    refine Ut 7 37 2 0 0 (v := ?vr14_8) rfl hWr14 hH ?yr14_8 ?_
    case yr14_8 => (intro w' hSw; replace hSw := S2o0 hSw; (try dsimp only at hSw); have q0 := hSw.1; have q1 := hSw.2; go_simp; try (with_reducible rfl))
    simp only [sB, sC]
    refine Ut 8 38 1 0 0 (v := ?vr14_9) rfl hWr14 hH ?yr14_9 ?_
    case yr14_9 => (intro w' hSw; clear hSw; go_simp; try (with_reducible rfl))
    simp only [sB, sC]
    refine Ut 9 39 0 0 0 (v := ?vr14_10) rfl hWr14 hH ?yr14_10 ?_
    case yr14_10 => (intro w' hSw; clear hSw; go_simp; try (with_reducible rfl))
    simp only [sB, sC]
    refine wpAnyU_done (by kernel_rfl) ?_ _ _
    refine NoPanic.normal ?_
    clear hWr14
    clear hH
    go_upto_region 6 with fail
    refine wp_region_noPanic ?_
    refine wp_region_U (S := (S2 (fun w' => w'.cell? ⟨rb, 7, none⟩ = some (.pointer (some ⟨cb, 0, none⟩)) ∧ w'.cell? ⟨rb, 8, none⟩ = some (.pointer (some ⟨db, 0, none⟩))))) (T := (fun _ => 0)) (by kernel_rfl) (S2i0 ⟨by exact Q7, by exact Q8⟩) (fun hH => ?_)
    have hWr15 : Weaker (S2 (fun w' => w'.cell? ⟨rb, 7, none⟩ = some (.pointer (some ⟨cb, 0, none⟩)) ∧ w'.cell? ⟨rb, 8, none⟩ = some (.pointer (some ⟨db, 0, none⟩)))) := weaker2 _
    refine Ut 0 41 11 0 0 (v := ?vr15_1) rfl hWr15 hH ?yr15_1 ?_
    case yr15_1 => (intro w' hSw; clear hSw; go_simp; try (with_reducible rfl))
    simp only [sB, sC]
    refine Ut 1 42 10 0 0 (v := ?vr15_2) rfl hWr15 hH ?yr15_2 ?_
    case yr15_2 => (intro w' hSw; clear hSw; go_simp; try (with_reducible rfl))
    simp only [sB, sC]
    refine Ut 2 43 9 0 0 (v := ?vr15_3) rfl hWr15 hH ?yr15_3 ?_
    case yr15_3 => (intro w' hSw; clear hSw; go_simp; try (with_reducible rfl))
    simp only [sB, sC]
    refine Ut 3 44 8 0 0 (v := ?vr15_4) rfl hWr15 hH ?yr15_4 ?_
    case yr15_4 => (intro w' hSw; clear hSw; go_simp; try (with_reducible rfl))
    simp only [sB, sC]
    refine Ut 4 45 7 0 0 (v := ?vr15_5) rfl hWr15 hH ?yr15_5 ?_
    case yr15_5 => (intro w' hSw; replace hSw := S2o0 hSw; (try dsimp only at hSw); have q0 := hSw.1; have q1 := hSw.2; go_simp; try (with_reducible rfl))
    simp only [sB, sC]
    refine Ut 5 46 6 0 0 (v := ?vr15_6) rfl hWr15 hH ?yr15_6 ?_
    case yr15_6 => (intro w' hSw; clear hSw; go_simp; try (with_reducible rfl))
    simp only [sB, sC]
    refine Ut 6 47 5 0 0 (v := ?vr15_7) rfl hWr15 hH ?yr15_7 ?_
    case yr15_7 => (intro w' hSw; clear hSw; go_simp; try (with_reducible rfl))
    simp only [sB, sC]
    refine Ut 7 48 4 0 0 (v := ?vr15_8) rfl hWr15 hH ?yr15_8 ?_
    case yr15_8 => (intro w' hSw; clear hSw; go_simp; try (with_reducible rfl))
    simp only [sB, sC]
    refine Ut 8 49 3 0 0 (v := ?vr15_9) rfl hWr15 hH ?yr15_9 ?_
    case yr15_9 => (intro w' hSw; clear hSw; go_simp; try (with_reducible rfl))
    simp only [sB, sC]
    refine Ut 9 50 2 0 0 (v := ?vr15_10) rfl hWr15 hH ?yr15_10 ?_
    case yr15_10 => (intro w' hSw; replace hSw := S2o0 hSw; (try dsimp only at hSw); have q0 := hSw.1; have q1 := hSw.2; go_simp; try (with_reducible rfl))
    simp only [sB, sC]
    refine Ut 10 7 1 0 0 (v := ?vr15_11) rfl hWr15 hH ?yr15_11 ?_
    case yr15_11 => (intro w' hSw; clear hSw; go_simp; try (with_reducible rfl))
    simp only [sB, sC]
    refine Ut 11 8 0 0 0 (v := ?vr15_12) rfl hWr15 hH ?yr15_12 ?_
    case yr15_12 => (intro w' hSw; clear hSw; go_simp; try (with_reducible rfl))
    simp only [sB, sC]
    refine wpAnyU_done (by kernel_rfl) ?_ _ _
    refine NoPanic.normal ?_
    clear hWr15
    clear hH
    go_upto_region 7 with fail
    refine wp_region_noPanic ?_
    refine wp_region_U (S := (S2 (fun w' => w'.cell? ⟨cb, 5, none⟩ = some (.int .i64 hc) ∧ w'.cell? ⟨db, 5, none⟩ = some (.int .i64 hdd)))) (T := (fun _ => 0)) (by kernel_rfl) (S2i0 ⟨by exact C5, by exact D5⟩) (fun hH => ?_)
    have hWr16 : Weaker (S2 (fun w' => w'.cell? ⟨cb, 5, none⟩ = some (.int .i64 hc) ∧ w'.cell? ⟨db, 5, none⟩ = some (.int .i64 hdd))) := weaker2 _
    refine Ut 0 51 8 0 0 (v := ?vr16_1) rfl hWr16 hH ?yr16_1 ?_
    case yr16_1 => (intro w' hSw; clear hSw; go_simp; try (with_reducible rfl))
    simp only [sB, sC]
    refine Ut 1 52 7 0 0 (v := ?vr16_2) rfl hWr16 hH ?yr16_2 ?_
    case yr16_2 => (intro w' hSw; clear hSw; go_simp; try (with_reducible rfl))
    simp only [sB, sC]
    refine Ut 2 53 6 0 0 (v := ?vr16_3) rfl hWr16 hH ?yr16_3 ?_
    case yr16_3 => (intro w' hSw; clear hSw; go_simp; try (with_reducible rfl))
    simp only [sB, sC]
    refine Ut 3 54 5 0 0 (v := ?vr16_4) rfl hWr16 hH ?yr16_4 ?_
    case yr16_4 => (intro w' hSw; replace hSw := S2o0 hSw; (try dsimp only at hSw); have q0 := hSw.1; have q1 := hSw.2; go_simp; try (with_reducible rfl))
    simp only [sB, sC]
    refine Ut 4 55 4 0 0 (v := ?vr16_5) rfl hWr16 hH ?yr16_5 ?_
    case yr16_5 => (intro w' hSw; clear hSw; go_simp; try (with_reducible rfl))
    simp only [sB, sC]
    refine Ut 5 56 3 0 0 (v := ?vr16_6) rfl hWr16 hH ?yr16_6 ?_
    case yr16_6 => (intro w' hSw; clear hSw; go_simp; try (with_reducible rfl))
    simp only [sB, sC]
    refine Ut 6 57 2 0 0 (v := ?vr16_7) rfl hWr16 hH ?yr16_7 ?_
    case yr16_7 => (intro w' hSw; clear hSw; go_simp; try (with_reducible rfl))
    simp only [sB, sC]
    refine Ut 7 58 1 0 0 (v := ?vr16_8) rfl hWr16 hH ?yr16_8 ?_
    case yr16_8 => (intro w' hSw; replace hSw := S2o0 hSw; (try dsimp only at hSw); have q0 := hSw.1; have q1 := hSw.2; go_simp; try (with_reducible rfl))
    simp only [sB, sC]
    refine Ut 8 59 0 0 0 (v := ?vr16_9) rfl hWr16 hH ?yr16_9 ?_
    case yr16_9 => (intro w' hSw; clear hSw; go_simp; try (with_reducible rfl))
    simp only [sB, sC]
    refine wpAnyU_done (by kernel_rfl) ?_ _ _
    refine NoPanic.normal ?_
    clear hWr16
    clear hH
    go_wp2_with fail
    refine (HPL.out _ (by first | exact Below.refl _ _ | exact (Below.refl _ _).drew | exact (Below.refl _ _).drew.drew | exact (Below.refl _ _).drew.drew.drew | exact (Below.refl _ _).drew.drew.drew.drew | exact (Below.refl _ _).drew.drew.drew.drew.drew | exact (Below.refl _ _).drew.drew.drew.drew.drew.drew)).mono ?_
    rintro e w1 ⟨rfl, htl⟩
    have HTL := hid htl
    clear htl HPL
    go_wp2_with fail
    refine HTL.out.mono ?_
    rintro e w2 ⟨rfl, hc2⟩
    have HC2 := hid hc2
    clear hc2 HTL
    go_wp2_with fail
    refine HC2.out.mono ?_
    rintro e w3 ⟨rfl, hret⟩
    have HRET := hid hret
    clear hret HC2
    go_wp2
    go_returns
    have hqe := HQB.out
    subst hqe
    exact HRET.out
set_option maxRecDepth 100000 in
set_option maxHeartbeats 8000000 in
theorem balance_liftL {w : World} {g : Nat} {s : TS} (h : Mem w g s) {u q : Nat} {r c d : TB} {up : Option Addr} {C : List Fr} (hR : (TB.nd u (.nd q c d) r).Rp s up) (hC : CxR s C up u) (hCd : (cxB C).Nodup)
    (hd : (u :: q :: (r.blocks ++ (c.blocks ++ d.blocks))).Nodup) (hdis : ∀ k ∈ (u :: q :: (r.blocks ++ (c.blocks ++ d.blocks))), k ∉ cxB C) (hH : r.tr.ht ≤ 1000 ∧ c.tr.ht ≤ 1000 ∧ d.tr.ht ≤ 1000) (hB : r.tr.ht + 1 < (TB.nd q c d).tr.ht) :
    Calls Try.prog 48 #[.pointer (pA g), .pointer (pA u)] w (RetBal g u (.nd q c d) r up C s w) := by
  have cu := h.nd _ _ hR.1
  obtain ⟨rl, hrl, -, -, tl⟩ := (hR.2.2).top
  have hhi := hR.2.1
  have cq := h.nd _ _ hhi.1
  obtain ⟨rc, hrc, -, -, tc⟩ := hhi.2.1.top
  obtain ⟨rd, hrd, -, -, td⟩ := hhi.2.2.top
  have hbd := TB.tr_ht q c d
  have U8 : w.cell? ⟨u, 8, none⟩ = some (.pointer (some ⟨r.root, 0, none⟩)) := cu.c8
  have U7 : w.cell? ⟨u, 7, none⟩ = some (.pointer (some ⟨q, 0, none⟩)) := cu.c7
  have R5 : w.cell? ⟨r.root, 5, none⟩ = some (.int .i64 ((r.tr.ht : Nat) : Int)) := by rw [(h.nd _ _ hrl).c5, tl]
  have L5 : w.cell? ⟨q, 5, none⟩ = some (.int .i64 (((TB.nd q c d).tr.ht : Nat) : Int)) := cq.c5
  have Q7 : w.cell? ⟨q, 7, none⟩ = some (.pointer (some ⟨c.root, 0, none⟩)) := cq.c7
  have Q8 : w.cell? ⟨q, 8, none⟩ = some (.pointer (some ⟨d.root, 0, none⟩)) := cq.c8
  have C5 : w.cell? ⟨c.root, 5, none⟩ = some (.int .i64 ((c.tr.ht : Nat) : Int)) := by rw [(h.nd _ _ hrc).c5, tc]
  have D5 : w.cell? ⟨d.root, 5, none⟩ = some (.int .i64 ((d.tr.ht : Nat) : Int)) := by rw [(h.nd _ _ hrd).c5, td]
  have lu := lt_of_cell U7
  have ll := lt_of_cell R5
  have lq := lt_of_cell Q7
  have lc := lt_of_cell C5
  have ld := lt_of_cell D5
  have nuq : u ≠ q := fun e => (List.nodup_cons.1 hd).1 (by rw [e]; simp)
  have HPL0 : Hid (∀ (stay moves : TB), balTB u (.nd q c d) r = TB.nd q stay (TB.nd u r moves) → (∀ k, k ∈ (u :: q :: (r.blocks ++ (stay.blocks ++ moves.blocks))) ↔ k ∈ (u :: q :: (r.blocks ++ (c.blocks ++ d.blocks)))) → stay.Rp s (pA q) → moves.Rp s (pA q) → (u :: q :: (r.blocks ++ (stay.blocks ++ moves.blocks))).Nodup → stay.tr.ht ≤ 1000 → moves.tr.ht ≤ 1000 →
      ∀ w', Below w.heap.size w w' → Calls Try.prog 27 #[.pointer (pA g), .pointer (pA u), .pointer (pA q)] w' (fun e w1 => e = .returned (.tuple #[]) ∧ Calls Try.prog 28 #[.pointer (pA u), .pointer (pA r.root), .pointer (pA moves.root)] w1 (fun e w2 => e = .returned (.tuple #[]) ∧
      Calls Try.prog 28 #[.pointer (pA q), .pointer (pA stay.root), .pointer (pA u)] w2 (fun e w3 => e = .returned (.tuple #[]) ∧ RetBal g u (.nd q c d) r up C s w (.returned (.pointer (pA q))) w3)))) := by
    intro stay moves hbal hblk hs hm hnd b2 b3 w' hb
    refine (place_cx (h.below hb) hC hCd hR.1 rfl hhi.1 nuq (hdis u (by simp)) (hdis q (by simp))).mono ?_
    rintro e w1 ⟨s1, rfl, m1, o1, cx1, hq1, pk1, in1⟩
    refine ⟨rfl, ?_⟩
    exact lift_tail hbal (fun k => (hblk k).trans (by simp only [TB.blocks, List.mem_cons, List.mem_append]; grind)) hR.1 rfl rfl (hR.2.2) hs hm hnd (fun k hk => hdis k ((hblk k).1 hk)) hH.1 b2 b3 m1 ((Out.below hb).trans o1 (fun i _ k => k)) cx1 hq1 pk1 in1
  have hbalc : ¬ d.tr.ht > c.tr.ht → balTB u (.nd q c d) r = TB.nd q c (TB.nd u r d) := fun hn => by
    unfold balTB
    rw [if_pos (by omega), if_neg (by omega)]
    show (if d.tr.ht > c.tr.ht then _ else _) = _
    rw [if_neg hn]
  have hbald : d.tr.ht > c.tr.ht → balTB u (.nd q c d) r = TB.nd q d (TB.nd u r c) := fun hn => by
    unfold balTB
    rw [if_pos (by omega), if_neg (by omega)]
    show (if d.tr.ht > c.tr.ht then _ else _) = _
    rw [if_pos hn]
  have HPLc : Hid (¬ d.tr.ht > c.tr.ht → _) := hid (fun hn => HPL0.out c d (hbalc hn) (fun k => Iff.rfl) hhi.2.1 hhi.2.2 hd hH.2.1 hH.2.2)
  have HPLd : Hid (d.tr.ht > c.tr.ht → _) := hid (fun hn => HPL0.out d c (hbald hn) (fun k => by simp only [List.mem_cons, List.mem_append]; grind) hhi.2.2 hhi.2.1 (by
    refine (List.Perm.nodup_iff ?_).1 hd
    refine List.perm_iff_count.2 fun a => ?_
    simp only [List.count_cons, List.count_append]; omega) hH.2.2 hH.2.1)
  clear HPL0 hbalc hbald
  obtain ⟨hr, hhl⟩ : ∃ z, z = ((r.tr.ht : Nat) : Int) := ⟨_, rfl⟩
  obtain ⟨hl, hhr⟩ : ∃ z, z = (((TB.nd q c d).tr.ht : Nat) : Int) := ⟨_, rfl⟩
  obtain ⟨hc, hhc⟩ : ∃ z, z = ((c.tr.ht : Nat) : Int) := ⟨_, rfl⟩
  obtain ⟨hdd, hhd⟩ : ∃ z, z = ((d.tr.ht : Nat) : Int) := ⟨_, rfl⟩
  rw [← hhl] at R5
  rw [← hhr] at L5
  rw [← hhc] at C5
  rw [← hhd] at D5
  obtain ⟨rb, hlb⟩ : ∃ b, b = r.root := ⟨_, rfl⟩
  obtain ⟨cb, hcb⟩ : ∃ b, b = c.root := ⟨_, rfl⟩
  obtain ⟨db, hdb⟩ : ∃ b, b = d.root := ⟨_, rfl⟩
  obtain ⟨lb, hqb⟩ : ∃ b, b = q := ⟨_, rfl⟩
  rw [← hlb] at U8 R5 ll HPLc HPLd
  rw [← hcb] at Q7 C5 lc HPLc HPLd
  rw [← hdb] at Q8 D5 ld HPLc HPLd
  rw [← hqb] at U7 L5 Q7 Q8 lq
  have w1 : IntKind.i64.wrap (hr + 1) = hr + 1 := IntWalk.i64_in _ (by omega)
  have hgt : hl > hr := by omega
  have hle : ¬ hl ≤ hr + 1 := by omega
  by_cases h2 : d.tr.ht > c.tr.ht
  · have HPL := hid (HPLd.out h2)
    have hg2 : hdd > hc := by omega
    rw [← hqb] at HPL
    have HQB := hid hqb
    clear h hR hC hCd hd hdis hH hB cu hrl tl hhi cq hrc tc hrd td hbd nuq HPLc HPLd hlb hcb hdb hqb hhl hhr hhc hhd h2
    go_enter Try.func48, Try.ntmps48
    go_upto_region 1 with fail
    refine wp_region_noPanic ?_
    refine wp_region_U (S := (S2 (fun w' => w'.cell? ⟨u, 7, none⟩ = some (.pointer (some ⟨lb, 0, none⟩)) ∧ w'.cell? ⟨u, 8, none⟩ = some (.pointer (some ⟨rb, 0, none⟩))))) (T := (fun _ => 0)) (by kernel_rfl) (S2i0 ⟨by exact U7, by exact U8⟩) (fun hH => ?_)
    have hWr17 : Weaker (S2 (fun w' => w'.cell? ⟨u, 7, none⟩ = some (.pointer (some ⟨lb, 0, none⟩)) ∧ w'.cell? ⟨u, 8, none⟩ = some (.pointer (some ⟨rb, 0, none⟩)))) := weaker2 _
    refine Ut 0 9 11 0 0 (v := ?vr17_1) rfl hWr17 hH ?yr17_1 ?_
    case yr17_1 => (intro w' hSw; clear hSw; go_simp; try (with_reducible rfl))
    simp only [sB, sC]
    refine Ut 1 10 10 0 0 (v := ?vr17_2) rfl hWr17 hH ?yr17_2 ?_
    case yr17_2 => (intro w' hSw; clear hSw; go_simp; try (with_reducible rfl))
    simp only [sB, sC]
    refine Ut 2 11 9 0 0 (v := ?vr17_3) rfl hWr17 hH ?yr17_3 ?_
    case yr17_3 => (intro w' hSw; clear hSw; go_simp; try (with_reducible rfl))
    simp only [sB, sC]
    refine Ut 3 12 8 0 0 (v := ?vr17_4) rfl hWr17 hH ?yr17_4 ?_
    case yr17_4 => (intro w' hSw; clear hSw; go_simp; try (with_reducible rfl))
    simp only [sB, sC]
    refine Ut 4 13 7 0 0 (v := ?vr17_5) rfl hWr17 hH ?yr17_5 ?_
    case yr17_5 => (intro w' hSw; replace hSw := S2o0 hSw; (try dsimp only at hSw); have q0 := hSw.1; have q1 := hSw.2; go_simp; try (with_reducible rfl))
    simp only [sB, sC]
    refine Ut 5 14 6 0 0 (v := ?vr17_6) rfl hWr17 hH ?yr17_6 ?_
    case yr17_6 => (intro w' hSw; clear hSw; go_simp; try (with_reducible rfl))
    simp only [sB, sC]
    refine Ut 6 15 5 0 0 (v := ?vr17_7) rfl hWr17 hH ?yr17_7 ?_
    case yr17_7 => (intro w' hSw; clear hSw; go_simp; try (with_reducible rfl))
    simp only [sB, sC]
    refine Ut 7 16 4 0 0 (v := ?vr17_8) rfl hWr17 hH ?yr17_8 ?_
    case yr17_8 => (intro w' hSw; clear hSw; go_simp; try (with_reducible rfl))
    simp only [sB, sC]
    refine Ut 8 17 3 0 0 (v := ?vr17_9) rfl hWr17 hH ?yr17_9 ?_
    case yr17_9 => (intro w' hSw; clear hSw; go_simp; try (with_reducible rfl))
    simp only [sB, sC]
    refine Ut 9 18 2 0 0 (v := ?vr17_10) rfl hWr17 hH ?yr17_10 ?_
    case yr17_10 => (intro w' hSw; replace hSw := S2o0 hSw; (try dsimp only at hSw); have q0 := hSw.1; have q1 := hSw.2; go_simp; try (with_reducible rfl))
    simp only [sB, sC]
    refine Ut 10 5 1 0 0 (v := ?vr17_11) rfl hWr17 hH ?yr17_11 ?_
    case yr17_11 => (intro w' hSw; clear hSw; go_simp; try (with_reducible rfl))
    simp only [sB, sC]
    refine Ut 11 6 0 0 0 (v := ?vr17_12) rfl hWr17 hH ?yr17_12 ?_
    case yr17_12 => (intro w' hSw; clear hSw; go_simp; try (with_reducible rfl))
    simp only [sB, sC]
    refine wpAnyU_done (by kernel_rfl) ?_ _ _
    refine NoPanic.normal ?_
    clear hWr17
    clear hH
    go_upto_region 2 with fail
    refine wp_region_noPanic ?_
    refine wp_region_U (S := (S2 (fun w' => w'.cell? ⟨lb, 5, none⟩ = some (.int .i64 hl) ∧ w'.cell? ⟨rb, 5, none⟩ = some (.int .i64 hr)))) (T := (fun _ => 0)) (by kernel_rfl) (S2i0 ⟨by exact L5, by exact R5⟩) (fun hH => ?_)
    have hWr18 : Weaker (S2 (fun w' => w'.cell? ⟨lb, 5, none⟩ = some (.int .i64 hl) ∧ w'.cell? ⟨rb, 5, none⟩ = some (.int .i64 hr))) := weaker2 _
    refine Ut 0 19 8 0 0 (v := ?vr18_1) rfl hWr18 hH ?yr18_1 ?_
    case yr18_1 => (intro w' hSw; clear hSw; go_simp; try (with_reducible rfl))
    simp only [sB, sC]
    refine Ut 1 20 7 0 0 (v := ?vr18_2) rfl hWr18 hH ?yr18_2 ?_
    case yr18_2 => (intro w' hSw; clear hSw; go_simp; try (with_reducible rfl))
    simp only [sB, sC]
    refine Ut 2 21 6 0 0 (v := ?vr18_3) rfl hWr18 hH ?yr18_3 ?_
    case yr18_3 => (intro w' hSw; clear hSw; go_simp; try (with_reducible rfl))
    simp only [sB, sC]
    refine Ut 3 22 5 0 0 (v := ?vr18_4) rfl hWr18 hH ?yr18_4 ?_
    case yr18_4 => (intro w' hSw; replace hSw := S2o0 hSw; (try dsimp only at hSw); have q0 := hSw.1; have q1 := hSw.2; go_simp; try (with_reducible rfl))
    simp only [sB, sC]
    refine Ut 4 23 4 0 0 (v := ?vr18_5) rfl hWr18 hH ?yr18_5 ?_
    case yr18_5 => (intro w' hSw; clear hSw; go_simp; try (with_reducible rfl))
    simp only [sB, sC]
    refine Ut 5 24 3 0 0 (v := ?vr18_6) rfl hWr18 hH ?yr18_6 ?_
    case yr18_6 => (intro w' hSw; clear hSw; go_simp; try (with_reducible rfl))
    simp only [sB, sC]
    refine Ut 6 25 2 0 0 (v := ?vr18_7) rfl hWr18 hH ?yr18_7 ?_
    case yr18_7 => (intro w' hSw; clear hSw; go_simp; try (with_reducible rfl))
    simp only [sB, sC]
    refine Ut 7 26 1 0 0 (v := ?vr18_8) rfl hWr18 hH ?yr18_8 ?_
    case yr18_8 => (intro w' hSw; replace hSw := S2o0 hSw; (try dsimp only at hSw); have q0 := hSw.1; have q1 := hSw.2; go_simp; try (with_reducible rfl))
    simp only [sB, sC]
    refine Ut 8 27 0 0 0 (v := ?vr18_9) rfl hWr18 hH ?yr18_9 ?_
    case yr18_9 => (intro w' hSw; clear hSw; go_simp; try (with_reducible rfl))
    simp only [sB, sC]
    refine wpAnyU_done (by kernel_rfl) ?_ _ _
    refine NoPanic.normal ?_
    clear hWr18
    clear hH
    go_upto_region 4 with fail
    refine wp_region_noPanic ?_
    refine wp_region_U (S := (S2 (fun w' => w'.cell? ⟨lb, 5, none⟩ = some (.int .i64 hl) ∧ w'.cell? ⟨rb, 5, none⟩ = some (.int .i64 hr)))) (T := (fun _ => 0)) (by kernel_rfl) (S2i0 ⟨by exact L5, by exact R5⟩) (fun hH => ?_)
    have hWr19 : Weaker (S2 (fun w' => w'.cell? ⟨lb, 5, none⟩ = some (.int .i64 hl) ∧ w'.cell? ⟨rb, 5, none⟩ = some (.int .i64 hr))) := weaker2 _
    refine Ut 0 30 9 0 0 (v := ?vr19_1) rfl hWr19 hH ?yr19_1 ?_
    case yr19_1 => (intro w' hSw; clear hSw; go_simp; try (with_reducible rfl))
    simp only [sB, sC]
    refine Ut 1 31 8 0 0 (v := ?vr19_2) rfl hWr19 hH ?yr19_2 ?_
    case yr19_2 => (intro w' hSw; clear hSw; go_simp; try (with_reducible rfl))
    simp only [sB, sC]
    refine Ut 2 32 7 0 0 (v := ?vr19_3) rfl hWr19 hH ?yr19_3 ?_
    case yr19_3 => (intro w' hSw; clear hSw; go_simp; try (with_reducible rfl))
    simp only [sB, sC]
    refine Ut 3 33 6 0 0 (v := ?vr19_4) rfl hWr19 hH ?yr19_4 ?_
    case yr19_4 => (intro w' hSw; replace hSw := S2o0 hSw; (try dsimp only at hSw); have q0 := hSw.1; have q1 := hSw.2; go_simp; try (with_reducible rfl))
    simp only [sB, sC]
    refine Ut 4 34 5 0 0 (v := ?vr19_5) rfl hWr19 hH ?yr19_5 ?_
    case yr19_5 => (intro w' hSw; clear hSw; go_simp; try (with_reducible rfl))
    simp only [sB, sC]
    refine Ut 5 35 4 0 0 (v := ?vr19_6) rfl hWr19 hH ?yr19_6 ?_
    case yr19_6 => (intro w' hSw; clear hSw; go_simp; try (with_reducible rfl))
    simp only [sB, sC]
    refine Ut 6 36 3 0 0 (v := ?vr19_7) rfl hWr19 hH ?yr19_7 ?_
    case yr19_7 => (intro w' hSw; clear hSw; go_simp; try (with_reducible rfl))
    simp only [sB, sC]
    refine Ut 7 37 2 0 0 (v := ?vr19_8) rfl hWr19 hH ?yr19_8 ?_
    case yr19_8 => (intro w' hSw; replace hSw := S2o0 hSw; (try dsimp only at hSw); have q0 := hSw.1; have q1 := hSw.2; go_simp; try (with_reducible rfl))
    simp only [sB, sC]
    refine Ut 8 38 1 0 0 (v := ?vr19_9) rfl hWr19 hH ?yr19_9 ?_
    case yr19_9 => (intro w' hSw; clear hSw; go_simp; try (with_reducible rfl))
    simp only [sB, sC]
    refine Ut 9 39 0 0 0 (v := ?vr19_10) rfl hWr19 hH ?yr19_10 ?_
    case yr19_10 => (intro w' hSw; clear hSw; go_simp; try (with_reducible rfl))
    simp only [sB, sC]
    refine wpAnyU_done (by kernel_rfl) ?_ _ _
    refine NoPanic.normal ?_
    clear hWr19
    clear hH
    go_upto_region 6 with fail
    refine wp_region_noPanic ?_
    refine wp_region_U (S := (S2 (fun w' => w'.cell? ⟨lb, 7, none⟩ = some (.pointer (some ⟨cb, 0, none⟩)) ∧ w'.cell? ⟨lb, 8, none⟩ = some (.pointer (some ⟨db, 0, none⟩))))) (T := (fun _ => 0)) (by kernel_rfl) (S2i0 ⟨by exact Q7, by exact Q8⟩) (fun hH => ?_)
    have hWr20 : Weaker (S2 (fun w' => w'.cell? ⟨lb, 7, none⟩ = some (.pointer (some ⟨cb, 0, none⟩)) ∧ w'.cell? ⟨lb, 8, none⟩ = some (.pointer (some ⟨db, 0, none⟩)))) := weaker2 _
    refine Ut 0 41 11 0 0 (v := ?vr20_1) rfl hWr20 hH ?yr20_1 ?_
    case yr20_1 => (intro w' hSw; clear hSw; go_simp; try (with_reducible rfl))
    simp only [sB, sC]
    refine Ut 1 42 10 0 0 (v := ?vr20_2) rfl hWr20 hH ?yr20_2 ?_
    case yr20_2 => (intro w' hSw; clear hSw; go_simp; try (with_reducible rfl))
    simp only [sB, sC]
    refine Ut 2 43 9 0 0 (v := ?vr20_3) rfl hWr20 hH ?yr20_3 ?_
    case yr20_3 => (intro w' hSw; clear hSw; go_simp; try (with_reducible rfl))
    simp only [sB, sC]
    refine Ut 3 44 8 0 0 (v := ?vr20_4) rfl hWr20 hH ?yr20_4 ?_
    case yr20_4 => (intro w' hSw; clear hSw; go_simp; try (with_reducible rfl))
    simp only [sB, sC]
    refine Ut 4 45 7 0 0 (v := ?vr20_5) rfl hWr20 hH ?yr20_5 ?_
    case yr20_5 => (intro w' hSw; replace hSw := S2o0 hSw; (try dsimp only at hSw); have q0 := hSw.1; have q1 := hSw.2; go_simp; try (with_reducible rfl))
    simp only [sB, sC]
    refine Ut 5 46 6 0 0 (v := ?vr20_6) rfl hWr20 hH ?yr20_6 ?_
    case yr20_6 => (intro w' hSw; clear hSw; go_simp; try (with_reducible rfl))
    simp only [sB, sC]
    refine Ut 6 47 5 0 0 (v := ?vr20_7) rfl hWr20 hH ?yr20_7 ?_
    case yr20_7 => (intro w' hSw; clear hSw; go_simp; try (with_reducible rfl))
    simp only [sB, sC]
    refine Ut 7 48 4 0 0 (v := ?vr20_8) rfl hWr20 hH ?yr20_8 ?_
    case yr20_8 => (intro w' hSw; clear hSw; go_simp; try (with_reducible rfl))
    simp only [sB, sC]
    refine Ut 8 49 3 0 0 (v := ?vr20_9) rfl hWr20 hH ?yr20_9 ?_
    case yr20_9 => (intro w' hSw; clear hSw; go_simp; try (with_reducible rfl))
    simp only [sB, sC]
    refine Ut 9 50 2 0 0 (v := ?vr20_10) rfl hWr20 hH ?yr20_10 ?_
    case yr20_10 => (intro w' hSw; replace hSw := S2o0 hSw; (try dsimp only at hSw); have q0 := hSw.1; have q1 := hSw.2; go_simp; try (with_reducible rfl))
    simp only [sB, sC]
    refine Ut 10 7 1 0 0 (v := ?vr20_11) rfl hWr20 hH ?yr20_11 ?_
    case yr20_11 => (intro w' hSw; clear hSw; go_simp; try (with_reducible rfl))
    simp only [sB, sC]
    refine Ut 11 8 0 0 0 (v := ?vr20_12) rfl hWr20 hH ?yr20_12 ?_
    case yr20_12 => (intro w' hSw; clear hSw; go_simp; try (with_reducible rfl))
    simp only [sB, sC]
    refine wpAnyU_done (by kernel_rfl) ?_ _ _
    refine NoPanic.normal ?_
    clear hWr20
    clear hH
    go_upto_region 7 with fail
    refine wp_region_noPanic ?_
    refine wp_region_U (S := (S2 (fun w' => w'.cell? ⟨cb, 5, none⟩ = some (.int .i64 hc) ∧ w'.cell? ⟨db, 5, none⟩ = some (.int .i64 hdd)))) (T := (fun _ => 0)) (by kernel_rfl) (S2i0 ⟨by exact C5, by exact D5⟩) (fun hH => ?_)
    have hWr21 : Weaker (S2 (fun w' => w'.cell? ⟨cb, 5, none⟩ = some (.int .i64 hc) ∧ w'.cell? ⟨db, 5, none⟩ = some (.int .i64 hdd))) := weaker2 _
    refine Ut 0 51 8 0 0 (v := ?vr21_1) rfl hWr21 hH ?yr21_1 ?_
    case yr21_1 => (intro w' hSw; clear hSw; go_simp; try (with_reducible rfl))
    simp only [sB, sC]
    refine Ut 1 52 7 0 0 (v := ?vr21_2) rfl hWr21 hH ?yr21_2 ?_
    case yr21_2 => (intro w' hSw; clear hSw; go_simp; try (with_reducible rfl))
    simp only [sB, sC]
    refine Ut 2 53 6 0 0 (v := ?vr21_3) rfl hWr21 hH ?yr21_3 ?_
    case yr21_3 => (intro w' hSw; clear hSw; go_simp; try (with_reducible rfl))
    simp only [sB, sC]
    refine Ut 3 54 5 0 0 (v := ?vr21_4) rfl hWr21 hH ?yr21_4 ?_
    case yr21_4 => (intro w' hSw; replace hSw := S2o0 hSw; (try dsimp only at hSw); have q0 := hSw.1; have q1 := hSw.2; go_simp; try (with_reducible rfl))
    simp only [sB, sC]
    refine Ut 4 55 4 0 0 (v := ?vr21_5) rfl hWr21 hH ?yr21_5 ?_
    case yr21_5 => (intro w' hSw; clear hSw; go_simp; try (with_reducible rfl))
    simp only [sB, sC]
    refine Ut 5 56 3 0 0 (v := ?vr21_6) rfl hWr21 hH ?yr21_6 ?_
    case yr21_6 => (intro w' hSw; clear hSw; go_simp; try (with_reducible rfl))
    simp only [sB, sC]
    refine Ut 6 57 2 0 0 (v := ?vr21_7) rfl hWr21 hH ?yr21_7 ?_
    case yr21_7 => (intro w' hSw; clear hSw; go_simp; try (with_reducible rfl))
    simp only [sB, sC]
    refine Ut 7 58 1 0 0 (v := ?vr21_8) rfl hWr21 hH ?yr21_8 ?_
    case yr21_8 => (intro w' hSw; replace hSw := S2o0 hSw; (try dsimp only at hSw); have q0 := hSw.1; have q1 := hSw.2; go_simp; try (with_reducible rfl))
    simp only [sB, sC]
    refine Ut 8 59 0 0 0 (v := ?vr21_9) rfl hWr21 hH ?yr21_9 ?_
    case yr21_9 => (intro w' hSw; clear hSw; go_simp; try (with_reducible rfl))
    simp only [sB, sC]
    refine wpAnyU_done (by kernel_rfl) ?_ _ _
    refine NoPanic.normal ?_
    clear hWr21
    clear hH
    go_wp2_with fail
    refine (HPL.out _ (by first | exact Below.refl _ _ | exact (Below.refl _ _).drew | exact (Below.refl _ _).drew.drew | exact (Below.refl _ _).drew.drew.drew | exact (Below.refl _ _).drew.drew.drew.drew | exact (Below.refl _ _).drew.drew.drew.drew.drew | exact (Below.refl _ _).drew.drew.drew.drew.drew.drew)).mono ?_
    rintro e w1 ⟨rfl, htl⟩
    have HTL := hid htl
    clear htl HPL
    go_wp2_with fail
    refine HTL.out.mono ?_
    rintro e w2 ⟨rfl, hc2⟩
    have HC2 := hid hc2
    clear hc2 HTL
    go_wp2_with fail
    refine HC2.out.mono ?_
    rintro e w3 ⟨rfl, hret⟩
    have HRET := hid hret
    clear hret HC2
    go_wp2
    go_returns
    have hqe := HQB.out
    subst hqe
    exact HRET.out
  · have HPL := hid (HPLc.out h2)
    have hg2 : ¬ hdd > hc := by omega
    rw [← hqb] at HPL
    have HQB := hid hqb
    clear h hR hC hCd hd hdis hH hB cu hrl tl hhi cq hrc tc hrd td hbd nuq HPLc HPLd hlb hcb hdb hqb hhl hhr hhc hhd h2
    go_enter Try.func48, Try.ntmps48
    go_upto_region 1 with fail
    refine wp_region_noPanic ?_
    refine wp_region_U (S := (S2 (fun w' => w'.cell? ⟨u, 7, none⟩ = some (.pointer (some ⟨lb, 0, none⟩)) ∧ w'.cell? ⟨u, 8, none⟩ = some (.pointer (some ⟨rb, 0, none⟩))))) (T := (fun _ => 0)) (by kernel_rfl) (S2i0 ⟨by exact U7, by exact U8⟩) (fun hH => ?_)
    have hWr22 : Weaker (S2 (fun w' => w'.cell? ⟨u, 7, none⟩ = some (.pointer (some ⟨lb, 0, none⟩)) ∧ w'.cell? ⟨u, 8, none⟩ = some (.pointer (some ⟨rb, 0, none⟩)))) := weaker2 _
    refine Ut 0 9 11 0 0 (v := ?vr22_1) rfl hWr22 hH ?yr22_1 ?_
    case yr22_1 => (intro w' hSw; clear hSw; go_simp; try (with_reducible rfl))
    simp only [sB, sC]
    refine Ut 1 10 10 0 0 (v := ?vr22_2) rfl hWr22 hH ?yr22_2 ?_
    case yr22_2 => (intro w' hSw; clear hSw; go_simp; try (with_reducible rfl))
    simp only [sB, sC]
    refine Ut 2 11 9 0 0 (v := ?vr22_3) rfl hWr22 hH ?yr22_3 ?_
    case yr22_3 => (intro w' hSw; clear hSw; go_simp; try (with_reducible rfl))
    simp only [sB, sC]
    refine Ut 3 12 8 0 0 (v := ?vr22_4) rfl hWr22 hH ?yr22_4 ?_
    case yr22_4 => (intro w' hSw; clear hSw; go_simp; try (with_reducible rfl))
    simp only [sB, sC]
    refine Ut 4 13 7 0 0 (v := ?vr22_5) rfl hWr22 hH ?yr22_5 ?_
    case yr22_5 => (intro w' hSw; replace hSw := S2o0 hSw; (try dsimp only at hSw); have q0 := hSw.1; have q1 := hSw.2; go_simp; try (with_reducible rfl))
    simp only [sB, sC]
    refine Ut 5 14 6 0 0 (v := ?vr22_6) rfl hWr22 hH ?yr22_6 ?_
    case yr22_6 => (intro w' hSw; clear hSw; go_simp; try (with_reducible rfl))
    simp only [sB, sC]
    refine Ut 6 15 5 0 0 (v := ?vr22_7) rfl hWr22 hH ?yr22_7 ?_
    case yr22_7 => (intro w' hSw; clear hSw; go_simp; try (with_reducible rfl))
    simp only [sB, sC]
    refine Ut 7 16 4 0 0 (v := ?vr22_8) rfl hWr22 hH ?yr22_8 ?_
    case yr22_8 => (intro w' hSw; clear hSw; go_simp; try (with_reducible rfl))
    simp only [sB, sC]
    refine Ut 8 17 3 0 0 (v := ?vr22_9) rfl hWr22 hH ?yr22_9 ?_
    case yr22_9 => (intro w' hSw; clear hSw; go_simp; try (with_reducible rfl))
    simp only [sB, sC]
    refine Ut 9 18 2 0 0 (v := ?vr22_10) rfl hWr22 hH ?yr22_10 ?_
    case yr22_10 => (intro w' hSw; replace hSw := S2o0 hSw; (try dsimp only at hSw); have q0 := hSw.1; have q1 := hSw.2; go_simp; try (with_reducible rfl))
    simp only [sB, sC]
    refine Ut 10 5 1 0 0 (v := ?vr22_11) rfl hWr22 hH ?yr22_11 ?_
    case yr22_11 => (intro w' hSw; clear hSw; go_simp; try (with_reducible rfl))
    simp only [sB, sC]
    refine Ut 11 6 0 0 0 (v := ?vr22_12) rfl hWr22 hH ?yr22_12 ?_
    case yr22_12 => (intro w' hSw; clear hSw; go_simp; try (with_reducible rfl))
    simp only [sB, sC]
    refine wpAnyU_done (by kernel_rfl) ?_ _ _
    refine NoPanic.normal ?_
    clear hWr22
    clear hH
    go_upto_region 2 with fail
    refine wp_region_noPanic ?_
    refine wp_region_U (S := (S2 (fun w' => w'.cell? ⟨lb, 5, none⟩ = some (.int .i64 hl) ∧ w'.cell? ⟨rb, 5, none⟩ = some (.int .i64 hr)))) (T := (fun _ => 0)) (by kernel_rfl) (S2i0 ⟨by exact L5, by exact R5⟩) (fun hH => ?_)
    have hWr23 : Weaker (S2 (fun w' => w'.cell? ⟨lb, 5, none⟩ = some (.int .i64 hl) ∧ w'.cell? ⟨rb, 5, none⟩ = some (.int .i64 hr))) := weaker2 _
    refine Ut 0 19 8 0 0 (v := ?vr23_1) rfl hWr23 hH ?yr23_1 ?_
    case yr23_1 => (intro w' hSw; clear hSw; go_simp; try (with_reducible rfl))
    simp only [sB, sC]
    refine Ut 1 20 7 0 0 (v := ?vr23_2) rfl hWr23 hH ?yr23_2 ?_
    case yr23_2 => (intro w' hSw; clear hSw; go_simp; try (with_reducible rfl))
    simp only [sB, sC]
    refine Ut 2 21 6 0 0 (v := ?vr23_3) rfl hWr23 hH ?yr23_3 ?_
    case yr23_3 => (intro w' hSw; clear hSw; go_simp; try (with_reducible rfl))
    simp only [sB, sC]
    refine Ut 3 22 5 0 0 (v := ?vr23_4) rfl hWr23 hH ?yr23_4 ?_
    case yr23_4 => (intro w' hSw; replace hSw := S2o0 hSw; (try dsimp only at hSw); have q0 := hSw.1; have q1 := hSw.2; go_simp; try (with_reducible rfl))
    simp only [sB, sC]
    refine Ut 4 23 4 0 0 (v := ?vr23_5) rfl hWr23 hH ?yr23_5 ?_
    case yr23_5 => (intro w' hSw; clear hSw; go_simp; try (with_reducible rfl))
    simp only [sB, sC]
    refine Ut 5 24 3 0 0 (v := ?vr23_6) rfl hWr23 hH ?yr23_6 ?_
    case yr23_6 => (intro w' hSw; clear hSw; go_simp; try (with_reducible rfl))
    simp only [sB, sC]
    refine Ut 6 25 2 0 0 (v := ?vr23_7) rfl hWr23 hH ?yr23_7 ?_
    case yr23_7 => (intro w' hSw; clear hSw; go_simp; try (with_reducible rfl))
    simp only [sB, sC]
    refine Ut 7 26 1 0 0 (v := ?vr23_8) rfl hWr23 hH ?yr23_8 ?_
    case yr23_8 => (intro w' hSw; replace hSw := S2o0 hSw; (try dsimp only at hSw); have q0 := hSw.1; have q1 := hSw.2; go_simp; try (with_reducible rfl))
    simp only [sB, sC]
    refine Ut 8 27 0 0 0 (v := ?vr23_9) rfl hWr23 hH ?yr23_9 ?_
    case yr23_9 => (intro w' hSw; clear hSw; go_simp; try (with_reducible rfl))
    simp only [sB, sC]
    refine wpAnyU_done (by kernel_rfl) ?_ _ _
    refine NoPanic.normal ?_
    clear hWr23
    clear hH
    go_upto_region 4 with fail
    refine wp_region_noPanic ?_
    refine wp_region_U (S := (S2 (fun w' => w'.cell? ⟨lb, 5, none⟩ = some (.int .i64 hl) ∧ w'.cell? ⟨rb, 5, none⟩ = some (.int .i64 hr)))) (T := (fun _ => 0)) (by kernel_rfl) (S2i0 ⟨by exact L5, by exact R5⟩) (fun hH => ?_)
    have hWr24 : Weaker (S2 (fun w' => w'.cell? ⟨lb, 5, none⟩ = some (.int .i64 hl) ∧ w'.cell? ⟨rb, 5, none⟩ = some (.int .i64 hr))) := weaker2 _
    refine Ut 0 30 9 0 0 (v := ?vr24_1) rfl hWr24 hH ?yr24_1 ?_
    case yr24_1 => (intro w' hSw; clear hSw; go_simp; try (with_reducible rfl))
    simp only [sB, sC]
    refine Ut 1 31 8 0 0 (v := ?vr24_2) rfl hWr24 hH ?yr24_2 ?_
    case yr24_2 => (intro w' hSw; clear hSw; go_simp; try (with_reducible rfl))
    simp only [sB, sC]
    refine Ut 2 32 7 0 0 (v := ?vr24_3) rfl hWr24 hH ?yr24_3 ?_
    case yr24_3 => (intro w' hSw; clear hSw; go_simp; try (with_reducible rfl))
    simp only [sB, sC]
    refine Ut 3 33 6 0 0 (v := ?vr24_4) rfl hWr24 hH ?yr24_4 ?_
    case yr24_4 => (intro w' hSw; replace hSw := S2o0 hSw; (try dsimp only at hSw); have q0 := hSw.1; have q1 := hSw.2; go_simp; try (with_reducible rfl))
    simp only [sB, sC]
    refine Ut 4 34 5 0 0 (v := ?vr24_5) rfl hWr24 hH ?yr24_5 ?_
    case yr24_5 => (intro w' hSw; clear hSw; go_simp; try (with_reducible rfl))
    simp only [sB, sC]
    refine Ut 5 35 4 0 0 (v := ?vr24_6) rfl hWr24 hH ?yr24_6 ?_
    case yr24_6 => (intro w' hSw; clear hSw; go_simp; try (with_reducible rfl))
    simp only [sB, sC]
    refine Ut 6 36 3 0 0 (v := ?vr24_7) rfl hWr24 hH ?yr24_7 ?_
    case yr24_7 => (intro w' hSw; clear hSw; go_simp; try (with_reducible rfl))
    simp only [sB, sC]
    refine Ut 7 37 2 0 0 (v := ?vr24_8) rfl hWr24 hH ?yr24_8 ?_
    case yr24_8 => (intro w' hSw; replace hSw := S2o0 hSw; (try dsimp only at hSw); have q0 := hSw.1; have q1 := hSw.2; go_simp; try (with_reducible rfl))
    simp only [sB, sC]
    refine Ut 8 38 1 0 0 (v := ?vr24_9) rfl hWr24 hH ?yr24_9 ?_
    case yr24_9 => (intro w' hSw; clear hSw; go_simp; try (with_reducible rfl))
    simp only [sB, sC]
    refine Ut 9 39 0 0 0 (v := ?vr24_10) rfl hWr24 hH ?yr24_10 ?_
    case yr24_10 => (intro w' hSw; clear hSw; go_simp; try (with_reducible rfl))
    simp only [sB, sC]
    refine wpAnyU_done (by kernel_rfl) ?_ _ _
    refine NoPanic.normal ?_
    clear hWr24
    clear hH
    go_upto_region 6 with fail
    refine wp_region_noPanic ?_
    refine wp_region_U (S := (S2 (fun w' => w'.cell? ⟨lb, 7, none⟩ = some (.pointer (some ⟨cb, 0, none⟩)) ∧ w'.cell? ⟨lb, 8, none⟩ = some (.pointer (some ⟨db, 0, none⟩))))) (T := (fun _ => 0)) (by kernel_rfl) (S2i0 ⟨by exact Q7, by exact Q8⟩) (fun hH => ?_)
    have hWr25 : Weaker (S2 (fun w' => w'.cell? ⟨lb, 7, none⟩ = some (.pointer (some ⟨cb, 0, none⟩)) ∧ w'.cell? ⟨lb, 8, none⟩ = some (.pointer (some ⟨db, 0, none⟩)))) := weaker2 _
    refine Ut 0 41 11 0 0 (v := ?vr25_1) rfl hWr25 hH ?yr25_1 ?_
    case yr25_1 => (intro w' hSw; clear hSw; go_simp; try (with_reducible rfl))
    simp only [sB, sC]
    refine Ut 1 42 10 0 0 (v := ?vr25_2) rfl hWr25 hH ?yr25_2 ?_
    case yr25_2 => (intro w' hSw; clear hSw; go_simp; try (with_reducible rfl))
    simp only [sB, sC]
    refine Ut 2 43 9 0 0 (v := ?vr25_3) rfl hWr25 hH ?yr25_3 ?_
    case yr25_3 => (intro w' hSw; clear hSw; go_simp; try (with_reducible rfl))
    simp only [sB, sC]
    refine Ut 3 44 8 0 0 (v := ?vr25_4) rfl hWr25 hH ?yr25_4 ?_
    case yr25_4 => (intro w' hSw; clear hSw; go_simp; try (with_reducible rfl))
    simp only [sB, sC]
    refine Ut 4 45 7 0 0 (v := ?vr25_5) rfl hWr25 hH ?yr25_5 ?_
    case yr25_5 => (intro w' hSw; replace hSw := S2o0 hSw; (try dsimp only at hSw); have q0 := hSw.1; have q1 := hSw.2; go_simp; try (with_reducible rfl))
    simp only [sB, sC]
    refine Ut 5 46 6 0 0 (v := ?vr25_6) rfl hWr25 hH ?yr25_6 ?_
    case yr25_6 => (intro w' hSw; clear hSw; go_simp; try (with_reducible rfl))
    simp only [sB, sC]
    refine Ut 6 47 5 0 0 (v := ?vr25_7) rfl hWr25 hH ?yr25_7 ?_
    case yr25_7 => (intro w' hSw; clear hSw; go_simp; try (with_reducible rfl))
    simp only [sB, sC]
    refine Ut 7 48 4 0 0 (v := ?vr25_8) rfl hWr25 hH ?yr25_8 ?_
    case yr25_8 => (intro w' hSw; clear hSw; go_simp; try (with_reducible rfl))
    simp only [sB, sC]
    refine Ut 8 49 3 0 0 (v := ?vr25_9) rfl hWr25 hH ?yr25_9 ?_
    case yr25_9 => (intro w' hSw; clear hSw; go_simp; try (with_reducible rfl))
    simp only [sB, sC]
    refine Ut 9 50 2 0 0 (v := ?vr25_10) rfl hWr25 hH ?yr25_10 ?_
    case yr25_10 => (intro w' hSw; replace hSw := S2o0 hSw; (try dsimp only at hSw); have q0 := hSw.1; have q1 := hSw.2; go_simp; try (with_reducible rfl))
    simp only [sB, sC]
    refine Ut 10 7 1 0 0 (v := ?vr25_11) rfl hWr25 hH ?yr25_11 ?_
    case yr25_11 => (intro w' hSw; clear hSw; go_simp; try (with_reducible rfl))
    simp only [sB, sC]
    refine Ut 11 8 0 0 0 (v := ?vr25_12) rfl hWr25 hH ?yr25_12 ?_
    case yr25_12 => (intro w' hSw; clear hSw; go_simp; try (with_reducible rfl))
    simp only [sB, sC]
    refine wpAnyU_done (by kernel_rfl) ?_ _ _
    refine NoPanic.normal ?_
    clear hWr25
    clear hH
    go_upto_region 7 with fail
    refine wp_region_noPanic ?_
    refine wp_region_U (S := (S2 (fun w' => w'.cell? ⟨cb, 5, none⟩ = some (.int .i64 hc) ∧ w'.cell? ⟨db, 5, none⟩ = some (.int .i64 hdd)))) (T := (fun _ => 0)) (by kernel_rfl) (S2i0 ⟨by exact C5, by exact D5⟩) (fun hH => ?_)
    have hWr26 : Weaker (S2 (fun w' => w'.cell? ⟨cb, 5, none⟩ = some (.int .i64 hc) ∧ w'.cell? ⟨db, 5, none⟩ = some (.int .i64 hdd))) := weaker2 _
    refine Ut 0 51 8 0 0 (v := ?vr26_1) rfl hWr26 hH ?yr26_1 ?_
    case yr26_1 => (intro w' hSw; clear hSw; go_simp; try (with_reducible rfl))
    simp only [sB, sC]
    refine Ut 1 52 7 0 0 (v := ?vr26_2) rfl hWr26 hH ?yr26_2 ?_
    case yr26_2 => (intro w' hSw; clear hSw; go_simp; try (with_reducible rfl))
    simp only [sB, sC]
    refine Ut 2 53 6 0 0 (v := ?vr26_3) rfl hWr26 hH ?yr26_3 ?_
    case yr26_3 => (intro w' hSw; clear hSw; go_simp; try (with_reducible rfl))
    simp only [sB, sC]
    refine Ut 3 54 5 0 0 (v := ?vr26_4) rfl hWr26 hH ?yr26_4 ?_
    case yr26_4 => (intro w' hSw; replace hSw := S2o0 hSw; (try dsimp only at hSw); have q0 := hSw.1; have q1 := hSw.2; go_simp; try (with_reducible rfl))
    simp only [sB, sC]
    refine Ut 4 55 4 0 0 (v := ?vr26_5) rfl hWr26 hH ?yr26_5 ?_
    case yr26_5 => (intro w' hSw; clear hSw; go_simp; try (with_reducible rfl))
    simp only [sB, sC]
    refine Ut 5 56 3 0 0 (v := ?vr26_6) rfl hWr26 hH ?yr26_6 ?_
    case yr26_6 => (intro w' hSw; clear hSw; go_simp; try (with_reducible rfl))
    simp only [sB, sC]
    refine Ut 6 57 2 0 0 (v := ?vr26_7) rfl hWr26 hH ?yr26_7 ?_
    case yr26_7 => (intro w' hSw; clear hSw; go_simp; try (with_reducible rfl))
    simp only [sB, sC]
    refine Ut 7 58 1 0 0 (v := ?vr26_8) rfl hWr26 hH ?yr26_8 ?_
    case yr26_8 => (intro w' hSw; replace hSw := S2o0 hSw; (try dsimp only at hSw); have q0 := hSw.1; have q1 := hSw.2; go_simp; try (with_reducible rfl))
    simp only [sB, sC]
    refine Ut 8 59 0 0 0 (v := ?vr26_9) rfl hWr26 hH ?yr26_9 ?_
    case yr26_9 => (intro w' hSw; clear hSw; go_simp; try (with_reducible rfl))
    simp only [sB, sC]
    refine wpAnyU_done (by kernel_rfl) ?_ _ _
    refine NoPanic.normal ?_
    clear hWr26
    clear hH
    go_wp2_with fail
    refine (HPL.out _ (by first | exact Below.refl _ _ | exact (Below.refl _ _).drew | exact (Below.refl _ _).drew.drew | exact (Below.refl _ _).drew.drew.drew | exact (Below.refl _ _).drew.drew.drew.drew | exact (Below.refl _ _).drew.drew.drew.drew.drew | exact (Below.refl _ _).drew.drew.drew.drew.drew.drew)).mono ?_
    rintro e w1 ⟨rfl, htl⟩
    have HTL := hid htl
    clear htl HPL
    go_wp2_with fail
    refine HTL.out.mono ?_
    rintro e w2 ⟨rfl, hc2⟩
    have HC2 := hid hc2
    clear hc2 HTL
    go_wp2_with fail
    refine HC2.out.mono ?_
    rintro e w3 ⟨rfl, hret⟩
    have HRET := hid hret
    clear hret HC2
    go_wp2
    go_returns
    have hqe := HQB.out
    subst hqe
    exact HRET.out
end
end Go.Proofs.Ytiaoandbdgdecaa
