/- Parts of a proof: contracts and laws. -/
import Derived.Test.YtilncglnojjlaaaS35
import Derived.Test.YtilncglnojjlaaaS36
namespace Go.Proofs.Ytilncglnojjlaaa
section
set_option linter.unusedVariables false
set_option linter.unusedSimpArgs false
open Go.RowKit

structure Rq (w0 : World) (g : Nat) (L : List BE) (w : World) : Prop where
  bl : BL w g L
  gr : w0.grownBy w (some g)
  lt : g < w0.heap.size
  lo : ∀ y ∈ L, ∀ bx off, y.A = some ⟨bx, off, none⟩ → bx < w0.heap.size
  sz : w0.heap.size ≤ w.heap.size
theorem keepRq {w0 : World} {g : Nat} {L : List BE} {w w' : World} (hb : Below w.heap.size w w') (h : Rq w0 g L w) : Rq w0 g L w' := ⟨keepBL hb h.bl, grown_trans h.gr (grown_of_below hb), h.lt, h.lo, Nat.le_trans h.sz hb.size⟩
theorem Rq.drew {w0 : World} {g : Nat} {L : List BE} {w : World} (h : Rq w0 g L w) : Rq w0 g L w.drew := keepRq (Below.refl _ _).drew h
theorem Rq.alloc {w0 : World} {g : Nat} {L : List BE} {w : World} (h : Rq w0 g L w) (o : Obj) : Rq w0 g L (w.alloc o) := keepRq ((Below.refl _ _).alloc (Nat.le_refl _) _) h
theorem Rq.set {w0 : World} {g : Nat} {L : List BE} {w : World} (h : Rq w0 g L w) {k o : Nat} {v : Value} (hk : w0.heap.size ≤ k) : Rq w0 g L (w.setCell ⟨k, o, none⟩ v) :=
  have hlt := h.lt
  ⟨h.bl.off (by omega) (fun y hy bx off e => by have := h.lo y hy bx off e; omega), ⟨h.gr.os, h.gr.tape, h.gr.output, by simp; exact h.gr.size, fun j hj hne => by
    have e := (grown_setCell w k o v).block j (Nat.lt_of_lt_of_le hj h.sz) (by simp; omega)
    exact e.trans (h.gr.block j hj hne)⟩, h.lt, h.lo, by simp; exact h.sz⟩
theorem Rq.setA {w0 : World} {g : Nat} {L : List BE} {w : World} (h : Rq w0 g L w) {k : Nat} (hk : k < L.length) (x : BE) (hs : Sl w x.A x.n x.c x.l) (hn : ∀ bx off, x.A = some ⟨bx, off, none⟩ → bx ≠ g) (hl : ∀ bx off, x.A = some ⟨bx, off, none⟩ → bx < w0.heap.size) : Rq w0 g (L.set k x) (setBo w g (k * 13) x.b x.A x.n x.c) :=
  ⟨h.bl.set hk x hs hn, grown_trans h.gr (setBo_grown _ _ _ _ _ _ _), h.lt, fun y hy => (List.mem_or_eq_of_mem_set hy).elim (fun q => h.lo y q) (fun q => by rw [q]; exact hl), Nat.le_trans h.sz (setBo_grown w g (k * 13) x.b x.A x.n x.c).size⟩
set_option maxRecDepth 100000 in
set_option maxHeartbeats 8000000 in
theorem along_calls (cap g ka kb : Nat) (L : List BE) (p1 p2 q1 q2 v1 v2 : Int) (w : World) (h : BL w g L) (hlo : ∀ y ∈ L, ∀ bx off, y.A = some ⟨bx, off, none⟩ → bx < w.heap.size) (hab : ka < kb) (hka : ka < L.length) (hkb : kb < L.length) (h64 : L.length ≤ 64) (xa xb : BE) (HXA0 : xa = L[ka]'hka) (HXB0 : xb = L[kb]'hkb) :
    Calls Try.prog 48 #[.slice (some ⟨g, 0, none⟩) L.length cap, .int .i64 ka, .int .i64 kb, vecV p1 p2, vecV q1 q2, vecV v1 v2] w (Ret (.int .i64 (pulV xa.b xb.b p1 p2 q1 q2 v1 v2)) w) := by
  obtain ⟨W, hW⟩ : ∃ W, W = ((w.alloc (.cells #[.int .i64 p1, .int .i64 p2] 34)).alloc (.cells #[.int .i64 q1, .int .i64 q2] 34)).alloc (.cells #[.int .i64 v1, .int .i64 v2] 34) := ⟨_, rfl⟩
  have hB : Below w.heap.size w W := by rw [hW]; go_grown
  have HRQ : Hid (Rq w g L W) := ⟨keepBL hB h, grown_of_below hB, h.cl.lt, hlo, hB.size⟩
  have HVP : Hid (Vg W w.heap.size p1 p2) := by show Vg _ _ _ _; rw [hW]; exact ⟨by go_simp, by go_simp⟩
  have HVQ : Hid (Vg W (w.heap.size + 1) q1 q2) := by show Vg _ _ _ _; rw [hW]; exact ⟨by go_simp, by go_simp⟩
  have HVW : Hid (Vg W (w.heap.size + 2) v1 v2) := by show Vg _ _ _ _; rw [hW]; exact ⟨by go_simp, by go_simp⟩
  have HXA := hid HXA0
  have HXB := hid HXB0
  have hac : (ka : Int) < (L.length : Int) := by omega
  have hbc : (kb : Int) < (L.length : Int) := by omega
  obtain ⟨s1, hs1⟩ : ∃ z, z = speedX xb.b q1 q2 := ⟨_, rfl⟩
  obtain ⟨s2, hs2⟩ : ∃ z, z = speedY xb.b q1 q2 := ⟨_, rfl⟩
  obtain ⟨t1, ht1⟩ : ∃ z, z = speedX xa.b p1 p2 := ⟨_, rfl⟩
  obtain ⟨t2, ht2⟩ : ∃ z, z = speedY xa.b p1 p2 := ⟨_, rfl⟩
  have HVB := hid (rspeed_calls xb.b xb.A xb.n xb.c q1 q2)
  have HVA := hid (rspeed_calls xa.b xa.A xa.n xa.c p1 p2)
  rw [← hs1, ← hs2] at HVB
  rw [← ht1, ← ht2] at HVA
  obtain ⟨d1, hd1⟩ : ∃ z, z = subF s1 t1 := ⟨_, rfl⟩
  obtain ⟨d2, hd2⟩ : ∃ z, z = subF s2 t2 := ⟨_, rfl⟩
  have HC6 := hid (vsub_calls s1 s2 t1 t2)
  rw [← hd1, ← hd2] at HC6
  obtain ⟨vz, hvz⟩ : ∃ z, z = dotF d1 d2 v1 v2 := ⟨_, rfl⟩
  have HC8 := hid (vdot_calls d1 d2 v1 v2)
  rw [← hvz] at HC8
  have HFIN : Hid (vz = pulV xa.b xb.b p1 p2 q1 q2 v1 v2) := by show _ = _; unfold pulV; rw [← hs1, ← hs2, ← ht1, ← ht2, ← hd1, ← hd2, ← hvz]
  clear h hlo HXA0 HXB0 hs1 hs2 ht1 ht2 hd1 hd2 hvz
  go_enter Try.func48, Try.ntmps48
  go_upto_region 1 with fail
  rw [← hW]
  have HBW := hid hB
  clear hW hB
  refine wp_region_noPanic ?_
  refine wp_region_U (S := (S2 (fun w' => Rq w g L w' ∧ Vg w' w.heap.size p1 p2 ∧ Vg w' (w.heap.size + 1) q1 q2 ∧ Vg w' (w.heap.size + 2) v1 v2 ∧ Below w.heap.size w w'))) (T := (fun _ => 0)) (by kernel_rfl) (S2i0 ⟨HRQ.out.drew, HVP.out.drew, HVQ.out.drew, HVW.out.drew, HBW.out.drew⟩) (fun hH => ?_)
  have hWr1 : Weaker (S2 (fun w' => Rq w g L w' ∧ Vg w' w.heap.size p1 p2 ∧ Vg w' (w.heap.size + 1) q1 q2 ∧ Vg w' (w.heap.size + 2) v1 v2 ∧ Below w.heap.size w w')) := weaker2 _
  refine U_take 0 13 15 0 0 (v := ?vr1_1) rfl (by kernel_rfl) (by kernel_rfl) hWr1 (by kernel_rfl) (by kernel_rfl) (by kernel_rfl) (by kernel_rfl) (by kernel_rfl) (by kernel_rfl) (fun _ _ _ _ h => h) (by kernel_rfl) ?hyr1_1 (by omega) hH ?_
  case hyr1_1 => (intro w' hSw; clear hSw; go_simp; try (with_reducible rfl))
  simp only [List.set_cons_zero, List.set_cons_succ]
  refine U_take 1 14 14 0 0 (v := ?vr1_2) rfl (by kernel_rfl) (by kernel_rfl) hWr1 (by kernel_rfl) (by kernel_rfl) (by kernel_rfl) (by kernel_rfl) (by kernel_rfl) (by kernel_rfl) (fun _ _ _ _ h => h) (by kernel_rfl) ?hyr1_2 (by omega) hH ?_
  case hyr1_2 => (intro w' hSw; clear hSw; go_simp; try (with_reducible rfl))
  simp only [List.set_cons_zero, List.set_cons_succ]
  refine U_take 2 15 13 0 0 (v := ?vr1_3) rfl (by kernel_rfl) (by kernel_rfl) hWr1 (by kernel_rfl) (by kernel_rfl) (by kernel_rfl) (by kernel_rfl) (by kernel_rfl) (by kernel_rfl) (fun _ _ _ _ h => h) (by kernel_rfl) ?hyr1_3 (by omega) hH ?_
  case hyr1_3 => (intro w' hSw; clear hSw; go_simp; try (with_reducible rfl))
  simp only [List.set_cons_zero, List.set_cons_succ]
  refine U_take 3 16 12 0 0 (v := ?vr1_4) rfl (by kernel_rfl) (by kernel_rfl) hWr1 (by kernel_rfl) (by kernel_rfl) (by kernel_rfl) (by kernel_rfl) (by kernel_rfl) (by kernel_rfl) (fun _ _ _ _ h => h) (by kernel_rfl) ?hyr1_4 (by omega) hH ?_
  case hyr1_4 => (intro w' hSw; replace hSw := S2o0 hSw; (try dsimp only at hSw); have q0 := hSw.1; have q1 := hSw.2.1; have q2 := hSw.2.2.1; have q3 := hSw.2.2.2.1; have q4 := hSw.2.2.2.2; obtain ⟨b0_0, b0_1, b0_2, b0_3, b0_4, b0_5, b0_6, b0_7, b0_8, b0_9, b0_10, b0_11, b0_12⟩ := cells_b0 (q0).bl.cl hka HXA.out; obtain ⟨c0_0, c0_1, c0_2, c0_3, c0_4, c0_5, c0_6, c0_7, c0_8, c0_9, c0_10, c0_11, c0_12⟩ := cells_b0 (q0).bl.cl hkb HXB.out; obtain ⟨qa1_0, qa1_1⟩ := id q1; obtain ⟨qa2_0, qa2_1⟩ := id q2; obtain ⟨qa3_0, qa3_1⟩ := id q3; go_simp; try (with_reducible rfl))
  simp only [List.set_cons_zero, List.set_cons_succ]
  refine U_take 4 17 11 0 0 (v := ?vr1_5) rfl (by kernel_rfl) (by kernel_rfl) hWr1 (by kernel_rfl) (by kernel_rfl) (by kernel_rfl) (by kernel_rfl) (by kernel_rfl) (by kernel_rfl) (fun _ _ _ _ h => h) (by kernel_rfl) ?hyr1_5 (by omega) hH ?_
  case hyr1_5 => (intro w' hSw; replace hSw := S2o0 hSw; (try dsimp only at hSw); have q0 := hSw.1; have q1 := hSw.2.1; have q2 := hSw.2.2.1; have q3 := hSw.2.2.2.1; have q4 := hSw.2.2.2.2; obtain ⟨b0_0, b0_1, b0_2, b0_3, b0_4, b0_5, b0_6, b0_7, b0_8, b0_9, b0_10, b0_11, b0_12⟩ := cells_b0 (q0).bl.cl hka HXA.out; obtain ⟨c0_0, c0_1, c0_2, c0_3, c0_4, c0_5, c0_6, c0_7, c0_8, c0_9, c0_10, c0_11, c0_12⟩ := cells_b0 (q0).bl.cl hkb HXB.out; obtain ⟨qa1_0, qa1_1⟩ := id q1; obtain ⟨qa2_0, qa2_1⟩ := id q2; obtain ⟨qa3_0, qa3_1⟩ := id q3; go_simp; try (with_reducible rfl))
  simp only [List.set_cons_zero, List.set_cons_succ]
  refine U_take 6 19 10 0 0 (v := ?vr1_6) rfl (by kernel_rfl) (by kernel_rfl) hWr1 (by kernel_rfl) (by kernel_rfl) (by kernel_rfl) (by kernel_rfl) (by kernel_rfl) (by kernel_rfl) (fun _ _ _ _ h => h) (by kernel_rfl) ?hyr1_6 (by omega) hH ?_
  case hyr1_6 => (intro w' hSw; clear hSw; go_simp; try (with_reducible rfl))
  simp only [List.set_cons_zero, List.set_cons_succ]
  refine U_take 7 20 9 0 0 (v := ?vr1_7) rfl (by kernel_rfl) (by kernel_rfl) hWr1 (by kernel_rfl) (by kernel_rfl) (by kernel_rfl) (by kernel_rfl) (by kernel_rfl) (by kernel_rfl) (fun _ _ _ _ h => h) (by kernel_rfl) ?hyr1_7 (by omega) hH ?_
  case hyr1_7 => (intro w' hSw; clear hSw; go_simp; try (with_reducible rfl))
  simp only [List.set_cons_zero, List.set_cons_succ]
  refine U_take 8 21 8 0 0 (v := ?vr1_8) rfl (by kernel_rfl) (by kernel_rfl) hWr1 (by kernel_rfl) (by kernel_rfl) (by kernel_rfl) (by kernel_rfl) (by kernel_rfl) (by kernel_rfl) (fun _ _ _ _ h => h) (by kernel_rfl) ?hyr1_8 (by omega) hH ?_
  case hyr1_8 => (intro w' hSw; clear hSw; go_simp; try (with_reducible rfl))
  simp only [List.set_cons_zero, List.set_cons_succ]
  refine U_take 9 22 7 0 0 (v := ?vr1_9) rfl (by kernel_rfl) (by kernel_rfl) hWr1 (by kernel_rfl) (by kernel_rfl) (by kernel_rfl) (by kernel_rfl) (by kernel_rfl) (by kernel_rfl) (fun _ _ _ _ h => h) (by kernel_rfl) ?hyr1_9 (by omega) hH ?_
  case hyr1_9 => (intro w' hSw; replace hSw := S2o0 hSw; (try dsimp only at hSw); have q0 := hSw.1; have q1 := hSw.2.1; have q2 := hSw.2.2.1; have q3 := hSw.2.2.2.1; have q4 := hSw.2.2.2.2; obtain ⟨b0_0, b0_1, b0_2, b0_3, b0_4, b0_5, b0_6, b0_7, b0_8, b0_9, b0_10, b0_11, b0_12⟩ := cells_b0 (q0).bl.cl hka HXA.out; obtain ⟨c0_0, c0_1, c0_2, c0_3, c0_4, c0_5, c0_6, c0_7, c0_8, c0_9, c0_10, c0_11, c0_12⟩ := cells_b0 (q0).bl.cl hkb HXB.out; obtain ⟨qa1_0, qa1_1⟩ := id q1; obtain ⟨qa2_0, qa2_1⟩ := id q2; obtain ⟨qa3_0, qa3_1⟩ := id q3; go_simp; try (with_reducible rfl))
  simp only [List.set_cons_zero, List.set_cons_succ]
  refine U_take 10 23 6 0 0 (v := ?vr1_10) rfl (by kernel_rfl) (by kernel_rfl) hWr1 (by kernel_rfl) (by kernel_rfl) (by kernel_rfl) (by kernel_rfl) (by kernel_rfl) (by kernel_rfl) (fun _ _ _ _ h => h) (by kernel_rfl) ?hyr1_10 (by omega) hH ?_
  case hyr1_10 => (intro w' hSw; replace hSw := S2o0 hSw; (try dsimp only at hSw); have q0 := hSw.1; have q1 := hSw.2.1; have q2 := hSw.2.2.1; have q3 := hSw.2.2.2.1; have q4 := hSw.2.2.2.2; obtain ⟨b0_0, b0_1, b0_2, b0_3, b0_4, b0_5, b0_6, b0_7, b0_8, b0_9, b0_10, b0_11, b0_12⟩ := cells_b0 (q0).bl.cl hka HXA.out; obtain ⟨c0_0, c0_1, c0_2, c0_3, c0_4, c0_5, c0_6, c0_7, c0_8, c0_9, c0_10, c0_11, c0_12⟩ := cells_b0 (q0).bl.cl hkb HXB.out; obtain ⟨qa1_0, qa1_1⟩ := id q1; obtain ⟨qa2_0, qa2_1⟩ := id q2; obtain ⟨qa3_0, qa3_1⟩ := id q3; go_simp; try (with_reducible rfl))
  simp only [List.set_cons_zero, List.set_cons_succ]
  refine U_take 13 26 5 0 0 (v := ?vr1_11) rfl (by kernel_rfl) (by kernel_rfl) hWr1 (by kernel_rfl) (by kernel_rfl) (by kernel_rfl) (by kernel_rfl) (by kernel_rfl) (by kernel_rfl) (fun _ _ _ _ h => h) (by kernel_rfl) ?hyr1_11 (by omega) hH ?_
  case hyr1_11 => (intro w' hSw; replace hSw := S2o0 hSw; (try dsimp only at hSw); have q0 := hSw.1; have q1 := hSw.2.1; have q2 := hSw.2.2.1; have q3 := hSw.2.2.2.1; have q4 := hSw.2.2.2.2; obtain ⟨b0_0, b0_1, b0_2, b0_3, b0_4, b0_5, b0_6, b0_7, b0_8, b0_9, b0_10, b0_11, b0_12⟩ := cells_b0 (q0).bl.cl hka HXA.out; obtain ⟨c0_0, c0_1, c0_2, c0_3, c0_4, c0_5, c0_6, c0_7, c0_8, c0_9, c0_10, c0_11, c0_12⟩ := cells_b0 (q0).bl.cl hkb HXB.out; obtain ⟨qa1_0, qa1_1⟩ := id q1; obtain ⟨qa2_0, qa2_1⟩ := id q2; obtain ⟨qa3_0, qa3_1⟩ := id q3; go_simp; try (with_reducible rfl))
  simp only [List.set_cons_zero, List.set_cons_succ]
  refine wpAnyU_ready (rs := [5]) (by kernel_rfl) (by simp) ?_
  refine AllReadyU.cons 0 (by kernel_rfl) (o := _) rfl (fun K hK => ?_) AllReadyU.nil
  try clear hb
  go_simp
  (go_at_call 88; refine (HVB.out _).mono ?_; rintro e wn ⟨rfl, hb⟩)
  refine hK.out _ _ ?hsr1_12 (fun hH2 => ?hrr1_12)
  case hsr1_12 => exact S2i0 (by have hG := hH; replace hG := S2o0 hG; (try dsimp only at hG); have q0 := hG.1; have q1 := hG.2.1; have q2 := hG.2.2.1; have q3 := hG.2.2.2.1; have q4 := hG.2.2.2.2; exact ⟨keepRq hb q0, keepVg hb q1, keepVg hb q2, keepVg hb q3, keepBelow hb q4⟩)
  clear hK K hH
  have hH := hH2
  clear hH2
  try simp only [Act.put, List.setIfInBounds_toArray, List.set_cons_zero, List.set_cons_succ]
  refine wpAnyU_ready (rs := [11]) (by kernel_rfl) (by simp) ?_
  refine AllReadyU.cons 0 (by kernel_rfl) (o := _) rfl (fun K hK => ?_) AllReadyU.nil
  try clear hb
  go_simp
  (go_at_call 88; refine (HVA.out _).mono ?_; rintro e wn ⟨rfl, hb⟩)
  refine hK.out _ _ ?hsr1_13 (fun hH2 => ?hrr1_13)
  case hsr1_13 => exact S2i0 (by have hG := hH; replace hG := S2o0 hG; (try dsimp only at hG); have q0 := hG.1; have q1 := hG.2.1; have q2 := hG.2.2.1; have q3 := hG.2.2.2.1; have q4 := hG.2.2.2.2; exact ⟨keepRq hb q0, keepVg hb q1, keepVg hb q2, keepVg hb q3, keepBelow hb q4⟩)
  clear hK K hH
  have hH := hH2
  clear hH2
  try simp only [Act.put, List.setIfInBounds_toArray, List.set_cons_zero, List.set_cons_succ]
  refine wpAnyU_ready (rs := [12]) (by kernel_rfl) (by simp) ?_
  refine AllReadyU.cons 0 (by kernel_rfl) (o := _) rfl (fun K hK => ?_) AllReadyU.nil
  try clear hb
  go_simp
  (go_at_call 85; refine (HC6.out _).mono ?_; rintro e wn ⟨rfl, hb⟩)
  refine hK.out _ _ ?hsr1_14 (fun hH2 => ?hrr1_14)
  case hsr1_14 => exact S2i0 (by have hG := hH; replace hG := S2o0 hG; (try dsimp only at hG); have q0 := hG.1; have q1 := hG.2.1; have q2 := hG.2.2.1; have q3 := hG.2.2.2.1; have q4 := hG.2.2.2.2; exact ⟨keepRq hb q0, keepVg hb q1, keepVg hb q2, keepVg hb q3, keepBelow hb q4⟩)
  clear hK K hH
  have hH := hH2
  clear hH2
  try simp only [Act.put, List.setIfInBounds_toArray, List.set_cons_zero, List.set_cons_succ]
  refine wpAnyU_ready (rs := [14]) (by kernel_rfl) (by simp) ?_
  refine AllReadyU.cons 0 (by kernel_rfl) (o := _) rfl (fun K hK => ?_) AllReadyU.nil
  try clear hb
  go_simp
  (go_at_call 77; refine (HC8.out _).mono ?_; rintro e wn ⟨rfl, hb⟩)
  refine hK.out _ _ ?hsr1_15 (fun hH2 => ?hrr1_15)
  case hsr1_15 => exact S2i0 (by have hG := hH; replace hG := S2o0 hG; (try dsimp only at hG); have q0 := hG.1; have q1 := hG.2.1; have q2 := hG.2.2.1; have q3 := hG.2.2.2.1; have q4 := hG.2.2.2.2; exact ⟨keepRq hb q0, keepVg hb q1, keepVg hb q2, keepVg hb q3, keepBelow hb q4⟩)
  clear hK K hH
  have hH := hH2
  clear hH2
  try simp only [Act.put, List.setIfInBounds_toArray, List.set_cons_zero, List.set_cons_succ]
  refine U_take 15 12 0 0 0 (v := ?vr1_16) rfl (by kernel_rfl) (by kernel_rfl) hWr1 (by kernel_rfl) (by kernel_rfl) (by kernel_rfl) (by kernel_rfl) (by kernel_rfl) (by kernel_rfl) (fun _ _ _ _ h => h) (by kernel_rfl) ?hyr1_16 (by omega) hH ?_
  case hyr1_16 => (intro w' hSw; clear hSw; go_simp; try (with_reducible rfl))
  simp only [List.set_cons_zero, List.set_cons_succ]
  refine wpAnyU_done (by kernel_rfl) ?_ _ _
  refine NoPanic.normal ?_
  clear hWr1
  replace hH := S2o0 hH
  (try dsimp only at hH)
  have t0 := hH.1
  have t1 := hH.2.1
  have t2 := hH.2.2.1
  have t3 := hH.2.2.2.1
  have t4 := hH.2.2.2.2
  have hB := t4
  clear t0 t1 t2 t3 t4
  go_wp2
  go_returns
  exact ret_int HFIN.out hB
set_option maxRecDepth 100000 in
set_option maxHeartbeats 8000000 in

def RetPull3 (g : Nat) (L : List BE) (Q : List QB) (w : World) (e : Ending) (w' : World) : Prop := ∃ L' : List BE, e = .returned (.tuple #[]) ∧ BL w' g L' ∧ L'.map valB = Q ∧ w.grownBy w' (some g) ∧ ∀ y ∈ L', ∃ z ∈ L, y.A = z.A
set_option maxRecDepth 100000 in
set_option maxHeartbeats 8000000 in
theorem rpushed3_calls (cap g ka kb : Nat) (L : List BE) (p1 p2 q1 q2 j1 j2 : Int) (w : World) (h : BL w g L) (hlo : ∀ y ∈ L, ∀ bx off, y.A = some ⟨bx, off, none⟩ → bx < w.heap.size) (hab : ka < kb) (hka : ka < L.length) (hkb : kb < L.length) (h64 : L.length ≤ 64) (xa xb : BE) (HXA0 : xa = L[ka]'hka) (HXB0 : xb = L[kb]'hkb) (hj1 : -1099511627776 ≤ j1 ∧ j1 ≤ 1099511627776) (hj2 : -1099511627776 ≤ j2 ∧ j2 ≤ 1099511627776) :
    Calls Try.prog 49 #[.slice (some ⟨g, 0, none⟩) L.length cap, .int .i64 ka, .int .i64 kb, vecV p1 p2, vecV q1 q2, vecV j1 j2] w (RetPull3 g L (bothQ (L.map valB) ka kb p1 p2 q1 q2 j1 j2) w) := by
  obtain ⟨W, hW⟩ : ∃ W, W = ((w.alloc (.cells #[.int .i64 p1, .int .i64 p2] 34)).alloc (.cells #[.int .i64 q1, .int .i64 q2] 34)).alloc (.cells #[.int .i64 j1, .int .i64 j2] 34) := ⟨_, rfl⟩
  have hB : Below w.heap.size w W := by rw [hW]; go_grown
  have HRQ : Hid (Rq w g L W) := ⟨keepBL hB h, grown_of_below hB, h.cl.lt, hlo, hB.size⟩
  have HVP : Hid (Vg W w.heap.size p1 p2) := by show Vg _ _ _ _; rw [hW]; exact ⟨by go_simp, by go_simp⟩
  have HVQ : Hid (Vg W (w.heap.size + 1) q1 q2) := by show Vg _ _ _ _; rw [hW]; exact ⟨by go_simp, by go_simp⟩
  have HVJ : Hid (Vg W (w.heap.size + 2) j1 j2) := by show Vg _ _ _ _; rw [hW]; exact ⟨by go_simp, by go_simp⟩
  have HXA := hid HXA0
  have HXB := hid HXB0
  have hac : (ka : Int) < (L.length : Int) := by omega
  have hbc : (kb : Int) < (L.length : Int) := by omega
  have hn1 : IntKind.i64.wrap (-j1) = -j1 := IntWalk.i64_in _ (by omega)
  have hn2 : IntKind.i64.wrap (-j2) = -j2 := IntWalk.i64_in _ (by omega)
  obtain ⟨ya, hya⟩ : ∃ z, z = pushR xa.b (-j1) (-j2) p1 p2 := ⟨_, rfl⟩
  obtain ⟨yb, hyb⟩ : ∃ z, z = pushR xb.b j1 j2 q1 q2 := ⟨_, rfl⟩
  have HPA := hid (rpushed_calls xa.b xa.A xa.n xa.c (-j1) (-j2) p1 p2)
  have HPB := hid (rpushed_calls xb.b xb.A xb.n xb.c j1 j2 q1 q2)
  rw [← hya] at HPA
  rw [← hyb] at HPB
  have HFIN : Hid (∀ (za zb : BE), valB za = (ya, xa.l) → valB zb = (yb, xb.l) → ((L.set ka za).set kb zb).map valB = bothQ (L.map valB) ka kb p1 p2 q1 q2 j1 j2) := fun za zb h1 h2 =>
    both_map hka hkb (by omega) _ _ _ _ _ _ _ _ (by rw [h1, hya, HXA0]) (by rw [h2, hyb, HXB0])
  clear h hlo HXA0 HXB0 hj1 hj2 hya hyb
  go_enter Try.func49, Try.ntmps49
  go_upto_region 1 with fail
  rw [← hW]
  clear hW hB
  refine wp_region_noPanic ?_
  refine wp_region_U (S := (S2 (fun w' => Rq w g L w' ∧ Vg w' w.heap.size p1 p2 ∧ Vg w' (w.heap.size + 1) q1 q2 ∧ Vg w' (w.heap.size + 2) j1 j2))) (T := (fun j => [0, 0, 0, 0, 0, 0, 0, 0, 0, 0, 0, 0, 0, 0, 0, 0, 1].getD j 0)) (by kernel_rfl) (S2i0 ⟨HRQ.out.drew, HVP.out.drew, HVQ.out.drew, HVJ.out.drew⟩) (fun hH => ?_)
  have hWr3 : Weaker (S2 (fun w' => Rq w g L w' ∧ Vg w' w.heap.size p1 p2 ∧ Vg w' (w.heap.size + 1) q1 q2 ∧ Vg w' (w.heap.size + 2) j1 j2)) := weaker2 _
  refine U_take 0 12 16 0 0 (v := ?vr3_1) rfl (by kernel_rfl) (by kernel_rfl) hWr3 (by kernel_rfl) (by kernel_rfl) (by kernel_rfl) (by kernel_rfl) (by kernel_rfl) (by kernel_rfl) (fun _ _ _ _ h => h) (by kernel_rfl) ?hyr3_1 (by omega) hH ?_
  case hyr3_1 => (intro w' hSw; clear hSw; go_simp; try (with_reducible rfl))
  simp only [List.set_cons_zero, List.set_cons_succ]
  refine U_take 1 13 15 0 0 (v := ?vr3_2) rfl (by kernel_rfl) (by kernel_rfl) hWr3 (by kernel_rfl) (by kernel_rfl) (by kernel_rfl) (by kernel_rfl) (by kernel_rfl) (by kernel_rfl) (fun _ _ _ _ h => h) (by kernel_rfl) ?hyr3_2 (by omega) hH ?_
  case hyr3_2 => (intro w' hSw; clear hSw; go_simp; try (with_reducible rfl))
  simp only [List.set_cons_zero, List.set_cons_succ]
  refine U_take 2 14 14 0 0 (v := ?vr3_3) rfl (by kernel_rfl) (by kernel_rfl) hWr3 (by kernel_rfl) (by kernel_rfl) (by kernel_rfl) (by kernel_rfl) (by kernel_rfl) (by kernel_rfl) (fun _ _ _ _ h => h) (by kernel_rfl) ?hyr3_3 (by omega) hH ?_
  case hyr3_3 => (intro w' hSw; clear hSw; go_simp; try (with_reducible rfl))
  simp only [List.set_cons_zero, List.set_cons_succ]
  refine U_take 3 15 13 0 0 (v := ?vr3_4) rfl (by kernel_rfl) (by kernel_rfl) hWr3 (by kernel_rfl) (by kernel_rfl) (by kernel_rfl) (by kernel_rfl) (by kernel_rfl) (by kernel_rfl) (fun _ _ _ _ h => h) (by kernel_rfl) ?hyr3_4 (by omega) hH ?_
  case hyr3_4 => (intro w' hSw; clear hSw; go_simp; try (with_reducible rfl))
  simp only [List.set_cons_zero, List.set_cons_succ]
  refine U_take 4 16 12 0 0 (v := ?vr3_5) rfl (by kernel_rfl) (by kernel_rfl) hWr3 (by kernel_rfl) (by kernel_rfl) (by kernel_rfl) (by kernel_rfl) (by kernel_rfl) (by kernel_rfl) (fun _ _ _ _ h => h) (by kernel_rfl) ?hyr3_5 (by omega) hH ?_
  case hyr3_5 => (intro w' hSw; clear hSw; go_simp; try (with_reducible rfl))
  simp only [List.set_cons_zero, List.set_cons_succ]
  refine U_take 5 17 11 0 0 (v := ?vr3_6) rfl (by kernel_rfl) (by kernel_rfl) hWr3 (by kernel_rfl) (by kernel_rfl) (by kernel_rfl) (by kernel_rfl) (by kernel_rfl) (by kernel_rfl) (fun _ _ _ _ h => h) (by kernel_rfl) ?hyr3_6 (by omega) hH ?_
  case hyr3_6 => (intro w' hSw; replace hSw := S2o0 hSw; (try dsimp only at hSw); have q0 := hSw.1; have q1 := hSw.2.1; have q2 := hSw.2.2.1; have q3 := hSw.2.2.2; obtain ⟨b0_0, b0_1, b0_2, b0_3, b0_4, b0_5, b0_6, b0_7, b0_8, b0_9, b0_10, b0_11, b0_12⟩ := cells_b0 (q0).bl.cl hka HXA.out; obtain ⟨c0_0, c0_1, c0_2, c0_3, c0_4, c0_5, c0_6, c0_7, c0_8, c0_9, c0_10, c0_11, c0_12⟩ := cells_b0 (q0).bl.cl hkb HXB.out; obtain ⟨qa1_0, qa1_1⟩ := id q1; obtain ⟨qa2_0, qa2_1⟩ := id q2; obtain ⟨qa3_0, qa3_1⟩ := id q3; go_simp; try (with_reducible rfl))
  simp only [List.set_cons_zero, List.set_cons_succ]
  refine U_take 6 18 10 0 0 (v := ?vr3_7) rfl (by kernel_rfl) (by kernel_rfl) hWr3 (by kernel_rfl) (by kernel_rfl) (by kernel_rfl) (by kernel_rfl) (by kernel_rfl) (by kernel_rfl) (fun _ _ _ _ h => h) (by kernel_rfl) ?hyr3_7 (by omega) hH ?_
  case hyr3_7 => (intro w' hSw; clear hSw; go_simp; try (with_reducible rfl))
  simp only [List.set_cons_zero, List.set_cons_succ]
  refine U_take 7 19 9 0 0 (v := ?vr3_8) rfl (by kernel_rfl) (by kernel_rfl) hWr3 (by kernel_rfl) (by kernel_rfl) (by kernel_rfl) (by kernel_rfl) (by kernel_rfl) (by kernel_rfl) (fun _ _ _ _ h => h) (by kernel_rfl) ?hyr3_8 (by omega) hH ?_
  case hyr3_8 => (intro w' hSw; replace hSw := S2o0 hSw; (try dsimp only at hSw); have q0 := hSw.1; have q1 := hSw.2.1; have q2 := hSw.2.2.1; have q3 := hSw.2.2.2; obtain ⟨b0_0, b0_1, b0_2, b0_3, b0_4, b0_5, b0_6, b0_7, b0_8, b0_9, b0_10, b0_11, b0_12⟩ := cells_b0 (q0).bl.cl hka HXA.out; obtain ⟨c0_0, c0_1, c0_2, c0_3, c0_4, c0_5, c0_6, c0_7, c0_8, c0_9, c0_10, c0_11, c0_12⟩ := cells_b0 (q0).bl.cl hkb HXB.out; obtain ⟨qa1_0, qa1_1⟩ := id q1; obtain ⟨qa2_0, qa2_1⟩ := id q2; obtain ⟨qa3_0, qa3_1⟩ := id q3; go_simp; try (with_reducible rfl))
  simp only [List.set_cons_zero, List.set_cons_succ]
  refine U_take 8 20 8 0 0 (v := ?vr3_9) rfl (by kernel_rfl) (by kernel_rfl) hWr3 (by kernel_rfl) (by kernel_rfl) (by kernel_rfl) (by kernel_rfl) (by kernel_rfl) (by kernel_rfl) (fun _ _ _ _ h => h) (by kernel_rfl) ?hyr3_9 (by omega) hH ?_
  case hyr3_9 => (intro w' hSw; clear hSw; go_simp; try (with_reducible rfl))
  simp only [List.set_cons_zero, List.set_cons_succ]
  refine U_take 9 21 7 0 0 (v := ?vr3_10) rfl (by kernel_rfl) (by kernel_rfl) hWr3 (by kernel_rfl) (by kernel_rfl) (by kernel_rfl) (by kernel_rfl) (by kernel_rfl) (by kernel_rfl) (fun _ _ _ _ h => h) (by kernel_rfl) ?hyr3_10 (by omega) hH ?_
  case hyr3_10 => (intro w' hSw; clear hSw; go_simp; try (with_reducible rfl))
  simp only [List.set_cons_zero, List.set_cons_succ]
  refine U_take 10 22 6 0 0 (v := ?vr3_11) rfl (by kernel_rfl) (by kernel_rfl) hWr3 (by kernel_rfl) (by kernel_rfl) (by kernel_rfl) (by kernel_rfl) (by kernel_rfl) (by kernel_rfl) (fun _ _ _ _ h => h) (by kernel_rfl) ?hyr3_11 (by omega) hH ?_
  case hyr3_11 => (intro w' hSw; replace hSw := S2o0 hSw; (try dsimp only at hSw); have q0 := hSw.1; have q1 := hSw.2.1; have q2 := hSw.2.2.1; have q3 := hSw.2.2.2; obtain ⟨b0_0, b0_1, b0_2, b0_3, b0_4, b0_5, b0_6, b0_7, b0_8, b0_9, b0_10, b0_11, b0_12⟩ := cells_b0 (q0).bl.cl hka HXA.out; obtain ⟨c0_0, c0_1, c0_2, c0_3, c0_4, c0_5, c0_6, c0_7, c0_8, c0_9, c0_10, c0_11, c0_12⟩ := cells_b0 (q0).bl.cl hkb HXB.out; obtain ⟨qa1_0, qa1_1⟩ := id q1; obtain ⟨qa2_0, qa2_1⟩ := id q2; obtain ⟨qa3_0, qa3_1⟩ := id q3; go_simp; try (with_reducible rfl))
  simp only [List.set_cons_zero, List.set_cons_succ]
  refine U_take 11 23 5 0 0 (v := ?vr3_12) rfl (by kernel_rfl) (by kernel_rfl) hWr3 (by kernel_rfl) (by kernel_rfl) (by kernel_rfl) (by kernel_rfl) (by kernel_rfl) (by kernel_rfl) (fun _ _ _ _ h => h) (by kernel_rfl) ?hyr3_12 (by omega) hH ?_
  case hyr3_12 => (intro w' hSw; clear hSw; go_simp; try (with_reducible rfl))
  simp only [List.set_cons_zero, List.set_cons_succ]
  refine U_take 12 24 4 0 0 (v := ?vr3_13) rfl (by kernel_rfl) (by kernel_rfl) hWr3 (by kernel_rfl) (by kernel_rfl) (by kernel_rfl) (by kernel_rfl) (by kernel_rfl) (by kernel_rfl) (fun _ _ _ _ h => h) (by kernel_rfl) ?hyr3_13 (by omega) hH ?_
  case hyr3_13 => (intro w' hSw; clear hSw; go_simp; try (with_reducible rfl))
  simp only [List.set_cons_zero, List.set_cons_succ]
  refine U_take 13 25 3 0 0 (v := ?vr3_14) rfl (by kernel_rfl) (by kernel_rfl) hWr3 (by kernel_rfl) (by kernel_rfl) (by kernel_rfl) (by kernel_rfl) (by kernel_rfl) (by kernel_rfl) (fun _ _ _ _ h => h) (by kernel_rfl) ?hyr3_14 (by omega) hH ?_
  case hyr3_14 => (intro w' hSw; replace hSw := S2o0 hSw; (try dsimp only at hSw); have q0 := hSw.1; have q1 := hSw.2.1; have q2 := hSw.2.2.1; have q3 := hSw.2.2.2; obtain ⟨b0_0, b0_1, b0_2, b0_3, b0_4, b0_5, b0_6, b0_7, b0_8, b0_9, b0_10, b0_11, b0_12⟩ := cells_b0 (q0).bl.cl hka HXA.out; obtain ⟨c0_0, c0_1, c0_2, c0_3, c0_4, c0_5, c0_6, c0_7, c0_8, c0_9, c0_10, c0_11, c0_12⟩ := cells_b0 (q0).bl.cl hkb HXB.out; obtain ⟨qa1_0, qa1_1⟩ := id q1; obtain ⟨qa2_0, qa2_1⟩ := id q2; obtain ⟨qa3_0, qa3_1⟩ := id q3; go_simp; try (with_reducible rfl))
  simp only [List.set_cons_zero, List.set_cons_succ]
  refine wpAnyU_ready (rs := [14]) (by kernel_rfl) (by simp) ?_
  refine AllReadyU.cons 0 (by kernel_rfl) (o := _) rfl (fun K hK => ?_) AllReadyU.nil
  try clear hb
  go_simp
  (go_at_call 89; refine (HPA.out _).mono ?_; rintro e wn ⟨rfl, hb⟩)
  refine hK.out _ _ ?hsr3_15 (fun hH2 => ?hrr3_15)
  case hsr3_15 => exact S2i0 (by have hG := hH; replace hG := S2o0 hG; (try dsimp only at hG); have q0 := hG.1; have q1 := hG.2.1; have q2 := hG.2.2.1; have q3 := hG.2.2.2; exact ⟨keepRq hb q0, keepVg hb q1, keepVg hb q2, keepVg hb q3⟩)
  clear hK K hH
  have hH := hH2
  clear hH2
  try simp only [Act.put, List.setIfInBounds_toArray, List.set_cons_zero, List.set_cons_succ]
  refine U_take 15 27 1 0 0 (v := ?vr3_16) rfl (by kernel_rfl) (by kernel_rfl) hWr3 (by kernel_rfl) (by kernel_rfl) (by kernel_rfl) (by kernel_rfl) (by kernel_rfl) (by kernel_rfl) (fun _ _ _ _ h => h) (by kernel_rfl) ?hyr3_16 (by omega) hH ?_
  case hyr3_16 => (intro w' hSw; clear hSw; go_simp; try (with_reducible rfl))
  simp only [List.set_cons_zero, List.set_cons_succ]
  refine wpAnyU_ready (rs := [16]) (by kernel_rfl) (by simp) ?_
  refine AllReadyU.cons 1 (by kernel_rfl) (o := _) rfl (fun K hK => ?_) AllReadyU.nil
  try clear hb
  have hG := hH
  replace hG := S2o0 hG; (try dsimp only at hG); have fq0 := hG.1; have fq1 := hG.2.1; have fq2 := hG.2.2.1; have fq3 := hG.2.2.2
  have HRQ1 := hid fq0
  have HVP1 := hid fq1
  have HVQ1 := hid fq2
  have HVJ1 := hid fq3
  have hbl := fq0.bl
  obtain ⟨c0, c1, c2, c3, c4, c5, c6, c7, c8, c9, c10, c11, c12⟩ := cells_b0 hbl.cl hka HXA.out
  have cf := hbl.free
  clear hG fq0 fq1 fq2 fq3 hbl
  go_simp
  refine hK.out _ _ ?hsr3_17 (fun hH2 => ?hrr3_17)
  case hsr3_17 => exact S2i1
  clear hK K hH
  have hH := hH2
  clear hH2
  try simp only [Act.put, List.setIfInBounds_toArray, List.set_cons_zero, List.set_cons_succ]
  refine wpAnyU_done (by kernel_rfl) ?_ _ _
  refine NoPanic.normal ?_
  obtain ⟨w5, hw5⟩ : ∃ w5, w5 = setBo wn g (ka * 13) ya xa.A xa.n xa.c := ⟨_, rfl⟩
  have HSA2 := hid (HRQ1.out.bl.co xa (by rw [HXA.out]; exact List.getElem_mem hka))
  have HNA2 := hid (HRQ1.out.bl.ne xa (by rw [HXA.out]; exact List.getElem_mem hka))
  have HRQ3 := hid (HRQ1.out.setA hka ⟨ya, xa.A, xa.n, xa.c, xa.l⟩ HSA2.out HNA2.out (HRQ1.out.lo xa (by rw [HXA.out]; exact List.getElem_mem hka)))
  dsimp only at HRQ3
  have hgn := HRQ1.out.lt
  have HVP3 := hid (HVP1.out.next (setBo_grown wn g (ka * 13) ya xa.A xa.n xa.c) (by omega))
  have HVQ3 := hid (HVQ1.out.next (setBo_grown wn g (ka * 13) ya xa.A xa.n xa.c) (by omega))
  have HVJ3 := hid (HVJ1.out.next (setBo_grown wn g (ka * 13) ya xa.A xa.n xa.c) (by omega))
  rw [← hw5] at HRQ3 HVP3 HVQ3 HVJ3
  unfold setBo at hw5
  try clear hH
  clear c0 c1 c2 c3 c4 c5 c6 c7 c8 c9 c10 c11 c12 cf HRQ1 HVP1 HVQ1 HVJ1 HSA2 HNA2
  go_upto_region 2 with fail
  rw [← hw5]
  clear hw5
  obtain ⟨L1, hL1⟩ : ∃ L1, L1 = L.set ka ⟨ya, xa.A, xa.n, xa.c, xa.l⟩ := ⟨_, rfl⟩
  have hlen : L1.length = L.length := by rw [hL1, List.length_set]
  have HXB2 : Hid (xb = L1[kb]'(by omega)) := by show _ = _; rw [HXB.out]; simp only [hL1]; rw [List.getElem_set_ne (by omega)]
  have HXA2 : Hid (⟨ya, xa.A, xa.n, xa.c, xa.l⟩ = L1[ka]'(by omega)) := by show _ = _; simp only [hL1]; rw [List.getElem_set_self]
  have HMEM : Hid (∀ y ∈ L1.set kb ⟨yb, xb.A, xb.n, xb.c, xb.l⟩, ∃ z ∈ L, y.A = z.A) := fun y hy => by
    rcases List.mem_or_eq_of_mem_set hy with q | q
    · rw [hL1] at q
      rcases List.mem_or_eq_of_mem_set q with q | q
      · exact ⟨y, q, rfl⟩
      · exact ⟨xa, by rw [HXA.out]; exact List.getElem_mem hka, by rw [q]⟩
    · exact ⟨xb, by rw [HXB.out]; exact List.getElem_mem hkb, by rw [q]⟩
  have HFIN2 : Hid ((L1.set kb ⟨yb, xb.A, xb.n, xb.c, xb.l⟩).map valB = bothQ (L.map valB) ka kb p1 p2 q1 q2 j1 j2) := by show _ = _; rw [hL1]; exact HFIN.out _ _ rfl rfl
  rw [← hL1] at HRQ3
  rw [← hlen] at hka hkb hac hbc h64
  rw [← hlen]
  clear hL1 HXA HXB HFIN
  have HXA := HXA2
  have HXB := HXB2
  have HFIN := HFIN2
  clear HXA2 HXB2 HFIN2
  refine wp_region_noPanic ?_
  refine wp_region_U (S := (S2 (fun w' => Rq w g L1 w' ∧ Vg w' w.heap.size p1 p2 ∧ Vg w' (w.heap.size + 1) q1 q2 ∧ Vg w' (w.heap.size + 2) j1 j2))) (T := (fun j => [0, 0, 0, 0, 0, 0, 0, 0, 0, 0, 1].getD j 0)) (by kernel_rfl) (S2i0 ⟨HRQ3.out.drew, HVP3.out.drew, HVQ3.out.drew, HVJ3.out.drew⟩) (fun hH => ?_)
  have hWr2 : Weaker (S2 (fun w' => Rq w g L1 w' ∧ Vg w' w.heap.size p1 p2 ∧ Vg w' (w.heap.size + 1) q1 q2 ∧ Vg w' (w.heap.size + 2) j1 j2)) := weaker2 _
  refine U_take 0 28 10 0 0 (v := ?vr2_1) rfl (by kernel_rfl) (by kernel_rfl) hWr2 (by kernel_rfl) (by kernel_rfl) (by kernel_rfl) (by kernel_rfl) (by kernel_rfl) (by kernel_rfl) (fun _ _ _ _ h => h) (by kernel_rfl) ?hyr2_1 (by omega) hH ?_
  case hyr2_1 => (intro w' hSw; clear hSw; go_simp; try (with_reducible rfl))
  simp only [List.set_cons_zero, List.set_cons_succ]
  refine U_take 1 29 9 0 0 (v := ?vr2_2) rfl (by kernel_rfl) (by kernel_rfl) hWr2 (by kernel_rfl) (by kernel_rfl) (by kernel_rfl) (by kernel_rfl) (by kernel_rfl) (by kernel_rfl) (fun _ _ _ _ h => h) (by kernel_rfl) ?hyr2_2 (by omega) hH ?_
  case hyr2_2 => (intro w' hSw; clear hSw; go_simp; try (with_reducible rfl))
  simp only [List.set_cons_zero, List.set_cons_succ]
  refine U_take 2 30 8 0 0 (v := ?vr2_3) rfl (by kernel_rfl) (by kernel_rfl) hWr2 (by kernel_rfl) (by kernel_rfl) (by kernel_rfl) (by kernel_rfl) (by kernel_rfl) (by kernel_rfl) (fun _ _ _ _ h => h) (by kernel_rfl) ?hyr2_3 (by omega) hH ?_
  case hyr2_3 => (intro w' hSw; clear hSw; go_simp; try (with_reducible rfl))
  simp only [List.set_cons_zero, List.set_cons_succ]
  refine U_take 3 31 7 0 0 (v := ?vr2_4) rfl (by kernel_rfl) (by kernel_rfl) hWr2 (by kernel_rfl) (by kernel_rfl) (by kernel_rfl) (by kernel_rfl) (by kernel_rfl) (by kernel_rfl) (fun _ _ _ _ h => h) (by kernel_rfl) ?hyr2_4 (by omega) hH ?_
  case hyr2_4 => (intro w' hSw; clear hSw; go_simp; try (with_reducible rfl))
  simp only [List.set_cons_zero, List.set_cons_succ]
  refine U_take 4 32 6 0 0 (v := ?vr2_5) rfl (by kernel_rfl) (by kernel_rfl) hWr2 (by kernel_rfl) (by kernel_rfl) (by kernel_rfl) (by kernel_rfl) (by kernel_rfl) (by kernel_rfl) (fun _ _ _ _ h => h) (by kernel_rfl) ?hyr2_5 (by omega) hH ?_
  case hyr2_5 => (intro w' hSw; clear hSw; go_simp; try (with_reducible rfl))
  simp only [List.set_cons_zero, List.set_cons_succ]
  refine U_take 5 33 5 0 0 (v := ?vr2_6) rfl (by kernel_rfl) (by kernel_rfl) hWr2 (by kernel_rfl) (by kernel_rfl) (by kernel_rfl) (by kernel_rfl) (by kernel_rfl) (by kernel_rfl) (fun _ _ _ _ h => h) (by kernel_rfl) ?hyr2_6 (by omega) hH ?_
  case hyr2_6 => (intro w' hSw; replace hSw := S2o0 hSw; (try dsimp only at hSw); have q0 := hSw.1; have q1 := hSw.2.1; have q2 := hSw.2.2.1; have q3 := hSw.2.2.2; obtain ⟨b0_0, b0_1, b0_2, b0_3, b0_4, b0_5, b0_6, b0_7, b0_8, b0_9, b0_10, b0_11, b0_12⟩ := cells_b0 (q0).bl.cl hka HXA.out; obtain ⟨c0_0, c0_1, c0_2, c0_3, c0_4, c0_5, c0_6, c0_7, c0_8, c0_9, c0_10, c0_11, c0_12⟩ := cells_b0 (q0).bl.cl hkb HXB.out; obtain ⟨qa1_0, qa1_1⟩ := id q1; obtain ⟨qa2_0, qa2_1⟩ := id q2; obtain ⟨qa3_0, qa3_1⟩ := id q3; go_simp; try (with_reducible rfl))
  simp only [List.set_cons_zero, List.set_cons_succ]
  refine U_take 6 34 4 0 0 (v := ?vr2_7) rfl (by kernel_rfl) (by kernel_rfl) hWr2 (by kernel_rfl) (by kernel_rfl) (by kernel_rfl) (by kernel_rfl) (by kernel_rfl) (by kernel_rfl) (fun _ _ _ _ h => h) (by kernel_rfl) ?hyr2_7 (by omega) hH ?_
  case hyr2_7 => (intro w' hSw; replace hSw := S2o0 hSw; (try dsimp only at hSw); have q0 := hSw.1; have q1 := hSw.2.1; have q2 := hSw.2.2.1; have q3 := hSw.2.2.2; obtain ⟨b0_0, b0_1, b0_2, b0_3, b0_4, b0_5, b0_6, b0_7, b0_8, b0_9, b0_10, b0_11, b0_12⟩ := cells_b0 (q0).bl.cl hka HXA.out; obtain ⟨c0_0, c0_1, c0_2, c0_3, c0_4, c0_5, c0_6, c0_7, c0_8, c0_9, c0_10, c0_11, c0_12⟩ := cells_b0 (q0).bl.cl hkb HXB.out; obtain ⟨qa1_0, qa1_1⟩ := id q1; obtain ⟨qa2_0, qa2_1⟩ := id q2; obtain ⟨qa3_0, qa3_1⟩ := id q3; go_simp; try (with_reducible rfl))
  simp only [List.set_cons_zero, List.set_cons_succ]
  refine U_take 7 35 3 0 0 (v := ?vr2_8) rfl (by kernel_rfl) (by kernel_rfl) hWr2 (by kernel_rfl) (by kernel_rfl) (by kernel_rfl) (by kernel_rfl) (by kernel_rfl) (by kernel_rfl) (fun _ _ _ _ h => h) (by kernel_rfl) ?hyr2_8 (by omega) hH ?_
  case hyr2_8 => (intro w' hSw; replace hSw := S2o0 hSw; (try dsimp only at hSw); have q0 := hSw.1; have q1 := hSw.2.1; have q2 := hSw.2.2.1; have q3 := hSw.2.2.2; obtain ⟨b0_0, b0_1, b0_2, b0_3, b0_4, b0_5, b0_6, b0_7, b0_8, b0_9, b0_10, b0_11, b0_12⟩ := cells_b0 (q0).bl.cl hka HXA.out; obtain ⟨c0_0, c0_1, c0_2, c0_3, c0_4, c0_5, c0_6, c0_7, c0_8, c0_9, c0_10, c0_11, c0_12⟩ := cells_b0 (q0).bl.cl hkb HXB.out; obtain ⟨qa1_0, qa1_1⟩ := id q1; obtain ⟨qa2_0, qa2_1⟩ := id q2; obtain ⟨qa3_0, qa3_1⟩ := id q3; go_simp; try (with_reducible rfl))
  simp only [List.set_cons_zero, List.set_cons_succ]
  refine wpAnyU_ready (rs := [8]) (by kernel_rfl) (by simp) ?_
  refine AllReadyU.cons 0 (by kernel_rfl) (o := _) rfl (fun K hK => ?_) AllReadyU.nil
  try clear hb
  go_simp
  (go_at_call 89; refine (HPB.out _).mono ?_; rintro e wn ⟨rfl, hb⟩)
  refine hK.out _ _ ?hsr2_9 (fun hH2 => ?hrr2_9)
  case hsr2_9 => exact S2i0 (by have hG := hH; replace hG := S2o0 hG; (try dsimp only at hG); have q0 := hG.1; have q1 := hG.2.1; have q2 := hG.2.2.1; have q3 := hG.2.2.2; exact ⟨keepRq hb q0, keepVg hb q1, keepVg hb q2, keepVg hb q3⟩)
  clear hK K hH
  have hH := hH2
  clear hH2
  try simp only [Act.put, List.setIfInBounds_toArray, List.set_cons_zero, List.set_cons_succ]
  refine U_take 9 37 1 0 0 (v := ?vr2_10) rfl (by kernel_rfl) (by kernel_rfl) hWr2 (by kernel_rfl) (by kernel_rfl) (by kernel_rfl) (by kernel_rfl) (by kernel_rfl) (by kernel_rfl) (fun _ _ _ _ h => h) (by kernel_rfl) ?hyr2_10 (by omega) hH ?_
  case hyr2_10 => (intro w' hSw; clear hSw; go_simp; try (with_reducible rfl))
  simp only [List.set_cons_zero, List.set_cons_succ]
  refine wpAnyU_ready (rs := [10]) (by kernel_rfl) (by simp) ?_
  refine AllReadyU.cons 1 (by kernel_rfl) (o := _) rfl (fun K hK => ?_) AllReadyU.nil
  try clear hb
  have hG := hH
  replace hG := S2o0 hG; (try dsimp only at hG); have fq0 := hG.1; have fq1 := hG.2.1; have fq2 := hG.2.2.1; have fq3 := hG.2.2.2
  have HRQ2 := hid fq0
  have hbl := fq0.bl
  obtain ⟨c0, c1, c2, c3, c4, c5, c6, c7, c8, c9, c10, c11, c12⟩ := cells_b0 hbl.cl hkb HXB.out
  have cf := hbl.free
  clear hG fq0 fq1 fq2 fq3 hbl
  go_simp
  refine hK.out _ _ ?hsr2_11 (fun hH2 => ?hrr2_11)
  case hsr2_11 => exact S2i1
  clear hK K hH
  have hH := hH2
  clear hH2
  try simp only [Act.put, List.setIfInBounds_toArray, List.set_cons_zero, List.set_cons_succ]
  refine wpAnyU_done (by kernel_rfl) ?_ _ _
  refine NoPanic.normal ?_
  go_wp2
  have HSB2 := hid (HRQ2.out.bl.co xb (by rw [HXB.out]; exact List.getElem_mem hkb))
  have HNB2 := hid (HRQ2.out.bl.ne xb (by rw [HXB.out]; exact List.getElem_mem hkb))
  refine bodyPost_ret (v := .tuple #[]) (by simp [results, Try.results49, go_sem]) rfl ⟨L1.set kb ⟨yb, xb.A, xb.n, xb.c, xb.l⟩, rfl, ?_, HFIN.out, ?_, HMEM.out⟩
  · have hh := HRQ2.out.bl.set hkb ⟨yb, xb.A, xb.n, xb.c, xb.l⟩ HSB2.out HNB2.out
    dsimp only at hh
    unfold setBo at hh
    exact hh
  · have hh := grown_trans HRQ2.out.gr (setBo_grown wn g (kb * 13) yb xb.A xb.n xb.c)
    unfold setBo at hh
    exact hh
end
end Go.Proofs.Ytilncglnojjlaaa
