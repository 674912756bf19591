/- Parts of a proof: contracts and laws. -/
import Derived.Test.YtbajmekmpgfpeaaB39
namespace Go.Proofs.Ytbajmekmpgfpeaa
section
set_option linter.unusedVariables false
set_option linter.unusedSimpArgs false
open Go.RowKit
theorem VGlt {w : World} {g : Nat} {x y : Int} (h : Vg w g x y) : g < w.heap.size := lt_of_cell h.a
theorem Rq.lo9 {w0 : World} {g : Nat} {L : List BE} {w : World} (h : Rq w0 g L w) : ∀ y ∈ L, ∀ bx off, y.A = some ⟨bx, off, none⟩ → bx < w.heap.size := fun y hy bx off e => Nat.lt_of_lt_of_le (h.lo y hy bx off e) h.sz
set_option maxRecDepth 100000 in
set_option maxHeartbeats 8000000 in
theorem rpull_calls (cap g ka kb : Nat) (L : List BE) (x : Jt) (v1 v2 gap st : Int) (w : World) (h : BL w g L) (hlo : ∀ y ∈ L, ∀ bx off, y.A = some ⟨bx, off, none⟩ → bx < w.heap.size) (hv : ∀ y ∈ L, bodyE y.b y.l = 0) (hab : ka < kb) (hka : ka < L.length) (hkb : kb < L.length) (hxa : x.a = ka) (hxb : x.b = kb) (h64 : L.length ≤ 64) (xa xb : BE) (HXA0 : xa = L[ka]'hka) (HXB0 : xb = L[kb]'hkb) :
    Calls Try.prog 65 #[.slice (some ⟨g, 0, none⟩) L.length cap, jtV x, vecV v1 v2, .int .i64 gap, .int .i64 st] w (RetPull g L (pullX (L.map valB) x v1 v2 gap st) w) := by
  obtain ⟨W, hW⟩ : ∃ W, W = (w.alloc (.cells #[.int .i64 x.a, .int .i64 x.b, .int .i64 x.p1, .int .i64 x.p2, .int .i64 x.q1, .int .i64 x.q2, .int .i64 x.len] 49)).alloc (.cells #[.int .i64 v1, .int .i64 v2] 24) := ⟨_, rfl⟩
  have hB : Below w.heap.size w W := by rw [hW]; go_grown
  have HRQ : Hid (Rq w g L W) := ⟨keepBL hB h, grown_of_below hB, h.cl.lt, hlo, hB.size⟩
  have HJG : Hid (Jg W w.heap.size x) := by show Jg _ _ _; rw [hW]; exact ⟨by go_simp, by go_simp, by go_simp, by go_simp, by go_simp, by go_simp, by go_simp⟩
  have HVW : Hid (Vg W (w.heap.size + 1) v1 v2) := by show Vg _ _ _ _; rw [hW]; exact ⟨by go_simp, by go_simp⟩
  have HXA := hid HXA0
  have HXB := hid HXB0
  have hac : (ka : Int) < (L.length : Int) := by omega
  have hbc : (kb : Int) < (L.length : Int) := by omega
  have hea := hv xa (by rw [HXA0]; exact List.getElem_mem hka)
  have heb := hv xb (by rw [HXB0]; exact List.getElem_mem hkb)
  have mva := (numE_zero (bodyE_zero hea).2).2.2.2.1
  have mvb := (numE_zero (bodyE_zero heb).2).2.2.2.1
  obtain ⟨e1, he1⟩ : ∃ z, z = wX xa.b x.p1 x.p2 := ⟨_, rfl⟩
  obtain ⟨e2, he2⟩ : ∃ z, z = wY xa.b x.p1 x.p2 := ⟨_, rfl⟩
  obtain ⟨e3, he3⟩ : ∃ z, z = wX xb.b x.q1 x.q2 := ⟨_, rfl⟩
  obtain ⟨e4, he4⟩ : ∃ z, z = wY xb.b x.q1 x.q2 := ⟨_, rfl⟩
  have HWA := hid (rworld_calls xa.b xa.A xa.n xa.c x.p1 x.p2 (by omega) (by omega))
  have HWB := hid (rworld_calls xb.b xb.A xb.n xb.c x.q1 x.q2 (by omega) (by omega))
  rw [← he1, ← he2] at HWA
  rw [← he3, ← he4] at HWB
  have HEA := hid (rease_calls xa.b xa.A xa.n xa.c e1 e2 v1 v2)
  have HEB := hid (rease_calls xb.b xb.A xb.n xb.c e3 e4 v1 v2)
  obtain ⟨z1, hz1⟩ : ∃ z, z = easeR xa.b e1 e2 v1 v2 := ⟨_, rfl⟩
  obtain ⟨z2, hz2⟩ : ∃ z, z = easeR xb.b e3 e4 v1 v2 := ⟨_, rfl⟩
  rw [← hz1] at HEA
  rw [← hz2] at HEB
  obtain ⟨ez, hez⟩ : ∃ z, z = addF z1 z2 := ⟨_, rfl⟩
  have HEZ := hid (fadd_calls z1 z2)
  rw [← hez] at HEZ
  have hez2 : ez = pulE xa.b xb.b e1 e2 e3 e4 v1 v2 := by rw [hez, hz1, hz2]; rfl
  obtain ⟨vz, hvz⟩ : ∃ z, z = pulV xa.b xb.b e1 e2 e3 e4 v1 v2 := ⟨_, rfl⟩
  have HVZ : Hid (pulV xa.b xb.b e1 e2 e3 e4 v1 v2 = vz) := hvz.symm
  have hvzb : -1099511627776 ≤ vz ∧ vz ≤ 1099511627776 := by rw [hvz]; exact dotF_bd _ _ _ _
  have hvn : IntKind.i64.wrap (-vz) = -vz := IntWalk.i64_in _ (by omega)
  obtain ⟨mg, hmg⟩ : ∃ z, z = mulF gap 16384 := ⟨_, rfl⟩
  have HD4 := hid (fmul_calls gap 16384)
  rw [← hmg] at HD4
  obtain ⟨qd, hqd⟩ : ∃ z, z = divF mg st := ⟨_, rfl⟩
  have HD6 := hid (rquot_calls mg st)
  rw [← hqd] at HD6
  obtain ⟨sb, hsb⟩ : ∃ z, z = subF (-vz) qd := ⟨_, rfl⟩
  have HD7 := hid (fsub_calls (-vz) qd)
  rw [← hsb] at HD7
  obtain ⟨jz, hjz⟩ : ∃ z, z = divF sb ez := ⟨_, rfl⟩
  have HD9 := hid (rquot_calls sb ez)
  rw [← hjz] at HD9
  obtain ⟨j1, hj1⟩ : ∃ z, z = mulF v1 jz := ⟨_, rfl⟩
  obtain ⟨j2, hj2⟩ : ∃ z, z = mulF v2 jz := ⟨_, rfl⟩
  have HD10 := hid (vscale_calls v1 v2 jz)
  rw [← hj1, ← hj2] at HD10
  have HJB : Hid ((-1099511627776 ≤ j1 ∧ j1 ≤ 1099511627776) ∧ (-1099511627776 ≤ j2 ∧ j2 ≤ 1099511627776)) := by rw [hj1, hj2]; exact ⟨mulF_bd _ _, mulF_bd _ _⟩
  have eA : (L.map valB)[ka]? = some (valB xa) := by rw [List.getElem?_map, List.getElem?_eq_getElem hka, HXA0]; rfl
  have eB : (L.map valB)[kb]? = some (valB xb) := by rw [List.getElem?_map, List.getElem?_eq_getElem hkb, HXB0]; rfl
  have ePX : pullX (L.map valB) x v1 v2 gap st = pullQ (L.map valB) ka kb e1 e2 e3 e4 v1 v2 gap st := by
    unfold pullX
    rw [hxa, hxb, Int.toNat_natCast, Int.toNat_natCast, qB_at rfl eA, qB_at rfl eB]
    show pullQ _ _ _ (wX xa.b x.p1 x.p2) (wY xa.b x.p1 x.p2) (wX xb.b x.q1 x.q2) (wY xb.b x.q1 x.q2) _ _ _ _ = _
    rw [← he1, ← he2, ← he3, ← he4]
  have HFIZ : Hid (ez = 0 → L.map valB = pullX (L.map valB) x v1 v2 gap st) := fun hz => by
    rw [ePX]
    unfold pullQ
    rw [qB_at rfl eA, qB_at rfl eB]
    rw [if_pos (by show pulE xa.b xb.b e1 e2 e3 e4 v1 v2 = 0; rw [← hez2]; exact hz)]
  have HFIN : Hid (ez ≠ 0 → pullX (L.map valB) x v1 v2 gap st = bothQ (L.map valB) ka kb e1 e2 e3 e4 j1 j2) := fun hz => by
    have hJ : pulJ xa.b xb.b e1 e2 e3 e4 v1 v2 gap st = jz := by unfold pulJ; rw [← hez2, ← hvz, ← hmg, ← hqd, ← hsb, ← hjz]
    rw [ePX]
    unfold pullQ
    rw [qB_at rfl eA, qB_at rfl eB]
    rw [if_neg (by show ¬ pulE xa.b xb.b e1 e2 e3 e4 v1 v2 = 0; rw [← hez2]; exact hz)]
    show bothQ _ _ _ _ _ _ _ (mulF v1 (pulJ xa.b xb.b e1 e2 e3 e4 v1 v2 gap st)) (mulF v2 (pulJ xa.b xb.b e1 e2 e3 e4 v1 v2 gap st)) = _
    rw [hJ, ← hj1, ← hj2]
  have hlw : w.heap.size + 1 < W.heap.size := by rw [hW]; simp
  obtain ⟨w3, hw3⟩ : ∃ w3 : World, w3 = W := ⟨_, rfl⟩
  have HXI := hid (And.intro hxa hxb)
  have HLT := hid h.cl.lt
  clear hvzb h hlo hv HXA0 HXB0 hea heb mva mvb he1 he2 he3 he4 hz1 hz2 hez hez2 hvz hmg hqd hsb hjz hj1 hj2 eA eB ePX hxa hxb
  go_enter Try.func65, Try.ntmps65
  go_upto_region 1 with fail
  rw [← hW, ← hw3]
  obtain ⟨hxa, hxb⟩ := HXI.out
  clear HXI
  have hlt := HLT.out
  rw [← hw3] at HRQ HJG HVW
  clear hW hw3 hB HLT hlw
  refine (fun (hNr9 : Hid (?Tr9 : Prop)) => ?mainr9) (hid ?prfr9)
  case mainr9 =>
    refine wp_region_noPanic ?_
    refine wp_region_U (S := (S2 (fun w' => Rq w g L w' ∧ Jg w' w.heap.size x ∧ Vg w' (w.heap.size + 1) v1 v2))) (T := (fun j => [0, 0, 0, 0, 0, 0, 0, 0, 0, 0, 0, 0, 0, 0, 0, 0, 0, 0, 1, 1].getD j 0)) (by kernel_rfl) (S2i0 ⟨HRQ.out.drew, HJG.out.drew, HVW.out.drew⟩) (fun hH => ?_)
    have hWr9 : Weaker (S2 (fun w' => Rq w g L w' ∧ Jg w' w.heap.size x ∧ Vg w' (w.heap.size + 1) v1 v2)) := weaker2 _
    refine U_take 0 14 19 0 0 (v := ?vr9_1) rfl (by kernel_rfl) (by kernel_rfl) hWr9 (by kernel_rfl) (by kernel_rfl) (by kernel_rfl) (by kernel_rfl) (by kernel_rfl) (by kernel_rfl) (fun _ _ _ _ h => h) (by kernel_rfl) ?hyr9_1 (by omega) hH ?_
    case hyr9_1 => (intro w' hSw; clear hSw; go_simp; try (with_reducible rfl))
    simp only [List.set_cons_zero, List.set_cons_succ]
    refine U_take 1 15 18 0 0 (v := ?vr9_2) rfl (by kernel_rfl) (by kernel_rfl) hWr9 (by kernel_rfl) (by kernel_rfl) (by kernel_rfl) (by kernel_rfl) (by kernel_rfl) (by kernel_rfl) (fun _ _ _ _ h => h) (by kernel_rfl) ?hyr9_2 (by omega) hH ?_
    case hyr9_2 => (intro w' hSw; clear hSw; go_simp; try (with_reducible rfl))
    simp only [List.set_cons_zero, List.set_cons_succ]
    refine U_take 2 16 17 0 0 (v := ?vr9_3) rfl (by kernel_rfl) (by kernel_rfl) hWr9 (by kernel_rfl) (by kernel_rfl) (by kernel_rfl) (by kernel_rfl) (by kernel_rfl) (by kernel_rfl) (fun _ _ _ _ h => h) (by kernel_rfl) ?hyr9_3 (by omega) hH ?_
    case hyr9_3 => (intro w' hSw; replace hSw := S2o0 hSw; (try dsimp only at hSw); have q0 := hSw.1; have q1 := hSw.2.1; have q2 := hSw.2.2; obtain ⟨b0_0, b0_1, b0_2, b0_3, b0_4, b0_5, b0_6, b0_7, b0_8, b0_9, b0_10, b0_11, b0_12⟩ := cells_b0 (q0).bl.cl hka HXA.out; obtain ⟨c0_0, c0_1, c0_2, c0_3, c0_4, c0_5, c0_6, c0_7, c0_8, c0_9, c0_10, c0_11, c0_12⟩ := cells_b0 (q0).bl.cl hkb HXB.out; obtain ⟨qa1_0, qa1_1, qa1_2, qa1_3, qa1_4, qa1_5, qa1_6⟩ := id q1; obtain ⟨qa2_0, qa2_1⟩ := id q2; go_simp; try (with_reducible rfl))
    simp only [List.set_cons_zero, List.set_cons_succ]
    refine U_take 3 17 16 0 0 (v := ?vr9_4) rfl (by kernel_rfl) (by kernel_rfl) hWr9 (by kernel_rfl) (by kernel_rfl) (by kernel_rfl) (by kernel_rfl) (by kernel_rfl) (by kernel_rfl) (fun _ _ _ _ h => h) (by kernel_rfl) ?hyr9_4 (by omega) hH ?_
    case hyr9_4 => (intro w' hSw; clear hSw; go_simp; try (with_reducible rfl))
    simp only [List.set_cons_zero, List.set_cons_succ]
    refine U_take 4 18 15 0 0 (v := ?vr9_5) rfl (by kernel_rfl) (by kernel_rfl) hWr9 (by kernel_rfl) (by kernel_rfl) (by kernel_rfl) (by kernel_rfl) (by kernel_rfl) (by kernel_rfl) (fun _ _ _ _ h => h) (by kernel_rfl) ?hyr9_5 (by omega) hH ?_
    case hyr9_5 => (intro w' hSw; replace hSw := S2o0 hSw; (try dsimp only at hSw); have q0 := hSw.1; have q1 := hSw.2.1; have q2 := hSw.2.2; obtain ⟨b0_0, b0_1, b0_2, b0_3, b0_4, b0_5, b0_6, b0_7, b0_8, b0_9, b0_10, b0_11, b0_12⟩ := cells_b0 (q0).bl.cl hka HXA.out; obtain ⟨c0_0, c0_1, c0_2, c0_3, c0_4, c0_5, c0_6, c0_7, c0_8, c0_9, c0_10, c0_11, c0_12⟩ := cells_b0 (q0).bl.cl hkb HXB.out; obtain ⟨qa1_0, qa1_1, qa1_2, qa1_3, qa1_4, qa1_5, qa1_6⟩ := id q1; obtain ⟨qa2_0, qa2_1⟩ := id q2; go_simp; try (with_reducible rfl))
    simp only [List.set_cons_zero, List.set_cons_succ]
    refine U_take 5 19 14 0 0 (v := ?vr9_6) rfl (by kernel_rfl) (by kernel_rfl) hWr9 (by kernel_rfl) (by kernel_rfl) (by kernel_rfl) (by kernel_rfl) (by kernel_rfl) (by kernel_rfl) (fun _ _ _ _ h => h) (by kernel_rfl) ?hyr9_6 (by omega) hH ?_
    case hyr9_6 => (intro w' hSw; clear hSw; go_simp; try (with_reducible rfl))
    simp only [List.set_cons_zero, List.set_cons_succ]
    refine U_take 6 20 13 0 0 (v := ?vr9_7) rfl (by kernel_rfl) (by kernel_rfl) hWr9 (by kernel_rfl) (by kernel_rfl) (by kernel_rfl) (by kernel_rfl) (by kernel_rfl) (by kernel_rfl) (fun _ _ _ _ h => h) (by kernel_rfl) ?hyr9_7 (by omega) hH ?_
    case hyr9_7 => (intro w' hSw; replace hSw := S2o0 hSw; (try dsimp only at hSw); have q0 := hSw.1; have q1 := hSw.2.1; have q2 := hSw.2.2; obtain ⟨b0_0, b0_1, b0_2, b0_3, b0_4, b0_5, b0_6, b0_7, b0_8, b0_9, b0_10, b0_11, b0_12⟩ := cells_b0 (q0).bl.cl hka HXA.out; obtain ⟨c0_0, c0_1, c0_2, c0_3, c0_4, c0_5, c0_6, c0_7, c0_8, c0_9, c0_10, c0_11, c0_12⟩ := cells_b0 (q0).bl.cl hkb HXB.out; obtain ⟨qa1_0, qa1_1, qa1_2, qa1_3, qa1_4, qa1_5, qa1_6⟩ := id q1; obtain ⟨qa2_0, qa2_1⟩ := id q2; go_simp; try (with_reducible rfl))
    simp only [List.set_cons_zero, List.set_cons_succ]
    refine U_take 8 22 12 0 0 (v := ?vr9_8) rfl (by kernel_rfl) (by kernel_rfl) hWr9 (by kernel_rfl) (by kernel_rfl) (by kernel_rfl) (by kernel_rfl) (by kernel_rfl) (by kernel_rfl) (fun _ _ _ _ h => h) (by kernel_rfl) ?hyr9_8 (by omega) hH ?_
    case hyr9_8 => (intro w' hSw; clear hSw; go_simp; try (with_reducible rfl))
    simp only [List.set_cons_zero, List.set_cons_succ]
    refine U_take 9 23 11 0 0 (v := ?vr9_9) rfl (by kernel_rfl) (by kernel_rfl) hWr9 (by kernel_rfl) (by kernel_rfl) (by kernel_rfl) (by kernel_rfl) (by kernel_rfl) (by kernel_rfl) (fun _ _ _ _ h => h) (by kernel_rfl) ?hyr9_9 (by omega) hH ?_
    case hyr9_9 => (intro w' hSw; clear hSw; go_simp; try (with_reducible rfl))
    simp only [List.set_cons_zero, List.set_cons_succ]
    refine U_take 10 24 10 0 0 (v := ?vr9_10) rfl (by kernel_rfl) (by kernel_rfl) hWr9 (by kernel_rfl) (by kernel_rfl) (by kernel_rfl) (by kernel_rfl) (by kernel_rfl) (by kernel_rfl) (fun _ _ _ _ h => h) (by kernel_rfl) ?hyr9_10 (by omega) hH ?_
    case hyr9_10 => (intro w' hSw; replace hSw := S2o0 hSw; (try dsimp only at hSw); have q0 := hSw.1; have q1 := hSw.2.1; have q2 := hSw.2.2; obtain ⟨b0_0, b0_1, b0_2, b0_3, b0_4, b0_5, b0_6, b0_7, b0_8, b0_9, b0_10, b0_11, b0_12⟩ := cells_b0 (q0).bl.cl hka HXA.out; obtain ⟨c0_0, c0_1, c0_2, c0_3, c0_4, c0_5, c0_6, c0_7, c0_8, c0_9, c0_10, c0_11, c0_12⟩ := cells_b0 (q0).bl.cl hkb HXB.out; obtain ⟨qa1_0, qa1_1, qa1_2, qa1_3, qa1_4, qa1_5, qa1_6⟩ := id q1; obtain ⟨qa2_0, qa2_1⟩ := id q2; go_simp; try (with_reducible rfl))
    simp only [List.set_cons_zero, List.set_cons_succ]
    refine U_take 11 25 9 0 0 (v := ?vr9_11) rfl (by kernel_rfl) (by kernel_rfl) hWr9 (by kernel_rfl) (by kernel_rfl) (by kernel_rfl) (by kernel_rfl) (by kernel_rfl) (by kernel_rfl) (fun _ _ _ _ h => h) (by kernel_rfl) ?hyr9_11 (by omega) hH ?_
    case hyr9_11 => (intro w' hSw; clear hSw; go_simp; try (with_reducible rfl))
    simp only [List.set_cons_zero, List.set_cons_succ]
    refine U_take 12 26 8 0 0 (v := ?vr9_12) rfl (by kernel_rfl) (by kernel_rfl) hWr9 (by kernel_rfl) (by kernel_rfl) (by kernel_rfl) (by kernel_rfl) (by kernel_rfl) (by kernel_rfl) (fun _ _ _ _ h => h) (by kernel_rfl) ?hyr9_12 (by omega) hH ?_
    case hyr9_12 => (intro w' hSw; replace hSw := S2o0 hSw; (try dsimp only at hSw); have q0 := hSw.1; have q1 := hSw.2.1; have q2 := hSw.2.2; obtain ⟨b0_0, b0_1, b0_2, b0_3, b0_4, b0_5, b0_6, b0_7, b0_8, b0_9, b0_10, b0_11, b0_12⟩ := cells_b0 (q0).bl.cl hka HXA.out; obtain ⟨c0_0, c0_1, c0_2, c0_3, c0_4, c0_5, c0_6, c0_7, c0_8, c0_9, c0_10, c0_11, c0_12⟩ := cells_b0 (q0).bl.cl hkb HXB.out; obtain ⟨qa1_0, qa1_1, qa1_2, qa1_3, qa1_4, qa1_5, qa1_6⟩ := id q1; obtain ⟨qa2_0, qa2_1⟩ := id q2; go_simp; try (with_reducible rfl))
    simp only [List.set_cons_zero, List.set_cons_succ]
    refine U_take 13 27 7 0 0 (v := ?vr9_13) rfl (by kernel_rfl) (by kernel_rfl) hWr9 (by kernel_rfl) (by kernel_rfl) (by kernel_rfl) (by kernel_rfl) (by kernel_rfl) (by kernel_rfl) (fun _ _ _ _ h => h) (by kernel_rfl) ?hyr9_13 (by omega) hH ?_
    case hyr9_13 => (intro w' hSw; clear hSw; go_simp; try (with_reducible rfl))
    simp only [List.set_cons_zero, List.set_cons_succ]
    refine U_take 14 28 6 0 0 (v := ?vr9_14) rfl (by kernel_rfl) (by kernel_rfl) hWr9 (by kernel_rfl) (by kernel_rfl) (by kernel_rfl) (by kernel_rfl) (by kernel_rfl) (by kernel_rfl) (fun _ _ _ _ h => h) (by kernel_rfl) ?hyr9_14 (by omega) hH ?_
    case hyr9_14 => (intro w' hSw; replace hSw := S2o0 hSw; (try dsimp only at hSw); have q0 := hSw.1; have q1 := hSw.2.1; have q2 := hSw.2.2; obtain ⟨b0_0, b0_1, b0_2, b0_3, b0_4, b0_5, b0_6, b0_7, b0_8, b0_9, b0_10, b0_11, b0_12⟩ := cells_b0 (q0).bl.cl hka HXA.out; obtain ⟨c0_0, c0_1, c0_2, c0_3, c0_4, c0_5, c0_6, c0_7, c0_8, c0_9, c0_10, c0_11, c0_12⟩ := cells_b0 (q0).bl.cl hkb HXB.out; obtain ⟨qa1_0, qa1_1, qa1_2, qa1_3, qa1_4, qa1_5, qa1_6⟩ := id q1; obtain ⟨qa2_0, qa2_1⟩ := id q2; go_simp; try (with_reducible rfl))
    simp only [List.set_cons_zero, List.set_cons_succ]
    refine wpAnyU_ready (rs := [7, 16, 17]) (by kernel_rfl) (by simp) ?_
    refine AllReadyU.cons 0 (by kernel_rfl) (o := _) rfl (fun K hK => ?_) ?_
    · try clear hb
      go_simp
      (go_at_call 23; refine (HWA.out _).mono ?_; rintro e wn ⟨rfl, hb⟩)
      refine hK.out _ _ ?hsr9_15 (fun hH2 => ?hrr9_15)
      case hsr9_15 => exact S2i0 (by have hG := hH; replace hG := S2o0 hG; (try dsimp only at hG); have q0 := hG.1; have q1 := hG.2.1; have q2 := hG.2.2; exact ⟨keepRq hb q0, keepJg hb q1, keepVg hb q2⟩)
      clear hK K hH
      have hH := hH2
      clear hH2
      try simp only [Act.put, List.setIfInBounds_toArray, List.set_cons_zero, List.set_cons_succ]
      refine wpAnyU_ready (rs := [15, 16, 17]) (by kernel_rfl) (by simp) ?_
      refine AllReadyU.cons 0 (by kernel_rfl) (o := _) rfl (fun K hK => ?_) ?_
      · try clear hb
        go_simp
        (go_at_call 23; refine (HWB.out _).mono ?_; rintro e wn ⟨rfl, hb⟩)
        refine hK.out _ _ ?hsr9_16 (fun hH2 => ?hrr9_16)
        case hsr9_16 => exact S2i0 (by have hG := hH; replace hG := S2o0 hG; (try dsimp only at hG); have q0 := hG.1; have q1 := hG.2.1; have q2 := hG.2.2; exact ⟨keepRq hb q0, keepJg hb q1, keepVg hb q2⟩)
        clear hK K hH
        have hH := hH2
        clear hH2
        try simp only [Act.put, List.setIfInBounds_toArray, List.set_cons_zero, List.set_cons_succ]
        refine wpAnyU_ready (rs := [16, 17]) (by kernel_rfl) (by simp) ?_
        refine AllReadyU.cons 0 (by kernel_rfl) (o := _) rfl (fun K hK => ?_) ?_
        · try clear hb
          have hG := hH
          replace hG := S2o0 hG; (try dsimp only at hG); have q0 := hG.1; have q1 := hG.2.1; have q2 := hG.2.2
          go_simp
          refine hK.out _ _ ?hsr9_17 (fun hH2 => ?hrr9_17)
          case hsr9_17 => exact S2i0 (by have hG := hH; replace hG := S2o0 hG; (try dsimp only at hG); have q0 := hG.1; have q1 := hG.2.1; have q2 := hG.2.2; exact ⟨q0.alloc _, q1.alloc _, q2.alloc _⟩)
          clear hK K hH
          have hH := hH2
          clear hH2
          try simp only [Act.put, List.setIfInBounds_toArray, List.set_cons_zero, List.set_cons_succ]
          have hP : VZ (wn.alloc (.cells #[.int .i64 0, .int .i64 0] 24)) wn.heap.size := VZ.here wn 0 0 24
          obtain ⟨gP, hgP⟩ : ∃ g, g = wn.heap.size := ⟨_, rfl⟩
          have hlP : w.heap.size + 1 < gP := by rw [hgP]; have h9 := VGlt q2; exact h9
          rw [← hgP] at hP
          try rw [← hgP]
          clear hgP q0 q1 q2
          generalize wn.alloc (.cells #[.int .i64 0, .int .i64 0] 24) = wx16 at *
          refine wpAnyU_ready (rs := [17]) (by kernel_rfl) (by simp) ?_
          refine AllReadyU.cons 0 (by kernel_rfl) (o := _) rfl (fun K hK => ?_) AllReadyU.nil
          try clear hb
          have hG := hH
          replace hG := S2o0 hG; (try dsimp only at hG); have q0 := hG.1; have q1 := hG.2.1; have q2 := hG.2.2
          have hZP := VZ.lt hP
          go_simp
          refine hK.out _ _ ?hsr9_18 (fun hH2 => ?hrr9_18)
          case hsr9_18 => exact S2i0 (by have hG := hH; replace hG := S2o0 hG; (try dsimp only at hG); have q0 := hG.1; have q1 := hG.2.1; have q2 := hG.2.2; exact ⟨q0.alloc _, q1.alloc _, q2.alloc _⟩)
          clear hK K hH
          have hH := hH2
          clear hH2
          try simp only [Act.put, List.setIfInBounds_toArray, List.set_cons_zero, List.set_cons_succ]
          have hQ : VZ (wx16.alloc (.cells #[.int .i64 0, .int .i64 0] 24)) wx16.heap.size := VZ.here wx16 0 0 24
          replace hP := keepVZ ((Below.refl _ _).alloc (Nat.le_refl _) (.cells #[.int .i64 0, .int .i64 0] 24)) hP
          obtain ⟨gQ, hgQ⟩ : ∃ g, g = wx16.heap.size := ⟨_, rfl⟩
          have hlQ : w.heap.size + 1 < gQ ∧ gP < gQ := by rw [hgQ]; have h9 := VGlt q2; exact ⟨h9, hZP⟩
          rw [← hgQ] at hQ
          try rw [← hgQ]
          clear hgQ q0 q1 q2
          generalize wx16.alloc (.cells #[.int .i64 0, .int .i64 0] 24) = wx17 at *
          refine wpAnyU_lst (l' := #[true, true, true, true, true, true, true, true, true, true, true, true, true, true, true, true, true, true, false, false]) (by kernel_rfl) ?_
          have hl2 : w.heap.size + 1 < gP ∧ w.heap.size + 1 < gQ ∧ gP ≠ gQ := by omega
          clear hlP hlQ
          try clear hZP
          try clear hZQ
          try clear hb
          revert hH
          revert hQ; revert hP
          revert hl2
          revert gQ; revert gP
          revert wx17
          exact hNr9.out
        refine AllReadyU.cons 0 (by kernel_rfl) (o := _) rfl (fun K hK => ?_) ?_
        · try clear hb
          have hG := hH
          replace hG := S2o0 hG; (try dsimp only at hG); have q0 := hG.1; have q1 := hG.2.1; have q2 := hG.2.2
          go_simp
          refine hK.out _ _ ?hsr9_21 (fun hH2 => ?hrr9_21)
          case hsr9_21 => exact S2i0 (by have hG := hH; replace hG := S2o0 hG; (try dsimp only at hG); have q0 := hG.1; have q1 := hG.2.1; have q2 := hG.2.2; exact ⟨q0.alloc _, q1.alloc _, q2.alloc _⟩)
          clear hK K hH
          have hH := hH2
          clear hH2
          try simp only [Act.put, List.setIfInBounds_toArray, List.set_cons_zero, List.set_cons_succ]
          have hQ : VZ (wn.alloc (.cells #[.int .i64 0, .int .i64 0] 24)) wn.heap.size := VZ.here wn 0 0 24
          obtain ⟨gQ, hgQ⟩ : ∃ g, g = wn.heap.size := ⟨_, rfl⟩
          have hlQ : w.heap.size + 1 < gQ := by rw [hgQ]; have h9 := VGlt q2; exact h9
          rw [← hgQ] at hQ
          try rw [← hgQ]
          clear hgQ q0 q1 q2
          generalize wn.alloc (.cells #[.int .i64 0, .int .i64 0] 24) = wx17 at *
          refine wpAnyU_ready (rs := [16]) (by kernel_rfl) (by simp) ?_
          refine AllReadyU.cons 0 (by kernel_rfl) (o := _) rfl (fun K hK => ?_) AllReadyU.nil
          try clear hb
          have hG := hH
          replace hG := S2o0 hG; (try dsimp only at hG); have q0 := hG.1; have q1 := hG.2.1; have q2 := hG.2.2
          have hZQ := VZ.lt hQ
          go_simp
          refine hK.out _ _ ?hsr9_22 (fun hH2 => ?hrr9_22)
          case hsr9_22 => exact S2i0 (by have hG := hH; replace hG := S2o0 hG; (try dsimp only at hG); have q0 := hG.1; have q1 := hG.2.1; have q2 := hG.2.2; exact ⟨q0.alloc _, q1.alloc _, q2.alloc _⟩)
          clear hK K hH
          have hH := hH2
          clear hH2
          try simp only [Act.put, List.setIfInBounds_toArray, List.set_cons_zero, List.set_cons_succ]
          have hP : VZ (wx17.alloc (.cells #[.int .i64 0, .int .i64 0] 24)) wx17.heap.size := VZ.here wx17 0 0 24
          replace hQ := keepVZ ((Below.refl _ _).alloc (Nat.le_refl _) (.cells #[.int .i64 0, .int .i64 0] 24)) hQ
          obtain ⟨gP, hgP⟩ : ∃ g, g = wx17.heap.size := ⟨_, rfl⟩
          have hlP : w.heap.size + 1 < gP ∧ gQ < gP := by rw [hgP]; have h9 := VGlt q2; exact ⟨h9, hZQ⟩
          rw [← hgP] at hP
          try rw [← hgP]
          clear hgP q0 q1 q2
          generalize wx17.alloc (.cells #[.int .i64 0, .int .i64 0] 24) = wx16 at *
          refine wpAnyU_lst (l' := #[true, true, true, true, true, true, true, true, true, true, true, true, true, true, true, true, true, true, false, false]) (by kernel_rfl) ?_
          have hl2 : w.heap.size + 1 < gP ∧ w.heap.size + 1 < gQ ∧ gP ≠ gQ := by omega
          clear hlP hlQ
          try clear hZP
          try clear hZQ
          try clear hb
          revert hH
          revert hQ; revert hP
          revert hl2
          revert gQ; revert gP
          revert wx16
          exact hNr9.out
        exact AllReadyU.nil
      refine AllReadyU.cons 0 (by kernel_rfl) (o := _) rfl (fun K hK => ?_) ?_
      · try clear hb
        have hG := hH
        replace hG := S2o0 hG; (try dsimp only at hG); have q0 := hG.1; have q1 := hG.2.1; have q2 := hG.2.2
        go_simp
        refine hK.out _ _ ?hsr9_23 (fun hH2 => ?hrr9_23)
        case hsr9_23 => exact S2i0 (by have hG := hH; replace hG := S2o0 hG; (try dsimp only at hG); have q0 := hG.1; have q1 := hG.2.1; have q2 := hG.2.2; exact ⟨q0.alloc _, q1.alloc _, q2.alloc _⟩)
        clear hK K hH
        have hH := hH2
        clear hH2
        try simp only [Act.put, List.setIfInBounds_toArray, List.set_cons_zero, List.set_cons_succ]
        have hP : VZ (wn.alloc (.cells #[.int .i64 0, .int .i64 0] 24)) wn.heap.size := VZ.here wn 0 0 24
        obtain ⟨gP, hgP⟩ : ∃ g, g = wn.heap.size := ⟨_, rfl⟩
        have hlP : w.heap.size + 1 < gP := by rw [hgP]; have h9 := VGlt q2; exact h9
        rw [← hgP] at hP
        try rw [← hgP]
        clear hgP q0 q1 q2
        generalize wn.alloc (.cells #[.int .i64 0, .int .i64 0] 24) = wx16 at *
        refine wpAnyU_ready (rs := [15, 17]) (by kernel_rfl) (by simp) ?_
        refine AllReadyU.cons 0 (by kernel_rfl) (o := _) rfl (fun K hK => ?_) ?_
        · try clear hb
          go_simp
          (go_at_call 23; refine (HWB.out _).mono ?_; rintro e wn ⟨rfl, hb⟩)
          refine hK.out _ _ ?hsr9_24 (fun hH2 => ?hrr9_24)
          case hsr9_24 => exact S2i0 (by have hG := hH; replace hG := S2o0 hG; (try dsimp only at hG); have q0 := hG.1; have q1 := hG.2.1; have q2 := hG.2.2; exact ⟨keepRq hb q0, keepJg hb q1, keepVg hb q2⟩)
          clear hK K hH
          have hH := hH2
          clear hH2
          try simp only [Act.put, List.setIfInBounds_toArray, List.set_cons_zero, List.set_cons_succ]
          replace hP := keepVZ hb hP
          refine wpAnyU_ready (rs := [17]) (by kernel_rfl) (by simp) ?_
          refine AllReadyU.cons 0 (by kernel_rfl) (o := _) rfl (fun K hK => ?_) AllReadyU.nil
          try clear hb
          have hG := hH
          replace hG := S2o0 hG; (try dsimp only at hG); have q0 := hG.1; have q1 := hG.2.1; have q2 := hG.2.2
          have hZP := VZ.lt hP
          go_simp
          refine hK.out _ _ ?hsr9_25 (fun hH2 => ?hrr9_25)
          case hsr9_25 => exact S2i0 (by have hG := hH; replace hG := S2o0 hG; (try dsimp only at hG); have q0 := hG.1; have q1 := hG.2.1; have q2 := hG.2.2; exact ⟨q0.alloc _, q1.alloc _, q2.alloc _⟩)
          clear hK K hH
          have hH := hH2
          clear hH2
          try simp only [Act.put, List.setIfInBounds_toArray, List.set_cons_zero, List.set_cons_succ]
          have hQ : VZ (wn.alloc (.cells #[.int .i64 0, .int .i64 0] 24)) wn.heap.size := VZ.here wn 0 0 24
          replace hP := keepVZ ((Below.refl _ _).alloc (Nat.le_refl _) (.cells #[.int .i64 0, .int .i64 0] 24)) hP
          obtain ⟨gQ, hgQ⟩ : ∃ g, g = wn.heap.size := ⟨_, rfl⟩
          have hlQ : w.heap.size + 1 < gQ ∧ gP < gQ := by rw [hgQ]; have h9 := VGlt q2; exact ⟨h9, hZP⟩
          rw [← hgQ] at hQ
          try rw [← hgQ]
          clear hgQ q0 q1 q2
          generalize wn.alloc (.cells #[.int .i64 0, .int .i64 0] 24) = wx17 at *
          refine wpAnyU_lst (l' := #[true, true, true, true, true, true, true, true, true, true, true, true, true, true, true, true, true, true, false, false]) (by kernel_rfl) ?_
          have hl2 : w.heap.size + 1 < gP ∧ w.heap.size + 1 < gQ ∧ gP ≠ gQ := by omega
          clear hlP hlQ
          try clear hZP
          try clear hZQ
          try clear hb
          revert hH
          revert hQ; revert hP
          revert hl2
          revert gQ; revert gP
          revert wx17
          exact hNr9.out
        refine AllReadyU.cons 0 (by kernel_rfl) (o := _) rfl (fun K hK => ?_) ?_
        · try clear hb
          have hG := hH
          replace hG := S2o0 hG; (try dsimp only at hG); have q0 := hG.1; have q1 := hG.2.1; have q2 := hG.2.2
          have hZP := VZ.lt hP
          go_simp
          refine hK.out _ _ ?hsr9_26 (fun hH2 => ?hrr9_26)
          case hsr9_26 => exact S2i0 (by have hG := hH; replace hG := S2o0 hG; (try dsimp only at hG); have q0 := hG.1; have q1 := hG.2.1; have q2 := hG.2.2; exact ⟨q0.alloc _, q1.alloc _, q2.alloc _⟩)
          clear hK K hH
          have hH := hH2
          clear hH2
          try simp only [Act.put, List.setIfInBounds_toArray, List.set_cons_zero, List.set_cons_succ]
          have hQ : VZ (wx16.alloc (.cells #[.int .i64 0, .int .i64 0] 24)) wx16.heap.size := VZ.here wx16 0 0 24
          replace hP := keepVZ ((Below.refl _ _).alloc (Nat.le_refl _) (.cells #[.int .i64 0, .int .i64 0] 24)) hP
          obtain ⟨gQ, hgQ⟩ : ∃ g, g = wx16.heap.size := ⟨_, rfl⟩
          have hlQ : w.heap.size + 1 < gQ ∧ gP < gQ := by rw [hgQ]; have h9 := VGlt q2; exact ⟨h9, hZP⟩
          rw [← hgQ] at hQ
          try rw [← hgQ]
          clear hgQ q0 q1 q2
          generalize wx16.alloc (.cells #[.int .i64 0, .int .i64 0] 24) = wx17 at *
          refine wpAnyU_ready (rs := [15]) (by kernel_rfl) (by simp) ?_
          refine AllReadyU.cons 0 (by kernel_rfl) (o := _) rfl (fun K hK => ?_) AllReadyU.nil
          try clear hb
          go_simp
          (go_at_call 23; refine (HWB.out _).mono ?_; rintro e wn ⟨rfl, hb⟩)
          refine hK.out _ _ ?hsr9_27 (fun hH2 => ?hrr9_27)
          case hsr9_27 => exact S2i0 (by have hG := hH; replace hG := S2o0 hG; (try dsimp only at hG); have q0 := hG.1; have q1 := hG.2.1; have q2 := hG.2.2; exact ⟨keepRq hb q0, keepJg hb q1, keepVg hb q2⟩)
          clear hK K hH
          have hH := hH2
          clear hH2
          try simp only [Act.put, List.setIfInBounds_toArray, List.set_cons_zero, List.set_cons_succ]
          replace hP := keepVZ hb hP
          replace hQ := keepVZ hb hQ
          refine wpAnyU_lst (l' := #[true, true, true, true, true, true, true, true, true, true, true, true, true, true, true, true, true, true, false, false]) (by kernel_rfl) ?_
          have hl2 : w.heap.size + 1 < gP ∧ w.heap.size + 1 < gQ ∧ gP ≠ gQ := by omega
          clear hlP hlQ
          try clear hZP
          try clear hZQ
          try clear hb
          revert hH
          revert hQ; revert hP
          revert hl2
          revert gQ; revert gP
          revert wn
          exact hNr9.out
        exact AllReadyU.nil
      refine AllReadyU.cons 0 (by kernel_rfl) (o := _) rfl (fun K hK => ?_) ?_
      · try clear hb
        have hG := hH
        replace hG := S2o0 hG; (try dsimp only at hG); have q0 := hG.1; have q1 := hG.2.1; have q2 := hG.2.2
        go_simp
        refine hK.out _ _ ?hsr9_28 (fun hH2 => ?hrr9_28)
        case hsr9_28 => exact S2i0 (by have hG := hH; replace hG := S2o0 hG; (try dsimp only at hG); have q0 := hG.1; have q1 := hG.2.1; have q2 := hG.2.2; exact ⟨q0.alloc _, q1.alloc _, q2.alloc _⟩)
        clear hK K hH
        have hH := hH2
        clear hH2
        try simp only [Act.put, List.setIfInBounds_toArray, List.set_cons_zero, List.set_cons_succ]
        have hQ : VZ (wn.alloc (.cells #[.int .i64 0, .int .i64 0] 24)) wn.heap.size := VZ.here wn 0 0 24
        obtain ⟨gQ, hgQ⟩ : ∃ g, g = wn.heap.size := ⟨_, rfl⟩
        have hlQ : w.heap.size + 1 < gQ := by rw [hgQ]; have h9 := VGlt q2; exact h9
        rw [← hgQ] at hQ
        try rw [← hgQ]
        clear hgQ q0 q1 q2
        generalize wn.alloc (.cells #[.int .i64 0, .int .i64 0] 24) = wx17 at *
        refine wpAnyU_ready (rs := [15, 16]) (by kernel_rfl) (by simp) ?_
        refine AllReadyU.cons 0 (by kernel_rfl) (o := _) rfl (fun K hK => ?_) ?_
        · try clear hb
          go_simp
          (go_at_call 23; refine (HWB.out _).mono ?_; rintro e wn ⟨rfl, hb⟩)
          refine hK.out _ _ ?hsr9_29 (fun hH2 => ?hrr9_29)
          case hsr9_29 => exact S2i0 (by have hG := hH; replace hG := S2o0 hG; (try dsimp only at hG); have q0 := hG.1; have q1 := hG.2.1; have q2 := hG.2.2; exact ⟨keepRq hb q0, keepJg hb q1, keepVg hb q2⟩)
          clear hK K hH
          have hH := hH2
          clear hH2
          try simp only [Act.put, List.setIfInBounds_toArray, List.set_cons_zero, List.set_cons_succ]
          replace hQ := keepVZ hb hQ
          refine wpAnyU_ready (rs := [16]) (by kernel_rfl) (by simp) ?_
          refine AllReadyU.cons 0 (by kernel_rfl) (o := _) rfl (fun K hK => ?_) AllReadyU.nil
          try clear hb
          have hG := hH
          replace hG := S2o0 hG; (try dsimp only at hG); have q0 := hG.1; have q1 := hG.2.1; have q2 := hG.2.2
          have hZQ := VZ.lt hQ
          go_simp
          refine hK.out _ _ ?hsr9_30 (fun hH2 => ?hrr9_30)
          case hsr9_30 => exact S2i0 (by have hG := hH; replace hG := S2o0 hG; (try dsimp only at hG); have q0 := hG.1; have q1 := hG.2.1; have q2 := hG.2.2; exact ⟨q0.alloc _, q1.alloc _, q2.alloc _⟩)
          clear hK K hH
          have hH := hH2
          clear hH2
          try simp only [Act.put, List.setIfInBounds_toArray, List.set_cons_zero, List.set_cons_succ]
          have hP : VZ (wn.alloc (.cells #[.int .i64 0, .int .i64 0] 24)) wn.heap.size := VZ.here wn 0 0 24
          replace hQ := keepVZ ((Below.refl _ _).alloc (Nat.le_refl _) (.cells #[.int .i64 0, .int .i64 0] 24)) hQ
          obtain ⟨gP, hgP⟩ : ∃ g, g = wn.heap.size := ⟨_, rfl⟩
          have hlP : w.heap.size + 1 < gP ∧ gQ < gP := by rw [hgP]; have h9 := VGlt q2; exact ⟨h9, hZQ⟩
          rw [← hgP] at hP
          try rw [← hgP]
          clear hgP q0 q1 q2
          generalize wn.alloc (.cells #[.int .i64 0, .int .i64 0] 24) = wx16 at *
          refine wpAnyU_lst (l' := #[true, true, true, true, true, true, true, true, true, true, true, true, true, true, true, true, true, true, false, false]) (by kernel_rfl) ?_
          have hl2 : w.heap.size + 1 < gP ∧ w.heap.size + 1 < gQ ∧ gP ≠ gQ := by omega
          clear hlP hlQ
          try clear hZP
          try clear hZQ
          try clear hb
          revert hH
          revert hQ; revert hP
          revert hl2
          revert gQ; revert gP
          revert wx16
          exact hNr9.out
        refine AllReadyU.cons 0 (by kernel_rfl) (o := _) rfl (fun K hK => ?_) ?_
        · try clear hb
          have hG := hH
          replace hG := S2o0 hG; (try dsimp only at hG); have q0 := hG.1; have q1 := hG.2.1; have q2 := hG.2.2
          have hZQ := VZ.lt hQ
          go_simp
          refine hK.out _ _ ?hsr9_31 (fun hH2 => ?hrr9_31)
          case hsr9_31 => exact S2i0 (by have hG := hH; replace hG := S2o0 hG; (try dsimp only at hG); have q0 := hG.1; have q1 := hG.2.1; have q2 := hG.2.2; exact ⟨q0.alloc _, q1.alloc _, q2.alloc _⟩)
          clear hK K hH
          have hH := hH2
          clear hH2
          try simp only [Act.put, List.setIfInBounds_toArray, List.set_cons_zero, List.set_cons_succ]
          have hP : VZ (wx17.alloc (.cells #[.int .i64 0, .int .i64 0] 24)) wx17.heap.size := VZ.here wx17 0 0 24
          replace hQ := keepVZ ((Below.refl _ _).alloc (Nat.le_refl _) (.cells #[.int .i64 0, .int .i64 0] 24)) hQ
          obtain ⟨gP, hgP⟩ : ∃ g, g = wx17.heap.size := ⟨_, rfl⟩
          have hlP : w.heap.size + 1 < gP ∧ gQ < gP := by rw [hgP]; have h9 := VGlt q2; exact ⟨h9, hZQ⟩
          rw [← hgP] at hP
          try rw [← hgP]
          clear hgP q0 q1 q2
          generalize wx17.alloc (.cells #[.int .i64 0, .int .i64 0] 24) = wx16 at *
          refine wpAnyU_ready (rs := [15]) (by kernel_rfl) (by simp) ?_
          refine AllReadyU.cons 0 (by kernel_rfl) (o := _) rfl (fun K hK => ?_) AllReadyU.nil
          try clear hb
          go_simp
          (go_at_call 23; refine (HWB.out _).mono ?_; rintro e wn ⟨rfl, hb⟩)
          refine hK.out _ _ ?hsr9_32 (fun hH2 => ?hrr9_32)
          case hsr9_32 => exact S2i0 (by have hG := hH; replace hG := S2o0 hG; (try dsimp only at hG); have q0 := hG.1; have q1 := hG.2.1; have q2 := hG.2.2; exact ⟨keepRq hb q0, keepJg hb q1, keepVg hb q2⟩)
          clear hK K hH
          have hH := hH2
          clear hH2
          try simp only [Act.put, List.setIfInBounds_toArray, List.set_cons_zero, List.set_cons_succ]
          replace hP := keepVZ hb hP
          replace hQ := keepVZ hb hQ
          refine wpAnyU_lst (l' := #[true, true, true, true, true, true, true, true, true, true, true, true, true, true, true, true, true, true, false, false]) (by kernel_rfl) ?_
          have hl2 : w.heap.size + 1 < gP ∧ w.heap.size + 1 < gQ ∧ gP ≠ gQ := by omega
          clear hlP hlQ
          try clear hZP
          try clear hZQ
          try clear hb
          revert hH
          revert hQ; revert hP
          revert hl2
          revert gQ; revert gP
          revert wn
          exact hNr9.out
        exact AllReadyU.nil
      exact AllReadyU.nil
    refine AllReadyU.cons 0 (by kernel_rfl) (o := _) rfl (fun K hK => ?_) ?_
    · try clear hb
      have hG := hH
      replace hG := S2o0 hG; (try dsimp only at hG); have q0 := hG.1; have q1 := hG.2.1; have q2 := hG.2.2
      go_simp
      refine hK.out _ _ ?hsr9_33 (fun hH2 => ?hrr9_33)
      case hsr9_33 => exact S2i0 (by have hG := hH; replace hG := S2o0 hG; (try dsimp only at hG); have q0 := hG.1; have q1 := hG.2.1; have q2 := hG.2.2; exact ⟨q0.alloc _, q1.alloc _, q2.alloc _⟩)
      clear hK K hH
      have hH := hH2
      clear hH2
      try simp only [Act.put, List.setIfInBounds_toArray, List.set_cons_zero, List.set_cons_succ]
      have hP : VZ ((w3.alloc (.cells #[.int .i64 0, .int .i64 0] 24)).drew) w3.heap.size := VZ.drew (VZ.here w3 0 0 24)
      obtain ⟨gP, hgP⟩ : ∃ g, g = w3.heap.size := ⟨_, rfl⟩
      have hlP : w.heap.size + 1 < gP := by rw [hgP]; have h9 := VGlt q2; exact h9
      rw [← hgP] at hP
      try rw [← hgP]
      clear hgP q0 q1 q2
      generalize (w3.alloc (.cells #[.int .i64 0, .int .i64 0] 24)).drew = wx16 at *
      refine wpAnyU_ready (rs := [7, 17]) (by kernel_rfl) (by simp) ?_
      refine AllReadyU.cons 0 (by kernel_rfl) (o := _) rfl (fun K hK => ?_) ?_
      · try clear hb
        go_simp
        (go_at_call 23; refine (HWA.out _).mono ?_; rintro e wn ⟨rfl, hb⟩)
        refine hK.out _ _ ?hsr9_34 (fun hH2 => ?hrr9_34)
        case hsr9_34 => exact S2i0 (by have hG := hH; replace hG := S2o0 hG; (try dsimp only at hG); have q0 := hG.1; have q1 := hG.2.1; have q2 := hG.2.2; exact ⟨keepRq hb q0, keepJg hb q1, keepVg hb q2⟩)
        clear hK K hH
        have hH := hH2
        clear hH2
        try simp only [Act.put, List.setIfInBounds_toArray, List.set_cons_zero, List.set_cons_succ]
        replace hP := keepVZ hb hP
        refine wpAnyU_ready (rs := [15, 17]) (by kernel_rfl) (by simp) ?_
        refine AllReadyU.cons 0 (by kernel_rfl) (o := _) rfl (fun K hK => ?_) ?_
        · try clear hb
          go_simp
          (go_at_call 23; refine (HWB.out _).mono ?_; rintro e wn ⟨rfl, hb⟩)
          refine hK.out _ _ ?hsr9_35 (fun hH2 => ?hrr9_35)
          case hsr9_35 => exact S2i0 (by have hG := hH; replace hG := S2o0 hG; (try dsimp only at hG); have q0 := hG.1; have q1 := hG.2.1; have q2 := hG.2.2; exact ⟨keepRq hb q0, keepJg hb q1, keepVg hb q2⟩)
          clear hK K hH
          have hH := hH2
          clear hH2
          try simp only [Act.put, List.setIfInBounds_toArray, List.set_cons_zero, List.set_cons_succ]
          replace hP := keepVZ hb hP
          refine wpAnyU_ready (rs := [17]) (by kernel_rfl) (by simp) ?_
          refine AllReadyU.cons 0 (by kernel_rfl) (o := _) rfl (fun K hK => ?_) AllReadyU.nil
          try clear hb
          have hG := hH
          replace hG := S2o0 hG; (try dsimp only at hG); have q0 := hG.1; have q1 := hG.2.1; have q2 := hG.2.2
          have hZP := VZ.lt hP
          go_simp
          refine hK.out _ _ ?hsr9_36 (fun hH2 => ?hrr9_36)
          case hsr9_36 => exact S2i0 (by have hG := hH; replace hG := S2o0 hG; (try dsimp only at hG); have q0 := hG.1; have q1 := hG.2.1; have q2 := hG.2.2; exact ⟨q0.alloc _, q1.alloc _, q2.alloc _⟩)
          clear hK K hH
          have hH := hH2
          clear hH2
          try simp only [Act.put, List.setIfInBounds_toArray, List.set_cons_zero, List.set_cons_succ]
          have hQ : VZ (wn.alloc (.cells #[.int .i64 0, .int .i64 0] 24)) wn.heap.size := VZ.here wn 0 0 24
          replace hP := keepVZ ((Below.refl _ _).alloc (Nat.le_refl _) (.cells #[.int .i64 0, .int .i64 0] 24)) hP
          obtain ⟨gQ, hgQ⟩ : ∃ g, g = wn.heap.size := ⟨_, rfl⟩
          have hlQ : w.heap.size + 1 < gQ ∧ gP < gQ := by rw [hgQ]; have h9 := VGlt q2; exact ⟨h9, hZP⟩
          rw [← hgQ] at hQ
          try rw [← hgQ]
          clear hgQ q0 q1 q2
          generalize wn.alloc (.cells #[.int .i64 0, .int .i64 0] 24) = wx17 at *
          refine wpAnyU_lst (l' := #[true, true, true, true, true, true, true, true, true, true, true, true, true, true, true, true, true, true, false, false]) (by kernel_rfl) ?_
          have hl2 : w.heap.size + 1 < gP ∧ w.heap.size + 1 < gQ ∧ gP ≠ gQ := by omega
          clear hlP hlQ
          try clear hZP
          try clear hZQ
          try clear hb
          revert hH
          revert hQ; revert hP
          revert hl2
          revert gQ; revert gP
          revert wx17
          exact hNr9.out
        refine AllReadyU.cons 0 (by kernel_rfl) (o := _) rfl (fun K hK => ?_) ?_
        · try clear hb
          have hG := hH
          replace hG := S2o0 hG; (try dsimp only at hG); have q0 := hG.1; have q1 := hG.2.1; have q2 := hG.2.2
          have hZP := VZ.lt hP
          go_simp
          refine hK.out _ _ ?hsr9_37 (fun hH2 => ?hrr9_37)
          case hsr9_37 => exact S2i0 (by have hG := hH; replace hG := S2o0 hG; (try dsimp only at hG); have q0 := hG.1; have q1 := hG.2.1; have q2 := hG.2.2; exact ⟨q0.alloc _, q1.alloc _, q2.alloc _⟩)
          clear hK K hH
          have hH := hH2
          clear hH2
          try simp only [Act.put, List.setIfInBounds_toArray, List.set_cons_zero, List.set_cons_succ]
          have hQ : VZ (wn.alloc (.cells #[.int .i64 0, .int .i64 0] 24)) wn.heap.size := VZ.here wn 0 0 24
          replace hP := keepVZ ((Below.refl _ _).alloc (Nat.le_refl _) (.cells #[.int .i64 0, .int .i64 0] 24)) hP
          obtain ⟨gQ, hgQ⟩ : ∃ g, g = wn.heap.size := ⟨_, rfl⟩
          have hlQ : w.heap.size + 1 < gQ ∧ gP < gQ := by rw [hgQ]; have h9 := VGlt q2; exact ⟨h9, hZP⟩
          rw [← hgQ] at hQ
          try rw [← hgQ]
          clear hgQ q0 q1 q2
          generalize wn.alloc (.cells #[.int .i64 0, .int .i64 0] 24) = wx17 at *
          refine wpAnyU_ready (rs := [15]) (by kernel_rfl) (by simp) ?_
          refine AllReadyU.cons 0 (by kernel_rfl) (o := _) rfl (fun K hK => ?_) AllReadyU.nil
          try clear hb
          go_simp
          (go_at_call 23; refine (HWB.out _).mono ?_; rintro e wn ⟨rfl, hb⟩)
          refine hK.out _ _ ?hsr9_38 (fun hH2 => ?hrr9_38)
          case hsr9_38 => exact S2i0 (by have hG := hH; replace hG := S2o0 hG; (try dsimp only at hG); have q0 := hG.1; have q1 := hG.2.1; have q2 := hG.2.2; exact ⟨keepRq hb q0, keepJg hb q1, keepVg hb q2⟩)
          clear hK K hH
          have hH := hH2
          clear hH2
          try simp only [Act.put, List.setIfInBounds_toArray, List.set_cons_zero, List.set_cons_succ]
          replace hP := keepVZ hb hP
          replace hQ := keepVZ hb hQ
          refine wpAnyU_lst (l' := #[true, true, true, true, true, true, true, true, true, true, true, true, true, true, true, true, true, true, false, false]) (by kernel_rfl) ?_
          have hl2 : w.heap.size + 1 < gP ∧ w.heap.size + 1 < gQ ∧ gP ≠ gQ := by omega
          clear hlP hlQ
          try clear hZP
          try clear hZQ
          try clear hb
          revert hH
          revert hQ; revert hP
          revert hl2
          revert gQ; revert gP
          revert wn
          exact hNr9.out
        exact AllReadyU.nil
      refine AllReadyU.cons 0 (by kernel_rfl) (o := _) rfl (fun K hK => ?_) ?_
      · try clear hb
        have hG := hH
        replace hG := S2o0 hG; (try dsimp only at hG); have q0 := hG.1; have q1 := hG.2.1; have q2 := hG.2.2
        have hZP := VZ.lt hP
        go_simp
        refine hK.out _ _ ?hsr9_39 (fun hH2 => ?hrr9_39)
        case hsr9_39 => exact S2i0 (by have hG := hH; replace hG := S2o0 hG; (try dsimp only at hG); have q0 := hG.1; have q1 := hG.2.1; have q2 := hG.2.2; exact ⟨q0.alloc _, q1.alloc _, q2.alloc _⟩)
        clear hK K hH
        have hH := hH2
        clear hH2
        try simp only [Act.put, List.setIfInBounds_toArray, List.set_cons_zero, List.set_cons_succ]
        have hQ : VZ (wx16.alloc (.cells #[.int .i64 0, .int .i64 0] 24)) wx16.heap.size := VZ.here wx16 0 0 24
        replace hP := keepVZ ((Below.refl _ _).alloc (Nat.le_refl _) (.cells #[.int .i64 0, .int .i64 0] 24)) hP
        obtain ⟨gQ, hgQ⟩ : ∃ g, g = wx16.heap.size := ⟨_, rfl⟩
        have hlQ : w.heap.size + 1 < gQ ∧ gP < gQ := by rw [hgQ]; have h9 := VGlt q2; exact ⟨h9, hZP⟩
        rw [← hgQ] at hQ
        try rw [← hgQ]
        clear hgQ q0 q1 q2
        generalize wx16.alloc (.cells #[.int .i64 0, .int .i64 0] 24) = wx17 at *
        refine wpAnyU_ready (rs := [7]) (by kernel_rfl) (by simp) ?_
        refine AllReadyU.cons 0 (by kernel_rfl) (o := _) rfl (fun K hK => ?_) AllReadyU.nil
        try clear hb
        go_simp
        (go_at_call 23; refine (HWA.out _).mono ?_; rintro e wn ⟨rfl, hb⟩)
        refine hK.out _ _ ?hsr9_40 (fun hH2 => ?hrr9_40)
        case hsr9_40 => exact S2i0 (by have hG := hH; replace hG := S2o0 hG; (try dsimp only at hG); have q0 := hG.1; have q1 := hG.2.1; have q2 := hG.2.2; exact ⟨keepRq hb q0, keepJg hb q1, keepVg hb q2⟩)
        clear hK K hH
        have hH := hH2
        clear hH2
        try simp only [Act.put, List.setIfInBounds_toArray, List.set_cons_zero, List.set_cons_succ]
        replace hP := keepVZ hb hP
        replace hQ := keepVZ hb hQ
        refine wpAnyU_ready (rs := [15]) (by kernel_rfl) (by simp) ?_
        refine AllReadyU.cons 0 (by kernel_rfl) (o := _) rfl (fun K hK => ?_) AllReadyU.nil
        try clear hb
        go_simp
        (go_at_call 23; refine (HWB.out _).mono ?_; rintro e wn ⟨rfl, hb⟩)
        refine hK.out _ _ ?hsr9_41 (fun hH2 => ?hrr9_41)
        case hsr9_41 => exact S2i0 (by have hG := hH; replace hG := S2o0 hG; (try dsimp only at hG); have q0 := hG.1; have q1 := hG.2.1; have q2 := hG.2.2; exact ⟨keepRq hb q0, keepJg hb q1, keepVg hb q2⟩)
        clear hK K hH
        have hH := hH2
        clear hH2
        try simp only [Act.put, List.setIfInBounds_toArray, List.set_cons_zero, List.set_cons_succ]
        replace hP := keepVZ hb hP
        replace hQ := keepVZ hb hQ
        refine wpAnyU_lst (l' := #[true, true, true, true, true, true, true, true, true, true, true, true, true, true, true, true, true, true, false, false]) (by kernel_rfl) ?_
        have hl2 : w.heap.size + 1 < gP ∧ w.heap.size + 1 < gQ ∧ gP ≠ gQ := by omega
        clear hlP hlQ
        try clear hZP
        try clear hZQ
        try clear hb
        revert hH
        revert hQ; revert hP
        revert hl2
        revert gQ; revert gP
        revert wn
        exact hNr9.out
      exact AllReadyU.nil
    refine AllReadyU.cons 0 (by kernel_rfl) (o := _) rfl (fun K hK => ?_) ?_
    · try clear hb
      have hG := hH
      replace hG := S2o0 hG; (try dsimp only at hG); have q0 := hG.1; have q1 := hG.2.1; have q2 := hG.2.2
      go_simp
      refine hK.out _ _ ?hsr9_42 (fun hH2 => ?hrr9_42)
      case hsr9_42 => exact S2i0 (by have hG := hH; replace hG := S2o0 hG; (try dsimp only at hG); have q0 := hG.1; have q1 := hG.2.1; have q2 := hG.2.2; exact ⟨q0.alloc _, q1.alloc _, q2.alloc _⟩)
      clear hK K hH
      have hH := hH2
      clear hH2
      try simp only [Act.put, List.setIfInBounds_toArray, List.set_cons_zero, List.set_cons_succ]
      have hQ : VZ ((w3.alloc (.cells #[.int .i64 0, .int .i64 0] 24)).drew) w3.heap.size := VZ.drew (VZ.here w3 0 0 24)
      obtain ⟨gQ, hgQ⟩ : ∃ g, g = w3.heap.size := ⟨_, rfl⟩
      have hlQ : w.heap.size + 1 < gQ := by rw [hgQ]; have h9 := VGlt q2; exact h9
      rw [← hgQ] at hQ
      try rw [← hgQ]
      clear hgQ q0 q1 q2
      generalize (w3.alloc (.cells #[.int .i64 0, .int .i64 0] 24)).drew = wx17 at *
      refine wpAnyU_ready (rs := [7, 16]) (by kernel_rfl) (by simp) ?_
      refine AllReadyU.cons 0 (by kernel_rfl) (o := _) rfl (fun K hK => ?_) ?_
      · try clear hb
        go_simp
        (go_at_call 23; refine (HWA.out _).mono ?_; rintro e wn ⟨rfl, hb⟩)
        refine hK.out _ _ ?hsr9_43 (fun hH2 => ?hrr9_43)
        case hsr9_43 => exact S2i0 (by have hG := hH; replace hG := S2o0 hG; (try dsimp only at hG); have q0 := hG.1; have q1 := hG.2.1; have q2 := hG.2.2; exact ⟨keepRq hb q0, keepJg hb q1, keepVg hb q2⟩)
        clear hK K hH
        have hH := hH2
        clear hH2
        try simp only [Act.put, List.setIfInBounds_toArray, List.set_cons_zero, List.set_cons_succ]
        replace hQ := keepVZ hb hQ
        refine wpAnyU_ready (rs := [15, 16]) (by kernel_rfl) (by simp) ?_
        refine AllReadyU.cons 0 (by kernel_rfl) (o := _) rfl (fun K hK => ?_) ?_
        · try clear hb
          go_simp
          (go_at_call 23; refine (HWB.out _).mono ?_; rintro e wn ⟨rfl, hb⟩)
          refine hK.out _ _ ?hsr9_44 (fun hH2 => ?hrr9_44)
          case hsr9_44 => exact S2i0 (by have hG := hH; replace hG := S2o0 hG; (try dsimp only at hG); have q0 := hG.1; have q1 := hG.2.1; have q2 := hG.2.2; exact ⟨keepRq hb q0, keepJg hb q1, keepVg hb q2⟩)
          clear hK K hH
          have hH := hH2
          clear hH2
          try simp only [Act.put, List.setIfInBounds_toArray, List.set_cons_zero, List.set_cons_succ]
          replace hQ := keepVZ hb hQ
          refine wpAnyU_ready (rs := [16]) (by kernel_rfl) (by simp) ?_
          refine AllReadyU.cons 0 (by kernel_rfl) (o := _) rfl (fun K hK => ?_) AllReadyU.nil
          try clear hb
          have hG := hH
          replace hG := S2o0 hG; (try dsimp only at hG); have q0 := hG.1; have q1 := hG.2.1; have q2 := hG.2.2
          have hZQ := VZ.lt hQ
          go_simp
          refine hK.out _ _ ?hsr9_45 (fun hH2 => ?hrr9_45)
          case hsr9_45 => exact S2i0 (by have hG := hH; replace hG := S2o0 hG; (try dsimp only at hG); have q0 := hG.1; have q1 := hG.2.1; have q2 := hG.2.2; exact ⟨q0.alloc _, q1.alloc _, q2.alloc _⟩)
          clear hK K hH
          have hH := hH2
          clear hH2
          try simp only [Act.put, List.setIfInBounds_toArray, List.set_cons_zero, List.set_cons_succ]
          have hP : VZ (wn.alloc (.cells #[.int .i64 0, .int .i64 0] 24)) wn.heap.size := VZ.here wn 0 0 24
          replace hQ := keepVZ ((Below.refl _ _).alloc (Nat.le_refl _) (.cells #[.int .i64 0, .int .i64 0] 24)) hQ
          obtain ⟨gP, hgP⟩ : ∃ g, g = wn.heap.size := ⟨_, rfl⟩
          have hlP : w.heap.size + 1 < gP ∧ gQ < gP := by rw [hgP]; have h9 := VGlt q2; exact ⟨h9, hZQ⟩
          rw [← hgP] at hP
          try rw [← hgP]
          clear hgP q0 q1 q2
          generalize wn.alloc (.cells #[.int .i64 0, .int .i64 0] 24) = wx16 at *
          refine wpAnyU_lst (l' := #[true, true, true, true, true, true, true, true, true, true, true, true, true, true, true, true, true, true, false, false]) (by kernel_rfl) ?_
          have hl2 : w.heap.size + 1 < gP ∧ w.heap.size + 1 < gQ ∧ gP ≠ gQ := by omega
          clear hlP hlQ
          try clear hZP
          try clear hZQ
          try clear hb
          revert hH
          revert hQ; revert hP
          revert hl2
          revert gQ; revert gP
          revert wx16
          exact hNr9.out
        refine AllReadyU.cons 0 (by kernel_rfl) (o := _) rfl (fun K hK => ?_) ?_
        · try clear hb
          have hG := hH
          replace hG := S2o0 hG; (try dsimp only at hG); have q0 := hG.1; have q1 := hG.2.1; have q2 := hG.2.2
          have hZQ := VZ.lt hQ
          go_simp
          refine hK.out _ _ ?hsr9_46 (fun hH2 => ?hrr9_46)
          case hsr9_46 => exact S2i0 (by have hG := hH; replace hG := S2o0 hG; (try dsimp only at hG); have q0 := hG.1; have q1 := hG.2.1; have q2 := hG.2.2; exact ⟨q0.alloc _, q1.alloc _, q2.alloc _⟩)
          clear hK K hH
          have hH := hH2
          clear hH2
          try simp only [Act.put, List.setIfInBounds_toArray, List.set_cons_zero, List.set_cons_succ]
          have hP : VZ (wn.alloc (.cells #[.int .i64 0, .int .i64 0] 24)) wn.heap.size := VZ.here wn 0 0 24
          replace hQ := keepVZ ((Below.refl _ _).alloc (Nat.le_refl _) (.cells #[.int .i64 0, .int .i64 0] 24)) hQ
          obtain ⟨gP, hgP⟩ : ∃ g, g = wn.heap.size := ⟨_, rfl⟩
          have hlP : w.heap.size + 1 < gP ∧ gQ < gP := by rw [hgP]; have h9 := VGlt q2; exact ⟨h9, hZQ⟩
          rw [← hgP] at hP
          try rw [← hgP]
          clear hgP q0 q1 q2
          generalize wn.alloc (.cells #[.int .i64 0, .int .i64 0] 24) = wx16 at *
          refine wpAnyU_ready (rs := [15]) (by kernel_rfl) (by simp) ?_
          refine AllReadyU.cons 0 (by kernel_rfl) (o := _) rfl (fun K hK => ?_) AllReadyU.nil
          try clear hb
          go_simp
          (go_at_call 23; refine (HWB.out _).mono ?_; rintro e wn ⟨rfl, hb⟩)
          refine hK.out _ _ ?hsr9_47 (fun hH2 => ?hrr9_47)
          case hsr9_47 => exact S2i0 (by have hG := hH; replace hG := S2o0 hG; (try dsimp only at hG); have q0 := hG.1; have q1 := hG.2.1; have q2 := hG.2.2; exact ⟨keepRq hb q0, keepJg hb q1, keepVg hb q2⟩)
          clear hK K hH
          have hH := hH2
          clear hH2
          try simp only [Act.put, List.setIfInBounds_toArray, List.set_cons_zero, List.set_cons_succ]
          replace hP := keepVZ hb hP
          replace hQ := keepVZ hb hQ
          refine wpAnyU_lst (l' := #[true, true, true, true, true, true, true, true, true, true, true, true, true, true, true, true, true, true, false, false]) (by kernel_rfl) ?_
          have hl2 : w.heap.size + 1 < gP ∧ w.heap.size + 1 < gQ ∧ gP ≠ gQ := by omega
          clear hlP hlQ
          try clear hZP
          try clear hZQ
          try clear hb
          revert hH
          revert hQ; revert hP
          revert hl2
          revert gQ; revert gP
          revert wn
          exact hNr9.out
        exact AllReadyU.nil
      refine AllReadyU.cons 0 (by kernel_rfl) (o := _) rfl (fun K hK => ?_) ?_
      · try clear hb
        have hG := hH
        replace hG := S2o0 hG; (try dsimp only at hG); have q0 := hG.1; have q1 := hG.2.1; have q2 := hG.2.2
        have hZQ := VZ.lt hQ
        go_simp
        refine hK.out _ _ ?hsr9_48 (fun hH2 => ?hrr9_48)
        case hsr9_48 => exact S2i0 (by have hG := hH; replace hG := S2o0 hG; (try dsimp only at hG); have q0 := hG.1; have q1 := hG.2.1; have q2 := hG.2.2; exact ⟨q0.alloc _, q1.alloc _, q2.alloc _⟩)
        clear hK K hH
        have hH := hH2
        clear hH2
        try simp only [Act.put, List.setIfInBounds_toArray, List.set_cons_zero, List.set_cons_succ]
        have hP : VZ (wx17.alloc (.cells #[.int .i64 0, .int .i64 0] 24)) wx17.heap.size := VZ.here wx17 0 0 24
        replace hQ := keepVZ ((Below.refl _ _).alloc (Nat.le_refl _) (.cells #[.int .i64 0, .int .i64 0] 24)) hQ
        obtain ⟨gP, hgP⟩ : ∃ g, g = wx17.heap.size := ⟨_, rfl⟩
        have hlP : w.heap.size + 1 < gP ∧ gQ < gP := by rw [hgP]; have h9 := VGlt q2; exact ⟨h9, hZQ⟩
        rw [← hgP] at hP
        try rw [← hgP]
        clear hgP q0 q1 q2
        generalize wx17.alloc (.cells #[.int .i64 0, .int .i64 0] 24) = wx16 at *
        refine wpAnyU_ready (rs := [7]) (by kernel_rfl) (by simp) ?_
        refine AllReadyU.cons 0 (by kernel_rfl) (o := _) rfl (fun K hK => ?_) AllReadyU.nil
        try clear hb
        go_simp
        (go_at_call 23; refine (HWA.out _).mono ?_; rintro e wn ⟨rfl, hb⟩)
        refine hK.out _ _ ?hsr9_49 (fun hH2 => ?hrr9_49)
        case hsr9_49 => exact S2i0 (by have hG := hH; replace hG := S2o0 hG; (try dsimp only at hG); have q0 := hG.1; have q1 := hG.2.1; have q2 := hG.2.2; exact ⟨keepRq hb q0, keepJg hb q1, keepVg hb q2⟩)
        clear hK K hH
        have hH := hH2
        clear hH2
        try simp only [Act.put, List.setIfInBounds_toArray, List.set_cons_zero, List.set_cons_succ]
        replace hP := keepVZ hb hP
        replace hQ := keepVZ hb hQ
        refine wpAnyU_ready (rs := [15]) (by kernel_rfl) (by simp) ?_
        refine AllReadyU.cons 0 (by kernel_rfl) (o := _) rfl (fun K hK => ?_) AllReadyU.nil
        try clear hb
        go_simp
        (go_at_call 23; refine (HWB.out _).mono ?_; rintro e wn ⟨rfl, hb⟩)
        refine hK.out _ _ ?hsr9_50 (fun hH2 => ?hrr9_50)
        case hsr9_50 => exact S2i0 (by have hG := hH; replace hG := S2o0 hG; (try dsimp only at hG); have q0 := hG.1; have q1 := hG.2.1; have q2 := hG.2.2; exact ⟨keepRq hb q0, keepJg hb q1, keepVg hb q2⟩)
        clear hK K hH
        have hH := hH2
        clear hH2
        try simp only [Act.put, List.setIfInBounds_toArray, List.set_cons_zero, List.set_cons_succ]
        replace hP := keepVZ hb hP
        replace hQ := keepVZ hb hQ
        refine wpAnyU_lst (l' := #[true, true, true, true, true, true, true, true, true, true, true, true, true, true, true, true, true, true, false, false]) (by kernel_rfl) ?_
        have hl2 : w.heap.size + 1 < gP ∧ w.heap.size + 1 < gQ ∧ gP ≠ gQ := by omega
        clear hlP hlQ
        try clear hZP
        try clear hZQ
        try clear hb
        revert hH
        revert hQ; revert hP
        revert hl2
        revert gQ; revert gP
        revert wn
        exact hNr9.out
      exact AllReadyU.nil
    exact AllReadyU.nil
  case prfr9 =>
    intro wX gP gQ hl2 hP hQ hH
    have hWr9 : Weaker (S2 (fun w' => Rq w g L w' ∧ Jg w' w.heap.size x ∧ Vg w' (w.heap.size + 1) v1 v2)) := weaker2 _
    refine wpAnyU_ready (rs := [18]) (by kernel_rfl) (by simp) ?_
    refine AllReadyU.cons 1 (by kernel_rfl) (o := _) rfl (fun K hK => ?_) AllReadyU.nil
    try clear hb
    have hG := hH
    replace hG := S2o0 hG; (try dsimp only at hG); have q0 := hG.1; have q1 := hG.2.1; have q2 := hG.2.2
    have HRQ1 := hid q0
    have HJG1 := hid q1
    have HVW1 := hid q2
    have HP := hid hP
    have HQ := hid hQ
    obtain ⟨⟨v0, v1', y0, y1⟩, yf⟩ := hP
    obtain ⟨⟨v2', v3, y2, y3⟩, yf2⟩ := hQ
    have hne : ¬ gP = gQ := hl2.2.2
    have hne' : ¬ gQ = gP := fun h => hl2.2.2 h.symm
    clear hG q0 q1 q2
    go_simp
    refine hK.out _ _ ?hsr9_19 (fun hH2 => ?hrr9_19)
    case hsr9_19 => exact S2i1
    clear hK K hH
    have hH := hH2
    clear hH2
    try simp only [Act.put, List.setIfInBounds_toArray, List.set_cons_zero, List.set_cons_succ]
    refine wpAnyU_ready (rs := [19]) (by kernel_rfl) (by simp) ?_
    refine AllReadyU.cons 1 (by kernel_rfl) (o := _) rfl (fun K hK => ?_) AllReadyU.nil
    go_simp
    refine hK.out _ _ ?hsr9_20 (fun hH2 => ?hrr9_20)
    case hsr9_20 => exact S2i1
    clear hK K hH
    have hH := hH2
    clear hH2
    try simp only [Act.put, List.setIfInBounds_toArray, List.set_cons_zero, List.set_cons_succ]
    refine wpAnyU_done (by kernel_rfl) ?_ _ _
    refine NoPanic.normal ?_
    obtain ⟨w5, hw5⟩ : ∃ w5, w5 = (((wX.setCell ⟨gP, 0, none⟩ (.int .i64 e1)).setCell ⟨gP, 1, none⟩ (.int .i64 e2)).setCell ⟨gQ, 0, none⟩ (.int .i64 e3)).setCell ⟨gQ, 1, none⟩ (.int .i64 e4) := ⟨_, rfl⟩
    have HRQ2 := hid ((((HRQ1.out.set (o := 0) (v := .int .i64 e1) (show w.heap.size ≤ gP by omega)).set (o := 1) (v := .int .i64 e2) (show w.heap.size ≤ gP by omega)).set (o := 0) (v := .int .i64 e3) (show w.heap.size ≤ gQ by omega)).set (o := 1) (v := .int .i64 e4) (show w.heap.size ≤ gQ by omega))
    have HJG2 := hid ((((HJG1.out.next (grown_setCell _ gP 0 (.int .i64 e1)) (by omega)).next (grown_setCell _ gP 1 (.int .i64 e2)) (by omega)).next (grown_setCell _ gQ 0 (.int .i64 e3)) (by omega)).next (grown_setCell _ gQ 1 (.int .i64 e4)) (by omega))
    have HVW2 := hid ((((HVW1.out.next (grown_setCell _ gP 0 (.int .i64 e1)) (by omega)).next (grown_setCell _ gP 1 (.int .i64 e2)) (by omega)).next (grown_setCell _ gQ 0 (.int .i64 e3)) (by omega)).next (grown_setCell _ gQ 1 (.int .i64 e4)) (by omega))
    have HVP2 : Hid (Vg w5 gP e1 e2) := by show Vg _ _ _ _; rw [hw5]; exact ⟨by go_simp, by go_simp⟩
    have HVQ2 : Hid (Vg w5 gQ e3 e4) := by show Vg _ _ _ _; rw [hw5]; exact ⟨by go_simp, by go_simp⟩
    rw [← hw5] at HRQ2 HJG2 HVW2
    clear HRQ1 HJG1 HVW1 HP HQ y0 y1 yf y2 y3 yf2
    try clear hH
    go_upto_region 2 with fail
    rw [← hw5]
    clear hw5
    refine wp_region_noPanic ?_
    refine wp_region_U (S := (S2 (fun w' => Rq w g L w' ∧ Jg w' w.heap.size x ∧ Vg w' (w.heap.size + 1) v1 v2 ∧ Vg w' gP e1 e2 ∧ Vg w' gQ e3 e4))) (T := (fun _ => 0)) (by kernel_rfl) (S2i0 ⟨HRQ2.out.drew, HJG2.out.drew, HVW2.out.drew, HVP2.out.drew, HVQ2.out.drew⟩) (fun hH => ?_)
    have hWr7 : Weaker (S2 (fun w' => Rq w g L w' ∧ Jg w' w.heap.size x ∧ Vg w' (w.heap.size + 1) v1 v2 ∧ Vg w' gP e1 e2 ∧ Vg w' gQ e3 e4)) := weaker2 _
    refine U_take 0 30 17 0 0 (v := ?vr7_1) rfl (by kernel_rfl) (by kernel_rfl) hWr7 (by kernel_rfl) (by kernel_rfl) (by kernel_rfl) (by kernel_rfl) (by kernel_rfl) (by kernel_rfl) (fun _ _ _ _ h => h) (by kernel_rfl) ?hyr7_1 (by omega) hH ?_
    case hyr7_1 => (intro w' hSw; clear hSw; go_simp; try (with_reducible rfl))
    simp only [List.set_cons_zero, List.set_cons_succ]
    refine U_take 1 31 16 0 0 (v := ?vr7_2) rfl (by kernel_rfl) (by kernel_rfl) hWr7 (by kernel_rfl) (by kernel_rfl) (by kernel_rfl) (by kernel_rfl) (by kernel_rfl) (by kernel_rfl) (fun _ _ _ _ h => h) (by kernel_rfl) ?hyr7_2 (by omega) hH ?_
    case hyr7_2 => (intro w' hSw; clear hSw; go_simp; try (with_reducible rfl))
    simp only [List.set_cons_zero, List.set_cons_succ]
    refine U_take 2 32 15 0 0 (v := ?vr7_3) rfl (by kernel_rfl) (by kernel_rfl) hWr7 (by kernel_rfl) (by kernel_rfl) (by kernel_rfl) (by kernel_rfl) (by kernel_rfl) (by kernel_rfl) (fun _ _ _ _ h => h) (by kernel_rfl) ?hyr7_3 (by omega) hH ?_
    case hyr7_3 => (intro w' hSw; replace hSw := S2o0 hSw; (try dsimp only at hSw); have q0 := hSw.1; have q1 := hSw.2.1; have q2 := hSw.2.2.1; have q3 := hSw.2.2.2.1; have q4 := hSw.2.2.2.2; obtain ⟨b0_0, b0_1, b0_2, b0_3, b0_4, b0_5, b0_6, b0_7, b0_8, b0_9, b0_10, b0_11, b0_12⟩ := cells_b0 (q0).bl.cl hka HXA.out; obtain ⟨c0_0, c0_1, c0_2, c0_3, c0_4, c0_5, c0_6, c0_7, c0_8, c0_9, c0_10, c0_11, c0_12⟩ := cells_b0 (q0).bl.cl hkb HXB.out; obtain ⟨qa1_0, qa1_1, qa1_2, qa1_3, qa1_4, qa1_5, qa1_6⟩ := id q1; obtain ⟨qa2_0, qa2_1⟩ := id q2; obtain ⟨qa3_0, qa3_1⟩ := id q3; obtain ⟨qa4_0, qa4_1⟩ := id q4; go_simp; try (with_reducible rfl))
    simp only [List.set_cons_zero, List.set_cons_succ]
    refine U_take 3 33 14 0 0 (v := ?vr7_4) rfl (by kernel_rfl) (by kernel_rfl) hWr7 (by kernel_rfl) (by kernel_rfl) (by kernel_rfl) (by kernel_rfl) (by kernel_rfl) (by kernel_rfl) (fun _ _ _ _ h => h) (by kernel_rfl) ?hyr7_4 (by omega) hH ?_
    case hyr7_4 => (intro w' hSw; clear hSw; go_simp; try (with_reducible rfl))
    simp only [List.set_cons_zero, List.set_cons_succ]
    refine U_take 4 34 13 0 0 (v := ?vr7_5) rfl (by kernel_rfl) (by kernel_rfl) hWr7 (by kernel_rfl) (by kernel_rfl) (by kernel_rfl) (by kernel_rfl) (by kernel_rfl) (by kernel_rfl) (fun _ _ _ _ h => h) (by kernel_rfl) ?hyr7_5 (by omega) hH ?_
    case hyr7_5 => (intro w' hSw; replace hSw := S2o0 hSw; (try dsimp only at hSw); have q0 := hSw.1; have q1 := hSw.2.1; have q2 := hSw.2.2.1; have q3 := hSw.2.2.2.1; have q4 := hSw.2.2.2.2; obtain ⟨b0_0, b0_1, b0_2, b0_3, b0_4, b0_5, b0_6, b0_7, b0_8, b0_9, b0_10, b0_11, b0_12⟩ := cells_b0 (q0).bl.cl hka HXA.out; obtain ⟨c0_0, c0_1, c0_2, c0_3, c0_4, c0_5, c0_6, c0_7, c0_8, c0_9, c0_10, c0_11, c0_12⟩ := cells_b0 (q0).bl.cl hkb HXB.out; obtain ⟨qa1_0, qa1_1, qa1_2, qa1_3, qa1_4, qa1_5, qa1_6⟩ := id q1; obtain ⟨qa2_0, qa2_1⟩ := id q2; obtain ⟨qa3_0, qa3_1⟩ := id q3; obtain ⟨qa4_0, qa4_1⟩ := id q4; go_simp; try (with_reducible rfl))
    simp only [List.set_cons_zero, List.set_cons_succ]
    refine U_take 5 35 12 0 0 (v := ?vr7_6) rfl (by kernel_rfl) (by kernel_rfl) hWr7 (by kernel_rfl) (by kernel_rfl) (by kernel_rfl) (by kernel_rfl) (by kernel_rfl) (by kernel_rfl) (fun _ _ _ _ h => h) (by kernel_rfl) ?hyr7_6 (by omega) hH ?_
    case hyr7_6 => (intro w' hSw; replace hSw := S2o0 hSw; (try dsimp only at hSw); have q0 := hSw.1; have q1 := hSw.2.1; have q2 := hSw.2.2.1; have q3 := hSw.2.2.2.1; have q4 := hSw.2.2.2.2; obtain ⟨b0_0, b0_1, b0_2, b0_3, b0_4, b0_5, b0_6, b0_7, b0_8, b0_9, b0_10, b0_11, b0_12⟩ := cells_b0 (q0).bl.cl hka HXA.out; obtain ⟨c0_0, c0_1, c0_2, c0_3, c0_4, c0_5, c0_6, c0_7, c0_8, c0_9, c0_10, c0_11, c0_12⟩ := cells_b0 (q0).bl.cl hkb HXB.out; obtain ⟨qa1_0, qa1_1, qa1_2, qa1_3, qa1_4, qa1_5, qa1_6⟩ := id q1; obtain ⟨qa2_0, qa2_1⟩ := id q2; obtain ⟨qa3_0, qa3_1⟩ := id q3; obtain ⟨qa4_0, qa4_1⟩ := id q4; go_simp; try (with_reducible rfl))
    simp only [List.set_cons_zero, List.set_cons_succ]
    refine U_take 6 36 11 0 0 (v := ?vr7_7) rfl (by kernel_rfl) (by kernel_rfl) hWr7 (by kernel_rfl) (by kernel_rfl) (by kernel_rfl) (by kernel_rfl) (by kernel_rfl) (by kernel_rfl) (fun _ _ _ _ h => h) (by kernel_rfl) ?hyr7_7 (by omega) hH ?_
    case hyr7_7 => (intro w' hSw; replace hSw := S2o0 hSw; (try dsimp only at hSw); have q0 := hSw.1; have q1 := hSw.2.1; have q2 := hSw.2.2.1; have q3 := hSw.2.2.2.1; have q4 := hSw.2.2.2.2; obtain ⟨b0_0, b0_1, b0_2, b0_3, b0_4, b0_5, b0_6, b0_7, b0_8, b0_9, b0_10, b0_11, b0_12⟩ := cells_b0 (q0).bl.cl hka HXA.out; obtain ⟨c0_0, c0_1, c0_2, c0_3, c0_4, c0_5, c0_6, c0_7, c0_8, c0_9, c0_10, c0_11, c0_12⟩ := cells_b0 (q0).bl.cl hkb HXB.out; obtain ⟨qa1_0, qa1_1, qa1_2, qa1_3, qa1_4, qa1_5, qa1_6⟩ := id q1; obtain ⟨qa2_0, qa2_1⟩ := id q2; obtain ⟨qa3_0, qa3_1⟩ := id q3; obtain ⟨qa4_0, qa4_1⟩ := id q4; go_simp; try (with_reducible rfl))
    simp only [List.set_cons_zero, List.set_cons_succ]
    refine U_take 8 38 10 0 0 (v := ?vr7_8) rfl (by kernel_rfl) (by kernel_rfl) hWr7 (by kernel_rfl) (by kernel_rfl) (by kernel_rfl) (by kernel_rfl) (by kernel_rfl) (by kernel_rfl) (fun _ _ _ _ h => h) (by kernel_rfl) ?hyr7_8 (by omega) hH ?_
    case hyr7_8 => (intro w' hSw; clear hSw; go_simp; try (with_reducible rfl))
    simp only [List.set_cons_zero, List.set_cons_succ]
    refine U_take 9 39 9 0 0 (v := ?vr7_9) rfl (by kernel_rfl) (by kernel_rfl) hWr7 (by kernel_rfl) (by kernel_rfl) (by kernel_rfl) (by kernel_rfl) (by kernel_rfl) (by kernel_rfl) (fun _ _ _ _ h => h) (by kernel_rfl) ?hyr7_9 (by omega) hH ?_
    case hyr7_9 => (intro w' hSw; clear hSw; go_simp; try (with_reducible rfl))
    simp only [List.set_cons_zero, List.set_cons_succ]
    refine U_take 10 40 8 0 0 (v := ?vr7_10) rfl (by kernel_rfl) (by kernel_rfl) hWr7 (by kernel_rfl) (by kernel_rfl) (by kernel_rfl) (by kernel_rfl) (by kernel_rfl) (by kernel_rfl) (fun _ _ _ _ h => h) (by kernel_rfl) ?hyr7_10 (by omega) hH ?_
    case hyr7_10 => (intro w' hSw; replace hSw := S2o0 hSw; (try dsimp only at hSw); have q0 := hSw.1; have q1 := hSw.2.1; have q2 := hSw.2.2.1; have q3 := hSw.2.2.2.1; have q4 := hSw.2.2.2.2; obtain ⟨b0_0, b0_1, b0_2, b0_3, b0_4, b0_5, b0_6, b0_7, b0_8, b0_9, b0_10, b0_11, b0_12⟩ := cells_b0 (q0).bl.cl hka HXA.out; obtain ⟨c0_0, c0_1, c0_2, c0_3, c0_4, c0_5, c0_6, c0_7, c0_8, c0_9, c0_10, c0_11, c0_12⟩ := cells_b0 (q0).bl.cl hkb HXB.out; obtain ⟨qa1_0, qa1_1, qa1_2, qa1_3, qa1_4, qa1_5, qa1_6⟩ := id q1; obtain ⟨qa2_0, qa2_1⟩ := id q2; obtain ⟨qa3_0, qa3_1⟩ := id q3; obtain ⟨qa4_0, qa4_1⟩ := id q4; go_simp; try (with_reducible rfl))
    simp only [List.set_cons_zero, List.set_cons_succ]
    refine U_take 11 41 7 0 0 (v := ?vr7_11) rfl (by kernel_rfl) (by kernel_rfl) hWr7 (by kernel_rfl) (by kernel_rfl) (by kernel_rfl) (by kernel_rfl) (by kernel_rfl) (by kernel_rfl) (fun _ _ _ _ h => h) (by kernel_rfl) ?hyr7_11 (by omega) hH ?_
    case hyr7_11 => (intro w' hSw; clear hSw; go_simp; try (with_reducible rfl))
    simp only [List.set_cons_zero, List.set_cons_succ]
    refine U_take 12 42 6 0 0 (v := ?vr7_12) rfl (by kernel_rfl) (by kernel_rfl) hWr7 (by kernel_rfl) (by kernel_rfl) (by kernel_rfl) (by kernel_rfl) (by kernel_rfl) (by kernel_rfl) (fun _ _ _ _ h => h) (by kernel_rfl) ?hyr7_12 (by omega) hH ?_
    case hyr7_12 => (intro w' hSw; replace hSw := S2o0 hSw; (try dsimp only at hSw); have q0 := hSw.1; have q1 := hSw.2.1; have q2 := hSw.2.2.1; have q3 := hSw.2.2.2.1; have q4 := hSw.2.2.2.2; obtain ⟨b0_0, b0_1, b0_2, b0_3, b0_4, b0_5, b0_6, b0_7, b0_8, b0_9, b0_10, b0_11, b0_12⟩ := cells_b0 (q0).bl.cl hka HXA.out; obtain ⟨c0_0, c0_1, c0_2, c0_3, c0_4, c0_5, c0_6, c0_7, c0_8, c0_9, c0_10, c0_11, c0_12⟩ := cells_b0 (q0).bl.cl hkb HXB.out; obtain ⟨qa1_0, qa1_1, qa1_2, qa1_3, qa1_4, qa1_5, qa1_6⟩ := id q1; obtain ⟨qa2_0, qa2_1⟩ := id q2; obtain ⟨qa3_0, qa3_1⟩ := id q3; obtain ⟨qa4_0, qa4_1⟩ := id q4; go_simp; try (with_reducible rfl))
    simp only [List.set_cons_zero, List.set_cons_succ]
    refine U_take 13 43 5 0 0 (v := ?vr7_13) rfl (by kernel_rfl) (by kernel_rfl) hWr7 (by kernel_rfl) (by kernel_rfl) (by kernel_rfl) (by kernel_rfl) (by kernel_rfl) (by kernel_rfl) (fun _ _ _ _ h => h) (by kernel_rfl) ?hyr7_13 (by omega) hH ?_
    case hyr7_13 => (intro w' hSw; replace hSw := S2o0 hSw; (try dsimp only at hSw); have q0 := hSw.1; have q1 := hSw.2.1; have q2 := hSw.2.2.1; have q3 := hSw.2.2.2.1; have q4 := hSw.2.2.2.2; obtain ⟨b0_0, b0_1, b0_2, b0_3, b0_4, b0_5, b0_6, b0_7, b0_8, b0_9, b0_10, b0_11, b0_12⟩ := cells_b0 (q0).bl.cl hka HXA.out; obtain ⟨c0_0, c0_1, c0_2, c0_3, c0_4, c0_5, c0_6, c0_7, c0_8, c0_9, c0_10, c0_11, c0_12⟩ := cells_b0 (q0).bl.cl hkb HXB.out; obtain ⟨qa1_0, qa1_1, qa1_2, qa1_3, qa1_4, qa1_5, qa1_6⟩ := id q1; obtain ⟨qa2_0, qa2_1⟩ := id q2; obtain ⟨qa3_0, qa3_1⟩ := id q3; obtain ⟨qa4_0, qa4_1⟩ := id q4; go_simp; try (with_reducible rfl))
    simp only [List.set_cons_zero, List.set_cons_succ]
    refine U_take 14 44 4 0 0 (v := ?vr7_14) rfl (by kernel_rfl) (by kernel_rfl) hWr7 (by kernel_rfl) (by kernel_rfl) (by kernel_rfl) (by kernel_rfl) (by kernel_rfl) (by kernel_rfl) (fun _ _ _ _ h => h) (by kernel_rfl) ?hyr7_14 (by omega) hH ?_
    case hyr7_14 => (intro w' hSw; replace hSw := S2o0 hSw; (try dsimp only at hSw); have q0 := hSw.1; have q1 := hSw.2.1; have q2 := hSw.2.2.1; have q3 := hSw.2.2.2.1; have q4 := hSw.2.2.2.2; obtain ⟨b0_0, b0_1, b0_2, b0_3, b0_4, b0_5, b0_6, b0_7, b0_8, b0_9, b0_10, b0_11, b0_12⟩ := cells_b0 (q0).bl.cl hka HXA.out; obtain ⟨c0_0, c0_1, c0_2, c0_3, c0_4, c0_5, c0_6, c0_7, c0_8, c0_9, c0_10, c0_11, c0_12⟩ := cells_b0 (q0).bl.cl hkb HXB.out; obtain ⟨qa1_0, qa1_1, qa1_2, qa1_3, qa1_4, qa1_5, qa1_6⟩ := id q1; obtain ⟨qa2_0, qa2_1⟩ := id q2; obtain ⟨qa3_0, qa3_1⟩ := id q3; obtain ⟨qa4_0, qa4_1⟩ := id q4; go_simp; try (with_reducible rfl))
    simp only [List.set_cons_zero, List.set_cons_succ]
    refine wpAnyU_ready (rs := [7]) (by kernel_rfl) (by simp) ?_
    refine AllReadyU.cons 0 (by kernel_rfl) (o := _) rfl (fun K hK => ?_) AllReadyU.nil
    try clear hb
    go_simp
    (go_at_call 53; refine (HEA.out _).mono ?_; rintro e wn ⟨rfl, hb⟩)
    refine hK.out _ _ ?hsr7_15 (fun hH2 => ?hrr7_15)
    case hsr7_15 => exact S2i0 (by have hG := hH; replace hG := S2o0 hG; (try dsimp only at hG); have q0 := hG.1; have q1 := hG.2.1; have q2 := hG.2.2.1; have q3 := hG.2.2.2.1; have q4 := hG.2.2.2.2; exact ⟨keepRq hb q0, keepJg hb q1, keepVg hb q2, keepVg hb q3, keepVg hb q4⟩)
    clear hK K hH
    have hH := hH2
    clear hH2
    try simp only [Act.put, List.setIfInBounds_toArray, List.set_cons_zero, List.set_cons_succ]
    refine wpAnyU_ready (rs := [15]) (by kernel_rfl) (by simp) ?_
    refine AllReadyU.cons 0 (by kernel_rfl) (o := _) rfl (fun K hK => ?_) AllReadyU.nil
    try clear hb
    go_simp
    (go_at_call 53; refine (HEB.out _).mono ?_; rintro e wn ⟨rfl, hb⟩)
    refine hK.out _ _ ?hsr7_16 (fun hH2 => ?hrr7_16)
    case hsr7_16 => exact S2i0 (by have hG := hH; replace hG := S2o0 hG; (try dsimp only at hG); have q0 := hG.1; have q1 := hG.2.1; have q2 := hG.2.2.1; have q3 := hG.2.2.2.1; have q4 := hG.2.2.2.2; exact ⟨keepRq hb q0, keepJg hb q1, keepVg hb q2, keepVg hb q3, keepVg hb q4⟩)
    clear hK K hH
    have hH := hH2
    clear hH2
    try simp only [Act.put, List.setIfInBounds_toArray, List.set_cons_zero, List.set_cons_succ]
    refine wpAnyU_ready (rs := [16]) (by kernel_rfl) (by simp) ?_
    refine AllReadyU.cons 0 (by kernel_rfl) (o := _) rfl (fun K hK => ?_) AllReadyU.nil
    try clear hb
    go_simp
    (go_at_call 45; refine (HEZ.out _).mono ?_; rintro e wn ⟨rfl, hb⟩)
    refine hK.out _ _ ?hsr7_17 (fun hH2 => ?hrr7_17)
    case hsr7_17 => exact S2i0 (by have hG := hH; replace hG := S2o0 hG; (try dsimp only at hG); have q0 := hG.1; have q1 := hG.2.1; have q2 := hG.2.2.1; have q3 := hG.2.2.2.1; have q4 := hG.2.2.2.2; exact ⟨keepRq hb q0, keepJg hb q1, keepVg hb q2, keepVg hb q3, keepVg hb q4⟩)
    clear hK K hH
    have hH := hH2
    clear hH2
    try simp only [Act.put, List.setIfInBounds_toArray, List.set_cons_zero, List.set_cons_succ]
    refine U_take 17 12 0 0 0 (v := ?vr7_18) rfl (by kernel_rfl) (by kernel_rfl) hWr7 (by kernel_rfl) (by kernel_rfl) (by kernel_rfl) (by kernel_rfl) (by kernel_rfl) (by kernel_rfl) (fun _ _ _ _ h => h) (by kernel_rfl) ?hyr7_18 (by omega) hH ?_
    case hyr7_18 => (intro w' hSw; clear hSw; go_simp; try (with_reducible rfl))
    simp only [List.set_cons_zero, List.set_cons_succ]
    refine wpAnyU_done (by kernel_rfl) ?_ _ _
    refine NoPanic.normal ?_
    clear hWr7
    replace hH := S2o0 hH
    (try dsimp only at hH)
    have t0 := hH.1
    have t1 := hH.2.1
    have t2 := hH.2.2.1
    have t3 := hH.2.2.2.1
    have t4 := hH.2.2.2.2
    replace HRQ2 := hid t0
    replace HJG2 := hid t1
    replace HVW2 := hid t2
    replace HVP2 := hid t3
    replace HVQ2 := hid t4
    clear t0 t1 t2 t3 t4
    try clear hH hb
    by_cases hz : ez = 0
    · have HFI := hid (HFIZ.out hz)
      have HB9 := hid HRQ2.out.gr
      have HBL9 := hid HRQ2.out.bl
      clear HRQ2 HJG2 HVW2 HVP2 HVQ2 HFIZ HFIN
      go_wp2
      exact bodyPost_ret (v := .tuple #[]) (by simp [results, Try.results65, go_sem]) rfl ⟨L, rfl, HBL9.out, HFI.out, HB9.out⟩
    have hzb : (ez == 0) = false := by simp [hz]
    replace HFIN := hid (HFIN.out hz)
    clear hz HFIZ
    have HAL := hid (along_calls cap g ka kb L e1 e2 e3 e4 v1 v2 wn HRQ2.out.bl HRQ2.out.lo9 hab hka hkb h64 xa xb HXA.out HXB.out)
    rw [HVZ.out] at HAL
    obtain ⟨q1, q2⟩ := HVW2.out
    obtain ⟨q3, q4⟩ := HVP2.out
    obtain ⟨q5, q6⟩ := HVQ2.out
    obtain ⟨q7, q8, q9, q10, q11, q12, q13⟩ := HJG2.out
    rw [hxa] at q7
    rw [hxb] at q8
    go_wp2_with fail
    clear q1 q2 q3 q4 q5 q6 q7 q8 q9 q10 q11 q12 q13
    refine HAL.out.mono ?_
    rintro e w7 ⟨rfl, hb⟩
    replace HRQ2 := hid (keepRq hb HRQ2.out)
    replace HJG2 := hid (keepJg hb HJG2.out)
    replace HVW2 := hid (keepVg hb HVW2.out)
    replace HVP2 := hid (keepVg hb HVP2.out)
    replace HVQ2 := hid (keepVg hb HVQ2.out)
    clear hb HAL
    go_upto_region 5 with fail
    refine wp_region_noPanic ?_
    refine wp_region_U (S := (S2 (fun w' => Rq w g L w' ∧ Jg w' w.heap.size x ∧ Vg w' (w.heap.size + 1) v1 v2 ∧ Vg w' gP e1 e2 ∧ Vg w' gQ e3 e4))) (T := (fun j => [0, 0, 0, 0, 0, 0, 0, 0, 0, 0, 0, 0, 0, 0, 0, 0, 0, 0, 1].getD j 0)) (by kernel_rfl) (S2i0 ⟨HRQ2.out.drew, HJG2.out.drew, HVW2.out.drew, HVP2.out.drew, HVQ2.out.drew⟩) (fun hH => ?_)
    have hWr8 : Weaker (S2 (fun w' => Rq w g L w' ∧ Jg w' w.heap.size x ∧ Vg w' (w.heap.size + 1) v1 v2 ∧ Vg w' gP e1 e2 ∧ Vg w' gQ e3 e4)) := weaker2 _
    refine U_take 0 58 18 0 0 (v := ?vr8_1) rfl (by kernel_rfl) (by kernel_rfl) hWr8 (by kernel_rfl) (by kernel_rfl) (by kernel_rfl) (by kernel_rfl) (by kernel_rfl) (by kernel_rfl) (fun _ _ _ _ h => h) (by kernel_rfl) ?hyr8_1 (by omega) hH ?_
    case hyr8_1 => (intro w' hSw; clear hSw; go_simp; try (with_reducible rfl))
    simp only [List.set_cons_zero, List.set_cons_succ]
    refine U_take 1 59 17 0 0 (v := ?vr8_2) rfl (by kernel_rfl) (by kernel_rfl) hWr8 (by kernel_rfl) (by kernel_rfl) (by kernel_rfl) (by kernel_rfl) (by kernel_rfl) (by kernel_rfl) (fun _ _ _ _ h => h) (by kernel_rfl) ?hyr8_2 (by omega) hH ?_
    case hyr8_2 => (intro w' hSw; clear hSw; go_simp; try (with_reducible rfl))
    simp only [List.set_cons_zero, List.set_cons_succ]
    refine U_take 2 60 16 0 0 (v := ?vr8_3) rfl (by kernel_rfl) (by kernel_rfl) hWr8 (by kernel_rfl) (by kernel_rfl) (by kernel_rfl) (by kernel_rfl) (by kernel_rfl) (by kernel_rfl) (fun _ _ _ _ h => h) (by kernel_rfl) ?hyr8_3 (by omega) hH ?_
    case hyr8_3 => (intro w' hSw; replace hSw := S2o0 hSw; (try dsimp only at hSw); have q0 := hSw.1; have q1 := hSw.2.1; have q2 := hSw.2.2.1; have q3 := hSw.2.2.2.1; have q4 := hSw.2.2.2.2; obtain ⟨b0_0, b0_1, b0_2, b0_3, b0_4, b0_5, b0_6, b0_7, b0_8, b0_9, b0_10, b0_11, b0_12⟩ := cells_b0 (q0).bl.cl hka HXA.out; obtain ⟨c0_0, c0_1, c0_2, c0_3, c0_4, c0_5, c0_6, c0_7, c0_8, c0_9, c0_10, c0_11, c0_12⟩ := cells_b0 (q0).bl.cl hkb HXB.out; obtain ⟨qa1_0, qa1_1, qa1_2, qa1_3, qa1_4, qa1_5, qa1_6⟩ := id q1; obtain ⟨qa2_0, qa2_1⟩ := id q2; obtain ⟨qa3_0, qa3_1⟩ := id q3; obtain ⟨qa4_0, qa4_1⟩ := id q4; go_simp; try (with_reducible rfl))
    simp only [List.set_cons_zero, List.set_cons_succ]
    refine U_take 3 61 15 0 0 (v := ?vr8_4) rfl (by kernel_rfl) (by kernel_rfl) hWr8 (by kernel_rfl) (by kernel_rfl) (by kernel_rfl) (by kernel_rfl) (by kernel_rfl) (by kernel_rfl) (fun _ _ _ _ h => h) (by kernel_rfl) ?hyr8_4 (by omega) hH ?_
    case hyr8_4 => (intro w' hSw; clear hSw; go_simp; try (with_reducible rfl))
    simp only [List.set_cons_zero, List.set_cons_succ]
    refine U_take 4 62 14 0 0 (v := ?vr8_5) rfl (by kernel_rfl) (by kernel_rfl) hWr8 (by kernel_rfl) (by kernel_rfl) (by kernel_rfl) (by kernel_rfl) (by kernel_rfl) (by kernel_rfl) (fun _ _ _ _ h => h) (by kernel_rfl) ?hyr8_5 (by omega) hH ?_
    case hyr8_5 => (intro w' hSw; replace hSw := S2o0 hSw; (try dsimp only at hSw); have q0 := hSw.1; have q1 := hSw.2.1; have q2 := hSw.2.2.1; have q3 := hSw.2.2.2.1; have q4 := hSw.2.2.2.2; obtain ⟨b0_0, b0_1, b0_2, b0_3, b0_4, b0_5, b0_6, b0_7, b0_8, b0_9, b0_10, b0_11, b0_12⟩ := cells_b0 (q0).bl.cl hka HXA.out; obtain ⟨c0_0, c0_1, c0_2, c0_3, c0_4, c0_5, c0_6, c0_7, c0_8, c0_9, c0_10, c0_11, c0_12⟩ := cells_b0 (q0).bl.cl hkb HXB.out; obtain ⟨qa1_0, qa1_1, qa1_2, qa1_3, qa1_4, qa1_5, qa1_6⟩ := id q1; obtain ⟨qa2_0, qa2_1⟩ := id q2; obtain ⟨qa3_0, qa3_1⟩ := id q3; obtain ⟨qa4_0, qa4_1⟩ := id q4; go_simp; try (with_reducible rfl))
    simp only [List.set_cons_zero, List.set_cons_succ]
    refine U_take 5 63 13 0 0 (v := ?vr8_6) rfl (by kernel_rfl) (by kernel_rfl) hWr8 (by kernel_rfl) (by kernel_rfl) (by kernel_rfl) (by kernel_rfl) (by kernel_rfl) (by kernel_rfl) (fun _ _ _ _ h => h) (by kernel_rfl) ?hyr8_6 (by omega) hH ?_
    case hyr8_6 => (intro w' hSw; replace hSw := S2o0 hSw; (try dsimp only at hSw); have q0 := hSw.1; have q1 := hSw.2.1; have q2 := hSw.2.2.1; have q3 := hSw.2.2.2.1; have q4 := hSw.2.2.2.2; obtain ⟨b0_0, b0_1, b0_2, b0_3, b0_4, b0_5, b0_6, b0_7, b0_8, b0_9, b0_10, b0_11, b0_12⟩ := cells_b0 (q0).bl.cl hka HXA.out; obtain ⟨c0_0, c0_1, c0_2, c0_3, c0_4, c0_5, c0_6, c0_7, c0_8, c0_9, c0_10, c0_11, c0_12⟩ := cells_b0 (q0).bl.cl hkb HXB.out; obtain ⟨qa1_0, qa1_1, qa1_2, qa1_3, qa1_4, qa1_5, qa1_6⟩ := id q1; obtain ⟨qa2_0, qa2_1⟩ := id q2; obtain ⟨qa3_0, qa3_1⟩ := id q3; obtain ⟨qa4_0, qa4_1⟩ := id q4; go_simp; try (with_reducible rfl))
    simp only [List.set_cons_zero, List.set_cons_succ]
    refine U_take 6 64 12 0 0 (v := ?vr8_7) rfl (by kernel_rfl) (by kernel_rfl) hWr8 (by kernel_rfl) (by kernel_rfl) (by kernel_rfl) (by kernel_rfl) (by kernel_rfl) (by kernel_rfl) (fun _ _ _ _ h => h) (by kernel_rfl) ?hyr8_7 (by omega) hH ?_
    case hyr8_7 => (intro w' hSw; replace hSw := S2o0 hSw; (try dsimp only at hSw); have q0 := hSw.1; have q1 := hSw.2.1; have q2 := hSw.2.2.1; have q3 := hSw.2.2.2.1; have q4 := hSw.2.2.2.2; obtain ⟨b0_0, b0_1, b0_2, b0_3, b0_4, b0_5, b0_6, b0_7, b0_8, b0_9, b0_10, b0_11, b0_12⟩ := cells_b0 (q0).bl.cl hka HXA.out; obtain ⟨c0_0, c0_1, c0_2, c0_3, c0_4, c0_5, c0_6, c0_7, c0_8, c0_9, c0_10, c0_11, c0_12⟩ := cells_b0 (q0).bl.cl hkb HXB.out; obtain ⟨qa1_0, qa1_1, qa1_2, qa1_3, qa1_4, qa1_5, qa1_6⟩ := id q1; obtain ⟨qa2_0, qa2_1⟩ := id q2; obtain ⟨qa3_0, qa3_1⟩ := id q3; obtain ⟨qa4_0, qa4_1⟩ := id q4; go_simp; try (with_reducible rfl))
    simp only [List.set_cons_zero, List.set_cons_succ]
    refine U_take 7 65 11 0 0 (v := ?vr8_8) rfl (by kernel_rfl) (by kernel_rfl) hWr8 (by kernel_rfl) (by kernel_rfl) (by kernel_rfl) (by kernel_rfl) (by kernel_rfl) (by kernel_rfl) (fun _ _ _ _ h => h) (by kernel_rfl) ?hyr8_8 (by omega) hH ?_
    case hyr8_8 => (intro w' hSw; replace hSw := S2o0 hSw; (try dsimp only at hSw); have q0 := hSw.1; have q1 := hSw.2.1; have q2 := hSw.2.2.1; have q3 := hSw.2.2.2.1; have q4 := hSw.2.2.2.2; obtain ⟨b0_0, b0_1, b0_2, b0_3, b0_4, b0_5, b0_6, b0_7, b0_8, b0_9, b0_10, b0_11, b0_12⟩ := cells_b0 (q0).bl.cl hka HXA.out; obtain ⟨c0_0, c0_1, c0_2, c0_3, c0_4, c0_5, c0_6, c0_7, c0_8, c0_9, c0_10, c0_11, c0_12⟩ := cells_b0 (q0).bl.cl hkb HXB.out; obtain ⟨qa1_0, qa1_1, qa1_2, qa1_3, qa1_4, qa1_5, qa1_6⟩ := id q1; obtain ⟨qa2_0, qa2_1⟩ := id q2; obtain ⟨qa3_0, qa3_1⟩ := id q3; obtain ⟨qa4_0, qa4_1⟩ := id q4; go_simp; try (with_reducible rfl))
    simp only [List.set_cons_zero, List.set_cons_succ]
    refine U_take 8 66 10 0 0 (v := ?vr8_9) rfl (by kernel_rfl) (by kernel_rfl) hWr8 (by kernel_rfl) (by kernel_rfl) (by kernel_rfl) (by kernel_rfl) (by kernel_rfl) (by kernel_rfl) (fun _ _ _ _ h => h) (by kernel_rfl) ?hyr8_9 (by omega) hH ?_
    case hyr8_9 => (intro w' hSw; clear hSw; go_simp; try (with_reducible rfl))
    simp only [List.set_cons_zero, List.set_cons_succ]
    refine U_take 9 67 9 0 0 (v := ?vr8_10) rfl (by kernel_rfl) (by kernel_rfl) hWr8 (by kernel_rfl) (by kernel_rfl) (by kernel_rfl) (by kernel_rfl) (by kernel_rfl) (by kernel_rfl) (fun _ _ _ _ h => h) (by kernel_rfl) ?hyr8_10 (by omega) hH ?_
    case hyr8_10 => (intro w' hSw; clear hSw; go_simp; try (with_reducible rfl))
    simp only [List.set_cons_zero, List.set_cons_succ]
    refine U_take 10 68 8 0 0 (v := ?vr8_11) rfl (by kernel_rfl) (by kernel_rfl) hWr8 (by kernel_rfl) (by kernel_rfl) (by kernel_rfl) (by kernel_rfl) (by kernel_rfl) (by kernel_rfl) (fun _ _ _ _ h => h) (by kernel_rfl) ?hyr8_11 (by omega) hH ?_
    case hyr8_11 => (intro w' hSw; clear hSw; go_simp; try (with_reducible rfl))
    simp only [List.set_cons_zero, List.set_cons_succ]
    refine U_take 12 70 7 0 0 (v := ?vr8_12) rfl (by kernel_rfl) (by kernel_rfl) hWr8 (by kernel_rfl) (by kernel_rfl) (by kernel_rfl) (by kernel_rfl) (by kernel_rfl) (by kernel_rfl) (fun _ _ _ _ h => h) (by kernel_rfl) ?hyr8_12 (by omega) hH ?_
    case hyr8_12 => (intro w' hSw; clear hSw; go_simp; try (with_reducible rfl))
    simp only [List.set_cons_zero, List.set_cons_succ]
    refine U_take 15 73 6 0 0 (v := ?vr8_13) rfl (by kernel_rfl) (by kernel_rfl) hWr8 (by kernel_rfl) (by kernel_rfl) (by kernel_rfl) (by kernel_rfl) (by kernel_rfl) (by kernel_rfl) (fun _ _ _ _ h => h) (by kernel_rfl) ?hyr8_13 (by omega) hH ?_
    case hyr8_13 => (intro w' hSw; clear hSw; go_simp; try (with_reducible rfl))
    simp only [List.set_cons_zero, List.set_cons_succ]
    refine wpAnyU_ready (rs := [11]) (by kernel_rfl) (by simp) ?_
    refine AllReadyU.cons 0 (by kernel_rfl) (o := _) rfl (fun K hK => ?_) AllReadyU.nil
    try clear hb
    go_simp
    (go_at_call 43; refine (HD4.out _).mono ?_; rintro e wn ⟨rfl, hb⟩)
    refine hK.out _ _ ?hsr8_14 (fun hH2 => ?hrr8_14)
    case hsr8_14 => exact S2i0 (by have hG := hH; replace hG := S2o0 hG; (try dsimp only at hG); have q0 := hG.1; have q1 := hG.2.1; have q2 := hG.2.2.1; have q3 := hG.2.2.2.1; have q4 := hG.2.2.2.2; exact ⟨keepRq hb q0, keepJg hb q1, keepVg hb q2, keepVg hb q3, keepVg hb q4⟩)
    clear hK K hH
    have hH := hH2
    clear hH2
    try simp only [Act.put, List.setIfInBounds_toArray, List.set_cons_zero, List.set_cons_succ]
    refine wpAnyU_ready (rs := [13]) (by kernel_rfl) (by simp) ?_
    refine AllReadyU.cons 0 (by kernel_rfl) (o := _) rfl (fun K hK => ?_) AllReadyU.nil
    try clear hb
    go_simp
    (go_at_call 54; refine (HD6.out _).mono ?_; rintro e wn ⟨rfl, hb⟩)
    refine hK.out _ _ ?hsr8_15 (fun hH2 => ?hrr8_15)
    case hsr8_15 => exact S2i0 (by have hG := hH; replace hG := S2o0 hG; (try dsimp only at hG); have q0 := hG.1; have q1 := hG.2.1; have q2 := hG.2.2.1; have q3 := hG.2.2.2.1; have q4 := hG.2.2.2.2; exact ⟨keepRq hb q0, keepJg hb q1, keepVg hb q2, keepVg hb q3, keepVg hb q4⟩)
    clear hK K hH
    have hH := hH2
    clear hH2
    try simp only [Act.put, List.setIfInBounds_toArray, List.set_cons_zero, List.set_cons_succ]
    refine wpAnyU_ready (rs := [14]) (by kernel_rfl) (by simp) ?_
    refine AllReadyU.cons 0 (by kernel_rfl) (o := _) rfl (fun K hK => ?_) AllReadyU.nil
    try clear hb
    go_simp
    (go_at_call 44; refine (HD7.out _).mono ?_; rintro e wn ⟨rfl, hb⟩)
    refine hK.out _ _ ?hsr8_16 (fun hH2 => ?hrr8_16)
    case hsr8_16 => exact S2i0 (by have hG := hH; replace hG := S2o0 hG; (try dsimp only at hG); have q0 := hG.1; have q1 := hG.2.1; have q2 := hG.2.2.1; have q3 := hG.2.2.2.1; have q4 := hG.2.2.2.2; exact ⟨keepRq hb q0, keepJg hb q1, keepVg hb q2, keepVg hb q3, keepVg hb q4⟩)
    clear hK K hH
    have hH := hH2
    clear hH2
    try simp only [Act.put, List.setIfInBounds_toArray, List.set_cons_zero, List.set_cons_succ]
    refine wpAnyU_ready (rs := [16]) (by kernel_rfl) (by simp) ?_
    refine AllReadyU.cons 0 (by kernel_rfl) (o := _) rfl (fun K hK => ?_) AllReadyU.nil
    try clear hb
    go_simp
    (go_at_call 54; refine (HD9.out _).mono ?_; rintro e wn ⟨rfl, hb⟩)
    refine hK.out _ _ ?hsr8_17 (fun hH2 => ?hrr8_17)
    case hsr8_17 => exact S2i0 (by have hG := hH; replace hG := S2o0 hG; (try dsimp only at hG); have q0 := hG.1; have q1 := hG.2.1; have q2 := hG.2.2.1; have q3 := hG.2.2.2.1; have q4 := hG.2.2.2.2; exact ⟨keepRq hb q0, keepJg hb q1, keepVg hb q2, keepVg hb q3, keepVg hb q4⟩)
    clear hK K hH
    have hH := hH2
    clear hH2
    try simp only [Act.put, List.setIfInBounds_toArray, List.set_cons_zero, List.set_cons_succ]
    refine wpAnyU_ready (rs := [17]) (by kernel_rfl) (by simp) ?_
    refine AllReadyU.cons 0 (by kernel_rfl) (o := _) rfl (fun K hK => ?_) AllReadyU.nil
    try clear hb
    go_simp
    (go_at_call 40; refine (HD10.out _).mono ?_; rintro e wn ⟨rfl, hb⟩)
    refine hK.out _ _ ?hsr8_18 (fun hH2 => ?hrr8_18)
    case hsr8_18 => exact S2i0 (by have hG := hH; replace hG := S2o0 hG; (try dsimp only at hG); have q0 := hG.1; have q1 := hG.2.1; have q2 := hG.2.2.1; have q3 := hG.2.2.2.1; have q4 := hG.2.2.2.2; exact ⟨keepRq hb q0, keepJg hb q1, keepVg hb q2, keepVg hb q3, keepVg hb q4⟩)
    clear hK K hH
    have hH := hH2
    clear hH2
    try simp only [Act.put, List.setIfInBounds_toArray, List.set_cons_zero, List.set_cons_succ]
    refine wpAnyU_ready (rs := [18]) (by kernel_rfl) (by simp) ?_
    refine AllReadyU.cons 1 (by kernel_rfl) (o := _) rfl (fun K hK => ?_) AllReadyU.nil
    try clear hb
    have hG := hH
    replace hG := S2o0 hG; (try dsimp only at hG); have q0 := hG.1; have q1 := hG.2.1; have q2 := hG.2.2.1; have q3 := hG.2.2.2.1; have q4 := hG.2.2.2.2
    have HRX := hid q0
    clear hG q0 q1 q2 q3 q4
    go_simp
    (go_at_call 56; refine ((rpushed2_calls cap g ka kb L e1 e2 e3 e4 j1 j2 _ HRX.out.bl HRX.out.lo9 hab hka hkb h64 xa xb HXA.out HXB.out HJB.out.1 HJB.out.2)).mono ?_; rintro e wn ⟨L2, rfl, hbl2, hm2, hg2⟩)
    refine hK.out _ _ ?hsr8_19 (fun hH2 => ?hrr8_19)
    case hsr8_19 => exact S2i1
    clear hK K hH
    have hH := hH2
    clear hH2
    try simp only [Act.put, List.setIfInBounds_toArray, List.set_cons_zero, List.set_cons_succ]
    have HB2 := hid hbl2
    have HM2 := hid hm2
    have HG2 := hid (grown_trans HRX.out.gr hg2)
    clear hbl2 hm2 hg2
    refine wpAnyU_done (by kernel_rfl) ?_ _ _
    refine NoPanic.normal ?_
    go_wp2
    exact bodyPost_ret (v := .tuple #[]) (by simp [results, Try.results65, go_sem]) rfl ⟨L2, rfl, HB2.out, by rw [HFIN.out]; exact HM2.out, HG2.out⟩
end
end Go.Proofs.Ytbajmekmpgfpeaa
