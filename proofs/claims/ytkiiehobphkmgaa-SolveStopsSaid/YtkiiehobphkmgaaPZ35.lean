/- Parts of a proof: contracts and laws. -/
import Derived.Test.YtkiiehobphkmgaaPZ30
import Derived.Test.YtkiiehobphkmgaaPZ34
namespace Go.Proofs.Ytkiiehobphkmgaa
section
set_option linter.unusedVariables false
set_option linter.unusedSimpArgs false
open Go.RowKit

structure Cg (w : World) (g : Nat) (x : Ct) : Prop where
  c0 : w.cell? ⟨g, 0, none⟩ = some (.int .i64 x.a)
  c1 : w.cell? ⟨g, 1, none⟩ = some (.int .i64 x.b)
  c2 : w.cell? ⟨g, 2, none⟩ = some (.int .i64 x.id)
  c3 : w.cell? ⟨g, 3, none⟩ = some (.int .i64 x.px)
  c4 : w.cell? ⟨g, 4, none⟩ = some (.int .i64 x.py)
  c5 : w.cell? ⟨g, 5, none⟩ = some (.int .i64 x.nx)
  c6 : w.cell? ⟨g, 6, none⟩ = some (.int .i64 x.ny)
  c7 : w.cell? ⟨g, 7, none⟩ = some (.int .i64 x.dep)
  c8 : w.cell? ⟨g, 8, none⟩ = some (.int .i64 x.push)
  c9 : w.cell? ⟨g, 9, none⟩ = some (.int .i64 x.sli)
theorem keepCg {w w' : World} {g : Nat} {x : Ct} (hb : Below w.heap.size w w') (h : Cg w g x) : Cg w' g x := ⟨keepCell hb h.c0, keepCell hb h.c1, keepCell hb h.c2, keepCell hb h.c3, keepCell hb h.c4, keepCell hb h.c5, keepCell hb h.c6, keepCell hb h.c7, keepCell hb h.c8, keepCell hb h.c9⟩
theorem Cg.drew {w : World} {g : Nat} {x : Ct} (h : Cg w g x) : Cg w.drew g x := keepCg (Below.refl _ _).drew h
theorem Cg.alloc {w : World} {g : Nat} {x : Ct} (h : Cg w g x) (o : Obj) : Cg (w.alloc o) g x := keepCg ((Below.refl _ _).alloc (Nat.le_refl _) _) h
theorem Cg.next {w w' : World} {g k : Nat} {x : Ct} (h : Cg w g x) (hg : w.grownBy w' (some k)) (hne : g ≠ k) : Cg w' g x :=
  have e := hg.block g (lt_of_cell h.c0) (by simpa using hne)
  ⟨(World.cell?_of_block e).trans h.c0, (World.cell?_of_block e).trans h.c1, (World.cell?_of_block e).trans h.c2, (World.cell?_of_block e).trans h.c3, (World.cell?_of_block e).trans h.c4, (World.cell?_of_block e).trans h.c5, (World.cell?_of_block e).trans h.c6, (World.cell?_of_block e).trans h.c7, (World.cell?_of_block e).trans h.c8, (World.cell?_of_block e).trans h.c9⟩

structure Rt (w0 : World) (g : Nat) (L : List BE) (w : World) : Prop where
  bl : BL w g L
  gr : w0.grownBy w (some g)
  lt : g < w0.heap.size
theorem keepRt {w0 : World} {g : Nat} {L : List BE} {w w' : World} (hb : Below w.heap.size w w') (h : Rt w0 g L w) : Rt w0 g L w' := ⟨keepBL hb h.bl, grown_trans h.gr (grown_of_below hb), h.lt⟩
theorem Rt.drew {w0 : World} {g : Nat} {L : List BE} {w : World} (h : Rt w0 g L w) : Rt w0 g L w.drew := keepRt (Below.refl _ _).drew h
theorem Rt.alloc {w0 : World} {g : Nat} {L : List BE} {w : World} (h : Rt w0 g L w) (o : Obj) : Rt w0 g L (w.alloc o) := keepRt ((Below.refl _ _).alloc (Nat.le_refl _) _) h
def RetPush (g : Nat) (L : List BE) (Q : List QB) (w : World) (e : Ending) (w' : World) : Prop := ∃ L' : List BE, e = .returned (.tuple #[]) ∧ BL w' g L' ∧ L'.map valB = Q ∧ w.grownBy w' (some g) ∧ ∀ y ∈ L', y ∈ L ∨ ∀ bx off, y.A = some ⟨bx, off, none⟩ → w.heap.size ≤ bx
theorem Rt.setA {w0 : World} {g : Nat} {L : List BE} {w : World} (h : Rt w0 g L w) {k : Nat} (hk : k < L.length) (x : BE) (hs : Sl w x.A x.n x.c x.l) (hn : ∀ bx off, x.A = some ⟨bx, off, none⟩ → bx ≠ g) : Rt w0 g (L.set k x) (setBo w g (k * 13) x.b x.A x.n x.c) :=
  ⟨h.bl.set hk x hs hn, grown_trans h.gr (setBo_grown _ _ _ _ _ _ _), h.lt⟩
set_option maxRecDepth 100000 in
set_option maxHeartbeats 8000000 in
theorem sspeed_calls (cap gs g ka kb : Nat) (L : List BE) (x : Ct) (w : World) (h : BL w g L) (hv : ∀ y ∈ L, bodyE y.b y.l = 0) (hsv : w.cell? ⟨gs, 0, none⟩ = some (.slice (some ⟨g, 0, none⟩) L.length cap)) (hgs : g ≠ gs) (hab : ka < kb) (hka : ka < L.length) (hkb : kb < L.length) (hxa : x.a = ka) (hxb : x.b = kb) (h64 : L.length ≤ 64) :
    Calls Try.prog 32 #[.pointer (some ⟨gs, 0, none⟩), ctV x] w (Ret (vecV (subF (speedX (qB (L.map valB) x.b) x.px x.py) (speedX (qB (L.map valB) x.a) x.px x.py)) (subF (speedY (qB (L.map valB) x.b) x.px x.py) (speedY (qB (L.map valB) x.a) x.px x.py))) w) := by
  obtain ⟨xa, HXA0⟩ : ∃ y, y = L[ka] := ⟨_, rfl⟩
  obtain ⟨xb, HXB0⟩ : ∃ y, y = L[kb] := ⟨_, rfl⟩
  have eA : (L.map valB)[ka]? = some (valB xa) := by rw [List.getElem?_map, List.getElem?_eq_getElem hka, HXA0]; rfl
  have eB : (L.map valB)[kb]? = some (valB xb) := by rw [List.getElem?_map, List.getElem?_eq_getElem hkb, HXB0]; rfl
  have hea := hv xa (by rw [HXA0]; exact List.getElem_mem hka)
  have heb := hv xb (by rw [HXB0]; exact List.getElem_mem hkb)
  have HXA := hid HXA0
  have HXB := hid HXB0
  have HMA : Hid (xa ∈ L) := by show _ ∈ _; rw [HXA0]; exact List.getElem_mem hka
  have HMB : Hid (xb ∈ L) := by show _ ∈ _; rw [HXB0]; exact List.getElem_mem hkb
  have hac : (ka : Int) < (L.length : Int) := by omega
  have hbc : (kb : Int) < (L.length : Int) := by omega
  have HGS := hid hgs
  rw [qB_at hxa eA, qB_at hxb eB]
  show Calls _ _ _ _ (Ret (vecV (subF (speedX xb.b x.px x.py) (speedX xa.b x.px x.py)) (subF (speedY xb.b x.px x.py) (speedY xa.b x.px x.py))) w)
  obtain ⟨W, hW⟩ : ∃ W, W = (w.alloc (.cells #[.int .i64 x.a, .int .i64 x.b, .int .i64 x.id, .int .i64 x.px, .int .i64 x.py, .int .i64 x.nx, .int .i64 x.ny, .int .i64 x.dep, .int .i64 x.push, .int .i64 x.sli] 37)).alloc (.cells #[.int .i64 0, .int .i64 0] 24) := ⟨_, rfl⟩
  have hB : Below w.heap.size w W := by rw [hW]; go_grown
  have HRT : Hid (Rt w g L W) := ⟨keepBL hB h, grown_of_below hB, h.cl.lt⟩
  have HSV := hid (keepCell hB hsv)
  have HCG : Hid (Cg W w.heap.size x) := by show Cg _ _ _; rw [hW]; exact ⟨by go_simp, by go_simp, by go_simp, by go_simp, by go_simp, by go_simp, by go_simp, by go_simp, by go_simp, by go_simp⟩
  have HVR : Hid (VZ W (w.heap.size + 1)) := by show VZ _ _; rw [hW]; exact ⟨⟨.int .i64 0, .int .i64 0, by go_simp, by go_simp⟩, fun j => by go_simp⟩
  obtain ⟨s1, hs1⟩ : ∃ z, z = speedX xb.b x.px x.py := ⟨_, rfl⟩
  obtain ⟨s2, hs2⟩ : ∃ z, z = speedY xb.b x.px x.py := ⟨_, rfl⟩
  obtain ⟨t1, ht1⟩ : ∃ z, z = speedX xa.b x.px x.py := ⟨_, rfl⟩
  obtain ⟨t2, ht2⟩ : ∃ z, z = speedY xa.b x.px x.py := ⟨_, rfl⟩
  have HVA : Hid (∀ w', Rt w g L w' → Calls Try.prog 9 #[bodyV xa.b xa.A xa.n xa.c, vecV x.px x.py] w' (Ret (vecV t1 t2) w')) := fun w' hr => by
    have := at_calls xa.b xa.A xa.n xa.c xa.l x.px x.py w' (hr.bl.co xa HMA.out)
    rwa [show atX xa.b xa.l x.px x.py = t1 by rw [ht1]; unfold atX speedX; rw [if_neg (by simp [hea])], show atY xa.b xa.l x.px x.py = t2 by rw [ht2]; unfold atY speedY; rw [if_neg (by simp [hea])]] at this
  have HVB : Hid (∀ w', Rt w g L w' → Calls Try.prog 9 #[bodyV xb.b xb.A xb.n xb.c, vecV x.px x.py] w' (Ret (vecV s1 s2) w')) := fun w' hr => by
    have := at_calls xb.b xb.A xb.n xb.c xb.l x.px x.py w' (hr.bl.co xb HMB.out)
    rwa [show atX xb.b xb.l x.px x.py = s1 by rw [hs1]; unfold atX speedX; rw [if_neg (by simp [heb])], show atY xb.b xb.l x.px x.py = s2 by rw [hs2]; unfold atY speedY; rw [if_neg (by simp [heb])]] at this
  obtain ⟨d1, hd1⟩ : ∃ z, z = subF s1 t1 := ⟨_, rfl⟩
  obtain ⟨d2, hd2⟩ : ∃ z, z = subF s2 t2 := ⟨_, rfl⟩
  have HC6 := hid (vsub_calls s1 s2 t1 t2)
  rw [← hd1, ← hd2] at HC6
  have HD1 : Hid (d1 = subF (speedX xb.b x.px x.py) (speedX xa.b x.px x.py)) := by rw [hd1, hs1, ht1]; rfl
  have HD2 : Hid (d2 = subF (speedY xb.b x.px x.py) (speedY xa.b x.px x.py)) := by rw [hd2, hs2, ht2]; rfl
  have HBW := hid hB
  have HXI := hid (And.intro hxa hxb)
  clear h hv hsv hgs HXA0 HXB0 eA eB hea heb hs1 hs2 ht1 ht2 hd1 hd2 hB hxa hxb
  go_enter Try.func32, Try.ntmps32
  go_upto_region 1 with fail
  rw [← hW]
  obtain ⟨hxa, hxb⟩ := HXI.out
  clear hW HXI
  refine wp_region_noPanic ?_
  refine wp_region_U (S := (S2 (fun w' => Rt w g L w' ∧ w'.cell? ⟨gs, 0, none⟩ = some (.slice (some ⟨g, 0, none⟩) L.length cap) ∧ Cg w' w.heap.size x ∧ VZ w' (w.heap.size + 1) ∧ Below w.heap.size w w'))) (T := (fun j => [0, 0, 0, 0, 0, 0, 0, 0, 0, 0, 0, 0, 0, 0, 0, 0, 0, 0, 0, 0, 0, 0, 0, 1].getD j 0)) (by kernel_rfl) (S2i0 ⟨HRT.out.drew, HSV.out, HCG.out.drew, HVR.out.drew, HBW.out.drew⟩) (fun hH => ?_)
  have hWr4 : Weaker (S2 (fun w' => Rt w g L w' ∧ w'.cell? ⟨gs, 0, none⟩ = some (.slice (some ⟨g, 0, none⟩) L.length cap) ∧ Cg w' w.heap.size x ∧ VZ w' (w.heap.size + 1) ∧ Below w.heap.size w w')) := weaker2 _
  refine U_take 0 5 23 0 0 (v := ?vr4_1) rfl (by kernel_rfl) (by kernel_rfl) hWr4 (by kernel_rfl) (by kernel_rfl) (by kernel_rfl) (by kernel_rfl) (by kernel_rfl) (by kernel_rfl) (fun _ _ _ _ h => h) (by kernel_rfl) ?hyr4_1 (by omega) hH ?_
  case hyr4_1 => (intro w' hSw; clear hSw; go_simp; try (with_reducible rfl))
  simp only [List.set_cons_zero, List.set_cons_succ]
  refine U_take 1 6 22 0 0 (v := ?vr4_2) rfl (by kernel_rfl) (by kernel_rfl) hWr4 (by kernel_rfl) (by kernel_rfl) (by kernel_rfl) (by kernel_rfl) (by kernel_rfl) (by kernel_rfl) (fun _ _ _ _ h => h) (by kernel_rfl) ?hyr4_2 (by omega) hH ?_
  case hyr4_2 => (intro w' hSw; clear hSw; go_simp; try (with_reducible rfl))
  simp only [List.set_cons_zero, List.set_cons_succ]
  refine U_take 2 7 21 0 0 (v := ?vr4_3) rfl (by kernel_rfl) (by kernel_rfl) hWr4 (by kernel_rfl) (by kernel_rfl) (by kernel_rfl) (by kernel_rfl) (by kernel_rfl) (by kernel_rfl) (fun _ _ _ _ h => h) (by kernel_rfl) ?hyr4_3 (by omega) hH ?_
  case hyr4_3 => (intro w' hSw; clear hSw; go_simp; try (with_reducible rfl))
  simp only [List.set_cons_zero, List.set_cons_succ]
  refine U_take 3 8 20 0 0 (v := ?vr4_4) rfl (by kernel_rfl) (by kernel_rfl) hWr4 (by kernel_rfl) (by kernel_rfl) (by kernel_rfl) (by kernel_rfl) (by kernel_rfl) (by kernel_rfl) (fun _ _ _ _ h => h) (by kernel_rfl) ?hyr4_4 (by omega) hH ?_
  case hyr4_4 => (intro w' hSw; replace hSw := S2o0 hSw; (try dsimp only at hSw); have q0 := hSw.1; have q1 := hSw.2.1; have q2 := hSw.2.2.1; have q3 := hSw.2.2.2.1; have q4 := hSw.2.2.2.2; obtain ⟨b0_0, b0_1, b0_2, b0_3, b0_4, b0_5, b0_6, b0_7, b0_8, b0_9, b0_10, b0_11, b0_12⟩ := cells_b0 (q0).bl.cl hka HXA.out; obtain ⟨c0_0, c0_1, c0_2, c0_3, c0_4, c0_5, c0_6, c0_7, c0_8, c0_9, c0_10, c0_11, c0_12⟩ := cells_b0 (q0).bl.cl hkb HXB.out; obtain ⟨qa2_0, qa2_1, qa2_2, qa2_3, qa2_4, qa2_5, qa2_6, qa2_7, qa2_8, qa2_9⟩ := id q2; skip; go_simp; try (with_reducible rfl))
  simp only [List.set_cons_zero, List.set_cons_succ]
  refine U_take 4 9 19 0 0 (v := ?vr4_5) rfl (by kernel_rfl) (by kernel_rfl) hWr4 (by kernel_rfl) (by kernel_rfl) (by kernel_rfl) (by kernel_rfl) (by kernel_rfl) (by kernel_rfl) (fun _ _ _ _ h => h) (by kernel_rfl) ?hyr4_5 (by omega) hH ?_
  case hyr4_5 => (intro w' hSw; clear hSw; go_simp; try (with_reducible rfl))
  simp only [List.set_cons_zero, List.set_cons_succ]
  refine U_take 5 10 18 0 0 (v := ?vr4_6) rfl (by kernel_rfl) (by kernel_rfl) hWr4 (by kernel_rfl) (by kernel_rfl) (by kernel_rfl) (by kernel_rfl) (by kernel_rfl) (by kernel_rfl) (fun _ _ _ _ h => h) (by kernel_rfl) ?hyr4_6 (by omega) hH ?_
  case hyr4_6 => (intro w' hSw; replace hSw := S2o0 hSw; (try dsimp only at hSw); have q0 := hSw.1; have q1 := hSw.2.1; have q2 := hSw.2.2.1; have q3 := hSw.2.2.2.1; have q4 := hSw.2.2.2.2; obtain ⟨b0_0, b0_1, b0_2, b0_3, b0_4, b0_5, b0_6, b0_7, b0_8, b0_9, b0_10, b0_11, b0_12⟩ := cells_b0 (q0).bl.cl hka HXA.out; obtain ⟨c0_0, c0_1, c0_2, c0_3, c0_4, c0_5, c0_6, c0_7, c0_8, c0_9, c0_10, c0_11, c0_12⟩ := cells_b0 (q0).bl.cl hkb HXB.out; obtain ⟨qa2_0, qa2_1, qa2_2, qa2_3, qa2_4, qa2_5, qa2_6, qa2_7, qa2_8, qa2_9⟩ := id q2; skip; go_simp; try (with_reducible rfl))
  simp only [List.set_cons_zero, List.set_cons_succ]
  refine U_take 6 11 17 0 0 (v := ?vr4_7) rfl (by kernel_rfl) (by kernel_rfl) hWr4 (by kernel_rfl) (by kernel_rfl) (by kernel_rfl) (by kernel_rfl) (by kernel_rfl) (by kernel_rfl) (fun _ _ _ _ h => h) (by kernel_rfl) ?hyr4_7 (by omega) hH ?_
  case hyr4_7 => (intro w' hSw; clear hSw; go_simp; try (with_reducible rfl))
  simp only [List.set_cons_zero, List.set_cons_succ]
  refine U_take 7 12 16 0 0 (v := ?vr4_8) rfl (by kernel_rfl) (by kernel_rfl) hWr4 (by kernel_rfl) (by kernel_rfl) (by kernel_rfl) (by kernel_rfl) (by kernel_rfl) (by kernel_rfl) (fun _ _ _ _ h => h) (by kernel_rfl) ?hyr4_8 (by omega) hH ?_
  case hyr4_8 => (intro w' hSw; replace hSw := S2o0 hSw; (try dsimp only at hSw); have q0 := hSw.1; have q1 := hSw.2.1; have q2 := hSw.2.2.1; have q3 := hSw.2.2.2.1; have q4 := hSw.2.2.2.2; obtain ⟨b0_0, b0_1, b0_2, b0_3, b0_4, b0_5, b0_6, b0_7, b0_8, b0_9, b0_10, b0_11, b0_12⟩ := cells_b0 (q0).bl.cl hka HXA.out; obtain ⟨c0_0, c0_1, c0_2, c0_3, c0_4, c0_5, c0_6, c0_7, c0_8, c0_9, c0_10, c0_11, c0_12⟩ := cells_b0 (q0).bl.cl hkb HXB.out; obtain ⟨qa2_0, qa2_1, qa2_2, qa2_3, qa2_4, qa2_5, qa2_6, qa2_7, qa2_8, qa2_9⟩ := id q2; skip; go_simp; try (with_reducible rfl))
  simp only [List.set_cons_zero, List.set_cons_succ]
  refine U_take 8 13 15 0 0 (v := ?vr4_9) rfl (by kernel_rfl) (by kernel_rfl) hWr4 (by kernel_rfl) (by kernel_rfl) (by kernel_rfl) (by kernel_rfl) (by kernel_rfl) (by kernel_rfl) (fun _ _ _ _ h => h) (by kernel_rfl) ?hyr4_9 (by omega) hH ?_
  case hyr4_9 => (intro w' hSw; clear hSw; go_simp; try (with_reducible rfl))
  simp only [List.set_cons_zero, List.set_cons_succ]
  refine U_take 9 14 14 0 0 (v := ?vr4_10) rfl (by kernel_rfl) (by kernel_rfl) hWr4 (by kernel_rfl) (by kernel_rfl) (by kernel_rfl) (by kernel_rfl) (by kernel_rfl) (by kernel_rfl) (fun _ _ _ _ h => h) (by kernel_rfl) ?hyr4_10 (by omega) hH ?_
  case hyr4_10 => (intro w' hSw; replace hSw := S2o0 hSw; (try dsimp only at hSw); have q0 := hSw.1; have q1 := hSw.2.1; have q2 := hSw.2.2.1; have q3 := hSw.2.2.2.1; have q4 := hSw.2.2.2.2; obtain ⟨b0_0, b0_1, b0_2, b0_3, b0_4, b0_5, b0_6, b0_7, b0_8, b0_9, b0_10, b0_11, b0_12⟩ := cells_b0 (q0).bl.cl hka HXA.out; obtain ⟨c0_0, c0_1, c0_2, c0_3, c0_4, c0_5, c0_6, c0_7, c0_8, c0_9, c0_10, c0_11, c0_12⟩ := cells_b0 (q0).bl.cl hkb HXB.out; obtain ⟨qa2_0, qa2_1, qa2_2, qa2_3, qa2_4, qa2_5, qa2_6, qa2_7, qa2_8, qa2_9⟩ := id q2; skip; go_simp; try (with_reducible rfl))
  simp only [List.set_cons_zero, List.set_cons_succ]
  refine U_take 11 16 13 0 0 (v := ?vr4_11) rfl (by kernel_rfl) (by kernel_rfl) hWr4 (by kernel_rfl) (by kernel_rfl) (by kernel_rfl) (by kernel_rfl) (by kernel_rfl) (by kernel_rfl) (fun _ _ _ _ h => h) (by kernel_rfl) ?hyr4_11 (by omega) hH ?_
  case hyr4_11 => (intro w' hSw; clear hSw; go_simp; try (with_reducible rfl))
  simp only [List.set_cons_zero, List.set_cons_succ]
  refine U_take 12 17 12 0 0 (v := ?vr4_12) rfl (by kernel_rfl) (by kernel_rfl) hWr4 (by kernel_rfl) (by kernel_rfl) (by kernel_rfl) (by kernel_rfl) (by kernel_rfl) (by kernel_rfl) (fun _ _ _ _ h => h) (by kernel_rfl) ?hyr4_12 (by omega) hH ?_
  case hyr4_12 => (intro w' hSw; clear hSw; go_simp; try (with_reducible rfl))
  simp only [List.set_cons_zero, List.set_cons_succ]
  refine U_take 13 18 11 0 0 (v := ?vr4_13) rfl (by kernel_rfl) (by kernel_rfl) hWr4 (by kernel_rfl) (by kernel_rfl) (by kernel_rfl) (by kernel_rfl) (by kernel_rfl) (by kernel_rfl) (fun _ _ _ _ h => h) (by kernel_rfl) ?hyr4_13 (by omega) hH ?_
  case hyr4_13 => (intro w' hSw; clear hSw; go_simp; try (with_reducible rfl))
  simp only [List.set_cons_zero, List.set_cons_succ]
  refine U_take 14 19 10 0 0 (v := ?vr4_14) rfl (by kernel_rfl) (by kernel_rfl) hWr4 (by kernel_rfl) (by kernel_rfl) (by kernel_rfl) (by kernel_rfl) (by kernel_rfl) (by kernel_rfl) (fun _ _ _ _ h => h) (by kernel_rfl) ?hyr4_14 (by omega) hH ?_
  case hyr4_14 => (intro w' hSw; replace hSw := S2o0 hSw; (try dsimp only at hSw); have q0 := hSw.1; have q1 := hSw.2.1; have q2 := hSw.2.2.1; have q3 := hSw.2.2.2.1; have q4 := hSw.2.2.2.2; obtain ⟨b0_0, b0_1, b0_2, b0_3, b0_4, b0_5, b0_6, b0_7, b0_8, b0_9, b0_10, b0_11, b0_12⟩ := cells_b0 (q0).bl.cl hka HXA.out; obtain ⟨c0_0, c0_1, c0_2, c0_3, c0_4, c0_5, c0_6, c0_7, c0_8, c0_9, c0_10, c0_11, c0_12⟩ := cells_b0 (q0).bl.cl hkb HXB.out; obtain ⟨qa2_0, qa2_1, qa2_2, qa2_3, qa2_4, qa2_5, qa2_6, qa2_7, qa2_8, qa2_9⟩ := id q2; skip; go_simp; try (with_reducible rfl))
  simp only [List.set_cons_zero, List.set_cons_succ]
  refine U_take 15 20 9 0 0 (v := ?vr4_15) rfl (by kernel_rfl) (by kernel_rfl) hWr4 (by kernel_rfl) (by kernel_rfl) (by kernel_rfl) (by kernel_rfl) (by kernel_rfl) (by kernel_rfl) (fun _ _ _ _ h => h) (by kernel_rfl) ?hyr4_15 (by omega) hH ?_
  case hyr4_15 => (intro w' hSw; clear hSw; go_simp; try (with_reducible rfl))
  simp only [List.set_cons_zero, List.set_cons_succ]
  refine U_take 16 21 8 0 0 (v := ?vr4_16) rfl (by kernel_rfl) (by kernel_rfl) hWr4 (by kernel_rfl) (by kernel_rfl) (by kernel_rfl) (by kernel_rfl) (by kernel_rfl) (by kernel_rfl) (fun _ _ _ _ h => h) (by kernel_rfl) ?hyr4_16 (by omega) hH ?_
  case hyr4_16 => (intro w' hSw; replace hSw := S2o0 hSw; (try dsimp only at hSw); have q0 := hSw.1; have q1 := hSw.2.1; have q2 := hSw.2.2.1; have q3 := hSw.2.2.2.1; have q4 := hSw.2.2.2.2; obtain ⟨b0_0, b0_1, b0_2, b0_3, b0_4, b0_5, b0_6, b0_7, b0_8, b0_9, b0_10, b0_11, b0_12⟩ := cells_b0 (q0).bl.cl hka HXA.out; obtain ⟨c0_0, c0_1, c0_2, c0_3, c0_4, c0_5, c0_6, c0_7, c0_8, c0_9, c0_10, c0_11, c0_12⟩ := cells_b0 (q0).bl.cl hkb HXB.out; obtain ⟨qa2_0, qa2_1, qa2_2, qa2_3, qa2_4, qa2_5, qa2_6, qa2_7, qa2_8, qa2_9⟩ := id q2; skip; go_simp; try (with_reducible rfl))
  simp only [List.set_cons_zero, List.set_cons_succ]
  refine U_take 17 22 7 0 0 (v := ?vr4_17) rfl (by kernel_rfl) (by kernel_rfl) hWr4 (by kernel_rfl) (by kernel_rfl) (by kernel_rfl) (by kernel_rfl) (by kernel_rfl) (by kernel_rfl) (fun _ _ _ _ h => h) (by kernel_rfl) ?hyr4_17 (by omega) hH ?_
  case hyr4_17 => (intro w' hSw; clear hSw; go_simp; try (with_reducible rfl))
  simp only [List.set_cons_zero, List.set_cons_succ]
  refine U_take 18 23 6 0 0 (v := ?vr4_18) rfl (by kernel_rfl) (by kernel_rfl) hWr4 (by kernel_rfl) (by kernel_rfl) (by kernel_rfl) (by kernel_rfl) (by kernel_rfl) (by kernel_rfl) (fun _ _ _ _ h => h) (by kernel_rfl) ?hyr4_18 (by omega) hH ?_
  case hyr4_18 => (intro w' hSw; replace hSw := S2o0 hSw; (try dsimp only at hSw); have q0 := hSw.1; have q1 := hSw.2.1; have q2 := hSw.2.2.1; have q3 := hSw.2.2.2.1; have q4 := hSw.2.2.2.2; obtain ⟨b0_0, b0_1, b0_2, b0_3, b0_4, b0_5, b0_6, b0_7, b0_8, b0_9, b0_10, b0_11, b0_12⟩ := cells_b0 (q0).bl.cl hka HXA.out; obtain ⟨c0_0, c0_1, c0_2, c0_3, c0_4, c0_5, c0_6, c0_7, c0_8, c0_9, c0_10, c0_11, c0_12⟩ := cells_b0 (q0).bl.cl hkb HXB.out; obtain ⟨qa2_0, qa2_1, qa2_2, qa2_3, qa2_4, qa2_5, qa2_6, qa2_7, qa2_8, qa2_9⟩ := id q2; skip; go_simp; try (with_reducible rfl))
  simp only [List.set_cons_zero, List.set_cons_succ]
  refine U_take 19 24 5 0 0 (v := ?vr4_19) rfl (by kernel_rfl) (by kernel_rfl) hWr4 (by kernel_rfl) (by kernel_rfl) (by kernel_rfl) (by kernel_rfl) (by kernel_rfl) (by kernel_rfl) (fun _ _ _ _ h => h) (by kernel_rfl) ?hyr4_19 (by omega) hH ?_
  case hyr4_19 => (intro w' hSw; clear hSw; go_simp; try (with_reducible rfl))
  simp only [List.set_cons_zero, List.set_cons_succ]
  refine U_take 20 25 4 0 0 (v := ?vr4_20) rfl (by kernel_rfl) (by kernel_rfl) hWr4 (by kernel_rfl) (by kernel_rfl) (by kernel_rfl) (by kernel_rfl) (by kernel_rfl) (by kernel_rfl) (fun _ _ _ _ h => h) (by kernel_rfl) ?hyr4_20 (by omega) hH ?_
  case hyr4_20 => (intro w' hSw; replace hSw := S2o0 hSw; (try dsimp only at hSw); have q0 := hSw.1; have q1 := hSw.2.1; have q2 := hSw.2.2.1; have q3 := hSw.2.2.2.1; have q4 := hSw.2.2.2.2; obtain ⟨b0_0, b0_1, b0_2, b0_3, b0_4, b0_5, b0_6, b0_7, b0_8, b0_9, b0_10, b0_11, b0_12⟩ := cells_b0 (q0).bl.cl hka HXA.out; obtain ⟨c0_0, c0_1, c0_2, c0_3, c0_4, c0_5, c0_6, c0_7, c0_8, c0_9, c0_10, c0_11, c0_12⟩ := cells_b0 (q0).bl.cl hkb HXB.out; obtain ⟨qa2_0, qa2_1, qa2_2, qa2_3, qa2_4, qa2_5, qa2_6, qa2_7, qa2_8, qa2_9⟩ := id q2; skip; go_simp; try (with_reducible rfl))
  simp only [List.set_cons_zero, List.set_cons_succ]
  refine wpAnyU_ready (rs := [10]) (by kernel_rfl) (by simp) ?_
  refine AllReadyU.cons 0 (by kernel_rfl) (o := _) rfl (fun K hK => ?_) AllReadyU.nil
  try clear hb
  have hG := hH
  replace hG := S2o0 hG; (try dsimp only at hG); have fq0 := hG.1; have fq1 := hG.2.1; have fq2 := hG.2.2.1; have fq3 := hG.2.2.2.1; have fq4 := hG.2.2.2.2
  have HRX := hid fq0
  clear hG fq0 fq1 fq2 fq3 fq4
  go_simp
  (go_at_call 9; refine (HVB.out _ HRX.out).mono ?_; rintro e wn ⟨rfl, hb⟩)
  refine hK.out _ _ ?hsr4_21 (fun hH2 => ?hrr4_21)
  case hsr4_21 => exact S2i0 (by have hG := hH; replace hG := S2o0 hG; (try dsimp only at hG); have q0 := hG.1; have q1 := hG.2.1; have q2 := hG.2.2.1; have q3 := hG.2.2.2.1; have q4 := hG.2.2.2.2; exact ⟨keepRt hb q0, keepCell hb q1, keepCg hb q2, keepVZ hb q3, keepBelow hb q4⟩)
  clear hK K hH
  have hH := hH2
  clear hH2
  try simp only [Act.put, List.setIfInBounds_toArray, List.set_cons_zero, List.set_cons_succ]
  clear HRX
  refine wpAnyU_ready (rs := [21]) (by kernel_rfl) (by simp) ?_
  refine AllReadyU.cons 0 (by kernel_rfl) (o := _) rfl (fun K hK => ?_) AllReadyU.nil
  try clear hb
  have hG := hH
  replace hG := S2o0 hG; (try dsimp only at hG); have fq0 := hG.1; have fq1 := hG.2.1; have fq2 := hG.2.2.1; have fq3 := hG.2.2.2.1; have fq4 := hG.2.2.2.2
  have HRX := hid fq0
  clear hG fq0 fq1 fq2 fq3 fq4
  go_simp
  (go_at_call 9; refine (HVA.out _ HRX.out).mono ?_; rintro e wn ⟨rfl, hb⟩)
  refine hK.out _ _ ?hsr4_22 (fun hH2 => ?hrr4_22)
  case hsr4_22 => exact S2i0 (by have hG := hH; replace hG := S2o0 hG; (try dsimp only at hG); have q0 := hG.1; have q1 := hG.2.1; have q2 := hG.2.2.1; have q3 := hG.2.2.2.1; have q4 := hG.2.2.2.2; exact ⟨keepRt hb q0, keepCell hb q1, keepCg hb q2, keepVZ hb q3, keepBelow hb q4⟩)
  clear hK K hH
  have hH := hH2
  clear hH2
  try simp only [Act.put, List.setIfInBounds_toArray, List.set_cons_zero, List.set_cons_succ]
  clear HRX
  refine wpAnyU_ready (rs := [22]) (by kernel_rfl) (by simp) ?_
  refine AllReadyU.cons 0 (by kernel_rfl) (o := _) rfl (fun K hK => ?_) AllReadyU.nil
  try clear hb
  go_simp
  (go_at_call 21; refine (HC6.out _).mono ?_; rintro e wn ⟨rfl, hb⟩)
  refine hK.out _ _ ?hsr4_23 (fun hH2 => ?hrr4_23)
  case hsr4_23 => exact S2i0 (by have hG := hH; replace hG := S2o0 hG; (try dsimp only at hG); have q0 := hG.1; have q1 := hG.2.1; have q2 := hG.2.2.1; have q3 := hG.2.2.2.1; have q4 := hG.2.2.2.2; exact ⟨keepRt hb q0, keepCell hb q1, keepCg hb q2, keepVZ hb q3, keepBelow hb q4⟩)
  clear hK K hH
  have hH := hH2
  clear hH2
  try simp only [Act.put, List.setIfInBounds_toArray, List.set_cons_zero, List.set_cons_succ]
  refine wpAnyU_ready (rs := [23]) (by kernel_rfl) (by simp) ?_
  refine AllReadyU.cons 1 (by kernel_rfl) (o := _) rfl (fun K hK => ?_) AllReadyU.nil
  try clear hb
  have hG := hH
  replace hG := S2o0 hG; (try dsimp only at hG); have fq0 := hG.1; have fq1 := hG.2.1; have fq2 := hG.2.2.1; have fq3 := hG.2.2.2.1; have fq4 := hG.2.2.2.2
  have HB9 := hid fq4
  obtain ⟨⟨vv0, vv1, y0, y1⟩, yf⟩ := fq3
  have hl9 := lt_of_cell y0
  clear hG fq0 fq1 fq2 fq4
  go_simp
  refine hK.out _ _ ?hsr4_24 (fun hH2 => ?hrr4_24)
  case hsr4_24 => exact S2i1
  clear hK K hH
  have hH := hH2
  clear hH2
  try simp only [Act.put, List.setIfInBounds_toArray, List.set_cons_zero, List.set_cons_succ]
  refine wpAnyU_done (by kernel_rfl) ?_ _ _
  refine NoPanic.normal ?_
  go_wp2
  refine bodyPost_ret (v := vecV d1 d2) (by simp [results, Try.results32, go_sem, y0, y1, hl9]) rfl ⟨by rw [HD1.out, HD2.out], ?_⟩
  exact (HB9.out.setCell (p := ⟨w.heap.size + 1, 0, none⟩) (by show w.heap.size ≤ w.heap.size + 1; omega) _).setCell (p := ⟨w.heap.size + 1, 1, none⟩) (by show w.heap.size ≤ w.heap.size + 1; omega) _
set_option maxRecDepth 100000 in
set_option maxHeartbeats 8000000 in
theorem spush_calls (cap gs g ka kb : Nat) (L : List BE) (x : Ct) (j1 j2 : Int) (w : World) (h : BL w g L) (hv : ∀ y ∈ L, bodyE y.b y.l = 0) (hsv : w.cell? ⟨gs, 0, none⟩ = some (.slice (some ⟨g, 0, none⟩) L.length cap)) (hgs : g ≠ gs) (hab : ka < kb) (hka : ka < L.length) (hkb : kb < L.length) (hxa : x.a = ka) (hxb : x.b = kb) (h64 : L.length ≤ 64) (hj1 : -1099511627776 ≤ j1 ∧ j1 ≤ 1099511627776) (hj2 : -1099511627776 ≤ j2 ∧ j2 ≤ 1099511627776) :
    Calls Try.prog 16 #[.pointer (some ⟨gs, 0, none⟩), ctV x, vecV j1 j2] w (RetPush g L (pushX (L.map valB) x j1 j2) w) := by
  obtain ⟨xa, HXA0⟩ : ∃ y, y = L[ka] := ⟨_, rfl⟩
  obtain ⟨xb, HXB0⟩ : ∃ y, y = L[kb] := ⟨_, rfl⟩
  have eA : (L.map valB)[ka]? = some (valB xa) := by rw [List.getElem?_map, List.getElem?_eq_getElem hka, HXA0]; rfl
  have eB : (L.map valB)[kb]? = some (valB xb) := by rw [List.getElem?_map, List.getElem?_eq_getElem hkb, HXB0]; rfl
  have hea := hv xa (by rw [HXA0]; exact List.getElem_mem hka)
  have heb := hv xb (by rw [HXB0]; exact List.getElem_mem hkb)
  have HXA := hid HXA0
  have HXB := hid HXB0
  have HMA : Hid (xa ∈ L) := by show _ ∈ _; rw [HXA0]; exact List.getElem_mem hka
  have HMB : Hid (xb ∈ L) := by show _ ∈ _; rw [HXB0]; exact List.getElem_mem hkb
  have hac : (ka : Int) < (L.length : Int) := by omega
  have hbc : (kb : Int) < (L.length : Int) := by omega
  have HGS := hid hgs
  have ePX : pushX (L.map valB) x j1 j2 = bothQ (L.map valB) ka kb x.px x.py x.px x.py j1 j2 := by unfold pushX; rw [hxa, hxb, Int.toNat_natCast, Int.toNat_natCast]
  rw [ePX]
  obtain ⟨W, hW⟩ : ∃ W, W = (w.alloc (.cells #[.int .i64 x.a, .int .i64 x.b, .int .i64 x.id, .int .i64 x.px, .int .i64 x.py, .int .i64 x.nx, .int .i64 x.ny, .int .i64 x.dep, .int .i64 x.push, .int .i64 x.sli] 37)).alloc (.cells #[.int .i64 j1, .int .i64 j2] 24) := ⟨_, rfl⟩
  have hB : Below w.heap.size w W := by rw [hW]; go_grown
  have HRT : Hid (Rt w g L W) := ⟨keepBL hB h, grown_of_below hB, h.cl.lt⟩
  have HSV := hid (keepCell hB hsv)
  have HCG : Hid (Cg W w.heap.size x) := by show Cg _ _ _; rw [hW]; exact ⟨by go_simp, by go_simp, by go_simp, by go_simp, by go_simp, by go_simp, by go_simp, by go_simp, by go_simp, by go_simp⟩
  have HVJ : Hid (Vg W (w.heap.size + 1) j1 j2) := by show Vg _ _ _ _; rw [hW]; exact ⟨by go_simp, by go_simp⟩
  have hn1 : IntKind.i64.wrap (-j1) = -j1 := IntWalk.i64_in _ (by omega)
  have hn2 : IntKind.i64.wrap (-j2) = -j2 := IntWalk.i64_in _ (by omega)
  obtain ⟨ya, hya⟩ : ∃ z, z = pushR xa.b (-j1) (-j2) x.px x.py := ⟨_, rfl⟩
  obtain ⟨yb, hyb⟩ : ∃ z, z = pushR xb.b j1 j2 x.px x.py := ⟨_, rfl⟩
  have hlc : ∀ {y : BE}, bodyE y.b y.l = 0 → y.l.length ≤ 8796093022208 := fun {y} he => by have h3 := checkE_len4 (shapeE_zero (bodyE_zero he).1); omega
  have HPA : Hid (∀ w', Rt w g L w' → Calls Try.prog 33 #[bodyV xa.b xa.A xa.n xa.c, vecV (-j1) (-j2), vecV x.px x.py] w' (RetBody ya xa.l w')) := fun w' hr => by
    have := push_calls xa.b xa.A xa.n xa.c xa.l (-j1) (-j2) x.px x.py w' (hr.bl.co xa HMA.out) (hlc hea)
    rwa [pushB_ok hea, ← hya] at this
  have HPB : Hid (∀ {L1 : List BE} w', xb ∈ L1 → Rt w g L1 w' → Calls Try.prog 33 #[bodyV xb.b xb.A xb.n xb.c, vecV j1 j2, vecV x.px x.py] w' (RetBody yb xb.l w')) := fun {L1} w' hm hr => by
    have := push_calls xb.b xb.A xb.n xb.c xb.l j1 j2 x.px x.py w' (hr.bl.co xb hm) (hlc heb)
    rwa [pushB_ok heb, ← hyb] at this
  have HFIN : Hid (∀ (za zb : BE), valB za = (ya, xa.l) → valB zb = (yb, xb.l) → ((L.set ka za).set kb zb).map valB = bothQ (L.map valB) ka kb x.px x.py x.px x.py j1 j2) := fun za zb h1 h2 =>
    both_map hka hkb (by omega) _ _ _ _ _ _ _ _ (by rw [h1, hya, HXA0]) (by rw [h2, hyb, HXB0])
  have HGL := hid h.cl.lt
  have HXI := hid (And.intro hxa hxb)
  clear h hv hsv hgs HXA0 HXB0 eA eB hea heb hya hyb hxa hxb ePX hlc hj1 hj2
  go_enter Try.func16, Try.ntmps16
  go_upto_region 1 with fail
  rw [← hW]
  obtain ⟨hxa, hxb⟩ := HXI.out
  clear hW hB HXI
  refine wp_region_noPanic ?_
  refine wp_region_U (S := (S2 (fun w' => Rt w g L w' ∧ w'.cell? ⟨gs, 0, none⟩ = some (.slice (some ⟨g, 0, none⟩) L.length cap) ∧ Cg w' w.heap.size x ∧ Vg w' (w.heap.size + 1) j1 j2))) (T := (fun j => [0, 0, 0, 0, 0, 0, 0, 0, 0, 0, 0, 0, 0, 0, 0, 0, 0, 0, 0, 0, 0, 0, 0, 0, 0, 1].getD j 0)) (by kernel_rfl) (S2i0 ⟨HRT.out.drew, HSV.out, HCG.out.drew, HVJ.out.drew⟩) (fun hH => ?_)
  have hWr6 : Weaker (S2 (fun w' => Rt w g L w' ∧ w'.cell? ⟨gs, 0, none⟩ = some (.slice (some ⟨g, 0, none⟩) L.length cap) ∧ Cg w' w.heap.size x ∧ Vg w' (w.heap.size + 1) j1 j2)) := weaker2 _
  refine U_take 0 6 25 0 0 (v := ?vr6_1) rfl (by kernel_rfl) (by kernel_rfl) hWr6 (by kernel_rfl) (by kernel_rfl) (by kernel_rfl) (by kernel_rfl) (by kernel_rfl) (by kernel_rfl) (fun _ _ _ _ h => h) (by kernel_rfl) ?hyr6_1 (by omega) hH ?_
  case hyr6_1 => (intro w' hSw; clear hSw; go_simp; try (with_reducible rfl))
  simp only [List.set_cons_zero, List.set_cons_succ]
  refine U_take 1 7 24 0 0 (v := ?vr6_2) rfl (by kernel_rfl) (by kernel_rfl) hWr6 (by kernel_rfl) (by kernel_rfl) (by kernel_rfl) (by kernel_rfl) (by kernel_rfl) (by kernel_rfl) (fun _ _ _ _ h => h) (by kernel_rfl) ?hyr6_2 (by omega) hH ?_
  case hyr6_2 => (intro w' hSw; clear hSw; go_simp; try (with_reducible rfl))
  simp only [List.set_cons_zero, List.set_cons_succ]
  refine U_take 2 8 23 0 0 (v := ?vr6_3) rfl (by kernel_rfl) (by kernel_rfl) hWr6 (by kernel_rfl) (by kernel_rfl) (by kernel_rfl) (by kernel_rfl) (by kernel_rfl) (by kernel_rfl) (fun _ _ _ _ h => h) (by kernel_rfl) ?hyr6_3 (by omega) hH ?_
  case hyr6_3 => (intro w' hSw; clear hSw; go_simp; try (with_reducible rfl))
  simp only [List.set_cons_zero, List.set_cons_succ]
  refine U_take 3 9 22 0 0 (v := ?vr6_4) rfl (by kernel_rfl) (by kernel_rfl) hWr6 (by kernel_rfl) (by kernel_rfl) (by kernel_rfl) (by kernel_rfl) (by kernel_rfl) (by kernel_rfl) (fun _ _ _ _ h => h) (by kernel_rfl) ?hyr6_4 (by omega) hH ?_
  case hyr6_4 => (intro w' hSw; replace hSw := S2o0 hSw; (try dsimp only at hSw); have q0 := hSw.1; have q1 := hSw.2.1; have q2 := hSw.2.2.1; have q3 := hSw.2.2.2; obtain ⟨b0_0, b0_1, b0_2, b0_3, b0_4, b0_5, b0_6, b0_7, b0_8, b0_9, b0_10, b0_11, b0_12⟩ := cells_b0 (q0).bl.cl hka HXA.out; obtain ⟨c0_0, c0_1, c0_2, c0_3, c0_4, c0_5, c0_6, c0_7, c0_8, c0_9, c0_10, c0_11, c0_12⟩ := cells_b0 (q0).bl.cl hkb HXB.out; obtain ⟨qa2_0, qa2_1, qa2_2, qa2_3, qa2_4, qa2_5, qa2_6, qa2_7, qa2_8, qa2_9⟩ := id q2; obtain ⟨qa3_0, qa3_1⟩ := id q3; go_simp; try (with_reducible rfl))
  simp only [List.set_cons_zero, List.set_cons_succ]
  refine U_take 4 10 21 0 0 (v := ?vr6_5) rfl (by kernel_rfl) (by kernel_rfl) hWr6 (by kernel_rfl) (by kernel_rfl) (by kernel_rfl) (by kernel_rfl) (by kernel_rfl) (by kernel_rfl) (fun _ _ _ _ h => h) (by kernel_rfl) ?hyr6_5 (by omega) hH ?_
  case hyr6_5 => (intro w' hSw; clear hSw; go_simp; try (with_reducible rfl))
  simp only [List.set_cons_zero, List.set_cons_succ]
  refine U_take 5 11 20 0 0 (v := ?vr6_6) rfl (by kernel_rfl) (by kernel_rfl) hWr6 (by kernel_rfl) (by kernel_rfl) (by kernel_rfl) (by kernel_rfl) (by kernel_rfl) (by kernel_rfl) (fun _ _ _ _ h => h) (by kernel_rfl) ?hyr6_6 (by omega) hH ?_
  case hyr6_6 => (intro w' hSw; replace hSw := S2o0 hSw; (try dsimp only at hSw); have q0 := hSw.1; have q1 := hSw.2.1; have q2 := hSw.2.2.1; have q3 := hSw.2.2.2; obtain ⟨b0_0, b0_1, b0_2, b0_3, b0_4, b0_5, b0_6, b0_7, b0_8, b0_9, b0_10, b0_11, b0_12⟩ := cells_b0 (q0).bl.cl hka HXA.out; obtain ⟨c0_0, c0_1, c0_2, c0_3, c0_4, c0_5, c0_6, c0_7, c0_8, c0_9, c0_10, c0_11, c0_12⟩ := cells_b0 (q0).bl.cl hkb HXB.out; obtain ⟨qa2_0, qa2_1, qa2_2, qa2_3, qa2_4, qa2_5, qa2_6, qa2_7, qa2_8, qa2_9⟩ := id q2; obtain ⟨qa3_0, qa3_1⟩ := id q3; go_simp; try (with_reducible rfl))
  simp only [List.set_cons_zero, List.set_cons_succ]
  refine U_take 6 12 19 0 0 (v := ?vr6_7) rfl (by kernel_rfl) (by kernel_rfl) hWr6 (by kernel_rfl) (by kernel_rfl) (by kernel_rfl) (by kernel_rfl) (by kernel_rfl) (by kernel_rfl) (fun _ _ _ _ h => h) (by kernel_rfl) ?hyr6_7 (by omega) hH ?_
  case hyr6_7 => (intro w' hSw; clear hSw; go_simp; try (with_reducible rfl))
  simp only [List.set_cons_zero, List.set_cons_succ]
  refine U_take 7 13 18 0 0 (v := ?vr6_8) rfl (by kernel_rfl) (by kernel_rfl) hWr6 (by kernel_rfl) (by kernel_rfl) (by kernel_rfl) (by kernel_rfl) (by kernel_rfl) (by kernel_rfl) (fun _ _ _ _ h => h) (by kernel_rfl) ?hyr6_8 (by omega) hH ?_
  case hyr6_8 => (intro w' hSw; clear hSw; go_simp; try (with_reducible rfl))
  simp only [List.set_cons_zero, List.set_cons_succ]
  refine U_take 8 14 17 0 0 (v := ?vr6_9) rfl (by kernel_rfl) (by kernel_rfl) hWr6 (by kernel_rfl) (by kernel_rfl) (by kernel_rfl) (by kernel_rfl) (by kernel_rfl) (by kernel_rfl) (fun _ _ _ _ h => h) (by kernel_rfl) ?hyr6_9 (by omega) hH ?_
  case hyr6_9 => (intro w' hSw; clear hSw; go_simp; try (with_reducible rfl))
  simp only [List.set_cons_zero, List.set_cons_succ]
  refine U_take 9 15 16 0 0 (v := ?vr6_10) rfl (by kernel_rfl) (by kernel_rfl) hWr6 (by kernel_rfl) (by kernel_rfl) (by kernel_rfl) (by kernel_rfl) (by kernel_rfl) (by kernel_rfl) (fun _ _ _ _ h => h) (by kernel_rfl) ?hyr6_10 (by omega) hH ?_
  case hyr6_10 => (intro w' hSw; replace hSw := S2o0 hSw; (try dsimp only at hSw); have q0 := hSw.1; have q1 := hSw.2.1; have q2 := hSw.2.2.1; have q3 := hSw.2.2.2; obtain ⟨b0_0, b0_1, b0_2, b0_3, b0_4, b0_5, b0_6, b0_7, b0_8, b0_9, b0_10, b0_11, b0_12⟩ := cells_b0 (q0).bl.cl hka HXA.out; obtain ⟨c0_0, c0_1, c0_2, c0_3, c0_4, c0_5, c0_6, c0_7, c0_8, c0_9, c0_10, c0_11, c0_12⟩ := cells_b0 (q0).bl.cl hkb HXB.out; obtain ⟨qa2_0, qa2_1, qa2_2, qa2_3, qa2_4, qa2_5, qa2_6, qa2_7, qa2_8, qa2_9⟩ := id q2; obtain ⟨qa3_0, qa3_1⟩ := id q3; go_simp; try (with_reducible rfl))
  simp only [List.set_cons_zero, List.set_cons_succ]
  refine U_take 10 16 15 0 0 (v := ?vr6_11) rfl (by kernel_rfl) (by kernel_rfl) hWr6 (by kernel_rfl) (by kernel_rfl) (by kernel_rfl) (by kernel_rfl) (by kernel_rfl) (by kernel_rfl) (fun _ _ _ _ h => h) (by kernel_rfl) ?hyr6_11 (by omega) hH ?_
  case hyr6_11 => (intro w' hSw; clear hSw; go_simp; try (with_reducible rfl))
  simp only [List.set_cons_zero, List.set_cons_succ]
  refine U_take 11 17 14 0 0 (v := ?vr6_12) rfl (by kernel_rfl) (by kernel_rfl) hWr6 (by kernel_rfl) (by kernel_rfl) (by kernel_rfl) (by kernel_rfl) (by kernel_rfl) (by kernel_rfl) (fun _ _ _ _ h => h) (by kernel_rfl) ?hyr6_12 (by omega) hH ?_
  case hyr6_12 => (intro w' hSw; replace hSw := S2o0 hSw; (try dsimp only at hSw); have q0 := hSw.1; have q1 := hSw.2.1; have q2 := hSw.2.2.1; have q3 := hSw.2.2.2; obtain ⟨b0_0, b0_1, b0_2, b0_3, b0_4, b0_5, b0_6, b0_7, b0_8, b0_9, b0_10, b0_11, b0_12⟩ := cells_b0 (q0).bl.cl hka HXA.out; obtain ⟨c0_0, c0_1, c0_2, c0_3, c0_4, c0_5, c0_6, c0_7, c0_8, c0_9, c0_10, c0_11, c0_12⟩ := cells_b0 (q0).bl.cl hkb HXB.out; obtain ⟨qa2_0, qa2_1, qa2_2, qa2_3, qa2_4, qa2_5, qa2_6, qa2_7, qa2_8, qa2_9⟩ := id q2; obtain ⟨qa3_0, qa3_1⟩ := id q3; go_simp; try (with_reducible rfl))
  simp only [List.set_cons_zero, List.set_cons_succ]
  refine U_take 12 18 13 0 0 (v := ?vr6_13) rfl (by kernel_rfl) (by kernel_rfl) hWr6 (by kernel_rfl) (by kernel_rfl) (by kernel_rfl) (by kernel_rfl) (by kernel_rfl) (by kernel_rfl) (fun _ _ _ _ h => h) (by kernel_rfl) ?hyr6_13 (by omega) hH ?_
  case hyr6_13 => (intro w' hSw; clear hSw; go_simp; try (with_reducible rfl))
  simp only [List.set_cons_zero, List.set_cons_succ]
  refine U_take 13 19 12 0 0 (v := ?vr6_14) rfl (by kernel_rfl) (by kernel_rfl) hWr6 (by kernel_rfl) (by kernel_rfl) (by kernel_rfl) (by kernel_rfl) (by kernel_rfl) (by kernel_rfl) (fun _ _ _ _ h => h) (by kernel_rfl) ?hyr6_14 (by omega) hH ?_
  case hyr6_14 => (intro w' hSw; replace hSw := S2o0 hSw; (try dsimp only at hSw); have q0 := hSw.1; have q1 := hSw.2.1; have q2 := hSw.2.2.1; have q3 := hSw.2.2.2; obtain ⟨b0_0, b0_1, b0_2, b0_3, b0_4, b0_5, b0_6, b0_7, b0_8, b0_9, b0_10, b0_11, b0_12⟩ := cells_b0 (q0).bl.cl hka HXA.out; obtain ⟨c0_0, c0_1, c0_2, c0_3, c0_4, c0_5, c0_6, c0_7, c0_8, c0_9, c0_10, c0_11, c0_12⟩ := cells_b0 (q0).bl.cl hkb HXB.out; obtain ⟨qa2_0, qa2_1, qa2_2, qa2_3, qa2_4, qa2_5, qa2_6, qa2_7, qa2_8, qa2_9⟩ := id q2; obtain ⟨qa3_0, qa3_1⟩ := id q3; go_simp; try (with_reducible rfl))
  simp only [List.set_cons_zero, List.set_cons_succ]
  refine U_take 14 20 11 0 0 (v := ?vr6_15) rfl (by kernel_rfl) (by kernel_rfl) hWr6 (by kernel_rfl) (by kernel_rfl) (by kernel_rfl) (by kernel_rfl) (by kernel_rfl) (by kernel_rfl) (fun _ _ _ _ h => h) (by kernel_rfl) ?hyr6_15 (by omega) hH ?_
  case hyr6_15 => (intro w' hSw; clear hSw; go_simp; try (with_reducible rfl))
  simp only [List.set_cons_zero, List.set_cons_succ]
  refine U_take 15 21 10 0 0 (v := ?vr6_16) rfl (by kernel_rfl) (by kernel_rfl) hWr6 (by kernel_rfl) (by kernel_rfl) (by kernel_rfl) (by kernel_rfl) (by kernel_rfl) (by kernel_rfl) (fun _ _ _ _ h => h) (by kernel_rfl) ?hyr6_16 (by omega) hH ?_
  case hyr6_16 => (intro w' hSw; replace hSw := S2o0 hSw; (try dsimp only at hSw); have q0 := hSw.1; have q1 := hSw.2.1; have q2 := hSw.2.2.1; have q3 := hSw.2.2.2; obtain ⟨b0_0, b0_1, b0_2, b0_3, b0_4, b0_5, b0_6, b0_7, b0_8, b0_9, b0_10, b0_11, b0_12⟩ := cells_b0 (q0).bl.cl hka HXA.out; obtain ⟨c0_0, c0_1, c0_2, c0_3, c0_4, c0_5, c0_6, c0_7, c0_8, c0_9, c0_10, c0_11, c0_12⟩ := cells_b0 (q0).bl.cl hkb HXB.out; obtain ⟨qa2_0, qa2_1, qa2_2, qa2_3, qa2_4, qa2_5, qa2_6, qa2_7, qa2_8, qa2_9⟩ := id q2; obtain ⟨qa3_0, qa3_1⟩ := id q3; go_simp; try (with_reducible rfl))
  simp only [List.set_cons_zero, List.set_cons_succ]
  refine U_take 16 22 9 0 0 (v := ?vr6_17) rfl (by kernel_rfl) (by kernel_rfl) hWr6 (by kernel_rfl) (by kernel_rfl) (by kernel_rfl) (by kernel_rfl) (by kernel_rfl) (by kernel_rfl) (fun _ _ _ _ h => h) (by kernel_rfl) ?hyr6_17 (by omega) hH ?_
  case hyr6_17 => (intro w' hSw; clear hSw; go_simp; try (with_reducible rfl))
  simp only [List.set_cons_zero, List.set_cons_succ]
  refine U_take 17 23 8 0 0 (v := ?vr6_18) rfl (by kernel_rfl) (by kernel_rfl) hWr6 (by kernel_rfl) (by kernel_rfl) (by kernel_rfl) (by kernel_rfl) (by kernel_rfl) (by kernel_rfl) (fun _ _ _ _ h => h) (by kernel_rfl) ?hyr6_18 (by omega) hH ?_
  case hyr6_18 => (intro w' hSw; clear hSw; go_simp; try (with_reducible rfl))
  simp only [List.set_cons_zero, List.set_cons_succ]
  refine U_take 18 24 7 0 0 (v := ?vr6_19) rfl (by kernel_rfl) (by kernel_rfl) hWr6 (by kernel_rfl) (by kernel_rfl) (by kernel_rfl) (by kernel_rfl) (by kernel_rfl) (by kernel_rfl) (fun _ _ _ _ h => h) (by kernel_rfl) ?hyr6_19 (by omega) hH ?_
  case hyr6_19 => (intro w' hSw; replace hSw := S2o0 hSw; (try dsimp only at hSw); have q0 := hSw.1; have q1 := hSw.2.1; have q2 := hSw.2.2.1; have q3 := hSw.2.2.2; obtain ⟨b0_0, b0_1, b0_2, b0_3, b0_4, b0_5, b0_6, b0_7, b0_8, b0_9, b0_10, b0_11, b0_12⟩ := cells_b0 (q0).bl.cl hka HXA.out; obtain ⟨c0_0, c0_1, c0_2, c0_3, c0_4, c0_5, c0_6, c0_7, c0_8, c0_9, c0_10, c0_11, c0_12⟩ := cells_b0 (q0).bl.cl hkb HXB.out; obtain ⟨qa2_0, qa2_1, qa2_2, qa2_3, qa2_4, qa2_5, qa2_6, qa2_7, qa2_8, qa2_9⟩ := id q2; obtain ⟨qa3_0, qa3_1⟩ := id q3; go_simp; try (with_reducible rfl))
  simp only [List.set_cons_zero, List.set_cons_succ]
  refine U_take 19 25 6 0 0 (v := ?vr6_20) rfl (by kernel_rfl) (by kernel_rfl) hWr6 (by kernel_rfl) (by kernel_rfl) (by kernel_rfl) (by kernel_rfl) (by kernel_rfl) (by kernel_rfl) (fun _ _ _ _ h => h) (by kernel_rfl) ?hyr6_20 (by omega) hH ?_
  case hyr6_20 => (intro w' hSw; clear hSw; go_simp; try (with_reducible rfl))
  simp only [List.set_cons_zero, List.set_cons_succ]
  refine U_take 20 26 5 0 0 (v := ?vr6_21) rfl (by kernel_rfl) (by kernel_rfl) hWr6 (by kernel_rfl) (by kernel_rfl) (by kernel_rfl) (by kernel_rfl) (by kernel_rfl) (by kernel_rfl) (fun _ _ _ _ h => h) (by kernel_rfl) ?hyr6_21 (by omega) hH ?_
  case hyr6_21 => (intro w' hSw; clear hSw; go_simp; try (with_reducible rfl))
  simp only [List.set_cons_zero, List.set_cons_succ]
  refine U_take 21 27 4 0 0 (v := ?vr6_22) rfl (by kernel_rfl) (by kernel_rfl) hWr6 (by kernel_rfl) (by kernel_rfl) (by kernel_rfl) (by kernel_rfl) (by kernel_rfl) (by kernel_rfl) (fun _ _ _ _ h => h) (by kernel_rfl) ?hyr6_22 (by omega) hH ?_
  case hyr6_22 => (intro w' hSw; clear hSw; go_simp; try (with_reducible rfl))
  simp only [List.set_cons_zero, List.set_cons_succ]
  refine U_take 22 28 3 0 0 (v := ?vr6_23) rfl (by kernel_rfl) (by kernel_rfl) hWr6 (by kernel_rfl) (by kernel_rfl) (by kernel_rfl) (by kernel_rfl) (by kernel_rfl) (by kernel_rfl) (fun _ _ _ _ h => h) (by kernel_rfl) ?hyr6_23 (by omega) hH ?_
  case hyr6_23 => (intro w' hSw; replace hSw := S2o0 hSw; (try dsimp only at hSw); have q0 := hSw.1; have q1 := hSw.2.1; have q2 := hSw.2.2.1; have q3 := hSw.2.2.2; obtain ⟨b0_0, b0_1, b0_2, b0_3, b0_4, b0_5, b0_6, b0_7, b0_8, b0_9, b0_10, b0_11, b0_12⟩ := cells_b0 (q0).bl.cl hka HXA.out; obtain ⟨c0_0, c0_1, c0_2, c0_3, c0_4, c0_5, c0_6, c0_7, c0_8, c0_9, c0_10, c0_11, c0_12⟩ := cells_b0 (q0).bl.cl hkb HXB.out; obtain ⟨qa2_0, qa2_1, qa2_2, qa2_3, qa2_4, qa2_5, qa2_6, qa2_7, qa2_8, qa2_9⟩ := id q2; obtain ⟨qa3_0, qa3_1⟩ := id q3; go_simp; try (with_reducible rfl))
  simp only [List.set_cons_zero, List.set_cons_succ]
  refine wpAnyU_ready (rs := [23]) (by kernel_rfl) (by simp) ?_
  refine AllReadyU.cons 0 (by kernel_rfl) (o := _) rfl (fun K hK => ?_) AllReadyU.nil
  try clear hb
  have hG := hH
  replace hG := S2o0 hG; (try dsimp only at hG); have fq0 := hG.1; have fq1 := hG.2.1; have fq2 := hG.2.2.1; have fq3 := hG.2.2.2
  have HRX := hid fq0
  clear hG fq0 fq1 fq2 fq3
  go_simp
  (go_at_call 33; refine (HPA.out _ HRX.out).mono ?_; rintro e wn ⟨AA, nA, cA, rfl, hsA, hfA, hb⟩)
  refine hK.out _ _ ?hsr6_24 (fun hH2 => ?hrr6_24)
  case hsr6_24 => exact S2i0 (by have hG := hH; replace hG := S2o0 hG; (try dsimp only at hG); have q0 := hG.1; have q1 := hG.2.1; have q2 := hG.2.2.1; have q3 := hG.2.2.2; exact ⟨keepRt hb q0, keepCell hb q1, keepCg hb q2, keepVg hb q3⟩)
  clear hK K hH
  have hH := hH2
  clear hH2
  try simp only [Act.put, List.setIfInBounds_toArray, List.set_cons_zero, List.set_cons_succ]
  have HFA : Hid (∀ bx off, AA = some ⟨bx, off, none⟩ → w.heap.size ≤ bx) := fun bx off e => by have h2 := HRX.out.gr.size; have h3 := hfA bx off e; omega
  have HSA := hid hsA
  clear hsA hfA HRX
  refine U_take 24 30 1 0 0 (v := ?vr6_25) rfl (by kernel_rfl) (by kernel_rfl) hWr6 (by kernel_rfl) (by kernel_rfl) (by kernel_rfl) (by kernel_rfl) (by kernel_rfl) (by kernel_rfl) (fun _ _ _ _ h => h) (by kernel_rfl) ?hyr6_25 (by omega) hH ?_
  case hyr6_25 => (intro w' hSw; clear hSw; go_simp; try (with_reducible rfl))
  simp only [List.set_cons_zero, List.set_cons_succ]
  refine wpAnyU_ready (rs := [25]) (by kernel_rfl) (by simp) ?_
  refine AllReadyU.cons 1 (by kernel_rfl) (o := _) rfl (fun K hK => ?_) AllReadyU.nil
  try clear hb
  have hG := hH
  replace hG := S2o0 hG; (try dsimp only at hG); have fq0 := hG.1; have fq1 := hG.2.1; have fq2 := hG.2.2.1; have fq3 := hG.2.2.2
  have HRQ1 := hid fq0
  have HSV1 := hid fq1
  have HCG1 := hid fq2
  have HVJ1 := hid fq3
  have hbl := fq0.bl
  obtain ⟨c0, c1, c2, c3, c4, c5, c6, c7, c8, c9, c10, c11, c12⟩ := cells_b0 hbl.cl hka HXA.out
  have cf := hbl.free
  clear hG fq0 fq1 fq2 fq3 hbl
  go_simp
  refine hK.out _ _ ?hsr6_26 (fun hH2 => ?hrr6_26)
  case hsr6_26 => exact S2i1
  clear hK K hH
  have hH := hH2
  clear hH2
  try simp only [Act.put, List.setIfInBounds_toArray, List.set_cons_zero, List.set_cons_succ]
  refine wpAnyU_done (by kernel_rfl) ?_ _ _
  refine NoPanic.normal ?_
  obtain ⟨w5, hw5⟩ : ∃ w5, w5 = setBo wn g (ka * 13) ya AA nA cA := ⟨_, rfl⟩
  have HRQ3 := hid (HRQ1.out.setA hka ⟨ya, AA, nA, cA, xa.l⟩ HSA.out (fun bx off e => by have := HFA.out bx off e; have := HGL.out; omega))
  dsimp only at HRQ3
  have hgn := HRQ1.out.lt
  have HSV3 := hid (setBo_far (b := ya) (A := AA) (n := nA) (c := cA) (o := ka * 13) HGS.out HSV1.out)
  have HCG3 := hid (HCG1.out.next (setBo_grown wn g (ka * 13) ya AA nA cA) (by omega))
  have HVJ3 := hid (HVJ1.out.next (setBo_grown wn g (ka * 13) ya AA nA cA) (by omega))
  rw [← hw5] at HRQ3 HSV3 HCG3 HVJ3
  unfold setBo at hw5
  try clear hH
  clear c0 c1 c2 c3 c4 c5 c6 c7 c8 c9 c10 c11 c12 cf HRQ1 HSV1 HCG1 HVJ1 HSA
  go_upto_region 2 with fail
  rw [← hw5]
  clear hw5
  obtain ⟨L1, hL1⟩ : ∃ L1, L1 = L.set ka ⟨ya, AA, nA, cA, xa.l⟩ := ⟨_, rfl⟩
  have hlen : L1.length = L.length := by rw [hL1, List.length_set]
  have hkb1 : kb < L1.length := by rw [hlen]; exact hkb
  have hka1 : ka < L1.length := by rw [hlen]; exact hka
  have HXB2 : Hid (xb = L1[kb]'hkb1) := by show _ = _; rw [HXB.out]; simp only [hL1]; rw [List.getElem_set_ne (by omega)]
  have HXA2 : Hid (⟨ya, AA, nA, cA, xa.l⟩ = L1[ka]'hka1) := by show _ = _; simp only [hL1]; rw [List.getElem_set_self]
  have HFIN2 : Hid (∀ zb : BE, valB zb = (yb, xb.l) → (L1.set kb zb).map valB = bothQ (L.map valB) ka kb x.px x.py x.px x.py j1 j2) := fun zb h => by rw [hL1]; exact HFIN.out _ _ rfl h
  have HMEM : Hid (∀ zb y : BE, y ∈ L1.set kb zb → y = zb ∨ y = ⟨ya, AA, nA, cA, xa.l⟩ ∨ y ∈ L) := fun zb y hy => by rcases List.mem_or_eq_of_mem_set hy with q | q; (rw [hL1] at q; rcases List.mem_or_eq_of_mem_set q with q2 | q2; exact .inr (.inr q2); exact .inr (.inl q2)); exact .inl q
  rw [← hL1] at HRQ3
  rw [← hlen] at hac hbc h64 HSV3
  rw [← hlen]
  clear hL1 HXA HXB HFIN hlen hka hkb
  have hka := hka1
  have hkb := hkb1
  have HXA := HXA2
  have HXB := HXB2
  have HFIN := HFIN2
  clear HXA2 HXB2 HFIN2
  refine wp_region_noPanic ?_
  refine wp_region_U (S := (S2 (fun w' => Rt w g L1 w' ∧ w'.cell? ⟨gs, 0, none⟩ = some (.slice (some ⟨g, 0, none⟩) L1.length cap) ∧ Cg w' w.heap.size x ∧ Vg w' (w.heap.size + 1) j1 j2))) (T := (fun j => [0, 0, 0, 0, 0, 0, 0, 0, 0, 0, 0, 0, 0, 0, 0, 0, 0, 0, 0, 1].getD j 0)) (by kernel_rfl) (S2i0 ⟨HRQ3.out.drew, HSV3.out, HCG3.out.drew, HVJ3.out.drew⟩) (fun hH => ?_)
  have hWr5 : Weaker (S2 (fun w' => Rt w g L1 w' ∧ w'.cell? ⟨gs, 0, none⟩ = some (.slice (some ⟨g, 0, none⟩) L1.length cap) ∧ Cg w' w.heap.size x ∧ Vg w' (w.heap.size + 1) j1 j2)) := weaker2 _
  refine U_take 0 31 19 0 0 (v := ?vr5_1) rfl (by kernel_rfl) (by kernel_rfl) hWr5 (by kernel_rfl) (by kernel_rfl) (by kernel_rfl) (by kernel_rfl) (by kernel_rfl) (by kernel_rfl) (fun _ _ _ _ h => h) (by kernel_rfl) ?hyr5_1 (by omega) hH ?_
  case hyr5_1 => (intro w' hSw; clear hSw; go_simp; try (with_reducible rfl))
  simp only [List.set_cons_zero, List.set_cons_succ]
  refine U_take 1 32 18 0 0 (v := ?vr5_2) rfl (by kernel_rfl) (by kernel_rfl) hWr5 (by kernel_rfl) (by kernel_rfl) (by kernel_rfl) (by kernel_rfl) (by kernel_rfl) (by kernel_rfl) (fun _ _ _ _ h => h) (by kernel_rfl) ?hyr5_2 (by omega) hH ?_
  case hyr5_2 => (intro w' hSw; clear hSw; go_simp; try (with_reducible rfl))
  simp only [List.set_cons_zero, List.set_cons_succ]
  refine U_take 2 33 17 0 0 (v := ?vr5_3) rfl (by kernel_rfl) (by kernel_rfl) hWr5 (by kernel_rfl) (by kernel_rfl) (by kernel_rfl) (by kernel_rfl) (by kernel_rfl) (by kernel_rfl) (fun _ _ _ _ h => h) (by kernel_rfl) ?hyr5_3 (by omega) hH ?_
  case hyr5_3 => (intro w' hSw; clear hSw; go_simp; try (with_reducible rfl))
  simp only [List.set_cons_zero, List.set_cons_succ]
  refine U_take 3 34 16 0 0 (v := ?vr5_4) rfl (by kernel_rfl) (by kernel_rfl) hWr5 (by kernel_rfl) (by kernel_rfl) (by kernel_rfl) (by kernel_rfl) (by kernel_rfl) (by kernel_rfl) (fun _ _ _ _ h => h) (by kernel_rfl) ?hyr5_4 (by omega) hH ?_
  case hyr5_4 => (intro w' hSw; replace hSw := S2o0 hSw; (try dsimp only at hSw); have q0 := hSw.1; have q1 := hSw.2.1; have q2 := hSw.2.2.1; have q3 := hSw.2.2.2; obtain ⟨b0_0, b0_1, b0_2, b0_3, b0_4, b0_5, b0_6, b0_7, b0_8, b0_9, b0_10, b0_11, b0_12⟩ := cells_b0 (q0).bl.cl hka HXA.out; obtain ⟨c0_0, c0_1, c0_2, c0_3, c0_4, c0_5, c0_6, c0_7, c0_8, c0_9, c0_10, c0_11, c0_12⟩ := cells_b0 (q0).bl.cl hkb HXB.out; obtain ⟨qa2_0, qa2_1, qa2_2, qa2_3, qa2_4, qa2_5, qa2_6, qa2_7, qa2_8, qa2_9⟩ := id q2; obtain ⟨qa3_0, qa3_1⟩ := id q3; go_simp; try (with_reducible rfl))
  simp only [List.set_cons_zero, List.set_cons_succ]
  refine U_take 4 35 15 0 0 (v := ?vr5_5) rfl (by kernel_rfl) (by kernel_rfl) hWr5 (by kernel_rfl) (by kernel_rfl) (by kernel_rfl) (by kernel_rfl) (by kernel_rfl) (by kernel_rfl) (fun _ _ _ _ h => h) (by kernel_rfl) ?hyr5_5 (by omega) hH ?_
  case hyr5_5 => (intro w' hSw; clear hSw; go_simp; try (with_reducible rfl))
  simp only [List.set_cons_zero, List.set_cons_succ]
  refine U_take 5 36 14 0 0 (v := ?vr5_6) rfl (by kernel_rfl) (by kernel_rfl) hWr5 (by kernel_rfl) (by kernel_rfl) (by kernel_rfl) (by kernel_rfl) (by kernel_rfl) (by kernel_rfl) (fun _ _ _ _ h => h) (by kernel_rfl) ?hyr5_6 (by omega) hH ?_
  case hyr5_6 => (intro w' hSw; replace hSw := S2o0 hSw; (try dsimp only at hSw); have q0 := hSw.1; have q1 := hSw.2.1; have q2 := hSw.2.2.1; have q3 := hSw.2.2.2; obtain ⟨b0_0, b0_1, b0_2, b0_3, b0_4, b0_5, b0_6, b0_7, b0_8, b0_9, b0_10, b0_11, b0_12⟩ := cells_b0 (q0).bl.cl hka HXA.out; obtain ⟨c0_0, c0_1, c0_2, c0_3, c0_4, c0_5, c0_6, c0_7, c0_8, c0_9, c0_10, c0_11, c0_12⟩ := cells_b0 (q0).bl.cl hkb HXB.out; obtain ⟨qa2_0, qa2_1, qa2_2, qa2_3, qa2_4, qa2_5, qa2_6, qa2_7, qa2_8, qa2_9⟩ := id q2; obtain ⟨qa3_0, qa3_1⟩ := id q3; go_simp; try (with_reducible rfl))
  simp only [List.set_cons_zero, List.set_cons_succ]
  refine U_take 6 37 13 0 0 (v := ?vr5_7) rfl (by kernel_rfl) (by kernel_rfl) hWr5 (by kernel_rfl) (by kernel_rfl) (by kernel_rfl) (by kernel_rfl) (by kernel_rfl) (by kernel_rfl) (fun _ _ _ _ h => h) (by kernel_rfl) ?hyr5_7 (by omega) hH ?_
  case hyr5_7 => (intro w' hSw; clear hSw; go_simp; try (with_reducible rfl))
  simp only [List.set_cons_zero, List.set_cons_succ]
  refine U_take 7 38 12 0 0 (v := ?vr5_8) rfl (by kernel_rfl) (by kernel_rfl) hWr5 (by kernel_rfl) (by kernel_rfl) (by kernel_rfl) (by kernel_rfl) (by kernel_rfl) (by kernel_rfl) (fun _ _ _ _ h => h) (by kernel_rfl) ?hyr5_8 (by omega) hH ?_
  case hyr5_8 => (intro w' hSw; clear hSw; go_simp; try (with_reducible rfl))
  simp only [List.set_cons_zero, List.set_cons_succ]
  refine U_take 8 39 11 0 0 (v := ?vr5_9) rfl (by kernel_rfl) (by kernel_rfl) hWr5 (by kernel_rfl) (by kernel_rfl) (by kernel_rfl) (by kernel_rfl) (by kernel_rfl) (by kernel_rfl) (fun _ _ _ _ h => h) (by kernel_rfl) ?hyr5_9 (by omega) hH ?_
  case hyr5_9 => (intro w' hSw; clear hSw; go_simp; try (with_reducible rfl))
  simp only [List.set_cons_zero, List.set_cons_succ]
  refine U_take 9 40 10 0 0 (v := ?vr5_10) rfl (by kernel_rfl) (by kernel_rfl) hWr5 (by kernel_rfl) (by kernel_rfl) (by kernel_rfl) (by kernel_rfl) (by kernel_rfl) (by kernel_rfl) (fun _ _ _ _ h => h) (by kernel_rfl) ?hyr5_10 (by omega) hH ?_
  case hyr5_10 => (intro w' hSw; replace hSw := S2o0 hSw; (try dsimp only at hSw); have q0 := hSw.1; have q1 := hSw.2.1; have q2 := hSw.2.2.1; have q3 := hSw.2.2.2; obtain ⟨b0_0, b0_1, b0_2, b0_3, b0_4, b0_5, b0_6, b0_7, b0_8, b0_9, b0_10, b0_11, b0_12⟩ := cells_b0 (q0).bl.cl hka HXA.out; obtain ⟨c0_0, c0_1, c0_2, c0_3, c0_4, c0_5, c0_6, c0_7, c0_8, c0_9, c0_10, c0_11, c0_12⟩ := cells_b0 (q0).bl.cl hkb HXB.out; obtain ⟨qa2_0, qa2_1, qa2_2, qa2_3, qa2_4, qa2_5, qa2_6, qa2_7, qa2_8, qa2_9⟩ := id q2; obtain ⟨qa3_0, qa3_1⟩ := id q3; go_simp; try (with_reducible rfl))
  simp only [List.set_cons_zero, List.set_cons_succ]
  refine U_take 10 41 9 0 0 (v := ?vr5_11) rfl (by kernel_rfl) (by kernel_rfl) hWr5 (by kernel_rfl) (by kernel_rfl) (by kernel_rfl) (by kernel_rfl) (by kernel_rfl) (by kernel_rfl) (fun _ _ _ _ h => h) (by kernel_rfl) ?hyr5_11 (by omega) hH ?_
  case hyr5_11 => (intro w' hSw; clear hSw; go_simp; try (with_reducible rfl))
  simp only [List.set_cons_zero, List.set_cons_succ]
  refine U_take 11 42 8 0 0 (v := ?vr5_12) rfl (by kernel_rfl) (by kernel_rfl) hWr5 (by kernel_rfl) (by kernel_rfl) (by kernel_rfl) (by kernel_rfl) (by kernel_rfl) (by kernel_rfl) (fun _ _ _ _ h => h) (by kernel_rfl) ?hyr5_12 (by omega) hH ?_
  case hyr5_12 => (intro w' hSw; replace hSw := S2o0 hSw; (try dsimp only at hSw); have q0 := hSw.1; have q1 := hSw.2.1; have q2 := hSw.2.2.1; have q3 := hSw.2.2.2; obtain ⟨b0_0, b0_1, b0_2, b0_3, b0_4, b0_5, b0_6, b0_7, b0_8, b0_9, b0_10, b0_11, b0_12⟩ := cells_b0 (q0).bl.cl hka HXA.out; obtain ⟨c0_0, c0_1, c0_2, c0_3, c0_4, c0_5, c0_6, c0_7, c0_8, c0_9, c0_10, c0_11, c0_12⟩ := cells_b0 (q0).bl.cl hkb HXB.out; obtain ⟨qa2_0, qa2_1, qa2_2, qa2_3, qa2_4, qa2_5, qa2_6, qa2_7, qa2_8, qa2_9⟩ := id q2; obtain ⟨qa3_0, qa3_1⟩ := id q3; go_simp; try (with_reducible rfl))
  simp only [List.set_cons_zero, List.set_cons_succ]
  refine U_take 12 43 7 0 0 (v := ?vr5_13) rfl (by kernel_rfl) (by kernel_rfl) hWr5 (by kernel_rfl) (by kernel_rfl) (by kernel_rfl) (by kernel_rfl) (by kernel_rfl) (by kernel_rfl) (fun _ _ _ _ h => h) (by kernel_rfl) ?hyr5_13 (by omega) hH ?_
  case hyr5_13 => (intro w' hSw; clear hSw; go_simp; try (with_reducible rfl))
  simp only [List.set_cons_zero, List.set_cons_succ]
  refine U_take 13 44 6 0 0 (v := ?vr5_14) rfl (by kernel_rfl) (by kernel_rfl) hWr5 (by kernel_rfl) (by kernel_rfl) (by kernel_rfl) (by kernel_rfl) (by kernel_rfl) (by kernel_rfl) (fun _ _ _ _ h => h) (by kernel_rfl) ?hyr5_14 (by omega) hH ?_
  case hyr5_14 => (intro w' hSw; replace hSw := S2o0 hSw; (try dsimp only at hSw); have q0 := hSw.1; have q1 := hSw.2.1; have q2 := hSw.2.2.1; have q3 := hSw.2.2.2; obtain ⟨b0_0, b0_1, b0_2, b0_3, b0_4, b0_5, b0_6, b0_7, b0_8, b0_9, b0_10, b0_11, b0_12⟩ := cells_b0 (q0).bl.cl hka HXA.out; obtain ⟨c0_0, c0_1, c0_2, c0_3, c0_4, c0_5, c0_6, c0_7, c0_8, c0_9, c0_10, c0_11, c0_12⟩ := cells_b0 (q0).bl.cl hkb HXB.out; obtain ⟨qa2_0, qa2_1, qa2_2, qa2_3, qa2_4, qa2_5, qa2_6, qa2_7, qa2_8, qa2_9⟩ := id q2; obtain ⟨qa3_0, qa3_1⟩ := id q3; go_simp; try (with_reducible rfl))
  simp only [List.set_cons_zero, List.set_cons_succ]
  refine U_take 14 45 5 0 0 (v := ?vr5_15) rfl (by kernel_rfl) (by kernel_rfl) hWr5 (by kernel_rfl) (by kernel_rfl) (by kernel_rfl) (by kernel_rfl) (by kernel_rfl) (by kernel_rfl) (fun _ _ _ _ h => h) (by kernel_rfl) ?hyr5_15 (by omega) hH ?_
  case hyr5_15 => (intro w' hSw; replace hSw := S2o0 hSw; (try dsimp only at hSw); have q0 := hSw.1; have q1 := hSw.2.1; have q2 := hSw.2.2.1; have q3 := hSw.2.2.2; obtain ⟨b0_0, b0_1, b0_2, b0_3, b0_4, b0_5, b0_6, b0_7, b0_8, b0_9, b0_10, b0_11, b0_12⟩ := cells_b0 (q0).bl.cl hka HXA.out; obtain ⟨c0_0, c0_1, c0_2, c0_3, c0_4, c0_5, c0_6, c0_7, c0_8, c0_9, c0_10, c0_11, c0_12⟩ := cells_b0 (q0).bl.cl hkb HXB.out; obtain ⟨qa2_0, qa2_1, qa2_2, qa2_3, qa2_4, qa2_5, qa2_6, qa2_7, qa2_8, qa2_9⟩ := id q2; obtain ⟨qa3_0, qa3_1⟩ := id q3; go_simp; try (with_reducible rfl))
  simp only [List.set_cons_zero, List.set_cons_succ]
  refine U_take 15 46 4 0 0 (v := ?vr5_16) rfl (by kernel_rfl) (by kernel_rfl) hWr5 (by kernel_rfl) (by kernel_rfl) (by kernel_rfl) (by kernel_rfl) (by kernel_rfl) (by kernel_rfl) (fun _ _ _ _ h => h) (by kernel_rfl) ?hyr5_16 (by omega) hH ?_
  case hyr5_16 => (intro w' hSw; clear hSw; go_simp; try (with_reducible rfl))
  simp only [List.set_cons_zero, List.set_cons_succ]
  refine U_take 16 47 3 0 0 (v := ?vr5_17) rfl (by kernel_rfl) (by kernel_rfl) hWr5 (by kernel_rfl) (by kernel_rfl) (by kernel_rfl) (by kernel_rfl) (by kernel_rfl) (by kernel_rfl) (fun _ _ _ _ h => h) (by kernel_rfl) ?hyr5_17 (by omega) hH ?_
  case hyr5_17 => (intro w' hSw; replace hSw := S2o0 hSw; (try dsimp only at hSw); have q0 := hSw.1; have q1 := hSw.2.1; have q2 := hSw.2.2.1; have q3 := hSw.2.2.2; obtain ⟨b0_0, b0_1, b0_2, b0_3, b0_4, b0_5, b0_6, b0_7, b0_8, b0_9, b0_10, b0_11, b0_12⟩ := cells_b0 (q0).bl.cl hka HXA.out; obtain ⟨c0_0, c0_1, c0_2, c0_3, c0_4, c0_5, c0_6, c0_7, c0_8, c0_9, c0_10, c0_11, c0_12⟩ := cells_b0 (q0).bl.cl hkb HXB.out; obtain ⟨qa2_0, qa2_1, qa2_2, qa2_3, qa2_4, qa2_5, qa2_6, qa2_7, qa2_8, qa2_9⟩ := id q2; obtain ⟨qa3_0, qa3_1⟩ := id q3; go_simp; try (with_reducible rfl))
  simp only [List.set_cons_zero, List.set_cons_succ]
  refine wpAnyU_ready (rs := [17]) (by kernel_rfl) (by simp) ?_
  refine AllReadyU.cons 0 (by kernel_rfl) (o := _) rfl (fun K hK => ?_) AllReadyU.nil
  try clear hb
  have hG := hH
  replace hG := S2o0 hG; (try dsimp only at hG); have fq0 := hG.1; have fq1 := hG.2.1; have fq2 := hG.2.2.1; have fq3 := hG.2.2.2
  have HRX := hid fq0
  clear hG fq0 fq1 fq2 fq3
  go_simp
  (go_at_call 33; refine (HPB.out _ (by rw [HXB.out]; exact List.getElem_mem hkb) HRX.out).mono ?_; rintro e wn ⟨AB, nB, cB, rfl, hsB, hfB, hb⟩)
  refine hK.out _ _ ?hsr5_18 (fun hH2 => ?hrr5_18)
  case hsr5_18 => exact S2i0 (by have hG := hH; replace hG := S2o0 hG; (try dsimp only at hG); have q0 := hG.1; have q1 := hG.2.1; have q2 := hG.2.2.1; have q3 := hG.2.2.2; exact ⟨keepRt hb q0, keepCell hb q1, keepCg hb q2, keepVg hb q3⟩)
  clear hK K hH
  have hH := hH2
  clear hH2
  try simp only [Act.put, List.setIfInBounds_toArray, List.set_cons_zero, List.set_cons_succ]
  have HFB : Hid (∀ bx off, AB = some ⟨bx, off, none⟩ → w.heap.size ≤ bx) := fun bx off e => by have h2 := HRX.out.gr.size; have h3 := hfB bx off e; omega
  have HSB := hid hsB
  clear hsB hfB HRX
  refine U_take 18 49 1 0 0 (v := ?vr5_19) rfl (by kernel_rfl) (by kernel_rfl) hWr5 (by kernel_rfl) (by kernel_rfl) (by kernel_rfl) (by kernel_rfl) (by kernel_rfl) (by kernel_rfl) (fun _ _ _ _ h => h) (by kernel_rfl) ?hyr5_19 (by omega) hH ?_
  case hyr5_19 => (intro w' hSw; clear hSw; go_simp; try (with_reducible rfl))
  simp only [List.set_cons_zero, List.set_cons_succ]
  refine wpAnyU_ready (rs := [19]) (by kernel_rfl) (by simp) ?_
  refine AllReadyU.cons 1 (by kernel_rfl) (o := _) rfl (fun K hK => ?_) AllReadyU.nil
  try clear hb
  have hG := hH
  replace hG := S2o0 hG; (try dsimp only at hG); have fq0 := hG.1; have fq1 := hG.2.1; have fq2 := hG.2.2.1; have fq3 := hG.2.2.2
  have HRQ1 := hid fq0
  have HSV1 := hid fq1
  have HCG1 := hid fq2
  have HVJ1 := hid fq3
  have hbl := fq0.bl
  obtain ⟨c0, c1, c2, c3, c4, c5, c6, c7, c8, c9, c10, c11, c12⟩ := cells_b0 hbl.cl hkb HXB.out
  have cf := hbl.free
  clear hG fq0 fq1 fq2 fq3 hbl
  go_simp
  refine hK.out _ _ ?hsr5_20 (fun hH2 => ?hrr5_20)
  case hsr5_20 => exact S2i1
  clear hK K hH
  have hH := hH2
  clear hH2
  try simp only [Act.put, List.setIfInBounds_toArray, List.set_cons_zero, List.set_cons_succ]
  refine wpAnyU_done (by kernel_rfl) ?_ _ _
  refine NoPanic.normal ?_
  go_wp2
  refine bodyPost_ret (v := .tuple #[]) (by simp [results, Try.results16, go_sem]) rfl ⟨L1.set kb ⟨yb, AB, nB, cB, xb.l⟩, rfl, ?_, HFIN.out _ rfl, ?_, fun y hy => by rcases HMEM.out _ y hy with rfl | rfl | q; exact .inr HFB.out; exact .inr HFA.out; exact .inl q⟩
  · have hh := HRQ1.out.bl.set hkb ⟨yb, AB, nB, cB, xb.l⟩ HSB.out (fun bx off e => by have := HFB.out bx off e; have := HGL.out; omega)
    dsimp only at hh
    unfold setBo at hh
    exact hh
  · have hh := grown_trans HRQ1.out.gr (setBo_grown wn g (kb * 13) yb AB nB cB)
    unfold setBo at hh
    exact hh
end
end Go.Proofs.Ytkiiehobphkmgaa
