/- Parts of a proof: contracts and laws. -/
import Derived.Test.YtienmhgbildhhaaB02
import Derived.Test.YtienmhgbildhhaaB04
import Derived.Test.YtienmhgbildhhaaB19
namespace Go.Proofs.Ytienmhgbildhhaa
section
set_option linter.unusedVariables false
set_option linter.unusedSimpArgs false
open Go.RowKit

structure Vp (w : World) (g : Nat) (x y : Int) : Prop where
  a : w.cell? ⟨g, 0, none⟩ = some (.int .i64 x)
  b : w.cell? ⟨g, 1, none⟩ = some (.int .i64 y)
  f : ∀ j, w.frozen? ⟨g, j, none⟩ = false
theorem keepVp {w w' : World} {g : Nat} {x y : Int} (hb : Below w.heap.size w w') (h : Vp w g x y) : Vp w' g x y :=
  ⟨keepCell hb h.a, keepCell hb h.b, fun j => ((bcell hb).2 _ _ (lt_of_cell h.a)).trans (h.f j)⟩
theorem Vp.lt {w : World} {g : Nat} {x y : Int} (h : Vp w g x y) : g < w.heap.size := lt_of_cell h.a
theorem Vp.alloc {w : World} {g : Nat} {x y : Int} (h : Vp w g x y) (o : Obj) : Vp (w.alloc o) g x y := keepVp ((Below.refl _ _).alloc (Nat.le_refl _) _) h
theorem Vp.drew {w : World} {g : Nat} {x y : Int} (h : Vp w g x y) : Vp w.drew g x y := ⟨h.a, h.b, h.f⟩
theorem Vp.here (w : World) (x y : Int) (t : TypeId) : Vp (w.alloc (.cells #[.int .i64 x, .int .i64 y] t)) w.heap.size x y := ⟨by go_simp, by go_simp, fun j => by go_simp⟩
theorem Vp.put {w : World} {g : Nat} {x y : Int} (h : Vp w g x y) (u v : Int) : Vp ((w.setCell ⟨g, 0, none⟩ (.int .i64 u)).setCell ⟨g, 1, none⟩ (.int .i64 v)) g u v := by
  obtain ⟨a, b, f⟩ := h
  exact ⟨by go_simp, by go_simp, fun j => by go_simp⟩
theorem Vp.off {w : World} {g k : Nat} {x y : Int} (h : Vp w g x y) (hne : g ≠ k) (u v : Value) : Vp ((w.setCell ⟨k, 0, none⟩ u).setCell ⟨k, 1, none⟩ v) g x y := by
  obtain ⟨a, b, f⟩ := h
  exact ⟨by go_simp, by go_simp, fun j => by go_simp⟩
def sm62 (a : Int) : Prop := -4611686018427387904 ≤ a ∧ a ≤ 4611686018427387904
theorem wide_mul {a b : Int} (h1 : sm62 a) (h2 : sm62 b) : -170141183460469231731687303715884105728 ≤ a * b ∧ a * b < 170141183460469231731687303715884105728 := by
  have := mul_bd (x := a) (y := b) (M := 4611686018427387904) (N := 4611686018427387904) h1.1 h1.2 h2.1 h2.2
  omega
set_option maxRecDepth 100000 in
set_option maxHeartbeats 4000000 in
theorem pcmp_calls (a b c d : Int) (ha : sm62 a) (hb : sm62 b) (hc : sm62 c) (hd : sm62 d) (w : World) : Calls Try.prog 149 #[vecV a b, vecV c d] w (Ret (.int .i64 (cmpZ (a * d) (c * b))) w) := by
  have r1 := wide_mul ha hd
  have r2 := wide_mul hc hb
  have HT1 := hid (fun w => times_calls a d (by unfold sm62 at *; omega) (by unfold sm62 at *; omega) (by unfold sm62 at *; omega) (by unfold sm62 at *; omega) w)
  have HT2 := hid (fun w => times_calls c b (by unfold sm62 at *; omega) (by unfold sm62 at *; omega) (by unfold sm62 at *; omega) (by unfold sm62 at *; omega) w)
  have HCM := hid (show ∀ w, Calls Try.prog 188 #[wideV (a * d), wideV (c * b)] w (Ret (.int .i64 (cmpZ (a * d) (c * b))) w) from fun w => wcmp_calls (a * d) (c * b) r1.1 r1.2 r2.1 r2.2 w)
  clear r1 r2 ha hb hc hd
  obtain ⟨T, hT⟩ : ∃ T, T = cmpZ (a * d) (c * b) := ⟨_, rfl⟩
  rw [← hT] at HCM ⊢
  clear hT
  generalize a * d = P at *
  generalize c * b = Q at *
  obtain ⟨W, hW⟩ : ∃ W, W = (w.alloc (.cells #[.int .i64 a, .int .i64 b] 168)).alloc (.cells #[.int .i64 c, .int .i64 d] 168) := ⟨_, rfl⟩
  have c0 : W.cell? ⟨w.heap.size, 0, none⟩ = some (.int .i64 a) := by rw [hW]; go_simp
  have c1 : W.cell? ⟨w.heap.size, 1, none⟩ = some (.int .i64 b) := by rw [hW]; go_simp
  have c2 : W.cell? ⟨w.heap.size + 1, 0, none⟩ = some (.int .i64 c) := by rw [hW]; go_simp
  have c3 : W.cell? ⟨w.heap.size + 1, 1, none⟩ = some (.int .i64 d) := by rw [hW]; go_simp
  have hB0 : Below w.heap.size w W := by rw [hW]; go_grown
  go_enter Try.func149, Try.ntmps149
  go_upto_region 1 with fail
  rw [← hW]
  clear hW
  refine wp_region_noPanic ?_
  refine wp_region_U (S := (S2 (fun w' => w'.cell? ⟨w.heap.size, 0, none⟩ = some (.int .i64 a) ∧ w'.cell? ⟨w.heap.size, 1, none⟩ = some (.int .i64 b) ∧ w'.cell? ⟨w.heap.size + 1, 0, none⟩ = some (.int .i64 c) ∧ w'.cell? ⟨w.heap.size + 1, 1, none⟩ = some (.int .i64 d) ∧ Below w.heap.size w w'))) (T := (fun _ => 0)) (by kernel_rfl) (S2i0 ⟨c0, c1, c2, c3, hB0.drew⟩) (fun hH => ?_)
  have hWr1 : Weaker (S2 (fun w' => w'.cell? ⟨w.heap.size, 0, none⟩ = some (.int .i64 a) ∧ w'.cell? ⟨w.heap.size, 1, none⟩ = some (.int .i64 b) ∧ w'.cell? ⟨w.heap.size + 1, 0, none⟩ = some (.int .i64 c) ∧ w'.cell? ⟨w.heap.size + 1, 1, none⟩ = some (.int .i64 d) ∧ Below w.heap.size w w')) := weaker2 _
  refine Ut 0 5 11 0 0 (v := ?vr1_1) rfl hWr1 hH ?yr1_1 ?_
  case yr1_1 => (intro w' hSw; clear hSw; go_simp; try (with_reducible rfl))
  simp only [sB, sC]
  refine Ut 1 6 10 0 0 (v := ?vr1_2) rfl hWr1 hH ?yr1_2 ?_
  case yr1_2 => (intro w' hSw; replace hSw := S2o0 hSw; (try dsimp only at hSw); have q0 := hSw.1; have q1 := hSw.2.1; have q2 := hSw.2.2.1; have q3 := hSw.2.2.2.1; have q4 := hSw.2.2.2.2; go_simp; try (with_reducible rfl))
  simp only [sB, sC]
  refine Ut 2 7 9 0 0 (v := ?vr1_3) rfl hWr1 hH ?yr1_3 ?_
  case yr1_3 => (intro w' hSw; clear hSw; go_simp; try (with_reducible rfl))
  simp only [sB, sC]
  refine Ut 3 8 8 0 0 (v := ?vr1_4) rfl hWr1 hH ?yr1_4 ?_
  case yr1_4 => (intro w' hSw; replace hSw := S2o0 hSw; (try dsimp only at hSw); have q0 := hSw.1; have q1 := hSw.2.1; have q2 := hSw.2.2.1; have q3 := hSw.2.2.2.1; have q4 := hSw.2.2.2.2; go_simp; try (with_reducible rfl))
  simp only [sB, sC]
  refine Ut 5 10 7 0 0 (v := ?vr1_5) rfl hWr1 hH ?yr1_5 ?_
  case yr1_5 => (intro w' hSw; clear hSw; go_simp; try (with_reducible rfl))
  simp only [sB, sC]
  refine Ut 6 11 6 0 0 (v := ?vr1_6) rfl hWr1 hH ?yr1_6 ?_
  case yr1_6 => (intro w' hSw; replace hSw := S2o0 hSw; (try dsimp only at hSw); have q0 := hSw.1; have q1 := hSw.2.1; have q2 := hSw.2.2.1; have q3 := hSw.2.2.2.1; have q4 := hSw.2.2.2.2; go_simp; try (with_reducible rfl))
  simp only [sB, sC]
  refine Ut 7 12 5 0 0 (v := ?vr1_7) rfl hWr1 hH ?yr1_7 ?_
  case yr1_7 => (intro w' hSw; clear hSw; go_simp; try (with_reducible rfl))
  simp only [sB, sC]
  refine Ut 8 13 4 0 0 (v := ?vr1_8) rfl hWr1 hH ?yr1_8 ?_
  case yr1_8 => (intro w' hSw; replace hSw := S2o0 hSw; (try dsimp only at hSw); have q0 := hSw.1; have q1 := hSw.2.1; have q2 := hSw.2.2.1; have q3 := hSw.2.2.2.1; have q4 := hSw.2.2.2.2; go_simp; try (with_reducible rfl))
  simp only [sB, sC]
  refine U1 4 0 rfl (fun K hK => ?_)
  try clear hb
  go_simp
  (go_at_call 179; refine (HT1.out _).mono ?_; rintro e wn ⟨rfl, hb⟩)
  refine hK.out _ _ (S2i0 (by have hG := hH; replace hG := S2o0 hG; (try dsimp only at hG); have q0 := hG.1; have q1 := hG.2.1; have q2 := hG.2.2.1; have q3 := hG.2.2.2.1; have q4 := hG.2.2.2.2; exact ⟨keepCell hb q0, keepCell hb q1, keepCell hb q2, keepCell hb q3, keepBelow hb q4⟩)) (fun hH2 => ?_)
  clear hK K hH
  rename _ => hH
  try simp only [Act.put, sA, sB, sC]
  refine U1 9 0 rfl (fun K hK => ?_)
  try clear hb
  go_simp
  (go_at_call 179; refine (HT2.out _).mono ?_; rintro e wn ⟨rfl, hb⟩)
  refine hK.out _ _ (S2i0 (by have hG := hH; replace hG := S2o0 hG; (try dsimp only at hG); have q0 := hG.1; have q1 := hG.2.1; have q2 := hG.2.2.1; have q3 := hG.2.2.2.1; have q4 := hG.2.2.2.2; exact ⟨keepCell hb q0, keepCell hb q1, keepCell hb q2, keepCell hb q3, keepBelow hb q4⟩)) (fun hH2 => ?_)
  clear hK K hH
  rename _ => hH
  try simp only [Act.put, sA, sB, sC]
  refine U1 10 0 rfl (fun K hK => ?_)
  try clear hb
  go_simp
  (go_at_call 188; refine (HCM.out _).mono ?_; rintro e wn ⟨rfl, hb⟩)
  refine hK.out _ _ (S2i0 (by have hG := hH; replace hG := S2o0 hG; (try dsimp only at hG); have q0 := hG.1; have q1 := hG.2.1; have q2 := hG.2.2.1; have q3 := hG.2.2.2.1; have q4 := hG.2.2.2.2; exact ⟨keepCell hb q0, keepCell hb q1, keepCell hb q2, keepCell hb q3, keepBelow hb q4⟩)) (fun hH2 => ?_)
  clear hK K hH
  rename _ => hH
  try simp only [Act.put, sA, sB, sC]
  refine Ut 11 4 0 0 0 (v := ?vr1_12) rfl hWr1 hH ?yr1_12 ?_
  case yr1_12 => (intro w' hSw; clear hSw; go_simp; try (with_reducible rfl))
  simp only [sB, sC]
  refine wpAnyU_done (by kernel_rfl) ?_ _ _
  refine NoPanic.normal ?_
  clear hWr1
  replace hH := S2o0 hH
  (try dsimp only at hH)
  have q0 := hH.1
  have q1 := hH.2.1
  have q2 := hH.2.2.1
  have q3 := hH.2.2.2.1
  have q4 := hH.2.2.2.2
  go_wp2
  go_returns
  exact ret_int rfl q4
-- the greatest m from 0 to 65536 with m d <= 65536 n
set_option maxRecDepth 100000 in
set_option maxHeartbeats 4000000 in
theorem pfloor_calls (n d : Int) (hn0 : 0 ≤ n) (hnd : n ≤ d) (hd0 : 0 < d) (hd : d ≤ 4611686018427387904) (w : World) : Calls Try.prog 150 #[vecV n d] w (Ret (.int .i64 (n * 65536 / d)) w) := by
  have HT2 := hid (fun w => times_calls n 65536 (by omega) (by omega) (by omega) (by omega) w)
  have HQ : Hid (∀ low high : Int, low * d ≤ n * 65536 → n * 65536 < high * d → low + 1 = high → low = n * 65536 / d) := fun low high h1 h2 h3 => by
    have a := (Int.le_ediv_iff_mul_le hd0).2 h1
    have b := (Int.ediv_lt_iff_lt_mul hd0).2 h2
    omega
  have HE : Hid (n * 65536 < 65537 * d) := by show _ < _; omega
  have HD := hid (And.intro hd0 hd)
  have HN := hid (And.intro hn0 hnd)
  clear hn0 hnd hd0 hd
  generalize n * 65536 / d = R at *
  have HN6 : Hid (n * 65536 = n * 65536) := rfl
  obtain ⟨W, hW⟩ : ∃ W, W = w.alloc (.cells #[.int .i64 n, .int .i64 d] 168) := ⟨_, rfl⟩
  have c0 : W.cell? ⟨w.heap.size, 0, none⟩ = some (.int .i64 n) := by rw [hW]; go_simp
  have c1 : W.cell? ⟨w.heap.size, 1, none⟩ = some (.int .i64 d) := by rw [hW]; go_simp
  have hB0 : Below w.heap.size w W := by rw [hW]; go_grown
  go_enter Try.func150, Try.ntmps150
  go_wp2_with fail
  rw [← hW]
  clear hW
  go_loopw [3, 4] (fun lv hv wr => ∃ low high : Int, lv = .int .i64 low ∧ hv = .int .i64 high ∧ 0 ≤ low ∧ low < high ∧ high ≤ 65537 ∧ low * d ≤ n * 65536 ∧ n * 65536 < high * d ∧ wr.cell? ⟨w.heap.size, 0, none⟩ = some (.int .i64 n) ∧ wr.cell? ⟨w.heap.size, 1, none⟩ = some (.int .i64 d) ∧ Below w.heap.size w wr) (fun lv hv _ => (intOf hv - intOf lv).toNat)
  case atStart => exact ⟨0, 65537, rfl, rfl, by omega, by omega, by omega, by have := HN.out; omega, HE.out, c0, c1, hB0⟩
  case round =>
    clear c0 c1 hB0
    obtain ⟨low, high, rfl, rfl, h0, h1, h2, h3, h4, q0, q1, hB⟩ := hrel
    obtain ⟨wo, rfl⟩ : ∃ wo : World, wo = wr := ⟨_, rfl⟩
    have H34 := hid (And.intro h3 h4)
    clear h3 h4
    have hw1 : IntKind.i64.wrap (high - low) = high - low := IntWalk.i64_in _ (by omega)
    by_cases hc : 1 < high - low
    · have hw2 : IntKind.i64.wrap (low + high) = low + high := IntWalk.i64_in _ (by omega)
      obtain ⟨m, hm⟩ : ∃ m, m = (low + high) / 2 := ⟨_, rfl⟩
      have htd : (low + high).tdiv 2 = m := by rw [Int.tdiv_eq_ediv_of_nonneg (by omega), hm]
      have hw3 : IntKind.i64.wrap m = m := IntWalk.i64_in _ (by omega)
      have hm1 : low < m := by omega
      have hm2 : m < high := by omega
      have mb := mul_bd (x := m) (y := d) (M := 65537) (N := 4611686018427387904) (by omega) (by omega) (by have := HD.out; omega) (by have := HD.out; omega)
      have nb : 0 ≤ n * 65536 ∧ n * 65536 ≤ 4611686018427387904 * 65536 := by have := HN.out; have := HD.out; omega
      have HT1 := hid (fun w => times_calls m d (by omega) (by omega) (by have := HD.out; omega) (by have := HD.out; omega) w)
      have HCM := hid (show ∀ w, Calls Try.prog 188 #[wideV (m * d), wideV (n * 65536)] w (Ret (.int .i64 (cmpZ (m * d) (n * 65536))) w) from fun w => wcmp_calls (m * d) (n * 65536) (by omega) (by omega) (by omega) (by omega) w)
      clear mb nb hm
      go_upto_region 4 with fail
      refine wp_region_noPanic ?_
      refine wp_region_U (S := (S2 (fun w' => w'.cell? ⟨w.heap.size, 0, none⟩ = some (.int .i64 n) ∧ w'.cell? ⟨w.heap.size, 1, none⟩ = some (.int .i64 d) ∧ Below w.heap.size w w'))) (T := (fun _ => 0)) (by kernel_rfl) (S2i0 ⟨q0, q1, hB.drew⟩) (fun hH => ?_)
      have hWr2 : Weaker (S2 (fun w' => w'.cell? ⟨w.heap.size, 0, none⟩ = some (.int .i64 n) ∧ w'.cell? ⟨w.heap.size, 1, none⟩ = some (.int .i64 d) ∧ Below w.heap.size w w')) := weaker2 _
      refine Ut 0 14 8 0 0 (v := ?vr2_1) rfl hWr2 hH ?yr2_1 ?_
      case yr2_1 => (intro w' hSw; clear hSw; go_simp; try (with_reducible rfl))
      simp only [sB, sC]
      refine Ut 1 15 7 0 0 (v := ?vr2_2) rfl hWr2 hH ?yr2_2 ?_
      case yr2_2 => (intro w' hSw; clear hSw; go_simp; try (with_reducible rfl))
      simp only [sB, sC]
      refine Ut 2 16 6 0 0 (v := ?vr2_3) rfl hWr2 hH ?yr2_3 ?_
      case yr2_3 => (intro w' hSw; replace hSw := S2o0 hSw; (try dsimp only at hSw); have q0 := hSw.1; have q1 := hSw.2.1; have q2 := hSw.2.2; go_simp; try (with_reducible rfl))
      simp only [sB, sC]
      refine Ut 4 18 5 0 0 (v := ?vr2_4) rfl hWr2 hH ?yr2_4 ?_
      case yr2_4 => (intro w' hSw; clear hSw; go_simp; try (with_reducible rfl))
      simp only [sB, sC]
      refine Ut 5 19 4 0 0 (v := ?vr2_5) rfl hWr2 hH ?yr2_5 ?_
      case yr2_5 => (intro w' hSw; replace hSw := S2o0 hSw; (try dsimp only at hSw); have q0 := hSw.1; have q1 := hSw.2.1; have q2 := hSw.2.2; go_simp; try (with_reducible rfl))
      simp only [sB, sC]
      refine U1 3 0 rfl (fun K hK => ?_)
      try clear hb
      go_simp
      (go_at_call 179; refine (HT1.out _).mono ?_; rintro e wn ⟨rfl, hb⟩)
      refine hK.out _ _ (S2i0 (by have hG := hH; replace hG := S2o0 hG; (try dsimp only at hG); have q0 := hG.1; have q1 := hG.2.1; have q2 := hG.2.2; exact ⟨keepCell hb q0, keepCell hb q1, keepBelow hb q2⟩)) (fun hH2 => ?_)
      clear hK K hH
      rename _ => hH
      try simp only [Act.put, sA, sB, sC]
      refine U1 6 0 rfl (fun K hK => ?_)
      try clear hb
      go_simp
      (go_at_call 179; refine (HT2.out _).mono ?_; rintro e wn ⟨rfl, hb⟩)
      refine hK.out _ _ (S2i0 (by have hG := hH; replace hG := S2o0 hG; (try dsimp only at hG); have q0 := hG.1; have q1 := hG.2.1; have q2 := hG.2.2; exact ⟨keepCell hb q0, keepCell hb q1, keepBelow hb q2⟩)) (fun hH2 => ?_)
      clear hK K hH
      rename _ => hH
      try simp only [Act.put, sA, sB, sC]
      refine U1 7 0 rfl (fun K hK => ?_)
      try clear hb
      go_simp
      (go_at_call 188; refine (HCM.out _).mono ?_; rintro e wn ⟨rfl, hb⟩)
      refine hK.out _ _ (S2i0 (by have hG := hH; replace hG := S2o0 hG; (try dsimp only at hG); have q0 := hG.1; have q1 := hG.2.1; have q2 := hG.2.2; exact ⟨keepCell hb q0, keepCell hb q1, keepBelow hb q2⟩)) (fun hH2 => ?_)
      clear hK K hH
      rename _ => hH
      try simp only [Act.put, sA, sB, sC]
      refine Ut 8 22 0 0 0 (v := ?vr2_9) rfl hWr2 hH ?yr2_9 ?_
      case yr2_9 => (intro w' hSw; clear hSw; go_simp; try (with_reducible rfl))
      simp only [sB, sC]
      refine wpAnyU_done (by kernel_rfl) ?_ _ _
      refine NoPanic.normal ?_
      clear hWr2
      replace hH := S2o0 hH
      (try dsimp only at hH)
      have q0 := hH.1
      have q1 := hH.2.1
      have q2 := hH.2.2
      by_cases hle : m * d ≤ n * 65536
      · have hz : cmpZ (m * d) (n * 65536) ≤ 0 := by unfold cmpZ; split <;> (try split) <;> omega
        have H3 := hid hle
        clear hle
        generalize cmpZ (m * d) (n * 65536) = Z at *
        go_wp2
        go_roundw
        case rel => exact ⟨m, high, rfl, rfl, by omega, hm2, h2, H3.out, H34.out.2, q0, q1, q2⟩
        case measure => simp only [intOf]; omega
      · have hz : 0 < cmpZ (m * d) (n * 65536) := by unfold cmpZ; split <;> (try split) <;> omega
        have H3 := hid hle
        clear hle
        generalize cmpZ (m * d) (n * 65536) = Z at *
        go_wp2
        go_roundw
        case rel => exact ⟨low, m, rfl, rfl, h0, hm1, by omega, H34.out.1, by have := H3.out; omega, q0, q1, q2⟩
        case measure => simp only [intOf]; omega
    · have hR := hid (HQ.out low high H34.out.1 H34.out.2 (by omega))
      go_wp2
      go_returns
      exact ret_int hR.out hB
end
end Go.Proofs.Ytienmhgbildhhaa
