/- Parts of a proof: contracts and laws. -/
import Derived.Test.YtienmhgbildhhaaA23
import Derived.Test.YtienmhgbildhhaaA38
import Derived.Test.YtienmhgbildhhaaA43
import Derived.Test.YtienmhgbildhhaaA45
import Derived.Test.YtienmhgbildhhaaA14
namespace Go.Proofs.Ytienmhgbildhhaa
section
set_option linter.unusedVariables false
set_option linter.unusedSimpArgs false
open Go.RowKit

structure Cs (w : World) (g : Nat) (B : Option Addr) (n c : Nat) (p : List V) : Prop where
  a : w.cell? ⟨g, 0, none⟩ = some (.slice B n c)
  s : Sl w B n c p
set_option maxRecDepth 100000 in
set_option maxHeartbeats 2000000 in
theorem rayShape1_calls (A B : Option Addr) (n c n' c' : Nat) (q p : List V) (g1 g2 : Nat) (ux uy : Int) (w : World) (hp : Cs w g1 B n' c' p) (hu : Cf w g2 ux uy) (hS : Sl w A n c q) (h0u : withinB 65536000 ux uy = true) :
    Calls Try.prog 105 #[.slice A n c, .pointer (some ⟨g1, 0, none⟩), .pointer (some ⟨g2, 0, none⟩)] w (Ret (.tuple #[.int .i64 ((lineR (minusL q p) (0, 0) (ux, uy)).getD 0), .bool (lineR (minusL q p) (0, 0) (ux, uy)).isSome]) w) := by
  obtain ⟨mw, ml⟩ := minus_bd q p
  have HM := hid (nminus_calls A B n c n' c' q p w hS hp.s)
  have HL : Hid (∀ (A1 : Option Addr) (n1 c1 : Nat) (w' : World), Sl w' A1 n1 c1 (minusL q p) → Calls Try.prog 101 #[.slice A1 n1 c1, vecV 0 0, vecV ux uy] w' (Ret (.tuple #[.int .i64 ((lineR (minusL q p) (0, 0) (ux, uy)).getD 0), .bool (lineR (minusL q p) (0, 0) (ux, uy)).isSome]) w')) := fun A1 n1 c1 w' h => rline_calls A1 n1 c1 (minusL q p) 0 0 ux uy w' h mw (by omega) rfl h0u
  have hl1 := lt_of_cell hp.a
  have hl2 := lt_of_cell hu.a
  have p0 := hp.a
  obtain ⟨u0, u1⟩ := hu
  clear hS hp h0u mw ml
  generalize (lineR (minusL q p) (0, 0) (ux, uy)).getD 0 = T at *
  generalize (lineR (minusL q p) (0, 0) (ux, uy)).isSome = Bo at *
  generalize minusL q p = D at *
  generalize bothE q p = er at *
  go_enter Try.func105, Try.ntmps105
  go_wp2_with fail
  refine HM.out.mono ?_
  rintro e w1 ⟨A1, n1, c1, rfl, hD, -, hb⟩
  have k0 := keepCell hb u0
  have k1 := keepCell hb u1
  clear u0 u1 p0
  go_wp2_with fail
  refine (HL.out A1 n1 c1 _ hD).mono ?_
  rintro e w2 ⟨rfl, hb2⟩
  go_wp2
  refine bodyPost_ret (v := .tuple #[.int .i64 T, .bool Bo]) (by simp [results, Try.results105, go_sem]) rfl ⟨rfl, keepBelow hb2 hb⟩
theorem cf_rayShape1_calls (args : Array Value) (w : World) : (callFunc 105 args).run Try.prog w = .ok (.enter 105 args) w := by kernel_rfl
set_option maxRecDepth 100000 in
set_option maxHeartbeats 2000000 in
theorem shapes1_calls (A B : Option Addr) (n c n' c' : Nat) (q p : List V) (g1 g2 : Nat) (ux uy : Int) (w : World) (hp : Cs w g1 B n' c' p) (hu : Cf w g2 ux uy) (hS : Sl w A n c q) (hq : checkE q = 0) (hpk : checkE p = 0) (h0u : withinB 65536000 ux uy = true) :
    Calls Try.prog 48 #[.slice A n c, .pointer (some ⟨g1, 0, none⟩), .pointer (some ⟨g2, 0, none⟩)] w (Ret (.tuple #[.int .i64 ((lineR (minusL q p) (0, 0) (ux, uy)).getD 0), .bool (lineR (minusL q p) (0, 0) (ux, uy)).isSome]) w) := by
  obtain ⟨mw, ml⟩ := minus_bd q p
  have HM := hid (fun (w' : World) (hb : Below w.heap.size w w') => rminus_calls A B n c n' c' q p w' (hS.below hb) (hp.s.below hb) hq hpk)
  have HL : Hid (∀ (A1 : Option Addr) (n1 c1 : Nat) (w' : World), Sl w' A1 n1 c1 (minusL q p) → Calls Try.prog 49 #[.slice A1 n1 c1, vecV 0 0, vecV ux uy] w' (Ret (.tuple #[.int .i64 ((lineR (minusL q p) (0, 0) (ux, uy)).getD 0), .bool (lineR (minusL q p) (0, 0) (ux, uy)).isSome]) w')) := fun A1 n1 c1 w' h => by
    have := rLine_calls A1 n1 c1 (minusL q p) 0 0 ux uy w' h mw (by omega) rfl h0u
    rw [← line_law (minus_dif hq hpk).pol] at this
    exact this
  have hl1 := lt_of_cell hp.a
  have hl2 := lt_of_cell hu.a
  have p0 := hp.a
  obtain ⟨u0, u1⟩ := hu
  clear hS hp h0u mw ml hq hpk
  generalize (lineR (minusL q p) (0, 0) (ux, uy)).getD 0 = T at *
  generalize (lineR (minusL q p) (0, 0) (ux, uy)).isSome = Bo at *
  generalize minusL q p = D at *
  go_enter Try.func48, Try.ntmps48
  go_wp2_with fail
  refine wp_region_noPanic ?_
  refine wp_region_U (S := (S2 (fun w' => w'.cell? ⟨g1, 0, none⟩ = some (.slice B n' c') ∧ w'.cell? ⟨g2, 0, none⟩ = some (.int .i64 ux) ∧ w'.cell? ⟨g2, 1, none⟩ = some (.int .i64 uy) ∧ Below w.heap.size w w'))) (T := (fun _ => 0)) (by kernel_rfl) (S2i0 ⟨p0, u0, u1, (Below.refl _ _).drew⟩) (fun hH => ?_)
  have hWr1 : Weaker (S2 (fun w' => w'.cell? ⟨g1, 0, none⟩ = some (.slice B n' c') ∧ w'.cell? ⟨g2, 0, none⟩ = some (.int .i64 ux) ∧ w'.cell? ⟨g2, 1, none⟩ = some (.int .i64 uy) ∧ Below w.heap.size w w')) := weaker2 _
  refine U_take 0 6 9 0 0 (v := ?vr1_1) rfl (by kernel_rfl) (by kernel_rfl) hWr1 (by kernel_rfl) (by kernel_rfl) (by kernel_rfl) (by kernel_rfl) (by kernel_rfl) (by kernel_rfl) (fun _ _ _ _ h => h) (by kernel_rfl) ?hyr1_1 (by omega) hH ?_
  case hyr1_1 => (intro w' hSw; clear hSw; go_simp; try (with_reducible rfl))
  simp only [List.set_cons_zero, List.set_cons_succ]
  refine U_take 1 7 8 0 0 (v := ?vr1_2) rfl (by kernel_rfl) (by kernel_rfl) hWr1 (by kernel_rfl) (by kernel_rfl) (by kernel_rfl) (by kernel_rfl) (by kernel_rfl) (by kernel_rfl) (fun _ _ _ _ h => h) (by kernel_rfl) ?hyr1_2 (by omega) hH ?_
  case hyr1_2 => (intro w' hSw; replace hSw := S2o0 hSw; (try dsimp only at hSw); have q0 := hSw.1; have q1 := hSw.2.1; have q2 := hSw.2.2.1; have q3 := hSw.2.2.2; go_simp; try (with_reducible rfl))
  simp only [List.set_cons_zero, List.set_cons_succ]
  refine U_take 3 9 7 0 0 (v := ?vr1_3) rfl (by kernel_rfl) (by kernel_rfl) hWr1 (by kernel_rfl) (by kernel_rfl) (by kernel_rfl) (by kernel_rfl) (by kernel_rfl) (by kernel_rfl) (fun _ _ _ _ h => h) (by kernel_rfl) ?hyr1_3 (by omega) hH ?_
  case hyr1_3 => (intro w' hSw; clear hSw; go_simp; try (with_reducible rfl))
  simp only [List.set_cons_zero, List.set_cons_succ]
  refine U_take 4 10 6 0 0 (v := ?vr1_4) rfl (by kernel_rfl) (by kernel_rfl) hWr1 (by kernel_rfl) (by kernel_rfl) (by kernel_rfl) (by kernel_rfl) (by kernel_rfl) (by kernel_rfl) (fun _ _ _ _ h => h) (by kernel_rfl) ?hyr1_4 (by omega) hH ?_
  case hyr1_4 => (intro w' hSw; replace hSw := S2o0 hSw; (try dsimp only at hSw); have q0 := hSw.1; have q1 := hSw.2.1; have q2 := hSw.2.2.1; have q3 := hSw.2.2.2; go_simp; try (with_reducible rfl))
  simp only [List.set_cons_zero, List.set_cons_succ]
  refine wpAnyU_ready (rs := [2]) (by kernel_rfl) (by simp) ?_
  refine AllReadyU.cons 0 (by kernel_rfl) (o := _) rfl (fun K hK => ?_) AllReadyU.nil
  try clear hb
  have hG := hH
  replace hG := S2o0 hG; (try dsimp only at hG); have q0 := hG.1; have q1 := hG.2.1; have q2 := hG.2.2.1; have q3 := hG.2.2.2
  go_simp
  (go_at_call 50; refine (HM.out _ q3).mono ?_; rintro e wn ⟨A1, n1, c1, rfl, hD, -, hb⟩)
  refine hK.out _ _ ?hsr1_5 (fun hH2 => ?hrr1_5)
  case hsr1_5 => exact S2i0 (by have hG := hH; replace hG := S2o0 hG; (try dsimp only at hG); have q0 := hG.1; have q1 := hG.2.1; have q2 := hG.2.2.1; have q3 := hG.2.2.2; exact ⟨keepCell hb q0, keepCell hb q1, keepCell hb q2, keepBelow hb q3⟩)
  clear hK K hH
  have hH := hH2
  clear hH2
  try simp only [Act.put, List.setIfInBounds_toArray, List.set_cons_zero, List.set_cons_succ]
  refine wpAnyU_ready (rs := [5]) (by kernel_rfl) (by simp) ?_
  refine AllReadyU.cons 0 (by kernel_rfl) (o := _) rfl (fun K hK => ?_) AllReadyU.nil
  try clear hb
  go_simp
  (go_at_call 49; refine (HL.out A1 n1 c1 _ hD).mono ?_; rintro e wn ⟨rfl, hb⟩)
  refine hK.out _ _ ?hsr1_6 (fun hH2 => ?hrr1_6)
  case hsr1_6 => exact S2i0 (by have hG := hH; replace hG := S2o0 hG; (try dsimp only at hG); have q0 := hG.1; have q1 := hG.2.1; have q2 := hG.2.2.1; have q3 := hG.2.2.2; exact ⟨keepCell hb q0, keepCell hb q1, keepCell hb q2, keepBelow hb q3⟩)
  clear hK K hH
  have hH := hH2
  clear hH2
  try simp only [Act.put, List.setIfInBounds_toArray, List.set_cons_zero, List.set_cons_succ]
  refine U_take 6 12 3 0 0 (v := ?vr1_7) rfl (by kernel_rfl) (by kernel_rfl) hWr1 (by kernel_rfl) (by kernel_rfl) (by kernel_rfl) (by kernel_rfl) (by kernel_rfl) (by kernel_rfl) (fun _ _ _ _ h => h) (by kernel_rfl) ?hyr1_7 (by omega) hH ?_
  case hyr1_7 => (intro w' hSw; clear hSw; go_simp; try (with_reducible rfl))
  simp only [List.set_cons_zero, List.set_cons_succ]
  refine U_take 7 13 2 0 0 (v := ?vr1_8) rfl (by kernel_rfl) (by kernel_rfl) hWr1 (by kernel_rfl) (by kernel_rfl) (by kernel_rfl) (by kernel_rfl) (by kernel_rfl) (by kernel_rfl) (fun _ _ _ _ h => h) (by kernel_rfl) ?hyr1_8 (by omega) hH ?_
  case hyr1_8 => (intro w' hSw; clear hSw; go_simp; try (with_reducible rfl))
  simp only [List.set_cons_zero, List.set_cons_succ]
  refine U_take 8 4 1 0 0 (v := ?vr1_9) rfl (by kernel_rfl) (by kernel_rfl) hWr1 (by kernel_rfl) (by kernel_rfl) (by kernel_rfl) (by kernel_rfl) (by kernel_rfl) (by kernel_rfl) (fun _ _ _ _ h => h) (by kernel_rfl) ?hyr1_9 (by omega) hH ?_
  case hyr1_9 => (intro w' hSw; clear hSw; go_simp; try (with_reducible rfl))
  simp only [List.set_cons_zero, List.set_cons_succ]
  refine U_take 9 5 0 0 0 (v := ?vr1_10) rfl (by kernel_rfl) (by kernel_rfl) hWr1 (by kernel_rfl) (by kernel_rfl) (by kernel_rfl) (by kernel_rfl) (by kernel_rfl) (by kernel_rfl) (fun _ _ _ _ h => h) (by kernel_rfl) ?hyr1_10 (by omega) hH ?_
  case hyr1_10 => (intro w' hSw; clear hSw; go_simp; try (with_reducible rfl))
  simp only [List.set_cons_zero, List.set_cons_succ]
  refine wpAnyU_done (by kernel_rfl) ?_ _ _
  refine NoPanic.normal ?_
  clear hWr1
  replace hH := S2o0 hH
  (try dsimp only at hH)
  have t0 := hH.1
  have t1 := hH.2.1
  have t2 := hH.2.2.1
  have t3 := hH.2.2.2
  go_wp2
  refine bodyPost_ret (v := .tuple #[.int .i64 T, .bool Bo]) (by simp [results, Try.results48, go_sem]) rfl ⟨rfl, t3⟩
theorem cf_shapes1_calls (args : Array Value) (w : World) : (callFunc 48 args).run Try.prog w = .ok (.enter 48 args) w := by kernel_rfl
end
end Go.Proofs.Ytienmhgbildhhaa
