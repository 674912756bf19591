/- Contracts of poly.Dot and poly.Cross. -/
import Derived.Test.YtjoodpjndpdjnaaB1
import Derived.Test.YtjoodpjndpdjnaaA10
namespace Go.Proofs.Ytjoodpjndpdjnaa
set_option linter.unusedVariables false
set_option linter.unusedSimpArgs false
open Go.RowKit

set_option maxRecDepth 100000 in
set_option maxHeartbeats 2000000 in
theorem pdot_calls (a b c d : Int) (r1 : -9223372036854775808 ≤ a ∧ a ≤ 9223372036854775807) (r2 : -9223372036854775808 ≤ b ∧ b ≤ 9223372036854775807) (r3 : -9223372036854775808 ≤ c ∧ c ≤ 9223372036854775807) (r4 : -9223372036854775808 ≤ d ∧ d ≤ 9223372036854775807) (w : World) :
    Calls Try.prog 28 #[vecV a b, vecV c d] w (Ret (wideV (a * c + b * d)) w) := by
  obtain ⟨W, hW⟩ : ∃ W, W = ((w.alloc (.cells #[.int .i64 a, .int .i64 b] 24)).alloc (.cells #[.int .i64 c, .int .i64 d] 24)).alloc (.cells #[.int .i64 0, .int .u64 0] 40) := ⟨_, rfl⟩
  have s1 : W.drew.cell? ⟨w.heap.size, 0, none⟩ = some (.int .i64 a) ∧ W.drew.cell? ⟨w.heap.size, 1, none⟩ = some (.int .i64 b) ∧ W.drew.cell? ⟨w.heap.size + 1, 0, none⟩ = some (.int .i64 c) ∧ W.drew.cell? ⟨w.heap.size + 1, 1, none⟩ = some (.int .i64 d) ∧ There W.drew (w.heap.size + 2) 2 ∧ Below w.heap.size w W.drew := by
    subst hW
    exact ⟨by go_simp, by go_simp, by go_simp, by go_simp, fun j hj => match j, hj with | 0, _ => ⟨⟨_, by go_simp; rfl⟩, by go_simp⟩ | 1, _ => ⟨⟨_, by go_simp; rfl⟩, by go_simp⟩, by go_grown⟩
  have S1 := hid s1
  clear s1
  go_enter Try.func28, Try.ntmps28
  go_wp2
  rw [← hW]
  have HW := hid hW
  clear hW
  go_region_held3 (fun w' => w'.cell? ⟨w.heap.size, 0, none⟩ = some (.int .i64 a) ∧ w'.cell? ⟨w.heap.size, 1, none⟩ = some (.int .i64 b) ∧ w'.cell? ⟨w.heap.size + 1, 0, none⟩ = some (.int .i64 c) ∧ w'.cell? ⟨w.heap.size + 1, 1, none⟩ = some (.int .i64 d) ∧ There w' (w.heap.size + 2) 2 ∧ Below w.heap.size w w')
    (first | with_reducible exact S1.out | with_reducible exact ⟨g1, g2, g3, g4, g5, g6⟩ | with_reducible exact ⟨far2 (by omega) g1, far2 (by omega) g2, far2 (by omega) g3, far2 (by omega) g4, ((g5.set _ _).set _ _), by go_grown⟩ | (go_split_ands; with_reducible exact ⟨keepCell hb1 (by assumption), keepCell hb1 (by assumption), keepCell hb1 (by assumption), keepCell hb1 (by assumption), There.below hb1 (by assumption), keepBelow hb1 (by assumption)⟩))
    (first | (go_at_call 31; refine (times_calls _ _ (by omega) (by omega) (by omega) (by omega) _).mono ?_; rintro e w1 ⟨rfl, hb1⟩) | (go_at_call 32; refine (plus_calls _ _ _).mono ?_; rintro e w1 ⟨rfl, hb1⟩; go_split_ands; have g1 : w1.cell? ⟨w.heap.size, 0, none⟩ = some (.int .i64 a) := keepCell hb1 (by assumption); have g2 : w1.cell? ⟨w.heap.size, 1, none⟩ = some (.int .i64 b) := keepCell hb1 (by assumption); have g3 : w1.cell? ⟨w.heap.size + 1, 0, none⟩ = some (.int .i64 c) := keepCell hb1 (by assumption); have g4 : w1.cell? ⟨w.heap.size + 1, 1, none⟩ = some (.int .i64 d) := keepCell hb1 (by assumption); have g5 : There w1 (w.heap.size + 2) 2 := There.below hb1 (by assumption); have g6 : Below w.heap.size w w1 := keepBelow hb1 (by assumption); obtain ⟨z0, z1, y0, y1, f0, f1⟩ := g5.get2))
  go_wp2
  refine bodyPost_ret (v := wideV (a * c + b * d)) (by simp [results, Try.results28, go_sem, y0, y1]) rfl ⟨rfl, ?_⟩
  go_grown

set_option maxRecDepth 100000 in
set_option maxHeartbeats 2000000 in
theorem pcross_calls (a b c d : Int) (r1 : -9223372036854775808 ≤ a ∧ a ≤ 9223372036854775807) (r2 : -9223372036854775808 ≤ b ∧ b ≤ 9223372036854775807) (r3 : -9223372036854775808 ≤ c ∧ c ≤ 9223372036854775807) (r4 : -9223372036854775808 ≤ d ∧ d ≤ 9223372036854775807) (w : World) :
    Calls Try.prog 43 #[vecV a b, vecV c d] w (Ret (wideV (a * d - b * c)) w) := by
  obtain ⟨W, hW⟩ : ∃ W, W = ((w.alloc (.cells #[.int .i64 a, .int .i64 b] 24)).alloc (.cells #[.int .i64 c, .int .i64 d] 24)).alloc (.cells #[.int .i64 0, .int .u64 0] 40) := ⟨_, rfl⟩
  have s1 : W.drew.cell? ⟨w.heap.size, 0, none⟩ = some (.int .i64 a) ∧ W.drew.cell? ⟨w.heap.size, 1, none⟩ = some (.int .i64 b) ∧ W.drew.cell? ⟨w.heap.size + 1, 0, none⟩ = some (.int .i64 c) ∧ W.drew.cell? ⟨w.heap.size + 1, 1, none⟩ = some (.int .i64 d) ∧ There W.drew (w.heap.size + 2) 2 ∧ Below w.heap.size w W.drew := by
    subst hW
    exact ⟨by go_simp, by go_simp, by go_simp, by go_simp, fun j hj => match j, hj with | 0, _ => ⟨⟨_, by go_simp; rfl⟩, by go_simp⟩ | 1, _ => ⟨⟨_, by go_simp; rfl⟩, by go_simp⟩, by go_grown⟩
  have S1 := hid s1
  clear s1
  go_enter Try.func43, Try.ntmps43
  go_wp2
  rw [← hW]
  have HW := hid hW
  clear hW
  go_region_held3 (fun w' => w'.cell? ⟨w.heap.size, 0, none⟩ = some (.int .i64 a) ∧ w'.cell? ⟨w.heap.size, 1, none⟩ = some (.int .i64 b) ∧ w'.cell? ⟨w.heap.size + 1, 0, none⟩ = some (.int .i64 c) ∧ w'.cell? ⟨w.heap.size + 1, 1, none⟩ = some (.int .i64 d) ∧ There w' (w.heap.size + 2) 2 ∧ Below w.heap.size w w')
    (first | with_reducible exact S1.out | with_reducible exact ⟨g1, g2, g3, g4, g5, g6⟩ | with_reducible exact ⟨far2 (by omega) g1, far2 (by omega) g2, far2 (by omega) g3, far2 (by omega) g4, ((g5.set _ _).set _ _), by go_grown⟩ | (go_split_ands; with_reducible exact ⟨keepCell hb1 (by assumption), keepCell hb1 (by assumption), keepCell hb1 (by assumption), keepCell hb1 (by assumption), There.below hb1 (by assumption), keepBelow hb1 (by assumption)⟩))
    (first | (go_at_call 31; refine (times_calls _ _ (by omega) (by omega) (by omega) (by omega) _).mono ?_; rintro e w1 ⟨rfl, hb1⟩) | (go_at_call 33; refine (minus_calls _ _ _).mono ?_; rintro e w1 ⟨rfl, hb1⟩; go_split_ands; have g1 : w1.cell? ⟨w.heap.size, 0, none⟩ = some (.int .i64 a) := keepCell hb1 (by assumption); have g2 : w1.cell? ⟨w.heap.size, 1, none⟩ = some (.int .i64 b) := keepCell hb1 (by assumption); have g3 : w1.cell? ⟨w.heap.size + 1, 0, none⟩ = some (.int .i64 c) := keepCell hb1 (by assumption); have g4 : w1.cell? ⟨w.heap.size + 1, 1, none⟩ = some (.int .i64 d) := keepCell hb1 (by assumption); have g5 : There w1 (w.heap.size + 2) 2 := There.below hb1 (by assumption); have g6 : Below w.heap.size w w1 := keepBelow hb1 (by assumption); obtain ⟨z0, z1, y0, y1, f0, f1⟩ := g5.get2))
  go_wp2
  refine bodyPost_ret (v := wideV (a * d - b * c)) (by simp [results, Try.results43, go_sem, y0, y1]) rfl ⟨rfl, ?_⟩
  go_grown

end Go.Proofs.Ytjoodpjndpdjnaa
