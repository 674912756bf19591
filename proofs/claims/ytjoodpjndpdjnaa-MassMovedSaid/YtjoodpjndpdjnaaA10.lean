/- Contracts of the reference's Cross, Dot, left. -/
import Derived.Test.YtjoodpjndpdjnaaA9
import Derived.Deep.RegionHeld3
namespace Go.Proofs.Ytjoodpjndpdjnaa
set_option linter.unusedVariables false
set_option linter.unusedSimpArgs false
open Go.RowKit

theorem keepCell {w' w'' : World} {b o : Nat} {v : Value} (hb : Below w'.heap.size w' w'') (h : w'.cell? ⟨b, o, none⟩ = some v) : w''.cell? ⟨b, o, none⟩ = some v := ((bcell hb).1 _ _ (lt_of_cell h)).trans h
theorem keepBlk {w' w'' : World} {g : Nat} {o : Nat → Int} (hb : Below w'.heap.size w' w'') (h : Blk8 w' g o) : Blk8 w'' g o := h.below hb h.lt
theorem keepBelow {w w' w'' : World} (hb : Below w'.heap.size w' w'') (h : Below w.heap.size w w') : Below w.heap.size w w'' := h.trans (hb.mono h.size)

/-- n cells of a block are there and may be written -/
def There (w : World) (g n : Nat) : Prop := ∀ j, j < n → (∃ v, w.cell? ⟨g, j, none⟩ = some v) ∧ w.frozen? ⟨g, j, none⟩ = false
theorem There.below {w w' : World} {g n : Nat} (hb : Below w.heap.size w w') (h : There w g n) : There w' g n := fun j hj => by
  obtain ⟨⟨v, hv⟩, hf⟩ := h j hj
  exact ⟨⟨v, keepCell hb hv⟩, ((bcell hb).2 _ _ (lt_of_cell hv)).trans hf⟩
theorem There.set {w : World} {g n : Nat} (h : There w g n) (a : Addr) (u : Value) : There (w.setCell a u) g n := fun j hj => by
  obtain ⟨⟨v, hv⟩, hf⟩ := h j hj
  obtain ⟨v', hv'⟩ := cell?_setCell_some (w := w) (p := a) (x := u) hv
  exact ⟨⟨v', hv'⟩, by rw [World.frozen?_setCell]; exact hf⟩
theorem There.of8 {w : World} {g : Nat} {o : Nat → Int} (h : Blk8 w g o) : There w g 8 := fun j hj => ⟨⟨_, h.cell j hj⟩, h.free j⟩
theorem There.get8 {w : World} {g : Nat} (h : There w g 8) : ∃ z0 z1 z2 z3 z4 z5 z6 z7 : Value, w.cell? ⟨g, 0, none⟩ = some z0 ∧ w.cell? ⟨g, 1, none⟩ = some z1 ∧ w.cell? ⟨g, 2, none⟩ = some z2 ∧ w.cell? ⟨g, 3, none⟩ = some z3 ∧
    w.cell? ⟨g, 4, none⟩ = some z4 ∧ w.cell? ⟨g, 5, none⟩ = some z5 ∧ w.cell? ⟨g, 6, none⟩ = some z6 ∧ w.cell? ⟨g, 7, none⟩ = some z7 ∧ w.frozen? ⟨g, 0, none⟩ = false ∧ w.frozen? ⟨g, 1, none⟩ = false ∧ w.frozen? ⟨g, 2, none⟩ = false ∧ w.frozen? ⟨g, 3, none⟩ = false ∧
    w.frozen? ⟨g, 4, none⟩ = false ∧ w.frozen? ⟨g, 5, none⟩ = false ∧ w.frozen? ⟨g, 6, none⟩ = false ∧ w.frozen? ⟨g, 7, none⟩ = false := by
  obtain ⟨⟨z0, h0⟩, f0⟩ := h 0 (by omega); obtain ⟨⟨z1, h1⟩, f1⟩ := h 1 (by omega); obtain ⟨⟨z2, h2⟩, f2⟩ := h 2 (by omega); obtain ⟨⟨z3, h3⟩, f3⟩ := h 3 (by omega)
  obtain ⟨⟨z4, h4⟩, f4⟩ := h 4 (by omega); obtain ⟨⟨z5, h5⟩, f5⟩ := h 5 (by omega); obtain ⟨⟨z6, h6⟩, f6⟩ := h 6 (by omega); obtain ⟨⟨z7, h7⟩, f7⟩ := h 7 (by omega)
  exact ⟨z0, z1, z2, z3, z4, z5, z6, z7, h0, h1, h2, h3, h4, h5, h6, h7, f0, f1, f2, f3, f4, f5, f6, f7⟩
theorem There.get2 {w : World} {g : Nat} (h : There w g 2) : ∃ z0 z1 : Value, w.cell? ⟨g, 0, none⟩ = some z0 ∧ w.cell? ⟨g, 1, none⟩ = some z1 ∧ w.frozen? ⟨g, 0, none⟩ = false ∧ w.frozen? ⟨g, 1, none⟩ = false := by
  obtain ⟨⟨z0, h0⟩, f0⟩ := h 0 (by omega); obtain ⟨⟨z1, h1⟩, f1⟩ := h 1 (by omega)
  exact ⟨z0, z1, h0, h1, f0, f1⟩
theorem far1 {w : World} {b o g i : Nat} {u v : Value} (hne : g ≠ b) (h : w.cell? ⟨b, o, none⟩ = some v) : (w.setCell ⟨g, i, none⟩ u).cell? ⟨b, o, none⟩ = some v := by
  rw [World.cell?_setCell_other _ _ _ _ (by intro e; exact hne (congrArg Addr.block e))]; exact h
theorem far2 {w : World} {b o g : Nat} {u0 u1 v : Value} (hne : g ≠ b) (h : w.cell? ⟨b, o, none⟩ = some v) : ((w.setCell ⟨g, 0, none⟩ u0).setCell ⟨g, 1, none⟩ u1).cell? ⟨b, o, none⟩ = some v := far1 hne (far1 hne h)
theorem far8 {w : World} {b o g : Nat} {u0 u1 u2 u3 u4 u5 u6 u7 v : Value} (hne : g ≠ b) (h : w.cell? ⟨b, o, none⟩ = some v) :
    ((((((((w.setCell ⟨g, 0, none⟩ u0).setCell ⟨g, 1, none⟩ u1).setCell ⟨g, 2, none⟩ u2).setCell ⟨g, 3, none⟩ u3).setCell ⟨g, 4, none⟩ u4).setCell ⟨g, 5, none⟩ u5).setCell ⟨g, 6, none⟩ u6).setCell ⟨g, 7, none⟩ u7).cell? ⟨b, o, none⟩ = some v :=
  far1 hne (far1 hne (far1 hne (far1 hne (far1 hne (far1 hne (far1 hne (far1 hne h)))))))

set_option maxRecDepth 100000 in
set_option maxHeartbeats 2000000 in
theorem rcross_calls (a b c d : Int) (r1 : -9223372036854775808 ≤ a ∧ a ≤ 9223372036854775807) (r2 : -9223372036854775808 ≤ b ∧ b ≤ 9223372036854775807) (r3 : -9223372036854775808 ≤ c ∧ c ≤ 9223372036854775807) (r4 : -9223372036854775808 ≤ d ∧ d ≤ 9223372036854775807) (w : World) :
    Calls Try.prog 44 #[vecV a b, vecV c d] w (Ret (bigV (a * d - b * c)) w) := by
  obtain ⟨W, hW⟩ : ∃ W, W = ((w.alloc (.cells #[.int .i64 a, .int .i64 b] 24)).alloc (.cells #[.int .i64 c, .int .i64 d] 24)).alloc (.cells (#[.int .u32 0, .int .u32 0, .int .u32 0, .int .u32 0, .int .u32 0, .int .u32 0, .int .u32 0, .int .u32 0]) 52) := ⟨_, rfl⟩
  have ha : W.cell? ⟨w.heap.size, 0, none⟩ = some (.int .i64 a) := by subst hW; go_simp
  have hb : W.cell? ⟨w.heap.size, 1, none⟩ = some (.int .i64 b) := by subst hW; go_simp
  have hc : W.cell? ⟨w.heap.size + 1, 0, none⟩ = some (.int .i64 c) := by subst hW; go_simp
  have hd : W.cell? ⟨w.heap.size + 1, 1, none⟩ = some (.int .i64 d) := by subst hW; go_simp
  have hZ : Blk8 W (w.heap.size + 2) (fun _ => 0) := by subst hW; simpa using (Blk8.here ((w.alloc _).alloc _) 52 (fun _ => 0))
  have hB : Below w.heap.size w W := by subst hW; go_grown
  have s1 : W.drew.cell? ⟨w.heap.size, 0, none⟩ = some (.int .i64 a) ∧ W.drew.cell? ⟨w.heap.size, 1, none⟩ = some (.int .i64 b) ∧ W.drew.cell? ⟨w.heap.size + 1, 0, none⟩ = some (.int .i64 c) ∧ W.drew.cell? ⟨w.heap.size + 1, 1, none⟩ = some (.int .i64 d) ∧ There W.drew (w.heap.size + 2) 8 ∧ Below w.heap.size w W.drew := ⟨ha, hb, hc, hd, There.of8 hZ.drew, hB.drew⟩
  clear ha hb hc hd hZ hB
  have S1 := hid s1
  clear s1
  go_enter Try.func44, Try.ntmps44
  go_wp2
  rw [← hW]
  have HW := hid hW
  clear hW
  go_region_held3 (fun w' => w'.cell? ⟨w.heap.size, 0, none⟩ = some (.int .i64 a) ∧ w'.cell? ⟨w.heap.size, 1, none⟩ = some (.int .i64 b) ∧ w'.cell? ⟨w.heap.size + 1, 0, none⟩ = some (.int .i64 c) ∧ w'.cell? ⟨w.heap.size + 1, 1, none⟩ = some (.int .i64 d) ∧ There w' (w.heap.size + 2) 8 ∧ Below w.heap.size w w')
    (first | with_reducible exact S1.out | with_reducible exact ⟨g1, g2, g3, g4, g5, g6⟩ | with_reducible exact ⟨far8 (by omega) g1, far8 (by omega) g2, far8 (by omega) g3, far8 (by omega) g4, ((((((((g5.set _ _).set _ _).set _ _).set _ _).set _ _).set _ _).set _ _).set _ _), by go_grown⟩ | (go_split_ands; with_reducible exact ⟨keepCell hb1 (by assumption), keepCell hb1 (by assumption), keepCell hb1 (by assumption), keepCell hb1 (by assumption), There.below hb1 (by assumption), keepBelow hb1 (by assumption)⟩))
    (first | (go_at_call 36; refine (of_calls _ (by omega) (by omega) _).mono ?_; rintro e w1 ⟨rfl, hb1⟩) | (go_at_call 37; refine (mul_calls _ _ _).mono ?_; rintro e w1 ⟨rfl, hb1⟩) | (go_at_call 40; refine (bsub_calls _ _ _).mono ?_; rintro e w1 ⟨rfl, hb1⟩; go_split_ands; have g1 : w1.cell? ⟨w.heap.size, 0, none⟩ = some (.int .i64 a) := keepCell hb1 (by assumption); have g2 : w1.cell? ⟨w.heap.size, 1, none⟩ = some (.int .i64 b) := keepCell hb1 (by assumption); have g3 : w1.cell? ⟨w.heap.size + 1, 0, none⟩ = some (.int .i64 c) := keepCell hb1 (by assumption); have g4 : w1.cell? ⟨w.heap.size + 1, 1, none⟩ = some (.int .i64 d) := keepCell hb1 (by assumption); have g5 : There w1 (w.heap.size + 2) 8 := There.below hb1 (by assumption); have g6 : Below w.heap.size w w1 := keepBelow hb1 (by assumption); obtain ⟨z0, z1, z2, z3, z4, z5, z6, z7, y0, y1, y2, y3, y4, y5, y6, y7, f0, f1, f2, f3, f4, f5, f6, f7⟩ := g5.get8))
  go_wp2
  refine bodyPost_ret (v := bigV (a * d - b * c)) (by simp [results, Try.results44, go_sem, y0, y1, y2, y3, y4, y5, y6, y7]) rfl ⟨rfl, ?_⟩
  go_grown

set_option maxRecDepth 100000 in
set_option maxHeartbeats 2000000 in
theorem rdot_calls (a b c d : Int) (r1 : -9223372036854775808 ≤ a ∧ a ≤ 9223372036854775807) (r2 : -9223372036854775808 ≤ b ∧ b ≤ 9223372036854775807) (r3 : -9223372036854775808 ≤ c ∧ c ≤ 9223372036854775807) (r4 : -9223372036854775808 ≤ d ∧ d ≤ 9223372036854775807) (w : World) :
    Calls Try.prog 42 #[vecV a b, vecV c d] w (Ret (bigV (a * c + b * d)) w) := by
  obtain ⟨W, hW⟩ : ∃ W, W = ((w.alloc (.cells #[.int .i64 a, .int .i64 b] 24)).alloc (.cells #[.int .i64 c, .int .i64 d] 24)).alloc (.cells (#[.int .u32 0, .int .u32 0, .int .u32 0, .int .u32 0, .int .u32 0, .int .u32 0, .int .u32 0, .int .u32 0]) 52) := ⟨_, rfl⟩
  have ha : W.cell? ⟨w.heap.size, 0, none⟩ = some (.int .i64 a) := by subst hW; go_simp
  have hb : W.cell? ⟨w.heap.size, 1, none⟩ = some (.int .i64 b) := by subst hW; go_simp
  have hc : W.cell? ⟨w.heap.size + 1, 0, none⟩ = some (.int .i64 c) := by subst hW; go_simp
  have hd : W.cell? ⟨w.heap.size + 1, 1, none⟩ = some (.int .i64 d) := by subst hW; go_simp
  have hZ : Blk8 W (w.heap.size + 2) (fun _ => 0) := by subst hW; simpa using (Blk8.here ((w.alloc _).alloc _) 52 (fun _ => 0))
  have hB : Below w.heap.size w W := by subst hW; go_grown
  have s1 : W.drew.cell? ⟨w.heap.size, 0, none⟩ = some (.int .i64 a) ∧ W.drew.cell? ⟨w.heap.size, 1, none⟩ = some (.int .i64 b) ∧ W.drew.cell? ⟨w.heap.size + 1, 0, none⟩ = some (.int .i64 c) ∧ W.drew.cell? ⟨w.heap.size + 1, 1, none⟩ = some (.int .i64 d) ∧ There W.drew (w.heap.size + 2) 8 ∧ Below w.heap.size w W.drew := ⟨ha, hb, hc, hd, There.of8 hZ.drew, hB.drew⟩
  clear ha hb hc hd hZ hB
  have S1 := hid s1
  clear s1
  go_enter Try.func42, Try.ntmps42
  go_wp2
  rw [← hW]
  have HW := hid hW
  clear hW
  go_region_held3 (fun w' => w'.cell? ⟨w.heap.size, 0, none⟩ = some (.int .i64 a) ∧ w'.cell? ⟨w.heap.size, 1, none⟩ = some (.int .i64 b) ∧ w'.cell? ⟨w.heap.size + 1, 0, none⟩ = some (.int .i64 c) ∧ w'.cell? ⟨w.heap.size + 1, 1, none⟩ = some (.int .i64 d) ∧ There w' (w.heap.size + 2) 8 ∧ Below w.heap.size w w')
    (first | with_reducible exact S1.out | with_reducible exact ⟨g1, g2, g3, g4, g5, g6⟩ | with_reducible exact ⟨far8 (by omega) g1, far8 (by omega) g2, far8 (by omega) g3, far8 (by omega) g4, ((((((((g5.set _ _).set _ _).set _ _).set _ _).set _ _).set _ _).set _ _).set _ _), by go_grown⟩ | (go_split_ands; with_reducible exact ⟨keepCell hb1 (by assumption), keepCell hb1 (by assumption), keepCell hb1 (by assumption), keepCell hb1 (by assumption), There.below hb1 (by assumption), keepBelow hb1 (by assumption)⟩))
    (first | (go_at_call 36; refine (of_calls _ (by omega) (by omega) _).mono ?_; rintro e w1 ⟨rfl, hb1⟩) | (go_at_call 37; refine (mul_calls _ _ _).mono ?_; rintro e w1 ⟨rfl, hb1⟩) | (go_at_call 39; refine (add_calls _ _ _).mono ?_; rintro e w1 ⟨rfl, hb1⟩; go_split_ands; have g1 : w1.cell? ⟨w.heap.size, 0, none⟩ = some (.int .i64 a) := keepCell hb1 (by assumption); have g2 : w1.cell? ⟨w.heap.size, 1, none⟩ = some (.int .i64 b) := keepCell hb1 (by assumption); have g3 : w1.cell? ⟨w.heap.size + 1, 0, none⟩ = some (.int .i64 c) := keepCell hb1 (by assumption); have g4 : w1.cell? ⟨w.heap.size + 1, 1, none⟩ = some (.int .i64 d) := keepCell hb1 (by assumption); have g5 : There w1 (w.heap.size + 2) 8 := There.below hb1 (by assumption); have g6 : Below w.heap.size w w1 := keepBelow hb1 (by assumption); obtain ⟨z0, z1, z2, z3, z4, z5, z6, z7, y0, y1, y2, y3, y4, y5, y6, y7, f0, f1, f2, f3, f4, f5, f6, f7⟩ := g5.get8))
  go_wp2
  refine bodyPost_ret (v := bigV (a * c + b * d)) (by simp [results, Try.results42, go_sem, y0, y1, y2, y3, y4, y5, y6, y7]) rfl ⟨rfl, ?_⟩
  go_grown

end Go.Proofs.Ytjoodpjndpdjnaa
