/- Parts of a proof: contracts and laws. -/
import Derived.Test.YtiaoandbdgdecaaPT10
import Derived.Test.YtiaoandbdgdecaaPT09
import Derived.Test.YtiaoandbdgdecaaPT43
import Derived.Lib.AppendZerosOnto
namespace Go.Proofs.Ytiaoandbdgdecaa
section
set_option linter.unusedVariables false
set_option linter.unusedSimpArgs false
open Go.RowKit
section
variable {α : Type} {L : Lay α} {e : TypeId}

end

structure PO (w0 : World) (s : Value) (o : List (Nat × Nat)) (w : World) : Prop where
  own : OwnE layPair 52 w w0.heap.size s o
  bel : Below w0.heap.size w0 w
theorem PO.nil (w : World) : PO w (.slice none 0 0) [] w := ⟨OwnE.nil _ _ _ _, Below.refl _ _⟩
theorem PO.keep {w0 : World} {s : Value} {o : List (Nat × Nat)} {w w' : World} (hb : Below w.heap.size w w') (h : PO w0 s o w) : PO w0 s o w' := ⟨h.own.below hb, keepBelow hb h.bel⟩
theorem PO.app {w0 : World} {s s' : Value} {o o' : List (Nat × Nat)} {w w' : World} (h : PO w0 s o w) (ho : OwnE layPair 52 w' w0.heap.size s' o') (hg : w.grownBy w' s.ownBlock) : PO w0 s' o' w' :=
  ⟨ho, h.bel.grown hg h.bel.size (fun k hk => (h.own.lt hk).1)⟩
theorem PO.ret {w0 : World} {s : Value} {o : List (Nat × Nat)} {w : World} (h : PO w0 s o w) : ∃ A n c, s = .slice A n c ∧ RetPrs o w0 (.returned (.slice A n c)) w := by
  obtain ⟨A, n, c, rfl, hs, hf⟩ := h.own.sl
  exact ⟨A, n, c, rfl, A, n, c, rfl, hs, hf, h.bel⟩
set_option maxRecDepth 100000 in
theorem rbox_calls (x y u v : Int) (w : World) : Calls Try.prog 16 #[.agg #[.int .i64 x, .int .i64 y, .int .i64 u, .int .i64 v]] w (Ret (.bool (vldB ((x, y), (u, v)))) w) := by
  have HZ : Hid (vldB ((x, y), (u, v)) = decide (x ≤ u ∧ y ≤ v)) := rfl
  obtain ⟨z, hz⟩ : ∃ z, z = vldB ((x, y), (u, v)) := ⟨_, rfl⟩
  rw [← hz] at HZ ⊢
  clear hz
  by_cases h1 : x ≤ u
  · by_cases h2 : y ≤ v
    · have HR : Hid (z = true) := by show _ = _; rw [HZ.out]; exact decide_eq_true ⟨h1, h2⟩
      clear HZ
      go_enter Try.func16, Try.ntmps16
      go_wp2
      go_returns
      exact ret_bool (by rw [HR.out]; try simp [*]) (by go_grown)
    · have HR : Hid (z = false) := by show _ = _; rw [HZ.out]; exact decide_eq_false (fun h => h2 h.2)
      clear HZ
      go_enter Try.func16, Try.ntmps16
      go_wp2
      go_returns
      exact ret_bool (by rw [HR.out]; try simp [*]) (by go_grown)
  · have HR : Hid (z = false) := by show _ = _; rw [HZ.out]; exact decide_eq_false (fun h => h1 h.1)
    clear HZ
    go_enter Try.func16, Try.ntmps16
    go_wp2
    go_returns
    exact ret_bool (by rw [HR.out]; try simp [*]) (by go_grown)
theorem tch_max (a1 a2 a3 a4 b1 b2 b3 b4 : Int) : tchB ((a1, a2), (a3, a4)) ((b1, b2), (b3, b4)) = (vldB ((a1, a2), (a3, a4)) && (vldB ((b1, b2), (b3, b4)) && (decide (max a1 b1 ≤ min a3 b3) && decide (max a2 b2 ≤ min a4 b4)))) := by
  rw [Bool.eq_iff_iff, tchB_iff]
  unfold vldB
  simp only [Bool.and_eq_true, decide_eq_true_iff]
  omega
set_option maxRecDepth 100000 in
set_option maxHeartbeats 4000000 in
theorem rtouch_calls (a1 a2 a3 a4 b1 b2 b3 b4 : Int) (w : World) : Calls Try.prog 35 #[bxV ((a1, a2), (a3, a4)), bxV ((b1, b2), (b3, b4))] w (Ret (.bool (tchB ((a1, a2), (a3, a4)) ((b1, b2), (b3, b4)))) w) := by
  have HT := hid (tch_max a1 a2 a3 a4 b1 b2 b3 b4)
  have HVA := hid (rbox_calls a1 a2 a3 a4)
  have HVB := hid (rbox_calls b1 b2 b3 b4)
  generalize tchB ((a1, a2), (a3, a4)) ((b1, b2), (b3, b4)) = T at *
  generalize vldB ((a1, a2), (a3, a4)) = va at *
  generalize vldB ((b1, b2), (b3, b4)) = vb at *
  obtain ⟨W, hW⟩ : ∃ W, W = (w.alloc (.cells #[.int .i64 a1, .int .i64 a2, .int .i64 a3, .int .i64 a4] 32)).alloc (.cells #[.int .i64 b1, .int .i64 b2, .int .i64 b3, .int .i64 b4] 32) := ⟨_, rfl⟩
  have ca0 : W.cell? ⟨w.heap.size, 0, none⟩ = some (.int .i64 a1) := by rw [hW]; go_simp
  have ca1 : W.cell? ⟨w.heap.size, 1, none⟩ = some (.int .i64 a2) := by rw [hW]; go_simp
  have ca2 : W.cell? ⟨w.heap.size, 2, none⟩ = some (.int .i64 a3) := by rw [hW]; go_simp
  have ca3 : W.cell? ⟨w.heap.size, 3, none⟩ = some (.int .i64 a4) := by rw [hW]; go_simp
  have cb0 : W.cell? ⟨w.heap.size + 1, 0, none⟩ = some (.int .i64 b1) := by rw [hW]; go_simp
  have cb1 : W.cell? ⟨w.heap.size + 1, 1, none⟩ = some (.int .i64 b2) := by rw [hW]; go_simp
  have cb2 : W.cell? ⟨w.heap.size + 1, 2, none⟩ = some (.int .i64 b3) := by rw [hW]; go_simp
  have cb3 : W.cell? ⟨w.heap.size + 1, 3, none⟩ = some (.int .i64 b4) := by rw [hW]; go_simp
  have hB : Below w.heap.size w W := by rw [hW]; go_grown
  go_enter Try.func35, Try.ntmps35
  go_wp2_with fail
  rw [← hW]
  clear hW
  refine (HVA.out _).mono ?_
  rintro e w1 ⟨rfl, hb1⟩
  replace ca0 := keepCell hb1 ca0
  replace ca1 := keepCell hb1 ca1
  replace ca2 := keepCell hb1 ca2
  replace ca3 := keepCell hb1 ca3
  replace cb0 := keepCell hb1 cb0
  replace cb1 := keepCell hb1 cb1
  replace cb2 := keepCell hb1 cb2
  replace cb3 := keepCell hb1 cb3
  replace hB := keepBelow hb1 hB
  clear hb1 HVA
  cases va with
  | false =>
    have HR : Hid (T = false) := HT.out
    clear HT HVB
    go_wp2
    go_returns
    exact ret_bool (by rw [HR.out]) hB
  | true =>
    go_wp2_with fail
    refine (HVB.out _).mono ?_
    rintro e w2 ⟨rfl, hb2⟩
    replace ca0 := keepCell hb2 ca0
    replace ca1 := keepCell hb2 ca1
    replace ca2 := keepCell hb2 ca2
    replace ca3 := keepCell hb2 ca3
    replace cb0 := keepCell hb2 cb0
    replace cb1 := keepCell hb2 cb1
    replace cb2 := keepCell hb2 cb2
    replace cb3 := keepCell hb2 cb3
    replace hB := keepBelow hb2 hB
    clear hb2 HVB
    cases vb with
    | false =>
      have HR : Hid (T = false) := HT.out
      clear HT
      go_wp2
      go_returns
      exact ret_bool (by rw [HR.out]) hB
    | true =>
      by_cases k0 : max a1 b1 ≤ min a3 b3
      · by_cases k1 : max a2 b2 ≤ min a4 b4
        · have HR : Hid (T = true) := by show _ = _; rw [HT.out, decide_eq_true k0, decide_eq_true k1]; rfl
          clear HT
          go_wp2
          go_returns
          exact ret_bool (by rw [HR.out]; try simp [*]) hB
        · have HR : Hid (T = false) := by show _ = _; rw [HT.out, decide_eq_true k0, decide_eq_false k1]; simp
          clear HT
          go_wp2
          go_returns
          exact ret_bool (by rw [HR.out]; try simp [*]) hB
      · have HR : Hid (T = false) := by show _ = _; rw [HT.out, decide_eq_false k0]; simp
        clear HT
        go_wp2
        go_returns
        exact ret_bool (by rw [HR.out]; try simp [*]) hB
end
end Go.Proofs.Ytiaoandbdgdecaa
