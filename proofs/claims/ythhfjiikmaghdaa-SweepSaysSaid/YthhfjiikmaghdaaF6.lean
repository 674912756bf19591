/- Slices of boxes, opened. -/
import Derived.Test.YthhfjiikmaghdaaZ4
import Derived.Test.YthhfjiikmaghdaaW1
namespace Go.Proofs.Ythhfjiikmaghdaa
set_option linter.unusedVariables false
set_option linter.unusedSimpArgs false
open Go.ChangeShapes Go.WideShapes Go.ChangeAt Go.RowKit Go.Deep Go.Joins

theorem cells_boxT : Try.prog.cellsOf 55 = 4 := by kernel_rfl
theorem list_box {P : Nat → Bx → Prop} (n : Nat) (h : ∀ i, i < n → ∃ x, P i x) : ∃ l : List Bx, l.length = n ∧ ∀ i (hi : i < l.length), P i l[i] := by
  induction n with
  | zero => exact ⟨[], rfl, fun i hi => absurd hi (by simp)⟩
  | succ n ih =>
    obtain ⟨l, hl, hp⟩ := ih fun i hi => h i (by omega)
    obtain ⟨x, hx⟩ := h n (by omega)
    refine ⟨l ++ [x], by simp [hl], fun i hi => ?_⟩
    by_cases e : i < l.length
    · rw [List.getElem_append_left e]; exact hp i e
    · have ei : i = n := by simp at hi; omega
      subst ei
      rw [List.getElem_append_right (by omega)]
      simpa [hl] using hx
section
variable {H : Type} {enc : TypeId × Value → H} {W : World} {held : Bool} {base : Nat}
theorem open_box_v {n : Nat} {a b : Value} {x : DataW H × List MemPlace} (h : DataW.trod enc Try.prog W base (fun _ => true) held n 25 [a, b] = some x) : ∃ y z : Int, a = .int .i64 y ∧ b = .int .i64 z := by
  obtain ⟨xs, n', _, _, hlen, hxl, hg⟩ := DataW.trod_struct Try.underlying25 h
  match xs, hxl with
  | [z0, z1], _ =>
    have g0 := hg 0 _ rfl
    have g1 := hg 1 _ rfl
    obtain ⟨y, ey, _, _⟩ := DataW.trod_int Try.underlying3 (by simpa [cells_int] using g0)
    obtain ⟨z, ez, _, _⟩ := DataW.trod_int Try.underlying3 (by simpa [cells_int] using g1)
    simp at ey ez
    exact ⟨y, z, ey, ez⟩
set_option maxRecDepth 100000 in
/-- a slice of boxes, opened -/
theorem open_boxes {r : Reach} {b0 : Nat} {v : Value} {d : DataW H} {p : List MemPlace} (hv : Value.okWide Try.prog W r b0 52 v) (h : DataW.Trod enc Try.prog W base (fun _ => true) held 52 v d p) :
    ∃ A n c l, v = .slice A n c ∧ SlE layBox W A n c l := by
  obtain ⟨A, n, c, rfl⟩ := okWide_slice Try.underlying52 hv
  obtain ⟨fuel, hf⟩ := h
  rcases open_slice Try.underlying52 hf with ⟨hcs, _⟩ | ⟨a, len, cap, m, k, D, Pl, hcs, _, hl, hm, hmm, _, hi⟩
  · have e : Value.slice A n c = .slice none 0 0 := by simpa [Value.cells] using hcs
    injection e with e1 e2 e3
    subst e1 e2 e3
    exact ⟨none, 0, 0, [], rfl, SlE.nil _ _⟩
  · have e : Value.slice A n c = .slice (some a) len cap := by simpa [Value.cells] using hcs
    injection e with e1 e2 e3
    subst e1 e2 e3
    rw [if_pos rfl] at hmm
    subst hmm
    have hcell : ∀ i, i < n → ∃ x : Bx, W.cell? (a.add (i * 4)) = some (.int .i64 x.1.1) ∧ W.cell? (a.add (i * 4 + 1)) = some (.int .i64 x.1.2) ∧ W.cell? (a.add (i * 4 + 2)) = some (.int .i64 x.2.1) ∧ W.cell? (a.add (i * 4 + 3)) = some (.int .i64 x.2.2) := by
      intro i him
      obtain ⟨cs', hc, ht'⟩ := hi i (by omega)
      rw [cells_boxT] at hc
      obtain ⟨xs, n', _, _, hlen, hxl, hg⟩ := DataW.trod_struct Try.underlying55 ht'
      obtain ⟨_, hcl, hat⟩ := World.cells?_some hc
      match cs', hcl with
      | [u0, u1, u2, u3], _ =>
        match xs, hxl with
        | [z0, z1], _ =>
          obtain ⟨a0, a1, e0, e1⟩ := open_box_v (by simpa [cells_vec] using hg 0 _ rfl)
          obtain ⟨a2, a3, e2, e3⟩ := open_box_v (by simpa [cells_vec] using hg 1 _ rfl)
          subst e0 e1 e2 e3
          refine ⟨((a0, a1), (a2, a3)), ?_, ?_, ?_, ?_⟩
          · have := hat 0 (by omega)
            rwa [Go.Deep.add_add] at this
          · have := hat 1 (by omega)
            rwa [Go.Deep.add_add] at this
          · have := hat 2 (by omega)
            rwa [Go.Deep.add_add] at this
          · have := hat 3 (by omega)
            rwa [Go.Deep.add_add] at this
    obtain ⟨l, hll, hlc⟩ := list_box n hcell
    refine ⟨_, _, _, l, rfl, hll.symm, hl, by unfold maxLen at hm; omega, fun hne => ?_⟩
    have hn : 0 < l.length := by
      rcases Nat.eq_zero_or_pos l.length with h0 | h0
      · exact absurd (List.length_eq_zero_iff.1 h0) hne
      · exact h0
    obtain ⟨b, off, spot⟩ := a
    have hspot : spot = none := by
      have := World.cell?_spot (hlc 0 hn).1
      simpa [Addr.add] using this
    subst hspot
    refine ⟨b, off, rfl, ?_, fun j hj i v hv => ?_⟩
    · have := (hlc 0 hn).1
      simp [Addr.add] at this
      rcases Nat.lt_or_ge b W.heap.size with h1 | h1
      · exact h1
      · have e : W.heap[b]? = none := Array.getElem?_eq_none h1
        simp [World.cell?, e] at this
    · obtain ⟨k0, k1, k2, k3⟩ := hlc j hj
      rw [add_plain] at k0 k1 k2 k3
      match i, hv with
      | 0, hv => have e : some (Value.int .i64 l[j].1.1) = some v := hv; cases e; exact k0
      | 1, hv => have e : some (Value.int .i64 l[j].1.2) = some v := hv; cases e; rw [Nat.add_assoc]; exact k1
      | 2, hv => have e : some (Value.int .i64 l[j].2.1) = some v := hv; cases e; rw [Nat.add_assoc]; exact k2
      | 3, hv => have e : some (Value.int .i64 l[j].2.2) = some v := hv; cases e; rw [Nat.add_assoc]; exact k3
      | i + 4, hv => simp [layBox] at hv
end

end Go.Proofs.Ythhfjiikmaghdaa
