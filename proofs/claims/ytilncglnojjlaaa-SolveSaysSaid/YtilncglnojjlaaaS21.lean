/- Parts of a proof: contracts and laws. -/
import Derived.Test.YtilncglnojjlaaaS03
import Derived.Test.YtilncglnojjlaaaS20
namespace Go.Proofs.Ytilncglnojjlaaa
section
set_option linter.unusedVariables false
set_option linter.unusedSimpArgs false
open Go.ChangeShapes Go.WideShapes Go.ChangeAt Go.RowKit Go.Deep Go.Joins
theorem cells_body7 : Try.prog.cellsOf 68 = 13 := by kernel_rfl
theorem cells_bool7 : Try.prog.cellsOf 4 = 1 := by kernel_rfl
theorem cells_vecs7 : Try.prog.cellsOf 66 = 1 := by kernel_rfl
theorem list_be {P : Nat → BE → Prop} (n : Nat) (h : ∀ i, i < n → ∃ x, P i x) : ∃ l : List BE, l.length = n ∧ ∀ i (hi : i < l.length), P i l[i] := by
  induction n with
  | zero => exact ⟨[], rfl, fun i hi => absurd hi (by simp)⟩
  | succ n ih =>
    obtain ⟨l, hl, hp⟩ := ih fun i hi => h i (by omega)
    obtain ⟨x, hx⟩ := h n (by omega)
    refine ⟨l ++ [x], by simp [hl], fun i hi => ?_⟩
    by_cases e : i < l.length
    · rw [List.getElem_append_left e]; exact hp i e
    · have ei : i = n := by simp at hi; omega
      subst ei
      rw [List.getElem_append_right (by omega)]
      simpa [hl] using hx
section
variable {H : Type} {enc : TypeId × Value → H} {W : World} {held : Bool} {base : Nat} {sp : Nat → Bool}
theorem open_int_c7 {n : Nat} {a : Value} {x : DataW H × List MemPlace} (h : DataW.trod enc Try.prog W base sp held n 3 [a] = some x) : ∃ z : Int, a = .int .i64 z := by
  obtain ⟨z, ez, _, _⟩ := DataW.trod_int Try.underlying3 h
  simp at ez
  exact ⟨z, ez⟩
theorem open_bool_c7 {n : Nat} {a : Value} {x : DataW H × List MemPlace} (h : DataW.trod enc Try.prog W base sp held n 4 [a] = some x) : ∃ z : Bool, a = .bool z := by
  obtain ⟨z, ez, _⟩ := DataW.trod_bool Try.underlying4 h
  simp at ez
  exact ⟨z, ez⟩
theorem open_vec_c7 {n : Nat} {a b : Value} {x : DataW H × List MemPlace} (h : DataW.trod enc Try.prog W base sp held n 34 [a, b] = some x) : ∃ y z : Int, a = .int .i64 y ∧ b = .int .i64 z := by
  obtain ⟨xs, n', _, _, hlen, hxl, hg⟩ := DataW.trod_struct Try.underlying34 h
  match xs, hxl with
  | [z0, z1], _ =>
    have g0 := hg 0 _ rfl
    have g1 := hg 1 _ rfl
    obtain ⟨y, ey⟩ := open_int_c7 (by simpa [cells_int] using g0)
    obtain ⟨z, ez⟩ := open_int_c7 (by simpa [cells_int] using g1)
    exact ⟨y, z, ey, ez⟩
set_option maxRecDepth 100000 in
theorem open_vecs_n {fuel : Nat} {v : Value} {x : DataW H × List MemPlace} (hf : DataW.trod enc Try.prog W base (fun _ => true) held fuel 66 [v] = some x) :
    ∃ A n c l, v = .slice A n c ∧ Sl W A n c l := by
  rcases open_slice Try.underlying66 hf with ⟨hcs, _⟩ | ⟨a, len, cap, m, k, D, Pl, hcs, _, hl, hm, hmm, hxx, hi⟩
  · have e : v = .slice none 0 0 := by simpa using hcs
    subst e
    exact ⟨none, 0, 0, [], rfl, ⟨rfl, by omega, by omega, fun hh => absurd rfl hh⟩⟩
  · have e : v = .slice (some a) len cap := by simpa using hcs
    subst e
    rw [if_pos rfl] at hmm
    subst hmm
    have hcell : ∀ i, i < len → ∃ x y : Int, W.cell? (a.add (i * 2)) = some (.int .i64 x) ∧ W.cell? (a.add (i * 2 + 1)) = some (.int .i64 y) := by
      intro i him
      obtain ⟨cs', hc, ht'⟩ := hi i (by omega)
      rw [cells_vec] at hc
      obtain ⟨_, hcl, hat⟩ := World.cells?_some hc
      match cs', hcl with
      | [u0, u1], _ =>
        obtain ⟨x, y, ex, ey⟩ := open_vec_c7 ht'
        subst ex ey
        refine ⟨x, y, ?_, ?_⟩
        · have := hat 0 (by omega)
          rwa [Go.Deep.add_add] at this
        · have := hat 1 (by omega)
          rwa [Go.Deep.add_add] at this
    obtain ⟨l, hll, hlc⟩ := list_of len hcell
    refine ⟨_, _, _, l, rfl, ⟨hll.symm, hl, by unfold maxLen at hm; omega, fun hne => ?_⟩⟩
    have hn : 0 < len := by
      rcases Nat.eq_zero_or_pos len with h0 | h0
      · exact absurd (List.length_eq_zero_iff.1 (by omega)) hne
      · exact h0
    obtain ⟨b, off, spot⟩ := a
    have hspot : spot = none := by
      have := World.cell?_spot (hlc 0 hn).1
      simpa [Addr.add] using this
    subst hspot
    refine ⟨b, off, rfl, ?_, fun j hj => ?_, fun j hj => ?_⟩
    · have := (hlc 0 hn).1
      simp [Addr.add] at this
      rcases Nat.lt_or_ge b W.heap.size with h1 | h1
      · exact h1
      · have e : W.heap[b]? = none := Array.getElem?_eq_none h1
        simp [World.cell?, e] at this
    · rw [← add_plain]; exact (hlc j (by omega)).1
    · rw [Nat.add_assoc, ← add_plain]; exact (hlc j (by omega)).2
set_option maxRecDepth 100000 in

theorem open_be {fuel : Nat} {cl : List Value} {x : DataW H × List MemPlace} (hcs : cl.length = 13) (hf : DataW.trod enc Try.prog W base (fun _ => true) held fuel 68 cl = some x) : ∃ e : BE, cl = encB e ∧ Sl W e.A e.n e.c e.l := by
  obtain ⟨xs, m, _, hx, hlen, hxl, hg⟩ := DataW.trod_struct Try.underlying68 hf
  match cl, hcs with
  | [c0, c1, c2, c3, c4, c5, c6, c7, c8, c9, c10, c11, c12], _ =>
    match xs, hxl with
    | [x0, x1, x2, x3, x4, x5, x6, x7, x8, x9, x10], _ =>
      obtain ⟨a0, a1, e0, e1⟩ := open_vec_c7 (by simpa [Value.cells, cells_vec] using hg 0 _ rfl)
      obtain ⟨a2, a3, e2, e3⟩ := open_vec_c7 (by simpa [Value.cells, cells_vec] using hg 1 _ rfl)
      obtain ⟨a4, e4⟩ := open_int_c7 (by simpa [Value.cells, cells_int] using hg 2 _ rfl)
      obtain ⟨a5, e5⟩ := open_int_c7 (by simpa [Value.cells, cells_int] using hg 3 _ rfl)
      obtain ⟨a6, e6⟩ := open_int_c7 (by simpa [Value.cells, cells_int] using hg 4 _ rfl)
      obtain ⟨a7, e7⟩ := open_int_c7 (by simpa [Value.cells, cells_int] using hg 5 _ rfl)
      obtain ⟨a8, e8⟩ := open_int_c7 (by simpa [Value.cells, cells_int] using hg 6 _ rfl)
      obtain ⟨a9, e9⟩ := open_int_c7 (by simpa [Value.cells, cells_int] using hg 7 _ rfl)
      have g8 : DataW.trod enc Try.prog W base (fun _ => true) held m 66 [c10] = some x8 := by simpa [Value.cells, cells_vecs7] using hg 8 _ rfl
      obtain ⟨a11, e11⟩ := open_bool_c7 (by simpa [Value.cells, cells_bool7] using hg 9 _ rfl)
      obtain ⟨a12, e12⟩ := open_int_c7 (by simpa [Value.cells, cells_int] using hg 10 _ rfl)
      obtain ⟨A, n, c, l, e10, hS⟩ := open_vecs_n g8
      subst e0 e1 e2 e3 e4 e5 e6 e7 e8 e9 e10 e11 e12
      exact ⟨⟨⟨a0, a1, a2, a3, a4, a5, a6, a7, a8, a9, a11, a12⟩, A, n, c, l⟩, rfl, hS⟩
set_option maxRecDepth 100000 in

theorem open_bodies {r : Reach} {b0 : Nat} {v : Value} {d : DataW H} {p : List MemPlace} (hv : Value.okWide Try.prog W r b0 22 v) (h : DataW.Trod enc Try.prog W base (fun _ => true) held 22 v d p) :
    ∃ A n c L, v = .slice A n c ∧ SlB W A n c L := by
  obtain ⟨A, n, c, rfl⟩ := okWide_slice Try.underlying22 hv
  obtain ⟨fuel, hf⟩ := h
  rcases open_slice Try.underlying22 hf with ⟨hcs, _⟩ | ⟨a, len, cap, m, k, D, Pl, hcs, _, hl, hm, hmm, _, hi⟩
  · have e : Value.slice A n c = .slice none 0 0 := by simpa [Value.cells] using hcs
    injection e with e1 e2 e3
    subst e1 e2 e3
    exact ⟨none, 0, 0, [], rfl, SlE.nil _ _, fun x hx => by cases hx⟩
  · have e : Value.slice A n c = .slice (some a) len cap := by simpa [Value.cells] using hcs
    injection e with e1 e2 e3
    subst e1 e2 e3
    rw [if_pos rfl] at hmm
    subst hmm
    have hcell : ∀ i, i < n → ∃ x : BE, (∀ j v, (encB x)[j]? = some v → W.cell? (a.add (i * 13 + j)) = some v) ∧ Sl W x.A x.n x.c x.l := by
      intro i him
      obtain ⟨cs', hc, ht'⟩ := hi i (by omega)
      rw [cells_body7] at hc
      obtain ⟨_, hcl, hat⟩ := World.cells?_some hc
      obtain ⟨x, hx, hS⟩ := open_be hcl ht'
      refine ⟨x, fun j v hj => ?_, hS⟩
      have hj13 : j < cs'.length := by
        rcases Nat.lt_or_ge j cs'.length with g | g
        · exact g
        · rw [hx] at g; rw [List.getElem?_eq_none g] at hj; cases hj
      have := hat j (by omega)
      rw [Go.Deep.add_add] at this
      rw [this]
      subst hx
      first | exact hj | (rw [List.getElem?_eq_getElem hj13] at hj; exact hj)
    obtain ⟨L, hll, hlc⟩ := list_be n hcell
    have hone : L ≠ [] → ∃ b off, a = ⟨b, off, none⟩ ∧ b < W.heap.size := fun hne => by
      have hn : 0 < L.length := by
        rcases Nat.eq_zero_or_pos L.length with h0 | h0
        · exact absurd (List.length_eq_zero_iff.1 h0) hne
        · exact h0
      obtain ⟨b, off, spot⟩ := a
      have c0 := (hlc 0 hn).1 0 _ rfl
      have hspot : spot = none := by
        have := World.cell?_spot c0
        simpa [Addr.add] using this
      subst hspot
      refine ⟨b, off, rfl, ?_⟩
      simp [Addr.add] at c0
      rcases Nat.lt_or_ge b W.heap.size with h1 | h1
      · exact h1
      · have e : W.heap[b]? = none := Array.getElem?_eq_none h1
        simp [World.cell?, e] at c0
    refine ⟨_, _, _, L, rfl, ⟨hll.symm, hl, by unfold maxLen at hm; omega, fun hne => ?_⟩, fun x hx => ?_⟩
    · obtain ⟨b, off, rfl, hb⟩ := hone hne
      refine ⟨b, off, rfl, hb, fun j hj i v hv => ?_⟩
      have := (hlc j hj).1 i v hv
      rwa [add_plain, ← Nat.add_assoc] at this
    · obtain ⟨j, hj, rfl⟩ := List.getElem_of_mem hx
      exact (hlc j hj).2
end
end
end Go.Proofs.Ytilncglnojjlaaa
