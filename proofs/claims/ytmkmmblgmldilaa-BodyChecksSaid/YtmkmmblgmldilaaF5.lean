/- The frame: a body among the arguments, opened; its slice takes no more room than the form's reach. -/
import Derived.Test.YtmkmmblgmldilaaZ4
import Derived.Test.YtmkmmblgmldilaaJ4
import Derived.SizedLaws
namespace Go.Proofs.Ytmkmmblgmldilaa
set_option linter.unusedVariables false
set_option linter.unusedSimpArgs false
open Go.ChangeShapes Go.WideShapes Go.ChangeAt Go.RowKit Go.Deep Go.Joins

theorem cells_body : Try.prog.cellsOf 39 = 13 := by kernel_rfl
theorem cells_bool : Try.prog.cellsOf 4 = 1 := by kernel_rfl
theorem cells_vecs : Try.prog.cellsOf 22 = 1 := by kernel_rfl
theorem bytes_vec : Try.prog.bytesOf 34 = 16 := by kernel_rfl
section
variable {H : Type} {enc : TypeId × Value → H} {W : World} {held : Bool} {base : Nat} {sp : Nat → Bool}

theorem open_int_c {n : Nat} {a : Value} {x : DataW H × List MemPlace} (h : DataW.trod enc Try.prog W base sp held n 3 [a] = some x) : ∃ z : Int, a = .int .i64 z := by
  obtain ⟨z, ez, _, _⟩ := DataW.trod_int Try.underlying3 h
  simp at ez
  exact ⟨z, ez⟩
theorem open_bool_c {n : Nat} {a : Value} {x : DataW H × List MemPlace} (h : DataW.trod enc Try.prog W base sp held n 4 [a] = some x) : ∃ z : Bool, a = .bool z := by
  obtain ⟨z, ez, _⟩ := DataW.trod_bool Try.underlying4 h
  simp at ez
  exact ⟨z, ez⟩
theorem open_vec_c {n : Nat} {a b : Value} {x : DataW H × List MemPlace} (h : DataW.trod enc Try.prog W base sp held n 34 [a, b] = some x) : ∃ y z : Int, a = .int .i64 y ∧ b = .int .i64 z := by
  obtain ⟨xs, n', _, _, hlen, hxl, hg⟩ := DataW.trod_struct Try.underlying34 h
  match xs, hxl with
  | [z0, z1], _ =>
    have g0 := hg 0 _ rfl
    have g1 := hg 1 _ rfl
    obtain ⟨y, ey⟩ := open_int_c (by simpa [cells_int] using g0)
    obtain ⟨z, ez⟩ := open_int_c (by simpa [cells_int] using g1)
    exact ⟨y, z, ey, ez⟩

set_option maxRecDepth 100000 in
/-- a cell that holds a slice of vectors, opened -/
theorem open_vecs_c {fuel : Nat} {v : Value} {x : DataW H × List MemPlace} (hf : DataW.trod enc Try.prog W base (fun _ => true) held fuel 22 [v] = some x) (hz : ∀ k ∈ x.1.weights Try.prog 22, k ≤ reachBytes) :
    ∃ A n c l, v = .slice A n c ∧ Sl W A n c l ∧ l.length ≤ 8796093022208 := by
  rcases open_slice Try.underlying22 hf with ⟨hcs, _⟩ | ⟨a, len, cap, m, k, D, Pl, hcs, _, hl, hm, hmm, hxx, hi⟩
  · have e : v = .slice none 0 0 := by simpa using hcs
    subst e
    exact ⟨none, 0, 0, [], rfl, ⟨rfl, by omega, by omega, fun hh => absurd rfl hh⟩, by simp⟩
  · have e : v = .slice (some a) len cap := by simpa using hcs
    subst e
    rw [if_pos rfl] at hmm
    subst hmm
    have hsmall : len ≤ 8796093022208 := by
      rw [hxx] at hz
      have := hz ((((List.range len).map D).length + ((List.range (m - len)).map fun j => D (len + j)).length) * Try.prog.bytesOf 34) (by simp [DataW.weights, Try.underlying22])
      rw [bytes_vec] at this
      simp [reachBytes] at this
      omega
    have hcell : ∀ i, i < len → ∃ x y : Int, W.cell? (a.add (i * 2)) = some (.int .i64 x) ∧ W.cell? (a.add (i * 2 + 1)) = some (.int .i64 y) := by
      intro i him
      obtain ⟨cs', hc, ht'⟩ := hi i (by omega)
      rw [cells_vec] at hc
      obtain ⟨_, hcl, hat⟩ := World.cells?_some hc
      match cs', hcl with
      | [u0, u1], _ =>
        obtain ⟨x, y, ex, ey⟩ := open_vec_c ht'
        subst ex ey
        refine ⟨x, y, ?_, ?_⟩
        · have := hat 0 (by omega)
          rwa [Go.Deep.add_add] at this
        · have := hat 1 (by omega)
          rwa [Go.Deep.add_add] at this
    obtain ⟨l, hll, hlc⟩ := list_of len hcell
    refine ⟨_, _, _, l, rfl, ⟨hll.symm, hl, by unfold maxLen at hm; omega, fun hne => ?_⟩, by omega⟩
    have hn : 0 < len := by
      rcases Nat.eq_zero_or_pos len with h0 | h0
      · exact absurd (List.length_eq_zero_iff.1 (by omega)) hne
      · exact h0
    obtain ⟨b, off, spot⟩ := a
    have hspot : spot = none := by
      have := World.cell?_spot (hlc 0 hn).1
      simpa [Addr.add] using this
    subst hspot
    refine ⟨b, off, rfl, ?_, fun j hj => ?_, fun j hj => ?_⟩
    · have := (hlc 0 hn).1
      simp [Addr.add] at this
      rcases Nat.lt_or_ge b W.heap.size with h1 | h1
      · exact h1
      · have e : W.heap[b]? = none := Array.getElem?_eq_none h1
        simp [World.cell?, e] at this
    · rw [← add_plain]; exact (hlc j (by omega)).1
    · rw [Nat.add_assoc, ← add_plain]; exact (hlc j (by omega)).2

set_option maxRecDepth 100000 in
/-- a body, opened -/
theorem open_body {r : Reach} {b0 : Nat} {v : Value} {d : DataW H} {p : List MemPlace} (hv : Value.okWide Try.prog W r b0 39 v) (h : DataW.Trod enc Try.prog W base (fun _ => true) held 39 v d p)
    (hz : ∀ k ∈ d.weights Try.prog 39, k ≤ reachBytes) : ∃ (b : Bd) (A : Option Addr) (n c : Nat) (l : List V), v = bodyV b A n c ∧ Sl W A n c l ∧ l.length ≤ 8796093022208 := by
  obtain ⟨cs, rfl, hcs⟩ := okWide_struct Try.underlying39 hv
  obtain ⟨fuel, hf⟩ := h
  obtain ⟨xs, m, _, hx, hlen, hxl, hg⟩ := DataW.trod_struct Try.underlying39 hf
  rw [cells_body] at hcs
  obtain ⟨cl⟩ := cs
  match cl, hcs with
  | [c0, c1, c2, c3, c4, c5, c6, c7, c8, c9, c10, c11, c12], _ =>
    match xs, hxl with
    | [x0, x1, x2, x3, x4, x5, x6, x7, x8, x9, x10], _ =>
      have hd : d = .agg [x0.1, x1.1, x2.1, x3.1, x4.1, x5.1, x6.1, x7.1, x8.1, x9.1, x10.1] := by simpa using congrArg Prod.fst hx
      obtain ⟨a0, a1, e0, e1⟩ := open_vec_c (by simpa [Value.cells, cells_vec] using hg 0 _ rfl)
      obtain ⟨a2, a3, e2, e3⟩ := open_vec_c (by simpa [Value.cells, cells_vec] using hg 1 _ rfl)
      obtain ⟨a4, e4⟩ := open_int_c (by simpa [Value.cells, cells_int] using hg 2 _ rfl)
      obtain ⟨a5, e5⟩ := open_int_c (by simpa [Value.cells, cells_int] using hg 3 _ rfl)
      obtain ⟨a6, e6⟩ := open_int_c (by simpa [Value.cells, cells_int] using hg 4 _ rfl)
      obtain ⟨a7, e7⟩ := open_int_c (by simpa [Value.cells, cells_int] using hg 5 _ rfl)
      obtain ⟨a8, e8⟩ := open_int_c (by simpa [Value.cells, cells_int] using hg 6 _ rfl)
      obtain ⟨a9, e9⟩ := open_int_c (by simpa [Value.cells, cells_int] using hg 7 _ rfl)
      have g8 : DataW.trod enc Try.prog W base (fun _ => true) held m 22 [c10] = some x8 := by simpa [Value.cells, cells_vecs] using hg 8 _ rfl
      obtain ⟨a11, e11⟩ := open_bool_c (by simpa [Value.cells, cells_bool] using hg 9 _ rfl)
      obtain ⟨a12, e12⟩ := open_int_c (by simpa [Value.cells, cells_int] using hg 10 _ rfl)
      obtain ⟨A, n, c, l, e10, hS, hl⟩ := open_vecs_c g8 (fun k hk => hz k (by
        rw [hd]
        simp only [DataW.weights, Try.underlying39]
        exact DataW.weights_mem_each (j := 8) rfl rfl k hk))
      subst e0 e1 e2 e3 e4 e5 e6 e7 e8 e9 e10 e11 e12
      exact ⟨⟨a0, a1, a2, a3, a4, a5, a6, a7, a8, a9, a11, a12⟩, A, n, c, l, rfl, hS, hl⟩
end

end Go.Proofs.Ytmkmmblgmldilaa
