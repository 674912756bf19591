/- Parts of a proof: contracts and laws. -/
import Derived.Test.YtiaoandbdgdecaaPT01
import Derived.Test.YtiaoandbdgdecaaPT08
import Derived.Test.YtiaoandbdgdecaaPT04
namespace Go.Proofs.Ytiaoandbdgdecaa
section
set_option linter.unusedVariables false
set_option linter.unusedSimpArgs false
open Go.ChangeShapes Go.WideShapes Go.ChangeAt Go.RowKit Go.Deep Go.Joins

structure Ac where
  what : Int
  id : Int
  bx : Bx
def encAc (x : Ac) : List Value := [.int .i64 x.what, .int .i64 x.id, .int .i64 x.bx.1.1, .int .i64 x.bx.1.2, .int .i64 x.bx.2.1, .int .i64 x.bx.2.2]
def layAc : Lay Ac := ⟨encAc, 6, fun _ => rfl, fun x v hv => by simp only [encAc, List.mem_cons, List.mem_nil_iff, or_false] at hv; rcases hv with rfl | rfl | rfl | rfl | rfl | rfl <;> rfl, by omega⟩
theorem cells_ac {w : World} {b off k : Nat} {l : List Ac} {x : Ac} (h : CellsE layAc w b off l) (hk : k < l.length) (hx : x = l[k]) :
    w.cell? ⟨b, off + k * 6, none⟩ = some (.int .i64 x.what) ∧ w.cell? ⟨b, off + k * 6 + 1, none⟩ = some (.int .i64 x.id) ∧ w.cell? ⟨b, off + k * 6 + 2, none⟩ = some (.int .i64 x.bx.1.1) ∧ w.cell? ⟨b, off + k * 6 + 3, none⟩ = some (.int .i64 x.bx.1.2) ∧ w.cell? ⟨b, off + k * 6 + 4, none⟩ = some (.int .i64 x.bx.2.1) ∧ w.cell? ⟨b, off + k * 6 + 5, none⟩ = some (.int .i64 x.bx.2.2) := by
  subst hx
  exact ⟨h.at_ k hk 0 _ rfl, h.at_ k hk 1 _ rfl, h.at_ k hk 2 _ rfl, h.at_ k hk 3 _ rfl, h.at_ k hk 4 _ rfl, h.at_ k hk 5 _ rfl⟩
theorem cells_act6 : Try.prog.cellsOf 44 = 6 := by kernel_rfl
theorem list_ac {P : Nat → Ac → Prop} (n : Nat) (h : ∀ i, i < n → ∃ x, P i x) : ∃ l : List Ac, l.length = n ∧ ∀ i (hi : i < l.length), P i l[i] := by
  induction n with
  | zero => exact ⟨[], rfl, fun i hi => absurd hi (by simp)⟩
  | succ n ih =>
    obtain ⟨l, hl, hp⟩ := ih fun i hi => h i (by omega)
    obtain ⟨x, hx⟩ := h n (by omega)
    refine ⟨l ++ [x], by simp [hl], fun i hi => ?_⟩
    by_cases e : i < l.length
    · rw [List.getElem_append_left e]; exact hp i e
    · have ei : i = n := by simp at hi; omega
      subst ei
      rw [List.getElem_append_right (by omega)]
      simpa [hl] using hx
section
variable {H : Type} {enc : TypeId × Value → H} {W : World} {held : Bool} {base : Nat} {sp : Nat → Bool}
theorem open_int_ca {n : Nat} {a : Value} {x : DataW H × List MemPlace} (h : DataW.trod enc Try.prog W base sp held n 3 [a] = some x) : ∃ z : Int, a = .int .i64 z := by
  obtain ⟨z, ez, _, _⟩ := DataW.trod_int Try.underlying3 h
  simp at ez
  exact ⟨z, ez⟩
theorem open_vec_ca {n : Nat} {a b : Value} {x : DataW H × List MemPlace} (h : DataW.trod enc Try.prog W base sp held n 30 [a, b] = some x) : ∃ y z : Int, a = .int .i64 y ∧ b = .int .i64 z := by
  obtain ⟨xs, n', _, _, hlen, hxl, hg⟩ := DataW.trod_struct Try.underlying30 h
  match xs, hxl with
  | [z0, z1], _ =>
    have g0 := hg 0 _ rfl
    have g1 := hg 1 _ rfl
    obtain ⟨y, ey⟩ := open_int_ca (by simpa [cells_int] using g0)
    obtain ⟨z, ez⟩ := open_int_ca (by simpa [cells_int] using g1)
    exact ⟨y, z, ey, ez⟩
theorem open_box_ca {n : Nat} {a b c d : Value} {x : DataW H × List MemPlace} (h : DataW.trod enc Try.prog W base (fun _ => true) held n 32 [a, b, c, d] = some x) : ∃ y z u v : Int, a = .int .i64 y ∧ b = .int .i64 z ∧ c = .int .i64 u ∧ d = .int .i64 v := by
  obtain ⟨xs, n', _, _, hlen, hxl, hg⟩ := DataW.trod_struct Try.underlying32 h
  match xs, hxl with
  | [z0, z1], _ =>
    obtain ⟨a0, a1, e0, e1⟩ := open_vec_ca (by simpa [cells_vec] using hg 0 _ rfl)
    obtain ⟨a2, a3, e2, e3⟩ := open_vec_ca (by simpa [cells_vec] using hg 1 _ rfl)
    exact ⟨a0, a1, a2, a3, e0, e1, e2, e3⟩
theorem cells_boxA : Try.prog.cellsOf 32 = 4 := by kernel_rfl
set_option maxRecDepth 100000 in

theorem open_ac {fuel : Nat} {cl : List Value} {x : DataW H × List MemPlace} (hcs : cl.length = 6) (hf : DataW.trod enc Try.prog W base (fun _ => true) held fuel 44 cl = some x) : ∃ e : Ac, cl = encAc e := by
  obtain ⟨xs, m, _, hx, hlen, hxl, hg⟩ := DataW.trod_struct Try.underlying44 hf
  match cl, hcs with
  | [c0, c1, c2, c3, c4, c5], _ =>
    match xs, hxl with
    | [x0, x1, x2], _ =>
      obtain ⟨a0, e0⟩ := open_int_ca (by simpa [Value.cells, cells_int] using hg 0 _ rfl)
      obtain ⟨a1, e1⟩ := open_int_ca (by simpa [Value.cells, cells_int] using hg 1 _ rfl)
      obtain ⟨a2, a3, a4, a5, e2, e3, e4, e5⟩ := open_box_ca (by simpa [Value.cells, cells_boxA] using hg 2 _ rfl)
      subst e0 e1 e2 e3 e4 e5
      exact ⟨⟨a0, a1, ((a2, a3), (a4, a5))⟩, rfl⟩
set_option maxRecDepth 100000 in

theorem open_acts {r : Reach} {b0 : Nat} {v : Value} {d : DataW H} {p : List MemPlace} (hv : Value.okWide Try.prog W r b0 40 v) (h : DataW.Trod enc Try.prog W base (fun _ => true) held 40 v d p) :
    ∃ A n c L, v = .slice A n c ∧ SlE layAc W A n c L := by
  obtain ⟨A, n, c, rfl⟩ := okWide_slice Try.underlying40 hv
  obtain ⟨fuel, hf⟩ := h
  rcases open_slice Try.underlying40 hf with ⟨hcs, _⟩ | ⟨a, len, cap, m, k, D, Pl, hcs, _, hl, hm, hmm, _, hi⟩
  · have e : Value.slice A n c = .slice none 0 0 := by simpa [Value.cells] using hcs
    injection e with e1 e2 e3
    subst e1 e2 e3
    exact ⟨none, 0, 0, [], rfl, SlE.nil _ _⟩
  · have e : Value.slice A n c = .slice (some a) len cap := by simpa [Value.cells] using hcs
    injection e with e1 e2 e3
    subst e1 e2 e3
    rw [if_pos rfl] at hmm
    subst hmm
    have hcell : ∀ i, i < n → ∃ x : Ac, ∀ j v, (encAc x)[j]? = some v → W.cell? (a.add (i * 6 + j)) = some v := by
      intro i him
      obtain ⟨cs', hc, ht'⟩ := hi i (by omega)
      rw [cells_act6] at hc
      obtain ⟨_, hcl, hat⟩ := World.cells?_some hc
      obtain ⟨x, hx⟩ := open_ac hcl ht'
      refine ⟨x, fun j v hj => ?_⟩
      have hj13 : j < cs'.length := by
        rcases Nat.lt_or_ge j cs'.length with g | g
        · exact g
        · rw [hx] at g; rw [List.getElem?_eq_none g] at hj; cases hj
      have := hat j (by omega)
      rw [Go.Deep.add_add] at this
      rw [this]
      subst hx
      first | exact hj | (rw [List.getElem?_eq_getElem hj13] at hj; exact hj)
    obtain ⟨L, hll, hlc⟩ := list_ac n hcell
    have hone : L ≠ [] → ∃ b off, a = ⟨b, off, none⟩ ∧ b < W.heap.size := fun hne => by
      have hn : 0 < L.length := by
        rcases Nat.eq_zero_or_pos L.length with h0 | h0
        · exact absurd (List.length_eq_zero_iff.1 h0) hne
        · exact h0
      obtain ⟨b, off, spot⟩ := a
      have c0 := hlc 0 hn 0 _ rfl
      have hspot : spot = none := by
        have := World.cell?_spot c0
        simpa [Addr.add] using this
      subst hspot
      refine ⟨b, off, rfl, ?_⟩
      simp [Addr.add] at c0
      rcases Nat.lt_or_ge b W.heap.size with h1 | h1
      · exact h1
      · have e : W.heap[b]? = none := Array.getElem?_eq_none h1
        simp [World.cell?, e] at c0
    refine ⟨_, _, _, L, rfl, ⟨hll.symm, hl, by unfold maxLen at hm; omega, fun hne => ?_⟩⟩
    · obtain ⟨b, off, rfl, hb⟩ := hone hne
      refine ⟨b, off, rfl, hb, fun j hj i v hv => ?_⟩
      have := hlc j hj i v hv
      rwa [add_plain, ← Nat.add_assoc] at this
end
end
end Go.Proofs.Ytiaoandbdgdecaa
