/- Parts of a proof: contracts and laws. -/
import Derived.Test.YtilncglnojjlaaaS21
import Derived.Test.YtilncglnojjlaaaS24
namespace Go.Proofs.Ytilncglnojjlaaa
section
set_option linter.unusedVariables false
set_option linter.unusedSimpArgs false
open Go.ChangeShapes Go.WideShapes Go.ChangeAt Go.RowKit Go.Deep Go.Joins
theorem cells_contact9 : Try.prog.cellsOf 36 = 10 := by kernel_rfl
theorem list_ct {P : Nat → Ct → Prop} (n : Nat) (h : ∀ i, i < n → ∃ x, P i x) : ∃ l : List Ct, l.length = n ∧ ∀ i (hi : i < l.length), P i l[i] := by
  induction n with
  | zero => exact ⟨[], rfl, fun i hi => absurd hi (by simp)⟩
  | succ n ih =>
    obtain ⟨l, hl, hp⟩ := ih fun i hi => h i (by omega)
    obtain ⟨x, hx⟩ := h n (by omega)
    refine ⟨l ++ [x], by simp [hl], fun i hi => ?_⟩
    by_cases e : i < l.length
    · rw [List.getElem_append_left e]; exact hp i e
    · have ei : i = n := by simp at hi; omega
      subst ei
      rw [List.getElem_append_right (by omega)]
      simpa [hl] using hx
section
variable {H : Type} {enc : TypeId × Value → H} {W : World} {held : Bool} {base : Nat} {sp : Nat → Bool}
set_option maxRecDepth 100000 in

theorem open_ct {fuel : Nat} {cl : List Value} {x : DataW H × List MemPlace} (hcs : cl.length = 10) (hf : DataW.trod enc Try.prog W base (fun _ => true) held fuel 36 cl = some x) : ∃ e : Ct, cl = encC e := by
  obtain ⟨xs, m, _, hx, hlen, hxl, hg⟩ := DataW.trod_struct Try.underlying36 hf
  match cl, hcs with
  | [c0, c1, c2, c3, c4, c5, c6, c7, c8, c9], _ =>
    match xs, hxl with
    | [x0, x1, x2, x3, x4, x5, x6, x7], _ =>
      obtain ⟨a0, e0⟩ := open_int_c7 (by simpa [Value.cells, cells_int] using hg 0 _ rfl)
      obtain ⟨a1, e1⟩ := open_int_c7 (by simpa [Value.cells, cells_int] using hg 1 _ rfl)
      obtain ⟨a2, e2⟩ := open_int_c7 (by simpa [Value.cells, cells_int] using hg 2 _ rfl)
      obtain ⟨a3, a4, e3, e4⟩ := open_vec_c7 (by simpa [Value.cells, cells_vec] using hg 3 _ rfl)
      obtain ⟨a5, a6, e5, e6⟩ := open_vec_c7 (by simpa [Value.cells, cells_vec] using hg 4 _ rfl)
      obtain ⟨a7, e7⟩ := open_int_c7 (by simpa [Value.cells, cells_int] using hg 5 _ rfl)
      obtain ⟨a8, e8⟩ := open_int_c7 (by simpa [Value.cells, cells_int] using hg 6 _ rfl)
      obtain ⟨a9, e9⟩ := open_int_c7 (by simpa [Value.cells, cells_int] using hg 7 _ rfl)
      subst e0 e1 e2 e3 e4 e5 e6 e7 e8 e9
      exact ⟨⟨a0, a1, a2, a3, a4, a5, a6, a7, a8, a9⟩, rfl⟩
set_option maxRecDepth 100000 in

theorem open_contacts {r : Reach} {b0 : Nat} {v : Value} {d : DataW H} {p : List MemPlace} (hv : Value.okWide Try.prog W r b0 23 v) (h : DataW.Trod enc Try.prog W base (fun _ => true) held 23 v d p) :
    ∃ A n c L, v = .slice A n c ∧ SlE layC W A n c L := by
  obtain ⟨A, n, c, rfl⟩ := okWide_slice Try.underlying23 hv
  obtain ⟨fuel, hf⟩ := h
  rcases open_slice Try.underlying23 hf with ⟨hcs, _⟩ | ⟨a, len, cap, m, k, D, Pl, hcs, _, hl, hm, hmm, _, hi⟩
  · have e : Value.slice A n c = .slice none 0 0 := by simpa [Value.cells] using hcs
    injection e with e1 e2 e3
    subst e1 e2 e3
    exact ⟨none, 0, 0, [], rfl, SlE.nil _ _⟩
  · have e : Value.slice A n c = .slice (some a) len cap := by simpa [Value.cells] using hcs
    injection e with e1 e2 e3
    subst e1 e2 e3
    rw [if_pos rfl] at hmm
    subst hmm
    have hcell : ∀ i, i < n → ∃ x : Ct, ∀ j v, (encC x)[j]? = some v → W.cell? (a.add (i * 10 + j)) = some v := by
      intro i him
      obtain ⟨cs', hc, ht'⟩ := hi i (by omega)
      rw [cells_contact9] at hc
      obtain ⟨_, hcl, hat⟩ := World.cells?_some hc
      obtain ⟨x, hx⟩ := open_ct hcl ht'
      refine ⟨x, fun j v hj => ?_⟩
      have hj13 : j < cs'.length := by
        rcases Nat.lt_or_ge j cs'.length with g | g
        · exact g
        · rw [hx] at g; rw [List.getElem?_eq_none g] at hj; cases hj
      have := hat j (by omega)
      rw [Go.Deep.add_add] at this
      rw [this]
      subst hx
      first | exact hj | (rw [List.getElem?_eq_getElem hj13] at hj; exact hj)
    obtain ⟨L, hll, hlc⟩ := list_ct n hcell
    have hone : L ≠ [] → ∃ b off, a = ⟨b, off, none⟩ ∧ b < W.heap.size := fun hne => by
      have hn : 0 < L.length := by
        rcases Nat.eq_zero_or_pos L.length with h0 | h0
        · exact absurd (List.length_eq_zero_iff.1 h0) hne
        · exact h0
      obtain ⟨b, off, spot⟩ := a
      have c0 := hlc 0 hn 0 _ rfl
      have hspot : spot = none := by
        have := World.cell?_spot c0
        simpa [Addr.add] using this
      subst hspot
      refine ⟨b, off, rfl, ?_⟩
      simp [Addr.add] at c0
      rcases Nat.lt_or_ge b W.heap.size with h1 | h1
      · exact h1
      · have e : W.heap[b]? = none := Array.getElem?_eq_none h1
        simp [World.cell?, e] at c0
    refine ⟨_, _, _, L, rfl, ⟨hll.symm, hl, by unfold maxLen at hm; omega, fun hne => ?_⟩⟩
    · obtain ⟨b, off, rfl, hb⟩ := hone hne
      refine ⟨b, off, rfl, hb, fun j hj i v hv => ?_⟩
      have := hlc j hj i v hv
      rwa [add_plain, ← Nat.add_assoc] at this
end
end
end Go.Proofs.Ytilncglnojjlaaa
