/- The frame: a slice of integers among the arguments, opened. -/
import Derived.Test.YtjoodpjndpdjnaaF2
import Derived.Test.YtjoodpjndpdjnaaE0
namespace Go.Proofs.Ytjoodpjndpdjnaa
set_option linter.unusedVariables false
set_option linter.unusedSimpArgs false
open Go.ChangeShapes Go.WideShapes Go.ChangeAt Go.RowKit Go.Deep Go.Joins

theorem ilist_of {P : Nat → Int → Prop} (n : Nat) (h : ∀ i, i < n → ∃ x, P i x) : ∃ l : List Int, l.length = n ∧ ∀ i, i < n → P i (l.getD i 0) := by
  induction n with
  | zero => exact ⟨[], rfl, fun i hi => absurd hi (by omega)⟩
  | succ n ih =>
    obtain ⟨l, hl, hp⟩ := ih fun i hi => h i (by omega)
    obtain ⟨x, hx⟩ := h n (by omega)
    refine ⟨l ++ [x], by simp [hl], fun i hi => ?_⟩
    by_cases e : i = n
    · subst e
      have e1 : (l ++ [x]).getD i 0 = x := by simp [← hl]
      rw [e1]; exact hx
    · have hi' : i < l.length := by omega
      have e1 : (l ++ [x]).getD i 0 = l.getD i 0 := by simp [List.getElem?_append_left hi']
      rw [e1]; exact hp i (by omega)

section
variable {H : Type} {enc : TypeId × Value → H} {W : World} {held : Bool} {base : Nat} {sp : Nat → Bool}

set_option maxRecDepth 100000 in
/-- a slice of integers, opened -/
theorem open_raw {r : Reach} {b0 : Nat} {v : Value} {d : DataW H} {p : List MemPlace} (hv : Value.okWide Try.prog W r b0 34 v) (h : DataW.Trod enc Try.prog W base (fun _ => true) held 34 v d p) :
    ∃ A n c l, v = .slice A n c ∧ SlI W A n c l := by
  obtain ⟨A, n, c, rfl⟩ := okWide_slice Try.underlying34 hv
  obtain ⟨fuel, hf⟩ := h
  rcases open_slice Try.underlying34 hf with ⟨hcs, _⟩ | ⟨a, len, cap, m, k, D, Pl, hcs, _, hl, hm, hmm, _, hi⟩
  · have e : Value.slice A n c = .slice none 0 0 := by simpa [Value.cells] using hcs
    injection e with e1 e2 e3
    subst e1 e2 e3
    exact ⟨none, 0, 0, [], rfl, rfl, by omega, by omega, fun hh => absurd rfl hh⟩
  · have e : Value.slice A n c = .slice (some a) len cap := by simpa [Value.cells] using hcs
    injection e with e1 e2 e3
    subst e1 e2 e3
    rw [if_pos rfl] at hmm
    subst hmm
    have hcell : ∀ i, i < n → ∃ x : Int, W.cell? (a.add i) = some (.int .i64 x) := by
      intro i him
      obtain ⟨cs', hc, ht'⟩ := hi i (by omega)
      rw [cells_int] at hc
      obtain ⟨_, hcl, hat⟩ := World.cells?_some hc
      match cs', hcl with
      | [u0], _ =>
        obtain ⟨x, ex, _, _⟩ := DataW.trod_int Try.underlying3 ht'
        simp at ex
        subst ex
        refine ⟨x, ?_⟩
        have := hat 0 (by omega)
        rw [Go.Deep.add_add] at this
        simpa using this
    obtain ⟨l, hll, hlc⟩ := ilist_of n hcell
    refine ⟨_, _, _, l, rfl, hll.symm, hl, by unfold maxLen at hm; omega, fun hne => ?_⟩
    have hn : 0 < n := by
      rcases Nat.eq_zero_or_pos n with h0 | h0
      · exact absurd (List.length_eq_zero_iff.1 (by omega)) hne
      · exact h0
    obtain ⟨b, off, spot⟩ := a
    have hspot : spot = none := by
      have := World.cell?_spot (hlc 0 hn)
      simpa [Addr.add] using this
    subst hspot
    refine ⟨b, off, rfl, ?_, fun j hj => ?_⟩
    · have := hlc 0 hn
      simp [Addr.add] at this
      rcases Nat.lt_or_ge b W.heap.size with h1 | h1
      · exact h1
      · have e : W.heap[b]? = none := Array.getElem?_eq_none h1
        simp [World.cell?, e] at this
    · rw [← add_plain]; exact hlc j (by omega)
end

end Go.Proofs.Ytjoodpjndpdjnaa
