/- Parts of a proof: contracts and laws. -/
import Derived.Test.YtilncglnojjlaaaS08
import Derived.Laws.AppendOwn
import Derived.Laws.AppendOwnNone
import Derived.OwnWalk
import Derived.Test.YtilncglnojjlaaaS03
namespace Go.Proofs.Ytilncglnojjlaaa
section
set_option linter.unusedVariables false
set_option linter.unusedSimpArgs false
open Go.RowKit
open Go.ChangeShapes Go.WideShapes Go.ChangeAt Go.RowKit Go.Deep Go.Joins




theorem grown_trans {a b c : World} {row : Option Nat} (h : a.grownBy b row) (k : b.grownBy c row) : a.grownBy c row :=
  ⟨k.os.trans h.os, k.tape.trans h.tape, k.output.trans h.output, Nat.le_trans h.size k.size, fun i hi hn => (k.block i (Nat.lt_of_lt_of_le hi h.size) hn).trans (h.block i hi hn)⟩
theorem grown_of_below {a b : World} {row : Option Nat} (h : Below a.heap.size a b) : a.grownBy b row := ⟨h.os, h.tape, h.output, h.size, fun i hi _ => h.block i hi⟩
theorem grown_setCell (w : World) (g o : Nat) (v : Value) : w.grownBy (w.setCell ⟨g, o, none⟩ v) (some g) :=
  ⟨rfl, rfl, rfl, by simp [World.setCell], fun k _ hn => Below.heap_setCell _ _ _ _ (by intro e; exact hn (by rw [e]))⟩
theorem below_of_grown {B : Nat} {a b : World} {g : Nat} (h : a.grownBy b (some g)) (hB : B ≤ a.heap.size) (hg : B ≤ g) : Below B a b :=
  (Below.refl B a).grown h hB (fun k hk => by cases hk; exact hg)
theorem grown_cell {a b : World} {g k o : Nat} (h : a.grownBy b (some g)) (hk : k ≠ g) (hl : k < a.heap.size) : b.cell? ⟨k, o, none⟩ = a.cell? ⟨k, o, none⟩ :=
  World.cell?_of_block (h.block k hl (by intro e; cases e; exact hk rfl))
theorem Cells.grown {w w' : World} {b off g : Nat} {l : List V} (h : Cells w b off l) (hg : w.grownBy w' (some g)) (hne : b ≠ g) : Cells w' b off l :=
  ⟨Nat.lt_of_lt_of_le h.lt hg.size, fun j hj => (grown_cell hg hne h.lt).trans (h.x j hj), fun j hj => (grown_cell hg hne h.lt).trans (h.y j hj)⟩
theorem Sl.grown {w w' : World} {A : Option Addr} {n c g : Nat} {l : List V} (h : Sl w A n c l) (hg : w.grownBy w' (some g)) (hne : ∀ b off, A = some ⟨b, off, none⟩ → b ≠ g) : Sl w' A n c l :=
  ⟨h.len, h.cap, h.big, fun hl => by obtain ⟨b, off, rfl, hc⟩ := h.at_ hl; exact ⟨b, off, rfl, hc.grown hg (hne b off rfl)⟩⟩

def flat (l : List V) : List Value := l.flatMap fun p => [.int .i64 p.1, .int .i64 p.2]
theorem flat_len (l : List V) : (flat l).length = l.length * 2 := by
  unfold flat
  induction l with
  | nil => rfl
  | cons a l ih => simp [List.flatMap_cons, ih]; omega
theorem flat_append (l m : List V) : flat (l ++ m) = flat l ++ flat m := by simp [flat, List.flatMap_append]
theorem flat_at (l : List V) (j : Nat) (h : j < l.length) : (flat l)[j * 2]? = some (.int .i64 (px l j)) ∧ (flat l)[j * 2 + 1]? = some (.int .i64 (py l j)) := by
  induction l generalizing j with
  | nil => simp at h
  | cons a l ih =>
    match j with
    | 0 => exact ⟨by simp [flat, px, List.flatMap_cons], by simp [flat, py, List.flatMap_cons]⟩
    | j + 1 =>
      have := ih j (by simpa using h)
      have e : flat (a :: l) = .int .i64 a.1 :: .int .i64 a.2 :: flat l := by simp [flat, List.flatMap_cons]
      rw [e, show (j + 1) * 2 = j * 2 + 1 + 1 by omega, List.getElem?_cons_succ, List.getElem?_cons_succ, List.getElem?_cons_succ, List.getElem?_cons_succ]
      simpa [px, py] using this
theorem flat_one (l : List V) : ∀ u ∈ flat l, u.oneCell' = true := by
  intro u hu
  simp only [flat, List.mem_flatMap] at hu
  obtain ⟨p, _, hp⟩ := hu
  simp at hp
  rcases hp with rfl | rfl <;> rfl
theorem flat_cells {w : World} {b off : Nat} {l : List V} (h : Cells w b off l) : ∀ j u, (flat l)[j]? = some u → w.cell? ((⟨b, off, none⟩ : Addr).add j) = some u := by
  intro j u hj
  have hlt : j < l.length * 2 := by
    have := (List.getElem?_eq_some_iff.1 hj).1
    rwa [flat_len] at this
  have hk : j / 2 < l.length := by omega
  have ha := flat_at l (j / 2) hk
  have hadd : (⟨b, off, none⟩ : Addr).add j = ⟨b, off + j, none⟩ := by unfold Addr.add; split <;> simp_all
  rw [hadd]
  rcases Nat.mod_two_eq_zero_or_one j with e | e
  · have ej : j = j / 2 * 2 := by omega
    rw [ej] at hj
    rw [ha.1] at hj
    cases hj
    have := h.x (j / 2) hk
    rwa [← ej] at this
  · have ej : j = j / 2 * 2 + 1 := by omega
    rw [ej] at hj
    rw [ha.2] at hj
    cases hj
    have := h.y (j / 2) hk
    rw [Nat.add_assoc, ← ej] at this
    exact this

def Own (w : World) (B : Nat) (v : Value) (l : List V) : Prop := w.ownsRow B 34 2 v l.length (flat l)
theorem Own.nil (w : World) (B : Nat) : Own w B (.slice none 0 0) [] := World.ownsRow_nil _ _ _ _
theorem Own.kept {w w' : World} {B : Nat} {v : Value} {l : List V} {row : Option Nat} (h : Own w B v l) (hg : w.grownBy w' row) (hr : ∀ k, row = some k → k < B) : Own w' B v l := by
  refine World.ownsRow.kept h hg ?_
  cases hv : v.ownBlock with
  | none => exact .inl rfl
  | some k =>
    refine .inr fun e => ?_
    have := (World.ownsRow.lt h k hv).1
    have := hr k e.symm
    omega
theorem Own.below {w w' : World} {B : Nat} {v : Value} {l : List V} (h : Own w B v l) (hb : Below w.heap.size w w') : Own w' B v l :=
  h.kept (grown_of_below (row := none) hb) (by simp)
theorem Own.alloc {w : World} {B : Nat} {v : Value} {l : List V} (h : Own w B v l) (o : Obj) : Own (w.alloc o) B v l := World.ownsRow.alloc h o
theorem Own.drew {w : World} {B : Nat} {v : Value} {l : List V} (h : Own w B v l) : Own w.drew B v l := h
theorem Own.sl {w : World} {B : Nat} {v : Value} {l : List V} (h : Own w B v l) : ∃ A n c, v = .slice A n c ∧ Sl w A n c l ∧ ∀ b off, A = some ⟨b, off, none⟩ → B ≤ b := by
  have hc := fun g hg => World.ownsRow.cells h (g := g) hg
  obtain ⟨h1, h2 | ⟨g, cap, cur, rfl, hb, hg, hn, hm, hs, ht⟩⟩ := h
  · obtain ⟨rfl, h0⟩ := h2
    refine ⟨none, 0, 0, rfl, ⟨h0.symm, by omega, by omega, fun hl => ?_⟩, by simp⟩
    exact absurd (List.length_eq_zero_iff.1 h0) hl
  · refine ⟨_, _, _, rfl, ⟨rfl, hn, by unfold maxLen at hm; omega, fun _ => ⟨g, 0, rfl, ?_, fun j hj => ?_, fun j hj => ?_⟩⟩, fun b off e => by cases e; exact hb⟩
    · exact (Array.getElem?_eq_some_iff.1 hg).1
    · have := hc g rfl (j * 2) _ (flat_at l j hj).1
      have hadd : (⟨g, 0, none⟩ : Addr).add (j * 2) = ⟨g, 0 + j * 2, none⟩ := by unfold Addr.add; split <;> simp_all
      rwa [hadd] at this
    · have := hc g rfl (j * 2 + 1) _ (flat_at l j hj).2
      have hadd : (⟨g, 0, none⟩ : Addr).add (j * 2 + 1) = ⟨g, 0 + j * 2 + 1, none⟩ := by unfold Addr.add; split <;> simp_all <;> omega
      rwa [hadd] at this
theorem Own.grown {w w' : World} {B : Nat} {v : Value} {l : List V} (h : Own w B v l) (hg : w.grownBy w' v.ownBlock) (hB : B ≤ w.heap.size) : Below B w w' :=
  (Below.refl B w).grown hg hB (fun k hk => (World.ownsRow.lt h k hk).1)
theorem info_vec : (Try.prog.info? 34).map (fun i => (i.zero, i.size, i.bytes)) = some (some (.agg #[.int .i64 0, .int .i64 0]), 2, 16) := by kernel_rfl

theorem wpList_append_vecs {w : World} {ops : Array Oper} {rest : List Oper} {o : Oper} {a : Act} {Q : Exit → Act → World → Prop} (hgd : o.guard = none) (s x : Operand)
    (ho : o.op = .call { callee := .builtin .append, args := #[s, x], argTypes := #[66, 66] })
    (B : Nat) (v : Value) (l : List V) (hs : a.eval s = v) (hown : Own w B v l) (b off n c : Nat) (m : List V) (hx : a.eval x = .slice (some ⟨b, off, none⟩) n c) (hn : n = m.length) (hc : Cells w b off m)
    (hl : l.length + m.length ≤ 8796093022208) (hB : B ≤ w.heap.size)
    (h : ∀ v' w', Own w' B v' (l ++ m) → w.grownBy w' v.ownBlock → wpList Try.prog ops Q rest (a.put o.dst v') w') : wpList Try.prog ops Q (o :: rest) a w := by
  obtain ⟨i0, hi, hz0, hz1, hz2⟩ := info_parts info_vec
  refine wpList_append_own w hgd s x 66 ho B 34 i0 (.agg #[.int .i64 0, .int .i64 0]) 2 16 Try.underlying66 hi hz0 hz1 hz2 rfl (by decide) v l.length (flat l) hs hown ⟨b, off, none⟩ n c (flat m) hx (by rw [flat_len, hn]) (flat_cells hc) (flat_one m) (by unfold maxLen; omega) (by omega) hB ?_
  intro v' w' h1 h2 _
  refine h v' w' ?_ h2
  unfold Own
  rw [flat_append, List.length_append, ← hn]
  exact h1


theorem Own.lit (w : World) (B : Nat) (l : List V) (hB : B ≤ w.heap.size) (hl : l.length ≤ 8796093022208) : Own (w.alloc (.cells (flat l).toArray 34)) B (.slice (some ⟨w.heap.size, 0, none⟩) l.length l.length) l :=
  ⟨flat_len l, .inr ⟨w.heap.size, l.length, (flat l).toArray, rfl, hB, heap_alloc_new w _, Nat.le_refl _, by unfold maxLen; omega, by simp [flat_len], by simp [flat_len, List.take_of_length_le]⟩⟩
theorem Sl.take {w : World} {A : Option Addr} {n c : Nat} {l : List V} (h : Sl w A n c l) {k : Nat} (hk : k ≤ n) : Sl w A k c (l.take k) := by
  have hn := h.len
  refine ⟨by rw [List.length_take]; omega, by have := h.cap; omega, h.big, fun hl => ?_⟩
  obtain ⟨b, off, rfl, hc⟩ := h.at_ (by intro e; subst e; simp at hl)
  refine ⟨b, off, rfl, hc.lt, fun j hj => ?_, fun j hj => ?_⟩
  · rw [List.length_take] at hj
    rw [hc.x j (by omega)]
    simp [px, List.getElem?_take, show j < k by omega]
  · rw [List.length_take] at hj
    rw [hc.y j (by omega)]
    simp [py, List.getElem?_take, show j < k by omega]

structure SlI (w : World) (A : Option Addr) (n c : Nat) (r : List Int) : Prop where
  len : n = r.length
  cap : n ≤ c
  big : c ≤ 9223372036854775807
  at_ : r ≠ [] → ∃ b off, A = some ⟨b, off, none⟩ ∧ b < w.heap.size ∧ ∀ j, j < r.length → w.cell? ⟨b, off + j, none⟩ = some (.int .i64 (r.getD j 0))
theorem SlI.below {w w' : World} {A : Option Addr} {n c : Nat} {r : List Int} (h : SlI w A n c r) (hb : Below w.heap.size w w') : SlI w' A n c r :=
  ⟨h.len, h.cap, h.big, fun hl => by
    obtain ⟨b, off, rfl, hlt, hc⟩ := h.at_ hl
    exact ⟨b, off, rfl, Nat.lt_of_lt_of_le hlt hb.size, fun j hj => ((bcell hb).1 _ _ hlt).trans (hc j hj)⟩⟩

structure Stm (w : World) (g : Nat) (r : List Int) : Prop where
  lt : g < w.heap.size
  free : w.frozen? ⟨g, 0, none⟩ = false
  at_ : ∃ A n c, w.cell? ⟨g, 0, none⟩ = some (.slice A n c) ∧ SlI w A n c r ∧ (r ≠ [] → ∀ b off, A = some ⟨b, off, none⟩ → b < g)
theorem Stm.below {w w' : World} {g : Nat} {r : List Int} (h : Stm w g r) (hb : Below w.heap.size w w') : Stm w' g r := by
  obtain ⟨h1, h2, A, n, c, h3, h4, h5⟩ := h
  exact ⟨Nat.lt_of_lt_of_le h1 hb.size, ((bcell hb).2 _ _ h1).trans h2, A, n, c, ((bcell hb).1 _ _ h1).trans h3, h4.below hb, h5⟩
theorem SlI.setCell {w : World} {A : Option Addr} {n c g : Nat} {r : List Int} (h : SlI w A n c r) (hA : ∀ b off, A = some ⟨b, off, none⟩ → b < g) (v : Value) : SlI (w.setCell ⟨g, 0, none⟩ v) A n c r :=
  ⟨h.len, h.cap, h.big, fun hl => by
    obtain ⟨b, off, rfl, hlt, hc⟩ := h.at_ hl
    have hb := hA b off rfl
    exact ⟨b, off, rfl, by simpa [World.setCell] using hlt, fun j hj => (grown_cell (grown_setCell w g 0 v) (by omega) hlt).trans (hc j hj)⟩⟩


theorem Sl.made (w : World) (l : List V) (T : TypeId) (hl : l.length ≤ 9223372036854775807) : Sl (w.alloc (.cells (flat l).toArray T)) (some ⟨w.heap.size, 0, none⟩) l.length l.length l := by
  refine ⟨rfl, Nat.le_refl _, hl, fun _ => ⟨w.heap.size, 0, rfl, by simp, fun j hj => ?_, fun j hj => ?_⟩⟩
  · rw [cell_of_row _ w.heap.size _ (flat l).toArray T (0, 0) (heap_alloc_new w _)]
    simpa using (flat_at l j hj).1
  · rw [cell_of_row _ w.heap.size _ (flat l).toArray T (0, 0) (heap_alloc_new w _)]
    simpa using (flat_at l j hj).2

def RetVecs (l : List V) (w : World) (e : Ending) (w' : World) : Prop :=
  ∃ A n c, e = .returned (.slice A n c) ∧ Sl w' A n c l ∧ (∀ b off, A = some ⟨b, off, none⟩ → w.heap.size ≤ b) ∧ Below w.heap.size w w'

section
variable {H : Type} {enc : TypeId × Value → H} {W : World} {held : Bool} {base : Nat} {sp : Nat → Bool}
set_option maxRecDepth 100000 in

end
end
end Go.Proofs.Ytilncglnojjlaaa
