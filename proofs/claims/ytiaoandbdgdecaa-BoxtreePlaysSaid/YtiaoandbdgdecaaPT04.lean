/- Parts of a proof: contracts and laws. -/
import Derived.Test.YtiaoandbdgdecaaPT03
import Derived.Laws.AppendOwn
import Derived.Laws.AppendOwnNone
import Derived.OwnWalk
import Derived.Test.YtiaoandbdgdecaaPT01
namespace Go.Proofs.Ytiaoandbdgdecaa
section
set_option linter.unusedVariables false
set_option linter.unusedSimpArgs false
open Go.RowKit
open Go.ChangeShapes Go.WideShapes Go.ChangeAt Go.RowKit Go.Deep Go.Joins




theorem grown_of_below {a b : World} {row : Option Nat} (h : Below a.heap.size a b) : a.grownBy b row := ⟨h.os, h.tape, h.output, h.size, fun i hi _ => h.block i hi⟩
theorem grown_setCell (w : World) (g o : Nat) (v : Value) : w.grownBy (w.setCell ⟨g, o, none⟩ v) (some g) :=
  ⟨rfl, rfl, rfl, by simp [World.setCell], fun k _ hn => Below.heap_setCell _ _ _ _ (by intro e; exact hn (by rw [e]))⟩
theorem grown_cell {a b : World} {g k o : Nat} (h : a.grownBy b (some g)) (hk : k ≠ g) (hl : k < a.heap.size) : b.cell? ⟨k, o, none⟩ = a.cell? ⟨k, o, none⟩ :=
  World.cell?_of_block (h.block k hl (by intro e; cases e; exact hk rfl))
theorem Cells.grown {w w' : World} {b off g : Nat} {l : List V} (h : Cells w b off l) (hg : w.grownBy w' (some g)) (hne : b ≠ g) : Cells w' b off l :=
  ⟨Nat.lt_of_lt_of_le h.lt hg.size, fun j hj => (grown_cell hg hne h.lt).trans (h.x j hj), fun j hj => (grown_cell hg hne h.lt).trans (h.y j hj)⟩
theorem Sl.grown {w w' : World} {A : Option Addr} {n c g : Nat} {l : List V} (h : Sl w A n c l) (hg : w.grownBy w' (some g)) (hne : ∀ b off, A = some ⟨b, off, none⟩ → b ≠ g) : Sl w' A n c l :=
  ⟨h.len, h.cap, h.big, fun hl => by obtain ⟨b, off, rfl, hc⟩ := h.at_ hl; exact ⟨b, off, rfl, hc.grown hg (hne b off rfl)⟩⟩

def flat (l : List V) : List Value := l.flatMap fun p => [.int .i64 p.1, .int .i64 p.2]
theorem flat_at (l : List V) (j : Nat) (h : j < l.length) : (flat l)[j * 2]? = some (.int .i64 (px l j)) ∧ (flat l)[j * 2 + 1]? = some (.int .i64 (py l j)) := by
  induction l generalizing j with
  | nil => simp at h
  | cons a l ih =>
    match j with
    | 0 => exact ⟨by simp [flat, px, List.flatMap_cons], by simp [flat, py, List.flatMap_cons]⟩
    | j + 1 =>
      have := ih j (by simpa using h)
      have e : flat (a :: l) = .int .i64 a.1 :: .int .i64 a.2 :: flat l := by simp [flat, List.flatMap_cons]
      rw [e, show (j + 1) * 2 = j * 2 + 1 + 1 by omega, List.getElem?_cons_succ, List.getElem?_cons_succ, List.getElem?_cons_succ, List.getElem?_cons_succ]
      simpa [px, py] using this

def Own (w : World) (B : Nat) (v : Value) (l : List V) : Prop := w.ownsRow B 30 2 v l.length (flat l)
theorem Own.nil (w : World) (B : Nat) : Own w B (.slice none 0 0) [] := World.ownsRow_nil _ _ _ _
theorem Own.kept {w w' : World} {B : Nat} {v : Value} {l : List V} {row : Option Nat} (h : Own w B v l) (hg : w.grownBy w' row) (hr : ∀ k, row = some k → k < B) : Own w' B v l := by
  refine World.ownsRow.kept h hg ?_
  cases hv : v.ownBlock with
  | none => exact .inl rfl
  | some k =>
    refine .inr fun e => ?_
    have := (World.ownsRow.lt h k hv).1
    have := hr k e.symm
    omega
theorem Own.below {w w' : World} {B : Nat} {v : Value} {l : List V} (h : Own w B v l) (hb : Below w.heap.size w w') : Own w' B v l :=
  h.kept (grown_of_below (row := none) hb) (by simp)
theorem Own.alloc {w : World} {B : Nat} {v : Value} {l : List V} (h : Own w B v l) (o : Obj) : Own (w.alloc o) B v l := World.ownsRow.alloc h o
theorem Own.drew {w : World} {B : Nat} {v : Value} {l : List V} (h : Own w B v l) : Own w.drew B v l := h
theorem Own.sl {w : World} {B : Nat} {v : Value} {l : List V} (h : Own w B v l) : ∃ A n c, v = .slice A n c ∧ Sl w A n c l ∧ ∀ b off, A = some ⟨b, off, none⟩ → B ≤ b := by
  have hc := fun g hg => World.ownsRow.cells h (g := g) hg
  obtain ⟨h1, h2 | ⟨g, cap, cur, rfl, hb, hg, hn, hm, hs, ht⟩⟩ := h
  · obtain ⟨rfl, h0⟩ := h2
    refine ⟨none, 0, 0, rfl, ⟨h0.symm, by omega, by omega, fun hl => ?_⟩, by simp⟩
    exact absurd (List.length_eq_zero_iff.1 h0) hl
  · refine ⟨_, _, _, rfl, ⟨rfl, hn, by unfold maxLen at hm; omega, fun _ => ⟨g, 0, rfl, ?_, fun j hj => ?_, fun j hj => ?_⟩⟩, fun b off e => by cases e; exact hb⟩
    · exact (Array.getElem?_eq_some_iff.1 hg).1
    · have := hc g rfl (j * 2) _ (flat_at l j hj).1
      have hadd : (⟨g, 0, none⟩ : Addr).add (j * 2) = ⟨g, 0 + j * 2, none⟩ := by unfold Addr.add; split <;> simp_all
      rwa [hadd] at this
    · have := hc g rfl (j * 2 + 1) _ (flat_at l j hj).2
      have hadd : (⟨g, 0, none⟩ : Addr).add (j * 2 + 1) = ⟨g, 0 + j * 2 + 1, none⟩ := by unfold Addr.add; split <;> simp_all <;> omega
      rwa [hadd] at this
theorem Own.grown {w w' : World} {B : Nat} {v : Value} {l : List V} (h : Own w B v l) (hg : w.grownBy w' v.ownBlock) (hB : B ≤ w.heap.size) : Below B w w' :=
  (Below.refl B w).grown hg hB (fun k hk => (World.ownsRow.lt h k hk).1)

theorem Cells.drop {w : World} {b off : Nat} {l : List V} (h : Cells w b off l) (k : Nat) : Cells w b (off + k * 2) (l.drop k) := by
  refine ⟨h.lt, fun j hj => ?_, fun j hj => ?_⟩
  · rw [List.length_drop] at hj
    have := h.x (k + j) (by omega)
    rw [show off + k * 2 + j * 2 = off + (k + j) * 2 by omega, this]
    simp [px]
  · rw [List.length_drop] at hj
    have := h.y (k + j) (by omega)
    rw [show off + k * 2 + j * 2 + 1 = off + (k + j) * 2 + 1 by omega, this]
    simp [py]
theorem Sl.take {w : World} {A : Option Addr} {n c : Nat} {l : List V} (h : Sl w A n c l) {k : Nat} (hk : k ≤ n) : Sl w A k c (l.take k) := by
  have hn := h.len
  refine ⟨by rw [List.length_take]; omega, by have := h.cap; omega, h.big, fun hl => ?_⟩
  obtain ⟨b, off, rfl, hc⟩ := h.at_ (by intro e; subst e; simp at hl)
  refine ⟨b, off, rfl, hc.lt, fun j hj => ?_, fun j hj => ?_⟩
  · rw [List.length_take] at hj
    rw [hc.x j (by omega)]
    simp [px, List.getElem?_take, show j < k by omega]
  · rw [List.length_take] at hj
    rw [hc.y j (by omega)]
    simp [py, List.getElem?_take, show j < k by omega]

structure SlI (w : World) (A : Option Addr) (n c : Nat) (r : List Int) : Prop where
  len : n = r.length
  cap : n ≤ c
  big : c ≤ 9223372036854775807
  at_ : r ≠ [] → ∃ b off, A = some ⟨b, off, none⟩ ∧ b < w.heap.size ∧ ∀ j, j < r.length → w.cell? ⟨b, off + j, none⟩ = some (.int .i64 (r.getD j 0))
theorem SlI.below {w w' : World} {A : Option Addr} {n c : Nat} {r : List Int} (h : SlI w A n c r) (hb : Below w.heap.size w w') : SlI w' A n c r :=
  ⟨h.len, h.cap, h.big, fun hl => by
    obtain ⟨b, off, rfl, hlt, hc⟩ := h.at_ hl
    exact ⟨b, off, rfl, Nat.lt_of_lt_of_le hlt hb.size, fun j hj => ((bcell hb).1 _ _ hlt).trans (hc j hj)⟩⟩
theorem tmod_emod (x n : Int) (hn : 0 < n) : x % n = if x.tmod n < 0 then x.tmod n + n else x.tmod n := by
  have h1 := Int.tmod_add_mul_tdiv x n
  have h2 : -n < x.tmod n := Int.neg_lt_of_neg_lt (by have := Int.lt_tmod_of_pos x hn; omega)
  have h3 := Int.tmod_lt_of_pos x hn
  generalize x.tmod n = r at *
  generalize x.tdiv n = q at *
  subst h1
  rw [Int.add_mul_emod_self_left]
  split
  · rw [← Int.add_emod_right, Int.emod_eq_of_lt (by omega) (by omega)]
  · rw [Int.emod_eq_of_lt (by omega) (by omega)]
theorem tbelow_calls (x n : Int) (hn : 0 < n) (hn2 : n ≤ 9223372036854775807) (w : World) :
    Calls Try.prog 8 #[.int .i64 x, .int .i64 n] w (Ret (.int .i64 (x % n)) w) := by
  have h2 : -n < x.tmod n := by have := Int.lt_tmod_of_pos x hn; omega
  have h3 := Int.tmod_lt_of_pos x hn
  have he := hid (tmod_emod x n hn)
  have hnb : (n == 0) = false := by simp; omega
  go_enter Try.func8, Try.ntmps8
  go_wp2
  all_goals
    go_returns
    exact ret_int (by rw [he.out]; split <;> go_arith) (Below.refl _ _)

structure Stm (w : World) (g : Nat) (r : List Int) : Prop where
  lt : g < w.heap.size
  free : w.frozen? ⟨g, 0, none⟩ = false
  at_ : ∃ A n c, w.cell? ⟨g, 0, none⟩ = some (.slice A n c) ∧ SlI w A n c r ∧ (r ≠ [] → ∀ b off, A = some ⟨b, off, none⟩ → b < g)
theorem Stm.below {w w' : World} {g : Nat} {r : List Int} (h : Stm w g r) (hb : Below w.heap.size w w') : Stm w' g r := by
  obtain ⟨h1, h2, A, n, c, h3, h4, h5⟩ := h
  exact ⟨Nat.lt_of_lt_of_le h1 hb.size, ((bcell hb).2 _ _ h1).trans h2, A, n, c, ((bcell hb).1 _ _ h1).trans h3, h4.below hb, h5⟩
theorem SlI.setCell {w : World} {A : Option Addr} {n c g : Nat} {r : List Int} (h : SlI w A n c r) (hA : ∀ b off, A = some ⟨b, off, none⟩ → b < g) (v : Value) : SlI (w.setCell ⟨g, 0, none⟩ v) A n c r :=
  ⟨h.len, h.cap, h.big, fun hl => by
    obtain ⟨b, off, rfl, hlt, hc⟩ := h.at_ hl
    have hb := hA b off rfl
    exact ⟨b, off, rfl, by simpa [World.setCell] using hlt, fun j hj => (grown_cell (grown_setCell w g 0 v) (by omega) hlt).trans (hc j hj)⟩⟩


theorem Sl.made (w : World) (l : List V) (T : TypeId) (hl : l.length ≤ 9223372036854775807) : Sl (w.alloc (.cells (flat l).toArray T)) (some ⟨w.heap.size, 0, none⟩) l.length l.length l := by
  refine ⟨rfl, Nat.le_refl _, hl, fun _ => ⟨w.heap.size, 0, rfl, by simp, fun j hj => ?_, fun j hj => ?_⟩⟩
  · rw [cell_of_row _ w.heap.size _ (flat l).toArray T (0, 0) (heap_alloc_new w _)]
    simpa using (flat_at l j hj).1
  · rw [cell_of_row _ w.heap.size _ (flat l).toArray T (0, 0) (heap_alloc_new w _)]
    simpa using (flat_at l j hj).2

theorem place_calls (x y : Int) (w : World) : Calls Try.prog 24 #[.int .i64 x, .int .i64 y] w (Ret (vecV (x % 1572864 - 786432) (y % 1572864 - 786432)) w) := by
  have h1 := Int.emod_nonneg x (show (1572864 : Int) ≠ 0 by omega)
  have h2 := Int.emod_lt_of_pos x (show (0 : Int) < 1572864 by omega)
  have h3 := Int.emod_nonneg y (show (1572864 : Int) ≠ 0 by omega)
  have h4 := Int.emod_lt_of_pos y (show (0 : Int) < 1572864 by omega)
  generalize hx : x % 1572864 = x' at *
  generalize hy : y % 1572864 = y' at *
  have HX := hid hx
  have HY := hid hy
  clear hx hy
  go_enter Try.func24, Try.ntmps24
  go_wp2_with fail
  refine (tbelow_calls x 1572864 (by omega) (by omega) _).mono ?_
  rintro e w1 ⟨rfl, hb1⟩
  rw [HX.out]
  have k1 : w1.cell? ⟨w.heap.size, 0, none⟩ = some (.int .i64 0) := keepCell hb1 (by go_simp)
  have k2 : w1.cell? ⟨w.heap.size, 1, none⟩ = some (.int .i64 0) := keepCell hb1 (by go_simp)
  have k3 : w1.frozen? ⟨w.heap.size, 0, none⟩ = false := ((bcell hb1).2 _ _ (by simp)).trans (by go_simp)
  have k4 : w1.frozen? ⟨w.heap.size, 1, none⟩ = false := ((bcell hb1).2 _ _ (by simp)).trans (by go_simp)
  go_wp2_with fail
  refine (tbelow_calls y 1572864 (by omega) (by omega) _).mono ?_
  rintro e w2 ⟨rfl, hb2⟩
  rw [HY.out]
  have hz : w.heap.size < w1.heap.size := lt_of_cell k1
  have l1 : w2.cell? ⟨w.heap.size, 0, none⟩ = some (.int .i64 0) := keepCell hb2 k1
  have l2 : w2.cell? ⟨w.heap.size, 1, none⟩ = some (.int .i64 0) := keepCell hb2 k2
  have l3 : w2.frozen? ⟨w.heap.size, 0, none⟩ = false := ((bcell hb2).2 _ _ hz).trans k3
  have l4 : w2.frozen? ⟨w.heap.size, 1, none⟩ = false := ((bcell hb2).2 _ _ hz).trans k4
  clear k1 k2 k3 k4
  have hz2 : w.heap.size < w2.heap.size := lt_of_cell l1
  have hB : Below w.heap.size w w2 := (((Below.refl w.heap.size w).alloc (Nat.le_refl _) _).trans (hb1.mono (by simp))).trans (hb2.mono (by omega))
  go_wp2
  refine bodyPost_ret (v := vecV (x' - 786432) (y' - 786432)) (by simp [results, Try.results24, go_sem, l1, l2, l3, l4, hz2]) rfl ⟨rfl, ?_⟩
  go_grown

theorem ilist_of {P : Nat → Int → Prop} (n : Nat) (h : ∀ i, i < n → ∃ x, P i x) : ∃ l : List Int, l.length = n ∧ ∀ i, i < n → P i (l.getD i 0) := by
  induction n with
  | zero => exact ⟨[], rfl, fun i hi => absurd hi (by omega)⟩
  | succ n ih =>
    obtain ⟨l, hl, hp⟩ := ih fun i hi => h i (by omega)
    obtain ⟨x, hx⟩ := h n (by omega)
    refine ⟨l ++ [x], by simp [hl], fun i hi => ?_⟩
    by_cases e : i = n
    · subst e
      have e1 : (l ++ [x]).getD i 0 = x := by simp [← hl]
      rw [e1]; exact hx
    · have hi' : i < l.length := by omega
      have e1 : (l ++ [x]).getD i 0 = l.getD i 0 := by simp [List.getElem?_append_left hi']
      rw [e1]; exact hp i (by omega)
section
variable {H : Type} {enc : TypeId × Value → H} {W : World} {held : Bool} {base : Nat} {sp : Nat → Bool}
set_option maxRecDepth 100000 in

theorem open_raw {r : Reach} {b0 : Nat} {v : Value} {d : DataW H} {p : List MemPlace} (hv : Value.okWide Try.prog W r b0 22 v) (h : DataW.Trod enc Try.prog W base (fun _ => true) held 22 v d p) :
    ∃ A n c l, v = .slice A n c ∧ SlI W A n c l := by
  obtain ⟨A, n, c, rfl⟩ := okWide_slice Try.underlying22 hv
  obtain ⟨fuel, hf⟩ := h
  rcases open_slice Try.underlying22 hf with ⟨hcs, _⟩ | ⟨a, len, cap, m, k, D, Pl, hcs, _, hl, hm, hmm, _, hi⟩
  · have e : Value.slice A n c = .slice none 0 0 := by simpa [Value.cells] using hcs
    injection e with e1 e2 e3
    subst e1 e2 e3
    exact ⟨none, 0, 0, [], rfl, rfl, by omega, by omega, fun hh => absurd rfl hh⟩
  · have e : Value.slice A n c = .slice (some a) len cap := by simpa [Value.cells] using hcs
    injection e with e1 e2 e3
    subst e1 e2 e3
    rw [if_pos rfl] at hmm
    subst hmm
    have hcell : ∀ i, i < n → ∃ x : Int, W.cell? (a.add i) = some (.int .i64 x) := by
      intro i him
      obtain ⟨cs', hc, ht'⟩ := hi i (by omega)
      rw [cells_int] at hc
      obtain ⟨_, hcl, hat⟩ := World.cells?_some hc
      match cs', hcl with
      | [u0], _ =>
        obtain ⟨x, ex, _, _⟩ := DataW.trod_int Try.underlying3 ht'
        simp at ex
        subst ex
        refine ⟨x, ?_⟩
        have := hat 0 (by omega)
        rw [Go.Deep.add_add] at this
        simpa using this
    obtain ⟨l, hll, hlc⟩ := ilist_of n hcell
    refine ⟨_, _, _, l, rfl, hll.symm, hl, by unfold maxLen at hm; omega, fun hne => ?_⟩
    have hn : 0 < n := by
      rcases Nat.eq_zero_or_pos n with h0 | h0
      · exact absurd (List.length_eq_zero_iff.1 (by omega)) hne
      · exact h0
    obtain ⟨b, off, spot⟩ := a
    have hspot : spot = none := by
      have := World.cell?_spot (hlc 0 hn)
      simpa [Addr.add] using this
    subst hspot
    refine ⟨b, off, rfl, ?_, fun j hj => ?_⟩
    · have := hlc 0 hn
      simp [Addr.add] at this
      rcases Nat.lt_or_ge b W.heap.size with h1 | h1
      · exact h1
      · have e : W.heap[b]? = none := Array.getElem?_eq_none h1
        simp [World.cell?, e] at this
    · rw [← add_plain]; exact hlc j (by omega)
end
end
end Go.Proofs.Ytiaoandbdgdecaa
