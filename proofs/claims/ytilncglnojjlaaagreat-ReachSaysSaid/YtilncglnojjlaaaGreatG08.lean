/- Parts of a proof: contracts and laws. -/
import Derived.Test.YtilncglnojjlaaaGreatG03
import Derived.Test.YtilncglnojjlaaaGreatG07
import Derived.SizedLaws
import Derived.Test.YtilncglnojjlaaaGreatG06
import Derived.Laws.AppendOwn
import Derived.Laws.AppendOwnNone
import Derived.OwnWalk
import Derived.Test.YtilncglnojjlaaaGreatG04
import Derived.BigQuiet
import Derived.Deep.DeepCutAuto
import Derived.WalkSpells
import Derived.Laws.Bits64b
import Derived.Laws.MathBits
import Derived.Deep.WholeRow
import Derived.Maps.AppendAt
namespace Go.Proofs.YtilncglnojjlaaaGreat
section
set_option linter.unusedVariables false
set_option linter.unusedSimpArgs false
open Go.ChangeShapes Go.WideShapes Go.ChangeAt Go.RowKit Go.Deep Go.Joins
theorem cells_body : Tryz.prog.cellsOf 26 = 13 := by kernel_rfl
theorem cells_bool : Tryz.prog.cellsOf 4 = 1 := by kernel_rfl
theorem cells_vecs : Tryz.prog.cellsOf 24 = 1 := by kernel_rfl
theorem bytes_vec : Tryz.prog.bytesOf 23 = 16 := by kernel_rfl
section
variable {H : Type} {enc : TypeId × Value → H} {W : World} {held : Bool} {base : Nat} {sp : Nat → Bool}
theorem open_int_c {n : Nat} {a : Value} {x : DataW H × List MemPlace} (h : DataW.trod enc Tryz.prog W base sp held n 3 [a] = some x) : ∃ z : Int, a = .int .i64 z := by
 obtain ⟨z, ez, _, _⟩ := DataW.trod_int Tryz.underlying3 h
 simp at ez
 exact ⟨z, ez⟩
theorem open_bool_c {n : Nat} {a : Value} {x : DataW H × List MemPlace} (h : DataW.trod enc Tryz.prog W base sp held n 4 [a] = some x) : ∃ z : Bool, a = .bool z := by
 obtain ⟨z, ez, _⟩ := DataW.trod_bool Tryz.underlying4 h
 simp at ez
 exact ⟨z, ez⟩
theorem open_vec_c {n : Nat} {a b : Value} {x : DataW H × List MemPlace} (h : DataW.trod enc Tryz.prog W base sp held n 23 [a, b] = some x) : ∃ y z : Int, a = .int .i64 y ∧ b = .int .i64 z := by
 obtain ⟨xs, n', _, _, hlen, hxl, hg⟩ := DataW.trod_struct Tryz.underlying23 h
 match xs, hxl with
 | [z0, z1], _ =>
  have g0 := hg 0 _ rfl
  have g1 := hg 1 _ rfl
  obtain ⟨y, ey⟩ := open_int_c (by simpa [cells_int] using g0)
  obtain ⟨z, ez⟩ := open_int_c (by simpa [cells_int] using g1)
  exact ⟨y, z, ey, ez⟩
set_option maxRecDepth 100000 in

theorem open_vecs_c {fuel : Nat} {v : Value} {x : DataW H × List MemPlace} (hf : DataW.trod enc Tryz.prog W base (fun _ => true) held fuel 24 [v] = some x) (hz : ∀ k ∈ x.1.weights Tryz.prog 24, k ≤ reachBytes) :
  ∃ A n c l, v = .slice A n c ∧ Sl W A n c l ∧ l.length ≤ 8796093022208 := by
 rcases open_slice Tryz.underlying24 hf with ⟨hcs, _⟩ | ⟨a, len, cap, m, k, D, Pl, hcs, _, hl, hm, hmm, hxx, hi⟩
 ·have e : v = .slice none 0 0 := by simpa using hcs
  subst e
  exact ⟨none, 0, 0, [], rfl, ⟨rfl, by omega, by omega, fun hh => absurd rfl hh⟩, by simp⟩
 ·have e : v = .slice (some a) len cap := by simpa using hcs
  subst e
  rw [if_pos rfl] at hmm
  subst hmm
  have hsmall : len ≤ 8796093022208 := by
   rw [hxx] at hz
   have := hz ((((List.range len).map D).length + ((List.range (m - len)).map fun j => D (len + j)).length) * Tryz.prog.bytesOf 23) (by simp [DataW.weights, Tryz.underlying24])
   rw [bytes_vec] at this
   simp [reachBytes] at this
   omega
  have hcell : ∀ i, i < len → ∃ x y : Int, W.cell? (a.add (i * 2)) = some (.int .i64 x) ∧ W.cell? (a.add (i * 2 + 1)) = some (.int .i64 y) := by
   intro i him
   obtain ⟨cs', hc, ht'⟩ := hi i (by omega)
   rw [cells_vec] at hc
   obtain ⟨_, hcl, hat⟩ := World.cells?_some hc
   match cs', hcl with
   | [u0, u1], _ =>
    obtain ⟨x, y, ex, ey⟩ := open_vec_c ht'
    subst ex ey
    refine ⟨x, y, ?_, ?_⟩
    ·have := hat 0 (by omega)
     rwa [Go.Deep.add_add] at this
    ·have := hat 1 (by omega)
     rwa [Go.Deep.add_add] at this
  obtain ⟨l, hll, hlc⟩ := list_of len hcell
  refine ⟨_, _, _, l, rfl, ⟨hll.symm, hl, by unfold maxLen at hm; omega, fun hne => ?_⟩, by omega⟩
  have hn : 0 < len := by
   rcases Nat.eq_zero_or_pos len with h0 | h0
   ·exact absurd (List.length_eq_zero_iff.1 (by omega)) hne
   ·exact h0
  obtain ⟨b, off, spot⟩ := a
  have hspot : spot = none := by
   have := World.cell?_spot (hlc 0 hn).1
   simpa [Addr.add] using this
  subst hspot
  refine ⟨b, off, rfl, ?_, fun j hj => ?_, fun j hj => ?_⟩
  ·have := (hlc 0 hn).1
   simp [Addr.add] at this
   rcases Nat.lt_or_ge b W.heap.size with h1 | h1
   ·exact h1
   ·have e : W.heap[b]? = none := Array.getElem?_eq_none h1
    simp [World.cell?, e] at this
  ·rw [← add_plain]; exact (hlc j (by omega)).1
  ·rw [Nat.add_assoc, ← add_plain]; exact (hlc j (by omega)).2
set_option maxRecDepth 100000 in

theorem open_body {r : Reach} {b0 : Nat} {v : Value} {d : DataW H} {p : List MemPlace} (hv : Value.okWide Tryz.prog W r b0 26 v) (h : DataW.Trod enc Tryz.prog W base (fun _ => true) held 26 v d p)
  (hz : ∀ k ∈ d.weights Tryz.prog 26, k ≤ reachBytes) : ∃ (b : Bd) (A : Option Addr) (n c : Nat) (l : List V), v = bodyV b A n c ∧ Sl W A n c l ∧ l.length ≤ 8796093022208 := by
 obtain ⟨cs, rfl, hcs⟩ := okWide_struct Tryz.underlying26 hv
 obtain ⟨fuel, hf⟩ := h
 obtain ⟨xs, m, _, hx, hlen, hxl, hg⟩ := DataW.trod_struct Tryz.underlying26 hf
 rw [cells_body] at hcs
 obtain ⟨cl⟩ := cs
 match cl, hcs with
 | [c0, c1, c2, c3, c4, c5, c6, c7, c8, c9, c10, c11, c12], _ =>
  match xs, hxl with
  | [x0, x1, x2, x3, x4, x5, x6, x7, x8, x9, x10], _ =>
   have hd : d = .agg [x0.1, x1.1, x2.1, x3.1, x4.1, x5.1, x6.1, x7.1, x8.1, x9.1, x10.1] := by simpa using congrArg Prod.fst hx
   obtain ⟨a0, a1, e0, e1⟩ := open_vec_c (by simpa [Value.cells, cells_vec] using hg 0 _ rfl)
   obtain ⟨a2, a3, e2, e3⟩ := open_vec_c (by simpa [Value.cells, cells_vec] using hg 1 _ rfl)
   obtain ⟨a4, e4⟩ := open_int_c (by simpa [Value.cells, cells_int] using hg 2 _ rfl)
   obtain ⟨a5, e5⟩ := open_int_c (by simpa [Value.cells, cells_int] using hg 3 _ rfl)
   obtain ⟨a6, e6⟩ := open_int_c (by simpa [Value.cells, cells_int] using hg 4 _ rfl)
   obtain ⟨a7, e7⟩ := open_int_c (by simpa [Value.cells, cells_int] using hg 5 _ rfl)
   obtain ⟨a8, e8⟩ := open_int_c (by simpa [Value.cells, cells_int] using hg 6 _ rfl)
   obtain ⟨a9, e9⟩ := open_int_c (by simpa [Value.cells, cells_int] using hg 7 _ rfl)
   have g8 : DataW.trod enc Tryz.prog W base (fun _ => true) held m 24 [c10] = some x8 := by simpa [Value.cells, cells_vecs] using hg 8 _ rfl
   obtain ⟨a11, e11⟩ := open_bool_c (by simpa [Value.cells, cells_bool] using hg 9 _ rfl)
   obtain ⟨a12, e12⟩ := open_int_c (by simpa [Value.cells, cells_int] using hg 10 _ rfl)
   obtain ⟨A, n, c, l, e10, hS, hl⟩ := open_vecs_c g8 (fun k hk => hz k (by
    rw [hd]
    simp only [DataW.weights, Tryz.underlying26]
    exact DataW.weights_mem_each (j := 8) rfl rfl k hk))
   subst e0 e1 e2 e3 e4 e5 e6 e7 e8 e9 e10 e11 e12
   exact ⟨⟨a0, a1, a2, a3, a4, a5, a6, a7, a8, a9, a11, a12⟩, A, n, c, l, rfl, hS, hl⟩
end
end
end Go.Proofs.YtilncglnojjlaaaGreat
namespace Go.Proofs.YtilncglnojjlaaaGreat
section
set_option linter.unusedVariables false
set_option linter.unusedSimpArgs false
open Go.RowKit
open Go.ChangeShapes Go.WideShapes Go.ChangeAt Go.RowKit Go.Deep Go.Joins




theorem grown_of_below {a b : World} {row : Option Nat} (h : Below a.heap.size a b) : a.grownBy b row := ⟨h.os, h.tape, h.output, h.size, fun i hi _ => h.block i hi⟩
theorem grown_setCell (w : World) (g o : Nat) (v : Value) : w.grownBy (w.setCell ⟨g, o, none⟩ v) (some g) :=
 ⟨rfl, rfl, rfl, by simp [World.setCell], fun k _ hn => Below.heap_setCell _ _ _ _ (by intro e; exact hn (by rw [e]))⟩
theorem grown_cell {a b : World} {g k o : Nat} (h : a.grownBy b (some g)) (hk : k ≠ g) (hl : k < a.heap.size) : b.cell? ⟨k, o, none⟩ = a.cell? ⟨k, o, none⟩ :=
 World.cell?_of_block (h.block k hl (by intro e; cases e; exact hk rfl))
theorem Cells.grown {w w' : World} {b off g : Nat} {l : List V} (h : Cells w b off l) (hg : w.grownBy w' (some g)) (hne : b ≠ g) : Cells w' b off l :=
 ⟨Nat.lt_of_lt_of_le h.lt hg.size, fun j hj => (grown_cell hg hne h.lt).trans (h.x j hj), fun j hj => (grown_cell hg hne h.lt).trans (h.y j hj)⟩
theorem Sl.grown {w w' : World} {A : Option Addr} {n c g : Nat} {l : List V} (h : Sl w A n c l) (hg : w.grownBy w' (some g)) (hne : ∀ b off, A = some ⟨b, off, none⟩ → b ≠ g) : Sl w' A n c l :=
 ⟨h.len, h.cap, h.big, fun hl => by obtain ⟨b, off, rfl, hc⟩ := h.at_ hl; exact ⟨b, off, rfl, hc.grown hg (hne b off rfl)⟩⟩

def flat (l : List V) : List Value := l.flatMap fun p => [.int .i64 p.1, .int .i64 p.2]
theorem flat_len (l : List V) : (flat l).length = l.length * 2 := by
 unfold flat
 induction l with
 | nil => rfl
 | cons a l ih => simp [List.flatMap_cons, ih]; omega
theorem flat_append (l m : List V) : flat (l ++ m) = flat l ++ flat m := by simp [flat, List.flatMap_append]
theorem flat_at (l : List V) (j : Nat) (h : j < l.length) : (flat l)[j * 2]? = some (.int .i64 (px l j)) ∧ (flat l)[j * 2 + 1]? = some (.int .i64 (py l j)) := by
 induction l generalizing j with
 | nil => simp at h
 | cons a l ih =>
  match j with
  | 0 => exact ⟨by simp [flat, px, List.flatMap_cons], by simp [flat, py, List.flatMap_cons]⟩
  | j + 1 =>
   have := ih j (by simpa using h)
   have e : flat (a :: l) = .int .i64 a.1 :: .int .i64 a.2 :: flat l := by simp [flat, List.flatMap_cons]
   rw [e, show (j + 1) * 2 = j * 2 + 1 + 1 by omega, List.getElem?_cons_succ, List.getElem?_cons_succ, List.getElem?_cons_succ, List.getElem?_cons_succ]
   simpa [px, py] using this
theorem flat_one (l : List V) : ∀ u ∈ flat l, u.oneCell' = true := by
 intro u hu
 simp only [flat, List.mem_flatMap] at hu
 obtain ⟨p, _, hp⟩ := hu
 simp at hp
 rcases hp with rfl | rfl <;> rfl
theorem flat_cells {w : World} {b off : Nat} {l : List V} (h : Cells w b off l) : ∀ j u, (flat l)[j]? = some u → w.cell? ((⟨b, off, none⟩ : Addr).add j) = some u := by
 intro j u hj
 have hlt : j < l.length * 2 := by
  have := (List.getElem?_eq_some_iff.1 hj).1
  rwa [flat_len] at this
 have hk : j / 2 < l.length := by omega
 have ha := flat_at l (j / 2) hk
 have hadd : (⟨b, off, none⟩ : Addr).add j = ⟨b, off + j, none⟩ := by unfold Addr.add; split <;> simp_all
 rw [hadd]
 rcases Nat.mod_two_eq_zero_or_one j with e | e
 ·have ej : j = j / 2 * 2 := by omega
  rw [ej] at hj
  rw [ha.1] at hj
  cases hj
  have := h.x (j / 2) hk
  rwa [← ej] at this
 ·have ej : j = j / 2 * 2 + 1 := by omega
  rw [ej] at hj
  rw [ha.2] at hj
  cases hj
  have := h.y (j / 2) hk
  rw [Nat.add_assoc, ← ej] at this
  exact this

def Own (w : World) (B : Nat) (v : Value) (l : List V) : Prop := w.ownsRow B 23 2 v l.length (flat l)
theorem Own.nil (w : World) (B : Nat) : Own w B (.slice none 0 0) [] := World.ownsRow_nil _ _ _ _
theorem Own.kept {w w' : World} {B : Nat} {v : Value} {l : List V} {row : Option Nat} (h : Own w B v l) (hg : w.grownBy w' row) (hr : ∀ k, row = some k → k < B) : Own w' B v l := by
 refine World.ownsRow.kept h hg ?_
 cases hv : v.ownBlock with
 | none => exact .inl rfl
 | some k =>
  refine .inr fun e => ?_
  have := (World.ownsRow.lt h k hv).1
  have := hr k e.symm
  omega
theorem Own.below {w w' : World} {B : Nat} {v : Value} {l : List V} (h : Own w B v l) (hb : Below w.heap.size w w') : Own w' B v l :=
 h.kept (grown_of_below (row := none) hb) (by simp)
theorem Own.alloc {w : World} {B : Nat} {v : Value} {l : List V} (h : Own w B v l) (o : Obj) : Own (w.alloc o) B v l := World.ownsRow.alloc h o
theorem Own.drew {w : World} {B : Nat} {v : Value} {l : List V} (h : Own w B v l) : Own w.drew B v l := h
theorem Own.sl {w : World} {B : Nat} {v : Value} {l : List V} (h : Own w B v l) : ∃ A n c, v = .slice A n c ∧ Sl w A n c l ∧ ∀ b off, A = some ⟨b, off, none⟩ → B ≤ b := by
 have hc := fun g hg => World.ownsRow.cells h (g := g) hg
 obtain ⟨h1, h2 | ⟨g, cap, cur, rfl, hb, hg, hn, hm, hs, ht⟩⟩ := h
 ·obtain ⟨rfl, h0⟩ := h2
  refine ⟨none, 0, 0, rfl, ⟨h0.symm, by omega, by omega, fun hl => ?_⟩, by simp⟩
  exact absurd (List.length_eq_zero_iff.1 h0) hl
 ·refine ⟨_, _, _, rfl, ⟨rfl, hn, by unfold maxLen at hm; omega, fun _ => ⟨g, 0, rfl, ?_, fun j hj => ?_, fun j hj => ?_⟩⟩, fun b off e => by cases e; exact hb⟩
  ·exact (Array.getElem?_eq_some_iff.1 hg).1
  ·have := hc g rfl (j * 2) _ (flat_at l j hj).1
   have hadd : (⟨g, 0, none⟩ : Addr).add (j * 2) = ⟨g, 0 + j * 2, none⟩ := by unfold Addr.add; split <;> simp_all
   rwa [hadd] at this
  ·have := hc g rfl (j * 2 + 1) _ (flat_at l j hj).2
   have hadd : (⟨g, 0, none⟩ : Addr).add (j * 2 + 1) = ⟨g, 0 + j * 2 + 1, none⟩ := by unfold Addr.add; split <;> simp_all <;> omega
   rwa [hadd] at this
theorem Own.grown {w w' : World} {B : Nat} {v : Value} {l : List V} (h : Own w B v l) (hg : w.grownBy w' v.ownBlock) (hB : B ≤ w.heap.size) : Below B w w' :=
 (Below.refl B w).grown hg hB (fun k hk => (World.ownsRow.lt h k hk).1)
theorem info_vec : (Tryz.prog.info? 23).map (fun i => (i.zero, i.size, i.bytes)) = some (some (.agg #[.int .i64 0, .int .i64 0]), 2, 16) := by kernel_rfl

theorem wpList_append_vecs {w : World} {ops : Array Oper} {rest : List Oper} {o : Oper} {a : Act} {Q : Exit → Act → World → Prop} (hgd : o.guard = none) (s x : Operand)
  (ho : o.op = .call { callee := .builtin .append, args := #[s, x], argTypes := #[24, 24] })
  (B : Nat) (v : Value) (l : List V) (hs : a.eval s = v) (hown : Own w B v l) (b off n c : Nat) (m : List V) (hx : a.eval x = .slice (some ⟨b, off, none⟩) n c) (hn : n = m.length) (hc : Cells w b off m)
  (hl : l.length + m.length ≤ 8796093022208) (hB : B ≤ w.heap.size)
  (h : ∀ v' w', Own w' B v' (l ++ m) → w.grownBy w' v.ownBlock → wpList Tryz.prog ops Q rest (a.put o.dst v') w') : wpList Tryz.prog ops Q (o :: rest) a w := by
 obtain ⟨i0, hi, hz0, hz1, hz2⟩ := info_parts info_vec
 refine wpList_append_own w hgd s x 24 ho B 23 i0 (.agg #[.int .i64 0, .int .i64 0]) 2 16 Tryz.underlying24 hi hz0 hz1 hz2 rfl (by decide) v l.length (flat l) hs hown ⟨b, off, none⟩ n c (flat m) hx (by rw [flat_len, hn]) (flat_cells hc) (flat_one m) (by unfold maxLen; omega) (by omega) hB ?_
 intro v' w' h1 h2 _
 refine h v' w' ?_ h2
 unfold Own
 rw [flat_append, List.length_append, ← hn]
 exact h1

theorem step_append_vecs {w : World} {ops : Array Oper} {o : Oper} {a : Act} {K : Act → World → Prop} {Q : Exit → Act → World → Prop} {E : Prop} (hgd : o.guard = none) (s x : Operand)
  (ho : o.op = .call { callee := .builtin .append, args := #[s, x], argTypes := #[24, 24] })
  (B : Nat) (v : Value) (l : List V) (hs : a.eval s = v) (hown : Own w B v l) (b off n c : Nat) (m : List V) (hx : a.eval x = .slice (some ⟨b, off, none⟩) n c) (hn : n = m.length) (hc : Cells w b off m)
  (hl : l.length + m.length ≤ 8796093022208) (hB : B ≤ w.heap.size)
  (h : ∀ v' w', Own w' B v' (l ++ m) → w.grownBy w' v.ownBlock → K (a.put o.dst v') w') : if Region.wanted o (yielded ops a.tmps) = true then Oper.wp Tryz.prog o a w K Q else E := by
 have hw : Region.wanted o (yielded ops a.tmps) = true := by simp [Region.wanted, hgd]
 rw [if_pos hw]
 obtain ⟨i0, hi, hz0, hz1, hz2⟩ := info_parts info_vec
 refine wp_append_own w s x 24 ho B 23 i0 (.agg #[.int .i64 0, .int .i64 0]) 2 16 Tryz.underlying24 hi hz0 hz1 hz2 rfl (by decide) v l.length (flat l) hs hown ⟨b, off, none⟩ n c (flat m) hx (by rw [flat_len, hn]) (flat_cells hc) (flat_one m) (by unfold maxLen; omega) (by omega) hB ?_
 intro v' w' h1 h2 _
 refine h v' w' ?_ h2
 unfold Own
 rw [flat_append, List.length_append, ← hn]
 exact h1

theorem Own.lit (w : World) (B : Nat) (l : List V) (hB : B ≤ w.heap.size) (hl : l.length ≤ 8796093022208) : Own (w.alloc (.cells (flat l).toArray 23)) B (.slice (some ⟨w.heap.size, 0, none⟩) l.length l.length) l :=
 ⟨flat_len l, .inr ⟨w.heap.size, l.length, (flat l).toArray, rfl, hB, heap_alloc_new w _, Nat.le_refl _, by unfold maxLen; omega, by simp [flat_len], by simp [flat_len, List.take_of_length_le]⟩⟩
theorem Sl.take {w : World} {A : Option Addr} {n c : Nat} {l : List V} (h : Sl w A n c l) {k : Nat} (hk : k ≤ n) : Sl w A k c (l.take k) := by
 have hn := h.len
 refine ⟨by rw [List.length_take]; omega, by have := h.cap; omega, h.big, fun hl => ?_⟩
 obtain ⟨b, off, rfl, hc⟩ := h.at_ (by intro e; subst e; simp at hl)
 refine ⟨b, off, rfl, hc.lt, fun j hj => ?_, fun j hj => ?_⟩
 ·rw [List.length_take] at hj
  rw [hc.x j (by omega)]
  simp [px, List.getElem?_take, show j < k by omega]
 ·rw [List.length_take] at hj
  rw [hc.y j (by omega)]
  simp [py, List.getElem?_take, show j < k by omega]
theorem cells_one {w : World} {b off : Nat} {p q : Int} (h0 : w.cell? ⟨b, off, none⟩ = some (.int .i64 p)) (h1 : w.cell? ⟨b, off + 1, none⟩ = some (.int .i64 q)) : Cells w b off [(p, q)] :=
 ⟨lt_of_cell h0, fun j hj => match j, hj with | 0, _ => by simpa [px] using h0, fun j hj => match j, hj with | 0, _ => by simpa [py] using h1⟩

structure SlI (w : World) (A : Option Addr) (n c : Nat) (r : List Int) : Prop where
 len : n = r.length
 cap : n ≤ c
 big : c ≤ 9223372036854775807
 at_ : r ≠ [] → ∃ b off, A = some ⟨b, off, none⟩ ∧ b < w.heap.size ∧ ∀ j, j < r.length → w.cell? ⟨b, off + j, none⟩ = some (.int .i64 (r.getD j 0))
theorem SlI.below {w w' : World} {A : Option Addr} {n c : Nat} {r : List Int} (h : SlI w A n c r) (hb : Below w.heap.size w w') : SlI w' A n c r :=
 ⟨h.len, h.cap, h.big, fun hl => by
  obtain ⟨b, off, rfl, hlt, hc⟩ := h.at_ hl
  exact ⟨b, off, rfl, Nat.lt_of_lt_of_le hlt hb.size, fun j hj => ((bcell hb).1 _ _ hlt).trans (hc j hj)⟩⟩

structure Stm (w : World) (g : Nat) (r : List Int) : Prop where
 lt : g < w.heap.size
 free : w.frozen? ⟨g, 0, none⟩ = false
 at_ : ∃ A n c, w.cell? ⟨g, 0, none⟩ = some (.slice A n c) ∧ SlI w A n c r ∧ (r ≠ [] → ∀ b off, A = some ⟨b, off, none⟩ → b < g)
theorem Stm.below {w w' : World} {g : Nat} {r : List Int} (h : Stm w g r) (hb : Below w.heap.size w w') : Stm w' g r := by
 obtain ⟨h1, h2, A, n, c, h3, h4, h5⟩ := h
 exact ⟨Nat.lt_of_lt_of_le h1 hb.size, ((bcell hb).2 _ _ h1).trans h2, A, n, c, ((bcell hb).1 _ _ h1).trans h3, h4.below hb, h5⟩
theorem SlI.setCell {w : World} {A : Option Addr} {n c g : Nat} {r : List Int} (h : SlI w A n c r) (hA : ∀ b off, A = some ⟨b, off, none⟩ → b < g) (v : Value) : SlI (w.setCell ⟨g, 0, none⟩ v) A n c r :=
 ⟨h.len, h.cap, h.big, fun hl => by
  obtain ⟨b, off, rfl, hlt, hc⟩ := h.at_ hl
  have hb := hA b off rfl
  exact ⟨b, off, rfl, by simpa [World.setCell] using hlt, fun j hj => (grown_cell (grown_setCell w g 0 v) (by omega) hlt).trans (hc j hj)⟩⟩


theorem Sl.made (w : World) (l : List V) (T : TypeId) (hl : l.length ≤ 9223372036854775807) : Sl (w.alloc (.cells (flat l).toArray T)) (some ⟨w.heap.size, 0, none⟩) l.length l.length l := by
 refine ⟨rfl, Nat.le_refl _, hl, fun _ => ⟨w.heap.size, 0, rfl, by simp, fun j hj => ?_, fun j hj => ?_⟩⟩
 ·rw [cell_of_row _ w.heap.size _ (flat l).toArray T (0, 0) (heap_alloc_new w _)]
  simpa using (flat_at l j hj).1
 ·rw [cell_of_row _ w.heap.size _ (flat l).toArray T (0, 0) (heap_alloc_new w _)]
  simpa using (flat_at l j hj).2

def RetVecs (l : List V) (w : World) (e : Ending) (w' : World) : Prop :=
 ∃ A n c, e = .returned (.slice A n c) ∧ Sl w' A n c l ∧ (∀ b off, A = some ⟨b, off, none⟩ → w.heap.size ≤ b) ∧ Below w.heap.size w w'

section
variable {H : Type} {enc : TypeId × Value → H} {W : World} {held : Bool} {base : Nat} {sp : Nat → Bool}
set_option maxRecDepth 100000 in

end
end
end Go.Proofs.YtilncglnojjlaaaGreat
namespace Go.Proofs.YtilncglnojjlaaaGreat
section
set_option linter.unusedVariables false
set_option linter.unusedSimpArgs false
open Go.RowKit

structure VZ (w : World) (g : Nat) : Prop where
 c : ∃ x y : Value, w.cell? ⟨g, 0, none⟩ = some x ∧ w.cell? ⟨g, 1, none⟩ = some y
 free : ∀ j, w.frozen? ⟨g, j, none⟩ = false
theorem keepVZ {w w' : World} {g : Nat} (hb : Below w.heap.size w w') (h : VZ w g) : VZ w' g := by
 obtain ⟨⟨x, y, h0, h1⟩, hf⟩ := h
 exact ⟨⟨x, y, keepCell hb h0, keepCell hb h1⟩, fun j => ((bcell hb).2 _ _ (lt_of_cell h0)).trans (hf j)⟩
theorem VZ.lt {w : World} {g : Nat} (h : VZ w g) : g < w.heap.size := by obtain ⟨⟨_, _, h0, _⟩, _⟩ := h; exact lt_of_cell h0
theorem VZ.alloc {w : World} {g : Nat} (h : VZ w g) (o : Obj) : VZ (w.alloc o) g := keepVZ ((Below.refl _ _).alloc (Nat.le_refl _) _) h
theorem VZ.drew {w : World} {g : Nat} (h : VZ w g) : VZ w.drew g := ⟨h.c, h.free⟩
theorem VZ.here (w : World) (a b : Int) (t : TypeId) : VZ (w.alloc (.cells #[.int .i64 a, .int .i64 b] t)) w.heap.size :=
 ⟨⟨.int .i64 a, .int .i64 b, by go_simp, by go_simp⟩, fun j => by go_simp⟩
theorem VZ.set {w : World} {g : Nat} (h : VZ w g) (a : Addr) (u : Value) : VZ (w.setCell a u) g := by
 obtain ⟨⟨x, y, h0, h1⟩, hf⟩ := h
 refine ⟨?_, fun j => by rw [World.frozen?_setCell]; exact hf j⟩
 have e : ∀ j z, w.cell? ⟨g, j, none⟩ = some z → ∃ z', (w.setCell a u).cell? ⟨g, j, none⟩ = some z' := fun j z hz => by
  by_cases ha : a = ⟨g, j, none⟩
  ·subst ha; exact ⟨u, by go_simp⟩
  ·exact ⟨z, by go_simp⟩
 obtain ⟨z0, e0⟩ := e 0 x h0
 obtain ⟨z1, e1⟩ := e 1 y h1
 exact ⟨z0, z1, e0, e1⟩
theorem Sl.empty' (w : World) : Sl w none 0 0 [] := ⟨rfl, by omega, by omega, fun h => absurd rfl h⟩
end
end Go.Proofs.YtilncglnojjlaaaGreat
