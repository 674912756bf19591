/- Parts of a proof: contracts and laws. -/
import Derived.Test.YtbajmekmpgfpeaaB20
import Derived.Test.YtbajmekmpgfpeaaB21
namespace Go.Proofs.Ytbajmekmpgfpeaa
section
set_option linter.unusedVariables false
set_option linter.unusedSimpArgs false
open Go.ChangeShapes Go.WideShapes Go.ChangeAt Go.RowKit Go.Deep Go.Joins
theorem cells_joint8 : Try.prog.cellsOf 49 = 7 := by kernel_rfl
theorem list_jt {P : Nat → Jt → Prop} (n : Nat) (h : ∀ i, i < n → ∃ x, P i x) : ∃ l : List Jt, l.length = n ∧ ∀ i (hi : i < l.length), P i l[i] := by
  induction n with
  | zero => exact ⟨[], rfl, fun i hi => absurd hi (by simp)⟩
  | succ n ih =>
    obtain ⟨l, hl, hp⟩ := ih fun i hi => h i (by omega)
    obtain ⟨x, hx⟩ := h n (by omega)
    refine ⟨l ++ [x], by simp [hl], fun i hi => ?_⟩
    by_cases e : i < l.length
    · rw [List.getElem_append_left e]; exact hp i e
    · have ei : i = n := by simp at hi; omega
      subst ei
      rw [List.getElem_append_right (by omega)]
      simpa [hl] using hx
section
variable {H : Type} {enc : TypeId × Value → H} {W : World} {held : Bool} {base : Nat} {sp : Nat → Bool}
set_option maxRecDepth 100000 in

theorem open_jt {fuel : Nat} {cl : List Value} {x : DataW H × List MemPlace} (hcs : cl.length = 7) (hf : DataW.trod enc Try.prog W base (fun _ => true) held fuel 49 cl = some x) : ∃ e : Jt, cl = encJ e := by
  obtain ⟨xs, m, _, hx, hlen, hxl, hg⟩ := DataW.trod_struct Try.underlying49 hf
  match cl, hcs with
  | [c0, c1, c2, c3, c4, c5, c6], _ =>
    match xs, hxl with
    | [x0, x1, x2, x3, x4], _ =>
      obtain ⟨a0, e0⟩ := open_int_c7 (by simpa [Value.cells, cells_int] using hg 0 _ rfl)
      obtain ⟨a1, e1⟩ := open_int_c7 (by simpa [Value.cells, cells_int] using hg 1 _ rfl)
      obtain ⟨a2, a3, e2, e3⟩ := open_vec_c7 (by simpa [Value.cells, cells_vec] using hg 2 _ rfl)
      obtain ⟨a4, a5, e4, e5⟩ := open_vec_c7 (by simpa [Value.cells, cells_vec] using hg 3 _ rfl)
      obtain ⟨a6, e6⟩ := open_int_c7 (by simpa [Value.cells, cells_int] using hg 4 _ rfl)
      subst e0 e1 e2 e3 e4 e5 e6
      exact ⟨⟨a0, a1, a2, a3, a4, a5, a6⟩, rfl⟩
set_option maxRecDepth 100000 in

theorem open_joints {r : Reach} {b0 : Nat} {v : Value} {d : DataW H} {p : List MemPlace} (hv : Value.okWide Try.prog W r b0 47 v) (h : DataW.Trod enc Try.prog W base (fun _ => true) held 47 v d p) :
    ∃ A n c L, v = .slice A n c ∧ SlE layJ W A n c L := by
  obtain ⟨A, n, c, rfl⟩ := okWide_slice Try.underlying47 hv
  obtain ⟨fuel, hf⟩ := h
  rcases open_slice Try.underlying47 hf with ⟨hcs, _⟩ | ⟨a, len, cap, m, k, D, Pl, hcs, _, hl, hm, hmm, _, hi⟩
  · have e : Value.slice A n c = .slice none 0 0 := by simpa [Value.cells] using hcs
    injection e with e1 e2 e3
    subst e1 e2 e3
    exact ⟨none, 0, 0, [], rfl, SlE.nil _ _⟩
  · have e : Value.slice A n c = .slice (some a) len cap := by simpa [Value.cells] using hcs
    injection e with e1 e2 e3
    subst e1 e2 e3
    rw [if_pos rfl] at hmm
    subst hmm
    have hcell : ∀ i, i < n → ∃ x : Jt, ∀ j v, (encJ x)[j]? = some v → W.cell? (a.add (i * 7 + j)) = some v := by
      intro i him
      obtain ⟨cs', hc, ht'⟩ := hi i (by omega)
      rw [cells_joint8] at hc
      obtain ⟨_, hcl, hat⟩ := World.cells?_some hc
      obtain ⟨x, hx⟩ := open_jt hcl ht'
      refine ⟨x, fun j v hj => ?_⟩
      have hj13 : j < cs'.length := by
        rcases Nat.lt_or_ge j cs'.length with g | g
        · exact g
        · rw [hx] at g; rw [List.getElem?_eq_none g] at hj; cases hj
      have := hat j (by omega)
      rw [Go.Deep.add_add] at this
      rw [this]
      subst hx
      first | exact hj | (rw [List.getElem?_eq_getElem hj13] at hj; exact hj)
    obtain ⟨L, hll, hlc⟩ := list_jt n hcell
    have hone : L ≠ [] → ∃ b off, a = ⟨b, off, none⟩ ∧ b < W.heap.size := fun hne => by
      have hn : 0 < L.length := by
        rcases Nat.eq_zero_or_pos L.length with h0 | h0
        · exact absurd (List.length_eq_zero_iff.1 h0) hne
        · exact h0
      obtain ⟨b, off, spot⟩ := a
      have c0 := hlc 0 hn 0 _ rfl
      have hspot : spot = none := by
        have := World.cell?_spot c0
        simpa [Addr.add] using this
      subst hspot
      refine ⟨b, off, rfl, ?_⟩
      simp [Addr.add] at c0
      rcases Nat.lt_or_ge b W.heap.size with h1 | h1
      · exact h1
      · have e : W.heap[b]? = none := Array.getElem?_eq_none h1
        simp [World.cell?, e] at c0
    refine ⟨_, _, _, L, rfl, ⟨hll.symm, hl, by unfold maxLen at hm; omega, fun hne => ?_⟩⟩
    · obtain ⟨b, off, rfl, hb⟩ := hone hne
      refine ⟨b, off, rfl, hb, fun j hj i v hv => ?_⟩
      have := hlc j hj i v hv
      rwa [add_plain, ← Nat.add_assoc] at this
end
end
end Go.Proofs.Ytbajmekmpgfpeaa
namespace Go.Proofs.Ytbajmekmpgfpeaa
section
set_option linter.unusedVariables false
set_option linter.unusedSimpArgs false
open Go.RowKit
theorem cell_set_ne {w : World} {g o o' : Nat} {v u : Value} (h : w.cell? ⟨g, o', none⟩ = some u) (hne : o ≠ o') : (w.setCell ⟨g, o, none⟩ v).cell? ⟨g, o', none⟩ = some u := by
  have n1 : ¬ o = o' := hne
  have n2 : ¬ o' = o := fun e => hne e.symm
  go_simp
theorem cell_set_eq {w : World} {g o : Nat} {v u : Value} (h : w.cell? ⟨g, o, none⟩ = some u) : (w.setCell ⟨g, o, none⟩ v).cell? ⟨g, o, none⟩ = some v := by go_simp

def setBo (w : World) (g o : Nat) (b : Bd) (A : Option Addr) (n c : Nat) : World := (((((((((((((w.setCell ⟨g, o, none⟩ (.int .i64 b.px)).setCell ⟨g, o + 1, none⟩ (.int .i64 b.py)).setCell ⟨g, o + 2, none⟩ (.int .i64 b.vx)).setCell ⟨g, o + 3, none⟩ (.int .i64 b.vy)).setCell ⟨g, o + 4, none⟩ (.int .i64 b.ang)).setCell ⟨g, o + 5, none⟩ (.int .i64 b.spin)).setCell ⟨g, o + 6, none⟩ (.int .i64 b.mass)).setCell ⟨g, o + 7, none⟩ (.int .i64 b.iner)).setCell ⟨g, o + 8, none⟩ (.int .i64 b.bounce)).setCell ⟨g, o + 9, none⟩ (.int .i64 b.rub)).setCell ⟨g, o + 10, none⟩ (.slice A n c)).setCell ⟨g, o + 11, none⟩ (.bool b.asleep)).setCell ⟨g, o + 12, none⟩ (.int .i64 b.calm))
theorem setBo_ne {w : World} {g o o' : Nat} {u : Value} {b : Bd} {A : Option Addr} {n c : Nat} (h : w.cell? ⟨g, o', none⟩ = some u) (hne : o' < o ∨ o + 13 ≤ o') : (setBo w g o b A n c).cell? ⟨g, o', none⟩ = some u := by
  unfold setBo
  iterate 13 refine cell_set_ne ?_ (by omega)
  exact h
theorem setBo_at {w : World} {g o : Nat} (x : BE) (hz : ∀ i, i < 13 → ∃ u, w.cell? ⟨g, o + i, none⟩ = some u) : ∀ (i : Nat) (v : Value), (encB x)[i]? = some v → (setBo w g o x.b x.A x.n x.c).cell? ⟨g, o + i, none⟩ = some v := fun i v hv0 => by
  have hv : (encB x)[i]? = some v := hv0
  unfold encB at hv
  revert hv
  exact match i with
  | 0 => fun hv => by
    have e : some _ = some v := hv
    cases e
    obtain ⟨u, hu⟩ := hz 0 (by omega)
    unfold setBo
    simp only [Nat.add_zero] at hu ⊢
    iterate 12 refine cell_set_ne ?_ (by omega)
    refine cell_set_eq (u := u) ?_
    exact hu
  | 1 => fun hv => by
    have e : some _ = some v := hv
    cases e
    obtain ⟨u, hu⟩ := hz 1 (by omega)
    unfold setBo
    iterate 11 refine cell_set_ne ?_ (by omega)
    refine cell_set_eq (u := u) ?_
    iterate 1 refine cell_set_ne ?_ (by omega)
    exact hu
  | 2 => fun hv => by
    have e : some _ = some v := hv
    cases e
    obtain ⟨u, hu⟩ := hz 2 (by omega)
    unfold setBo
    iterate 10 refine cell_set_ne ?_ (by omega)
    refine cell_set_eq (u := u) ?_
    iterate 2 refine cell_set_ne ?_ (by omega)
    exact hu
  | 3 => fun hv => by
    have e : some _ = some v := hv
    cases e
    obtain ⟨u, hu⟩ := hz 3 (by omega)
    unfold setBo
    iterate 9 refine cell_set_ne ?_ (by omega)
    refine cell_set_eq (u := u) ?_
    iterate 3 refine cell_set_ne ?_ (by omega)
    exact hu
  | 4 => fun hv => by
    have e : some _ = some v := hv
    cases e
    obtain ⟨u, hu⟩ := hz 4 (by omega)
    unfold setBo
    iterate 8 refine cell_set_ne ?_ (by omega)
    refine cell_set_eq (u := u) ?_
    iterate 4 refine cell_set_ne ?_ (by omega)
    exact hu
  | 5 => fun hv => by
    have e : some _ = some v := hv
    cases e
    obtain ⟨u, hu⟩ := hz 5 (by omega)
    unfold setBo
    iterate 7 refine cell_set_ne ?_ (by omega)
    refine cell_set_eq (u := u) ?_
    iterate 5 refine cell_set_ne ?_ (by omega)
    exact hu
  | 6 => fun hv => by
    have e : some _ = some v := hv
    cases e
    obtain ⟨u, hu⟩ := hz 6 (by omega)
    unfold setBo
    iterate 6 refine cell_set_ne ?_ (by omega)
    refine cell_set_eq (u := u) ?_
    iterate 6 refine cell_set_ne ?_ (by omega)
    exact hu
  | 7 => fun hv => by
    have e : some _ = some v := hv
    cases e
    obtain ⟨u, hu⟩ := hz 7 (by omega)
    unfold setBo
    iterate 5 refine cell_set_ne ?_ (by omega)
    refine cell_set_eq (u := u) ?_
    iterate 7 refine cell_set_ne ?_ (by omega)
    exact hu
  | 8 => fun hv => by
    have e : some _ = some v := hv
    cases e
    obtain ⟨u, hu⟩ := hz 8 (by omega)
    unfold setBo
    iterate 4 refine cell_set_ne ?_ (by omega)
    refine cell_set_eq (u := u) ?_
    iterate 8 refine cell_set_ne ?_ (by omega)
    exact hu
  | 9 => fun hv => by
    have e : some _ = some v := hv
    cases e
    obtain ⟨u, hu⟩ := hz 9 (by omega)
    unfold setBo
    iterate 3 refine cell_set_ne ?_ (by omega)
    refine cell_set_eq (u := u) ?_
    iterate 9 refine cell_set_ne ?_ (by omega)
    exact hu
  | 10 => fun hv => by
    have e : some _ = some v := hv
    cases e
    obtain ⟨u, hu⟩ := hz 10 (by omega)
    unfold setBo
    iterate 2 refine cell_set_ne ?_ (by omega)
    refine cell_set_eq (u := u) ?_
    iterate 10 refine cell_set_ne ?_ (by omega)
    exact hu
  | 11 => fun hv => by
    have e : some _ = some v := hv
    cases e
    obtain ⟨u, hu⟩ := hz 11 (by omega)
    unfold setBo
    iterate 1 refine cell_set_ne ?_ (by omega)
    refine cell_set_eq (u := u) ?_
    iterate 11 refine cell_set_ne ?_ (by omega)
    exact hu
  | 12 => fun hv => by
    have e : some _ = some v := hv
    cases e
    obtain ⟨u, hu⟩ := hz 12 (by omega)
    unfold setBo
    refine cell_set_eq (u := u) ?_
    iterate 12 refine cell_set_ne ?_ (by omega)
    exact hu
  | i + 13 => fun hv => by simp at hv
theorem setBo_grown (w : World) (g o : Nat) (b : Bd) (A : Option Addr) (n c : Nat) : w.grownBy (setBo w g o b A n c) (some g) := by
  unfold setBo
  iterate 12 refine grown_trans ?_ (grown_setCell _ g _ _)
  exact grown_setCell _ g _ _
theorem setBo_free {w : World} {g o g' j : Nat} {b : Bd} {A : Option Addr} {n c : Nat} : (setBo w g o b A n c).frozen? ⟨g', j, none⟩ = w.frozen? ⟨g', j, none⟩ := by
  unfold setBo
  iterate 13 rw [World.frozen?_setCell]

structure BL (w : World) (g : Nat) (L : List BE) : Prop where
  cl : CellsE layB w g 0 L
  free : ∀ j, w.frozen? ⟨g, j, none⟩ = false
  co : ∀ x ∈ L, Sl w x.A x.n x.c x.l
  ne : ∀ x ∈ L, ∀ bx off, x.A = some ⟨bx, off, none⟩ → bx ≠ g
theorem keepBL {w w' : World} {g : Nat} {L : List BE} (hb : Below w.heap.size w w') (h : BL w g L) : BL w' g L :=
  ⟨h.cl.below hb, fun j => ((bcell hb).2 _ _ h.cl.lt).trans (h.free j), fun x hx => (h.co x hx).below hb, h.ne⟩
theorem BL.drew {w : World} {g : Nat} {L : List BE} (h : BL w g L) : BL w.drew g L := keepBL (Below.refl _ _).drew h
theorem BL.alloc {w : World} {g : Nat} {L : List BE} (h : BL w g L) (o : Obj) : BL (w.alloc o) g L := keepBL ((Below.refl _ _).alloc (Nat.le_refl _) _) h

theorem BL.set {w : World} {g : Nat} {L : List BE} (h : BL w g L) {k : Nat} (hk : k < L.length) (x : BE) (hs : Sl w x.A x.n x.c x.l) (hn : ∀ bx off, x.A = some ⟨bx, off, none⟩ → bx ≠ g) : BL (setBo w g (k * 13) x.b x.A x.n x.c) g (L.set k x) := by
  have hgr := setBo_grown w g (k * 13) x.b x.A x.n x.c
  refine ⟨⟨Nat.lt_of_lt_of_le h.cl.lt hgr.size, fun j hj i v hv => ?_⟩, fun j => by rw [setBo_free]; exact h.free j, fun y hy => ?_, fun y hy => ?_⟩
  · have hj' : j < L.length := by simpa using hj
    by_cases e : j = k
    · subst e
      have hv : (encB x)[i]? = some v := by have hv2 : (encB (L.set j x)[j])[i]? = some v := hv; rwa [List.getElem_set_self] at hv2
      have := setBo_at (w := w) (g := g) (o := j * 13) x (fun i hi => by
        have hlen : (encB L[j]).length = 13 := rfl
        exact ⟨_, by have := h.cl.at_ j hj' i ((encB L[j])[i]'(by omega)) (List.getElem?_eq_getElem _); rw [Nat.zero_add] at this; exact this⟩) i v hv
      show (setBo w g (j * 13) x.b x.A x.n x.c).cell? ⟨g, 0 + j * 13 + i, none⟩ = some v
      rw [Nat.zero_add]
      exact this
    · have hv : (encB L[j])[i]? = some v := by have hv2 : (encB (L.set k x)[j])[i]? = some v := hv; rwa [List.getElem_set_ne (by omega)] at hv2
      have hi : i < 13 := by
        have hlen : (encB L[j]).length = 13 := rfl
        rcases Nat.lt_or_ge i 13 with q | q
        · exact q
        · rw [List.getElem?_eq_none (by omega)] at hv; cases hv
      have := h.cl.at_ j hj' i v hv
      have this : w.cell? ⟨g, 0 + j * 13 + i, none⟩ = some v := this
      show (setBo w g (k * 13) x.b x.A x.n x.c).cell? ⟨g, 0 + j * 13 + i, none⟩ = some v
      exact setBo_ne this (by omega)
  · rcases List.mem_or_eq_of_mem_set hy with q | rfl
    · exact (h.co y q).grown hgr (h.ne y q)
    · exact hs.grown hgr hn
  · rcases List.mem_or_eq_of_mem_set hy with q | rfl
    · exact h.ne y q
    · exact hn
end
end Go.Proofs.Ytbajmekmpgfpeaa
