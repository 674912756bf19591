/- Parts of a proof: contracts and laws. -/
import Derived.Test.YtkiiehobphkmgaaPZ18
namespace Go.Proofs.Ytkiiehobphkmgaa
section
set_option linter.unusedVariables false
set_option linter.unusedSimpArgs false
open Go.RowKit
theorem cell_set_ne {w : World} {g o o' : Nat} {v u : Value} (h : w.cell? ⟨g, o', none⟩ = some u) (hne : o ≠ o') : (w.setCell ⟨g, o, none⟩ v).cell? ⟨g, o', none⟩ = some u := by
  have n1 : ¬ o = o' := hne
  have n2 : ¬ o' = o := fun e => hne e.symm
  go_simp
theorem cell_set_eq {w : World} {g o : Nat} {v u : Value} (h : w.cell? ⟨g, o, none⟩ = some u) : (w.setCell ⟨g, o, none⟩ v).cell? ⟨g, o, none⟩ = some v := by go_simp

def setBo (w : World) (g o : Nat) (b : Bd) (A : Option Addr) (n c : Nat) : World := (((((((((((((w.setCell ⟨g, o, none⟩ (.int .i64 b.px)).setCell ⟨g, o + 1, none⟩ (.int .i64 b.py)).setCell ⟨g, o + 2, none⟩ (.int .i64 b.vx)).setCell ⟨g, o + 3, none⟩ (.int .i64 b.vy)).setCell ⟨g, o + 4, none⟩ (.int .i64 b.ang)).setCell ⟨g, o + 5, none⟩ (.int .i64 b.spin)).setCell ⟨g, o + 6, none⟩ (.int .i64 b.mass)).setCell ⟨g, o + 7, none⟩ (.int .i64 b.iner)).setCell ⟨g, o + 8, none⟩ (.int .i64 b.bounce)).setCell ⟨g, o + 9, none⟩ (.int .i64 b.rub)).setCell ⟨g, o + 10, none⟩ (.slice A n c)).setCell ⟨g, o + 11, none⟩ (.bool b.asleep)).setCell ⟨g, o + 12, none⟩ (.int .i64 b.calm))
theorem setBo_ne {w : World} {g o o' : Nat} {u : Value} {b : Bd} {A : Option Addr} {n c : Nat} (h : w.cell? ⟨g, o', none⟩ = some u) (hne : o' < o ∨ o + 13 ≤ o') : (setBo w g o b A n c).cell? ⟨g, o', none⟩ = some u := by
  unfold setBo
  iterate 13 refine cell_set_ne ?_ (by omega)
  exact h
theorem setBo_at {w : World} {g o : Nat} (x : BE) (hz : ∀ i, i < 13 → ∃ u, w.cell? ⟨g, o + i, none⟩ = some u) : ∀ (i : Nat) (v : Value), (encB x)[i]? = some v → (setBo w g o x.b x.A x.n x.c).cell? ⟨g, o + i, none⟩ = some v := fun i v hv0 => by
  have hv : (encB x)[i]? = some v := hv0
  unfold encB at hv
  revert hv
  exact match i with
  | 0 => fun hv => by
    have e : some _ = some v := hv
    cases e
    obtain ⟨u, hu⟩ := hz 0 (by omega)
    unfold setBo
    simp only [Nat.add_zero] at hu ⊢
    iterate 12 refine cell_set_ne ?_ (by omega)
    refine cell_set_eq (u := u) ?_
    exact hu
  | 1 => fun hv => by
    have e : some _ = some v := hv
    cases e
    obtain ⟨u, hu⟩ := hz 1 (by omega)
    unfold setBo
    iterate 11 refine cell_set_ne ?_ (by omega)
    refine cell_set_eq (u := u) ?_
    iterate 1 refine cell_set_ne ?_ (by omega)
    exact hu
  | 2 => fun hv => by
    have e : some _ = some v := hv
    cases e
    obtain ⟨u, hu⟩ := hz 2 (by omega)
    unfold setBo
    iterate 10 refine cell_set_ne ?_ (by omega)
    refine cell_set_eq (u := u) ?_
    iterate 2 refine cell_set_ne ?_ (by omega)
    exact hu
  | 3 => fun hv => by
    have e : some _ = some v := hv
    cases e
    obtain ⟨u, hu⟩ := hz 3 (by omega)
    unfold setBo
    iterate 9 refine cell_set_ne ?_ (by omega)
    refine cell_set_eq (u := u) ?_
    iterate 3 refine cell_set_ne ?_ (by omega)
    exact hu
  | 4 => fun hv => by
    have e : some _ = some v := hv
    cases e
    obtain ⟨u, hu⟩ := hz 4 (by omega)
    unfold setBo
    iterate 8 refine cell_set_ne ?_ (by omega)
    refine cell_set_eq (u := u) ?_
    iterate 4 refine cell_set_ne ?_ (by omega)
    exact hu
  | 5 => fun hv => by
    have e : some _ = some v := hv
    cases e
    obtain ⟨u, hu⟩ := hz 5 (by omega)
    unfold setBo
    iterate 7 refine cell_set_ne ?_ (by omega)
    refine cell_set_eq (u := u) ?_
    iterate 5 refine cell_set_ne ?_ (by omega)
    exact hu
  | 6 => fun hv => by
    have e : some _ = some v := hv
    cases e
    obtain ⟨u, hu⟩ := hz 6 (by omega)
    unfold setBo
    iterate 6 refine cell_set_ne ?_ (by omega)
    refine cell_set_eq (u := u) ?_
    iterate 6 refine cell_set_ne ?_ (by omega)
    exact hu
  | 7 => fun hv => by
    have e : some _ = some v := hv
    cases e
    obtain ⟨u, hu⟩ := hz 7 (by omega)
    unfold setBo
    iterate 5 refine cell_set_ne ?_ (by omega)
    refine cell_set_eq (u := u) ?_
    iterate 7 refine cell_set_ne ?_ (by omega)
    exact hu
  | 8 => fun hv => by
    have e : some _ = some v := hv
    cases e
    obtain ⟨u, hu⟩ := hz 8 (by omega)
    unfold setBo
    iterate 4 refine cell_set_ne ?_ (by omega)
    refine cell_set_eq (u := u) ?_
    iterate 8 refine cell_set_ne ?_ (by omega)
    exact hu
  | 9 => fun hv => by
    have e : some _ = some v := hv
    cases e
    obtain ⟨u, hu⟩ := hz 9 (by omega)
    unfold setBo
    iterate 3 refine cell_set_ne ?_ (by omega)
    refine cell_set_eq (u := u) ?_
    iterate 9 refine cell_set_ne ?_ (by omega)
    exact hu
  | 10 => fun hv => by
    have e : some _ = some v := hv
    cases e
    obtain ⟨u, hu⟩ := hz 10 (by omega)
    unfold setBo
    iterate 2 refine cell_set_ne ?_ (by omega)
    refine cell_set_eq (u := u) ?_
    iterate 10 refine cell_set_ne ?_ (by omega)
    exact hu
  | 11 => fun hv => by
    have e : some _ = some v := hv
    cases e
    obtain ⟨u, hu⟩ := hz 11 (by omega)
    unfold setBo
    iterate 1 refine cell_set_ne ?_ (by omega)
    refine cell_set_eq (u := u) ?_
    iterate 11 refine cell_set_ne ?_ (by omega)
    exact hu
  | 12 => fun hv => by
    have e : some _ = some v := hv
    cases e
    obtain ⟨u, hu⟩ := hz 12 (by omega)
    unfold setBo
    refine cell_set_eq (u := u) ?_
    iterate 12 refine cell_set_ne ?_ (by omega)
    exact hu
  | i + 13 => fun hv => by simp at hv
theorem setBo_grown (w : World) (g o : Nat) (b : Bd) (A : Option Addr) (n c : Nat) : w.grownBy (setBo w g o b A n c) (some g) := by
  unfold setBo
  iterate 12 refine grown_trans ?_ (grown_setCell _ g _ _)
  exact grown_setCell _ g _ _
theorem setBo_free {w : World} {g o g' j : Nat} {b : Bd} {A : Option Addr} {n c : Nat} : (setBo w g o b A n c).frozen? ⟨g', j, none⟩ = w.frozen? ⟨g', j, none⟩ := by
  unfold setBo
  iterate 13 rw [World.frozen?_setCell]

structure BL (w : World) (g : Nat) (L : List BE) : Prop where
  cl : CellsE layB w g 0 L
  free : ∀ j, w.frozen? ⟨g, j, none⟩ = false
  co : ∀ x ∈ L, Sl w x.A x.n x.c x.l
  ne : ∀ x ∈ L, ∀ bx off, x.A = some ⟨bx, off, none⟩ → bx ≠ g
theorem keepBL {w w' : World} {g : Nat} {L : List BE} (hb : Below w.heap.size w w') (h : BL w g L) : BL w' g L :=
  ⟨h.cl.below hb, fun j => ((bcell hb).2 _ _ h.cl.lt).trans (h.free j), fun x hx => (h.co x hx).below hb, h.ne⟩
theorem BL.drew {w : World} {g : Nat} {L : List BE} (h : BL w g L) : BL w.drew g L := keepBL (Below.refl _ _).drew h
theorem BL.alloc {w : World} {g : Nat} {L : List BE} (h : BL w g L) (o : Obj) : BL (w.alloc o) g L := keepBL ((Below.refl _ _).alloc (Nat.le_refl _) _) h

theorem BL.set {w : World} {g : Nat} {L : List BE} (h : BL w g L) {k : Nat} (hk : k < L.length) (x : BE) (hs : Sl w x.A x.n x.c x.l) (hn : ∀ bx off, x.A = some ⟨bx, off, none⟩ → bx ≠ g) : BL (setBo w g (k * 13) x.b x.A x.n x.c) g (L.set k x) := by
  have hgr := setBo_grown w g (k * 13) x.b x.A x.n x.c
  refine ⟨⟨Nat.lt_of_lt_of_le h.cl.lt hgr.size, fun j hj i v hv => ?_⟩, fun j => by rw [setBo_free]; exact h.free j, fun y hy => ?_, fun y hy => ?_⟩
  · have hj' : j < L.length := by simpa using hj
    by_cases e : j = k
    · subst e
      have hv : (encB x)[i]? = some v := by have hv2 : (encB (L.set j x)[j])[i]? = some v := hv; rwa [List.getElem_set_self] at hv2
      have := setBo_at (w := w) (g := g) (o := j * 13) x (fun i hi => by
        have hlen : (encB L[j]).length = 13 := rfl
        exact ⟨_, by have := h.cl.at_ j hj' i ((encB L[j])[i]'(by omega)) (List.getElem?_eq_getElem _); rw [Nat.zero_add] at this; exact this⟩) i v hv
      show (setBo w g (j * 13) x.b x.A x.n x.c).cell? ⟨g, 0 + j * 13 + i, none⟩ = some v
      rw [Nat.zero_add]
      exact this
    · have hv : (encB L[j])[i]? = some v := by have hv2 : (encB (L.set k x)[j])[i]? = some v := hv; rwa [List.getElem_set_ne (by omega)] at hv2
      have hi : i < 13 := by
        have hlen : (encB L[j]).length = 13 := rfl
        rcases Nat.lt_or_ge i 13 with q | q
        · exact q
        · rw [List.getElem?_eq_none (by omega)] at hv; cases hv
      have := h.cl.at_ j hj' i v hv
      have this : w.cell? ⟨g, 0 + j * 13 + i, none⟩ = some v := this
      show (setBo w g (k * 13) x.b x.A x.n x.c).cell? ⟨g, 0 + j * 13 + i, none⟩ = some v
      exact setBo_ne this (by omega)
  · rcases List.mem_or_eq_of_mem_set hy with q | rfl
    · exact (h.co y q).grown hgr (h.ne y q)
    · exact hs.grown hgr hn
  · rcases List.mem_or_eq_of_mem_set hy with q | rfl
    · exact h.ne y q
    · exact hn
end
end Go.Proofs.Ytkiiehobphkmgaa
