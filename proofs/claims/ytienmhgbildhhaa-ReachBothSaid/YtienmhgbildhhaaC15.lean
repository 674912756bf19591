/- Parts of a proof: contracts and laws. -/
import Derived.Test.YtienmhgbildhhaaC11
import Derived.Maps.AppendAt
import Derived.Shelf.SlSortCmp.InsertionK
import Derived.Shelf.SlSortCmp.Kit1
namespace Go.Proofs.Ytienmhgbildhhaa
section
set_option linter.unusedVariables false
set_option linter.unusedSimpArgs false
open Go.RowKit Go.Sort

structure Lay (α : Type) where
  enc : α → List Value
  k : Nat
  hk : ∀ x, (enc x).length = k
  one : ∀ x, ∀ v ∈ enc x, v.oneCell' = true
  pos : 0 < k
section
variable {α : Type} {L : Lay α}
structure CellsE (L : Lay α) (w : World) (b off : Nat) (l : List α) : Prop where
  lt : b < w.heap.size
  at_ : ∀ j (hj : j < l.length) i v, (L.enc l[j])[i]? = some v → w.cell? ⟨b, off + j * L.k + i, none⟩ = some v
structure SlE (L : Lay α) (w : World) (A : Option Addr) (n c : Nat) (l : List α) : Prop where
  len : n = l.length
  cap : n ≤ c
  big : c ≤ 9223372036854775807
  at_ : l ≠ [] → ∃ b off, A = some ⟨b, off, none⟩ ∧ CellsE L w b off l
theorem CellsE.below {w w' : World} {b off : Nat} {l : List α} (hb : Below w.heap.size w w') (h : CellsE L w b off l) : CellsE L w' b off l :=
  ⟨Nat.lt_of_lt_of_le h.lt hb.size, fun j hj i v hv => keepCell hb (h.at_ j hj i v hv)⟩
theorem SlE.below {w w' : World} {A : Option Addr} {n c : Nat} {l : List α} (h : SlE L w A n c l) (hb : Below w.heap.size w w') : SlE L w' A n c l :=
  ⟨h.len, h.cap, h.big, fun hl => by obtain ⟨b, off, e, hc⟩ := h.at_ hl; exact ⟨b, off, e, hc.below hb⟩⟩
theorem SlE.alloc {w : World} {A : Option Addr} {n c : Nat} {l : List α} (h : SlE L w A n c l) (o : Obj) : SlE L (w.alloc o) A n c l := h.below ((Below.refl _ _).alloc (Nat.le_refl _) _)
theorem SlE.drew {w : World} {A : Option Addr} {n c : Nat} {l : List α} (h : SlE L w A n c l) : SlE L w.drew A n c l := h.below (Below.refl _ _).drew
theorem SlE.nil (L : Lay α) (w : World) : SlE L w none 0 0 [] := ⟨rfl, Nat.le_refl _, by omega, fun h => absurd rfl h⟩
def flatE (L : Lay α) (l : List α) : List Value := l.flatMap L.enc
theorem flatE_len (l : List α) : (flatE L l).length = l.length * L.k := by
  induction l with
  | nil => simp [flatE]
  | cons x l ih => unfold flatE at *; rw [List.flatMap_cons, List.length_append, L.hk, ih, List.length_cons, Nat.add_mul]; omega
theorem flatE_at (l : List α) (j : Nat) (hj : j < l.length) (i : Nat) (v : Value) (h : (L.enc l[j])[i]? = some v) : (flatE L l)[j * L.k + i]? = some v := by
  induction l generalizing j with
  | nil => simp at hj
  | cons x l ih =>
    unfold flatE at *
    rw [List.flatMap_cons]
    cases j with
    | zero =>
      have hi : i < (L.enc x).length := by
        rcases Nat.lt_or_ge i (L.enc x).length with g | g
        · exact g
        · rw [List.getElem_cons_zero, List.getElem?_eq_none g] at h; cases h
      rw [Nat.zero_mul, Nat.zero_add, List.getElem?_append_left hi]
      exact h
    | succ j =>
      rw [List.getElem?_append_right (by rw [L.hk, Nat.add_mul]; omega), L.hk, show (j + 1) * L.k + i - L.k = j * L.k + i by rw [Nat.add_mul]; omega]
      exact ih j (by simpa using hj) (by simpa using h)
theorem flatE_get (l : List α) (t : Nat) (ht : t < l.length * L.k) : ∃ (j i : Nat) (hj : j < l.length), i < L.k ∧ t = j * L.k + i ∧ (flatE L l)[t]? = (L.enc l[j])[i]? := by
  have hp := L.pos
  have hj : t / L.k < l.length := (Nat.div_lt_iff_lt_mul hp).2 ht
  have hi : t % L.k < L.k := Nat.mod_lt _ hp
  have e : t = t / L.k * L.k + t % L.k := (Nat.div_add_mod' t L.k).symm
  refine ⟨t / L.k, t % L.k, hj, hi, e, ?_⟩
  have hv : (L.enc l[t / L.k])[t % L.k]? = some ((L.enc l[t / L.k])[t % L.k]'(by rw [L.hk]; exact hi)) := List.getElem?_eq_getElem _
  have := flatE_at l (t / L.k) hj (t % L.k) _ hv
  rw [← e] at this
  rw [this, hv]
theorem flatE_flatK [Inhabited α] (d : Array α) : (flatK L.enc L.k d).toList = flatE L d.toList := by
  apply List.ext_getElem?
  intro t
  rcases Nat.lt_or_ge t (d.size * L.k) with ht | ht
  · obtain ⟨j, i, hj, hi, e, h⟩ := flatE_get (L := L) d.toList t (by simpa using ht)
    rw [h]
    have hp := L.pos
    have hjd : j < d.size := by simpa using hj
    have e1 : t / L.k = j := by rw [e, Nat.mul_comm, Nat.mul_add_div hp, Nat.div_eq_of_lt hi, Nat.add_zero]
    have e2 : t % L.k = i := by rw [e, Nat.mul_comm, Nat.mul_add_mod, Nat.mod_eq_of_lt hi]
    have g := get_flatK L.enc L.k d t ht
    rw [e1, e2, getElem!_pos _ _ (by simpa using ht), getElem!_pos d j hjd, getElem!_pos _ i (by rw [L.hk]; exact hi)] at g
    rw [Array.getElem?_toList, Array.getElem?_eq_getElem (by simpa using ht), g, List.getElem?_eq_getElem (by rw [L.hk]; exact hi)]
    simp
  · rw [List.getElem?_eq_none (by simpa using ht), List.getElem?_eq_none (by rw [flatE_len]; simpa using ht)]

def OwnE (L : Lay α) (e : TypeId) (w : World) (B : Nat) (v : Value) (l : List α) : Prop := w.ownsRow B e L.k v l.length (flatE L l)
variable {e : TypeId}
theorem OwnE.nil (L : Lay α) (e : TypeId) (w : World) (B : Nat) : OwnE L e w B (.slice none 0 0) [] := World.ownsRow_nil _ _ _ _
theorem OwnE.kept {w w' : World} {B : Nat} {v : Value} {l : List α} {row : Option Nat} (h : OwnE L e w B v l) (hg : w.grownBy w' row) (hr : v.ownBlock = none ∨ v.ownBlock ≠ row) : OwnE L e w' B v l := World.ownsRow.kept h hg hr
theorem OwnE.below {w w' : World} {B : Nat} {v : Value} {l : List α} (h : OwnE L e w B v l) (hb : Below w.heap.size w w') : OwnE L e w' B v l :=
  h.kept (grown_of_below (row := none) hb) (by cases hv : v.ownBlock with | none => exact .inl rfl | some k => exact .inr (by simp))
theorem OwnE.alloc {w : World} {B : Nat} {v : Value} {l : List α} (h : OwnE L e w B v l) (o : Obj) : OwnE L e (w.alloc o) B v l := World.ownsRow.alloc h o
theorem OwnE.drew {w : World} {B : Nat} {v : Value} {l : List α} (h : OwnE L e w B v l) : OwnE L e w.drew B v l := h
theorem OwnE.lt {w : World} {B : Nat} {v : Value} {l : List α} (h : OwnE L e w B v l) {k : Nat} (hk : v.ownBlock = some k) : B ≤ k ∧ k < w.heap.size := World.ownsRow.lt h k hk
theorem OwnE.off {w : World} {B g : Nat} {s : Value} {l : List α} (h : OwnE L e w B s l) (hne : ∀ k, s.ownBlock = some k → k ≠ g) (o : Nat) (u : Value) : OwnE L e (w.setCell ⟨g, o, none⟩ u) B s l := by
  refine h.kept (grown_setCell _ g o _) ?_
  cases hv : s.ownBlock with
  | none => exact .inl rfl
  | some k => exact .inr fun e => by cases e; exact hne _ hv rfl
theorem OwnE.grown {w w' : World} {B : Nat} {v : Value} {l : List α} (h : OwnE L e w B v l) (hg : w.grownBy w' v.ownBlock) (hB : B ≤ w.heap.size) : Below B w w' :=
  (Below.refl B w).grown hg hB (fun k hk => (World.ownsRow.lt h k hk).1)
theorem OwnE.mono {w : World} {B B' : Nat} {v : Value} {l : List α} (h : OwnE L e w B v l) (hB : B' ≤ B) : OwnE L e w B' v l := by
  obtain ⟨h1, h2 | ⟨g, cap, cur, hv, hb, rest⟩⟩ := h
  · exact ⟨h1, .inl h2⟩
  · exact ⟨h1, .inr ⟨g, cap, cur, hv, Nat.le_trans hB hb, rest⟩⟩

theorem OwnE.form {w : World} {B : Nat} {v : Value} {l : List α} (h : OwnE L e w B v l) : (v = .slice none 0 0 ∧ l = []) ∨ ∃ g cap, v = .slice (some ⟨g, 0, none⟩) l.length cap ∧ B ≤ g ∧ g < w.heap.size ∧ l.length ≤ cap ∧ cap ≤ maxLen ∧ (∀ j, w.frozen? ⟨g, j, none⟩ = false) ∧ CellsE L w g 0 l := by
  have hc := fun g hg => World.ownsRow.cells h (g := g) hg
  obtain ⟨h1, h2 | ⟨g, cap, cur, rfl, hb, hg, hn, hm, hs, ht⟩⟩ := h
  · exact .inl ⟨h2.1, List.length_eq_zero_iff.1 h2.2⟩
  · have hlt := (Array.getElem?_eq_some_iff.1 hg).1
    refine .inr ⟨g, cap, rfl, hb, hlt, hn, hm, fun j => by simp [World.frozen?, hg], hlt, fun j hj i v hv => ?_⟩
    have := hc g rfl (j * L.k + i) v (flatE_at l j hj i v hv)
    have hadd : (⟨g, 0, none⟩ : Addr).add (j * L.k + i) = ⟨g, 0 + j * L.k + i, none⟩ := by unfold Addr.add; split <;> simp_all <;> omega
    rwa [hadd] at this
theorem OwnE.sl {w : World} {B : Nat} {v : Value} {l : List α} (h : OwnE L e w B v l) : ∃ A n c, v = .slice A n c ∧ SlE L w A n c l ∧ ∀ b off, A = some ⟨b, off, none⟩ → B ≤ b := by
  rcases h.form with ⟨rfl, rfl⟩ | ⟨g, cap, rfl, hB, hg, hn, hm, -, hc⟩
  · exact ⟨none, 0, 0, rfl, SlE.nil L w, by simp⟩
  · exact ⟨_, _, _, rfl, ⟨rfl, hn, by unfold maxLen at hm; omega, fun _ => ⟨g, 0, rfl, hc⟩⟩, fun b off e => by cases e; exact hB⟩



theorem OwnE.holds [Inhabited α] {w : World} {B g n cap : Nat} {l : List α} (h : OwnE L e w B (.slice (some ⟨g, 0, none⟩) n cap) l) : HoldsK L.enc L.k w g 0 l.toArray := by
  rcases h.form with ⟨h1, -⟩ | ⟨g', cap', hv, -, -, -, -, hf, hc⟩
  · cases h1
  · cases hv
    intro t ht
    rw [size_flatK] at ht
    simp only [List.size_toArray] at ht
    refine ⟨?_, hf _⟩
    obtain ⟨j, i, hj, hi, et, h2⟩ := flatE_get (L := L) l t ht
    have hp := L.pos
    have e1 : t / L.k = j := by rw [et, Nat.mul_comm, Nat.mul_add_div hp, Nat.div_eq_of_lt hi, Nat.add_zero]
    have e2 : t % L.k = i := by rw [et, Nat.mul_comm, Nat.mul_add_mod, Nat.mod_eq_of_lt hi]
    have g1 := get_flatK L.enc L.k l.toArray t (by simpa using ht)
    rw [e1, e2] at g1
    rw [g1]
    have hg : (L.enc l[j])[i]? = some ((L.enc l[j])[i]'(by rw [L.hk]; exact hi)) := List.getElem?_eq_getElem _
    have := hc.at_ j hj i _ hg
    rw [show (0 : Nat) + j * L.k + i = 0 + t by omega] at this
    rw [this]
    have hj2 : l.toArray[j]! = l[j] := by rw [getElem!_pos _ _ (by simpa using hj)]; simp
    rw [hj2, getElem!_pos _ i (by rw [L.hk]; exact hi)]
    rfl
theorem heap_sortedK [Inhabited α] {w : World} {g n : Nat} {os : Array Obj} {cur : Array Value} {fr : Nat × Nat} (d : Array α) (hb : w.heap[g]? = some (.cells cur e fr)) :
    (sortWorldK L.enc L.k w g 0 n d os).heap[g]? = some (.cells (putCells id 0 (flatK L.enc L.k d) cur) e fr) := by
  have hg : g < w.heap.size := (Array.getElem?_eq_some_iff.1 hb).1
  unfold sortWorldK putRowK
  rw [heap_grow_old _ _ (by simpa [putRow, mapBlock, Sort.ahead] using hg)]
  simp [putRow, mapBlock, Sort.ahead, Array.getElem?_modify, hb, onCells]
theorem take_putCellsK (cur : Array Value) (F : Array Value) (h : F.size ≤ cur.size) : (putCells id 0 F cur).toList.take F.size = F.toList := by
  apply List.ext_getElem?
  intro j
  by_cases hj : j < F.size
  · rw [List.getElem?_take_of_lt hj, Array.getElem?_toList]
    simp [putCells, hj, show j < cur.size by omega]
  · rw [List.getElem?_take_eq_none (by omega), List.getElem?_eq_none (by simp; omega)]

theorem OwnE.sorted [Inhabited α] {w : World} {B g n cap m : Nat} {os : Array Obj} {l : List α} (h : OwnE L e w B (.slice (some ⟨g, 0, none⟩) n cap) l) (d : Array α) (hs : d.size = l.length) :
    OwnE L e (sortWorldK L.enc L.k w g 0 m d os) B (.slice (some ⟨g, 0, none⟩) n cap) d.toList := by
  obtain ⟨h1, ⟨h2, -⟩ | ⟨g', cap', cur, hv, hb, hg, hn, hm, hsz, ht⟩⟩ := h
  · cases h2
  · cases hv
    refine ⟨by rw [flatE_len], .inr ⟨g, cap, _, by simp [hs], hb, heap_sortedK d hg, by rw [Array.length_toList, hs]; exact hn, hm, by simp [putCells, hsz], ?_⟩⟩
    have e1 : d.toList.length * L.k = (flatK L.enc L.k d).size := by simp
    rw [e1, take_putCellsK _ _ (by rw [size_flatK, hs, hsz]; exact Nat.mul_le_mul_right _ hn), flatE_flatK]
end

end
end Go.Proofs.Ytienmhgbildhhaa
