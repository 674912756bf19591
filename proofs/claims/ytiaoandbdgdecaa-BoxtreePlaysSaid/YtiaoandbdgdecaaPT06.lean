/- Parts of a proof: contracts and laws. -/
import Derived.Test.YtiaoandbdgdecaaPT05
import Derived.Maps.AppendAt
namespace Go.Proofs.Ytiaoandbdgdecaa
section
set_option linter.unusedVariables false
set_option linter.unusedSimpArgs false
open Go.RowKit

structure Lay (α : Type) where
  enc : α → List Value
  k : Nat
  hk : ∀ x, (enc x).length = k
  one : ∀ x, ∀ v ∈ enc x, v.oneCell' = true
  pos : 0 < k
section
variable {α : Type} {L : Lay α}
structure CellsE (L : Lay α) (w : World) (b off : Nat) (l : List α) : Prop where
  lt : b < w.heap.size
  at_ : ∀ j (hj : j < l.length) i v, (L.enc l[j])[i]? = some v → w.cell? ⟨b, off + j * L.k + i, none⟩ = some v
structure SlE (L : Lay α) (w : World) (A : Option Addr) (n c : Nat) (l : List α) : Prop where
  len : n = l.length
  cap : n ≤ c
  big : c ≤ 9223372036854775807
  at_ : l ≠ [] → ∃ b off, A = some ⟨b, off, none⟩ ∧ CellsE L w b off l
theorem CellsE.below {w w' : World} {b off : Nat} {l : List α} (hb : Below w.heap.size w w') (h : CellsE L w b off l) : CellsE L w' b off l :=
  ⟨Nat.lt_of_lt_of_le h.lt hb.size, fun j hj i v hv => keepCell hb (h.at_ j hj i v hv)⟩
theorem SlE.below {w w' : World} {A : Option Addr} {n c : Nat} {l : List α} (h : SlE L w A n c l) (hb : Below w.heap.size w w') : SlE L w' A n c l :=
  ⟨h.len, h.cap, h.big, fun hl => by obtain ⟨b, off, e, hc⟩ := h.at_ hl; exact ⟨b, off, e, hc.below hb⟩⟩
theorem SlE.alloc {w : World} {A : Option Addr} {n c : Nat} {l : List α} (h : SlE L w A n c l) (o : Obj) : SlE L (w.alloc o) A n c l := h.below ((Below.refl _ _).alloc (Nat.le_refl _) _)
theorem SlE.drew {w : World} {A : Option Addr} {n c : Nat} {l : List α} (h : SlE L w A n c l) : SlE L w.drew A n c l := h.below (Below.refl _ _).drew
theorem SlE.nil (L : Lay α) (w : World) : SlE L w none 0 0 [] := ⟨rfl, Nat.le_refl _, by omega, fun h => absurd rfl h⟩
def flatE (L : Lay α) (l : List α) : List Value := l.flatMap L.enc
theorem flatE_len (l : List α) : (flatE L l).length = l.length * L.k := by
  induction l with
  | nil => simp [flatE]
  | cons x l ih => unfold flatE at *; rw [List.flatMap_cons, List.length_append, L.hk, ih, List.length_cons, Nat.add_mul]; omega
theorem flatE_append (l m : List α) : flatE L (l ++ m) = flatE L l ++ flatE L m := List.flatMap_append
theorem flatE_at (l : List α) (j : Nat) (hj : j < l.length) (i : Nat) (v : Value) (h : (L.enc l[j])[i]? = some v) : (flatE L l)[j * L.k + i]? = some v := by
  induction l generalizing j with
  | nil => simp at hj
  | cons x l ih =>
    unfold flatE at *
    rw [List.flatMap_cons]
    cases j with
    | zero =>
      have hi : i < (L.enc x).length := by
        rcases Nat.lt_or_ge i (L.enc x).length with g | g
        · exact g
        · rw [List.getElem_cons_zero, List.getElem?_eq_none g] at h; cases h
      rw [Nat.zero_mul, Nat.zero_add, List.getElem?_append_left hi]
      exact h
    | succ j =>
      rw [List.getElem?_append_right (by rw [L.hk, Nat.add_mul]; omega), L.hk, show (j + 1) * L.k + i - L.k = j * L.k + i by rw [Nat.add_mul]; omega]
      exact ih j (by simpa using hj) (by simpa using h)
theorem flatE_one (l : List α) : ∀ u ∈ flatE L l, u.oneCell' = true := fun u hu => by
  obtain ⟨x, hx, h⟩ := List.mem_flatMap.1 hu
  exact L.one x u h
theorem flatE_get (l : List α) (t : Nat) (ht : t < l.length * L.k) : ∃ (j i : Nat) (hj : j < l.length), i < L.k ∧ t = j * L.k + i ∧ (flatE L l)[t]? = (L.enc l[j])[i]? := by
  have hp := L.pos
  have hj : t / L.k < l.length := (Nat.div_lt_iff_lt_mul hp).2 ht
  have hi : t % L.k < L.k := Nat.mod_lt _ hp
  have e : t = t / L.k * L.k + t % L.k := (Nat.div_add_mod' t L.k).symm
  refine ⟨t / L.k, t % L.k, hj, hi, e, ?_⟩
  have hv : (L.enc l[t / L.k])[t % L.k]? = some ((L.enc l[t / L.k])[t % L.k]'(by rw [L.hk]; exact hi)) := List.getElem?_eq_getElem _
  have := flatE_at l (t / L.k) hj (t % L.k) _ hv
  rw [← e] at this
  rw [this, hv]

def OwnE (L : Lay α) (e : TypeId) (w : World) (B : Nat) (v : Value) (l : List α) : Prop := w.ownsRow B e L.k v l.length (flatE L l)
variable {e : TypeId}
theorem OwnE.nil (L : Lay α) (e : TypeId) (w : World) (B : Nat) : OwnE L e w B (.slice none 0 0) [] := World.ownsRow_nil _ _ _ _
theorem OwnE.kept {w w' : World} {B : Nat} {v : Value} {l : List α} {row : Option Nat} (h : OwnE L e w B v l) (hg : w.grownBy w' row) (hr : v.ownBlock = none ∨ v.ownBlock ≠ row) : OwnE L e w' B v l := World.ownsRow.kept h hg hr
theorem OwnE.below {w w' : World} {B : Nat} {v : Value} {l : List α} (h : OwnE L e w B v l) (hb : Below w.heap.size w w') : OwnE L e w' B v l :=
  h.kept (grown_of_below (row := none) hb) (by cases hv : v.ownBlock with | none => exact .inl rfl | some k => exact .inr (by simp))
theorem OwnE.alloc {w : World} {B : Nat} {v : Value} {l : List α} (h : OwnE L e w B v l) (o : Obj) : OwnE L e (w.alloc o) B v l := World.ownsRow.alloc h o
theorem OwnE.drew {w : World} {B : Nat} {v : Value} {l : List α} (h : OwnE L e w B v l) : OwnE L e w.drew B v l := h
theorem OwnE.lt {w : World} {B : Nat} {v : Value} {l : List α} (h : OwnE L e w B v l) {k : Nat} (hk : v.ownBlock = some k) : B ≤ k ∧ k < w.heap.size := World.ownsRow.lt h k hk
theorem OwnE.off {w : World} {B g : Nat} {s : Value} {l : List α} (h : OwnE L e w B s l) (hne : ∀ k, s.ownBlock = some k → k ≠ g) (o : Nat) (u : Value) : OwnE L e (w.setCell ⟨g, o, none⟩ u) B s l := by
  refine h.kept (grown_setCell _ g o _) ?_
  cases hv : s.ownBlock with
  | none => exact .inl rfl
  | some k => exact .inr fun e => by cases e; exact hne _ hv rfl
theorem OwnE.grown {w w' : World} {B : Nat} {v : Value} {l : List α} (h : OwnE L e w B v l) (hg : w.grownBy w' v.ownBlock) (hB : B ≤ w.heap.size) : Below B w w' :=
  (Below.refl B w).grown hg hB (fun k hk => (World.ownsRow.lt h k hk).1)
theorem OwnE.mono {w : World} {B B' : Nat} {v : Value} {l : List α} (h : OwnE L e w B v l) (hB : B' ≤ B) : OwnE L e w B' v l := by
  obtain ⟨h1, h2 | ⟨g, cap, cur, hv, hb, rest⟩⟩ := h
  · exact ⟨h1, .inl h2⟩
  · exact ⟨h1, .inr ⟨g, cap, cur, hv, Nat.le_trans hB hb, rest⟩⟩

theorem OwnE.form {w : World} {B : Nat} {v : Value} {l : List α} (h : OwnE L e w B v l) : (v = .slice none 0 0 ∧ l = []) ∨ ∃ g cap, v = .slice (some ⟨g, 0, none⟩) l.length cap ∧ B ≤ g ∧ g < w.heap.size ∧ l.length ≤ cap ∧ cap ≤ maxLen ∧ (∀ j, w.frozen? ⟨g, j, none⟩ = false) ∧ CellsE L w g 0 l := by
  have hc := fun g hg => World.ownsRow.cells h (g := g) hg
  obtain ⟨h1, h2 | ⟨g, cap, cur, rfl, hb, hg, hn, hm, hs, ht⟩⟩ := h
  · exact .inl ⟨h2.1, List.length_eq_zero_iff.1 h2.2⟩
  · have hlt := (Array.getElem?_eq_some_iff.1 hg).1
    refine .inr ⟨g, cap, rfl, hb, hlt, hn, hm, fun j => by simp [World.frozen?, hg], hlt, fun j hj i v hv => ?_⟩
    have := hc g rfl (j * L.k + i) v (flatE_at l j hj i v hv)
    have hadd : (⟨g, 0, none⟩ : Addr).add (j * L.k + i) = ⟨g, 0 + j * L.k + i, none⟩ := by unfold Addr.add; split <;> simp_all <;> omega
    rwa [hadd] at this
theorem OwnE.sl {w : World} {B : Nat} {v : Value} {l : List α} (h : OwnE L e w B v l) : ∃ A n c, v = .slice A n c ∧ SlE L w A n c l ∧ ∀ b off, A = some ⟨b, off, none⟩ → B ≤ b := by
  rcases h.form with ⟨rfl, rfl⟩ | ⟨g, cap, rfl, hB, hg, hn, hm, -, hc⟩
  · exact ⟨none, 0, 0, rfl, SlE.nil L w, by simp⟩
  · exact ⟨_, _, _, rfl, ⟨rfl, hn, by unfold maxLen at hm; omega, fun _ => ⟨g, 0, rfl, hc⟩⟩, fun b off e => by cases e; exact hB⟩

structure TyE (L : Lay α) (t e : TypeId) (bytes : Nat) : Prop where
  ht : Try.prog.underlying t = some (.slice e)
  hi : ∃ (i0 : TypeInfo) (z : Value), Try.prog.info? e = some i0 ∧ i0.zero = some z ∧ i0.size = L.k ∧ i0.bytes = bytes ∧ z.cells.size = L.k

theorem run_append_E {t : TypeId} {bytes : Nat} (hT : TyE L t e bytes) (ty : TypeId) (w : World) (B : Nat) (v : Value) (l : List α) (hown : OwnE L e w B v l) (b off n c : Nat) (m : List α) (hn : n = m.length) (hc : CellsE L w b off m)
    (hl : l.length + m.length ≤ 8796093022208) (hby : (l.length + m.length) * bytes ≤ 140737488355328) (hB : B ≤ w.heap.size) :
    ∃ v' w', (Builtin.append_ #[t, t] ty #[v, .slice (some ⟨b, off, none⟩) n c]).run Try.prog w = .ok v' w' ∧ OwnE L e w' B v' (l ++ m) ∧ w.grownBy w' v.ownBlock ∧ (v'.ownBlock = v.ownBlock ∨ v'.ownBlock = some w.heap.size) := by
  obtain ⟨i0, z, hi, hz0, hz1, hz2, hz3⟩ := hT.hi
  subst hn
  obtain ⟨v', w', hr, h2, h3, h4, h5⟩ := run_append_own_at (P := Try.prog) w B t ty e i0 z L.k bytes hT.ht hi hz0 hz1 hz2 hz3 L.pos v l.length (flatE L l) hown ⟨b, off, none⟩ m.length c (flatE L m) (flatE_len m) (fun j u hj => by
    rcases Nat.lt_or_ge j (m.length * L.k) with g | g
    · obtain ⟨j', i, hj', hi', e', h⟩ := flatE_get m j g
      rw [h] at hj
      have := hc.at_ j' hj' i u hj
      have hadd : (⟨b, off, none⟩ : Addr).add j = ⟨b, off + j' * L.k + i, none⟩ := by unfold Addr.add; split <;> simp_all <;> omega
      rw [hadd]
      exact this
    · rw [List.getElem?_eq_none (by rw [flatE_len]; exact g)] at hj; cases hj) (flatE_one m) (by unfold maxLen; omega) hby hB
  refine ⟨v', w', hr, ?_, h3, h5⟩
  unfold OwnE
  rw [flatE_append, List.length_append]
  exact h2
theorem wpList_append_E {t : TypeId} {bytes : Nat} (hT : TyE L t e bytes) {w : World} {ops : Array Oper} {rest : List Oper} {o : Oper} {a : Act} {Q : Exit → Act → World → Prop} (hgd : o.guard = none) (s x : Operand)
    (ho : o.op = .call { callee := .builtin .append, args := #[s, x], argTypes := #[t, t] })
    (B : Nat) (v : Value) (l : List α) (hs : a.eval s = v) (hown : OwnE L e w B v l) (b off n c : Nat) (m : List α) (hx : a.eval x = .slice (some ⟨b, off, none⟩) n c) (hn : n = m.length) (hc : CellsE L w b off m)
    (hl : l.length + m.length ≤ 8796093022208) (hby : (l.length + m.length) * bytes ≤ 140737488355328) (hB : B ≤ w.heap.size)
    (h : ∀ v' w', OwnE L e w' B v' (l ++ m) → w.grownBy w' v.ownBlock → (v'.ownBlock = v.ownBlock ∨ v'.ownBlock = some w.heap.size) → wpList Try.prog ops Q rest (a.put o.dst v') w') : wpList Try.prog ops Q (o :: rest) a w := by
  obtain ⟨v', w', hr, h2, h3, h5⟩ := run_append_E hT o.type w B v l hown b off n c m hn hc hl hby hB
  refine wpList_plain hgd fun K hK => ?_
  unfold Oper.wp execOp
  simp only [ho, resolve, invoke, builtin, Sem.run_bind, Sem.run_pure, Result.andThen_ok, List.map_toArray, List.map_cons, List.map_nil, hs, hx, hr]
  exact hK _ _ (h v' w' h2 h3 h5)
theorem step_append_E {t : TypeId} {bytes : Nat} (hT : TyE L t e bytes) {w : World} {ops : Array Oper} {o : Oper} {a : Act} {K : Act → World → Prop} {Q : Exit → Act → World → Prop} {E : Prop} (hgd : o.guard = none) (s x : Operand)
    (ho : o.op = .call { callee := .builtin .append, args := #[s, x], argTypes := #[t, t] })
    (B : Nat) (v : Value) (l : List α) (hs : a.eval s = v) (hown : OwnE L e w B v l) (b off n c : Nat) (m : List α) (hx : a.eval x = .slice (some ⟨b, off, none⟩) n c) (hn : n = m.length) (hc : CellsE L w b off m)
    (hl : l.length + m.length ≤ 8796093022208) (hby : (l.length + m.length) * bytes ≤ 140737488355328) (hB : B ≤ w.heap.size)
    (h : ∀ v' w', OwnE L e w' B v' (l ++ m) → w.grownBy w' v.ownBlock → (v'.ownBlock = v.ownBlock ∨ v'.ownBlock = some w.heap.size) → K (a.put o.dst v') w') : if Region.wanted o (yielded ops a.tmps) = true then Oper.wp Try.prog o a w K Q else E := by
  have hw : Region.wanted o (yielded ops a.tmps) = true := by simp [Region.wanted, hgd]
  rw [if_pos hw]
  obtain ⟨v', w', hr, h2, h3, h5⟩ := run_append_E hT o.type w B v l hown b off n c m hn hc hl hby hB
  unfold Oper.wp execOp
  simp only [ho, resolve, invoke, builtin, Sem.run_bind, Sem.run_pure, Result.andThen_ok, List.map_toArray, List.map_cons, List.map_nil, hs, hx, hr]
  exact h v' w' h2 h3 h5
end
end
end Go.Proofs.Ytiaoandbdgdecaa
