/- Parts of a proof: contracts and laws. -/
import Derived.Test.YtkiiehobphkmgaaPZ15
namespace Go.Proofs.Ytkiiehobphkmgaa
section
set_option linter.unusedVariables false
set_option linter.unusedSimpArgs false
open Go.RowKit
section
variable {α : Type} {L : Lay α} {e : TypeId}

theorem run_append_S {t : TypeId} {bytes : Nat} (hT : TyE L t e bytes) (ty : TypeId) (w : World) (B : Nat) (v : Value) (l : List α) (hown : OwnE L e w B v l) (A : Option Addr) (n c : Nat) (m : List α) (hS : SlE L w A n c m)
    (hl : l.length + m.length ≤ 8796093022208) (hby : (l.length + m.length) * bytes ≤ 140737488355328) (hB : B ≤ w.heap.size) :
    ∃ v' w', (Builtin.append_ #[t, t] ty #[v, .slice A n c]).run Try.prog w = .ok v' w' ∧ OwnE L e w' B v' (l ++ m) ∧ w.grownBy w' v.ownBlock ∧ (v'.ownBlock = v.ownBlock ∨ v'.ownBlock = some w.heap.size) := by
  by_cases h0 : m = []
  · subst h0
    have hn := hS.len
    simp at hn
    subst hn
    obtain ⟨i0, z, hi, hz0, hz1, hz2, hz3⟩ := hT.hi
    cases A with
    | none =>
      refine ⟨v, w, ?_, by simpa using hown, ⟨rfl, rfl, rfl, Nat.le_refl _, fun _ _ _ => rfl⟩, .inl rfl⟩
      rcases hown.2 with ⟨rfl, hx⟩ | ⟨g, cap, cur, rfl, _, _, hnc, _⟩
      · simp [Builtin.append_, run_underlying hT.ht, sizeOf, typeInfo, hi, Builtin.lenOf, Builtin.firstCells]
      · simp [Builtin.append_, run_underlying hT.ht, sizeOf, typeInfo, hi, Builtin.lenOf, Builtin.firstCells, hnc, storeCells]
    | some ad =>
      obtain ⟨v', w', hr, h2, h3, h4, h5⟩ := run_append_own_at (P := Try.prog) w B t ty e i0 z L.k bytes hT.ht hi hz0 hz1 hz2 hz3 L.pos v l.length (flatE L l) hown ad 0 c [] (by simp) (fun j u hj => by simp at hj) (by simp) (by unfold maxLen; simp at hl; omega) (by simpa using hby) hB
      refine ⟨v', w', hr, ?_, h3, h5⟩
      unfold OwnE
      simpa using h2
  · obtain ⟨b, off, rfl, hC⟩ := hS.at_ h0
    exact run_append_E hT ty w B v l hown b off n c m hS.len hC hl hby hB
theorem wpList_append_S {t : TypeId} {bytes : Nat} (hT : TyE L t e bytes) {w : World} {ops : Array Oper} {rest : List Oper} {o : Oper} {a : Act} {Q : Exit → Act → World → Prop} (hgd : o.guard = none) (s x : Operand)
    (ho : o.op = .call { callee := .builtin .append, args := #[s, x], argTypes := #[t, t] })
    (B : Nat) (v : Value) (l : List α) (hs : a.eval s = v) (hown : OwnE L e w B v l) (A : Option Addr) (n c : Nat) (m : List α) (hx : a.eval x = .slice A n c) (hS : SlE L w A n c m)
    (hl : l.length + m.length ≤ 8796093022208) (hby : (l.length + m.length) * bytes ≤ 140737488355328) (hB : B ≤ w.heap.size)
    (h : ∀ v' w', OwnE L e w' B v' (l ++ m) → w.grownBy w' v.ownBlock → (v'.ownBlock = v.ownBlock ∨ v'.ownBlock = some w.heap.size) → wpList Try.prog ops Q rest (a.put o.dst v') w') : wpList Try.prog ops Q (o :: rest) a w := by
  obtain ⟨v', w', hr, h2, h3, h5⟩ := run_append_S hT o.type w B v l hown A n c m hS hl hby hB
  refine wpList_plain hgd fun K hK => ?_
  unfold Oper.wp execOp
  simp only [ho, resolve, invoke, builtin, Sem.run_bind, Sem.run_pure, Result.andThen_ok, List.map_toArray, List.map_cons, List.map_nil, hs, hx, hr]
  exact hK _ _ (h v' w' h2 h3 h5)
end
end
end Go.Proofs.Ytkiiehobphkmgaa
