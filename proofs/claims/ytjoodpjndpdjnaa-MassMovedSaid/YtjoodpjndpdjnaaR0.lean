/- Regions that draw their order and hold operations whose guard says no: they are passed over all at once. -/
import Derived.Test.YtjoodpjndpdjnaaA0
import Derived.Deep.RegionHeld3
namespace Go.Proofs.Ytjoodpjndpdjnaa
set_option linter.unusedVariables false
set_option linter.unusedSimpArgs false
open Go.RowKit

theorem put_some (L : List Value) (df : List Deferred) (k : Nat) (v : Value) : Act.put ⟨L.toArray, df⟩ (some k) v = ⟨(L.set k v).toArray, df⟩ := by simp [Act.put]
/-- operations i, with the slots k that they would write, may be passed over one behind the other -/
def skipOk (md : Region.Mode) (ops : Array Oper) : List (Nat × Nat) → Array Bool → List Value → Bool
  | [], _, _ => true
  | (i, k) :: r, listed, L => (match ops[i]? with
      | some o => (match o.dst with | some d => d == k | none => false) && Region.free md ops listed i && (Region.ready md ops listed).contains i && !Region.wanted o (yielded ops L.toArray)
      | none => false) && skipOk md ops r (listed.setIfInBounds i true) (L.set k undef)
def setAll : List (Nat × Nat) → Array Bool → Array Bool
  | [], listed => listed
  | (i, _) :: r, listed => setAll r (listed.setIfInBounds i true)
def setUndef : List (Nat × Nat) → List Value → List Value
  | [], L => L
  | (_, k) :: r, L => setUndef r (L.set k undef)
theorem held_skips {P : Program} {ops : Array Oper} {Q : Exit → Act → World → Prop} {md : Region.Mode} {S : World → Prop} {df : List Deferred} {w : World} (hs : Region.noSelect ops = true) (hQ : ∀ c a a' w, Q (.panic c) a' w → Q (.panic c) a w) (hS : S w) :
    ∀ (is : List (Nat × Nat)) (fuel fuel' : Nat) (listed : Array Bool) (L : List Value), skipOk md ops is listed L = true → fuel' = fuel + is.length →
      wpAnyH P md ops Q S fuel (setAll is listed) ⟨(setUndef is L).toArray, df⟩ w → wpAnyH P md ops Q S fuel' listed ⟨L.toArray, df⟩ w := by
  intro is
  induction is with
  | nil => intro fuel fuel' listed L _ hf h; rw [hf]; exact h
  | cons x r ih =>
    obtain ⟨i, k⟩ := x
    intro fuel fuel' listed L hok hf h
    simp only [skipOk, Bool.and_eq_true] at hok
    obtain ⟨h1, h2⟩ := hok
    split at h1
    · rename_i o ho
      simp only [Bool.and_eq_true, Bool.not_eq_true'] at h1
      obtain ⟨⟨⟨a, b⟩, c⟩, d⟩ := h1
      have hd : o.dst = some k := by
        split at a
        · rename_i e he
          rw [he]
          exact congrArg some (by simpa using a)
        · cases a
      rw [hf, List.length_cons, ← Nat.add_assoc]
      refine wpAnyH_take (v := undef) ho hs b c (fun c a w hq => hQ c a _ w hq) (Or.inr ⟨d, rfl⟩) hS ?_
      rw [hd, put_some]
      exact ih fuel _ _ _ h2 rfl h
    · cases h1

/-- operation i, which writes slot k, yields its value in every world that meets S: it is taken first -/
theorem held_take {P : Program} {ops : Array Oper} {Q : Exit → Act → World → Prop} {md : Region.Mode} {S : World → Prop} {fuel' : Nat} {listed : Array Bool} {L : List Value} {df : List Deferred} {w : World} (i k fuel : Nat) {oi : Oper} {v : Value} (hi : ops[i]? = some oi) (hd : oi.dst = some k)
    (hs : Region.noSelect ops = true) (hf : Region.free md ops listed i = true) (hr : (Region.ready md ops listed).contains i = true) (hfu : fuel' = fuel + 1) (hQ : ∀ c a a' w, Q (.panic c) a' w → Q (.panic c) a w)
    (hw : Region.wanted oi (yielded ops L.toArray) = true) (hy : ∀ w, S w → (execOp (Act.eval ⟨L.toArray, df⟩) oi).run P w = .ok (.value v) w) (hS : S w)
    (h : wpAnyH P md ops Q S fuel (listed.setIfInBounds i true) ⟨(L.set k v).toArray, df⟩ w) : wpAnyH P md ops Q S fuel' listed ⟨L.toArray, df⟩ w := by
  subst hfu
  exact wpAnyH_take (v := v) hi hs hf hr (fun c a w hq => hQ c a _ w hq) (Or.inl ⟨hw, hy⟩) hS (by rw [hd, put_some]; exact h)

end Go.Proofs.Ytjoodpjndpdjnaa
