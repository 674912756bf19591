/- Parts of a proof: contracts and laws. -/
import Derived.Test.YtiaoandbdgdecaaPT02
namespace Go.Proofs.Ytiaoandbdgdecaa
section
set_option linter.unusedVariables false
set_option linter.unusedSimpArgs false
open Go.RowKit
theorem sA {α : Type} {l : List α} {i : Nat} {a : α} : l.toArray.setIfInBounds i a = (l.set i a).toArray := by simp
theorem sB {α : Type} {l : List α} {a b : α} : (a :: l).set 0 b = b :: l := rfl
theorem sC {α : Type} {l : List α} {n : Nat} {a b : α} : (a :: l).set (n + 1) b = a :: l.set n b := rfl
section
variable {P : Program} {ops : Array Oper} {Q : Exit → Act → World → Prop} {md : Region.Mode} {S : Nat → World → Prop} {T : Nat → Nat}
theorem Ut {fuel' : Nat} {listed : Array Bool} {L : List Value} {df : List Deferred} {w : World} (i k fuel l lev : Nat) {oi : Oper} {v : Value} (hi : ops[i]? = some oi) (hD : Weaker S) (hS : S lev w)
    (hy : ∀ w, S l w → (execOp (Act.eval ⟨L.toArray, df⟩) oi).run P w = .ok (.value v) w)
    (h : wpAnyU P md ops Q S T fuel lev (listed.setIfInBounds i true) ⟨(L.set k v).toArray, df⟩ w)
    (hd : oi.dst = some k := by kernel_rfl) (hs : Region.noSelect ops = true := by kernel_rfl) (hT : waitsAll md ops T l i = true := by kernel_rfl) (hTi : decide (T i = 0) = true := by kernel_rfl) (hC : closedB md ops listed = true := by kernel_rfl) (hf : Region.free md ops listed i = true := by kernel_rfl) (hr : (Region.ready md ops listed).contains i = true := by kernel_rfl) (hfu : fuel' = fuel + 1 := by kernel_rfl)
    (hQ : ∀ c a a' w, Q (.panic c) a' w → Q (.panic c) a w := by exact fun _ _ _ _ h => h) (hw : Region.wanted oi (yielded ops L.toArray) = true := by kernel_rfl) (hl : lev ≤ l := by omega) : wpAnyU P md ops Q S T fuel' lev listed ⟨L.toArray, df⟩ w :=
  U_take i k fuel l lev hi hd hs hD hT hTi hC hf hr hfu hQ hw hy hl hS h

theorem U1 {fuel lev : Nat} {listed : Array Bool} {a : Act} {w : World} (i l : Nat) {o : Oper} (ho : ops[i]? = some o)
    (h : ∀ K' : Act → World → Prop, Shut (∀ a w, S l w → (S l w → wpAnyU P md ops Q S T fuel l (listed.setIfInBounds i true) a w) → K' a w) → if Region.wanted o (yielded ops a.tmps) = true then Oper.wp P o a w K' Q else K' (a.put o.dst undef) w)
    (hr : Region.ready md ops listed = [i] := by kernel_rfl) (hl : max lev (T i) = l := by kernel_rfl) : wpAnyU P md ops Q S T (fuel + 1) lev listed a w :=
  wpAnyU_ready hr (by simp) (AllReadyU.cons l hl ho h AllReadyU.nil)
end
end
end Go.Proofs.Ytiaoandbdgdecaa
