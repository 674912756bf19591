/- Parts of a proof: contracts and laws. -/
import Derived.Test.YtbajmekmpgfpeaaB04
namespace Go.Proofs.Ytbajmekmpgfpeaa
section
set_option linter.unusedVariables false
set_option linter.unusedSimpArgs false
open Go.RowKit
section
variable {P : Program} {ops : Array Oper} {Q : Exit → Act → World → Prop} {md : Region.Mode} {S : Nat → World → Prop} {T : Nat → Nat}
theorem U1 {fuel lev : Nat} {listed : Array Bool} {a : Act} {w : World} (i l : Nat) {o : Oper} (ho : ops[i]? = some o)
    (h : ∀ K' : Act → World → Prop, Shut (∀ a w, S l w → (S l w → wpAnyU P md ops Q S T fuel l (listed.setIfInBounds i true) a w) → K' a w) → if Region.wanted o (yielded ops a.tmps) = true then Oper.wp P o a w K' Q else K' (a.put o.dst undef) w)
    (hr : Region.ready md ops listed = [i] := by kernel_rfl) (hl : max lev (T i) = l := by kernel_rfl) : wpAnyU P md ops Q S T (fuel + 1) lev listed a w :=
  wpAnyU_ready hr (by simp) (AllReadyU.cons l hl ho h AllReadyU.nil)
end
end
end Go.Proofs.Ytbajmekmpgfpeaa
namespace Go.Proofs.Ytbajmekmpgfpeaa
section
set_option linter.unusedVariables false
open Go.RowKit
theorem wpAnyU_lst {P : Program} {md : Region.Mode} {ops : Array Oper} {Q : Exit → Act → World → Prop} {S : Nat → World → Prop} {T : Nat → Nat} {fuel lev : Nat} {l l' : Array Bool} {a : Act} {w : World} (h : l = l') (hw : wpAnyU P md ops Q S T fuel lev l' a w) : wpAnyU P md ops Q S T fuel lev l a w := h ▸ hw
end
end Go.Proofs.Ytbajmekmpgfpeaa
