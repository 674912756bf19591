/- The frame: an integer and a poly.Wide among the arguments, opened. -/
import Derived.Test.YtjoodpjndpdjnaaF0
import Derived.Test.YtjoodpjndpdjnaaM2
namespace Go.Proofs.Ytjoodpjndpdjnaa
set_option linter.unusedVariables false
set_option linter.unusedSimpArgs false
open Go.ChangeShapes Go.WideShapes Go.ChangeAt Go.RowKit Go.Deep Go.Joins

theorem cells_wide : Try.prog.cellsOf 40 = 2 := by kernel_rfl

section
variable {H : Type} {enc : TypeId × Value → H} {W : World} {held : Bool} {base : Nat} {sp : Nat → Bool}

set_option maxRecDepth 100000 in
/-- a Wide, opened -/
theorem open_wide {r : Reach} {b0 : Nat} {v : Value} {d : DataW H} {p : List MemPlace} (hv : Value.okWide Try.prog W r b0 40 v) (h : DataW.Trod enc Try.prog W base sp held 40 v d p) :
    ∃ z : Int, v = wideV z ∧ -170141183460469231731687303715884105728 ≤ z ∧ z < 170141183460469231731687303715884105728 := by
  obtain ⟨c0, c1, y0, y1, m, rfl, rfl, rfl, hy0, hy1⟩ := open_agg2 Try.underlying40 (by kernel_rfl) cells_wide hv h
  obtain ⟨a, e0, _, wa⟩ := DataW.trod_int Try.underlying2 hy0
  obtain ⟨b, e1, _, wb⟩ := DataW.trod_int Try.underlying38 hy1
  simp at e0 e1
  subst e0 e1
  have ha := int_bd wa
  have hb := bounds_u64 wb
  refine ⟨a * 18446744073709551616 + b, ?_, by omega, by omega⟩
  rw [wideV, hiW_of a b (by omega) (by omega) (by omega) (by omega), loW_of a b (by omega) (by omega)]

set_option maxRecDepth 100000 in
/-- an integer, opened -/
theorem open_num {r : Reach} {b0 : Nat} {v : Value} {d : DataW H} {p : List MemPlace} (hv : Value.okWide Try.prog W r b0 3 v) (h : DataW.Trod enc Try.prog W base sp held 3 v d p) :
    ∃ z : Int, v = .int .i64 z ∧ -9223372036854775808 ≤ z ∧ z ≤ 9223372036854775807 := by
  obtain ⟨z, e, _, _, hz⟩ := open_int Try.underlying3 hv h
  exact ⟨z, e, int_bd hz⟩
end

end Go.Proofs.Ytjoodpjndpdjnaa
