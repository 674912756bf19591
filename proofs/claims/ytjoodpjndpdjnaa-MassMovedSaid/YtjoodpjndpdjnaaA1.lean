/- Contracts of the small functions on vectors: side, within, coord, sub. -/
import Derived.Test.YtjoodpjndpdjnaaM0
namespace Go.Proofs.Ytjoodpjndpdjnaa
set_option linter.unusedVariables false
set_option linter.unusedSimpArgs false
open Go.RowKit

theorem sub_calls (a b c d : Int) (w : World) :
    Calls Try.prog 91 #[vecV a b, vecV c d] w (Ret (vecV (wrap64 (a - c)) (wrap64 (b - d))) w) := by
  go_enter Try.func91, Try.ntmps91
  go_wp2
  go_returns
  exact ⟨rfl, by go_grown⟩

theorem side_any (a b c d p q : Int) (w : World) :
    Calls Try.prog 72 #[vecV a b, vecV c d, vecV p q] w (Ret (.int .i64 (wrap64 (wrap64 (wrap64 (c - a) * wrap64 (q - b)) - wrap64 (wrap64 (d - b) * wrap64 (p - a))))) w) := by
  go_enter Try.func72, Try.ntmps72
  go_wp2
  go_returns
  exact ⟨rfl, by go_grown⟩

theorem side_calls (a b c d p q : Int) (h1 : withinB 65536000 a b = true) (h2 : withinB 65536000 c d = true) (h3 : withinB 65536000 p q = true) (w : World) :
    Calls Try.prog 72 #[vecV a b, vecV c d, vecV p q] w (Ret (.int .i64 (sideZ a b c d p q)) w) := by
  have h := side_any a b c d p q w
  rwa [(sideZ_wrap h1 h2 h3).1] at h

theorem within_calls (a b : Int) (w : World) :
    Calls Try.prog 75 #[vecV a b] w (Ret (.bool (withinB 65536000 a b)) w) := by
  go_enter Try.func75, Try.ntmps75
  go_wp2
  all_goals
    go_returns
    exact ⟨by simp [withinB, *] <;> omega, by go_grown⟩

theorem coord_calls (a b m : Int) (w : World) (h0 : 0 ≤ m) (h1 : m ≤ 9223372036854775807) :
    Calls Try.prog 70 #[vecV a b, .int .i64 m] w (Ret (.bool (withinB m a b)) w) := by
  go_enter Try.func70, Try.ntmps70
  go_wp2
  all_goals
    go_returns
    exact ⟨by simp [withinB, *] <;> omega, by go_grown⟩

end Go.Proofs.Ytjoodpjndpdjnaa
