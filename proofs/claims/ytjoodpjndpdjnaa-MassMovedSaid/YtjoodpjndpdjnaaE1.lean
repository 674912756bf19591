/- Contracts of tourmake: Below, Stream.Next, Poly; of the laws' own helpers place, moved, square. -/
import Derived.Test.YtjoodpjndpdjnaaE0
import Derived.Test.YtjoodpjndpdjnaaM7
namespace Go.Proofs.Ytjoodpjndpdjnaa
set_option linter.unusedVariables false
set_option linter.unusedSimpArgs false
open Go.RowKit

theorem tmod_emod (x n : Int) (hn : 0 < n) : x % n = if x.tmod n < 0 then x.tmod n + n else x.tmod n := by
  have h1 := Int.tmod_add_mul_tdiv x n
  have h2 : -n < x.tmod n := Int.neg_lt_of_neg_lt (by have := Int.lt_tmod_of_pos x hn; omega)
  have h3 := Int.tmod_lt_of_pos x hn
  generalize x.tmod n = r at *
  generalize x.tdiv n = q at *
  subst h1
  rw [Int.add_mul_emod_self_left]
  split
  · rw [← Int.add_emod_right, Int.emod_eq_of_lt (by omega) (by omega)]
  · rw [Int.emod_eq_of_lt (by omega) (by omega)]

theorem tbelow_calls (x n : Int) (hn : 0 < n) (hn2 : n ≤ 9223372036854775807) (w : World) :
    Calls Try.prog 30 #[.int .i64 x, .int .i64 n] w (Ret (.int .i64 (x % n)) w) := by
  have h2 : -n < x.tmod n := by have := Int.lt_tmod_of_pos x hn; omega
  have h3 := Int.tmod_lt_of_pos x hn
  have he := hid (tmod_emod x n hn)
  have hnb : (n == 0) = false := by simp; omega
  go_enter Try.func30, Try.ntmps30
  go_wp2
  all_goals
    go_returns
    exact ret_int (by rw [he.out]; split <;> go_arith) (Below.refl _ _)

end Go.Proofs.Ytjoodpjndpdjnaa
