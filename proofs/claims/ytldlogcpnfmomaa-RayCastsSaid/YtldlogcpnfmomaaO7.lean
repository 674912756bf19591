/- Contract: the closure of RayCasts. -/
import Derived.Test.YtldlogcpnfmomaaO4
import Derived.Test.YtldlogcpnfmomaaO6
namespace Go.Proofs.Ytldlogcpnfmomaa
set_option linter.unusedVariables false
set_option linter.unusedSimpArgs false
open Go.RowKit

set_option maxRecDepth 100000 in
set_option maxHeartbeats 1000000 in
theorem casts1_calls (A : Option Addr) (n c : Nat) (l : List V) (g1 g2 : Nat) (fx fy ux uy : Int) (w : World) (hf : Cf w g1 fx fy) (hu : Cf w g2 ux uy) (hS : Sl w A n c l) (hw : allWithin 131072000 l = true) (hlen : l.length ≤ 100000) (h0f : withinB 65536000 fx fy = true) (h0u : withinB 65536000 ux uy = true) :
    Calls Try.prog 23 #[.slice A n c, .pointer (some ⟨g1, 0, none⟩), .pointer (some ⟨g2, 0, none⟩)] w (Ret (.tuple #[.int .i64 ((refLine l (fx, fy) (ux, uy)).getD 0), .bool ((refLine l (fx, fy) (ux, uy)).isSome)]) w) := by
  have HC := hid (rLine_calls A n c l fx fy ux uy w hS hw hlen h0f h0u)
  have hl1 := lt_of_cell hf.a
  have hl2 := lt_of_cell hu.a
  obtain ⟨f0, f1⟩ := hf
  obtain ⟨u0, u1⟩ := hu
  clear hS hw h0f h0u
  generalize (refLine l (fx, fy) (ux, uy)).getD 0 = T at *
  generalize (refLine l (fx, fy) (ux, uy)).isSome = B at *
  go_enter Try.func23, Try.ntmps23
  go_wp2_with fail
  refine HC.out.mono ?_
  rintro e w1 ⟨rfl, hb⟩
  go_wp2
  refine bodyPost_ret (v := .tuple #[.int .i64 T, .bool B]) (by simp [results, Try.results23, go_sem]) rfl ⟨rfl, hb⟩
theorem cf_casts1_calls (args : Array Value) (w : World) : (callFunc 23 args).run Try.prog w = .ok (.enter 23 args) w := by kernel_rfl

end Go.Proofs.Ytldlogcpnfmomaa
