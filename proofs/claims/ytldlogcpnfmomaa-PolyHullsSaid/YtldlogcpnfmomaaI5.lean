/- The walk of PolyHulls. -/
import Derived.Test.YtldlogcpnfmomaaI4
namespace Go.Proofs.Ytldlogcpnfmomaa
set_option linter.unusedVariables false
set_option linter.unusedSimpArgs false
open Go.RowKit

set_option maxRecDepth 100000 in
theorem squareO_calls (x y s : Int) (hx : -1048576 ≤ x ∧ x ≤ 1048576) (hy : -1048576 ≤ y ∧ y ≤ 1048576) (hs : -1048576 ≤ s ∧ s ≤ 1048576) (w : World) :
    Calls Try.prog 37 #[.int .i64 x, .int .i64 y, .int .i64 s] w (RetOwn (sqL x y s) w) := by
  go_enter Try.func37, Try.ntmps37
  go_wp2
  go_returns
  exact ⟨_, rfl, Own.lit w w.heap.size (sqL x y s) (Nat.le_refl _) (by simp [sqL]), by go_grown⟩
theorem hull_five : hullE (sqL 0 0 2 ++ [(5, 5)]) = 0 ∧ hullL (sqL 0 0 2 ++ [(5, 5)]) = sqL 0 0 2 := by decide
theorem lit1' (w : World) (x y : Int) : Cells (w.alloc (.cells #[.int .i64 x, .int .i64 y] 25)) w.heap.size 0 [(x, y)] := lit1 w x y
set_option maxRecDepth 100000 in
set_option maxHeartbeats 4000000 in
theorem polyHulls_walk (A : Option Addr) (n c : Nat) (l : List V) (w : World) (hS : Sl w A n c l) : Calls Try.prog 6 #[.slice A n c] w (Ret (.bool true) w) := by
  have HS := hid hS
  clear hS
  have HSQ := hid (fun w => squareO_calls 0 0 2 (by omega) (by omega) (by omega) w)
  have H5 := hid hull_five
  have HQ : Hid ((sqL 0 0 2).length ≤ 10) := by show _ ≤ _; decide
  generalize sqL 0 0 2 = q at *
  go_enter Try.func6, Try.ntmps6
  go_wp2_with fail
  refine (HSQ.out _).mono ?_
  rintro e w1 ⟨s1, rfl, ho1, hb1⟩
  have HO1 := hid (ho1.alloc (.cells #[.int .i64 5, .int .i64 5] 25))
  have HB1 := hid (hb1.alloc hb1.size (.cells #[.int .i64 5, .int .i64 5] 25))
  have hC1 := lit1' w1 5 5
  have HZ1 := hid hb1.size
  clear ho1 hb1
  go_wp2_with (at_builtin; refine wpList_append_vecs rfl _ _ rfl w.heap.size _ q rfl HO1.out _ 0 1 1 [(5, 5)] rfl rfl hC1 (by have := HQ.out; simp; omega) (by have := HZ1.out; simp; omega) ?_; intro v9 w9 ho9 hg9; have HB9 := hid (HB1.out.trans (HO1.out.grown hg9 (by have := HZ1.out; simp; omega))); have HO9 := hid ho9; clear ho9 hg9 hC1)
  obtain ⟨A9, n9, c9, e9, hs9, -⟩ := HO9.out.sl
  subst e9
  have HS9 := hid hs9
  clear hs9 HO9 HO1 HB1 HZ1
  refine (hull_calls _ _ _ _ _ HS9.out).mono ?_
  rintro e w3 ⟨s3, rfl, ho3, hb3⟩
  rw [H5.out.1]
  rw [H5.out.2] at ho3
  obtain ⟨A3, n3, c3, e3, hs3, -⟩ := ho3.sl
  subst e3
  have HS3 := hid hs3
  have HB3 := hid (keepBelow hb3 HB9.out)
  clear hs3 ho3 hb3 HB9 HS9
  go_wp2_with fail
  refine (HSQ.out _).mono ?_
  rintro e w4 ⟨s4, rfl, ho4, hb4⟩
  obtain ⟨A4, n4, c4, e4, hs4, -⟩ := ho4.sl
  subst e4
  have HS4 := hid hs4
  have HS3' := hid (HS3.out.below hb4)
  have HB4 := hid (keepBelow hb4 HB3.out)
  clear hs4 ho4 hb4 HB3 HS3
  go_wp2_with fail
  refine (equal_calls _ _ _ _ _ _ q q _ HS3'.out HS4.out).mono ?_
  rintro e w5 ⟨rfl, hb5⟩
  rw [decide_eq_true rfl]
  have HB5 := hid (keepBelow hb5 HB4.out)
  clear hb5 HB4 HS3' HS4 HSQ H5 HQ
  go_wp2_with fail
  refine (hull_calls _ _ _ l _ (HS.out.below HB5.out)).mono ?_
  rintro e w6 ⟨s6, rfl, ho6, hb6⟩
  obtain ⟨A6, n6, c6, e6, hs6, -⟩ := ho6.sl
  subst e6
  have HS6 := hid hs6
  have HB6 := hid (keepBelow hb6 HB5.out)
  clear hs6 ho6 hb6 HB5
  go_wp2_with fail
  refine (rhull_calls _ _ _ l _ (HS.out.below HB6.out)).mono ?_
  rintro e w7 ⟨A7, n7, c7, rfl, hs7, hb7⟩
  have HS7 := hid hs7
  have HS6' := hid (HS6.out.below hb7)
  have HB7 := hid (keepBelow hb7 HB6.out)
  clear hs7 hb7 HB6 HS6
  go_wp2_with fail
  refine (equal_calls _ _ _ _ _ _ (hullL l) (hullL l) _ HS6'.out HS7.out).mono ?_
  rintro e w8 ⟨rfl, hb8⟩
  rw [decide_eq_true rfl]
  have HB8 := hid (keepBelow hb8 HB7.out)
  clear hb8 HB7
  go_wp2
  go_returns
  exact ret_bool (by simp) HB8.out
end Go.Proofs.Ytldlogcpnfmomaa
