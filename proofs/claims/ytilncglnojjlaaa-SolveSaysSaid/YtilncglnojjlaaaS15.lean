/- Parts of a proof: contracts and laws. -/
import Derived.Test.YtilncglnojjlaaaS14
import Derived.Test.YtilncglnojjlaaaS11
namespace Go.Proofs.Ytilncglnojjlaaa
section
set_option linter.unusedVariables false
set_option linter.unusedSimpArgs false
open Go.RowKit
theorem rbetween_calls (n l h : Int) (w : World) : Calls Try.prog 40 #[.int .i64 n, .int .i64 l, .int .i64 h] w (Ret (.bool (inB n l h)) w) := by
  go_enter Try.func40, Try.ntmps40
  go_wp2
  all_goals
    go_returns
    exact ⟨by simp [inB, *] <;> omega, by go_grown⟩
theorem rnearest_calls (n m : Int) (h0 : 0 ≤ m) (h1 : m ≤ 9223372036854775807) (w : World) : Calls Try.prog 50 #[.int .i64 n, .int .i64 m] w (Ret (.int .i64 (clampN n m)) w) := by
  have hw : IntKind.i64.wrap (-m) = -m := IntWalk.i64_in _ (by omega)
  go_enter Try.func50, Try.ntmps50
  go_wp2
  all_goals
    go_returns
    exact ret_int (by unfold clampN; (repeat' split) <;> omega) (Below.refl _ _)
theorem rquot_calls (a n : Int) (w : World) : Calls Try.prog 46 #[.int .i64 a, .int .i64 n] w (Ret (.int .i64 (divF a n)) w) := by
  go_enter Try.func46, Try.ntmps46
  go_wp2_with fail
  refine (fdiv_calls a n _).mono ?_
  rintro e w1 ⟨rfl, hb1⟩
  go_wp2
  go_returns
  exact ret_int rfl hb1

def freeB (b : Bd) : Bool := b.mass != 0 && !b.asleep
theorem freeB_true {b : Bd} (h : freeB b = true) : ¬ (b.mass = 0 ∨ b.asleep = true) := by
  unfold freeB at h
  simp at h
  rintro (h1 | h1)
  · exact h.1 h1
  · rw [h1] at h; simp at h
theorem freeB_false {b : Bd} (h : freeB b = false) : b.mass = 0 ∨ b.asleep = true := by
  unfold freeB at h
  simp at h
  by_cases hm : b.mass = 0
  · exact .inl hm
  · exact .inr (h hm)
theorem rfree_calls (b : Bd) (A : Option Addr) (n c : Nat) (w : World) : Calls Try.prog 83 #[bodyV b A n c] w (Ret (.bool (freeB b)) w) := by
  go_enter Try.func83, Try.ntmps83
  by_cases hm : b.mass = 0
  · have hmb : (b.mass != 0) = false := by simp [hm]
    go_wp2
    go_returns
    exact ⟨by simp [freeB, hm], by go_grown⟩
  · have hmb : (b.mass != 0) = true := by simp [hm]
    cases ha : b.asleep with
    | true =>
      go_wp2
      go_returns
      exact ⟨by simp [freeB, hm, ha], by go_grown⟩
    | false =>
      go_wp2
      go_returns
      exact ⟨by simp [freeB, hm, ha], by go_grown⟩
set_option maxRecDepth 100000 in
set_option maxHeartbeats 4000000 in
theorem rsame_calls (b : Bd) (A A' : Option Addr) (n c n' c' : Nat) (l : List V) (w : World) (hS : Sl w A n c l) (hS' : Sl w A' n' c' l) : Calls Try.prog 53 #[bodyV b A n c, bodyV b A' n' c'] w (Ret (.bool true) w) := by
  obtain ⟨W, hW⟩ : ∃ W, W = (w.alloc (.cells #[.int .i64 b.px, .int .i64 b.py, .int .i64 b.vx, .int .i64 b.vy, .int .i64 b.ang, .int .i64 b.spin, .int .i64 b.mass, .int .i64 b.iner, .int .i64 b.bounce, .int .i64 b.rub, .slice A n c, .bool b.asleep, .int .i64 b.calm] 68)).alloc (.cells #[.int .i64 b.px, .int .i64 b.py, .int .i64 b.vx, .int .i64 b.vy, .int .i64 b.ang, .int .i64 b.spin, .int .i64 b.mass, .int .i64 b.iner, .int .i64 b.bounce, .int .i64 b.rub, .slice A' n' c', .bool b.asleep, .int .i64 b.calm] 68) := ⟨_, rfl⟩
  have HA := hid (show BdAt W w.heap.size b A n c by rw [hW]; exact (BdAt.here w b A n c _).alloc _)
  have HA' := hid (show BdAt W (w.heap.size + 1) b A' n' c' by rw [hW]; have := BdAt.here (w.alloc (.cells #[.int .i64 b.px, .int .i64 b.py, .int .i64 b.vx, .int .i64 b.vy, .int .i64 b.ang, .int .i64 b.spin, .int .i64 b.mass, .int .i64 b.iner, .int .i64 b.bounce, .int .i64 b.rub, .slice A n c, .bool b.asleep, .int .i64 b.calm] 68)) b A' n' c' 68; simpa using this)
  have hB : Below w.heap.size w W := by rw [hW]; go_grown
  have HS := hid (hS.below hB)
  have HS' := hid (hS'.below hB)
  obtain ⟨k0, k1, k2, k3, k4, k5, k6, k7, k8, k9, k10, k11, k12, _⟩ := HA.out
  obtain ⟨m0, m1, m2, m3, m4, m5, m6, m7, m8, m9, m10, m11, m12, _⟩ := HA'.out
  clear hS hS'
  go_enter Try.func53, Try.ntmps53
  go_wp2_with fail
  rw [← hW]
  clear hW
  refine (equal_calls _ _ _ _ _ _ l l _ HS.out HS'.out).mono ?_
  rintro e w5 ⟨rfl, hb5⟩
  rw [show decide (l = l) = true by simp]
  have hB5 := keepBelow hb5 hB
  clear hb5 HS HS' HA HA' hB k0 k1 k2 k3 k4 k5 k6 k7 k8 k9 k10 k11 k12 m0 m1 m2 m3 m4 m5 m6 m7 m8 m9 m10 m11 m12
  go_wp2
  go_returns
  exact ret_bool (by simp) hB5
end
end Go.Proofs.Ytilncglnojjlaaa
