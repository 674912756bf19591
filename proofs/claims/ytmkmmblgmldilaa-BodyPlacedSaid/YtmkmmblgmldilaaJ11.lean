/- The contract of tourkeep2.pushes. -/
import Derived.Test.YtmkmmblgmldilaaJ7
import Derived.Test.YtmkmmblgmldilaaJ10
namespace Go.Proofs.Ytmkmmblgmldilaa
set_option linter.unusedVariables false
set_option linter.unusedSimpArgs false
open Go.RowKit

def bdP : Bd := ⟨0, 0, 0, 0, 0, 0, 131072, 65536, 0, 0, false, 0⟩
theorem bdP_ok : bodyE bdP (sqK 0 0 1) = 0 := by decide
theorem bdP_push : (pushB bdP (sqK 0 0 1) 262144 0 0 0).vx = 131072 ∧ (pushB bdP (sqK 0 0 1) 262144 0 0 0).vy = 0 := by decide
theorem bdP_move : (moveB (pushB bdP (sqK 0 0 1) 262144 0 0 0) (sqK 0 0 1) 65536).px = 131072 ∧ (moveB (pushB bdP (sqK 0 0 1) 262144 0 0 0) (sqK 0 0 1) 65536).py = 0 := by decide

set_option maxRecDepth 100000 in
set_option maxHeartbeats 2000000 in
theorem pushes_calls (w : World) : Calls Try.prog 27 #[] w (Ret (.bool true) w) := by
  have e1 := hid bdP_ok
  have e2 := hid bdP_push
  have e3 := hid bdP_move
  go_enter Try.func27, Try.ntmps27
  go_wp2_with fail
  refine (squareK_calls 0 0 1 (by omega) (by omega) (by omega) _).mono ?_
  rintro e w1 ⟨A, n, c, rfl, hS1, hb1⟩
  have hlen : (sqK 0 0 1).length ≤ 8796093022208 := by simp [sqK]
  obtain ⟨l, hl⟩ : ∃ l, l = sqK 0 0 1 := ⟨_, rfl⟩
  rw [← hl] at hS1 hlen e1 e2 e3
  obtain ⟨W, hW⟩ : ∃ W, W = w1.alloc (.cells #[.int .i64 0, .int .i64 0, .int .i64 0, .int .i64 0, .int .i64 0, .int .i64 0, .int .i64 131072, .int .i64 65536, .int .i64 0, .int .i64 0, .slice A n c, .bool false, .int .i64 0] 39) := ⟨_, rfl⟩
  have HK0 := hid (show BdAt W w1.heap.size bdP A n c by rw [hW]; exact BdAt.here w1 bdP A n c _)
  have HS0 := hid (show Sl W A n c l by rw [hW]; exact hS1.alloc _)
  have hB0 : Below w.heap.size w W := by rw [hW]; exact hb1.alloc hb1.size _
  clear hS1 hb1 hl
  go_wp2_with fail
  rw [← hW]
  clear hW
  refine (push_calls bdP A n c l 262144 0 0 0 _ HS0.out hlen).mono ?_
  rintro e w2 ⟨A2, n2, c2, rfl, hs2, hf2, hb2⟩
  obtain ⟨x, hx⟩ : ∃ x, x = pushB bdP l 262144 0 0 0 := ⟨_, rfl⟩
  rw [← hx] at e2 e3 ⊢
  have HK2 := hid ((keepBd hb2 HK0.out).alloc (.cells #[.int .i64 x.px, .int .i64 x.py, .int .i64 x.vx, .int .i64 x.vy, .int .i64 x.ang, .int .i64 x.spin, .int .i64 x.mass, .int .i64 x.iner, .int .i64 x.bounce, .int .i64 x.rub, .slice A2 n2 c2, .bool x.asleep, .int .i64 x.calm] 39))
  have HX2 := hid (BdAt.here w2 x A2 n2 c2 39)
  have HS2 := hid ((HS0.out.below hb2).alloc (.cells #[.int .i64 x.px, .int .i64 x.py, .int .i64 x.vx, .int .i64 x.vy, .int .i64 x.ang, .int .i64 x.spin, .int .i64 x.mass, .int .i64 x.iner, .int .i64 x.bounce, .int .i64 x.rub, .slice A2 n2 c2, .bool x.asleep, .int .i64 x.calm] 39))
  have HT2 := hid (hs2.alloc (.cells #[.int .i64 x.px, .int .i64 x.py, .int .i64 x.vx, .int .i64 x.vy, .int .i64 x.ang, .int .i64 x.spin, .int .i64 x.mass, .int .i64 x.iner, .int .i64 x.bounce, .int .i64 x.rub, .slice A2 n2 c2, .bool x.asleep, .int .i64 x.calm] 39))
  have hB2 := (keepBelow hb2 hB0).alloc (keepBelow hb2 hB0).size (.cells #[.int .i64 x.px, .int .i64 x.py, .int .i64 x.vx, .int .i64 x.vy, .int .i64 x.ang, .int .i64 x.spin, .int .i64 x.mass, .int .i64 x.iner, .int .i64 x.bounce, .int .i64 x.rub, .slice A2 n2 c2, .bool x.asleep, .int .i64 x.calm] 39)
  obtain ⟨k0, k1, k2, k3, k4, k5, k6, k7, k8, k9, k10, k11, k12, _⟩ := keepBd hb2 HK0.out
  have hl9 := lt_of_cell k0
  clear hb2 HK0 HS0 hB0 hs2 hf2 hx
  go_wp2_with fail
  refine (bcheck_calls bdP A n c l _ HS2.out).mono ?_
  rintro e w3 ⟨rfl, hb3⟩
  rw [e1.out]
  clear k0 k1 k2 k3 k4 k5 k6 k7 k8 k9 k10 k11 k12
  have HX3 := hid (keepBd hb3 HX2.out)
  have HT3 := hid (HT2.out.below hb3)
  have hB3 := keepBelow hb3 hB2
  clear hb3 HK2 HX2 HS2 HT2 hB2
  obtain ⟨m0, m1, m2, m3, m4, m5, m6, m7, m8, m9, m10, m11, m12, _⟩ := HX3.out
  have v1 := e2.out.1
  have v2 := e2.out.2
  rw [v1] at m2
  rw [v2] at m3
  have hmv := move_calls x A2 n2 c2 l 65536 _ HT3.out hlen
  obtain ⟨y, hy⟩ : ∃ y, y = moveB x l 65536 := ⟨_, rfl⟩
  rw [← hy] at hmv e3
  have y1 := e3.out.1
  have y2 := e3.out.2
  have HM : Hid (Calls Try.prog 53 #[.agg #[.int .i64 x.px, .int .i64 x.py, .int .i64 131072, .int .i64 0, .int .i64 x.ang, .int .i64 x.spin, .int .i64 x.mass, .int .i64 x.iner, .int .i64 x.bounce, .int .i64 x.rub, .slice A2 n2 c2, .bool x.asleep, .int .i64 x.calm], .int .i64 65536] w3 (RetBody y l w3)) := by
    have h := hmv
    simp only [bodyV, v1, v2] at h
    exact h
  have hfld : ∀ (w : World) (A : Option Addr) (n c : Nat), (Instr.field 39 (bodyV y A n c) 0).run Try.prog w = .ok (vecV y.px y.py) w := fun w A n c => by kernel_rfl
  rw [y1, y2] at hfld
  clear v1 v2 y1 y2 hmv hy e2
  go_wp2_with fail
  refine HM.out.mono ?_
  rintro e w4 ⟨A4, n4, c4, rfl, hs4, hf4, hb4⟩
  have hB4 := keepBelow hb4 hB3
  have hf := hfld w4 A4 n4 c4
  clear hb4 hB3 hfld hs4 hf4
  go_wp2
  go_returns
  exact ret_bool (by simp) hB4

end Go.Proofs.Ytmkmmblgmldilaa
