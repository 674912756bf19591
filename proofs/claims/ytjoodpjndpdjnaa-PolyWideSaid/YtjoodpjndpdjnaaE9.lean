/- The contract of the reference's Big.Over. -/
import Derived.Test.YtjoodpjndpdjnaaE8
namespace Go.Proofs.Ytjoodpjndpdjnaa
set_option linter.unusedVariables false
set_option linter.unusedSimpArgs false
open Go.RowKit

theorem over_floor {W n : Int} (hn : n ≠ 0) {z m : Int} (h : z / m = rnd W n) : overQ W n = floorQ z m ∧ overE W n = if floorOk z m = true then 0 else 2 := by
  unfold overQ overE floorQ floorOk
  rw [h, if_neg hn, if_neg hn]
  by_cases c : -9223372036854775808 ≤ rnd W n ∧ rnd W n ≤ 9223372036854775807
  · rw [decide_eq_true c, if_pos c, if_pos c]; simp
  · rw [decide_eq_false c, if_neg c, if_neg c]; simp
theorem floorQ_not {z m : Int} (h : floorOk z m = false) : floorQ z m = 0 := by unfold floorQ; rw [h]; simp

set_option maxRecDepth 100000 in
set_option maxHeartbeats 4000000 in
theorem bover_calls (W n : Int) (h1 : -42535295865117307932921825928971026432 ≤ W) (h2 : W ≤ 42535295865117307932921825928971026432) (h3 : -2305843009213693952 ≤ n) (h4 : n ≤ 2305843009213693952) (w : World) :
    Calls Try.prog 45 #[bigV W, .int .i64 n] w (Ret (.tuple #[.int .i64 (overQ W n), .int .i64 (overE W n)]) w) := by
  have R := hid (And.intro h1 h2)
  clear h1 h2
  by_cases hn0 : n = 0
  · subst hn0
    have e1 : Hid (overQ W 0 = 0) := by simp [overQ, Hid]
    have e2 : Hid (overE W 0 = 17) := by simp [overE, Hid]
    go_enter Try.func45, Try.ntmps45
    go_wp2
    go_returns
    exact ret_val (by rw [e1.out, e2.out]; rfl) (by go_grown)
  · have hA : Blk8 (w.alloc (.cells (#[.int .u32 (digs W 0), .int .u32 (digs W 1), .int .u32 (digs W 2), .int .u32 (digs W 3), .int .u32 (digs W 4), .int .u32 (digs W 5), .int .u32 (digs W 6), .int .u32 (digs W 7)]) 52)) w.heap.size (digs W) := Blk8.here w _ (digs W)
    have HA := hid hA
    have hne : (n == 0) = false := by simpa using hn0
    clear hA
    by_cases hneg : n < 0
    · obtain ⟨V, hV⟩ : ∃ V, V = -W := ⟨_, rfl⟩
      obtain ⟨m, hm⟩ : ∃ m, m = -n := ⟨_, rfl⟩
      have hr : (V + V + m) / (2 * m) = rnd W n := by rw [rnd, if_pos hneg, hV, hm]; congr 1; omega
      obtain ⟨eq, ee⟩ := over_floor hn0 hr
      have EQ := hid eq
      have EE := hid ee
      have hmb : 0 < m ∧ m ≤ 2305843009213693952 := by omega
      have HV := hid hV
      have HM := hid hm
      have RV : Hid (-42535295865117307932921825928971026432 ≤ V ∧ V ≤ 42535295865117307932921825928971026432) := by have := R.out; exact hid (by omega)
      have hmn : -n = m := hm.symm
      clear eq ee hr hV hm
      go_enter Try.func45, Try.ntmps45
      go_wp2_with fail
      refine (neg_calls W _).mono ?_
      rintro e w1 ⟨rfl, hb1⟩
      have hA1 := HA.out.below hb1 HA.out.lt
      have hB1 : Below w.heap.size w w1 := ((Below.refl w.heap.size w).alloc (Nat.le_refl _) _).trans (hb1.mono (by simp))
      obtain ⟨a0, a1, a2, a3, a4, a5, a6, a7⟩ := hA1.all
      have af := hA1.free
      rw [← HV.out]
      go_wp2_with fail
      have hB2 : Below w.heap.size w ((((((((w1.setCell ⟨w.heap.size, 0, none⟩ (.int .u32 (digs V 0))).setCell ⟨w.heap.size, 1, none⟩ (.int .u32 (digs V 1))).setCell ⟨w.heap.size, 2, none⟩ (.int .u32 (digs V 2))).setCell ⟨w.heap.size, 3, none⟩ (.int .u32 (digs V 3))).setCell ⟨w.heap.size, 4, none⟩ (.int .u32 (digs V 4))).setCell ⟨w.heap.size, 5, none⟩ (.int .u32 (digs V 5))).setCell ⟨w.heap.size, 6, none⟩ (.int .u32 (digs V 6))).setCell ⟨w.heap.size, 7, none⟩ (.int .u32 (digs V 7))) := by go_grown
      generalize (((((((w1.setCell ⟨w.heap.size, 0, none⟩ (.int .u32 (digs V 0))).setCell ⟨w.heap.size, 1, none⟩ (.int .u32 (digs V 1))).setCell ⟨w.heap.size, 2, none⟩ (.int .u32 (digs V 2))).setCell ⟨w.heap.size, 3, none⟩ (.int .u32 (digs V 3))).setCell ⟨w.heap.size, 4, none⟩ (.int .u32 (digs V 4))).setCell ⟨w.heap.size, 5, none⟩ (.int .u32 (digs V 5))).setCell ⟨w.heap.size, 6, none⟩ (.int .u32 (digs V 6))).setCell ⟨w.heap.size, 7, none⟩ (.int .u32 (digs V 7)) = w2 at *
      clear a0 a1 a2 a3 a4 a5 a6 a7 af hA1 hb1 hB1 HA
      refine (twice_calls V _).mono ?_
      rintro e w3 ⟨rfl, hb3⟩
      have hB3 := keepBelow hb3 hB2
      go_wp2_with fail
      refine (of_calls m (by omega) (by omega) _).mono ?_
      rintro e w4 ⟨rfl, hb4⟩
      have hB4 := keepBelow hb4 hB3
      go_wp2_with fail
      refine (add_calls (V + V) m _).mono ?_
      rintro e w5 ⟨rfl, hb5⟩
      have hB5 := keepBelow hb5 hB4
      go_wp2_with fail
      refine (bfloor_calls (V + V + m) (2 * m) (by have := RV.out; omega) (by have := RV.out; omega) (by omega) (by omega) _).mono ?_
      rintro e w6 ⟨rfl, hb6⟩
      have hB6 := keepBelow hb6 hB5
      cases hok : floorOk (V + V + m) (2 * m) with
      | true =>
        have HOK := hid hok
        clear hok
        go_wp2
        go_returns
        exact ret_val (by rw [EQ.out, EE.out, if_pos HOK.out]; rfl) hB6
      | false =>
        have HOK := hid hok
        clear hok
        go_wp2
        go_returns
        exact ret_val (by rw [EQ.out, EE.out, floorQ_not HOK.out, HOK.out]; rfl) hB6
    · have hr : (W + W + n) / (2 * n) = rnd W n := by rw [rnd, if_neg hneg]; congr 1; omega
      obtain ⟨eq, ee⟩ := over_floor hn0 hr
      have EQ := hid eq
      have EE := hid ee
      obtain ⟨a0, a1, a2, a3, a4, a5, a6, a7⟩ := HA.out.all
      have hB2 : Below w.heap.size w (w.alloc (.cells (#[.int .u32 (digs W 0), .int .u32 (digs W 1), .int .u32 (digs W 2), .int .u32 (digs W 3), .int .u32 (digs W 4), .int .u32 (digs W 5), .int .u32 (digs W 6), .int .u32 (digs W 7)]) 52)) := by go_grown
      clear eq ee hr
      go_enter Try.func45, Try.ntmps45
      go_wp2_with fail
      refine (twice_calls W _).mono ?_
      rintro e w3 ⟨rfl, hb3⟩
      have hB3 := keepBelow hb3 hB2
      go_wp2_with fail
      refine (of_calls n (by omega) (by omega) _).mono ?_
      rintro e w4 ⟨rfl, hb4⟩
      have hB4 := keepBelow hb4 hB3
      go_wp2_with fail
      refine (add_calls (W + W) n _).mono ?_
      rintro e w5 ⟨rfl, hb5⟩
      have hB5 := keepBelow hb5 hB4
      go_wp2_with fail
      refine (bfloor_calls (W + W + n) (2 * n) (by have := R.out; omega) (by have := R.out; omega) (by omega) (by omega) _).mono ?_
      rintro e w6 ⟨rfl, hb6⟩
      have hB6 := keepBelow hb6 hB5
      cases hok : floorOk (W + W + n) (2 * n) with
      | true =>
        have HOK := hid hok
        clear hok
        go_wp2
        go_returns
        exact ret_val (by rw [EQ.out, EE.out, if_pos HOK.out]; rfl) hB6
      | false =>
        have HOK := hid hok
        clear hok
        go_wp2
        go_returns
        exact ret_val (by rw [EQ.out, EE.out, floorQ_not HOK.out, HOK.out]; rfl) hB6

end Go.Proofs.Ytjoodpjndpdjnaa
