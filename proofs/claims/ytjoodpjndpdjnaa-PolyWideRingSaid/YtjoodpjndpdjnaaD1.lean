/- The walk of the law PolyWideRing. -/
import Derived.Test.YtjoodpjndpdjnaaB3
import Derived.Test.YtjoodpjndpdjnaaR0
namespace Go.Proofs.Ytjoodpjndpdjnaa
set_option linter.unusedVariables false
set_option linter.unusedSimpArgs false
open Go.RowKit

theorem plus_x (a b : Int) (w : World) : Calls Try.prog 32 #[.agg #[.int .i64 (hiW a), .int .u64 (loW a)], .agg #[.int .i64 (hiW b), .int .u64 (loW b)]] w (Ret (.agg #[.int .i64 (hiW (a + b)), .int .u64 (loW (a + b))]) w) := plus_calls a b w
theorem minus_x (a b : Int) (w : World) : Calls Try.prog 33 #[.agg #[.int .i64 (hiW a), .int .u64 (loW a)], .agg #[.int .i64 (hiW b), .int .u64 (loW b)]] w (Ret (.agg #[.int .i64 (hiW (a - b)), .int .u64 (loW (a - b))]) w) := minus_calls a b w
theorem times_x (a b : Int) (h1 : -9223372036854775808 ≤ a) (h2 : a ≤ 9223372036854775807) (h3 : -9223372036854775808 ≤ b) (h4 : b ≤ 9223372036854775807) (w : World) : Calls Try.prog 31 #[.int .i64 a, .int .i64 b] w (Ret (.agg #[.int .i64 (hiW (a * b)), .int .u64 (loW (a * b))]) w) := times_calls a b h1 h2 h3 h4 w
theorem wcmp_x (a b : Int) (h1 : -170141183460469231731687303715884105728 ≤ a) (h2 : a < 170141183460469231731687303715884105728) (h3 : -170141183460469231731687303715884105728 ≤ b) (h4 : b < 170141183460469231731687303715884105728) (w : World) : Calls Try.prog 29 #[.agg #[.int .i64 (hiW a), .int .u64 (loW a)], .agg #[.int .i64 (hiW b), .int .u64 (loW b)]] w (Ret (.int .i64 (if a < b then -1 else if a = b then 0 else 1)) w) := wcmp_calls a b h1 h2 h3 h4 w
theorem over_x (W n : Int) (h1 : -170141183460469231731687303715884105728 ≤ W) (h2 : W < 170141183460469231731687303715884105728) (h3 : -9223372036854775808 ≤ n) (h4 : n ≤ 9223372036854775807) (w : World) : Calls Try.prog 34 #[.agg #[.int .i64 (hiW W), .int .u64 (loW W)], .int .i64 n] w (Ret (.tuple #[.int .i64 (overQ W n), .int .i64 (overE W n)]) w) := over_calls W n h1 h2 h3 h4 w

/-- a product divided by a factor -/
theorem over_prod {a b : Int} (hb : b ≠ 0) (h1 : -9223372036854775808 ≤ a) (h2 : a ≤ 9223372036854775807) : overQ (a * b) b = a ∧ overE (a * b) b = 0 := by
  refine over_ok hb ?_ h1 h2
  unfold rnd
  split
  · have e : 2 * -(a * b) + -b = -b + a * (2 * -b) := by grind
    rw [e, Int.add_mul_ediv_right _ _ (by omega), Int.ediv_eq_zero_of_lt (by omega) (by omega)]
    omega
  · have e : 2 * (a * b) + b = b + a * (2 * b) := by grind
    rw [e, Int.add_mul_ediv_right _ _ (by omega), Int.ediv_eq_zero_of_lt (by omega) (by omega)]
    omega

theorem tmod40 (a : Int) : -1099511627776 < a.tmod 1099511627776 ∧ a.tmod 1099511627776 < 1099511627776 := by
  have h1 := Int.tmod_lt_of_pos a (show (0 : Int) < 1099511627776 by decide)
  have h2 := Int.lt_tmod_of_pos a (show (0 : Int) < 1099511627776 by decide)
  omega

theorem prod40 {x y : Int} (h1 : -1099511627776 ≤ x) (h2 : x ≤ 1099511627776) (h3 : -1099511627776 ≤ y) (h4 : y ≤ 1099511627776) : -1208925819614629174706176 ≤ x * y ∧ x * y ≤ 1208925819614629174706176 := by
  have a1 := Int.mul_nonneg (show 0 ≤ 1099511627776 - x by omega) (show 0 ≤ 1099511627776 + y by omega)
  have a2 := Int.mul_nonneg (show 0 ≤ 1099511627776 + x by omega) (show 0 ≤ 1099511627776 - y by omega)
  have a3 := Int.mul_nonneg (show 0 ≤ 1099511627776 - x by omega) (show 0 ≤ 1099511627776 - y by omega)
  have a4 := Int.mul_nonneg (show 0 ≤ 1099511627776 + x by omega) (show 0 ≤ 1099511627776 + y by omega)
  simp only [Int.sub_mul, Int.mul_sub, Int.add_mul, Int.mul_add] at a1 a2 a3 a4
  omega

attribute [local irreducible] hiW loW

set_option maxRecDepth 100000 in
set_option maxHeartbeats 2000000 in
theorem polyWideRing_walk (zv zw a b c : Int) (w : World) :
    Calls Try.prog 6 #[wideV zv, wideV zw, .int .i64 a, .int .i64 b, .int .i64 c] w (Ret (.bool true) w) := by
  obtain ⟨ax, ax'⟩ := tmod40 a
  obtain ⟨ay, ay'⟩ := tmod40 b
  obtain ⟨az, az'⟩ := tmod40 c
  obtain ⟨x, hx⟩ : ∃ x, x = a.tmod 1099511627776 := ⟨_, rfl⟩
  obtain ⟨y, hy⟩ : ∃ x, x = b.tmod 1099511627776 := ⟨_, rfl⟩
  obtain ⟨z, hz⟩ : ∃ x, x = c.tmod 1099511627776 := ⟨_, rfl⟩
  rw [← hx] at ax ax'
  rw [← hy] at ay ay'
  rw [← hz] at az az'
  have ex : IntKind.i64.wrap (a.tmod 1099511627776) = x := by rw [← hx]; exact IntWalk.i64_in _ (by omega)
  have ey : IntKind.i64.wrap (b.tmod 1099511627776) = y := by rw [← hy]; exact IntWalk.i64_in _ (by omega)
  have ez : IntKind.i64.wrap (c.tmod 1099511627776) = z := by rw [← hz]; exact IntWalk.i64_in _ (by omega)
  have ex' : a.tmod 1099511627776 = x := hx.symm
  have ey' : b.tmod 1099511627776 = y := hy.symm
  have ez' : c.tmod 1099511627776 = z := hz.symm
  clear hx hy hz
  have eyz : IntKind.i64.wrap (y + z) = y + z := IntWalk.i64_in _ (by omega)
  have p1 := prod40 (x := x) (y := y) (by omega) (by omega) (by omega) (by omega)
  have P1 := hid p1
  clear p1
  have hB0 : Below w.heap.size w ((w.alloc (.cells #[.int .i64 (hiW zv), .int .u64 (loW zv)] 40)).alloc (.cells #[.int .i64 (hiW zw), .int .u64 (loW zw)] 40)) := by go_grown
  have HB0 := hid hB0
  clear hB0
  go_enter Try.func6, Try.ntmps6
  go_upto_region 4 with (first | (go_at_call 31; refine (times_x _ _ (by omega) (by omega) (by omega) (by omega) _).mono ?_; rintro e w1 ⟨rfl, hb1⟩; have hBx : Below w.heap.size w w1 := keepBelow hb1 (by first | exact HB0.out | assumption); have k1 : w1.cell? ⟨w.heap.size, 0, none⟩ = some (.int .i64 (hiW zv)) := keepCell hb1 (by first | assumption | go_simp); have k2 : w1.cell? ⟨w.heap.size, 1, none⟩ = some (.int .u64 (loW zv)) := keepCell hb1 (by first | assumption | go_simp); have k3 : w1.cell? ⟨w.heap.size + 1, 0, none⟩ = some (.int .i64 (hiW zw)) := keepCell hb1 (by first | assumption | go_simp); have k4 : w1.cell? ⟨w.heap.size + 1, 1, none⟩ = some (.int .u64 (loW zw)) := keepCell hb1 (by first | assumption | go_simp)) | (go_at_call 29; refine (wcmp_x _ _ (by decide) (by decide) (by decide) (by decide) _).mono ?_; rintro e w1 ⟨rfl, hb1⟩; have hBx : Below w.heap.size w w1 := keepBelow hb1 (by first | exact HB0.out | assumption); have k1 : w1.cell? ⟨w.heap.size, 0, none⟩ = some (.int .i64 (hiW zv)) := keepCell hb1 (by first | assumption | go_simp); have k2 : w1.cell? ⟨w.heap.size, 1, none⟩ = some (.int .u64 (loW zv)) := keepCell hb1 (by first | assumption | go_simp); have k3 : w1.cell? ⟨w.heap.size + 1, 0, none⟩ = some (.int .i64 (hiW zw)) := keepCell hb1 (by first | assumption | go_simp); have k4 : w1.cell? ⟨w.heap.size + 1, 1, none⟩ = some (.int .u64 (loW zw)) := keepCell hb1 (by first | assumption | go_simp)))
  obtain ⟨wa, hwa⟩ : ∃ wa, wa = w1 := ⟨_, rfl⟩
  have s1 : w1.drew.cell? ⟨w.heap.size, 0, none⟩ = some (.int .i64 (hiW zv)) ∧ w1.drew.cell? ⟨w.heap.size, 1, none⟩ = some (.int .u64 (loW zv)) ∧ w1.drew.cell? ⟨w.heap.size + 1, 0, none⟩ = some (.int .i64 (hiW zw)) ∧ w1.drew.cell? ⟨w.heap.size + 1, 1, none⟩ = some (.int .u64 (loW zw)) ∧ Below w.heap.size w w1.drew := ⟨k1, k2, k3, k4, hBx.drew⟩
  have S1 := hid s1
  clear s1
  go_region_held3 (fun w' => w'.cell? ⟨w.heap.size, 0, none⟩ = some (.int .i64 (hiW zv)) ∧ w'.cell? ⟨w.heap.size, 1, none⟩ = some (.int .u64 (loW zv)) ∧ w'.cell? ⟨w.heap.size + 1, 0, none⟩ = some (.int .i64 (hiW zw)) ∧ w'.cell? ⟨w.heap.size + 1, 1, none⟩ = some (.int .u64 (loW zw)) ∧ Below w.heap.size w w')
    (first | with_reducible exact S1.out | (go_split_ands; with_reducible exact ⟨keepCell hb3 (by assumption), keepCell hb3 (by assumption), keepCell hb3 (by assumption), keepCell hb3 (by assumption), keepBelow hb3 (by assumption)⟩))
    (first | (go_at_call 32; (first | ((with_reducible refine (plus_x zv zw _).mono ?_); rintro e w3 ⟨rfl, hb3⟩) | ((with_reducible refine (plus_x (zv - zw) zw _).mono ?_); rintro e w3 ⟨rfl, hb3⟩; rw [show zv - zw + zw = zv by omega]) | ((with_reducible refine (plus_x zw zv _).mono ?_); rintro e w3 ⟨rfl, hb3⟩; rw [Int.add_comm zw zv]) | ((with_reducible refine (plus_x (x * y) (x * z) _).mono ?_); rintro e w3 ⟨rfl, hb3⟩; rw [← Int.mul_add x y z]))) | (go_at_call 33; (first | ((with_reducible refine (minus_x (zv + zw) zw _).mono ?_); rintro e w3 ⟨rfl, hb3⟩; rw [show zv + zw - zw = zv by omega]) | ((with_reducible refine (minus_x zv zw _).mono ?_); rintro e w3 ⟨rfl, hb3⟩))) | (go_at_call 31; (first | ((with_reducible refine (times_x x (y + z) (by omega) (by omega) (by omega) (by omega) _).mono ?_); rintro e w3 ⟨rfl, hb3⟩) | ((with_reducible refine (times_x x (IntKind.i64.wrap (y + z)) (by omega) (by omega) (by omega) (by omega) _).mono ?_); rintro e w3 ⟨rfl, hb3⟩; rw [eyz]) | ((with_reducible refine (times_x x y (by omega) (by omega) (by omega) (by omega) _).mono ?_); rintro e w3 ⟨rfl, hb3⟩) | ((with_reducible refine (times_x x z (by omega) (by omega) (by omega) (by omega) _).mono ?_); rintro e w3 ⟨rfl, hb3⟩))))
  go_split_ands
  by_cases hy : y = 0
  · have hyb : (y == 0) = true := by rw [beq_iff_eq]; exact hy
    have HO : Hid (overQ (x * y) y = 0 ∧ overE (x * y) y = 17) := hid (by rw [hy]; simp [overQ, overE])
    clear hy
    go_wp2_with (first | (go_at_call 31; refine (times_x x y (by omega) (by omega) (by omega) (by omega) _).mono ?_; rintro e w4 ⟨rfl, hb4⟩) | (go_at_call 34; refine (over_x (x * y) y (by have := P1.out; omega) (by have := P1.out; omega) (by omega) (by omega) _).mono ?_; rintro e w5 ⟨rfl, hb5⟩; rw [HO.out.1, HO.out.2]))
    go_returns
    exact ret_bool (by simp) ((keepBelow hb4 (by assumption)).trans (hb5.mono (by have := hb4.size; have h3 : Below w.heap.size w w3 := (by assumption); have := h3.size; omega)))
  · have hyb : (y == 0) = false := by rw [beq_eq_false_iff_ne]; exact hy
    have HO : Hid (overQ (x * y) y = x ∧ overE (x * y) y = 0) := hid (over_prod hy (by omega) (by omega))
    go_wp2_with (first | (go_at_call 31; refine (times_x x y (by omega) (by omega) (by omega) (by omega) _).mono ?_; rintro e w4 ⟨rfl, hb4⟩) | (go_at_call 34; refine (over_x (x * y) y (by have := P1.out; omega) (by have := P1.out; omega) (by omega) (by omega) _).mono ?_; rintro e w5 ⟨rfl, hb5⟩; rw [HO.out.1, HO.out.2]))
    go_returns
    exact ret_bool (by simp) ((keepBelow hb4 (by assumption)).trans (hb5.mono (by have := hb4.size; have h3 : Below w.heap.size w w3 := (by assumption); have := h3.size; omega)))

end Go.Proofs.Ytjoodpjndpdjnaa
