/- Contracts of poly.Wide: Plus, Minus, Times, Cmp. -/
import Derived.Test.YtjoodpjndpdjnaaM2
import Derived.Test.YtjoodpjndpdjnaaB0
import Derived.Shelf.Spec.BitsCarry
namespace Go.Proofs.Ytjoodpjndpdjnaa
set_option linter.unusedVariables false
set_option linter.unusedSimpArgs false
open Go.RowKit

theorem ext_add64 (x y : Int) (hx : 0 ≤ x) (hy : 0 ≤ y) (w : World) : (callFunc 79 #[.int .u64 x, .int .u64 y, .int .u64 0]).run Try.prog w =
    .ok (.value (.tuple #[.int .u64 ((x + y) % 18446744073709551616), .int .u64 ((x + y) / 18446744073709551616)])) w := by
  have h := run_add64 (P := Try.prog) x y 0 hx hy (Int.le_refl 0) (by decide) w
  rw [Int.add_zero] at h
  rw [run_callFunc_extern Try.func79 (by kernel_rfl) (by kernel_rfl) (by kernel_rfl) (e := add64Entry) (by kernel_rfl), h]
  rfl
/-- the borrow -/
def bor (x y : Int) : Int := if x < y then 1 else 0
theorem ext_sub64 (x y : Int) (hx : 0 ≤ x) (hy : 0 ≤ y) (hy' : y < 18446744073709551616) (w : World) : (callFunc 80 #[.int .u64 x, .int .u64 y, .int .u64 0]).run Try.prog w =
    .ok (.value (.tuple #[.int .u64 ((x - y) % 18446744073709551616), .int .u64 (bor x y)])) w := by
  obtain ⟨x, rfl⟩ := Int.eq_ofNat_of_zero_le hx
  obtain ⟨y, rfl⟩ := Int.eq_ofNat_of_zero_le hy
  have e1 : (((x + 18446744073709551616 - y - 0) % 18446744073709551616 : Nat) : Int) = ((x : Int) - y) % 18446744073709551616 := by omega
  have e2 : ((if x < y + 0 then 1 else 0 : Nat) : Int) = bor x y := by unfold bor; split <;> split <;> omega
  have h := run_sub64 (P := Try.prog) x y 0 (by omega) w
  rw [e1, e2] at h
  rw [run_callFunc_extern Try.func80 (by kernel_rfl) (by kernel_rfl) (by kernel_rfl) (e := sub64Entry) (by kernel_rfl)]
  rw [show (sub64Entry #[.int .u64 (x : Int), .int .u64 (y : Int), .int .u64 0]).run Try.prog w = _ from h]
  rfl

set_option maxRecDepth 100000 in
theorem plus_calls (a b : Int) (w : World) : Calls Try.prog 32 #[wideV a, wideV b] w (Ret (wideV (a + b)) w) := by
  obtain ⟨ha, ha'⟩ := loW_bd a
  obtain ⟨hb, hb'⟩ := loW_bd b
  have e1 := hid (plus_lo a b)
  have e2 := hid (plus_hi a b)
  go_enter Try.func32, Try.ntmps32
  go_wp2_with (simp only [ext_add64 (loW a) (loW b) ha hb])
  refine bodyPost_ret (v := wideV (a + b)) (by simp [results, Try.results32, go_sem, e1.out, e2.out]) rfl ⟨rfl, ?_⟩
  go_grown

set_option maxRecDepth 100000 in
theorem minus_calls (a b : Int) (w : World) : Calls Try.prog 33 #[wideV a, wideV b] w (Ret (wideV (a - b)) w) := by
  obtain ⟨ha, ha'⟩ := loW_bd a
  obtain ⟨hb, hb'⟩ := loW_bd b
  have e1 := hid (minus_lo a b)
  have e2 : Hid (wrap64 (wrap64 (hiW a - hiW b) - bor (loW a) (loW b)) = hiW (a - b)) := minus_hi a b
  have hbo : 0 ≤ bor (loW a) (loW b) := by unfold bor; split <;> omega
  have hbo' : bor (loW a) (loW b) ≤ 1 := by unfold bor; split <;> omega
  go_enter Try.func33, Try.ntmps33
  go_wp2_with (simp only [ext_sub64 (loW a) (loW b) ha hb hb'])
  refine bodyPost_ret (v := wideV (a - b)) (by simp [results, Try.results33, go_sem, e1.out, e2.out]) rfl ⟨rfl, ?_⟩
  go_grown

theorem mul64_int (x y : Int) (hx : 0 ≤ x) (hx' : x < 18446744073709551616) (hy : 0 ≤ y) (hy' : y < 18446744073709551616) (w : World) :
    Calls Try.prog 78 #[.int .u64 x, .int .u64 y] w fun e w' => e = .returned (.tuple #[.int .u64 (x * y / 18446744073709551616), .int .u64 (x * y % 18446744073709551616)]) ∧ w' = w := by
  obtain ⟨x, rfl⟩ := Int.eq_ofNat_of_zero_le hx
  obtain ⟨y, rfl⟩ := Int.eq_ofNat_of_zero_le hy
  have h := bits_Mul64 x y (by omega) (by omega) w
  simpa using h

/-- the product of two words, and what is subtracted from its high half -/
def tp (a b : Int) : Int := (a % 18446744073709551616) * (b % 18446744073709551616)
theorem tp_of (a b : Int) (h1 : -9223372036854775808 ≤ a) (h2 : a ≤ 9223372036854775807) (h3 : -9223372036854775808 ≤ b) (h4 : b ≤ 9223372036854775807) :
    tp a b = a * b + (if a < 0 then b else 0) * 18446744073709551616 + (if b < 0 then a else 0) * 18446744073709551616 + (if a < 0 ∧ b < 0 then 340282366920938463463374607431768211456 else 0) := by
  unfold tp
  have ea : a % 18446744073709551616 = a + (if a < 0 then 18446744073709551616 else 0) := by split <;> omega
  have eb : b % 18446744073709551616 = b + (if b < 0 then 18446744073709551616 else 0) := by split <;> omega
  rw [ea, eb]
  by_cases ha : a < 0 <;> by_cases hb : b < 0 <;> simp only [ha, hb, if_true, if_false, and_true, and_false, true_and, false_and] <;> grind

set_option maxRecDepth 100000 in
theorem times_calls (a b : Int) (h1 : -9223372036854775808 ≤ a) (h2 : a ≤ 9223372036854775807) (h3 : -9223372036854775808 ≤ b) (h4 : b ≤ 9223372036854775807) (w : World) :
    Calls Try.prog 31 #[.int .i64 a, .int .i64 b] w (Ret (wideV (a * b)) w) := by
  have ht := tp_of a b h1 h2 h3 h4
  have HT := hid ht
  clear ht
  go_enter Try.func31, Try.ntmps31
  go_wp2_with (go_at_call 78; rw [IntKind.wrap_u64, IntKind.wrap_u64]; refine (mul64_int _ _ (by omega) (by omega) (by omega) (by omega) _).mono ?_; rintro e w1 ⟨rfl, hw⟩; rw [hw, show (a % 18446744073709551616) * (b % 18446744073709551616) = tp a b from rfl])
  all_goals
    refine bodyPost_ret (v := wideV (a * b)) ?_ rfl ⟨rfl, by go_grown⟩
    have ht := HT.out
    generalize tp a b = T at *
    generalize a * b = P at *
    simp [results, Try.results31, go_sem]
    unfold hiW loW wrap64
    clear HT hw
    split at ht <;> split at ht <;> (try split at ht) <;> constructor <;> omega

/-- comparing two numbers of 128 bits -/
def cmpW (ah al bh bl : Int) : Int := if ah = bh ∧ al = bl then 0 else if ah < bh ∨ ah = bh ∧ al < bl then -1 else 1

set_option maxRecDepth 100000 in
theorem wcmp_any (ah al bh bl : Int) (w : World) :
    Calls Try.prog 29 #[.agg #[.int .i64 ah, .int .u64 al], .agg #[.int .i64 bh, .int .u64 bl]] w (Ret (.int .i64 (cmpW ah al bh bl)) w) := by
  by_cases e1 : ah = bh
  · subst e1
    by_cases e2 : al = bl
    · subst e2
      go_enter Try.func29, Try.ntmps29
      go_wp2
      go_returns
      exact ret_int (by simp [cmpW]) (by go_grown)
    · have e3 : (al == bl) = false := by simp [e2]
      have E2 := hid e2
      clear e2
      by_cases hlt : al < bl
      · go_enter Try.func29, Try.ntmps29
        go_wp2
        go_returns
        have := E2.out
        exact ret_int (by simp [cmpW, this, hlt]) (by go_grown)
      · go_enter Try.func29, Try.ntmps29
        go_wp2
        go_returns
        have := E2.out
        exact ret_int (by simp [cmpW, this]; omega) (by go_grown)
  · have e3 : (ah == bh) = false := by simp [e1]
    have E1 := hid e1
    clear e1
    by_cases hlt : ah < bh
    · go_enter Try.func29, Try.ntmps29
      go_wp2
      go_returns
      have := E1.out
      exact ret_int (by simp [cmpW, this, hlt]) (by go_grown)
    · go_enter Try.func29, Try.ntmps29
      go_wp2
      go_returns
      have := E1.out
      exact ret_int (by simp [cmpW, this]; omega) (by go_grown)

theorem wcmp_calls (a b : Int) (h1 : -170141183460469231731687303715884105728 ≤ a) (h2 : a < 170141183460469231731687303715884105728) (h3 : -170141183460469231731687303715884105728 ≤ b) (h4 : b < 170141183460469231731687303715884105728) (w : World) :
    Calls Try.prog 29 #[wideV a, wideV b] w (Ret (.int .i64 (if a < b then -1 else if a = b then 0 else 1)) w) := by
  have h := wcmp_any (hiW a) (loW a) (hiW b) (loW b) w
  have ea := wide_of h1 h2
  have eb := wide_of h3 h4
  have la := loW_bd a
  have lb := loW_bd b
  have e : cmpW (hiW a) (loW a) (hiW b) (loW b) = if a < b then -1 else if a = b then 0 else 1 := by
    unfold cmpW
    generalize hiW a = p at *
    generalize hiW b = q at *
    generalize loW a = r at *
    generalize loW b = s at *
    by_cases c1 : a < b
    · rw [if_pos c1, if_neg (by omega), if_pos (by omega)]
    · rw [if_neg c1]
      by_cases c2 : a = b
      · rw [if_pos c2, if_pos (by omega)]
      · rw [if_neg c2, if_neg (by omega), if_neg (by omega)]
  rwa [e] at h

end Go.Proofs.Ytjoodpjndpdjnaa
