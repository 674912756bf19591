/- Parts of a proof: contracts and laws. -/
import Derived.Test.YtiaoandbdgdecaaGreatPM20
namespace Go.Proofs.YtiaoandbdgdecaaGreat
section
set_option linter.unusedVariables false
set_option linter.unusedSimpArgs false
open Go.RowKit

def bitK : Nat → Nat
 | 0 => 0
 | k + 1 => 2 ^ k
theorem bitK_half (k : Nat) : 2 ^ k / 2 = bitK k := by
 cases k with
 | zero => rfl
 | succ k => rw [Nat.pow_succ]; show _ = 2 ^ k; omega
theorem or_bit (q k : Nat) : (q * (2 * 2 ^ k)) ||| 2 ^ k = q * (2 * 2 ^ k) + 2 ^ k := by
 have h := Nat.two_pow_add_eq_or_of_lt (i := k + 1) (b := 2 ^ k) (by rw [Nat.pow_succ]; have := Nat.two_pow_pos k; omega) q
 rw [show (2 : Nat) ^ (k + 1) = 2 * 2 ^ k by rw [Nat.pow_succ]; omega, Nat.mul_comm] at h
 exact h.symm
set_option maxRecDepth 100000 in
set_option maxHeartbeats 4000000 in
theorem froot_calls (hi lo : Int) (h0 : 0 ≤ hi) (h1 : hi < 18446744073709551616) (l0 : 0 ≤ lo) (l1 : lo < 18446744073709551616) (w : World) :
  Calls Tryz.prog 192 #[.int .u64 hi, .int .u64 lo] w (Ret (.int .u64 (rootZ (hi * 18446744073709551616 + lo))) w) := by
 obtain ⟨n, hn⟩ : ∃ n, n = hi * 18446744073709551616 + lo := ⟨_, rfl⟩
 rw [← hn]
 go_enter Tryz.func192, Tryz.ntmps192
 go_wp2
 go_loopw [5, 6] (fun o b wr => ∃ (k q : Nat), k ≤ 64 ∧ o = .int .u64 ((q * 2 ^ k : Nat) : Int) ∧ b = .int .u64 ((bitK k : Nat) : Int) ∧ q * 2 ^ k + 2 ^ k ≤ 18446744073709551616 ∧ rootB n k ((q * 2 ^ k : Nat) : Int) = rootZ n ∧ Below w.heap.size w wr) (fun _ b _ => (intOf b).toNat)
 case atStart => exact ⟨64, 0, by omega, by simp, by simp [bitK], by decide, by simp [rootZ], Below.refl _ _⟩
 case round =>
  obtain ⟨k, q, hk, rfl, rfl, hle, hroot, hB⟩ := hrel
  obtain ⟨wo, rfl⟩ : ∃ wo : World, wo = wr := ⟨_, rfl⟩
  have HR := hid hroot
  clear hroot
  cases k with
  | zero =>
   have e0 : ((bitK 0 : Nat) : Int) = 0 := rfl
   have HQ : Hid (rootZ n = ((q * 2 ^ 0 : Nat) : Int)) := by show _ = _; rw [← HR.out]; rfl
   generalize ((q * 2 ^ 0 : Nat) : Int) = a at *
   rw [e0]
   clear HR hle
   go_wp2
   go_returns
   exact ret_int HQ.out.symm hB
  | succ k =>
   obtain ⟨P, hP⟩ : ∃ P, P = 2 ^ k := ⟨_, rfl⟩
   have hp0 : 0 < P := by rw [hP]; exact Nat.two_pow_pos k
   have e2 : 2 ^ (k + 1) = 2 * P := by rw [Nat.pow_succ, hP]; omega
   have eb : bitK (k + 1) = P := by rw [hP]; rfl
   have ehalf : P / 2 = bitK k := by rw [hP]; exact bitK_half k
   have eor := or_bit q k
   rw [← hP] at eor
   rw [e2] at hle HR ⊢
   rw [eb]
   obtain ⟨a, ha⟩ : ∃ a, a = q * (2 * P) := ⟨_, rfl⟩
   rw [← ha] at hle HR eor ⊢
   have hor : bits .or .u64 (a : Int) (P : Int) = ((a + P : Nat) : Int) := by rw [bits_or_u64_nat a P (by omega) (by omega), eor]
   obtain ⟨x, hx⟩ : ∃ x : Int, x = ((a + P : Nat) : Int) := ⟨_, rfl⟩
   rw [← hx] at hor
   have hx0 : 0 ≤ x := by omega
   have hx1 : x < 18446744073709551616 := by omega
   obtain ⟨z, hz⟩ : ∃ z, z = x * x := ⟨_, rfl⟩
   have hz0 : 0 ≤ z := by rw [hz]; exact Int.mul_nonneg hx0 hx0
   have HM := hid (mul64_int x x hx0 hx1 hx0 hx1)
   rw [← hz] at HM
   have HS : Hid (rootB n (k + 1) (a : Int) = if z ≤ n then rootB n k x else rootB n k (a : Int)) := by
    show _ = _
    have ex : (a : Int) + 2 ^ k = x := by rw [hx, hP]; simp
    rw [rootB, ex, ← hz]
   have hpos : (0 : Int) < (P : Int) := by omega
   have hsh : (P : Int) / 2 = ((bitK k : Nat) : Int) := by rw [← ehalf]; omega
   have hA : a = 2 * q * 2 ^ k := by rw [ha, hP, Nat.mul_comm q, Nat.mul_comm 2 q]; rw [Nat.mul_comm (2 * 2 ^ k) q, Nat.mul_comm q 2, Nat.mul_assoc 2 q, Nat.mul_left_comm]
   have hAX : a + P = (2 * q + 1) * 2 ^ k := by rw [Nat.add_mul, Nat.one_mul, ← hA, hP]
   have HK := hid (And.intro hA hAX)
   have HX := hid hx
   have hdq : z / 18446744073709551616 < hi ∨ (z / 18446744073709551616 = hi ∧ z % 18446744073709551616 ≤ lo) ↔ z ≤ n := by omega
   clear hA hAX hx hz eor ehalf e2 eb ha hP
   go_wp2_with fail
   refine (HM.out _).mono ?_
   rintro e w2 ⟨rfl, rfl⟩
   obtain ⟨h, hh⟩ : ∃ h, h = z / 18446744073709551616 := ⟨_, rfl⟩
   obtain ⟨t, ht⟩ : ∃ t, t = z % 18446744073709551616 := ⟨_, rfl⟩
   rw [← hh, ← ht] at hdq ⊢
   by_cases hzn : z ≤ n
   ·have hc := hdq.2 hzn
    have HX1 : Hid (x = (((2 * q + 1) * 2 ^ k : Nat) : Int)) := by show _ = _; rw [← HK.out.2, HX.out]
    have HR1 : Hid (rootB n k (((2 * q + 1) * 2 ^ k : Nat) : Int) = rootZ n) := by show _ = _; rw [← HX1.out, ← HR.out, HS.out, if_pos hzn]
    have HL1 : Hid ((2 * q + 1) * 2 ^ k + 2 ^ k ≤ 18446744073709551616) := by
     show _ ≤ _
     have e := HK.out.2
     have e2 : 2 ^ k = P := by
      have e1 := HK.out.1
      have : a + P = 2 * q * 2 ^ k + 2 ^ k := by rw [e, Nat.add_mul, Nat.one_mul]
      omega
     omega
    clear hdq hzn HK HR HS HM
    rcases hc with hlt | ⟨heq, hle2⟩
    ·clear hh ht
     go_wp2
     go_roundw
     case rel => exact ⟨k, 2 * q + 1, by omega, by rw [HX1.out], rfl, HL1.out, HR1.out, hB⟩
     case measure => simp [intOf]; omega
    ·have e1 : ¬ h < hi := by omega
     have e2 : (h == hi) = true := by simp [heq]
     clear hh ht heq
     go_wp2
     go_roundw
     case rel => exact ⟨k, 2 * q + 1, by omega, by rw [HX1.out], rfl, HL1.out, HR1.out, hB⟩
     case measure => simp [intOf]; omega
   ·have hc : ¬ (h < hi ∨ (h = hi ∧ t ≤ lo)) := fun g => hzn (hdq.1 g)
    have HX1 : Hid ((a : Int) = ((2 * q * 2 ^ k : Nat) : Int)) := by show _ = _; rw [← HK.out.1]
    have HR1 : Hid (rootB n k ((2 * q * 2 ^ k : Nat) : Int) = rootZ n) := by show _ = _; rw [← HX1.out, ← HR.out, HS.out, if_neg hzn]
    have HL1 : Hid (2 * q * 2 ^ k + 2 ^ k ≤ 18446744073709551616) := by
     show _ ≤ _
     have e1 := HK.out.1
     have e : a + P = 2 * q * 2 ^ k + 2 ^ k := by rw [HK.out.2, Nat.add_mul, Nat.one_mul]
     omega
    have e1 : ¬ h < hi := fun g => hc (.inl g)
    clear hdq hzn HK HR HS HM hor
    by_cases heq : h = hi
    ·have e2 : (h == hi) = true := by simp [heq]
     have e3 : ¬ t ≤ lo := fun g => hc (.inr ⟨heq, g⟩)
     clear hh ht heq hc
     go_wp2
     go_roundw
     case rel => exact ⟨k, 2 * q, by omega, by rw [HX1.out], rfl, HL1.out, HR1.out, hB⟩
     case measure => simp [intOf]; omega
    ·have e2 : (h == hi) = false := by simp [heq]
     clear hh ht heq hc
     go_wp2
     go_roundw
     case rel => exact ⟨k, 2 * q, by omega, by rw [HX1.out], rfl, HL1.out, HR1.out, hB⟩
     case measure => simp [intOf]; omega

theorem vmag_calls (a : Int) (h1 : -4611686018427387904 ≤ a) (h2 : a ≤ 4611686018427387904) (w : World) : Calls Tryz.prog 156 #[.int .i64 a] w (Ret (.int .u64 (absZ a)) w) := by
 have w1 : IntKind.i64.wrap (-a) = -a := IntWalk.i64_in _ (by omega)
 obtain ⟨x, hx⟩ : ∃ x, x = absZ a := ⟨_, rfl⟩
 have bx : 0 ≤ x ∧ x ≤ 4611686018427387904 := by rw [hx]; unfold absZ; split <;> omega
 have hrun : ∀ (ts : Array TypeId) (t : TypeId) (w : World), (Builtin.max_ ts t #[.int .i64 a, .int .i64 (-a)]).run Tryz.prog w = .ok (.int .i64 x) w := fun ts t w => by
  rw [run_max_int2, show (if -a > a then -a else a) = absZ a by unfold absZ; split <;> split <;> omega, hx]
 have w2 : IntKind.u64.wrap x = x := IntWalk.u64_in _ (by omega)
 rw [← hx]
 clear hx
 go_enter Tryz.func156, Tryz.ntmps156
 go_wp2
 go_returns
 exact ret_int rfl (Below.refl _ _)
theorem absZ_sq (a : Int) : absZ a * absZ a = a * a := by unfold absZ; split; exact Int.neg_mul_neg a a; rfl
theorem sq_nonneg (a : Int) : 0 ≤ a * a := by rcases Int.le_total 0 a with h | h; exact Int.mul_nonneg h h; exact Int.mul_nonneg_of_nonpos_of_nonpos h h
set_option maxRecDepth 100000 in
set_option maxHeartbeats 4000000 in
theorem vlength_calls (x y : Int) (hx : -4398046511104 ≤ x ∧ x ≤ 4398046511104) (hy : -4398046511104 ≤ y ∧ y ≤ 4398046511104) (w : World) : Calls Tryz.prog 157 #[.int .i64 x, .int .i64 y] w (Ret (.int .i64 (lenZ x y)) w) := by
 have HMX := hid (vmag_calls x (by omega) (by omega))
 have HMY := hid (vmag_calls y (by omega) (by omega))
 obtain ⟨mx, hmx⟩ : ∃ m, m = absZ x := ⟨_, rfl⟩
 obtain ⟨my, hmy⟩ : ∃ m, m = absZ y := ⟨_, rfl⟩
 have bx : 0 ≤ mx ∧ mx ≤ 4398046511104 := by rw [hmx]; unfold absZ; split <;> omega
 have bY : 0 ≤ my ∧ my ≤ 4398046511104 := by rw [hmy]; unfold absZ; split <;> omega
 obtain ⟨A, hA⟩ : ∃ A, A = x * x := ⟨_, rfl⟩
 obtain ⟨B, hB⟩ : ∃ B, B = y * y := ⟨_, rfl⟩
 have HX := hid (mul64_int mx mx (by omega) (by omega) (by omega) (by omega))
 have HY := hid (mul64_int my my (by omega) (by omega) (by omega) (by omega))
 rw [show mx * mx = A by rw [hmx, hA, absZ_sq]] at HX
 rw [show my * my = B by rw [hmy, hB, absZ_sq]] at HY
 have b1 := mul_bd (x := x) (y := x) (M := 4398046511104) (N := 4398046511104) (by omega) (by omega) (by omega) (by omega)
 have b2 := mul_bd (x := y) (y := y) (M := 4398046511104) (N := 4398046511104) (by omega) (by omega) (by omega) (by omega)
 have p1 := sq_nonneg x
 have p2 := sq_nonneg y
 rw [← hA] at b1 p1
 rw [← hB] at b2 p2
 have HL : Hid (lenZ x y = rootZ (A + B)) := by show _ = _; unfold lenZ; rw [hA, hB]
 rw [← hmx] at HMX
 rw [← hmy] at HMY
 clear hmx hmy hA hB
 obtain ⟨r, hr⟩ : ∃ r, r = rootZ (A + B) := ⟨_, rfl⟩
 obtain ⟨r0, r1, r2⟩ := rootZ_spec (n := A + B) (by omega) (by omega)
 rw [← hr] at r0 r1 r2
 have rb : r ≤ 8796093022208 := by
  rcases Int.lt_or_le 8796093022208 r with h | h
  ·have := Int.mul_le_mul (show 8796093022209 ≤ r by omega) (show 8796093022209 ≤ r by omega) (by omega) (by omega)
   omega
  ·exact h
 obtain ⟨a1, ha1⟩ : ∃ a, a = A / 18446744073709551616 := ⟨_, rfl⟩
 obtain ⟨a0, ha0⟩ : ∃ a, a = A % 18446744073709551616 := ⟨_, rfl⟩
 obtain ⟨c1, hc1⟩ : ∃ a, a = B / 18446744073709551616 := ⟨_, rfl⟩
 obtain ⟨c0, hc0⟩ : ∃ a, a = B % 18446744073709551616 := ⟨_, rfl⟩
 rw [← ha1, ← ha0] at HX
 rw [← hc1, ← hc0] at HY
 obtain ⟨s0, hs0⟩ : ∃ s, s = (a0 + c0) % 18446744073709551616 := ⟨_, rfl⟩
 obtain ⟨cy, hcy⟩ : ∃ s, s = (a0 + c0) / 18446744073709551616 := ⟨_, rfl⟩
 obtain ⟨s1, hs1⟩ : ∃ s, s = (a1 + c1 + cy) % 18446744073709551616 := ⟨_, rfl⟩
 have E1 : ∀ w : World, (callFunc 191 #[.int .u64 a0, .int .u64 c0, .int .u64 0]).run Tryz.prog w = .ok (.value (.tuple #[.int .u64 s0, .int .u64 cy])) w := fun w => by
  rw [hs0, hcy]; exact ext_add64 a0 c0 (by omega) (by omega) w
 obtain ⟨ov, hov⟩ : ∃ s, s = (a1 + c1 + cy) / 18446744073709551616 := ⟨_, rfl⟩
 have E2 : ∀ w : World, (callFunc 191 #[.int .u64 a1, .int .u64 c1, .int .u64 cy]).run Tryz.prog w = .ok (.value (.tuple #[.int .u64 s1, .int .u64 ov])) w := fun w => by
  have h := run_add64 (P := Tryz.prog) a1 c1 cy (by omega) (by omega) (by omega) (by omega) w
  rw [run_callFunc_extern Tryz.func191 (by kernel_rfl) (by kernel_rfl) (by kernel_rfl) (e := add64Entry) (by kernel_rfl), h, hs1, hov]
  rfl
 have hsum : s1 * 18446744073709551616 + s0 = A + B := by omega
 have HRT := hid (froot_calls s1 s0 (by omega) (by omega) (by omega) (by omega))
 rw [hsum, ← hr] at HRT
 have wr : IntKind.i64.wrap r = r := IntWalk.i64_in _ (by omega)
 rw [HL.out, ← hr]
 clear HL hr r1 r2 hsum hs0 hs1 hcy hov ha1 ha0 hc1 hc0 b1 b2 p1 p2
 go_enter Tryz.func157, Tryz.ntmps157
 go_wp2_with fail
 refine (HMX.out _).mono ?_
 rintro e v1 ⟨rfl, hv1⟩
 go_wp2_with fail
 refine (HMX.out _).mono ?_
 rintro e v2 ⟨rfl, hv2⟩
 go_wp2_with fail
 refine (HX.out _).mono ?_
 rintro e v3 ⟨rfl, hq3⟩
 rw [hq3]
 clear hq3
 go_wp2_with fail
 refine (HMY.out _).mono ?_
 rintro e v4 ⟨rfl, hv4⟩
 go_wp2_with fail
 refine (HMY.out _).mono ?_
 rintro e v5 ⟨rfl, hv5⟩
 go_wp2_with fail
 refine (HY.out _).mono ?_
 rintro e v6 ⟨rfl, hq6⟩
 rw [hq6]
 clear hq6
 have hBv := keepBelow hv5 (keepBelow hv4 (keepBelow hv2 hv1))
 clear hv1 hv2 hv4 hv5
 go_wp2_with (first | simp only [E1] | simp only [E2])
 refine (HRT.out _).mono ?_
 rintro e v7 ⟨rfl, hv7⟩
 have hB7 := keepBelow hv7 hBv
 clear hv7 hBv
 go_wp2
 go_returns
 exact ret_int rfl hB7
end
end Go.Proofs.YtiaoandbdgdecaaGreat
