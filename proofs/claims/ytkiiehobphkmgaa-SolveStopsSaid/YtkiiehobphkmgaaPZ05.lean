/- Parts of a proof: contracts and laws. -/
import Derived.Test.YtkiiehobphkmgaaPZ02
import Derived.Test.YtkiiehobphkmgaaPZ01
import Derived.Test.YtkiiehobphkmgaaPZ04
import Derived.Deep.DeepCutAuto
namespace Go.Proofs.Ytkiiehobphkmgaa
section
set_option linter.unusedVariables false
set_option linter.unusedSimpArgs false
open Go.RowKit
def clampF (a : Int) : Int := if a < -1099511627776 then -1099511627776 else if 1099511627776 < a then 1099511627776 else a
theorem clampF_bd (a : Int) : -1099511627776 ≤ clampF a ∧ clampF a ≤ 1099511627776 := by unfold clampF; split <;> (try split) <;> omega
theorem clampF_id {a : Int} (h1 : -1099511627776 ≤ a) (h2 : a ≤ 1099511627776) : clampF a = a := by unfold clampF; rw [if_neg (by omega), if_neg (by omega)]
theorem clampF_lo {a : Int} (h1 : a ≤ -1099511627776) : clampF a = -1099511627776 := by unfold clampF; split <;> (try split) <;> omega
theorem clampF_hi {a : Int} (h1 : 1099511627776 ≤ a) : clampF a = 1099511627776 := by unfold clampF; split <;> (try split) <;> omega
theorem clamp_calls (a : Int) (w : World) : Calls Try.prog 38 #[.int .i64 a] w (Ret (.int .i64 (clampF a)) w) := by
  go_enter Try.func38, Try.ntmps38
  go_wp2
  all_goals
    go_returns
    exact ret_int (by unfold clampF; (repeat' split) <;> omega) (Below.refl _ _)
def addF (a b : Int) : Int := clampF (clampF a + clampF b)
def subF (a b : Int) : Int := clampF (clampF a - clampF b)
theorem fadd_calls (a b : Int) (w : World) : Calls Try.prog 24 #[.int .i64 a, .int .i64 b] w (Ret (.int .i64 (addF a b)) w) := by
  obtain ⟨p, hp⟩ : ∃ p, p = clampF a := ⟨_, rfl⟩
  obtain ⟨q, hq⟩ : ∃ q, q = clampF b := ⟨_, rfl⟩
  have h1 := clampF_bd a
  have h2 := clampF_bd b
  rw [← hp] at h1
  rw [← hq] at h2
  have HP := hid hp
  have HQ := hid hq
  have hwr : IntKind.i64.wrap (p + q) = p + q := IntWalk.i64_in _ (by omega)
  clear hp hq
  go_enter Try.func24, Try.ntmps24
  go_wp2_with fail
  refine (clamp_calls a _).mono ?_
  rintro e w1 ⟨rfl, hb1⟩
  rw [← HP.out]
  go_wp2_with fail
  refine (clamp_calls b _).mono ?_
  rintro e w2 ⟨rfl, hb2⟩
  rw [← HQ.out]
  have hB2 := keepBelow hb2 hb1
  go_wp2_with fail
  refine (clamp_calls (p + q) _).mono ?_
  rintro e w3 ⟨rfl, hb3⟩
  have hB3 := keepBelow hb3 hB2
  go_wp2
  go_returns
  exact ret_int (by rw [HP.out, HQ.out]; rfl) hB3
theorem fsub_calls (a b : Int) (w : World) : Calls Try.prog 23 #[.int .i64 a, .int .i64 b] w (Ret (.int .i64 (subF a b)) w) := by
  obtain ⟨p, hp⟩ : ∃ p, p = clampF a := ⟨_, rfl⟩
  obtain ⟨q, hq⟩ : ∃ q, q = clampF b := ⟨_, rfl⟩
  have h1 := clampF_bd a
  have h2 := clampF_bd b
  rw [← hp] at h1
  rw [← hq] at h2
  have HP := hid hp
  have HQ := hid hq
  have hwr : IntKind.i64.wrap (p - q) = p - q := IntWalk.i64_in _ (by omega)
  clear hp hq
  go_enter Try.func23, Try.ntmps23
  go_wp2_with fail
  refine (clamp_calls a _).mono ?_
  rintro e w1 ⟨rfl, hb1⟩
  rw [← HP.out]
  go_wp2_with fail
  refine (clamp_calls b _).mono ?_
  rintro e w2 ⟨rfl, hb2⟩
  rw [← HQ.out]
  have hB2 := keepBelow hb2 hb1
  go_wp2_with fail
  refine (clamp_calls (p - q) _).mono ?_
  rintro e w3 ⟨rfl, hb3⟩
  have hB3 := keepBelow hb3 hB2
  go_wp2
  go_returns
  exact ret_int (by rw [HP.out, HQ.out]; rfl) hB3
def absZ (a : Int) : Int := if a < 0 then -a else a
theorem mag_calls (a : Int) (h1 : -1099511627776 ≤ a) (h2 : a ≤ 1099511627776) (w : World) : Calls Try.prog 49 #[.int .i64 a] w (Ret (.int .u64 (absZ a)) w) := by
  by_cases h : a < 0
  · have hw1 : IntKind.i64.wrap (-a) = -a := IntWalk.i64_in _ (by omega)
    have hw2 : IntKind.u64.wrap (-a) = -a := wrap_u64_id (by omega) (by omega)
    go_enter Try.func49, Try.ntmps49
    go_wp2
    go_returns
    exact ret_int (by unfold absZ; rw [if_pos h]) (Below.refl _ _)
  · have hw2 : IntKind.u64.wrap a = a := wrap_u64_id (by omega) (by omega)
    go_enter Try.func49, Try.ntmps49
    go_wp2
    go_returns
    exact ret_int (by unfold absZ; rw [if_neg (by omega)]) (Below.refl _ _)

def mdF (a b c : Int) : Int := if clampF c = 0 then 0 else clampF (rnd (clampF a * clampF b) (clampF c))
theorem signs_md {A B C : Int} (hA : -1099511627776 ≤ A ∧ A ≤ 1099511627776) (hB : -1099511627776 ≤ B ∧ B ≤ 1099511627776) (hC : -1099511627776 ≤ C ∧ C ≤ 1099511627776) (h0 : C ≠ 0) :
    Signs (A * B) C ((decide (A < 0) != decide (B < 0)) != decide (C < 0)) (absZ A * absZ B) (absZ C) := by
  have a0 : 0 ≤ absZ A ∧ absZ A ≤ 1099511627776 := by unfold absZ; split <;> omega
  have b0 : 0 ≤ absZ B ∧ absZ B ≤ 1099511627776 := by unfold absZ; split <;> omega
  have m := mul_bd (x := absZ A) (y := absZ B) (M := 1099511627776) (N := 1099511627776) (by omega) (by omega) (by omega) (by omega)
  have m0 := Int.mul_nonneg a0.1 b0.1
  refine ⟨by unfold absZ; split <;> omega, by unfold absZ; split <;> omega, m0, by omega, h0, ?_⟩
  unfold absZ
  by_cases c1 : A < 0 <;> by_cases c2 : B < 0 <;> by_cases c3 : C < 0 <;> simp [c1, c2, c3, Int.neg_mul, Int.mul_neg]
set_option maxRecDepth 100000 in
set_option maxHeartbeats 2000000 in
theorem muldiv_calls (a b c : Int) (w : World) : Calls Try.prog 37 #[.int .i64 a, .int .i64 b, .int .i64 c] w (Ret (.int .i64 (mdF a b c)) w) := by
  obtain ⟨A, hA⟩ : ∃ A, A = clampF a := ⟨_, rfl⟩
  obtain ⟨B, hB⟩ : ∃ B, B = clampF b := ⟨_, rfl⟩
  obtain ⟨C, hC⟩ : ∃ C, C = clampF c := ⟨_, rfl⟩
  have a1 := clampF_bd a
  have b1 := clampF_bd b
  have c1 := clampF_bd c
  rw [← hA] at a1
  rw [← hB] at b1
  rw [← hC] at c1
  have HA := hid hA
  have HB := hid hB
  have HC := hid hC
  have HMD : Hid (mdF a b c = if C = 0 then 0 else clampF (rnd (A * B) C)) := by show mdF a b c = _; unfold mdF; rw [hA, hB, hC]
  clear hA hB hC
  go_enter Try.func37, Try.ntmps37
  go_wp2_with fail
  refine (clamp_calls a _).mono ?_
  rintro e w1 ⟨rfl, hb1⟩
  rw [← HA.out]
  go_wp2_with fail
  refine (clamp_calls b _).mono ?_
  rintro e w2 ⟨rfl, hb2⟩
  rw [← HB.out]
  have hB2 := keepBelow hb2 hb1
  go_wp2_with fail
  refine (clamp_calls c _).mono ?_
  rintro e w3 ⟨rfl, hb3⟩
  rw [← HC.out]
  have hB3 := keepBelow hb3 hB2
  clear hb1 hb2 hb3 hB2 HA HB HC
  by_cases h0 : C = 0
  · have HR : Hid (mdF a b c = 0) := by rw [h0, if_pos rfl] at HMD; exact HMD
    subst h0
    go_wp2
    go_returns
    exact ret_int HR.out.symm hB3
  · have HR : Hid (mdF a b c = clampF (rnd (A * B) C)) := by rw [if_neg h0] at HMD; exact HMD
    have HSG := hid (signs_md a1 b1 c1 h0)
    have h0b : (C == 0) = false := by simp [h0]
    clear HMD h0
    go_upto_if 25 with fail
    generalize hs1 : decide (A < 0) = s1 at HSG ⊢
    generalize hs2 : decide (B < 0) = s2 at HSG ⊢
    go_cut [7] from 26 to 27 (fun t wx => t = .bool (s1 != s2) ∧ wx = w3)
    case first =>
      clear hs1 hs2
      cases s2 with
      | true =>
        go_wp2
        go_meet
        exact ⟨by simp, rfl⟩
      | false =>
        go_wp2
        go_meet
        exact ⟨by simp, rfl⟩
    case rest =>
      obtain ⟨rfl, hw⟩ := hcut
      rw [hw]
      clear hw wc hs1 hs2
      go_upto_if 29 with fail
      generalize hs3 : decide (C < 0) = s3 at HSG ⊢
      clear hs3
      go_cut [7] from 30 to 31 (fun t wx => t = .bool ((s1 != s2) != s3) ∧ wx = w3)
      case first =>
        cases s3 with
        | true =>
          go_wp2
          go_meet
          exact ⟨by simp, rfl⟩
        | false =>
          go_wp2
          go_meet
          exact ⟨by simp, rfl⟩
      case rest =>
        obtain ⟨rfl, hw⟩ := hcut
        rw [hw]
        clear hw wc
        generalize ((s1 != s2) != s3) = ng at HSG ⊢
        go_wp2_with fail
        refine (mag_calls C c1.1 c1.2 _).mono ?_
        rintro e w4 ⟨rfl, hb4⟩
        have hB4 := keepBelow hb4 hB3
        go_wp2_with fail
        refine (mag_calls A a1.1 a1.2 _).mono ?_
        rintro e w5 ⟨rfl, hb5⟩
        have hB5 := keepBelow hb5 hB4
        go_wp2_with fail
        refine (mag_calls B b1.1 b1.2 _).mono ?_
        rintro e w6 ⟨rfl, hb6⟩
        have hB6 := keepBelow hb6 hB5
        clear hb4 hb5 hb6 hB3 hB4 hB5
        have x0 : 0 ≤ absZ A ∧ absZ A ≤ 1099511627776 := by unfold absZ; split <;> omega
        have y0 : 0 ≤ absZ B ∧ absZ B ≤ 1099511627776 := by unfold absZ; split <;> omega
        have d0 : 0 < absZ C ∧ absZ C ≤ 1099511627776 := ⟨HSG.out.d0, by unfold absZ; split <;> omega⟩
        have mb := mul_bd (x := absZ A) (y := absZ B) (M := 1099511627776) (N := 1099511627776) (by omega) (by omega) (by omega) (by omega)
        have m0 := Int.mul_nonneg x0.1 y0.1
        generalize absZ C = d at *
        generalize absZ A = x at *
        generalize absZ B = y at *
        go_wp2_with fail
        refine (mul64_int x y x0.1 (by omega) y0.1 (by omega) _).mono ?_
        rintro e w7 ⟨rfl, rfl⟩
        generalize x * y = M at *
        generalize A * B = W at *
        have hM2 : M / 18446744073709551616 * 18446744073709551616 + M % 18446744073709551616 = M := by omega
        have hi0 : 0 ≤ M / 18446744073709551616 := by omega
        have lo0 : 0 ≤ M % 18446744073709551616 := by omega
        have lo1 : M % 18446744073709551616 < 18446744073709551616 := by omega
        have e := Int.emod_add_mul_ediv M d
        have r0 := Int.emod_nonneg M (show d ≠ 0 by omega)
        have r1 := Int.emod_lt_of_pos M d0.1
        have q0 := Int.ediv_nonneg m0 (show 0 ≤ d by omega)
        have E := hid (show M = M / d * d + M % d by rw [Int.mul_comm]; omega)
        by_cases hlarge : d ≤ M / 18446744073709551616
        · have hq : 18446744073709551616 ≤ M / d := Int.le_ediv_of_mul_le d0.1 (by have := Int.mul_comm 18446744073709551616 d; omega)
          generalize M / 18446744073709551616 = hi at *
          generalize M % 18446744073709551616 = lo at *
          cases ng with
          | false =>
            have HF : Hid (clampF (rnd W C) = 1099511627776) := clampF_hi (by rw [HSG.out.rnd_f E.out r0 r1]; split <;> omega)
            clear e hq
            go_wp2
            go_returns
            exact ret_int (by rw [HR.out, HF.out]) hB6
          | true =>
            have HF : Hid (clampF (rnd W C) = -1099511627776) := clampF_lo (by rw [HSG.out.rnd_t E.out r0 r1]; split <;> omega)
            clear e hq
            go_wp2
            go_returns
            exact ret_int (by rw [HR.out, HF.out]) hB6
        · have q1 : M / d < 18446744073709551616 := Int.ediv_lt_of_lt_mul d0.1 (by have := Int.mul_comm 18446744073709551616 d; omega)
          have HM2 := hid hM2
          obtain ⟨hi, hhi⟩ : ∃ hi, hi = M / 18446744073709551616 := ⟨_, rfl⟩
          obtain ⟨lo, hlo⟩ : ∃ lo, lo = M % 18446744073709551616 := ⟨_, rfl⟩
          rw [← hhi] at hi0 hlarge HM2 ⊢
          rw [← hlo] at lo0 lo1 HM2 ⊢
          clear hhi hlo hM2 e
          generalize hqq : M / d = q at *
          generalize hrr : M % d = r at *
          have HQ := hid hqq
          have HRR := hid hrr
          have hdr : IntKind.u64.wrap (d - r) = d - r := wrap_u64_id (by omega) (by omega)
          clear hqq hrr
          go_wp2_with fail
          refine (div64_any hi lo d hi0 (by omega) (by omega) lo0 lo1 _).mono ?_
          rintro e w8 ⟨rfl, hb8⟩
          rw [HM2.out, HQ.out, HRR.out]
          have hB8 := keepBelow hb8 hB6
          clear hb8 hB6
          by_cases hq : 1099511627776 < q
          · cases ng with
            | false =>
              have HF : Hid (clampF (rnd W C) = 1099511627776) := clampF_hi (by rw [HSG.out.rnd_f E.out r0 r1]; split <;> omega)
              have hd : IntKind.u64.wrap d = d := wrap_u64_id (x := d) (by omega) (by omega)
              have HK : Hid (clampF 1099511627777 = 1099511627776) := by show _ = _; decide
              go_wp2_with fail
              refine (clamp_calls 1099511627777 _).mono ?_
              rintro e w9 ⟨rfl, hb9⟩
              rw [HK.out]
              have hB9 := keepBelow hb9 hB8
              go_wp2
              go_returns
              exact ret_int (by rw [HR.out, HF.out]) hB9
            | true =>
              have HF : Hid (clampF (rnd W C) = -1099511627776) := clampF_lo (by rw [HSG.out.rnd_t E.out r0 r1]; split <;> omega)
              have hd : IntKind.u64.wrap d = d := wrap_u64_id (x := d) (by omega) (by omega)
              have HK : Hid (clampF (-1099511627777) = -1099511627776) := by show _ = _; decide
              go_wp2_with fail
              refine (clamp_calls (-1099511627777) _).mono ?_
              rintro e w9 ⟨rfl, hb9⟩
              rw [HK.out]
              have hB9 := keepBelow hb9 hB8
              go_wp2
              go_returns
              exact ret_int (by rw [HR.out, HF.out]) hB9
          · have kq : IntKind.i64.wrap q = q := IntWalk.i64_in _ (by omega)
            have kq1 : IntKind.i64.wrap (q + 1) = q + 1 := IntWalk.i64_in _ (by omega)
            have kn : IntKind.i64.wrap (-q) = -q := IntWalk.i64_in _ (by omega)
            have kn1 : IntKind.i64.wrap (-(q + 1)) = -(q + 1) := IntWalk.i64_in _ (by omega)
            cases ng with
            | false =>
              by_cases hr : d - r ≤ r
              · have HF : Hid (rnd W C = q + 1) := by show _ = _; rw [HSG.out.rnd_f E.out r0 r1, if_pos (by omega)]
                go_wp2_with fail
                refine (clamp_calls (q + 1) _).mono ?_
                rintro e w9 ⟨rfl, hb9⟩
                have hB9 := keepBelow hb9 hB8
                go_wp2
                go_returns
                exact ret_int (by rw [HR.out, HF.out]) hB9
              · have HF : Hid (rnd W C = q) := by show _ = _; rw [HSG.out.rnd_f E.out r0 r1, if_neg (by omega)]; omega
                go_wp2_with fail
                refine (clamp_calls q _).mono ?_
                rintro e w9 ⟨rfl, hb9⟩
                have hB9 := keepBelow hb9 hB8
                go_wp2
                go_returns
                exact ret_int (by rw [HR.out, HF.out]) hB9
            | true =>
              by_cases hr : d - r < r
              · have HF : Hid (rnd W C = -(q + 1)) := by show _ = _; rw [HSG.out.rnd_t E.out r0 r1, if_pos (by omega)]
                go_wp2_with fail
                refine (clamp_calls (-(q + 1)) _).mono ?_
                rintro e w9 ⟨rfl, hb9⟩
                have hB9 := keepBelow hb9 hB8
                go_wp2
                go_returns
                exact ret_int (by rw [HR.out, HF.out]) hB9
              · have HF : Hid (rnd W C = -q) := by show _ = _; rw [HSG.out.rnd_t E.out r0 r1, if_neg (by omega)]; omega
                go_wp2_with fail
                refine (clamp_calls (-q) _).mono ?_
                rintro e w9 ⟨rfl, hb9⟩
                have hB9 := keepBelow hb9 hB8
                go_wp2
                go_returns
                exact ret_int (by rw [HR.out, HF.out]) hB9
def mulF (a b : Int) : Int := mdF a b 65536
def divE (b : Int) : Int := if b = 0 then 17 else 0
def divF (a b : Int) : Int := if b = 0 then 0 else mdF a 65536 b
theorem fmul_calls (a b : Int) (w : World) : Calls Try.prog 22 #[.int .i64 a, .int .i64 b] w (Ret (.int .i64 (mulF a b)) w) := by
  go_enter Try.func22, Try.ntmps22
  go_wp2_with fail
  refine (muldiv_calls a b 65536 _).mono ?_
  rintro e w1 ⟨rfl, hb1⟩
  go_wp2
  go_returns
  exact ret_int rfl hb1
theorem fdiv_calls (a b : Int) (w : World) : Calls Try.prog 41 #[.int .i64 a, .int .i64 b] w (Ret (.tuple #[.int .i64 (divF a b), .int .i64 (divE b)]) w) := by
  by_cases h : b = 0
  · have hd : divF a b = 0 := by unfold divF; rw [if_pos h]
    have he : divE b = 17 := by unfold divE; rw [if_pos h]
    rw [hd, he]
    subst h
    go_enter Try.func41, Try.ntmps41
    go_wp2
    go_returns
    exact ⟨rfl, Below.refl _ _⟩
  · have hd : divF a b = mdF a 65536 b := by unfold divF; rw [if_neg h]
    have hb : (b == 0) = false := by simp [h]
    have he : divE b = 0 := by unfold divE; rw [if_neg h]
    rw [hd, he]
    clear hd he h
    go_enter Try.func41, Try.ntmps41
    go_wp2_with fail
    refine (muldiv_calls a 65536 b _).mono ?_
    rintro e w1 ⟨rfl, hb1⟩
    go_wp2
    go_returns
    exact ⟨rfl, hb1⟩
end
end Go.Proofs.Ytkiiehobphkmgaa
