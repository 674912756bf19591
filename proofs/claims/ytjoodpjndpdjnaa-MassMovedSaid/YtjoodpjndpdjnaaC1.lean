/- The contract of math/bits.Div64. -/
import Derived.Test.YtjoodpjndpdjnaaM5
import Derived.Test.YtjoodpjndpdjnaaC0
import Derived.Deep.DeepCutAuto
import Derived.BigQuiet
import Derived.Deep.QuietTactic
import Derived.WalkSmall
import Derived.Deep.CutBlock
namespace Go.Proofs.Ytjoodpjndpdjnaa
set_option linter.unusedVariables false
set_option linter.unusedSimpArgs false
open Go.RowKit

set_option maxRecDepth 100000 in
set_option maxHeartbeats 2000000 in
theorem div64_calls (hi lo y : Int) (h1 : 0 < hi) (h2 : hi < y) (h3 : y < 18446744073709551616) (h4 : 0 ≤ lo) (h5 : lo < 18446744073709551616) (w : World) :
    Calls Try.prog 81 #[.int .u64 hi, .int .u64 lo, .int .u64 y] w (Ret (.tuple #[.int .u64 ((hi * 18446744073709551616 + lo) / y), .int .u64 ((hi * 18446744073709551616 + lo) % y)]) w) := by
  obtain ⟨P, Y, u, L, N⟩ := norm_of hi lo y h1 h2 h3 h4 h5
  have n1 : (y == 0) = false := by simp; omega
  have n2 : (hi == 0) = false := by simp; omega
  have n3 : ¬ y ≤ hi := by omega
  have n4 : 0 ≤ y := by omega
  have n5 : y ≤ 18446744073709551615 := by omega
  have n6 : 0 ≤ hi := by omega
  have hn : (64 - (Lib.bitLen y.toNat : Int)) = ((64 - Lib.bitLen y.toNat : Nat) : Int) := by
    have : Lib.bitLen y.toNat ≤ 64 := Lib.bitLen_le _ 64 (Nat.le_refl _) (by omega)
    omega
  have hn64 : 64 - Lib.bitLen y.toNat ≤ 64 := by omega
  generalize 64 - Lib.bitLen y.toNat = n at *
  have HN := hid hn
  have NN := hid N
  have e1 := N.Yw
  have e2 := N.uw
  have e3 := N.Lw
  have y1 := N.Y1
  have y2 := N.Y2
  have u0 := N.u0
  have u1 := N.u1
  have l0 := N.L0
  have l1 := N.L1
  clear N hn
  obtain ⟨a, ha⟩ : ∃ a, a = Y / 4294967296 := ⟨_, rfl⟩
  obtain ⟨b, hb⟩ : ∃ b, b = Y % 4294967296 := ⟨_, rfl⟩
  obtain ⟨d1, hd1⟩ : ∃ d, d = L / 4294967296 := ⟨_, rfl⟩
  obtain ⟨d0, hd0⟩ : ∃ d, d = L % 4294967296 := ⟨_, rfl⟩
  have g1 : Y / 4294967296 = a := ha.symm
  have g2 : bits .and .u64 Y 4294967295 = b := by rw [and_low32 Y (by omega) (by omega)]; exact hb.symm
  have g3 : L / 4294967296 = d1 := hd1.symm
  have g4 : bits .and .u64 L 4294967295 = d0 := by rw [and_low32 L (by omega) (by omega)]; exact hd0.symm
  have a1 : 2147483648 ≤ a := by omega
  have a2 : a < 4294967296 := by omega
  have b1 : 0 ≤ b := by omega
  have b2 : b < 4294967296 := by omega
  have c1 : 0 ≤ d1 := by omega
  have c2 : d1 < 4294967296 := by omega
  have c3 : 0 ≤ d0 := by omega
  have c4 : d0 < 4294967296 := by omega
  have hY : Y = a * 4294967296 + b := by omega
  have hL : L = d1 * 4294967296 + d0 := by omega
  have na : ¬ a = 0 := by omega
  have G1 := guess_start a1 a2 b1 b2 u0 (by omega) c1 c2
  generalize hq1 : u / a = q1 at G1
  generalize hr1 : u % a = r1 at G1
  have g5 : u.tdiv a = q1 := by rw [Int.tdiv_eq_ediv_of_nonneg u0]; exact hq1
  have qb := G1.top.1
  have q0 := G1.q0
  have g6 : IntKind.u64.wrap q1 = q1 := wrap_u64_id (by omega) (by omega)
  have g7 : IntKind.u64.wrap (u - IntKind.u64.wrap (q1 * a)) = r1 := by
    have := G1.eq
    have := G1.r0
    have := G1.rlt
    have : 0 ≤ q1 * a := Int.mul_nonneg q0 (by omega)
    rw [wrap_u64_id (x := q1 * a) (by omega) (by omega), wrap_u64_id (by omega) (by omega)]
    omega
  have HYL := hid (And.intro hY hL)
  have GG1 := hid G1
  clear ha hb hd1 hd0 hY hL G1 hq1 hr1
  have hY := HYL.out.1
  have U1 : Hid (u < a * 4294967296 + b) := hid (by omega)
  have hv1 : (u * 4294967296 + d1) / (a * 4294967296 + b) < 4294967296 := digit_lt a1 b1 U1.out c2
  have hv0 : 0 ≤ (u * 4294967296 + d1) / (a * 4294967296 + b) := Int.ediv_nonneg (by omega) (by omega)
  have hv2 := Int.emod_add_mul_ediv (u * 4294967296 + d1) (a * 4294967296 + b)
  have hv3 := Int.emod_nonneg (u * 4294967296 + d1) (show a * 4294967296 + b ≠ 0 by omega)
  have hv4 := Int.emod_lt_of_pos (u * 4294967296 + d1) (show 0 < a * 4294967296 + b by omega)
  generalize hV1 : (u * 4294967296 + d1) / (a * 4294967296 + b) = v1 at hv1 hv0 hv2
  generalize hX1 : (u * 4294967296 + d1) % (a * 4294967296 + b) = x1 at hv2 hv3 hv4
  have k1 : IntKind.u64.wrap (IntKind.u64.wrap (IntKind.u64.wrap (u * 4294967296) + d1) - IntKind.u64.wrap (v1 * Y)) = x1 := by
    rw [hY, Int.mul_comm v1]
    generalize (a * 4294967296 + b) * v1 = z at hv2
    simp only [IntKind.wrap_u64]
    omega
  have x0 : 0 ≤ x1 := hv3
  have xY : x1 < Y := by omega
  have U2 : Hid (x1 < a * 4294967296 + b) := hid hv4
  have HV1 := hid hV1
  have HX1 := hid hX1
  have G2 := guess_start a1 a2 b1 b2 x0 hv4 c3 c4
  generalize hq2 : x1 / a = q2 at G2
  generalize hr2 : x1 % a = r2 at G2
  have k2 : x1.tdiv a = q2 := by rw [Int.tdiv_eq_ediv_of_nonneg x0]; exact hq2
  have kb := G2.top.1
  have k0 := G2.q0
  have k3 : IntKind.u64.wrap q2 = q2 := wrap_u64_id (by omega) (by omega)
  have k4 : IntKind.u64.wrap (x1 - IntKind.u64.wrap (q2 * a)) = r2 := by
    have := G2.eq
    have := G2.r0
    have := G2.rlt
    have : 0 ≤ q2 * a := Int.mul_nonneg k0 (by omega)
    rw [wrap_u64_id (x := q2 * a) (by omega) (by omega), wrap_u64_id (by omega) (by omega)]
    omega
  have hw1 : (x1 * 4294967296 + d0) / (a * 4294967296 + b) < 4294967296 := digit_lt a1 b1 U2.out c4
  have hw0 : 0 ≤ (x1 * 4294967296 + d0) / (a * 4294967296 + b) := Int.ediv_nonneg (by omega) (by omega)
  have hw2 := Int.emod_add_mul_ediv (x1 * 4294967296 + d0) (a * 4294967296 + b)
  have hw3 := Int.emod_nonneg (x1 * 4294967296 + d0) (show a * 4294967296 + b ≠ 0 by omega)
  have hw4 := Int.emod_lt_of_pos (x1 * 4294967296 + d0) (show 0 < a * 4294967296 + b by omega)
  generalize hV2 : (x1 * 4294967296 + d0) / (a * 4294967296 + b) = v2 at hw1 hw0 hw2
  generalize hX2 : (x1 * 4294967296 + d0) % (a * 4294967296 + b) = x2 at hw2 hw3 hw4
  have k5 : IntKind.u64.wrap (IntKind.u64.wrap (IntKind.u64.wrap (x1 * 4294967296) + d0) - IntKind.u64.wrap (v2 * Y)) = x2 := by
    rw [hY, Int.mul_comm v2]
    generalize (a * 4294967296 + b) * v2 = z at hw2
    simp only [IntKind.wrap_u64]
    omega
  have z0 : 0 ≤ x2 := hw3
  have zY : x2 < Y := by omega
  have HV2 := hid hV2
  have HX2 := hid hX2
  have GG2 := hid G2
  have FIN : Hid ((hi * 18446744073709551616 + lo) / y = v1 * 4294967296 + v2 ∧ (hi * 18446744073709551616 + lo) % y = x2 / 2 ^ n) := by
    have hD := two_digits (y := a * 4294967296 + b) (u := u) (d1 := d1) (d0 := d0) (q1 := v1) (q0 := v2) (by omega) hV1.symm (by rw [hX1]; exact hV2.symm)
    rw [hX1, hX2] at hD
    have hS := shifted (n := hi * 18446744073709551616 + lo) (y := y) (P := P) NN.out.P0
    have e : u * 18446744073709551616 + d1 * 4294967296 + d0 = u * 18446744073709551616 + L := by have := HYL.out.2; omega
    rw [NN.out.eq, ← NN.out.Ye, hY, ← e, hD.1, hD.2] at hS
    exact hid ⟨hS.1.symm, by rw [NN.out.Pe]; exact hS.2.symm⟩
  clear hY hV1 hX1 hv2 hv3 hv4 G2 hq2 hr2 hV2 hX2 hw2 hw3 hw4
  go_enter Try.func81, Try.ntmps81
  go_upto_block 0 with (go_at_call 110; refine (bits_LeadingZeros64 y _ n4 n5).mono ?_; rintro e w1 ⟨rfl, hw⟩; rw [hw, HN.out]; clear hw)
  clear g5 g6 g7 qb q0 e1 e2 e3 g1 g2 g3 g4
  go_cut [15, 16] from 67 (fun q r wx => q = .int .u64 v1 ∧ wx = w)
  case first =>
    go_wp2_with fail
    go_loopw [15, 16] (fun q r wr => ∃ q' r' : Int, q = .int .u64 q' ∧ r = .int .u64 r' ∧ Guess a b u d1 q' r' ∧ wr = w) (fun q _ _ => (intOf q).toNat)
    case atStart => exact ⟨q1, r1, rfl, rfl, GG1.out, rfl⟩
    case round =>
      obtain ⟨q, r, rfl, rfl, G, rfl⟩ := hrel
      have t1 := G.r0
      have t2 := G.rlt
      have t3 := G.q0
      have t4 := G.top.1
      have GG := hid G
      clear G
      by_cases hq : 4294967296 ≤ q
      · by_cases hr : r + a < 4294967296
        · go_wp2
          go_roundw
          case rel => exact ⟨q - 1, r + a, by go_num, by go_num, guess_next a1 b1 c1 U1.out c2 GG.out (.inl hq) hr, by first | rfl | trivial⟩
          case measure => simp [intOf]; omega
        · go_wp2
          go_meet
          exact ⟨congrArg (Value.int .u64) ((guess_break a1 a2 b1 b2 c1 U1.out c2 GG.out (.inl hq) (by omega)).trans HV1.out), rfl⟩
      · obtain ⟨m, hm⟩ : ∃ m, m = q * b := ⟨_, rfl⟩
        have hm0 : 0 ≤ m := by rw [hm]; exact Int.mul_nonneg t3 b1
        have hm1 : m ≤ q * 4294967295 := by rw [hm]; exact Int.mul_le_mul_of_nonneg_left (by omega) t3
        have gm : IntKind.u64.wrap (q * b) = m := by rw [← hm]; exact wrap_u64_id hm0 (by omega)
        have HM := hid hm
        clear hm
        by_cases ht : 4294967296 * r + d1 < m
        · have hq1 : 1 ≤ q := by omega
          have HT : Hid (r * 4294967296 + d1 < q * b) := hid (by rw [← HM.out]; omega)
          by_cases hr : r + a < 4294967296
          · go_wp2
            go_roundw
            case rel => exact ⟨q - 1, r + a, by go_num, by go_num, guess_next a1 b1 c1 U1.out c2 GG.out (.inr HT.out) hr, by first | rfl | trivial⟩
            case measure => simp [intOf]; omega
          · go_wp2
            go_meet
            exact ⟨congrArg (Value.int .u64) ((guess_break a1 a2 b1 b2 c1 U1.out c2 GG.out (.inr HT.out) (by omega)).trans HV1.out), rfl⟩
        · have HT : Hid (q * b ≤ r * 4294967296 + d1) := hid (by rw [← HM.out]; omega)
          go_wp2
          go_meet
          exact ⟨congrArg (Value.int .u64) ((guess_end a1 b1 GG.out (Int.not_lt.2 HT.out)).trans HV1.out), rfl⟩
  case rest =>
  obtain ⟨rfl, hw⟩ := hcut
  rw [hw]
  clear hw
  go_upto_block 2 with fail
  go_cut [18, 16] from 102 (fun q r wx => q = .int .u64 v2 ∧ wx = w)
  case first =>
    go_wp2_with fail
    go_loopw [18, 16] (fun q r wr => ∃ q' r' : Int, q = .int .u64 q' ∧ r = .int .u64 r' ∧ Guess a b x1 d0 q' r' ∧ wr = w) (fun q _ _ => (intOf q).toNat)
    case atStart => exact ⟨q2, r2, rfl, rfl, GG2.out, rfl⟩
    case round =>
      obtain ⟨q, r, rfl, rfl, G, rfl⟩ := hrel
      have t1 := G.r0
      have t2 := G.rlt
      have t3 := G.q0
      have t4 := G.top.1
      have GG := hid G
      clear G
      by_cases hq : 4294967296 ≤ q
      · by_cases hr : r + a < 4294967296
        · go_wp2
          go_roundw
          case rel => exact ⟨q - 1, r + a, by go_num, by go_num, guess_next a1 b1 c3 U2.out c4 GG.out (.inl hq) hr, by first | rfl | trivial⟩
          case measure => simp [intOf]; omega
        · go_wp2
          go_meet
          exact ⟨congrArg (Value.int .u64) ((guess_break a1 a2 b1 b2 c3 U2.out c4 GG.out (.inl hq) (by omega)).trans HV2.out), rfl⟩
      · obtain ⟨m, hm⟩ : ∃ m, m = q * b := ⟨_, rfl⟩
        have hm0 : 0 ≤ m := by rw [hm]; exact Int.mul_nonneg t3 b1
        have hm1 : m ≤ q * 4294967295 := by rw [hm]; exact Int.mul_le_mul_of_nonneg_left (by omega) t3
        have gm : IntKind.u64.wrap (q * b) = m := by rw [← hm]; exact wrap_u64_id hm0 (by omega)
        have HM := hid hm
        clear hm
        by_cases ht : 4294967296 * r + d0 < m
        · have hq1 : 1 ≤ q := by omega
          have HT : Hid (r * 4294967296 + d0 < q * b) := hid (by rw [← HM.out]; omega)
          by_cases hr : r + a < 4294967296
          · go_wp2
            go_roundw
            case rel => exact ⟨q - 1, r + a, by go_num, by go_num, guess_next a1 b1 c3 U2.out c4 GG.out (.inr HT.out) hr, by first | rfl | trivial⟩
            case measure => simp [intOf]; omega
          · go_wp2
            go_meet
            exact ⟨congrArg (Value.int .u64) ((guess_break a1 a2 b1 b2 c3 U2.out c4 GG.out (.inr HT.out) (by omega)).trans HV2.out), rfl⟩
        · have HT : Hid (q * b ≤ r * 4294967296 + d0) := hid (by rw [← HM.out]; omega)
          go_wp2
          go_meet
          exact ⟨congrArg (Value.int .u64) ((guess_end a1 b1 GG.out (Int.not_lt.2 HT.out)).trans HV2.out), rfl⟩
  case rest =>
  obtain ⟨rfl, hw⟩ := hcut
  rw [hw]
  clear hw
  go_wp2
  refine bodyPost_ret (v := .tuple #[.int .u64 ((hi * 18446744073709551616 + lo) / y), .int .u64 ((hi * 18446744073709551616 + lo) % y)]) ?_ rfl ⟨rfl, by go_grown⟩
  rw [FIN.out.1, FIN.out.2]
  simp [results, Try.results81, go_sem]

set_option maxRecDepth 100000 in
set_option maxHeartbeats 1000000 in
theorem div64_zero (lo y : Int) (h2 : 0 < y) (h3 : y < 18446744073709551616) (h4 : 0 ≤ lo) (h5 : lo < 18446744073709551616) (w : World) :
    Calls Try.prog 81 #[.int .u64 0, .int .u64 lo, .int .u64 y] w (Ret (.tuple #[.int .u64 (lo / y), .int .u64 (lo % y)]) w) := by
  have n1 : (y == 0) = false := by simp; omega
  have n2 : ¬ y = 0 := by omega
  have n3 : ¬ y ≤ 0 := by omega
  have q1 := Int.ediv_nonneg h4 (show 0 ≤ y by omega)
  have q2 : lo / y < 18446744073709551616 := Int.ediv_lt_of_lt_mul h2 (by have := Int.mul_le_mul_of_nonneg_left (show (1 : Int) ≤ y by omega) (show (0 : Int) ≤ 18446744073709551616 by omega); omega)
  have r1 := Int.emod_nonneg lo (show y ≠ 0 by omega)
  have r2 := Int.emod_lt_of_pos lo h2
  have e1 : lo.tdiv y = lo / y := Int.tdiv_eq_ediv_of_nonneg h4
  have e2 : lo.tmod y = lo % y := Int.tmod_eq_emod_of_nonneg h4
  generalize hq : lo / y = q at q1 q2 e1
  generalize hr : lo % y = r at r1 r2 e2
  have Q := hid hq
  have R := hid hr
  clear hq hr
  have w1 : IntKind.u64.wrap q = q := wrap_u64_id q1 q2
  have w2 : IntKind.u64.wrap r = r := wrap_u64_id r1 (by omega)
  go_enter Try.func81, Try.ntmps81
  go_wp2
  go_quiet (fail)
  go_wp2
  refine bodyPost_ret (v := .tuple #[.int .u64 q, .int .u64 r]) (by simp [results, Try.results81, go_sem]) rfl ⟨rfl, below_drewN (Below.refl _ _) _⟩

/-- math/bits.Div64 where it does not overflow -/
theorem div64_any (hi lo y : Int) (h1 : 0 ≤ hi) (h2 : hi < y) (h3 : y < 18446744073709551616) (h4 : 0 ≤ lo) (h5 : lo < 18446744073709551616) (w : World) :
    Calls Try.prog 81 #[.int .u64 hi, .int .u64 lo, .int .u64 y] w (Ret (.tuple #[.int .u64 ((hi * 18446744073709551616 + lo) / y), .int .u64 ((hi * 18446744073709551616 + lo) % y)]) w) := by
  rcases Int.lt_or_le 0 hi with h | h
  · exact div64_calls hi lo y h h2 h3 h4 h5 w
  · have e : hi = 0 := by omega
    subst e
    have := div64_zero lo y h2 h3 h4 h5 w
    simpa using this

end Go.Proofs.Ytjoodpjndpdjnaa
