/- The contract of poly.Wide.Over. -/
import Derived.Test.YtjoodpjndpdjnaaM6
import Derived.Test.YtjoodpjndpdjnaaB1
import Derived.Test.YtjoodpjndpdjnaaA10
import Derived.Test.YtjoodpjndpdjnaaC1
namespace Go.Proofs.Ytjoodpjndpdjnaa
set_option linter.unusedVariables false
set_option linter.unusedSimpArgs false
open Go.RowKit

theorem minus_zero (W : Int) (w : World) : Calls Try.prog 33 #[.agg #[.int .i64 0, .int .u64 0], .agg #[.int .i64 (hiW W), .int .u64 (loW W)]] w (Ret (.agg #[.int .i64 (hiW (-W)), .int .u64 (loW (-W))]) w) := by
  have h := minus_calls 0 W w
  rw [Int.zero_sub] at h
  have e : wideV 0 = .agg #[.int .i64 0, .int .u64 0] := by simp [wideV, hiW, loW, wrap64]
  rw [e] at h
  exact h

set_option maxRecDepth 100000 in
set_option maxHeartbeats 1000000 in
theorem over_calls (W n : Int) (h1 : -170141183460469231731687303715884105728 ≤ W) (h2 : W < 170141183460469231731687303715884105728) (h3 : -9223372036854775808 ≤ n) (h4 : n ≤ 9223372036854775807) (w : World) :
    Calls Try.prog 34 #[wideV W, .int .i64 n] w (Ret (.tuple #[.int .i64 (overQ W n), .int .i64 (overE W n)]) w) := by
  obtain ⟨hb, hb'⟩ := hiW_bd W
  obtain ⟨lb, lb'⟩ := loW_bd W
  by_cases hn : n = 0
  · subst hn
    go_enter Try.func34, Try.ntmps34
    go_wp2
    refine bodyPost_ret (v := .tuple #[.int .i64 (overQ W 0), .int .i64 (overE W 0)]) (by simp [results, Try.results34, go_sem, overQ, overE]) rfl ⟨rfl, by go_grown⟩
  · have hn' : (n == 0) = false := by simp [hn]
    obtain ⟨M, hM⟩ : ∃ M, M = if W < 0 then -W else W := ⟨_, rfl⟩
    obtain ⟨d, hd⟩ : ∃ d, d = if n < 0 then -n else n := ⟨_, rfl⟩
    have hWlt : (hiW W < 0) ↔ W < 0 := by rw [hiW_id h1 h2]; omega
    have hM0 : 0 ≤ M := by rw [hM]; split <;> omega
    have hMm : M ≤ 170141183460469231731687303715884105728 := by rw [hM]; split <;> omega
    have hd0 : 0 < d := by rw [hd]; split <;> omega
    have hdm : d ≤ 9223372036854775808 := by rw [hd]; split <;> omega
    have hsg : Signs W n (decide (W < 0) != decide (n < 0)) M d := by
      refine ⟨hd0, hdm, hM0, hMm, hn, ?_⟩
      rw [hM, hd]
      by_cases c1 : W < 0 <;> by_cases c2 : n < 0 <;> simp [c1, c2]
    have HS := hid hsg
    have HM := hid hM
    have HD := hid hd
    have HW := hid hWlt
    clear hsg hM hd hWlt
    go_enter Try.func34, Try.ntmps34
    go_upto_if 17 with fail
    have hng : decide (hiW W < 0) = decide (W < 0) := by rw [decide_eq_decide]; exact HW.out
    rw [hng]
    clear hng
    generalize hs1 : decide (W < 0) = s1 at HS ⊢
    have S1 := hid hs1
    clear hs1
    go_cut [] from 18 (fun wx => wx.cell? ⟨w.heap.size, 0, none⟩ = some (.int .i64 (hiW M)) ∧ wx.cell? ⟨w.heap.size, 1, none⟩ = some (.int .u64 (loW M)) ∧ Below w.heap.size w wx)
    case first =>
      cases s1 with
      | true =>
        have hMe : Hid (-W = M) := hid (by rw [HM.out, if_pos (of_decide_eq_true S1.out)])
        have T0 : There (w.alloc (.cells #[.int .i64 (hiW W), .int .u64 (loW W)] 40)) w.heap.size 2 := by
          intro j hj
          have : j = 0 ∨ j = 1 := by omega
          rcases this with rfl | rfl
          · exact ⟨⟨.int .i64 (hiW W), by go_simp⟩, by go_simp⟩
          · exact ⟨⟨.int .u64 (loW W), by go_simp⟩, by go_simp⟩
        have HT := hid T0
        have HB0 := hid ((Below.refl w.heap.size w).alloc (Nat.le_refl _) (.cells #[.int .i64 (hiW W), .int .u64 (loW W)] 40))
        clear T0
        go_wp2_with (go_at_call 33; refine (minus_zero W _).mono ?_; rintro e w1 ⟨rfl, hb1⟩; rw [hMe.out]; obtain ⟨z0, z1, p0, p1, f0, f1⟩ := (There.below hb1 HT.out).get2)
        have hbw := keepBelow hb1 HB0.out
        go_meet
        refine ⟨by go_simp, by go_simp, by go_grown⟩
      | false =>
        have hMe : Hid (W = M) := hid (by rw [HM.out, if_neg (of_decide_eq_false S1.out)])
        go_wp2
        go_meet
        rw [← hMe.out]
        refine ⟨by go_simp, by go_simp, by go_grown⟩
    case rest =>
      obtain ⟨p0, p1, hB⟩ := hcut
      go_upto_if 24 with fail
      generalize hs2 : decide (n < 0) = s2 at HS ⊢
      have S2 := hid hs2
      clear hs2
      go_cut [6, 7] from 25 (fun a b wx => a = .bool (s1 != s2) ∧ b = .int .u64 d ∧ wx = wc)
      case first =>
        cases s2 with
        | true =>
          have hdd : IntKind.u64.wrap (-IntKind.u64.wrap n) = d := by rw [HD.out, if_pos (of_decide_eq_true S2.out)]; simp only [IntKind.wrap_u64]; have := of_decide_eq_true S2.out; omega
          go_wp2
          go_meet
          exact ⟨by simp, rfl, rfl⟩
        | false =>
          have hdd : IntKind.u64.wrap n = d := by rw [HD.out, if_neg (of_decide_eq_false S2.out)]; simp only [IntKind.wrap_u64]; have := of_decide_eq_false S2.out; omega
          go_wp2
          go_meet
          exact ⟨by simp, congrArg (Value.int .u64) hdd, rfl⟩
      case rest =>
        obtain ⟨rfl, rfl, hw⟩ := hcut
        rw [hw]
        clear hw
        generalize (s1 != s2) = ng at HS ⊢
        obtain ⟨Q, hQ⟩ : ∃ Q, Q = M / 18446744073709551616 := ⟨_, rfl⟩
        have hlo : loW M = M % 18446744073709551616 := rfl
        have l0 := (loW_bd M).1
        have l1 := (loW_bd M).2
        have k1 : IntKind.u64.wrap (hiW M) = Q := by rw [IntKind.wrap_u64, hiW_nat hM0 hMm, hQ]
        have hd0 := HS.out.d0
        have hdm := HS.out.dm
        have hQ0 : 0 ≤ Q := by omega
        by_cases hlarge : d ≤ Q
        · have hl := HS.out.large (by rw [← hQ]; exact hlarge)
          have HL := hid hl
          clear hl hQ hlo
          go_wp2
          refine bodyPost_ret (v := .tuple #[.int .i64 (overQ W n), .int .i64 (overE W n)]) (by simp [results, Try.results34, go_sem, HL.out.1, HL.out.2]) rfl ⟨rfl, by go_grown⟩
        · have e := Int.emod_add_mul_ediv M d
          have r0 := Int.emod_nonneg M (show d ≠ 0 by omega)
          have r1 := Int.emod_lt_of_pos M hd0
          have q0 := Int.ediv_nonneg hM0 (show 0 ≤ d by omega)
          have q1 : M / d < 18446744073709551616 := Int.ediv_lt_of_lt_mul hd0 (by omega)
          have hML : Q * 18446744073709551616 + loW M = M := by omega
          have HML := hid hML
          generalize hq : M / d = q at e q0 q1
          generalize hr : M % d = r at e r0 r1
          have HQ := hid hq
          have HR := hid hr
          have E := hid (show M = q * d + r by rw [Int.mul_comm]; omega)
          have hdr : IntKind.u64.wrap (d - r) = d - r := wrap_u64_id (by omega) (by omega)
          clear e hq hr hML hQ hlo
          cases ng with
          | false =>
            by_cases c0 : d - r < r
            · have hrd : rnd W n = q + 1 := by rw [HS.out.rnd_f E.out r0 r1, if_pos (by omega)]
              have HRD := hid hrd
              have hn0 := hid HS.out.n0
              clear hrd
              by_cases v1 : (q + 1) ≤ 9223372036854775807
              · have kq : IntKind.u64.wrap (q + 1) = q + 1 := wrap_u64_id (by omega) (by omega)
                have kw : wrap64 (q + 1) = q + 1 := by unfold wrap64; omega
                have kz : ((q + 1) == 0) = false := by rw [beq_eq_false_iff_ne]; omega
                have HL : Hid (overQ W n = (q + 1) ∧ overE W n = 0) := hid (over_ok hn0.out (HRD.out.trans (by omega)) (by omega) (by omega))
                go_wp2_with (go_at_call 81; refine (div64_any Q (loW M) d hQ0 (by omega) (by omega) l0 l1 _).mono ?_; rintro e w2 ⟨rfl, hb2⟩; rw [HML.out, HQ.out, HR.out]; have hbw := keepBelow hb2 (show Below w.heap.size w _ by first | exact hB | go_grown))
                refine bodyPost_ret (v := .tuple #[.int .i64 (overQ W n), .int .i64 (overE W n)]) (by simp [results, Try.results34, go_sem, HL.out.1, HL.out.2, kw]) rfl ⟨rfl, by go_grown⟩
              · by_cases v2 : q + 1 < 18446744073709551616
                · have kq : IntKind.u64.wrap (q + 1) = q + 1 := wrap_u64_id (by omega) (by omega)
                  have kz : ((q + 1) == 0) = false := by rw [beq_eq_false_iff_ne]; omega
                  have HL : Hid (overQ W n = 0 ∧ overE W n = 2) := hid (over_large hn0.out HRD.out (by omega))
                  go_wp2_with (go_at_call 81; refine (div64_any Q (loW M) d hQ0 (by omega) (by omega) l0 l1 _).mono ?_; rintro e w2 ⟨rfl, hb2⟩; rw [HML.out, HQ.out, HR.out]; have hbw := keepBelow hb2 (show Below w.heap.size w _ by first | exact hB | go_grown))
                  refine bodyPost_ret (v := .tuple #[.int .i64 (overQ W n), .int .i64 (overE W n)]) (by simp [results, Try.results34, go_sem, HL.out.1, HL.out.2]) rfl ⟨rfl, by go_grown⟩
                · have kq : IntKind.u64.wrap (q + 1) = 0 := by rw [IntKind.wrap_u64]; omega
                  have HL : Hid (overQ W n = 0 ∧ overE W n = 2) := hid (over_large hn0.out HRD.out (by omega))
                  go_wp2_with (go_at_call 81; refine (div64_any Q (loW M) d hQ0 (by omega) (by omega) l0 l1 _).mono ?_; rintro e w2 ⟨rfl, hb2⟩; rw [HML.out, HQ.out, HR.out]; have hbw := keepBelow hb2 (show Below w.heap.size w _ by first | exact hB | go_grown))
                  refine bodyPost_ret (v := .tuple #[.int .i64 (overQ W n), .int .i64 (overE W n)]) (by simp [results, Try.results34, go_sem, HL.out.1, HL.out.2]) rfl ⟨rfl, by go_grown⟩
            · by_cases c1 : r = d - r
              · have hb : (r == d - r) = true := by rw [beq_iff_eq]; exact c1
                have c1a : r ≤ d - r := by omega
                have c1b : d - r ≤ r := by omega
                clear c1
                have hrd : rnd W n = q + 1 := by rw [HS.out.rnd_f E.out r0 r1, if_pos (by omega)]
                have HRD := hid hrd
                have hn0 := hid HS.out.n0
                clear hrd
                by_cases v1 : (q + 1) ≤ 9223372036854775807
                · have kq : IntKind.u64.wrap (q + 1) = q + 1 := wrap_u64_id (by omega) (by omega)
                  have kw : wrap64 (q + 1) = q + 1 := by unfold wrap64; omega
                  have kz : ((q + 1) == 0) = false := by rw [beq_eq_false_iff_ne]; omega
                  have HL : Hid (overQ W n = (q + 1) ∧ overE W n = 0) := hid (over_ok hn0.out (HRD.out.trans (by omega)) (by omega) (by omega))
                  go_wp2_with (go_at_call 81; refine (div64_any Q (loW M) d hQ0 (by omega) (by omega) l0 l1 _).mono ?_; rintro e w2 ⟨rfl, hb2⟩; rw [HML.out, HQ.out, HR.out]; have hbw := keepBelow hb2 (show Below w.heap.size w _ by first | exact hB | go_grown))
                  refine bodyPost_ret (v := .tuple #[.int .i64 (overQ W n), .int .i64 (overE W n)]) (by simp [results, Try.results34, go_sem, HL.out.1, HL.out.2, kw]) rfl ⟨rfl, by go_grown⟩
                · by_cases v2 : q + 1 < 18446744073709551616
                  · have kq : IntKind.u64.wrap (q + 1) = q + 1 := wrap_u64_id (by omega) (by omega)
                    have kz : ((q + 1) == 0) = false := by rw [beq_eq_false_iff_ne]; omega
                    have HL : Hid (overQ W n = 0 ∧ overE W n = 2) := hid (over_large hn0.out HRD.out (by omega))
                    go_wp2_with (go_at_call 81; refine (div64_any Q (loW M) d hQ0 (by omega) (by omega) l0 l1 _).mono ?_; rintro e w2 ⟨rfl, hb2⟩; rw [HML.out, HQ.out, HR.out]; have hbw := keepBelow hb2 (show Below w.heap.size w _ by first | exact hB | go_grown))
                    refine bodyPost_ret (v := .tuple #[.int .i64 (overQ W n), .int .i64 (overE W n)]) (by simp [results, Try.results34, go_sem, HL.out.1, HL.out.2]) rfl ⟨rfl, by go_grown⟩
                  · have kq : IntKind.u64.wrap (q + 1) = 0 := by rw [IntKind.wrap_u64]; omega
                    have HL : Hid (overQ W n = 0 ∧ overE W n = 2) := hid (over_large hn0.out HRD.out (by omega))
                    go_wp2_with (go_at_call 81; refine (div64_any Q (loW M) d hQ0 (by omega) (by omega) l0 l1 _).mono ?_; rintro e w2 ⟨rfl, hb2⟩; rw [HML.out, HQ.out, HR.out]; have hbw := keepBelow hb2 (show Below w.heap.size w _ by first | exact hB | go_grown))
                    refine bodyPost_ret (v := .tuple #[.int .i64 (overQ W n), .int .i64 (overE W n)]) (by simp [results, Try.results34, go_sem, HL.out.1, HL.out.2]) rfl ⟨rfl, by go_grown⟩
              · have hb : (r == d - r) = false := by rw [beq_eq_false_iff_ne]; exact c1
                have hrd : rnd W n = q + 0 := by rw [HS.out.rnd_f E.out r0 r1, if_neg (by omega)]
                have HRD := hid hrd
                have hn0 := hid HS.out.n0
                clear hrd
                by_cases v1 : q ≤ 9223372036854775807
                · have kw : wrap64 q = q := by unfold wrap64; omega
                  have HL : Hid (overQ W n = q ∧ overE W n = 0) := hid (over_ok hn0.out (HRD.out.trans (by omega)) (by omega) (by omega))
                  go_wp2_with (go_at_call 81; refine (div64_any Q (loW M) d hQ0 (by omega) (by omega) l0 l1 _).mono ?_; rintro e w2 ⟨rfl, hb2⟩; rw [HML.out, HQ.out, HR.out]; have hbw := keepBelow hb2 (show Below w.heap.size w _ by first | exact hB | go_grown))
                  refine bodyPost_ret (v := .tuple #[.int .i64 (overQ W n), .int .i64 (overE W n)]) (by simp [results, Try.results34, go_sem, HL.out.1, HL.out.2, kw]) rfl ⟨rfl, by go_grown⟩
                · have HL : Hid (overQ W n = 0 ∧ overE W n = 2) := hid (over_large hn0.out HRD.out (by omega))
                  go_wp2_with (go_at_call 81; refine (div64_any Q (loW M) d hQ0 (by omega) (by omega) l0 l1 _).mono ?_; rintro e w2 ⟨rfl, hb2⟩; rw [HML.out, HQ.out, HR.out]; have hbw := keepBelow hb2 (show Below w.heap.size w _ by first | exact hB | go_grown))
                  refine bodyPost_ret (v := .tuple #[.int .i64 (overQ W n), .int .i64 (overE W n)]) (by simp [results, Try.results34, go_sem, HL.out.1, HL.out.2]) rfl ⟨rfl, by go_grown⟩
          | true =>
            by_cases c0 : d - r < r
            · have hrd : rnd W n = -(q + 1) := by rw [HS.out.rnd_t E.out r0 r1, if_pos (by omega)]
              have HRD := hid hrd
              have hn0 := hid HS.out.n0
              clear hrd
              by_cases v1 : (q + 1) ≤ 9223372036854775808
              · have kq : IntKind.u64.wrap (q + 1) = q + 1 := wrap_u64_id (by omega) (by omega)
                have kw : wrap64 (IntKind.u64.wrap (-(q + 1))) = -(q + 1) := by rw [IntKind.wrap_u64]; unfold wrap64; omega
                have kz : ((q + 1) == 0) = false := by rw [beq_eq_false_iff_ne]; omega
                have HL : Hid (overQ W n = (-(q + 1)) ∧ overE W n = 0) := hid (over_ok hn0.out (HRD.out.trans (by omega)) (by omega) (by omega))
                go_wp2_with (go_at_call 81; refine (div64_any Q (loW M) d hQ0 (by omega) (by omega) l0 l1 _).mono ?_; rintro e w2 ⟨rfl, hb2⟩; rw [HML.out, HQ.out, HR.out]; have hbw := keepBelow hb2 (show Below w.heap.size w _ by first | exact hB | go_grown))
                refine bodyPost_ret (v := .tuple #[.int .i64 (overQ W n), .int .i64 (overE W n)]) (by simp [results, Try.results34, go_sem, HL.out.1, HL.out.2, kw]) rfl ⟨rfl, by go_grown⟩
              · by_cases v2 : q + 1 < 18446744073709551616
                · have kq : IntKind.u64.wrap (q + 1) = q + 1 := wrap_u64_id (by omega) (by omega)
                  have kz : ((q + 1) == 0) = false := by rw [beq_eq_false_iff_ne]; omega
                  have HL : Hid (overQ W n = 0 ∧ overE W n = 2) := hid (over_large hn0.out HRD.out (by omega))
                  go_wp2_with (go_at_call 81; refine (div64_any Q (loW M) d hQ0 (by omega) (by omega) l0 l1 _).mono ?_; rintro e w2 ⟨rfl, hb2⟩; rw [HML.out, HQ.out, HR.out]; have hbw := keepBelow hb2 (show Below w.heap.size w _ by first | exact hB | go_grown))
                  refine bodyPost_ret (v := .tuple #[.int .i64 (overQ W n), .int .i64 (overE W n)]) (by simp [results, Try.results34, go_sem, HL.out.1, HL.out.2]) rfl ⟨rfl, by go_grown⟩
                · have kq : IntKind.u64.wrap (q + 1) = 0 := by rw [IntKind.wrap_u64]; omega
                  have HL : Hid (overQ W n = 0 ∧ overE W n = 2) := hid (over_large hn0.out HRD.out (by omega))
                  go_wp2_with (go_at_call 81; refine (div64_any Q (loW M) d hQ0 (by omega) (by omega) l0 l1 _).mono ?_; rintro e w2 ⟨rfl, hb2⟩; rw [HML.out, HQ.out, HR.out]; have hbw := keepBelow hb2 (show Below w.heap.size w _ by first | exact hB | go_grown))
                  refine bodyPost_ret (v := .tuple #[.int .i64 (overQ W n), .int .i64 (overE W n)]) (by simp [results, Try.results34, go_sem, HL.out.1, HL.out.2]) rfl ⟨rfl, by go_grown⟩
            · by_cases c1 : r = d - r
              · have hb : (r == d - r) = true := by rw [beq_iff_eq]; exact c1
                have c1a : r ≤ d - r := by omega
                have c1b : d - r ≤ r := by omega
                clear c1
                have hrd : rnd W n = -(q + 0) := by rw [HS.out.rnd_t E.out r0 r1, if_neg (by omega)]
                have HRD := hid hrd
                have hn0 := hid HS.out.n0
                clear hrd
                by_cases v1 : q ≤ 9223372036854775808
                · have kw : wrap64 (IntKind.u64.wrap (-q)) = -q := by rw [IntKind.wrap_u64]; unfold wrap64; omega
                  have HL : Hid (overQ W n = (-q) ∧ overE W n = 0) := hid (over_ok hn0.out (HRD.out.trans (by omega)) (by omega) (by omega))
                  go_wp2_with (go_at_call 81; refine (div64_any Q (loW M) d hQ0 (by omega) (by omega) l0 l1 _).mono ?_; rintro e w2 ⟨rfl, hb2⟩; rw [HML.out, HQ.out, HR.out]; have hbw := keepBelow hb2 (show Below w.heap.size w _ by first | exact hB | go_grown))
                  refine bodyPost_ret (v := .tuple #[.int .i64 (overQ W n), .int .i64 (overE W n)]) (by simp [results, Try.results34, go_sem, HL.out.1, HL.out.2, kw]) rfl ⟨rfl, by go_grown⟩
                · have HL : Hid (overQ W n = 0 ∧ overE W n = 2) := hid (over_large hn0.out HRD.out (by omega))
                  go_wp2_with (go_at_call 81; refine (div64_any Q (loW M) d hQ0 (by omega) (by omega) l0 l1 _).mono ?_; rintro e w2 ⟨rfl, hb2⟩; rw [HML.out, HQ.out, HR.out]; have hbw := keepBelow hb2 (show Below w.heap.size w _ by first | exact hB | go_grown))
                  refine bodyPost_ret (v := .tuple #[.int .i64 (overQ W n), .int .i64 (overE W n)]) (by simp [results, Try.results34, go_sem, HL.out.1, HL.out.2]) rfl ⟨rfl, by go_grown⟩
              · have hb : (r == d - r) = false := by rw [beq_eq_false_iff_ne]; exact c1
                have hrd : rnd W n = -(q + 0) := by rw [HS.out.rnd_t E.out r0 r1, if_neg (by omega)]
                have HRD := hid hrd
                have hn0 := hid HS.out.n0
                clear hrd
                by_cases v1 : q ≤ 9223372036854775808
                · have kw : wrap64 (IntKind.u64.wrap (-q)) = -q := by rw [IntKind.wrap_u64]; unfold wrap64; omega
                  have HL : Hid (overQ W n = (-q) ∧ overE W n = 0) := hid (over_ok hn0.out (HRD.out.trans (by omega)) (by omega) (by omega))
                  go_wp2_with (go_at_call 81; refine (div64_any Q (loW M) d hQ0 (by omega) (by omega) l0 l1 _).mono ?_; rintro e w2 ⟨rfl, hb2⟩; rw [HML.out, HQ.out, HR.out]; have hbw := keepBelow hb2 (show Below w.heap.size w _ by first | exact hB | go_grown))
                  refine bodyPost_ret (v := .tuple #[.int .i64 (overQ W n), .int .i64 (overE W n)]) (by simp [results, Try.results34, go_sem, HL.out.1, HL.out.2, kw]) rfl ⟨rfl, by go_grown⟩
                · have HL : Hid (overQ W n = 0 ∧ overE W n = 2) := hid (over_large hn0.out HRD.out (by omega))
                  go_wp2_with (go_at_call 81; refine (div64_any Q (loW M) d hQ0 (by omega) (by omega) l0 l1 _).mono ?_; rintro e w2 ⟨rfl, hb2⟩; rw [HML.out, HQ.out, HR.out]; have hbw := keepBelow hb2 (show Below w.heap.size w _ by first | exact hB | go_grown))
                  refine bodyPost_ret (v := .tuple #[.int .i64 (overQ W n), .int .i64 (overE W n)]) (by simp [results, Try.results34, go_sem, HL.out.1, HL.out.2]) rfl ⟨rfl, by go_grown⟩

end Go.Proofs.Ytjoodpjndpdjnaa
