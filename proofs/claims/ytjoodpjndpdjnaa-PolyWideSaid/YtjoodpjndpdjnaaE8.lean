/- The contract of the reference's Big.Floor. -/
import Derived.Test.YtjoodpjndpdjnaaE7
import Derived.Test.YtjoodpjndpdjnaaM8
import Derived.Test.YtjoodpjndpdjnaaR1
import Derived.Test.YtjoodpjndpdjnaaA14
namespace Go.Proofs.Ytjoodpjndpdjnaa
set_option linter.unusedVariables false
set_option linter.unusedSimpArgs false
open Go.RowKit

set_option maxRecDepth 100000 in
set_option maxHeartbeats 4000000 in
theorem bfloor_calls (z n : Int) (h1 : -170141183460469231731687303715884105728 ≤ z) (h2 : z < 170141183460469231731687303715884105728) (hn : 0 < n) (hn2 : n ≤ 4611686018427387904) (w : World) :
    Calls Try.prog 85 #[bigV z, .int .i64 n] w (Ret (.tuple #[.int .i64 (floorQ z n), .bool (floorOk z n)]) w) := by
  obtain ⟨M, hM⟩ : ∃ M, M = magF z := ⟨_, rfl⟩
  have hMb := magF_bd h1 h2
  rw [← hM] at hMb
  have hMM := hid hM
  have R := hid (And.intro h1 h2)
  have RM := hid hMb
  clear h1 h2 hM hMb
  obtain ⟨W, hW⟩ : ∃ W, W = w.alloc (.cells (#[.int .u32 (digs z 0), .int .u32 (digs z 1), .int .u32 (digs z 2), .int .u32 (digs z 3), .int .u32 (digs z 4), .int .u32 (digs z 5), .int .u32 (digs z 6), .int .u32 (digs z 7)]) 52) := ⟨_, rfl⟩
  have hA : Blk8 W w.heap.size (digs z) := by subst hW; exact Blk8.here w _ (digs z)
  have hB : Below w.heap.size w W := by subst hW; go_grown
  obtain ⟨a0, a1, a2, a3, a4, a5, a6, a7⟩ := hA.all
  have HA := hid hA
  clear hA
  go_enter Try.func85, Try.ntmps85
  go_wp2_with fail
  rw [← hW]
  have HW := hid hW
  clear hW
  refine (below_calls z _ R.out.1 R.out.2).mono ?_
  rintro e w1 ⟨rfl, hb1⟩
  obtain ⟨ng, hng⟩ : ∃ ng, ng = decide (z < 0) := ⟨_, rfl⟩
  rw [← hng]
  have HNG := hid hng
  clear hng
  have hA1 := HA.out.below hb1 HA.out.lt
  have hB1 := hB.trans (hb1.mono hB.size)
  clear a0 a1 a2 a3 a4 a5 a6 a7
  go_upto_if 14 with fail
  go_cut [] from 15 (fun wx => Below w.heap.size w wx ∧ Blk8 wx w.heap.size (digs M))
  case first =>
    cases ng with
    | false =>
      have hz := of_decide_eq_false HNG.out.symm
      have hMz : M = z := by rw [hMM.out, magF, if_neg hz]
      clear hn hn2
      go_wp2_with fail
      go_meet
      exact ⟨hB1, hMz ▸ hA1⟩
    | true =>
      have hz := hid (of_decide_eq_true HNG.out.symm)
      have hMz := hid (show -z - 1 = M by rw [hMM.out, magF, if_pos hz.out])
      obtain ⟨a0, a1, a2, a3, a4, a5, a6, a7⟩ := hA1.all
      have HA1 := hid hA1
      clear hA1
      go_wp2_with fail
      refine (neg_calls z _).mono ?_
      rintro e w2 ⟨rfl, hb2⟩
      have hA2 := hid (HA1.out.below hb2 HA1.out.lt)
      have hB2 := hB1.trans (hb2.mono hB1.size)
      clear a0 a1 a2 a3 a4 a5 a6 a7
      go_wp2_with fail
      refine (of_calls 1 (by omega) (by omega) _).mono ?_
      rintro e w3 ⟨rfl, hb3⟩
      have hA3 := hid (hA2.out.below hb3 hA2.out.lt)
      have hB3 := hB2.trans (hb3.mono hB2.size)
      go_wp2_with fail
      refine (bsub_calls (-z) 1 _).mono ?_
      rintro e w4 ⟨rfl, hb4⟩
      have hA4 := hA3.out.below hb4 hA3.out.lt
      have hB4 := hB3.trans (hb4.mono hB3.size)
      obtain ⟨a0, a1, a2, a3, a4, a5, a6, a7⟩ := hA4.all
      have af := hA4.free
      have HA4 := hid hA4
      clear hA4
      rw [hMz.out]
      go_wp2_with fail
      go_meet
      exact ⟨by go_grown, HA4.out.sets8⟩
  case rest =>
    obtain ⟨hB2, hA2⟩ := hcut
    have HA2 := hid hA2
    clear hA2 hb1 hB1 hA1 hB
    go_wp2_with fail
    refine (of_calls n (by omega) (by omega) _).mono ?_
    rintro e w2 ⟨rfl, hb2⟩
    have hQ0 := qk_top (n := n) RM.out.1 RM.out.2
    have hq0 : Blk8 w2 wc.heap.size (digs (qk M n 128)) := by
      rw [hQ0.1]
      exact (((Blk8.fresh rfl : Blk8 (wc.alloc _) wc.heap.size _).later _).below hb2 (by simp; omega)).congr fun j _ => by simp [digs]
    have hr0 : Blk8 w2 (wc.heap.size + 1) (digs (rk M n 128)) := by
      rw [hQ0.2]
      exact ((Blk8.fresh (by simp) : Blk8 ((wc.alloc _).alloc _) (wc.heap.size + 1) _).below hb2 (by simp)).congr fun j _ => by simp [digs]
    have hA3 : Blk8 w2 w.heap.size (digs M) := ((HA2.out.later _).later _).below hb2 (Nat.lt_of_lt_of_le HA2.out.lt (by simp; omega))
    have hB3 : Below w.heap.size w w2 := ((hB2.alloc hB2.size _).alloc (Nat.le_trans hB2.size (by simp)) _).trans (hb2.mono (Nat.le_trans hB2.size (by simp; omega)))
    have hz1 : w.heap.size < wc.heap.size := HA2.out.lt
    have hz2 : wc.heap.size + 1 < w2.heap.size := by have := hb2.size; simp at this; omega
    clear hb2 hQ0
    go_wp2_with fail
    have hq1 := hq0.later (.cells #[.int .u32 (digs n 0), .int .u32 (digs n 1), .int .u32 (digs n 2), .int .u32 (digs n 3), .int .u32 (digs n 4), .int .u32 (digs n 5), .int .u32 (digs n 6), .int .u32 (digs n 7)] 52)
    have hr1 := hr0.later (.cells #[.int .u32 (digs n 0), .int .u32 (digs n 1), .int .u32 (digs n 2), .int .u32 (digs n 3), .int .u32 (digs n 4), .int .u32 (digs n 5), .int .u32 (digs n 6), .int .u32 (digs n 7)] 52)
    have hA4 := hA3.later (.cells #[.int .u32 (digs n 0), .int .u32 (digs n 1), .int .u32 (digs n 2), .int .u32 (digs n 3), .int .u32 (digs n 4), .int .u32 (digs n 5), .int .u32 (digs n 6), .int .u32 (digs n 7)] 52)
    have hd1 := Blk8.here w2 52 (digs n)
    have hB4 := hB3.alloc hB3.size (.cells #[.int .u32 (digs n 0), .int .u32 (digs n 1), .int .u32 (digs n 2), .int .u32 (digs n 3), .int .u32 (digs n 4), .int .u32 (digs n 5), .int .u32 (digs n 6), .int .u32 (digs n 7)] 52)
    generalize w2.alloc (.cells #[.int .u32 (digs n 0), .int .u32 (digs n 1), .int .u32 (digs n 2), .int .u32 (digs n 3), .int .u32 (digs n 4), .int .u32 (digs n 5), .int .u32 (digs n 6), .int .u32 (digs n 7)] 52) = w3 at *
    generalize hgd : w2.heap.size = gd at *
    generalize hgq : wc.heap.size = gq at *
    clear hq0 hr0 hA3 hB3 hgd hgq hB2 HA2
    have HQ1 := hid hq1
    have HR1 := hid hr1
    have HA1 := hid hA4
    have HD1 := hid hd1
    clear hq1 hr1 hA4 hd1
    go_loopw [10] (fun i wr => ∃ k : Nat, k ≤ 128 ∧ i = .int .i64 ((k : Int) - 1) ∧ Blk8 wr w.heap.size (digs M) ∧ Blk8 wr gq (digs (qk M n k)) ∧ Blk8 wr (gq + 1) (digs (rk M n k)) ∧ Blk8 wr gd (digs n) ∧ Below w.heap.size w wr) (fun i _ => (intOf i + 1).toNat)
    case atStart => exact ⟨128, by omega, rfl, HA1.out, HQ1.out, HR1.out, HD1.out, hB4⟩
    case round =>
      clear HQ1 HR1 HA1 HD1 hB4
      obtain ⟨k, hk, rfl, hA, hQ, hR, hD, hB⟩ := hrel
      obtain ⟨wo, rfl⟩ : ∃ wo : World, wo = wr := ⟨_, rfl⟩
      by_cases hk0 : k = 0
      · subst hk0
        obtain ⟨Q, hQe⟩ : ∃ Q, Q = M / n := ⟨_, rfl⟩
        have hQb := qk_bd RM.out.1 RM.out.2 hn 0
        rw [qk_zero, ← hQe] at hQ hQb
        have HQ := hid hQ
        have HQe := hid hQe
        have hmi : (((0 : Nat) : Int) - 1) = -1 := rfl
        rw [hmi]
        clear hA hQ hR hD hQe hmi
        obtain ⟨t, ht⟩ : ∃ t : Int, t = 4611686018427387904 := ⟨_, rfl⟩
        have HOf : ∀ w : World, Calls Try.prog 36 #[.int .i64 4611686018427387904] w (Ret (bigV t) w) := by
          intro w
          rw [← ht]
          exact of_calls t (by omega) (by omega) w
        have ht1 : 4611686018427387904 ≤ t := by omega
        have ht2 : t ≤ 4611686018427387904 := by omega
        clear ht
        go_wp2_with fail
--R13--
        refine wp_region_noPanic ?_
        refine wp_region_T (S := (S2 (fun w' => Blk8 w' (gq) (digs Q) ∧ Below w.heap.size w w'))) (T := (fun _ => 0)) (by kernel_rfl) (S2i0 ⟨HQ.out.drew, hB.drew⟩) (fun hH => ?_)
        have hWr3 : Weaker (S2 (fun w' => Blk8 w' (gq) (digs Q) ∧ Below w.heap.size w w')) := weaker2 _
        refine T_take 0 51 4 0 (v := ?vr3_1) rfl (by kernel_rfl) (by kernel_rfl) hWr3 (by kernel_rfl) (by kernel_rfl) (by kernel_rfl) (by kernel_rfl) (by kernel_rfl) (by kernel_rfl) (fun _ _ _ _ h => h) (by kernel_rfl) ?hyr3_1 hH ?_
        case hyr3_1 => (intro w' hSw; replace hSw := S2o0 hSw; (try dsimp only at hSw); have q0 := hSw.1; have q1 := hSw.2; obtain ⟨qa0_0, qa0_1, qa0_2, qa0_3, qa0_4, qa0_5, qa0_6, qa0_7⟩ := Blk8.all q0; go_simp; try (with_reducible rfl))
        simp only [List.set_cons_zero, List.set_cons_succ]
        refine wpAnyT_ready (rs := [1]) (by kernel_rfl) (by simp) ?_
        refine AllReadyT.cons 0 (by kernel_rfl) (o := _) rfl (fun K hK => ?_) AllReadyT.nil
        go_simp
        (go_at_call 36; refine (HOf _).mono ?_; rintro e w8 ⟨rfl, hb⟩)
        refine hK.out _ _ ?hsr3_2 (fun hH2 => ?hrr3_2)
        case hsr3_2 => exact S2i0 (by have hG := hH; replace hG := S2o0 hG; (try dsimp only at hG); have q0 := hG.1; have q1 := hG.2; exact ⟨keepBlk hb q0, keepBelow hb q1⟩)
        clear hK K hH
        have hH := hH2
        clear hH2
        try simp only [Act.put, List.setIfInBounds_toArray, List.set_cons_zero, List.set_cons_succ]
        refine wpAnyT_ready (rs := [2]) (by kernel_rfl) (by simp) ?_
        refine AllReadyT.cons 0 (by kernel_rfl) (o := _) rfl (fun K hK => ?_) AllReadyT.nil
        clear hb
        go_simp
        (go_at_call 84; refine (twice_calls t _).mono ?_; rintro e w9 ⟨rfl, hb⟩)
        refine hK.out _ _ ?hsr3_3 (fun hH2 => ?hrr3_3)
        case hsr3_3 => exact S2i0 (by have hG := hH; replace hG := S2o0 hG; (try dsimp only at hG); have q0 := hG.1; have q1 := hG.2; exact ⟨keepBlk hb q0, keepBelow hb q1⟩)
        clear hK K hH
        have hH := hH2
        clear hH2
        try simp only [Act.put, List.setIfInBounds_toArray, List.set_cons_zero, List.set_cons_succ]
        refine wpAnyT_ready (rs := [3]) (by kernel_rfl) (by simp) ?_
        refine AllReadyT.cons 0 (by kernel_rfl) (o := _) rfl (fun K hK => ?_) AllReadyT.nil
        clear hb
        go_simp
        (go_at_call 41; refine (bcmp_calls Q (t + t) (by omega) (by omega) (by omega) (by omega) _).mono ?_; rintro e w10 ⟨rfl, hb⟩)
        refine hK.out _ _ ?hsr3_4 (fun hH2 => ?hrr3_4)
        case hsr3_4 => exact S2i0 (by have hG := hH; replace hG := S2o0 hG; (try dsimp only at hG); have q0 := hG.1; have q1 := hG.2; exact ⟨keepBlk hb q0, keepBelow hb q1⟩)
        clear hK K hH
        have hH := hH2
        clear hH2
        try simp only [Act.put, List.setIfInBounds_toArray, List.set_cons_zero, List.set_cons_succ]
        refine T_take 4 55 0 0 (v := ?vr3_5) rfl (by kernel_rfl) (by kernel_rfl) hWr3 (by kernel_rfl) (by kernel_rfl) (by kernel_rfl) (by kernel_rfl) (by kernel_rfl) (by kernel_rfl) (fun _ _ _ _ h => h) (by kernel_rfl) ?hyr3_5 hH ?_
        case hyr3_5 => (intro w' hSw; clear hSw; go_simp; try (with_reducible rfl))
        simp only [List.set_cons_zero, List.set_cons_succ]
        refine wpAnyT_done (by kernel_rfl) ?_ _
        refine NoPanic.normal ?_
        clear hWr3
        replace hH := S2o0 hH
        (try dsimp only at hH)
        have q0 := hH.1
        have q1 := hH.2
--R13end--
        have hB9 : Below w.heap.size w w10 := q1
        have HQ9 := hid q0
        clear q0 q1
        by_cases hL : 9223372036854775808 ≤ Q
        · have hc : 0 ≤ cmpZ Q (t + t) := cmpZ_nonneg.2 (by omega)
          go_wp2
          go_returns
          refine ret_val ?_ hB9
          rw [floorQ_large hn (by rw [← hMM.out, ← HQe.out]; exact hL), floor_large hn (by rw [← hMM.out, ← HQe.out]; exact hL)]
          rfl
        · have hc : cmpZ Q (t + t) < 0 := cmpZ_neg.2 (by omega)
          have hfo := hid (floor_small (z := z) hn (by rw [← hMM.out, ← HQe.out]; omega) (by rw [← hMM.out, ← HQe.out]; omega))
          have hfq := hid (floorQ_small (z := z) hn (by rw [← hMM.out, ← HQe.out]; omega) (by rw [← hMM.out, ← HQe.out]; omega))
          have hwl : IntKind.i64.wrap (loW Q) = Q := by rw [IntKind.wrap_i64]; unfold loW; omega
          obtain ⟨q0, q1, q2, q3, q4, q5, q6, q7⟩ := HQ9.out.all
          go_wp2_with fail
          refine (wide_calls Q _).mono ?_
          rintro e w11 ⟨rfl, hb11⟩
          have hB11 := keepBelow hb11 hB9
          have hfld : ∀ w : World, (Instr.field 40 (wideV Q) 1).run Try.prog w = .ok (.int .u64 (loW Q)) w := fun w => by kernel_rfl
          cases ng with
          | true =>
            have hz := of_decide_eq_true HNG.out.symm
            go_wp2
            go_returns
            refine ret_val ?_ hB11
            rw [hfo.out, hfq.out, if_pos hz, ← hMM.out, ← HQe.out]
            rfl
          | false =>
            have hz := of_decide_eq_false HNG.out.symm
            go_wp2
            go_returns
            refine ret_val ?_ hB11
            rw [hfo.out, hfq.out, if_neg (by omega), ← hMM.out, ← HQe.out]
            rfl
      · obtain ⟨m, rfl⟩ : ∃ m, k = m + 1 := ⟨k - 1, by omega⟩
        clear hk0
        have hmi : (((m + 1 : Nat) : Int) - 1) = (m : Int) := by omega
        rw [hmi]
        obtain ⟨q, hq⟩ : ∃ q, q = qk M n (m + 1) := ⟨_, rfl⟩
        obtain ⟨r, hr⟩ : ∃ r, r = rk M n (m + 1) := ⟨_, rfl⟩
        rw [← hq] at hQ
        rw [← hr] at hR
        have HQe := hid hq
        have HRe := hid hr
        obtain ⟨q0, q1, q2, q3, q4, q5, q6, q7⟩ := hQ.all
        obtain ⟨r0, r1, r2, r3, r4, r5, r6, r7⟩ := hR.all
        have HA := hid hA
        have HQ := hid hQ
        have HR := hid hR
        have HD := hid hD
        have hqf := hQ.free
        have hrf := hR.free
        clear hA hQ hR hD hq hr hmi
        have hl1 := HQ.out.lt
        have hl2 := HR.out.lt
        go_upto_region 9 with fail
        go_cut [25] from 25 to 28 (fun t wx => Below w.heap.size w wx ∧ Blk8 wx w.heap.size (digs M) ∧ Blk8 wx gq (digs (q + q)) ∧ Blk8 wx (gq + 1) (digs (r + r)) ∧ Blk8 wx gd (digs n))
        case first =>
--R9--
          refine wp_region_noPanic ?_
          refine wp_region_T (S := (S3 (fun w' => Blk8 w' (w.heap.size) (digs M) ∧ Blk8 w' (gq) (digs q) ∧ Blk8 w' (gq + 1) (digs r) ∧ Blk8 w' (gd) (digs n) ∧ Below w.heap.size w w') (fun w' => Blk8 w' (w.heap.size) (digs M) ∧ Blk8 w' (gq) (digs q) ∧ Blk8 w' (gd) (digs n) ∧ Below w.heap.size w w'))) (T := (fun j => [0, 0, 0, 0, 1, 2].getD j 0)) (by kernel_rfl) (S3i0 ⟨HA.out.drew, HQ.out.drew, HR.out.drew, HD.out.drew, hB.drew⟩) (fun hH => ?_)
          have hWr1 : Weaker (S3 (fun w' => Blk8 w' (w.heap.size) (digs M) ∧ Blk8 w' (gq) (digs q) ∧ Blk8 w' (gq + 1) (digs r) ∧ Blk8 w' (gd) (digs n) ∧ Below w.heap.size w w') (fun w' => Blk8 w' (w.heap.size) (digs M) ∧ Blk8 w' (gq) (digs q) ∧ Blk8 w' (gd) (digs n) ∧ Below w.heap.size w w')) := weaker3 (fun _ ⟨q0, q1, q2, q3, q4⟩ => ⟨q0, q1, q3, q4⟩)
          refine T_take 0 25 5 0 (v := ?vr1_1) rfl (by kernel_rfl) (by kernel_rfl) hWr1 (by kernel_rfl) (by kernel_rfl) (by kernel_rfl) (by kernel_rfl) (by kernel_rfl) (by kernel_rfl) (fun _ _ _ _ h => h) (by kernel_rfl) ?hyr1_1 hH ?_
          case hyr1_1 => (intro w' hSw; replace hSw := S3o0 hSw; (try dsimp only at hSw); have q0 := hSw.1; have q1 := hSw.2.1; have q2 := hSw.2.2.1; have q3 := hSw.2.2.2.1; have q4 := hSw.2.2.2.2; obtain ⟨qa0_0, qa0_1, qa0_2, qa0_3, qa0_4, qa0_5, qa0_6, qa0_7⟩ := Blk8.all q0; obtain ⟨qa1_0, qa1_1, qa1_2, qa1_3, qa1_4, qa1_5, qa1_6, qa1_7⟩ := Blk8.all q1; obtain ⟨qa2_0, qa2_1, qa2_2, qa2_3, qa2_4, qa2_5, qa2_6, qa2_7⟩ := Blk8.all q2; obtain ⟨qa3_0, qa3_1, qa3_2, qa3_3, qa3_4, qa3_5, qa3_6, qa3_7⟩ := Blk8.all q3; go_simp; try (with_reducible rfl))
          simp only [List.set_cons_zero, List.set_cons_succ]
          refine T_take 2 27 4 0 (v := ?vr1_2) rfl (by kernel_rfl) (by kernel_rfl) hWr1 (by kernel_rfl) (by kernel_rfl) (by kernel_rfl) (by kernel_rfl) (by kernel_rfl) (by kernel_rfl) (fun _ _ _ _ h => h) (by kernel_rfl) ?hyr1_2 hH ?_
          case hyr1_2 => (intro w' hSw; replace hSw := S3o0 hSw; (try dsimp only at hSw); have q0 := hSw.1; have q1 := hSw.2.1; have q2 := hSw.2.2.1; have q3 := hSw.2.2.2.1; have q4 := hSw.2.2.2.2; obtain ⟨qa0_0, qa0_1, qa0_2, qa0_3, qa0_4, qa0_5, qa0_6, qa0_7⟩ := Blk8.all q0; obtain ⟨qa1_0, qa1_1, qa1_2, qa1_3, qa1_4, qa1_5, qa1_6, qa1_7⟩ := Blk8.all q1; obtain ⟨qa2_0, qa2_1, qa2_2, qa2_3, qa2_4, qa2_5, qa2_6, qa2_7⟩ := Blk8.all q2; obtain ⟨qa3_0, qa3_1, qa3_2, qa3_3, qa3_4, qa3_5, qa3_6, qa3_7⟩ := Blk8.all q3; go_simp; try (with_reducible rfl))
          simp only [List.set_cons_zero, List.set_cons_succ]
          refine wpAnyT_ready (rs := [1]) (by kernel_rfl) (by simp) ?_
          refine AllReadyT.cons 0 (by kernel_rfl) (o := _) rfl (fun K hK => ?_) AllReadyT.nil
          go_simp
          (go_at_call 84; refine (twice_calls r _).mono ?_; rintro e w4 ⟨rfl, hb⟩)
          refine hK.out _ _ ?hsr1_3 (fun hH2 => ?hrr1_3)
          case hsr1_3 => exact S3i0 (by have hG := hH; replace hG := S3o0 hG; (try dsimp only at hG); have q0 := hG.1; have q1 := hG.2.1; have q2 := hG.2.2.1; have q3 := hG.2.2.2.1; have q4 := hG.2.2.2.2; exact ⟨keepBlk hb q0, keepBlk hb q1, keepBlk hb q2, keepBlk hb q3, keepBelow hb q4⟩)
          clear hK K hH
          have hH := hH2
          clear hH2
          try simp only [Act.put, List.setIfInBounds_toArray, List.set_cons_zero, List.set_cons_succ]
          refine wpAnyT_ready (rs := [3]) (by kernel_rfl) (by simp) ?_
          refine AllReadyT.cons 0 (by kernel_rfl) (o := _) rfl (fun K hK => ?_) AllReadyT.nil
          clear hb
          go_simp
          (go_at_call 84; refine (twice_calls q _).mono ?_; rintro e w5 ⟨rfl, hb⟩)
          refine hK.out _ _ ?hsr1_4 (fun hH2 => ?hrr1_4)
          case hsr1_4 => exact S3i0 (by have hG := hH; replace hG := S3o0 hG; (try dsimp only at hG); have q0 := hG.1; have q1 := hG.2.1; have q2 := hG.2.2.1; have q3 := hG.2.2.2.1; have q4 := hG.2.2.2.2; exact ⟨keepBlk hb q0, keepBlk hb q1, keepBlk hb q2, keepBlk hb q3, keepBelow hb q4⟩)
          clear hK K hH
          have hH := hH2
          clear hH2
          try simp only [Act.put, List.setIfInBounds_toArray, List.set_cons_zero, List.set_cons_succ]
          refine wpAnyT_ready (rs := [4]) (by kernel_rfl) (by simp) ?_
          refine AllReadyT.cons 1 (by kernel_rfl) (o := _) rfl (fun K hK => ?_) AllReadyT.nil
          have hG := hH
          replace hG := S3o0 hG; (try dsimp only at hG); have q0 := hG.1; have q1 := hG.2.1; have q2 := hG.2.2.1; have q3 := hG.2.2.2.1; have q4 := hG.2.2.2.2; obtain ⟨qa1_0, qa1_1, qa1_2, qa1_3, qa1_4, qa1_5, qa1_6, qa1_7⟩ := Blk8.all q1; obtain ⟨qa2_0, qa2_1, qa2_2, qa2_3, qa2_4, qa2_5, qa2_6, qa2_7⟩ := Blk8.all q2
          have qf := q2.free
          have qf1 := q1.free
          go_simp
          refine hK.out _ _ ?hsr1_5 (fun hH2 => ?hrr1_5)
          case hsr1_5 => exact S3i1 ⟨q0.far8 (by omega), q1.far8 (by omega), q3.far8 (by omega), by go_grown⟩
          clear hK K hH
          have hH := hH2
          clear hH2
          try simp only [Act.put, List.setIfInBounds_toArray, List.set_cons_zero, List.set_cons_succ]
          refine wpAnyT_ready (rs := [5]) (by kernel_rfl) (by simp) ?_
          refine AllReadyT.cons 2 (by kernel_rfl) (o := _) rfl (fun K hK => ?_) AllReadyT.nil
          go_simp
          refine hK.out _ _ ?hsr1_6 (fun hH2 => ?hrr1_6)
          case hsr1_6 => exact S3i2
          clear hK K hH
          have hH := hH2
          clear hH2
          try simp only [Act.put, List.setIfInBounds_toArray, List.set_cons_zero, List.set_cons_succ]
          refine wpAnyT_done (by kernel_rfl) ?_ _
          refine NoPanic.normal ?_
          clear hWr1
          go_wp2_with fail
          go_meet
          exact ⟨by go_grown, (q0.far8 (by omega)).far8 (by omega), (q1.far8 (by omega)).sets8, q2.sets8.far8 (by omega), (q3.far8 (by omega)).far8 (by omega)⟩
--R9end--
        case rest =>
          obtain ⟨hB5, hA5, hQ5, hR5, hD5⟩ := hcut
          clear hqf hrf q0 q1 q2 q3 q4 q5 q6 q7 r0 r1 r2 r3 r4 r5 r6 r7 HA HQ HR HD hl1 hl2 hB
          have hm16 : m / 16 < 8 := by omega
          have hc := hA5.cell (m / 16) hm16
          have hbit := hid (digit_and M m)
          have hor := hid (even_or r (bk M m) (bk_bd M m))
          have hc0 := hR5.cell 0 (by omega)
          have hf0 := hR5.free
          have i1 : (m : Int) / 16 < 8 := by omega
          have i2 : 0 ≤ (m : Int) / 16 := by omega
          have i3 : ((m : Int) / 16).toNat = m / 16 := by omega
          have i4 : 0 ≤ (m : Int) % 16 := by omega
          have i5 : ((m : Int) % 16).toNat = m % 16 := by omega
          have d0 := digs_nonneg M (m / 16)
          have HA5 := hid hA5
          have HQ5 := hid hQ5
          have HR5 := hid hR5
          have HD5 := hid hD5
          clear hA5 hQ5 hR5 hD5
          go_wp2_with fail
          go_region
          rw [hbit.out, hor.out]
          obtain ⟨s, hs⟩ : ∃ s, s = r + r + bk M m := ⟨_, rfl⟩
          have hb1 := bk_bd M m
          have hr1 := rk_bd M hn (m + 1)
          rw [← HRe.out] at hr1
          have hs0 : 0 ≤ s ∧ s ≤ 9223372036854775807 := by omega
          have hR6 : Blk8 (wc.setCell ⟨gq + 1, 0, none⟩ (.int .u32 (digs (r + r + bk M m) 0))) (gq + 1) (digs s) := HR5.out.set (by omega) (by rw [hs]) (fun j hj => by rw [hs]; exact even_digs _ _ hb1 j hj)
          have hA6 : Blk8 (wc.setCell ⟨gq + 1, 0, none⟩ (.int .u32 (digs (r + r + bk M m) 0))) w.heap.size (digs M) := HA5.out.far (by show gq + 1 ≠ _; omega) _
          have hQ6 : Blk8 (wc.setCell ⟨gq + 1, 0, none⟩ (.int .u32 (digs (r + r + bk M m) 0))) gq (digs (q + q)) := HQ5.out.far (by show gq + 1 ≠ _; omega) _
          have hD6 : Blk8 (wc.setCell ⟨gq + 1, 0, none⟩ (.int .u32 (digs (r + r + bk M m) 0))) gd (digs n) := HD5.out.far (by show gq + 1 ≠ _; omega) _
          have hB6 : Below w.heap.size w (wc.setCell ⟨gq + 1, 0, none⟩ (.int .u32 (digs (r + r + bk M m) 0))) := hB5.setCell (by show w.heap.size ≤ gq + 1; omega) _
          have HS := hid hs
          have hR7 := hR6.drew
          have hA7 := hA6.drew
          have hQ7 := hQ6.drew
          have hD7 := hD6.drew
          have hB7 := hB6.drew
          clear hR6 hA6 hQ6 hD6 hB6 HA5 HQ5 HR5 HD5 hs hB5 hc hc0 hf0 i1 i2 i3 i4 i5 d0 hbit hor hb1 hr1
          generalize (wc.setCell ⟨gq + 1, 0, none⟩ (.int .u32 (digs (r + r + bk M m) 0))).drew = w6 at *
          obtain ⟨r0, r1, r2, r3, r4, r5, r6, r7⟩ := hR7.all
          obtain ⟨d0, d1, d2, d3, d4, d5, d6, d7⟩ := hD7.all
          have HA6 := hid hA7
          have HQ6 := hid hQ7
          have HR6 := hid hR7
          have HD6 := hid hD7
          clear hA7 hQ7 hR7 hD7
          go_wp2_with fail
          refine (bcmp_calls s n (by omega) (by omega) (by omega) (by omega) _).mono ?_
          rintro e w7 ⟨rfl, hb7⟩
          clear r0 r1 r2 r3 r4 r5 r6 r7 d0 d1 d2 d3 d4 d5 d6 d7
          have HA7 := hid (keepBlk hb7 HA6.out)
          have HQ7 := hid (keepBlk hb7 HQ6.out)
          have HR7 := hid (keepBlk hb7 HR6.out)
          have HD7 := hid (keepBlk hb7 HD6.out)
          have hB8 := keepBelow hb7 hB7
          clear HA6 HQ6 HR6 HD6 hb7 hB7
          by_cases hge : n ≤ s
          · have hc : 0 ≤ cmpZ s n := cmpZ_nonneg.2 hge
            obtain ⟨hrk, hqk⟩ := step_ge (M := M) (k := m) hn (by rw [← HRe.out]; have := HS.out; omega)
            have hq2 : qk M n m = q + q + 1 := by rw [hqk, ← HQe.out]; omega
            have hr2 : rk M n m = s - n := by rw [hrk, ← HRe.out, HS.out]; omega
            have HQK := hid hq2
            have HRK := hid hr2
            clear hrk hqk hq2 hr2 hge
            go_wp2_with fail
--R12--
            refine wp_region_noPanic ?_
            refine wp_region_T (S := (S3 (fun w' => Blk8 w' (w.heap.size) (digs M) ∧ Blk8 w' (gq) (digs (q + q)) ∧ Blk8 w' (gq + 1) (digs s) ∧ Blk8 w' (gd) (digs n) ∧ Below w.heap.size w w') (fun w' => Blk8 w' (w.heap.size) (digs M) ∧ Blk8 w' (gq) (digs (q + q)) ∧ Blk8 w' (gd) (digs n) ∧ Below w.heap.size w w'))) (T := (fun j => [0, 0, 0, 0, 0, 0, 1, 2].getD j 0)) (by kernel_rfl) (S3i0 ⟨HA7.out.drew, HQ7.out.drew, HR7.out.drew, HD7.out.drew, hB8.drew⟩) (fun hH => ?_)
            have hWr2 : Weaker (S3 (fun w' => Blk8 w' (w.heap.size) (digs M) ∧ Blk8 w' (gq) (digs (q + q)) ∧ Blk8 w' (gq + 1) (digs s) ∧ Blk8 w' (gd) (digs n) ∧ Below w.heap.size w w') (fun w' => Blk8 w' (w.heap.size) (digs M) ∧ Blk8 w' (gq) (digs (q + q)) ∧ Blk8 w' (gd) (digs n) ∧ Below w.heap.size w w')) := weaker3 (fun _ ⟨q0, q1, q2, q3, q4⟩ => ⟨q0, q1, q3, q4⟩)
            refine T_take 0 45 7 0 (v := ?vr2_1) rfl (by kernel_rfl) (by kernel_rfl) hWr2 (by kernel_rfl) (by kernel_rfl) (by kernel_rfl) (by kernel_rfl) (by kernel_rfl) (by kernel_rfl) (fun _ _ _ _ h => h) (by kernel_rfl) ?hyr2_1 hH ?_
            case hyr2_1 => (intro w' hSw; replace hSw := S3o0 hSw; (try dsimp only at hSw); have q0 := hSw.1; have q1 := hSw.2.1; have q2 := hSw.2.2.1; have q3 := hSw.2.2.2.1; have q4 := hSw.2.2.2.2; obtain ⟨qa0_0, qa0_1, qa0_2, qa0_3, qa0_4, qa0_5, qa0_6, qa0_7⟩ := Blk8.all q0; obtain ⟨qa1_0, qa1_1, qa1_2, qa1_3, qa1_4, qa1_5, qa1_6, qa1_7⟩ := Blk8.all q1; obtain ⟨qa2_0, qa2_1, qa2_2, qa2_3, qa2_4, qa2_5, qa2_6, qa2_7⟩ := Blk8.all q2; obtain ⟨qa3_0, qa3_1, qa3_2, qa3_3, qa3_4, qa3_5, qa3_6, qa3_7⟩ := Blk8.all q3; go_simp; try (with_reducible rfl))
            simp only [List.set_cons_zero, List.set_cons_succ]
            refine T_take 1 46 6 0 (v := ?vr2_2) rfl (by kernel_rfl) (by kernel_rfl) hWr2 (by kernel_rfl) (by kernel_rfl) (by kernel_rfl) (by kernel_rfl) (by kernel_rfl) (by kernel_rfl) (fun _ _ _ _ h => h) (by kernel_rfl) ?hyr2_2 hH ?_
            case hyr2_2 => (intro w' hSw; replace hSw := S3o0 hSw; (try dsimp only at hSw); have q0 := hSw.1; have q1 := hSw.2.1; have q2 := hSw.2.2.1; have q3 := hSw.2.2.2.1; have q4 := hSw.2.2.2.2; obtain ⟨qa0_0, qa0_1, qa0_2, qa0_3, qa0_4, qa0_5, qa0_6, qa0_7⟩ := Blk8.all q0; obtain ⟨qa1_0, qa1_1, qa1_2, qa1_3, qa1_4, qa1_5, qa1_6, qa1_7⟩ := Blk8.all q1; obtain ⟨qa2_0, qa2_1, qa2_2, qa2_3, qa2_4, qa2_5, qa2_6, qa2_7⟩ := Blk8.all q2; obtain ⟨qa3_0, qa3_1, qa3_2, qa3_3, qa3_4, qa3_5, qa3_6, qa3_7⟩ := Blk8.all q3; go_simp; try (with_reducible rfl))
            simp only [List.set_cons_zero, List.set_cons_succ]
            refine T_take 3 48 5 0 (v := ?vr2_3) rfl (by kernel_rfl) (by kernel_rfl) hWr2 (by kernel_rfl) (by kernel_rfl) (by kernel_rfl) (by kernel_rfl) (by kernel_rfl) (by kernel_rfl) (fun _ _ _ _ h => h) (by kernel_rfl) ?hyr2_3 hH ?_
            case hyr2_3 => (intro w' hSw; replace hSw := S3o0 hSw; (try dsimp only at hSw); have q0 := hSw.1; have q1 := hSw.2.1; have q2 := hSw.2.2.1; have q3 := hSw.2.2.2.1; have q4 := hSw.2.2.2.2; obtain ⟨qa0_0, qa0_1, qa0_2, qa0_3, qa0_4, qa0_5, qa0_6, qa0_7⟩ := Blk8.all q0; obtain ⟨qa1_0, qa1_1, qa1_2, qa1_3, qa1_4, qa1_5, qa1_6, qa1_7⟩ := Blk8.all q1; obtain ⟨qa2_0, qa2_1, qa2_2, qa2_3, qa2_4, qa2_5, qa2_6, qa2_7⟩ := Blk8.all q2; obtain ⟨qa3_0, qa3_1, qa3_2, qa3_3, qa3_4, qa3_5, qa3_6, qa3_7⟩ := Blk8.all q3; go_simp; try (with_reducible rfl))
            simp only [List.set_cons_zero, List.set_cons_succ]
            refine wpAnyT_ready (rs := [2]) (by kernel_rfl) (by simp) ?_
            refine AllReadyT.cons 0 (by kernel_rfl) (o := _) rfl (fun K hK => ?_) AllReadyT.nil
            go_simp
            (go_at_call 40; refine (bsub_calls s n _).mono ?_; rintro e w8 ⟨rfl, hb⟩)
            refine hK.out _ _ ?hsr2_4 (fun hH2 => ?hrr2_4)
            case hsr2_4 => exact S3i0 (by have hG := hH; replace hG := S3o0 hG; (try dsimp only at hG); have q0 := hG.1; have q1 := hG.2.1; have q2 := hG.2.2.1; have q3 := hG.2.2.2.1; have q4 := hG.2.2.2.2; exact ⟨keepBlk hb q0, keepBlk hb q1, keepBlk hb q2, keepBlk hb q3, keepBelow hb q4⟩)
            clear hK K hH
            have hH := hH2
            clear hH2
            try simp only [Act.put, List.setIfInBounds_toArray, List.set_cons_zero, List.set_cons_succ]
            refine wpAnyT_ready (rs := [4]) (by kernel_rfl) (by simp) ?_
            refine AllReadyT.cons 0 (by kernel_rfl) (o := _) rfl (fun K hK => ?_) AllReadyT.nil
            clear hb
            go_simp
            (go_at_call 36; refine (of_calls 1 (by omega) (by omega) _).mono ?_; rintro e w9 ⟨rfl, hb⟩)
            refine hK.out _ _ ?hsr2_5 (fun hH2 => ?hrr2_5)
            case hsr2_5 => exact S3i0 (by have hG := hH; replace hG := S3o0 hG; (try dsimp only at hG); have q0 := hG.1; have q1 := hG.2.1; have q2 := hG.2.2.1; have q3 := hG.2.2.2.1; have q4 := hG.2.2.2.2; exact ⟨keepBlk hb q0, keepBlk hb q1, keepBlk hb q2, keepBlk hb q3, keepBelow hb q4⟩)
            clear hK K hH
            have hH := hH2
            clear hH2
            try simp only [Act.put, List.setIfInBounds_toArray, List.set_cons_zero, List.set_cons_succ]
            refine wpAnyT_ready (rs := [5]) (by kernel_rfl) (by simp) ?_
            refine AllReadyT.cons 0 (by kernel_rfl) (o := _) rfl (fun K hK => ?_) AllReadyT.nil
            clear hb
            go_simp
            (go_at_call 39; refine (add_calls (q + q) 1 _).mono ?_; rintro e w10 ⟨rfl, hb⟩)
            refine hK.out _ _ ?hsr2_6 (fun hH2 => ?hrr2_6)
            case hsr2_6 => exact S3i0 (by have hG := hH; replace hG := S3o0 hG; (try dsimp only at hG); have q0 := hG.1; have q1 := hG.2.1; have q2 := hG.2.2.1; have q3 := hG.2.2.2.1; have q4 := hG.2.2.2.2; exact ⟨keepBlk hb q0, keepBlk hb q1, keepBlk hb q2, keepBlk hb q3, keepBelow hb q4⟩)
            clear hK K hH
            have hH := hH2
            clear hH2
            try simp only [Act.put, List.setIfInBounds_toArray, List.set_cons_zero, List.set_cons_succ]
            refine wpAnyT_ready (rs := [6]) (by kernel_rfl) (by simp) ?_
            refine AllReadyT.cons 1 (by kernel_rfl) (o := _) rfl (fun K hK => ?_) AllReadyT.nil
            have hG := hH
            replace hG := S3o0 hG; (try dsimp only at hG); have q0 := hG.1; have q1 := hG.2.1; have q2 := hG.2.2.1; have q3 := hG.2.2.2.1; have q4 := hG.2.2.2.2; obtain ⟨qa1_0, qa1_1, qa1_2, qa1_3, qa1_4, qa1_5, qa1_6, qa1_7⟩ := Blk8.all q1; obtain ⟨qa2_0, qa2_1, qa2_2, qa2_3, qa2_4, qa2_5, qa2_6, qa2_7⟩ := Blk8.all q2
            have qf := q2.free
            have qf1 := q1.free
            go_simp
            refine hK.out _ _ ?hsr2_7 (fun hH2 => ?hrr2_7)
            case hsr2_7 => exact S3i1 ⟨q0.far8 (by omega), q1.far8 (by omega), q3.far8 (by omega), by go_grown⟩
            clear hK K hH
            have hH := hH2
            clear hH2
            try simp only [Act.put, List.setIfInBounds_toArray, List.set_cons_zero, List.set_cons_succ]
            refine wpAnyT_ready (rs := [7]) (by kernel_rfl) (by simp) ?_
            refine AllReadyT.cons 2 (by kernel_rfl) (o := _) rfl (fun K hK => ?_) AllReadyT.nil
            go_simp
            refine hK.out _ _ ?hsr2_8 (fun hH2 => ?hrr2_8)
            case hsr2_8 => exact S3i2
            clear hK K hH
            have hH := hH2
            clear hH2
            try simp only [Act.put, List.setIfInBounds_toArray, List.set_cons_zero, List.set_cons_succ]
            refine wpAnyT_done (by kernel_rfl) ?_ _
            refine NoPanic.normal ?_
            clear hWr2
            go_wp2_with fail
            exact ⟨⟨m, by omega, rfl, (q0.far8 (by omega)).far8 (by omega), by rw [HQK.out]; exact (q1.far8 (by omega)).sets8, by rw [HRK.out]; exact q2.sets8.far8 (by omega), (q3.far8 (by omega)).far8 (by omega), by go_grown⟩, by simp [intOf]⟩
--R12end--
          · have hc : cmpZ s n < 0 := cmpZ_neg.2 (by omega)
            obtain ⟨hrk, hqk⟩ := step_lt (M := M) (k := m) hn (by rw [← HRe.out]; have := HS.out; omega)
            have hq2 : qk M n m = q + q := by rw [hqk, ← HQe.out]; omega
            have hr2 : rk M n m = s := by rw [hrk, ← HRe.out, HS.out]; omega
            have HQK := hid hq2
            have HRK := hid hr2
            clear hrk hqk hq2 hr2 hge
            go_wp2
            exact ⟨⟨m, by omega, rfl, HA7.out, by rw [HQK.out]; exact HQ7.out, by rw [HRK.out]; exact HR7.out, HD7.out, hB8⟩, by simp [intOf]⟩

end Go.Proofs.Ytjoodpjndpdjnaa
