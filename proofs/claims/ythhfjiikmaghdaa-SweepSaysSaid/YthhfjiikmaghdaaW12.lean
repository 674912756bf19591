/- The walk of SweepSays. -/
import Derived.Test.YthhfjiikmaghdaaW9
import Derived.Test.YthhfjiikmaghdaaW10
import Derived.Test.YthhfjiikmaghdaaW6
namespace Go.Proofs.Ythhfjiikmaghdaa
set_option linter.unusedVariables false
set_option linter.unusedSimpArgs false
open Go.RowKit

theorem OwnE.lit {α : Type} {L : Lay α} {e : TypeId} (w : World) (B : Nat) (l : List α) (hB : B ≤ w.heap.size) (hl : l.length ≤ 8796093022208) : OwnE L e (w.alloc (.cells (flatE L l).toArray e)) B (.slice (some ⟨w.heap.size, 0, none⟩) l.length l.length) l :=
  ⟨flatE_len l, .inr ⟨w.heap.size, l.length, (flatE L l).toArray, rfl, hB, heap_alloc_new w _, Nat.le_refl _, by unfold maxLen; omega, by simp [flatE_len], by simp [flatE_len, List.take_of_length_le]⟩⟩
theorem SlE.lit {α : Type} {L : Lay α} (e : TypeId) (w : World) (l : List α) (hl : l.length ≤ 8796093022208) : SlE L (w.alloc (.cells (flatE L l).toArray e)) (some ⟨w.heap.size, 0, none⟩) l.length l.length l := by
  obtain ⟨A, n, c, e1, hs, -⟩ := (OwnE.lit (e := e) w w.heap.size l (Nat.le_refl _) hl).sl
  injection e1 with e2 e3 e4
  subst e2 e3 e4
  exact hs
theorem three_pairs : pairsL [((0, 0), (2, 2)), ((5, 0), (6, 1)), ((2, 1), (4, 4))] = [(0, 2)] := by decide
theorem bxAt_get {l : List Bx} {i : Nat} (h : i < l.length) : bxAt l i = l[i] := by unfold bxAt; simp [h]
/-- a row of the laws' loops: own pairs, and a box beside them -/
structure PZ (w0 : World) (g : Nat) (a : Bx) (s : Value) (o : List (Nat × Nat)) (w : World) : Prop where
  po : PO w0 s o w
  ne : some g ≠ s.ownBlock
  va : Vd w g a
theorem PZ.keep {w0 : World} {g : Nat} {a : Bx} {s : Value} {o : List (Nat × Nat)} {w w' : World} (hb : Below w.heap.size w w') (h : PZ w0 g a s o w) : PZ w0 g a s o w' := ⟨h.po.keep hb, h.ne, keepVd hb h.va⟩
theorem PZ.app {w0 : World} {g : Nat} {a : Bx} {s s' : Value} {o o' : List (Nat × Nat)} {w w' : World} (h : PZ w0 g a s o w) (ho : OwnE layPair 96 w' w0.heap.size s' o') (hg : w.grownBy w' s.ownBlock) (hat : s'.ownBlock = s.ownBlock ∨ s'.ownBlock = some w.heap.size) : PZ w0 g a s' o' w' := by
  refine ⟨h.po.app ho hg, ?_, ⟨hg.cell h.va.c0 h.ne, hg.cell h.va.c1 h.ne, hg.cell h.va.c2 h.ne, hg.cell h.va.c3 h.ne⟩⟩
  rcases hat with q | q
  · rw [q]; exact h.ne
  · rw [q]; intro e; have := lt_of_cell h.va.c0; cases e; omega
theorem rowQ_len (l m : List Bx) (i k : Nat) : (rowQ l m i k).length ≤ k := by unfold rowQ; rw [List.length_map]; exact Nat.le_trans (List.length_filter_le _ _) (by simp)
theorem betTo_len (l m : List Bx) : ∀ i, (betTo l m i).length ≤ i * m.length
  | 0 => by simp [betTo]
  | i + 1 => by
    rw [betTo_succ, List.length_append]
    have := betTo_len l m i
    have := rowQ_len l m i m.length
    rw [Nat.add_mul, Nat.one_mul]
    omega
set_option maxRecDepth 100000 in
theorem box_calls (x y u v : Int) (w : World) : Calls Try.prog 70 #[.int .i64 x, .int .i64 y, .int .i64 u, .int .i64 v] w (Ret (bxV ((x, y), (u, v))) w) := by
  go_enter Try.func70, Try.ntmps70
  go_wp2
  refine bodyPost_ret (v := bxV ((x, y), (u, v))) (by simp [results, Try.results70, go_sem]) rfl ⟨rfl, by go_grown⟩

set_option maxRecDepth 100000 in
set_option maxHeartbeats 16000000 in
theorem sweepSays_walk (A B : Option Addr) (n c n' c' : Nat) (l m : List Bx) (w : World) (hS : SlE layBox w A n c l) (hM : SlE layBox w B n' c' m) : Calls Try.prog 13 #[.slice A n c, .slice B n' c'] w (Ret (.bool true) w) := by
  have hn := hS.len
  have hn' := hM.len
  have hcm := hM.cap
  subst hn hn'
  have HS := hid hS
  have HMM := hid hM
  have E3 := hid three_pairs
  clear hS hM
  go_enter Try.func13, Try.ntmps13
  go_wp2_with fail
  refine (box_calls 0 0 2 2 _).mono ?_
  rintro e w1 ⟨rfl, hb1⟩
  go_wp2_with fail
  refine (box_calls 5 0 6 1 _).mono ?_
  rintro e w2 ⟨rfl, hb2⟩
  replace hb2 := keepBelow hb2 hb1
  go_wp2_with fail
  refine (box_calls 2 1 4 4 _).mono ?_
  rintro e w3 ⟨rfl, hb3⟩
  replace hb3 := keepBelow hb3 hb2
  clear hb1 hb2
  go_wp2_with fail
  obtain ⟨w4, hw4⟩ : ∃ W, W = w3.alloc (.cells #[.int .i64 0, .int .i64 0, .int .i64 2, .int .i64 2, .int .i64 5, .int .i64 0, .int .i64 6, .int .i64 1, .int .i64 2, .int .i64 1, .int .i64 4, .int .i64 4] 55) := ⟨_, rfl⟩
  have hs4 : SlE layBox w4 (some ⟨w3.heap.size, 0, none⟩) 3 3 [((0, 0), (2, 2)), ((5, 0), (6, 1)), ((2, 1), (4, 4))] := by rw [hw4]; exact SlE.lit 55 w3 [((0, 0), (2, 2)), ((5, 0), (6, 1)), ((2, 1), (4, 4))] (by simp)
  have hB4 : Below w.heap.size w w4 := by rw [hw4]; exact hb3.alloc hb3.size _
  rw [← hw4]
  clear hw4
  refine (pairs_calls _ 3 3 _ w4 hs4 (by simp)).mono ?_
  rintro e w5 ⟨A5, n5, c5, rfl, hs5, -, hb5⟩
  rw [E3.out] at hs5
  have hB5 := keepBelow hb5 hB4
  have HS5 := hid hs5
  clear hs4 hb5 hs5 hB4 hb3 E3
  go_wp2_with fail
  obtain ⟨w6, hw6⟩ : ∃ W, W = w5.alloc (.cells #[.int .i64 0, .int .i64 2] 96) := ⟨_, rfl⟩
  have hs6 : SlE layPair w6 (some ⟨w5.heap.size, 0, none⟩) 1 1 [(0, 2)] := by rw [hw6]; exact SlE.lit 96 w5 [(0, 2)] (by simp)
  have hB6 : Below w.heap.size w w6 := by rw [hw6]; exact hB5.alloc hB5.size _
  have hs56 : SlE layPair w6 A5 n5 c5 [(0, 2)] := by rw [hw6]; exact HS5.out.alloc _
  rw [← hw6]
  clear hw6 hB5 HS5
  refine (equalP_calls A5 _ n5 c5 1 1 _ _ w6 hs56 hs6).mono ?_
  rintro e w7 ⟨rfl, hb7⟩
  rw [decide_eq_true rfl]
  have hB7 := keepBelow hb7 hB6
  clear hs56 hs6 hb7 hB6
  by_cases hl : l.length ≤ 80
  case neg =>
    have h80 : (80 : Int) < (l.length : Int) := by omega
    go_wp2
    go_returns
    exact ret_bool rfl hB7
  have h80 : ¬ (80 : Int) < (l.length : Int) := by omega
  by_cases hm : m.length ≤ 80
  case neg =>
    have h81 : (80 : Int) < (m.length : Int) := by omega
    go_wp2
    go_returns
    exact ret_bool rfl hB7
  have h81 : ¬ (80 : Int) < (m.length : Int) := by omega
  go_wp2
  go_loopw [35] (fun i wr => ∃ k : Nat, k ≤ l.length ∧ i = .int .i64 k ∧ Below w.heap.size w wr) (fun i _ => l.length - (intOf i).toNat)
  case atStart => exact ⟨0, Nat.zero_le _, rfl, hB7⟩
  case round =>
    clear hB7
    obtain ⟨k, hk, rfl, hB⟩ := hrel
    obtain ⟨wo, rfl⟩ : ∃ wo : World, wo = wr := ⟨_, rfl⟩
    by_cases hlt : k < l.length
    · have hlt' : (k : Int) < (l.length : Int) := by omega
      have hwk : IntKind.i64.wrap ((k : Int) + 1) = (k : Int) + 1 := IntWalk.i64_in _ (by omega)
      obtain ⟨b, off, hA, hC0⟩ := HS.out.at_ (by intro h; subst h; simp at hlt)
      subst hA
      have HC := hid hC0
      have hC := hC0.below hB
      obtain ⟨x_0, x_1, x_2, x_3⟩ := hC.box hlt
      have hbl := hC.lt
      clear hC hC0
      obtain ⟨pa, hpa⟩ : ∃ p, p = bxAt l k := ⟨_, rfl⟩
      rw [← hpa] at x_0 x_1 x_2 x_3
      have HPA := hid hpa
      clear hpa
      obtain ⟨⟨a1, a2⟩, a3, a4⟩ := pa
      dsimp only at x_0 x_1 x_2 x_3
      obtain ⟨wa, hwwa⟩ : ∃ w', w' = wo.alloc (.cells #[.int .i64 a1, .int .i64 a2, .int .i64 a3, .int .i64 a4] 55) := ⟨_, rfl⟩
      obtain ⟨gA, hggA⟩ : ∃ g, g = wo.heap.size := ⟨_, rfl⟩
      have vA : Vd wa gA ((a1, a2), (a3, a4)) := by rw [hwwa, hggA]; exact ⟨by go_simp, by go_simp, by go_simp, by go_simp⟩
      have hbwa : Below wo.heap.size wo wa := by rw [hwwa]; go_grown
      have hBa := keepBelow hbwa hB
      have ⟨q, hq⟩ : ∃ q : Nat, min (m.length : Int) 4 = (q : Int) := ⟨min m.length 4, by omega⟩
      have hqm : q ≤ m.length := by omega
      have hqc : (q : Int) ≤ (c' : Int) := by omega
      have hq0 : (0 : Int) ≤ (q : Int) := by omega
      clear hbwa
      go_upto_region 9 with fail
      rw [← hwwa, ← hggA]
      clear hwwa hggA x_0 x_1 x_2 x_3 hbl
      go_wp2
      go_loopw [46] (fun j wr => ∃ r : Nat, r ≤ q ∧ j = .int .i64 r ∧ Below w.heap.size w wr ∧ Vd wr gA ((a1, a2), (a3, a4))) (fun j _ => q - (intOf j).toNat)
      case atStart => exact ⟨0, Nat.zero_le _, rfl, hBa, vA⟩
      case round =>
        clear hBa vA
        obtain ⟨r, hr, rfl, hB, vA0⟩ := hrel
        obtain ⟨wv, rfl⟩ : ∃ wo : World, wo = wr := ⟨_, rfl⟩
        by_cases hrq : r < q
        · have hrq' : (r : Int) < (q : Int) := by omega
          have hwr : IntKind.i64.wrap ((r : Int) + 1) = (r : Int) + 1 := IntWalk.i64_in _ (by omega)
          have hrm : r < m.length := by omega
          obtain ⟨b2, off2, hA2, hC0⟩ := HMM.out.at_ (by intro h; subst h; simp at hrm)
          subst hA2
          have hC := hC0.below hB
          obtain ⟨y_0, y_1, y_2, y_3⟩ := hC.box hrm
          have hbl := hC.lt
          clear hC hC0
          obtain ⟨pb, hpb⟩ : ∃ p, p = bxAt m r := ⟨_, rfl⟩
          rw [← hpb] at y_0 y_1 y_2 y_3
          clear hpb
          obtain ⟨⟨b1, b2⟩, b3, b4⟩ := pb
          dsimp only at y_0 y_1 y_2 y_3
          obtain ⟨wb, hwwb⟩ : ∃ w', w' = wv.alloc (.cells #[.int .i64 b1, .int .i64 b2, .int .i64 b3, .int .i64 b4] 55) := ⟨_, rfl⟩
          obtain ⟨gB, hggB⟩ : ∃ g, g = wv.heap.size := ⟨_, rfl⟩
          have vB : Vd wb gB ((b1, b2), (b3, b4)) := by rw [hwwb, hggB]; exact ⟨by go_simp, by go_simp, by go_simp, by go_simp⟩
          have hbwb : Below wv.heap.size wv wb := by rw [hwwb]; go_grown
          have vA := keepVd hbwb vA0
          replace hB := keepBelow hbwb hB
          have HM := hid (smeet_calls a1 a2 a3 a4 b1 b2 b3 b4)
          have HT := hid (rtouch_calls a1 a2 a3 a4 b1 b2 b3 b4)
          have HJ := hid (sjoin_calls a1 a2 a3 a4 b1 b2 b3 b4)
          have HO := hid (rboth_calls a1 a2 a3 a4 b1 b2 b3 b4)
          generalize tchB ((a1, a2), (a3, a4)) ((b1, b2), (b3, b4)) = t at *
          generalize joinB ((a1, a2), (a3, a4)) ((b1, b2), (b3, b4)) = J at *
          obtain ⟨⟨j1, j2⟩, j3, j4⟩ := J
          have HQJ := run_eqB j1 j2 j3 j4
          clear hbwb vA0
          go_upto_region 12 with fail
          rw [← hwwb, ← hggB]
          clear hwwb hggB y_0 y_1 y_2 y_3 hbl
          refine wp_region_noPanic ?_
          refine wp_region_U (S := (S2 (fun w' => Vd w' (gA) ((a1, a2), (a3, a4)) ∧ Vd w' (gB) ((b1, b2), (b3, b4)) ∧ Below w.heap.size w w'))) (T := (fun _ => 0)) (by kernel_rfl) (S2i0 ⟨vA.drew, vB.drew, hB.drew⟩) (fun hH => ?_)
          have hWr1 : Weaker (S2 (fun w' => Vd w' (gA) ((a1, a2), (a3, a4)) ∧ Vd w' (gB) ((b1, b2), (b3, b4)) ∧ Below w.heap.size w w')) := weaker2 _
          refine U_take 0 50 15 0 0 (v := ?vr1_1) rfl (by kernel_rfl) (by kernel_rfl) hWr1 (by kernel_rfl) (by kernel_rfl) (by kernel_rfl) (by kernel_rfl) (by kernel_rfl) (by kernel_rfl) (fun _ _ _ _ h => h) (by kernel_rfl) ?hyr1_1 (by omega) hH ?_
          case hyr1_1 => (intro w' hSw; replace hSw := S2o0 hSw; (try dsimp only at hSw); have q0 := hSw.1; have q1 := hSw.2.1; have q2 := hSw.2.2; obtain ⟨qa0_0, qa0_1, qa0_2, qa0_3⟩ := q0; obtain ⟨qa1_0, qa1_1, qa1_2, qa1_3⟩ := q1; go_simp; try (with_reducible rfl))
          simp only [List.set_cons_zero, List.set_cons_succ]
          refine U_take 1 51 14 0 0 (v := ?vr1_2) rfl (by kernel_rfl) (by kernel_rfl) hWr1 (by kernel_rfl) (by kernel_rfl) (by kernel_rfl) (by kernel_rfl) (by kernel_rfl) (by kernel_rfl) (fun _ _ _ _ h => h) (by kernel_rfl) ?hyr1_2 (by omega) hH ?_
          case hyr1_2 => (intro w' hSw; replace hSw := S2o0 hSw; (try dsimp only at hSw); have q0 := hSw.1; have q1 := hSw.2.1; have q2 := hSw.2.2; obtain ⟨qa0_0, qa0_1, qa0_2, qa0_3⟩ := q0; obtain ⟨qa1_0, qa1_1, qa1_2, qa1_3⟩ := q1; go_simp; try (with_reducible rfl))
          simp only [List.set_cons_zero, List.set_cons_succ]
          refine U_take 3 53 13 0 0 (v := ?vr1_3) rfl (by kernel_rfl) (by kernel_rfl) hWr1 (by kernel_rfl) (by kernel_rfl) (by kernel_rfl) (by kernel_rfl) (by kernel_rfl) (by kernel_rfl) (fun _ _ _ _ h => h) (by kernel_rfl) ?hyr1_3 (by omega) hH ?_
          case hyr1_3 => (intro w' hSw; replace hSw := S2o0 hSw; (try dsimp only at hSw); have q0 := hSw.1; have q1 := hSw.2.1; have q2 := hSw.2.2; obtain ⟨qa0_0, qa0_1, qa0_2, qa0_3⟩ := q0; obtain ⟨qa1_0, qa1_1, qa1_2, qa1_3⟩ := q1; go_simp; try (with_reducible rfl))
          simp only [List.set_cons_zero, List.set_cons_succ]
          refine U_take 4 54 12 0 0 (v := ?vr1_4) rfl (by kernel_rfl) (by kernel_rfl) hWr1 (by kernel_rfl) (by kernel_rfl) (by kernel_rfl) (by kernel_rfl) (by kernel_rfl) (by kernel_rfl) (fun _ _ _ _ h => h) (by kernel_rfl) ?hyr1_4 (by omega) hH ?_
          case hyr1_4 => (intro w' hSw; replace hSw := S2o0 hSw; (try dsimp only at hSw); have q0 := hSw.1; have q1 := hSw.2.1; have q2 := hSw.2.2; obtain ⟨qa0_0, qa0_1, qa0_2, qa0_3⟩ := q0; obtain ⟨qa1_0, qa1_1, qa1_2, qa1_3⟩ := q1; go_simp; try (with_reducible rfl))
          simp only [List.set_cons_zero, List.set_cons_succ]
          refine wpAnyU_ready (rs := [2]) (by kernel_rfl) (by simp) ?_
          refine AllReadyU.cons 0 (by kernel_rfl) (o := _) rfl (fun K hK => ?_) AllReadyU.nil
          try clear hb
          go_simp
          (go_at_call 36; refine (HM.out _).mono ?_; rintro e wn ⟨rfl, hb⟩)
          refine hK.out _ _ ?hsr1_5 (fun hH2 => ?hrr1_5)
          case hsr1_5 => exact S2i0 (by have hG := hH; replace hG := S2o0 hG; (try dsimp only at hG); have q0 := hG.1; have q1 := hG.2.1; have q2 := hG.2.2; exact ⟨keepVd hb q0, keepVd hb q1, keepBelow hb q2⟩)
          clear hK K hH
          have hH := hH2
          clear hH2
          try simp only [Act.put, List.setIfInBounds_toArray, List.set_cons_zero, List.set_cons_succ]
          refine wpAnyU_ready (rs := [5]) (by kernel_rfl) (by simp) ?_
          refine AllReadyU.cons 0 (by kernel_rfl) (o := _) rfl (fun K hK => ?_) AllReadyU.nil
          try clear hb
          go_simp
          (go_at_call 71; refine (HT.out _).mono ?_; rintro e wn ⟨rfl, hb⟩)
          refine hK.out _ _ ?hsr1_6 (fun hH2 => ?hrr1_6)
          case hsr1_6 => exact S2i0 (by have hG := hH; replace hG := S2o0 hG; (try dsimp only at hG); have q0 := hG.1; have q1 := hG.2.1; have q2 := hG.2.2; exact ⟨keepVd hb q0, keepVd hb q1, keepBelow hb q2⟩)
          clear hK K hH
          have hH := hH2
          clear hH2
          try simp only [Act.put, List.setIfInBounds_toArray, List.set_cons_zero, List.set_cons_succ]
          refine U_take 6 56 9 0 0 (v := ?vr1_7) rfl (by kernel_rfl) (by kernel_rfl) hWr1 (by kernel_rfl) (by kernel_rfl) (by kernel_rfl) (by kernel_rfl) (by kernel_rfl) (by kernel_rfl) (fun _ _ _ _ h => h) (by kernel_rfl) ?hyr1_7 (by omega) hH ?_
          case hyr1_7 => (intro w' hSw; clear hSw; go_simp; try (with_reducible rfl))
          simp only [List.set_cons_zero, List.set_cons_succ]
          refine U_take 7 57 8 0 0 (v := ?vr1_8) rfl (by kernel_rfl) (by kernel_rfl) hWr1 (by kernel_rfl) (by kernel_rfl) (by kernel_rfl) (by kernel_rfl) (by kernel_rfl) (by kernel_rfl) (fun _ _ _ _ h => h) (by kernel_rfl) ?hyr1_8 (by omega) hH ?_
          case hyr1_8 => (intro w' hSw; clear hSw; go_simp; try (with_reducible rfl))
          simp only [List.set_cons_zero, List.set_cons_succ]
          refine U_take 8 58 7 0 0 (v := ?vr1_9) rfl (by kernel_rfl) (by kernel_rfl) hWr1 (by kernel_rfl) (by kernel_rfl) (by kernel_rfl) (by kernel_rfl) (by kernel_rfl) (by kernel_rfl) (fun _ _ _ _ h => h) (by kernel_rfl) ?hyr1_9 (by omega) hH ?_
          case hyr1_9 => (intro w' hSw; replace hSw := S2o0 hSw; (try dsimp only at hSw); have q0 := hSw.1; have q1 := hSw.2.1; have q2 := hSw.2.2; obtain ⟨qa0_0, qa0_1, qa0_2, qa0_3⟩ := q0; obtain ⟨qa1_0, qa1_1, qa1_2, qa1_3⟩ := q1; go_simp; try (with_reducible rfl))
          simp only [List.set_cons_zero, List.set_cons_succ]
          refine U_take 9 59 6 0 0 (v := ?vr1_10) rfl (by kernel_rfl) (by kernel_rfl) hWr1 (by kernel_rfl) (by kernel_rfl) (by kernel_rfl) (by kernel_rfl) (by kernel_rfl) (by kernel_rfl) (fun _ _ _ _ h => h) (by kernel_rfl) ?hyr1_10 (by omega) hH ?_
          case hyr1_10 => (intro w' hSw; replace hSw := S2o0 hSw; (try dsimp only at hSw); have q0 := hSw.1; have q1 := hSw.2.1; have q2 := hSw.2.2; obtain ⟨qa0_0, qa0_1, qa0_2, qa0_3⟩ := q0; obtain ⟨qa1_0, qa1_1, qa1_2, qa1_3⟩ := q1; go_simp; try (with_reducible rfl))
          simp only [List.set_cons_zero, List.set_cons_succ]
          refine U_take 11 61 5 0 0 (v := ?vr1_11) rfl (by kernel_rfl) (by kernel_rfl) hWr1 (by kernel_rfl) (by kernel_rfl) (by kernel_rfl) (by kernel_rfl) (by kernel_rfl) (by kernel_rfl) (fun _ _ _ _ h => h) (by kernel_rfl) ?hyr1_11 (by omega) hH ?_
          case hyr1_11 => (intro w' hSw; replace hSw := S2o0 hSw; (try dsimp only at hSw); have q0 := hSw.1; have q1 := hSw.2.1; have q2 := hSw.2.2; obtain ⟨qa0_0, qa0_1, qa0_2, qa0_3⟩ := q0; obtain ⟨qa1_0, qa1_1, qa1_2, qa1_3⟩ := q1; go_simp; try (with_reducible rfl))
          simp only [List.set_cons_zero, List.set_cons_succ]
          refine U_take 12 62 4 0 0 (v := ?vr1_12) rfl (by kernel_rfl) (by kernel_rfl) hWr1 (by kernel_rfl) (by kernel_rfl) (by kernel_rfl) (by kernel_rfl) (by kernel_rfl) (by kernel_rfl) (fun _ _ _ _ h => h) (by kernel_rfl) ?hyr1_12 (by omega) hH ?_
          case hyr1_12 => (intro w' hSw; replace hSw := S2o0 hSw; (try dsimp only at hSw); have q0 := hSw.1; have q1 := hSw.2.1; have q2 := hSw.2.2; obtain ⟨qa0_0, qa0_1, qa0_2, qa0_3⟩ := q0; obtain ⟨qa1_0, qa1_1, qa1_2, qa1_3⟩ := q1; go_simp; try (with_reducible rfl))
          simp only [List.set_cons_zero, List.set_cons_succ]
          refine wpAnyU_ready (rs := [10]) (by kernel_rfl) (by simp) ?_
          refine AllReadyU.cons 0 (by kernel_rfl) (o := _) rfl (fun K hK => ?_) AllReadyU.nil
          try clear hb
          go_simp
          (go_at_call 35; refine (HJ.out _).mono ?_; rintro e wn ⟨rfl, hb⟩)
          refine hK.out _ _ ?hsr1_13 (fun hH2 => ?hrr1_13)
          case hsr1_13 => exact S2i0 (by have hG := hH; replace hG := S2o0 hG; (try dsimp only at hG); have q0 := hG.1; have q1 := hG.2.1; have q2 := hG.2.2; exact ⟨keepVd hb q0, keepVd hb q1, keepBelow hb q2⟩)
          clear hK K hH
          have hH := hH2
          clear hH2
          try simp only [Act.put, List.setIfInBounds_toArray, List.set_cons_zero, List.set_cons_succ]
          refine wpAnyU_ready (rs := [13]) (by kernel_rfl) (by simp) ?_
          refine AllReadyU.cons 0 (by kernel_rfl) (o := _) rfl (fun K hK => ?_) AllReadyU.nil
          try clear hb
          go_simp
          (go_at_call 72; refine (HO.out _).mono ?_; rintro e wn ⟨rfl, hb⟩)
          refine hK.out _ _ ?hsr1_14 (fun hH2 => ?hrr1_14)
          case hsr1_14 => exact S2i0 (by have hG := hH; replace hG := S2o0 hG; (try dsimp only at hG); have q0 := hG.1; have q1 := hG.2.1; have q2 := hG.2.2; exact ⟨keepVd hb q0, keepVd hb q1, keepBelow hb q2⟩)
          clear hK K hH
          have hH := hH2
          clear hH2
          try simp only [Act.put, List.setIfInBounds_toArray, List.set_cons_zero, List.set_cons_succ]
          refine U_take 14 64 1 0 0 (v := ?vr1_15) rfl (by kernel_rfl) (by kernel_rfl) hWr1 (by kernel_rfl) (by kernel_rfl) (by kernel_rfl) (by kernel_rfl) (by kernel_rfl) (by kernel_rfl) (fun _ _ _ _ h => h) (by kernel_rfl) ?hyr1_15 (by omega) hH ?_
          case hyr1_15 => (intro w' hSw; clear hSw; go_simp; try (with_reducible rfl))
          simp only [List.set_cons_zero, List.set_cons_succ]
          refine U_take 15 65 0 0 0 (v := ?vr1_16) rfl (by kernel_rfl) (by kernel_rfl) hWr1 (by kernel_rfl) (by kernel_rfl) (by kernel_rfl) (by kernel_rfl) (by kernel_rfl) (by kernel_rfl) (fun _ _ _ _ h => h) (by kernel_rfl) ?hyr1_16 (by omega) hH ?_
          case hyr1_16 => (intro w' hSw; clear hSw; go_simp; try (with_reducible rfl))
          simp only [List.set_cons_zero, List.set_cons_succ]
          refine wpAnyU_done (by kernel_rfl) ?_ _ _
          refine NoPanic.normal ?_
          clear hWr1
          replace hH := S2o0 hH
          (try dsimp only at hH)
          have q0 := hH.1
          have q1 := hH.2.1
          have q2 := hH.2.2
          clear hH
          clear vA vB hB HM HT HJ HO HQJ q1
          try clear hb
          go_wp2
          go_roundw
          case rel => exact ⟨r + 1, hrq, by go_num, q2, q0⟩
          case measure => simp [intOf]; omega
        · have hre : r = q := by omega
          subst hre
          have hC := HC.out.below hB
          obtain ⟨x_0, x_1, x_2, x_3⟩ := hC.box hlt
          have hbl := hC.lt
          rw [← HPA.out] at x_0 x_1 x_2 x_3
          dsimp only at x_0 x_1 x_2 x_3
          have vA := vA0
          have HV := hid (svalid_calls a1 a2 a3 a4)
          have HRV := hid (rbox_calls a1 a2 a3 a4)
          generalize vldB ((a1, a2), (a3, a4)) = v at *
          clear hC vA0
          go_upto_region 15 with fail
          refine wp_region_noPanic ?_
          refine wp_region_U (S := (S2 (fun w' => w'.cell? ⟨b, off + k * 4, none⟩ = some (.int .i64 a1) ∧ w'.cell? ⟨b, off + k * 4 + 1, none⟩ = some (.int .i64 a2) ∧ w'.cell? ⟨b, off + k * 4 + 2, none⟩ = some (.int .i64 a3) ∧ w'.cell? ⟨b, off + k * 4 + 3, none⟩ = some (.int .i64 a4) ∧ Vd w' (gA) ((a1, a2), (a3, a4)) ∧ Below w.heap.size w w'))) (T := (fun _ => 0)) (by kernel_rfl) (S2i0 ⟨x_0, x_1, x_2, x_3, vA.drew, hB.drew⟩) (fun hH => ?_)
          have hWr2 : Weaker (S2 (fun w' => w'.cell? ⟨b, off + k * 4, none⟩ = some (.int .i64 a1) ∧ w'.cell? ⟨b, off + k * 4 + 1, none⟩ = some (.int .i64 a2) ∧ w'.cell? ⟨b, off + k * 4 + 2, none⟩ = some (.int .i64 a3) ∧ w'.cell? ⟨b, off + k * 4 + 3, none⟩ = some (.int .i64 a4) ∧ Vd w' (gA) ((a1, a2), (a3, a4)) ∧ Below w.heap.size w w')) := weaker2 _
          refine U_take 0 67 7 0 0 (v := ?vr2_1) rfl (by kernel_rfl) (by kernel_rfl) hWr2 (by kernel_rfl) (by kernel_rfl) (by kernel_rfl) (by kernel_rfl) (by kernel_rfl) (by kernel_rfl) (fun _ _ _ _ h => h) (by kernel_rfl) ?hyr2_1 (by omega) hH ?_
          case hyr2_1 => (intro w' hSw; clear hSw; go_simp; try (with_reducible rfl))
          simp only [List.set_cons_zero, List.set_cons_succ]
          refine U_take 1 68 6 0 0 (v := ?vr2_2) rfl (by kernel_rfl) (by kernel_rfl) hWr2 (by kernel_rfl) (by kernel_rfl) (by kernel_rfl) (by kernel_rfl) (by kernel_rfl) (by kernel_rfl) (fun _ _ _ _ h => h) (by kernel_rfl) ?hyr2_2 (by omega) hH ?_
          case hyr2_2 => (intro w' hSw; clear hSw; go_simp; try (with_reducible rfl))
          simp only [List.set_cons_zero, List.set_cons_succ]
          refine U_take 2 69 5 0 0 (v := ?vr2_3) rfl (by kernel_rfl) (by kernel_rfl) hWr2 (by kernel_rfl) (by kernel_rfl) (by kernel_rfl) (by kernel_rfl) (by kernel_rfl) (by kernel_rfl) (fun _ _ _ _ h => h) (by kernel_rfl) ?hyr2_3 (by omega) hH ?_
          case hyr2_3 => (intro w' hSw; clear hSw; go_simp; try (with_reducible rfl))
          simp only [List.set_cons_zero, List.set_cons_succ]
          refine U_take 3 70 4 0 0 (v := ?vr2_4) rfl (by kernel_rfl) (by kernel_rfl) hWr2 (by kernel_rfl) (by kernel_rfl) (by kernel_rfl) (by kernel_rfl) (by kernel_rfl) (by kernel_rfl) (fun _ _ _ _ h => h) (by kernel_rfl) ?hyr2_4 (by omega) hH ?_
          case hyr2_4 => (intro w' hSw; replace hSw := S2o0 hSw; (try dsimp only at hSw); have q0 := hSw.1; have q1 := hSw.2.1; have q2 := hSw.2.2.1; have q3 := hSw.2.2.2.1; have q4 := hSw.2.2.2.2.1; have q5 := hSw.2.2.2.2.2; obtain ⟨qa4_0, qa4_1, qa4_2, qa4_3⟩ := q4; go_simp; try (with_reducible rfl))
          simp only [List.set_cons_zero, List.set_cons_succ]
          refine U_take 5 72 3 0 0 (v := ?vr2_5) rfl (by kernel_rfl) (by kernel_rfl) hWr2 (by kernel_rfl) (by kernel_rfl) (by kernel_rfl) (by kernel_rfl) (by kernel_rfl) (by kernel_rfl) (fun _ _ _ _ h => h) (by kernel_rfl) ?hyr2_5 (by omega) hH ?_
          case hyr2_5 => (intro w' hSw; replace hSw := S2o0 hSw; (try dsimp only at hSw); have q0 := hSw.1; have q1 := hSw.2.1; have q2 := hSw.2.2.1; have q3 := hSw.2.2.2.1; have q4 := hSw.2.2.2.2.1; have q5 := hSw.2.2.2.2.2; obtain ⟨qa4_0, qa4_1, qa4_2, qa4_3⟩ := q4; go_simp; try (with_reducible rfl))
          simp only [List.set_cons_zero, List.set_cons_succ]
          refine wpAnyU_ready (rs := [4]) (by kernel_rfl) (by simp) ?_
          refine AllReadyU.cons 0 (by kernel_rfl) (o := _) rfl (fun K hK => ?_) AllReadyU.nil
          try clear hb
          go_simp
          (go_at_call 73; refine (HV.out _).mono ?_; rintro e wn ⟨rfl, hb⟩)
          refine hK.out _ _ ?hsr2_6 (fun hH2 => ?hrr2_6)
          case hsr2_6 => exact S2i0 (by have hG := hH; replace hG := S2o0 hG; (try dsimp only at hG); have q0 := hG.1; have q1 := hG.2.1; have q2 := hG.2.2.1; have q3 := hG.2.2.2.1; have q4 := hG.2.2.2.2.1; have q5 := hG.2.2.2.2.2; exact ⟨keepCell hb q0, keepCell hb q1, keepCell hb q2, keepCell hb q3, keepVd hb q4, keepBelow hb q5⟩)
          clear hK K hH
          have hH := hH2
          clear hH2
          try simp only [Act.put, List.setIfInBounds_toArray, List.set_cons_zero, List.set_cons_succ]
          refine wpAnyU_ready (rs := [6]) (by kernel_rfl) (by simp) ?_
          refine AllReadyU.cons 0 (by kernel_rfl) (o := _) rfl (fun K hK => ?_) AllReadyU.nil
          try clear hb
          go_simp
          (go_at_call 74; refine (HRV.out _).mono ?_; rintro e wn ⟨rfl, hb⟩)
          refine hK.out _ _ ?hsr2_7 (fun hH2 => ?hrr2_7)
          case hsr2_7 => exact S2i0 (by have hG := hH; replace hG := S2o0 hG; (try dsimp only at hG); have q0 := hG.1; have q1 := hG.2.1; have q2 := hG.2.2.1; have q3 := hG.2.2.2.1; have q4 := hG.2.2.2.2.1; have q5 := hG.2.2.2.2.2; exact ⟨keepCell hb q0, keepCell hb q1, keepCell hb q2, keepCell hb q3, keepVd hb q4, keepBelow hb q5⟩)
          clear hK K hH
          have hH := hH2
          clear hH2
          try simp only [Act.put, List.setIfInBounds_toArray, List.set_cons_zero, List.set_cons_succ]
          refine U_take 7 74 0 0 0 (v := ?vr2_8) rfl (by kernel_rfl) (by kernel_rfl) hWr2 (by kernel_rfl) (by kernel_rfl) (by kernel_rfl) (by kernel_rfl) (by kernel_rfl) (by kernel_rfl) (fun _ _ _ _ h => h) (by kernel_rfl) ?hyr2_8 (by omega) hH ?_
          case hyr2_8 => (intro w' hSw; clear hSw; go_simp; try (with_reducible rfl))
          simp only [List.set_cons_zero, List.set_cons_succ]
          refine wpAnyU_done (by kernel_rfl) ?_ _ _
          refine NoPanic.normal ?_
          clear hWr2
          replace hH := S2o0 hH
          (try dsimp only at hH)
          have q0 := hH.1
          have q1 := hH.2.1
          have q2 := hH.2.2.1
          have q3 := hH.2.2.2.1
          have q4 := hH.2.2.2.2.1
          have q5 := hH.2.2.2.2.2
          clear hH
          clear x_0 x_1 x_2 x_3 hbl vA hB HV HRV q0 q1 q2 q3 q4
          try clear hb
          go_wp2
          go_roundw
          case rel => exact ⟨k + 1, hlt, by go_num, q5⟩
          case measure => simp [intOf]; omega
    · have hke : k = l.length := by omega
      subst hke
      have HBB := hid hB
      clear hB
      go_wp2
      go_loopw [10, 78] (fun s i wr => ∃ k : Nat, k ≤ l.length ∧ i = .int .i64 k ∧ PO wo s (betTo l m k) wr) (fun _ i _ => l.length - (intOf i).toNat)
      case atStart => exact ⟨0, Nat.zero_le _, rfl, PO.nil _⟩
      case round =>
        obtain ⟨k, hk, rfl, hpo⟩ := hrel
        obtain ⟨wp, rfl⟩ : ∃ wo : World, wo = wr := ⟨_, rfl⟩
        have HPO := hid hpo
        have hB : Below w.heap.size w wp := HBB.out.trans (hpo.bel.mono HBB.out.size)
        by_cases hlt : k < l.length
        · have hlt' : (k : Int) < (l.length : Int) := by omega
          have hwk : IntKind.i64.wrap ((k : Int) + 1) = (k : Int) + 1 := IntWalk.i64_in _ (by omega)
          obtain ⟨b, off, hA, hC0⟩ := HS.out.at_ (by intro h; subst h; simp at hlt)
          subst hA
          have hC := hC0.below hB
          obtain ⟨x_0, x_1, x_2, x_3⟩ := hC.box hlt
          have hbl := hC.lt
          have HBL : Hid ((betTo l m k).length ≤ 6400) := by
            have := betTo_len l m k
            have : k * m.length ≤ 80 * 80 := Nat.mul_le_mul (by omega) (by omega)
            show _ ≤ _
            omega
          have HNX := hid (betTo_succ l m k)
          generalize betTo l m k = P at *
          have HRQ := hid (fun j => rowQ_succ l m k j)
          have HRL := hid (fun j => rowQ_len l m k j)
          have HR0 : Hid (rowQ l m k 0 = []) := by show _ = _; simp [rowQ]
          generalize rowQ l m k = RQ at *
          clear hC hC0
          obtain ⟨pa, hpa⟩ : ∃ p, p = bxAt l k := ⟨_, rfl⟩
          rw [← hpa] at x_0 x_1 x_2 x_3
          have HPA := hid hpa
          clear hpa
          obtain ⟨⟨a1, a2⟩, a3, a4⟩ := pa
          dsimp only at x_0 x_1 x_2 x_3
          obtain ⟨wa, hwwa⟩ : ∃ w', w' = wp.alloc (.cells #[.int .i64 a1, .int .i64 a2, .int .i64 a3, .int .i64 a4] 55) := ⟨_, rfl⟩
          obtain ⟨gA, hggA⟩ : ∃ g, g = wp.heap.size := ⟨_, rfl⟩
          have vA : Vd wa gA ((a1, a2), (a3, a4)) := by rw [hwwa, hggA]; exact ⟨by go_simp, by go_simp, by go_simp, by go_simp⟩
          have hbwa : Below wp.heap.size wp wa := by rw [hwwa]; go_grown
          have HPZ : Hid (PZ wo gA ((a1, a2), (a3, a4)) u10 P wa) := ⟨HPO.out.keep hbwa, fun e => by have := (HPO.out.own.lt e.symm).2; omega, vA⟩
          clear hbwa vA hB hpo HPO
          go_upto_region 22 with fail
          rw [← hwwa, ← hggA]
          clear hwwa hggA x_0 x_1 x_2 x_3 hbl
          go_wp2
          go_loopw [10, 85] (fun s i wr => ∃ j : Nat, j ≤ m.length ∧ i = .int .i64 j ∧ PZ wo gA ((a1, a2), (a3, a4)) s (P ++ RQ j) wr) (fun _ i _ => m.length - (intOf i).toNat)
          case atStart => exact ⟨0, Nat.zero_le _, rfl, by rw [HR0.out, List.append_nil]; exact HPZ.out⟩
          case round =>
            clear HPZ
            obtain ⟨j, hj, rfl, hpz⟩ := hrel
            obtain ⟨wv, rfl⟩ : ∃ wo : World, wo = wr := ⟨_, rfl⟩
            have HPZ := hid hpz
            by_cases hjm : j < m.length
            · have hjm' : (j : Int) < (m.length : Int) := by omega
              have hwj : IntKind.i64.wrap ((j : Int) + 1) = (j : Int) + 1 := IntWalk.i64_in _ (by omega)
              have hB : Below w.heap.size w wv := HBB.out.trans (hpz.po.bel.mono HBB.out.size)
              obtain ⟨b2, off2, hA2, hC0⟩ := HMM.out.at_ (by intro h; subst h; simp at hjm)
              subst hA2
              have hC := hC0.below hB
              obtain ⟨y_0, y_1, y_2, y_3⟩ := hC.box hjm
              have hbl := hC.lt
              have HRJ := hid (HRQ.out j)
              have HRJL := hid (HRL.out j)
              rw [← HPA.out] at HRJ
              clear hC hC0 hpz
              obtain ⟨pb, hpb⟩ : ∃ p, p = bxAt m j := ⟨_, rfl⟩
              rw [← hpb] at y_0 y_1 y_2 y_3 HRJ
              clear hpb
              obtain ⟨⟨b1, b2⟩, b3, b4⟩ := pb
              dsimp only at y_0 y_1 y_2 y_3
              obtain ⟨wb, hwwb⟩ : ∃ w', w' = wv.alloc (.cells #[.int .i64 b1, .int .i64 b2, .int .i64 b3, .int .i64 b4] 55) := ⟨_, rfl⟩
              obtain ⟨gB, hggB⟩ : ∃ g, g = wv.heap.size := ⟨_, rfl⟩
              have vB : Vd wb gB ((b1, b2), (b3, b4)) := by rw [hwwb, hggB]; exact ⟨by go_simp, by go_simp, by go_simp, by go_simp⟩
              have hbwb : Below wv.heap.size wv wb := by rw [hwwb]; go_grown
              replace HPZ := hid (HPZ.out.keep hbwb)
              have HT := hid (rtouch_calls a1 a2 a3 a4 b1 b2 b3 b4)
              generalize tchB ((a1, a2), (a3, a4)) ((b1, b2), (b3, b4)) = t at *
              obtain ⟨t0, t1, t2, t3⟩ := HPZ.out.va
              obtain ⟨z0, z1, z2, z3⟩ := vB
              dsimp only at t0 t1 t2 t3 z0 z1 z2 z3
              clear hbwb hB
              go_upto_region 25 with fail
              rw [← hwwb, ← hggB]
              clear hwwb hggB y_0 y_1 y_2 y_3 hbl
              go_wp2_with fail
              refine (HT.out _).mono ?_
              rintro e w9 ⟨rfl, hb9⟩
              replace HPZ := hid (HPZ.out.keep hb9)
              clear hb9 HT t0 t1 t2 t3 z0 z1 z2 z3
              cases t with
              | true =>
                have HO2 : Hid (RQ (j + 1) = RQ j ++ [(k, j)]) := by show _ = _; rw [HRJ.out, if_pos rfl]
                clear HRJ
                go_wp2_with (at_builtin; refine wpList_append_E tyPair rfl _ _ rfl wo.heap.size _ _ rfl (HPZ.out.po.own.alloc _) w9.heap.size 0 1 1 [(k, j)] rfl rfl (cells_pair (by go_simp) (by go_simp)) (by have := HBL.out; have := HRJL.out; simp; omega) (by have := HBL.out; have := HRJL.out; simp; omega) (by have := HPZ.out.po.bel.size; simp; omega) ?_; intro v' w7 ho1 hg1 hat; have HP7 := hid ((HPZ.out.keep ((Below.refl _ _).alloc (Nat.le_refl _) _)).app ho1 hg1 hat); clear ho1 hg1 hat)
                clear HPZ
                go_roundw
                case rel => exact ⟨j + 1, hjm, by go_num, by rw [HO2.out, ← List.append_assoc]; exact HP7.out⟩
                case measure => simp [intOf]; omega
              | false =>
                have HO2 : Hid (RQ (j + 1) = RQ j) := by show _ = _; rw [HRJ.out, if_neg (by simp), List.append_nil]
                clear HRJ
                go_wp2
                go_roundw
                case rel => exact ⟨j + 1, hjm, by go_num, by rw [HO2.out]; exact HPZ.out⟩
                case measure => simp [intOf]; omega
            · have hje : j = m.length := by omega
              subst hje
              clear hpz
              go_wp2
              go_roundw
              case rel => exact ⟨k + 1, hlt, by go_num, by rw [HNX.out]; exact HPZ.out.po⟩
              case measure => simp [intOf]; omega
        · have hke : k = l.length := by omega
          subst hke
          rw [← btw_law] at HPO
          obtain ⟨Ao, no, co, rfl, hso, -⟩ := HPO.out.own.sl
          have HSO := hid hso
          have HBW := hid hB
          clear hpo hso HPO hB
          go_wp2_with fail
          refine (pairs_calls _ _ c l _ (HS.out.below HBW.out) (by omega)).mono ?_
          rintro e w10 ⟨A1, n1, c1, rfl, hs1, -, hb1⟩
          replace HSO := hid (HSO.out.below hb1)
          replace HBW := hid (keepBelow hb1 HBW.out)
          have HS1 := hid hs1
          clear hb1 hs1
          go_wp2_with fail
          refine (rpairs_calls _ _ c l _ (HS.out.below HBW.out) (by omega)).mono ?_
          rintro e w11 ⟨A2, n2, c2, rfl, hs2, -, hb2⟩
          replace HSO := hid (HSO.out.below hb2)
          replace HBW := hid (keepBelow hb2 HBW.out)
          replace HS1 := hid (HS1.out.below hb2)
          have HS2 := hid hs2
          clear hb2 hs2
          go_wp2_with fail
          refine (equalP_calls A1 A2 n1 c1 n2 c2 _ _ w11 HS1.out HS2.out).mono ?_
          rintro e w12 ⟨rfl, hb3⟩
          rw [decide_eq_true rfl]
          replace HSO := hid (HSO.out.below hb3)
          replace HBW := hid (keepBelow hb3 HBW.out)
          clear hb3 HS1 HS2
          go_wp2_with fail
          refine (between_calls _ _ _ c _ c' l m _ (HS.out.below HBW.out) (HMM.out.below HBW.out) (by omega) (by omega)).mono ?_
          rintro e w13 ⟨A3, n3, c3, rfl, hs3, -, hb4⟩
          replace HSO := hid (HSO.out.below hb4)
          replace HBW := hid (keepBelow hb4 HBW.out)
          have HS3 := hid hs3
          clear hb4 hs3
          go_wp2_with fail
          refine (equalP_calls A3 Ao n3 c3 no co _ _ w13 HS3.out HSO.out).mono ?_
          rintro e w14 ⟨rfl, hb5⟩
          rw [decide_eq_true rfl]
          have hB := keepBelow hb5 HBW.out
          clear hb5 HS3 HSO HBW
          go_wp2
          go_returns
          exact ret_bool rfl hB

end Go.Proofs.Ythhfjiikmaghdaa
