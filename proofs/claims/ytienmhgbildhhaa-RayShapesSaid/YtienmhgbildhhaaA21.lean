/- Parts of a proof: contracts and laws. -/
import Derived.Test.YtienmhgbildhhaaA19
import Derived.Test.YtienmhgbildhhaaA01
import Derived.Test.YtienmhgbildhhaaA05
namespace Go.Proofs.Ytienmhgbildhhaa
section
set_option linter.unusedVariables false
set_option linter.unusedSimpArgs false
open Go.RowKit
theorem Blk8.put8 {w : World} {g : Nat} {p o : Nat → Int} (h : Blk8 w g p) : Blk8 ((((((((w.setCell ⟨g, 0, none⟩ (.int .u32 (o 0))).setCell ⟨g, 1, none⟩ (.int .u32 (o 1))).setCell ⟨g, 2, none⟩ (.int .u32 (o 2))).setCell ⟨g, 3, none⟩ (.int .u32 (o 3))).setCell ⟨g, 4, none⟩ (.int .u32 (o 4))).setCell ⟨g, 5, none⟩ (.int .u32 (o 5))).setCell ⟨g, 6, none⟩ (.int .u32 (o 6))).setCell ⟨g, 7, none⟩ (.int .u32 (o 7))) g o := by
  have h0 := h.set (k := 0) (o' := part o p 1) (v := o 0) (by omega) rfl (fun j hj => by rw [part_ne _ _ _ _ hj]; exact part_zero _ _ _)
  have h1 := h0.set (k := 1) (o' := part o p 2) (v := o 1) (by omega) rfl (fun j hj => part_ne _ _ _ _ hj)
  have h2 := h1.set (k := 2) (o' := part o p 3) (v := o 2) (by omega) rfl (fun j hj => part_ne _ _ _ _ hj)
  have h3 := h2.set (k := 3) (o' := part o p 4) (v := o 3) (by omega) rfl (fun j hj => part_ne _ _ _ _ hj)
  have h4 := h3.set (k := 4) (o' := part o p 5) (v := o 4) (by omega) rfl (fun j hj => part_ne _ _ _ _ hj)
  have h5 := h4.set (k := 5) (o' := part o p 6) (v := o 5) (by omega) rfl (fun j hj => part_ne _ _ _ _ hj)
  have h6 := h5.set (k := 6) (o' := part o p 7) (v := o 6) (by omega) rfl (fun j hj => part_ne _ _ _ _ hj)
  have h7 := h6.set (k := 7) (o' := part o p 8) (v := o 7) (by omega) rfl (fun j hj => part_ne _ _ _ _ hj)
  exact h7.congr fun j hj => part_full _ _ _ _ hj
theorem Blk8.off8 {w : World} {g b : Nat} {o : Nat → Int} {v0 v1 v2 v3 v4 v5 v6 v7 : Value} (h : Blk8 w g o) (hb : b ≠ g) : Blk8 ((((((((w.setCell ⟨b, 0, none⟩ v0).setCell ⟨b, 1, none⟩ v1).setCell ⟨b, 2, none⟩ v2).setCell ⟨b, 3, none⟩ v3).setCell ⟨b, 4, none⟩ v4).setCell ⟨b, 5, none⟩ v5).setCell ⟨b, 6, none⟩ v6).setCell ⟨b, 7, none⟩ v7) g o :=
  (((((((h.far hb _).far hb _).far hb _).far hb _).far hb _).far hb _).far hb _).far hb _

theorem part_found {n d o : Int} (hd : 0 ≤ d) (h0 : 0 ≤ o) (h1 : o + 1 ≤ 131072) (s1 : o = 0 ∨ o * d ≤ n * 65536) (s2 : o + 1 = 131072 ∨ n * 65536 < (o + 1) * d) : min o 65536 = partP n d := by
  unfold partP
  by_cases hd0 : d = 0
  · rw [if_pos hd0]
    rw [hd0, Int.mul_zero] at s1 s2
    by_cases hn : 0 ≤ n
    · rw [if_pos hn]; omega
    · rw [if_neg hn]; omega
  · rw [if_neg hd0]
    have hp : 0 < d := by omega
    by_cases hn : 0 ≤ n
    · have a : o ≤ n * 65536 / d := by
        rw [Int.le_ediv_iff_mul_le hp]
        rcases s1 with rfl | h
        · rw [Int.zero_mul]; omega
        · exact h
      rcases s2 with h | h
      · omega
      · have := (Int.ediv_lt_iff_lt_mul hp).2 h
        omega
    · have ho : o = 0 := by
        rcases s1 with h | h
        · exact h
        · rcases Int.lt_or_le 0 o with g | g
          · have := Int.mul_pos g hp; omega
          · omega
      have : n * 65536 / d < 0 := Int.ediv_neg_of_neg_of_pos (by omega) hp
      omega
set_option maxRecDepth 100000 in
set_option maxHeartbeats 8000000 in
theorem rpart_calls (n d : Int) (hn : -1152921504606846976 ≤ n ∧ n ≤ 1152921504606846976) (hd : -1152921504606846976 ≤ d ∧ d ≤ 1152921504606846976) (w : World) : Calls Try.prog 115 #[bigV n, bigV d] w (Ret (.int .i64 (partZ n d)) w) := by
  obtain ⟨W, hW⟩ : ∃ W, W = (w.alloc (.cells #[.int .u32 (digs n 0), .int .u32 (digs n 1), .int .u32 (digs n 2), .int .u32 (digs n 3), .int .u32 (digs n 4), .int .u32 (digs n 5), .int .u32 (digs n 6), .int .u32 (digs n 7)] 142)).alloc (.cells #[.int .u32 (digs d 0), .int .u32 (digs d 1), .int .u32 (digs d 2), .int .u32 (digs d 3), .int .u32 (digs d 4), .int .u32 (digs d 5), .int .u32 (digs d 6), .int .u32 (digs d 7)] 142) := ⟨_, rfl⟩
  have HN0 := hid (show Blk8 W w.heap.size (digs n) by rw [hW]; exact (Blk8.here w _ (digs n)).alloc (by simp) _)
  have HD0 := hid (show Blk8 W (w.heap.size + 1) (digs d) by rw [hW]; have := Blk8.here (w.alloc (.cells #[.int .u32 (digs n 0), .int .u32 (digs n 1), .int .u32 (digs n 2), .int .u32 (digs n 3), .int .u32 (digs n 4), .int .u32 (digs n 5), .int .u32 (digs n 6), .int .u32 (digs n 7)] 142)) 142 (digs d); simpa using this)
  have hB0 : Below w.heap.size w W := by rw [hW]; go_grown
  have HBD := hid (And.intro hn hd)
  have HBL := hid (fun w => below_calls d w (by omega) (by omega))
  clear hn hd
  obtain ⟨t0, t1, t2, t3, t4, t5, t6, t7⟩ := HD0.out.all
  by_cases hneg : d < 0
  · have HP : Hid (∀ o : Int, 0 ≤ o → o + 1 ≤ 131072 → (o = 0 ∨ o * -d ≤ -n * 65536) → (o + 1 = 131072 ∨ -n * 65536 < (o + 1) * -d) → min o 65536 = partZ n d) := fun o h0 h1 s1 s2 => by
      have := part_found (n := -n) (d := -d) (by omega) h0 h1 s1 s2
      rw [this]; unfold partZ; rw [if_pos hneg]
    generalize partZ n d = R at *
    rw [decide_eq_true hneg] at HBL
    go_enter Try.func115, Try.ntmps115
    go_wp2_with fail
    rw [← hW]
    clear hW
    refine (HBL.out _).mono ?_
    rintro e w1 ⟨rfl, hb1⟩
    replace HN0 := hid (keepBlk hb1 HN0.out)
    replace HD0 := hid (keepBlk hb1 HD0.out)
    replace hB0 := keepBelow hb1 hB0
    clear hb1 HBL t0 t1 t2 t3 t4 t5 t6 t7
    go_upto_region 2 with fail
    refine wp_region_noPanic ?_
    refine wp_region_U (S := (S2 (fun w' => Blk8 w' (w.heap.size) (digs n) ∧ Blk8 w' (w.heap.size + 1) (digs d) ∧ Below w.heap.size w w'))) (T := (fun j => [0, 0, 0, 0, 1, 1].getD j 0)) (by kernel_rfl) (S2i0 ⟨HN0.out.drew, HD0.out.drew, hB0.drew⟩) (fun hH => ?_)
    have hWr1 : Weaker (S2 (fun w' => Blk8 w' (w.heap.size) (digs n) ∧ Blk8 w' (w.heap.size + 1) (digs d) ∧ Below w.heap.size w w')) := weaker2 _
    refine Ut 0 9 5 0 0 (v := ?vr1_1) rfl hWr1 hH ?yr1_1 ?_
    case yr1_1 => (intro w' hSw; replace hSw := S2o0 hSw; (try dsimp only at hSw); have q0 := hSw.1; have q1 := hSw.2.1; have q2 := hSw.2.2; obtain ⟨qa0_0, qa0_1, qa0_2, qa0_3, qa0_4, qa0_5, qa0_6, qa0_7⟩ := Blk8.all q0; obtain ⟨qa1_0, qa1_1, qa1_2, qa1_3, qa1_4, qa1_5, qa1_6, qa1_7⟩ := Blk8.all q1; go_simp; try (with_reducible rfl))
    simp only [sB, sC]
    refine Ut 2 11 4 0 0 (v := ?vr1_2) rfl hWr1 hH ?yr1_2 ?_
    case yr1_2 => (intro w' hSw; replace hSw := S2o0 hSw; (try dsimp only at hSw); have q0 := hSw.1; have q1 := hSw.2.1; have q2 := hSw.2.2; obtain ⟨qa0_0, qa0_1, qa0_2, qa0_3, qa0_4, qa0_5, qa0_6, qa0_7⟩ := Blk8.all q0; obtain ⟨qa1_0, qa1_1, qa1_2, qa1_3, qa1_4, qa1_5, qa1_6, qa1_7⟩ := Blk8.all q1; go_simp; try (with_reducible rfl))
    simp only [sB, sC]
    refine U1 1 0 rfl (fun K hK => ?_)
    try clear hb
    go_simp
    (go_at_call 165; refine (neg_calls n _).mono ?_; rintro e wn ⟨rfl, hb⟩)
    refine hK.out _ _ (S2i0 (by have hG := hH; replace hG := S2o0 hG; (try dsimp only at hG); have q0 := hG.1; have q1 := hG.2.1; have q2 := hG.2.2; exact ⟨keepBlk hb q0, keepBlk hb q1, keepBelow hb q2⟩)) (fun hH2 => ?_)
    clear hK K hH
    rename _ => hH
    try simp only [Act.put, sA, sB, sC]
    refine U1 3 0 rfl (fun K hK => ?_)
    try clear hb
    go_simp
    (go_at_call 165; refine (neg_calls d _).mono ?_; rintro e wn ⟨rfl, hb⟩)
    refine hK.out _ _ (S2i0 (by have hG := hH; replace hG := S2o0 hG; (try dsimp only at hG); have q0 := hG.1; have q1 := hG.2.1; have q2 := hG.2.2; exact ⟨keepBlk hb q0, keepBlk hb q1, keepBelow hb q2⟩)) (fun hH2 => ?_)
    clear hK K hH
    rename _ => hH
    try simp only [Act.put, sA, sB, sC]
    refine U1 4 1 rfl (fun K hK => ?_)
    have hG := hH
    replace hG := S2o0 hG; (try dsimp only at hG); have q0 := hG.1; have q1 := hG.2.1; have q2 := hG.2.2
    have HN := hid q0
    have HD := hid q1
    have HB := hid q2
    obtain ⟨t0, t1, t2, t3, t4, t5, t6, t7⟩ := q0.all
    obtain ⟨u0, u1, u2, u3, u4, u5, u6, u7⟩ := q1.all
    have tf := q0.free
    have uf := q1.free
    go_simp
    refine hK.out _ _ (S2i1) (fun hH2 => ?_)
    clear hK K hH
    rename _ => hH
    try simp only [Act.put, sA, sB, sC]
    refine U1 5 1 rfl (fun K hK => ?_)
    go_simp
    refine hK.out _ _ (S2i1) (fun hH2 => ?_)
    clear hK K hH
    rename _ => hH
    try simp only [Act.put, sA, sB, sC]
    refine wpAnyU_done (by kernel_rfl) ?_ _ _
    refine NoPanic.normal ?_
    have hne : ¬ w.heap.size + 1 = w.heap.size := by omega
    obtain ⟨wz, hwz⟩ : ∃ wz, wz = ((((((((((((((((wn.setCell ⟨w.heap.size, 0, none⟩ (.int .u32 (digs (-n) 0))).setCell ⟨w.heap.size, 1, none⟩ (.int .u32 (digs (-n) 1))).setCell ⟨w.heap.size, 2, none⟩ (.int .u32 (digs (-n) 2))).setCell ⟨w.heap.size, 3, none⟩ (.int .u32 (digs (-n) 3))).setCell ⟨w.heap.size, 4, none⟩ (.int .u32 (digs (-n) 4))).setCell ⟨w.heap.size, 5, none⟩ (.int .u32 (digs (-n) 5))).setCell ⟨w.heap.size, 6, none⟩ (.int .u32 (digs (-n) 6))).setCell ⟨w.heap.size, 7, none⟩ (.int .u32 (digs (-n) 7))).setCell ⟨w.heap.size + 1, 0, none⟩ (.int .u32 (digs (-d) 0))).setCell ⟨w.heap.size + 1, 1, none⟩ (.int .u32 (digs (-d) 1))).setCell ⟨w.heap.size + 1, 2, none⟩ (.int .u32 (digs (-d) 2))).setCell ⟨w.heap.size + 1, 3, none⟩ (.int .u32 (digs (-d) 3))).setCell ⟨w.heap.size + 1, 4, none⟩ (.int .u32 (digs (-d) 4))).setCell ⟨w.heap.size + 1, 5, none⟩ (.int .u32 (digs (-d) 5))).setCell ⟨w.heap.size + 1, 6, none⟩ (.int .u32 (digs (-d) 6))).setCell ⟨w.heap.size + 1, 7, none⟩ (.int .u32 (digs (-d) 7))) := ⟨_, rfl⟩
    have HN9 : Hid (Blk8 wz w.heap.size (digs (-n))) := by show Blk8 _ _ _; rw [hwz]; exact (HN.out.put8 (o := digs (-n))).off8 (by omega)
    have HD9 : Hid (Blk8 wz (w.heap.size + 1) (digs (-d))) := by show Blk8 _ _ _; rw [hwz]; exact (HD.out.off8 (by omega)).put8 (o := digs (-d))
    have HB9 : Hid (Below w.heap.size w wz) := by have := HB.out; show Below _ _ _; rw [hwz]; go_grown
    rw [← hwz]
    clear hwz
    have HBE : Hid ((-1152921504606846976 ≤ -n ∧ -n ≤ 1152921504606846976) ∧ -1152921504606846976 ≤ -d ∧ -d ≤ 1152921504606846976) := by show _ ∧ _; have := HBD.out; omega
    clear HBD
    have HBD := HBE
    clear HBE
    clear hH q0 q1 q2 t0 t1 t2 t3 t4 t5 t6 t7 u0 u1 u2 u3 u4 u5 u6 u7 tf uf HN HD HB HN0 HD0 hB0
    obtain ⟨N, hN⟩ : ∃ N, N = -n := ⟨_, rfl⟩
    obtain ⟨D, hD⟩ : ∃ D, D = -d := ⟨_, rfl⟩
    rw [← hN] at HN9 HBD HP
    rw [← hD] at HD9 HBD HP
    clear hN hD
    go_wp2
    go_loopw [5, 6] (fun a b wr => ∃ (k : Nat) (o : Int), k ≤ 17 ∧ a = .int .i64 o ∧ b = .int .i64 (2 ^ k / 2) ∧ 0 ≤ o ∧ o + 2 ^ k ≤ 131072 ∧ (o = 0 ∨ o * D ≤ N * 65536) ∧ (o + 2 ^ k = 131072 ∨ N * 65536 < (o + 2 ^ k) * D) ∧ Blk8 wr w.heap.size (digs N) ∧ Blk8 wr (w.heap.size + 1) (digs D) ∧ Below w.heap.size w wr) (fun _ b _ => (intOf b).toNat)
    case atStart =>
      have e : (2 : Int) ^ 17 = 131072 := by decide
      exact ⟨17, 0, by omega, rfl, by rw [e]; rfl, by omega, by rw [e]; omega, .inl rfl, .inl (by rw [e]; rfl), HN9.out, HD9.out, HB9.out⟩
    case round =>
      clear HN9 HD9 HB9
      obtain ⟨k, o, hk, rfl, rfl, o0, o1, s1, s2, hN, hD, hB⟩ := hrel
      obtain ⟨wo, rfl⟩ : ∃ wo : World, wo = wr := ⟨_, rfl⟩
      cases k with
      | zero =>
        have e0 : (2 : Int) ^ 0 / 2 = 0 := by decide
        have e1 : (2 : Int) ^ 0 = 1 := by decide
        rw [e1] at s2 o1
        have HR2 := hid (HP.out o o0 (by omega) s1 s2)
        have hmv : (if 65536 < o then 65536 else o) = min o 65536 := by split <;> omega
        have hmn : ∀ (ts : Array TypeId) (t : TypeId) (w : World), (Builtin.min_ ts t #[.int .i64 o, .int .i64 65536]).run Try.prog w = .ok (.int .i64 (min o 65536)) w := fun ts t w => by rw [run_min_int2, hmv]
        clear hmv
        rw [e0]
        clear s1 s2 o1 e0 e1 hN hD
        go_wp2
        go_returns
        exact ret_int HR2.out hB
      | succ k =>
        have e2 : (2 : Int) ^ (k + 1) = 2 ^ k + 2 ^ k := by rw [Int.pow_succ]; omega
        have e3 : (2 : Int) ^ (k + 1) / 2 = 2 ^ k := by rw [e2]; omega
        have hp : (0 : Int) < 2 ^ k := Int.pow_pos (by omega)
        have hpk : (2 : Int) ^ k / 2 ≤ 2 ^ k - 1 := by omega
        rw [e3]
        rw [e2] at o1 s2
        obtain ⟨b, hb⟩ : ∃ b : Int, b = 2 ^ k := ⟨_, rfl⟩
        rw [← hb] at o1 s2 hp hpk ⊢
        have hbb := hid hb
        clear hb e2 e3
        have w1 : IntKind.i64.wrap (o + b) = o + b := IntWalk.i64_in _ (by omega)
        have w3 : b.tdiv 2 = b / 2 := Int.tdiv_eq_ediv_of_nonneg (by omega)
        have w4 : IntKind.i64.wrap (b / 2) = b / 2 := IntWalk.i64_in _ (by omega)
        have m1 := mul_bd (x := o + b) (y := D) (M := 131072) (N := 1152921504606846976) (by omega) (by omega) (by have := HBD.out; omega) (by have := HBD.out; omega)
        have HCM := hid (fun w => bcmp_calls ((o + b) * D) (N * 65536) (by omega) (by omega) (by have := HBD.out; omega) (by have := HBD.out; omega) w)
        have HLE : Hid (cmpZ ((o + b) * D) (N * 65536) ≤ 0 ↔ (o + b) * D ≤ N * 65536) := by show _ ↔ _; have := cmpZ_pos (a := (o + b) * D) (b := N * 65536); omega
        have HSL := hid s1
        have HSU : Hid (o + b + b = 131072 ∨ N * 65536 < (o + b + b) * D) := by show _ ∨ _; rwa [show o + b + b = o + (b + b) by omega]
        generalize cmpZ ((o + b) * D) (N * 65536) = cm at *
        clear m1 s1 s2
        replace hN := hN.drew
        replace hD := hD.drew
        replace hB := hB.drew
        go_upto_region 7 with fail
        refine wp_region_noPanic ?_
        refine wp_region_U (S := (S2 (fun w' => Blk8 w' (w.heap.size) (digs N) ∧ Blk8 w' (w.heap.size + 1) (digs D) ∧ Below w.heap.size w w'))) (T := (fun _ => 0)) (by kernel_rfl) (S2i0 ⟨hN, hD, hB⟩) (fun hH => ?_)
        have hWr2 : Weaker (S2 (fun w' => Blk8 w' (w.heap.size) (digs N) ∧ Blk8 w' (w.heap.size + 1) (digs D) ∧ Below w.heap.size w w')) := weaker2 _
        refine Ut 0 17 10 0 0 (v := ?vr2_1) rfl hWr2 hH ?yr2_1 ?_
        case yr2_1 => (intro w' hSw; clear hSw; go_simp; try (with_reducible rfl))
        simp only [sB, sC]
        refine Ut 1 18 9 0 0 (v := ?vr2_2) rfl hWr2 hH ?yr2_2 ?_
        case yr2_2 => (intro w' hSw; clear hSw; go_simp; try (with_reducible rfl))
        simp only [sB, sC]
        refine Ut 2 19 8 0 0 (v := ?vr2_3) rfl hWr2 hH ?yr2_3 ?_
        case yr2_3 => (intro w' hSw; clear hSw; go_simp; try (with_reducible rfl))
        simp only [sB, sC]
        refine Ut 4 21 7 0 0 (v := ?vr2_4) rfl hWr2 hH ?yr2_4 ?_
        case yr2_4 => (intro w' hSw; replace hSw := S2o0 hSw; (try dsimp only at hSw); have q0 := hSw.1; have q1 := hSw.2.1; have q2 := hSw.2.2; obtain ⟨qa0_0, qa0_1, qa0_2, qa0_3, qa0_4, qa0_5, qa0_6, qa0_7⟩ := Blk8.all q0; obtain ⟨qa1_0, qa1_1, qa1_2, qa1_3, qa1_4, qa1_5, qa1_6, qa1_7⟩ := Blk8.all q1; go_simp; try (with_reducible rfl))
        simp only [sB, sC]
        refine Ut 6 23 6 0 0 (v := ?vr2_5) rfl hWr2 hH ?yr2_5 ?_
        case yr2_5 => (intro w' hSw; replace hSw := S2o0 hSw; (try dsimp only at hSw); have q0 := hSw.1; have q1 := hSw.2.1; have q2 := hSw.2.2; obtain ⟨qa0_0, qa0_1, qa0_2, qa0_3, qa0_4, qa0_5, qa0_6, qa0_7⟩ := Blk8.all q0; obtain ⟨qa1_0, qa1_1, qa1_2, qa1_3, qa1_4, qa1_5, qa1_6, qa1_7⟩ := Blk8.all q1; go_simp; try (with_reducible rfl))
        simp only [sB, sC]
        refine U1 3 0 rfl (fun K hK => ?_)
        try clear hb
        go_simp
        (go_at_call 161; refine (of_calls (o + b) (by omega) (by omega) _).mono ?_; rintro e wn ⟨rfl, hb⟩)
        refine hK.out _ _ (S2i0 (by have hG := hH; replace hG := S2o0 hG; (try dsimp only at hG); have q0 := hG.1; have q1 := hG.2.1; have q2 := hG.2.2; exact ⟨keepBlk hb q0, keepBlk hb q1, keepBelow hb q2⟩)) (fun hH2 => ?_)
        clear hK K hH
        rename _ => hH
        try simp only [Act.put, sA, sB, sC]
        refine U1 5 0 rfl (fun K hK => ?_)
        try clear hb
        go_simp
        (go_at_call 162; refine (mul_calls _ _ _).mono ?_; rintro e wn ⟨rfl, hb⟩)
        refine hK.out _ _ (S2i0 (by have hG := hH; replace hG := S2o0 hG; (try dsimp only at hG); have q0 := hG.1; have q1 := hG.2.1; have q2 := hG.2.2; exact ⟨keepBlk hb q0, keepBlk hb q1, keepBelow hb q2⟩)) (fun hH2 => ?_)
        clear hK K hH
        rename _ => hH
        try simp only [Act.put, sA, sB, sC]
        refine U1 7 0 rfl (fun K hK => ?_)
        try clear hb
        go_simp
        (go_at_call 161; refine (of_calls 65536 (by omega) (by omega) _).mono ?_; rintro e wn ⟨rfl, hb⟩)
        refine hK.out _ _ (S2i0 (by have hG := hH; replace hG := S2o0 hG; (try dsimp only at hG); have q0 := hG.1; have q1 := hG.2.1; have q2 := hG.2.2; exact ⟨keepBlk hb q0, keepBlk hb q1, keepBelow hb q2⟩)) (fun hH2 => ?_)
        clear hK K hH
        rename _ => hH
        try simp only [Act.put, sA, sB, sC]
        refine U1 8 0 rfl (fun K hK => ?_)
        try clear hb
        go_simp
        (go_at_call 162; refine (mul_calls _ _ _).mono ?_; rintro e wn ⟨rfl, hb⟩)
        refine hK.out _ _ (S2i0 (by have hG := hH; replace hG := S2o0 hG; (try dsimp only at hG); have q0 := hG.1; have q1 := hG.2.1; have q2 := hG.2.2; exact ⟨keepBlk hb q0, keepBlk hb q1, keepBelow hb q2⟩)) (fun hH2 => ?_)
        clear hK K hH
        rename _ => hH
        try simp only [Act.put, sA, sB, sC]
        refine U1 9 0 rfl (fun K hK => ?_)
        try clear hb
        go_simp
        (go_at_call 114; refine (HCM.out _).mono ?_; rintro e wn ⟨rfl, hb⟩)
        refine hK.out _ _ (S2i0 (by have hG := hH; replace hG := S2o0 hG; (try dsimp only at hG); have q0 := hG.1; have q1 := hG.2.1; have q2 := hG.2.2; exact ⟨keepBlk hb q0, keepBlk hb q1, keepBelow hb q2⟩)) (fun hH2 => ?_)
        clear hK K hH
        rename _ => hH
        try simp only [Act.put, sA, sB, sC]
        refine Ut 10 27 0 0 0 (v := ?vr2_11) rfl hWr2 hH ?yr2_11 ?_
        case yr2_11 => (intro w' hSw; clear hSw; go_simp; try (with_reducible rfl))
        simp only [sB, sC]
        refine wpAnyU_done (by kernel_rfl) ?_ _ _
        refine NoPanic.normal ?_
        clear hWr2
        replace hH := S2o0 hH
        (try dsimp only at hH)
        have q0 := hH.1
        have q1 := hH.2.1
        have q2 := hH.2.2
        clear hH hb
        clear hN hD hB HCM
        by_cases hle : cm ≤ 0
        · have HG := hid (HLE.out.1 hle)
          clear HLE HSL
          go_wp2
          go_roundw
          case rel => exact ⟨k, o + b, by omega, rfl, by rw [← hbb.out], by omega, by rw [← hbb.out]; omega, .inr HG.out, by rw [← hbb.out]; exact HSU.out, q0, q1, q2⟩
          case measure => simp [intOf]; omega
        · have HG := hid (show N * 65536 < (o + b) * D from Int.lt_of_not_ge fun h => hle (HLE.out.2 h))
          clear HLE HSU
          go_wp2
          go_roundw
          case rel => exact ⟨k, o, by omega, rfl, by rw [← hbb.out], o0, by rw [← hbb.out]; omega, HSL.out, .inr (by rw [← hbb.out]; exact HG.out), q0, q1, q2⟩
          case measure => simp [intOf]; omega
  · have HP : Hid (∀ o : Int, 0 ≤ o → o + 1 ≤ 131072 → (o = 0 ∨ o * d ≤ n * 65536) → (o + 1 = 131072 ∨ n * 65536 < (o + 1) * d) → min o 65536 = partZ n d) := fun o h0 h1 s1 s2 => by
      have := part_found (n := n) (d := d) (by omega) h0 h1 s1 s2
      rw [this]; unfold partZ; rw [if_neg hneg]
    generalize partZ n d = R at *
    rw [decide_eq_false hneg] at HBL
    go_enter Try.func115, Try.ntmps115
    go_wp2_with fail
    rw [← hW]
    clear hW
    refine (HBL.out _).mono ?_
    rintro e w1 ⟨rfl, hb1⟩
    have HN9 := hid (keepBlk hb1 HN0.out)
    have HD9 := hid (keepBlk hb1 HD0.out)
    have HB9 := hid (keepBelow hb1 hB0)
    clear hb1 HBL HN0 HD0 hB0 t0 t1 t2 t3 t4 t5 t6 t7
    go_wp2
    go_loopw [5, 6] (fun a b wr => ∃ (k : Nat) (o : Int), k ≤ 17 ∧ a = .int .i64 o ∧ b = .int .i64 (2 ^ k / 2) ∧ 0 ≤ o ∧ o + 2 ^ k ≤ 131072 ∧ (o = 0 ∨ o * d ≤ n * 65536) ∧ (o + 2 ^ k = 131072 ∨ n * 65536 < (o + 2 ^ k) * d) ∧ Blk8 wr w.heap.size (digs n) ∧ Blk8 wr (w.heap.size + 1) (digs d) ∧ Below w.heap.size w wr) (fun _ b _ => (intOf b).toNat)
    case atStart =>
      have e : (2 : Int) ^ 17 = 131072 := by decide
      exact ⟨17, 0, by omega, rfl, by rw [e]; rfl, by omega, by rw [e]; omega, .inl rfl, .inl (by rw [e]; rfl), HN9.out, HD9.out, HB9.out⟩
    case round =>
      clear HN9 HD9 HB9
      obtain ⟨k, o, hk, rfl, rfl, o0, o1, s1, s2, hN, hD, hB⟩ := hrel
      obtain ⟨wo, rfl⟩ : ∃ wo : World, wo = wr := ⟨_, rfl⟩
      cases k with
      | zero =>
        have e0 : (2 : Int) ^ 0 / 2 = 0 := by decide
        have e1 : (2 : Int) ^ 0 = 1 := by decide
        rw [e1] at s2 o1
        have HR2 := hid (HP.out o o0 (by omega) s1 s2)
        have hmv : (if 65536 < o then 65536 else o) = min o 65536 := by split <;> omega
        have hmn : ∀ (ts : Array TypeId) (t : TypeId) (w : World), (Builtin.min_ ts t #[.int .i64 o, .int .i64 65536]).run Try.prog w = .ok (.int .i64 (min o 65536)) w := fun ts t w => by rw [run_min_int2, hmv]
        clear hmv
        rw [e0]
        clear s1 s2 o1 e0 e1 hN hD
        go_wp2
        go_returns
        exact ret_int HR2.out hB
      | succ k =>
        have e2 : (2 : Int) ^ (k + 1) = 2 ^ k + 2 ^ k := by rw [Int.pow_succ]; omega
        have e3 : (2 : Int) ^ (k + 1) / 2 = 2 ^ k := by rw [e2]; omega
        have hp : (0 : Int) < 2 ^ k := Int.pow_pos (by omega)
        have hpk : (2 : Int) ^ k / 2 ≤ 2 ^ k - 1 := by omega
        rw [e3]
        rw [e2] at o1 s2
        obtain ⟨b, hb⟩ : ∃ b : Int, b = 2 ^ k := ⟨_, rfl⟩
        rw [← hb] at o1 s2 hp hpk ⊢
        have hbb := hid hb
        clear hb e2 e3
        have w1 : IntKind.i64.wrap (o + b) = o + b := IntWalk.i64_in _ (by omega)
        have w3 : b.tdiv 2 = b / 2 := Int.tdiv_eq_ediv_of_nonneg (by omega)
        have w4 : IntKind.i64.wrap (b / 2) = b / 2 := IntWalk.i64_in _ (by omega)
        have m1 := mul_bd (x := o + b) (y := d) (M := 131072) (N := 1152921504606846976) (by omega) (by omega) (by have := HBD.out; omega) (by have := HBD.out; omega)
        have HCM := hid (fun w => bcmp_calls ((o + b) * d) (n * 65536) (by omega) (by omega) (by have := HBD.out; omega) (by have := HBD.out; omega) w)
        have HLE : Hid (cmpZ ((o + b) * d) (n * 65536) ≤ 0 ↔ (o + b) * d ≤ n * 65536) := by show _ ↔ _; have := cmpZ_pos (a := (o + b) * d) (b := n * 65536); omega
        have HSL := hid s1
        have HSU : Hid (o + b + b = 131072 ∨ n * 65536 < (o + b + b) * d) := by show _ ∨ _; rwa [show o + b + b = o + (b + b) by omega]
        generalize cmpZ ((o + b) * d) (n * 65536) = cm at *
        clear m1 s1 s2
        replace hN := hN.drew
        replace hD := hD.drew
        replace hB := hB.drew
        go_upto_region 7 with fail
        refine wp_region_noPanic ?_
        refine wp_region_U (S := (S2 (fun w' => Blk8 w' (w.heap.size) (digs n) ∧ Blk8 w' (w.heap.size + 1) (digs d) ∧ Below w.heap.size w w'))) (T := (fun _ => 0)) (by kernel_rfl) (S2i0 ⟨hN, hD, hB⟩) (fun hH => ?_)
        have hWr3 : Weaker (S2 (fun w' => Blk8 w' (w.heap.size) (digs n) ∧ Blk8 w' (w.heap.size + 1) (digs d) ∧ Below w.heap.size w w')) := weaker2 _
        refine Ut 0 17 10 0 0 (v := ?vr3_1) rfl hWr3 hH ?yr3_1 ?_
        case yr3_1 => (intro w' hSw; clear hSw; go_simp; try (with_reducible rfl))
        simp only [sB, sC]
        refine Ut 1 18 9 0 0 (v := ?vr3_2) rfl hWr3 hH ?yr3_2 ?_
        case yr3_2 => (intro w' hSw; clear hSw; go_simp; try (with_reducible rfl))
        simp only [sB, sC]
        refine Ut 2 19 8 0 0 (v := ?vr3_3) rfl hWr3 hH ?yr3_3 ?_
        case yr3_3 => (intro w' hSw; clear hSw; go_simp; try (with_reducible rfl))
        simp only [sB, sC]
        refine Ut 4 21 7 0 0 (v := ?vr3_4) rfl hWr3 hH ?yr3_4 ?_
        case yr3_4 => (intro w' hSw; replace hSw := S2o0 hSw; (try dsimp only at hSw); have q0 := hSw.1; have q1 := hSw.2.1; have q2 := hSw.2.2; obtain ⟨qa0_0, qa0_1, qa0_2, qa0_3, qa0_4, qa0_5, qa0_6, qa0_7⟩ := Blk8.all q0; obtain ⟨qa1_0, qa1_1, qa1_2, qa1_3, qa1_4, qa1_5, qa1_6, qa1_7⟩ := Blk8.all q1; go_simp; try (with_reducible rfl))
        simp only [sB, sC]
        refine Ut 6 23 6 0 0 (v := ?vr3_5) rfl hWr3 hH ?yr3_5 ?_
        case yr3_5 => (intro w' hSw; replace hSw := S2o0 hSw; (try dsimp only at hSw); have q0 := hSw.1; have q1 := hSw.2.1; have q2 := hSw.2.2; obtain ⟨qa0_0, qa0_1, qa0_2, qa0_3, qa0_4, qa0_5, qa0_6, qa0_7⟩ := Blk8.all q0; obtain ⟨qa1_0, qa1_1, qa1_2, qa1_3, qa1_4, qa1_5, qa1_6, qa1_7⟩ := Blk8.all q1; go_simp; try (with_reducible rfl))
        simp only [sB, sC]
        refine U1 3 0 rfl (fun K hK => ?_)
        try clear hb
        go_simp
        (go_at_call 161; refine (of_calls (o + b) (by omega) (by omega) _).mono ?_; rintro e wn ⟨rfl, hb⟩)
        refine hK.out _ _ (S2i0 (by have hG := hH; replace hG := S2o0 hG; (try dsimp only at hG); have q0 := hG.1; have q1 := hG.2.1; have q2 := hG.2.2; exact ⟨keepBlk hb q0, keepBlk hb q1, keepBelow hb q2⟩)) (fun hH2 => ?_)
        clear hK K hH
        rename _ => hH
        try simp only [Act.put, sA, sB, sC]
        refine U1 5 0 rfl (fun K hK => ?_)
        try clear hb
        go_simp
        (go_at_call 162; refine (mul_calls _ _ _).mono ?_; rintro e wn ⟨rfl, hb⟩)
        refine hK.out _ _ (S2i0 (by have hG := hH; replace hG := S2o0 hG; (try dsimp only at hG); have q0 := hG.1; have q1 := hG.2.1; have q2 := hG.2.2; exact ⟨keepBlk hb q0, keepBlk hb q1, keepBelow hb q2⟩)) (fun hH2 => ?_)
        clear hK K hH
        rename _ => hH
        try simp only [Act.put, sA, sB, sC]
        refine U1 7 0 rfl (fun K hK => ?_)
        try clear hb
        go_simp
        (go_at_call 161; refine (of_calls 65536 (by omega) (by omega) _).mono ?_; rintro e wn ⟨rfl, hb⟩)
        refine hK.out _ _ (S2i0 (by have hG := hH; replace hG := S2o0 hG; (try dsimp only at hG); have q0 := hG.1; have q1 := hG.2.1; have q2 := hG.2.2; exact ⟨keepBlk hb q0, keepBlk hb q1, keepBelow hb q2⟩)) (fun hH2 => ?_)
        clear hK K hH
        rename _ => hH
        try simp only [Act.put, sA, sB, sC]
        refine U1 8 0 rfl (fun K hK => ?_)
        try clear hb
        go_simp
        (go_at_call 162; refine (mul_calls _ _ _).mono ?_; rintro e wn ⟨rfl, hb⟩)
        refine hK.out _ _ (S2i0 (by have hG := hH; replace hG := S2o0 hG; (try dsimp only at hG); have q0 := hG.1; have q1 := hG.2.1; have q2 := hG.2.2; exact ⟨keepBlk hb q0, keepBlk hb q1, keepBelow hb q2⟩)) (fun hH2 => ?_)
        clear hK K hH
        rename _ => hH
        try simp only [Act.put, sA, sB, sC]
        refine U1 9 0 rfl (fun K hK => ?_)
        try clear hb
        go_simp
        (go_at_call 114; refine (HCM.out _).mono ?_; rintro e wn ⟨rfl, hb⟩)
        refine hK.out _ _ (S2i0 (by have hG := hH; replace hG := S2o0 hG; (try dsimp only at hG); have q0 := hG.1; have q1 := hG.2.1; have q2 := hG.2.2; exact ⟨keepBlk hb q0, keepBlk hb q1, keepBelow hb q2⟩)) (fun hH2 => ?_)
        clear hK K hH
        rename _ => hH
        try simp only [Act.put, sA, sB, sC]
        refine Ut 10 27 0 0 0 (v := ?vr3_11) rfl hWr3 hH ?yr3_11 ?_
        case yr3_11 => (intro w' hSw; clear hSw; go_simp; try (with_reducible rfl))
        simp only [sB, sC]
        refine wpAnyU_done (by kernel_rfl) ?_ _ _
        refine NoPanic.normal ?_
        clear hWr3
        replace hH := S2o0 hH
        (try dsimp only at hH)
        have q0 := hH.1
        have q1 := hH.2.1
        have q2 := hH.2.2
        clear hH hb
        clear hN hD hB HCM
        by_cases hle : cm ≤ 0
        · have HG := hid (HLE.out.1 hle)
          clear HLE HSL
          go_wp2
          go_roundw
          case rel => exact ⟨k, o + b, by omega, rfl, by rw [← hbb.out], by omega, by rw [← hbb.out]; omega, .inr HG.out, by rw [← hbb.out]; exact HSU.out, q0, q1, q2⟩
          case measure => simp [intOf]; omega
        · have HG := hid (show n * 65536 < (o + b) * d from Int.lt_of_not_ge fun h => hle (HLE.out.2 h))
          clear HLE HSU
          go_wp2
          go_roundw
          case rel => exact ⟨k, o, by omega, rfl, by rw [← hbb.out], o0, by rw [← hbb.out]; omega, HSL.out, .inr (by rw [← hbb.out]; exact HG.out), q0, q1, q2⟩
          case measure => simp [intOf]; omega
end
end Go.Proofs.Ytienmhgbildhhaa
