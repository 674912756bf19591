/- The walk of PolyHullOnce. -/
import Derived.Test.YtldlogcpnfmomaaI6
namespace Go.Proofs.Ytldlogcpnfmomaa
set_option linter.unusedVariables false
set_option linter.unusedSimpArgs false
open Go.RowKit

theorem keepOwn' {w w' : World} {B : Nat} {v : Value} {l : List V} (hb : Below w.heap.size w w') (h : Own w B v l) : Own w' B v l := h.below hb
theorem Vs.drew {w : World} {g : Nat} {s : Value} (h : Vs w g s) : Vs w.drew g s := ⟨h.a, h.f⟩
theorem Vs.put {w : World} {g : Nat} {s : Value} (h : Vs w g s) (v : Value) : Vs (w.setCell ⟨g, 0, none⟩ v) g v := by
  obtain ⟨a, f⟩ := h
  exact ⟨by go_simp, fun j => by go_simp⟩
theorem Own.offc {w : World} {B g : Nat} {v u : Value} {l : List V} (h : Own w B v l) (hg : g < B) : Own (w.setCell ⟨g, 0, none⟩ u) B v l :=
  own_lay.2 ((own_lay.1 h).off (fun k hk e => by have := (World.ownsRow.lt h k hk).1; omega) 0 u)
set_option maxRecDepth 100000 in
theorem squareKO_calls (x y s : Int) (hx : -1048576 ≤ x ∧ x ≤ 1048576) (hy : -1048576 ≤ y ∧ y ≤ 1048576) (hs : -1048576 ≤ s ∧ s ≤ 1048576) (w : World) :
    Calls Try.prog 77 #[.int .i64 x, .int .i64 y, .int .i64 s] w (RetOwn (sqK x y s) w) := by
  go_enter Try.func77, Try.ntmps77
  go_wp2
  go_returns
  exact ⟨_, rfl, Own.lit w w.heap.size (sqK x y s) (Nat.le_refl _) (by simp [sqK]), by go_grown⟩
theorem hull_fiveK : hullE (sqK 0 0 1 ++ [(0, 0)]) = 0 ∧ hullL (sqK 0 0 1 ++ [(0, 0)]) = sqK 0 0 1 := by decide
set_option maxRecDepth 100000 in
set_option maxHeartbeats 8000000 in
theorem once_walk (A : Option Addr) (n c : Nat) (r : List Int) (w : World) (hS : SlI w A n c r) : Calls Try.prog 14 #[.slice A n c] w (Ret (.bool true) w) := by
  have hn := hS.len
  have hbig := Nat.le_trans hS.cap hS.big
  subst hn
  have HS := hid hS
  clear hS
  have HSQ := hid (fun w => squareKO_calls 0 0 1 (by omega) (by omega) (by omega) w)
  have H5 := hid hull_fiveK
  have HQ : Hid ((sqK 0 0 1).length ≤ 10) := by show _ ≤ _; decide
  generalize sqK 0 0 1 = q at *
  obtain ⟨W, hW⟩ : ∃ W, W = w.alloc (.cells #[.slice none 0 0] 23) := ⟨_, rfl⟩
  obtain ⟨g, hg⟩ : ∃ g, g = w.heap.size := ⟨_, rfl⟩
  have hV0 : Vs W g (.slice none 0 0) := by rw [hW, hg]; exact ⟨by go_simp, fun j => by go_simp⟩
  have hB0 : Below w.heap.size w W := by rw [hW]; go_grown
  have hgw : w.heap.size ≤ g := by omega
  go_enter Try.func14, Try.ntmps14
  go_wp2_with fail
  rw [← hW, ← hg]
  clear hW hg
  go_loopw [4] (fun j wr => ∃ (k : Nat) (o : List V) (s : Value), o.length = k ∧ k ≤ 20 ∧ j = .int .i64 ((2 * k : Nat) : Int) ∧ Vs wr g s ∧ Own wr (g + 1) s o ∧ Below w.heap.size w wr) (fun j _ => 100 - (intOf j).toNat)
  case atStart => exact ⟨0, [], _, rfl, by omega, rfl, hV0, Own.nil _ _, hB0⟩
  case round =>
    clear hV0 hB0
    obtain ⟨k, o, s, hok, hk, rfl, hvs, ho, hB⟩ := hrel
    obtain ⟨wo, rfl⟩ : ∃ wo : World, wo = wr := ⟨_, rfl⟩
    have HO := hid ho
    have HVS := hid hvs
    obtain ⟨i, hi⟩ : ∃ i, i = 2 * k := ⟨_, rfl⟩
    rw [← hi]
    have wi1 : IntKind.i64.wrap ((i : Int) + 1) = ((i + 1 : Nat) : Int) := by rw [IntWalk.i64_in _ (by omega)]; omega
    obtain ⟨Ao, no, co, hse, hso, hfo⟩ := ho.sl
    have hno := hso.len
    have hnk : no = k := by omega
    obtain ⟨i1, hi1⟩ : ∃ j, j = i + 1 := ⟨_, rfl⟩
    rw [← hi1] at wi1
    have k0 := hvs.a
    have kf := hvs.f
    have hgl := hvs.lt
    subst hse
    rw [hnk] at k0 HVS HO
    have HI := hid hi
    have HI1 := hid hi1
    have HSO := hid hso
    have HOK := hid hok
    clear hvs ho hso hfo hno hok hi
    by_cases h1 : i1 < r.length
    · have g1 : ((i1 : Int) < (r.length : Int)) := by omega
      by_cases h2 : k < 20
      · obtain ⟨b, off, rfl, hbl, hc⟩ := (HS.out.below hB).at_ (by intro h; rw [h] at h1; simp at h1)
        have c0 := hc i (by have := HI1.out; omega)
        have c1 := hc i1 h1
        generalize r.getD i 0 = r0 at *
        generalize r.getD i1 0 = r1 at *
        have g0 : (i : Int) < (r.length : Int) := by omega
        have g2 : (k : Int) < 20 := by omega
        have w4 : IntKind.i64.wrap ((i : Int) + 2) = (i : Int) + 2 := IntWalk.i64_in _ (by omega)
        have l0 : i < r.length := by omega
        have HPL := hid (place_calls r0 r1)
        obtain ⟨px, hpx⟩ : ∃ z, z = r0 % 1572864 - 786432 := ⟨_, rfl⟩
        obtain ⟨py, hpy⟩ : ∃ z, z = r1 % 1572864 - 786432 := ⟨_, rfl⟩
        rw [← hpx, ← hpy] at HPL
        clear hc hpx hpy hi1
        have hok : o.length ≤ 20 := by have := HOK.out; omega
        go_upto_region 5 with fail
        clear k0 kf hgl
        refine wp_region_noPanic ?_
        refine wp_region_U (S := (S2 (fun w' => Vs w' g (.slice Ao k co) ∧ Own w' (g + 1) (.slice Ao k co) o ∧ w'.cell? ⟨b, off + i, none⟩ = some (.int .i64 r0) ∧ w'.cell? ⟨b, off + i1, none⟩ = some (.int .i64 r1) ∧ Below w.heap.size w w'))) (T := (fun j => [0, 0, 0, 0, 0, 0, 0, 0, 0, 0, 0, 0, 1].getD j 0)) (by kernel_rfl) (S2i0 ⟨HVS.out.drew, HO.out.drew, c0, c1, hB.drew⟩) (fun hH => ?_)
        have hWr1 : Weaker (S2 (fun w' => Vs w' g (.slice Ao k co) ∧ Own w' (g + 1) (.slice Ao k co) o ∧ w'.cell? ⟨b, off + i, none⟩ = some (.int .i64 r0) ∧ w'.cell? ⟨b, off + i1, none⟩ = some (.int .i64 r1) ∧ Below w.heap.size w w')) := weaker2 _
        refine Ut 0 23 13 0 0 (v := ?vr1_1) rfl hWr1 hH ?yr1_1 ?_
        case yr1_1 => (intro w' hSw; replace hSw := S2o0 hSw; (try dsimp only at hSw); have q0 := hSw.1; have q1 := hSw.2.1; have q2 := hSw.2.2.1; have q3 := hSw.2.2.2.1; have q4 := hSw.2.2.2.2; obtain ⟨qa0_0, qa0_f⟩ := id q0; go_simp; try (with_reducible rfl))
        simp only [sB, sC]
        refine Ut 1 24 12 0 0 (v := ?vr1_2) rfl hWr1 hH ?yr1_2 ?_
        case yr1_2 => (intro w' hSw; clear hSw; go_simp; try (with_reducible rfl))
        simp only [sB, sC]
        refine Ut 2 25 11 0 0 (v := ?vr1_3) rfl hWr1 hH ?yr1_3 ?_
        case yr1_3 => (intro w' hSw; clear hSw; go_simp; try (with_reducible rfl))
        simp only [sB, sC]
        refine Ut 3 26 10 0 0 (v := ?vr1_4) rfl hWr1 hH ?yr1_4 ?_
        case yr1_4 => (intro w' hSw; clear hSw; go_simp; try (with_reducible rfl))
        simp only [sB, sC]
        refine Ut 4 27 9 0 0 (v := ?vr1_5) rfl hWr1 hH ?yr1_5 ?_
        case yr1_5 => (intro w' hSw; replace hSw := S2o0 hSw; (try dsimp only at hSw); have q0 := hSw.1; have q1 := hSw.2.1; have q2 := hSw.2.2.1; have q3 := hSw.2.2.2.1; have q4 := hSw.2.2.2.2; obtain ⟨qa0_0, qa0_f⟩ := id q0; go_simp; try (with_reducible rfl))
        simp only [sB, sC]
        refine Ut 5 28 8 0 0 (v := ?vr1_6) rfl hWr1 hH ?yr1_6 ?_
        case yr1_6 => (intro w' hSw; clear hSw; go_simp; try (with_reducible rfl))
        simp only [sB, sC]
        refine Ut 6 29 7 0 0 (v := ?vr1_7) rfl hWr1 hH ?yr1_7 ?_
        case yr1_7 => (intro w' hSw; clear hSw; go_simp; try (with_reducible rfl))
        simp only [sB, sC]
        refine Ut 7 30 6 0 0 (v := ?vr1_8) rfl hWr1 hH ?yr1_8 ?_
        case yr1_8 => (intro w' hSw; clear hSw; go_simp; try (with_reducible rfl))
        simp only [sB, sC]
        refine Ut 8 31 5 0 0 (v := ?vr1_9) rfl hWr1 hH ?yr1_9 ?_
        case yr1_9 => (intro w' hSw; clear hSw; go_simp; try (with_reducible rfl))
        simp only [sB, sC]
        refine Ut 9 32 4 0 0 (v := ?vr1_10) rfl hWr1 hH ?yr1_10 ?_
        case yr1_10 => (intro w' hSw; replace hSw := S2o0 hSw; (try dsimp only at hSw); have q0 := hSw.1; have q1 := hSw.2.1; have q2 := hSw.2.2.1; have q3 := hSw.2.2.2.1; have q4 := hSw.2.2.2.2; obtain ⟨qa0_0, qa0_f⟩ := id q0; go_simp; try (with_reducible rfl))
        simp only [sB, sC]
        refine U1 10 0 rfl (fun K hK => ?_)
        try clear hb
        go_simp
        (go_at_call 41; refine (HPL.out _).mono ?_; rintro e wn ⟨rfl, hb⟩)
        refine hK.out _ _ (S2i0 (by have hG := hH; replace hG := S2o0 hG; (try dsimp only at hG); have q0 := hG.1; have q1 := hG.2.1; have q2 := hG.2.2.1; have q3 := hG.2.2.2.1; have q4 := hG.2.2.2.2; exact ⟨keepVs hb q0, keepOwn' hb q1, keepCell hb q2, keepCell hb q3, keepBelow hb q4⟩)) (fun hH2 => ?_)
        clear hK K hH
        rename _ => hH
        try simp only [Act.put, sA, sB, sC]
        refine U1 11 0 rfl (fun K hK => ?_)
        try clear hb
        have hG := hH
        replace hG := S2o0 hG; (try dsimp only at hG); have q0 := hG.1; have q1 := hG.2.1; have q2 := hG.2.2.1; have q3 := hG.2.2.2.1; have q4 := hG.2.2.2.2
        go_simp
        refine hK.out _ _ (S2i0 (by have hG := hH; replace hG := S2o0 hG; (try dsimp only at hG); have q0 := hG.1; have q1 := hG.2.1; have q2 := hG.2.2.1; have q3 := hG.2.2.2.1; have q4 := hG.2.2.2.2; exact ⟨keepVs ((Below.refl _ _).alloc (Nat.le_refl _) _) q0, q1.alloc _, keepCell ((Below.refl _ _).alloc (Nat.le_refl _) _) q2, keepCell ((Below.refl _ _).alloc (Nat.le_refl _) _) q3, q4.alloc q4.size _⟩)) (fun hH2 => ?_)
        clear hK K hH
        rename _ => hH
        try simp only [Act.put, sA, sB, sC]
        have hT : Cells (wn.alloc (.cells #[.int .i64 px, .int .i64 py] 25)) wn.heap.size 0 [(px, py)] := cells_one (by go_simp) (by go_simp)
        obtain ⟨gT, hgT⟩ : ∃ g, g = wn.heap.size := ⟨_, rfl⟩
        have hlT : g < gT := by rw [hgT]; exact q0.lt
        rw [← hgT] at hT
        try rw [← hgT]
        clear hgT q0 q1 q2 q3 q4
        generalize wn.alloc (.cells #[.int .i64 px, .int .i64 py] 25) = wx11 at *
        refine U1 12 1 rfl (fun K hK => ?_)
        have hG := hH
        replace hG := S2o0 hG; (try dsimp only at hG); have q0 := hG.1; have q1 := hG.2.1; have q2 := hG.2.2.1; have q3 := hG.2.2.2.1; have q4 := hG.2.2.2.2
        have hbs := q0.lt
        (refine step_append_vecs (by rfl) _ _ (by rfl) (g + 1) (.slice Ao k co) o (by rfl) q1 gT 0 1 1 [(px, py)] (by rfl) rfl hT (by simp; omega) (by omega) ?_; intro v' w1 ho1 hg1; have hb1 := Own.grown q1 hg1 (by omega); have HO1 := hid ho1; have HV1 := hid (keepVsB hb1 (by omega) q0); have HB1 := hid (q4.trans (hb1.mono (by omega))); clear ho1 hg1 hb1; obtain ⟨A7, n7, c7, hv7, -, -⟩ := HO1.out.sl; subst hv7)
        refine hK.out _ _ (S2i1) (fun hH2 => ?_)
        clear hK K hH
        rename _ => hH
        try simp only [Act.put, List.getElem_toArray, List.getElem_cons_succ, List.getElem_cons_zero, sA, sB, sC]
        refine U1 13 1 rfl (fun K hK => ?_)
        obtain ⟨z0, zf⟩ := HV1.out
        go_simp
        refine hK.out _ _ (S2i1) (fun hH2 => ?_)
        clear hK K hH
        rename _ => hH
        try simp only [Act.put, sA, sB, sC]
        refine wpAnyU_done (by kernel_rfl) ?_ _ _
        refine NoPanic.normal ?_
        have HVN := hid (HV1.out.put (.slice A7 n7 c7))
        have HON := hid (HO1.out.offc (u := .slice A7 n7 c7) (show g < g + 1 by omega))
        have HBN : Hid (Below w.heap.size w (w1.setCell ⟨g, 0, none⟩ (.slice A7 n7 c7))) := by have := HB1.out; show Below _ _ _; go_grown
        clear HV1 HO1 HB1 z0 zf
        go_wp2
        go_roundw
        case rel => exact ⟨k + 1, o ++ [(px, py)], _, by rw [List.length_append, HOK.out]; rfl, by omega, by have := HI.out; (go_num <;> (try omega)), HVN.out, HON.out, HBN.out⟩
        case measure => have := HI.out; simp [intOf]; omega
      · have g2 : ¬ (k : Int) < 20 := by omega
        have HSL : Hid (Sl wo Ao k co o) := by show Sl _ _ _ _ _; have := HSO.out; rwa [hnk] at this
        have HB := hid hB
        have HGW : Hid (g < wo.heap.size) := HVS.out.lt
        have HBS : Hid (w.heap.size ≤ wo.heap.size) := hB.size
        have HS0 := hid HSL.out
        have hkn := HSL.out.len
        have HKN := hid hkn
        clear HO HSO hB hkn
        go_wp2_with fail
        clear k0 kf hgl hi1 wi1
        refine (HSQ.out _).mono ?_
        rintro e w1 ⟨s1, rfl, ho1, hb1⟩
        replace HVS := hid (keepVs hb1 HVS.out)
        replace HSL := hid (HSL.out.below hb1)
        replace HB := hid (keepBelow hb1 HB.out)
        have HAL := (Below.refl w1.heap.size w1).alloc (Nat.le_refl _) (.cells #[.int .i64 0, .int .i64 0] 25)
        replace HVS := hid (keepVs HAL HVS.out)
        replace HSL := hid (HSL.out.below HAL)
        replace HB := hid (keepBelow HAL HB.out)
        have HO1 := hid (ho1.alloc (.cells #[.int .i64 0, .int .i64 0] 25))
        have HZ1 := hid hb1.size
        have HB01 := hid (hb1.alloc hb1.size (.cells #[.int .i64 0, .int .i64 0] 25))
        have hC1 := lit1 w1 0 0
        clear ho1 hb1 HAL
        go_wp2_with (at_builtin; refine wpList_append_vecs rfl _ _ rfl wo.heap.size _ q rfl HO1.out _ 0 1 1 [(0, 0)] rfl rfl hC1 (by have := HQ.out; simp; omega) (by have := HZ1.out; simp; omega) ?_; intro v9 w9 ho9 hg9; have hb9 := hid (HO1.out.grown hg9 (by have := HZ1.out; simp; omega)); have HO9 := hid ho9; clear ho9 hg9 hC1)
        obtain ⟨A9, n9, c9, e9, hs9, -⟩ := HO9.out.sl
        subst e9
        have HS9 := hid hs9
        replace HVS := hid (keepVsB hb9.out HGW.out HVS.out)
        replace HSL := hid (HS0.out.below (HB01.out.trans hb9.out))
        replace HB := hid (HB.out.trans (hb9.out.mono HBS.out))
        clear hs9 HO9 HO1 HZ1 hb9 HB01 HS0 HGW HBS
        refine (hull_calls _ _ _ _ _ HS9.out).mono ?_
        rintro e w3 ⟨s3, rfl, ho3, hb3⟩
        rw [H5.out.1]
        rw [H5.out.2] at ho3
        obtain ⟨A3, n3, c3, e3, hs3, -⟩ := ho3.sl
        subst e3
        have HS3 := hid hs3
        replace HVS := hid (keepVs hb3 HVS.out)
        replace HSL := hid (HSL.out.below hb3)
        replace HB := hid (keepBelow hb3 HB.out)
        clear hs3 ho3 hb3 HS9
        go_wp2_with fail
        refine (works_calls _).mono ?_
        rintro e w4 ⟨rfl, hb4⟩
        replace HS3 := hid (HS3.out.below hb4)
        replace HVS := hid (keepVs hb4 HVS.out)
        replace HSL := hid (HSL.out.below hb4)
        replace HB := hid (keepBelow hb4 HB.out)
        clear hb4
        go_wp2_with fail
        refine (HSQ.out _).mono ?_
        rintro e w5 ⟨s5, rfl, ho5, hb5⟩
        obtain ⟨A5, n5, c5, e5, hs5, -⟩ := ho5.sl
        subst e5
        have HS5 := hid hs5
        replace HS3 := hid (HS3.out.below hb5)
        replace HVS := hid (keepVs hb5 HVS.out)
        replace HSL := hid (HSL.out.below hb5)
        replace HB := hid (keepBelow hb5 HB.out)
        clear hb5 hs5 ho5
        go_wp2_with fail
        refine (equal_calls _ _ _ _ _ _ q q _ HS3.out HS5.out).mono ?_
        rintro e w6 ⟨rfl, hb6⟩
        rw [decide_eq_true rfl]
        replace HVS := hid (keepVs hb6 HVS.out)
        replace HSL := hid (HSL.out.below hb6)
        replace HB := hid (keepBelow hb6 HB.out)
        clear hb6 HS3 HS5 HSQ H5 HQ
        have k0 := HVS.out.a
        go_wp2_with fail
        clear k0
        refine (hull_calls _ _ _ o _ HSL.out).mono ?_
        rintro e w7 ⟨s7, rfl, ho7, hb7⟩
        obtain ⟨A7, n7, c7, e7, hs7, -⟩ := ho7.sl
        subst e7
        have HS7 := hid hs7
        replace HVS := hid (keepVs hb7 HVS.out)
        replace HSL := hid (HSL.out.below hb7)
        replace HB := hid (keepBelow hb7 HB.out)
        clear hb7 hs7 ho7
        have HN7 := hid HS7.out.len
        by_cases hE : hullE o = 0
        · have HD := hid (hull_check hE)
          have HH := hid (fun x hx => hull_has (x := x) hE hx)
          have HSF := hid (hull_self hE)
          have HM := hid ((hull_ok hE).1.mem')
          rw [hE]
          generalize hullL o = D at *
          clear hE
          have k0 := HVS.out.a
          go_wp2
          clear k0
          go_loopw [68] (fun j wr => ∃ m : Nat, m ≤ k ∧ j = .int .i64 m ∧ Vs wr g (.slice Ao k co) ∧ Sl wr Ao k co o ∧ Sl wr A7 n7 c7 D ∧ Below w.heap.size w wr) (fun j _ => k - (intOf j).toNat)
          case atStart => exact ⟨0, Nat.zero_le _, rfl, HVS.out, HSL.out, HS7.out, HB.out⟩
          case round =>
            clear HVS HSL HS7 HB
            obtain ⟨m, hm, rfl, hvs, hsl, hs7, hB⟩ := hrel
            obtain ⟨wp, rfl⟩ : ∃ wp : World, wp = wr := ⟨_, rfl⟩
            have HVS := hid hvs
            have HSL := hid hsl
            have HS7 := hid hs7
            have HB := hid hB
            clear hvs hsl hs7 hB
            have hkw2 : IntKind.i64.wrap ((m : Int) + 1) = (m : Int) + 1 := IntWalk.i64_in _ (by omega)
            by_cases hlt : m < k
            · have hlo : m < o.length := by have := HKN.out; omega
              obtain ⟨bo, oo, hA, hC⟩ := HSL.out.at_ (by intro h; rw [h] at hlo; simp at hlo)
              subst hA
              have x0 := hC.x m hlo
              have x1 := hC.y m hlo
              have hbo := hC.lt
              have hlt' : (m : Int) < (k : Int) := by omega
              have HHX := hid (HH.out (px o m, py o m) (by rw [← px_lt hlo]; exact List.getElem_mem hlo))
              generalize px o m = ax at *
              generalize py o m = ay at *
              clear hC
              go_wp2_with fail
              have HAL := (Below.refl wp.heap.size wp).alloc (Nat.le_refl _) (.cells #[.int .i64 ax, .int .i64 ay] 25)
              replace HS7 := hid (HS7.out.below HAL)
              replace HVS := hid (keepVs HAL HVS.out)
              replace HSL := hid (HSL.out.below HAL)
              replace HB := hid (keepBelow HAL HB.out)
              refine (has_calls _ _ _ D ax ay _ HS7.out).mono ?_
              rintro e wq ⟨rfl, hbq⟩
              rw [HHX.out]
              replace HS7 := hid (HS7.out.below hbq)
              replace HVS := hid (keepVs hbq HVS.out)
              replace HSL := hid (HSL.out.below hbq)
              replace HB := hid (keepBelow hbq HB.out)
              clear hbq HAL
              go_wp2
              go_roundw
              case rel => exact ⟨m + 1, by omega, by go_num, HVS.out, HSL.out, HS7.out, HB.out⟩
              case measure => simp [intOf]; omega
            · have g9 : ¬ (m : Int) < (k : Int) := by omega
              go_wp2_with fail
              refine (hull_calls _ _ _ D _ HS7.out).mono ?_
              rintro e wq ⟨s8, rfl, ho8, hb8⟩
              rw [HSF.out.1]
              rw [HSF.out.2] at ho8
              obtain ⟨A8, n8, c8, e8, hs8, -⟩ := ho8.sl
              subst e8
              have HS8 := hid hs8
              replace HS7 := hid (HS7.out.below hb8)
              replace HVS := hid (keepVs hb8 HVS.out)
              replace HSL := hid (HSL.out.below hb8)
              replace HB := hid (keepBelow hb8 HB.out)
              clear hb8 hs8 ho8
              go_wp2_with fail
              refine (check_calls _ _ _ D _ HS7.out).mono ?_
              rintro e wq2 ⟨rfl, hb9⟩
              rw [HD.out]
              replace HS7 := hid (HS7.out.below hb9)
              replace HS8 := hid (HS8.out.below hb9)
              replace HVS := hid (keepVs hb9 HVS.out)
              replace HSL := hid (HSL.out.below hb9)
              replace HB := hid (keepBelow hb9 HB.out)
              clear hb9
              go_wp2_with fail
              refine (equal_calls _ _ _ _ _ _ D D _ HS8.out HS7.out).mono ?_
              rintro e wq3 ⟨rfl, hb9⟩
              rw [decide_eq_true rfl]
              replace HS7 := hid (HS7.out.below hb9)
              replace HVS := hid (keepVs hb9 HVS.out)
              replace HSL := hid (HSL.out.below hb9)
              replace HB := hid (keepBelow hb9 HB.out)
              clear hb9 HS8
              go_wp2_with fail
              refine (containsFunc_cap 82 (.pointer (some ⟨g, 0, none⟩)) (fun p => !decide (p ∈ o)) cf_once _ _ _ D _ (fun a b w' hb => once1_calls a b g Ao k co o w' (keepCell hb HVS.out.a) (HSL.out.below hb)) HS7.out).mono ?_
              rintro e wq4 ⟨rfl, hb9⟩
              have hany : (D.any fun p => !decide (p ∈ o)) = false := by rw [List.any_eq_false]; intro x hx; simp [HM.out x hx]
              rw [hany]
              replace HVS := hid (keepVs hb9 HVS.out)
              replace HSL := hid (HSL.out.below hb9)
              replace HB := hid (keepBelow hb9 HB.out)
              clear hb9
              go_wp2
              go_returns
              exact ret_bool (by simp) HB.out
        · have hL0 : hullL o = [] := by unfold hullL; rw [if_neg hE]
          have hne : (hullE o != 0) = true := by simp [hE]
          have h70 : n7 = 0 := by rw [HN7.out, hL0]; rfl
          subst h70
          clear hL0
          go_wp2
          go_returns
          exact ret_bool (by simp) HB.out
    · have g1 : ¬ ((i1 : Int) < (r.length : Int)) := by omega
      have HSL : Hid (Sl wo Ao k co o) := by show Sl _ _ _ _ _; have := HSO.out; rwa [hnk] at this
      have HB := hid hB
      have HGW : Hid (g < wo.heap.size) := HVS.out.lt
      have HBS : Hid (w.heap.size ≤ wo.heap.size) := hB.size
      have HS0 := hid HSL.out
      have hkn := HSL.out.len
      have HKN := hid hkn
      clear HO HSO hB hkn
      go_wp2_with fail
      clear k0 kf hgl hi1 wi1
      refine (HSQ.out _).mono ?_
      rintro e w1 ⟨s1, rfl, ho1, hb1⟩
      replace HVS := hid (keepVs hb1 HVS.out)
      replace HSL := hid (HSL.out.below hb1)
      replace HB := hid (keepBelow hb1 HB.out)
      have HAL := (Below.refl w1.heap.size w1).alloc (Nat.le_refl _) (.cells #[.int .i64 0, .int .i64 0] 25)
      replace HVS := hid (keepVs HAL HVS.out)
      replace HSL := hid (HSL.out.below HAL)
      replace HB := hid (keepBelow HAL HB.out)
      have HO1 := hid (ho1.alloc (.cells #[.int .i64 0, .int .i64 0] 25))
      have HZ1 := hid hb1.size
      have HB01 := hid (hb1.alloc hb1.size (.cells #[.int .i64 0, .int .i64 0] 25))
      have hC1 := lit1 w1 0 0
      clear ho1 hb1 HAL
      go_wp2_with (at_builtin; refine wpList_append_vecs rfl _ _ rfl wo.heap.size _ q rfl HO1.out _ 0 1 1 [(0, 0)] rfl rfl hC1 (by have := HQ.out; simp; omega) (by have := HZ1.out; simp; omega) ?_; intro v9 w9 ho9 hg9; have hb9 := hid (HO1.out.grown hg9 (by have := HZ1.out; simp; omega)); have HO9 := hid ho9; clear ho9 hg9 hC1)
      obtain ⟨A9, n9, c9, e9, hs9, -⟩ := HO9.out.sl
      subst e9
      have HS9 := hid hs9
      replace HVS := hid (keepVsB hb9.out HGW.out HVS.out)
      replace HSL := hid (HS0.out.below (HB01.out.trans hb9.out))
      replace HB := hid (HB.out.trans (hb9.out.mono HBS.out))
      clear hs9 HO9 HO1 HZ1 hb9 HB01 HS0 HGW HBS
      refine (hull_calls _ _ _ _ _ HS9.out).mono ?_
      rintro e w3 ⟨s3, rfl, ho3, hb3⟩
      rw [H5.out.1]
      rw [H5.out.2] at ho3
      obtain ⟨A3, n3, c3, e3, hs3, -⟩ := ho3.sl
      subst e3
      have HS3 := hid hs3
      replace HVS := hid (keepVs hb3 HVS.out)
      replace HSL := hid (HSL.out.below hb3)
      replace HB := hid (keepBelow hb3 HB.out)
      clear hs3 ho3 hb3 HS9
      go_wp2_with fail
      refine (works_calls _).mono ?_
      rintro e w4 ⟨rfl, hb4⟩
      replace HS3 := hid (HS3.out.below hb4)
      replace HVS := hid (keepVs hb4 HVS.out)
      replace HSL := hid (HSL.out.below hb4)
      replace HB := hid (keepBelow hb4 HB.out)
      clear hb4
      go_wp2_with fail
      refine (HSQ.out _).mono ?_
      rintro e w5 ⟨s5, rfl, ho5, hb5⟩
      obtain ⟨A5, n5, c5, e5, hs5, -⟩ := ho5.sl
      subst e5
      have HS5 := hid hs5
      replace HS3 := hid (HS3.out.below hb5)
      replace HVS := hid (keepVs hb5 HVS.out)
      replace HSL := hid (HSL.out.below hb5)
      replace HB := hid (keepBelow hb5 HB.out)
      clear hb5 hs5 ho5
      go_wp2_with fail
      refine (equal_calls _ _ _ _ _ _ q q _ HS3.out HS5.out).mono ?_
      rintro e w6 ⟨rfl, hb6⟩
      rw [decide_eq_true rfl]
      replace HVS := hid (keepVs hb6 HVS.out)
      replace HSL := hid (HSL.out.below hb6)
      replace HB := hid (keepBelow hb6 HB.out)
      clear hb6 HS3 HS5 HSQ H5 HQ
      have k0 := HVS.out.a
      go_wp2_with fail
      clear k0
      refine (hull_calls _ _ _ o _ HSL.out).mono ?_
      rintro e w7 ⟨s7, rfl, ho7, hb7⟩
      obtain ⟨A7, n7, c7, e7, hs7, -⟩ := ho7.sl
      subst e7
      have HS7 := hid hs7
      replace HVS := hid (keepVs hb7 HVS.out)
      replace HSL := hid (HSL.out.below hb7)
      replace HB := hid (keepBelow hb7 HB.out)
      clear hb7 hs7 ho7
      have HN7 := hid HS7.out.len
      by_cases hE : hullE o = 0
      · have HD := hid (hull_check hE)
        have HH := hid (fun x hx => hull_has (x := x) hE hx)
        have HSF := hid (hull_self hE)
        have HM := hid ((hull_ok hE).1.mem')
        rw [hE]
        generalize hullL o = D at *
        clear hE
        have k0 := HVS.out.a
        go_wp2
        clear k0
        go_loopw [68] (fun j wr => ∃ m : Nat, m ≤ k ∧ j = .int .i64 m ∧ Vs wr g (.slice Ao k co) ∧ Sl wr Ao k co o ∧ Sl wr A7 n7 c7 D ∧ Below w.heap.size w wr) (fun j _ => k - (intOf j).toNat)
        case atStart => exact ⟨0, Nat.zero_le _, rfl, HVS.out, HSL.out, HS7.out, HB.out⟩
        case round =>
          clear HVS HSL HS7 HB
          obtain ⟨m, hm, rfl, hvs, hsl, hs7, hB⟩ := hrel
          obtain ⟨wp, rfl⟩ : ∃ wp : World, wp = wr := ⟨_, rfl⟩
          have HVS := hid hvs
          have HSL := hid hsl
          have HS7 := hid hs7
          have HB := hid hB
          clear hvs hsl hs7 hB
          have hkw2 : IntKind.i64.wrap ((m : Int) + 1) = (m : Int) + 1 := IntWalk.i64_in _ (by omega)
          by_cases hlt : m < k
          · have hlo : m < o.length := by have := HKN.out; omega
            obtain ⟨bo, oo, hA, hC⟩ := HSL.out.at_ (by intro h; rw [h] at hlo; simp at hlo)
            subst hA
            have x0 := hC.x m hlo
            have x1 := hC.y m hlo
            have hbo := hC.lt
            have hlt' : (m : Int) < (k : Int) := by omega
            have HHX := hid (HH.out (px o m, py o m) (by rw [← px_lt hlo]; exact List.getElem_mem hlo))
            generalize px o m = ax at *
            generalize py o m = ay at *
            clear hC
            go_wp2_with fail
            have HAL := (Below.refl wp.heap.size wp).alloc (Nat.le_refl _) (.cells #[.int .i64 ax, .int .i64 ay] 25)
            replace HS7 := hid (HS7.out.below HAL)
            replace HVS := hid (keepVs HAL HVS.out)
            replace HSL := hid (HSL.out.below HAL)
            replace HB := hid (keepBelow HAL HB.out)
            refine (has_calls _ _ _ D ax ay _ HS7.out).mono ?_
            rintro e wq ⟨rfl, hbq⟩
            rw [HHX.out]
            replace HS7 := hid (HS7.out.below hbq)
            replace HVS := hid (keepVs hbq HVS.out)
            replace HSL := hid (HSL.out.below hbq)
            replace HB := hid (keepBelow hbq HB.out)
            clear hbq HAL
            go_wp2
            go_roundw
            case rel => exact ⟨m + 1, by omega, by go_num, HVS.out, HSL.out, HS7.out, HB.out⟩
            case measure => simp [intOf]; omega
          · have g9 : ¬ (m : Int) < (k : Int) := by omega
            go_wp2_with fail
            refine (hull_calls _ _ _ D _ HS7.out).mono ?_
            rintro e wq ⟨s8, rfl, ho8, hb8⟩
            rw [HSF.out.1]
            rw [HSF.out.2] at ho8
            obtain ⟨A8, n8, c8, e8, hs8, -⟩ := ho8.sl
            subst e8
            have HS8 := hid hs8
            replace HS7 := hid (HS7.out.below hb8)
            replace HVS := hid (keepVs hb8 HVS.out)
            replace HSL := hid (HSL.out.below hb8)
            replace HB := hid (keepBelow hb8 HB.out)
            clear hb8 hs8 ho8
            go_wp2_with fail
            refine (check_calls _ _ _ D _ HS7.out).mono ?_
            rintro e wq2 ⟨rfl, hb9⟩
            rw [HD.out]
            replace HS7 := hid (HS7.out.below hb9)
            replace HS8 := hid (HS8.out.below hb9)
            replace HVS := hid (keepVs hb9 HVS.out)
            replace HSL := hid (HSL.out.below hb9)
            replace HB := hid (keepBelow hb9 HB.out)
            clear hb9
            go_wp2_with fail
            refine (equal_calls _ _ _ _ _ _ D D _ HS8.out HS7.out).mono ?_
            rintro e wq3 ⟨rfl, hb9⟩
            rw [decide_eq_true rfl]
            replace HS7 := hid (HS7.out.below hb9)
            replace HVS := hid (keepVs hb9 HVS.out)
            replace HSL := hid (HSL.out.below hb9)
            replace HB := hid (keepBelow hb9 HB.out)
            clear hb9 HS8
            go_wp2_with fail
            refine (containsFunc_cap 82 (.pointer (some ⟨g, 0, none⟩)) (fun p => !decide (p ∈ o)) cf_once _ _ _ D _ (fun a b w' hb => once1_calls a b g Ao k co o w' (keepCell hb HVS.out.a) (HSL.out.below hb)) HS7.out).mono ?_
            rintro e wq4 ⟨rfl, hb9⟩
            have hany : (D.any fun p => !decide (p ∈ o)) = false := by rw [List.any_eq_false]; intro x hx; simp [HM.out x hx]
            rw [hany]
            replace HVS := hid (keepVs hb9 HVS.out)
            replace HSL := hid (HSL.out.below hb9)
            replace HB := hid (keepBelow hb9 HB.out)
            clear hb9
            go_wp2
            go_returns
            exact ret_bool (by simp) HB.out
      · have hL0 : hullL o = [] := by unfold hullL; rw [if_neg hE]
        have hne : (hullE o != 0) = true := by simp [hE]
        have h70 : n7 = 0 := by rw [HN7.out, hL0]; rfl
        subst h70
        clear hL0
        go_wp2
        go_returns
        exact ret_bool (by simp) HB.out
end Go.Proofs.Ytldlogcpnfmomaa
