/- Parts of a proof: contracts and laws. -/
import Derived.Test.YtbajmekmpgfpeaaB43
import Derived.Test.YtbajmekmpgfpeaaB49
import Derived.Test.YtbajmekmpgfpeaaB50
import Derived.Test.YtbajmekmpgfpeaaB51
namespace Go.Proofs.Ytbajmekmpgfpeaa
section
set_option linter.unusedVariables false
set_option linter.unusedSimpArgs false
open Go.RowKit
theorem keepSlJ {w w' : World} {A : Option Addr} {n c : Nat} {J : List Jt} (hb : Below w.heap.size w w') (h : SlE layJ w A n c J) : SlE layJ w' A n c J := h.below hb
theorem ScAt.drew' {w : World} {g : Nat} {s j : Value} {gy st : Int} (h : ScAt w g s j gy st) : ScAt w.drew g s j gy st := keepScAt (Below.refl _ _).drew h
theorem cf_ksame (args : Array Value) (w : World) : (callFunc 32 args).run Try.prog w = .ok (.enter 32 args) w := by kernel_rfl
theorem clampF_neg (a : Int) : clampF (-a) = -clampF a := by unfold clampF; split <;> split <;> (try split) <;> (try split) <;> omega
theorem subF_swap (a b : Int) : subF a b = -subF b a := by unfold subF; rw [← clampF_neg]; congr 1; omega
theorem lenV_swap (a b c d : Int) : lenV (subF a c) (subF b d) = lenV (subF c a) (subF d b) := by
  unfold lenV lenZ
  rw [subF_swap a c, subF_swap b d, clampF_neg, clampF_neg, Int.neg_mul_neg, Int.neg_mul_neg]
theorem roundsQ_at {Q : List QB} {J : List Jt} {st : Int} (h : ∀ x ∈ J, FitJ Q.length x) (r k : Nat) {y : QB} (hy : Q[k]? = some y) : ∃ y', (roundsQ Q J st r)[k]? = some y' ∧ Like y y' := (roundsQ_like h st r).at_ k y hy
set_option maxRecDepth 100000 in
set_option maxHeartbeats 8000000 in
theorem jointStill_walk (A0 : Option Addr) (n0 c0 : Nat) (r : List Int) (z : Int) (w : World) (hS : SlI w A0 n0 c0 r) :
    Calls Try.prog 6 #[.slice A0 n0 c0, .int .i64 z] w (Ret (.bool true) w) := by
  have HSC := hid (scene_calls A0 n0 c0 r w hS)
  clear hS
  obtain ⟨zr, hzr⟩ : ∃ zr, zr = z % 33 := ⟨_, rfl⟩
  have HZR : Hid (z % 33 = zr) := hzr.symm
  have hz0 : 0 ≤ zr ∧ zr < 33 := by omega
  clear hzr
  go_enter Try.func6, Try.ntmps6
  go_wp2_with fail
  refine HSC.out.mono ?_
  rintro e w1 ⟨s, j, L, J, gy, st, rfl, hsc⟩
  obtain ⟨As, ns, cs, rfl, hsl, -⟩ := hsc.own.sl
  obtain ⟨Aj, nj, cj, rfl, hjl, -⟩ := hsc.jown.sl
  have hns := hsl.len
  have hnj := hjl.len
  subst hns hnj
  have hSB : SlB w1 As L.length cs L := ⟨hsl, fun x hx => (hsc.co x hx).1⟩
  have hstb := hsc.stb
  have hlen5 := hsc.len
  have hB1 := hsc.bel
  clear hsl hsc HSC
  obtain ⟨gS, hgS⟩ : ∃ gS, gS = w1.heap.size := ⟨_, rfl⟩
  obtain ⟨w2, hw2⟩ : ∃ w2, w2 = w1.alloc (.cells #[.slice As L.length cs, .slice Aj J.length cj, .slice none 0 0, .int .i64 0, .int .i64 gy, .int .i64 st] 62) := ⟨_, rfl⟩
  have hb2 : Below w1.heap.size w1 w2 := by rw [hw2]; go_grown
  have HF0 := hid (show ScAt w2 gS (.slice As L.length cs) (.slice Aj J.length cj) gy st by rw [hw2, hgS]; exact ⟨by go_simp, by go_simp, by go_simp, by go_simp, by go_simp, by go_simp, fun k => by go_simp⟩)
  have HF1 := hid (hSB.below hb2)
  have HF3 := hid (hjl.below hb2)
  have HF4 := hid (keepBelow hb2 hB1)
  clear hb2 hB1 hSB hjl
  go_upto_region 2 with fail
  rw [← hw2, ← hgS]
  clear hw2 hgS
  go_wp2_with fail
  refine (joins_calls _).mono ?_
  rintro e w3 ⟨rfl, hb⟩
  replace HF0 := hid (keepScAt hb HF0.out)
  replace HF1 := hid (keepSlB hb HF1.out)
  replace HF3 := hid (keepSlJ hb HF3.out)
  replace HF4 := hid (keepBelow hb HF4.out)
  clear hb
  obtain ⟨k0, k1, k2, k3, k4, k5, kf⟩ := HF0.out
  go_wp2_with fail
  refine (jcheck_calls As Aj L.length cs J.length cj L J _ HF1.out HF3.out).mono ?_
  rintro e w4 ⟨rfl, hb⟩
  replace HF0 := hid (keepScAt hb HF0.out)
  replace HF1 := hid (keepSlB hb HF1.out)
  replace HF3 := hid (keepSlJ hb HF3.out)
  replace HF4 := hid (keepBelow hb HF4.out)
  clear hb k0 k1 k2 k3 k4 k5 kf
  by_cases hE : jointsE L J = 0
  case neg =>
    have hne : (jointsE L J != 0) = true := by simp [hE]
    have hB9 := HF4.out
    generalize jointsE L J = y at *
    go_wp2
    go_returns
    exact ret_bool (by simp) hB9
  obtain ⟨hbe, hj32, hjs⟩ := jointsE_zero hE
  obtain ⟨h64, hval⟩ := bodiesE_zero hbe
  have HJS : Hid (∀ x ∈ J, jointsE L [x] = 0) := fun x hx => like_joint (.refl _) h64 hval (hjs x hx)
  have HFJ : Hid (∀ x ∈ J, FitJ (L.map valB).length x) := fun x hx => by rw [List.length_map]; exact (jtE_zero (hjs x hx)).1
  have HRE0 : Hid (runE L J st 0 = 0) := by show _ = _; unfold runE; rw [if_neg (by simp [hE]), if_neg (by omega)]
  have HRE : Hid (runE L J st zr = 0) := by show _ = _; unfold runE; rw [if_neg (by simp [hE]), if_neg (by omega)]
  have HRQ0 : Hid (runQ L J st 0 = L.map valB) := by show _ = _; unfold runQ; rw [if_pos HRE0.out]; rfl
  have HRQ : Hid (runQ L J st zr = roundsQ (L.map valB) J st zr.toNat) := by show _ = _; unfold runQ; rw [if_pos HRE.out]
  have HLN : Hid (∀ x ∈ J, 0 ≤ x.len ∧ x.len ≤ 65536000) := fun x hx => (jtE_zero (hjs x hx)).2.2.2.1
  have HFA : Hid (∀ x ∈ J, 0 ≤ x.a ∧ x.a < x.b ∧ x.b < (L.length : Int)) := fun x hx => (jtE_zero (hjs x hx)).1
  rw [hE]
  clear hE hbe hj32 hjs h64 hval
  obtain ⟨k0, k1, k2, k3, k4, k5, kf⟩ := HF0.out
  go_wp2_with fail
  refine (jrun_calls As Aj L.length cs J.length cj L J st 0 _ HF1.out HF3.out).mono ?_
  rintro e w5 ⟨A2, n2, c2, L2, rfl, hs2, hm2, hb⟩
  rw [HRE0.out]
  replace HF0 := hid (keepScAt hb HF0.out)
  replace HF1 := hid (keepSlB hb HF1.out)
  replace HF3 := hid (keepSlJ hb HF3.out)
  replace HF4 := hid (keepBelow hb HF4.out)
  have HF2 := hid hs2
  have HM2 : Hid (L2.map valB = L.map valB) := by show _ = _; rw [hm2, HRQ0.out]
  clear hb hs2 hm2 k0 k1 k2 k3 k4 k5 kf HRE0 HRQ0
  go_upto_region 7 with fail
  refine wp_region_noPanic ?_
  refine wp_region_U (S := (S2 (fun w' => ScAt w' gS (.slice As L.length cs) (.slice Aj J.length cj) gy st ∧ SlB w' As L.length cs L ∧ SlB w' A2 n2 c2 L2 ∧ SlE layJ w' Aj J.length cj J ∧ Below w.heap.size w w'))) (T := (fun j => [0, 0, 0, 0, 0, 0, 0, 0, 1].getD j 0)) (by kernel_rfl) (S2i0 ⟨HF0.out.drew', HF1.out.drew, HF2.out.drew, HF3.out.drew, HF4.out.drew⟩) (fun hH => ?_)
  have hWr12 : Weaker (S2 (fun w' => ScAt w' gS (.slice As L.length cs) (.slice Aj J.length cj) gy st ∧ SlB w' As L.length cs L ∧ SlB w' A2 n2 c2 L2 ∧ SlE layJ w' Aj J.length cj J ∧ Below w.heap.size w w')) := weaker2 _
  refine U_take 0 41 13 0 0 (v := ?vr12_1) rfl (by kernel_rfl) (by kernel_rfl) hWr12 (by kernel_rfl) (by kernel_rfl) (by kernel_rfl) (by kernel_rfl) (by kernel_rfl) (by kernel_rfl) (fun _ _ _ _ h => h) (by kernel_rfl) ?hyr12_1 (by omega) hH ?_
  case hyr12_1 => (intro w' hSw; clear hSw; go_simp; try (with_reducible rfl))
  simp only [List.set_cons_zero, List.set_cons_succ]
  refine U_take 1 42 12 0 0 (v := ?vr12_2) rfl (by kernel_rfl) (by kernel_rfl) hWr12 (by kernel_rfl) (by kernel_rfl) (by kernel_rfl) (by kernel_rfl) (by kernel_rfl) (by kernel_rfl) (fun _ _ _ _ h => h) (by kernel_rfl) ?hyr12_2 (by omega) hH ?_
  case hyr12_2 => (intro w' hSw; replace hSw := S2o0 hSw; (try dsimp only at hSw); have q0 := hSw.1; have q1 := hSw.2.1; have q2 := hSw.2.2.1; have q3 := hSw.2.2.2.1; have q4 := hSw.2.2.2.2; obtain ⟨qa0_0, qa0_1, qa0_2, qa0_3, qa0_4, qa0_5, qa0_f⟩ := id q0; skip; skip; skip; go_simp; try (with_reducible rfl))
  simp only [List.set_cons_zero, List.set_cons_succ]
  refine U_take 2 43 11 0 0 (v := ?vr12_3) rfl (by kernel_rfl) (by kernel_rfl) hWr12 (by kernel_rfl) (by kernel_rfl) (by kernel_rfl) (by kernel_rfl) (by kernel_rfl) (by kernel_rfl) (fun _ _ _ _ h => h) (by kernel_rfl) ?hyr12_3 (by omega) hH ?_
  case hyr12_3 => (intro w' hSw; clear hSw; go_simp; try (with_reducible rfl))
  simp only [List.set_cons_zero, List.set_cons_succ]
  refine U_take 3 44 10 0 0 (v := ?vr12_4) rfl (by kernel_rfl) (by kernel_rfl) hWr12 (by kernel_rfl) (by kernel_rfl) (by kernel_rfl) (by kernel_rfl) (by kernel_rfl) (by kernel_rfl) (fun _ _ _ _ h => h) (by kernel_rfl) ?hyr12_4 (by omega) hH ?_
  case hyr12_4 => (intro w' hSw; replace hSw := S2o0 hSw; (try dsimp only at hSw); have q0 := hSw.1; have q1 := hSw.2.1; have q2 := hSw.2.2.1; have q3 := hSw.2.2.2.1; have q4 := hSw.2.2.2.2; obtain ⟨qa0_0, qa0_1, qa0_2, qa0_3, qa0_4, qa0_5, qa0_f⟩ := id q0; skip; skip; skip; go_simp; try (with_reducible rfl))
  simp only [List.set_cons_zero, List.set_cons_succ]
  refine U_take 4 45 9 0 0 (v := ?vr12_5) rfl (by kernel_rfl) (by kernel_rfl) hWr12 (by kernel_rfl) (by kernel_rfl) (by kernel_rfl) (by kernel_rfl) (by kernel_rfl) (by kernel_rfl) (fun _ _ _ _ h => h) (by kernel_rfl) ?hyr12_5 (by omega) hH ?_
  case hyr12_5 => (intro w' hSw; clear hSw; go_simp; try (with_reducible rfl))
  simp only [List.set_cons_zero, List.set_cons_succ]
  refine U_take 5 46 8 0 0 (v := ?vr12_6) rfl (by kernel_rfl) (by kernel_rfl) hWr12 (by kernel_rfl) (by kernel_rfl) (by kernel_rfl) (by kernel_rfl) (by kernel_rfl) (by kernel_rfl) (fun _ _ _ _ h => h) (by kernel_rfl) ?hyr12_6 (by omega) hH ?_
  case hyr12_6 => (intro w' hSw; replace hSw := S2o0 hSw; (try dsimp only at hSw); have q0 := hSw.1; have q1 := hSw.2.1; have q2 := hSw.2.2.1; have q3 := hSw.2.2.2.1; have q4 := hSw.2.2.2.2; obtain ⟨qa0_0, qa0_1, qa0_2, qa0_3, qa0_4, qa0_5, qa0_f⟩ := id q0; skip; skip; skip; go_simp; try (with_reducible rfl))
  simp only [List.set_cons_zero, List.set_cons_succ]
  refine U_take 6 47 7 0 0 (v := ?vr12_7) rfl (by kernel_rfl) (by kernel_rfl) hWr12 (by kernel_rfl) (by kernel_rfl) (by kernel_rfl) (by kernel_rfl) (by kernel_rfl) (by kernel_rfl) (fun _ _ _ _ h => h) (by kernel_rfl) ?hyr12_7 (by omega) hH ?_
  case hyr12_7 => (intro w' hSw; clear hSw; go_simp; try (with_reducible rfl))
  simp only [List.set_cons_zero, List.set_cons_succ]
  refine wpAnyU_ready (rs := [7]) (by kernel_rfl) (by simp) ?_
  refine AllReadyU.cons 0 (by kernel_rfl) (o := _) rfl (fun K hK => ?_) AllReadyU.nil
  try clear hb
  go_simp
  (go_at_call 9; refine (tbelow_calls z 33 (by omega) (by omega) _).mono ?_; rw [HZR.out]; rintro e wn ⟨rfl, hb⟩)
  refine hK.out _ _ ?hsr12_8 (fun hH2 => ?hrr12_8)
  case hsr12_8 => exact S2i0 (by have hG := hH; replace hG := S2o0 hG; (try dsimp only at hG); have q0 := hG.1; have q1 := hG.2.1; have q2 := hG.2.2.1; have q3 := hG.2.2.2.1; have q4 := hG.2.2.2.2; exact ⟨keepScAt hb q0, keepSlB hb q1, keepSlB hb q2, keepSlJ hb q3, keepBelow hb q4⟩)
  clear hK K hH
  have hH := hH2
  clear hH2
  try simp only [Act.put, List.setIfInBounds_toArray, List.set_cons_zero, List.set_cons_succ]
  refine wpAnyU_ready (rs := [8]) (by kernel_rfl) (by simp) ?_
  refine AllReadyU.cons 1 (by kernel_rfl) (o := _) rfl (fun K hK => ?_) AllReadyU.nil
  try clear hb
  have hG := hH
  replace hG := S2o0 hG; (try dsimp only at hG); have q0 := hG.1; have q1 := hG.2.1; have q2 := hG.2.2.1; have q3 := hG.2.2.2.1; have q4 := hG.2.2.2.2
  have HF0 := hid q0
  have HF1 := hid q1
  have HF2 := hid q2
  have HF3 := hid q3
  have HF4 := hid q4
  clear hG q0 q1 q2 q3 q4
  go_simp
  (go_at_call 26; refine (jrun_calls As Aj L.length cs J.length cj L J st zr _ HF1.out HF3.out).mono ?_; rintro e wn ⟨A3, n3, c3, L3, rfl, hs3, hm3, hb⟩; rw [HRE.out])
  refine hK.out _ _ ?hsr12_9 (fun hH2 => ?hrr12_9)
  case hsr12_9 => exact S2i1
  clear hK K hH
  have hH := hH2
  clear hH2
  try simp only [Act.put, List.setIfInBounds_toArray, List.set_cons_zero, List.set_cons_succ]
  replace HF0 := hid (keepScAt hb HF0.out)
  replace HF1 := hid (keepSlB hb HF1.out)
  replace HF2 := hid (keepSlB hb HF2.out)
  replace HF3 := hid (keepSlJ hb HF3.out)
  replace HF4 := hid (keepBelow hb HF4.out)
  have HF5 := hid hs3
  have HM3 := hid hm3
  clear hs3 hm3
  refine U_take 9 40 4 1 1 (v := ?vr12_10) rfl (by kernel_rfl) (by kernel_rfl) hWr12 (by kernel_rfl) (by kernel_rfl) (by kernel_rfl) (by kernel_rfl) (by kernel_rfl) (by kernel_rfl) (fun _ _ _ _ h => h) (by kernel_rfl) ?hyr12_10 (by omega) hH ?_
  case hyr12_10 => (intro w' hSw; clear hSw; go_simp; try (with_reducible rfl))
  simp only [List.set_cons_zero, List.set_cons_succ]
  refine U_take 10 50 3 1 1 (v := ?vr12_11) rfl (by kernel_rfl) (by kernel_rfl) hWr12 (by kernel_rfl) (by kernel_rfl) (by kernel_rfl) (by kernel_rfl) (by kernel_rfl) (by kernel_rfl) (fun _ _ _ _ h => h) (by kernel_rfl) ?hyr12_11 (by omega) hH ?_
  case hyr12_11 => (intro w' hSw; clear hSw; go_simp; try (with_reducible rfl))
  simp only [List.set_cons_zero, List.set_cons_succ]
  refine U_take 11 51 2 1 1 (v := ?vr12_12) rfl (by kernel_rfl) (by kernel_rfl) hWr12 (by kernel_rfl) (by kernel_rfl) (by kernel_rfl) (by kernel_rfl) (by kernel_rfl) (by kernel_rfl) (fun _ _ _ _ h => h) (by kernel_rfl) ?hyr12_12 (by omega) hH ?_
  case hyr12_12 => (intro w' hSw; clear hSw; go_simp; try (with_reducible rfl))
  simp only [List.set_cons_zero, List.set_cons_succ]
  refine U_take 12 8 1 1 1 (v := ?vr12_13) rfl (by kernel_rfl) (by kernel_rfl) hWr12 (by kernel_rfl) (by kernel_rfl) (by kernel_rfl) (by kernel_rfl) (by kernel_rfl) (by kernel_rfl) (fun _ _ _ _ h => h) (by kernel_rfl) ?hyr12_13 (by omega) hH ?_
  case hyr12_13 => (intro w' hSw; clear hSw; go_simp; try (with_reducible rfl))
  simp only [List.set_cons_zero, List.set_cons_succ]
  refine U_take 13 9 0 1 1 (v := ?vr12_14) rfl (by kernel_rfl) (by kernel_rfl) hWr12 (by kernel_rfl) (by kernel_rfl) (by kernel_rfl) (by kernel_rfl) (by kernel_rfl) (by kernel_rfl) (fun _ _ _ _ h => h) (by kernel_rfl) ?hyr12_14 (by omega) hH ?_
  case hyr12_14 => (intro w' hSw; clear hSw; go_simp; try (with_reducible rfl))
  simp only [List.set_cons_zero, List.set_cons_succ]
  refine wpAnyU_done (by kernel_rfl) ?_ _ _
  refine NoPanic.normal ?_
  have HL3 : Hid (L3.map valB = roundsQ (L.map valB) J st zr.toNat) := by show _ = _; rw [HM3.out, HRQ.out]
  have hl3 : L3.length = L.length := by have := congrArg List.length HL3.out; rw [List.length_map, (roundsQ_like HFJ.out st _).len, List.length_map] at this; exact this
  have hn3 := HF5.out.sl.len
  rw [hl3] at hn3
  have HLL3 := hid hl3
  clear hl3 HM3 HRQ
  subst hn3
  have HEQ := hid (equalFuncB_calls 32 cf_ksame same_calls A2 As n2 c2 L.length cs L2 L wn HF2.out HF1.out HM2.out)
  obtain ⟨k0, k1, k2, k3, k4, k5, kf⟩ := HF0.out
  go_wp2_with fail
  refine HEQ.out.mono ?_
  rintro e w6 ⟨rfl, hb⟩
  replace HF0 := hid (keepScAt hb HF0.out)
  replace HF1 := hid (keepSlB hb HF1.out)
  replace HF3 := hid (keepSlJ hb HF3.out)
  replace HF4 := hid (keepBelow hb HF4.out)
  replace HF5 := hid (keepSlB hb HF5.out)
  clear hb HEQ HF2 HM2 k0 k1 k2 k3 k4 k5 kf
  obtain ⟨k0, k1, k2, k3, k4, k5, kf⟩ := HF0.out
  have hcs := HF1.out.sl.cap
  have hbs := HF1.out.sl.big
  go_wp2
  go_loopw [76] (fun i wr => ∃ k : Nat, k ≤ L.length ∧ i = .int .i64 k ∧ Below w6.heap.size w6 wr) (fun i _ => L.length - (intOf i).toNat)
  case atStart => exact ⟨0, Nat.zero_le _, rfl, Below.refl _ _⟩
  case round =>
    clear k0 k1 k2 k3 k4 k5 kf
    obtain ⟨k, hk, rfl, hB⟩ := hrel
    obtain ⟨wo, rfl⟩ : ∃ wo : World, wo = wr := ⟨_, rfl⟩
    by_cases hlt : k < L.length
    · have hk3 : k < L3.length := by rw [HLL3.out]; exact hlt
      obtain ⟨bA, oA, hAA, hCA⟩ := (HF1.out.below hB).sl.at_ (by intro h; subst h; simp at hlt)
      obtain ⟨b3, o3, hA3, hC3⟩ := (HF5.out.below hB).sl.at_ (by intro h; subst h; simp at hk3)
      subst hAA hA3
      obtain ⟨x, hx⟩ : ∃ x, x = L[k] := ⟨_, rfl⟩
      obtain ⟨y, hy⟩ : ∃ y, y = L3[k] := ⟨_, rfl⟩
      have hlike : Like (valB x) (valB y) := by
        obtain ⟨y', e1, e2⟩ := roundsQ_at (st := st) HFJ.out zr.toNat k (y := valB x) (by rw [List.getElem?_map, List.getElem?_eq_getElem hlt, hx]; rfl)
        rw [← HL3.out, List.getElem?_map, List.getElem?_eq_getElem hk3, ← hy] at e1
        have e1 : some (valB y) = some y' := e1
        cases e1
        exact e2
      have hys : Sl w6 y.A y.n y.c y.l := HF5.out.co y (by rw [hy]; exact List.getElem_mem hk3)
      have hxs : Sl w6 x.A x.n x.c x.l := HF1.out.co x (by rw [hx]; exact List.getElem_mem hlt)
      have HC3b := hid (fun (w' : World) (h : CellsE layB w' b3 o3 L3) => cells_bd h hk3 hy)
      obtain ⟨d0, d1, d2, d3, d4, d5, d6, d7, d8, d9, d10, d11, d12⟩ := cells_bd hCA hlt hx
      have hbo := hCA.lt
      have hlt' : (k : Int) < (L.length : Int) := by omega
      have hkw : IntKind.i64.wrap ((k : Int) + 1) = (k : Int) + 1 := IntWalk.i64_in _ (by omega)
      obtain ⟨wj, hwj⟩ : ∃ wj, wj = wo.alloc (.cells #[.int .i64 x.b.px, .int .i64 x.b.py, .int .i64 x.b.vx, .int .i64 x.b.vy, .int .i64 x.b.ang, .int .i64 x.b.spin, .int .i64 x.b.mass, .int .i64 x.b.iner, .int .i64 x.b.bounce, .int .i64 x.b.rub, .slice x.A x.n x.c, .bool x.b.asleep, .int .i64 x.b.calm] 27) := ⟨_, rfl⟩
      obtain ⟨gb, hgb⟩ : ∃ gb, gb = wo.heap.size := ⟨_, rfl⟩
      have HKB := hid (show BdAt wj gb x.b x.A x.n x.c by rw [hwj, hgb]; exact BdAt.here wo x.b x.A x.n x.c _)
      have hbj : Below wo.heap.size wo wj := by rw [hwj]; go_grown
      have HC3 := hid (CellsE.below hbj hC3)
      have HBK0 := hid (keepBelow hbj hB)
      clear hCA hC3 hx hy hbj hB
      go_upto_region 13 with fail
      rw [← hwj, ← hgb]
      clear hwj hgb d0 d1 d2 d3 d4 d5 d6 d7 d8 d9 d10 d11 d12 hbo
      by_cases hz : x.b.mass = 0
      · have hzb : (x.b.mass == 0) = true := by simp [hz]
        have hv := hlike.rest hz
        obtain ⟨yb, yA, yn, yc, yl⟩ := y
        have e1 : yb = x.b := congrArg Prod.fst hv
        have e2 : yl = x.l := congrArg Prod.snd hv
        subst e1 e2
        have HCY : Hid (∀ w', CellsE layB w' b3 o3 L3 → w'.cell? ⟨b3, o3 + k * 13, none⟩ = some (.int .i64 x.b.px) ∧ w'.cell? ⟨b3, o3 + k * 13 + 1, none⟩ = some (.int .i64 x.b.py) ∧ w'.cell? ⟨b3, o3 + k * 13 + 2, none⟩ = some (.int .i64 x.b.vx) ∧ w'.cell? ⟨b3, o3 + k * 13 + 3, none⟩ = some (.int .i64 x.b.vy) ∧ w'.cell? ⟨b3, o3 + k * 13 + 4, none⟩ = some (.int .i64 x.b.ang) ∧ w'.cell? ⟨b3, o3 + k * 13 + 5, none⟩ = some (.int .i64 x.b.spin) ∧ w'.cell? ⟨b3, o3 + k * 13 + 6, none⟩ = some (.int .i64 x.b.mass) ∧ w'.cell? ⟨b3, o3 + k * 13 + 7, none⟩ = some (.int .i64 x.b.iner) ∧ w'.cell? ⟨b3, o3 + k * 13 + 8, none⟩ = some (.int .i64 x.b.bounce) ∧ w'.cell? ⟨b3, o3 + k * 13 + 9, none⟩ = some (.int .i64 x.b.rub) ∧ w'.cell? ⟨b3, o3 + k * 13 + 10, none⟩ = some (.slice yA yn yc) ∧ w'.cell? ⟨b3, o3 + k * 13 + 11, none⟩ = some (.bool x.b.asleep) ∧ w'.cell? ⟨b3, o3 + k * 13 + 12, none⟩ = some (.int .i64 x.b.calm)) := HC3b.out
        have HSAME : Hid (∀ w', Below w6.heap.size w6 w' → Calls Try.prog 32 #[bodyV x.b yA yn yc, bodyV x.b x.A x.n x.c] w' (Ret (.bool true) w')) := fun w' hb => same_calls x.b yA x.A yn yc x.n x.c x.l w' (hys.below hb) (hxs.below hb)
        have HEP := run_eqVJ x.b.px x.b.py x.b.px x.b.py
        simp only [beq_self_eq_true, Bool.and_self] at HEP
        clear hz hv hlike hys hxs HC3b
        refine wp_region_noPanic ?_
        refine wp_region_U (S := (S2 (fun w' => CellsE layB w' b3 o3 L3 ∧ BdAt w' gb x.b x.A x.n x.c ∧ Below w6.heap.size w6 w'))) (T := (fun _ => 0)) (by kernel_rfl) (S2i0 ⟨CellsE.below (Below.refl _ _).drew HC3.out, HKB.out.drew, HBK0.out.drew⟩) (fun hH => ?_)
        have hWr14 : Weaker (S2 (fun w' => CellsE layB w' b3 o3 L3 ∧ BdAt w' gb x.b x.A x.n x.c ∧ Below w6.heap.size w6 w')) := weaker2 _
        refine U_take 0 81 31 0 0 (v := ?vr14_1) rfl (by kernel_rfl) (by kernel_rfl) hWr14 (by kernel_rfl) (by kernel_rfl) (by kernel_rfl) (by kernel_rfl) (by kernel_rfl) (by kernel_rfl) (fun _ _ _ _ h => h) (by kernel_rfl) ?hyr14_1 (by omega) hH ?_
        case hyr14_1 => (intro w' hSw; clear hSw; go_simp; try (with_reducible rfl))
        simp only [List.set_cons_zero, List.set_cons_succ]
        refine U_take 1 82 30 0 0 (v := ?vr14_2) rfl (by kernel_rfl) (by kernel_rfl) hWr14 (by kernel_rfl) (by kernel_rfl) (by kernel_rfl) (by kernel_rfl) (by kernel_rfl) (by kernel_rfl) (fun _ _ _ _ h => h) (by kernel_rfl) ?hyr14_2 (by omega) hH ?_
        case hyr14_2 => (intro w' hSw; replace hSw := S2o0 hSw; (try dsimp only at hSw); have q0 := hSw.1; have q1 := hSw.2.1; have q2 := hSw.2.2; obtain ⟨c0_0, c0_1, c0_2, c0_3, c0_4, c0_5, c0_6, c0_7, c0_8, c0_9, c0_10, c0_11, c0_12⟩ := HCY.out _ (q0); obtain ⟨qa1_0, qa1_1, qa1_2, qa1_3, qa1_4, qa1_5, qa1_6, qa1_7, qa1_8, qa1_9, qa1_10, qa1_11, qa1_12, qa1_f⟩ := id q1; go_simp; try (with_reducible rfl))
        simp only [List.set_cons_zero, List.set_cons_succ]
        refine U_take 2 83 29 0 0 (v := ?vr14_3) rfl (by kernel_rfl) (by kernel_rfl) hWr14 (by kernel_rfl) (by kernel_rfl) (by kernel_rfl) (by kernel_rfl) (by kernel_rfl) (by kernel_rfl) (fun _ _ _ _ h => h) (by kernel_rfl) ?hyr14_3 (by omega) hH ?_
        case hyr14_3 => (intro w' hSw; clear hSw; go_simp; try (with_reducible rfl))
        simp only [List.set_cons_zero, List.set_cons_succ]
        refine U_take 3 84 28 0 0 (v := ?vr14_4) rfl (by kernel_rfl) (by kernel_rfl) hWr14 (by kernel_rfl) (by kernel_rfl) (by kernel_rfl) (by kernel_rfl) (by kernel_rfl) (by kernel_rfl) (fun _ _ _ _ h => h) (by kernel_rfl) ?hyr14_4 (by omega) hH ?_
        case hyr14_4 => (intro w' hSw; clear hSw; go_simp; try (with_reducible rfl))
        simp only [List.set_cons_zero, List.set_cons_succ]
        refine U_take 4 85 27 0 0 (v := ?vr14_5) rfl (by kernel_rfl) (by kernel_rfl) hWr14 (by kernel_rfl) (by kernel_rfl) (by kernel_rfl) (by kernel_rfl) (by kernel_rfl) (by kernel_rfl) (fun _ _ _ _ h => h) (by kernel_rfl) ?hyr14_5 (by omega) hH ?_
        case hyr14_5 => (intro w' hSw; clear hSw; go_simp; try (with_reducible rfl))
        simp only [List.set_cons_zero, List.set_cons_succ]
        refine U_take 5 86 26 0 0 (v := ?vr14_6) rfl (by kernel_rfl) (by kernel_rfl) hWr14 (by kernel_rfl) (by kernel_rfl) (by kernel_rfl) (by kernel_rfl) (by kernel_rfl) (by kernel_rfl) (fun _ _ _ _ h => h) (by kernel_rfl) ?hyr14_6 (by omega) hH ?_
        case hyr14_6 => (intro w' hSw; clear hSw; go_simp; try (with_reducible rfl))
        simp only [List.set_cons_zero, List.set_cons_succ]
        refine U_take 6 87 25 0 0 (v := ?vr14_7) rfl (by kernel_rfl) (by kernel_rfl) hWr14 (by kernel_rfl) (by kernel_rfl) (by kernel_rfl) (by kernel_rfl) (by kernel_rfl) (by kernel_rfl) (fun _ _ _ _ h => h) (by kernel_rfl) ?hyr14_7 (by omega) hH ?_
        case hyr14_7 => (intro w' hSw; clear hSw; go_simp; try (with_reducible rfl))
        simp only [List.set_cons_zero, List.set_cons_succ]
        refine U_take 7 88 24 0 0 (v := ?vr14_8) rfl (by kernel_rfl) (by kernel_rfl) hWr14 (by kernel_rfl) (by kernel_rfl) (by kernel_rfl) (by kernel_rfl) (by kernel_rfl) (by kernel_rfl) (fun _ _ _ _ h => h) (by kernel_rfl) ?hyr14_8 (by omega) hH ?_
        case hyr14_8 => (intro w' hSw; replace hSw := S2o0 hSw; (try dsimp only at hSw); have q0 := hSw.1; have q1 := hSw.2.1; have q2 := hSw.2.2; obtain ⟨c0_0, c0_1, c0_2, c0_3, c0_4, c0_5, c0_6, c0_7, c0_8, c0_9, c0_10, c0_11, c0_12⟩ := HCY.out _ (q0); obtain ⟨qa1_0, qa1_1, qa1_2, qa1_3, qa1_4, qa1_5, qa1_6, qa1_7, qa1_8, qa1_9, qa1_10, qa1_11, qa1_12, qa1_f⟩ := id q1; go_simp; try (with_reducible rfl))
        simp only [List.set_cons_zero, List.set_cons_succ]
        refine U_take 8 89 23 0 0 (v := ?vr14_9) rfl (by kernel_rfl) (by kernel_rfl) hWr14 (by kernel_rfl) (by kernel_rfl) (by kernel_rfl) (by kernel_rfl) (by kernel_rfl) (by kernel_rfl) (fun _ _ _ _ h => h) (by kernel_rfl) ?hyr14_9 (by omega) hH ?_
        case hyr14_9 => (intro w' hSw; replace hSw := S2o0 hSw; (try dsimp only at hSw); have q0 := hSw.1; have q1 := hSw.2.1; have q2 := hSw.2.2; obtain ⟨c0_0, c0_1, c0_2, c0_3, c0_4, c0_5, c0_6, c0_7, c0_8, c0_9, c0_10, c0_11, c0_12⟩ := HCY.out _ (q0); obtain ⟨qa1_0, qa1_1, qa1_2, qa1_3, qa1_4, qa1_5, qa1_6, qa1_7, qa1_8, qa1_9, qa1_10, qa1_11, qa1_12, qa1_f⟩ := id q1; go_simp; try (with_reducible rfl))
        simp only [List.set_cons_zero, List.set_cons_succ]
        refine wpAnyU_ready (rs := [9]) (by kernel_rfl) (by simp) ?_
        refine AllReadyU.cons 0 (by kernel_rfl) (o := _) rfl (fun K hK => ?_) AllReadyU.nil
        try clear hb
        have hG := hH
        replace hG := S2o0 hG; (try dsimp only at hG); have q0 := hG.1; have q1 := hG.2.1; have q2 := hG.2.2
        have HBK := hid q2
        clear hG q0 q1 q2
        go_simp
        (go_at_call 32; refine (HSAME.out _ HBK.out).mono ?_; rintro e wn ⟨rfl, hb⟩)
        refine hK.out _ _ ?hsr14_10 (fun hH2 => ?hrr14_10)
        case hsr14_10 => exact S2i0 (by have hG := hH; replace hG := S2o0 hG; (try dsimp only at hG); have q0 := hG.1; have q1 := hG.2.1; have q2 := hG.2.2; exact ⟨CellsE.below hb q0, keepBd hb q1, keepBelow hb q2⟩)
        clear hK K hH
        have hH := hH2
        clear hH2
        try simp only [Act.put, List.setIfInBounds_toArray, List.set_cons_zero, List.set_cons_succ]
        clear HBK
        refine U_take 10 91 21 0 0 (v := ?vr14_11) rfl (by kernel_rfl) (by kernel_rfl) hWr14 (by kernel_rfl) (by kernel_rfl) (by kernel_rfl) (by kernel_rfl) (by kernel_rfl) (by kernel_rfl) (fun _ _ _ _ h => h) (by kernel_rfl) ?hyr14_11 (by omega) hH ?_
        case hyr14_11 => (intro w' hSw; clear hSw; go_simp; try (with_reducible rfl))
        simp only [List.set_cons_zero, List.set_cons_succ]
        refine U_take 11 92 20 0 0 (v := ?vr14_12) rfl (by kernel_rfl) (by kernel_rfl) hWr14 (by kernel_rfl) (by kernel_rfl) (by kernel_rfl) (by kernel_rfl) (by kernel_rfl) (by kernel_rfl) (fun _ _ _ _ h => h) (by kernel_rfl) ?hyr14_12 (by omega) hH ?_
        case hyr14_12 => (intro w' hSw; clear hSw; go_simp; try (with_reducible rfl))
        simp only [List.set_cons_zero, List.set_cons_succ]
        refine U_take 12 93 19 0 0 (v := ?vr14_13) rfl (by kernel_rfl) (by kernel_rfl) hWr14 (by kernel_rfl) (by kernel_rfl) (by kernel_rfl) (by kernel_rfl) (by kernel_rfl) (by kernel_rfl) (fun _ _ _ _ h => h) (by kernel_rfl) ?hyr14_13 (by omega) hH ?_
        case hyr14_13 => (intro w' hSw; clear hSw; go_simp; try (with_reducible rfl))
        simp only [List.set_cons_zero, List.set_cons_succ]
        refine U_take 13 94 18 0 0 (v := ?vr14_14) rfl (by kernel_rfl) (by kernel_rfl) hWr14 (by kernel_rfl) (by kernel_rfl) (by kernel_rfl) (by kernel_rfl) (by kernel_rfl) (by kernel_rfl) (fun _ _ _ _ h => h) (by kernel_rfl) ?hyr14_14 (by omega) hH ?_
        case hyr14_14 => (intro w' hSw; clear hSw; go_simp; try (with_reducible rfl))
        simp only [List.set_cons_zero, List.set_cons_succ]
        refine U_take 14 95 17 0 0 (v := ?vr14_15) rfl (by kernel_rfl) (by kernel_rfl) hWr14 (by kernel_rfl) (by kernel_rfl) (by kernel_rfl) (by kernel_rfl) (by kernel_rfl) (by kernel_rfl) (fun _ _ _ _ h => h) (by kernel_rfl) ?hyr14_15 (by omega) hH ?_
        case hyr14_15 => (intro w' hSw; clear hSw; go_simp; try (with_reducible rfl))
        simp only [List.set_cons_zero, List.set_cons_succ]
        refine U_take 15 96 16 0 0 (v := ?vr14_16) rfl (by kernel_rfl) (by kernel_rfl) hWr14 (by kernel_rfl) (by kernel_rfl) (by kernel_rfl) (by kernel_rfl) (by kernel_rfl) (by kernel_rfl) (fun _ _ _ _ h => h) (by kernel_rfl) ?hyr14_16 (by omega) hH ?_
        case hyr14_16 => (intro w' hSw; clear hSw; go_simp; try (with_reducible rfl))
        simp only [List.set_cons_zero, List.set_cons_succ]
        refine U_take 16 97 15 0 0 (v := ?vr14_17) rfl (by kernel_rfl) (by kernel_rfl) hWr14 (by kernel_rfl) (by kernel_rfl) (by kernel_rfl) (by kernel_rfl) (by kernel_rfl) (by kernel_rfl) (fun _ _ _ _ h => h) (by kernel_rfl) ?hyr14_17 (by omega) hH ?_
        case hyr14_17 => (intro w' hSw; clear hSw; go_simp; try (with_reducible rfl))
        simp only [List.set_cons_zero, List.set_cons_succ]
        refine U_take 17 98 14 0 0 (v := ?vr14_18) rfl (by kernel_rfl) (by kernel_rfl) hWr14 (by kernel_rfl) (by kernel_rfl) (by kernel_rfl) (by kernel_rfl) (by kernel_rfl) (by kernel_rfl) (fun _ _ _ _ h => h) (by kernel_rfl) ?hyr14_18 (by omega) hH ?_
        case hyr14_18 => (intro w' hSw; replace hSw := S2o0 hSw; (try dsimp only at hSw); have q0 := hSw.1; have q1 := hSw.2.1; have q2 := hSw.2.2; obtain ⟨c0_0, c0_1, c0_2, c0_3, c0_4, c0_5, c0_6, c0_7, c0_8, c0_9, c0_10, c0_11, c0_12⟩ := HCY.out _ (q0); obtain ⟨qa1_0, qa1_1, qa1_2, qa1_3, qa1_4, qa1_5, qa1_6, qa1_7, qa1_8, qa1_9, qa1_10, qa1_11, qa1_12, qa1_f⟩ := id q1; go_simp; try (with_reducible rfl))
        simp only [List.set_cons_zero, List.set_cons_succ]
        refine U_take 18 99 13 0 0 (v := ?vr14_19) rfl (by kernel_rfl) (by kernel_rfl) hWr14 (by kernel_rfl) (by kernel_rfl) (by kernel_rfl) (by kernel_rfl) (by kernel_rfl) (by kernel_rfl) (fun _ _ _ _ h => h) (by kernel_rfl) ?hyr14_19 (by omega) hH ?_
        case hyr14_19 => (intro w' hSw; clear hSw; go_simp; try (with_reducible rfl))
        simp only [List.set_cons_zero, List.set_cons_succ]
        refine U_take 19 100 12 0 0 (v := ?vr14_20) rfl (by kernel_rfl) (by kernel_rfl) hWr14 (by kernel_rfl) (by kernel_rfl) (by kernel_rfl) (by kernel_rfl) (by kernel_rfl) (by kernel_rfl) (fun _ _ _ _ h => h) (by kernel_rfl) ?hyr14_20 (by omega) hH ?_
        case hyr14_20 => (intro w' hSw; replace hSw := S2o0 hSw; (try dsimp only at hSw); have q0 := hSw.1; have q1 := hSw.2.1; have q2 := hSw.2.2; obtain ⟨c0_0, c0_1, c0_2, c0_3, c0_4, c0_5, c0_6, c0_7, c0_8, c0_9, c0_10, c0_11, c0_12⟩ := HCY.out _ (q0); obtain ⟨qa1_0, qa1_1, qa1_2, qa1_3, qa1_4, qa1_5, qa1_6, qa1_7, qa1_8, qa1_9, qa1_10, qa1_11, qa1_12, qa1_f⟩ := id q1; go_simp; try (with_reducible rfl))
        simp only [List.set_cons_zero, List.set_cons_succ]
        refine U_take 20 101 11 0 0 (v := ?vr14_21) rfl (by kernel_rfl) (by kernel_rfl) hWr14 (by kernel_rfl) (by kernel_rfl) (by kernel_rfl) (by kernel_rfl) (by kernel_rfl) (by kernel_rfl) (fun _ _ _ _ h => h) (by kernel_rfl) ?hyr14_21 (by omega) hH ?_
        case hyr14_21 => (intro w' hSw; clear hSw; go_simp; try (with_reducible rfl))
        simp only [List.set_cons_zero, List.set_cons_succ]
        refine U_take 21 102 10 0 0 (v := ?vr14_22) rfl (by kernel_rfl) (by kernel_rfl) hWr14 (by kernel_rfl) (by kernel_rfl) (by kernel_rfl) (by kernel_rfl) (by kernel_rfl) (by kernel_rfl) (fun _ _ _ _ h => h) (by kernel_rfl) ?hyr14_22 (by omega) hH ?_
        case hyr14_22 => (intro w' hSw; clear hSw; go_simp; try (with_reducible rfl))
        simp only [List.set_cons_zero, List.set_cons_succ]
        refine U_take 22 103 9 0 0 (v := ?vr14_23) rfl (by kernel_rfl) (by kernel_rfl) hWr14 (by kernel_rfl) (by kernel_rfl) (by kernel_rfl) (by kernel_rfl) (by kernel_rfl) (by kernel_rfl) (fun _ _ _ _ h => h) (by kernel_rfl) ?hyr14_23 (by omega) hH ?_
        case hyr14_23 => (intro w' hSw; clear hSw; go_simp; try (with_reducible rfl))
        simp only [List.set_cons_zero, List.set_cons_succ]
        refine U_take 23 104 8 0 0 (v := ?vr14_24) rfl (by kernel_rfl) (by kernel_rfl) hWr14 (by kernel_rfl) (by kernel_rfl) (by kernel_rfl) (by kernel_rfl) (by kernel_rfl) (by kernel_rfl) (fun _ _ _ _ h => h) (by kernel_rfl) ?hyr14_24 (by omega) hH ?_
        case hyr14_24 => (intro w' hSw; clear hSw; go_simp; try (with_reducible rfl))
        simp only [List.set_cons_zero, List.set_cons_succ]
        refine U_take 24 105 7 0 0 (v := ?vr14_25) rfl (by kernel_rfl) (by kernel_rfl) hWr14 (by kernel_rfl) (by kernel_rfl) (by kernel_rfl) (by kernel_rfl) (by kernel_rfl) (by kernel_rfl) (fun _ _ _ _ h => h) (by kernel_rfl) ?hyr14_25 (by omega) hH ?_
        case hyr14_25 => (intro w' hSw; clear hSw; go_simp; try (with_reducible rfl))
        simp only [List.set_cons_zero, List.set_cons_succ]
        refine U_take 25 106 6 0 0 (v := ?vr14_26) rfl (by kernel_rfl) (by kernel_rfl) hWr14 (by kernel_rfl) (by kernel_rfl) (by kernel_rfl) (by kernel_rfl) (by kernel_rfl) (by kernel_rfl) (fun _ _ _ _ h => h) (by kernel_rfl) ?hyr14_26 (by omega) hH ?_
        case hyr14_26 => (intro w' hSw; clear hSw; go_simp; try (with_reducible rfl))
        simp only [List.set_cons_zero, List.set_cons_succ]
        refine U_take 26 107 5 0 0 (v := ?vr14_27) rfl (by kernel_rfl) (by kernel_rfl) hWr14 (by kernel_rfl) (by kernel_rfl) (by kernel_rfl) (by kernel_rfl) (by kernel_rfl) (by kernel_rfl) (fun _ _ _ _ h => h) (by kernel_rfl) ?hyr14_27 (by omega) hH ?_
        case hyr14_27 => (intro w' hSw; clear hSw; go_simp; try (with_reducible rfl))
        simp only [List.set_cons_zero, List.set_cons_succ]
        refine U_take 27 108 4 0 0 (v := ?vr14_28) rfl (by kernel_rfl) (by kernel_rfl) hWr14 (by kernel_rfl) (by kernel_rfl) (by kernel_rfl) (by kernel_rfl) (by kernel_rfl) (by kernel_rfl) (fun _ _ _ _ h => h) (by kernel_rfl) ?hyr14_28 (by omega) hH ?_
        case hyr14_28 => (intro w' hSw; replace hSw := S2o0 hSw; (try dsimp only at hSw); have q0 := hSw.1; have q1 := hSw.2.1; have q2 := hSw.2.2; obtain ⟨c0_0, c0_1, c0_2, c0_3, c0_4, c0_5, c0_6, c0_7, c0_8, c0_9, c0_10, c0_11, c0_12⟩ := HCY.out _ (q0); obtain ⟨qa1_0, qa1_1, qa1_2, qa1_3, qa1_4, qa1_5, qa1_6, qa1_7, qa1_8, qa1_9, qa1_10, qa1_11, qa1_12, qa1_f⟩ := id q1; go_simp; try (with_reducible rfl))
        simp only [List.set_cons_zero, List.set_cons_succ]
        refine U_take 28 109 3 0 0 (v := ?vr14_29) rfl (by kernel_rfl) (by kernel_rfl) hWr14 (by kernel_rfl) (by kernel_rfl) (by kernel_rfl) (by kernel_rfl) (by kernel_rfl) (by kernel_rfl) (fun _ _ _ _ h => h) (by kernel_rfl) ?hyr14_29 (by omega) hH ?_
        case hyr14_29 => (intro w' hSw; clear hSw; go_simp; try (with_reducible rfl))
        simp only [List.set_cons_zero, List.set_cons_succ]
        refine U_take 29 110 2 0 0 (v := ?vr14_30) rfl (by kernel_rfl) (by kernel_rfl) hWr14 (by kernel_rfl) (by kernel_rfl) (by kernel_rfl) (by kernel_rfl) (by kernel_rfl) (by kernel_rfl) (fun _ _ _ _ h => h) (by kernel_rfl) ?hyr14_30 (by omega) hH ?_
        case hyr14_30 => (intro w' hSw; replace hSw := S2o0 hSw; (try dsimp only at hSw); have q0 := hSw.1; have q1 := hSw.2.1; have q2 := hSw.2.2; obtain ⟨c0_0, c0_1, c0_2, c0_3, c0_4, c0_5, c0_6, c0_7, c0_8, c0_9, c0_10, c0_11, c0_12⟩ := HCY.out _ (q0); obtain ⟨qa1_0, qa1_1, qa1_2, qa1_3, qa1_4, qa1_5, qa1_6, qa1_7, qa1_8, qa1_9, qa1_10, qa1_11, qa1_12, qa1_f⟩ := id q1; go_simp; try (with_reducible rfl))
        simp only [List.set_cons_zero, List.set_cons_succ]
        refine U_take 30 111 1 0 0 (v := ?vr14_31) rfl (by kernel_rfl) (by kernel_rfl) hWr14 (by kernel_rfl) (by kernel_rfl) (by kernel_rfl) (by kernel_rfl) (by kernel_rfl) (by kernel_rfl) (fun _ _ _ _ h => h) (by kernel_rfl) ?hyr14_31 (by omega) hH ?_
        case hyr14_31 => (intro w' hSw; clear hSw; go_simp; try (with_reducible rfl))
        simp only [List.set_cons_zero, List.set_cons_succ]
        refine U_take 31 112 0 0 0 (v := ?vr14_32) rfl (by kernel_rfl) (by kernel_rfl) hWr14 (by kernel_rfl) (by kernel_rfl) (by kernel_rfl) (by kernel_rfl) (by kernel_rfl) (by kernel_rfl) (fun _ _ _ _ h => h) (by kernel_rfl) ?hyr14_32 (by omega) hH ?_
        case hyr14_32 => (intro w' hSw; clear hSw; go_simp; try (with_reducible rfl))
        simp only [List.set_cons_zero, List.set_cons_succ]
        refine wpAnyU_done (by kernel_rfl) ?_ _ _
        refine NoPanic.normal ?_
        clear hWr14
        replace hH := S2o0 hH
        (try dsimp only at hH)
        have t0 := hH.1
        have t1 := hH.2.1
        have t2 := hH.2.2
        have HBE := hid t2
        clear t0 t1 t2 hH
        try clear hb
        go_wp2
        go_roundw
        case rel => exact ⟨k + 1, by omega, by go_num, HBE.out⟩
        case measure => simp [intOf] <;> omega
      · have hzb : (x.b.mass == 0) = false := by simp [hz]
        have HCY : Hid (∀ w', CellsE layB w' b3 o3 L3 → w'.cell? ⟨b3, o3 + k * 13, none⟩ = some (.int .i64 x.b.px) ∧ w'.cell? ⟨b3, o3 + k * 13 + 1, none⟩ = some (.int .i64 x.b.py) ∧ w'.cell? ⟨b3, o3 + k * 13 + 2, none⟩ = some (.int .i64 y.b.vx) ∧ w'.cell? ⟨b3, o3 + k * 13 + 3, none⟩ = some (.int .i64 y.b.vy) ∧ w'.cell? ⟨b3, o3 + k * 13 + 4, none⟩ = some (.int .i64 x.b.ang) ∧ w'.cell? ⟨b3, o3 + k * 13 + 5, none⟩ = some (.int .i64 y.b.spin) ∧ w'.cell? ⟨b3, o3 + k * 13 + 6, none⟩ = some (.int .i64 y.b.mass) ∧ w'.cell? ⟨b3, o3 + k * 13 + 7, none⟩ = some (.int .i64 y.b.iner) ∧ w'.cell? ⟨b3, o3 + k * 13 + 8, none⟩ = some (.int .i64 y.b.bounce) ∧ w'.cell? ⟨b3, o3 + k * 13 + 9, none⟩ = some (.int .i64 y.b.rub) ∧ w'.cell? ⟨b3, o3 + k * 13 + 10, none⟩ = some (.slice y.A y.n y.c) ∧ w'.cell? ⟨b3, o3 + k * 13 + 11, none⟩ = some (.bool y.b.asleep) ∧ w'.cell? ⟨b3, o3 + k * 13 + 12, none⟩ = some (.int .i64 y.b.calm)) := fun w' h => by
          obtain ⟨c0, c1, c2, c3, c4, c5, c6, c7, c8, c9, c10, c11, c12⟩ := HC3b.out w' h
          have p1 : y.b.px = x.b.px := hlike.px
          have p2 : y.b.py = x.b.py := hlike.py
          have p3 : y.b.ang = x.b.ang := hlike.ang
          rw [p1] at c0
          rw [p2] at c1
          rw [p3] at c4
          exact ⟨c0, c1, c2, c3, c4, c5, c6, c7, c8, c9, c10, c11, c12⟩
        have HEP := run_eqVJ x.b.px x.b.py x.b.px x.b.py
        simp only [beq_self_eq_true, Bool.and_self] at HEP
        clear hz hlike hys hxs HC3b
        refine wp_region_noPanic ?_
        refine wp_region_U (S := (S2 (fun w' => CellsE layB w' b3 o3 L3 ∧ BdAt w' gb x.b x.A x.n x.c ∧ Below w6.heap.size w6 w'))) (T := (fun _ => 0)) (by kernel_rfl) (S2i0 ⟨CellsE.below (Below.refl _ _).drew HC3.out, HKB.out.drew, HBK0.out.drew⟩) (fun hH => ?_)
        have hWr15 : Weaker (S2 (fun w' => CellsE layB w' b3 o3 L3 ∧ BdAt w' gb x.b x.A x.n x.c ∧ Below w6.heap.size w6 w')) := weaker2 _
        refine U_take 0 81 31 0 0 (v := ?vr15_1) rfl (by kernel_rfl) (by kernel_rfl) hWr15 (by kernel_rfl) (by kernel_rfl) (by kernel_rfl) (by kernel_rfl) (by kernel_rfl) (by kernel_rfl) (fun _ _ _ _ h => h) (by kernel_rfl) ?hyr15_1 (by omega) hH ?_
        case hyr15_1 => (intro w' hSw; clear hSw; go_simp; try (with_reducible rfl))
        simp only [List.set_cons_zero, List.set_cons_succ]
        refine U_take 1 82 30 0 0 (v := ?vr15_2) rfl (by kernel_rfl) (by kernel_rfl) hWr15 (by kernel_rfl) (by kernel_rfl) (by kernel_rfl) (by kernel_rfl) (by kernel_rfl) (by kernel_rfl) (fun _ _ _ _ h => h) (by kernel_rfl) ?hyr15_2 (by omega) hH ?_
        case hyr15_2 => (intro w' hSw; replace hSw := S2o0 hSw; (try dsimp only at hSw); have q0 := hSw.1; have q1 := hSw.2.1; have q2 := hSw.2.2; obtain ⟨c0_0, c0_1, c0_2, c0_3, c0_4, c0_5, c0_6, c0_7, c0_8, c0_9, c0_10, c0_11, c0_12⟩ := HCY.out _ (q0); obtain ⟨qa1_0, qa1_1, qa1_2, qa1_3, qa1_4, qa1_5, qa1_6, qa1_7, qa1_8, qa1_9, qa1_10, qa1_11, qa1_12, qa1_f⟩ := id q1; go_simp; try (with_reducible rfl))
        simp only [List.set_cons_zero, List.set_cons_succ]
        refine U_take 2 83 29 0 0 (v := ?vr15_3) rfl (by kernel_rfl) (by kernel_rfl) hWr15 (by kernel_rfl) (by kernel_rfl) (by kernel_rfl) (by kernel_rfl) (by kernel_rfl) (by kernel_rfl) (fun _ _ _ _ h => h) (by kernel_rfl) ?hyr15_3 (by omega) hH ?_
        case hyr15_3 => (intro w' hSw; clear hSw; go_simp; try (with_reducible rfl))
        simp only [List.set_cons_zero, List.set_cons_succ]
        refine U_take 3 84 28 0 0 (v := ?vr15_4) rfl (by kernel_rfl) (by kernel_rfl) hWr15 (by kernel_rfl) (by kernel_rfl) (by kernel_rfl) (by kernel_rfl) (by kernel_rfl) (by kernel_rfl) (fun _ _ _ _ h => h) (by kernel_rfl) ?hyr15_4 (by omega) hH ?_
        case hyr15_4 => (intro w' hSw; clear hSw; go_simp; try (with_reducible rfl))
        simp only [List.set_cons_zero, List.set_cons_succ]
        refine U_skips (by kernel_rfl) (fun _ _ _ _ h => h) hWr15 0 0 (by omega) hH [(4, 85), (5, 86), (6, 87), (7, 88), (8, 89), (9, 90), (10, 91)] 21 _ _ _ (by kernel_rfl) (by kernel_rfl) ?_
        simp only [tsetUndef, List.set_cons_zero, List.set_cons_succ]
        refine U_take 11 92 20 0 0 (v := ?vr15_5) rfl (by kernel_rfl) (by kernel_rfl) hWr15 (by kernel_rfl) (by kernel_rfl) (by kernel_rfl) (by kernel_rfl) (by kernel_rfl) (by kernel_rfl) (fun _ _ _ _ h => h) (by kernel_rfl) ?hyr15_5 (by omega) hH ?_
        case hyr15_5 => (intro w' hSw; clear hSw; go_simp; try (with_reducible rfl))
        simp only [List.set_cons_zero, List.set_cons_succ]
        refine U_take 12 93 19 0 0 (v := ?vr15_6) rfl (by kernel_rfl) (by kernel_rfl) hWr15 (by kernel_rfl) (by kernel_rfl) (by kernel_rfl) (by kernel_rfl) (by kernel_rfl) (by kernel_rfl) (fun _ _ _ _ h => h) (by kernel_rfl) ?hyr15_6 (by omega) hH ?_
        case hyr15_6 => (intro w' hSw; clear hSw; go_simp; try (with_reducible rfl))
        simp only [List.set_cons_zero, List.set_cons_succ]
        refine U_take 13 94 18 0 0 (v := ?vr15_7) rfl (by kernel_rfl) (by kernel_rfl) hWr15 (by kernel_rfl) (by kernel_rfl) (by kernel_rfl) (by kernel_rfl) (by kernel_rfl) (by kernel_rfl) (fun _ _ _ _ h => h) (by kernel_rfl) ?hyr15_7 (by omega) hH ?_
        case hyr15_7 => (intro w' hSw; clear hSw; go_simp; try (with_reducible rfl))
        simp only [List.set_cons_zero, List.set_cons_succ]
        refine U_take 14 95 17 0 0 (v := ?vr15_8) rfl (by kernel_rfl) (by kernel_rfl) hWr15 (by kernel_rfl) (by kernel_rfl) (by kernel_rfl) (by kernel_rfl) (by kernel_rfl) (by kernel_rfl) (fun _ _ _ _ h => h) (by kernel_rfl) ?hyr15_8 (by omega) hH ?_
        case hyr15_8 => (intro w' hSw; clear hSw; go_simp; try (with_reducible rfl))
        simp only [List.set_cons_zero, List.set_cons_succ]
        refine U_take 15 96 16 0 0 (v := ?vr15_9) rfl (by kernel_rfl) (by kernel_rfl) hWr15 (by kernel_rfl) (by kernel_rfl) (by kernel_rfl) (by kernel_rfl) (by kernel_rfl) (by kernel_rfl) (fun _ _ _ _ h => h) (by kernel_rfl) ?hyr15_9 (by omega) hH ?_
        case hyr15_9 => (intro w' hSw; clear hSw; go_simp; try (with_reducible rfl))
        simp only [List.set_cons_zero, List.set_cons_succ]
        refine U_take 16 97 15 0 0 (v := ?vr15_10) rfl (by kernel_rfl) (by kernel_rfl) hWr15 (by kernel_rfl) (by kernel_rfl) (by kernel_rfl) (by kernel_rfl) (by kernel_rfl) (by kernel_rfl) (fun _ _ _ _ h => h) (by kernel_rfl) ?hyr15_10 (by omega) hH ?_
        case hyr15_10 => (intro w' hSw; clear hSw; go_simp; try (with_reducible rfl))
        simp only [List.set_cons_zero, List.set_cons_succ]
        refine U_take 17 98 14 0 0 (v := ?vr15_11) rfl (by kernel_rfl) (by kernel_rfl) hWr15 (by kernel_rfl) (by kernel_rfl) (by kernel_rfl) (by kernel_rfl) (by kernel_rfl) (by kernel_rfl) (fun _ _ _ _ h => h) (by kernel_rfl) ?hyr15_11 (by omega) hH ?_
        case hyr15_11 => (intro w' hSw; replace hSw := S2o0 hSw; (try dsimp only at hSw); have q0 := hSw.1; have q1 := hSw.2.1; have q2 := hSw.2.2; obtain ⟨c0_0, c0_1, c0_2, c0_3, c0_4, c0_5, c0_6, c0_7, c0_8, c0_9, c0_10, c0_11, c0_12⟩ := HCY.out _ (q0); obtain ⟨qa1_0, qa1_1, qa1_2, qa1_3, qa1_4, qa1_5, qa1_6, qa1_7, qa1_8, qa1_9, qa1_10, qa1_11, qa1_12, qa1_f⟩ := id q1; go_simp; try (with_reducible rfl))
        simp only [List.set_cons_zero, List.set_cons_succ]
        refine U_take 18 99 13 0 0 (v := ?vr15_12) rfl (by kernel_rfl) (by kernel_rfl) hWr15 (by kernel_rfl) (by kernel_rfl) (by kernel_rfl) (by kernel_rfl) (by kernel_rfl) (by kernel_rfl) (fun _ _ _ _ h => h) (by kernel_rfl) ?hyr15_12 (by omega) hH ?_
        case hyr15_12 => (intro w' hSw; clear hSw; go_simp; try (with_reducible rfl))
        simp only [List.set_cons_zero, List.set_cons_succ]
        refine U_take 19 100 12 0 0 (v := ?vr15_13) rfl (by kernel_rfl) (by kernel_rfl) hWr15 (by kernel_rfl) (by kernel_rfl) (by kernel_rfl) (by kernel_rfl) (by kernel_rfl) (by kernel_rfl) (fun _ _ _ _ h => h) (by kernel_rfl) ?hyr15_13 (by omega) hH ?_
        case hyr15_13 => (intro w' hSw; replace hSw := S2o0 hSw; (try dsimp only at hSw); have q0 := hSw.1; have q1 := hSw.2.1; have q2 := hSw.2.2; obtain ⟨c0_0, c0_1, c0_2, c0_3, c0_4, c0_5, c0_6, c0_7, c0_8, c0_9, c0_10, c0_11, c0_12⟩ := HCY.out _ (q0); obtain ⟨qa1_0, qa1_1, qa1_2, qa1_3, qa1_4, qa1_5, qa1_6, qa1_7, qa1_8, qa1_9, qa1_10, qa1_11, qa1_12, qa1_f⟩ := id q1; go_simp; try (with_reducible rfl))
        simp only [List.set_cons_zero, List.set_cons_succ]
        refine U_take 20 101 11 0 0 (v := ?vr15_14) rfl (by kernel_rfl) (by kernel_rfl) hWr15 (by kernel_rfl) (by kernel_rfl) (by kernel_rfl) (by kernel_rfl) (by kernel_rfl) (by kernel_rfl) (fun _ _ _ _ h => h) (by kernel_rfl) ?hyr15_14 (by omega) hH ?_
        case hyr15_14 => (intro w' hSw; clear hSw; go_simp; try (with_reducible rfl))
        simp only [List.set_cons_zero, List.set_cons_succ]
        refine U_take 21 102 10 0 0 (v := ?vr15_15) rfl (by kernel_rfl) (by kernel_rfl) hWr15 (by kernel_rfl) (by kernel_rfl) (by kernel_rfl) (by kernel_rfl) (by kernel_rfl) (by kernel_rfl) (fun _ _ _ _ h => h) (by kernel_rfl) ?hyr15_15 (by omega) hH ?_
        case hyr15_15 => (intro w' hSw; clear hSw; go_simp; try (with_reducible rfl))
        simp only [List.set_cons_zero, List.set_cons_succ]
        refine U_take 22 103 9 0 0 (v := ?vr15_16) rfl (by kernel_rfl) (by kernel_rfl) hWr15 (by kernel_rfl) (by kernel_rfl) (by kernel_rfl) (by kernel_rfl) (by kernel_rfl) (by kernel_rfl) (fun _ _ _ _ h => h) (by kernel_rfl) ?hyr15_16 (by omega) hH ?_
        case hyr15_16 => (intro w' hSw; clear hSw; go_simp; try (with_reducible rfl))
        simp only [List.set_cons_zero, List.set_cons_succ]
        refine U_take 23 104 8 0 0 (v := ?vr15_17) rfl (by kernel_rfl) (by kernel_rfl) hWr15 (by kernel_rfl) (by kernel_rfl) (by kernel_rfl) (by kernel_rfl) (by kernel_rfl) (by kernel_rfl) (fun _ _ _ _ h => h) (by kernel_rfl) ?hyr15_17 (by omega) hH ?_
        case hyr15_17 => (intro w' hSw; clear hSw; go_simp; try (with_reducible rfl))
        simp only [List.set_cons_zero, List.set_cons_succ]
        refine U_take 24 105 7 0 0 (v := ?vr15_18) rfl (by kernel_rfl) (by kernel_rfl) hWr15 (by kernel_rfl) (by kernel_rfl) (by kernel_rfl) (by kernel_rfl) (by kernel_rfl) (by kernel_rfl) (fun _ _ _ _ h => h) (by kernel_rfl) ?hyr15_18 (by omega) hH ?_
        case hyr15_18 => (intro w' hSw; clear hSw; go_simp; try (with_reducible rfl))
        simp only [List.set_cons_zero, List.set_cons_succ]
        refine U_take 25 106 6 0 0 (v := ?vr15_19) rfl (by kernel_rfl) (by kernel_rfl) hWr15 (by kernel_rfl) (by kernel_rfl) (by kernel_rfl) (by kernel_rfl) (by kernel_rfl) (by kernel_rfl) (fun _ _ _ _ h => h) (by kernel_rfl) ?hyr15_19 (by omega) hH ?_
        case hyr15_19 => (intro w' hSw; clear hSw; go_simp; try (with_reducible rfl))
        simp only [List.set_cons_zero, List.set_cons_succ]
        refine U_take 26 107 5 0 0 (v := ?vr15_20) rfl (by kernel_rfl) (by kernel_rfl) hWr15 (by kernel_rfl) (by kernel_rfl) (by kernel_rfl) (by kernel_rfl) (by kernel_rfl) (by kernel_rfl) (fun _ _ _ _ h => h) (by kernel_rfl) ?hyr15_20 (by omega) hH ?_
        case hyr15_20 => (intro w' hSw; clear hSw; go_simp; try (with_reducible rfl))
        simp only [List.set_cons_zero, List.set_cons_succ]
        refine U_take 27 108 4 0 0 (v := ?vr15_21) rfl (by kernel_rfl) (by kernel_rfl) hWr15 (by kernel_rfl) (by kernel_rfl) (by kernel_rfl) (by kernel_rfl) (by kernel_rfl) (by kernel_rfl) (fun _ _ _ _ h => h) (by kernel_rfl) ?hyr15_21 (by omega) hH ?_
        case hyr15_21 => (intro w' hSw; replace hSw := S2o0 hSw; (try dsimp only at hSw); have q0 := hSw.1; have q1 := hSw.2.1; have q2 := hSw.2.2; obtain ⟨c0_0, c0_1, c0_2, c0_3, c0_4, c0_5, c0_6, c0_7, c0_8, c0_9, c0_10, c0_11, c0_12⟩ := HCY.out _ (q0); obtain ⟨qa1_0, qa1_1, qa1_2, qa1_3, qa1_4, qa1_5, qa1_6, qa1_7, qa1_8, qa1_9, qa1_10, qa1_11, qa1_12, qa1_f⟩ := id q1; go_simp; try (with_reducible rfl))
        simp only [List.set_cons_zero, List.set_cons_succ]
        refine U_take 28 109 3 0 0 (v := ?vr15_22) rfl (by kernel_rfl) (by kernel_rfl) hWr15 (by kernel_rfl) (by kernel_rfl) (by kernel_rfl) (by kernel_rfl) (by kernel_rfl) (by kernel_rfl) (fun _ _ _ _ h => h) (by kernel_rfl) ?hyr15_22 (by omega) hH ?_
        case hyr15_22 => (intro w' hSw; clear hSw; go_simp; try (with_reducible rfl))
        simp only [List.set_cons_zero, List.set_cons_succ]
        refine U_take 29 110 2 0 0 (v := ?vr15_23) rfl (by kernel_rfl) (by kernel_rfl) hWr15 (by kernel_rfl) (by kernel_rfl) (by kernel_rfl) (by kernel_rfl) (by kernel_rfl) (by kernel_rfl) (fun _ _ _ _ h => h) (by kernel_rfl) ?hyr15_23 (by omega) hH ?_
        case hyr15_23 => (intro w' hSw; replace hSw := S2o0 hSw; (try dsimp only at hSw); have q0 := hSw.1; have q1 := hSw.2.1; have q2 := hSw.2.2; obtain ⟨c0_0, c0_1, c0_2, c0_3, c0_4, c0_5, c0_6, c0_7, c0_8, c0_9, c0_10, c0_11, c0_12⟩ := HCY.out _ (q0); obtain ⟨qa1_0, qa1_1, qa1_2, qa1_3, qa1_4, qa1_5, qa1_6, qa1_7, qa1_8, qa1_9, qa1_10, qa1_11, qa1_12, qa1_f⟩ := id q1; go_simp; try (with_reducible rfl))
        simp only [List.set_cons_zero, List.set_cons_succ]
        refine U_take 30 111 1 0 0 (v := ?vr15_24) rfl (by kernel_rfl) (by kernel_rfl) hWr15 (by kernel_rfl) (by kernel_rfl) (by kernel_rfl) (by kernel_rfl) (by kernel_rfl) (by kernel_rfl) (fun _ _ _ _ h => h) (by kernel_rfl) ?hyr15_24 (by omega) hH ?_
        case hyr15_24 => (intro w' hSw; clear hSw; go_simp; try (with_reducible rfl))
        simp only [List.set_cons_zero, List.set_cons_succ]
        refine U_take 31 112 0 0 0 (v := ?vr15_25) rfl (by kernel_rfl) (by kernel_rfl) hWr15 (by kernel_rfl) (by kernel_rfl) (by kernel_rfl) (by kernel_rfl) (by kernel_rfl) (by kernel_rfl) (fun _ _ _ _ h => h) (by kernel_rfl) ?hyr15_25 (by omega) hH ?_
        case hyr15_25 => (intro w' hSw; clear hSw; go_simp; try (with_reducible rfl))
        simp only [List.set_cons_zero, List.set_cons_succ]
        refine wpAnyU_done (by kernel_rfl) ?_ _ _
        refine NoPanic.normal ?_
        clear hWr15
        replace hH := S2o0 hH
        (try dsimp only at hH)
        have t0 := hH.1
        have t1 := hH.2.1
        have t2 := hH.2.2
        have HBE := hid t2
        clear t0 t1 t2 hH
        try clear hb
        go_wp2
        go_roundw
        case rel => exact ⟨k + 1, by omega, by go_num, HBE.out⟩
        case measure => simp [intOf] <;> omega
    · have hkn : k = L.length := by omega
      subst hkn
      have HG0 := hid (keepScAt hB HF0.out)
      have HG1 := hid (keepSlB hB HF1.out)
      have HG3 := hid (keepSlJ hB HF3.out)
      have HG4 := hid (keepBelow hB HF4.out)
      have hcj := HF3.out.cap
      have hbj := HF3.out.big
      clear HF0 HF1 HF3 HF4 HF5 HL3 HLL3 HFJ hB hlt hk
      obtain ⟨k0, k1, k2, k3, k4, k5, kf⟩ := HG0.out
      go_wp2
      go_loopw [117] (fun i wr => ∃ k : Nat, k ≤ J.length ∧ i = .int .i64 k ∧ Below wo.heap.size wo wr) (fun i _ => J.length - (intOf i).toNat)
      case atStart => exact ⟨0, Nat.zero_le _, rfl, Below.refl _ _⟩
      case round =>
        clear k0 k1 k2 k3 k4 k5 kf
        obtain ⟨k, hk, rfl, hB⟩ := hrel
        obtain ⟨wi, rfl⟩ : ∃ wi : World, wi = wr := ⟨_, rfl⟩
        by_cases hlt : k < J.length
        · have hBw : Below w.heap.size w wi := keepBelow hB HG4.out
          obtain ⟨bj, oj, hA, hCj⟩ := (HG3.out.below hB).at_ (by intro h; subst h; simp at hlt)
          subst hA
          obtain ⟨x, hx⟩ : ∃ x, x = J[k] := ⟨_, rfl⟩
          have hxm : x ∈ J := by rw [hx]; exact List.getElem_mem hlt
          obtain ⟨t0, t1, t2, t3, t4, t5, t6⟩ := cells_jt hCj hlt hx
          have hbj' := hCj.lt
          have hlt' : (k : Int) < (J.length : Int) := by omega
          have hkw : IntKind.i64.wrap ((k : Int) + 1) = (k : Int) + 1 := IntWalk.i64_in _ (by omega)
          obtain ⟨wj, hwj⟩ : ∃ wj, wj = wi.alloc (.cells #[.int .i64 x.a, .int .i64 x.b, .int .i64 x.p1, .int .i64 x.p2, .int .i64 x.q1, .int .i64 x.q2, .int .i64 x.len] 49) := ⟨_, rfl⟩
          obtain ⟨gx, hgx⟩ : ∃ gx, gx = wi.heap.size := ⟨_, rfl⟩
          have HJG := hid (show Jg wj gx x by rw [hwj, hgx]; exact ⟨by go_simp, by go_simp, by go_simp, by go_simp, by go_simp, by go_simp, by go_simp⟩)
          have hbw : Below wi.heap.size wi wj := by rw [hwj]; go_grown
          have hBj := hid (keepBelow hbw hB)
          have HS0 := hid (keepScAt hBj.out HG0.out)
          have HEC : Hid (∀ w', Below wo.heap.size wo w' → Calls Try.prog 21 #[.slice As L.length cs, jtV x] w' (Ret (endsV L x) w')) := fun w' hb => jends_calls As L.length cs L x w' (HG1.out.below hb)
          have HGC : Hid (∀ w', Below wo.heap.size wo w' → Calls Try.prog 22 #[.slice As L.length cs, jtV x] w' (Ret (gapV L x) w')) := fun w' hb => jgap_calls As L.length cs L x w' (HG1.out.below hb)
          obtain ⟨hl0, hl1⟩ := HLN.out x hxm
          obtain ⟨e1, he1⟩ : ∃ z, z = wX (bdOf L x.a) x.p1 x.p2 := ⟨_, rfl⟩
          obtain ⟨e2, he2⟩ : ∃ z, z = wY (bdOf L x.a) x.p1 x.p2 := ⟨_, rfl⟩
          obtain ⟨e3, he3⟩ : ∃ z, z = wX (bdOf L x.b) x.q1 x.q2 := ⟨_, rfl⟩
          obtain ⟨e4, he4⟩ : ∃ z, z = wY (bdOf L x.b) x.q1 x.q2 := ⟨_, rfl⟩
          have h1 : endsV L x = .tuple #[vecV e1 e2, vecV e3 e4, .int .i64 0] := by unfold endsV; rw [if_neg (by rw [HJS.out x hxm]; simp), ← he1, ← he2, ← he3, ← he4]
          obtain ⟨d1, hd1⟩ : ∃ z, z = subF e1 e3 := ⟨_, rfl⟩
          obtain ⟨d2, hd2⟩ : ∃ z, z = subF e2 e4 := ⟨_, rfl⟩
          have HSUB := hid (vsub_calls e1 e2 e3 e4)
          rw [← hd1, ← hd2] at HSUB
          obtain ⟨lz, hlz⟩ : ∃ z, z = lenV d1 d2 := ⟨_, rfl⟩
          have HLE2 : Hid (∀ w', Calls Try.prog 24 #[vecV d1 d2] w' (Ret (.int .i64 lz) w')) := fun w' => by have := vlen_calls d1 d2 w'; rw [hlz]; exact this
          have hlzb : -1099511627776 ≤ lz ∧ lz ≤ 1099511627776 := by rw [hlz]; exact clampF_bd _
          obtain ⟨gz, hgz⟩ : ∃ z, z = absZ (lz - x.len) := ⟨_, rfl⟩
          have h2 : gapV L x = .tuple #[.int .i64 gz, .int .i64 0] := by unfold gapV gapZ; rw [if_neg (by rw [HJS.out x hxm]; simp), ← he1, ← he2, ← he3, ← he4, lenV_swap e3 e4 e1 e2, ← hd1, ← hd2, ← hlz, ← hgz]
          have hwl : IntKind.i64.wrap (lz - x.len) = lz - x.len := IntWalk.i64_in _ (by omega)
          have hwn : IntKind.i64.wrap (-(lz - x.len)) = -(lz - x.len) := IntWalk.i64_in _ (by omega)
          have hmx : max (lz - x.len) (-(lz - x.len)) = gz := by rw [hgz]; unfold absZ; split <;> omega
          rw [h1] at HEC
          rw [h2] at HGC
          clear h1 h2 he1 he2 he3 he4 hd1 hd2 hlz hlzb hgz hCj hx hxm hB hbw hBw
          go_upto_region 19 with fail
          rw [← hwj, ← hgx]
          clear hwj hgx t0 t1 t2 t3 t4 t5 t6 hbj'
          obtain ⟨j0, j1, j2, j3, j4, j5, j6⟩ := HJG.out
          obtain ⟨k0, k1, k2, k3, k4, k5, kf⟩ := HS0.out
          go_wp2_with fail
          refine (HEC.out _ hBj.out).mono ?_
          rintro e w4 ⟨rfl, hb4⟩
          have hB4 := keepBelow hb4 hBj.out
          replace HJG := hid (keepJg hb4 HJG.out)
          replace HS0 := hid (keepScAt hb4 HS0.out)
          obtain ⟨gp, hgp⟩ : ∃ gp, gp = w4.heap.size := ⟨_, rfl⟩
          obtain ⟨w5', hw5⟩ : ∃ w5', w5' = (w4.alloc (.cells #[.int .i64 e1, .int .i64 e2] 24)).alloc (.cells #[.int .i64 e3, .int .i64 e4] 24) := ⟨_, rfl⟩
          have hb5 : Below w4.heap.size w4 w5' := by rw [hw5]; go_grown
          have HVP := hid (show Vg w5' gp e1 e2 by rw [hw5, hgp]; exact ⟨by go_simp, by go_simp⟩)
          have HVQ := hid (show Vg w5' (gp + 1) e3 e4 by rw [hw5, hgp]; exact ⟨by go_simp, by go_simp⟩)
          have hB5 := keepBelow hb5 hB4
          replace HJG := hid (keepJg hb5 HJG.out)
          replace HS0 := hid (keepScAt hb5 HS0.out)
          clear hb4 hB4 hb5 hBj j0 j1 j2 j3 j4 j5 j6 k0 k1 k2 k3 k4 k5 kf
          go_upto_region 20 with fail
          rw [← hw5, ← hgp]
          clear hw5 hgp
          obtain ⟨j0, j1, j2, j3, j4, j5, j6⟩ := HJG.out
          obtain ⟨k0, k1, k2, k3, k4, k5, kf⟩ := HS0.out
          go_wp2_with fail
          refine (HGC.out _ hB5).mono ?_
          rintro e wz ⟨rfl, hb6⟩
          have HBW0 := hid (keepBelow hb6 hB5)
          have HVP0 := hid (keepVg hb6 HVP.out)
          have HVQ0 := hid (keepVg hb6 HVQ.out)
          have HJG0 := hid (keepJg hb6 HJG.out)
          clear hb6 hB5 HVP HVQ HJG HS0 j0 j1 j2 j3 j4 j5 j6 k0 k1 k2 k3 k4 k5 kf HEC HGC
          go_upto_region 21 with fail
          refine wp_region_noPanic ?_
          refine wp_region_U (S := (S2 (fun w' => Jg w' gx x ∧ Vg w' gp e1 e2 ∧ Vg w' (gp + 1) e3 e4 ∧ Below wo.heap.size wo w'))) (T := (fun _ => 0)) (by kernel_rfl) (S2i0 ⟨HJG0.out.drew, HVP0.out.drew, HVQ0.out.drew, HBW0.out.drew⟩) (fun hH => ?_)
          have hWr13 : Weaker (S2 (fun w' => Jg w' gx x ∧ Vg w' gp e1 e2 ∧ Vg w' (gp + 1) e3 e4 ∧ Below wo.heap.size wo w')) := weaker2 _
          refine U_take 0 136 7 0 0 (v := ?vr13_1) rfl (by kernel_rfl) (by kernel_rfl) hWr13 (by kernel_rfl) (by kernel_rfl) (by kernel_rfl) (by kernel_rfl) (by kernel_rfl) (by kernel_rfl) (fun _ _ _ _ h => h) (by kernel_rfl) ?hyr13_1 (by omega) hH ?_
          case hyr13_1 => (intro w' hSw; replace hSw := S2o0 hSw; (try dsimp only at hSw); have q0 := hSw.1; have q1 := hSw.2.1; have q2 := hSw.2.2.1; have q3 := hSw.2.2.2; obtain ⟨qa0_0, qa0_1, qa0_2, qa0_3, qa0_4, qa0_5, qa0_6⟩ := id q0; obtain ⟨qa1_0, qa1_1⟩ := id q1; obtain ⟨qa2_0, qa2_1⟩ := id q2; go_simp; try (with_reducible rfl))
          simp only [List.set_cons_zero, List.set_cons_succ]
          refine U_take 1 137 6 0 0 (v := ?vr13_2) rfl (by kernel_rfl) (by kernel_rfl) hWr13 (by kernel_rfl) (by kernel_rfl) (by kernel_rfl) (by kernel_rfl) (by kernel_rfl) (by kernel_rfl) (fun _ _ _ _ h => h) (by kernel_rfl) ?hyr13_2 (by omega) hH ?_
          case hyr13_2 => (intro w' hSw; replace hSw := S2o0 hSw; (try dsimp only at hSw); have q0 := hSw.1; have q1 := hSw.2.1; have q2 := hSw.2.2.1; have q3 := hSw.2.2.2; obtain ⟨qa0_0, qa0_1, qa0_2, qa0_3, qa0_4, qa0_5, qa0_6⟩ := id q0; obtain ⟨qa1_0, qa1_1⟩ := id q1; obtain ⟨qa2_0, qa2_1⟩ := id q2; go_simp; try (with_reducible rfl))
          simp only [List.set_cons_zero, List.set_cons_succ]
          refine U_take 4 140 5 0 0 (v := ?vr13_3) rfl (by kernel_rfl) (by kernel_rfl) hWr13 (by kernel_rfl) (by kernel_rfl) (by kernel_rfl) (by kernel_rfl) (by kernel_rfl) (by kernel_rfl) (fun _ _ _ _ h => h) (by kernel_rfl) ?hyr13_3 (by omega) hH ?_
          case hyr13_3 => (intro w' hSw; clear hSw; go_simp; try (with_reducible rfl))
          simp only [List.set_cons_zero, List.set_cons_succ]
          refine U_take 5 141 4 0 0 (v := ?vr13_4) rfl (by kernel_rfl) (by kernel_rfl) hWr13 (by kernel_rfl) (by kernel_rfl) (by kernel_rfl) (by kernel_rfl) (by kernel_rfl) (by kernel_rfl) (fun _ _ _ _ h => h) (by kernel_rfl) ?hyr13_4 (by omega) hH ?_
          case hyr13_4 => (intro w' hSw; replace hSw := S2o0 hSw; (try dsimp only at hSw); have q0 := hSw.1; have q1 := hSw.2.1; have q2 := hSw.2.2.1; have q3 := hSw.2.2.2; obtain ⟨qa0_0, qa0_1, qa0_2, qa0_3, qa0_4, qa0_5, qa0_6⟩ := id q0; obtain ⟨qa1_0, qa1_1⟩ := id q1; obtain ⟨qa2_0, qa2_1⟩ := id q2; go_simp; try (with_reducible rfl))
          simp only [List.set_cons_zero, List.set_cons_succ]
          refine wpAnyU_ready (rs := [2]) (by kernel_rfl) (by simp) ?_
          refine AllReadyU.cons 0 (by kernel_rfl) (o := _) rfl (fun K hK => ?_) AllReadyU.nil
          try clear hb
          go_simp
          (go_at_call 25; refine (HSUB.out _).mono ?_; rintro e wn ⟨rfl, hb⟩)
          refine hK.out _ _ ?hsr13_5 (fun hH2 => ?hrr13_5)
          case hsr13_5 => exact S2i0 (by have hG := hH; replace hG := S2o0 hG; (try dsimp only at hG); have q0 := hG.1; have q1 := hG.2.1; have q2 := hG.2.2.1; have q3 := hG.2.2.2; exact ⟨keepJg hb q0, keepVg hb q1, keepVg hb q2, keepBelow hb q3⟩)
          clear hK K hH
          have hH := hH2
          clear hH2
          try simp only [Act.put, List.setIfInBounds_toArray, List.set_cons_zero, List.set_cons_succ]
          refine wpAnyU_ready (rs := [3]) (by kernel_rfl) (by simp) ?_
          refine AllReadyU.cons 0 (by kernel_rfl) (o := _) rfl (fun K hK => ?_) AllReadyU.nil
          try clear hb
          go_simp
          (go_at_call 24; refine (HLE2.out _).mono ?_; rintro e wn ⟨rfl, hb⟩)
          refine hK.out _ _ ?hsr13_6 (fun hH2 => ?hrr13_6)
          case hsr13_6 => exact S2i0 (by have hG := hH; replace hG := S2o0 hG; (try dsimp only at hG); have q0 := hG.1; have q1 := hG.2.1; have q2 := hG.2.2.1; have q3 := hG.2.2.2; exact ⟨keepJg hb q0, keepVg hb q1, keepVg hb q2, keepBelow hb q3⟩)
          clear hK K hH
          have hH := hH2
          clear hH2
          try simp only [Act.put, List.setIfInBounds_toArray, List.set_cons_zero, List.set_cons_succ]
          refine U_take 6 142 1 0 0 (v := ?vr13_7) rfl (by kernel_rfl) (by kernel_rfl) hWr13 (by kernel_rfl) (by kernel_rfl) (by kernel_rfl) (by kernel_rfl) (by kernel_rfl) (by kernel_rfl) (fun _ _ _ _ h => h) (by kernel_rfl) ?hyr13_7 (by omega) hH ?_
          case hyr13_7 => (intro w' hSw; clear hSw; go_simp; try (with_reducible rfl))
          simp only [List.set_cons_zero, List.set_cons_succ]
          refine U_take 7 19 0 0 0 (v := ?vr13_8) rfl (by kernel_rfl) (by kernel_rfl) hWr13 (by kernel_rfl) (by kernel_rfl) (by kernel_rfl) (by kernel_rfl) (by kernel_rfl) (by kernel_rfl) (fun _ _ _ _ h => h) (by kernel_rfl) ?hyr13_8 (by omega) hH ?_
          case hyr13_8 => (intro w' hSw; clear hSw; go_simp; try (with_reducible rfl))
          simp only [List.set_cons_zero, List.set_cons_succ]
          refine wpAnyU_done (by kernel_rfl) ?_ _ _
          refine NoPanic.normal ?_
          clear hWr13
          replace hH := S2o0 hH
          (try dsimp only at hH)
          have t0 := hH.1
          have t1 := hH.2.1
          have t2 := hH.2.2.1
          have t3 := hH.2.2.2
          have HBE := hid t3
          clear t0 t1 t2 t3 hH
          try clear hb
          go_wp2
          go_roundw
          case rel => exact ⟨k + 1, by omega, by go_num, HBE.out⟩
          case measure => simp [intOf] <;> omega
        · have hkn : k = J.length := by omega
          subst hkn
          have hB9 := keepBelow hB HG4.out
          go_wp2
          go_returns
          exact ret_bool (by simp) hB9
end
end Go.Proofs.Ytbajmekmpgfpeaa
