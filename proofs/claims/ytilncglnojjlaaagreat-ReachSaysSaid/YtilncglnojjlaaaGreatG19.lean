/- Parts of a proof: contracts and laws. -/
import Derived.Test.YtilncglnojjlaaaGreatG18
import Derived.Test.YtilncglnojjlaaaGreatG04
namespace Go.Proofs.YtilncglnojjlaaaGreat
section
set_option linter.unusedVariables false
set_option linter.unusedSimpArgs false
open Go.RowKit

def axN1 (l m : List V) (s : Option Ax) : Int := match s with | none => 0 | some a => if a.1 = true then -nrmX m a.2.1 else nrmX l a.2.1
def axN2 (l m : List V) (s : Option Ax) : Int := match s with | none => 0 | some a => if a.1 = true then -nrmY m a.2.1 else nrmY l a.2.1
def tstX (l m : List V) : Int := if meetsB l m = true then unitX (axN1 l m (leastO l m)) (axN2 l m (leastO l m)) else 0
def tstY (l m : List V) : Int := if meetsB l m = true then unitY (axN1 l m (leastO l m)) (axN2 l m (leastO l m)) else 0
def tstD (l m : List V) : Int := axD (leastO l m)
theorem axUp_some (s : Option Ax) (sec : Bool) (i : Nat) (d : Int) : ∃ a, axUp s sec i d = some a ∧ (a = (sec, i, d) ∨ s = some a) := by
 cases s with
 | none => exact ⟨_, rfl, .inl rfl⟩
 | some a =>
  unfold axUp
  dsimp only
  split
  ·exact ⟨_, rfl, .inl rfl⟩
  ·exact ⟨_, rfl, .inr rfl⟩
theorem axTo_some (l m : List V) (sec : Bool) (s : Option Ax) : ∀ k, 0 < k → ∃ a, axTo l m sec s k = some a ∧ ((a.1 = sec ∧ a.2.1 < k) ∨ s = some a)
 | 0, h => absurd h (by omega)
 | k + 1, _ => by
  rw [axTo]
  obtain ⟨a, h1, h2⟩ := axUp_some (axTo l m sec s k) sec k (depZ l m k)
  refine ⟨a, h1, ?_⟩
  rcases h2 with rfl | h2
  ·exact .inl ⟨rfl, by simp⟩
  ·rcases Nat.eq_zero_or_pos k with rfl | hk
   ·exact .inr h2
   ·obtain ⟨a', h3, h4⟩ := axTo_some l m sec s k hk
    rw [h2] at h3
    cases h3
    rcases h4 with ⟨g1, g2⟩ | h4
    ·exact .inl ⟨g1, by omega⟩
    ·exact .inr h4
theorem least_some {l m : List V} (h : meetsB l m = true) : ∃ s e d, leastO l m = some (s, e, d) ∧ (s = true → e < m.length) ∧ (s = false → e < l.length) := by
 have h0 := h
 unfold meetsB at h0
 rw [decide_eq_true_iff] at h0
 have hE := h0.1
 obtain ⟨hc1, hc2⟩ : checkE l = 0 ∧ checkE m = 0 := by unfold bothE at hE; split at hE <;> omega
 obtain ⟨-, l3, -⟩ := checkE_zero hc1
 obtain ⟨-, m3, -⟩ := checkE_zero hc2
 unfold leastO
 rw [if_pos h, show stL l m 2 = axTo m l true (axTo l m false none l.length) m.length from by simp [stL]]
 obtain ⟨a, h1, h2⟩ := axTo_some m l true (axTo l m false none l.length) m.length (by omega)
 obtain ⟨b, h3, h4⟩ := axTo_some l m false none l.length (by omega)
 refine ⟨a.1, a.2.1, a.2.2, h1, ?_⟩
 rcases h2 with ⟨g1, g2⟩ | h2
 ·exact ⟨fun _ => g2, fun g => by rw [g] at g1; cases g1⟩
 ·rw [h3] at h2
  cases h2
  rcases h4 with ⟨g1, g2⟩ | h4
  ·exact ⟨fun g => (by rw [g] at g1; cases g1), fun _ => g2⟩
  ·cases h4
theorem AxAt.here' (w : World) (s : Bool) (e : Nat) (d : Int) (t : TypeId) : AxAt (w.alloc (.cells #[.bool s, .int .i64 e, .int .i64 d] t)) w.heap.size (some (s, e, d)) := ⟨by go_simp; rfl, by go_simp; rfl, by go_simp; rfl, fun j => by go_simp⟩
theorem AxAt.drew {w : World} {g : Nat} {s : Option Ax} (h : AxAt w g s) : AxAt w.drew g s := ⟨h.c0, h.c1, h.c2, h.free⟩
set_option maxRecDepth 100000 in
set_option maxHeartbeats 4000000 in
theorem test_calls (A B : Option Addr) (n c n' c' : Nat) (l m : List V) (w : World) (hS : Sl w A n c l) (hM : Sl w B n' c' m) :
  Calls Tryz.prog 48 #[.slice A n c, .slice B n' c'] w (Ret (.tuple #[.bool (meetsB l m), .int .i64 (tstD l m), vecV (tstX l m) (tstY l m)]) w) := by
 have HS := hid hS
 have HM := hid hM
 have hn := hS.len
 have hn' := hM.len
 subst hn hn'
 clear hS hM
 obtain ⟨W, hW⟩ : ∃ W, W = w.alloc (.cells #[.int .i64 0, .int .i64 0] 23) := ⟨_, rfl⟩
 have HZ0 := hid (show VZ W w.heap.size by rw [hW]; exact VZ.here w 0 0 _)
 have hB0 : Below w.heap.size w W := by rw [hW]; go_grown
 go_enter Tryz.func48, Tryz.ntmps48
 go_wp2_with fail
 rw [← hW]
 clear hW
 refine (least_calls A B l.length c m.length c' l m _ (HS.out.below hB0) (HM.out.below hB0)).mono ?_
 rintro e w1 ⟨rfl, hb1⟩
 have HZ1 := hid (keepVZ hb1 HZ0.out)
 have hB1 := keepBelow hb1 hB0
 clear HZ0 hB0 hb1
 by_cases hm : meetsB l m = true
 ·obtain ⟨s, e0, d0, hO, hs1, hs2⟩ := least_some hm
  have HR : Hid (meetsB l m = true ∧ tstD l m = d0 ∧ tstX l m = unitX (axN1 l m (some (s, e0, d0))) (axN2 l m (some (s, e0, d0))) ∧ tstY l m = unitY (axN1 l m (some (s, e0, d0))) (axN2 l m (some (s, e0, d0)))) := ⟨hm, by unfold tstD; rw [hO]; rfl, by unfold tstX; rw [if_pos hm, hO], by unfold tstY; rw [if_pos hm, hO]⟩
  have hE : bothE l m = 0 := by unfold meetsB at hm; rw [decide_eq_true_iff] at hm; exact hm.1
  obtain ⟨hc1, hc2⟩ : checkE l = 0 ∧ checkE m = 0 := by unfold bothE at hE; split at hE <;> omega
  obtain ⟨hl8, hl3, hlw, -⟩ := checkE_zero hc1
  obtain ⟨hm8, hm3, hmw, -⟩ := checkE_zero hc2
  have HLW := hid hlw
  have HMW := hid hmw
  have HEL := hid hs2
  have HEM := hid hs1
  rw [hO, hE, hm]
  clear hm hO hE hs1 hs2 hc1 hc2 hlw hmw
  simp only [axV, axS, axE, axD]
  go_upto_region 4 with fail
  obtain ⟨gx, hgx⟩ : ∃ g, g = w1.heap.size := ⟨_, rfl⟩
  obtain ⟨w2, hw2⟩ : ∃ w2, w2 = w1.alloc (.cells #[.bool s, .int .i64 e0, .int .i64 d0] 57) := ⟨_, rfl⟩
  have hx : AxAt w2 gx (some (s, e0, d0)) := by rw [hw2, hgx]; exact AxAt.here' _ _ _ _ _
  have hz : VZ w2 w.heap.size := by rw [hw2]; exact HZ1.out.alloc _
  have hB : Below w.heap.size w w2 := by rw [hw2]; exact hB1.alloc hB1.size _
  have hgl : w.heap.size < gx := by rw [hgx]; exact HZ1.out.lt
  rw [← hw2, ← hgx]
  clear hw2 hgx HZ1 hB1
  cases s with
  | true =>
   have hem := HEM.out rfl
   obtain ⟨bn1, bn2⟩ := nrm_bd HMW.out hem
   have HNM := hid (normal_calls B m.length c' m e0 w2 (HM.out.below hB) HMW.out hm3 hm8 hem)
   have hr1 : axN1 l m (some (true, e0, d0)) = -nrmX m e0 := rfl
   have hr2 : axN2 l m (some (true, e0, d0)) = -nrmY m e0 := rfl
   rw [hr1, hr2] at HR
   obtain ⟨n1, hn1⟩ : ∃ z, z = nrmX m e0 := ⟨_, rfl⟩
   obtain ⟨n2, hn2⟩ : ∃ z, z = nrmY m e0 := ⟨_, rfl⟩
   rw [← hn1] at bn1 HNM HR
   rw [← hn2] at bn2 HNM HR
   have v1 : IntKind.i64.wrap (-n1) = -n1 := IntWalk.i64_in _ (by omega)
   have v2 : IntKind.i64.wrap (-n2) = -n2 := IntWalk.i64_in _ (by omega)
   have HX := hid hx
   obtain ⟨x0, x1, x2, xf⟩ := hx
   dsimp only [axS, axE, axD] at x0 x1 x2
   clear hr1 hr2 hn1 hn2
   go_wp2_with fail
   refine HNM.out.mono ?_
   rintro e w3 ⟨rfl, hb3⟩
   obtain ⟨gn, hgn⟩ : ∃ g, g = w3.heap.size := ⟨_, rfl⟩
   obtain ⟨w4, hw4⟩ : ∃ w4, w4 = w3.alloc (.cells #[.int .i64 n1, .int .i64 n2] 23) := ⟨_, rfl⟩
   have r1 : w4.cell? ⟨gn, 0, none⟩ = some (.int .i64 n1) := by rw [hw4, hgn]; go_simp
   have r2 : w4.cell? ⟨gn, 1, none⟩ = some (.int .i64 n2) := by rw [hw4, hgn]; go_simp
   replace hz : VZ w4 w.heap.size := by rw [hw4]; exact (keepVZ hb3 hz).alloc _
   have hx : AxAt w4 gx (some (true, e0, d0)) := by rw [hw4]; exact keepAx ((Below.refl _ _).alloc (Nat.le_refl _) _) (keepAx hb3 HX.out)
   replace hB : Below w.heap.size w w4 := by rw [hw4]; exact (keepBelow hb3 hB).alloc (keepBelow hb3 hB).size _
   clear x0 x1 x2 xf HX HNM
   go_upto_region 6 with fail
   rw [← hw4, ← hgn]
   clear hw4 hgn hb3
   clear hgl HS HM HLW HMW HEL HEM
   refine wp_region_noPanic ?_
   refine wp_region_U (S := (S2 (fun w' => VZ w' w.heap.size ∧ AxAt w' gx (some (true, e0, d0)) ∧ Below w.heap.size w w' ∧ w'.cell? ⟨gn, 0, none⟩ = some (.int .i64 n1) ∧ w'.cell? ⟨gn, 1, none⟩ = some (.int .i64 n2)))) (T := (fun j => [0, 0, 0, 0, 0, 0, 0, 0, 0, 0, 0, 0, 1].getD j 0)) (by kernel_rfl) (S2i0 ⟨hz.drew, hx.drew, hB.drew, r1, r2⟩) (fun hH => ?_)
   have hWr1 : Weaker (S2 (fun w' => VZ w' w.heap.size ∧ AxAt w' gx (some (true, e0, d0)) ∧ Below w.heap.size w w' ∧ w'.cell? ⟨gn, 0, none⟩ = some (.int .i64 n1) ∧ w'.cell? ⟨gn, 1, none⟩ = some (.int .i64 n2))) := weaker2 _
   refine Ut 0 31 12 0 0 (v := ?vr1_1) rfl hWr1 hH ?hyr1_1 ?_
   case hyr1_1 => (intro w' hSw; clear hSw; go_simp; try (with_reducible rfl))
   simp only [sB, sC]
   refine Ut 1 32 11 0 0 (v := ?vr1_2) rfl hWr1 hH ?hyr1_2 ?_
   case hyr1_2 => (intro w' hSw; replace hSw := S2o0 hSw; (try dsimp only at hSw); have q0 := hSw.1; have q1 := hSw.2.1; have q2 := hSw.2.2.1; have q3 := hSw.2.2.2.1; have q4 := hSw.2.2.2.2; obtain ⟨qa1_0, qa1_1, qa1_2, qa1_f⟩ := id q1; go_simp; try (with_reducible rfl))
   simp only [sB, sC]
   refine Ut 2 33 10 0 0 (v := ?vr1_3) rfl hWr1 hH ?hyr1_3 ?_
   case hyr1_3 => (intro w' hSw; clear hSw; go_simp; try (with_reducible rfl))
   simp only [sB, sC]
   refine Ut 3 34 9 0 0 (v := ?vr1_4) rfl hWr1 hH ?hyr1_4 ?_
   case hyr1_4 => (intro w' hSw; replace hSw := S2o0 hSw; (try dsimp only at hSw); have q0 := hSw.1; have q1 := hSw.2.1; have q2 := hSw.2.2.1; have q3 := hSw.2.2.2.1; have q4 := hSw.2.2.2.2; obtain ⟨qa1_0, qa1_1, qa1_2, qa1_f⟩ := id q1; go_simp; try (with_reducible rfl))
   simp only [sB, sC]
   refine Ut 4 35 8 0 0 (v := ?vr1_5) rfl hWr1 hH ?hyr1_5 ?_
   case hyr1_5 => (intro w' hSw; clear hSw; go_simp; try (with_reducible rfl))
   simp only [sB, sC]
   refine Ut 5 36 7 0 0 (v := ?vr1_6) rfl hWr1 hH ?hyr1_6 ?_
   case hyr1_6 => (intro w' hSw; clear hSw; go_simp; try (with_reducible rfl))
   simp only [sB, sC]
   refine Ut 6 37 6 0 0 (v := ?vr1_7) rfl hWr1 hH ?hyr1_7 ?_
   case hyr1_7 => (intro w' hSw; replace hSw := S2o0 hSw; (try dsimp only at hSw); have q0 := hSw.1; have q1 := hSw.2.1; have q2 := hSw.2.2.1; have q3 := hSw.2.2.2.1; have q4 := hSw.2.2.2.2; obtain ⟨qa1_0, qa1_1, qa1_2, qa1_f⟩ := id q1; go_simp; try (with_reducible rfl))
   simp only [sB, sC]
   refine Ut 7 38 5 0 0 (v := ?vr1_8) rfl hWr1 hH ?hyr1_8 ?_
   case hyr1_8 => (intro w' hSw; clear hSw; go_simp; try (with_reducible rfl))
   simp only [sB, sC]
   refine Ut 8 39 4 0 0 (v := ?vr1_9) rfl hWr1 hH ?hyr1_9 ?_
   case hyr1_9 => (intro w' hSw; clear hSw; go_simp; try (with_reducible rfl))
   simp only [sB, sC]
   refine U1 9 0 rfl (fun K hK => ?_)
   try clear hb
   go_simp
   (go_at_call 88; refine (unit_calls (-n1) (-n2) _).mono ?_; rintro e wn ⟨rfl, hb⟩)
   refine hK.out _ _ ?hsr1_10 (fun hH2 => ?hrr1_10)
   case hsr1_10 => exact S2i0 (by have hG := hH; replace hG := S2o0 hG; (try dsimp only at hG); have q0 := hG.1; have q1 := hG.2.1; have q2 := hG.2.2.1; have q3 := hG.2.2.2.1; have q4 := hG.2.2.2.2; exact ⟨keepVZ hb q0, keepAx hb q1, keepBelow hb q2, keepCell hb q3, keepCell hb q4⟩)
   clear hK K hH
   have hH := hH2
   clear hH2
   try simp only [Act.put, sA, sB, sC]
   refine Ut 10 4 2 0 0 (v := ?vr1_11) rfl hWr1 hH ?hyr1_11 ?_
   case hyr1_11 => (intro w' hSw; clear hSw; go_simp; try (with_reducible rfl))
   simp only [sB, sC]
   refine Ut 11 5 1 0 0 (v := ?vr1_12) rfl hWr1 hH ?hyr1_12 ?_
   case hyr1_12 => (intro w' hSw; clear hSw; go_simp; try (with_reducible rfl))
   simp only [sB, sC]
   refine U1 12 1 rfl (fun K hK => ?_)
   have hG := hH
   replace hG := S2o0 hG; (try dsimp only at hG); have q0 := hG.1; have q1 := hG.2.1; have q2 := hG.2.2.1; have q3 := hG.2.2.2.1; have q4 := hG.2.2.2.2
   obtain ⟨⟨z0, z1, y0, y1⟩, yf⟩ := q0
   obtain ⟨v0, v1, v2, vf⟩ := q1
   go_simp
   refine hK.out _ _ ?hsr1_13 (fun hH2 => ?hrr1_13)
   case hsr1_13 => exact S2i1
   clear hK K hH
   have hH := hH2
   clear hH2
   try simp only [Act.put, sA, sB, sC]
   refine wpAnyU_done (by kernel_rfl) ?_ _ _
   refine NoPanic.normal ?_
   generalize unitX (-n1) (-n2) = u0 at *
   generalize unitY (-n1) (-n2) = u1 at *
   go_wp2_with fail
   refine bodyPost_ret (v := .tuple #[.bool true, .int .i64 d0, vecV u0 u1]) (by simp [results, Tryz.results48, go_sem, axD, y0, y1]) rfl ⟨by rw [HR.out.1, HR.out.2.1, HR.out.2.2.1, HR.out.2.2.2], by go_grown⟩
  | false =>
   have hel := HEL.out rfl
   obtain ⟨bn1, bn2⟩ := nrm_bd HLW.out hel
   have HX := hid hx
   obtain ⟨x0, x1, x2, xf⟩ := hx
   dsimp only [axS, axE, axD] at x0 x1 x2
   have hr1 : axN1 l m (some (false, e0, d0)) = nrmX l e0 := rfl
   have hr2 : axN2 l m (some (false, e0, d0)) = nrmY l e0 := rfl
   rw [hr1, hr2] at HR
   clear hr1 hr2
   go_upto_region 7 with fail
   clear x0 x1 x2 xf HM HMW HEM
   have HNM : Hid (∀ wo, Below w.heap.size w wo → Calls Tryz.prog 87 #[.slice A l.length c, .int .i64 e0] wo (Ret (vecV (nrmX l e0) (nrmY l e0)) wo)) := fun wo h => normal_calls A l.length c l e0 wo (HS.out.below h) HLW.out hl3 hl8 hel
   generalize nrmX l e0 = n1 at *
   generalize nrmY l e0 = n2 at *
   refine wp_region_noPanic ?_
   refine wp_region_U (S := (S2 (fun w' => VZ w' w.heap.size ∧ AxAt w' gx (some (false, e0, d0)) ∧ Below w.heap.size w w'))) (T := (fun j => [0, 0, 0, 0, 0, 0, 0, 0, 0, 1].getD j 0)) (by kernel_rfl) (S2i0 ⟨hz.drew, HX.out.drew, hB.drew⟩) (fun hH => ?_)
   have hWr2 : Weaker (S2 (fun w' => VZ w' w.heap.size ∧ AxAt w' gx (some (false, e0, d0)) ∧ Below w.heap.size w w')) := weaker2 _
   refine Ut 0 41 9 0 0 (v := ?vr2_1) rfl hWr2 hH ?hyr2_1 ?_
   case hyr2_1 => (intro w' hSw; clear hSw; go_simp; try (with_reducible rfl))
   simp only [sB, sC]
   refine Ut 1 42 8 0 0 (v := ?vr2_2) rfl hWr2 hH ?hyr2_2 ?_
   case hyr2_2 => (intro w' hSw; replace hSw := S2o0 hSw; (try dsimp only at hSw); have q0 := hSw.1; have q1 := hSw.2.1; have q2 := hSw.2.2; obtain ⟨qa1_0, qa1_1, qa1_2, qa1_f⟩ := id q1; go_simp; try (with_reducible rfl))
   simp only [sB, sC]
   refine Ut 2 43 7 0 0 (v := ?vr2_3) rfl hWr2 hH ?hyr2_3 ?_
   case hyr2_3 => (intro w' hSw; clear hSw; go_simp; try (with_reducible rfl))
   simp only [sB, sC]
   refine Ut 3 44 6 0 0 (v := ?vr2_4) rfl hWr2 hH ?hyr2_4 ?_
   case hyr2_4 => (intro w' hSw; clear hSw; go_simp; try (with_reducible rfl))
   simp only [sB, sC]
   refine Ut 4 45 5 0 0 (v := ?vr2_5) rfl hWr2 hH ?hyr2_5 ?_
   case hyr2_5 => (intro w' hSw; replace hSw := S2o0 hSw; (try dsimp only at hSw); have q0 := hSw.1; have q1 := hSw.2.1; have q2 := hSw.2.2; obtain ⟨qa1_0, qa1_1, qa1_2, qa1_f⟩ := id q1; go_simp; try (with_reducible rfl))
   simp only [sB, sC]
   refine U1 5 0 rfl (fun K hK => ?_)
   try clear hb
   go_simp
   (go_at_call 87; refine (HNM.out _ (by have hG := S2o0 hH; (try dsimp only at hG); exact hG.2.2)).mono ?_; rintro e wn ⟨rfl, hb⟩)
   refine hK.out _ _ ?hsr2_6 (fun hH2 => ?hrr2_6)
   case hsr2_6 => exact S2i0 (by have hG := hH; replace hG := S2o0 hG; (try dsimp only at hG); have q0 := hG.1; have q1 := hG.2.1; have q2 := hG.2.2; exact ⟨keepVZ hb q0, keepAx hb q1, keepBelow hb q2⟩)
   clear hK K hH
   have hH := hH2
   clear hH2
   try simp only [Act.put, sA, sB, sC]
   refine U1 6 0 rfl (fun K hK => ?_)
   try clear hb
   go_simp
   (go_at_call 88; refine (unit_calls n1 n2 _).mono ?_; rintro e wn ⟨rfl, hb⟩)
   refine hK.out _ _ ?hsr2_7 (fun hH2 => ?hrr2_7)
   case hsr2_7 => exact S2i0 (by have hG := hH; replace hG := S2o0 hG; (try dsimp only at hG); have q0 := hG.1; have q1 := hG.2.1; have q2 := hG.2.2; exact ⟨keepVZ hb q0, keepAx hb q1, keepBelow hb q2⟩)
   clear hK K hH
   have hH := hH2
   clear hH2
   try simp only [Act.put, sA, sB, sC]
   refine Ut 7 4 2 0 0 (v := ?vr2_8) rfl hWr2 hH ?hyr2_8 ?_
   case hyr2_8 => (intro w' hSw; clear hSw; go_simp; try (with_reducible rfl))
   simp only [sB, sC]
   refine Ut 8 5 1 0 0 (v := ?vr2_9) rfl hWr2 hH ?hyr2_9 ?_
   case hyr2_9 => (intro w' hSw; clear hSw; go_simp; try (with_reducible rfl))
   simp only [sB, sC]
   refine U1 9 1 rfl (fun K hK => ?_)
   have hG := hH
   replace hG := S2o0 hG; (try dsimp only at hG); have q0 := hG.1; have q1 := hG.2.1; have q2 := hG.2.2
   obtain ⟨⟨z0, z1, y0, y1⟩, yf⟩ := q0
   obtain ⟨v0, v1, v2, vf⟩ := q1
   go_simp
   refine hK.out _ _ ?hsr2_10 (fun hH2 => ?hrr2_10)
   case hsr2_10 => exact S2i1
   clear hK K hH
   have hH := hH2
   clear hH2
   try simp only [Act.put, sA, sB, sC]
   refine wpAnyU_done (by kernel_rfl) ?_ _ _
   refine NoPanic.normal ?_
   generalize unitX n1 n2 = u0 at *
   generalize unitY n1 n2 = u1 at *
   go_wp2_with fail
   refine bodyPost_ret (v := .tuple #[.bool true, .int .i64 d0, vecV u0 u1]) (by simp [results, Tryz.results48, go_sem, axD, y0, y1]) rfl ⟨by rw [HR.out.1, HR.out.2.1, HR.out.2.2.1, HR.out.2.2.2], by go_grown⟩
 ·have HR : Hid (meetsB l m = false ∧ tstD l m = 0 ∧ tstX l m = 0 ∧ tstY l m = 0) := by
   have h : leastO l m = none := by unfold leastO; rw [if_neg hm]
   exact ⟨by simpa using hm, by unfold tstD; rw [h]; rfl, by unfold tstX; rw [if_neg hm], by unfold tstY; rw [if_neg hm]⟩
  have hO : leastO l m = none := by unfold leastO; rw [if_neg hm]
  have hmf : meetsB l m = false := by simpa using hm
  rw [hO, hmf]
  obtain ⟨⟨z0, z1, y0, y1⟩, yf⟩ := HZ1.out
  have hlt := HZ1.out.lt
  clear hm hO hmf
  simp only [axV, axS, axE, axD]
  by_cases hE : bothE l m = 0
  ·rw [hE]
   clear hE
   go_wp2
   refine bodyPost_ret (v := .tuple #[.bool false, .int .i64 0, vecV 0 0]) (by simp [results, Tryz.results48, go_sem, hlt, y0, y1]) rfl ⟨by rw [HR.out.1, HR.out.2.1, HR.out.2.2.1, HR.out.2.2.2], by go_grown⟩
  ·have hEb : (bothE l m != 0) = true := by simp [hE]
   clear hE
   go_wp2
   refine bodyPost_ret (v := .tuple #[.bool false, .int .i64 0, vecV 0 0]) (by simp [results, Tryz.results48, go_sem, hlt, y0, y1]) rfl ⟨by rw [HR.out.1, HR.out.2.1, HR.out.2.2.1, HR.out.2.2.2], by go_grown⟩
end
end Go.Proofs.YtilncglnojjlaaaGreat
namespace Go.Proofs.YtilncglnojjlaaaGreat
section
set_option linter.unusedVariables false
set_option linter.unusedSimpArgs false
open Go.RowKit

def lowB (l : List V) (i k : Nat) : Prop := py l i < py l k ∨ (py l i = py l k ∧ px l i < px l k)
instance (l : List V) (i k : Nat) : Decidable (lowB l i k) := by unfold lowB; infer_instance
def lowTo (l : List V) : Nat → Nat
 | 0 => 0
 | i + 1 => if lowB l i (lowTo l i) then i else lowTo l i
def lowI (l : List V) : Nat := lowTo l l.length
theorem lowTo_lt (l : List V) : ∀ k, 0 < l.length → k ≤ l.length → lowTo l k < l.length
 | 0, h, _ => h
 | k + 1, h, hk => by
  rw [lowTo]
  split
  ·omega
  ·exact lowTo_lt l k h (by omega)

def crsZ (a b p q : Int) : Int := a * q - b * p
theorem crs_bd {a b p q : Int} (ha : -1073741824 ≤ a ∧ a ≤ 1073741824) (hb : -1073741824 ≤ b ∧ b ≤ 1073741824) (hp : -1073741824 ≤ p ∧ p ≤ 1073741824) (hq : -1073741824 ≤ q ∧ q ≤ 1073741824) :
  (-1152921504606846976 ≤ a * q ∧ a * q ≤ 1152921504606846976) ∧ (-1152921504606846976 ≤ b * p ∧ b * p ≤ 1152921504606846976) :=
 ⟨mul_bd (x := a) (y := q) (M := 1073741824) (N := 1073741824) (by omega) (by omega) (by omega) (by omega), mul_bd (x := b) (y := p) (M := 1073741824) (N := 1073741824) (by omega) (by omega) (by omega) (by omega)⟩

def edgX (l : List V) (f i : Nat) : Int := px l ((f + i + 1) % l.length) - px l ((f + i) % l.length)
def edgY (l : List V) (f i : Nat) : Int := py l ((f + i + 1) % l.length) - py l ((f + i) % l.length)
theorem edg_bd {l : List V} (hw : allWithin 65536000 l = true) (h3 : 0 < l.length) (f i : Nat) : (-131072000 ≤ edgX l f i ∧ edgX l f i ≤ 131072000) ∧ (-131072000 ≤ edgY l f i ∧ edgY l f i ≤ 131072000) := by
 have h1 := withinB_iff.1 (allWithin_at hw (Nat.mod_lt (f + i) h3))
 have h2 := withinB_iff.1 (allWithin_at hw (Nat.mod_lt (f + i + 1) h3))
 unfold edgX edgY
 omega
def negL (l : List V) : List V := l.map fun p => (-p.1, -p.2)
theorem negL_len (l : List V) : (negL l).length = l.length := by simp [negL]
theorem neg_px (l : List V) (i : Nat) : px (negL l) i = -px l i := by
 unfold px negL
 by_cases h : i < l.length
 ·simp [h]
 ·simp [h]
theorem neg_py (l : List V) (i : Nat) : py (negL l) i = -py l i := by
 unfold py negL
 by_cases h : i < l.length
 ·simp [h]
 ·simp [h]
theorem negL_within {l : List V} (h : allWithin 65536000 l = true) : allWithin 65536000 (negL l) = true := by
 unfold allWithin at h ⊢
 unfold negL
 rw [List.all_eq_true] at h ⊢
 intro p hp
 obtain ⟨q, hq, rfl⟩ := List.mem_map.1 hp
 have := withinB_iff.1 (h q hq)
 exact withinB_iff.2 (by dsimp only; omega)

def mnX (a c : List V) (i k x y : Nat) : Int := px a ((i + x) % a.length) + px c ((k + y) % c.length)
def mnY (a c : List V) (i k x y : Nat) : Int := py a ((i + x) % a.length) + py c ((k + y) % c.length)
def mnT (a c : List V) (i k x y : Nat) : Int := crsZ (edgX a i x) (edgY a i x) (edgX c k y) (edgY c k y)
def mnF (a c : List V) (i k x y : Nat) : Bool := y == c.length || (decide (x < a.length) && decide (0 ≤ mnT a c i k x y))
def mnS (a c : List V) (i k x y : Nat) : Bool := x == a.length || (decide (y < c.length) && decide (mnT a c i k x y ≤ 0))
def mnGo (a c : List V) (i k : Nat) : Nat → Nat → Nat → List V
 | 0, _, _ => []
 | f + 1, x, y => if x < a.length ∨ y < c.length then (mnX a c i k x y, mnY a c i k x y) :: mnGo a c i k f (if mnF a c i k x y = true then x + 1 else x) (if mnS a c i k x y = true then y + 1 else y) else []
def minusL (a b : List V) : List V := if bothE a b = 0 then mnGo a (negL b) (lowI a) (lowI (negL b)) (a.length + (negL b).length) 0 0 else []
theorem mnX_l (a c : List V) (i k x y : Nat) : mnX a c i k (x + 1) y = mnX a c i k x y + edgX a i x := by unfold mnX edgX; rw [← Nat.add_assoc]; omega
theorem mnY_l (a c : List V) (i k x y : Nat) : mnY a c i k (x + 1) y = mnY a c i k x y + edgY a i x := by unfold mnY edgY; rw [← Nat.add_assoc]; omega
theorem mnX_r (a c : List V) (i k x y : Nat) : mnX a c i k x (y + 1) = mnX a c i k x y + edgX c k y := by unfold mnX edgX; rw [← Nat.add_assoc]; omega
theorem mnY_r (a c : List V) (i k x y : Nat) : mnY a c i k x (y + 1) = mnY a c i k x y + edgY c k y := by unfold mnY edgY; rw [← Nat.add_assoc]; omega
theorem mn_bd {a c : List V} (ha : allWithin 65536000 a = true) (hc : allWithin 65536000 c = true) (h1 : 0 < a.length) (h2 : 0 < c.length) (i k x y : Nat) : (-131072000 ≤ mnX a c i k x y ∧ mnX a c i k x y ≤ 131072000) ∧ (-131072000 ≤ mnY a c i k x y ∧ mnY a c i k x y ≤ 131072000) := by
 have g1 := withinB_iff.1 (allWithin_at ha (Nat.mod_lt (i + x) h1))
 have g2 := withinB_iff.1 (allWithin_at hc (Nat.mod_lt (k + y) h2))
 unfold mnX mnY
 omega
def ninC (m : List V) (i : Nat) : Int := crsZ (px m i) (py m i) (px m ((i + 1) % m.length)) (py m ((i + 1) % m.length))
def ninB (m : List V) : Bool := decide (∀ i, i < m.length → 0 ≤ ninC m i)
theorem root_le {N n : Int} (h0 : 0 ≤ N) (h1 : N < 340282366920938463463374607431768211456) (hn : 0 ≤ n) : n * n ≤ N ↔ n ≤ rootZ N := by
 obtain ⟨r0, r1, r2⟩ := rootZ_spec h0 h1
 constructor
 ·intro h
  rcases Int.lt_or_le (rootZ N) n with g | g
  ·have := sq_lt r0 g; omega
  ·exact g
 ·intro h
  have := Int.mul_le_mul h h hn r0
  omega
theorem root_lt {N n : Int} (h0 : 0 ≤ N) (h1 : N < 340282366920938463463374607431768211456) (hn : 0 ≤ n) (h : N < n * n) : rootZ N < n := by
 rcases Int.lt_or_le (rootZ N) n with g | g
 ·exact g
 ·have := (root_le h0 h1 hn).2 g; omega

def sqZ (x y : Int) : Int := x * x + y * y
theorem sqZ_bd {x y : Int} (hx : -131072000 ≤ x ∧ x ≤ 131072000) (hy : -131072000 ≤ y ∧ y ≤ 131072000) : 0 ≤ sqZ x y ∧ sqZ x y ≤ 34359738368000000 := by
 have m1 := mul_bd (x := x) (y := x) (M := 131072000) (N := 131072000) (by omega) (by omega) (by omega) (by omega)
 have m2 := mul_bd (x := y) (y := y) (M := 131072000) (N := 131072000) (by omega) (by omega) (by omega) (by omega)
 have := sq_nonneg x
 have := sq_nonneg y
 unfold sqZ
 omega

def farT (x1 y1 x2 y2 : Int) : Int := -x1 * (x2 - x1) - y1 * (y2 - y1)
def farZ (x1 y1 x2 y2 : Int) : Int :=
 if farT x1 y1 x2 y2 ≤ 0 then rootZ (sqZ x1 y1) else if sqZ (x2 - x1) (y2 - y1) ≤ farT x1 y1 x2 y2 then rootZ (sqZ x2 y2)
 else rootZ (crsZ x1 y1 x2 y2 * crsZ x1 y1 x2 y2 / sqZ (x2 - x1) (y2 - y1))

theorem crs_sq (x1 y1 x2 y2 : Int) : crsZ x1 y1 x2 y2 * crsZ x1 y1 x2 y2 ≤ sqZ x1 y1 * sqZ (x2 - x1) (y2 - y1) := by
 have e : sqZ x1 y1 * sqZ (x2 - x1) (y2 - y1) = crsZ x1 y1 x2 y2 * crsZ x1 y1 x2 y2 + farT x1 y1 x2 y2 * farT x1 y1 x2 y2 := by unfold sqZ crsZ farT; grind
 have := sq_nonneg (farT x1 y1 x2 y2)
 omega
theorem far_third {x1 y1 x2 y2 : Int} (h1 : -131072000 ≤ x1 ∧ x1 ≤ 131072000) (h2 : -131072000 ≤ y1 ∧ y1 ≤ 131072000) (hs : 0 < sqZ (x2 - x1) (y2 - y1)) :
  0 ≤ crsZ x1 y1 x2 y2 * crsZ x1 y1 x2 y2 / sqZ (x2 - x1) (y2 - y1) ∧ crsZ x1 y1 x2 y2 * crsZ x1 y1 x2 y2 / sqZ (x2 - x1) (y2 - y1) ≤ 34359738368000000 := by
 have c := crs_sq x1 y1 x2 y2
 obtain ⟨b1, b2⟩ := sqZ_bd h1 h2
 have s := sq_nonneg (crsZ x1 y1 x2 y2)
 refine ⟨Int.ediv_nonneg s (by omega), ?_⟩
 have := Int.ediv_le_ediv hs c
 rw [Int.mul_ediv_cancel _ (by omega)] at this
 omega
theorem farZ_bd {x1 y1 x2 y2 : Int} (h1 : -131072000 ≤ x1 ∧ x1 ≤ 131072000) (h2 : -131072000 ≤ y1 ∧ y1 ≤ 131072000) (h3 : -131072000 ≤ x2 ∧ x2 ≤ 131072000) (h4 : -131072000 ≤ y2 ∧ y2 ≤ 131072000) : 0 ≤ farZ x1 y1 x2 y2 ∧ farZ x1 y1 x2 y2 < 536870912 := by
 have key : ∀ N : Int, 0 ≤ N → N ≤ 34359738368000000 → 0 ≤ rootZ N ∧ rootZ N < 536870912 := fun N a b => ⟨(rootZ_spec a (by omega)).1, root_lt a (by omega) (by omega) (by omega)⟩
 unfold farZ
 split
 ·exact key _ (sqZ_bd h1 h2).1 (sqZ_bd h1 h2).2
 ·split
  ·exact key _ (sqZ_bd h3 h4).1 (sqZ_bd h3 h4).2
  ·have := far_third (x2 := x2) (y2 := y2) h1 h2 (by omega)
   exact key _ this.1 this.2

def farTo (m : List V) : Nat → Int
 | 0 => 1073741824
 | k + 1 => if farZ (px m k) (py m k) (px m ((k + 1) % m.length)) (py m ((k + 1) % m.length)) < farTo m k then farZ (px m k) (py m k) (px m ((k + 1) % m.length)) (py m ((k + 1) % m.length)) else farTo m k
def apartZ (a b : List V) : Int := if bothE a b = 0 then (if ninB (minusL a b) = true then 0 else farTo (minusL a b) (minusL a b).length) else 0
theorem mnGo_within {a c : List V} (ha : allWithin 65536000 a = true) (hc : allWithin 65536000 c = true) (h1 : 0 < a.length) (h2 : 0 < c.length) (i k : Nat) : ∀ f x y, allWithin 131072000 (mnGo a c i k f x y) = true
 | 0, _, _ => rfl
 | f + 1, x, y => by
  rw [mnGo]
  split
  ·have := mnGo_within ha hc h1 h2 i k f (if mnF a c i k x y = true then x + 1 else x) (if mnS a c i k x y = true then y + 1 else y)
   unfold allWithin at this ⊢
   rw [List.all_cons, this, Bool.and_true]
   have b := mn_bd ha hc h1 h2 i k x y
   exact withinB_iff.2 (by omega)
  ·rfl
theorem mnGo_len (a c : List V) (i k : Nat) : ∀ f x y, (mnGo a c i k f x y).length ≤ f
 | 0, _, _ => by simp [mnGo]
 | f + 1, x, y => by
  rw [mnGo]
  split
  ·have := mnGo_len a c i k f (if mnF a c i k x y = true then x + 1 else x) (if mnS a c i k x y = true then y + 1 else y)
   simp only [List.length_cons]
   omega
  ·simp
theorem minus_bd (a b : List V) : allWithin 131072000 (minusL a b) = true ∧ (minusL a b).length ≤ 16 := by
 unfold minusL
 split
 ·rename_i h
  have h' : checkE a = 0 ∧ checkE b = 0 := by unfold bothE at h; split at h <;> omega
  obtain ⟨a8, a3, aw, _⟩ := checkE_zero h'.1
  obtain ⟨b8, b3, bw, _⟩ := checkE_zero h'.2
  refine ⟨mnGo_within aw (negL_within bw) (by omega) (by rw [negL_len]; omega) _ _ _ _ _, ?_⟩
  have := mnGo_len a (negL b) (lowI a) (lowI (negL b)) (a.length + (negL b).length) 0 0
  rw [negL_len] at this ⊢
  omega
 ·exact ⟨rfl, by simp⟩
end
end Go.Proofs.YtilncglnojjlaaaGreat
