/- Parts of a proof: contracts and laws. -/
import Derived.Test.YtiaoandbdgdecaaGreatPN15
import Derived.Test.YtiaoandbdgdecaaGreatPN16
import Derived.Test.YtiaoandbdgdecaaGreatPN03
namespace Go.Proofs.YtiaoandbdgdecaaGreat
section
set_option linter.unusedVariables false
set_option linter.unusedSimpArgs false
open Go.RowKit

def wX (b : Bd) (p q : Int) : Int := addF (turnX p q b.ang) b.px
def wY (b : Bd) (p q : Int) : Int := addF (turnY p q b.ang) b.py
def placeL (b : Bd) (l : List V) : List V := l.map fun p => (wX b p.1 p.2, wY b p.1 p.2)
theorem placeL_len (b : Bd) (l : List V) : (placeL b l).length = l.length := by simp [placeL]
def placeR (b : Bd) (l : List V) : List V := if bodyE b l ≠ 0 then [] else placeL b l

def RetPl (l : List V) (w : World) (e : Ending) (w' : World) : Prop := ∃ A n c, e = .returned (.slice A n c) ∧ Sl w' A n c l ∧ (l = [] → A = none) ∧ (∀ bx off, A = some ⟨bx, off, none⟩ → w.heap.size ≤ bx) ∧ Below w.heap.size w w'
theorem keepOwn {w w' : World} {B : Nat} {v : Value} {l : List V} (hb : Below w.heap.size w w') (h : Own w B v l) : Own w' B v l := h.below hb
theorem keepBdB {w w' : World} {B g : Nat} {b : Bd} {A : Option Addr} {n c : Nat} (hb : Below B w w') (hg : g < B) (h : BdAt w g b A n c) : BdAt w' g b A n c := by
 have e : ∀ j v, w.cell? ⟨g, j, none⟩ = some v → w'.cell? ⟨g, j, none⟩ = some v := fun j v hv => ((bcell hb).1 _ _ hg).trans hv
 exact ⟨e _ _ h.c0, e _ _ h.c1, e _ _ h.c2, e _ _ h.c3, e _ _ h.c4, e _ _ h.c5, e _ _ h.c6, e _ _ h.c7, e _ _ h.c8, e _ _ h.c9, e _ _ h.c10, e _ _ h.c11, e _ _ h.c12, fun j => ((bcell hb).2 _ _ hg).trans (h.free j)⟩
theorem shapeE_zero {l : List V} (h : shapeE l = 0) : checkE l = 0 := by
 unfold shapeE at h
 by_cases hc : checkE l = 0
 ·exact hc
 ·rw [if_pos hc] at h; exact h
set_option maxRecDepth 100000 in
set_option maxHeartbeats 4000000 in
set_option maxRecDepth 100000 in
set_option maxHeartbeats 4000000 in
theorem bplace_calls (b : Bd) (A : Option Addr) (n c : Nat) (l : List V) (w : World) (hS : Sl w A n c l) : Calls Tryz.prog 32 #[bodyV b A n c] w (RetPl (placeR b l) w) := by
 obtain ⟨W, hW⟩ : ∃ W, W = w.alloc (.cells #[.int .i64 b.px, .int .i64 b.py, .int .i64 b.vx, .int .i64 b.vy, .int .i64 b.ang, .int .i64 b.spin, .int .i64 b.mass, .int .i64 b.iner, .int .i64 b.bounce, .int .i64 b.rub, .slice A n c, .bool b.asleep, .int .i64 b.calm] 58) := ⟨_, rfl⟩
 have HK0 := hid (show BdAt W w.heap.size b A n c by rw [hW]; exact BdAt.here w b A n c _)
 have hB0 : Below w.heap.size w W := by rw [hW]; go_grown
 have HS0 := hid (hS.below hB0)
 have HSW := hid hS
 clear hS
 obtain ⟨k0, k1, k2, k3, k4, k5, k6, k7, k8, k9, k10, k11, k12, kf⟩ := HK0.out
 go_enter Tryz.func32, Tryz.ntmps32
 go_wp2_with fail
 rw [← hW]
 clear hW
 refine (bcheck_calls b A n c l _ HS0.out).mono ?_
 rintro e w0 ⟨rfl, hb0⟩
 have HK1 := hid (keepBd hb0 HK0.out)
 have HS1 := hid (keepSl hb0 HS0.out)
 have hB1 := keepBelow hb0 hB0
 clear k0 k1 k2 k3 k4 k5 k6 k7 k8 k9 k10 k11 k12 kf
 clear hb0 HK0 HS0 hB0
 by_cases hE : bodyE b l = 0
 case neg =>
  have hne : (bodyE b l != 0) = true := by simp [hE]
  have HR : Hid (placeR b l = []) := by show _ = _; unfold placeR; rw [if_pos hE]
  go_wp2
  go_returns
  exact ⟨none, 0, 0, rfl, by rw [HR.out]; exact Sl.empty' _, fun _ => rfl, (fun bx off e => by cases e), hB1⟩
 have HR : Hid (placeR b l = placeL b l) := by show _ = _; unfold placeR; rw [if_neg (by simp [hE])]
 obtain ⟨hsh, hnu⟩ := bodyE_zero hE
 have hang := (numE_zero hnu).2.2.2.1
 obtain ⟨h8, h3, _, _⟩ := checkE_zero (shapeE_zero hsh)
 have hn := HS1.out.len
 subst hn
 rw [hE]
 clear hE hsh hnu
 obtain ⟨k0, k1, k2, k3, k4, k5, k6, k7, k8, k9, k10, k11, k12, kf⟩ := HK1.out
 go_wp2
 clear k0 k1 k2 k3 k4 k5 k6 k7 k8 k9 k10 k11 k12 kf
 go_loopw [3, 12] (fun s i wr => ∃ k : Nat, k ≤ l.length ∧ i = .int .i64 k ∧ Own wr (w.heap.size + 1) s (placeL b (l.take k)) ∧ BdAt wr w.heap.size b A l.length c ∧ Below w.heap.size w wr) (fun _ i _ => l.length - (intOf i).toNat)
 case atStart => exact ⟨0, Nat.zero_le _, rfl, Own.nil _ _, HK1.out, hB1⟩
 case round =>
  clear HK1 HS1 hB1
  obtain ⟨k, hk, rfl, hown, hbd, hB⟩ := hrel
  obtain ⟨wo, rfl⟩ : ∃ wo : World, wo = wr := ⟨_, rfl⟩
  obtain ⟨s, hs0, hown⟩ : ∃ s, s = _ ∧ Own wo (w.heap.size + 1) s (placeL b (l.take k)) := ⟨_, rfl, hown⟩
  subst hs0
  have HO := hid hown
  have HK := hid hbd
  have HS := hid (HSW.out.below hB)
  clear hown hbd
  by_cases hlt : k < l.length
  ·obtain ⟨ba, off, hA, hC⟩ := HS.out.at_ (by intro h; subst h; simp at hlt)
   subst hA
   have hx := hC.x k hlt
   have hy := hC.y k hlt
   have hbo := hC.lt
   obtain ⟨wa, hwa⟩ : ∃ wa, wa = wo.alloc (.cells #[.int .i64 (px l k), .int .i64 (py l k)] 27) := ⟨_, rfl⟩
   obtain ⟨gp, hgp⟩ : ∃ g, g = wo.heap.size := ⟨_, rfl⟩
   have hgl : w.heap.size < gp := by rw [hgp]; exact HK.out.lt
   have HK1 := hid (show BdAt wa w.heap.size b (some ⟨ba, off, none⟩) l.length c by rw [hwa]; exact HK.out.alloc _)
   have HO1 := hid (show Own wa (w.heap.size + 1) s (placeL b (l.take k)) by rw [hwa]; exact HO.out.alloc _)
   have hB1 : Below w.heap.size w wa := by rw [hwa]; exact hB.alloc hB.size _
   have p0 : wa.cell? ⟨gp, 0, none⟩ = some (.int .i64 (px l k)) := by rw [hwa, hgp]; go_simp
   have p1 : wa.cell? ⟨gp, 1, none⟩ = some (.int .i64 (py l k)) := by rw [hwa, hgp]; go_simp
   obtain ⟨tx, htx⟩ : ∃ t, t = turnX (px l k) (py l k) b.ang := ⟨_, rfl⟩
   obtain ⟨ty, hty⟩ : ∃ t, t = turnY (px l k) (py l k) b.ang := ⟨_, rfl⟩
   have HTC := hid (turn_calls (px l k) (py l k) b.ang hang.1 (by omega))
   rw [← htx, ← hty] at HTC
   have HTX := hid htx
   have HTY := hid hty
   clear hC HK HO HS hB htx hty
   go_upto_region 7 with fail
   rw [← hwa, ← hgp]
   clear hwa hgp hx hy hbo
   refine wp_region_noPanic ?_
   refine wp_region_U (S := (S2 (fun w' => BdAt w' w.heap.size b (some ⟨ba, off, none⟩) l.length c ∧ Own w' (w.heap.size + 1) s (placeL b (l.take k)) ∧ w'.cell? ⟨gp, 0, none⟩ = some (.int .i64 (px l k)) ∧ w'.cell? ⟨gp, 1, none⟩ = some (.int .i64 (py l k)) ∧ Below w.heap.size w w'))) (T := (fun j => [0, 0, 0, 0, 0, 0, 0, 0, 0, 1].getD j 0)) (by kernel_rfl) (S2i0 ⟨HK1.out.drew, HO1.out.drew, p0, p1, hB1.drew⟩) (fun hH => ?_)
   have hWr2 : Weaker (S2 (fun w' => BdAt w' w.heap.size b (some ⟨ba, off, none⟩) l.length c ∧ Own w' (w.heap.size + 1) s (placeL b (l.take k)) ∧ w'.cell? ⟨gp, 0, none⟩ = some (.int .i64 (px l k)) ∧ w'.cell? ⟨gp, 1, none⟩ = some (.int .i64 (py l k)) ∧ Below w.heap.size w w')) := weaker2 _
   refine Utn [(0, 16), (1, 17), (2, 18), (3, 19), (5, 21), (6, 22)] 5 0 0 (L' := ?Lr2_1) hWr2 hH ?hyr2_1 ?_
   case hyr2_1 => ((iterate 6 apply tkC; rfl; kernel_rfl; intro w' hSw; replace hSw := S2o0 hSw; (try dsimp only at hSw); have q0 := hSw.1; have q1 := hSw.2.1; have q2 := hSw.2.2.1; have q3 := hSw.2.2.2.1; have q4 := hSw.2.2.2.2; obtain ⟨qa0_0, qa0_1, qa0_2, qa0_3, qa0_4, qa0_5, qa0_6, qa0_7, qa0_8, qa0_9, qa0_10, qa0_11, qa0_12, qa0_f⟩ := id q0; (try simp only [sB, sC]); go_simp; (try with_reducible rfl)); exact tkN)
   simp only [sB, sC]
   refine U1 4 0 rfl (fun K hK => ?_)
   try clear hb
   go_simp
   (go_at_call 72; refine (HTC.out _).mono ?_; rintro e wn ⟨rfl, hb⟩)
   refine hK.out _ _ ?hsr2_7 (fun hH2 => ?hrr2_7)
   case hsr2_7 => exact S2i0 (by have hG := hH; replace hG := S2o0 hG; (try dsimp only at hG); have q0 := hG.1; have q1 := hG.2.1; have q2 := hG.2.2.1; have q3 := hG.2.2.2.1; have q4 := hG.2.2.2.2; exact ⟨keepBd hb q0, keepOwn hb q1, keepCell hb q2, keepCell hb q3, keepBelow hb q4⟩)
   clear hK K hH
   have hH := hH2
   clear hH2
   try simp only [Act.put, sA, sB, sC]
   refine U1 7 0 rfl (fun K hK => ?_)
   try clear hb
   go_simp
   (go_at_call 55; refine (vadd_calls tx ty b.px b.py _).mono ?_; rintro e wn ⟨rfl, hb⟩)
   refine hK.out _ _ ?hsr2_8 (fun hH2 => ?hrr2_8)
   case hsr2_8 => exact S2i0 (by have hG := hH; replace hG := S2o0 hG; (try dsimp only at hG); have q0 := hG.1; have q1 := hG.2.1; have q2 := hG.2.2.1; have q3 := hG.2.2.2.1; have q4 := hG.2.2.2.2; exact ⟨keepBd hb q0, keepOwn hb q1, keepCell hb q2, keepCell hb q3, keepBelow hb q4⟩)
   clear hK K hH
   have hH := hH2
   clear hH2
   try simp only [Act.put, sA, sB, sC]
   refine U1 8 0 rfl (fun K hK => ?_)
   try clear hb
   have hG := hH
   replace hG := S2o0 hG; (try dsimp only at hG); have q0 := hG.1; have q1 := hG.2.1; have q2 := hG.2.2.1; have q3 := hG.2.2.2.1; have q4 := hG.2.2.2.2
   go_simp
   refine hK.out _ _ ?hsr2_9 (fun hH2 => ?hrr2_9)
   case hsr2_9 => exact S2i0 (by have hG := hH; replace hG := S2o0 hG; (try dsimp only at hG); have q0 := hG.1; have q1 := hG.2.1; have q2 := hG.2.2.1; have q3 := hG.2.2.2.1; have q4 := hG.2.2.2.2; exact ⟨q0.alloc _, q1.alloc _, keepCell ((Below.refl _ _).alloc (Nat.le_refl _) _) q2, keepCell ((Below.refl _ _).alloc (Nat.le_refl _) _) q3, q4.alloc q4.size _⟩)
   clear hK K hH
   have hH := hH2
   clear hH2
   try simp only [Act.put, sA, sB, sC]
   have hT : Cells (wn.alloc (.cells #[.int .i64 (addF tx b.px), .int .i64 (addF ty b.py)] 27)) wn.heap.size 0 [(addF tx b.px, addF ty b.py)] := cells_one (by go_simp) (by go_simp)
   obtain ⟨gT, hgT⟩ : ∃ g, g = wn.heap.size := ⟨_, rfl⟩
   have hlT : w.heap.size < gT := by rw [hgT]; exact q0.lt
   rw [← hgT] at hT
   try rw [← hgT]
   clear hgT q0 q1 q2 q3 q4
   generalize wn.alloc (.cells #[.int .i64 (addF tx b.px), .int .i64 (addF ty b.py)] 27) = wx8 at *
   refine U1 9 1 rfl (fun K hK => ?_)
   have hG := hH
   replace hG := S2o0 hG; (try dsimp only at hG); have q0 := hG.1; have q1 := hG.2.1; have q2 := hG.2.2.1; have q3 := hG.2.2.2.1; have q4 := hG.2.2.2.2
   have hbs := q0.lt
   (refine step_append_vecs (by rfl) _ _ (by rfl) (w.heap.size + 1) s (placeL b (l.take k)) (by rfl) q1 gT 0 1 1 [(addF tx b.px, addF ty b.py)] (by rfl) rfl hT (by rw [placeL_len, List.length_take, List.length_singleton]; omega) (by omega) ?_; intro v' w1 ho1 hg1; have HO1 := hid ho1; have hb1 := Own.grown q1 hg1 (by omega); clear ho1 hg1)
   refine hK.out _ _ ?hsr2_10 (fun hH2 => ?hrr2_10)
   case hsr2_10 => exact S2i1
   clear hK K hH
   have hH := hH2
   clear hH2
   try simp only [Act.put, List.getElem_toArray, List.getElem_cons_succ, List.getElem_cons_zero, List.setIfInBounds_toArray, List.set_cons_zero, List.set_cons_succ]
   refine Ut 10 3 0 1 1 (v := ?vr2_11) rfl hWr2 hH ?hyr2_11 ?_
   case hyr2_11 => (intro w' hSw; clear hSw; go_simp; try (with_reducible rfl))
   simp only [sB, sC]
   refine wpAnyU_done (by kernel_rfl) ?_ _ _
   refine NoPanic.normal ?_
   have hBn : Below w.heap.size w w1 := q4.trans (hb1.mono (by omega))
   have HKn := hid (keepBdB hb1 (by omega) q0)
   clear hH hG q0 q1 q2 q3 q4
   go_wp2
   go_roundw
   case rel =>
    refine ⟨k + 1, hlt, by go_num, ?_, HKn.out, hBn⟩
    have := HO1.out
    rw [HTX.out, HTY.out] at this
    rw [List.take_succ_eq_append_getElem hlt, placeL, List.map_append, List.map_singleton, px_lt hlt]
    exact this
   case measure => simp [intOf]; omega
  ·have hge : l.length ≤ k := by omega
   obtain ⟨A', n', c', rfl, hs, hf⟩ := HO.out.sl
   have H2 : Hid (Sl wo A' n' c' (placeL b l)) := by rwa [List.take_of_length_le hge] at hs
   have HF := hid hf
   clear hs hf HO HK HS
   go_wp2
   go_returns
   exact ⟨_, _, _, rfl, by rw [HR.out]; exact H2.out, fun h => by rw [HR.out] at h; have := congrArg List.length h; rw [placeL_len] at this; simp at this; subst this; simp at h3, (fun bx off e => by have := HF.out bx off e; omega), hB⟩
end
end Go.Proofs.YtiaoandbdgdecaaGreat
