/- Parts of a proof: contracts and laws. -/
import Derived.Test.YtiaoandbdgdecaaGreatPN10
import Derived.Test.YtiaoandbdgdecaaGreatPN09
import Derived.Test.YtiaoandbdgdecaaGreatPN13
import Derived.Test.YtiaoandbdgdecaaGreatPN03
import Derived.Test.YtiaoandbdgdecaaGreatPN12
namespace Go.Proofs.YtiaoandbdgdecaaGreat
section
set_option linter.unusedVariables false
set_option linter.unusedSimpArgs false
open Go.RowKit

def speedX (b : Bd) (p q : Int) : Int := subF b.vx (mulF (mulF b.spin 411775) (subF q b.py))
def speedY (b : Bd) (p q : Int) : Int := addF b.vy (mulF (mulF b.spin 411775) (subF p b.px))
def easeN (b : Bd) (p q nx ny : Int) : Int := addF (divF 65536 b.mass) (divF (mulF (crossF (subF p b.px) (subF q b.py) nx ny) (crossF (subF p b.px) (subF q b.py) nx ny)) b.iner)
def easeR (b : Bd) (p q nx ny : Int) : Int := if b.mass = 0 ∨ b.asleep = true then 0 else easeN b p q nx ny
def easeB (b : Bd) (l : List V) (p q nx ny : Int) : Int := if bodyE b l ≠ 0 ∨ b.mass = 0 ∨ b.asleep = true then 0 else easeN b p q nx ny
def pushR (b : Bd) (jx jy u v : Int) : Bd :=
 if b.mass = 0 ∨ b.asleep = true then b
 else { b with vx := clampN (addF b.vx (divF jx b.mass)) 268435456, vy := clampN (addF b.vy (divF jy b.mass)) 268435456, spin := clampN (addF b.spin (turnF b jx jy u v)) 16777216 }
theorem pushB_ok {b : Bd} {l : List V} (h : bodyE b l = 0) (jx jy u v : Int) : pushB b l jx jy u v = pushR b jx jy u v := by
 unfold pushB pushR
 by_cases hc : b.mass = 0 ∨ b.asleep = true
 ·rw [if_pos (.inr hc), if_pos hc]
 ·rw [if_neg (by rintro (h1 | h1); exact h1 h; exact hc h1), if_neg hc]
theorem easeB_ok {b : Bd} {l : List V} (h : bodyE b l = 0) (p q nx ny : Int) : easeB b l p q nx ny = easeR b p q nx ny := by
 unfold easeB easeR
 by_cases hc : b.mass = 0 ∨ b.asleep = true
 ·rw [if_pos (.inr hc), if_pos hc]
 ·rw [if_neg (by rintro (h1 | h1); exact h1 h; exact hc h1), if_neg hc]
set_option maxRecDepth 100000 in
set_option maxHeartbeats 4000000 in
theorem bease_calls (b : Bd) (A : Option Addr) (n c : Nat) (l : List V) (p q nx ny : Int) (w : World) (hS : Sl w A n c l) : Calls Tryz.prog 106 #[bodyV b A n c, vecV p q, vecV nx ny] w (Ret (.int .i64 (easeB b l p q nx ny)) w) := by
 obtain ⟨W, hW⟩ : ∃ W, W = ((w.alloc (.cells #[.int .i64 b.px, .int .i64 b.py, .int .i64 b.vx, .int .i64 b.vy, .int .i64 b.ang, .int .i64 b.spin, .int .i64 b.mass, .int .i64 b.iner, .int .i64 b.bounce, .int .i64 b.rub, .slice A n c, .bool b.asleep, .int .i64 b.calm] 58)).alloc (.cells #[.int .i64 p, .int .i64 q] 27)).alloc (.cells #[.int .i64 nx, .int .i64 ny] 27) := ⟨_, rfl⟩
 have HK0 := hid (show BdAt W w.heap.size b A n c by rw [hW]; exact ((BdAt.here w b A n c _).alloc _).alloc _)
 have hB0 : Below w.heap.size w W := by rw [hW]; go_grown
 have p0 : W.cell? ⟨w.heap.size + 1, 0, none⟩ = some (.int .i64 p) := by rw [hW]; go_simp
 have p1 : W.cell? ⟨w.heap.size + 1, 1, none⟩ = some (.int .i64 q) := by rw [hW]; go_simp
 have n0 : W.cell? ⟨w.heap.size + 2, 0, none⟩ = some (.int .i64 nx) := by rw [hW]; go_simp
 have n1 : W.cell? ⟨w.heap.size + 2, 1, none⟩ = some (.int .i64 ny) := by rw [hW]; go_simp
 have HS0 := hid (hS.below hB0)
 clear hS
 obtain ⟨k0, k1, k2, k3, k4, k5, k6, k7, k8, k9, k10, k11, k12, kf⟩ := HK0.out
 go_enter Tryz.func106, Tryz.ntmps106
 go_wp2_with fail
 rw [← hW]
 clear hW
 refine (bcheck_calls b A n c l _ HS0.out).mono ?_
 rintro e w1 ⟨rfl, hb1⟩
 have HK1 := hid (keepBd hb1 HK0.out)
 have hB1 := keepBelow hb1 hB0
 replace p0 := keepCell hb1 p0
 replace p1 := keepCell hb1 p1
 replace n0 := keepCell hb1 n0
 replace n1 := keepCell hb1 n1
 clear hb1 HK0 hB0 HS0
 clear k0 k1 k2 k3 k4 k5 k6 k7 k8 k9 k10 k11 k12 kf
 by_cases hE : bodyE b l = 0
 ·have HE := hid hE
  rw [hE]
  clear hE
  obtain ⟨k0, k1, k2, k3, k4, k5, k6, k7, k8, k9, k10, k11, k12, kf⟩ := HK1.out
  by_cases hm : b.mass = 0
  ·have hmb : (b.mass == 0) = true := by simp [hm]
   go_wp2
   go_returns
   exact ret_int (by unfold easeB; rw [if_pos (.inr (.inl hm))]) hB1
  ·have hmb : (b.mass == 0) = false := by simp [hm]
   cases ha : b.asleep with
   | true =>
    rw [ha] at k11
    go_wp2
    go_returns
    exact ret_int (by unfold easeB; rw [if_pos (.inr (.inr ha))]) hB1
   | false =>
    rw [ha] at k11
    have hcond : ¬ (bodyE b l ≠ 0 ∨ b.mass = 0 ∨ b.asleep = true) := by rintro (h | h | h); exact h HE.out; exact hm h; (rw [ha] at h; simp at h)
    have HC := hid hcond
    clear hcond
    go_wp2_with fail
    clear k0 k1 k2 k3 k4 k5 k6 k7 k8 k9 k10 k11 k12 kf
    refine wp_region_noPanic ?_
    refine wp_region_U (S := (S2 (fun w' => BdAt w' w.heap.size b A n c ∧ Below w.heap.size w w' ∧ w'.cell? ⟨w.heap.size + 1, 0, none⟩ = some (.int .i64 p) ∧ w'.cell? ⟨w.heap.size + 1, 1, none⟩ = some (.int .i64 q) ∧ w'.cell? ⟨w.heap.size + 2, 0, none⟩ = some (.int .i64 nx) ∧ w'.cell? ⟨w.heap.size + 2, 1, none⟩ = some (.int .i64 ny)))) (T := (fun _ => 0)) (by kernel_rfl) (S2i0 ⟨HK1.out.drew, hB1.drew, p0, p1, n0, n1⟩) (fun hH => ?_)
    have hWr5 : Weaker (S2 (fun w' => BdAt w' w.heap.size b A n c ∧ Below w.heap.size w w' ∧ w'.cell? ⟨w.heap.size + 1, 0, none⟩ = some (.int .i64 p) ∧ w'.cell? ⟨w.heap.size + 1, 1, none⟩ = some (.int .i64 q) ∧ w'.cell? ⟨w.heap.size + 2, 0, none⟩ = some (.int .i64 nx) ∧ w'.cell? ⟨w.heap.size + 2, 1, none⟩ = some (.int .i64 ny))) := weaker2 _
    refine Utn [(0, 20), (1, 21), (2, 22), (4, 24)] 3 0 0 (L' := ?Lr5_1) hWr5 hH ?hyr5_1 ?_
    case hyr5_1 => ((iterate 4 apply tkC; rfl; kernel_rfl; intro w' hSw; replace hSw := S2o0 hSw; (try dsimp only at hSw); have q0 := hSw.1; have q1 := hSw.2.1; have q2 := hSw.2.2.1; have q3 := hSw.2.2.2.1; have q4 := hSw.2.2.2.2.1; have q5 := hSw.2.2.2.2.2; obtain ⟨qa0_0, qa0_1, qa0_2, qa0_3, qa0_4, qa0_5, qa0_6, qa0_7, qa0_8, qa0_9, qa0_10, qa0_11, qa0_12, qa0_f⟩ := id q0; (try simp only [sB, sC]); go_simp; (try with_reducible rfl)); exact tkN)
    simp only [sB, sC]
    refine U1 3 0 rfl (fun K hK => ?_)
    try clear hb
    go_simp
    (go_at_call 149; refine (vsub_calls p q b.px b.py _).mono ?_; rintro e wn ⟨rfl, hb⟩)
    refine hK.out _ _ ?hsr5_5 (fun hH2 => ?hrr5_5)
    case hsr5_5 => exact S2i0 (by have hG := hH; replace hG := S2o0 hG; (try dsimp only at hG); have q0 := hG.1; have q1 := hG.2.1; have q2 := hG.2.2.1; have q3 := hG.2.2.2.1; have q4 := hG.2.2.2.2.1; have q5 := hG.2.2.2.2.2; exact ⟨keepBd hb q0, keepBelow hb q1, keepCell hb q2, keepCell hb q3, keepCell hb q4, keepCell hb q5⟩)
    clear hK K hH
    have hH := hH2
    clear hH2
    try simp only [Act.put, sA, sB, sC]
    refine U1 5 0 rfl (fun K hK => ?_)
    try clear hb
    go_simp
    (go_at_call 148; refine (vcross_calls (subF p b.px) (subF q b.py) nx ny _).mono ?_; rintro e wn ⟨rfl, hb⟩)
    refine hK.out _ _ ?hsr5_6 (fun hH2 => ?hrr5_6)
    case hsr5_6 => exact S2i0 (by have hG := hH; replace hG := S2o0 hG; (try dsimp only at hG); have q0 := hG.1; have q1 := hG.2.1; have q2 := hG.2.2.1; have q3 := hG.2.2.2.1; have q4 := hG.2.2.2.2.1; have q5 := hG.2.2.2.2.2; exact ⟨keepBd hb q0, keepBelow hb q1, keepCell hb q2, keepCell hb q3, keepCell hb q4, keepCell hb q5⟩)
    clear hK K hH
    have hH := hH2
    clear hH2
    try simp only [Act.put, sA, sB, sC]
    refine Ut 6 7 0 0 0 (v := ?vr5_7) rfl hWr5 hH ?hyr5_7 ?_
    case hyr5_7 => (intro w' hSw; clear hSw; go_simp; try (with_reducible rfl))
    simp only [sB, sC]
    refine wpAnyU_done (by kernel_rfl) ?_ _ _
    refine NoPanic.normal ?_
    clear hWr5
    replace hH := S2o0 hH
    (try dsimp only at hH)
    have q0 := hH.1
    have q1 := hH.2.1
    have q2 := hH.2.2.1
    have q3 := hH.2.2.2.1
    have q4 := hH.2.2.2.2.1
    have q5 := hH.2.2.2.2.2
    obtain ⟨x, hx⟩ : ∃ x, x = crossF (subF p b.px) (subF q b.py) nx ny := ⟨_, rfl⟩
    rw [← hx]
    have HX := hid hx
    have HKn := hid q0
    have hBn := q1
    clear hx hH hb q0 q1 q2 q3 q4 q5 HK1 hB1 p0 p1 n0 n1
    go_wp2_with fail
    refine wp_region_noPanic ?_
    refine wp_region_U (S := (S2 (fun w' => BdAt w' w.heap.size b A n c ∧ Below w.heap.size w w'))) (T := (fun _ => 0)) (by kernel_rfl) (S2i0 ⟨HKn.out.drew, hBn.drew⟩) (fun hH => ?_)
    have hWr6 : Weaker (S2 (fun w' => BdAt w' w.heap.size b A n c ∧ Below w.heap.size w w')) := weaker2 _
    refine Utn [(0, 26), (1, 27), (3, 29), (4, 30), (6, 32), (7, 33)] 5 0 0 (L' := ?Lr6_1) hWr6 hH ?hyr6_1 ?_
    case hyr6_1 => ((iterate 6 apply tkC; rfl; kernel_rfl; intro w' hSw; replace hSw := S2o0 hSw; (try dsimp only at hSw); have q0 := hSw.1; have q1 := hSw.2; obtain ⟨qa0_0, qa0_1, qa0_2, qa0_3, qa0_4, qa0_5, qa0_6, qa0_7, qa0_8, qa0_9, qa0_10, qa0_11, qa0_12, qa0_f⟩ := id q0; (try simp only [sB, sC]); go_simp; (try with_reducible rfl)); exact tkN)
    simp only [sB, sC]
    refine U1 2 0 rfl (fun K hK => ?_)
    try clear hb
    go_simp
    (go_at_call 150; refine (bover2_calls 65536 b.mass _).mono ?_; rintro e wn ⟨rfl, hb⟩)
    refine hK.out _ _ ?hsr6_7 (fun hH2 => ?hrr6_7)
    case hsr6_7 => exact S2i0 (by have hG := hH; replace hG := S2o0 hG; (try dsimp only at hG); have q0 := hG.1; have q1 := hG.2; exact ⟨keepBd hb q0, keepBelow hb q1⟩)
    clear hK K hH
    have hH := hH2
    clear hH2
    try simp only [Act.put, sA, sB, sC]
    refine U1 5 0 rfl (fun K hK => ?_)
    try clear hb
    go_simp
    (go_at_call 108; refine (fmul_calls x x _).mono ?_; rintro e wn ⟨rfl, hb⟩)
    refine hK.out _ _ ?hsr6_8 (fun hH2 => ?hrr6_8)
    case hsr6_8 => exact S2i0 (by have hG := hH; replace hG := S2o0 hG; (try dsimp only at hG); have q0 := hG.1; have q1 := hG.2; exact ⟨keepBd hb q0, keepBelow hb q1⟩)
    clear hK K hH
    have hH := hH2
    clear hH2
    try simp only [Act.put, sA, sB, sC]
    refine U1 8 0 rfl (fun K hK => ?_)
    try clear hb
    go_simp
    (go_at_call 150; refine (bover2_calls (mulF x x) b.iner _).mono ?_; rintro e wn ⟨rfl, hb⟩)
    refine hK.out _ _ ?hsr6_9 (fun hH2 => ?hrr6_9)
    case hsr6_9 => exact S2i0 (by have hG := hH; replace hG := S2o0 hG; (try dsimp only at hG); have q0 := hG.1; have q1 := hG.2; exact ⟨keepBd hb q0, keepBelow hb q1⟩)
    clear hK K hH
    have hH := hH2
    clear hH2
    try simp only [Act.put, sA, sB, sC]
    refine U1 9 0 rfl (fun K hK => ?_)
    try clear hb
    go_simp
    (go_at_call 105; refine (fadd_calls (divF 65536 b.mass) (divF (mulF x x) b.iner) _).mono ?_; rintro e wn ⟨rfl, hb⟩)
    refine hK.out _ _ ?hsr6_10 (fun hH2 => ?hrr6_10)
    case hsr6_10 => exact S2i0 (by have hG := hH; replace hG := S2o0 hG; (try dsimp only at hG); have q0 := hG.1; have q1 := hG.2; exact ⟨keepBd hb q0, keepBelow hb q1⟩)
    clear hK K hH
    have hH := hH2
    clear hH2
    try simp only [Act.put, sA, sB, sC]
    refine Ut 10 6 0 0 0 (v := ?vr6_11) rfl hWr6 hH ?hyr6_11 ?_
    case hyr6_11 => (intro w' hSw; clear hSw; go_simp; try (with_reducible rfl))
    simp only [sB, sC]
    refine wpAnyU_done (by kernel_rfl) ?_ _ _
    refine NoPanic.normal ?_
    clear hWr6
    replace hH := S2o0 hH
    (try dsimp only at hH)
    have q0 := hH.1
    have q1 := hH.2
    go_wp2
    go_returns
    exact ret_int (by unfold easeB; rw [if_neg HC.out]; unfold easeN; rw [HX.out]) q1
 ·have hne : (bodyE b l != 0) = true := by simp [hE]
  go_wp2
  go_returns
  exact ret_int (by unfold easeB; rw [if_pos (.inl hE)]) hB1
end
end Go.Proofs.YtiaoandbdgdecaaGreat
namespace Go.Proofs.YtiaoandbdgdecaaGreat
section
set_option linter.unusedVariables false
set_option linter.unusedSimpArgs false
open Go.RowKit
theorem clampN_in' {n m : Int} (h : 0 ≤ m) : -m ≤ clampN n m ∧ clampN n m ≤ m := by unfold clampN; omega
theorem pushR_ok {b : Bd} {l : List V} (h : bodyE b l = 0) (jx jy u v : Int) : bodyE (pushR b jx jy u v) l = 0 := by
 unfold pushR
 by_cases c : b.mass = 0 ∨ b.asleep = true
 ·rw [if_pos c]; exact h
 ·rw [if_neg c]
  obtain ⟨h1, h2⟩ := bodyE_zero h
  unfold bodyE
  rw [if_neg (by simp [h1])]
  have c1 : (b.mass == 0) = false := by simp; intro e; exact c (.inl e)
  have c2 : b.asleep = false := by cases q : b.asleep with | false => rfl | true => exact absurd (.inr q) c
  unfold numE at h2 ⊢
  by_cases k1 : (withinB 58982400 b.px b.py && withinB 268435456 b.vx b.vy && inB b.spin (-16777216) 16777216 && inB b.ang 0 65535) = true
  ·rw [if_pos k1] at h2
   simp only [Bool.and_eq_true] at k1
   dsimp only
   rw [if_pos (by
    have w1 := withinB_iff.2 (show -268435456 ≤ clampN (addF b.vx (divF jx b.mass)) 268435456 ∧ clampN (addF b.vx (divF jx b.mass)) 268435456 ≤ 268435456 ∧ -268435456 ≤ clampN (addF b.vy (divF jy b.mass)) 268435456 ∧ clampN (addF b.vy (divF jy b.mass)) 268435456 ≤ 268435456 by
     have := clampN_in' (n := addF b.vx (divF jx b.mass)) (m := 268435456) (by omega)
     have := clampN_in' (n := addF b.vy (divF jy b.mass)) (m := 268435456) (by omega)
     omega)
    have i1 : ∀ n, inB (clampN n 16777216) (-16777216) 16777216 = true := fun n => inB_iff.2 (clampN_in' (by omega))
    simp only [w1, i1, k1.1.1.1, k1.2, Bool.and_self])]
   by_cases k2 : (inB b.mass 0 1099511627776 && inB b.iner 0 1099511627776 && inB b.bounce 0 65536 && inB b.rub 0 65536 && inB b.calm 0 1000) = true
   ·rw [if_pos k2] at h2 ⊢
    simp only [c1, c2, Bool.false_and, Bool.or_false] at h2 ⊢
    exact h2
   ·rw [if_neg k2] at h2; cases h2
  ·rw [if_neg k1] at h2; cases h2

def valB (x : BE) : Bd × List V := (x.b, x.l)
end
end Go.Proofs.YtiaoandbdgdecaaGreat
namespace Go.Proofs.YtiaoandbdgdecaaGreat
section
set_option linter.unusedVariables false
set_option linter.unusedSimpArgs false
open Go.RowKit

def faultTo (f : Nat → Int) : Nat → Int
 | 0 => 0
 | k + 1 => if faultTo f k ≠ 0 then faultTo f k else f k
theorem faultTo_stop (f : Nat → Int) {k : Nat} (h : faultTo f (k + 1) ≠ 0) : ∀ {m : Nat}, k < m → faultTo f m = faultTo f (k + 1)
 | 0, g => by omega
 | m + 1, g => by
  rcases Nat.lt_or_ge k m with q | q
  ·have := faultTo_stop f h (m := m) q
   rw [show faultTo f (m + 1) = if faultTo f m ≠ 0 then faultTo f m else f m from rfl, if_pos (by rw [this]; exact h), this]
  ·rw [show m = k by omega]
theorem faultTo_zero {f : Nat → Int} : ∀ {m : Nat}, faultTo f m = 0 → ∀ k, k < m → f k = 0
 | 0, _, k, h => by omega
 | m + 1, hz, k, h => by
  have hz : (if faultTo f m ≠ 0 then faultTo f m else f m) = 0 := hz
  by_cases h0 : faultTo f m = 0
  ·rw [if_neg (by simp [h0])] at hz
   rcases Nat.lt_or_ge k m with g | g
   ·exact faultTo_zero h0 k g
   ·rw [show k = m by omega]; exact hz
  ·rw [if_pos h0] at hz; exact absurd hz h0
end
end Go.Proofs.YtiaoandbdgdecaaGreat
