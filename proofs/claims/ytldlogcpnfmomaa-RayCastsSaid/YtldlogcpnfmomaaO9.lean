/- The walk of RayCasts. -/
import Derived.Test.YtldlogcpnfmomaaO7
import Derived.Test.YtldlogcpnfmomaaO8
import Derived.Test.YtldlogcpnfmomaaM15
namespace Go.Proofs.Ytldlogcpnfmomaa
set_option linter.unusedVariables false
set_option linter.unusedSimpArgs false
open Go.RowKit

theorem lineR_pos {D : List V} {f u : V} {t : Int} (h : lineR D f u = some t) : 0 ≤ t := by
  have ok := ln_ok (rnum D f) (rden D u) D.length
  unfold lineR at h
  generalize lnF (rnum D f) (rden D u) D.length = s at ok h
  match s, ok, h with
  | none, ok, h => cases h
  | some (e, v), ok, h =>
    obtain ⟨e2, -, e1, -⟩ := ok
    have h : (if v.1 * e.2 < e.1 * v.2 then none else some (e.1 * 65536 / e.2)) = some t := h
    by_cases c : v.1 * e.2 < e.1 * v.2
    · rw [if_pos c] at h; cases h
    · rw [if_neg c] at h
      cases h
      exact Int.ediv_nonneg (by omega) (by omega)
set_option maxRecDepth 100000 in
set_option maxHeartbeats 16000000 in
theorem rayCasts_walk (B A : Option Addr) (m d n c : Nat) (L : List BE) (p : List V) (fx fy ux uy : Int) (w : World) (hS0 : SlB w B m d L) (hS1 : Sl w A n c p) : Calls Try.prog 3 #[.slice B m d, .slice A n c, vecV fx fy, vecV ux uy] w (Ret (.bool true) w) := by
  have HSB := hid hS0
  have HSP := hid hS1
  clear hS0 hS1
  obtain ⟨W, hW⟩ : ∃ W, W = (w.alloc (.cells #[.int .i64 fx, .int .i64 fy] 25)).alloc (.cells #[.int .i64 ux, .int .i64 uy] 25) := ⟨_, rfl⟩
  have f0 : W.cell? ⟨w.heap.size, 0, none⟩ = some (.int .i64 fx) := by rw [hW]; go_simp
  have f1 : W.cell? ⟨w.heap.size, 1, none⟩ = some (.int .i64 fy) := by rw [hW]; go_simp
  have u0 : W.cell? ⟨w.heap.size + 1, 0, none⟩ = some (.int .i64 ux) := by rw [hW]; go_simp
  have u1 : W.cell? ⟨w.heap.size + 1, 1, none⟩ = some (.int .i64 uy) := by rw [hW]; go_simp
  have hB : Below w.heap.size w W := by rw [hW]; go_grown
  have HLN := hid (fun (w' : World) (hb : Below w.heap.size w w') => rayLine_calls A n c p fx fy ux uy w' (HSP.out.below hb))
  have HCA := hid (fun (w' : World) (hb : Below w.heap.size w w') => cast_calls B m d L fx fy ux uy w' (HSB.out.below hb))
  have HPO : Hid (∀ w' : World, Below w.heap.size w w' → Calls Try.prog 18 #[.slice A n c] w' (Ret (.int .i64 (checkE p)) w')) := fun w' hb => by rw [check_eq_poly]; exact rpoly_calls A n c p w' (HSP.out.below hb)
  have HBO := hid (fun (w' : World) (hb : Below w.heap.size w w') => rbodies_calls B m d L w' (HSB.out.below hb))
  have HRL : Hid (∀ w' : World, Below w.heap.size w w' → checkE p = 0 → withinB 65536000 fx fy = true → withinB 65536000 ux uy = true → Calls Try.prog 21 #[.slice A n c, vecV fx fy, vecV ux uy] w' (Ret (.tuple #[.int .i64 ((lineR p (fx, fy) (ux, uy)).getD 0), .bool (lineR p (fx, fy) (ux, uy)).isSome]) w')) := fun w' hb hok h1 h2 => by
    obtain ⟨q8, q3, qw, -⟩ := checkE_zero hok
    have := rLine_calls A n c p fx fy ux uy w' (HSP.out.below hb) (within_le (n := 131072000) qw (by omega)) (by omega) h1 h2
    rw [← line_law (pol_of hok)] at this
    exact this
  have HH : Hid True := trivial
  go_enter Try.func3, Try.ntmps3
  go_upto_region 1 with fail
  rw [← hW]
  clear hW
  cases h1 : withinB 65536000 fx fy with
  | false =>
    have HW1 := hid h1
    by_cases hE1 : checkE p = 0
    · have HL : Hid (lineV p (fx, fy) (ux, uy) = 0 ∧ lineE p (fx, fy) (ux, uy) = 1) := by
        have e : lineE p (fx, fy) (ux, uy) = 1 := by unfold lineE; rw [if_neg (by simp [hE1]), if_pos (by simp [*])]
        exact ⟨by unfold lineV; rw [e]; rfl, e⟩
      rw [HL.out.1, HL.out.2] at HLN
      rw [hE1] at HPO
      clear HL HRL hE1
      by_cases hE2 : bodiesE L = 0
      · have HCV : Hid (castV L (fx, fy) (ux, uy) = .tuple #[.int .i64 0, .int .i64 0, .int .i64 1]) := by show _ = _; unfold castV; rw [if_neg (by simp [hE2]), if_pos (by simp [*])]
        rw [HCV.out] at HCA
        rw [hE2] at HBO
        clear HCV hE2
        clear HH
        go_wp2_with (first | (go_at_call 15; refine (rayBegun_calls _).mono ?_; rintro e wk ⟨rfl, hb⟩; replace f0 := keepCell hb f0; replace f1 := keepCell hb f1; replace u0 := keepCell hb u0; replace u1 := keepCell hb u1; replace hB := keepBelow hb hB; clear hb) | (go_at_call 16; refine (HLN.out _ hB).mono ?_; rintro e wk ⟨rfl, hb⟩; replace f0 := keepCell hb f0; replace f1 := keepCell hb f1; replace u0 := keepCell hb u0; replace u1 := keepCell hb u1; replace hB := keepBelow hb hB; clear hb) | (go_at_call 17; refine (HCA.out _ hB).mono ?_; rintro e wk ⟨rfl, hb⟩; replace f0 := keepCell hb f0; replace f1 := keepCell hb f1; replace u0 := keepCell hb u0; replace u1 := keepCell hb u1; replace hB := keepBelow hb hB; clear hb) | (go_at_call 18; refine (HPO.out _ hB).mono ?_; rintro e wk ⟨rfl, hb⟩; replace f0 := keepCell hb f0; replace f1 := keepCell hb f1; replace u0 := keepCell hb u0; replace u1 := keepCell hb u1; replace hB := keepBelow hb hB; clear hb) | (go_at_call 19; refine (HBO.out _ hB).mono ?_; rintro e wk ⟨rfl, hb⟩; replace f0 := keepCell hb f0; replace f1 := keepCell hb f1; replace u0 := keepCell hb u0; replace u1 := keepCell hb u1; replace hB := keepBelow hb hB; clear hb) | (go_at_call 20; refine (near1000_calls _ _ _).mono ?_; rintro e wk ⟨rfl, hb⟩; replace f0 := keepCell hb f0; replace f1 := keepCell hb f1; replace u0 := keepCell hb u0; replace u1 := keepCell hb u1; replace hB := keepBelow hb hB; clear hb; (try rw [HW1.out]); (try rw [HW2.out])))
        go_returns
        exact ret_bool (by simp) hB
      · have HCV : Hid (castV L (fx, fy) (ux, uy) = .tuple #[.int .i64 0, .int .i64 0, .int .i64 (bodiesE L)]) := by show _ = _; unfold castV; rw [if_pos hE2]
        rw [HCV.out] at HCA
        clear HCV
        clear HH
        have hne2 : (bodiesE L != 0) = true := by simp [hE2]
        generalize bodiesE L = z2 at *
        go_wp2_with (first | (go_at_call 15; refine (rayBegun_calls _).mono ?_; rintro e wk ⟨rfl, hb⟩; replace f0 := keepCell hb f0; replace f1 := keepCell hb f1; replace u0 := keepCell hb u0; replace u1 := keepCell hb u1; replace hB := keepBelow hb hB; clear hb) | (go_at_call 16; refine (HLN.out _ hB).mono ?_; rintro e wk ⟨rfl, hb⟩; replace f0 := keepCell hb f0; replace f1 := keepCell hb f1; replace u0 := keepCell hb u0; replace u1 := keepCell hb u1; replace hB := keepBelow hb hB; clear hb) | (go_at_call 17; refine (HCA.out _ hB).mono ?_; rintro e wk ⟨rfl, hb⟩; replace f0 := keepCell hb f0; replace f1 := keepCell hb f1; replace u0 := keepCell hb u0; replace u1 := keepCell hb u1; replace hB := keepBelow hb hB; clear hb) | (go_at_call 18; refine (HPO.out _ hB).mono ?_; rintro e wk ⟨rfl, hb⟩; replace f0 := keepCell hb f0; replace f1 := keepCell hb f1; replace u0 := keepCell hb u0; replace u1 := keepCell hb u1; replace hB := keepBelow hb hB; clear hb) | (go_at_call 19; refine (HBO.out _ hB).mono ?_; rintro e wk ⟨rfl, hb⟩; replace f0 := keepCell hb f0; replace f1 := keepCell hb f1; replace u0 := keepCell hb u0; replace u1 := keepCell hb u1; replace hB := keepBelow hb hB; clear hb) | (go_at_call 20; refine (near1000_calls _ _ _).mono ?_; rintro e wk ⟨rfl, hb⟩; replace f0 := keepCell hb f0; replace f1 := keepCell hb f1; replace u0 := keepCell hb u0; replace u1 := keepCell hb u1; replace hB := keepBelow hb hB; clear hb; (try rw [HW1.out]); (try rw [HW2.out])))
        go_returns
        exact ret_bool (by simp) hB
    · have HL : Hid (lineV p (fx, fy) (ux, uy) = 0 ∧ lineE p (fx, fy) (ux, uy) = checkE p) := by
        have e : lineE p (fx, fy) (ux, uy) = checkE p := by unfold lineE; rw [if_pos hE1]
        exact ⟨by unfold lineV; rw [e, if_neg hE1], e⟩
      rw [HL.out.1, HL.out.2] at HLN
      have hne1 : (checkE p != 0) = true := by simp [hE1]
      clear HL HRL
      generalize checkE p = z1 at *
      by_cases hE2 : bodiesE L = 0
      · have HCV : Hid (castV L (fx, fy) (ux, uy) = .tuple #[.int .i64 0, .int .i64 0, .int .i64 1]) := by show _ = _; unfold castV; rw [if_neg (by simp [hE2]), if_pos (by simp [*])]
        rw [HCV.out] at HCA
        rw [hE2] at HBO
        clear HCV hE2
        clear HH
        go_wp2_with (first | (go_at_call 15; refine (rayBegun_calls _).mono ?_; rintro e wk ⟨rfl, hb⟩; replace f0 := keepCell hb f0; replace f1 := keepCell hb f1; replace u0 := keepCell hb u0; replace u1 := keepCell hb u1; replace hB := keepBelow hb hB; clear hb) | (go_at_call 16; refine (HLN.out _ hB).mono ?_; rintro e wk ⟨rfl, hb⟩; replace f0 := keepCell hb f0; replace f1 := keepCell hb f1; replace u0 := keepCell hb u0; replace u1 := keepCell hb u1; replace hB := keepBelow hb hB; clear hb) | (go_at_call 17; refine (HCA.out _ hB).mono ?_; rintro e wk ⟨rfl, hb⟩; replace f0 := keepCell hb f0; replace f1 := keepCell hb f1; replace u0 := keepCell hb u0; replace u1 := keepCell hb u1; replace hB := keepBelow hb hB; clear hb) | (go_at_call 18; refine (HPO.out _ hB).mono ?_; rintro e wk ⟨rfl, hb⟩; replace f0 := keepCell hb f0; replace f1 := keepCell hb f1; replace u0 := keepCell hb u0; replace u1 := keepCell hb u1; replace hB := keepBelow hb hB; clear hb) | (go_at_call 19; refine (HBO.out _ hB).mono ?_; rintro e wk ⟨rfl, hb⟩; replace f0 := keepCell hb f0; replace f1 := keepCell hb f1; replace u0 := keepCell hb u0; replace u1 := keepCell hb u1; replace hB := keepBelow hb hB; clear hb) | (go_at_call 20; refine (near1000_calls _ _ _).mono ?_; rintro e wk ⟨rfl, hb⟩; replace f0 := keepCell hb f0; replace f1 := keepCell hb f1; replace u0 := keepCell hb u0; replace u1 := keepCell hb u1; replace hB := keepBelow hb hB; clear hb; (try rw [HW1.out]); (try rw [HW2.out])))
        go_returns
        exact ret_bool (by simp) hB
      · have HCV : Hid (castV L (fx, fy) (ux, uy) = .tuple #[.int .i64 0, .int .i64 0, .int .i64 (bodiesE L)]) := by show _ = _; unfold castV; rw [if_pos hE2]
        rw [HCV.out] at HCA
        clear HCV
        clear HH
        have hne2 : (bodiesE L != 0) = true := by simp [hE2]
        generalize bodiesE L = z2 at *
        go_wp2_with (first | (go_at_call 15; refine (rayBegun_calls _).mono ?_; rintro e wk ⟨rfl, hb⟩; replace f0 := keepCell hb f0; replace f1 := keepCell hb f1; replace u0 := keepCell hb u0; replace u1 := keepCell hb u1; replace hB := keepBelow hb hB; clear hb) | (go_at_call 16; refine (HLN.out _ hB).mono ?_; rintro e wk ⟨rfl, hb⟩; replace f0 := keepCell hb f0; replace f1 := keepCell hb f1; replace u0 := keepCell hb u0; replace u1 := keepCell hb u1; replace hB := keepBelow hb hB; clear hb) | (go_at_call 17; refine (HCA.out _ hB).mono ?_; rintro e wk ⟨rfl, hb⟩; replace f0 := keepCell hb f0; replace f1 := keepCell hb f1; replace u0 := keepCell hb u0; replace u1 := keepCell hb u1; replace hB := keepBelow hb hB; clear hb) | (go_at_call 18; refine (HPO.out _ hB).mono ?_; rintro e wk ⟨rfl, hb⟩; replace f0 := keepCell hb f0; replace f1 := keepCell hb f1; replace u0 := keepCell hb u0; replace u1 := keepCell hb u1; replace hB := keepBelow hb hB; clear hb) | (go_at_call 19; refine (HBO.out _ hB).mono ?_; rintro e wk ⟨rfl, hb⟩; replace f0 := keepCell hb f0; replace f1 := keepCell hb f1; replace u0 := keepCell hb u0; replace u1 := keepCell hb u1; replace hB := keepBelow hb hB; clear hb) | (go_at_call 20; refine (near1000_calls _ _ _).mono ?_; rintro e wk ⟨rfl, hb⟩; replace f0 := keepCell hb f0; replace f1 := keepCell hb f1; replace u0 := keepCell hb u0; replace u1 := keepCell hb u1; replace hB := keepBelow hb hB; clear hb; (try rw [HW1.out]); (try rw [HW2.out])))
        go_returns
        exact ret_bool (by simp) hB
  | true =>
    have HW1 := hid h1
    cases h2 : withinB 65536000 ux uy with
    | false =>
      have HW2 := hid h2
      by_cases hE1 : checkE p = 0
      · have HL : Hid (lineV p (fx, fy) (ux, uy) = 0 ∧ lineE p (fx, fy) (ux, uy) = 1) := by
          have e : lineE p (fx, fy) (ux, uy) = 1 := by unfold lineE; rw [if_neg (by simp [hE1]), if_pos (by simp [*])]
          exact ⟨by unfold lineV; rw [e]; rfl, e⟩
        rw [HL.out.1, HL.out.2] at HLN
        rw [hE1] at HPO
        clear HL HRL hE1
        by_cases hE2 : bodiesE L = 0
        · have HCV : Hid (castV L (fx, fy) (ux, uy) = .tuple #[.int .i64 0, .int .i64 0, .int .i64 1]) := by show _ = _; unfold castV; rw [if_neg (by simp [hE2]), if_pos (by simp [*])]
          rw [HCV.out] at HCA
          rw [hE2] at HBO
          clear HCV hE2
          clear HH
          go_wp2_with (first | (go_at_call 15; refine (rayBegun_calls _).mono ?_; rintro e wk ⟨rfl, hb⟩; replace f0 := keepCell hb f0; replace f1 := keepCell hb f1; replace u0 := keepCell hb u0; replace u1 := keepCell hb u1; replace hB := keepBelow hb hB; clear hb) | (go_at_call 16; refine (HLN.out _ hB).mono ?_; rintro e wk ⟨rfl, hb⟩; replace f0 := keepCell hb f0; replace f1 := keepCell hb f1; replace u0 := keepCell hb u0; replace u1 := keepCell hb u1; replace hB := keepBelow hb hB; clear hb) | (go_at_call 17; refine (HCA.out _ hB).mono ?_; rintro e wk ⟨rfl, hb⟩; replace f0 := keepCell hb f0; replace f1 := keepCell hb f1; replace u0 := keepCell hb u0; replace u1 := keepCell hb u1; replace hB := keepBelow hb hB; clear hb) | (go_at_call 18; refine (HPO.out _ hB).mono ?_; rintro e wk ⟨rfl, hb⟩; replace f0 := keepCell hb f0; replace f1 := keepCell hb f1; replace u0 := keepCell hb u0; replace u1 := keepCell hb u1; replace hB := keepBelow hb hB; clear hb) | (go_at_call 19; refine (HBO.out _ hB).mono ?_; rintro e wk ⟨rfl, hb⟩; replace f0 := keepCell hb f0; replace f1 := keepCell hb f1; replace u0 := keepCell hb u0; replace u1 := keepCell hb u1; replace hB := keepBelow hb hB; clear hb) | (go_at_call 20; refine (near1000_calls _ _ _).mono ?_; rintro e wk ⟨rfl, hb⟩; replace f0 := keepCell hb f0; replace f1 := keepCell hb f1; replace u0 := keepCell hb u0; replace u1 := keepCell hb u1; replace hB := keepBelow hb hB; clear hb; (try rw [HW1.out]); (try rw [HW2.out])))
          go_returns
          exact ret_bool (by simp) hB
        · have HCV : Hid (castV L (fx, fy) (ux, uy) = .tuple #[.int .i64 0, .int .i64 0, .int .i64 (bodiesE L)]) := by show _ = _; unfold castV; rw [if_pos hE2]
          rw [HCV.out] at HCA
          clear HCV
          clear HH
          have hne2 : (bodiesE L != 0) = true := by simp [hE2]
          generalize bodiesE L = z2 at *
          go_wp2_with (first | (go_at_call 15; refine (rayBegun_calls _).mono ?_; rintro e wk ⟨rfl, hb⟩; replace f0 := keepCell hb f0; replace f1 := keepCell hb f1; replace u0 := keepCell hb u0; replace u1 := keepCell hb u1; replace hB := keepBelow hb hB; clear hb) | (go_at_call 16; refine (HLN.out _ hB).mono ?_; rintro e wk ⟨rfl, hb⟩; replace f0 := keepCell hb f0; replace f1 := keepCell hb f1; replace u0 := keepCell hb u0; replace u1 := keepCell hb u1; replace hB := keepBelow hb hB; clear hb) | (go_at_call 17; refine (HCA.out _ hB).mono ?_; rintro e wk ⟨rfl, hb⟩; replace f0 := keepCell hb f0; replace f1 := keepCell hb f1; replace u0 := keepCell hb u0; replace u1 := keepCell hb u1; replace hB := keepBelow hb hB; clear hb) | (go_at_call 18; refine (HPO.out _ hB).mono ?_; rintro e wk ⟨rfl, hb⟩; replace f0 := keepCell hb f0; replace f1 := keepCell hb f1; replace u0 := keepCell hb u0; replace u1 := keepCell hb u1; replace hB := keepBelow hb hB; clear hb) | (go_at_call 19; refine (HBO.out _ hB).mono ?_; rintro e wk ⟨rfl, hb⟩; replace f0 := keepCell hb f0; replace f1 := keepCell hb f1; replace u0 := keepCell hb u0; replace u1 := keepCell hb u1; replace hB := keepBelow hb hB; clear hb) | (go_at_call 20; refine (near1000_calls _ _ _).mono ?_; rintro e wk ⟨rfl, hb⟩; replace f0 := keepCell hb f0; replace f1 := keepCell hb f1; replace u0 := keepCell hb u0; replace u1 := keepCell hb u1; replace hB := keepBelow hb hB; clear hb; (try rw [HW1.out]); (try rw [HW2.out])))
          go_returns
          exact ret_bool (by simp) hB
      · have HL : Hid (lineV p (fx, fy) (ux, uy) = 0 ∧ lineE p (fx, fy) (ux, uy) = checkE p) := by
          have e : lineE p (fx, fy) (ux, uy) = checkE p := by unfold lineE; rw [if_pos hE1]
          exact ⟨by unfold lineV; rw [e, if_neg hE1], e⟩
        rw [HL.out.1, HL.out.2] at HLN
        have hne1 : (checkE p != 0) = true := by simp [hE1]
        clear HL HRL
        generalize checkE p = z1 at *
        by_cases hE2 : bodiesE L = 0
        · have HCV : Hid (castV L (fx, fy) (ux, uy) = .tuple #[.int .i64 0, .int .i64 0, .int .i64 1]) := by show _ = _; unfold castV; rw [if_neg (by simp [hE2]), if_pos (by simp [*])]
          rw [HCV.out] at HCA
          rw [hE2] at HBO
          clear HCV hE2
          clear HH
          go_wp2_with (first | (go_at_call 15; refine (rayBegun_calls _).mono ?_; rintro e wk ⟨rfl, hb⟩; replace f0 := keepCell hb f0; replace f1 := keepCell hb f1; replace u0 := keepCell hb u0; replace u1 := keepCell hb u1; replace hB := keepBelow hb hB; clear hb) | (go_at_call 16; refine (HLN.out _ hB).mono ?_; rintro e wk ⟨rfl, hb⟩; replace f0 := keepCell hb f0; replace f1 := keepCell hb f1; replace u0 := keepCell hb u0; replace u1 := keepCell hb u1; replace hB := keepBelow hb hB; clear hb) | (go_at_call 17; refine (HCA.out _ hB).mono ?_; rintro e wk ⟨rfl, hb⟩; replace f0 := keepCell hb f0; replace f1 := keepCell hb f1; replace u0 := keepCell hb u0; replace u1 := keepCell hb u1; replace hB := keepBelow hb hB; clear hb) | (go_at_call 18; refine (HPO.out _ hB).mono ?_; rintro e wk ⟨rfl, hb⟩; replace f0 := keepCell hb f0; replace f1 := keepCell hb f1; replace u0 := keepCell hb u0; replace u1 := keepCell hb u1; replace hB := keepBelow hb hB; clear hb) | (go_at_call 19; refine (HBO.out _ hB).mono ?_; rintro e wk ⟨rfl, hb⟩; replace f0 := keepCell hb f0; replace f1 := keepCell hb f1; replace u0 := keepCell hb u0; replace u1 := keepCell hb u1; replace hB := keepBelow hb hB; clear hb) | (go_at_call 20; refine (near1000_calls _ _ _).mono ?_; rintro e wk ⟨rfl, hb⟩; replace f0 := keepCell hb f0; replace f1 := keepCell hb f1; replace u0 := keepCell hb u0; replace u1 := keepCell hb u1; replace hB := keepBelow hb hB; clear hb; (try rw [HW1.out]); (try rw [HW2.out])))
          go_returns
          exact ret_bool (by simp) hB
        · have HCV : Hid (castV L (fx, fy) (ux, uy) = .tuple #[.int .i64 0, .int .i64 0, .int .i64 (bodiesE L)]) := by show _ = _; unfold castV; rw [if_pos hE2]
          rw [HCV.out] at HCA
          clear HCV
          clear HH
          have hne2 : (bodiesE L != 0) = true := by simp [hE2]
          generalize bodiesE L = z2 at *
          go_wp2_with (first | (go_at_call 15; refine (rayBegun_calls _).mono ?_; rintro e wk ⟨rfl, hb⟩; replace f0 := keepCell hb f0; replace f1 := keepCell hb f1; replace u0 := keepCell hb u0; replace u1 := keepCell hb u1; replace hB := keepBelow hb hB; clear hb) | (go_at_call 16; refine (HLN.out _ hB).mono ?_; rintro e wk ⟨rfl, hb⟩; replace f0 := keepCell hb f0; replace f1 := keepCell hb f1; replace u0 := keepCell hb u0; replace u1 := keepCell hb u1; replace hB := keepBelow hb hB; clear hb) | (go_at_call 17; refine (HCA.out _ hB).mono ?_; rintro e wk ⟨rfl, hb⟩; replace f0 := keepCell hb f0; replace f1 := keepCell hb f1; replace u0 := keepCell hb u0; replace u1 := keepCell hb u1; replace hB := keepBelow hb hB; clear hb) | (go_at_call 18; refine (HPO.out _ hB).mono ?_; rintro e wk ⟨rfl, hb⟩; replace f0 := keepCell hb f0; replace f1 := keepCell hb f1; replace u0 := keepCell hb u0; replace u1 := keepCell hb u1; replace hB := keepBelow hb hB; clear hb) | (go_at_call 19; refine (HBO.out _ hB).mono ?_; rintro e wk ⟨rfl, hb⟩; replace f0 := keepCell hb f0; replace f1 := keepCell hb f1; replace u0 := keepCell hb u0; replace u1 := keepCell hb u1; replace hB := keepBelow hb hB; clear hb) | (go_at_call 20; refine (near1000_calls _ _ _).mono ?_; rintro e wk ⟨rfl, hb⟩; replace f0 := keepCell hb f0; replace f1 := keepCell hb f1; replace u0 := keepCell hb u0; replace u1 := keepCell hb u1; replace hB := keepBelow hb hB; clear hb; (try rw [HW1.out]); (try rw [HW2.out])))
          go_returns
          exact ret_bool (by simp) hB
    | true =>
      have HW2 := hid h2
      by_cases hE1 : checkE p = 0
      · have HLE : Hid (lineE p (fx, fy) (ux, uy) = if (lineR p (fx, fy) (ux, uy)).isSome = true then 0 else 4) := by show _ = _; unfold lineE; rw [if_neg (by simp [hE1]), if_neg (by simp [h1, h2])]
        have HLV : Hid (lineV p (fx, fy) (ux, uy) = if lineE p (fx, fy) (ux, uy) = 0 then (lineR p (fx, fy) (ux, uy)).getD 0 else 0) := rfl
        replace HRL := hid (fun w' hb => HRL.out w' hb hE1 h1 h2)
        rw [hE1] at HPO
        cases hl : lineR p (fx, fy) (ux, uy) with
        | none =>
          rw [hl] at HLE HLV
          simp only [hl, Option.getD_none, Option.isSome_none] at HRL
          have e1 : lineE p (fx, fy) (ux, uy) = 4 := HLE.out
          have e2 : lineV p (fx, fy) (ux, uy) = 0 := by rw [HLV.out, e1]; rfl
          rw [e1, e2] at HLN
          clear e1 e2 HLE HLV hl hE1
          by_cases hE2 : bodiesE L = 0
          · have HCV : Hid (castV L (fx, fy) (ux, uy) = frV (castO L (fx, fy) (ux, uy))) := by show _ = _; unfold castV; rw [if_neg (by simp [hE2]), if_neg (by simp [h1, h2])]
            have HFR : Hid (∀ w' : World, Below w.heap.size w w' → w'.cell? ⟨w.heap.size, 0, none⟩ = some (.int .i64 fx) → w'.cell? ⟨w.heap.size, 1, none⟩ = some (.int .i64 fy) → w'.cell? ⟨w.heap.size + 1, 0, none⟩ = some (.int .i64 ux) → w'.cell? ⟨w.heap.size + 1, 1, none⟩ = some (.int .i64 uy) → Calls Try.prog 22 #[.slice B m d, .func (.func 23) #[] #[.pointer (some ⟨w.heap.size, 0, none⟩), .pointer (some ⟨w.heap.size + 1, 0, none⟩)]] w' (Ret (frV (castO L (fx, fy) (ux, uy))) w')) := fun w' hb g0 g1 g2 g3 => by
              obtain ⟨h64, hval⟩ := bodiesE_zero hE2
              refine rfirst_calls 23 _ _ cf_casts1_calls (fun p => lineR p (fx, fy) (ux, uy)) B m d L w' (HSB.out.below hb) hval h64 (fun p t h => lineR_pos h) (fun x hx A1 n1 c1 w1 hb1 hs => ?_)
              have hok := placed_ok (hval x hx)
              obtain ⟨q8, q3, qw, -⟩ := checkE_zero hok
              have := casts1_calls A1 n1 c1 (placeL x.b x.l) w.heap.size (w.heap.size + 1) fx fy ux uy w1 ⟨keepCell hb1 g0, keepCell hb1 g1⟩ ⟨keepCell hb1 g2, keepCell hb1 g3⟩ hs (within_le (n := 131072000) qw (by omega)) (by omega) h1 h2
              rw [← line_law (pol_of hok)] at this
              exact this
            rw [HCV.out] at HCA
            rw [hE2] at HBO
            have HFV : Hid (frV (castO L (fx, fy) (ux, uy)) = .tuple #[.int .i64 (frI (castO L (fx, fy) (ux, uy))), .int .i64 (beZ (castO L (fx, fy) (ux, uy))), .int .i64 (frE (castO L (fx, fy) (ux, uy)))]) := rfl
            rw [HFV.out] at HCA HFR
            clear HFV HCV hE2 h1 h2
            generalize frI (castO L (fx, fy) (ux, uy)) = r1 at *
            generalize beZ (castO L (fx, fy) (ux, uy)) = r2 at *
            generalize frE (castO L (fx, fy) (ux, uy)) = r3 at *
            go_wp2_with (first | (go_at_call 15; refine (rayBegun_calls _).mono ?_; rintro e wk ⟨rfl, hb⟩; replace f0 := keepCell hb f0; replace f1 := keepCell hb f1; replace u0 := keepCell hb u0; replace u1 := keepCell hb u1; replace hB := keepBelow hb hB; clear hb) | (go_at_call 16; refine (HLN.out _ hB).mono ?_; rintro e wk ⟨rfl, hb⟩; replace f0 := keepCell hb f0; replace f1 := keepCell hb f1; replace u0 := keepCell hb u0; replace u1 := keepCell hb u1; replace hB := keepBelow hb hB; clear hb) | (go_at_call 17; refine (HCA.out _ hB).mono ?_; rintro e wk ⟨rfl, hb⟩; replace f0 := keepCell hb f0; replace f1 := keepCell hb f1; replace u0 := keepCell hb u0; replace u1 := keepCell hb u1; replace hB := keepBelow hb hB; clear hb) | (go_at_call 18; refine (HPO.out _ hB).mono ?_; rintro e wk ⟨rfl, hb⟩; replace f0 := keepCell hb f0; replace f1 := keepCell hb f1; replace u0 := keepCell hb u0; replace u1 := keepCell hb u1; replace hB := keepBelow hb hB; clear hb) | (go_at_call 19; refine (HBO.out _ hB).mono ?_; rintro e wk ⟨rfl, hb⟩; replace f0 := keepCell hb f0; replace f1 := keepCell hb f1; replace u0 := keepCell hb u0; replace u1 := keepCell hb u1; replace hB := keepBelow hb hB; clear hb) | (go_at_call 20; refine (near1000_calls _ _ _).mono ?_; rintro e wk ⟨rfl, hb⟩; replace f0 := keepCell hb f0; replace f1 := keepCell hb f1; replace u0 := keepCell hb u0; replace u1 := keepCell hb u1; replace hB := keepBelow hb hB; clear hb; (try rw [HW1.out]); (try rw [HW2.out])) | (go_at_call 21; refine (HRL.out _ hB).mono ?_; rintro e wk ⟨rfl, hb⟩; replace f0 := keepCell hb f0; replace f1 := keepCell hb f1; replace u0 := keepCell hb u0; replace u1 := keepCell hb u1; replace hB := keepBelow hb hB; clear hb) | (go_at_call 22; refine (HFR.out _ hB f0 f1 u0 u1).mono ?_; rintro e wk ⟨rfl, hb⟩; replace f0 := keepCell hb f0; replace f1 := keepCell hb f1; replace u0 := keepCell hb u0; replace u1 := keepCell hb u1; replace hB := keepBelow hb hB; clear hb))
            go_returns
            exact ret_bool (by simp) hB
          · have HCV : Hid (castV L (fx, fy) (ux, uy) = .tuple #[.int .i64 0, .int .i64 0, .int .i64 (bodiesE L)]) := by show _ = _; unfold castV; rw [if_pos hE2]
            rw [HCV.out] at HCA
            clear HCV
            clear HH
            have hne2 : (bodiesE L != 0) = true := by simp [hE2]
            generalize bodiesE L = z2 at *
            go_wp2_with (first | (go_at_call 15; refine (rayBegun_calls _).mono ?_; rintro e wk ⟨rfl, hb⟩; replace f0 := keepCell hb f0; replace f1 := keepCell hb f1; replace u0 := keepCell hb u0; replace u1 := keepCell hb u1; replace hB := keepBelow hb hB; clear hb) | (go_at_call 16; refine (HLN.out _ hB).mono ?_; rintro e wk ⟨rfl, hb⟩; replace f0 := keepCell hb f0; replace f1 := keepCell hb f1; replace u0 := keepCell hb u0; replace u1 := keepCell hb u1; replace hB := keepBelow hb hB; clear hb) | (go_at_call 17; refine (HCA.out _ hB).mono ?_; rintro e wk ⟨rfl, hb⟩; replace f0 := keepCell hb f0; replace f1 := keepCell hb f1; replace u0 := keepCell hb u0; replace u1 := keepCell hb u1; replace hB := keepBelow hb hB; clear hb) | (go_at_call 18; refine (HPO.out _ hB).mono ?_; rintro e wk ⟨rfl, hb⟩; replace f0 := keepCell hb f0; replace f1 := keepCell hb f1; replace u0 := keepCell hb u0; replace u1 := keepCell hb u1; replace hB := keepBelow hb hB; clear hb) | (go_at_call 19; refine (HBO.out _ hB).mono ?_; rintro e wk ⟨rfl, hb⟩; replace f0 := keepCell hb f0; replace f1 := keepCell hb f1; replace u0 := keepCell hb u0; replace u1 := keepCell hb u1; replace hB := keepBelow hb hB; clear hb) | (go_at_call 20; refine (near1000_calls _ _ _).mono ?_; rintro e wk ⟨rfl, hb⟩; replace f0 := keepCell hb f0; replace f1 := keepCell hb f1; replace u0 := keepCell hb u0; replace u1 := keepCell hb u1; replace hB := keepBelow hb hB; clear hb; (try rw [HW1.out]); (try rw [HW2.out])) | (go_at_call 21; refine (HRL.out _ hB).mono ?_; rintro e wk ⟨rfl, hb⟩; replace f0 := keepCell hb f0; replace f1 := keepCell hb f1; replace u0 := keepCell hb u0; replace u1 := keepCell hb u1; replace hB := keepBelow hb hB; clear hb))
            go_returns
            exact ret_bool (by simp) hB
        | some t0 =>
          rw [hl] at HLE HLV
          simp only [hl, Option.getD_some, Option.isSome_some] at HRL
          have e1 : lineE p (fx, fy) (ux, uy) = 0 := HLE.out
          have e2 : lineV p (fx, fy) (ux, uy) = t0 := by rw [HLV.out, e1]; rfl
          rw [e1, e2] at HLN
          clear e1 e2 HLE HLV hl hE1
          by_cases hE2 : bodiesE L = 0
          · have HCV : Hid (castV L (fx, fy) (ux, uy) = frV (castO L (fx, fy) (ux, uy))) := by show _ = _; unfold castV; rw [if_neg (by simp [hE2]), if_neg (by simp [h1, h2])]
            have HFR : Hid (∀ w' : World, Below w.heap.size w w' → w'.cell? ⟨w.heap.size, 0, none⟩ = some (.int .i64 fx) → w'.cell? ⟨w.heap.size, 1, none⟩ = some (.int .i64 fy) → w'.cell? ⟨w.heap.size + 1, 0, none⟩ = some (.int .i64 ux) → w'.cell? ⟨w.heap.size + 1, 1, none⟩ = some (.int .i64 uy) → Calls Try.prog 22 #[.slice B m d, .func (.func 23) #[] #[.pointer (some ⟨w.heap.size, 0, none⟩), .pointer (some ⟨w.heap.size + 1, 0, none⟩)]] w' (Ret (frV (castO L (fx, fy) (ux, uy))) w')) := fun w' hb g0 g1 g2 g3 => by
              obtain ⟨h64, hval⟩ := bodiesE_zero hE2
              refine rfirst_calls 23 _ _ cf_casts1_calls (fun p => lineR p (fx, fy) (ux, uy)) B m d L w' (HSB.out.below hb) hval h64 (fun p t h => lineR_pos h) (fun x hx A1 n1 c1 w1 hb1 hs => ?_)
              have hok := placed_ok (hval x hx)
              obtain ⟨q8, q3, qw, -⟩ := checkE_zero hok
              have := casts1_calls A1 n1 c1 (placeL x.b x.l) w.heap.size (w.heap.size + 1) fx fy ux uy w1 ⟨keepCell hb1 g0, keepCell hb1 g1⟩ ⟨keepCell hb1 g2, keepCell hb1 g3⟩ hs (within_le (n := 131072000) qw (by omega)) (by omega) h1 h2
              rw [← line_law (pol_of hok)] at this
              exact this
            rw [HCV.out] at HCA
            rw [hE2] at HBO
            have HFV : Hid (frV (castO L (fx, fy) (ux, uy)) = .tuple #[.int .i64 (frI (castO L (fx, fy) (ux, uy))), .int .i64 (beZ (castO L (fx, fy) (ux, uy))), .int .i64 (frE (castO L (fx, fy) (ux, uy)))]) := rfl
            rw [HFV.out] at HCA HFR
            clear HFV HCV hE2 h1 h2
            generalize frI (castO L (fx, fy) (ux, uy)) = r1 at *
            generalize beZ (castO L (fx, fy) (ux, uy)) = r2 at *
            generalize frE (castO L (fx, fy) (ux, uy)) = r3 at *
            go_wp2_with (first | (go_at_call 15; refine (rayBegun_calls _).mono ?_; rintro e wk ⟨rfl, hb⟩; replace f0 := keepCell hb f0; replace f1 := keepCell hb f1; replace u0 := keepCell hb u0; replace u1 := keepCell hb u1; replace hB := keepBelow hb hB; clear hb) | (go_at_call 16; refine (HLN.out _ hB).mono ?_; rintro e wk ⟨rfl, hb⟩; replace f0 := keepCell hb f0; replace f1 := keepCell hb f1; replace u0 := keepCell hb u0; replace u1 := keepCell hb u1; replace hB := keepBelow hb hB; clear hb) | (go_at_call 17; refine (HCA.out _ hB).mono ?_; rintro e wk ⟨rfl, hb⟩; replace f0 := keepCell hb f0; replace f1 := keepCell hb f1; replace u0 := keepCell hb u0; replace u1 := keepCell hb u1; replace hB := keepBelow hb hB; clear hb) | (go_at_call 18; refine (HPO.out _ hB).mono ?_; rintro e wk ⟨rfl, hb⟩; replace f0 := keepCell hb f0; replace f1 := keepCell hb f1; replace u0 := keepCell hb u0; replace u1 := keepCell hb u1; replace hB := keepBelow hb hB; clear hb) | (go_at_call 19; refine (HBO.out _ hB).mono ?_; rintro e wk ⟨rfl, hb⟩; replace f0 := keepCell hb f0; replace f1 := keepCell hb f1; replace u0 := keepCell hb u0; replace u1 := keepCell hb u1; replace hB := keepBelow hb hB; clear hb) | (go_at_call 20; refine (near1000_calls _ _ _).mono ?_; rintro e wk ⟨rfl, hb⟩; replace f0 := keepCell hb f0; replace f1 := keepCell hb f1; replace u0 := keepCell hb u0; replace u1 := keepCell hb u1; replace hB := keepBelow hb hB; clear hb; (try rw [HW1.out]); (try rw [HW2.out])) | (go_at_call 21; refine (HRL.out _ hB).mono ?_; rintro e wk ⟨rfl, hb⟩; replace f0 := keepCell hb f0; replace f1 := keepCell hb f1; replace u0 := keepCell hb u0; replace u1 := keepCell hb u1; replace hB := keepBelow hb hB; clear hb) | (go_at_call 22; refine (HFR.out _ hB f0 f1 u0 u1).mono ?_; rintro e wk ⟨rfl, hb⟩; replace f0 := keepCell hb f0; replace f1 := keepCell hb f1; replace u0 := keepCell hb u0; replace u1 := keepCell hb u1; replace hB := keepBelow hb hB; clear hb))
            go_returns
            exact ret_bool (by simp) hB
          · have HCV : Hid (castV L (fx, fy) (ux, uy) = .tuple #[.int .i64 0, .int .i64 0, .int .i64 (bodiesE L)]) := by show _ = _; unfold castV; rw [if_pos hE2]
            rw [HCV.out] at HCA
            clear HCV
            clear HH
            have hne2 : (bodiesE L != 0) = true := by simp [hE2]
            generalize bodiesE L = z2 at *
            go_wp2_with (first | (go_at_call 15; refine (rayBegun_calls _).mono ?_; rintro e wk ⟨rfl, hb⟩; replace f0 := keepCell hb f0; replace f1 := keepCell hb f1; replace u0 := keepCell hb u0; replace u1 := keepCell hb u1; replace hB := keepBelow hb hB; clear hb) | (go_at_call 16; refine (HLN.out _ hB).mono ?_; rintro e wk ⟨rfl, hb⟩; replace f0 := keepCell hb f0; replace f1 := keepCell hb f1; replace u0 := keepCell hb u0; replace u1 := keepCell hb u1; replace hB := keepBelow hb hB; clear hb) | (go_at_call 17; refine (HCA.out _ hB).mono ?_; rintro e wk ⟨rfl, hb⟩; replace f0 := keepCell hb f0; replace f1 := keepCell hb f1; replace u0 := keepCell hb u0; replace u1 := keepCell hb u1; replace hB := keepBelow hb hB; clear hb) | (go_at_call 18; refine (HPO.out _ hB).mono ?_; rintro e wk ⟨rfl, hb⟩; replace f0 := keepCell hb f0; replace f1 := keepCell hb f1; replace u0 := keepCell hb u0; replace u1 := keepCell hb u1; replace hB := keepBelow hb hB; clear hb) | (go_at_call 19; refine (HBO.out _ hB).mono ?_; rintro e wk ⟨rfl, hb⟩; replace f0 := keepCell hb f0; replace f1 := keepCell hb f1; replace u0 := keepCell hb u0; replace u1 := keepCell hb u1; replace hB := keepBelow hb hB; clear hb) | (go_at_call 20; refine (near1000_calls _ _ _).mono ?_; rintro e wk ⟨rfl, hb⟩; replace f0 := keepCell hb f0; replace f1 := keepCell hb f1; replace u0 := keepCell hb u0; replace u1 := keepCell hb u1; replace hB := keepBelow hb hB; clear hb; (try rw [HW1.out]); (try rw [HW2.out])) | (go_at_call 21; refine (HRL.out _ hB).mono ?_; rintro e wk ⟨rfl, hb⟩; replace f0 := keepCell hb f0; replace f1 := keepCell hb f1; replace u0 := keepCell hb u0; replace u1 := keepCell hb u1; replace hB := keepBelow hb hB; clear hb))
            go_returns
            exact ret_bool (by simp) hB
      · have HL : Hid (lineV p (fx, fy) (ux, uy) = 0 ∧ lineE p (fx, fy) (ux, uy) = checkE p) := by
          have e : lineE p (fx, fy) (ux, uy) = checkE p := by unfold lineE; rw [if_pos hE1]
          exact ⟨by unfold lineV; rw [e, if_neg hE1], e⟩
        rw [HL.out.1, HL.out.2] at HLN
        have hne1 : (checkE p != 0) = true := by simp [hE1]
        clear HL HRL
        generalize checkE p = z1 at *
        by_cases hE2 : bodiesE L = 0
        · have HCV : Hid (castV L (fx, fy) (ux, uy) = frV (castO L (fx, fy) (ux, uy))) := by show _ = _; unfold castV; rw [if_neg (by simp [hE2]), if_neg (by simp [h1, h2])]
          have HFR : Hid (∀ w' : World, Below w.heap.size w w' → w'.cell? ⟨w.heap.size, 0, none⟩ = some (.int .i64 fx) → w'.cell? ⟨w.heap.size, 1, none⟩ = some (.int .i64 fy) → w'.cell? ⟨w.heap.size + 1, 0, none⟩ = some (.int .i64 ux) → w'.cell? ⟨w.heap.size + 1, 1, none⟩ = some (.int .i64 uy) → Calls Try.prog 22 #[.slice B m d, .func (.func 23) #[] #[.pointer (some ⟨w.heap.size, 0, none⟩), .pointer (some ⟨w.heap.size + 1, 0, none⟩)]] w' (Ret (frV (castO L (fx, fy) (ux, uy))) w')) := fun w' hb g0 g1 g2 g3 => by
            obtain ⟨h64, hval⟩ := bodiesE_zero hE2
            refine rfirst_calls 23 _ _ cf_casts1_calls (fun p => lineR p (fx, fy) (ux, uy)) B m d L w' (HSB.out.below hb) hval h64 (fun p t h => lineR_pos h) (fun x hx A1 n1 c1 w1 hb1 hs => ?_)
            have hok := placed_ok (hval x hx)
            obtain ⟨q8, q3, qw, -⟩ := checkE_zero hok
            have := casts1_calls A1 n1 c1 (placeL x.b x.l) w.heap.size (w.heap.size + 1) fx fy ux uy w1 ⟨keepCell hb1 g0, keepCell hb1 g1⟩ ⟨keepCell hb1 g2, keepCell hb1 g3⟩ hs (within_le (n := 131072000) qw (by omega)) (by omega) h1 h2
            rw [← line_law (pol_of hok)] at this
            exact this
          rw [HCV.out] at HCA
          rw [hE2] at HBO
          have HFV : Hid (frV (castO L (fx, fy) (ux, uy)) = .tuple #[.int .i64 (frI (castO L (fx, fy) (ux, uy))), .int .i64 (beZ (castO L (fx, fy) (ux, uy))), .int .i64 (frE (castO L (fx, fy) (ux, uy)))]) := rfl
          rw [HFV.out] at HCA HFR
          clear HFV HCV hE2 h1 h2
          generalize frI (castO L (fx, fy) (ux, uy)) = r1 at *
          generalize beZ (castO L (fx, fy) (ux, uy)) = r2 at *
          generalize frE (castO L (fx, fy) (ux, uy)) = r3 at *
          go_wp2_with (first | (go_at_call 15; refine (rayBegun_calls _).mono ?_; rintro e wk ⟨rfl, hb⟩; replace f0 := keepCell hb f0; replace f1 := keepCell hb f1; replace u0 := keepCell hb u0; replace u1 := keepCell hb u1; replace hB := keepBelow hb hB; clear hb) | (go_at_call 16; refine (HLN.out _ hB).mono ?_; rintro e wk ⟨rfl, hb⟩; replace f0 := keepCell hb f0; replace f1 := keepCell hb f1; replace u0 := keepCell hb u0; replace u1 := keepCell hb u1; replace hB := keepBelow hb hB; clear hb) | (go_at_call 17; refine (HCA.out _ hB).mono ?_; rintro e wk ⟨rfl, hb⟩; replace f0 := keepCell hb f0; replace f1 := keepCell hb f1; replace u0 := keepCell hb u0; replace u1 := keepCell hb u1; replace hB := keepBelow hb hB; clear hb) | (go_at_call 18; refine (HPO.out _ hB).mono ?_; rintro e wk ⟨rfl, hb⟩; replace f0 := keepCell hb f0; replace f1 := keepCell hb f1; replace u0 := keepCell hb u0; replace u1 := keepCell hb u1; replace hB := keepBelow hb hB; clear hb) | (go_at_call 19; refine (HBO.out _ hB).mono ?_; rintro e wk ⟨rfl, hb⟩; replace f0 := keepCell hb f0; replace f1 := keepCell hb f1; replace u0 := keepCell hb u0; replace u1 := keepCell hb u1; replace hB := keepBelow hb hB; clear hb) | (go_at_call 20; refine (near1000_calls _ _ _).mono ?_; rintro e wk ⟨rfl, hb⟩; replace f0 := keepCell hb f0; replace f1 := keepCell hb f1; replace u0 := keepCell hb u0; replace u1 := keepCell hb u1; replace hB := keepBelow hb hB; clear hb; (try rw [HW1.out]); (try rw [HW2.out])) | (go_at_call 22; refine (HFR.out _ hB f0 f1 u0 u1).mono ?_; rintro e wk ⟨rfl, hb⟩; replace f0 := keepCell hb f0; replace f1 := keepCell hb f1; replace u0 := keepCell hb u0; replace u1 := keepCell hb u1; replace hB := keepBelow hb hB; clear hb))
          go_returns
          exact ret_bool (by simp) hB
        · have HCV : Hid (castV L (fx, fy) (ux, uy) = .tuple #[.int .i64 0, .int .i64 0, .int .i64 (bodiesE L)]) := by show _ = _; unfold castV; rw [if_pos hE2]
          rw [HCV.out] at HCA
          clear HCV
          clear HH
          have hne2 : (bodiesE L != 0) = true := by simp [hE2]
          generalize bodiesE L = z2 at *
          go_wp2_with (first | (go_at_call 15; refine (rayBegun_calls _).mono ?_; rintro e wk ⟨rfl, hb⟩; replace f0 := keepCell hb f0; replace f1 := keepCell hb f1; replace u0 := keepCell hb u0; replace u1 := keepCell hb u1; replace hB := keepBelow hb hB; clear hb) | (go_at_call 16; refine (HLN.out _ hB).mono ?_; rintro e wk ⟨rfl, hb⟩; replace f0 := keepCell hb f0; replace f1 := keepCell hb f1; replace u0 := keepCell hb u0; replace u1 := keepCell hb u1; replace hB := keepBelow hb hB; clear hb) | (go_at_call 17; refine (HCA.out _ hB).mono ?_; rintro e wk ⟨rfl, hb⟩; replace f0 := keepCell hb f0; replace f1 := keepCell hb f1; replace u0 := keepCell hb u0; replace u1 := keepCell hb u1; replace hB := keepBelow hb hB; clear hb) | (go_at_call 18; refine (HPO.out _ hB).mono ?_; rintro e wk ⟨rfl, hb⟩; replace f0 := keepCell hb f0; replace f1 := keepCell hb f1; replace u0 := keepCell hb u0; replace u1 := keepCell hb u1; replace hB := keepBelow hb hB; clear hb) | (go_at_call 19; refine (HBO.out _ hB).mono ?_; rintro e wk ⟨rfl, hb⟩; replace f0 := keepCell hb f0; replace f1 := keepCell hb f1; replace u0 := keepCell hb u0; replace u1 := keepCell hb u1; replace hB := keepBelow hb hB; clear hb) | (go_at_call 20; refine (near1000_calls _ _ _).mono ?_; rintro e wk ⟨rfl, hb⟩; replace f0 := keepCell hb f0; replace f1 := keepCell hb f1; replace u0 := keepCell hb u0; replace u1 := keepCell hb u1; replace hB := keepBelow hb hB; clear hb; (try rw [HW1.out]); (try rw [HW2.out])))
          go_returns
          exact ret_bool (by simp) hB
end Go.Proofs.Ytldlogcpnfmomaa
