/- The walk of the law PolyChecks: it returns true, given the plain law. -/
import Derived.Test.YtjoodpjndpdjnaaZ3
namespace Go.Proofs.Ytjoodpjndpdjnaa
set_option linter.unusedVariables false
set_option linter.unusedSimpArgs false
open Go.RowKit

/-- the plain law -/
structure PolyChecksLaw (l : List V) (p q u v : Int) : Prop where
  check : checkE l = polyE l
  area : checkE l = 0 → areaZ l = rareaTo l l.length
  has : checkE l = 0 → hasB l p q = insB l p q
  far : checkE l = 0 → ∀ r, farIs l u v r → suppZ l u v = r

set_option maxRecDepth 100000 in
set_option maxHeartbeats 4000000 in
theorem polyChecks_walk (A : Option Addr) (n c : Nat) (l : List V) (p q u v : Int) (hu : i64 u) (hv : i64 v) (w : World) (hS : Sl w A n c l) (hL : PolyChecksLaw l p q u v) :
    Calls Try.prog 3 #[.slice A n c, vecV p q, vecV u v] w (Ret (.bool true) w) := by
  have hB0 : Below w.heap.size w ((w.alloc (.cells #[.int .i64 p, .int .i64 q] 24)).alloc (.cells #[.int .i64 u, .int .i64 v] 24)) := by go_grown
  have SLK := hid (fun (w' : World) (hb : Below w.heap.size w w') => hS.below hb)
  have HU := hid hu
  have HV := hid hv
  have HL := hid hL
  clear hS hu hv hL
  by_cases hE : checkE l = 0
  · obtain ⟨h8, h3, hw, _⟩ := checkE_zero hE
    have HW := hid hw
    have HE := hid hE
    have HP : Hid (polyE l = 0) := by rw [← HL.out.check]; exact hE
    have HA := hid (HL.out.area hE)
    have HH := hid (HL.out.has hE)
    have HF := hid (HL.out.far hE)
    clear hE hw
    go_enter Try.func3, Try.ntmps3
    go_wp2_with fail
    refine (polyBegun_calls _).mono ?_
    rintro e w1 ⟨rfl, hb1⟩
    have hB1 : Below w.heap.size w w1 := hB0.trans (hb1.mono (by simp; omega))
    have k1 : w1.cell? ⟨w.heap.size, 0, none⟩ = some (.int .i64 p) := keepCell hb1 (by go_simp)
    have k2 : w1.cell? ⟨w.heap.size, 1, none⟩ = some (.int .i64 q) := keepCell hb1 (by go_simp)
    have k3 : w1.cell? ⟨w.heap.size + 1, 0, none⟩ = some (.int .i64 u) := keepCell hb1 (by go_simp)
    have k4 : w1.cell? ⟨w.heap.size + 1, 1, none⟩ = some (.int .i64 v) := keepCell hb1 (by go_simp)
    go_wp2_with fail
    refine (rpoly_calls _ _ _ l _ (SLK.out _ hB1)).mono ?_
    rintro e w2 ⟨rfl, hb2⟩
    rw [HP.out]
    have hB2 := hB1.trans (hb2.mono hB1.size)
    have k1 := keepCell hb2 k1; have k2 := keepCell hb2 k2; have k3 := keepCell hb2 k3; have k4 := keepCell hb2 k4
    go_wp2_with fail
    refine (area_calls _ _ _ l _ (SLK.out _ hB2)).mono ?_
    rintro e w3 ⟨rfl, hb3⟩
    rw [if_pos HE.out, HE.out]
    have hB3 := hB2.trans (hb3.mono hB2.size)
    have k1 := keepCell hb3 k1; have k2 := keepCell hb3 k2; have k3 := keepCell hb3 k3; have k4 := keepCell hb3 k4
    go_wp2_with fail
    refine (check_calls _ _ _ l _ (SLK.out _ hB3)).mono ?_
    rintro e w4 ⟨rfl, hb4⟩
    rw [HE.out]
    have hB4 := hB3.trans (hb4.mono hB3.size)
    have k1 := keepCell hb4 k1; have k2 := keepCell hb4 k2; have k3 := keepCell hb4 k3; have k4 := keepCell hb4 k4
    have s1 : w4.drew.cell? ⟨w.heap.size, 0, none⟩ = some (.int .i64 p) ∧ w4.drew.cell? ⟨w.heap.size, 1, none⟩ = some (.int .i64 q) ∧ w4.drew.cell? ⟨w.heap.size + 1, 0, none⟩ = some (.int .i64 u) ∧ w4.drew.cell? ⟨w.heap.size + 1, 1, none⟩ = some (.int .i64 v) ∧ Below w.heap.size w w4.drew := ⟨k1, k2, k3, k4, hB4.drew⟩
    have S1 := hid s1
    clear s1
    clear k1 k2 k3 k4
    go_wp2_with fail
    go_region_held3 (fun w' => w'.cell? ⟨w.heap.size, 0, none⟩ = some (.int .i64 p) ∧ w'.cell? ⟨w.heap.size, 1, none⟩ = some (.int .i64 q) ∧ w'.cell? ⟨w.heap.size + 1, 0, none⟩ = some (.int .i64 u) ∧ w'.cell? ⟨w.heap.size + 1, 1, none⟩ = some (.int .i64 v) ∧ Below w.heap.size w w')
      (first | with_reducible exact S1.out | (go_split_ands; with_reducible exact ⟨keepCell hb7 (by assumption), keepCell hb7 (by assumption), keepCell hb7 (by assumption), keepCell hb7 (by assumption), keepBelow hb7 (by assumption)⟩))
      (first | (go_at_call 21; go_split_ands; refine (rarea_calls _ _ _ l _ (SLK.out _ (by assumption)) HW.out h8 (by omega)).mono ?_; rintro e w7 ⟨rfl, hb7⟩; rw [← HA.out]) | (go_at_call 19; go_split_ands; refine (has_calls _ _ _ l p q _ (SLK.out _ (by assumption))).mono ?_; rintro e w7 ⟨rfl, hb7⟩; rw [HH.out]) | (go_at_call 22; go_split_ands; refine (inside_calls _ _ _ l p q _ (SLK.out _ (by assumption)) HW.out h8 h3).mono ?_; rintro e w7 ⟨rfl, hb7⟩) | (go_at_call 20; go_split_ands; refine (support_calls _ _ _ l u v HU.out HV.out _ (SLK.out _ (by assumption))).mono ?_; rintro e w7 ⟨rfl, hb7⟩) | (go_at_call 23; go_split_ands; refine (far_calls _ _ _ l u v HU.out HV.out _ (SLK.out _ (by assumption)) HW.out h8 h3).mono ?_; rintro e w7 ⟨r, hr, rfl, hb7⟩; rw [← HF.out r hr]))
    go_wp2
    go_returns
    go_split_ands
    exact ret_bool (by simp) (by assumption)
  · have HE := hid hE
    have HB : Hid (hasB l p q = false) := by unfold hasB; rw [decide_eq_false hE]; rfl
    have HSu : Hid (suppZ l u v = -1) := by rw [suppZ, if_neg hE]; exact rfl
    have HP : Hid (polyE l = checkE l) := HL.out.check.symm
    have hne : (checkE l != 0) = true := by simp [hE]
    clear hE
    go_enter Try.func3, Try.ntmps3
    go_wp2_with fail
    refine (polyBegun_calls _).mono ?_
    rintro e w1 ⟨rfl, hb1⟩
    have hB1 : Below w.heap.size w w1 := hB0.trans (hb1.mono (by simp; omega))
    have k1 : w1.cell? ⟨w.heap.size, 0, none⟩ = some (.int .i64 p) := keepCell hb1 (by go_simp)
    have k2 : w1.cell? ⟨w.heap.size, 1, none⟩ = some (.int .i64 q) := keepCell hb1 (by go_simp)
    have k3 : w1.cell? ⟨w.heap.size + 1, 0, none⟩ = some (.int .i64 u) := keepCell hb1 (by go_simp)
    have k4 : w1.cell? ⟨w.heap.size + 1, 1, none⟩ = some (.int .i64 v) := keepCell hb1 (by go_simp)
    go_wp2_with fail
    refine (rpoly_calls _ _ _ l _ (SLK.out _ hB1)).mono ?_
    rintro e w2 ⟨rfl, hb2⟩
    rw [HP.out]
    have hB2 := hB1.trans (hb2.mono hB1.size)
    have k1 := keepCell hb2 k1; have k2 := keepCell hb2 k2; have k3 := keepCell hb2 k3; have k4 := keepCell hb2 k4
    go_wp2_with fail
    refine (area_calls _ _ _ l _ (SLK.out _ hB2)).mono ?_
    rintro e w3 ⟨rfl, hb3⟩
    rw [if_neg HE.out]
    have hB3 := hB2.trans (hb3.mono hB2.size)
    have k1 := keepCell hb3 k1; have k2 := keepCell hb3 k2; have k3 := keepCell hb3 k3; have k4 := keepCell hb3 k4
    go_wp2_with fail
    refine (check_calls _ _ _ l _ (SLK.out _ hB3)).mono ?_
    rintro e w4 ⟨rfl, hb4⟩
    have hB4 := hB3.trans (hb4.mono hB3.size)
    have k1 := keepCell hb4 k1; have k2 := keepCell hb4 k2; have k3 := keepCell hb4 k3; have k4 := keepCell hb4 k4
    have e1 : (checkE l != checkE l) = false := by simp
    go_wp2_with fail
    refine (has_calls _ _ _ l p q _ (SLK.out _ hB4)).mono ?_
    rintro e w5 ⟨rfl, hb5⟩
    rw [HB.out]
    have hB5 := hB4.trans (hb5.mono hB4.size)
    have k1 := keepCell hb5 k1; have k2 := keepCell hb5 k2; have k3 := keepCell hb5 k3; have k4 := keepCell hb5 k4
    go_wp2_with fail
    refine (support_calls _ _ _ l u v HU.out HV.out _ (SLK.out _ hB5)).mono ?_
    rintro e w6 ⟨rfl, hb6⟩
    rw [HSu.out]
    go_wp2
    go_returns
    exact ret_bool (by simp) (hB5.trans (hb6.mono hB5.size))

end Go.Proofs.Ytjoodpjndpdjnaa
