/- The walk of PolySupports. -/
import Derived.Test.YtjoodpjndpdjnaaE3
namespace Go.Proofs.Ytjoodpjndpdjnaa
set_option linter.unusedVariables false
set_option linter.unusedSimpArgs false
open Go.RowKit

/-- what the walk of PolySupports asks of the plain mathematics -/
structure SupportsLaw (L M : List V) (u v : Int) (s : Nat) : Prop where
  check : checkE L = 0
  checkM : checkE M = 0
  len : 3 ≤ L.length ∧ L.length ≤ 8
  within : allWithin 65536000 L = true
  withinM : allWithin 65536000 M = true
  supp : suppZ L u v = s
  suppM : suppZ M u v = s
  lt : s < L.length
  max : ∀ j, j < L.length → dotL L u v j ≤ dotL L u v s
  area : areaZ M = areaZ L
  pos : 0 < areaZ L

theorem supportsLaw (r : List Int) (u v x y : Int) : SupportsLaw (polyL r) (movL (polyL r) (x % 1572864 - 786432) (y % 1572864 - 786432)) u v (supTo (polyL r) u v (polyL r).length) := by
  have hm := polyL_made r
  generalize polyL r = L at *
  have h1 := made_check hm
  have h2 := made_len hm
  have h3 := made_within hm
  have h4 : allWithin (262144 + 786432) (movL L (x % 1572864 - 786432) (y % 1572864 - 786432)) = true := within_movL h3 (by omega) (by omega)
  have h5 := within_le h4 (show (262144 + 786432 : Int) ≤ 65536000 by omega)
  have h6 := checkE_movL h1 h5
  have h7 : suppZ L u v = (supTo L u v L.length : Int) := by unfold suppZ; rw [if_pos h1]
  exact ⟨h1, h6, by omega, within_le h3 (by omega), h5, h7, by rw [suppZ_movL h1 h6, h7], supTo_lt _ _ _ _ (Nat.le_refl _) (by omega), fun j hj => supTo_max _ hj, areaZ_movL (by omega), area_pos h1⟩

set_option maxRecDepth 100000 in
set_option maxHeartbeats 2000000 in
theorem polySupports_walk (A : Option Addr) (n c : Nat) (r : List Int) (u v p q x y : Int) (hu : i64 u) (hv : i64 v) (w : World) (hS : SlI w A n c r) :
    Calls Try.prog 4 #[.slice A n c, vecV u v, vecV p q, .int .i64 x, .int .i64 y] w (Ret (.bool true) w) := by
  have hL := supportsLaw r u v x y
  obtain ⟨s, hs⟩ : ∃ s, s = supTo (polyL r) u v (polyL r).length := ⟨_, rfl⟩
  rw [← hs] at hL
  obtain ⟨bx, hbx⟩ : ∃ bx, bx = x % 1572864 - 786432 := ⟨_, rfl⟩
  obtain ⟨b_y, hby⟩ : ∃ b_y, b_y = y % 1572864 - 786432 := ⟨_, rfl⟩
  rw [← hbx, ← hby] at hL
  have hbd : -786432 ≤ bx ∧ bx ≤ 786432 ∧ -786432 ≤ b_y ∧ b_y ≤ 786432 := by omega
  have HBX := hid hbx
  have HBY := hid hby
  have HU := hid hu
  have HV := hid hv
  obtain ⟨L, hLe⟩ : ∃ L, L = polyL r := ⟨_, rfl⟩
  rw [← hLe] at hL
  have HLe := hid hLe
  have HL := hid hL
  have hlen := hL.len
  have hlt := hL.lt
  have hpos := hL.pos
  obtain ⟨z, hz⟩ : ∃ z, z = areaZ L := ⟨_, rfl⟩
  rw [← hz] at hpos
  have HZ := hid hz
  have hS1 : SlI ((w.alloc (.cells #[.int .i64 u, .int .i64 v] 24)).alloc (.cells #[.int .i64 p, .int .i64 q] 24)) A n c r := hS.below (by go_grown)
  have HS1 := hid hS1
  clear hS hS1 hs hL hLe hbx hby hu hv hz
  go_enter Try.func4, Try.ntmps4
  go_wp2_with fail
  refine (mPoly_calls _ _ _ r _ HS1.out).mono ?_
  rintro e w1 ⟨A1, n1, c1, rfl, hs1, hf1, hb1⟩
  have HF1 := hid hf1
  clear hf1
  rw [← HLe.out] at hs1
  have HL1 := hid hs1
  have hn1 := hs1.len
  subst hn1
  have hcap1 := hs1.cap
  have hbig1 := hs1.big
  clear hs1
  have hB1 : Below w.heap.size w w1 := (((Below.refl w.heap.size w).alloc (Nat.le_refl _) _).alloc (by simp) _).trans (hb1.mono (by simp; omega))
  have k1 : w1.cell? ⟨w.heap.size, 0, none⟩ = some (.int .i64 u) := keepCell hb1 (by go_simp)
  have k2 : w1.cell? ⟨w.heap.size, 1, none⟩ = some (.int .i64 v) := keepCell hb1 (by go_simp)
  have k3 : w1.cell? ⟨w.heap.size + 1, 0, none⟩ = some (.int .i64 p) := keepCell hb1 (by go_simp)
  have k4 : w1.cell? ⟨w.heap.size + 1, 1, none⟩ = some (.int .i64 q) := keepCell hb1 (by go_simp)
  have k5 : w1.frozen? ⟨w.heap.size + 1, 0, none⟩ = false := ((bcell hb1).2 _ _ (by simp)).trans (by go_simp)
  have k6 : w1.frozen? ⟨w.heap.size + 1, 1, none⟩ = false := ((bcell hb1).2 _ _ (by simp)).trans (by go_simp)
  go_wp2_with fail
  refine (place_calls x y _).mono ?_
  rintro e w2 ⟨rfl, hb2⟩
  rw [← HBX.out, ← HBY.out]
  have hz1 := lt_of_cell k3
  have k1 := keepCell hb2 k1; have k2 := keepCell hb2 k2; have k3 := keepCell hb2 k3; have k4 := keepCell hb2 k4
  have k5 := ((bcell hb2).2 _ _ hz1).trans k5; have k6 := ((bcell hb2).2 _ _ hz1).trans k6
  have hB2 := hB1.trans (hb2.mono hB1.size)
  have HL2 := hid (HL1.out.below hb2)
  have hz2 := lt_of_cell k3
  have HL2' := hid (HL2.out.grown (grown_trans (grown_setCell w2 (w.heap.size + 1) 0 (.int .i64 bx)) (grown_setCell _ (w.heap.size + 1) 1 (.int .i64 b_y))) (fun b off e => by have := HF1.out b off e; simp at this; omega))
  have hB2' : Below w.heap.size w ((w2.setCell ⟨w.heap.size + 1, 0, none⟩ (.int .i64 bx)).setCell ⟨w.heap.size + 1, 1, none⟩ (.int .i64 b_y)) := by go_grown
  go_wp2_with fail
  refine (moved_calls _ _ _ L bx b_y _ HL2'.out (by omega) (by omega) (by omega) HL.out.within).mono ?_
  rintro e w3 ⟨A3, n3, c3, rfl, hs3, hf3, hb3⟩
  have HM3 := hid hs3
  have hn3 := hs3.len
  rw [movL_len] at hn3
  subst hn3
  have hcap3 := hs3.cap
  have hbig3 := hs3.big
  have HL3 := hid (HL2'.out.below hb3)
  have k1 : w3.cell? ⟨w.heap.size, 0, none⟩ = some (.int .i64 u) := keepCell hb3 (by go_simp)
  have k2 : w3.cell? ⟨w.heap.size, 1, none⟩ = some (.int .i64 v) := keepCell hb3 (by go_simp)
  have hB3 := hB2'.trans (hb3.mono hB2'.size)
  clear k3 k4 k5 k6 hs3 hf3 hB2' hb2 hb1 hB1 hz1 hz2 HL1 HL2 HL2' hB2
  go_wp2_with fail
  refine (support_calls _ _ _ L u v HU.out HV.out _ HL3.out).mono ?_
  rintro e w4 ⟨rfl, hb4⟩
  rw [HL.out.supp]
  have k1 := keepCell hb4 k1; have k2 := keepCell hb4 k2
  have HL4 := hid (HL3.out.below hb4)
  have HM4 := hid (HM3.out.below hb4)
  have hB4 := hB3.trans (hb4.mono hB3.size)
  go_wp2_with fail
  refine (works_calls _).mono ?_
  rintro e w5 ⟨rfl, hb5⟩
  have k1 := keepCell hb5 k1; have k2 := keepCell hb5 k2
  have HL5 := hid (HL4.out.below hb5)
  have HM5 := hid (HM4.out.below hb5)
  have hB5 := hB4.trans (hb5.mono hB4.size)
  clear hb3 hb4 hb5 HL3 HL4 HM3 HM4 hB3 hB4
  go_wp2_with fail
  refine (support_calls _ _ _ (movL L bx b_y) u v HU.out HV.out _ HM5.out).mono ?_
  rintro e w6 ⟨rfl, hb6⟩
  rw [HL.out.suppM]
  have k1 := keepCell hb6 k1; have k2 := keepCell hb6 k2
  have HL6 := hid (HL5.out.below hb6)
  have HM6 := hid (HM5.out.below hb6)
  have hB6 := hB5.trans (hb6.mono hB5.size)
  clear hb6 HL5 HM5 hB5
  go_wp2
  go_loopw [52] (fun i wr => ∃ k : Nat, k ≤ L.length ∧ i = .int .i64 k ∧ Below w.heap.size w wr ∧ Below w6.heap.size w6 wr ∧ wr.cell? ⟨w.heap.size, 0, none⟩ = some (.int .i64 u) ∧ wr.cell? ⟨w.heap.size, 1, none⟩ = some (.int .i64 v)) (fun i _ => L.length - (intOf i).toNat)
  case atStart => exact ⟨0, Nat.zero_le _, rfl, hB6, Below.refl _ _, k1, k2⟩
  case round =>
    obtain ⟨k, hk, rfl, hB, hBw, ku, kv⟩ := hrel
    obtain ⟨wo, rfl⟩ : ∃ wo : World, wo = wr := ⟨_, rfl⟩
    clear k1 k2
    by_cases hlk : k < L.length
    · obtain ⟨b, off, rfl, hC⟩ := (HL6.out.below hBw).at_ (by intro h; subst h; simp at hlk)
      have hsi : (s : Int) < (L.length : Int) := by omega
      have hp0 := lt_of_cell ku
      have hx := hC.x k hlk
      have hy := hC.y k hlk
      have hbo := hC.lt
      have hCa := hC.below ((Below.refl _ _).alloc (Nat.le_refl _) (.cells #[.int .i64 (px L k), .int .i64 (py L k)] 24))
      have b1 := hid (dotL_bd HL.out.within HU.out HV.out hlk)
      have b2 := hid (dotL_bd HL.out.within HU.out HV.out hlt)
      have hmax := hid (HL.out.max k hlk)
      have s1 : (wo.alloc (.cells #[.int .i64 (px L k), .int .i64 (py L k)] 24)).drew.cell? ⟨wo.heap.size, 0, none⟩ = some (.int .i64 (px L k)) ∧ (wo.alloc (.cells #[.int .i64 (px L k), .int .i64 (py L k)] 24)).drew.cell? ⟨wo.heap.size, 1, none⟩ = some (.int .i64 (py L k)) ∧ (wo.alloc (.cells #[.int .i64 (px L k), .int .i64 (py L k)] 24)).drew.cell? ⟨b, off + s * 2, none⟩ = some (.int .i64 (px L s)) ∧ (wo.alloc (.cells #[.int .i64 (px L k), .int .i64 (py L k)] 24)).drew.cell? ⟨b, off + s * 2 + 1, none⟩ = some (.int .i64 (py L s)) ∧ (wo.alloc (.cells #[.int .i64 (px L k), .int .i64 (py L k)] 24)).drew.cell? ⟨w.heap.size, 0, none⟩ = some (.int .i64 u) ∧ (wo.alloc (.cells #[.int .i64 (px L k), .int .i64 (py L k)] 24)).drew.cell? ⟨w.heap.size, 1, none⟩ = some (.int .i64 v) ∧ Below wo.heap.size wo (wo.alloc (.cells #[.int .i64 (px L k), .int .i64 (py L k)] 24)).drew := ⟨by go_simp, by go_simp, hCa.x s hlt, hCa.y s hlt, by go_simp, by go_simp, by go_grown⟩
      have S1 := hid s1
      have hB0 := hid hB
      have hBw0 := hid hBw
      clear s1 hCa hC hB hBw
      go_wp2
      go_region_held3 (fun w' => w'.cell? ⟨wo.heap.size, 0, none⟩ = some (.int .i64 (px L k)) ∧ w'.cell? ⟨wo.heap.size, 1, none⟩ = some (.int .i64 (py L k)) ∧ w'.cell? ⟨b, off + s * 2, none⟩ = some (.int .i64 (px L s)) ∧ w'.cell? ⟨b, off + s * 2 + 1, none⟩ = some (.int .i64 (py L s)) ∧ w'.cell? ⟨w.heap.size, 0, none⟩ = some (.int .i64 u) ∧ w'.cell? ⟨w.heap.size, 1, none⟩ = some (.int .i64 v) ∧ Below wo.heap.size wo w')
        (first | with_reducible exact S1.out | (go_split_ands; with_reducible exact ⟨keepCell hb3 (by assumption), keepCell hb3 (by assumption), keepCell hb3 (by assumption), keepCell hb3 (by assumption), keepCell hb3 (by assumption), keepCell hb3 (by assumption), keepBelow hb3 (by assumption)⟩))
        (first | (go_at_call 28; (first | (with_reducible refine (pdot_l HL.out.within HU.out HV.out hlk _).mono ?_) | (with_reducible refine (pdot_l HL.out.within HU.out HV.out hlt _).mono ?_)); rintro e w3 ⟨rfl, hb3⟩) | (go_at_call 29; refine (wcmp_z _ _ b1.out.1 b1.out.2 b2.out.1 b2.out.2 _).mono ?_; rintro e w3 ⟨rfl, hb3⟩))
      have hcmp : ¬ 0 < cmpZ (dotL L u v k) (dotL L u v s) := by rw [cmpZ_pos]; have := hmax.out; omega
      go_wp2
      all_goals go_split_ands
      have g1 : Below wo.heap.size wo w3 := by assumption
      have hB9 : Below w.heap.size w w3 := hB0.out.trans (g1.mono hB0.out.size)
      have hBw9 : Below w6.heap.size w6 w3 := hBw0.out.trans (g1.mono hBw0.out.size)
      exact ⟨⟨_, _, _, ⟨k + 1, hlk, by go_num, hB9, hBw9⟩, rfl, rfl, rfl⟩, by simp [intOf]; omega⟩
    · have hge : L.length ≤ k := by omega
      have HLo := hid (HL6.out.below hBw)
      have HMo := hid (HM6.out.below hBw)
      go_wp2_with fail
      refine (area_calls _ _ _ L _ HLo.out).mono ?_
      rintro e w7 ⟨rfl, hb7⟩
      rw [if_pos HL.out.check, HL.out.check, ← HZ.out]
      have HM7 := hid (HMo.out.below hb7)
      have hB7 := hB.trans (hb7.mono hB.size)
      go_wp2_with fail
      refine (area_calls _ _ _ (movL L bx b_y) _ HM7.out).mono ?_
      rintro e w8 ⟨rfl, hb8⟩
      rw [if_pos HL.out.checkM, HL.out.checkM, HL.out.area, ← HZ.out]
      have hB8 := hB7.trans (hb8.mono hB7.size)
      go_wp2
      go_returns
      exact ret_bool rfl hB8

end Go.Proofs.Ytjoodpjndpdjnaa
