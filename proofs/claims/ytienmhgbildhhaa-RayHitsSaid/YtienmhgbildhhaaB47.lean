/- Parts of a proof: contracts and laws. -/
import Derived.Test.YtienmhgbildhhaaB18
import Derived.Test.YtienmhgbildhhaaB45
import Derived.Test.YtienmhgbildhhaaB46
namespace Go.Proofs.Ytienmhgbildhhaa
section
set_option linter.unusedVariables false
set_option linter.unusedSimpArgs false
open Go.RowKit
theorem run_bodies (s j k : Value) (gx gy st : Int) (w : World) : (Instr.field 49 (.agg #[s, j, k, .int .i64 gx, .int .i64 gy, .int .i64 st]) 0).run Try.prog w = .ok s w := by kernel_rfl
set_option maxRecDepth 100000 in
set_option maxHeartbeats 8000000 in
theorem rayStops_walk (A B : Option Addr) (n c n' c' : Nat) (r s : List Int) (x y u v : Int) (w : World) (hS : SlI w A n c r) (hM : SlI w B n' c' s) :
    Calls Try.prog 8 #[.slice A n c, .slice B n' c', .int .i64 x, .int .i64 y, .int .i64 u, .int .i64 v] w (Ret (.bool true) w) := by
  have HSI := hid hS
  have HMI := hid hM
  clear hS hM
  go_enter Try.func8, Try.ntmps8
  go_wp2_with fail
  refine (scene_calls A n c r _ HSI.out).mono ?_
  rintro e w1 ⟨sv, jv, L, J, gy, st, rfl, hok⟩
  obtain ⟨A1, n1, c1, rfl, hs1, -⟩ := hok.own.sl
  obtain ⟨A8, n8, c8, rfl, -, -⟩ := hok.jown.sl
  obtain rfl : n1 = L.length := hs1.len
  have HV : Hid (∀ x ∈ L, bodyE x.b x.l = 0) := fun x hx => madeB_ok (hok.co x hx).2.1 (hok.co x hx).2.2
  have HL := hid (show SlB w1 A1 L.length c1 L from ⟨hs1, fun x hx => (hok.co x hx).1⟩)
  have hln : L.length ≤ 5 := hok.len
  have HLN := hid hln
  have HBE : Hid (bodiesE L = 0) := bodiesE_ok (by omega) HV.out
  have hB := hok.bel
  have HB1 := hid hok.bel
  have hfld : ∀ w, (Instr.field 49 (.agg #[.slice A1 L.length c1, .slice A8 n8 c8, .slice none 0 0, .int .i64 0, .int .i64 gy, .int .i64 st]) 0).run Try.prog w = .ok (.slice A1 L.length c1) w := fun w => run_bodies _ _ _ _ _ _ w
  clear hok hs1 hln
  go_wp2_with fail
  refine (mPoly_calls B n' c' s _ (HMI.out.below hB)).mono ?_
  rintro e w2 ⟨A2, n2, c2, rfl, hs2, -, hb⟩
  have HP2 := hid hs2
  replace HL := hid (HL.out.below hb)
  replace hB := keepBelow hb hB
  have HMD := hid (polyL_made s)
  generalize polyL s = q at *
  clear hs2 hb HB1
  go_wp2_with fail
  refine (place_calls x y _).mono ?_
  rintro e w3 ⟨rfl, hb⟩
  replace HP2 := hid (HP2.out.below hb)
  replace HL := hid (HL.out.below hb)
  replace hB := keepBelow hb hB
  clear hb
  have bx : -786432 ≤ x % 1572864 - 786432 ∧ x % 1572864 - 786432 ≤ 786432 := by omega
  have by_ : -786432 ≤ y % 1572864 - 786432 ∧ y % 1572864 - 786432 ≤ 786432 := by omega
  generalize x % 1572864 - 786432 = ax at *
  generalize y % 1572864 - 786432 = ay at *
  have bu : -786432 ≤ u % 1572864 - 786432 ∧ u % 1572864 - 786432 ≤ 786432 := by omega
  have bv : -786432 ≤ v % 1572864 - 786432 ∧ v % 1572864 - 786432 ≤ 786432 := by omega
  have HPLU := hid (place_calls u v)
  generalize u % 1572864 - 786432 = ux at *
  generalize v % 1572864 - 786432 = uy at *
  have HW1 : Hid (allWithin 65536000 q = true) := within_le (made_within HMD.out) (by omega)
  have HLE : Hid (q.length ≤ 1000) := by have := (made_len HMD.out).2; show _ ≤ _; omega
  have w1' : allWithin (262144 + 786432) (movL q ax ay) = true := within_movL (made_within HMD.out) bx by_
  have HC1 : Hid (checkE (movL q ax ay) = 0) := checkE_movL (made_check HMD.out) (within_le w1' (by omega))
  have HW2 : Hid (allWithin 65536000 (movL q ax ay) = true) := within_le w1' (by omega)
  have HC2 : Hid (checkE (movL (movL q ax ay) ux uy) = 0) := checkE_movL HC1.out (within_le (within_movL w1' bu bv) (by omega))
  have HL2 : Hid ((movL q ax ay).length ≤ 1000) := by show _ ≤ _; rw [movL_len]; exact HLE.out
  go_wp2_with fail
  refine (moved_calls A2 n2 c2 q ax ay _ HP2.out HLE.out (by omega) (by omega) HW1.out).mono ?_
  rintro e w4 ⟨A4, n4, c4, rfl, hs4, -, hb⟩
  have HP := hid hs4
  replace HL := hid (HL.out.below hb)
  replace hB := keepBelow hb hB
  clear hs4 hb w1' HMD HW1 HLE HP2
  generalize movL q ax ay = p at *
  go_wp2_with fail
  refine (HPLU.out _).mono ?_
  rintro e w5 ⟨rfl, hb⟩
  replace HP := hid (HP.out.below hb)
  replace HL := hid (HL.out.below hb)
  replace hB := keepBelow hb hB
  clear hb HPLU
  obtain ⟨w6, hw6⟩ : ∃ w6, w6 = w5.alloc (.cells #[.int .i64 ux, .int .i64 uy] 24) := ⟨_, rfl⟩
  obtain ⟨g, hg⟩ : ∃ g, g = w5.heap.size := ⟨_, rfl⟩
  have u0 : w6.cell? ⟨g, 0, none⟩ = some (.int .i64 ux) := by rw [hw6, hg]; go_simp
  have u1 : w6.cell? ⟨g, 1, none⟩ = some (.int .i64 uy) := by rw [hw6, hg]; go_simp
  replace HP : Hid (Sl w6 A4 n4 c4 p) := by show Sl _ _ _ _ _; rw [hw6]; exact HP.out.alloc _
  replace HL : Hid (SlB w6 A1 L.length c1 L) := by show SlB _ _ _ _ _; rw [hw6]; exact HL.out.alloc _
  replace hB : Below w.heap.size w w6 := by rw [hw6]; exact hB.alloc hB.size _
  have hu : withinB 65536000 ux uy = true := withinB_iff.2 (by omega)
  have HSV : Hid (shapeV L p (ux, uy) = frV (shapeO L p (ux, uy))) := by show _ = _; unfold shapeV; rw [if_neg (by simp [HBE.out]), if_neg (by simp [HC1.out]), if_neg (by simp [hu])]
  have HMV : Hid (meetE L p = 0 ∧ meetL L p = meetTo (fun q => nmeetB q p) L L.length) := by
    have e : meetE L p = 0 := by unfold meetE; rw [if_neg (by simp [HBE.out]), HC1.out]
    exact ⟨e, by unfold meetL; rw [e, if_pos rfl]⟩
  have HNV : Hid (meetE L (movL p ux uy) = 0 ∧ meetL L (movL p ux uy) = meetTo (fun q => nmeetB q (movL p ux uy)) L L.length) := by
    have e : meetE L (movL p ux uy) = 0 := by unfold meetE; rw [if_neg (by simp [HBE.out]), HC2.out]
    exact ⟨e, by unfold meetL; rw [e, if_pos rfl]⟩
  have HLAW1 : Hid (∀ i, i ∈ meetTo (fun q => nmeetB q p) L L.length → ∃ a : Nat, shapeO L p (ux, uy) = some (a, 0) ∧ (a : Int) ≤ i) := fun i hi => stopsLaw_meets HV.out HC1.out hi
  have HLAW2 : Hid (shapeO L p (ux, uy) = none → meetTo (fun q => nmeetB q (movL p ux uy)) L L.length = []) := fun h => stopsLaw_free HV.out HC1.out HC2.out h
  go_upto_region 3 with fail
  rw [← hw6, ← hg]
  clear hw6 hg
  go_wp2_with fail
  refine (rayShape_calls A1 A4 L.length c1 n4 c4 L p ux uy _ HL.out HP.out).mono ?_
  rintro e w7 ⟨rfl, hb⟩
  rw [HSV.out]
  replace HP := hid (HP.out.below hb)
  replace HL := hid (HL.out.below hb)
  replace hB := keepBelow hb hB
  replace u0 := keepCell hb u0
  replace u1 := keepCell hb u1
  clear hb HSV
  generalize shapeO L p (ux, uy) = o at *
  unfold frV
  go_wp2_with fail
  refine (rayMeet_calls A1 A4 L.length c1 n4 c4 L p _ HL.out HP.out).mono ?_
  rw [HMV.out.1, HMV.out.2]
  rintro e w8 ⟨A9, n9, c9, rfl, hi, hb⟩
  replace HP := hid (HP.out.below hb)
  replace HL := hid (HL.out.below hb)
  replace hB := keepBelow hb hB
  replace u0 := keepCell hb u0
  replace u1 := keepCell hb u1
  have HI := hid hi
  clear hb hi HMV
  go_wp2_with fail
  refine (moved_calls A4 n4 c4 p ux uy _ HP.out HL2.out (by omega) (by omega) HW2.out).mono ?_
  rintro e w9 ⟨A6, n6, c6, rfl, hs6, -, hb⟩
  have HP6 := hid hs6
  replace HL := hid (HL.out.below hb)
  replace hB := keepBelow hb hB
  replace HI := hid (HI.out.below hb)
  clear hs6 hb u0 u1 HP
  go_wp2_with fail
  refine (rayMeet_calls A1 A6 L.length c1 n6 c6 L (movL p ux uy) _ HL.out HP6.out).mono ?_
  rw [HNV.out.1, HNV.out.2]
  rintro e w10 ⟨A7, n7, c7, rfl, hi, hb⟩
  replace hB := keepBelow hb hB
  replace HI := hid (HI.out.below hb)
  have HN := hid hi
  clear hb hi HNV HL HP6
  generalize meetTo (fun q => nmeetB q p) L L.length = ml at *
  generalize meetTo (fun q => nmeetB q (movL p ux uy)) L L.length = nl at *
  go_wp2_with fail
  refine (casts_calls _).mono ?_
  rintro e w11 ⟨rfl, hb⟩
  replace hB := keepBelow hb hB
  replace HI := hid (HI.out.below hb)
  replace HN := hid (HN.out.below hb)
  clear hb
  obtain rfl : n9 = ml.length := HI.out.len
  obtain rfl : n7 = nl.length := HN.out.len
  cases ml with
  | nil =>
    cases o with
    | none =>
      have hnl : nl = [] := HLAW2.out rfl
      subst hnl
      simp only [frI, frE, beZ]
      go_wp2
      go_returns
      exact ret_bool (by simp) hB
    | some ab =>
      obtain ⟨a, b⟩ := ab
      simp only [frI, frE, beZ]
      go_wp2
      go_returns
      exact ret_bool (by simp) hB
  | cons i ml =>
    obtain ⟨a, rfl, hai⟩ := HLAW1.out i (by simp)
    obtain ⟨bi, oi, hAe, hli, hci⟩ := HI.out.at_ (by simp)
    subst hAe
    have c0 := hci 0 (by simp)
    simp at c0
    have hposn : 0 < (i :: ml).length := by simp
    have hpos : (0 : Int) < ((i :: ml).length : Int) := by omega
    generalize (i :: ml).length = nn at *
    simp only [frI, frE, beZ]
    go_wp2
    go_returns
    exact ret_bool (by simp [hai]) hB
end
end Go.Proofs.Ytienmhgbildhhaa
