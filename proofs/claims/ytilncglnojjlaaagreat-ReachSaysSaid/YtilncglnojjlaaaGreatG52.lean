/- The walk of ReachSays. -/
import Derived.Test.YtilncglnojjlaaaGreatG47
import Derived.Test.YtilncglnojjlaaaGreatG51
import Derived.Test.YtilncglnojjlaaaGreatG13
namespace Go.Proofs.YtilncglnojjlaaaGreat
section
set_option linter.unusedVariables false
set_option linter.unusedSimpArgs false
open Go.RowKit
set_option maxRecDepth 100000 in
set_option maxHeartbeats 16000000 in
theorem reachSays_walk (a b : Bd) (A B : Option Addr) (n c m d : Nat) (l l2 : List V) (s : Int) (w : World) (hS : Sl w A n c l) (hM : Sl w B m d l2) (hl : l.length ≤ 8796093022208) (hl2 : l2.length ≤ 8796093022208) : Calls Tryz.prog 3 #[bodyV a A n c, bodyV b B m d, .int .i64 s] w (Ret (.bool true) w) := by
 obtain ⟨W, hW⟩ : ∃ W, W = (w.alloc (.cells #[.int .i64 a.px, .int .i64 a.py, .int .i64 a.vx, .int .i64 a.vy, .int .i64 a.ang, .int .i64 a.spin, .int .i64 a.mass, .int .i64 a.iner, .int .i64 a.bounce, .int .i64 a.rub, .slice A n c, .bool a.asleep, .int .i64 a.calm] 26)).alloc (.cells #[.int .i64 b.px, .int .i64 b.py, .int .i64 b.vx, .int .i64 b.vy, .int .i64 b.ang, .int .i64 b.spin, .int .i64 b.mass, .int .i64 b.iner, .int .i64 b.bounce, .int .i64 b.rub, .slice B m d, .bool b.asleep, .int .i64 b.calm] 26) := ⟨_, rfl⟩
 have HKA : Hid (BdAt W w.heap.size a A n c) := by show BdAt _ _ _ _ _ _; rw [hW]; exact (BdAt.here w a A n c _).alloc _
 have HKB : Hid (BdAt W (w.heap.size + 1) b B m d) := by show BdAt _ _ _ _ _ _; rw [hW]; have := BdAt.here (w.alloc (.cells #[.int .i64 a.px, .int .i64 a.py, .int .i64 a.vx, .int .i64 a.vy, .int .i64 a.ang, .int .i64 a.spin, .int .i64 a.mass, .int .i64 a.iner, .int .i64 a.bounce, .int .i64 a.rub, .slice A n c, .bool a.asleep, .int .i64 a.calm] 26)) b B m d 26; simpa using this
 have hB : Below w.heap.size w W := by rw [hW]; go_grown
 have HB1 := hid (fun (w' : World) (hb : Below w.heap.size w w') => bound_calls a b A B n c m d l l2 s w' (hS.below hb) (hM.below hb))
 have HT1 := hid (fun (w' : World) (hb : Below w.heap.size w w') => time_calls a b A B n c m d l l2 s w' (hS.below hb) (hM.below hb) hl hl2)
 have HS1 := hid (fun (w' : World) (hb : Below w.heap.size w w') => sink_calls a b A B n c m d l l2 s w' (hS.below hb) (hM.below hb))
 have HRA := hid (fun (w' : World) (hb : Below w.heap.size w w') => rbody_calls a A n c l w' (hS.below hb))
 have HRB := hid (fun (w' : World) (hb : Below w.heap.size w w') => rbody_calls b B m d l2 w' (hM.below hb))
 have HT2 := hid (fun (hea : bodyE a l = 0) (heb : bodyE b l2 = 0) (hs0 : 0 ≤ s ∧ s ≤ 65536) (w' : World) (hb : Below w.heap.size w w') => rtime_calls a b A B n c m d l l2 s w' (hS.below hb) (hM.below hb) hea heb hs0)
 have HB2 := hid (fun (hea : bodyE a l = 0) (heb : bodyE b l2 = 0) (hs0 : 0 ≤ s) (w' : World) (hb : Below w.heap.size w w') => rbound_calls a b A B n c m d l l2 s w' (hS.below hb) (hM.below hb) hea heb hs0)
 have HS2 := hid (fun (hea : bodyE a l = 0) (heb : bodyE b l2 = 0) (hs0 : 0 ≤ s ∧ s ≤ 65536) (w' : World) (hb : Below w.heap.size w w') => rsink_calls a b A B n c m d l l2 s w' (hS.below hb) (hM.below hb) hea heb hs0)
 have HE : Hid (rbdE a l b l2 s = if bodyE a l ≠ 0 then bodyE a l else if bodyE b l2 ≠ 0 then bodyE b l2 else if s < 0 ∨ 65536 < s then 1 else 0) := rfl
 have HV1 : Hid (rbdV a l b l2 s = if rbdE a l b l2 s ≠ 0 then .tuple #[.int .i64 0, .int .i64 (rbdE a l b l2 s)] else .tuple #[.int .i64 (rbdZ a l b l2 s), .int .i64 0]) := rfl
 have HV2 : Hid (timeV a l b l2 s = if rbdE a l b l2 s ≠ 0 then .tuple #[.int .i64 0, .bool false, .int .i64 (rbdE a l b l2 s)] else .tuple #[.int .i64 (timeO a l b l2 s).1, .bool (timeO a l b l2 s).2, .int .i64 0]) := rfl
 have HV3 : Hid (sinkV a l b l2 s = if rbdE a l b l2 s ≠ 0 then .tuple #[.int .i64 0, .int .i64 (rbdE a l b l2 s)] else .tuple #[.int .i64 (sinkO a l b l2 s), .int .i64 0]) := rfl
 clear hS hM hl hl2
 generalize rbdV a l b l2 s = v1 at *
 generalize timeV a l b l2 s = v2 at *
 generalize sinkV a l b l2 s = v3 at *
 generalize rbdE a l b l2 s = ee at *
 generalize rbdZ a l b l2 s = zz at *
 generalize timeO a l b l2 s = tt at *
 generalize sinkO a l b l2 s = ss at *
 obtain ⟨t1, t2⟩ := tt
 dsimp only at HT2 HV2
 generalize bodyE a l = ea at *
 generalize bodyE b l2 = eb at *
 go_enter Tryz.func3, Tryz.ntmps3
 go_upto_region 1 with fail
 rw [← hW]
 clear hW
 go_wp2_with fail
 refine (reachBegun_calls _).mono ?_
 rintro e w1 ⟨rfl, hb⟩
 replace hB := keepBelow hb hB
 replace HKA := hid (keepBd hb HKA.out)
 replace HKB := hid (keepBd hb HKB.out)
 clear hb
 obtain ⟨k0, k1, k2, k3, k4, k5, k6, k7, k8, k9, k10, k11, k12, -⟩ := HKA.out
 obtain ⟨m0, m1, m2, m3, m4, m5, m6, m7, m8, m9, m10, m11, m12, -⟩ := HKB.out
 go_wp2_with fail
 refine (HB1.out _ hB).mono ?_
 rintro e w2 ⟨rfl, hb⟩
 replace hB := keepBelow hb hB
 replace HKA := hid (keepBd hb HKA.out)
 replace HKB := hid (keepBd hb HKB.out)
 clear hb k0 k1 k2 k3 k4 k5 k6 k7 k8 k9 k10 k11 k12 m0 m1 m2 m3 m4 m5 m6 m7 m8 m9 m10 m11 m12
 by_cases hE : ee = 0
 ·subst hE
  obtain ⟨hea, heb, hs0⟩ : ea = 0 ∧ eb = 0 ∧ (0 ≤ s ∧ s ≤ 65536) := by
   have hE := HE.out
   by_cases h1 : ea = 0
   ·rw [if_neg (by simp [h1])] at hE
    by_cases h2 : eb = 0
    ·rw [if_neg (by simp [h2])] at hE
     by_cases h3 : s < 0 ∨ 65536 < s
     ·rw [if_pos h3] at hE; cases hE
     ·exact ⟨h1, h2, by omega⟩
    ·rw [if_pos h2] at hE; exact absurd hE.symm h2
   ·rw [if_pos h1] at hE; exact absurd hE.symm h1
  have HT2' := hid (HT2.out hea heb hs0)
  have HB2' := hid (HB2.out hea heb hs0.1)
  have HS2' := hid (HS2.out hea heb hs0)
  clear HT2 HB2 HS2 HE
  subst hea heb
  have h1 : ¬ s < 0 := by omega
  have h2 : ¬ s > 65536 := by omega
  rw [HV1.out, if_neg (by simp)]
  rw [HV2.out, if_neg (by simp)] at HT1
  rw [HV3.out, if_neg (by simp)] at HS1
  clear HV1 HV2 HV3 hs0 HB1
  obtain ⟨k0, k1, k2, k3, k4, k5, k6, k7, k8, k9, k10, k11, k12, -⟩ := HKA.out
  obtain ⟨m0, m1, m2, m3, m4, m5, m6, m7, m8, m9, m10, m11, m12, -⟩ := HKB.out
  go_wp2_with fail
  refine (HT1.out _ hB).mono ?_
  rintro e w3 ⟨rfl, hb⟩
  replace hB := keepBelow hb hB
  replace HKA := hid (keepBd hb HKA.out)
  replace HKB := hid (keepBd hb HKB.out)
  clear hb k0 k1 k2 k3 k4 k5 k6 k7 k8 k9 k10 k11 k12 m0 m1 m2 m3 m4 m5 m6 m7 m8 m9 m10 m11 m12
  obtain ⟨k0, k1, k2, k3, k4, k5, k6, k7, k8, k9, k10, k11, k12, -⟩ := HKA.out
  obtain ⟨m0, m1, m2, m3, m4, m5, m6, m7, m8, m9, m10, m11, m12, -⟩ := HKB.out
  go_wp2_with fail
  refine (HS1.out _ hB).mono ?_
  rintro e w4 ⟨rfl, hb⟩
  replace hB := keepBelow hb hB
  replace HKA := hid (keepBd hb HKA.out)
  replace HKB := hid (keepBd hb HKB.out)
  clear hb k0 k1 k2 k3 k4 k5 k6 k7 k8 k9 k10 k11 k12 m0 m1 m2 m3 m4 m5 m6 m7 m8 m9 m10 m11 m12
  obtain ⟨k0, k1, k2, k3, k4, k5, k6, k7, k8, k9, k10, k11, k12, -⟩ := HKA.out
  obtain ⟨m0, m1, m2, m3, m4, m5, m6, m7, m8, m9, m10, m11, m12, -⟩ := HKB.out
  go_wp2_with fail
  refine (HRA.out _ hB).mono ?_
  rintro e w5 ⟨rfl, hb⟩
  replace hB := keepBelow hb hB
  replace HKA := hid (keepBd hb HKA.out)
  replace HKB := hid (keepBd hb HKB.out)
  clear hb k0 k1 k2 k3 k4 k5 k6 k7 k8 k9 k10 k11 k12 m0 m1 m2 m3 m4 m5 m6 m7 m8 m9 m10 m11 m12
  obtain ⟨k0, k1, k2, k3, k4, k5, k6, k7, k8, k9, k10, k11, k12, -⟩ := HKA.out
  obtain ⟨m0, m1, m2, m3, m4, m5, m6, m7, m8, m9, m10, m11, m12, -⟩ := HKB.out
  go_wp2_with fail
  refine (HRB.out _ hB).mono ?_
  rintro e w6 ⟨rfl, hb⟩
  replace hB := keepBelow hb hB
  replace HKA := hid (keepBd hb HKA.out)
  replace HKB := hid (keepBd hb HKB.out)
  clear hb k0 k1 k2 k3 k4 k5 k6 k7 k8 k9 k10 k11 k12 m0 m1 m2 m3 m4 m5 m6 m7 m8 m9 m10 m11 m12
  by_cases hz : zz > 8388608
  ·go_wp2
   go_returns
   exact ret_bool (by simp) hB
  obtain ⟨k0, k1, k2, k3, k4, k5, k6, k7, k8, k9, k10, k11, k12, -⟩ := HKA.out
  obtain ⟨m0, m1, m2, m3, m4, m5, m6, m7, m8, m9, m10, m11, m12, -⟩ := HKB.out
  go_wp2_with fail
  refine (HT2'.out _ hB).mono ?_
  rintro e w7 ⟨rfl, hb⟩
  replace hB := keepBelow hb hB
  replace HKA := hid (keepBd hb HKA.out)
  replace HKB := hid (keepBd hb HKB.out)
  clear hb k0 k1 k2 k3 k4 k5 k6 k7 k8 k9 k10 k11 k12 m0 m1 m2 m3 m4 m5 m6 m7 m8 m9 m10 m11 m12
  obtain ⟨k0, k1, k2, k3, k4, k5, k6, k7, k8, k9, k10, k11, k12, -⟩ := HKA.out
  obtain ⟨m0, m1, m2, m3, m4, m5, m6, m7, m8, m9, m10, m11, m12, -⟩ := HKB.out
  go_wp2_with fail
  refine (HB2'.out _ hB).mono ?_
  rintro e w8 ⟨rfl, hb⟩
  replace hB := keepBelow hb hB
  replace HKA := hid (keepBd hb HKA.out)
  replace HKB := hid (keepBd hb HKB.out)
  clear hb k0 k1 k2 k3 k4 k5 k6 k7 k8 k9 k10 k11 k12 m0 m1 m2 m3 m4 m5 m6 m7 m8 m9 m10 m11 m12
  obtain ⟨k0, k1, k2, k3, k4, k5, k6, k7, k8, k9, k10, k11, k12, -⟩ := HKA.out
  obtain ⟨m0, m1, m2, m3, m4, m5, m6, m7, m8, m9, m10, m11, m12, -⟩ := HKB.out
  go_wp2_with fail
  refine (HS2'.out _ hB).mono ?_
  rintro e w9 ⟨rfl, hb⟩
  replace hB := keepBelow hb hB
  replace HKA := hid (keepBd hb HKA.out)
  replace HKB := hid (keepBd hb HKB.out)
  clear hb k0 k1 k2 k3 k4 k5 k6 k7 k8 k9 k10 k11 k12 m0 m1 m2 m3 m4 m5 m6 m7 m8 m9 m10 m11 m12
  go_wp2
  go_returns
  exact ret_bool (by simp) hB
 ·clear HT2 HB2 HS2
  rw [HV1.out, if_pos hE]
  rw [HV2.out, if_pos hE] at HT1
  rw [HV3.out, if_pos hE] at HS1
  clear HV1 HV2 HV3 HB1
  obtain ⟨k0, k1, k2, k3, k4, k5, k6, k7, k8, k9, k10, k11, k12, -⟩ := HKA.out
  obtain ⟨m0, m1, m2, m3, m4, m5, m6, m7, m8, m9, m10, m11, m12, -⟩ := HKB.out
  go_wp2_with fail
  refine (HT1.out _ hB).mono ?_
  rintro e w3 ⟨rfl, hb⟩
  replace hB := keepBelow hb hB
  replace HKA := hid (keepBd hb HKA.out)
  replace HKB := hid (keepBd hb HKB.out)
  clear hb k0 k1 k2 k3 k4 k5 k6 k7 k8 k9 k10 k11 k12 m0 m1 m2 m3 m4 m5 m6 m7 m8 m9 m10 m11 m12
  obtain ⟨k0, k1, k2, k3, k4, k5, k6, k7, k8, k9, k10, k11, k12, -⟩ := HKA.out
  obtain ⟨m0, m1, m2, m3, m4, m5, m6, m7, m8, m9, m10, m11, m12, -⟩ := HKB.out
  go_wp2_with fail
  refine (HS1.out _ hB).mono ?_
  rintro e w4 ⟨rfl, hb⟩
  replace hB := keepBelow hb hB
  replace HKA := hid (keepBd hb HKA.out)
  replace HKB := hid (keepBd hb HKB.out)
  clear hb k0 k1 k2 k3 k4 k5 k6 k7 k8 k9 k10 k11 k12 m0 m1 m2 m3 m4 m5 m6 m7 m8 m9 m10 m11 m12
  obtain ⟨k0, k1, k2, k3, k4, k5, k6, k7, k8, k9, k10, k11, k12, -⟩ := HKA.out
  obtain ⟨m0, m1, m2, m3, m4, m5, m6, m7, m8, m9, m10, m11, m12, -⟩ := HKB.out
  go_wp2_with fail
  refine (HRA.out _ hB).mono ?_
  rintro e w5 ⟨rfl, hb⟩
  replace hB := keepBelow hb hB
  replace HKA := hid (keepBd hb HKA.out)
  replace HKB := hid (keepBd hb HKB.out)
  clear hb k0 k1 k2 k3 k4 k5 k6 k7 k8 k9 k10 k11 k12 m0 m1 m2 m3 m4 m5 m6 m7 m8 m9 m10 m11 m12
  by_cases h1 : ea = 0
  ·have h1b : (ea == 0) = true := by simp [h1]
   obtain ⟨k0, k1, k2, k3, k4, k5, k6, k7, k8, k9, k10, k11, k12, -⟩ := HKA.out
   obtain ⟨m0, m1, m2, m3, m4, m5, m6, m7, m8, m9, m10, m11, m12, -⟩ := HKB.out
   go_wp2_with fail
   refine (HRB.out _ hB).mono ?_
   rintro e w6 ⟨rfl, hb⟩
   replace hB := keepBelow hb hB
   replace HKA := hid (keepBd hb HKA.out)
   replace HKB := hid (keepBd hb HKB.out)
   clear hb k0 k1 k2 k3 k4 k5 k6 k7 k8 k9 k10 k11 k12 m0 m1 m2 m3 m4 m5 m6 m7 m8 m9 m10 m11 m12
   by_cases h2 : eb = 0
   ·have h3 : s < 0 ∨ 65536 < s := by
     have h9 := HE.out
     rw [if_neg (by simp [h1]), if_neg (by simp [h2])] at h9
     by_cases h3 : s < 0 ∨ 65536 < s
     ·exact h3
     ·rw [if_neg h3] at h9; exact absurd h9 hE
    have h4 : ee = 1 := by rw [HE.out, if_neg (by simp [h1]), if_neg (by simp [h2]), if_pos h3]
    clear HE
    subst h1 h2 h4
    rcases h3 with h3 | h3
    ·go_wp2
     go_returns
     exact ret_bool (by simp) hB
    ·have h5 : ¬ s < 0 := by omega
     have h6 : s > 65536 := h3
     go_wp2
     go_returns
     exact ret_bool (by simp) hB
   ·have h4 : ee = eb := by rw [HE.out, if_neg (by simp [h1]), if_pos h2]
    clear HE
    subst h1
    subst h4
    have h5 : (ee == 0) = false := by simp [h2]
    have h6 : (ee != 0) = true := by simp [h2]
    go_wp2
    go_returns
    exact ret_bool (by simp) hB
  ·have h4 : ee = ea := by rw [HE.out, if_pos h1]
   clear HE
   subst h4
   have h5 : (ee == 0) = false := by simp [h1]
   have h6 : (ee != 0) = true := by simp [h1]
   go_wp2
   go_returns
   exact ret_bool (by simp) hB
end
end Go.Proofs.YtilncglnojjlaaaGreat
