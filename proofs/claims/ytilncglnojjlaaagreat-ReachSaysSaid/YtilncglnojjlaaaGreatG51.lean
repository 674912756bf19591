/- Parts of a proof: contracts and laws. -/
import Derived.Test.YtilncglnojjlaaaGreatG30
import Derived.Test.YtilncglnojjlaaaGreatG49
import Derived.Test.YtilncglnojjlaaaGreatGLK
namespace Go.Proofs.YtilncglnojjlaaaGreat
section
set_option linter.unusedVariables false
set_option linter.unusedSimpArgs false
open Go.RowKit
theorem rbA_ok : bodyE raA (sqL (-1) (-1) 2) = 0 := by decide
theorem rbB_ok : bodyE raB (sqL (-1) (-1) 2) = 0 := by decide
theorem rb_time : timeO raA (sqL (-1) (-1) 2) raB (sqL (-1) (-1) 2) 65536 = (43939, true) := by kernel_rfl
theorem rb_v : timeV raA (sqL (-1) (-1) 2) raB (sqL (-1) (-1) 2) 65536 = .tuple #[.int .i64 43939, .bool true, .int .i64 0] := by
 have e : rbdE raA (sqL (-1) (-1) 2) raB (sqL (-1) (-1) 2) 65536 = 0 := by unfold rbdE; rw [if_neg (by simp [rbA_ok]), if_neg (by simp [rbB_ok]), if_neg (by omega)]
 unfold timeV
 rw [if_neg (by simp [e]), rb_time]
set_option maxRecDepth 100000 in
set_option maxHeartbeats 4000000 in
theorem reachBegun_calls (w : World) : Calls Tryz.prog 4 #[] w (Ret (.bool true) w) := by
 have HBA : Hid (∀ w, Calls Tryz.prog 12 #[.int .i64 (-5), .int .i64 0, .bool true] w (RetBlk raA0 (sqL (-1) (-1) 2) w)) := fun w => lblock2_calls_mov (-5) 0 (by omega) (by omega) w
 have HBB : Hid (∀ w, Calls Tryz.prog 12 #[.int .i64 5, .int .i64 0, .bool true] w (RetBlk raB0 (sqL (-1) (-1) 2) w)) := fun w => lblock2_calls_mov 5 0 (by omega) (by omega) w
 have HT1 := hid rb_v
 have HQL : Hid ((sqL (-1) (-1) 2).length ≤ 8796093022208) := by show _ ≤ _; simp [sqL]
 generalize sqL (-1) (-1) 2 = q at *
 go_enter Tryz.func4, Tryz.ntmps4
 go_wp2_with fail
 refine (HBA.out _).mono ?_
 rintro e w1 ⟨A, n, c, rfl, hs1, -, hb1⟩
 unfold bodyV raA0
 dsimp only
 go_wp2_with fail
 refine (HBB.out _).mono ?_
 rintro e w2 ⟨B, m, d, rfl, hs2, -, hb2⟩
 unfold bodyV raB0
 dsimp only
 have hB2 := keepBelow hb2 hb1
 have hs1' := hs1.below hb2
 obtain ⟨w3, hw3⟩ : ∃ w3, w3 = (w2.alloc (.cells #[.int .i64 (-327680), .int .i64 0, .int .i64 (0), .int .i64 0, .int .i64 0, .int .i64 0, .int .i64 65536, .int .i64 65536, .int .i64 0, .int .i64 0, .slice A n c, .bool false, .int .i64 0] 26)).alloc (.cells #[.int .i64 (327680), .int .i64 0, .int .i64 (0), .int .i64 0, .int .i64 0, .int .i64 0, .int .i64 65536, .int .i64 65536, .int .i64 0, .int .i64 0, .slice B m d, .bool false, .int .i64 0] 26) := ⟨_, rfl⟩
 obtain ⟨gA, hgA⟩ : ∃ g, g = w2.heap.size := ⟨_, rfl⟩
 have hKA : BdAt w3 gA raA0 A n c := by rw [hw3, hgA]; exact (BdAt.here w2 raA0 A n c _).alloc _
 have hKB : BdAt w3 (gA + 1) raB0 B m d := by rw [hw3, hgA]; have := BdAt.here (w2.alloc (.cells #[.int .i64 (-327680), .int .i64 0, .int .i64 (0), .int .i64 0, .int .i64 0, .int .i64 0, .int .i64 65536, .int .i64 65536, .int .i64 0, .int .i64 0, .slice A n c, .bool false, .int .i64 0] 26)) raB0 B m d 26; simpa [raB0] using this
 have hB3 : Below w.heap.size w w3 := by rw [hw3]; exact (hB2.alloc hB2.size _).alloc (by have := hB2.size; simp; omega) _
 have hgw : w.heap.size ≤ gA := by have := hB2.size; omega
 obtain ⟨w4, hw4⟩ : ∃ w4, w4 = (w3.setCell ⟨gA, 2, none⟩ (.int .i64 262144)).setCell ⟨gA + 1, 2, none⟩ (.int .i64 (-524288)) := ⟨_, rfl⟩
 have HKA : Hid (BdAt w4 gA raA A n c) := by show BdAt _ _ _ _ _ _; rw [hw4]; exact ((hKA.set_vx 262144).far (gA + 1) 2 _ (by omega))
 have HKB : Hid (BdAt w4 (gA + 1) raB B m d) := by show BdAt _ _ _ _ _ _; rw [hw4]; exact ((hKB.far gA 2 _ (by omega)).set_vx (-524288))
 have HB : Hid (Below w.heap.size w w4) := by show Below _ _ _; rw [hw4]; exact (hB3.setCell (p := ⟨gA, 2, none⟩) hgw _).setCell (p := ⟨gA + 1, 2, none⟩) (by show w.heap.size ≤ gA + 1; omega) _
 have HNA : Hid (∀ {A : Option Addr} {n c : Nat}, Sl w2 A n c q → Sl w4 A n c q) := fun {A n c} h => by
  have h3 : Sl w3 A n c q := by rw [hw3]; exact (h.alloc _).alloc _
  rw [hw4]
  refine Sl.setAt2 (Sl.setAt2 h3 (fun hne b off e => ?_)) (fun hne b off e => ?_)
  ·obtain ⟨b', off', e', hc⟩ := h.at_ hne
   rw [e] at e'; cases e'; have := hc.lt; omega
  ·obtain ⟨b', off', e', hc⟩ := h.at_ hne
   rw [e] at e'; cases e'; have := hc.lt; omega
 have HC1 := hid (fun (w' : World) (hb : Below w4.heap.size w4 w') => time_calls raA raB A B n c m d q q 65536 w' ((HNA.out hs1').below hb) ((HNA.out hs2).below hb) HQL.out HQL.out)
 rw [HT1.out] at HC1
 obtain ⟨k0, k1, k2, k3, k4, k5, k6, k7, k8, k9, k10, k11, k12, kf⟩ := hKA
 obtain ⟨m0, m1, m2, m3, m4, m5, m6, m7, m8, m9, m10, m11, m12, mf⟩ := hKB
 simp only [raA0] at k0 k1 k2 k3 k4 k5 k6 k7 k8 k9 k10 k11 k12
 simp only [raB0] at m0 m1 m2 m3 m4 m5 m6 m7 m8 m9 m10 m11 m12
 have hl2 := lt_of_cell m0
 clear HT1 HBA HBB hs1 hs2 hs1' hb1 hb2 hB2 hB3
 go_upto_region 2 with fail
 rw [← hw3]
 try rw [← hgA]
 clear hw3 hgA
 go_upto_region 3 with fail
 rw [← hw4]
 clear hw4 k0 k1 k2 k3 k4 k5 k6 k7 k8 k9 k10 k11 k12 m0 m1 m2 m3 m4 m5 m6 m7 m8 m9 m10 m11 m12 kf mf
 obtain ⟨k0, k1, k2, k3, k4, k5, k6, k7, k8, k9, k10, k11, k12, -⟩ := HKA.out
 obtain ⟨m0, m1, m2, m3, m4, m5, m6, m7, m8, m9, m10, m11, m12, -⟩ := HKB.out
 go_wp2_with fail
 refine (HC1.out _ (Below.refl _ _)).mono ?_
 rintro e w5 ⟨rfl, hb⟩
 replace HB := hid (keepBelow hb HB.out)
 clear hb k0 k1 k2 k3 k4 k5 k6 k7 k8 k9 k10 k11 k12 m0 m1 m2 m3 m4 m5 m6 m7 m8 m9 m10 m11 m12
 go_wp2
 go_returns
 exact ret_bool (by simp) HB.out
end
end Go.Proofs.YtilncglnojjlaaaGreat
