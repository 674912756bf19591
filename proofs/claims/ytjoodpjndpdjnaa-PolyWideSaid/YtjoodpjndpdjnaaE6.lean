/- Contracts of the reference's Big.Wide. -/
import Derived.Test.YtjoodpjndpdjnaaA10
import Derived.Test.YtjoodpjndpdjnaaM2
namespace Go.Proofs.Ytjoodpjndpdjnaa
set_option linter.unusedVariables false
set_option linter.unusedSimpArgs false
open Go.RowKit

theorem or16_0 (d : Int) (h0 : 0 ≤ d) (h1 : d ≤ 65535) : bits .or .u64 0 d = d := by go_bits2
theorem or16_1 (z d : Int) (z0 : 0 ≤ z) (z1 : z < 65536) (h0 : 0 ≤ d) (h1 : d ≤ 65535) : bits .or .u64 z (d * 65536) = z + d * 65536 := by go_bits2
theorem or16_2 (z d : Int) (z0 : 0 ≤ z) (z1 : z < 4294967296) (h0 : 0 ≤ d) (h1 : d ≤ 65535) : bits .or .u64 z (d * 4294967296) = z + d * 4294967296 := by go_bits2
theorem or16_3 (z d : Int) (z0 : 0 ≤ z) (z1 : z < 281474976710656) (h0 : 0 ≤ d) (h1 : d ≤ 65535) : bits .or .u64 z (d * 281474976710656) = z + d * 281474976710656 := by go_bits2

/-- the low k digits -/
def lowD (z : Int) (k : Nat) : Int := z % 65536 ^ k
theorem lowD_zero (z : Int) : lowD z 0 = 0 := by simp [lowD, Int.emod_one]
theorem lowD_succ (z : Int) (k : Nat) : lowD z (k + 1) = lowD z k + digs z k * 65536 ^ k := by unfold lowD; rw [digs_step]; rw [Int.mul_comm]
theorem lowD_bd (z : Int) (k : Nat) : 0 ≤ lowD z k ∧ lowD z k < 65536 ^ k := ⟨Int.emod_nonneg _ (Int.ne_of_gt (pow_pos' k)), Int.emod_lt_of_pos _ (pow_pos' k)⟩

theorem or_0 (z : Int) : bits .or .u64 (lowD z 0) (digs z 0) = lowD z 1 := by
  have := lowD_succ z 0
  rw [lowD_zero] at *
  rw [or16_0 _ (digs_nonneg _ _) (digs_lt _ _), this]
  simp
theorem or_1 (z : Int) : bits .or .u64 (lowD z 1) (digs z 1 * 65536) = lowD z 2 := by
  have b := lowD_bd z 1
  have := lowD_succ z 1
  simp only [Int.reducePow, Nat.reduceAdd] at *
  rw [or16_1 _ _ b.1 b.2 (digs_nonneg _ _) (digs_lt _ _), this]
theorem or_2 (z : Int) : bits .or .u64 (lowD z 2) (digs z 2 * 4294967296) = lowD z 3 := by
  have b := lowD_bd z 2
  have := lowD_succ z 2
  simp only [Int.reducePow, Nat.reduceAdd] at *
  rw [or16_2 _ _ b.1 b.2 (digs_nonneg _ _) (digs_lt _ _), this]
theorem or_3 (z : Int) : bits .or .u64 (lowD z 3) (digs z 3 * 281474976710656) = lowD z 4 := by
  have b := lowD_bd z 3
  have := lowD_succ z 3
  simp only [Int.reducePow, Nat.reduceAdd] at *
  rw [or16_3 _ _ b.1 b.2 (digs_nonneg _ _) (digs_lt _ _), this]
theorem digs_hi (z : Int) (k : Nat) : digs z (4 + k) = digs (z / 18446744073709551616) k := by
  rw [← digs_shift]
  simp only [Int.reducePow]
theorem or_4 (z : Int) : bits .or .u64 (lowD (z / 18446744073709551616) 0) (digs z 4) = lowD (z / 18446744073709551616) 1 := by rw [digs_hi z 0]; exact or_0 _
theorem or_5 (z : Int) : bits .or .u64 (lowD (z / 18446744073709551616) 1) (digs z 5 * 65536) = lowD (z / 18446744073709551616) 2 := by rw [digs_hi z 1]; exact or_1 _
theorem or_6 (z : Int) : bits .or .u64 (lowD (z / 18446744073709551616) 2) (digs z 6 * 4294967296) = lowD (z / 18446744073709551616) 3 := by rw [digs_hi z 2]; exact or_2 _
theorem or_7 (z : Int) : bits .or .u64 (lowD (z / 18446744073709551616) 3) (digs z 7 * 281474976710656) = lowD (z / 18446744073709551616) 4 := by rw [digs_hi z 3]; exact or_3 _

set_option maxRecDepth 100000 in
set_option maxHeartbeats 1000000 in
theorem wide_calls (z : Int) (w : World) : Calls Try.prog 38 #[bigV z] w (Ret (wideV z) w) := by
  go_enter Try.func38, Try.ntmps38
  go_wp2
  go_loopw [3, 4, 6] (fun a b i wr => ∃ k : Nat, k ≤ 4 ∧ i = .int .i64 k ∧ a = .int .u64 (lowD z k) ∧ b = .int .u64 (lowD (z / 18446744073709551616) k) ∧ Below w.heap.size w wr ∧ Blk8 wr w.heap.size (digs z) ∧ There wr (w.heap.size + 1) 2) (fun _ _ i _ => 4 - (intOf i).toNat)
  case atStart =>
    exact ⟨0, by omega, rfl, by rw [lowD_zero], by rw [lowD_zero], by go_grown, (Blk8.here w _ (digs z)).alloc (by simp) _, fun j hj => match j, hj with | 0, _ => ⟨⟨_, by go_simp; rfl⟩, by go_simp⟩ | 1, _ => ⟨⟨_, by go_simp; rfl⟩, by go_simp⟩⟩
  case round =>
    obtain ⟨k, hk, rfl, rfl, rfl, hB, hA, hT⟩ := hrel
    by_cases hlt : k < 4
    · have b1 := lowD_bd z k
      have b2 := lowD_bd (z / 18446744073709551616) k
      have c1 := hA.cell k (by omega)
      have c2 := hA.cell (4 + k) (by omega)
      have d1 := digs_nonneg z k
      have d2 := digs_lt z k
      have d3 := digs_nonneg z (4 + k)
      have d4 := digs_lt z (4 + k)
      have HA := hid hA
      have HT := hid hT
      clear hA hT
      obtain rfl | rfl | rfl | rfl : k = 0 ∨ k = 1 ∨ k = 2 ∨ k = 3 := by omega
      all_goals
        simp only [Int.reducePow, Nat.reduceAdd] at b1 b2 c1 c2 d1 d2 d3 d4
        go_wp2
      · exact ⟨⟨1, by omega, rfl, by rw [or_0], by rw [or_4], hB, HA.out, HT.out⟩, by simp [intOf]⟩
      · exact ⟨⟨2, by omega, rfl, by rw [or_1], by rw [or_5], hB, HA.out, HT.out⟩, by simp [intOf]⟩
      · exact ⟨⟨3, by omega, rfl, by rw [or_2], by rw [or_6], hB, HA.out, HT.out⟩, by simp [intOf]⟩
      · exact ⟨⟨4, by omega, rfl, by rw [or_3], by rw [or_7], hB, HA.out, HT.out⟩, by simp [intOf]⟩
    · obtain rfl : k = 4 := by omega
      obtain ⟨z0, z1, y0, y1, f0, f1⟩ := hT.get2
      have hlt2 := lt_of_cell y0
      have hHi := hid (show wrap64 (lowD (z / 18446744073709551616) 4) = hiW z by simp only [lowD, hiW, Int.reducePow]; unfold wrap64; omega)
      have hLo := hid (show lowD z 4 = loW z by simp only [lowD, loW, Int.reducePow])
      clear hA hT
      go_wp2
      refine bodyPost_ret (v := wideV z) (by simp [results, Try.results38, go_sem, y0, y1, hlt2, hLo.out, hHi.out]) rfl ⟨rfl, ?_⟩
      go_grown

end Go.Proofs.Ytjoodpjndpdjnaa
