/- Contracts of the reference's numbers of eight digits: Add. -/
import Derived.Test.YtjoodpjndpdjnaaA4
namespace Go.Proofs.Ytjoodpjndpdjnaa
set_option linter.unusedVariables false
set_option linter.unusedSimpArgs false
open Go.RowKit

set_option maxRecDepth 100000 in
set_option maxHeartbeats 1000000 in
theorem add_calls (a b : Int) (w : World) :
    Calls Try.prog 39 #[bigV a, bigV b] w (Ret (bigV (a + b)) w) := by
  go_enter Try.func39, Try.ntmps39
  go_wp2
  go_loopw [6, 8] (fun c i wr => ∃ k : Nat, k ≤ 8 ∧ i = .int .i64 k ∧ c = .int .u32 (addC a b k) ∧ Below w.heap.size w wr ∧ Blk8 wr w.heap.size (digs a) ∧ Blk8 wr (w.heap.size + 1) (digs b) ∧ Blk8 wr (w.heap.size + 2) (fun _ => 0) ∧ Blk8 wr (w.heap.size + 3) (part (digs (a + b)) (fun _ => 0) k)) (fun _ i _ => 8 - (intOf i).toNat)
  case atStart =>
    have hz : Blk8 ((((w.alloc (.cells (#[.int .u32 (digs a 0), .int .u32 (digs a 1), .int .u32 (digs a 2), .int .u32 (digs a 3), .int .u32 (digs a 4), .int .u32 (digs a 5), .int .u32 (digs a 6), .int .u32 (digs a 7)]) 52)).alloc (.cells (#[.int .u32 (digs b 0), .int .u32 (digs b 1), .int .u32 (digs b 2), .int .u32 (digs b 3), .int .u32 (digs b 4), .int .u32 (digs b 5), .int .u32 (digs b 6), .int .u32 (digs b 7)]) 52)).alloc (.cells (#[.int .u32 0, .int .u32 0, .int .u32 0, .int .u32 0, .int .u32 0, .int .u32 0, .int .u32 0, .int .u32 0]) 52)).alloc (.cells (#[.int .u32 0, .int .u32 0, .int .u32 0, .int .u32 0, .int .u32 0, .int .u32 0, .int .u32 0, .int .u32 0]) 52)) (w.heap.size + 3) (fun _ => 0) := by simpa using Blk8.here (((w.alloc _).alloc _).alloc _) 52 (fun _ => 0)
    exact ⟨0, by omega, rfl, by rw [addC_zero], by go_grown, (((Blk8.here w _ (digs a)).alloc (by simp) _).alloc (by simp; omega) _).alloc (by simp; omega) _, by simpa using ((Blk8.here (w.alloc _) 52 (digs b)).alloc (by simp) _).alloc (by simp) _, by simpa using ((Blk8.here ((w.alloc _).alloc _) 52 (fun _ => 0)).alloc (by simp) _), hz.congr fun j _ => (part_zero (digs (a + b)) (fun _ => 0) j).symm⟩
  case round =>
    obtain ⟨k, hk, rfl, rfl, hB, hA, hBb, hZ, hO⟩ := hrel
    have hcb := addC_bd a b k
    have hd1 := digs_nonneg a k
    have hd2 := digs_nonneg b k
    have hd3 := digs_lt a k
    have hd4 := digs_lt b k
    by_cases hlt : k < 8
    · have hc := hO.cell k hlt
      have hf := hO.free k
      have ha := hA.cell k hlt
      have hb := hBb.cell k hlt
      have HO := hid hO
      have HZ := hid hZ
      have HA := hid hA
      have HB := hid hBb
      clear hO hZ hA hBb
      go_wp2
      go_quiet (fail)
      go_wp2
      exact ⟨⟨k + 1, hlt, by go_num, by rw [addC_succ], (below_drewN' hB _).setCell (by show w.heap.size ≤ w.heap.size + 1 + 1 + 1; omega) _, (HA.out.drewN _).far (show w.heap.size + 1 + 1 + 1 ≠ w.heap.size from by omega) _, (HB.out.drewN _).far (show w.heap.size + 1 + 1 + 1 ≠ w.heap.size + 1 from by omega) _, (HZ.out.drewN _).far (show w.heap.size + 1 + 1 + 1 ≠ w.heap.size + 2 from by omega) _,
        (HO.out.drewN _).set hlt (by rw [part_at, add_digit, and16_u32 _ (by omega) (by omega)]) (part_ne _ _ k)⟩, by simp [intOf]; omega⟩
    · obtain rfl : k = 8 := by omega
      obtain ⟨z0, z1, z2, z3, z4, z5, z6, z7⟩ := hZ.all
      have hO' := hO.congr (o' := digs (a + b)) fun j hj => part_full _ _ _ _ hj
      obtain ⟨o0, o1, o2, o3, o4, o5, o6, o7⟩ := hO'.all
      have zf := hZ.free
      clear hO hZ hO' hA hBb
      go_wp2
      refine bodyPost_ret (v := bigV (a + b)) (by simp [results, Try.results39, go_sem, z0, z1, z2, z3, z4, z5, z6, z7]) rfl ⟨rfl, ?_⟩
      go_grown

end Go.Proofs.Ytjoodpjndpdjnaa
