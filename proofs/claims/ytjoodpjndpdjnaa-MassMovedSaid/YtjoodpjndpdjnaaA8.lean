/- Contracts of the reference's numbers of eight digits: Sub, Below, twice. -/
import Derived.Test.YtjoodpjndpdjnaaA7
namespace Go.Proofs.Ytjoodpjndpdjnaa
set_option linter.unusedVariables false
set_option linter.unusedSimpArgs false
open Go.RowKit

set_option maxRecDepth 100000 in
set_option maxHeartbeats 1000000 in
theorem bsub_calls (a b : Int) (w : World) :
    Calls Try.prog 40 #[bigV a, bigV b] w (Ret (bigV (a - b)) w) := by
  obtain ⟨W, hW⟩ : ∃ W, W = ((w.alloc (.cells (#[.int .u32 (digs a 0), .int .u32 (digs a 1), .int .u32 (digs a 2), .int .u32 (digs a 3), .int .u32 (digs a 4), .int .u32 (digs a 5), .int .u32 (digs a 6), .int .u32 (digs a 7)]) 52)).alloc (.cells (#[.int .u32 (digs b 0), .int .u32 (digs b 1), .int .u32 (digs b 2), .int .u32 (digs b 3), .int .u32 (digs b 4), .int .u32 (digs b 5), .int .u32 (digs b 6), .int .u32 (digs b 7)]) 52)).alloc (.cells (#[.int .u32 0, .int .u32 0, .int .u32 0, .int .u32 0, .int .u32 0, .int .u32 0, .int .u32 0, .int .u32 0]) 52) := ⟨_, rfl⟩
  have hA : Blk8 W w.heap.size (digs a) := by subst hW; exact ((Blk8.here w _ (digs a)).alloc (by simp) _).alloc (by simp; omega) _
  have hBb : Blk8 W (w.heap.size + 1) (digs b) := by subst hW; simpa using ((Blk8.here (w.alloc _) 52 (digs b)).alloc (by simp) _)
  have hZ : Blk8 W (w.heap.size + 2) (fun _ => 0) := by subst hW; simpa using (Blk8.here ((w.alloc _).alloc _) 52 (fun _ => 0))
  have hB : Below w.heap.size w W := by subst hW; go_grown
  obtain ⟨a0, a1, a2, a3, a4, a5, a6, a7⟩ := hA.all
  obtain ⟨b0, b1, b2, b3, b4, b5, b6, b7⟩ := hBb.all
  have HA := hid hA
  have HB := hid hBb
  have HZ := hid hZ
  clear hA hBb hZ
  go_enter Try.func40, Try.ntmps40
  go_wp2
  rw [← hW]
  have HW := hid hW
  clear hW
  go_region_with (first | (go_at_call 82; refine (neg_calls _ _).mono ?_; rintro e w1 ⟨rfl, hb1⟩; have HA1 := (HA.out.drew).below hb1 HA.out.lt; obtain ⟨p0, p1, p2, p3, p4, p5, p6, p7⟩ := HA1.all; clear HA1) | (go_at_call 39; refine (add_calls _ _ _).mono ?_; rintro e w2 ⟨rfl, hb2⟩; have HZ2 := (HZ.out.drew.below hb1 HZ.out.lt).below hb2 (Nat.lt_of_lt_of_le HZ.out.lt hb1.size); obtain ⟨z0, z1, z2, z3, z4, z5, z6, z7⟩ := HZ2.all; have zf := HZ2.free; clear HZ2))
  all_goals
    go_wp2
    refine bodyPost_ret (v := bigV (a - b)) (by simp [results, Try.results40, go_sem, z0, z1, z2, z3, z4, z5, z6, z7, Int.sub_eq_add_neg]) rfl ⟨rfl, ?_⟩
    have hz := (Below.drew hB).trans ((hb1.mono (show w.heap.size ≤ W.drew.heap.size from hB.size)).trans (hb2.mono (Nat.le_trans hB.size hb1.size)))
    go_grown

theorem shr15 (z : Int) (h : -170141183460469231731687303715884105728 ≤ z) (h2 : z < 170141183460469231731687303715884105728) : (digs z 7 / 32768 == 1) = decide (z < 0) := by
  have : digs z 7 = z / 5192296858534827628530496329220096 % 65536 := by simp [digs]
  rw [this, Bool.eq_iff_iff]
  simp only [beq_iff_eq, decide_eq_true_iff]
  omega

set_option maxRecDepth 100000 in
theorem below_calls (a : Int) (w : World) (h : -170141183460469231731687303715884105728 ≤ a) (h2 : a < 170141183460469231731687303715884105728) :
    Calls Try.prog 83 #[bigV a] w (Ret (.bool (decide (a < 0))) w) := by
  have hs := hid (shr15 a h h2)
  have hd := digs_nonneg a 7
  clear h h2
  go_enter Try.func83, Try.ntmps83
  go_wp2
  go_returns
  exact ret_bool hs.out (by go_grown)

set_option maxRecDepth 100000 in
set_option maxHeartbeats 1000000 in
theorem twice_calls (a : Int) (w : World) : Calls Try.prog 84 #[bigV a] w (Ret (bigV (a + a)) w) := by
  go_enter Try.func84, Try.ntmps84
  have hZ : Blk8 ((w.alloc (.cells (#[.int .u32 (digs a 0), .int .u32 (digs a 1), .int .u32 (digs a 2), .int .u32 (digs a 3), .int .u32 (digs a 4), .int .u32 (digs a 5), .int .u32 (digs a 6), .int .u32 (digs a 7)]) 52)).alloc (.cells (#[.int .u32 0, .int .u32 0, .int .u32 0, .int .u32 0, .int .u32 0, .int .u32 0, .int .u32 0, .int .u32 0]) 52)) (w.heap.size + 1) (fun _ => 0) := by simpa using (Blk8.here (w.alloc _) 52 (fun _ => 0))
  have HZ := hid hZ
  clear hZ
  go_wp2_with (go_at_call 39; refine (add_calls _ _ _).mono ?_; rintro e w2 ⟨rfl, hb2⟩; have HZ2 := HZ.out.below hb2 (by simp); obtain ⟨z0, z1, z2, z3, z4, z5, z6, z7⟩ := HZ2.all; have zf := HZ2.free; clear HZ2)
  refine bodyPost_ret (v := bigV (a + a)) (by simp [results, Try.results84, go_sem, z0, z1, z2, z3, z4, z5, z6, z7]) rfl ⟨rfl, ?_⟩
  have hz := (((Below.refl w.heap.size w).alloc (Nat.le_refl _) _).alloc (by simp) _).trans (hb2.mono (by simp; omega))
  go_grown

end Go.Proofs.Ytjoodpjndpdjnaa
