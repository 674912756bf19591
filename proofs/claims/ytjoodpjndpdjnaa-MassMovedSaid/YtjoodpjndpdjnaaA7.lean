/- Contracts of the reference's numbers of eight digits: Neg, Sub, Below, Cmp, twice. -/
import Derived.Test.YtjoodpjndpdjnaaA6
import Derived.Deep.RegionWith
namespace Go.Proofs.Ytjoodpjndpdjnaa
set_option linter.unusedVariables false
set_option linter.unusedSimpArgs false
open Go.RowKit

/-- all bits of the lowest digits turned: the number below the negated one -/
theorem xor16 (a : Int) (k : Nat) : bits .xor .u32 (digs a k) 65535 = digs (-a - 1) k := by
  have h0 := digs_nonneg a k
  have h1 := digs_lt a k
  have e : digs (-a - 1) k = 65535 - digs a k := by
    unfold digs
    have hp := pow_pos' k
    generalize (65536 : Int) ^ k = M at *
    have e1 : (-a - 1) / M = - (a / M) - 1 := by
      have := Int.emod_add_mul_ediv a M
      have h2 := Int.emod_nonneg a (Int.ne_of_gt hp)
      have h3 := Int.emod_lt_of_pos a hp
      rw [show -a - 1 = (M - 1 - a % M) + (-(a / M) - 1) * M by grind, Int.add_mul_ediv_right _ _ (Int.ne_of_gt hp), Int.ediv_eq_zero_of_lt (by omega) (by omega)]
      omega
    rw [e1]
    omega
  rw [e]
  generalize digs a k = d at *
  obtain ⟨n, rfl⟩ := Int.eq_ofNat_of_zero_le h0
  have hn : n < 65536 := by omega
  have : bits .xor .u32 (n : Int) 65535 = ((n ^^^ 65535 : Nat) : Int) := by
    show IntKind.u32.wrap ((BitVec.ofInt 32 (n : Int) ^^^ BitVec.ofInt 32 65535).toNat : Int) = _
    have hx : n ^^^ 65535 < 2 ^ 16 := Nat.xor_lt_two_pow (by omega) (by omega)
    rw [BitVec.toNat_xor, BitVec.ofInt_natCast, BitVec.toNat_ofNat, show (BitVec.ofInt 32 65535).toNat = 65535 from rfl, Nat.mod_eq_of_lt (by omega), IntKind.wrap_u32]
    omega
  rw [this]
  have hx : n ^^^ 65535 = 65535 - n := by
    have h3 := congrArg BitVec.toNat (BitVec.xor_allOnes (x := BitVec.ofNat 16 n))
    rw [BitVec.toNat_xor, BitVec.toNat_not, BitVec.toNat_ofNat, BitVec.toNat_allOnes, Nat.mod_eq_of_lt (by omega)] at h3
    exact h3
  rw [hx]
  omega

set_option maxRecDepth 100000 in
set_option maxHeartbeats 1000000 in
theorem neg_calls (a : Int) (w : World) :
    Calls Try.prog 82 #[bigV a] w (Ret (bigV (-a)) w) := by
  go_enter Try.func82, Try.ntmps82
  go_wp2
  go_loopw [4] (fun i wr => ∃ k : Nat, k ≤ 8 ∧ i = .int .i64 k ∧ Below w.heap.size w wr ∧ Blk8 wr w.heap.size (part (digs (-a - 1)) (digs a) k) ∧ Blk8 wr (w.heap.size + 1) (fun _ => 0)) (fun i _ => 8 - (intOf i).toNat)
  case atStart =>
    exact ⟨0, by omega, rfl, by go_grown, ((Blk8.here w _ (digs a)).alloc (by simp) _).congr fun j _ => (part_zero (digs (-a - 1)) (digs a) j).symm, by simpa using (Blk8.here (w.alloc _) 52 (fun _ => 0))⟩
  case round =>
    obtain ⟨k, hk, rfl, hB, hA, hZ⟩ := hrel
    by_cases hlt : k < 8
    · have hc := hA.cell k hlt
      rw [show part (digs (-a - 1)) (digs a) k k = digs a k by simp [part]] at hc
      have hf := hA.free k
      have hx := xor16 a k
      have HA := hid hA
      have HZ := hid hZ
      clear hA hZ
      go_wp2
      exact ⟨⟨k + 1, by omega, by go_num, hB.setCell (Nat.le_refl _) _, HA.out.set hlt (part_at _ _ k) (part_ne _ _ k), HZ.out.far (show w.heap.size ≠ w.heap.size + 1 from by omega) _⟩, by simp [intOf]; omega⟩
    · have hA' := hA.congr (o' := digs (-a - 1)) fun j hj => part_full _ _ _ _ (by omega)
      obtain ⟨o0, o1, o2, o3, o4, o5, o6, o7⟩ := hA'.all
      have HA := hid hA'
      have HZ := hid hZ
      have hsz : w.heap.size + 1 < wr.heap.size := hZ.lt
      clear hA hZ hA'
      go_wp2
      go_region_with (first | (go_at_call 36; refine (of_calls 1 (by omega) (by omega) _).mono ?_; rintro e w1 ⟨rfl, hb1⟩; have HZ1 := hid ((HZ.out.drew).below hb1 hsz); have HA1 := (HA.out.drew).below hb1 (Nat.lt_of_succ_lt hsz); obtain ⟨p0, p1, p2, p3, p4, p5, p6, p7⟩ := HA1.all; clear HA1) | (go_at_call 39; refine (add_calls _ _ _).mono ?_; rintro e w2 ⟨rfl, hb2⟩; have HZ2 := HZ1.out.below hb2 HZ1.out.lt; obtain ⟨z0, z1, z2, z3, z4, z5, z6, z7⟩ := HZ2.all; have zf := HZ2.free; clear HZ2))
      all_goals
        go_wp2
        refine bodyPost_ret (v := bigV (-a)) (by simp [results, Try.results82, go_sem, z0, z1, z2, z3, z4, z5, z6, z7]) rfl ⟨rfl, ?_⟩
        have hz := (Below.drew hB).trans ((hb1.mono (show w.heap.size ≤ wr.drew.heap.size from hB.size)).trans (hb2.mono (Nat.le_trans hB.size hb1.size)))
        go_grown

end Go.Proofs.Ytjoodpjndpdjnaa
