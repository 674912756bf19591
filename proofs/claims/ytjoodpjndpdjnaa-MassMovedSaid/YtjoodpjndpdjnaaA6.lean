/- Contracts of the reference's numbers of eight digits: Mul. -/
import Derived.Test.YtjoodpjndpdjnaaA5
namespace Go.Proofs.Ytjoodpjndpdjnaa
set_option linter.unusedVariables false
set_option linter.unusedSimpArgs false
open Go.RowKit

/-- rows below i of the product -/
def rowX (a b : Int) (i : Nat) : Int := (a % 65536 ^ i) * b
theorem rowX_zero (a b : Int) : rowX a b 0 = 0 := by simp [rowX, Int.emod_one]
theorem rowX_succ (a b : Int) (i : Nat) : rowX a b (i + 1) = rowX a b i + 65536 ^ i * (digs a i * b) := by
  unfold rowX
  rw [digs_step]
  grind
theorem rowX_low (a b : Int) (i j : Nat) (h : j < i) : digs (rowX a b (i + 1)) j = digs (rowX a b i) j := by
  rw [rowX_succ, digs_low _ _ _ _ h]
theorem rowX_div (a b : Int) (i : Nat) : rowX a b (i + 1) / 65536 ^ i = rowX a b i / 65536 ^ i + digs a i * b := by
  rw [rowX_succ, ← Int.mul_assoc, shift_div]
/-- the carry into digit i + k of row i -/
def rowC (a b : Int) (i k : Nat) : Int := colC (rowX a b i / 65536 ^ i) (digs a i) b k
theorem rowC_zero (a b : Int) (i : Nat) : rowC a b i 0 = 0 := colC_zero _ _ _
theorem rowC_bd (a b : Int) (i k : Nat) : 0 ≤ rowC a b i k ∧ rowC a b i k ≤ 65535 := colC_bd _ _ _ _ (digs_nonneg _ _) (digs_lt _ _)
theorem row_digit (a b : Int) (i k : Nat) : digs (rowX a b (i + 1)) (i + k) = (rowC a b i k + (digs a i * digs b k + digs (rowX a b i) (i + k))) % 65536 := by
  rw [← digs_shift, rowX_div, colC_digit, digs_shift]
  rfl
theorem rowC_succ (a b : Int) (i k : Nat) : rowC a b i (k + 1) = (rowC a b i k + (digs a i * digs b k + digs (rowX a b i) (i + k))) / 65536 := by
  unfold rowC
  rw [colC_succ, digs_shift]
theorem rowX_eight (a b : Int) (j : Nat) (h : j < 8) : digs (rowX a b 8) j = digs (a * b) j := by
  have h1 := Int.emod_add_mul_ediv a (65536 ^ 8)
  unfold rowX
  have e : a * b = a % 65536 ^ 8 * b + 65536 ^ 8 * (a / 65536 ^ 8 * b) := by
    generalize a % 65536 ^ 8 = r at *
    generalize a / 65536 ^ 8 = q at *
    rw [← h1]
    grind
  rw [e, digs_low _ _ _ _ h]

set_option maxRecDepth 100000 in
set_option maxHeartbeats 1000000 in
theorem mul_calls (a b : Int) (w : World) :
    Calls Try.prog 37 #[bigV a, bigV b] w (Ret (bigV (a * b)) w) := by
  go_enter Try.func37, Try.ntmps37
  go_wp2
  go_loopw [9] (fun i wr => ∃ k : Nat, k ≤ 8 ∧ i = .int .i64 k ∧ Below w.heap.size w wr ∧ Blk8 wr w.heap.size (digs a) ∧ Blk8 wr (w.heap.size + 1) (digs b) ∧ Blk8 wr (w.heap.size + 2) (fun _ => 0) ∧ Blk8 wr (w.heap.size + 3) (digs (rowX a b k))) (fun i _ => 8 - (intOf i).toNat)
  case atStart =>
    have hz : Blk8 ((((w.alloc (.cells (#[.int .u32 (digs a 0), .int .u32 (digs a 1), .int .u32 (digs a 2), .int .u32 (digs a 3), .int .u32 (digs a 4), .int .u32 (digs a 5), .int .u32 (digs a 6), .int .u32 (digs a 7)]) 52)).alloc (.cells (#[.int .u32 (digs b 0), .int .u32 (digs b 1), .int .u32 (digs b 2), .int .u32 (digs b 3), .int .u32 (digs b 4), .int .u32 (digs b 5), .int .u32 (digs b 6), .int .u32 (digs b 7)]) 52)).alloc (.cells (#[.int .u32 0, .int .u32 0, .int .u32 0, .int .u32 0, .int .u32 0, .int .u32 0, .int .u32 0, .int .u32 0]) 52)).alloc (.cells (#[.int .u32 0, .int .u32 0, .int .u32 0, .int .u32 0, .int .u32 0, .int .u32 0, .int .u32 0, .int .u32 0]) 52)) (w.heap.size + 3) (fun _ => 0) := by simpa using Blk8.here (((w.alloc _).alloc _).alloc _) 52 (fun _ => 0)
    exact ⟨0, by omega, rfl, by go_grown, (((Blk8.here w _ (digs a)).alloc (by simp) _).alloc (by simp; omega) _).alloc (by simp; omega) _, by simpa using ((Blk8.here (w.alloc _) 52 (digs b)).alloc (by simp) _).alloc (by simp) _, by simpa using ((Blk8.here ((w.alloc _).alloc _) 52 (fun _ => 0)).alloc (by simp) _), hz.congr fun j _ => by rw [rowX_zero]; simp [digs]⟩
  case round =>
    obtain ⟨i, hi, rfl, hB, hA, hBb, hZ, hO⟩ := hrel
    obtain ⟨wo, rfl⟩ : ∃ wo : World, wo = wr := ⟨_, rfl⟩
    by_cases hlt : i < 8
    · have HO := hid hO
      have HZ := hid hZ
      have HA := hid hA
      have HB := hid hBb
      clear hO hZ hA hBb
      go_wp2
      go_loopw [7, 8] (fun c j wr => ∃ k : Nat, i + k ≤ 8 ∧ j = .int .i64 k ∧ c = .int .u64 (rowC a b i k) ∧ Below w.heap.size w wr ∧ Blk8 wr w.heap.size (digs a) ∧ Blk8 wr (w.heap.size + 1) (digs b) ∧ Blk8 wr (w.heap.size + 2) (fun _ => 0) ∧ Blk8 wr (w.heap.size + 3) (part (digs (rowX a b (i + 1))) (digs (rowX a b i)) (i + k))) (fun _ j _ => 8 - (intOf j).toNat)
      case atStart =>
        exact ⟨0, by omega, rfl, by rw [rowC_zero], hB, HA.out, HB.out, HZ.out, HO.out.congr fun j _ => by
          unfold part
          split
          · rw [rowX_low a b i j (by omega)]
          · rfl⟩
      case round =>
        obtain ⟨k, hk, rfl, rfl, hB1, hA, hBb, hZ, hO⟩ := hrel
        have hcb := rowC_bd a b i k
        have hd1 := digs_nonneg a i
        have hd2 := digs_nonneg b k
        have hd3 := digs_lt a i
        have hd4 := digs_lt b k
        have hd5 := digs_nonneg (rowX a b i) (i + k)
        have hd6 := digs_lt (rowX a b i) (i + k)
        have hp := mul_bd (x := digs a i) (y := digs b k) (M := 65535) (N := 65535) (by omega) (by omega) (by omega) (by omega)
        have hp0 := Int.mul_nonneg hd1 hd2
        by_cases hlt2 : i + k < 8
        · have hc := hO.cell (i + k) hlt2
          rw [show part (digs (rowX a b (i + 1))) (digs (rowX a b i)) (i + k) (i + k) = digs (rowX a b i) (i + k) by simp [part]] at hc
          have hf := hO.free (i + k)
          have ha := hA.cell i hlt
          have hb := hBb.cell k (by omega)
          have HO := hid hO
          have HZ := hid hZ
          have HA := hid hA
          have HB := hid hBb
          clear hO hZ hA hBb
          go_wp2
          go_quiet (fail)
          go_wp2
          exact ⟨⟨k + 1, by omega, by go_num, by rw [rowC_succ], (below_drewN' hB1 _).setCell (by show w.heap.size ≤ w.heap.size + 1 + 1 + 1; omega) _,
            (HA.out.drewN _).far (show w.heap.size + 1 + 1 + 1 ≠ w.heap.size from by omega) _, (HB.out.drewN _).far (show w.heap.size + 1 + 1 + 1 ≠ w.heap.size + 1 from by omega) _, (HZ.out.drewN _).far (show w.heap.size + 1 + 1 + 1 ≠ w.heap.size + 2 from by omega) _,
            (HO.out.drewN _).set hlt2 (by rw [← Nat.add_assoc, part_at, row_digit, and16_u64 _ (by omega) (by omega)]; omega) (part_ne _ _ (i + k))⟩, by simp [intOf]; omega⟩
        · have h8 : 8 ≤ i + k := by omega
          have hO2 := hO.congr (o' := digs (rowX a b (i + 1))) fun j hj => part_full _ _ _ _ (by omega)
          have HO := hid hO2
          have HZ := hid hZ
          have HA := hid hA
          have HB := hid hBb
          clear hO hZ hA hBb hO2
          go_wp2
          go_roundw
          case rel => exact ⟨i + 1, hlt, by go_num, hB1, HA.out, HB.out, HZ.out, HO.out⟩
          case measure => simp [intOf]; omega
    · obtain rfl : i = 8 := by omega
      obtain ⟨z0, z1, z2, z3, z4, z5, z6, z7⟩ := hZ.all
      have hO' := hO.congr (o' := digs (a * b)) fun j hj => rowX_eight a b j hj
      obtain ⟨o0, o1, o2, o3, o4, o5, o6, o7⟩ := hO'.all
      have zf := hZ.free
      clear hO hZ hO' hA hBb
      go_wp2
      refine bodyPost_ret (v := bigV (a * b)) (by simp [results, Try.results37, go_sem, z0, z1, z2, z3, z4, z5, z6, z7]) rfl ⟨rfl, ?_⟩
      go_grown

end Go.Proofs.Ytjoodpjndpdjnaa
