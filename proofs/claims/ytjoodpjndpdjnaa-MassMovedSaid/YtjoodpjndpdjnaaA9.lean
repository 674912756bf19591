/- Contracts of the reference's numbers of eight digits: Cmp. -/
import Derived.Test.YtjoodpjndpdjnaaA8
import Derived.Deep.DeepCutAuto
namespace Go.Proofs.Ytjoodpjndpdjnaa
set_option linter.unusedVariables false
set_option linter.unusedSimpArgs false
open Go.RowKit

def cmpZ (a b : Int) : Int := if a < b then -1 else if a = b then 0 else 1
/-- from digit i on the numbers are equal -/
def eqFrom (a b : Int) (i : Nat) : Prop := a / 65536 ^ i = b / 65536 ^ i
theorem div_step (a : Int) (i : Nat) : a / 65536 ^ i = a / 65536 ^ (i + 1) * 65536 + digs a i := by
  unfold digs
  rw [Int.pow_succ, ← ediv_ediv' (Int.le_of_lt (pow_pos' i))]
  omega
theorem eqFrom_step {a b : Int} {i : Nat} (h : eqFrom a b (i + 1)) (e : digs a i = digs b i) : eqFrom a b i := by
  unfold eqFrom at *
  rw [div_step a, div_step b, h, e]
theorem lt_of_digs {a b : Int} {i : Nat} (h : eqFrom a b (i + 1)) (e : digs a i < digs b i) : a < b := by
  unfold eqFrom at h
  have h1 := div_step a i
  have h2 := div_step b i
  have h3 : a / 65536 ^ i < b / 65536 ^ i := by rw [h1, h2, h]; omega
  have hp := pow_pos' i
  by_cases hab : a < b
  · exact hab
  · have : b / 65536 ^ i ≤ a / 65536 ^ i := Int.ediv_le_ediv hp (by omega)
    omega
theorem eqFrom_zero {a b : Int} (h : eqFrom a b 0) : a = b := by simpa [eqFrom] using h
theorem eqFrom_eight {a b : Int} (h1 : -170141183460469231731687303715884105728 ≤ a) (h2 : a < 170141183460469231731687303715884105728) (h3 : -170141183460469231731687303715884105728 ≤ b) (h4 : b < 170141183460469231731687303715884105728) (h : (decide (a < 0)) = decide (b < 0)) : eqFrom a b 8 := by
  have e : (65536 : Int) ^ 8 = 340282366920938463463374607431768211456 := by decide
  unfold eqFrom
  rw [e]
  have : (a < 0) ↔ (b < 0) := by simpa using h
  omega
theorem cmpZ_lt {a b : Int} (h : a < b) : cmpZ a b = -1 := by simp [cmpZ, h]
theorem cmpZ_gt {a b : Int} (h : b < a) : cmpZ a b = 1 := by unfold cmpZ; rw [if_neg (by omega), if_neg (by omega)]
theorem cmpZ_eq {a b : Int} (h : a = b) : cmpZ a b = 0 := by simp [cmpZ, h]

set_option maxRecDepth 100000 in
theorem below_any (d0 d1 d2 d3 d4 d5 d6 d7 : Int) (w : World) :
    Calls Try.prog 83 #[.agg #[.int .u32 d0, .int .u32 d1, .int .u32 d2, .int .u32 d3, .int .u32 d4, .int .u32 d5, .int .u32 d6, .int .u32 d7]] w (Ret (.bool (d7 / 32768 == 1)) w) := by
  go_enter Try.func83, Try.ntmps83
  go_wp2
  go_returns
  exact ret_bool rfl (by go_grown)

set_option maxRecDepth 100000 in
set_option maxHeartbeats 1000000 in
theorem bcmp_calls (a b : Int) (h1 : -170141183460469231731687303715884105728 ≤ a) (h2 : a < 170141183460469231731687303715884105728) (h3 : -170141183460469231731687303715884105728 ≤ b) (h4 : b < 170141183460469231731687303715884105728) (w : World) :
    Calls Try.prog 41 #[bigV a, bigV b] w (Ret (.int .i64 (cmpZ a b)) w) := by
  obtain ⟨W, hW⟩ : ∃ W, W = (w.alloc (.cells (#[.int .u32 (digs a 0), .int .u32 (digs a 1), .int .u32 (digs a 2), .int .u32 (digs a 3), .int .u32 (digs a 4), .int .u32 (digs a 5), .int .u32 (digs a 6), .int .u32 (digs a 7)]) 52)).alloc (.cells (#[.int .u32 (digs b 0), .int .u32 (digs b 1), .int .u32 (digs b 2), .int .u32 (digs b 3), .int .u32 (digs b 4), .int .u32 (digs b 5), .int .u32 (digs b 6), .int .u32 (digs b 7)]) 52) := ⟨_, rfl⟩
  have hA : Blk8 W w.heap.size (digs a) := by subst hW; exact ((Blk8.here w _ (digs a)).alloc (by simp) _)
  have hBb : Blk8 W (w.heap.size + 1) (digs b) := by subst hW; simpa using (Blk8.here (w.alloc _) 52 (digs b))
  have hB : Below w.heap.size w W := by subst hW; go_grown
  have hsz : w.heap.size + 2 ≤ W.heap.size := by subst hW; simp
  obtain ⟨a0, a1, a2, a3, a4, a5, a6, a7⟩ := hA.all
  obtain ⟨b0, b1, b2, b3, b4, b5, b6, b7⟩ := hBb.all
  have HA := hid hA
  have HB := hid hBb
  have R := hid (And.intro h1 (And.intro h2 (And.intro h3 h4)))
  clear hA hBb h1 h2 h3 h4
  have HE : Hid (decide (a < 0) = decide (b < 0) → eqFrom a b 8) := fun h => eqFrom_eight R.out.1 R.out.2.1 R.out.2.2.1 R.out.2.2.2 h
  have ea := shr15 a R.out.1 R.out.2.1
  have eb := shr15 b R.out.2.2.1 R.out.2.2.2
  have na := digs_nonneg a 7
  have nb := digs_nonneg b 7
  go_enter Try.func41, Try.ntmps41
  go_upto_region 1 with fail
  rw [← hW]
  have HW := hid hW
  clear hW
  go_cut [10] from 6 (fun t wx => t = .bool ((digs a 7 / 32768 == 1) != (digs b 7 / 32768 == 1)) ∧ Below w.heap.size w wx ∧ Blk8 wx w.heap.size (digs a) ∧ Blk8 wx (w.heap.size + 1) (digs b))
  case first =>
    clear ea eb na nb
    go_region_with (go_at_call 83; first | (refine (below_any _ _ _ _ _ _ _ _ _).mono ?_; rintro e w1 ⟨rfl, hb1⟩; have HB1 := hid ((HB.out.drew).below hb1 HB.out.lt); have HA1 := hid ((HA.out.drew).below hb1 HA.out.lt); obtain ⟨p0, p1, p2, p3, p4, p5, p6, p7⟩ := HB1.out.all) | (refine (below_any _ _ _ _ _ _ _ _ _).mono ?_; rintro e w2 ⟨rfl, hb2⟩))
    all_goals
      go_wp2_with fail
      go_meet
      exact ⟨rfl, (Below.drew hB).trans ((hb1.mono (show w.heap.size ≤ W.drew.heap.size from hB.size)).trans (hb2.mono (Nat.le_trans hB.size hb1.size))), HA1.out.below hb2 HA1.out.lt, HB1.out.below hb2 HB1.out.lt⟩
  case rest =>
    obtain ⟨rfl, hB2, hA2, hBb2⟩ := hcut
    clear a0 a1 a2 a3 a4 a5 a6 a7 b0 b1 b2 b3 b4 b5 b6 b7
    cases hsa : decide (a < 0) <;> cases hsb : decide (b < 0)
    case false.true | true.false =>
      rw [hsa] at ea
      rw [hsb] at eb
      have hx : ((digs a 7 / 32768 == 1) != (digs b 7 / 32768 == 1)) = true := by rw [ea, eb]; rfl
      rw [hx]
      clear hx
      obtain ⟨a0, a1, a2, a3, a4, a5, a6, a7⟩ := hA2.all
      have sa : ¬ (decide (a < 0) = true ↔ decide (b < 0) = true) := by rw [hsa, hsb]; simp
      simp only [decide_eq_true_iff] at sa
      have sa2 : decide (a < 0) = true ∨ decide (a < 0) = false := by cases decide (a < 0) <;> simp
      have SA := hid hsa
      have SB := hid hsb
      have SC := hid sa
      clear hsa hsb hA2 hBb2 sa sa2
      go_wp2_with (go_at_call 83; refine (below_any _ _ _ _ _ _ _ _ _).mono ?_; rintro e w1 ⟨rfl, hb1⟩)
      go_returns
      refine ret_int ?_ (hB2.trans (hb1.mono hB2.size))
      have h1 := SA.out
      have h2 := SB.out
      simp only [decide_eq_false_iff_not, decide_eq_true_iff] at h1 h2
      first | exact (cmpZ_gt (by omega)).symm | exact (cmpZ_lt (by omega)).symm
    case false.false | true.true =>
      have h8 := HE.out (by rw [hsa, hsb])
      rw [hsa] at ea
      rw [hsb] at eb
      have hx : ((digs a 7 / 32768 == 1) != (digs b 7 / 32768 == 1)) = false := by rw [ea, eb]; rfl
      rw [hx]
      clear hx
      have H8 := hid h8
      clear h8 hsa hsb
      have HA2 := hid hA2
      have HB2 := hid hBb2
      clear hA2 hBb2
      go_wp2
      go_loopw [5] (fun i wr => ∃ q : Int, -1 ≤ q ∧ q ≤ 7 ∧ i = .int .i64 q ∧ eqFrom a b (q + 1).toNat ∧ Below w.heap.size w wr ∧ Blk8 wr w.heap.size (digs a) ∧ Blk8 wr (w.heap.size + 1) (digs b)) (fun i _ => (intOf i + 1).toNat)
      case atStart => exact ⟨7, by omega, by omega, rfl, H8.out, hB2, HA2.out, HB2.out⟩
      case round =>
        obtain ⟨q, hq1, hq2, rfl, hE, hB3, hA3, hBb3⟩ := hrel
        by_cases hq : 0 ≤ q
        · obtain ⟨m, rfl⟩ := Int.eq_ofNat_of_zero_le hq
          have hm : m < 8 := by omega
          have ca := hA3.cell m hm
          have cb := hBb3.cell m hm
          have HE := hid hE
          have HA3 := hid hA3
          have HB3 := hid hBb3
          clear hE hA3 hBb3
          by_cases hne : digs a m = digs b m
          · have hd : (digs a m != digs b m) = false := by simp [hne]
            have HN := hid hne
            clear hne
            go_wp2
            go_quiet (fail)
            go_wp2
            exact ⟨⟨(m : Int) - 1, by omega, by omega, rfl, by rw [show ((m : Int) - 1 + 1).toNat = m by omega]; exact eqFrom_step (by have := HE.out; rwa [show ((m : Int) + 1).toNat = m + 1 by omega] at this) HN.out, below_drewN' hB3 _, HA3.out.drewN _, HB3.out.drewN _⟩, by simp [intOf]⟩
          · have hd : (digs a m != digs b m) = true := by simp [hne]
            have HN := hid hne
            clear hne
            go_wp2
            go_quiet (fail)
            go_wp2
            go_quiet (fail)
            go_wp2
            all_goals
              go_returns
              have hE2 := HE.out
              rw [show ((m : Int) + 1).toNat = m + 1 by omega] at hE2
            · exact ret_int (cmpZ_lt (lt_of_digs hE2 (by assumption))).symm (below_drewN' (below_drewN' hB3 _) _)
            · have hge : digs b m ≤ digs a m := by assumption
              have hne2 : digs a m ≠ digs b m := HN.out
              exact ret_int (cmpZ_gt (lt_of_digs (i := m) (show eqFrom b a (m + 1) from hE2.symm) (by omega))).symm (below_drewN' (below_drewN' hB3 _) _)
        · obtain rfl : q = -1 := by omega
          have HE := hid hE
          clear hE hA3 hBb3
          go_wp2
          go_returns
          exact ret_int (cmpZ_eq (eqFrom_zero HE.out)).symm hB3

end Go.Proofs.Ytjoodpjndpdjnaa
