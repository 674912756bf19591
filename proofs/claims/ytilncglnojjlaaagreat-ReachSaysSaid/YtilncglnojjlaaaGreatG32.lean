/- Parts of a proof: contracts and laws. -/
import Derived.Test.YtilncglnojjlaaaGreatG25
import Derived.Test.YtilncglnojjlaaaGreatG10
import Derived.Test.YtilncglnojjlaaaGreatG27
import Derived.Test.YtilncglnojjlaaaGreatG31
import Derived.Test.YtilncglnojjlaaaGreatG02
import Derived.Test.YtilncglnojjlaaaGreatG03
import Derived.Test.YtilncglnojjlaaaGreatG04
namespace Go.Proofs.YtilncglnojjlaaaGreat
section
set_option linter.unusedVariables false
set_option linter.unusedSimpArgs false
open Go.RowKit
theorem axTo_dep (l m : List V) (sec : Bool) (s : Option Ax) : ∀ k, 0 < k → ∃ a, axTo l m sec s k = some a ∧ ((a.1 = sec ∧ a.2.1 < k ∧ a.2.2 = depZ l m a.2.1) ∨ s = some a)
 | 0, h => absurd h (by omega)
 | k + 1, _ => by
  rw [axTo]
  obtain ⟨a, h1, h2⟩ := axUp_some (axTo l m sec s k) sec k (depZ l m k)
  refine ⟨a, h1, ?_⟩
  rcases h2 with rfl | h2
  ·exact .inl ⟨rfl, by simp, rfl⟩
  ·rcases Nat.eq_zero_or_pos k with rfl | hk
   ·exact .inr h2
   ·obtain ⟨a', h3, h4⟩ := axTo_dep l m sec s k hk
    rw [h2] at h3
    cases h3
    rcases h4 with ⟨g1, g2, g3⟩ | h4
    ·exact .inl ⟨g1, by omega, g3⟩
    ·exact .inr h4
theorem least_dep {l m : List V} (h : meetsB l m = true) : ∃ s e d, leastO l m = some (s, e, d) ∧ (s = true → e < m.length ∧ d = depZ m l e) ∧ (s = false → e < l.length ∧ d = depZ l m e) := by
 have h0 := h
 unfold meetsB at h0
 rw [decide_eq_true_iff] at h0
 obtain ⟨hc1, hc2⟩ := bothE_zero.1 h0.1
 obtain ⟨-, l3, -⟩ := checkE_zero hc1
 obtain ⟨-, m3, -⟩ := checkE_zero hc2
 unfold leastO
 rw [if_pos h, show stL l m 2 = axTo m l true (axTo l m false none l.length) m.length from by simp [stL]]
 obtain ⟨a, h1, h2⟩ := axTo_dep m l true (axTo l m false none l.length) m.length (by omega)
 obtain ⟨b, h3, h4⟩ := axTo_dep l m false none l.length (by omega)
 refine ⟨a.1, a.2.1, a.2.2, h1, ?_⟩
 rcases h2 with ⟨g1, g2, g3⟩ | h2
 ·exact ⟨fun _ => ⟨g2, g3⟩, fun g => by rw [g] at g1; cases g1⟩
 ·rw [h3] at h2
  cases h2
  rcases h4 with ⟨g1, g2, g3⟩ | h4
  ·exact ⟨fun g => (by rw [g] at g1; cases g1), fun _ => ⟨g2, g3⟩⟩
  ·cases h4
theorem deepTo_mem (l m : List V) (i : Nat) : ∀ k, ∃ j, j ≤ k ∧ deepTo l m i k = dpt l m i j
 | 0 => ⟨0, Nat.le_refl _, rfl⟩
 | k + 1 => by
  rw [deepTo]
  split
  ·exact ⟨k + 1, Nat.le_refl _, rfl⟩
  ·obtain ⟨j, h1, h2⟩ := deepTo_mem l m i k
   exact ⟨j, by omega, h2⟩


end
end Go.Proofs.YtilncglnojjlaaaGreat
namespace Go.Proofs.YtilncglnojjlaaaGreat
section
set_option linter.unusedVariables false
set_option linter.unusedSimpArgs false
open Go.RowKit
theorem rnd_spec {W n : Int} (hn : 0 < n) : 2 * (n * rnd W n) ≤ 2 * W + n ∧ 2 * W + n < 2 * (n * rnd W n) + 2 * n := by
 have e : rnd W n = (2 * W + n) / (2 * n) := by unfold rnd; rw [if_neg (by omega)]
 rw [e]
 have h := Int.emod_add_mul_ediv (2 * W + n) (2 * n)
 have h0 := Int.emod_nonneg (2 * W + n) (show 2 * n ≠ 0 by omega)
 have h1 := Int.emod_lt_of_pos (2 * W + n) (show 0 < 2 * n by omega)
 rw [Int.mul_assoc] at h
 omega
theorem rnd_bd' {x n M : Int} (hn : 0 < n) (h1 : -(n * M) ≤ x) (h2 : x ≤ n * M) : -M ≤ rnd x n ∧ rnd x n ≤ M := by
 obtain ⟨a, b⟩ := rnd_spec (W := x) hn
 constructor
 ·rcases Int.lt_or_le (rnd x n) (-M) with h | h
  ·have := Int.mul_le_mul_of_nonneg_left (show rnd x n + 1 ≤ -M by omega) (show 0 ≤ n by omega)
   rw [Int.mul_add, Int.mul_neg] at this
   omega
  ·exact h
 ·rcases Int.lt_or_le M (rnd x n) with h | h
  ·have := Int.mul_le_mul_of_nonneg_left (show M + 1 ≤ rnd x n by omega) (show 0 ≤ n by omega)
   rw [Int.mul_add] at this
   omega
  ·exact h




end
end Go.Proofs.YtilncglnojjlaaaGreat
namespace Go.Proofs.YtilncglnojjlaaaGreat
section
set_option linter.unusedVariables false
set_option linter.unusedSimpArgs false
open Go.RowKit
theorem overQ_bdM {W n M : Int} (hM : 0 ≤ M) (h1 : -M ≤ W) (h2 : W ≤ M) (hn : 0 ≤ n) : -M ≤ overQ W n ∧ overQ W n ≤ M := by
 unfold overQ
 by_cases h0 : n = 0
 ·rw [if_pos h0]; omega
 ·rw [if_neg h0]
  have e : M * 1 ≤ M * n := Int.mul_le_mul_of_nonneg_left (by omega) hM
  rw [Int.mul_one, Int.mul_comm M n] at e
  have hb : -M ≤ rnd W n ∧ rnd W n ≤ M := rnd_bd' (by omega) (by omega) (by omega)
  split <;> omega
theorem lenZ_nn (x y : Int) (hx : -1099511627776 ≤ x ∧ x ≤ 1099511627776) (hy : -1099511627776 ≤ y ∧ y ≤ 1099511627776) : 0 ≤ lenZ x y := by
 obtain ⟨h0, -, -⟩ := len_bd hx hy
 exact h0
theorem tstD_bd {l m : List V} (hl : checkE l = 0) (hm : checkE m = 0) : -34359738368000000 ≤ tstD l m ∧ tstD l m ≤ 34359738368000000 := by
 obtain ⟨_, l3, wl, _⟩ := checkE_zero hl
 obtain ⟨_, m3, wm, _⟩ := checkE_zero hm
 have key : ∀ {p q : List V}, allWithin 65536000 p = true → allWithin 65536000 q = true → 3 ≤ q.length → ∀ {e : Nat}, e < p.length → -34359738368000000 ≤ depZ p q e ∧ depZ p q e ≤ 34359738368000000 := fun {p q} wp wq q3 {e} he => by
  have hd := deepTo_bd wp wq he (q.length - 1) (by omega)
  obtain ⟨n1, n2⟩ := nrm_bd wp he
  unfold depZ
  exact overQ_bdM (by omega) hd.1 hd.2 (lenZ_nn _ _ (by omega) (by omega))
 by_cases h : meetsB l m = true
 ·obtain ⟨s, e, d, h1, h2, h3⟩ := least_dep h
  have : tstD l m = d := by unfold tstD; rw [h1]; rfl
  rw [this]
  cases s with
  | true => obtain ⟨he, hd⟩ := h2 rfl; rw [hd]; exact key wm wl (by omega) he
  | false => obtain ⟨he, hd⟩ := h3 rfl; rw [hd]; exact key wl wm (by omega) he
 ·have : tstD l m = 0 := by unfold tstD leastO; rw [if_neg h]; rfl
  rw [this]; omega
set_option maxRecDepth 100000 in
set_option maxHeartbeats 8000000 in
theorem sink_calls (a b : Bd) (A B : Option Addr) (n c m d : Nat) (l l2 : List V) (s : Int) (w : World) (hS : Sl w A n c l) (hM : Sl w B m d l2) : Calls Tryz.prog 7 #[bodyV a A n c, bodyV b B m d, .int .i64 s] w (Ret (sinkV a l b l2 s) w) := by
 obtain ⟨W, hW⟩ : ∃ W, W = (w.alloc (.cells #[.int .i64 a.px, .int .i64 a.py, .int .i64 a.vx, .int .i64 a.vy, .int .i64 a.ang, .int .i64 a.spin, .int .i64 a.mass, .int .i64 a.iner, .int .i64 a.bounce, .int .i64 a.rub, .slice A n c, .bool a.asleep, .int .i64 a.calm] 26)).alloc (.cells #[.int .i64 b.px, .int .i64 b.py, .int .i64 b.vx, .int .i64 b.vy, .int .i64 b.ang, .int .i64 b.spin, .int .i64 b.mass, .int .i64 b.iner, .int .i64 b.bounce, .int .i64 b.rub, .slice B m d, .bool b.asleep, .int .i64 b.calm] 26) := ⟨_, rfl⟩
 have HKA : Hid (BdAt W w.heap.size a A n c) := by show BdAt _ _ _ _ _ _; rw [hW]; exact (BdAt.here w a A n c _).alloc _
 have HKB : Hid (BdAt W (w.heap.size + 1) b B m d) := by show BdAt _ _ _ _ _ _; rw [hW]; have := BdAt.here (w.alloc (.cells #[.int .i64 a.px, .int .i64 a.py, .int .i64 a.vx, .int .i64 a.vy, .int .i64 a.ang, .int .i64 a.spin, .int .i64 a.mass, .int .i64 a.iner, .int .i64 a.bounce, .int .i64 a.rub, .slice A n c, .bool a.asleep, .int .i64 a.calm] 26)) b B m d 26; simpa using this
 have hB : Below w.heap.size w W := by rw [hW]; go_grown
 have HBO := hid (fun (w' : World) (hb : Below w.heap.size w w') => bound_calls a b A B n c m d l l2 s w' (hS.below hb) (hM.below hb))
 have HDE0 := hid (fun (t : Int) (w' : World) (hb : Below w.heap.size w w') (hea : bodyE a l = 0) (heb : bodyE b l2 = 0) => depth_calls a b A B n c m d l l2 s t w' (hS.below hb) (hM.below hb) hea heb)
 clear hS hM
 obtain ⟨k0, k1, k2, k3, k4, k5, k6, k7, k8, k9, k10, k11, k12, -⟩ := HKA.out
 obtain ⟨m0, m1, m2, m3, m4, m5, m6, m7, m8, m9, m10, m11, m12, -⟩ := HKB.out
 have hlw : w.heap.size + 1 < W.heap.size := HKB.out.lt
 go_enter Tryz.func7, Tryz.ntmps7
 go_upto_region 1 with fail
 rw [← hW]
 clear hW
 go_wp2_with fail
 refine (HBO.out _ hB).mono ?_
 rintro e w1 ⟨rfl, hb⟩
 replace hB := keepBelow hb hB
 replace HKA := hid (keepBd hb HKA.out)
 replace HKB := hid (keepBd hb HKB.out)
 clear hb k0 k1 k2 k3 k4 k5 k6 k7 k8 k9 k10 k11 k12 m0 m1 m2 m3 m4 m5 m6 m7 m8 m9 m10 m11 m12 hlw HBO
 by_cases hE : rbdE a l b l2 s = 0
 case neg =>
  have HR : Hid (sinkV a l b l2 s = .tuple #[.int .i64 0, .int .i64 (rbdE a l b l2 s)]) := by show _ = _; unfold sinkV; rw [if_pos hE]
  have HV : Hid (rbdV a l b l2 s = .tuple #[.int .i64 0, .int .i64 (rbdE a l b l2 s)]) := by show _ = _; unfold rbdV; rw [if_pos hE]
  rw [HV.out]
  have hne : (rbdE a l b l2 s != 0) = true := by simp [hE]
  clear HV
  generalize rbdE a l b l2 s = z at *
  go_wp2
  refine bodyPost_ret (v := .tuple #[.int .i64 0, .int .i64 z]) (by simp [results, Tryz.results7, go_sem]) rfl ⟨by rw [HR.out], hB⟩
 have HV : Hid (rbdV a l b l2 s = .tuple #[.int .i64 (rbdZ a l b l2 s), .int .i64 0]) := by show _ = _; unfold rbdV; rw [if_neg (by simp [hE])]
 obtain ⟨hea, heb, hs0⟩ : bodyE a l = 0 ∧ bodyE b l2 = 0 ∧ (0 ≤ s ∧ s ≤ 65536) := by
  unfold rbdE at hE
  by_cases h1 : bodyE a l = 0
  ·rw [if_neg (by simp [h1])] at hE
   by_cases h2 : bodyE b l2 = 0
   ·rw [if_neg (by simp [h2])] at hE
    by_cases h3 : s < 0 ∨ 65536 < s
    ·rw [if_pos h3] at hE; cases hE
    ·exact ⟨h1, h2, by omega⟩
   ·rw [if_pos h2] at hE; exact absurd hE h2
  ·rw [if_pos h1] at hE; exact absurd hE h1
 rw [HV.out]
 have z1 := rbdZ_bd a l b l2 hs0.1
 obtain ⟨N, hN⟩ : ∃ N, N = sinkN a l b l2 s := ⟨_, rfl⟩
 have hNe : N = (rbdZ a l b l2 s).tdiv 8192 + 1 := hN
 obtain ⟨most, hmo⟩ : ∃ z, z = rbdZ a l b l2 s := ⟨_, rfl⟩
 rw [← hmo] at z1 hNe HV ⊢
 obtain ⟨q, hq⟩ : ∃ q, q = most.tdiv 8192 := ⟨_, rfl⟩
 have hq2 : 0 ≤ q ∧ q ≤ 500000000 := by rw [hq, Int.tdiv_eq_ediv_of_nonneg (by omega)]; omega
 have hqw : IntKind.i64.wrap (most.tdiv 8192) = q := by rw [← hq]; exact IntWalk.i64_in _ (by omega)
 have hNq : N = q + 1 := by rw [hNe, hq]
 have hNw : IntKind.i64.wrap (q + 1) = N := by rw [hNq]; exact IntWalk.i64_in _ (by omega)
 have hNb : 1 ≤ N ∧ N ≤ 500000001 := by omega
 have HDP : Hid (∀ t, -34359738368000000 ≤ dpZ a l b l2 s t ∧ dpZ a l b l2 s t ≤ 34359738368000000) := fun t => tstD_bd (placed_ok (moveB_ok hea)) (placed_ok (moveB_ok heb))
 have HDE := hid (fun (t : Int) (w' : World) (hb : Below w.heap.size w w') => HDE0.out t w' hb hea heb)
 obtain ⟨dp, hdp⟩ : ∃ dp, dp = dpZ a l b l2 s := ⟨_, rfl⟩
 rw [← hdp] at HDP HDE
 obtain ⟨f, hf⟩ : ∃ f, f = dp 0 := ⟨_, rfl⟩
 have hfb := HDP.out 0
 rw [← hf] at hfb
 obtain ⟨K, hK⟩ : ∃ K : Nat, K = (min N 1024).toNat := ⟨_, rfl⟩
 have hKN : (K : Int) = min N 1024 := by rw [hK]; omega
 have hK2 : K ≤ 1024 := by omega
 have HR : Hid (sinkV a l b l2 s = .tuple #[.int .i64 (((sinkC dp f N K 0 : Nat) * 65536 : Int).tdiv N), .int .i64 0]) := by
  show _ = _
  unfold sinkV
  rw [if_neg (by simp [hE])]
  unfold sinkO
  rw [← hN, ← hdp, ← hf, ← hK]
 have HDF := hid (HDE.out 0)
 rw [← hf] at HDF
 have hrmin : ∀ (ts : Array TypeId) (t : TypeId) (w : World), (Builtin.min_ ts t #[.int .i64 N, .int .i64 1024]).run Tryz.prog w = .ok (.int .i64 K) w := fun ts t w => by
  rw [run_min_int2, show (if (1024 : Int) < N then (1024 : Int) else N) = K by rw [hKN]; split <;> omega]
 have hf6 : IntKind.i64.wrap (f + 16384) = f + 16384 := IntWalk.i64_in _ (by omega)
 have HKN := hid hKN
 clear hE HV hea heb hs0 hN hNe hmo hq hq2 hNq hdp hf hfb hK hKN HDE0 z1
 obtain ⟨k0, k1, k2, k3, k4, k5, k6, k7, k8, k9, k10, k11, k12, -⟩ := HKA.out
 obtain ⟨m0, m1, m2, m3, m4, m5, m6, m7, m8, m9, m10, m11, m12, -⟩ := HKB.out
 go_wp2_with fail
 refine (HDF.out _ hB).mono ?_
 rintro e w2 ⟨rfl, hb⟩
 replace hB := keepBelow hb hB
 replace HKA := hid (keepBd hb HKA.out)
 replace HKB := hid (keepBd hb HKB.out)
 clear hb HDF k0 k1 k2 k3 k4 k5 k6 k7 k8 k9 k10 k11 k12 m0 m1 m2 m3 m4 m5 m6 m7 m8 m9 m10 m11 m12
 go_wp2
 go_loopw [12, 34] (fun o i wr => ∃ k : Nat, k ≤ K ∧ i = .int .i64 k ∧ o = .int .i64 (((k : Int) * 65536).tdiv N) ∧ sinkC dp f N K 0 = sinkC dp f N (K - k) k ∧ Below w2.heap.size w2 wr) (fun _ i _ => K - (intOf i).toNat)
 case atStart => exact ⟨0, Nat.zero_le _, rfl, by simp, rfl, Below.refl _ _⟩
 case round =>
  obtain ⟨k, hk, rfl, rfl, hsk, hBk⟩ := hrel
  obtain ⟨wo, rfl⟩ : ∃ wo : World, wo = wr := ⟨_, rfl⟩
  have HSK := hid hsk
  clear hsk
  have hBf := keepBelow hBk hB
  obtain ⟨T0, hT0⟩ : ∃ T0, T0 = ((k : Int) * 65536).tdiv N := ⟨_, rfl⟩
  have HT0 := hid hT0
  rw [← hT0]
  clear hT0
  by_cases hlt : k < K
  ·obtain ⟨g, hg⟩ : ∃ g, K - k = g + 1 := ⟨K - k - 1, by omega⟩
   obtain ⟨T, hT⟩ : ∃ T, T = (((k : Int) + 1) * 65536).tdiv N := ⟨_, rfl⟩
   have HST : Hid (sinkC dp f N K 0 = if f + 16384 < dp T then k else sinkC dp f N (K - (k + 1)) (k + 1)) := by
    show _ = _
    rw [HSK.out, hg, show K - (k + 1) = g by omega, hT]
    rfl
   have hTb : 0 ≤ T ∧ T ≤ 67108864 := by
    rw [hT, Int.tdiv_eq_ediv_of_nonneg (by omega)]
    have := Int.ediv_le_self N (a := ((k : Int) + 1) * 65536) (by omega)
    exact ⟨Int.ediv_nonneg (by omega) (by omega), by omega⟩
   have hlt' : (k : Int) < (K : Int) := by omega
   have hkw : IntKind.i64.wrap ((k : Int) + 1) = (k : Int) + 1 := IntWalk.i64_in _ (by omega)
   have hmw : IntKind.i64.wrap (((k : Int) + 1) * 65536) = ((k : Int) + 1) * 65536 := IntWalk.i64_in _ (by omega)
   have hTw : IntKind.i64.wrap ((((k : Int) + 1) * 65536).tdiv N) = T := by rw [← hT]; exact IntWalk.i64_in _ (by omega)
   have hN0 : ¬ N = 0 := by omega
   have HTT := hid hT
   have HDT := hid (HDE.out T)
   obtain ⟨dt, hdt⟩ : ∃ dt, dt = dp T := ⟨_, rfl⟩
   rw [← hdt] at HDT HST
   clear hT hg hdt HSK hTb
   obtain ⟨k0, k1, k2, k3, k4, k5, k6, k7, k8, k9, k10, k11, k12, -⟩ := (keepBd hBk HKA.out)
   obtain ⟨m0, m1, m2, m3, m4, m5, m6, m7, m8, m9, m10, m11, m12, -⟩ := (keepBd hBk HKB.out)
   go_wp2_with fail
   refine (HDT.out _ hBf).mono ?_
   rintro e w3 ⟨rfl, hb⟩
   replace hBk := keepBelow hb hBk
   have hBf := keepBelow hb hBf
   clear hb HDT k0 k1 k2 k3 k4 k5 k6 k7 k8 k9 k10 k11 k12 m0 m1 m2 m3 m4 m5 m6 m7 m8 m9 m10 m11 m12 hTw hmw
   by_cases hbr : f + 16384 < dt
   ·have HF : Hid (sinkC dp f N K 0 = k) := by show _ = _; rw [HST.out, if_pos hbr]
    have hbb : dt > f + 16384 := hbr
    clear HST HTT
    go_wp2
    refine bodyPost_ret (v := .tuple #[.int .i64 T0, .int .i64 0]) (by simp [results, Tryz.results7, go_sem]) rfl ⟨by rw [HR.out, HF.out, HT0.out], hBf⟩
   ·have HF : Hid (sinkC dp f N K 0 = sinkC dp f N (K - (k + 1)) (k + 1)) := by show _ = _; rw [HST.out, if_neg hbr]
    have hbb : ¬ dt > f + 16384 := hbr
    clear HST
    go_wp2
    go_roundw
    case rel => exact ⟨k + 1, by omega, by go_num, by rw [HTT.out]; rfl, HF.out, hBk⟩
    case measure => simp [intOf]; omega
  ·have hkK : k = K := by omega
   subst hkK
   have HF : Hid (sinkC dp f N k 0 = k) := by show _ = _; rw [HSK.out, Nat.sub_self]; rfl
   clear HSK hlt
   go_wp2
   refine bodyPost_ret (v := .tuple #[.int .i64 T0, .int .i64 0]) (by simp [results, Tryz.results7, go_sem]) rfl ⟨by rw [HR.out, HF.out, HT0.out], hBf⟩
end
end Go.Proofs.YtilncglnojjlaaaGreat
namespace Go.Proofs.YtilncglnojjlaaaGreat
section
set_option linter.unusedVariables false
set_option linter.unusedSimpArgs false
open Go.RowKit

structure Vp (w : World) (g : Nat) (x y : Int) : Prop where
 a : w.cell? ⟨g, 0, none⟩ = some (.int .i64 x)
 b : w.cell? ⟨g, 1, none⟩ = some (.int .i64 y)
 f : ∀ j, w.frozen? ⟨g, j, none⟩ = false
theorem keepVp {w w' : World} {g : Nat} {x y : Int} (hb : Below w.heap.size w w') (h : Vp w g x y) : Vp w' g x y :=
 ⟨keepCell hb h.a, keepCell hb h.b, fun j => ((bcell hb).2 _ _ (lt_of_cell h.a)).trans (h.f j)⟩
theorem Vp.lt {w : World} {g : Nat} {x y : Int} (h : Vp w g x y) : g < w.heap.size := lt_of_cell h.a
theorem Vp.alloc {w : World} {g : Nat} {x y : Int} (h : Vp w g x y) (o : Obj) : Vp (w.alloc o) g x y := keepVp ((Below.refl _ _).alloc (Nat.le_refl _) _) h
theorem Vp.drew {w : World} {g : Nat} {x y : Int} (h : Vp w g x y) : Vp w.drew g x y := ⟨h.a, h.b, h.f⟩
theorem Vp.here (w : World) (x y : Int) (t : TypeId) : Vp (w.alloc (.cells #[.int .i64 x, .int .i64 y] t)) w.heap.size x y := ⟨by go_simp, by go_simp, fun j => by go_simp⟩
theorem Vp.put {w : World} {g : Nat} {x y : Int} (h : Vp w g x y) (u v : Int) : Vp ((w.setCell ⟨g, 0, none⟩ (.int .i64 u)).setCell ⟨g, 1, none⟩ (.int .i64 v)) g u v := by
 obtain ⟨a, b, f⟩ := h
 exact ⟨by go_simp, by go_simp, fun j => by go_simp⟩
theorem Vp.off {w : World} {g k : Nat} {x y : Int} (h : Vp w g x y) (hne : g ≠ k) (u v : Value) : Vp ((w.setCell ⟨k, 0, none⟩ u).setCell ⟨k, 1, none⟩ v) g x y := by
 obtain ⟨a, b, f⟩ := h
 exact ⟨by go_simp, by go_simp, fun j => by go_simp⟩
def sm62 (a : Int) : Prop := -4611686018427387904 ≤ a ∧ a ≤ 4611686018427387904
end
end Go.Proofs.YtilncglnojjlaaaGreat
