/- The walk of NearDifference. -/
import Derived.Test.YtflmhlejgjdifaaT1
import Derived.Test.YtflmhlejgjdifaaM17
namespace Go.Proofs.Ytflmhlejgjdifaa
set_option linter.unusedVariables false
set_option linter.unusedSimpArgs false
open Go.RowKit

theorem wide_zero : wideV 0 = .agg #[.int .i64 0, .int .u64 0] := by
  have h1 : hiW 0 = 0 := by unfold hiW wrap64; omega
  have h2 : loW 0 = 0 := by unfold loW; omega
  unfold wideV
  rw [h1, h2]
theorem wcmp_zero (z : Int) (h1 : -170141183460469231731687303715884105728 ≤ z) (h2 : z < 170141183460469231731687303715884105728) (w : World) :
    Calls Try.prog 45 #[wideV z, .agg #[.int .i64 0, .int .u64 0]] w (Ret (.int .i64 (cmpZ z 0)) w) := by
  have h := wcmp_z z 0 h1 h2 (by omega) (by omega) w
  rwa [wide_zero] at h
set_option maxRecDepth 100000 in
set_option maxHeartbeats 4000000 in
theorem nearDifference_walk (A B : Option Addr) (n c n' c' : Nat) (r s : List Int) (x y : Int) (w : World) (hS : SlI w A n c r) (hM : SlI w B n' c' s) :
    Calls Try.prog 8 #[.slice A n c, .slice B n' c', .int .i64 x, .int .i64 y] w (Ret (.bool true) w) := by
  have HPR := hid (pair_calls A B n c n' c' r s x y w hS hM)
  have mL := polyL_made r
  have mM := polyL_made s
  have bx := plc_bd x
  have by_ := plc_bd y
  obtain ⟨L, hL⟩ : ∃ L, L = polyL r := ⟨_, rfl⟩
  obtain ⟨M, hMM⟩ : ∃ M, M = movL (polyL s) (plc x) (plc y) := ⟨_, rfl⟩
  rw [← hL] at HPR mL
  rw [← hMM] at HPR
  have wL0 : allWithin 65536000 L = true := within_le (made_within mL) (by omega)
  have wM0 : allWithin 65536000 M = true := by rw [hMM]; exact within_le (within_movL (n := 786432) (made_within mM) bx by_) (by omega)
  have cL := made_check mL
  have lL := made_len mL
  have lM : M.length ≤ 5 := by rw [hMM, movL_len]; exact (made_len mM).2
  have cM : checkE M = 0 := by rw [hMM]; exact checkE_movL (made_check mM) (by rw [← hMM]; exact wM0)
  have law := minus_good cL cM
  obtain ⟨mw, ml⟩ := minus_bd L M
  have HMN : Hid (∀ (w : World) (A B : Option Addr) (n c n' c' : Nat), Sl w A n c L → Sl w B n' c' M → Calls Try.prog 17 #[.slice A n c, .slice B n' c'] w (RetMn (minusL L M) 0 w)) := fun w A B n c n' c' h1 h2 => by
    have := nminus_calls A B n c n' c' L M w h1 h2
    rwa [show bothE L M = 0 by unfold bothE; rw [if_neg (by omega)]; exact cM] at this
  obtain ⟨D, hD⟩ : ∃ D, D = minusL L M := ⟨_, rfl⟩
  rw [← hD] at HMN law mw ml
  obtain ⟨d3, d8, hlaw⟩ := law
  have HLAW := hid hlaw
  have HWL := hid wL0
  have HWM := hid wM0
  have HWD := hid mw
  clear hL hMM mL mM bx by_ wL0 wM0 cL cM hD mw hS hM hlaw
  go_enter Try.func8, Try.ntmps8
  go_wp2_with fail
  refine HPR.out.mono ?_
  rintro e w1 ⟨A1, n1, c1, B1, m1, d1, rfl, s1, t1, f1, f2, hb1⟩
  have hn1 := s1.len
  have hm1 := t1.len
  subst hn1 hm1
  have HS1 := hid s1
  have HM1 := hid t1
  clear s1 t1 f1 f2 HPR
  go_wp2_with fail
  refine (HMN.out _ _ _ _ _ _ _ HS1.out HM1.out).mono ?_
  rintro e w2 ⟨A2, n2, c2, rfl, s2, f2, hb2⟩
  have hn2 := s2.len
  subst hn2
  have HS2 := hid (HS1.out.below hb2)
  have HM2 := hid (HM1.out.below hb2)
  have HD2 := hid s2
  have hB2 := keepBelow hb2 hb1
  clear HS1 HM1 hb1 hb2 HMN s2 f2
  go_wp2_with fail
  refine (tests_calls _).mono ?_
  rintro e w5 ⟨rfl, hb5⟩
  have HS := hid (HS2.out.below hb5)
  have HM := hid (HM2.out.below hb5)
  have HD := hid (HD2.out.below hb5)
  have hB5 := keepBelow hb5 hB2
  clear HS2 HM2 HD2 hb5 hB2
  have u1 : IntKind.i64.wrap ((L.length : Int) + (M.length : Int)) = (L.length : Int) + (M.length : Int) := IntWalk.i64_in _ (by omega)
  have q1 : ¬ D.length < 3 := by omega
  have q2 : ¬ ((D.length : Int) < 3) := by omega
  have q3 : ¬ ((L.length : Int) + (M.length : Int) < (D.length : Int)) := by omega
  have q4 : ¬ (L.length + M.length < D.length) := by omega
  go_wp2
  clear u1 q1 q2 q3 q4
  go_loopw [57] (fun j wr => ∃ k : Nat, k ≤ L.length ∧ j = .int .i64 k ∧ Below w.heap.size w wr ∧ Below w5.heap.size w5 wr) (fun j _ => L.length - (intOf j).toNat)
  case atStart => exact ⟨0, Nat.zero_le _, rfl, hB5, Below.refl _ _⟩
  case round =>
    clear hB5
    obtain ⟨k, hk, rfl, hB, hB'⟩ := hrel
    obtain ⟨wo, rfl⟩ : ∃ wo : World, wo = wr := ⟨_, rfl⟩
    by_cases hlt : k < L.length
    · have hlt' : (k : Int) < (L.length : Int) := by omega
      obtain ⟨b, off, hA, hC⟩ := (HS.out.below hB').at_ (by intro h; rw [h] at hlt; simp at hlt)
      subst hA
      have bk := withinB_iff.1 (allWithin_at HWL.out hlt)
      have xk := hC.x k hlt
      have yk := hC.y k hlt
      clear hC
      go_wp2
      obtain ⟨gP, hgP⟩ : ∃ g, g = wo.heap.size := ⟨_, rfl⟩
      obtain ⟨wp, hwp⟩ : ∃ wz, wz = wo.alloc (.cells #[.int .i64 (px L k), .int .i64 (py L k)] 34) := ⟨_, rfl⟩
      have p0 : wp.cell? ⟨gP, 0, none⟩ = some (.int .i64 (px L k)) := by rw [hwp, hgP]; go_simp
      have p1 : wp.cell? ⟨gP, 1, none⟩ = some (.int .i64 (py L k)) := by rw [hwp, hgP]; go_simp
      have hBp : Below w.heap.size w wp := by rw [hwp]; exact hB.alloc hB.size _
      have hBp' : Below w5.heap.size w5 wp := by rw [hwp]; exact hB'.alloc hB'.size _
      rw [← hwp, ← hgP]
      clear hwp hgP xk yk hB hB'
      go_loopw [63] (fun j wr => ∃ k : Nat, k ≤ M.length ∧ j = .int .i64 k ∧ Below wp.heap.size wp wr) (fun j _ => M.length - (intOf j).toNat)
      case atStart => exact ⟨0, Nat.zero_le _, rfl, Below.refl _ _⟩
      case round =>
        obtain ⟨k2, hk2, rfl, hB2⟩ := hrel
        obtain ⟨wo2, rfl⟩ : ∃ wo2 : World, wo2 = wr := ⟨_, rfl⟩
        by_cases hlt2 : k2 < M.length
        · have hlt2' : (k2 : Int) < (M.length : Int) := by omega
          obtain ⟨b2, off2, hA2, hC2⟩ := (HM.out.below (keepBelow hB2 hBp')).at_ (by intro h; rw [h] at hlt2; simp at hlt2)
          subst hA2
          have bk2 := withinB_iff.1 (allWithin_at HWM.out hlt2)
          have xk := hC2.x k2 hlt2
          have yk := hC2.y k2 hlt2
          have p0' := keepCell hB2 p0
          have p1' := keepCell hB2 p1
          clear hC2
          go_wp2
          obtain ⟨gQ, hgQ⟩ : ∃ g, g = wo2.heap.size := ⟨_, rfl⟩
          obtain ⟨wq, hwq⟩ : ∃ wz, wz = wo2.alloc (.cells #[.int .i64 (px M k2), .int .i64 (py M k2)] 34) := ⟨_, rfl⟩
          have q0 : wq.cell? ⟨gQ, 0, none⟩ = some (.int .i64 (px M k2)) := by rw [hwq, hgQ]; go_simp
          have q1 : wq.cell? ⟨gQ, 1, none⟩ = some (.int .i64 (py M k2)) := by rw [hwq, hgQ]; go_simp
          have hBq : Below wp.heap.size wp wq := by rw [hwq]; exact hB2.alloc hB2.size _
          rw [← hwq, ← hgQ]
          clear hwq hgQ xk yk hB2 p0' p1'
          have p0' := keepCell hBq p0
          have p1' := keepCell hBq p1
          go_loopw [69] (fun j wr => ∃ k : Nat, k ≤ D.length ∧ j = .int .i64 k ∧ Below wq.heap.size wq wr) (fun j _ => D.length - (intOf j).toNat)
          case atStart => exact ⟨0, Nat.zero_le _, rfl, Below.refl _ _⟩
          case round =>
            obtain ⟨i, hi, rfl, hB3⟩ := hrel
            obtain ⟨wo3, rfl⟩ : ∃ wo3 : World, wo3 = wr := ⟨_, rfl⟩
            by_cases hlt3 : i < D.length
            · have hlt3' : (i : Int) < (D.length : Int) := by omega
              obtain ⟨b3, off3, hA3, hC3⟩ := (HD.out.below (keepBelow hB3 (keepBelow hBq hBp'))).at_ (by intro h; rw [h] at hlt3; simp at hlt3)
              subst hA3
              obtain ⟨j, hje⟩ : ∃ j, j = (i + 1) % D.length := ⟨_, rfl⟩
              have hj : j < D.length := by rw [hje]; exact Nat.mod_lt _ (by omega)
              have hji : ((i : Int) + 1) % (D.length : Int) = (j : Int) := by rw [hje]; simp
              have hji2 : (((i : Int) + 1) % (D.length : Int)).toNat = j := by omega
              have hji3 : ((i : Int) + 1) % (D.length : Int) < (D.length : Int) := by omega
              have hji4 : 0 ≤ ((i : Int) + 1) % (D.length : Int) := by omega
              have hwk : IntKind.i64.wrap ((i : Int) + 1) = (i : Int) + 1 := IntWalk.i64_in _ (by omega)
              have htm : ((i : Int) + 1).tmod (D.length : Int) = (j : Int) := by rw [Int.tmod_eq_emod_of_nonneg (by omega)]; exact hji
              have hl0 : ¬ D = [] := by intro h; rw [h] at hlt3; simp at hlt3
              have hjl : (j : Int) < (D.length : Int) := by omega
              have bi := withinB_iff.1 (allWithin_at HWD.out hlt3)
              have bj := withinB_iff.1 (allWithin_at HWD.out hj)
              have xi := hC3.x i hlt3
              have yi := hC3.y i hlt3
              have xj := hC3.x j hj
              have yj := hC3.y j hj
              have hbl := hC3.lt
              have hl1 := lt_of_cell (keepCell hB3 p0')
              have hl2 := lt_of_cell (keepCell hB3 q0)
              have p2 := keepCell hB3 p0'
              have p3 := keepCell hB3 p1'
              have q2 := keepCell hB3 q0
              have q3 := keepCell hB3 q1
              have hge := HLAW.out i hlt3 k k2 hlt hlt2
              rw [← hje] at hge
              have HGE := hid hge
              clear hC3 hje hge
              have v1 : IntKind.i64.wrap (px D j - px D i) = px D j - px D i := IntWalk.i64_in _ (by omega)
              have v2 : IntKind.i64.wrap (py D j - py D i) = py D j - py D i := IntWalk.i64_in _ (by omega)
              have v3 : IntKind.i64.wrap (px L k - px M k2) = px L k - px M k2 := IntWalk.i64_in _ (by omega)
              have v4 : IntKind.i64.wrap (py L k - py M k2) = py L k - py M k2 := IntWalk.i64_in _ (by omega)
              have v5 : IntKind.i64.wrap (px L k - px M k2 - px D i) = px L k - px M k2 - px D i := IntWalk.i64_in _ (by omega)
              have v6 : IntKind.i64.wrap (py L k - py M k2 - py D i) = py L k - py M k2 - py D i := IntWalk.i64_in _ (by omega)
              have HX := hid (pcross_calls (px D j - px D i) (py D j - py D i) (px L k - px M k2 - px D i) (py L k - py M k2 - py D i) (by omega) (by omega) (by omega) (by omega))
              have m1 := mul_bd (x := px D j - px D i) (y := py L k - py M k2 - py D i) (M := 262144000) (N := 262144000) (by omega) (by omega) (by omega) (by omega)
              have m2 := mul_bd (x := py D j - py D i) (y := px L k - px M k2 - px D i) (M := 262144000) (N := 262144000) (by omega) (by omega) (by omega) (by omega)
              have g0 := HGE.out
              unfold crsZ at g0
              obtain ⟨z, hz⟩ : ∃ z, z = (px D j - px D i) * (py L k - py M k2 - py D i) - (py D j - py D i) * (px L k - px M k2 - px D i) := ⟨_, rfl⟩
              rw [← hz] at HX g0
              have HC := hid (wcmp_zero z (by omega) (by omega))
              have hcz : ¬ cmpZ z 0 < 0 := by rw [cmpZ_neg]; omega
              generalize cmpZ z 0 = cz at *
              clear m1 m2 hz g0 HGE bk bk2 bi bj
              go_wp2_with fail
              refine (HX.out _).mono ?_
              rintro e w6 ⟨rfl, hb6⟩
              obtain ⟨wy, hwy⟩ : ∃ wy, wy = (wo3.alloc (.cells #[.int .i64 (px D i), .int .i64 (py D i)] 34)).alloc (.cells #[.int .i64 (px D j), .int .i64 (py D j)] 34) := ⟨_, rfl⟩
              have hBy : Below wq.heap.size wq wy := by rw [hwy]; have := hB3.size; exact (hB3.alloc hB3.size _).alloc (by simp; omega) _
              rw [← hwy] at hb6
              have hB6 := keepBelow hb6 hBy
              clear hwy hBy hb6 xi yi xj yj p2 p3 q2 q3 HX hB3
              go_wp2_with fail
              refine (HC.out _).mono ?_
              rintro e w7 ⟨rfl, hb7⟩
              have hB7 := keepBelow hb7 hB6
              clear hb7 hB6 HC
              go_wp2
              go_roundw
              case rel => exact ⟨i + 1, hlt3, by go_num, hB7⟩
              case measure => simp [intOf]; omega
            · have hge : D.length ≤ i := by omega
              have hB4 := keepBelow hB3 hBq
              clear hB3
              go_wp2
              go_roundw
              case rel => exact ⟨k2 + 1, hlt2, by go_num, hB4⟩
              case measure => simp [intOf]; omega
        · have hge : M.length ≤ k2 := by omega
          have hB3 := keepBelow hB2 hBp
          have hB3' := keepBelow hB2 hBp'
          clear hB2
          go_wp2
          go_roundw
          case rel => exact ⟨k + 1, hlt, by go_num, hB3, hB3'⟩
          case measure => simp [intOf]; omega
    · have hge : L.length ≤ k := by omega
      clear hB'
      go_wp2
      go_returns
      exact ret_bool rfl hB

end Go.Proofs.Ytflmhlejgjdifaa
