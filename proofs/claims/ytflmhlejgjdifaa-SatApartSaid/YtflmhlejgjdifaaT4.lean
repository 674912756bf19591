/- The walk of SatApart. -/
import Derived.Test.YtflmhlejgjdifaaT1
import Derived.Test.YtflmhlejgjdifaaM19
import Derived.Test.YtflmhlejgjdifaaT0
namespace Go.Proofs.Ytflmhlejgjdifaa
set_option linter.unusedVariables false
set_option linter.unusedSimpArgs false
open Go.RowKit

theorem tst_none {l m : List V} (h : meetsB l m = false) : tstD l m = 0 ∧ tstX l m = 0 ∧ tstY l m = 0 := by
  unfold tstD tstX tstY leastO
  rw [h]
  exact ⟨rfl, rfl, rfl⟩
set_option maxRecDepth 100000 in
set_option maxHeartbeats 4000000 in
theorem satApart_walk (A B : Option Addr) (n c n' c' : Nat) (r s : List Int) (x y : Int) (w : World) (hS : SlI w A n c r) (hM : SlI w B n' c' s) :
    Calls Try.prog 12 #[.slice A n c, .slice B n' c', .int .i64 x, .int .i64 y] w (Ret (.bool true) w) := by
  have HPR := hid (pair_calls A B n c n' c' r s x y w hS hM)
  have mL := polyL_made r
  have mM := polyL_made s
  have bx := plc_bd x
  have by_ := plc_bd y
  obtain ⟨L, hL⟩ : ∃ L, L = polyL r := ⟨_, rfl⟩
  obtain ⟨M, hMM⟩ : ∃ M, M = movL (polyL s) (plc x) (plc y) := ⟨_, rfl⟩
  rw [← hL] at HPR mL
  rw [← hMM] at HPR
  have wL0 : allWithin 262144 L = true := made_within mL
  have wM0 : allWithin 1048576 M = true := by rw [hMM]; exact within_movL (n := 786432) (made_within mM) bx by_
  have cL := made_check mL
  have lM : M.length ≤ 5 := by rw [hMM, movL_len]; exact (made_len mM).2
  have cM : checkE M = 0 := by rw [hMM]; exact checkE_movL (made_check mM) (by rw [← hMM]; exact within_le wM0 (by omega))
  have law := apart_law cL cM wL0 wM0
  have none_ := tst_none (l := L) (m := M)
  obtain ⟨mt, hmt⟩ : ∃ b, b = meetsB L M := ⟨_, rfl⟩
  obtain ⟨d, hd⟩ : ∃ b, b = tstD L M := ⟨_, rfl⟩
  obtain ⟨tx, htx⟩ : ∃ b, b = tstX L M := ⟨_, rfl⟩
  obtain ⟨ty, hty⟩ : ∃ b, b = tstY L M := ⟨_, rfl⟩
  rw [← hmt, ← hd, ← htx, ← hty] at law none_
  have HT1 : Hid (∀ (w : World) (A B : Option Addr) (n c n' c' : Nat), Sl w A n c L → Sl w B n' c' M → Calls Try.prog 25 #[.slice A n c, .slice B n' c'] w (Ret (.tuple #[.bool mt, .int .i64 d, vecV tx ty]) w)) := fun w A B n c n' c' h1 h2 => by
    rw [hmt, hd, htx, hty]; exact test_calls A B n c n' c' L M w h1 h2
  have HMV : Hid (∀ (u v : Int) (w : World) (A : Option Addr) (n c : Nat), (-2623000 ≤ u ∧ u ≤ 2623000) → (-2623000 ≤ v ∧ v ≤ 2623000) → Sl w A n c M → Calls Try.prog 41 #[.slice A n c, vecV u v] w (RetVecs (movL M u v) w)) := fun u v w A n c hu hv h => moved_calls A n c M u v w h (by omega) (by omega) (by omega) (within_le wM0 (by omega))
  have HLAW := hid law
  have HNO := hid none_
  clear hL hMM mL mM bx by_ wL0 wM0 cL lM cM hmt hd htx hty hS hM law none_
  go_enter Try.func12, Try.ntmps12
  go_wp2_with fail
  refine HPR.out.mono ?_
  rintro e w1 ⟨A1, n1, c1, B1, m1, d1, rfl, s1, t1, f1, f2, hb1⟩
  have HS1 := hid s1
  have HM1 := hid t1
  clear s1 t1 f1 f2 HPR
  go_wp2_with fail
  refine (HT1.out _ _ _ _ _ _ _ HS1.out HM1.out).mono ?_
  rintro e w2 ⟨rfl, hb2⟩
  have hB2 := keepBelow hb2 hb1
  obtain ⟨g13, hg13⟩ : ∃ g, g = w2.heap.size := ⟨_, rfl⟩
  obtain ⟨w3, hw3⟩ : ∃ w3, w3 = w2.alloc (.cells #[.int .i64 tx, .int .i64 ty] 34) := ⟨_, rfl⟩
  have HS2 := hid (show Sl w3 A1 n1 c1 L by rw [hw3]; exact (HS1.out.below hb2).alloc _)
  have HM2 := hid (show Sl w3 B1 m1 d1 M by rw [hw3]; exact (HM1.out.below hb2).alloc _)
  have r0 : w3.cell? ⟨g13, 0, none⟩ = some (.int .i64 tx) := by rw [hw3, hg13]; go_simp
  have r1 : w3.cell? ⟨g13, 1, none⟩ = some (.int .i64 ty) := by rw [hw3, hg13]; go_simp
  have hB3 : Below w.heap.size w w3 := by rw [hw3]; exact hB2.alloc hB2.size _
  clear HS1 HM1 hb1 hb2 hB2 HT1
  go_wp2_with fail
  rw [← hw3, ← hg13]
  clear hw3 hg13
  refine (tests_calls _).mono ?_
  rintro e w4 ⟨rfl, hb4⟩
  replace r0 := keepCell hb4 r0
  replace r1 := keepCell hb4 r1
  have HS3 := hid (HS2.out.below hb4)
  have HM3 := hid (HM2.out.below hb4)
  have hB4 := keepBelow hb4 hB3
  clear hb4 hB3 HS2 HM2
  cases mt with
  | false =>
    obtain ⟨e1, e2, e3⟩ := HNO.out rfl
    subst e1 e2 e3
    clear HLAW HNO HMV HS3 HM3
    go_wp2
    go_returns
    exact ret_bool rfl hB4
  | true =>
    obtain ⟨l0, l1, l2, l3⟩ := HLAW.out rfl
    have u1 : IntKind.i64.wrap (d + 64) = d + 64 := IntWalk.i64_in _ (by omega)
    have HSC := hid (vscale_calls tx ty (d + 64))
    obtain ⟨u, hu⟩ : ∃ u, u = mulF tx (d + 64) := ⟨_, rfl⟩
    obtain ⟨v, hv⟩ : ∃ v, v = mulF ty (d + 64) := ⟨_, rfl⟩
    rw [← hu, ← hv] at l0 HSC
    rw [← hu] at l1
    rw [← hv] at l2
    have HL0 := hid l0
    clear HLAW HNO hu hv l0
    go_wp2_with fail
    refine (HSC.out _).mono ?_
    rintro e w5 ⟨rfl, hb5⟩
    have HS4 := hid (HS3.out.below hb5)
    have HM4 := hid (HM3.out.below hb5)
    have hB5 := keepBelow hb5 hB4
    clear hb5 hB4 HS3 HM3 HSC r0 r1
    go_wp2_with fail
    refine (HMV.out u v _ _ _ _ l1 l2 HM4.out).mono ?_
    rintro e w6 ⟨A6, n6, c6, rfl, s6, f6, hb6⟩
    have HS5 := hid (HS4.out.below hb6)
    have HM5 := hid s6
    have hB6 := keepBelow hb6 hB5
    clear hb6 hB5 HS4 HM4 s6 f6 HMV
    have HT2 := hid (test_calls A1 A6 n1 c1 n6 c6 L (movL M u v) w6 HS5.out HM5.out)
    rw [HL0.out] at HT2
    go_wp2_with fail
    refine HT2.out.mono ?_
    rintro e w7 ⟨rfl, hb7⟩
    have hB7 := keepBelow hb7 hB6
    clear hb7 hB6 HS5 HM5 HT2
    go_wp2
    go_returns
    exact ret_bool rfl (by have := hB7.size; go_grown)

end Go.Proofs.Ytflmhlejgjdifaa
