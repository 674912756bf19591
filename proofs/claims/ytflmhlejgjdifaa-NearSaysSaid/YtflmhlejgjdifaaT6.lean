/- The contract of near.Meet; the walk of NearSwapped. -/
import Derived.Test.YtflmhlejgjdifaaT1
import Derived.Test.YtflmhlejgjdifaaM21
namespace Go.Proofs.Ytflmhlejgjdifaa
set_option linter.unusedVariables false
set_option linter.unusedSimpArgs false
open Go.RowKit

def nmeetB (a b : List V) : Bool := decide (bothE a b = 0) && ninB (minusL a b)
set_option maxRecDepth 100000 in
set_option maxHeartbeats 4000000 in
theorem nmeet_calls (A B : Option Addr) (n c n' c' : Nat) (a b : List V) (w : World) (hS : Sl w A n c a) (hM : Sl w B n' c' b) :
    Calls Try.prog 18 #[.slice A n c, .slice B n' c'] w (Ret (.tuple #[.bool (nmeetB a b), .int .i64 (bothE a b)]) w) := by
  have HMN := hid (nminus_calls A B n c n' c' a b w hS hM)
  obtain ⟨mw, ml⟩ := minus_bd a b
  have HAZ : Hid (nmeetB a b = (decide (bothE a b = 0) && ninB (minusL a b))) := rfl
  obtain ⟨m, hm⟩ : ∃ m, m = minusL a b := ⟨_, rfl⟩
  obtain ⟨E, hE⟩ : ∃ E, E = bothE a b := ⟨_, rfl⟩
  obtain ⟨Z, hZ⟩ : ∃ Z, Z = nmeetB a b := ⟨_, rfl⟩
  rw [← hm, ← hE] at HMN HAZ
  rw [← hm] at mw ml
  rw [← hZ] at HAZ
  rw [← hZ, ← hE]
  have HMW := hid mw
  clear hm hE hZ hS hM mw
  go_enter Try.func18, Try.ntmps18
  go_wp2_with fail
  refine HMN.out.mono ?_
  rintro e w1 ⟨Am, nm, cm, rfl, s1, f1, hb1⟩
  have hnm := s1.len
  subst hnm
  have HS1 := hid s1
  clear s1 f1 HMN
  by_cases hE0 : E = 0
  · have HZ : Hid (Z = ninB m) := by show _ = _; rw [HAZ.out, hE0]; simp
    subst hE0
    have HIN := hid (ninside_calls Am m.length cm m w1 HS1.out HMW.out (by omega))
    clear HAZ
    go_wp2_with fail
    refine HIN.out.mono ?_
    rintro e w2 ⟨rfl, hb2⟩
    have hB2 := keepBelow hb2 hb1
    clear HS1 hb1 hb2 HIN
    go_wp2
    refine bodyPost_ret (v := .tuple #[.bool (ninB m), .int .i64 0]) (by simp [results, Try.results18, go_sem]) rfl ⟨by rw [HZ.out], hB2⟩
  · have HZ : Hid (Z = false) := by show _ = _; rw [HAZ.out]; simp [hE0]
    have hne : (E != 0) = true := by simp [hE0]
    clear HAZ hE0
    go_wp2
    refine bodyPost_ret (v := .tuple #[.bool false, .int .i64 E]) (by simp [results, Try.results18, go_sem]) rfl ⟨by rw [HZ.out], hb1⟩

set_option maxRecDepth 100000 in
set_option maxHeartbeats 4000000 in
theorem nearSwapped_walk (A B : Option Addr) (n c n' c' : Nat) (r s : List Int) (x y x' y' : Int) (w : World) (hS : SlI w A n c r) (hM : SlI w B n' c' s) :
    Calls Try.prog 9 #[.slice A n c, .slice B n' c', .int .i64 x, .int .i64 y, .int .i64 x', .int .i64 y'] w (Ret (.bool true) w) := by
  have HPR := hid (pair_calls A B n c n' c' r s x y w hS hM)
  have mL := polyL_made r
  have mM := polyL_made s
  have bx := plc_bd x
  have by_ := plc_bd y
  have bu := plc_bd x'
  have bv := plc_bd y'
  obtain ⟨L, hL⟩ : ∃ L, L = polyL r := ⟨_, rfl⟩
  obtain ⟨M, hMM⟩ : ∃ M, M = movL (polyL s) (plc x) (plc y) := ⟨_, rfl⟩
  rw [← hL] at HPR mL
  rw [← hMM] at HPR
  have wL0 : allWithin 262144 L = true := made_within mL
  have wM0 : allWithin 1048576 M = true := by rw [hMM]; exact within_movL (n := 786432) (made_within mM) bx by_
  have cL := made_check mL
  have lM : M.length ≤ 5 := by rw [hMM, movL_len]; exact (made_len mM).2
  have cM : checkE M = 0 := by rw [hMM]; exact checkE_movL (made_check mM) (by rw [← hMM]; exact within_le wM0 (by omega))
  have HPL : Hid (∀ w, Calls Try.prog 40 #[.int .i64 x', .int .i64 y'] w (Ret (vecV (plc x') (plc y')) w)) := fun w => place_calls x' y' w
  generalize plc x' = u at *
  generalize plc y' = v at *
  have cMm : checkE (movL M u v) = 0 := checkE_movL cM (within_le (within_movL (n := 786432) wM0 bu bv) (by omega))
  have sb := sqZ_bd (x := u) (y := v) (by omega) (by omega)
  obtain ⟨r0, r1, r2⟩ := rootZ_spec (n := u * u + v * v) sb.1 (by have := sb.2; unfold sqZ at this; omega)
  have eL : clampF (lenZ (clampF u) (clampF v)) = rootZ (u * u + v * v) := by
    rw [clampF_id (a := u) (by omega) (by omega), clampF_id (a := v) (by omega) (by omega)]
    have := len_bd (x := u) (y := v) (by omega) (by omega)
    have h2 : rootZ (u * u + v * v) < 1099511627776 := root_lt sb.1 (by have := sb.2; unfold sqZ at this; omega) (by omega) (by have := sb.2; unfold sqZ at this; omega)
    exact clampF_id (by show (_ : Int) ≤ rootZ _; omega) (by show rootZ _ ≤ (_ : Int); omega)
  have law := apart_moved (a := L) (b := M) (u := u) (v := v) cL cM cMm r0 (by unfold sqZ; exact r2)
  have swp := apart_swap cL cM
  have rbd : rootZ (u * u + v * v) < 1099511627776 := root_lt sb.1 (by have := sb.2; unfold sqZ at this; omega) (by omega) (by have := sb.2; unfold sqZ at this; omega)
  have HLN := hid (vlen_calls u v)
  rw [eL] at HLN
  have e1 : bothE L M = 0 := bothE_zero.2 ⟨cL, cM⟩
  have e2 : bothE M L = 0 := bothE_zero.2 ⟨cM, cL⟩
  have e3 : bothE L (movL M u v) = 0 := bothE_zero.2 ⟨cL, cMm⟩
  have hin : nmeetB L M = true → apartZ L M = 0 := fun h => by
    unfold nmeetB at h
    simp only [Bool.and_eq_true] at h
    unfold apartZ
    rw [if_pos e1, if_pos h.2]
  have hbd : ∀ a b : List V, checkE a = 0 → checkE b = 0 → 0 ≤ apartZ a b ∧ apartZ a b < 1099511627776 := fun a b ha hb => by
    refine ⟨apartZ_nn ha hb, ?_⟩
    obtain ⟨w, _⟩ := minus_bd a b
    have hN := (minus_dif ha hb).pol.pos
    unfold apartZ
    split
    · split
      · omega
      · obtain ⟨q, q1, q2⟩ := farTo_min w (by omega)
        rw [q2]
        have := (farE_bd w (by omega) q).2
        omega
    · omega
  have b1 := hbd L M cL cM
  have b2 := hbd L (movL M u v) cL cMm
  obtain ⟨ln, hln⟩ : ∃ z, z = rootZ (u * u + v * v) := ⟨_, rfl⟩
  obtain ⟨z, hz⟩ : ∃ z, z = apartZ L M := ⟨_, rfl⟩
  obtain ⟨d, hd⟩ : ∃ z, z = apartZ L (movL M u v) := ⟨_, rfl⟩
  obtain ⟨mt, hmt⟩ : ∃ z, z = nmeetB L M := ⟨_, rfl⟩
  have HA1 : Hid (∀ (w : World) (A B : Option Addr) (n c n' c' : Nat), Sl w A n c L → Sl w B n' c' M → Calls Try.prog 15 #[.slice A n c, .slice B n' c'] w (Ret (.tuple #[.int .i64 z, .int .i64 0]) w)) := fun w A B n c n' c' h1 h2 => by
    have := apart_calls A B n c n' c' L M w h1 h2
    rwa [e1, ← hz] at this
  have HA2 : Hid (∀ (w : World) (A B : Option Addr) (n c n' c' : Nat), Sl w A n c M → Sl w B n' c' L → Calls Try.prog 15 #[.slice A n c, .slice B n' c'] w (Ret (.tuple #[.int .i64 z, .int .i64 0]) w)) := fun w A B n c n' c' h1 h2 => by
    have := apart_calls A B n c n' c' M L w h1 h2
    rwa [e2, swp, ← hz] at this
  have HA3 : Hid (∀ (w : World) (A B : Option Addr) (n c n' c' : Nat), Sl w A n c L → Sl w B n' c' (movL M u v) → Calls Try.prog 15 #[.slice A n c, .slice B n' c'] w (Ret (.tuple #[.int .i64 d, .int .i64 0]) w)) := fun w A B n c n' c' h1 h2 => by
    have := apart_calls A B n c n' c' L (movL M u v) w h1 h2
    rwa [e3, ← hd] at this
  have HME : Hid (∀ (w : World) (A B : Option Addr) (n c n' c' : Nat), Sl w A n c L → Sl w B n' c' M → Calls Try.prog 18 #[.slice A n c, .slice B n' c'] w (Ret (.tuple #[.bool mt, .int .i64 0]) w)) := fun w A B n c n' c' h1 h2 => by
    have := nmeet_calls A B n c n' c' L M w h1 h2
    rwa [e1, ← hmt] at this
  have HMV : Hid (∀ (w : World) (A : Option Addr) (n c : Nat), Sl w A n c M → Calls Try.prog 41 #[.slice A n c, vecV u v] w (RetVecs (movL M u v) w)) := fun w A n c h => moved_calls A n c M u v w h (by omega) (by omega) (by omega) (within_le wM0 (by omega))
  rw [← hln] at HLN law r0 rbd
  rw [← hz] at law b1 hin
  rw [← hd] at law b2
  rw [← hmt] at hin
  have HIN := hid hin
  clear hL hMM mL mM bx by_ bu bv wL0 wM0 cL lM cM cMm sb r1 r2 eL swp e1 e2 e3 hbd hln hz hd hmt hin hS hM
  go_enter Try.func9, Try.ntmps9
  go_wp2_with fail
  refine HPR.out.mono ?_
  rintro e w1 ⟨A1, n1, c1, B1, m1, d1, rfl, s1, t1, f1, f2, hb1⟩
  have HS1 := hid s1
  have HM1 := hid t1
  clear s1 t1 f1 f2 HPR
  go_wp2_with fail
  refine (HPL.out _).mono ?_
  rintro e w2 ⟨rfl, hb2⟩
  have hB2 := keepBelow hb2 hb1
  obtain ⟨g15, hg15⟩ : ∃ g, g = w2.heap.size := ⟨_, rfl⟩
  obtain ⟨w3, hw3⟩ : ∃ w3, w3 = w2.alloc (.cells #[.int .i64 u, .int .i64 v] 34) := ⟨_, rfl⟩
  have HS2 := hid (show Sl w3 A1 n1 c1 L by rw [hw3]; exact (HS1.out.below hb2).alloc _)
  have HM2 := hid (show Sl w3 B1 m1 d1 M by rw [hw3]; exact (HM1.out.below hb2).alloc _)
  have p0 : w3.cell? ⟨g15, 0, none⟩ = some (.int .i64 u) := by rw [hw3, hg15]; go_simp
  have p1 : w3.cell? ⟨g15, 1, none⟩ = some (.int .i64 v) := by rw [hw3, hg15]; go_simp
  have hB3 : Below w.heap.size w w3 := by rw [hw3]; exact hB2.alloc hB2.size _
  clear HS1 HM1 hb1 hb2 hB2 HPL
  go_wp2_with fail
  rw [← hw3, ← hg15]
  clear hw3 hg15
  refine (HA1.out _ _ _ _ _ _ _ HS2.out HM2.out).mono ?_
  rintro e w4 ⟨rfl, hb4⟩
  have HS3 := hid (HS2.out.below hb4)
  have HM3 := hid (HM2.out.below hb4)
  replace p0 := keepCell hb4 p0
  replace p1 := keepCell hb4 p1
  have hB4 := keepBelow hb4 hB3
  clear HS2 HM2 hb4 hB3 HA1
  go_wp2_with fail
  refine (HA2.out _ _ _ _ _ _ _ HM3.out HS3.out).mono ?_
  rintro e w5 ⟨rfl, hb5⟩
  have HS4 := hid (HS3.out.below hb5)
  have HM4 := hid (HM3.out.below hb5)
  replace p0 := keepCell hb5 p0
  replace p1 := keepCell hb5 p1
  have hB5 := keepBelow hb5 hB4
  clear HS3 HM3 hb5 hB4 HA2
  go_wp2_with fail
  refine (HMV.out _ _ _ _ HM4.out).mono ?_
  rintro e w6 ⟨A6, n6, c6, rfl, s6, f6, hb6⟩
  have HS5 := hid (HS4.out.below hb6)
  have HM5 := hid (HM4.out.below hb6)
  have HMM := hid s6
  replace p0 := keepCell hb6 p0
  replace p1 := keepCell hb6 p1
  have hB6 := keepBelow hb6 hB5
  clear HS4 HM4 hb6 hB5 HMV s6 f6
  go_wp2_with fail
  refine (HA3.out _ _ _ _ _ _ _ HS5.out HMM.out).mono ?_
  rintro e w7 ⟨rfl, hb7⟩
  have HS6 := hid (HS5.out.below hb7)
  have HM6 := hid (HM5.out.below hb7)
  replace p0 := keepCell hb7 p0
  replace p1 := keepCell hb7 p1
  have hB7 := keepBelow hb7 hB6
  clear HS5 HM5 hb7 hB6 HA3 HMM
  go_wp2_with fail
  refine (HME.out _ _ _ _ _ _ _ HS6.out HM6.out).mono ?_
  rintro e w8 ⟨rfl, hb8⟩
  replace p0 := keepCell hb8 p0
  replace p1 := keepCell hb8 p1
  have hB8 := keepBelow hb8 hB7
  clear HS6 HM6 hb8 hB7 HME
  go_wp2_with fail
  refine (tests_calls _).mono ?_
  rintro e w9 ⟨rfl, hb9⟩
  replace p0 := keepCell hb9 p0
  replace p1 := keepCell hb9 p1
  have hB9 := keepBelow hb9 hB8
  clear hb9 hB8
  have u1 : IntKind.i64.wrap (ln + 2) = ln + 2 := IntWalk.i64_in _ (by omega)
  have u2 : IntKind.i64.wrap (d - z) = d - z := IntWalk.i64_in _ (by omega)
  have u3 : IntKind.i64.wrap (z - d) = z - d := IntWalk.i64_in _ (by omega)
  obtain ⟨l1, l2⟩ := law
  cases mt with
  | false =>
    clear HIN
    go_wp2_with fail
    refine (HLN.out _).mono ?_
    rintro e w10 ⟨rfl, hb10⟩
    have hB10 := keepBelow hb10 hB9
    clear hb10 hB9 p0 p1 HLN
    go_wp2
    go_returns
    exact ret_bool (by simp [l1, l2]) hB10
  | true =>
    have z0 := HIN.out rfl
    subst z0
    clear HIN
    go_wp2_with fail
    refine (HLN.out _).mono ?_
    rintro e w10 ⟨rfl, hb10⟩
    have hB10 := keepBelow hb10 hB9
    clear hb10 hB9 p0 p1 HLN
    go_wp2
    go_returns
    exact ret_bool (by simp <;> omega) hB10

end Go.Proofs.Ytflmhlejgjdifaa
