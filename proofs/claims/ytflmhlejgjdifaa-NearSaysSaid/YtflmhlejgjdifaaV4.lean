/- The walk of NearSays. -/
import Derived.Test.YtflmhlejgjdifaaV3
import Derived.Test.YtflmhlejgjdifaaT6
import Derived.Test.YtflmhlejgjdifaaH1
namespace Go.Proofs.Ytflmhlejgjdifaa
set_option linter.unusedVariables false
set_option linter.unusedSimpArgs false
open Go.RowKit

theorem nearB_apart : apartZ (sqL 0 0 1) (sqL 4 5 1) = 327680 := by kernel_rfl
theorem nearB_both : bothE (sqL 0 0 1) (sqL 4 5 1) = 0 := by kernel_rfl
theorem rapart_eq {a b : List V} (ha : checkE a = 0) (hb : checkE b = 0) : rapartZ a b = apartZ a b := by
  unfold rapartZ
  rw [meet_eq ha hb, meets_nin ha hb]
  cases h : ninB (minusL a b) with
  | true => unfold apartZ; rw [if_pos (bothE_zero.2 ⟨ha, hb⟩), if_pos h]; simp
  | false => simp only [Bool.false_eq_true, if_false]; exact apart_eq ha hb h
theorem nmeet_eq {a b : List V} (ha : checkE a = 0) (hb : checkE b = 0) : nmeetB a b = rmeetB a b := by
  rw [meet_eq ha hb, meets_nin ha hb]
  unfold nmeetB
  rw [decide_eq_true (bothE_zero.2 ⟨ha, hb⟩), Bool.true_and]
set_option maxRecDepth 100000 in
set_option maxHeartbeats 4000000 in
theorem nearSays_walk (A B : Option Addr) (n c n' c' : Nat) (l m : List V) (w : World) (hS : Sl w A n c l) (hM : Sl w B n' c' m) :
    Calls Try.prog 3 #[.slice A n c, .slice B n' c'] w (Ret (.bool true) w) := by
  have hn := hS.len
  have hn' := hM.len
  subst hn hn'
  have e1 := hid nearB_apart
  have e2 := hid nearB_both
  have HS := hid hS
  have HM := hid hM
  have HMN : Hid (∀ w', Below w.heap.size w w' → Calls Try.prog 17 #[.slice A l.length c, .slice B m.length c'] w' (RetMn (minusL l m) (bothE l m) w')) := fun w' h => nminus_calls A B _ c _ c' l m w' (hS.below h) (hM.below h)
  have HME : Hid (∀ w', Below w.heap.size w w' → Calls Try.prog 18 #[.slice A l.length c, .slice B m.length c'] w' (Ret (.tuple #[.bool (nmeetB l m), .int .i64 (bothE l m)]) w')) := fun w' h => nmeet_calls A B _ c _ c' l m w' (hS.below h) (hM.below h)
  have HAP : Hid (∀ w', Below w.heap.size w w' → Calls Try.prog 15 #[.slice A l.length c, .slice B m.length c'] w' (Ret (.tuple #[.int .i64 (apartZ l m), .int .i64 (bothE l m)]) w')) := fun w' h => apart_calls A B _ c _ c' l m w' (hS.below h) (hM.below h)
  have HTW : Hid (∀ w', Below w.heap.size w w' → Calls Try.prog 19 #[.slice A l.length c, .slice B m.length c'] w' (Ret (.int .i64 (bothE l m)) w')) := fun w' h => rtwo_calls A B _ c _ c' l m w' (hS.below h) (hM.below h)
  have HRM : Hid (bothE l m = 0 → ∀ w', Below w.heap.size w w' → Calls Try.prog 21 #[.slice A l.length c, .slice B m.length c'] w' (RetVecs (minusL l m) w')) := fun hE w' h => rminus_calls A B _ c _ c' l m w' (hS.below h) (hM.below h) (bothE_zero.1 hE).1 (bothE_zero.1 hE).2
  have HRE : Hid (bothE l m = 0 → ∀ w', Below w.heap.size w w' → Calls Try.prog 22 #[.slice A l.length c, .slice B m.length c'] w' (Ret (.bool (nmeetB l m)) w')) := fun hE w' h => by
    rw [nmeet_eq (bothE_zero.1 hE).1 (bothE_zero.1 hE).2]
    exact rmeet_calls A B _ c _ c' l m w' (hS.below h) (hM.below h) (bothE_zero.1 hE).1 (bothE_zero.1 hE).2
  have HRA : Hid (bothE l m = 0 → ∀ w', Below w.heap.size w w' → Calls Try.prog 23 #[.slice A l.length c, .slice B m.length c'] w' (Ret (.int .i64 (apartZ l m)) w')) := fun hE w' h => by
    rw [← rapart_eq (bothE_zero.1 hE).1 (bothE_zero.1 hE).2]
    exact rApart_calls A B _ c _ c' l m w' (hS.below h) (hM.below h) (bothE_zero.1 hE).1 (bothE_zero.1 hE).2
  have HNO : Hid (¬ bothE l m = 0 → minusL l m = [] ∧ nmeetB l m = false ∧ apartZ l m = 0) := fun h => by
    refine ⟨by unfold minusL; rw [if_neg h], by unfold nmeetB; rw [decide_eq_false h, Bool.false_and], by unfold apartZ; rw [if_neg h]⟩
  generalize minusL l m = mn at *
  generalize nmeetB l m = mt at *
  generalize apartZ l m = ap at *
  generalize bothE l m = E at *
  clear hS hM HS HM
  go_enter Try.func3, Try.ntmps3
  go_wp2_with fail
  refine (square_calls 0 0 1 (by omega) (by omega) (by omega) _).mono ?_
  rintro e w1 ⟨A1, n1, c1, rfl, hS1, hb1⟩
  have HS1 := hid hS1
  clear hS1
  go_wp2_with fail
  refine (square_calls 4 5 1 (by omega) (by omega) (by omega) _).mono ?_
  rintro e w2 ⟨A2, n2, c2, rfl, hS2, hb2⟩
  have HS2 := hid hS2
  have HS1' := hid (HS1.out.below hb2)
  have hB2 := keepBelow hb2 hb1
  clear hS2 HS1 hb1 hb2
  go_wp2_with fail
  refine (apart_calls A1 A2 n1 c1 n2 c2 (sqL 0 0 1) (sqL 4 5 1) _ HS1'.out HS2.out).mono ?_
  rintro e w3 ⟨rfl, hb3⟩
  rw [e1.out, e2.out]
  have hB3 := keepBelow hb3 hB2
  clear HS1' HS2 hB2 hb3 e1 e2
  go_wp2_with fail
  refine (HMN.out _ hB3).mono ?_
  rintro e w4 ⟨Am, nm, cm, rfl, sm, fm, hb4⟩
  have hnm := sm.len
  subst hnm
  have HSM := hid sm
  have hB4 := keepBelow hb4 hB3
  clear HMN sm fm hb4 hB3
  go_wp2_with fail
  refine (HME.out _ hB4).mono ?_
  rintro e w5 ⟨rfl, hb5⟩
  replace HSM := hid (HSM.out.below hb5)
  have hB5 := keepBelow hb5 hB4
  clear HME hb5 hB4
  go_wp2_with fail
  refine (HAP.out _ hB5).mono ?_
  rintro e w6 ⟨rfl, hb6⟩
  replace HSM := hid (HSM.out.below hb6)
  have hB6 := keepBelow hb6 hB5
  clear HAP hb6 hB5
  go_wp2_with fail
  refine (HTW.out _ hB6).mono ?_
  rintro e w7 ⟨rfl, hb7⟩
  replace HSM := hid (HSM.out.below hb7)
  have hB7 := keepBelow hb7 hB6
  clear HTW hb7 hB6
  by_cases hE : E = 0
  · subst hE
    have HRM' := hid (HRM.out rfl)
    have HRE' := hid (HRE.out rfl)
    have HRA' := hid (HRA.out rfl)
    clear HRM HRE HRA HNO
    go_wp2_with fail
    refine (HRM'.out _ hB7).mono ?_
    rintro e w8 ⟨Ar, nr, cr', rfl, sr, fr, hb8⟩
    have hnr := sr.len
    subst hnr
    have HSR := hid sr
    replace HSM := hid (HSM.out.below hb8)
    have hB8 := keepBelow hb8 hB7
    clear HRM' sr fr hb8 hB7
    go_wp2_with fail
    refine (equal_calls Am Ar mn.length cm mn.length cr' mn mn _ HSM.out HSR.out).mono ?_
    rintro e w9 ⟨rfl, hb9⟩
    rw [decide_eq_true (rfl : mn = mn)]
    have hB9 := keepBelow hb9 hB8
    clear HSM HSR hb9 hB8
    go_wp2_with fail
    refine (HRE'.out _ hB9).mono ?_
    rintro e w10 ⟨rfl, hb10⟩
    have hB10 := keepBelow hb10 hB9
    clear HRE' hb10 hB9
    go_wp2_with fail
    refine (HRA'.out _ hB10).mono ?_
    rintro e w11 ⟨rfl, hb11⟩
    have hB11 := keepBelow hb11 hB10
    clear HRA' hb11 hB10
    go_wp2
    go_returns
    exact ret_bool (by simp) hB11
  · obtain ⟨rfl, rfl, rfl⟩ := HNO.out hE
    have hne : (E != 0) = true := by simp [hE]
    clear HNO HRM HRE HRA HSM hE
    go_wp2
    go_returns
    exact ret_bool (by simp) hB7

end Go.Proofs.Ytflmhlejgjdifaa
