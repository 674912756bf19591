/- The walk of MassSays. -/
import Derived.Test.YtjoodpjndpdjnaaG6
import Derived.Test.YtjoodpjndpdjnaaG3
import Derived.Test.YtjoodpjndpdjnaaH1
import Derived.Test.YtjoodpjndpdjnaaZ3
namespace Go.Proofs.Ytjoodpjndpdjnaa
set_option linter.unusedVariables false
set_option linter.unusedSimpArgs false
open Go.RowKit

theorem sqL_mass : massV (sqL 0 0 2) 65536 = .tuple #[.int .i64 262144, .int .i64 174763, vecV 65536 65536, .int .i64 0] := by
  have h1 : ofE (sqL 0 0 2) 65536 = 0 := by decide
  have h2 : massQ (sqL 0 0 2) 65536 = 262144 := by decide
  have h3 : inerQ (sqL 0 0 2) 65536 = 174763 := by decide
  have h4 : cenQ (sqL 0 0 2) = (65536, 65536) := by decide
  rw [massV_ok h1, h2, h3, h4]
/-- what Of returns, in one form -/
theorem massV_form (l : List V) (d : Int) : ∃ m i u v e : Int, massV l d = .tuple #[.int .i64 m, .int .i64 i, vecV u v, .int .i64 e] := by
  unfold massV
  split
  · exact ⟨_, _, _, _, _, rfl⟩
  · exact ⟨_, _, _, _, _, rfl⟩

set_option maxRecDepth 100000 in
set_option maxHeartbeats 2000000 in
theorem massSays_walk (A : Option Addr) (n c : Nat) (l : List V) (d : Int) (hd : i64 d) (w : World) (hS : Sl w A n c l) :
    Calls Try.prog 11 #[.slice A n c, .int .i64 d] w (Ret (.bool true) w) := by
  have e1 := hid sqL_mass
  obtain ⟨m, i, u, v, e, hm⟩ := massV_form l d
  have HM := hid hm
  have HS := hid hS
  have HD := hid hd
  have HPE := hid (check_eq_poly l)
  have HPC := hid (check_eq_poly (centL l))
  clear hS hd hm
  go_enter Try.func11, Try.ntmps11
  go_wp2_with fail
  refine (square_calls 0 0 2 (by omega) (by omega) (by omega) _).mono ?_
  rintro e w1 ⟨A1, n1, c1, rfl, hS1, hb1⟩
  have HS1 := hid hS1
  have HSa := hid (HS.out.below hb1)
  clear hS1 HS
  go_wp2_with fail
  refine (mof_calls _ _ _ (sqL 0 0 2) 65536 _ HS1.out (by unfold i64; omega)).mono ?_
  rintro e w2 ⟨rfl, hb2⟩
  rw [e1.out]
  have hB2 : Below w.heap.size w w2 := hb1.trans (hb2.mono hb1.size)
  have HSb := hid (HSa.out.below hb2)
  clear hb1 hb2 HSa HS1
  go_wp2_with fail
  refine (mof_calls _ _ _ l d _ (HSb.out.alloc _) HD.out).mono ?_
  rintro e' w3 ⟨rfl, hb3⟩
  rw [HM.out]
  have HSc := hid ((HSb.out.alloc _).below hb3)
  have hB3 : Below w.heap.size w w3 := keepBelow hb3 (hB2.alloc hB2.size _)
  clear hb3 hB2 HSb
  go_wp2_with fail
  refine (rmass_calls _ _ _ l d _ (HSc.out.alloc _) HD.out).mono ?_
  rintro e' w4 ⟨rfl, hb4⟩
  rw [HM.out]
  have k1 : w4.cell? ⟨w3.heap.size, 0, none⟩ = some (.int .i64 u) := keepCell hb4 (by go_simp)
  have k2 : w4.cell? ⟨w3.heap.size, 1, none⟩ = some (.int .i64 v) := keepCell hb4 (by go_simp)
  have hz := lt_of_cell k1
  have HSd := hid ((HSc.out.alloc _).below hb4)
  have hB4 : Below w.heap.size w w4 := keepBelow hb4 (hB3.alloc hB3.size _)
  clear hb4 hB3 HSc
  go_wp2_with fail
  refine (mcentred_calls _ _ _ l _ (HSd.out.alloc _)).mono ?_
  rintro e' w5 ⟨A5, n5, c5, rfl, hS5, hb5⟩
  have HSe := hid ((HSd.out.alloc _).below hb5)
  have HC5 := hid hS5
  have hB5 : Below w.heap.size w w5 := keepBelow hb5 (hB4.alloc hB4.size _)
  have hn5 := hS5.len
  subst hn5
  have hcap5 := hS5.cap
  have hbig5 := hS5.big
  clear hb5 hB4 HSd k1 k2 hS5
  go_wp2_with fail
  refine (rpoly_calls _ _ _ l _ HSe.out).mono ?_
  rintro e' w6 ⟨rfl, hb6⟩
  rw [← HPE.out]
  have HSf := hid (HSe.out.below hb6)
  have HC6 := hid (HC5.out.below hb6)
  have hB6 := keepBelow hb6 hB5
  clear hb6 hB5 HSe HC5
  by_cases hE : checkE l = 0
  · have HE := hid hE
    have hcb := withinB_iff.1 (cenQ_bd hE)
    obtain ⟨h8, h3, hw, _⟩ := checkE_zero hE
    have HW := hid hw
    have HCC := hid (show cenE l = checkE (centL l) by unfold cenE; rw [if_pos hE])
    rw [hE]
    clear hE hw
    go_wp2_with fail
    refine (rcentre_calls _ _ _ l _ HSf.out HE.out).mono ?_
    rintro e' w7 ⟨rfl, hb7⟩
    have HSg := hid (HSf.out.below hb7)
    have HC7 := hid (HC6.out.below hb7)
    have hB7 := keepBelow hb7 hB6
    clear hb7 hB6 HSf HC6
    go_wp2_with fail
    refine (rmoved_calls _ _ _ l (cenQ l).1 (cenQ l).2 _ HSg.out (by omega) (by omega) (by omega) HW.out).mono ?_
    rintro e' w8 ⟨A8, n8, c8, rfl, hS8, hf8, hb8⟩
    have HC8 := hid (HC7.out.below hb8)
    have HM8 : Hid (Sl w8 A8 n8 c8 (centL l)) := hS8
    have hB8 := keepBelow hb8 hB7
    clear hb8 hB7 HC7 HSg hS8 hf8
    go_wp2_with fail
    refine (rpoly_calls _ _ _ (centL l) _ HM8.out).mono ?_
    rintro e' w9 ⟨rfl, hb9⟩
    rw [← HPC.out]
    have HC9 := hid (HC8.out.below hb9)
    have HM9 := hid (HM8.out.below hb9)
    have hB9 := keepBelow hb9 hB8
    clear hb9 hB8 HC8 HM8
    rw [HCC.out]
    by_cases hC : checkE (centL l) = 0
    · have hR : cenR l = centL l := by unfold cenR; rw [if_pos (by rw [HCC.out]; exact hC)]
      have HR := hid hR
      rw [hR] at hcap5
      have HC10 : Hid (Sl w9 A5 (cenR l).length c5 (centL l)) := by have := HC9.out; rw [hR] at this; rw [hR]; exact this
      rw [hC]
      clear hC hR
      go_wp2_with fail
      refine (equal_calls _ _ _ _ _ _ (centL l) (centL l) _ HC10.out HM9.out).mono ?_
      rintro e' w10 ⟨rfl, hb10⟩
      have hB10 := keepBelow hb10 hB9
      have hdd : decide (centL l = centL l) = true := by simp
      rw [hdd]
      go_wp2
      go_returns
      exact ret_bool rfl hB10
    · have hR : cenR l = [] := by unfold cenR; rw [if_neg (by rw [HCC.out]; exact hC)]
      have hne : (checkE (centL l) != 0) = true := by simp [hC]
      rw [hR]
      clear hR
      go_wp2
      go_returns
      exact ret_bool (by simp) hB9
  · have HCC : cenE l = checkE l := by unfold cenE; rw [if_neg hE]
    have hR : cenR l = [] := by unfold cenR; rw [if_neg (by rw [HCC]; exact hE)]
    have hne : (checkE l != 0) = true := by simp [hE]
    have hne2 : (checkE l == 0) = false := by simp [hE]
    rw [hR, HCC]
    clear hE hR HCC
    go_wp2
    go_returns
    exact ret_bool (by simp) hB6

end Go.Proofs.Ytjoodpjndpdjnaa
