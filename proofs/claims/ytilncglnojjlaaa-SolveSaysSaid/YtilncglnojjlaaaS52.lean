/- The walk of SolveSays. -/
import Derived.Test.YtilncglnojjlaaaS46
import Derived.Test.YtilncglnojjlaaaS50
import Derived.Test.YtilncglnojjlaaaS51
namespace Go.Proofs.Ytilncglnojjlaaa
section
set_option linter.unusedVariables false
set_option linter.unusedSimpArgs false
open Go.RowKit
set_option maxRecDepth 100000 in
set_option maxHeartbeats 8000000 in
theorem solveSays_walk (A B : Option Addr) (n c n' c' : Nat) (L : List BE) (C : List Ct) (st r : Int) (w : World) (hS : SlB w A n c L) (hC : SlE layC w B n' c' C) :
    Calls Try.prog 3 #[.slice A n c, .slice B n' c', .int .i64 st, .int .i64 r] w (Ret (.bool true) w) := by
  have hn := hS.sl.len
  have hn' := hC.len
  have hbig' := hC.big
  have hcap' := hC.cap
  subst hn hn'
  have HS := hid hS
  have HC := hid hC
  clear hS hC
  go_enter Try.func3, Try.ntmps3
  go_wp2_with fail
  refine (solveBegun_calls _).mono ?_
  rintro e w1 ⟨rfl, hB⟩
  have HRE1 : Hid (contactsE L C ≠ 0 → srunE L C st r = contactsE L C) := fun h => by unfold srunE; rw [if_pos h]
  have HRE2 : Hid (contactsE L C = 0 → (st < 1 ∨ 65536 < st ∨ r < 0 ∨ 32 < r) → srunE L C st r = 1) := fun h h2 => by unfold srunE; rw [if_neg (by simp [h]), if_pos h2]
  have HRE3 : Hid (contactsE L C = 0 → ¬ (st < 1 ∨ 65536 < st ∨ r < 0 ∨ 32 < r) → srunE L C st r = 0) := fun h h2 => by unfold srunE; rw [if_neg (by simp [h]), if_neg h2]
  have HRQ : Hid (srunE L C st r ≠ 0 → srunS L C st r = ([], [])) := fun h => by unfold srunS; rw [if_neg h]
  have HRQ3 : Hid (srunE L C st r = 0 → srunS L C st r = solveQ (L.map valB) C st r.toNat) := fun h => by unfold srunS; rw [if_pos h]
  go_wp2_with fail
  refine (srun_calls A B L.length c C.length c' L C st r _ (HS.out.below hB) (HC.out.below hB)).mono ?_
  rintro e w2 ⟨A2, B2, n2, c2, m2, d2, L2, rfl, hs2, hc2, hm2, hb2⟩
  have hn2 := hs2.sl.len
  have hm2' := hc2.len
  subst hn2 hm2'
  have HS2 := hid hs2
  have HC2 := hid hc2
  have HM2 := hid hm2
  have hB2 := keepBelow hb2 hB
  clear hb2 hs2 hc2 hm2 hB
  go_wp2_with fail
  refine (rcontacts_calls A B L.length c C.length c' L C _ (HS.out.below hB2) (HC.out.below hB2)).mono ?_
  rintro e w3 ⟨rfl, hb3⟩
  have hB3 := keepBelow hb3 hB2
  replace HS2 := hid (HS2.out.below hb3)
  replace HC2 := hid (HC2.out.below hb3)
  clear hb3 hB2
  go_wp2_with fail
  refine (scheck_calls A B L.length c C.length c' L C _ (HS.out.below hB3) (HC.out.below hB3)).mono ?_
  rintro e w4 ⟨rfl, hb4⟩
  have hB4 := keepBelow hb4 hB3
  replace HS2 := hid (HS2.out.below hb4)
  replace HC2 := hid (HC2.out.below hb4)
  clear hb4 hB3
  obtain ⟨S, hSS⟩ : ∃ S, S = srunS L C st r := ⟨_, rfl⟩
  rw [← hSS] at HC2 HM2 HRQ HRQ3
  try rw [← hSS]
  clear hSS
  obtain ⟨S1', S2'⟩ := S
  have HC2' : Hid (SlE layC w4 B2 S2'.length d2 S2') := HC2.out
  have HM2' : Hid (L2.map valB = S1') := HM2.out
  clear HC2 HM2
  have HN0 : Hid (srunE L C st r ≠ 0 → L2 = [] ∧ S2' = []) := fun h => by
    have h1 := HRQ.out h
    have h2 : S1' = [] := congrArg Prod.fst h1
    have h3 : S2' = [] := congrArg Prod.snd h1
    have h4 := HM2'.out
    rw [h2] at h4
    exact ⟨by simpa using h4, h3⟩
  try dsimp only
  by_cases hE : contactsE L C = 0
  case neg =>
    have hre := HRE1.out hE
    obtain ⟨hn0, hn1⟩ := HN0.out (by rw [hre]; exact hE)
    have hne : (contactsE L C != 0) = true := by simp [hE]
    have hne2 : (contactsE L C == 0) = false := by simp [hE]
    rw [hre]
    clear hre HRE1 HRE2 HRE3 HRQ HRQ3 HN0 HM2' HC2' HS2
    subst hn0 hn1
    generalize contactsE L C = z at *
    go_wp2
    go_returns
    exact ret_bool (by simp) hB4
  by_cases hbad : st < 1 ∨ 65536 < st ∨ r < 0 ∨ 32 < r
  · have hre := HRE2.out hE hbad
    obtain ⟨hn0, hn1⟩ := HN0.out (by rw [hre]; decide)
    rw [hre, hE]
    clear hre HRE1 HRE2 HRE3 HRQ HRQ3 HN0 HM2' HC2' HS2 hE
    subst hn0 hn1
    by_cases c1 : st < 1
    · go_wp2
      go_returns
      exact ret_bool (by simp) hB4
    by_cases c2 : 65536 < st
    · go_wp2
      go_returns
      exact ret_bool (by simp) hB4
    by_cases c3 : r < 0
    · go_wp2
      go_returns
      exact ret_bool (by simp) hB4
    have c4 : 32 < r := by omega
    go_wp2
    go_returns
    exact ret_bool (by simp) hB4
  have hre := HRE3.out hE hbad
  have g1 : ¬ st < 1 := fun h => hbad (.inl h)
  have g2 : ¬ 65536 < st := fun h => hbad (.inr (.inl h))
  have g3 : ¬ r < 0 := fun h => hbad (.inr (.inr (.inl h)))
  have g4 : ¬ 32 < r := fun h => hbad (.inr (.inr (.inr h)))
  obtain ⟨hbe, hc96, hcs⟩ := contactsE_zero hE
  obtain ⟨h64, hval⟩ := bodiesE_zero hbe
  have HSV := hid (HRQ3.out hre)
  have HPC : Hid (∀ w', Below w.heap.size w w' → Calls Try.prog 11 #[.slice A L.length c, .slice B C.length c', .int .i64 st, .int .i64 r] w' fun e w'' => ∃ A' n1 c1 L' B' m d C', e = .returned (.tuple #[.slice A' n1 c1, .slice B' m d]) ∧ SlB w'' A' n1 c1 L' ∧ SlE layC w'' B' m d C' ∧ (L'.map valB, C') = solveQ (L.map valB) C st r.toNat ∧ Below w'.heap.size w' w'') := fun w' hb => by
    have := rsolve_calls A B L.length c C.length c' L C st r.toNat w' (HS.out.below hb) (HC.out.below hb) h64 hval hcs hc96 (by omega)
    rwa [Int.toNat_of_nonneg (by omega)] at this
  rw [hre, hE]
  clear hre HRE1 HRE2 HRE3 HRQ HRQ3 HN0 hE hbad hbe hval hcs
  by_cases h40 : 40 < C.length
  · clear HPC HSV HM2' HC2' HS2
    go_wp2
    go_returns
    exact ret_bool (by simp) hB4
  go_wp2_with fail
  refine (HPC.out _ hB4).mono ?_
  rintro e w5 ⟨A3, n3, c3, L3, B3, m3, d3, C3, rfl, hs3, hc3, hm3, hb5⟩
  have hB5 := keepBelow hb5 hB4
  have hq : (L3.map valB, C3) = (S1', S2') := by rw [hm3, ← HSV.out]
  have hq1 : L3.map valB = S1' := congrArg Prod.fst hq
  have hq2 : C3 = S2' := congrArg Prod.snd hq
  have HSB := hid (rsameBodies_calls A2 A3 L2.length c2 n3 c3 L2 L3 w5 (HS2.out.below hb5) hs3 (by rw [HM2'.out, hq1]))
  have HCA := hid (HC2'.out.below hb5)
  have HCB : Hid (SlE layC w5 B3 m3 d3 S2') := by show SlE _ _ _ _ _ _; rw [← hq2]; exact hc3
  clear hb5 hs3 hc3 hm3 hB4 hq hq1 hq2 HSV HPC HM2' HC2' HS2
  go_wp2_with fail
  refine HSB.out.mono ?_
  rintro e w6 ⟨rfl, hb6⟩
  have hB6 := keepBelow hb6 hB5
  have HEQ := hid (equalCt_calls B2 B3 S2'.length d2 m3 d3 S2' w6 (HCA.out.below hb6) (HCB.out.below hb6))
  clear hb6 hB5 HSB HCA HCB
  go_wp2_with fail
  refine HEQ.out.mono ?_
  rintro e w7 ⟨rfl, hb7⟩
  have hB7 := keepBelow hb7 hB6
  clear hb7 hB6 HEQ
  go_wp2
  go_returns
  exact ret_bool (by simp) hB7
end
end Go.Proofs.Ytilncglnojjlaaa
