/- The walk of PolyCut. -/
import Derived.Test.YtjoodpjndpdjnaaE3
import Derived.Deep.RegionHeld3
namespace Go.Proofs.Ytjoodpjndpdjnaa
set_option linter.unusedVariables false
set_option linter.unusedSimpArgs false
open Go.RowKit

/-- what the walk of PolyCut asks of the plain mathematics -/
structure CutLaw (L : List V) (m : Nat) (z1 z2 : Int) : Prop where
  c1 : checkE (L.take (m + 1)) = 0
  c2 : checkE ([(px L 0, py L 0)] ++ L.drop m) = 0
  a1 : areaZ (L.take (m + 1)) = z1
  a2 : areaZ ([(px L 0, py L 0)] ++ L.drop m) = z2
  sum : areaZ L = z1 + z2
theorem areaZ_bd {l : List V} (h : checkE l = 0) : -1000000000000000000 ≤ areaZ l ∧ areaZ l ≤ 1000000000000000000 := by
  obtain ⟨h8, h3, hw, _⟩ := checkE_zero h
  have := areaTo_bd hw (l.length - 2) (by omega)
  unfold areaZ
  omega
theorem cutLaw {L : List V} (h : Made L) (h4 : 4 ≤ L.length) {m : Nat} (h2 : 2 ≤ m) (hk : m + 1 < L.length) : ∃ z1 z2, CutLaw L m z1 z2 ∧ -1000000000000000000 ≤ z1 ∧ z1 ≤ 1000000000000000000 ∧ -1000000000000000000 ≤ z2 ∧ z2 ≤ 1000000000000000000 := by
  obtain ⟨a, b, c⟩ := made_cut h h4 h2 hk
  have h1 := areaZ_bd a
  have h2 := areaZ_bd b
  exact ⟨_, _, ⟨a, b, rfl, rfl, c.symm⟩, h1.1, h1.2, h2.1, h2.2⟩

set_option maxRecDepth 100000 in
set_option maxHeartbeats 2000000 in
theorem polyCut_walk (A : Option Addr) (n c : Nat) (r : List Int) (z : Int) (w : World) (hS : SlI w A n c r) :
    Calls Try.prog 5 #[.slice A n c, .int .i64 z] w (Ret (.bool true) w) := by
  obtain ⟨L, hLe⟩ : ∃ L, L = polyL r := ⟨_, rfl⟩
  have hM : Made L := hLe ▸ polyL_made r
  have hck := hid (made_check hM)
  have hlen := made_len hM
  have HM := hid hM
  have HLe := hid hLe
  have HS := hid hS
  clear hLe hM hS
  go_enter Try.func5, Try.ntmps5
  go_wp2_with fail
  refine (mPoly_calls _ _ _ r _ HS.out).mono ?_
  rintro e w1 ⟨A1, n1, c1, rfl, hs1, hf1, hb1⟩
  rw [← HLe.out] at hs1
  have HL1 := hid hs1
  have hn1 := hs1.len
  subst hn1
  have hcap1 := hs1.cap
  have hbig1 := hs1.big
  clear hs1 hf1
  go_wp2_with fail
  refine (works_calls _).mono ?_
  rintro e w2 ⟨rfl, hb2⟩
  have HL2 := hid (HL1.out.below hb2)
  have hB2 := hb1.trans (hb2.mono hb1.size)
  clear HL1 hb2 hb1
  by_cases h4 : L.length < 4
  · go_wp2
    go_returns
    exact ret_bool rfl hB2
  · have hq := Int.emod_nonneg z (show ((L.length : Int) - 3) ≠ 0 by omega)
    have hq2 := Int.emod_lt_of_pos z (show 0 < ((L.length : Int) - 3) by omega)
    go_wp2_with fail
    refine (tbelow_calls z ((L.length : Int) - 3) (by omega) (by omega) _).mono ?_
    rintro e w3 ⟨rfl, hb3⟩
    have HL3 := hid (HL2.out.below hb3)
    have hB3 := hB2.trans (hb3.mono hB2.size)
    obtain ⟨q, hqe⟩ : ∃ q, q = z % ((L.length : Int) - 3) := ⟨_, rfl⟩
    rw [← hqe] at hq hq2 ⊢
    have HQ := hid hqe
    clear hqe HL2 hb3 hB2
    obtain ⟨m, hm⟩ : ∃ m : Nat, 2 + q = (m : Int) := ⟨(2 + q).toNat, by omega⟩
    have hm2 : 2 ≤ m := by omega
    have hmL : m + 1 < L.length := by omega
    obtain ⟨z1, z2, hcut, hz1, hz2, hz3, hz4⟩ := cutLaw HM.out (by omega) hm2 hmL
    have HC := hid hcut
    clear hcut
    go_wp2_with fail
    have Hm := hid hm
    clear hm
    refine (area_calls _ _ _ L _ HL3.out).mono ?_
    rintro e w4 ⟨rfl, hb4⟩
    rw [if_pos hck.out, hck.out, HC.out.sum]
    have HL4 := hid (HL3.out.below hb4)
    have hB4 := hB3.trans (hb4.mono hB3.size)
    clear HL3 hb4 hB3
    go_wp2_with fail
    refine (area_calls _ _ _ (L.take (m + 1)) _ (HL4.out.take (by omega))).mono ?_
    rintro e w5 ⟨rfl, hb5⟩
    rw [if_pos HC.out.c1, HC.out.c1, HC.out.a1]
    have HL5 := hid (HL4.out.below hb5)
    have hB5 := hB4.trans (hb5.mono hB4.size)
    clear HL4 hb5 hB4
    obtain ⟨b, off, rfl, hC⟩ := HL5.out.at_ (by intro h; subst h; simp at hmL)
    have hbl := hC.lt
    have m0 : (0 : Int) ≤ (m : Int) := by omega
    have m1 : (m : Int) ≤ (c1 : Int) := by omega
    have m2 : (m : Int) ≤ (L.length : Int) := by omega
    have m3 : ¬ (c1 = m) := by omega
    have m4 : (0 : Int) < (L.length : Int) := by omega
    have m5 : 0 < L.length := by omega
    have s1 : w5.drew.cell? ⟨b, off, none⟩ = some (.int .i64 (px L 0)) ∧ w5.drew.cell? ⟨b, off + 1, none⟩ = some (.int .i64 (py L 0)) ∧ Below w5.heap.size w5 w5.drew := ⟨by simpa using hC.x 0 m5, by simpa using hC.y 0 m5, by go_grown⟩
    have S1 := hid s1
    have HCC := hid hC
    clear s1 hC
    go_wp2_with fail
    go_region_held3 (fun w' => w'.cell? ⟨b, off, none⟩ = some (.int .i64 (px L 0)) ∧ w'.cell? ⟨b, off + 1, none⟩ = some (.int .i64 (py L 0)) ∧ Below w5.heap.size w5 w')
      (first | with_reducible exact S1.out | with_reducible exact ⟨g1, g2, g3⟩ | (go_split_ands; with_reducible exact ⟨keepCell hb1 (by assumption), keepCell hb1 (by assumption), keepBelow hb1 (by assumption)⟩) | exact ⟨by go_simp; simpa using HCC.out.x 0 m5, by go_simp; simpa using HCC.out.y 0 m5, by go_grown⟩)
      (first
        | (go_at_call 17; refine (area_calls _ _ _ ([(px L 0, py L 0)] ++ L.drop m) _ HSA.out).mono ?_; rintro e w1 ⟨rfl, hb1⟩; rw [if_pos HC.out.c2, HC.out.c2, HC.out.a2])
        | (refine step_append_vecs (by rfl) _ _ (by rfl) w5.heap.size _ [(px L 0, py L 0)] (by rfl) (Own.lit w5 w5.heap.size [(px L 0, py L 0)] (Nat.le_refl _) (by simp)).drew b (off + m * 2) _ _ (L.drop m) (by rfl) (by simp) ((HCC.out.drop m).below (by go_grown)) (by simp; omega) (by simp) ?_; intro v' wa ho hg; obtain ⟨A', n', c', rfl, hsa, _⟩ := ho.sl; have HSA := hid hsa; have hba := Own.grown (Own.lit w5 w5.heap.size [(px L 0, py L 0)] (Nat.le_refl _) (by simp)).drew hg (by simp); have g1 : wa.cell? ⟨b, off, none⟩ = some (.int .i64 (px L 0)) := ((bcell hba).1 _ _ hbl).trans (by go_simp; simpa using HCC.out.x 0 m5); have g2 : wa.cell? ⟨b, off + 1, none⟩ = some (.int .i64 (py L 0)) := ((bcell hba).1 _ _ hbl).trans (by go_simp; simpa using HCC.out.y 0 m5); have g3 : Below w5.heap.size w5 wa := (show Below w5.heap.size w5 _ by go_grown).trans hba; clear ho hg hsa hba))
    go_wp2
    go_returns
    go_split_ands
    exact ret_bool (by simp) (hB5.trans ((show Below w5.heap.size w5 _ by assumption).mono hB5.size))

end Go.Proofs.Ytjoodpjndpdjnaa
