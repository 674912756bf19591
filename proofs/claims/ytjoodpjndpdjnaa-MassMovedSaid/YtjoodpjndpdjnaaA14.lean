/- The contract of poly.Support. -/
import Derived.Test.YtjoodpjndpdjnaaA13
import Derived.Test.YtjoodpjndpdjnaaB2
namespace Go.Proofs.Ytjoodpjndpdjnaa
set_option linter.unusedVariables false
set_option linter.unusedSimpArgs false
open Go.RowKit

theorem wcmp_z (a b : Int) (h1 : -170141183460469231731687303715884105728 ≤ a) (h2 : a < 170141183460469231731687303715884105728) (h3 : -170141183460469231731687303715884105728 ≤ b) (h4 : b < 170141183460469231731687303715884105728) (w : World) :
    Calls Try.prog 29 #[wideV a, wideV b] w (Ret (.int .i64 (cmpZ a b)) w) := wcmp_calls a b h1 h2 h3 h4 w
theorem cmpZ_pos {a b : Int} : 0 < cmpZ a b ↔ b < a := by unfold cmpZ; split <;> (try split) <;> omega
theorem cmpZ_neg {a b : Int} : cmpZ a b < 0 ↔ a < b := by unfold cmpZ; split <;> (try split) <;> omega
theorem cmpZ_zero {a b : Int} : cmpZ a b = 0 ↔ a = b := by unfold cmpZ; split <;> (try split) <;> omega
theorem cmpZ_nonneg {a b : Int} : 0 ≤ cmpZ a b ↔ b ≤ a := by unfold cmpZ; split <;> (try split) <;> omega
theorem cmpZ_nonpos {a b : Int} : cmpZ a b ≤ 0 ↔ a ≤ b := by unfold cmpZ; split <;> (try split) <;> omega

def i64 (a : Int) : Prop := -9223372036854775808 ≤ a ∧ a ≤ 9223372036854775807
def dotL (l : List V) (u v : Int) (j : Nat) : Int := px l j * u + py l j * v
/-- the first of the farthest corners below k -/
def supTo (l : List V) (u v : Int) : Nat → Nat
  | 0 => 0
  | k + 1 => if dotL l u v (supTo l u v k) < dotL l u v k then k else supTo l u v k
theorem supTo_lt (l : List V) (u v : Int) (k : Nat) (h : k ≤ l.length) (h0 : 0 < l.length) : supTo l u v k < l.length := by
  induction k with
  | zero => exact h0
  | succ k ih =>
    have := ih (by omega)
    simp only [supTo]
    split <;> omega
def suppZ (l : List V) (u v : Int) : Int := if checkE l = 0 then (supTo l u v l.length : Int) else -1
theorem dotL_bd {l : List V} (hw : allWithin 65536000 l = true) {u v : Int} (hu : i64 u) (hv : i64 v) {j : Nat} (hj : j < l.length) :
    -170141183460469231731687303715884105728 ≤ dotL l u v j ∧ dotL l u v j < 170141183460469231731687303715884105728 := by
  obtain ⟨_, _, _, _⟩ := withinB_iff.1 (allWithin_at hw hj)
  have m1 := mul_bd (x := px l j) (y := u) (M := 65536000) (N := 9223372036854775808) (by omega) (by omega) (by unfold i64 at *; omega) (by unfold i64 at *; omega)
  have m2 := mul_bd (x := py l j) (y := v) (M := 65536000) (N := 9223372036854775808) (by omega) (by omega) (by unfold i64 at *; omega) (by unfold i64 at *; omega)
  unfold dotL
  omega
theorem within_i64 {l : List V} (hw : allWithin 65536000 l = true) {j : Nat} (hj : j < l.length) : i64 (px l j) ∧ i64 (py l j) := by
  obtain ⟨_, _, _, _⟩ := withinB_iff.1 (allWithin_at hw hj)
  unfold i64
  omega
theorem pdot_l {l : List V} (hw : allWithin 65536000 l = true) {u v : Int} (hu : i64 u) (hv : i64 v) {j : Nat} (hj : j < l.length) (w : World) :
    Calls Try.prog 28 #[vecV (px l j) (py l j), vecV u v] w (Ret (wideV (dotL l u v j)) w) := pdot_calls _ _ _ _ (within_i64 hw hj).1 (within_i64 hw hj).2 hu hv w

set_option maxRecDepth 100000 in
set_option maxHeartbeats 1000000 in
theorem support_calls (A : Option Addr) (n c : Nat) (l : List V) (u v : Int) (hu : i64 u) (hv : i64 v) (w : World) (hS : Sl w A n c l) :
    Calls Try.prog 20 #[.slice A n c, vecV u v] w (Ret (.int .i64 (suppZ l u v)) w) := by
  have hS1 : Sl (w.alloc (.cells #[.int .i64 u, .int .i64 v] 24)) A n c l := hS.below ((Below.refl _ _).alloc (Nat.le_refl _) _)
  have HU := hid hu
  have HV := hid hv
  clear hu hv
  by_cases hE : checkE l = 0
  · obtain ⟨h8, h3, hw, _⟩ := checkE_zero hE
    obtain ⟨b, off, rfl, hC⟩ := hS.at_ (by intro h; subst h; simp at h3)
    have hn := hS.len
    subst hn
    have hb2 := hC.lt
    have hcap := hS.cap
    have HS1 := hid hS1
    have HE := hid hE
    have HC := hid hC
    have HW := hid hw
    clear hS hS1 hE hC hw
    go_enter Try.func20, Try.ntmps20
    go_wp2_with (go_at_call 18; refine (check_calls _ _ _ l _ HS1.out).mono ?_; rintro e w1 ⟨rfl, hb1⟩; rw [HE.out]; have l1 := hid (And.intro (show w1.cell? ⟨w.heap.size, 0, none⟩ = some (.int .i64 u) from keepCell hb1 (by go_simp)) (show w1.cell? ⟨w.heap.size, 1, none⟩ = some (.int .i64 v) from keepCell hb1 (by go_simp))))
    have hB0 : Below w.heap.size w w1 := ((Below.refl w.heap.size w).alloc (Nat.le_refl _) _).trans (hb1.mono (by simp))
    go_loopw [5, 13] (fun s i wr => ∃ k : Nat, k ≤ l.length ∧ i = .int .i64 k ∧ s = .int .i64 (supTo l u v k) ∧ Below w.heap.size w wr ∧ wr.cell? ⟨w.heap.size, 0, none⟩ = some (.int .i64 u) ∧ wr.cell? ⟨w.heap.size, 1, none⟩ = some (.int .i64 v)) (fun _ i _ => l.length - (intOf i).toNat)
    case atStart => exact ⟨0, Nat.zero_le _, rfl, rfl, hB0, l1.out.1, l1.out.2⟩
    case round =>
      obtain ⟨k, hk, rfl, rfl, hB, kp, kq⟩ := hrel
      obtain ⟨wo, rfl⟩ : ∃ wo : World, wo = wr := ⟨_, rfl⟩
      have hs := supTo_lt l u v k hk (by omega)
      have hst := hid (show supTo l u v (k + 1) = if dotL l u v (supTo l u v k) < dotL l u v k then k else supTo l u v k from rfl)
      obtain ⟨s, hsd⟩ : ∃ s, s = supTo l u v k := ⟨_, rfl⟩
      rw [← hsd] at hs
      have HST : Hid (supTo l u v (k + 1) = if dotL l u v s < dotL l u v k then k else s) := by rw [hsd]; exact hst.out
      rw [← hsd]
      have HSD := hid hsd
      clear hst hsd
      by_cases hlt : k < l.length
      · have hsi : (s : Int) < (l.length : Int) := by omega
        have hp0 := lt_of_cell kp
        have hCo := HC.out.below hB
        have hx := hCo.x k hlt
        have hy := hCo.y k hlt
        have hbo := hCo.lt
        have hCa := hCo.below ((Below.refl _ _).alloc (Nat.le_refl _) (.cells #[.int .i64 (px l k), .int .i64 (py l k)] 24))
        have b1 := hid (dotL_bd HW.out HU.out HV.out hlt)
        have b2 := hid (dotL_bd HW.out HU.out HV.out hs)
        have s1 : (wo.alloc (.cells #[.int .i64 (px l k), .int .i64 (py l k)] 24)).drew.cell? ⟨wo.heap.size, 0, none⟩ = some (.int .i64 (px l k)) ∧ (wo.alloc (.cells #[.int .i64 (px l k), .int .i64 (py l k)] 24)).drew.cell? ⟨wo.heap.size, 1, none⟩ = some (.int .i64 (py l k)) ∧ (wo.alloc (.cells #[.int .i64 (px l k), .int .i64 (py l k)] 24)).drew.cell? ⟨b, off + s * 2, none⟩ = some (.int .i64 (px l s)) ∧ (wo.alloc (.cells #[.int .i64 (px l k), .int .i64 (py l k)] 24)).drew.cell? ⟨b, off + s * 2 + 1, none⟩ = some (.int .i64 (py l s)) ∧ (wo.alloc (.cells #[.int .i64 (px l k), .int .i64 (py l k)] 24)).drew.cell? ⟨w.heap.size, 0, none⟩ = some (.int .i64 u) ∧ (wo.alloc (.cells #[.int .i64 (px l k), .int .i64 (py l k)] 24)).drew.cell? ⟨w.heap.size, 1, none⟩ = some (.int .i64 v) ∧ Below w.heap.size w (wo.alloc (.cells #[.int .i64 (px l k), .int .i64 (py l k)] 24)).drew := ⟨by go_simp, by go_simp, hCa.x s hs, hCa.y s hs, by go_simp, by go_simp, ((hB.alloc hB.size _)).drew⟩
        have S1 := hid s1
        clear s1
        clear hCo hCa
        go_wp2
        go_region_held3 (fun w' => w'.cell? ⟨wo.heap.size, 0, none⟩ = some (.int .i64 (px l k)) ∧ w'.cell? ⟨wo.heap.size, 1, none⟩ = some (.int .i64 (py l k)) ∧ w'.cell? ⟨b, off + s * 2, none⟩ = some (.int .i64 (px l s)) ∧ w'.cell? ⟨b, off + s * 2 + 1, none⟩ = some (.int .i64 (py l s)) ∧ w'.cell? ⟨w.heap.size, 0, none⟩ = some (.int .i64 u) ∧ w'.cell? ⟨w.heap.size, 1, none⟩ = some (.int .i64 v) ∧ Below w.heap.size w w')
          (first | with_reducible exact S1.out | (go_split_ands; with_reducible exact ⟨keepCell hb3 (by assumption), keepCell hb3 (by assumption), keepCell hb3 (by assumption), keepCell hb3 (by assumption), keepCell hb3 (by assumption), keepCell hb3 (by assumption), keepBelow hb3 (by assumption)⟩))
          (first | (go_at_call 28; (first | (with_reducible refine (pdot_l HW.out HU.out HV.out hlt _).mono ?_) | (with_reducible refine (pdot_l HW.out HU.out HV.out hs _).mono ?_)); rintro e w3 ⟨rfl, hb3⟩) | (go_at_call 29; refine (wcmp_z _ _ b1.out.1 b1.out.2 b2.out.1 b2.out.2 _).mono ?_; rintro e w3 ⟨rfl, hb3⟩))
        go_wp2
        all_goals go_split_ands
        · go_roundw
          case rel => exact ⟨k + 1, hlt, by go_num, by rw [HST.out, if_pos (cmpZ_pos.1 (by assumption))], by assumption, by assumption, by assumption⟩
          case measure => simp [intOf]; omega
        · go_roundw
          case rel => exact ⟨k + 1, hlt, by go_num, by rw [HST.out, if_neg (by have := cmpZ_nonpos.1 (show cmpZ _ _ ≤ 0 by assumption); omega)], by assumption, by assumption, by assumption⟩
          case measure => simp [intOf]; omega
      · have hge : l.length ≤ k := by omega
        clear kp kq
        go_wp2
        go_returns
        exact ret_int (by rw [suppZ, if_pos HE.out, HSD.out, show l.length = k by omega]) hB
  · have HS1 := hid hS1
    have HE := hid hE
    have hne : (checkE l != 0) = true := by simp [hE]
    clear hS hS1 hE
    go_enter Try.func20, Try.ntmps20
    go_wp2_with (go_at_call 18; refine (check_calls _ _ _ l _ HS1.out).mono ?_; rintro e w1 ⟨rfl, hb1⟩)
    go_returns
    exact ret_int (by rw [suppZ, if_neg HE.out]) (((Below.refl w.heap.size w).alloc (Nat.le_refl _) _).trans (hb1.mono (by simp)))

end Go.Proofs.Ytjoodpjndpdjnaa
