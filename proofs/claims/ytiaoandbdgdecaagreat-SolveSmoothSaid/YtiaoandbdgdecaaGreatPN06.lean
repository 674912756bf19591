/- Parts of a proof: contracts and laws. -/
import Derived.Test.YtiaoandbdgdecaaGreatPN00
import Derived.Test.YtiaoandbdgdecaaGreatPN01
import Derived.Deep.RegionHeld3
namespace Go.Proofs.YtiaoandbdgdecaaGreat
section
set_option linter.unusedVariables false
set_option linter.unusedSimpArgs false
open Go.RowKit


def edgeP (l : List V) (i : Nat) (p q : Int) : Int := sideZ (px l i) (py l i) (px l ((i + 1) % l.length)) (py l ((i + 1) % l.length)) p q
def hasTo (l : List V) (p q : Int) (k : Nat) : Prop := ∀ i, i < k → 0 ≤ edgeP l i p q
def hasB (l : List V) (p q : Int) : Bool := decide (checkE l = 0) && withinB 65536000 p q && (List.range l.length).all fun i => decide (0 ≤ edgeP l i p q)
theorem hasTo_zero (l : List V) (p q : Int) : hasTo l p q 0 := fun _ h => absurd h (by omega)
theorem hasTo_succ {l : List V} {p q : Int} {k : Nat} (h : hasTo l p q k) (hk : 0 ≤ edgeP l k p q) : hasTo l p q (k + 1) := fun i hi => by
 by_cases e : i = k
 ·subst e; exact hk
 ·exact h i (by omega)
theorem hasB_true {l : List V} {p q : Int} (h1 : checkE l = 0) (h2 : withinB 65536000 p q = true) (h3 : hasTo l p q l.length) : hasB l p q = true := by
 unfold hasB
 rw [h2, decide_eq_true h1]
 simp only [Bool.and_self, Bool.true_and, List.all_eq_true, List.mem_range, decide_eq_true_iff]
 exact h3
theorem hasB_false {l : List V} {p q : Int} {k : Nat} (hk : k < l.length) (h : edgeP l k p q < 0) : hasB l p q = false := by
 have : ((List.range l.length).all fun i => decide (0 ≤ edgeP l i p q)) = false := by
  rw [List.all_eq_false]
  exact ⟨k, List.mem_range.2 hk, by simp; omega⟩
 unfold hasB
 rw [this]
 simp
set_option maxRecDepth 100000 in
set_option maxHeartbeats 1000000 in
theorem has_calls (A : Option Addr) (n c : Nat) (l : List V) (p q : Int) (w : World) (hS : Sl w A n c l) :
  Calls Tryz.prog 137 #[.slice A n c, vecV p q] w (Ret (.bool (hasB l p q)) w) := by
 have hS1 : Sl (w.alloc (.cells #[.int .i64 p, .int .i64 q] 27)) A n c l := hS.below ((Below.refl _ _).alloc (Nat.le_refl _) _)
 by_cases hE : checkE l = 0
 ·cases hP : withinB 65536000 p q with
  | false =>
   have HS1 := hid hS1
   have HE := hid hE
   have HP := hid hP
   clear hS hS1 hE hP
   go_enter Tryz.func137, Tryz.ntmps137
   go_wp2_with (first | (go_at_call 121; refine (check_calls _ _ _ l _ HS1.out).mono ?_; rintro e w1 ⟨rfl, hb1⟩; rw [HE.out]; have k1 : w1.cell? ⟨w.heap.size, 0, none⟩ = some (.int .i64 p) := keepCell hb1 (by go_simp); have k2 : w1.cell? ⟨w.heap.size, 1, none⟩ = some (.int .i64 q) := keepCell hb1 (by go_simp)) | (go_at_call 162; refine (within_calls _ _ _).mono ?_; rintro e w2 ⟨rfl, hb2⟩; rw [HP.out]))
   go_returns
   exact ret_bool (by simp [hasB, HP.out]) ((((Below.refl w.heap.size w).alloc (Nat.le_refl _) _).trans (hb1.mono (by simp))).trans (hb2.mono (Nat.le_trans (by simp) hb1.size)))
  | true =>
   obtain ⟨h8, h3, hw, _⟩ := checkE_zero hE
   obtain ⟨b, off, rfl, hC⟩ := hS.at_ (by intro h; subst h; simp at h3)
   have hn := hS.len
   subst hn
   have hb2 := hC.lt
   have hcap := hS.cap
   have HS1 := hid hS1
   have HE := hid hE
   have HP := hid hP
   have HC := hid hC
   have HW := hid hw
   clear hS hS1 hE hP hC hw
   go_enter Tryz.func137, Tryz.ntmps137
   go_wp2_with (first | (go_at_call 121; refine (check_calls _ _ _ l _ HS1.out).mono ?_; rintro e w1 ⟨rfl, hb1⟩; rw [HE.out]; have k1 : w1.cell? ⟨w.heap.size, 0, none⟩ = some (.int .i64 p) := keepCell hb1 (by go_simp); have k2 : w1.cell? ⟨w.heap.size, 1, none⟩ = some (.int .i64 q) := keepCell hb1 (by go_simp)) | (go_at_call 162; refine (within_calls _ _ _).mono ?_; rintro e w2 ⟨rfl, hb2⟩; rw [HP.out]; have l1 := hid (And.intro (keepCell hb2 k1) (keepCell hb2 k2))))
   have hB0 : Below w.heap.size w w2 := (((Below.refl w.heap.size w).alloc (Nat.le_refl _) _).trans (hb1.mono (by simp))).trans (hb2.mono (Nat.le_trans (by simp) hb1.size))
   clear k1 k2
   go_loopw [17] (fun i wr => ∃ k : Nat, k ≤ l.length ∧ i = .int .i64 k ∧ hasTo l p q k ∧ Below w.heap.size w wr ∧ wr.cell? ⟨w.heap.size, 0, none⟩ = some (.int .i64 p) ∧ wr.cell? ⟨w.heap.size, 1, none⟩ = some (.int .i64 q)) (fun i _ => l.length - (intOf i).toNat)
   case atStart => exact ⟨0, Nat.zero_le _, rfl, hasTo_zero _ _ _, hB0, l1.out.1, l1.out.2⟩
   case round =>
    obtain ⟨k, hk, rfl, hno, hB, kp, kq⟩ := hrel
    obtain ⟨wo, rfl⟩ : ∃ wo : World, wo = wr := ⟨_, rfl⟩
    have HN := hid hno
    clear hno
    by_cases hlt : k < l.length
    ·have hj : (k + 1) % l.length < l.length := Nat.mod_lt _ (by omega)
     have hji : ((k : Int) + 1) % (l.length : Int) < (l.length : Int) := Int.emod_lt_of_pos _ (by omega)
     have hj0 : 0 ≤ ((k : Int) + 1) % (l.length : Int) := Int.emod_nonneg _ (by omega)
     have hj1 : (((k : Int) + 1) % (l.length : Int)).toNat = (k + 1) % l.length := by rw [show ((k : Int) + 1) % (l.length : Int) = (((k + 1) % l.length : Nat) : Int) by simp]; omega
     have e1 : IntKind.i64.wrap ((k : Int) + 1) = (k : Int) + 1 := IntWalk.i64_in _ (by omega)
     have e2 : 0 ≤ (k : Int) + 1 := by omega
     have e3 : Int.tmod ((k : Int) + 1) (l.length : Int) = ((k : Int) + 1) % (l.length : Int) := Int.tmod_eq_emod_of_nonneg (by omega)
     have e4 : ((l.length : Int) == 0) = false := by simp; intro h; subst h; simp at hlt
     have e5 : ¬ l = [] := by intro h; subst h; simp at hlt
     have e6 : l.length ≠ 0 := by omega
     have e7 : ¬ ((l.length : Int) = 0) := by omega
     have hp0 := lt_of_cell kp
     have hCo := HC.out.below hB
     have hx := hCo.x k hlt
     have hy := hCo.y k hlt
     have hbo := hCo.lt
     have hCa := hCo.below ((Below.refl _ _).alloc (Nat.le_refl _) (.cells #[.int .i64 (px l k), .int .i64 (py l k)] 27))
     have s1 : (wo.alloc (.cells #[.int .i64 (px l k), .int .i64 (py l k)] 27)).drew.cell? ⟨wo.heap.size, 0, none⟩ = some (.int .i64 (px l k)) ∧ (wo.alloc (.cells #[.int .i64 (px l k), .int .i64 (py l k)] 27)).drew.cell? ⟨wo.heap.size, 1, none⟩ = some (.int .i64 (py l k)) ∧ (wo.alloc (.cells #[.int .i64 (px l k), .int .i64 (py l k)] 27)).drew.cell? ⟨b, off + ((k + 1) % l.length) * 2, none⟩ = some (.int .i64 (px l ((k + 1) % l.length))) ∧ (wo.alloc (.cells #[.int .i64 (px l k), .int .i64 (py l k)] 27)).drew.cell? ⟨b, off + ((k + 1) % l.length) * 2 + 1, none⟩ = some (.int .i64 (py l ((k + 1) % l.length))) ∧ (wo.alloc (.cells #[.int .i64 (px l k), .int .i64 (py l k)] 27)).drew.cell? ⟨w.heap.size, 0, none⟩ = some (.int .i64 p) ∧ (wo.alloc (.cells #[.int .i64 (px l k), .int .i64 (py l k)] 27)).drew.cell? ⟨w.heap.size, 1, none⟩ = some (.int .i64 q) ∧ Below w.heap.size w (wo.alloc (.cells #[.int .i64 (px l k), .int .i64 (py l k)] 27)).drew := ⟨by go_simp, by go_simp, hCa.x ((k + 1) % l.length) hj, hCa.y ((k + 1) % l.length) hj, by go_simp, by go_simp, ((hB.alloc hB.size _)).drew⟩
     have S1 := hid s1
     clear s1
     clear hCo hCa
     go_wp2
     go_region_held3 (fun w' => w'.cell? ⟨wo.heap.size, 0, none⟩ = some (.int .i64 (px l k)) ∧ w'.cell? ⟨wo.heap.size, 1, none⟩ = some (.int .i64 (py l k)) ∧ w'.cell? ⟨b, off + ((k + 1) % l.length) * 2, none⟩ = some (.int .i64 (px l ((k + 1) % l.length))) ∧ w'.cell? ⟨b, off + ((k + 1) % l.length) * 2 + 1, none⟩ = some (.int .i64 (py l ((k + 1) % l.length))) ∧ w'.cell? ⟨w.heap.size, 0, none⟩ = some (.int .i64 p) ∧ w'.cell? ⟨w.heap.size, 1, none⟩ = some (.int .i64 q) ∧ Below w.heap.size w w')
      (first | with_reducible exact S1.out | (go_split_ands; with_reducible exact ⟨keepCell hb3 (by assumption), keepCell hb3 (by assumption), keepCell hb3 (by assumption), keepCell hb3 (by assumption), keepCell hb3 (by assumption), keepCell hb3 (by assumption), keepBelow hb3 (by assumption)⟩))
      (first | (go_at_call 163; refine (side_calls _ _ _ _ _ _ (allWithin_at HW.out hlt) (allWithin_at HW.out hj) HP.out _).mono ?_; rintro e w3 ⟨rfl, hb3⟩))
     go_wp2
     all_goals go_split_ands
     ·go_returns
      exact ret_bool (hasB_false hlt (by show sideZ _ _ _ _ _ _ < 0; assumption)).symm (by assumption)
     ·go_roundw
      case rel => exact ⟨k + 1, hlt, by go_num, hasTo_succ HN.out (by show 0 ≤ sideZ _ _ _ _ _ _; assumption), by assumption, by assumption, by assumption⟩
      case measure => simp [intOf]; omega
    ·have hge : l.length ≤ k := by omega
     clear kp kq
     go_wp2
     go_returns
     exact ret_bool (hasB_true HE.out HP.out (by have := HN.out; rwa [show k = l.length by omega] at this)).symm hB
 ·have HS1 := hid hS1
  have HE := hid hE
  have hne : (checkE l != 0) = true := by simp [hE]
  clear hS hS1 hE
  go_enter Tryz.func137, Tryz.ntmps137
  go_wp2_with (go_at_call 121; refine (check_calls _ _ _ l _ HS1.out).mono ?_; rintro e w1 ⟨rfl, hb1⟩)
  go_returns
  exact ret_bool (by have := HE.out; simp [hasB, this]) (((Below.refl w.heap.size w).alloc (Nat.le_refl _) _).trans (hb1.mono (by simp)))
theorem wcmp_z (a b : Int) (h1 : -170141183460469231731687303715884105728 ≤ a) (h2 : a < 170141183460469231731687303715884105728) (h3 : -170141183460469231731687303715884105728 ≤ b) (h4 : b < 170141183460469231731687303715884105728) (w : World) :
  Calls Tryz.prog 123 #[wideV a, wideV b] w (Ret (.int .i64 (cmpZ a b)) w) := wcmp_calls a b h1 h2 h3 h4 w
theorem cmpZ_pos {a b : Int} : 0 < cmpZ a b ↔ b < a := by unfold cmpZ; split <;> (try split) <;> omega
theorem cmpZ_nonpos {a b : Int} : cmpZ a b ≤ 0 ↔ a ≤ b := by unfold cmpZ; split <;> (try split) <;> omega
def i64 (a : Int) : Prop := -9223372036854775808 ≤ a ∧ a ≤ 9223372036854775807
def dotL (l : List V) (u v : Int) (j : Nat) : Int := px l j * u + py l j * v

def supTo (l : List V) (u v : Int) : Nat → Nat
 | 0 => 0
 | k + 1 => if dotL l u v (supTo l u v k) < dotL l u v k then k else supTo l u v k
theorem supTo_lt (l : List V) (u v : Int) (k : Nat) (h : k ≤ l.length) (h0 : 0 < l.length) : supTo l u v k < l.length := by
 induction k with
 | zero => exact h0
 | succ k ih =>
  have := ih (by omega)
  simp only [supTo]
  split <;> omega
def suppZ (l : List V) (u v : Int) : Int := if checkE l = 0 then (supTo l u v l.length : Int) else -1
theorem dotL_bd {l : List V} (hw : allWithin 65536000 l = true) {u v : Int} (hu : i64 u) (hv : i64 v) {j : Nat} (hj : j < l.length) :
  -170141183460469231731687303715884105728 ≤ dotL l u v j ∧ dotL l u v j < 170141183460469231731687303715884105728 := by
 obtain ⟨_, _, _, _⟩ := withinB_iff.1 (allWithin_at hw hj)
 have m1 := mul_bd (x := px l j) (y := u) (M := 65536000) (N := 9223372036854775808) (by omega) (by omega) (by unfold i64 at *; omega) (by unfold i64 at *; omega)
 have m2 := mul_bd (x := py l j) (y := v) (M := 65536000) (N := 9223372036854775808) (by omega) (by omega) (by unfold i64 at *; omega) (by unfold i64 at *; omega)
 unfold dotL
 omega
theorem within_i64 {l : List V} (hw : allWithin 65536000 l = true) {j : Nat} (hj : j < l.length) : i64 (px l j) ∧ i64 (py l j) := by
 obtain ⟨_, _, _, _⟩ := withinB_iff.1 (allWithin_at hw hj)
 unfold i64
 omega
theorem pdot_l {l : List V} (hw : allWithin 65536000 l = true) {u v : Int} (hu : i64 u) (hv : i64 v) {j : Nat} (hj : j < l.length) (w : World) :
  Calls Tryz.prog 122 #[vecV (px l j) (py l j), vecV u v] w (Ret (wideV (dotL l u v j)) w) := pdot_calls _ _ _ _ (within_i64 hw hj).1 (within_i64 hw hj).2 hu hv w
set_option maxRecDepth 100000 in
set_option maxHeartbeats 1000000 in
theorem support_calls (A : Option Addr) (n c : Nat) (l : List V) (u v : Int) (hu : i64 u) (hv : i64 v) (w : World) (hS : Sl w A n c l) :
  Calls Tryz.prog 71 #[.slice A n c, vecV u v] w (Ret (.int .i64 (suppZ l u v)) w) := by
 have hS1 : Sl (w.alloc (.cells #[.int .i64 u, .int .i64 v] 27)) A n c l := hS.below ((Below.refl _ _).alloc (Nat.le_refl _) _)
 have HU := hid hu
 have HV := hid hv
 clear hu hv
 by_cases hE : checkE l = 0
 ·obtain ⟨h8, h3, hw, _⟩ := checkE_zero hE
  obtain ⟨b, off, rfl, hC⟩ := hS.at_ (by intro h; subst h; simp at h3)
  have hn := hS.len
  subst hn
  have hb2 := hC.lt
  have hcap := hS.cap
  have HS1 := hid hS1
  have HE := hid hE
  have HC := hid hC
  have HW := hid hw
  clear hS hS1 hE hC hw
  go_enter Tryz.func71, Tryz.ntmps71
  go_wp2_with (go_at_call 121; refine (check_calls _ _ _ l _ HS1.out).mono ?_; rintro e w1 ⟨rfl, hb1⟩; rw [HE.out]; have l1 := hid (And.intro (show w1.cell? ⟨w.heap.size, 0, none⟩ = some (.int .i64 u) from keepCell hb1 (by go_simp)) (show w1.cell? ⟨w.heap.size, 1, none⟩ = some (.int .i64 v) from keepCell hb1 (by go_simp))))
  have hB0 : Below w.heap.size w w1 := ((Below.refl w.heap.size w).alloc (Nat.le_refl _) _).trans (hb1.mono (by simp))
  go_loopw [5, 13] (fun s i wr => ∃ k : Nat, k ≤ l.length ∧ i = .int .i64 k ∧ s = .int .i64 (supTo l u v k) ∧ Below w.heap.size w wr ∧ wr.cell? ⟨w.heap.size, 0, none⟩ = some (.int .i64 u) ∧ wr.cell? ⟨w.heap.size, 1, none⟩ = some (.int .i64 v)) (fun _ i _ => l.length - (intOf i).toNat)
  case atStart => exact ⟨0, Nat.zero_le _, rfl, rfl, hB0, l1.out.1, l1.out.2⟩
  case round =>
   obtain ⟨k, hk, rfl, rfl, hB, kp, kq⟩ := hrel
   obtain ⟨wo, rfl⟩ : ∃ wo : World, wo = wr := ⟨_, rfl⟩
   have hs := supTo_lt l u v k hk (by omega)
   have hst := hid (show supTo l u v (k + 1) = if dotL l u v (supTo l u v k) < dotL l u v k then k else supTo l u v k from rfl)
   obtain ⟨s, hsd⟩ : ∃ s, s = supTo l u v k := ⟨_, rfl⟩
   rw [← hsd] at hs
   have HST : Hid (supTo l u v (k + 1) = if dotL l u v s < dotL l u v k then k else s) := by rw [hsd]; exact hst.out
   rw [← hsd]
   have HSD := hid hsd
   clear hst hsd
   by_cases hlt : k < l.length
   ·have hsi : (s : Int) < (l.length : Int) := by omega
    have hp0 := lt_of_cell kp
    have hCo := HC.out.below hB
    have hx := hCo.x k hlt
    have hy := hCo.y k hlt
    have hbo := hCo.lt
    have hCa := hCo.below ((Below.refl _ _).alloc (Nat.le_refl _) (.cells #[.int .i64 (px l k), .int .i64 (py l k)] 27))
    have b1 := hid (dotL_bd HW.out HU.out HV.out hlt)
    have b2 := hid (dotL_bd HW.out HU.out HV.out hs)
    have s1 : (wo.alloc (.cells #[.int .i64 (px l k), .int .i64 (py l k)] 27)).drew.cell? ⟨wo.heap.size, 0, none⟩ = some (.int .i64 (px l k)) ∧ (wo.alloc (.cells #[.int .i64 (px l k), .int .i64 (py l k)] 27)).drew.cell? ⟨wo.heap.size, 1, none⟩ = some (.int .i64 (py l k)) ∧ (wo.alloc (.cells #[.int .i64 (px l k), .int .i64 (py l k)] 27)).drew.cell? ⟨b, off + s * 2, none⟩ = some (.int .i64 (px l s)) ∧ (wo.alloc (.cells #[.int .i64 (px l k), .int .i64 (py l k)] 27)).drew.cell? ⟨b, off + s * 2 + 1, none⟩ = some (.int .i64 (py l s)) ∧ (wo.alloc (.cells #[.int .i64 (px l k), .int .i64 (py l k)] 27)).drew.cell? ⟨w.heap.size, 0, none⟩ = some (.int .i64 u) ∧ (wo.alloc (.cells #[.int .i64 (px l k), .int .i64 (py l k)] 27)).drew.cell? ⟨w.heap.size, 1, none⟩ = some (.int .i64 v) ∧ Below w.heap.size w (wo.alloc (.cells #[.int .i64 (px l k), .int .i64 (py l k)] 27)).drew := ⟨by go_simp, by go_simp, hCa.x s hs, hCa.y s hs, by go_simp, by go_simp, ((hB.alloc hB.size _)).drew⟩
    have S1 := hid s1
    clear s1
    clear hCo hCa
    go_wp2
    go_region_held3 (fun w' => w'.cell? ⟨wo.heap.size, 0, none⟩ = some (.int .i64 (px l k)) ∧ w'.cell? ⟨wo.heap.size, 1, none⟩ = some (.int .i64 (py l k)) ∧ w'.cell? ⟨b, off + s * 2, none⟩ = some (.int .i64 (px l s)) ∧ w'.cell? ⟨b, off + s * 2 + 1, none⟩ = some (.int .i64 (py l s)) ∧ w'.cell? ⟨w.heap.size, 0, none⟩ = some (.int .i64 u) ∧ w'.cell? ⟨w.heap.size, 1, none⟩ = some (.int .i64 v) ∧ Below w.heap.size w w')
     (first | with_reducible exact S1.out | (go_split_ands; with_reducible exact ⟨keepCell hb3 (by assumption), keepCell hb3 (by assumption), keepCell hb3 (by assumption), keepCell hb3 (by assumption), keepCell hb3 (by assumption), keepCell hb3 (by assumption), keepBelow hb3 (by assumption)⟩))
     (first | (go_at_call 122; (first | (with_reducible refine (pdot_l HW.out HU.out HV.out hlt _).mono ?_) | (with_reducible refine (pdot_l HW.out HU.out HV.out hs _).mono ?_)); rintro e w3 ⟨rfl, hb3⟩) | (go_at_call 123; refine (wcmp_z _ _ b1.out.1 b1.out.2 b2.out.1 b2.out.2 _).mono ?_; rintro e w3 ⟨rfl, hb3⟩))
    go_wp2
    all_goals go_split_ands
    ·go_roundw
     case rel => exact ⟨k + 1, hlt, by go_num, by rw [HST.out, if_pos (cmpZ_pos.1 (by assumption))], by assumption, by assumption, by assumption⟩
     case measure => simp [intOf]; omega
    ·go_roundw
     case rel => exact ⟨k + 1, hlt, by go_num, by rw [HST.out, if_neg (by have := cmpZ_nonpos.1 (show cmpZ _ _ ≤ 0 by assumption); omega)], by assumption, by assumption, by assumption⟩
     case measure => simp [intOf]; omega
   ·have hge : l.length ≤ k := by omega
    clear kp kq
    go_wp2
    go_returns
    exact ret_int (by rw [suppZ, if_pos HE.out, HSD.out, show l.length = k by omega]) hB
 ·have HS1 := hid hS1
  have HE := hid hE
  have hne : (checkE l != 0) = true := by simp [hE]
  clear hS hS1 hE
  go_enter Tryz.func71, Tryz.ntmps71
  go_wp2_with (go_at_call 121; refine (check_calls _ _ _ l _ HS1.out).mono ?_; rintro e w1 ⟨rfl, hb1⟩)
  go_returns
  exact ret_int (by rw [suppZ, if_neg HE.out]) (((Below.refl w.heap.size w).alloc (Nat.le_refl _) _).trans (hb1.mono (by simp)))


set_option maxRecDepth 100000 in
set_option maxHeartbeats 1000000 in



set_option maxRecDepth 100000 in
set_option maxHeartbeats 4000000 in


set_option maxRecDepth 100000 in
set_option maxHeartbeats 2000000 in

theorem Sl.of4 {w : World} {g c : Nat} (a b p q r s u v : Int) (h0 : w.cell? ⟨g, 0, none⟩ = some (.int .i64 a)) (h1 : w.cell? ⟨g, 1, none⟩ = some (.int .i64 b)) (h2 : w.cell? ⟨g, 2, none⟩ = some (.int .i64 p)) (h3 : w.cell? ⟨g, 3, none⟩ = some (.int .i64 q))
  (h4 : w.cell? ⟨g, 4, none⟩ = some (.int .i64 r)) (h5 : w.cell? ⟨g, 5, none⟩ = some (.int .i64 s)) (h6 : w.cell? ⟨g, 6, none⟩ = some (.int .i64 u)) (h7 : w.cell? ⟨g, 7, none⟩ = some (.int .i64 v)) (hc : 4 ≤ c) (hc2 : c ≤ 9223372036854775807) : Sl w (some ⟨g, 0, none⟩) 4 c [(a, b), (p, q), (r, s), (u, v)] := by
 refine ⟨rfl, hc, hc2, fun _ => ⟨g, 0, rfl, lt_of_cell h0, fun j hj => ?_, fun j hj => ?_⟩⟩
 ·match j, hj with
  | 0, _ => exact h0
  | 1, _ => exact h2
  | 2, _ => exact h4
  | 3, _ => exact h6
 ·match j, hj with
  | 0, _ => exact h1
  | 1, _ => exact h3
  | 2, _ => exact h5
  | 3, _ => exact h7
end
end Go.Proofs.YtiaoandbdgdecaaGreat
