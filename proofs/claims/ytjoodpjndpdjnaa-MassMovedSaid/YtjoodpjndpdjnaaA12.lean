/- The contract of poly.Area. -/
import Derived.Test.YtjoodpjndpdjnaaA3
import Derived.Test.YtjoodpjndpdjnaaA10
namespace Go.Proofs.Ytjoodpjndpdjnaa
set_option linter.unusedVariables false
set_option linter.unusedSimpArgs false
open Go.RowKit

/-- the fan of the first triangles -/
def areaTo (l : List V) : Nat → Int
  | 0 => 0
  | k + 1 => areaTo l k + sideL l 0 (k + 1) (k + 2)
def areaZ (l : List V) : Int := areaTo l (l.length - 2)
theorem sideL_bd {l : List V} (hw : allWithin 65536000 l = true) {i j k : Nat} (hi : i < l.length) (hj : j < l.length) (hk : k < l.length) : -34359738368000000 ≤ sideL l i j k ∧ sideL l i j k ≤ 34359738368000000 :=
  (sideZ_wrap (allWithin_at hw hi) (allWithin_at hw hj) (allWithin_at hw hk)).2
theorem areaTo_bd {l : List V} (hw : allWithin 65536000 l = true) (k : Nat) (hk : k + 2 ≤ l.length) : -34359738368000000 * k ≤ areaTo l k ∧ areaTo l k ≤ 34359738368000000 * k := by
  induction k with
  | zero => simp [areaTo]
  | succ k ih =>
    have h1 := ih (by omega)
    have h2 := sideL_bd hw (i := 0) (j := k + 1) (k := k + 2) (by omega) (by omega) (by omega)
    simp only [areaTo]
    omega

set_option maxRecDepth 100000 in
set_option maxHeartbeats 1000000 in
theorem area_calls (A : Option Addr) (n c : Nat) (l : List V) (w : World) (hS : Sl w A n c l) :
    Calls Try.prog 17 #[.slice A n c] w (Ret (.tuple #[.int .i64 (if checkE l = 0 then areaZ l else 0), .int .i64 (checkE l)]) w) := by
  by_cases hE : checkE l = 0
  · obtain ⟨h8, h3, hw, _⟩ := checkE_zero hE
    obtain ⟨b, off, rfl, hC⟩ := hS.at_ (by intro h; subst h; simp at h3)
    have hn := hS.len
    subst hn
    have hb2 := hC.lt
    have hcap := hS.cap
    have HE := hid hE
    have HC := hid hC
    have HW := hid hw
    clear hE hC hw
    rw [HE.out]
    go_enter Try.func17, Try.ntmps17
    go_wp2_with (go_at_call 18; refine (check_calls _ _ _ l _ hS).mono ?_; rintro e w1 ⟨rfl, hb1⟩; rw [HE.out])
    go_loopw [5, 6] (fun s i wr => ∃ m : Nat, 2 ≤ m ∧ m ≤ l.length ∧ i = .int .i64 m ∧ s = .int .i64 (areaTo l (m - 2)) ∧ Below w.heap.size w wr) (fun _ i _ => l.length - (intOf i).toNat)
    case atStart => exact ⟨2, by omega, by omega, rfl, rfl, hb1⟩
    case round =>
      obtain ⟨m, hm2, hm, rfl, rfl, hB⟩ := hrel
      have hbd := areaTo_bd HW.out (m - 2) (by omega)
      by_cases hlt : m < l.length
      · have hsd := sideL_bd HW.out (i := 0) (j := m - 1) (k := m) (by omega) (by omega) hlt
        have e1 : IntKind.i64.wrap ((m : Int) - 1) = (m : Int) - 1 := IntWalk.i64_in _ (by omega)
        have e2 : 0 ≤ (m : Int) - 1 := by omega
        have e3 : (m : Int) - 1 < (l.length : Int) := by omega
        have e4 : ((m : Int) - 1).toNat = m - 1 := by omega
        have e5 : (0 : Int) < (l.length : Int) := by omega
        have e8 : 0 < l.length := by omega
        have e9 : 1 ≤ (m : Int) := by omega
        have e6 : (m : Int) < (l.length : Int) := by omega
        have e7 : IntKind.i64.wrap (areaTo l (m - 2) + sideL l 0 (m - 1) m) = areaTo l (m - 2) + sideL l 0 (m - 1) m := IntWalk.i64_in _ (by omega)
        have hCr := HC.out.below hB
        have s1 : wr.drew.cell? ⟨b, off, none⟩ = some (.int .i64 (px l 0)) ∧ wr.drew.cell? ⟨b, off + 1, none⟩ = some (.int .i64 (py l 0)) ∧ wr.drew.cell? ⟨b, off + (m - 1) * 2, none⟩ = some (.int .i64 (px l (m - 1))) ∧ wr.drew.cell? ⟨b, off + (m - 1) * 2 + 1, none⟩ = some (.int .i64 (py l (m - 1))) ∧ wr.drew.cell? ⟨b, off + m * 2, none⟩ = some (.int .i64 (px l m)) ∧ wr.drew.cell? ⟨b, off + m * 2 + 1, none⟩ = some (.int .i64 (py l m)) ∧ Below w.heap.size w wr.drew := ⟨by simpa using hCr.x 0 (by omega), by simpa using hCr.y 0 (by omega), hCr.x (m - 1) (by omega), hCr.y (m - 1) (by omega), hCr.x m hlt, hCr.y m hlt, hB.drew⟩
        have S1 := hid s1
        clear s1
        clear hCr
        go_wp2
        go_region_held3 (fun w' => w'.cell? ⟨b, off, none⟩ = some (.int .i64 (px l 0)) ∧ w'.cell? ⟨b, off + 1, none⟩ = some (.int .i64 (py l 0)) ∧ w'.cell? ⟨b, off + (m - 1) * 2, none⟩ = some (.int .i64 (px l (m - 1))) ∧ w'.cell? ⟨b, off + (m - 1) * 2 + 1, none⟩ = some (.int .i64 (py l (m - 1))) ∧ w'.cell? ⟨b, off + m * 2, none⟩ = some (.int .i64 (px l m)) ∧ w'.cell? ⟨b, off + m * 2 + 1, none⟩ = some (.int .i64 (py l m)) ∧ Below w.heap.size w w')
          (first | with_reducible exact S1.out | (go_split_ands; with_reducible exact ⟨keepCell hb1 (by assumption), keepCell hb1 (by assumption), keepCell hb1 (by assumption), keepCell hb1 (by assumption), keepCell hb1 (by assumption), keepCell hb1 (by assumption), keepBelow hb1 (by assumption)⟩))
          (first | (go_at_call 72; refine (side_calls _ _ _ _ _ _ (allWithin_at HW.out (by omega)) (allWithin_at HW.out (by omega)) (allWithin_at HW.out (by omega)) _).mono ?_; rintro e w1 ⟨rfl, hb1⟩; rw [show sideZ (px l 0) (py l 0) (px l (m - 1)) (py l (m - 1)) (px l m) (py l m) = sideL l 0 (m - 1) m from rfl]))
        go_wp2
        go_roundw
        case rel =>
          go_split_ands
          exact ⟨m + 1, by omega, by omega, by go_num, by rw [show m + 1 - 2 = (m - 2) + 1 by omega, areaTo, show m - 2 + 1 = m - 1 by omega, show m - 2 + 2 = m by omega], by assumption⟩
        case measure => simp [intOf]; omega
      · have hge : l.length ≤ m := by omega
        go_wp2
        go_returns
        exact ret_val (by rw [show areaZ l = areaTo l (m - 2) by rw [areaZ, show l.length - 2 = m - 2 by omega]]; simp) hB
  · have hS2 := hid hS
    have HE := hid hE
    have hne : (checkE l != 0) = true := by simp [hE]
    rw [if_neg hE]
    clear hS hE
    go_enter Try.func17, Try.ntmps17
    go_wp2_with (go_at_call 18; refine (check_calls _ _ _ l _ hS2.out).mono ?_; rintro e w1 ⟨rfl, hb1⟩)
    go_returns
    exact ret_val rfl hb1

end Go.Proofs.Ytjoodpjndpdjnaa
