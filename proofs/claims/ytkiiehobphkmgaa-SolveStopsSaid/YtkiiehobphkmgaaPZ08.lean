/- Parts of a proof: contracts and laws. -/
import Derived.Test.YtkiiehobphkmgaaPZ00
import Derived.Test.YtkiiehobphkmgaaPZ01
import Derived.Test.YtkiiehobphkmgaaPZ02
import Derived.Deep.RegionHeld3
namespace Go.Proofs.Ytkiiehobphkmgaa
section
set_option linter.unusedVariables false
set_option linter.unusedSimpArgs false
open Go.RowKit


def edgeP (l : List V) (i : Nat) (p q : Int) : Int := sideZ (px l i) (py l i) (px l ((i + 1) % l.length)) (py l ((i + 1) % l.length)) p q
def hasTo (l : List V) (p q : Int) (k : Nat) : Prop := ∀ i, i < k → 0 ≤ edgeP l i p q
def hasB (l : List V) (p q : Int) : Bool := decide (checkE l = 0) && withinB 65536000 p q && (List.range l.length).all fun i => decide (0 ≤ edgeP l i p q)
theorem hasTo_zero (l : List V) (p q : Int) : hasTo l p q 0 := fun _ h => absurd h (by omega)
theorem hasTo_succ {l : List V} {p q : Int} {k : Nat} (h : hasTo l p q k) (hk : 0 ≤ edgeP l k p q) : hasTo l p q (k + 1) := fun i hi => by
  by_cases e : i = k
  · subst e; exact hk
  · exact h i (by omega)
theorem hasB_true {l : List V} {p q : Int} (h1 : checkE l = 0) (h2 : withinB 65536000 p q = true) (h3 : hasTo l p q l.length) : hasB l p q = true := by
  unfold hasB
  rw [h2, decide_eq_true h1]
  simp only [Bool.and_self, Bool.true_and, List.all_eq_true, List.mem_range, decide_eq_true_iff]
  exact h3
theorem hasB_false {l : List V} {p q : Int} {k : Nat} (hk : k < l.length) (h : edgeP l k p q < 0) : hasB l p q = false := by
  have : ((List.range l.length).all fun i => decide (0 ≤ edgeP l i p q)) = false := by
    rw [List.all_eq_false]
    exact ⟨k, List.mem_range.2 hk, by simp; omega⟩
  unfold hasB
  rw [this]
  simp
set_option maxRecDepth 100000 in
set_option maxHeartbeats 1000000 in
theorem has_calls (A : Option Addr) (n c : Nat) (l : List V) (p q : Int) (w : World) (hS : Sl w A n c l) :
    Calls Try.prog 48 #[.slice A n c, vecV p q] w (Ret (.bool (hasB l p q)) w) := by
  have hS1 : Sl (w.alloc (.cells #[.int .i64 p, .int .i64 q] 24)) A n c l := hS.below ((Below.refl _ _).alloc (Nat.le_refl _) _)
  by_cases hE : checkE l = 0
  · cases hP : withinB 65536000 p q with
    | false =>
      have HS1 := hid hS1
      have HE := hid hE
      have HP := hid hP
      clear hS hS1 hE hP
      go_enter Try.func48, Try.ntmps48
      go_wp2_with (first | (go_at_call 44; refine (check_calls _ _ _ l _ HS1.out).mono ?_; rintro e w1 ⟨rfl, hb1⟩; rw [HE.out]; have k1 : w1.cell? ⟨w.heap.size, 0, none⟩ = some (.int .i64 p) := keepCell hb1 (by go_simp); have k2 : w1.cell? ⟨w.heap.size, 1, none⟩ = some (.int .i64 q) := keepCell hb1 (by go_simp)) | (go_at_call 53; refine (within_calls _ _ _).mono ?_; rintro e w2 ⟨rfl, hb2⟩; rw [HP.out]))
      go_returns
      exact ret_bool (by simp [hasB, HP.out]) ((((Below.refl w.heap.size w).alloc (Nat.le_refl _) _).trans (hb1.mono (by simp))).trans (hb2.mono (Nat.le_trans (by simp) hb1.size)))
    | true =>
      obtain ⟨h8, h3, hw, _⟩ := checkE_zero hE
      obtain ⟨b, off, rfl, hC⟩ := hS.at_ (by intro h; subst h; simp at h3)
      have hn := hS.len
      subst hn
      have hb2 := hC.lt
      have hcap := hS.cap
      have HS1 := hid hS1
      have HE := hid hE
      have HP := hid hP
      have HC := hid hC
      have HW := hid hw
      clear hS hS1 hE hP hC hw
      go_enter Try.func48, Try.ntmps48
      go_wp2_with (first | (go_at_call 44; refine (check_calls _ _ _ l _ HS1.out).mono ?_; rintro e w1 ⟨rfl, hb1⟩; rw [HE.out]; have k1 : w1.cell? ⟨w.heap.size, 0, none⟩ = some (.int .i64 p) := keepCell hb1 (by go_simp); have k2 : w1.cell? ⟨w.heap.size, 1, none⟩ = some (.int .i64 q) := keepCell hb1 (by go_simp)) | (go_at_call 53; refine (within_calls _ _ _).mono ?_; rintro e w2 ⟨rfl, hb2⟩; rw [HP.out]; have l1 := hid (And.intro (keepCell hb2 k1) (keepCell hb2 k2))))
      have hB0 : Below w.heap.size w w2 := (((Below.refl w.heap.size w).alloc (Nat.le_refl _) _).trans (hb1.mono (by simp))).trans (hb2.mono (Nat.le_trans (by simp) hb1.size))
      clear k1 k2
      go_loopw [17] (fun i wr => ∃ k : Nat, k ≤ l.length ∧ i = .int .i64 k ∧ hasTo l p q k ∧ Below w.heap.size w wr ∧ wr.cell? ⟨w.heap.size, 0, none⟩ = some (.int .i64 p) ∧ wr.cell? ⟨w.heap.size, 1, none⟩ = some (.int .i64 q)) (fun i _ => l.length - (intOf i).toNat)
      case atStart => exact ⟨0, Nat.zero_le _, rfl, hasTo_zero _ _ _, hB0, l1.out.1, l1.out.2⟩
      case round =>
        obtain ⟨k, hk, rfl, hno, hB, kp, kq⟩ := hrel
        obtain ⟨wo, rfl⟩ : ∃ wo : World, wo = wr := ⟨_, rfl⟩
        have HN := hid hno
        clear hno
        by_cases hlt : k < l.length
        · have hj : (k + 1) % l.length < l.length := Nat.mod_lt _ (by omega)
          have hji : ((k : Int) + 1) % (l.length : Int) < (l.length : Int) := Int.emod_lt_of_pos _ (by omega)
          have hj0 : 0 ≤ ((k : Int) + 1) % (l.length : Int) := Int.emod_nonneg _ (by omega)
          have hj1 : (((k : Int) + 1) % (l.length : Int)).toNat = (k + 1) % l.length := by rw [show ((k : Int) + 1) % (l.length : Int) = (((k + 1) % l.length : Nat) : Int) by simp]; omega
          have e1 : IntKind.i64.wrap ((k : Int) + 1) = (k : Int) + 1 := IntWalk.i64_in _ (by omega)
          have e2 : 0 ≤ (k : Int) + 1 := by omega
          have e3 : Int.tmod ((k : Int) + 1) (l.length : Int) = ((k : Int) + 1) % (l.length : Int) := Int.tmod_eq_emod_of_nonneg (by omega)
          have e4 : ((l.length : Int) == 0) = false := by simp; intro h; subst h; simp at hlt
          have e5 : ¬ l = [] := by intro h; subst h; simp at hlt
          have e6 : l.length ≠ 0 := by omega
          have e7 : ¬ ((l.length : Int) = 0) := by omega
          have hp0 := lt_of_cell kp
          have hCo := HC.out.below hB
          have hx := hCo.x k hlt
          have hy := hCo.y k hlt
          have hbo := hCo.lt
          have hCa := hCo.below ((Below.refl _ _).alloc (Nat.le_refl _) (.cells #[.int .i64 (px l k), .int .i64 (py l k)] 24))
          have s1 : (wo.alloc (.cells #[.int .i64 (px l k), .int .i64 (py l k)] 24)).drew.cell? ⟨wo.heap.size, 0, none⟩ = some (.int .i64 (px l k)) ∧ (wo.alloc (.cells #[.int .i64 (px l k), .int .i64 (py l k)] 24)).drew.cell? ⟨wo.heap.size, 1, none⟩ = some (.int .i64 (py l k)) ∧ (wo.alloc (.cells #[.int .i64 (px l k), .int .i64 (py l k)] 24)).drew.cell? ⟨b, off + ((k + 1) % l.length) * 2, none⟩ = some (.int .i64 (px l ((k + 1) % l.length))) ∧ (wo.alloc (.cells #[.int .i64 (px l k), .int .i64 (py l k)] 24)).drew.cell? ⟨b, off + ((k + 1) % l.length) * 2 + 1, none⟩ = some (.int .i64 (py l ((k + 1) % l.length))) ∧ (wo.alloc (.cells #[.int .i64 (px l k), .int .i64 (py l k)] 24)).drew.cell? ⟨w.heap.size, 0, none⟩ = some (.int .i64 p) ∧ (wo.alloc (.cells #[.int .i64 (px l k), .int .i64 (py l k)] 24)).drew.cell? ⟨w.heap.size, 1, none⟩ = some (.int .i64 q) ∧ Below w.heap.size w (wo.alloc (.cells #[.int .i64 (px l k), .int .i64 (py l k)] 24)).drew := ⟨by go_simp, by go_simp, hCa.x ((k + 1) % l.length) hj, hCa.y ((k + 1) % l.length) hj, by go_simp, by go_simp, ((hB.alloc hB.size _)).drew⟩
          have S1 := hid s1
          clear s1
          clear hCo hCa
          go_wp2
          go_region_held3 (fun w' => w'.cell? ⟨wo.heap.size, 0, none⟩ = some (.int .i64 (px l k)) ∧ w'.cell? ⟨wo.heap.size, 1, none⟩ = some (.int .i64 (py l k)) ∧ w'.cell? ⟨b, off + ((k + 1) % l.length) * 2, none⟩ = some (.int .i64 (px l ((k + 1) % l.length))) ∧ w'.cell? ⟨b, off + ((k + 1) % l.length) * 2 + 1, none⟩ = some (.int .i64 (py l ((k + 1) % l.length))) ∧ w'.cell? ⟨w.heap.size, 0, none⟩ = some (.int .i64 p) ∧ w'.cell? ⟨w.heap.size, 1, none⟩ = some (.int .i64 q) ∧ Below w.heap.size w w')
            (first | with_reducible exact S1.out | (go_split_ands; with_reducible exact ⟨keepCell hb3 (by assumption), keepCell hb3 (by assumption), keepCell hb3 (by assumption), keepCell hb3 (by assumption), keepCell hb3 (by assumption), keepCell hb3 (by assumption), keepBelow hb3 (by assumption)⟩))
            (first | (go_at_call 54; refine (side_calls _ _ _ _ _ _ (allWithin_at HW.out hlt) (allWithin_at HW.out hj) HP.out _).mono ?_; rintro e w3 ⟨rfl, hb3⟩))
          go_wp2
          all_goals go_split_ands
          · go_returns
            exact ret_bool (hasB_false hlt (by show sideZ _ _ _ _ _ _ < 0; assumption)).symm (by assumption)
          · go_roundw
            case rel => exact ⟨k + 1, hlt, by go_num, hasTo_succ HN.out (by show 0 ≤ sideZ _ _ _ _ _ _; assumption), by assumption, by assumption, by assumption⟩
            case measure => simp [intOf]; omega
        · have hge : l.length ≤ k := by omega
          clear kp kq
          go_wp2
          go_returns
          exact ret_bool (hasB_true HE.out HP.out (by have := HN.out; rwa [show k = l.length by omega] at this)).symm hB
  · have HS1 := hid hS1
    have HE := hid hE
    have hne : (checkE l != 0) = true := by simp [hE]
    clear hS hS1 hE
    go_enter Try.func48, Try.ntmps48
    go_wp2_with (go_at_call 44; refine (check_calls _ _ _ l _ HS1.out).mono ?_; rintro e w1 ⟨rfl, hb1⟩)
    go_returns
    exact ret_bool (by have := HE.out; simp [hasB, this]) (((Below.refl w.heap.size w).alloc (Nat.le_refl _) _).trans (hb1.mono (by simp)))
def i64 (a : Int) : Prop := -9223372036854775808 ≤ a ∧ a ≤ 9223372036854775807









theorem Sl.of4 {w : World} {g c : Nat} (a b p q r s u v : Int) (h0 : w.cell? ⟨g, 0, none⟩ = some (.int .i64 a)) (h1 : w.cell? ⟨g, 1, none⟩ = some (.int .i64 b)) (h2 : w.cell? ⟨g, 2, none⟩ = some (.int .i64 p)) (h3 : w.cell? ⟨g, 3, none⟩ = some (.int .i64 q))
    (h4 : w.cell? ⟨g, 4, none⟩ = some (.int .i64 r)) (h5 : w.cell? ⟨g, 5, none⟩ = some (.int .i64 s)) (h6 : w.cell? ⟨g, 6, none⟩ = some (.int .i64 u)) (h7 : w.cell? ⟨g, 7, none⟩ = some (.int .i64 v)) (hc : 4 ≤ c) (hc2 : c ≤ 9223372036854775807) : Sl w (some ⟨g, 0, none⟩) 4 c [(a, b), (p, q), (r, s), (u, v)] := by
  refine ⟨rfl, hc, hc2, fun _ => ⟨g, 0, rfl, lt_of_cell h0, fun j hj => ?_, fun j hj => ?_⟩⟩
  · match j, hj with
    | 0, _ => exact h0
    | 1, _ => exact h2
    | 2, _ => exact h4
    | 3, _ => exact h6
  · match j, hj with
    | 0, _ => exact h1
    | 1, _ => exact h3
    | 2, _ => exact h5
    | 3, _ => exact h7
end
end Go.Proofs.Ytkiiehobphkmgaa
