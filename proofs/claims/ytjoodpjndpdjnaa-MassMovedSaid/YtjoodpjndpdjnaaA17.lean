/- The contract of the reference's Inside. -/
import Derived.Test.YtjoodpjndpdjnaaA16
import Derived.Test.YtjoodpjndpdjnaaR0
namespace Go.Proofs.Ytjoodpjndpdjnaa
set_option linter.unusedVariables false
set_option linter.unusedSimpArgs false
open Go.RowKit

def sideP (l : List V) (i k : Nat) (p q : Int) : Int := sideZ (px l i) (py l i) (px l k) (py l k) p q
def triIn (l : List V) (p q : Int) (m : Nat) : Bool := decide (0 ≤ sideP l 0 (m - 1) p q ∧ 0 ≤ sideP l (m - 1) m p q ∧ 0 ≤ sideP l m 0 p q)
def noTri (l : List V) (p q : Int) (m : Nat) : Prop := ∀ j, 2 ≤ j → j < m → triIn l p q j = false
/-- the reference's Inside -/
def insB (l : List V) (p q : Int) : Bool := withinB 65536000 p q && (List.range l.length).any fun m => decide (2 ≤ m) && triIn l p q m
theorem noTri_two (l : List V) (p q : Int) : noTri l p q 2 := fun _ h1 h2 => absurd h1 (by omega)
theorem noTri_succ {l : List V} {p q : Int} {m : Nat} (h : noTri l p q m) (hm : triIn l p q m = false) : noTri l p q (m + 1) := fun j h2 hj => by
  by_cases e : j = m
  · subst e; exact hm
  · exact h j h2 (by omega)
theorem insB_true {l : List V} {p q : Int} {m : Nat} (h1 : withinB 65536000 p q = true) (h2 : 2 ≤ m) (hm : m < l.length) (ht : triIn l p q m = true) : insB l p q = true := by
  unfold insB
  rw [h1, Bool.true_and, List.any_eq_true]
  exact ⟨m, List.mem_range.2 hm, by simp [h2, ht]⟩
theorem insB_false {l : List V} {p q : Int} (h : noTri l p q l.length) : insB l p q = false := by
  unfold insB
  rw [Bool.and_eq_false_iff]
  refine .inr ?_
  rw [List.any_eq_false]
  intro m hm
  by_cases h2 : 2 ≤ m
  · simp [h m h2 (List.mem_range.1 hm)]
  · simp [h2]
theorem insB_iff {l : List V} {p q : Int} : insB l p q = true ↔ withinB 65536000 p q = true ∧ ∃ m, 2 ≤ m ∧ m < l.length ∧ triIn l p q m = true := by
  unfold insB
  simp only [Bool.and_eq_true, List.any_eq_true, List.mem_range, decide_eq_true_iff]
  constructor
  · rintro ⟨a, m, b, c, d⟩; exact ⟨a, m, c, b, d⟩
  · rintro ⟨a, m, c, b, d⟩; exact ⟨a, m, b, c, d⟩
theorem left_p {l : List V} (hw : allWithin 65536000 l = true) {p q : Int} (hp : withinB 65536000 p q = true) {i k : Nat} (hi : i < l.length) (hk : k < l.length) (w : World) :
    Calls Try.prog 71 #[vecV (px l i) (py l i), vecV (px l k) (py l k), vecV p q] w (Ret (.int .i64 (cmpZ (sideP l i k p q) 0)) w) :=
  left_calls _ _ _ _ _ _ (within_sm hw hi).1 (within_sm hw hi).2 (within_sm hw hk).1 (within_sm hw hk).2 (by obtain ⟨_, _, _, _⟩ := withinB_iff.1 hp; unfold sm; omega) (by obtain ⟨_, _, _, _⟩ := withinB_iff.1 hp; unfold sm; omega) w

set_option maxRecDepth 100000 in
set_option maxHeartbeats 4000000 in
theorem inside_calls (A : Option Addr) (n c : Nat) (l : List V) (p q : Int) (w : World) (hS : Sl w A n c l) (hw : allWithin 65536000 l = true) (h8 : l.length ≤ 8) (h0 : 3 ≤ l.length) :
    Calls Try.prog 22 #[.slice A n c, vecV p q] w (Ret (.bool (insB l p q)) w) := by
  obtain ⟨b, off, rfl, hC⟩ := hS.at_ (by intro h; subst h; simp at h0)
  have hn := hS.len
  subst hn
  have hb2 := hC.lt
  have hcap := hS.cap
  have HC := hid hC
  have HW := hid hw
  clear hS hC hw
  cases hP : withinB 65536000 p q with
  | false =>
    have HP := hid hP
    clear hP
    go_enter Try.func22, Try.ntmps22
    go_wp2_with (go_at_call 70; refine (coord_calls _ _ 65536000 _ (by omega) (by omega)).mono ?_; rintro e w2 ⟨rfl, hb3⟩; rw [HP.out])
    go_returns
    exact ret_bool (by simp [insB, HP.out]) (((Below.refl w.heap.size w).alloc (Nat.le_refl _) _).trans (hb3.mono (by simp)))
  | true =>
    have HP := hid hP
    clear hP
    go_enter Try.func22, Try.ntmps22
    go_wp2_with (go_at_call 70; refine (coord_calls _ _ 65536000 _ (by omega) (by omega)).mono ?_; rintro e w2 ⟨rfl, hb3⟩; rw [HP.out]; have l1 := hid (And.intro (show w2.cell? ⟨w.heap.size, 0, none⟩ = some (.int .i64 p) from keepCell hb3 (by go_simp)) (show w2.cell? ⟨w.heap.size, 1, none⟩ = some (.int .i64 q) from keepCell hb3 (by go_simp))))
    have hB0 : Below w.heap.size w w2 := ((Below.refl w.heap.size w).alloc (Nat.le_refl _) _).trans (hb3.mono (by simp))
    go_loopw [5] (fun s wr => ∃ m : Nat, 2 ≤ m ∧ m ≤ l.length ∧ s = .int .i64 m ∧ noTri l p q m ∧ Below w.heap.size w wr ∧ wr.cell? ⟨w.heap.size, 0, none⟩ = some (.int .i64 p) ∧ wr.cell? ⟨w.heap.size, 1, none⟩ = some (.int .i64 q)) (fun s _ => l.length - (intOf s).toNat)
    case atStart => exact ⟨2, by omega, by omega, rfl, noTri_two _ _ _, hB0, l1.out.1, l1.out.2⟩
    case round =>
      obtain ⟨m, hm2, hm, rfl, hno, hB, kp, kq⟩ := hrel
      have HN := hid hno
      clear hno
      by_cases hlt : m < l.length
      · have e1 : IntKind.i64.wrap ((m : Int) - 1) = (m : Int) - 1 := IntWalk.i64_in _ (by omega)
        have e2 : 0 ≤ (m : Int) - 1 := by omega
        have e3 : (m : Int) - 1 < (l.length : Int) := by omega
        have e4 : ((m : Int) - 1).toNat = m - 1 := by omega
        have e5 : (0 : Int) < (l.length : Int) := by omega
        have e6 : (m : Int) < (l.length : Int) := by omega
        have e8 : 0 < l.length := by omega
        have e9 : 1 ≤ (m : Int) := by omega
        have hCr := HC.out.below hB
        have s1 : wr.drew.cell? ⟨b, off, none⟩ = some (.int .i64 (px l 0)) ∧ wr.drew.cell? ⟨b, off + 1, none⟩ = some (.int .i64 (py l 0)) ∧ wr.drew.cell? ⟨b, off + (m - 1) * 2, none⟩ = some (.int .i64 (px l (m - 1))) ∧ wr.drew.cell? ⟨b, off + (m - 1) * 2 + 1, none⟩ = some (.int .i64 (py l (m - 1))) ∧ wr.drew.cell? ⟨b, off + m * 2, none⟩ = some (.int .i64 (px l m)) ∧ wr.drew.cell? ⟨b, off + m * 2 + 1, none⟩ = some (.int .i64 (py l m)) ∧ wr.drew.cell? ⟨w.heap.size, 0, none⟩ = some (.int .i64 p) ∧ wr.drew.cell? ⟨w.heap.size, 1, none⟩ = some (.int .i64 q) ∧ Below w.heap.size w wr.drew := ⟨by simpa using hCr.x 0 (by omega), by simpa using hCr.y 0 (by omega), hCr.x (m - 1) (by omega), hCr.y (m - 1) (by omega), hCr.x m hlt, hCr.y m hlt, kp, kq, hB.drew⟩
        have S1 := hid s1
        clear s1
        clear hCr kp kq
        by_cases c1 : 0 ≤ sideP l 0 (m - 1) p q
        · by_cases c2 : 0 ≤ sideP l (m - 1) m p q
          · by_cases c3 : 0 ≤ sideP l m 0 p q
            · have HF : Hid (triIn l p q m = true) := decide_eq_true ⟨c1, c2, c3⟩
              have f1 : 0 ≤ cmpZ (sideP l 0 (m - 1) p q) 0 := cmpZ_nonneg.2 c1
              have g1 : decide (0 ≤ cmpZ (sideP l 0 (m - 1) p q) 0) = true := decide_eq_true f1
              have f2 : 0 ≤ cmpZ (sideP l (m - 1) m p q) 0 := cmpZ_nonneg.2 c2
              have g2 : decide (0 ≤ cmpZ (sideP l (m - 1) m p q) 0) = true := decide_eq_true f2
              have f3 : 0 ≤ cmpZ (sideP l m 0 p q) 0 := cmpZ_nonneg.2 c3
              have g3 : decide (0 ≤ cmpZ (sideP l m 0 p q) 0) = true := decide_eq_true f3
              clear c1 c2 c3
              go_wp2
              go_region_held3 (fun w' => w'.cell? ⟨b, off, none⟩ = some (.int .i64 (px l 0)) ∧ w'.cell? ⟨b, off + 1, none⟩ = some (.int .i64 (py l 0)) ∧ w'.cell? ⟨b, off + (m - 1) * 2, none⟩ = some (.int .i64 (px l (m - 1))) ∧ w'.cell? ⟨b, off + (m - 1) * 2 + 1, none⟩ = some (.int .i64 (py l (m - 1))) ∧ w'.cell? ⟨b, off + m * 2, none⟩ = some (.int .i64 (px l m)) ∧ w'.cell? ⟨b, off + m * 2 + 1, none⟩ = some (.int .i64 (py l m)) ∧ w'.cell? ⟨w.heap.size, 0, none⟩ = some (.int .i64 p) ∧ w'.cell? ⟨w.heap.size, 1, none⟩ = some (.int .i64 q) ∧ Below w.heap.size w w')
                (first | with_reducible exact S1.out | (go_split_ands; with_reducible exact ⟨keepCell hb3 (by assumption), keepCell hb3 (by assumption), keepCell hb3 (by assumption), keepCell hb3 (by assumption), keepCell hb3 (by assumption), keepCell hb3 (by assumption), keepCell hb3 (by assumption), keepCell hb3 (by assumption), keepBelow hb3 (by assumption)⟩))
                (first | (go_at_call 71; (first | (with_reducible refine (left_p HW.out HP.out (show 0 < l.length by omega) (show m - 1 < l.length by omega) _).mono ?_) | (with_reducible refine (left_p HW.out HP.out (show m - 1 < l.length by omega) hlt _).mono ?_) | (with_reducible refine (left_p HW.out HP.out hlt (show 0 < l.length by omega) _).mono ?_)); rintro e w3 ⟨rfl, hb3⟩))
              go_wp2
              go_split_ands
              go_returns
              exact ret_bool (insB_true HP.out hm2 hlt HF.out).symm (by assumption)
            · have HF : Hid (triIn l p q m = false) := decide_eq_false fun h => c3 h.2.2
              have f1 : 0 ≤ cmpZ (sideP l 0 (m - 1) p q) 0 := cmpZ_nonneg.2 c1
              have g1 : decide (0 ≤ cmpZ (sideP l 0 (m - 1) p q) 0) = true := decide_eq_true f1
              have f2 : 0 ≤ cmpZ (sideP l (m - 1) m p q) 0 := cmpZ_nonneg.2 c2
              have g2 : decide (0 ≤ cmpZ (sideP l (m - 1) m p q) 0) = true := decide_eq_true f2
              have f3 : cmpZ (sideP l m 0 p q) 0 < 0 := cmpZ_neg.2 (by omega)
              have g3 : decide (0 ≤ cmpZ (sideP l m 0 p q) 0) = false := by simp; omega
              clear c1 c2 c3
              go_wp2
              go_region_held3 (fun w' => w'.cell? ⟨b, off, none⟩ = some (.int .i64 (px l 0)) ∧ w'.cell? ⟨b, off + 1, none⟩ = some (.int .i64 (py l 0)) ∧ w'.cell? ⟨b, off + (m - 1) * 2, none⟩ = some (.int .i64 (px l (m - 1))) ∧ w'.cell? ⟨b, off + (m - 1) * 2 + 1, none⟩ = some (.int .i64 (py l (m - 1))) ∧ w'.cell? ⟨b, off + m * 2, none⟩ = some (.int .i64 (px l m)) ∧ w'.cell? ⟨b, off + m * 2 + 1, none⟩ = some (.int .i64 (py l m)) ∧ w'.cell? ⟨w.heap.size, 0, none⟩ = some (.int .i64 p) ∧ w'.cell? ⟨w.heap.size, 1, none⟩ = some (.int .i64 q) ∧ Below w.heap.size w w')
                (first | with_reducible exact S1.out | (go_split_ands; with_reducible exact ⟨keepCell hb3 (by assumption), keepCell hb3 (by assumption), keepCell hb3 (by assumption), keepCell hb3 (by assumption), keepCell hb3 (by assumption), keepCell hb3 (by assumption), keepCell hb3 (by assumption), keepCell hb3 (by assumption), keepBelow hb3 (by assumption)⟩))
                (first | (go_at_call 71; (first | (with_reducible refine (left_p HW.out HP.out (show 0 < l.length by omega) (show m - 1 < l.length by omega) _).mono ?_) | (with_reducible refine (left_p HW.out HP.out (show m - 1 < l.length by omega) hlt _).mono ?_) | (with_reducible refine (left_p HW.out HP.out hlt (show 0 < l.length by omega) _).mono ?_)); rintro e w3 ⟨rfl, hb3⟩))
              go_wp2
              go_split_ands
              go_roundw
              case rel => exact ⟨m + 1, by omega, by omega, by go_num, noTri_succ HN.out HF.out, by assumption, by assumption, by assumption⟩
              case measure => simp [intOf]; omega
          · have HF : Hid (triIn l p q m = false) := decide_eq_false fun h => c2 h.2.1
            have f1 : 0 ≤ cmpZ (sideP l 0 (m - 1) p q) 0 := cmpZ_nonneg.2 c1
            have g1 : decide (0 ≤ cmpZ (sideP l 0 (m - 1) p q) 0) = true := decide_eq_true f1
            have f2 : cmpZ (sideP l (m - 1) m p q) 0 < 0 := cmpZ_neg.2 (by omega)
            have g2 : decide (0 ≤ cmpZ (sideP l (m - 1) m p q) 0) = false := by simp; omega
            clear c1 c2
            go_wp2
            refine wp_region_noPanic ?_
            refine wp_region_held_drew (S := fun w' => w'.cell? ⟨b, off, none⟩ = some (.int .i64 (px l 0)) ∧ w'.cell? ⟨b, off + 1, none⟩ = some (.int .i64 (py l 0)) ∧ w'.cell? ⟨b, off + (m - 1) * 2, none⟩ = some (.int .i64 (px l (m - 1))) ∧ w'.cell? ⟨b, off + (m - 1) * 2 + 1, none⟩ = some (.int .i64 (py l (m - 1))) ∧ w'.cell? ⟨b, off + m * 2, none⟩ = some (.int .i64 (px l m)) ∧ w'.cell? ⟨b, off + m * 2 + 1, none⟩ = some (.int .i64 (py l m)) ∧ w'.cell? ⟨w.heap.size, 0, none⟩ = some (.int .i64 p) ∧ w'.cell? ⟨w.heap.size, 1, none⟩ = some (.int .i64 q) ∧ Below w.heap.size w w') (by kernel_rfl) ?hs1_0 (fun hH => ?hr1_0)
            case hs1_0 => exact S1.out
            refine held_take 0 15 36 (v := ?v1_0) rfl (by kernel_rfl) (by kernel_rfl) (by kernel_rfl) (by kernel_rfl) (by kernel_rfl) (fun _ _ _ _ h => h) (by kernel_rfl) ?hy1_0 hH ?_
            case hy1_0 => (intro w' hSw; go_simp; try (with_reducible rfl))
            simp only [List.set_cons_zero, List.set_cons_succ]
            refine held_take 1 16 35 (v := ?v1_1) rfl (by kernel_rfl) (by kernel_rfl) (by kernel_rfl) (by kernel_rfl) (by kernel_rfl) (fun _ _ _ _ h => h) (by kernel_rfl) ?hy1_1 hH ?_
            case hy1_1 => (intro w' hSw; go_simp; try (with_reducible rfl))
            simp only [List.set_cons_zero, List.set_cons_succ]
            refine held_take 2 17 34 (v := ?v1_2) rfl (by kernel_rfl) (by kernel_rfl) (by kernel_rfl) (by kernel_rfl) (by kernel_rfl) (fun _ _ _ _ h => h) (by kernel_rfl) ?hy1_2 hH ?_
            case hy1_2 => (intro w' hSw; go_simp; try (with_reducible rfl))
            simp only [List.set_cons_zero, List.set_cons_succ]
            refine held_take 3 18 33 (v := ?v1_3) rfl (by kernel_rfl) (by kernel_rfl) (by kernel_rfl) (by kernel_rfl) (by kernel_rfl) (fun _ _ _ _ h => h) (by kernel_rfl) ?hy1_3 hH ?_
            case hy1_3 => (intro w' hSw; go_simp; try (with_reducible rfl))
            simp only [List.set_cons_zero, List.set_cons_succ]
            refine held_take 4 19 32 (v := ?v1_4) rfl (by kernel_rfl) (by kernel_rfl) (by kernel_rfl) (by kernel_rfl) (by kernel_rfl) (fun _ _ _ _ h => h) (by kernel_rfl) ?hy1_4 hH ?_
            case hy1_4 => (intro w' hSw; go_simp; try (with_reducible rfl))
            simp only [List.set_cons_zero, List.set_cons_succ]
            refine held_take 5 20 31 (v := ?v1_5) rfl (by kernel_rfl) (by kernel_rfl) (by kernel_rfl) (by kernel_rfl) (by kernel_rfl) (fun _ _ _ _ h => h) (by kernel_rfl) ?hy1_5 hH ?_
            case hy1_5 => (intro w' hSw; go_simp; try (with_reducible rfl))
            simp only [List.set_cons_zero, List.set_cons_succ]
            refine held_take 6 21 30 (v := ?v1_6) rfl (by kernel_rfl) (by kernel_rfl) (by kernel_rfl) (by kernel_rfl) (by kernel_rfl) (fun _ _ _ _ h => h) (by kernel_rfl) ?hy1_6 hH ?_
            case hy1_6 => (intro w' hSw; go_simp; try (with_reducible rfl))
            simp only [List.set_cons_zero, List.set_cons_succ]
            refine held_take 7 22 29 (v := ?v1_7) rfl (by kernel_rfl) (by kernel_rfl) (by kernel_rfl) (by kernel_rfl) (by kernel_rfl) (fun _ _ _ _ h => h) (by kernel_rfl) ?hy1_7 hH ?_
            case hy1_7 => (intro w' hSw; go_simp; try (with_reducible rfl))
            simp only [List.set_cons_zero, List.set_cons_succ]
            refine held_take 8 23 28 (v := ?v1_8) rfl (by kernel_rfl) (by kernel_rfl) (by kernel_rfl) (by kernel_rfl) (by kernel_rfl) (fun _ _ _ _ h => h) (by kernel_rfl) ?hy1_8 hH ?_
            case hy1_8 => (intro w' hSw; go_simp; try (with_reducible rfl))
            simp only [List.set_cons_zero, List.set_cons_succ]
            refine wpAnyH_ready (rs := [9]) (by kernel_rfl) (by simp) ?_
            refine AllReadyH.cons (o := _) rfl (fun K hK => ?st1_9) AllReadyH.nil
            go_simp
            go_at_call 71; (first | (with_reducible refine (left_p HW.out HP.out (show 0 < l.length by omega) (show m - 1 < l.length by omega) _).mono ?_) | (with_reducible refine (left_p HW.out HP.out (show m - 1 < l.length by omega) hlt _).mono ?_) | (with_reducible refine (left_p HW.out HP.out hlt (show 0 < l.length by omega) _).mono ?_)); rintro e w9 ⟨rfl, hb9⟩
            refine hK.out _ _ ?hs1_9 (fun hH2 => ?hr1_9)
            case hs1_9 => (obtain ⟨q0, q1, q2, q3, q4, q5, q6, q7, q8⟩ := hH; exact ⟨keepCell hb9 q0, keepCell hb9 q1, keepCell hb9 q2, keepCell hb9 q3, keepCell hb9 q4, keepCell hb9 q5, keepCell hb9 q6, keepCell hb9 q7, keepBelow hb9 q8⟩)
            clear hK K hH
            have hH := hH2
            clear hH2
            try simp only [Act.put, List.setIfInBounds_toArray, List.set_cons_zero, List.set_cons_succ]
            refine held_take 10 25 26 (v := ?v1_10) rfl (by kernel_rfl) (by kernel_rfl) (by kernel_rfl) (by kernel_rfl) (by kernel_rfl) (fun _ _ _ _ h => h) (by kernel_rfl) ?hy1_10 hH ?_
            case hy1_10 => (intro w' hSw; go_simp; try (with_reducible rfl))
            simp only [List.set_cons_zero, List.set_cons_succ]
            refine held_take 11 26 25 (v := ?v1_11) rfl (by kernel_rfl) (by kernel_rfl) (by kernel_rfl) (by kernel_rfl) (by kernel_rfl) (fun _ _ _ _ h => h) (by kernel_rfl) ?hy1_11 hH ?_
            case hy1_11 => (intro w' hSw; go_simp; try (with_reducible rfl))
            simp only [List.set_cons_zero, List.set_cons_succ]
            refine held_take 12 27 24 (v := ?v1_12) rfl (by kernel_rfl) (by kernel_rfl) (by kernel_rfl) (by kernel_rfl) (by kernel_rfl) (fun _ _ _ _ h => h) (by kernel_rfl) ?hy1_12 hH ?_
            case hy1_12 => (intro w' hSw; go_simp; try (with_reducible rfl))
            simp only [List.set_cons_zero, List.set_cons_succ]
            refine held_take 13 28 23 (v := ?v1_13) rfl (by kernel_rfl) (by kernel_rfl) (by kernel_rfl) (by kernel_rfl) (by kernel_rfl) (fun _ _ _ _ h => h) (by kernel_rfl) ?hy1_13 hH ?_
            case hy1_13 => (intro w' hSw; go_simp; try (with_reducible rfl))
            simp only [List.set_cons_zero, List.set_cons_succ]
            refine held_take 14 29 22 (v := ?v1_14) rfl (by kernel_rfl) (by kernel_rfl) (by kernel_rfl) (by kernel_rfl) (by kernel_rfl) (fun _ _ _ _ h => h) (by kernel_rfl) ?hy1_14 hH ?_
            case hy1_14 => (intro w' hSw; go_simp; try (with_reducible rfl))
            simp only [List.set_cons_zero, List.set_cons_succ]
            refine held_take 15 30 21 (v := ?v1_15) rfl (by kernel_rfl) (by kernel_rfl) (by kernel_rfl) (by kernel_rfl) (by kernel_rfl) (fun _ _ _ _ h => h) (by kernel_rfl) ?hy1_15 hH ?_
            case hy1_15 => (intro w' hSw; go_simp; try (with_reducible rfl))
            simp only [List.set_cons_zero, List.set_cons_succ]
            refine held_take 16 31 20 (v := ?v1_16) rfl (by kernel_rfl) (by kernel_rfl) (by kernel_rfl) (by kernel_rfl) (by kernel_rfl) (fun _ _ _ _ h => h) (by kernel_rfl) ?hy1_16 hH ?_
            case hy1_16 => (intro w' hSw; go_simp; try (with_reducible rfl))
            simp only [List.set_cons_zero, List.set_cons_succ]
            refine held_take 17 32 19 (v := ?v1_17) rfl (by kernel_rfl) (by kernel_rfl) (by kernel_rfl) (by kernel_rfl) (by kernel_rfl) (fun _ _ _ _ h => h) (by kernel_rfl) ?hy1_17 hH ?_
            case hy1_17 => (intro w' hSw; go_simp; try (with_reducible rfl))
            simp only [List.set_cons_zero, List.set_cons_succ]
            refine held_take 18 33 18 (v := ?v1_18) rfl (by kernel_rfl) (by kernel_rfl) (by kernel_rfl) (by kernel_rfl) (by kernel_rfl) (fun _ _ _ _ h => h) (by kernel_rfl) ?hy1_18 hH ?_
            case hy1_18 => (intro w' hSw; go_simp; try (with_reducible rfl))
            simp only [List.set_cons_zero, List.set_cons_succ]
            refine held_take 19 34 17 (v := ?v1_19) rfl (by kernel_rfl) (by kernel_rfl) (by kernel_rfl) (by kernel_rfl) (by kernel_rfl) (fun _ _ _ _ h => h) (by kernel_rfl) ?hy1_19 hH ?_
            case hy1_19 => (intro w' hSw; go_simp; try (with_reducible rfl))
            simp only [List.set_cons_zero, List.set_cons_succ]
            refine held_take 20 35 16 (v := ?v1_20) rfl (by kernel_rfl) (by kernel_rfl) (by kernel_rfl) (by kernel_rfl) (by kernel_rfl) (fun _ _ _ _ h => h) (by kernel_rfl) ?hy1_20 hH ?_
            case hy1_20 => (intro w' hSw; go_simp; try (with_reducible rfl))
            simp only [List.set_cons_zero, List.set_cons_succ]
            refine held_take 21 36 15 (v := ?v1_21) rfl (by kernel_rfl) (by kernel_rfl) (by kernel_rfl) (by kernel_rfl) (by kernel_rfl) (fun _ _ _ _ h => h) (by kernel_rfl) ?hy1_21 hH ?_
            case hy1_21 => (intro w' hSw; go_simp; try (with_reducible rfl))
            simp only [List.set_cons_zero, List.set_cons_succ]
            refine wpAnyH_ready (rs := [22]) (by kernel_rfl) (by simp) ?_
            refine AllReadyH.cons (o := _) rfl (fun K hK => ?st1_22) AllReadyH.nil
            go_simp
            go_at_call 71; (first | (with_reducible refine (left_p HW.out HP.out (show 0 < l.length by omega) (show m - 1 < l.length by omega) _).mono ?_) | (with_reducible refine (left_p HW.out HP.out (show m - 1 < l.length by omega) hlt _).mono ?_) | (with_reducible refine (left_p HW.out HP.out hlt (show 0 < l.length by omega) _).mono ?_)); rintro e w22 ⟨rfl, hb22⟩
            refine hK.out _ _ ?hs1_22 (fun hH2 => ?hr1_22)
            case hs1_22 => (obtain ⟨q0, q1, q2, q3, q4, q5, q6, q7, q8⟩ := hH; exact ⟨keepCell hb22 q0, keepCell hb22 q1, keepCell hb22 q2, keepCell hb22 q3, keepCell hb22 q4, keepCell hb22 q5, keepCell hb22 q6, keepCell hb22 q7, keepBelow hb22 q8⟩)
            clear hK K hH
            have hH := hH2
            clear hH2
            try simp only [Act.put, List.setIfInBounds_toArray, List.set_cons_zero, List.set_cons_succ]
            refine held_take 23 38 13 (v := ?v1_23) rfl (by kernel_rfl) (by kernel_rfl) (by kernel_rfl) (by kernel_rfl) (by kernel_rfl) (fun _ _ _ _ h => h) (by kernel_rfl) ?hy1_23 hH ?_
            case hy1_23 => (intro w' hSw; go_simp; try (with_reducible rfl))
            simp only [List.set_cons_zero, List.set_cons_succ]
            refine held_take 24 39 12 (v := ?v1_24) rfl (by kernel_rfl) (by kernel_rfl) (by kernel_rfl) (by kernel_rfl) (by kernel_rfl) (fun _ _ _ _ h => h) (by kernel_rfl) ?hy1_24 hH ?_
            case hy1_24 => (intro w' hSw; go_simp; try (with_reducible rfl))
            simp only [List.set_cons_zero, List.set_cons_succ]
            refine held_take 25 40 11 (v := ?v1_25) rfl (by kernel_rfl) (by kernel_rfl) (by kernel_rfl) (by kernel_rfl) (by kernel_rfl) (fun _ _ _ _ h => h) (by kernel_rfl) ?hy1_25 hH ?_
            case hy1_25 => (intro w' hSw; go_simp; try (with_reducible rfl))
            simp only [List.set_cons_zero, List.set_cons_succ]
            refine held_skips (by kernel_rfl) (fun _ _ _ _ h => h) hH [(26, 41), (27, 42), (28, 43), (29, 44), (30, 45), (31, 46), (32, 47), (33, 48), (34, 49), (35, 50)] 1 _ _ _ (by kernel_rfl) (by kernel_rfl) ?_
            simp only [setUndef, List.set_cons_zero, List.set_cons_succ]
            refine held_take 36 51 0 (v := ?v1_36) rfl (by kernel_rfl) (by kernel_rfl) (by kernel_rfl) (by kernel_rfl) (by kernel_rfl) (fun _ _ _ _ h => h) (by kernel_rfl) ?hy1_36 hH ?_
            case hy1_36 => (intro w' hSw; go_simp; try (with_reducible rfl))
            simp only [List.set_cons_zero, List.set_cons_succ]
            refine wpAnyH_done (by kernel_rfl) ?_ _
            refine NoPanic.normal ?_
            go_wp2
            go_split_ands
            go_roundw
            case rel => exact ⟨m + 1, by omega, by omega, by go_num, noTri_succ HN.out HF.out, by assumption, by assumption, by assumption⟩
            case measure => simp [intOf]; omega
        · have HF : Hid (triIn l p q m = false) := decide_eq_false fun h => c1 h.1
          have f1 : cmpZ (sideP l 0 (m - 1) p q) 0 < 0 := cmpZ_neg.2 (by omega)
          have g1 : decide (0 ≤ cmpZ (sideP l 0 (m - 1) p q) 0) = false := by simp; omega
          clear c1
          go_wp2
          refine wp_region_noPanic ?_
          refine wp_region_held_drew (S := fun w' => w'.cell? ⟨b, off, none⟩ = some (.int .i64 (px l 0)) ∧ w'.cell? ⟨b, off + 1, none⟩ = some (.int .i64 (py l 0)) ∧ w'.cell? ⟨b, off + (m - 1) * 2, none⟩ = some (.int .i64 (px l (m - 1))) ∧ w'.cell? ⟨b, off + (m - 1) * 2 + 1, none⟩ = some (.int .i64 (py l (m - 1))) ∧ w'.cell? ⟨b, off + m * 2, none⟩ = some (.int .i64 (px l m)) ∧ w'.cell? ⟨b, off + m * 2 + 1, none⟩ = some (.int .i64 (py l m)) ∧ w'.cell? ⟨w.heap.size, 0, none⟩ = some (.int .i64 p) ∧ w'.cell? ⟨w.heap.size, 1, none⟩ = some (.int .i64 q) ∧ Below w.heap.size w w') (by kernel_rfl) ?hs2_0 (fun hH => ?hr2_0)
          case hs2_0 => exact S1.out
          refine held_take 0 15 36 (v := ?v2_0) rfl (by kernel_rfl) (by kernel_rfl) (by kernel_rfl) (by kernel_rfl) (by kernel_rfl) (fun _ _ _ _ h => h) (by kernel_rfl) ?hy2_0 hH ?_
          case hy2_0 => (intro w' hSw; go_simp; try (with_reducible rfl))
          simp only [List.set_cons_zero, List.set_cons_succ]
          refine held_take 1 16 35 (v := ?v2_1) rfl (by kernel_rfl) (by kernel_rfl) (by kernel_rfl) (by kernel_rfl) (by kernel_rfl) (fun _ _ _ _ h => h) (by kernel_rfl) ?hy2_1 hH ?_
          case hy2_1 => (intro w' hSw; go_simp; try (with_reducible rfl))
          simp only [List.set_cons_zero, List.set_cons_succ]
          refine held_take 2 17 34 (v := ?v2_2) rfl (by kernel_rfl) (by kernel_rfl) (by kernel_rfl) (by kernel_rfl) (by kernel_rfl) (fun _ _ _ _ h => h) (by kernel_rfl) ?hy2_2 hH ?_
          case hy2_2 => (intro w' hSw; go_simp; try (with_reducible rfl))
          simp only [List.set_cons_zero, List.set_cons_succ]
          refine held_take 3 18 33 (v := ?v2_3) rfl (by kernel_rfl) (by kernel_rfl) (by kernel_rfl) (by kernel_rfl) (by kernel_rfl) (fun _ _ _ _ h => h) (by kernel_rfl) ?hy2_3 hH ?_
          case hy2_3 => (intro w' hSw; go_simp; try (with_reducible rfl))
          simp only [List.set_cons_zero, List.set_cons_succ]
          refine held_take 4 19 32 (v := ?v2_4) rfl (by kernel_rfl) (by kernel_rfl) (by kernel_rfl) (by kernel_rfl) (by kernel_rfl) (fun _ _ _ _ h => h) (by kernel_rfl) ?hy2_4 hH ?_
          case hy2_4 => (intro w' hSw; go_simp; try (with_reducible rfl))
          simp only [List.set_cons_zero, List.set_cons_succ]
          refine held_take 5 20 31 (v := ?v2_5) rfl (by kernel_rfl) (by kernel_rfl) (by kernel_rfl) (by kernel_rfl) (by kernel_rfl) (fun _ _ _ _ h => h) (by kernel_rfl) ?hy2_5 hH ?_
          case hy2_5 => (intro w' hSw; go_simp; try (with_reducible rfl))
          simp only [List.set_cons_zero, List.set_cons_succ]
          refine held_take 6 21 30 (v := ?v2_6) rfl (by kernel_rfl) (by kernel_rfl) (by kernel_rfl) (by kernel_rfl) (by kernel_rfl) (fun _ _ _ _ h => h) (by kernel_rfl) ?hy2_6 hH ?_
          case hy2_6 => (intro w' hSw; go_simp; try (with_reducible rfl))
          simp only [List.set_cons_zero, List.set_cons_succ]
          refine held_take 7 22 29 (v := ?v2_7) rfl (by kernel_rfl) (by kernel_rfl) (by kernel_rfl) (by kernel_rfl) (by kernel_rfl) (fun _ _ _ _ h => h) (by kernel_rfl) ?hy2_7 hH ?_
          case hy2_7 => (intro w' hSw; go_simp; try (with_reducible rfl))
          simp only [List.set_cons_zero, List.set_cons_succ]
          refine held_take 8 23 28 (v := ?v2_8) rfl (by kernel_rfl) (by kernel_rfl) (by kernel_rfl) (by kernel_rfl) (by kernel_rfl) (fun _ _ _ _ h => h) (by kernel_rfl) ?hy2_8 hH ?_
          case hy2_8 => (intro w' hSw; go_simp; try (with_reducible rfl))
          simp only [List.set_cons_zero, List.set_cons_succ]
          refine wpAnyH_ready (rs := [9]) (by kernel_rfl) (by simp) ?_
          refine AllReadyH.cons (o := _) rfl (fun K hK => ?st2_9) AllReadyH.nil
          go_simp
          go_at_call 71; (first | (with_reducible refine (left_p HW.out HP.out (show 0 < l.length by omega) (show m - 1 < l.length by omega) _).mono ?_) | (with_reducible refine (left_p HW.out HP.out (show m - 1 < l.length by omega) hlt _).mono ?_) | (with_reducible refine (left_p HW.out HP.out hlt (show 0 < l.length by omega) _).mono ?_)); rintro e w9 ⟨rfl, hb9⟩
          refine hK.out _ _ ?hs2_9 (fun hH2 => ?hr2_9)
          case hs2_9 => (obtain ⟨q0, q1, q2, q3, q4, q5, q6, q7, q8⟩ := hH; exact ⟨keepCell hb9 q0, keepCell hb9 q1, keepCell hb9 q2, keepCell hb9 q3, keepCell hb9 q4, keepCell hb9 q5, keepCell hb9 q6, keepCell hb9 q7, keepBelow hb9 q8⟩)
          clear hK K hH
          have hH := hH2
          clear hH2
          try simp only [Act.put, List.setIfInBounds_toArray, List.set_cons_zero, List.set_cons_succ]
          refine held_take 10 25 26 (v := ?v2_10) rfl (by kernel_rfl) (by kernel_rfl) (by kernel_rfl) (by kernel_rfl) (by kernel_rfl) (fun _ _ _ _ h => h) (by kernel_rfl) ?hy2_10 hH ?_
          case hy2_10 => (intro w' hSw; go_simp; try (with_reducible rfl))
          simp only [List.set_cons_zero, List.set_cons_succ]
          refine held_take 11 26 25 (v := ?v2_11) rfl (by kernel_rfl) (by kernel_rfl) (by kernel_rfl) (by kernel_rfl) (by kernel_rfl) (fun _ _ _ _ h => h) (by kernel_rfl) ?hy2_11 hH ?_
          case hy2_11 => (intro w' hSw; go_simp; try (with_reducible rfl))
          simp only [List.set_cons_zero, List.set_cons_succ]
          refine held_skips (by kernel_rfl) (fun _ _ _ _ h => h) hH [(12, 27), (13, 28), (14, 29), (15, 30), (16, 31), (17, 32), (18, 33), (19, 34), (20, 35), (21, 36), (22, 37), (23, 38)] 13 _ _ _ (by kernel_rfl) (by kernel_rfl) ?_
          simp only [setUndef, List.set_cons_zero, List.set_cons_succ]
          refine held_take 24 39 12 (v := ?v2_24) rfl (by kernel_rfl) (by kernel_rfl) (by kernel_rfl) (by kernel_rfl) (by kernel_rfl) (fun _ _ _ _ h => h) (by kernel_rfl) ?hy2_24 hH ?_
          case hy2_24 => (intro w' hSw; go_simp; try (with_reducible rfl))
          simp only [List.set_cons_zero, List.set_cons_succ]
          refine held_take 25 40 11 (v := ?v2_25) rfl (by kernel_rfl) (by kernel_rfl) (by kernel_rfl) (by kernel_rfl) (by kernel_rfl) (fun _ _ _ _ h => h) (by kernel_rfl) ?hy2_25 hH ?_
          case hy2_25 => (intro w' hSw; go_simp; try (with_reducible rfl))
          simp only [List.set_cons_zero, List.set_cons_succ]
          refine held_skips (by kernel_rfl) (fun _ _ _ _ h => h) hH [(26, 41), (27, 42), (28, 43), (29, 44), (30, 45), (31, 46), (32, 47), (33, 48), (34, 49), (35, 50)] 1 _ _ _ (by kernel_rfl) (by kernel_rfl) ?_
          simp only [setUndef, List.set_cons_zero, List.set_cons_succ]
          refine held_take 36 51 0 (v := ?v2_36) rfl (by kernel_rfl) (by kernel_rfl) (by kernel_rfl) (by kernel_rfl) (by kernel_rfl) (fun _ _ _ _ h => h) (by kernel_rfl) ?hy2_36 hH ?_
          case hy2_36 => (intro w' hSw; go_simp; try (with_reducible rfl))
          simp only [List.set_cons_zero, List.set_cons_succ]
          refine wpAnyH_done (by kernel_rfl) ?_ _
          refine NoPanic.normal ?_
          go_wp2
          go_split_ands
          go_roundw
          case rel => exact ⟨m + 1, by omega, by omega, by go_num, noTri_succ HN.out HF.out, by assumption, by assumption, by assumption⟩
          case measure => simp [intOf]; omega
      · have hge : l.length ≤ m := by omega
        clear kp kq
        go_wp2
        go_returns
        exact ret_bool (insB_false (by have := HN.out; rwa [show m = l.length by omega] at this)).symm hB

end Go.Proofs.Ytjoodpjndpdjnaa
