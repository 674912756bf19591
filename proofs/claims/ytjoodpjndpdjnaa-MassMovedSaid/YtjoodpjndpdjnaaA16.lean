/- The contract of the reference's Poly. -/
import Derived.Test.YtjoodpjndpdjnaaA15
import Derived.Test.YtjoodpjndpdjnaaA11
namespace Go.Proofs.Ytjoodpjndpdjnaa
set_option linter.unusedVariables false
set_option linter.unusedSimpArgs false
open Go.RowKit

/-- all triples from i, from (i, k), from (i, k, m) on to the end turn left -/
def tri1 (l : List V) (i : Nat) : Prop := ∀ i', i' < i → ∀ k, i' < k → k < l.length → ∀ m, k < m → m < l.length → 0 < sideL l i' k m
def tri2 (l : List V) (i k : Nat) : Prop := ∀ k', i < k' → k' < k → ∀ m, k' < m → m < l.length → 0 < sideL l i k' m
def tri3 (l : List V) (i k m : Nat) : Prop := ∀ m', k < m' → m' < m → 0 < sideL l i k m'
/-- the reference's Poly -/
def polyE (l : List V) : Int :=
  if 8 < l.length then 2 else if l.length < 3 then 3 else if allWithin 65536000 l = false then 1
  else if (List.range l.length).all (fun i => (List.range l.length).all fun k => (List.range l.length).all fun m => decide (i < k → k < m → 0 < sideL l i k m)) then 0 else 3
theorem polyE_ok {l : List V} (h8 : l.length ≤ 8) (h3 : 3 ≤ l.length) (hw : allWithin 65536000 l = true) (h : tri1 l l.length) : polyE l = 0 := by
  unfold polyE
  rw [if_neg (by omega), if_neg (by omega), if_neg (by simp [hw]), if_pos]
  simp only [List.all_eq_true, List.mem_range, decide_eq_true_iff]
  intro i hi k hk m hm h1 h2
  exact h i hi k h1 hk m h2 hm
theorem polyE_bad {l : List V} {i k m : Nat} (h8 : l.length ≤ 8) (h3 : 3 ≤ l.length) (hw : allWithin 65536000 l = true) (hi : i < k) (hk : k < m) (hm : m < l.length) (h : sideL l i k m ≤ 0) : polyE l = 3 := by
  unfold polyE
  rw [if_neg (by omega), if_neg (by omega), if_neg (by simp [hw]), if_neg]
  simp only [List.all_eq_true, List.mem_range, decide_eq_true_iff]
  intro hh
  have := hh i (by omega) k (by omega) m hm hi hk
  omega
theorem polyE_zero {l : List V} (h : polyE l = 0) : l.length ≤ 8 ∧ 3 ≤ l.length ∧ allWithin 65536000 l = true ∧ tri1 l l.length := by
  unfold polyE at h
  split at h
  · omega
  · split at h
    · omega
    · split at h
      · omega
      · split at h
        · rename_i h1 h2 h3 h4
          refine ⟨by omega, by omega, by simpa using h3, fun i hi k hik hk m hkm hm => ?_⟩
          simp only [List.all_eq_true, List.mem_range, decide_eq_true_iff] at h4
          exact h4 i hi k hk m hm hik hkm
        · omega
theorem tri1_zero (l : List V) : tri1 l 0 := fun _ h => absurd h (by omega)
theorem tri1_succ {l : List V} {i : Nat} (h : tri1 l i) (h2 : tri2 l i l.length) : tri1 l (i + 1) := fun i' hi k hik hk m hkm hm => by
  by_cases e : i' = i
  · subst e; exact h2 k hik hk m hkm hm
  · exact h i' (by omega) k hik hk m hkm hm
theorem tri2_zero (l : List V) (i : Nat) : tri2 l i (i + 1) := fun _ h1 h2 => absurd h1 (by omega)
theorem tri2_succ {l : List V} {i k : Nat} (h : tri2 l i k) (h3 : tri3 l i k l.length) : tri2 l i (k + 1) := fun k' hik hk m hkm hm => by
  by_cases e : k' = k
  · subst e; exact h3 m hkm hm
  · exact h k' hik (by omega) m hkm hm
theorem tri3_zero (l : List V) (i k : Nat) : tri3 l i k (k + 1) := fun _ h1 h2 => absurd h1 (by omega)
theorem tri3_succ {l : List V} {i k m : Nat} (h : tri3 l i k m) (hm : 0 < sideL l i k m) : tri3 l i k (m + 1) := fun m' hkm hm' => by
  by_cases e : m' = m
  · subst e; exact hm
  · exact h m' hkm (by omega)
theorem within_sm {l : List V} (hw : allWithin 65536000 l = true) {j : Nat} (hj : j < l.length) : sm (px l j) ∧ sm (py l j) := by
  obtain ⟨_, _, _, _⟩ := withinB_iff.1 (allWithin_at hw hj)
  unfold sm
  omega
theorem left_l {l : List V} (hw : allWithin 65536000 l = true) {i k m : Nat} (hi : i < l.length) (hk : k < l.length) (hm : m < l.length) (w : World) :
    Calls Try.prog 71 #[vecV (px l i) (py l i), vecV (px l k) (py l k), vecV (px l m) (py l m)] w (Ret (.int .i64 (cmpZ (sideL l i k m) 0)) w) :=
  left_calls _ _ _ _ _ _ (within_sm hw hi).1 (within_sm hw hi).2 (within_sm hw hk).1 (within_sm hw hk).2 (within_sm hw hm).1 (within_sm hw hm).2 w

def inTo (l : List V) (k : Nat) : Prop := ∀ j, j < k → withinB 65536000 (px l j) (py l j) = true
theorem inTo_zero (l : List V) : inTo l 0 := fun _ h => absurd h (by omega)
theorem inTo_succ {l : List V} {k : Nat} (h : inTo l k) (hk : withinB 65536000 (px l k) (py l k) = true) : inTo l (k + 1) := fun j hj => by
  by_cases e : j = k
  · subst e; exact hk
  · exact h j (by omega)
theorem inTo_all {l : List V} (h : inTo l l.length) : allWithin 65536000 l = true := by
  unfold allWithin
  rw [List.all_eq_true]
  intro p hp
  obtain ⟨j, hj, rfl⟩ := List.mem_iff_getElem.1 hp
  have := h j hj
  rw [px_lt hj]
  exact this
theorem inTo_not {l : List V} {k : Nat} (hk : k < l.length) (h : withinB 65536000 (px l k) (py l k) = false) : allWithin 65536000 l = false := by
  cases e : allWithin 65536000 l with
  | false => rfl
  | true => rw [allWithin_at e hk] at h; cases h

set_option maxRecDepth 100000 in
set_option maxHeartbeats 1000000 in
theorem rpoly_calls (A : Option Addr) (n c : Nat) (l : List V) (w : World) (hS : Sl w A n c l) :
    Calls Try.prog 16 #[.slice A n c] w (Ret (.int .i64 (polyE l)) w) := by
  have hn := hS.len
  subst hn
  have hcap := hS.cap
  have hbig := hS.big
  by_cases h8 : 8 < l.length
  · clear hS
    go_enter Try.func16, Try.ntmps16
    go_wp2
    go_returns
    exact ret_int (by rw [polyE, if_pos h8]) (Below.refl _ _)
  by_cases h3 : l.length < 3
  · clear hS
    go_enter Try.func16, Try.ntmps16
    go_wp2
    go_returns
    exact ret_int (by rw [polyE, if_neg h8, if_pos h3]) (Below.refl _ _)
  obtain ⟨b, off, rfl, hC⟩ := hS.at_ (by intro h; subst h; simp at h3)
  have hb2 := hC.lt
  have HC := hid hC
  clear hS hC
  go_enter Try.func16, Try.ntmps16
  go_wp2
  go_loopw [19] (fun i wr => ∃ k : Nat, k ≤ l.length ∧ i = .int .i64 k ∧ inTo l k ∧ Below w.heap.size w wr) (fun i _ => l.length - (intOf i).toNat)
  case atStart => exact ⟨0, Nat.zero_le _, rfl, inTo_zero _, Below.refl _ _⟩
  case round =>
    obtain ⟨k, hk, rfl, hin, hB⟩ := hrel
    obtain ⟨wo, rfl⟩ : ∃ wo : World, wo = wr := ⟨_, rfl⟩
    have HI := hid hin
    clear hin
    by_cases hlt : k < l.length
    · have hCo := HC.out.below hB
      have hx := hCo.x k hlt
      have hy := hCo.y k hlt
      have hbo := hCo.lt
      clear hCo
      cases hP : withinB 65536000 (px l k) (py l k) with
      | false =>
        have HP := hid hP
        clear hP
        go_wp2_with (go_at_call 70; refine (coord_calls _ _ 65536000 _ (by omega) (by omega)).mono ?_; rintro e w2 ⟨rfl, hb2⟩; rw [HP.out])
        go_returns
        exact ret_int (by rw [polyE, if_neg h8, if_neg h3, if_pos (inTo_not hlt HP.out)]) ((hB.alloc hB.size _).trans (hb2.mono (Nat.le_trans hB.size (by simp))))
      | true =>
        have HP := hid hP
        clear hP
        go_wp2_with (go_at_call 70; refine (coord_calls _ _ 65536000 _ (by omega) (by omega)).mono ?_; rintro e w2 ⟨rfl, hb2⟩; rw [HP.out])
        go_roundw
        case rel => exact ⟨k + 1, hlt, by go_num, inTo_succ HI.out HP.out, (hB.alloc hB.size _).trans (hb2.mono (Nat.le_trans hB.size (by simp)))⟩
        case measure => simp [intOf]; omega
    · have hge : l.length ≤ k := by omega
      have hw := hid (inTo_all (by have := HI.out; rwa [show k = l.length by omega] at this))
      go_wp2
      go_loopw [28] (fun s wr => ∃ i : Nat, i ≤ l.length ∧ s = .int .i64 i ∧ tri1 l i ∧ Below w.heap.size w wr) (fun s _ => l.length - (intOf s).toNat)
      case atStart => exact ⟨0, Nat.zero_le _, rfl, tri1_zero _, hB⟩
      case round =>
        obtain ⟨i, hi, rfl, ht1, hB1⟩ := hrel
        have HT1 := hid ht1
        clear ht1
        by_cases hlt1 : i < l.length
        · go_wp2
          go_loopw [7] (fun s wr => ∃ k : Nat, i < k ∧ k ≤ l.length ∧ s = .int .i64 k ∧ tri2 l i k ∧ Below w.heap.size w wr) (fun s _ => l.length - (intOf s).toNat)
          case atStart => exact ⟨i + 1, by omega, hlt1, by go_num, tri2_zero _ _, hB1⟩
          case round =>
            obtain ⟨k, hik, hk, rfl, ht2, hB2⟩ := hrel
            have HT2 := hid ht2
            clear ht2
            by_cases hlt2 : k < l.length
            · go_wp2
              go_loopw [8] (fun s wr => ∃ m : Nat, k < m ∧ m ≤ l.length ∧ s = .int .i64 m ∧ tri3 l i k m ∧ Below w.heap.size w wr) (fun s _ => l.length - (intOf s).toNat)
              case atStart => exact ⟨k + 1, by omega, hlt2, by go_num, tri3_zero _ _ _, hB2⟩
              case round =>
                obtain ⟨m, hkm, hm, rfl, ht3, hB3⟩ := hrel
                have HT3 := hid ht3
                clear ht3
                by_cases hlt3 : m < l.length
                · have hCr := HC.out.below hB3
                  have e1 : (i : Int) < (l.length : Int) := by omega
                  have e2 : (k : Int) < (l.length : Int) := by omega
                  have e3 : (m : Int) < (l.length : Int) := by omega
                  have s1 : wr.drew.cell? ⟨b, off + i * 2, none⟩ = some (.int .i64 (px l i)) ∧ wr.drew.cell? ⟨b, off + i * 2 + 1, none⟩ = some (.int .i64 (py l i)) ∧ wr.drew.cell? ⟨b, off + k * 2, none⟩ = some (.int .i64 (px l k)) ∧ wr.drew.cell? ⟨b, off + k * 2 + 1, none⟩ = some (.int .i64 (py l k)) ∧ wr.drew.cell? ⟨b, off + m * 2, none⟩ = some (.int .i64 (px l m)) ∧ wr.drew.cell? ⟨b, off + m * 2 + 1, none⟩ = some (.int .i64 (py l m)) ∧ Below w.heap.size w wr.drew := ⟨hCr.x i hlt1, hCr.y i hlt1, hCr.x k hlt2, hCr.y k hlt2, hCr.x m hlt3, hCr.y m hlt3, hB3.drew⟩
                  have S1 := hid s1
                  clear s1
                  clear hCr
                  go_wp2
                  go_region_held3 (fun w' => w'.cell? ⟨b, off + i * 2, none⟩ = some (.int .i64 (px l i)) ∧ w'.cell? ⟨b, off + i * 2 + 1, none⟩ = some (.int .i64 (py l i)) ∧ w'.cell? ⟨b, off + k * 2, none⟩ = some (.int .i64 (px l k)) ∧ w'.cell? ⟨b, off + k * 2 + 1, none⟩ = some (.int .i64 (py l k)) ∧ w'.cell? ⟨b, off + m * 2, none⟩ = some (.int .i64 (px l m)) ∧ w'.cell? ⟨b, off + m * 2 + 1, none⟩ = some (.int .i64 (py l m)) ∧ Below w.heap.size w w')
                    (first | with_reducible exact S1.out | (go_split_ands; with_reducible exact ⟨keepCell hb3 (by assumption), keepCell hb3 (by assumption), keepCell hb3 (by assumption), keepCell hb3 (by assumption), keepCell hb3 (by assumption), keepCell hb3 (by assumption), keepBelow hb3 (by assumption)⟩))
                    (first | (go_at_call 71; refine (left_l hw.out hlt1 hlt2 hlt3 _).mono ?_; rintro e w3 ⟨rfl, hb3⟩))
                  go_wp2
                  all_goals go_split_ands
                  · go_returns
                    exact ret_int (polyE_bad (by omega) (by omega) hw.out hik hkm hlt3 (cmpZ_nonpos.1 (by assumption))).symm (by assumption)
                  · go_roundw
                    case rel => exact ⟨m + 1, by omega, by omega, by go_num, tri3_succ HT3.out (cmpZ_pos.1 (by assumption)), by assumption⟩
                    case measure => simp [intOf]; omega
                · have hge3 : l.length ≤ m := by omega
                  go_wp2
                  go_roundw
                  case rel => exact ⟨k + 1, by omega, by omega, by go_num, tri2_succ HT2.out (by have := HT3.out; rwa [show m = l.length by omega] at this), hB3⟩
                  case measure => simp [intOf]; omega
            · have hge2 : l.length ≤ k := by omega
              go_wp2
              go_roundw
              case rel => exact ⟨i + 1, by omega, by go_num, tri1_succ HT1.out (by have := HT2.out; rwa [show k = l.length by omega] at this), hB2⟩
              case measure => simp [intOf]; omega
        · have hge1 : l.length ≤ i := by omega
          go_wp2
          go_returns
          exact ret_int (polyE_ok (by omega) (by omega) hw.out (by have := HT1.out; rwa [show i = l.length by omega] at this)).symm hB1

end Go.Proofs.Ytjoodpjndpdjnaa
