/- The contract of the reference's Far. -/
import Derived.Test.YtjoodpjndpdjnaaA16
namespace Go.Proofs.Ytjoodpjndpdjnaa
set_option linter.unusedVariables false
set_option linter.unusedSimpArgs false
open Go.RowKit

/-- corner k does not hinder corner i from being the first farthest one -/
def okFar (l : List V) (u v : Int) (i k : Nat) : Bool := decide (dotL l u v k < dotL l u v i ∨ dotL l u v k = dotL l u v i ∧ i ≤ k)
def okTo (l : List V) (u v : Int) (i : Nat) : Nat → Bool
  | 0 => true
  | k + 1 => okTo l u v i k && okFar l u v i k
theorem okTo_iff (l : List V) (u v : Int) (i k : Nat) : okTo l u v i k = true ↔ ∀ j, j < k → okFar l u v i j = true := by
  induction k with
  | zero => simp [okTo]
  | succ k ih =>
    simp only [okTo, Bool.and_eq_true, ih]
    constructor
    · rintro ⟨h1, h2⟩ j hj
      by_cases e : j = k
      · subst e; exact h2
      · exact h1 j (by omega)
    · exact fun h => ⟨fun j hj => h j (by omega), h k (by omega)⟩
def noFar (l : List V) (u v : Int) (i : Nat) : Prop := ∀ j, j < i → okTo l u v j l.length = false
theorem noFar_zero (l : List V) (u v : Int) : noFar l u v 0 := fun _ h => absurd h (by omega)
theorem noFar_succ {l : List V} {u v : Int} {i : Nat} (h : noFar l u v i) (hi : okTo l u v i l.length = false) : noFar l u v (i + 1) := fun j hj => by
  by_cases e : j = i
  · subst e; exact hi
  · exact h j (by omega)
/-- the reference's Far: the first corner that nothing hinders -/
def farIs (l : List V) (u v : Int) (r : Int) : Prop := (∃ i : Nat, r = i ∧ i < l.length ∧ noFar l u v i ∧ okTo l u v i l.length = true) ∨ (r = -1 ∧ noFar l u v l.length)
def RetFar (l : List V) (u v : Int) (w : World) (e : Ending) (w' : World) : Prop := ∃ r, farIs l u v r ∧ Ret (.int .i64 r) w e w'
theorem rdot_l {l : List V} (hw : allWithin 65536000 l = true) {u v : Int} (hu : i64 u) (hv : i64 v) {j : Nat} (hj : j < l.length) (w : World) :
    Calls Try.prog 42 #[vecV (px l j) (py l j), vecV u v] w (Ret (bigV (dotL l u v j)) w) := rdot_calls _ _ _ _ (within_i64 hw hj).1 (within_i64 hw hj).2 hu hv w

set_option maxRecDepth 100000 in
set_option maxHeartbeats 2000000 in
theorem far_calls (A : Option Addr) (n c : Nat) (l : List V) (u v : Int) (hu : i64 u) (hv : i64 v) (w : World) (hS : Sl w A n c l) (hw : allWithin 65536000 l = true) (h8 : l.length ≤ 8) (h0 : 3 ≤ l.length) :
    Calls Try.prog 23 #[.slice A n c, vecV u v] w (RetFar l u v w) := by
  obtain ⟨b, off, rfl, hC⟩ := hS.at_ (by intro h; subst h; simp at h0)
  have hn := hS.len
  subst hn
  have hb2 := hC.lt
  have hcap := hS.cap
  have HC := hid hC
  have HW := hid hw
  have HU := hid hu
  have HV := hid hv
  clear hS hC hw hu hv
  go_enter Try.func23, Try.ntmps23
  go_wp2
  go_loopw [13] (fun s wr => ∃ i : Nat, i ≤ l.length ∧ s = .int .i64 i ∧ noFar l u v i ∧ Below w.heap.size w wr ∧ wr.cell? ⟨w.heap.size, 0, none⟩ = some (.int .i64 u) ∧ wr.cell? ⟨w.heap.size, 1, none⟩ = some (.int .i64 v)) (fun s _ => l.length - (intOf s).toNat)
  case atStart => exact ⟨0, Nat.zero_le _, rfl, noFar_zero _ _ _, by go_grown, by go_simp, by go_simp⟩
  case round =>
    obtain ⟨i, hi, rfl, hno, hB, ku, kv⟩ := hrel
    obtain ⟨wo, rfl⟩ : ∃ wo : World, wo = wr := ⟨_, rfl⟩
    have HN := hid hno
    clear hno
    by_cases hlt : i < l.length
    · have hCo := HC.out.below hB
      have hx := hCo.x i hlt
      have hy := hCo.y i hlt
      have hbo := hCo.lt
      have hwo := lt_of_cell ku
      have KU := hid ku
      have KV := hid kv
      clear hCo ku kv
      obtain ⟨Wb, hWb⟩ : ∃ Wb, Wb = (wo.alloc (.cells #[.int .i64 (px l i), .int .i64 (py l i)] 24)) := ⟨_, rfl⟩
      have hWs : wo.heap.size < Wb.heap.size := by subst hWb; simp
      have hWB : Below wo.heap.size wo Wb := by subst hWb; exact (Below.refl _ _).alloc (Nat.le_refl _) _
      have hWx : Wb.cell? ⟨wo.heap.size, 0, none⟩ = some (.int .i64 (px l i)) ∧ Wb.cell? ⟨wo.heap.size, 1, none⟩ = some (.int .i64 (py l i)) := by subst hWb; exact ⟨by go_simp, by go_simp⟩
      have HWx := hid hWx
      clear hWx
      go_wp2
      rw [← hWb]
      clear hWb
      go_loopw [7, 20] (fun t s wr => ∃ k : Nat, k ≤ l.length ∧ s = .int .i64 k ∧ t = .bool (okTo l u v i k) ∧ Below Wb.heap.size Wb wr) (fun _ s _ => l.length - (intOf s).toNat)
      case atStart => exact ⟨0, Nat.zero_le _, rfl, rfl, Below.refl _ _⟩
      case round =>
        obtain ⟨k, hk, rfl, rfl, hBi⟩ := hrel
        obtain ⟨wi, rfl⟩ : ∃ wi : World, wi = wr := ⟨_, rfl⟩
        have hz1 : wo.heap.size < wi.heap.size := Nat.lt_of_lt_of_le hWs hBi.size
        have hz2 : w.heap.size < wi.heap.size := by omega
        have hBo : Below wo.heap.size wo wi := hWB.trans (hBi.mono (by omega))
        have hBw : Below w.heap.size w wi := hB.trans (hBo.mono hB.size)
        by_cases hlt2 : k < l.length
        · have hCi := HC.out.below hBw
          have hx3 := hCi.x k hlt2
          have hy3 := hCi.y k hlt2
          have hbi := hCi.lt
          have gx : wi.cell? ⟨wo.heap.size, 0, none⟩ = some (.int .i64 (px l i)) := keepCell hBi HWx.out.1
          have gy : wi.cell? ⟨wo.heap.size, 1, none⟩ = some (.int .i64 (py l i)) := keepCell hBi HWx.out.2
          have gu : wi.cell? ⟨w.heap.size, 0, none⟩ = some (.int .i64 u) := keepCell hBo KU.out
          have gv : wi.cell? ⟨w.heap.size, 1, none⟩ = some (.int .i64 v) := keepCell hBo KV.out
          have b1 := hid (dotL_bd HW.out HU.out HV.out hlt)
          have b2 := hid (dotL_bd HW.out HU.out HV.out hlt2)
          have s1 : (wi.alloc (.cells #[.int .i64 (px l k), .int .i64 (py l k)] 24)).drew.cell? ⟨wi.heap.size, 0, none⟩ = some (.int .i64 (px l k)) ∧ (wi.alloc (.cells #[.int .i64 (px l k), .int .i64 (py l k)] 24)).drew.cell? ⟨wi.heap.size, 1, none⟩ = some (.int .i64 (py l k)) ∧ (wi.alloc (.cells #[.int .i64 (px l k), .int .i64 (py l k)] 24)).drew.cell? ⟨wo.heap.size, 0, none⟩ = some (.int .i64 (px l i)) ∧ (wi.alloc (.cells #[.int .i64 (px l k), .int .i64 (py l k)] 24)).drew.cell? ⟨wo.heap.size, 1, none⟩ = some (.int .i64 (py l i)) ∧ (wi.alloc (.cells #[.int .i64 (px l k), .int .i64 (py l k)] 24)).drew.cell? ⟨w.heap.size, 0, none⟩ = some (.int .i64 u) ∧ (wi.alloc (.cells #[.int .i64 (px l k), .int .i64 (py l k)] 24)).drew.cell? ⟨w.heap.size, 1, none⟩ = some (.int .i64 v) ∧ Below Wb.heap.size Wb (wi.alloc (.cells #[.int .i64 (px l k), .int .i64 (py l k)] 24)).drew := ⟨by go_simp, by go_simp, by go_simp, by go_simp, by go_simp, by go_simp, ((hBi.alloc hBi.size _)).drew⟩
          have S1 := hid s1
          clear s1
          clear hCi
          go_wp2
          go_region_held3 (fun w' => w'.cell? ⟨wi.heap.size, 0, none⟩ = some (.int .i64 (px l k)) ∧ w'.cell? ⟨wi.heap.size, 1, none⟩ = some (.int .i64 (py l k)) ∧ w'.cell? ⟨wo.heap.size, 0, none⟩ = some (.int .i64 (px l i)) ∧ w'.cell? ⟨wo.heap.size, 1, none⟩ = some (.int .i64 (py l i)) ∧ w'.cell? ⟨w.heap.size, 0, none⟩ = some (.int .i64 u) ∧ w'.cell? ⟨w.heap.size, 1, none⟩ = some (.int .i64 v) ∧ Below Wb.heap.size Wb w')
            (first | with_reducible exact S1.out | (go_split_ands; with_reducible exact ⟨keepCell hb3 (by assumption), keepCell hb3 (by assumption), keepCell hb3 (by assumption), keepCell hb3 (by assumption), keepCell hb3 (by assumption), keepCell hb3 (by assumption), keepBelow hb3 (by assumption)⟩))
            (first | (go_at_call 42; (first | (with_reducible refine (rdot_l HW.out HU.out HV.out hlt _).mono ?_) | (with_reducible refine (rdot_l HW.out HU.out HV.out hlt2 _).mono ?_)); rintro e w3 ⟨rfl, hb3⟩) | (go_at_call 41; refine (bcmp_calls _ _ b2.out.1 b2.out.2 b1.out.1 b1.out.2 _).mono ?_; rintro e w3 ⟨rfl, hb3⟩))
          go_split_ands
          have hBn : Below Wb.heap.size Wb w3 := by assumption
          generalize hcc : cmpZ (dotL l u v k) (dotL l u v i) = cc
          have HCC := hid hcc
          clear hcc
          cases hok : okTo l u v i k with
          | false =>
            have HOK := hid hok
            clear hok
            go_wp2
            go_roundw
            case rel => exact ⟨k + 1, hlt2, by go_num, by rw [okTo, HOK.out]; rfl, hBn⟩
            case measure => simp [intOf]; omega
          | true =>
            have HOK := hid hok
            clear hok
            by_cases c1 : cc < 0
            · have g1 : decide (cc < 0) = true := decide_eq_true c1
              go_wp2
              go_roundw
              case rel => exact ⟨k + 1, hlt2, by go_num, by rw [okTo, HOK.out, okFar, decide_eq_true (.inl (cmpZ_neg.1 (by rw [HCC.out]; exact c1)))]; rfl, hBn⟩
              case measure => simp [intOf]; omega
            · have g1 : decide (cc < 0) = false := decide_eq_false c1
              by_cases c2 : cc = 0
              · have g2 : (cc == 0) = true := by simp [c2]
                have hd := hid (cmpZ_zero.1 (show cmpZ (dotL l u v k) (dotL l u v i) = 0 by rw [HCC.out]; exact c2))
                have C2 := hid c2
                clear c2
                by_cases c3 : i ≤ k
                · go_wp2
                  go_roundw
                  case rel => exact ⟨k + 1, hlt2, by go_num, by rw [okTo, HOK.out, okFar, decide_eq_true (.inr ⟨hd.out, c3⟩)]; simp <;> omega, hBn⟩
                  case measure => simp [intOf]; omega
                · go_wp2
                  go_roundw
                  case rel => exact ⟨k + 1, hlt2, by go_num, by rw [okTo, HOK.out, okFar, decide_eq_false (fun h => h.elim (fun h => absurd (cmpZ_neg.2 h) (by rw [HCC.out]; exact c1)) (fun h => c3 h.2))]; simp <;> omega, hBn⟩
                  case measure => simp [intOf]; omega
              · have g2 : (cc == 0) = false := by simp [c2]
                have hd := hid (fun h => c2 (by rw [← HCC.out]; exact cmpZ_zero.2 h) : ¬ dotL l u v k = dotL l u v i)
                have C2 := hid c2
                clear c2
                go_wp2
                go_roundw
                case rel => exact ⟨k + 1, hlt2, by go_num, by rw [okTo, HOK.out, okFar, decide_eq_false (fun h => h.elim (fun h => absurd (cmpZ_neg.2 h) (by rw [HCC.out]; exact c1)) (fun h => hd.out h.1))]; rfl, hBn⟩
                case measure => simp [intOf]; omega
        · have hge : l.length ≤ k := by omega
          cases hok : okTo l u v i k with
          | false =>
            have HOK := hid hok
            clear hok
            go_wp2
            go_roundw
            case rel => exact ⟨i + 1, hlt, by go_num, noFar_succ HN.out (by rw [show l.length = k by omega]; exact HOK.out), hBw, keepCell hBo KU.out, keepCell hBo KV.out⟩
            case measure => simp [intOf]; omega
          | true =>
            have HOK := hid hok
            clear hok
            go_wp2
            go_returns
            exact ⟨i, .inl ⟨i, rfl, hlt, HN.out, by rw [show l.length = k by omega]; exact HOK.out⟩, rfl, hBw⟩
    · have hge : l.length ≤ i := by omega
      clear ku kv
      go_wp2
      go_returns
      exact ⟨-1, .inr ⟨rfl, by have := HN.out; rwa [show i = l.length by omega] at this⟩, rfl, hB⟩

end Go.Proofs.Ytjoodpjndpdjnaa
