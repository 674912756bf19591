/- The contract of poly.Check. -/
import Derived.Test.YtjoodpjndpdjnaaA2
namespace Go.Proofs.Ytjoodpjndpdjnaa
set_option linter.unusedVariables false
set_option linter.unusedSimpArgs false
open Go.RowKit

abbrev blkV (l : List V) (i : Nat) : Obj := .cells #[.int .i64 (px l i), .int .i64 (py l i)] 24

set_option maxRecDepth 100000 in
set_option maxHeartbeats 1000000 in
theorem check_calls (A : Option Addr) (n c : Nat) (l : List V) (w : World) (hS : Sl w A n c l) :
    Calls Try.prog 18 #[.slice A n c] w (Ret (.int .i64 (checkE l)) w) := by
  have hS0 := hS
  obtain ⟨hn, hcap, hbig, hat⟩ := hS
  subst hn
  by_cases h8 : 8 < l.length
  · clear hat
    go_enter Try.func18, Try.ntmps18
    go_wp2
    go_returns
    exact ret_int (by rw [checkE, if_pos h8]) (Below.refl _ _)
  by_cases h3 : l.length < 3
  · clear hat
    go_enter Try.func18, Try.ntmps18
    go_wp2
    go_returns
    exact ret_int (by rw [checkE, if_neg h8, if_pos h3]) (Below.refl _ _)
  cases hw : allWithin 65536000 l with
  | false =>
    have HW := hid hw
    clear hat hw
    go_enter Try.func18, Try.ntmps18
    go_wp2_with (go_at_call 73; refine (containsFunc_check1 _ _ _ l _ hS0).mono ?_; rintro e w1 ⟨rfl, hb⟩; rw [HW.out])
    go_returns
    exact ret_int (by rw [checkE, if_neg h8, if_neg h3, if_pos HW.out]) hb
  | true =>
    obtain ⟨b, off, rfl, hC⟩ := hat (by intro h; subst h; simp at h3)
    have HW := hid hw
    clear hat hw
    go_enter Try.func18, Try.ntmps18
    go_wp2_with (go_at_call 73; refine (containsFunc_check1 _ _ _ l _ hS0).mono ?_; rintro e w1 ⟨rfl, hb⟩; rw [HW.out])
    have hC1 := hC.below hb
    go_loopw [18] (fun i wr => ∃ k : Nat, k ≤ l.length ∧ i = .int .i64 k ∧ rowsOk l k ∧ Below w.heap.size w wr ∧ Below w1.heap.size w1 wr) (fun i _ => l.length - (intOf i).toNat)
    case atStart => exact ⟨0, Nat.zero_le _, rfl, rowsOk_zero _, hb, Below.refl _ _⟩
    case round =>
      obtain ⟨k, hk, rfl, hno, hB, hB1⟩ := hrel
      obtain ⟨wo, rfl⟩ : ∃ wo : World, wo = wr := ⟨_, rfl⟩
      have HN := hid hno
      have hCo := hC1.below hB1
      have hbo := hCo.lt
      have hC1H := hid hC1
      clear hno hC hC1
      by_cases hlt : k < l.length
      · have hx := hCo.x k hlt
        have hy := hCo.y k hlt
        have hj : (k + 1) % l.length < l.length := Nat.mod_lt _ (by omega)
        have hji : ((k : Int) + 1) % (l.length : Int) < (l.length : Int) := Int.emod_lt_of_pos _ (by omega)
        have hj0 : 0 ≤ ((k : Int) + 1) % (l.length : Int) := Int.emod_nonneg _ (by omega)
        have hx2 := hCo.x _ hj
        have hy2 := hCo.y _ hj
        have HC := hid hCo
        clear hCo
        go_wp2
        go_loopw [33] (fun i wr => ∃ m : Nat, m ≤ l.length ∧ i = .int .i64 m ∧ colsOk l k m ∧ Below (wo.heap.size + 2) ((wo.alloc (blkV l k)).alloc (blkV l ((k + 1) % l.length))) wr) (fun i _ => l.length - (intOf i).toNat)
        case atStart => exact ⟨0, Nat.zero_le _, rfl, colsOk_zero _ _, Below.refl _ _⟩
        case round =>
          obtain ⟨m, hm, rfl, hcol, hBi⟩ := hrel
          have HCo := hid hcol
          clear hcol
          obtain ⟨wi, rfl⟩ : ∃ wi : World, wi = wr := ⟨_, rfl⟩
          have hsz : wo.heap.size + 2 ≤ wi.heap.size := by simpa using hBi.size
          have hBwi : Below w.heap.size w wi := hB.trans ((((Below.refl _ _).alloc (Nat.le_refl _) _).alloc (by simp) _).trans (hBi.mono (by omega)) |>.mono hB.size)
          have hB1wi : Below w1.heap.size w1 wi := hB1.trans ((((Below.refl _ _).alloc (Nat.le_refl _) _).alloc (by simp) _).trans (hBi.mono (by omega)) |>.mono hB1.size)
          have hCi := hC1H.out.below hB1wi
          by_cases hlt2 : m < l.length
          · have hx3 := hCi.x m hlt2
            have hy3 := hCi.y m hlt2
            have hz1 : wo.heap.size < wi.heap.size := by omega
            have hz2 : wo.heap.size + 1 < wi.heap.size := by omega
            have gx1 : wi.cell? ⟨wo.heap.size, 0, none⟩ = some (.int .i64 (px l k)) := ((bcell hBi).1 _ _ (by omega)).trans (by go_simp)
            have gy1 : wi.cell? ⟨wo.heap.size, 1, none⟩ = some (.int .i64 (py l k)) := ((bcell hBi).1 _ _ (by omega)).trans (by go_simp)
            have gx2 : wi.cell? ⟨wo.heap.size + 1, 0, none⟩ = some (.int .i64 (px l ((k + 1) % l.length))) := ((bcell hBi).1 _ _ (by omega)).trans (by go_simp)
            have gy2 : wi.cell? ⟨wo.heap.size + 1, 1, none⟩ = some (.int .i64 (py l ((k + 1) % l.length))) := ((bcell hBi).1 _ _ (by omega)).trans (by go_simp)
            by_cases hi1 : m = k
            · have heb : edgeBad l k m = false := edgeBad_not (.inl hi1)
              have hne : (((m : Int) != (k : Int)) = false) := by simp [hi1]
              have HE := hid heb
              have H1 := hid hi1
              clear heb hi1
              go_wp2
              go_roundw
              case rel => exact ⟨m + 1, hlt2, by go_num, colsOk_succ HCo.out HE.out, hBi.trans (((Below.refl _ _).alloc hsz _))⟩
              case measure => simp [intOf]; omega
            by_cases hi2 : m = (k + 1) % l.length
            · have heb : edgeBad l k m = false := edgeBad_not (.inr (.inl hi2))
              have hne : (((m : Int) != (k : Int)) = true) := by simp; omega
              have hne2 : (((m : Int) != ((k : Int) + 1) % (l.length : Int)) = false) := by rw [hi2]; simp
              have HE := hid heb
              have H1 := hid hi1
              have H2 := hid hi2
              clear heb hi1 hi2
              go_wp2
              go_roundw
              case rel => exact ⟨m + 1, hlt2, by go_num, colsOk_succ HCo.out HE.out, hBi.trans (((Below.refl _ _).alloc hsz _))⟩
              case measure => simp [intOf]; omega
            have hne : (((m : Int) != (k : Int)) = true) := by simp; omega
            have hne2 : (((m : Int) != ((k : Int) + 1) % (l.length : Int)) = true) := by rw [bne_iff_ne, show ((k : Int) + 1) % (l.length : Int) = (((k + 1) % l.length : Nat) : Int) by simp]; omega
            have H1 := hid hi1
            have H2 := hid hi2
            clear hi1 hi2
            have hw1 := hid (allWithin_at HW.out hlt)
            have hw2 := hid (allWithin_at HW.out hj)
            have hw3 := hid (allWithin_at HW.out hlt2)
            go_wp2_with (go_at_call 72; refine (side_calls _ _ _ _ _ _ hw1.out hw2.out hw3.out _).mono ?_; rintro e w2 ⟨rfl, hb2⟩)
            · go_returns
              exact ret_int (checkE_bad (by omega) (by omega) HW.out hlt hlt2 (edgeBad_of H1.out H2.out (by assumption))).symm (hBwi.trans ((((Below.refl _ _).alloc (Nat.le_refl _) _).trans (hb2.mono (by simp))).mono hBwi.size))
            · go_roundw
              case rel => exact ⟨m + 1, hlt2, by go_num, colsOk_succ HCo.out (edgeBad_not (.inr (.inr (by show (0:Int) < sideZ _ _ _ _ _ _; omega)))), hBi.trans ((((Below.refl _ _).alloc hsz _)).trans (hb2.mono (by simp; omega)))⟩
              case measure => simp [intOf]; omega
          · have hge : l.length ≤ m := by omega
            go_wp2
            go_roundw
            case rel => exact ⟨k + 1, hlt, by go_num, rowsOk_succ HN.out (by have := HCo.out; rwa [show m = l.length by omega] at this), hBwi, hB1wi⟩
            case measure => simp [intOf]; omega
      · clear hCo
        have hge : l.length ≤ k := by omega
        go_wp2
        go_returns
        exact ret_int (checkE_ok (by omega) (by omega) HW.out (by have := HN.out; rwa [show k = l.length by omega] at this)).symm hB

end Go.Proofs.Ytjoodpjndpdjnaa
