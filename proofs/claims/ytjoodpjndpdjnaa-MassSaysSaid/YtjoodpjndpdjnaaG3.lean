/- The contract of mass.Centred. -/
import Derived.Test.YtjoodpjndpdjnaaG1
import Derived.Test.YtjoodpjndpdjnaaM10
import Derived.Test.YtjoodpjndpdjnaaZ6
namespace Go.Proofs.Ytjoodpjndpdjnaa
set_option linter.unusedVariables false
set_option linter.unusedSimpArgs false
open Go.RowKit

def centL (l : List V) : List V := movL l (-(cenQ l).1) (-(cenQ l).2)
def cenE (l : List V) : Int := if checkE l = 0 then checkE (centL l) else checkE l
def cenR (l : List V) : List V := if cenE l = 0 then centL l else []
/-- what Centred returns -/
def RetCen (l : List V) (w : World) (e : Ending) (w' : World) : Prop := ∃ A n c, e = .returned (.tuple #[.slice A n c, .int .i64 (cenE l)]) ∧ Sl w' A n c (cenR l) ∧ Below w.heap.size w w'
theorem Sl.empty (w : World) : Sl w none 0 0 [] := ⟨rfl, by omega, by omega, fun h => absurd rfl h⟩

set_option maxRecDepth 100000 in
set_option maxHeartbeats 1000000 in
theorem mcentred_calls (A : Option Addr) (n c : Nat) (l : List V) (w : World) (hS : Sl w A n c l) :
    Calls Try.prog 57 #[.slice A n c] w (RetCen l w) := by
  by_cases hE : checkE l = 0
  · obtain ⟨h8, h3, hw, _⟩ := checkE_zero hE
    have hn := hS.len
    subst hn
    have hcap := hS.cap
    have hbig := hS.big
    obtain ⟨u, hu⟩ : ∃ u, u = (cenQ l).1 := ⟨_, rfl⟩
    obtain ⟨v, hv⟩ : ∃ v, v = (cenQ l).2 := ⟨_, rfl⟩
    have hcb := withinB_iff.1 (cenQ_bd hE)
    rw [← hu, ← hv] at hcb
    obtain ⟨c1, c2, c3, c4⟩ := hcb
    have hab := hid (areaZ_bd' hE)
    have HU := hid (show overQ (cenX l) (3 * areaZ l) = u from hu.symm)
    have HV := hid (show overQ (cenY l) (3 * areaZ l) = v from hv.symm)
    have HCL : Hid (centL l = movL l (-u) (-v)) := by rw [hu, hv]; rfl
    have HE := hid hE
    have HW := hid hw
    have HS := hid hS
    have hcen := cen_bd hw h8
    have HCB := hid hcen
    clear hS hE hw hu hv hcen
    go_enter Try.func57, Try.ntmps57
    go_wp2_with fail
    refine (area_calls _ _ _ l _ HS.out).mono ?_
    rintro e w1 ⟨rfl, hb1⟩
    rw [if_pos HE.out, HE.out]
    have HS1 := hid (HS.out.below hb1)
    go_wp2_with fail
    refine (mcentre_calls _ _ _ l _ _ HS1.out HW.out h8 h3 hab.out HCB.out.1 HCB.out.2).mono ?_
    rintro e w2 ⟨rfl, hb2⟩
    rw [HU.out, HV.out]
    have HS2 := hid (HS1.out.below hb2)
    have hB2 := keepBelow hb2 hb1
    clear hb1 hb2
    go_wp2_with fail
    go_loopw [7, 24] (fun s i wr => ∃ k : Nat, k ≤ l.length ∧ i = .int .i64 k ∧ Own wr (w2.heap.size + 1) s (movL (l.take k) (-u) (-v)) ∧ Below w2.heap.size w2 wr ∧ wr.cell? ⟨w2.heap.size, 0, none⟩ = some (.int .i64 u) ∧ wr.cell? ⟨w2.heap.size, 1, none⟩ = some (.int .i64 v)) (fun _ i _ => l.length - (intOf i).toNat)
    case atStart => exact ⟨0, Nat.zero_le _, rfl, Own.nil _ _, by go_grown, by go_simp, by go_simp⟩
    case round =>
      obtain ⟨k, hk, rfl, hown, hB, ku, kv⟩ := hrel
      obtain ⟨wo, rfl⟩ : ∃ wo : World, wo = wr := ⟨_, rfl⟩
      have HO := hid hown
      clear hown
      by_cases hlt : k < l.length
      · obtain ⟨b, off, rfl, hC⟩ := (HS2.out.below hB).at_ (by intro h; subst h; simp at hlt)
        have hx := hC.x k hlt
        have hy := hC.y k hlt
        have hbo := hC.lt
        obtain ⟨_, _, _, _⟩ := withinB_iff.1 (allWithin_at HW.out hlt)
        have hwo := lt_of_cell ku
        clear hC
        go_wp2_with (at_builtin; refine wpList_append_vecs rfl _ _ rfl (w2.heap.size + 1) _ _ rfl ((HO.out.alloc _).alloc _) (wo.heap.size + 1) 0 1 1 [(px l k - u, py l k - v)] rfl rfl (cells_one (by go_simp) (by go_simp)) (by rw [movL_len, List.length_take, List.length_singleton]; omega) (by simp; omega) ?_; intro v' w1 ho1 hg1; have HO1 := hid ho1; have hb1 := Own.grown ((HO.out.alloc _).alloc _) hg1 (by simp; omega); clear ho1 hg1)
        have hB1 : Below w2.heap.size w2 w1 := ((hB.alloc (by omega) _).alloc (by simp; omega) _).trans (hb1.mono (by omega))
        have k1 : w1.cell? ⟨w2.heap.size, 0, none⟩ = some (.int .i64 u) := ((bcell hb1).1 _ _ (by omega)).trans (by go_simp)
        have k2 : w1.cell? ⟨w2.heap.size, 1, none⟩ = some (.int .i64 v) := ((bcell hb1).1 _ _ (by omega)).trans (by go_simp)
        go_roundw
        case rel =>
          refine ⟨k + 1, hlt, by go_num, ?_, hB1, k1, k2⟩
          rw [List.take_succ_eq_append_getElem hlt, movL, List.map_append, List.map_singleton, px_lt hlt]
          exact HO1.out
        case measure => simp [intOf]; omega
      · have hge : l.length ≤ k := by omega
        obtain ⟨A', n', c', rfl, hs, hf⟩ := HO.out.sl
        have H2 : Hid (Sl wo A' n' c' (centL l)) := by rw [List.take_of_length_le hge, ← HCL.out] at hs; exact hs
        clear hs hf HO
        go_wp2_with fail
        refine (check_calls _ _ _ (centL l) _ H2.out).mono ?_
        rintro e w3 ⟨rfl, hb3⟩
        have H3 := hid (H2.out.below hb3)
        have hB3 := keepBelow hb3 (keepBelow hB hB2)
        by_cases hC : checkE (centL l) = 0
        · have e1 : Hid (cenE l = 0) := by show cenE l = 0; rw [cenE, if_pos HE.out, hC]
          have e2 : Hid (cenR l = centL l) := by show cenR l = _; rw [cenR, if_pos e1.out]
          rw [hC]
          clear hC
          go_wp2
          go_returns
          exact ⟨_, _, _, by rw [e1.out]; rfl, by rw [e2.out]; exact H3.out, hB3⟩
        · have e1 : Hid (cenE l = checkE (centL l)) := by show cenE l = _; rw [cenE, if_pos HE.out]
          have e2 : Hid (cenR l = []) := by show cenR l = _; rw [cenR, if_neg (by rw [e1.out]; exact hC)]
          have hne : (checkE (centL l) != 0) = true := by simp [hC]
          clear hC
          go_wp2
          go_returns
          exact ⟨_, _, _, by rw [e1.out]; rfl, by rw [e2.out]; exact Sl.empty _, hB3⟩
  · have HS := hid hS
    have e1 : Hid (cenE l = checkE l) := by show cenE l = _; rw [cenE, if_neg hE]
    have e2 : Hid (cenR l = []) := by show cenR l = _; rw [cenR, if_neg (by rw [e1.out]; exact hE)]
    have HE := hid hE
    have hne : (checkE l != 0) = true := by simp [hE]
    clear hS hE
    go_enter Try.func57, Try.ntmps57
    go_wp2_with fail
    refine (area_calls _ _ _ l _ HS.out).mono ?_
    rintro e w1 ⟨rfl, hb1⟩
    rw [if_neg HE.out]
    go_wp2
    go_returns
    exact ⟨_, _, _, by rw [e1.out]; rfl, by rw [e2.out]; exact Sl.empty _, hb1⟩

end Go.Proofs.Ytjoodpjndpdjnaa
