/- Parts of a proof: contracts and laws. -/
import Derived.Test.YtkiiehobphkmgaaPZ40
import Derived.Test.YtkiiehobphkmgaaPZ45
import Derived.Test.YtkiiehobphkmgaaPZ33
namespace Go.Proofs.Ytkiiehobphkmgaa
section
set_option linter.unusedVariables false
set_option linter.unusedSimpArgs false
open Go.RowKit

theorem cells_setvyK {w : World} {g : Nat} {L : List BE} (h : CellsE layB w g 0 L) {k : Nat} (hk : k < L.length) (v : Int) : CellsE layB (w.setCell ⟨g, k * 13 + 3, none⟩ (.int .i64 v)) g 0 (L.set k { L[k] with b := { L[k].b with vy := v } }) := by
  refine ⟨by simp; exact h.lt, fun j hj i u hu => ?_⟩
  have hj' : j < L.length := by simpa using hj
  have hlen : ∀ x : BE, (encB x).length = 13 := fun _ => rfl
  by_cases e : j = k
  · subst e
    have hu : (encB { L[j] with b := { L[j].b with vy := v } })[i]? = some u := by have hu2 : (encB (L.set j { L[j] with b := { L[j].b with vy := v } })[j])[i]? = some u := hu; rwa [List.getElem_set_self] at hu2
    show (w.setCell ⟨g, j * 13 + 3, none⟩ (.int .i64 v)).cell? ⟨g, 0 + j * 13 + i, none⟩ = some u
    rw [Nat.zero_add]
    by_cases e2 : i = 3
    · subst e2
      have hu : some (Value.int .i64 v) = some u := hu
      cases hu
      have h2 := h.at_ j hj' 3 _ (show (encB L[j])[3]? = some (.int .i64 L[j].b.vy) from rfl)
      rw [Nat.zero_add] at h2
      exact cell_set_eq h2
    · have hu2 : (encB L[j])[i]? = some u := by
        have hi : i < 13 := by
          rcases Nat.lt_or_ge i 13 with q | q
          · exact q
          · rw [List.getElem?_eq_none (by rw [hlen]; exact q)] at hu; cases hu
        rw [← hu]
        match i, hi, e2 with
        | 0, _, _ | 1, _, _ | 2, _, _ | 4, _, _ | 5, _, _ | 6, _, _ | 7, _, _ | 8, _, _ | 9, _, _ | 10, _, _ | 11, _, _ | 12, _, _ => rfl
        | 3, _, e2 => exact (e2 rfl).elim
      have h2 := h.at_ j hj' i u hu2
      have h2 : w.cell? ⟨g, 0 + j * 13 + i, none⟩ = some u := h2
      rw [Nat.zero_add] at h2
      exact cell_set_ne h2 (by omega)
  · have hu : (encB L[j])[i]? = some u := by have hu2 : (encB (L.set k { L[k] with b := { L[k].b with vy := v } })[j])[i]? = some u := hu; rwa [List.getElem_set_ne (by omega)] at hu2
    have hi : i < 13 := by
      rcases Nat.lt_or_ge i 13 with q | q
      · exact q
      · rw [List.getElem?_eq_none (by rw [hlen]; exact q)] at hu; cases hu
    have h2 := h.at_ j hj' i u hu
    have h2 : w.cell? ⟨g, 0 + j * 13 + i, none⟩ = some u := h2
    show (w.setCell ⟨g, k * 13 + 3, none⟩ (.int .i64 v)).cell? ⟨g, 0 + j * 13 + i, none⟩ = some u
    exact cell_set_ne h2 (by omega)
def sbXK : Ct := ⟨0, 1, 0, 0, 65536, 0, 65536, 0, 0, 0⟩
theorem sbK_run (A1 A2 : Option Addr) (n1 n2 c1 c2 : Nat) : srunE [⟨bdK 0 0 0, A1, n1, c1, sqK 0 0 1⟩, ⟨{ bdK 0 2 65536 with vy := -131072 }, A2, n2, c2, sqK 0 0 1⟩] [sbXK] 8192 1 = 0 := by kernel_rfl
theorem sbK_v (A1 A2 : Option Addr) (n1 n2 c1 c2 : Nat) : (srunS [⟨bdK 0 0 0, A1, n1, c1, sqK 0 0 1⟩, ⟨{ bdK 0 2 65536 with vy := -131072 }, A2, n2, c2, sqK 0 0 1⟩] [sbXK] 8192 1).1.map (fun y => (y.1.vx, y.1.vy)) = [(0, 0), (0, 0)] := by kernel_rfl
theorem sbK_p (A1 A2 : Option Addr) (n1 n2 c1 c2 : Nat) : (srunS [⟨bdK 0 0 0, A1, n1, c1, sqK 0 0 1⟩, ⟨{ bdK 0 2 65536 with vy := -131072 }, A2, n2, c2, sqK 0 0 1⟩] [sbXK] 8192 1).2.map (fun x => x.push) = [131072] := by kernel_rfl
set_option maxRecDepth 100000 in
set_option maxHeartbeats 4000000 in
theorem solves_calls (w : World) : Calls Try.prog 8 #[] w (Ret (.bool true) w) := by
  have HQ : Hid (∀ A1 A2 n1 n2 c1 c2, srunE [⟨bdK 0 0 0, A1, n1, c1, sqK 0 0 1⟩, ⟨{ bdK 0 2 65536 with vy := -131072 }, A2, n2, c2, sqK 0 0 1⟩] [sbXK] 8192 1 = 0 ∧ (srunS [⟨bdK 0 0 0, A1, n1, c1, sqK 0 0 1⟩, ⟨{ bdK 0 2 65536 with vy := -131072 }, A2, n2, c2, sqK 0 0 1⟩] [sbXK] 8192 1).1.map (fun y => (y.1.vx, y.1.vy)) = [(0, 0), (0, 0)] ∧ (srunS [⟨bdK 0 0 0, A1, n1, c1, sqK 0 0 1⟩, ⟨{ bdK 0 2 65536 with vy := -131072 }, A2, n2, c2, sqK 0 0 1⟩] [sbXK] 8192 1).2.map (fun x => x.push) = [131072]) := fun A1 A2 n1 n2 c1 c2 => ⟨sbK_run _ _ _ _ _ _, sbK_v _ _ _ _ _ _, sbK_p _ _ _ _ _ _⟩
  have HB1 := hid (kblock_calls_fix 0 0 1 (by omega) (by omega) (by omega))
  have HB2 := hid (kblock_calls_mov 0 2 1 (by omega) (by omega) (by omega))
  generalize sqK 0 0 1 = q at *
  go_enter Try.func8, Try.ntmps8
  go_wp2_with fail
  refine (HB1.out _).mono ?_
  rintro e w1 ⟨A1, n1, c1, rfl, hs1, hf1, hb1⟩
  have HS1 := hid hs1
  clear hs1 hf1 HB1
  go_wp2_with fail
  refine (HB2.out _).mono ?_
  rintro e w2 ⟨A2, n2, c2, rfl, hs2, hf2, hb2⟩
  obtain ⟨g, hg⟩ : ∃ g, g = w2.heap.size := ⟨_, rfl⟩
  obtain ⟨w3, hw3⟩ : ∃ w3, w3 = w2.alloc (.cells #[.int .i64 (bdK 0 0 0).px, .int .i64 (bdK 0 0 0).py, .int .i64 (bdK 0 0 0).vx, .int .i64 (bdK 0 0 0).vy, .int .i64 (bdK 0 0 0).ang, .int .i64 (bdK 0 0 0).spin, .int .i64 (bdK 0 0 0).mass, .int .i64 (bdK 0 0 0).iner, .int .i64 (bdK 0 0 0).bounce, .int .i64 (bdK 0 0 0).rub, .slice A1 n1 c1, .bool (bdK 0 0 0).asleep, .int .i64 (bdK 0 0 0).calm, .int .i64 (bdK 0 2 65536).px, .int .i64 (bdK 0 2 65536).py, .int .i64 (bdK 0 2 65536).vx, .int .i64 (bdK 0 2 65536).vy, .int .i64 (bdK 0 2 65536).ang, .int .i64 (bdK 0 2 65536).spin, .int .i64 (bdK 0 2 65536).mass, .int .i64 (bdK 0 2 65536).iner, .int .i64 (bdK 0 2 65536).bounce, .int .i64 (bdK 0 2 65536).rub, .slice A2 n2 c2, .bool (bdK 0 2 65536).asleep, .int .i64 (bdK 0 2 65536).calm] 27) := ⟨_, rfl⟩
  have hB2 := keepBelow hb2 hb1
  have hb3 : Below w2.heap.size w2 w3 := by rw [hw3]; go_grown
  have HO : Hid (OwnE layB 27 w3 w2.heap.size (.slice (some ⟨g, 0, none⟩) 2 2) [⟨bdK 0 0 0, A1, n1, c1, q⟩, ⟨bdK 0 2 65536, A2, n2, c2, q⟩]) := by
    show OwnE _ _ _ _ _ _
    rw [hw3, hg]
    exact ⟨by simp [flatE, layB, encB], .inr ⟨w2.heap.size, 2, _, rfl, Nat.le_refl _, heap_alloc_new w2 _, Nat.le_refl _, by decide, by simp [layB], by simp [flatE, layB, encB, bdK]⟩⟩
  have hc3 : CellsE layB w3 g 0 [⟨bdK 0 0 0, A1, n1, c1, q⟩, ⟨bdK 0 2 65536, A2, n2, c2, q⟩] := by
    rcases HO.out.form with ⟨h1, -⟩ | ⟨g', cap', hv, -, -, -, -, hf, hc⟩
    · cases h1
    · cases hv; exact hc
  have hf3 : ∀ j, w3.frozen? ⟨g, j, none⟩ = false := by
    rcases HO.out.form with ⟨h1, -⟩ | ⟨g', cap', hv, -, -, -, -, hf, hc⟩
    · cases h1
    · cases hv; exact hf
  have hs13 := (HS1.out.below hb2).below hb3
  have hs23 := hs2.below hb3
  obtain ⟨w4, hw4⟩ : ∃ w4, w4 = w3.setCell ⟨g, 16, none⟩ (.int .i64 (-131072)) := ⟨_, rfl⟩
  have hgw : w.heap.size ≤ g := by have := hB2.size; omega
  have hc4 : CellsE layB w4 g 0 [⟨bdK 0 0 0, A1, n1, c1, q⟩, ⟨{ bdK 0 2 65536 with vy := -131072 }, A2, n2, c2, q⟩] := by rw [hw4]; exact cells_setvyK hc3 (k := 1) (by simp) (-131072)
  have hk15 : w3.cell? ⟨g, 16, none⟩ = some (.int .i64 0) := by
    have h9 : w3.cell? ⟨g, 0 + 1 * 13 + 3, none⟩ = some (.int .i64 0) := hc3.at_ 1 (by simp) 3 (.int .i64 0) rfl
    exact h9
  have hs14 : Sl w4 A1 n1 c1 q := by rw [hw4]; exact hs13.setAt2 (fun hl bx off e => by have := sl_lt HS1.out hl bx off e; have := hb2.size; omega)
  have hs24 : Sl w4 A2 n2 c2 q := by rw [hw4]; exact hs23.setAt2 (fun hl bx off e => by have := sl_lt hs2 hl bx off e; omega)
  have hB4 : Below w.heap.size w w4 := by rw [hw4]; exact (keepBelow hb3 hB2).setCell (p := ⟨g, 16, none⟩) hgw _
  obtain ⟨w5, hw5⟩ : ∃ w5, w5 = w4.alloc (.cells #[.int .i64 0, .int .i64 1, .int .i64 0, .int .i64 0, .int .i64 65536, .int .i64 0, .int .i64 65536, .int .i64 0, .int .i64 0, .int .i64 0] 37) := ⟨_, rfl⟩
  have hb5 : Below w4.heap.size w4 w5 := by rw [hw5]; go_grown
  have hB5 := keepBelow hb5 hB4
  obtain ⟨hr1, hr2, hr3⟩ := HQ.out A1 A2 n1 n2 c1 c2
  obtain ⟨L, hL⟩ : ∃ L : List BE, L = [⟨bdK 0 0 0, A1, n1, c1, q⟩, ⟨{ bdK 0 2 65536 with vy := -131072 }, A2, n2, c2, q⟩] := ⟨_, rfl⟩
  rw [← hL] at hr1 hr2 hr3
  have hS5 : SlB w5 (some ⟨g, 0, none⟩) 2 2 L := ⟨⟨by rw [hL]; rfl, Nat.le_refl _, by omega, fun _ => ⟨g, 0, rfl, by rw [hL]; exact hc4.below hb5⟩⟩, fun x hx => by
    rw [hL] at hx
    rcases List.mem_cons.1 hx with rfl | hx
    · exact hs14.below hb5
    · rw [List.mem_singleton.1 hx]; exact hs24.below hb5⟩
  have hJ5 : CellsE layC w5 w4.heap.size 0 [sbXK] := by rw [hw5]; exact cells_ct_one (by go_simp; rfl) (by go_simp; rfl) (by go_simp; rfl) (by go_simp; rfl) (by go_simp; rfl) (by go_simp; rfl) (by go_simp; rfl) (by go_simp; rfl) (by go_simp; rfl) (by go_simp; rfl)
  have hSC : SlE layC w5 (some ⟨w4.heap.size, 0, none⟩) 1 1 [sbXK] := ⟨rfl, Nat.le_refl _, by omega, fun _ => ⟨w4.heap.size, 0, rfl, hJ5⟩⟩
  have HRUN := hid (srun_calls (some ⟨g, 0, none⟩) (some ⟨w4.heap.size, 0, none⟩) 2 2 1 1 L [sbXK] 8192 1 w5 hS5 hSC)
  have HE := hid hr1
  have HVX := hid hr2
  have HPU := hid hr3
  have HF3 := hid hf3
  have hgl : g < w3.heap.size := hc3.lt
  clear hs2 hf2 hb1 hb2 hB2 hb3 HO hc3 hs13 hs23 hc4 hs14 hs24 hB4 hS5 hJ5 hr1 hr2 hr3 hSC hL HQ HS1 HB2 hgw hf3
  go_upto_region 2 with fail
  rw [← hg]
  rw [← hw3]
  have hf3 := HF3.out
  clear hw3 hg
  go_upto_region 3 with fail
  rw [← hw4]
  clear hw4 hk15 hf3 hgl HF3
  go_wp2_with fail
  rw [← hw5]
  clear hw5 hb5
  refine HRUN.out.mono ?_
  rintro e w6 ⟨A, B, n, c, m, d, L', rfl, hs, hcS, hm, hb6⟩
  rw [HE.out]
  obtain ⟨S, hS⟩ : ∃ S, S = srunS L [sbXK] 8192 1 := ⟨_, rfl⟩
  rw [← hS] at hcS hm HVX HPU
  obtain ⟨y, hyL, hyx, hyy⟩ : ∃ y, L'[1]? = some y ∧ y.b.vx = 0 ∧ y.b.vy = 0 := by
    have h1 := HVX.out
    rw [← hm, List.map_map] at h1
    rcases L' with _ | ⟨x, _ | ⟨y, l⟩⟩
    · simp at h1
    · simp at h1
    · simp [valB] at h1
      exact ⟨y, rfl, h1.2.1.1, h1.2.1.2⟩
  have hL2 : L'.length = 2 := by have h1 := congrArg List.length HVX.out; rw [← hm, List.length_map, List.length_map] at h1; exact h1
  obtain ⟨z, hz, hzp⟩ : ∃ z, S.2 = [z] ∧ z.push = 131072 := by
    have h1 := HPU.out
    rcases hh : S.2 with _ | ⟨z, _ | ⟨u, l⟩⟩ <;> rw [hh] at h1
    · simp at h1
    · simp at h1; exact ⟨z, rfl, h1⟩
    · simp at h1
  rw [hz] at hcS
  obtain ⟨bA, oA, rfl, hC⟩ := hs.sl.at_ (by intro h; rw [h] at hL2; simp at hL2)
  obtain ⟨bC, oC, rfl, hCc⟩ := hcS.at_ (by simp)
  have hn := hs.sl.len
  rw [hL2] at hn
  subst hn
  have hmn := hcS.len
  simp at hmn
  subst hmn
  have hcap := hs.sl.cap
  have hy1 : y = L'[1] := by rw [List.getElem?_eq_getElem (by omega)] at hyL; exact (Option.some.inj hyL).symm
  obtain ⟨-, -, p0, p1, -⟩ := cells_bd hC (k := 1) (by omega) hy1
  have q0 := (cells_ct hCc (k := 0) (by simp) (x := z) rfl).2.2.2.2.2.2.2.2.1
  rw [hyx] at p0
  rw [hyy] at p1
  rw [hzp] at q0
  have p0' : w6.cell? ⟨bA, oA + 13 + 2, none⟩ = some (.int .i64 0) := p0
  have p1' : w6.cell? ⟨bA, oA + 13 + 3, none⟩ = some (.int .i64 0) := p1
  have p0'' : w6.cell? ⟨bA, oA + 15, none⟩ = some (.int .i64 0) := p0
  have p1'' : w6.cell? ⟨bA, oA + 16, none⟩ = some (.int .i64 0) := p1
  have q0' : w6.cell? ⟨bC, oC + 8, none⟩ = some (.int .i64 131072) := by simpa using q0
  have hbA := hC.lt
  have hbC := hCc.lt
  have hB6 := keepBelow hb6 hB5
  have HEV := run_eqVJ 0 0 0 0
  simp only [beq_self_eq_true, Bool.and_self] at HEV
  clear hs hm hb6 hB5 hC hCc HRUN HE HVX HPU hyx hyy hzp hz hyL hy1 hcS hL2 hS p0 p1 q0
  go_wp2
  go_returns
  exact ret_bool (by simp) hB6
end
end Go.Proofs.Ytkiiehobphkmgaa
