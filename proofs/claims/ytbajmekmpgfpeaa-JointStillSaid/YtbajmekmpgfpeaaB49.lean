/- Parts of a proof: contracts and laws. -/
import Derived.Test.YtbajmekmpgfpeaaB43
namespace Go.Proofs.Ytbajmekmpgfpeaa
section
set_option linter.unusedVariables false
set_option linter.unusedSimpArgs false
open Go.RowKit
theorem jk_run (A1 A2 : Option Addr) (n1 n2 c1 c2 : Nat) : runE [⟨bdK 0 0 65536, A1, n1, c1, sqK 0 0 1⟩, ⟨{ bdK 4 0 65536 with vx := 65536 }, A2, n2, c2, sqK 0 0 1⟩] [jbX] 8192 1 = 0 := by kernel_rfl
theorem jk_vx (A1 A2 : Option Addr) (n1 n2 c1 c2 : Nat) : (runQ [⟨bdK 0 0 65536, A1, n1, c1, sqK 0 0 1⟩, ⟨{ bdK 4 0 65536 with vx := 65536 }, A2, n2, c2, sqK 0 0 1⟩] [jbX] 8192 1).map (fun y => y.1.vx) = [32768, 32768] := by kernel_rfl
theorem jk_gap (A1 A2 : Option Addr) (n1 n2 c1 c2 : Nat) : gapV [⟨bdK 0 0 65536, A1, n1, c1, sqK 0 0 1⟩, ⟨{ bdK 4 0 65536 with vx := 65536 }, A2, n2, c2, sqK 0 0 1⟩] ⟨0, 1, 0, 0, 0, 0, 65536⟩ = .tuple #[.int .i64 196608, .int .i64 0] := by kernel_rfl
set_option maxRecDepth 100000 in
set_option maxHeartbeats 4000000 in
theorem joins_calls (w : World) : Calls Try.prog 30 #[] w (Ret (.bool true) w) := by
  have HQG : Hid (∀ A1 A2 n1 n2 c1 c2, gapV [⟨bdK 0 0 65536, A1, n1, c1, sqK 0 0 1⟩, ⟨{ bdK 4 0 65536 with vx := 65536 }, A2, n2, c2, sqK 0 0 1⟩] ⟨0, 1, 0, 0, 0, 0, 65536⟩ = .tuple #[.int .i64 196608, .int .i64 0]) := fun A1 A2 n1 n2 c1 c2 => jk_gap _ _ _ _ _ _
  have HQ : Hid (∀ A1 A2 n1 n2 c1 c2, runE [⟨bdK 0 0 65536, A1, n1, c1, sqK 0 0 1⟩, ⟨{ bdK 4 0 65536 with vx := 65536 }, A2, n2, c2, sqK 0 0 1⟩] [jbX] 8192 1 = 0 ∧ (runQ [⟨bdK 0 0 65536, A1, n1, c1, sqK 0 0 1⟩, ⟨{ bdK 4 0 65536 with vx := 65536 }, A2, n2, c2, sqK 0 0 1⟩] [jbX] 8192 1).map (fun y => y.1.vx) = [32768, 32768]) := fun A1 A2 n1 n2 c1 c2 => ⟨jk_run _ _ _ _ _ _, jk_vx _ _ _ _ _ _⟩
  have HB1 := hid (kblock_calls_mov 0 0 1 (by omega) (by omega) (by omega))
  have HB2 := hid (kblock_calls_mov 4 0 1 (by omega) (by omega) (by omega))
  generalize sqK 0 0 1 = q at *
  go_enter Try.func30, Try.ntmps30
  go_wp2_with fail
  refine (HB1.out _).mono ?_
  rintro e w1 ⟨A1, n1, c1, rfl, hs1, hf1, hb1⟩
  have HS1 := hid hs1
  clear hs1 hf1 HB1
  go_wp2_with fail
  refine (HB2.out _).mono ?_
  rintro e w2 ⟨A2, n2, c2, rfl, hs2, hf2, hb2⟩
  obtain ⟨g, hg⟩ : ∃ g, g = w2.heap.size := ⟨_, rfl⟩
  obtain ⟨w3, hw3⟩ : ∃ w3, w3 = w2.alloc (.cells #[.int .i64 (bdK 0 0 65536).px, .int .i64 (bdK 0 0 65536).py, .int .i64 (bdK 0 0 65536).vx, .int .i64 (bdK 0 0 65536).vy, .int .i64 (bdK 0 0 65536).ang, .int .i64 (bdK 0 0 65536).spin, .int .i64 (bdK 0 0 65536).mass, .int .i64 (bdK 0 0 65536).iner, .int .i64 (bdK 0 0 65536).bounce, .int .i64 (bdK 0 0 65536).rub, .slice A1 n1 c1, .bool (bdK 0 0 65536).asleep, .int .i64 (bdK 0 0 65536).calm, .int .i64 (bdK 4 0 65536).px, .int .i64 (bdK 4 0 65536).py, .int .i64 (bdK 4 0 65536).vx, .int .i64 (bdK 4 0 65536).vy, .int .i64 (bdK 4 0 65536).ang, .int .i64 (bdK 4 0 65536).spin, .int .i64 (bdK 4 0 65536).mass, .int .i64 (bdK 4 0 65536).iner, .int .i64 (bdK 4 0 65536).bounce, .int .i64 (bdK 4 0 65536).rub, .slice A2 n2 c2, .bool (bdK 4 0 65536).asleep, .int .i64 (bdK 4 0 65536).calm] 27) := ⟨_, rfl⟩
  have hB2 := keepBelow hb2 hb1
  have hb3 : Below w2.heap.size w2 w3 := by rw [hw3]; go_grown
  have HO : Hid (OwnE layB 27 w3 w2.heap.size (.slice (some ⟨g, 0, none⟩) 2 2) [⟨bdK 0 0 65536, A1, n1, c1, q⟩, ⟨bdK 4 0 65536, A2, n2, c2, q⟩]) := by
    show OwnE _ _ _ _ _ _
    rw [hw3, hg]
    exact ⟨by simp [flatE, layB, encB], .inr ⟨w2.heap.size, 2, _, rfl, Nat.le_refl _, heap_alloc_new w2 _, Nat.le_refl _, by decide, by simp [layB], by simp [flatE, layB, encB, bdK]⟩⟩
  have hc3 : CellsE layB w3 g 0 [⟨bdK 0 0 65536, A1, n1, c1, q⟩, ⟨bdK 4 0 65536, A2, n2, c2, q⟩] := by
    rcases HO.out.form with ⟨h1, -⟩ | ⟨g', cap', hv, -, -, -, -, hf, hc⟩
    · cases h1
    · cases hv; exact hc
  have hf3 : ∀ j, w3.frozen? ⟨g, j, none⟩ = false := by
    rcases HO.out.form with ⟨h1, -⟩ | ⟨g', cap', hv, -, -, -, -, hf, hc⟩
    · cases h1
    · cases hv; exact hf
  have hs13 := (HS1.out.below hb2).below hb3
  have hs23 := hs2.below hb3
  obtain ⟨w4, hw4⟩ : ∃ w4, w4 = w3.setCell ⟨g, 15, none⟩ (.int .i64 65536) := ⟨_, rfl⟩
  have hgw : w.heap.size ≤ g := by have := hB2.size; omega
  have hc4 : CellsE layB w4 g 0 [⟨bdK 0 0 65536, A1, n1, c1, q⟩, ⟨{ bdK 4 0 65536 with vx := 65536 }, A2, n2, c2, q⟩] := by rw [hw4]; exact cells_setvx hc3 (k := 1) (by simp) 65536
  have hk15 : w3.cell? ⟨g, 15, none⟩ = some (.int .i64 0) := by
    have h9 : w3.cell? ⟨g, 0 + 1 * 13 + 2, none⟩ = some (.int .i64 0) := hc3.at_ 1 (by simp) 2 (.int .i64 0) rfl
    exact h9
  have hs14 : Sl w4 A1 n1 c1 q := by rw [hw4]; exact hs13.setAt2 (fun hl bx off e => by have := sl_lt HS1.out hl bx off e; have := hb2.size; omega)
  have hs24 : Sl w4 A2 n2 c2 q := by rw [hw4]; exact hs23.setAt2 (fun hl bx off e => by have := sl_lt hs2 hl bx off e; omega)
  have hB4 : Below w.heap.size w w4 := by rw [hw4]; exact (keepBelow hb3 hB2).setCell (p := ⟨g, 15, none⟩) hgw _
  obtain ⟨w5, hw5⟩ : ∃ w5, w5 = w4.alloc (.cells #[.int .i64 0, .int .i64 1, .int .i64 0, .int .i64 0, .int .i64 0, .int .i64 0, .int .i64 262144] 49) := ⟨_, rfl⟩
  have hb5 : Below w4.heap.size w4 w5 := by rw [hw5]; go_grown
  have hB5 := keepBelow hb5 hB4
  obtain ⟨hr1, hr2⟩ := HQ.out A1 A2 n1 n2 c1 c2
  have hr3 := HQG.out A1 A2 n1 n2 c1 c2
  obtain ⟨L, hL⟩ : ∃ L : List BE, L = [⟨bdK 0 0 65536, A1, n1, c1, q⟩, ⟨{ bdK 4 0 65536 with vx := 65536 }, A2, n2, c2, q⟩] := ⟨_, rfl⟩
  rw [← hL] at hr1 hr2 hr3
  have HGV := hid hr3
  have hS5 : SlB w5 (some ⟨g, 0, none⟩) 2 2 L := ⟨⟨by rw [hL]; rfl, Nat.le_refl _, by omega, fun _ => ⟨g, 0, rfl, by rw [hL]; exact hc4.below hb5⟩⟩, fun x hx => by
    rw [hL] at hx
    rcases List.mem_cons.1 hx with rfl | hx
    · exact hs14.below hb5
    · rw [List.mem_singleton.1 hx]; exact hs24.below hb5⟩
  have hJ5 : CellsE layJ w5 w4.heap.size 0 [jbX] := by rw [hw5]; exact cells_jt_one (by go_simp; rfl) (by go_simp; rfl) (by go_simp; rfl) (by go_simp; rfl) (by go_simp; rfl) (by go_simp; rfl) (by go_simp; rfl)
  have HGC : Hid (∀ w', Below w5.heap.size w5 w' → Calls Try.prog 22 #[.slice (some ⟨g, 0, none⟩) 2 2, jtV ⟨0, 1, 0, 0, 0, 0, 65536⟩] w' (Ret (.tuple #[.int .i64 196608, .int .i64 0]) w')) := fun w' hb => by
    have := jgap_calls (some ⟨g, 0, none⟩) 2 2 L ⟨0, 1, 0, 0, 0, 0, 65536⟩ w' (hS5.below hb)
    rwa [hr3] at this
  have HRUN := hid (jrun_calls (some ⟨g, 0, none⟩) (some ⟨w4.heap.size, 0, none⟩) 2 2 1 1 L [jbX] 8192 1 w5 hS5 (jt_one hJ5))
  have HE := hid hr1
  have HVX := hid hr2
  have HF3 := hid hf3
  have hgl : g < w3.heap.size := hc3.lt
  clear hs2 hf2 hb1 hb2 hB2 hb3 HO hc3 hs13 hs23 hc4 hs14 hs24 hB4 hS5 hJ5 hr1 hr2 hr3 hL HQ HQG HS1 HB2 hgw hf3
  go_upto_region 2 with fail
  rw [← hg]
  rw [← hw3]
  have hf3 := HF3.out
  clear hw3 hg
  go_upto_region 3 with fail
  rw [← hw4]
  clear hw4 hk15 hf3 hgl HF3
  go_wp2_with fail
  rw [← hw5]
  clear hw5 hb5
  refine HRUN.out.mono ?_
  rintro e w6 ⟨A, n, c, L', rfl, hs, hm, hb6⟩
  rw [HE.out]
  obtain ⟨x, y, rfl, hx, hy⟩ := two_vx hm HVX.out
  obtain ⟨bA, oA, rfl, hC⟩ := hs.sl.at_ (by simp)
  have hn := hs.sl.len
  simp at hn
  subst hn
  have hcap := hs.sl.cap
  have p0 : w6.cell? ⟨bA, oA + 2, none⟩ = some (.int .i64 32768) := by have := (cells_bd hC (k := 0) (by simp) rfl).2.2.1; rw [show ([x, y] : List BE)[0].b.vx = 32768 from hx] at this; simpa using this
  have p1 : w6.cell? ⟨bA, oA + 13 + 2, none⟩ = some (.int .i64 32768) := by have := (cells_bd hC (k := 1) (by simp) rfl).2.2.1; rw [show ([x, y] : List BE)[1].b.vx = 32768 from hy] at this; simpa using this
  have p1' : w6.cell? ⟨bA, oA + 15, none⟩ = some (.int .i64 32768) := p1
  have hbA := hC.lt
  have hB6 := keepBelow hb6 hB5
  have HP0 := hid p0
  have HP1 := hid p1
  have HGC6 := hid (HGC.out w6 hb6)
  clear hs hm hb6 hB5 hC HRUN HE HVX hx hy HGC HGV p0 p1 p1' hbA
  go_wp2_with fail
  refine HGC6.out.mono ?_
  rintro e w7 ⟨rfl, hb7⟩
  have p0 := keepCell hb7 HP0.out
  have p1 := keepCell hb7 HP1.out
  have p1' : w7.cell? ⟨bA, oA + 15, none⟩ = some (.int .i64 32768) := p1
  have hbA := lt_of_cell p0
  have hB7 := keepBelow hb7 hB6
  clear hb7 hB6 HGC6 HP0 HP1
  go_wp2
  go_returns
  exact ret_bool (by simp) hB7
end
end Go.Proofs.Ytbajmekmpgfpeaa
