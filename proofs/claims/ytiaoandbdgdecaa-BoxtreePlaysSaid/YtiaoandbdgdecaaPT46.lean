/- Parts of a proof: contracts and laws. -/
import Derived.Test.YtiaoandbdgdecaaPT45
namespace Go.Proofs.Ytiaoandbdgdecaa
section
set_option linter.unusedVariables false
set_option linter.unusedSimpArgs false
open Go.RowKit
set_option maxRecDepth 100000 in
set_option maxHeartbeats 2000000 in
theorem lbox_calls (x y u v : Int) (w : World) : Calls Try.prog 34 #[.int .i64 x, .int .i64 y, .int .i64 u, .int .i64 v] w (Ret (bxV ((x, y), (u, v))) w) := by
  go_enter Try.func34, Try.ntmps34
  go_wp2
  refine bodyPost_ret (v := bxV ((x, y), (u, v))) (by simp [results, Try.results34, go_sem, bxV]) rfl ⟨rfl, ?_⟩
  go_grown
def begF : Nat → Option Bx := upF (upF (fun _ => none) 7 (some ((0, 0), (2, 2)))) 5 (some ((2, 1), (4, 4)))
theorem begF_cnt : cntF begF = 2 := by kernel_rfl
theorem begF_prs : prsF begF tchB 256 = [(5, 7)] := by kernel_rfl
set_option maxRecDepth 100000 in
set_option maxHeartbeats 4000000 in
theorem treeBegun_calls (w : World) : Calls Try.prog 15 #[] w (Ret (.bool true) w) := by
  go_enter Try.func15, Try.ntmps15
  go_wp2_with fail
  refine (tnew_calls _).mono ?_
  rintro e w1 ⟨g, rfl, hg, ht, hb⟩
  have HT := hid ht
  have HB := hid hb
  have HG := hid hg
  clear ht hb hg
  go_wp2_with fail
  refine (lbox_calls 0 0 2 2 _).mono ?_
  rintro e w2 ⟨rfl, hb⟩
  replace HT := hid (TrA.below hb HT.out)
  replace HB := hid (keepBelow hb HB.out)
  clear hb
  go_wp2_with fail
  refine (tput_calls HT.out (i := 7) (by omega) 0 0 2 2 (by decide)).mono ?_
  rintro e w3 ⟨rfl, D2, ht2, o2, hd2⟩
  have HB3 : Hid (Below w.heap.size w w3) := HB.out.trans (below_out o2 (fun k q => by have := HG.out; have q : k = g := q; omega) HB.out.size)
  have HD2 : Hid (∀ k, D2 k → w.heap.size ≤ k) := fun k q => by
    rcases hd2 k q with q | q
    · have := HG.out; have q : k = g := q; omega
    · have := HB.out.size; omega
  have HT2 := hid ht2
  clear ht2 o2 hd2 HT HB HG
  go_wp2_with fail
  refine (lbox_calls 2 1 4 4 _).mono ?_
  rintro e w4 ⟨rfl, hb⟩
  replace HT2 := hid (TrA.below hb HT2.out)
  replace HB3 := hid (keepBelow hb HB3.out)
  clear hb
  go_wp2_with fail
  refine (tput_calls HT2.out (i := 5) (by omega) 2 1 4 4 (by decide)).mono ?_
  rintro e w5 ⟨rfl, D3, ht3, o3, hd3⟩
  have HB5 : Hid (Below w.heap.size w w5) := HB3.out.trans (below_out o3 HD2.out HB3.out.size)
  have HT3 : Hid (TrA w5 g D3 begF) := ht3
  clear ht3 o3 hd3 HT2 HB3 HD2
  go_wp2_with fail
  have hL := tlen_calls HT3.out
  rw [begF_cnt] at hL
  refine hL.mono ?_
  rintro e w6 ⟨rfl, hb⟩
  replace HT3 := hid (TrA.below hb HT3.out)
  replace HB5 := hid (keepBelow hb HB5.out)
  clear hb hL
  go_wp2_with fail
  have hL := tpairs_calls HT3.out
  rw [begF_prs] at hL
  refine hL.mono ?_
  rintro e w7 ⟨A, n, c, rfl, hs, hb⟩
  have HS := hid hs
  have HB7 := hid (keepBelow hb HB5.out)
  clear hb hL hs HT3 HB5
  obtain ⟨w8, hw8⟩ : ∃ x, x = w7.alloc (.cells #[.int .i64 5, .int .i64 7] 52) := ⟨_, rfl⟩
  obtain ⟨g8, hg8⟩ : ∃ x, x = w7.heap.size := ⟨_, rfl⟩
  have hb8 : Below w7.heap.size w7 w8 := by rw [hw8]; go_grown
  have d0 : w8.cell? ⟨g8, 0, none⟩ = some (.int .i64 5) := by rw [hw8, hg8]; go_simp
  have d1 : w8.cell? ⟨g8, 1, none⟩ = some (.int .i64 7) := by rw [hw8, hg8]; go_simp
  have hs8 : SlE layPair w8 (some ⟨g8, 0, none⟩) 1 1 [(5, 7)] := ⟨rfl, Nat.le_refl _, by omega, fun _ => ⟨g8, 0, rfl, cells_pair (p := (5, 7)) d0 d1⟩⟩
  have HE := hid (equalP_calls A (some ⟨g8, 0, none⟩) n c 1 1 [(5, 7)] [(5, 7)] w8 (HS.out.below hb8) hs8)
  have HB8 := hid (keepBelow hb8 HB7.out)
  clear hb8 d0 d1 hs8 HS HB7
  go_wp2_with fail
  rw [← hw8, ← hg8]
  clear hw8 hg8
  refine HE.out.mono ?_
  rintro e w9 ⟨rfl, hb⟩
  have hB := keepBelow hb HB8.out
  clear HE hb HB8
  go_wp2
  go_returns
  exact ret_bool (by simp) hB
end
end Go.Proofs.Ytiaoandbdgdecaa
