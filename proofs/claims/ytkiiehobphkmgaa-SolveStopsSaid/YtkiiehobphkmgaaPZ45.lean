/- Parts of a proof: contracts and laws. -/
import Derived.Test.YtkiiehobphkmgaaPZ24
import Derived.Test.YtkiiehobphkmgaaPZ11
namespace Go.Proofs.Ytkiiehobphkmgaa
section
set_option linter.unusedVariables false
set_option linter.unusedSimpArgs false
open Go.RowKit
def bdK (x y m : Int) : Bd := ⟨x * 65536, y * 65536, 0, 0, 0, 0, m, m, 0, 0, false, 0⟩
def RetBlk (b : Bd) (l : List V) (w : World) (e : Ending) (w' : World) : Prop := ∃ A n c, e = .returned (bodyV b A n c) ∧ Sl w' A n c l ∧ (∀ bx off, A = some ⟨bx, off, none⟩ → w.heap.size ≤ bx) ∧ Below w.heap.size w w'
theorem squareKV_calls (x y s : Int) (hx : -1048576 ≤ x ∧ x ≤ 1048576) (hy : -1048576 ≤ y ∧ y ≤ 1048576) (hs : -1048576 ≤ s ∧ s ≤ 1048576) (w : World) : Calls Try.prog 11 #[.int .i64 x, .int .i64 y, .int .i64 s] w (RetVecs (sqK x y s) w) := by
  go_enter Try.func11, Try.ntmps11
  go_wp2
  go_returns
  exact ⟨_, _, _, rfl, Sl.of4 _ _ _ _ _ _ _ _ (by go_simp) (by go_simp) (by go_simp) (by go_simp) (by go_simp) (by go_simp) (by go_simp) (by go_simp) (by omega) (by omega), fun b off e => by cases e; simp, by go_grown⟩
theorem Sl.setBdN {w : World} {A : Option Addr} {n c g : Nat} {l : List V} (h : Sl w A n c l) (b : Bd) (A' : Option Addr) (n' c' : Nat) (hne : l ≠ [] → ∀ bx off, A = some ⟨bx, off, none⟩ → bx ≠ g) : Sl (Go.Proofs.Ytkiiehobphkmgaa.setBd w g b A' n' c') A n c l := by
  by_cases hl : l = []
  · exact ⟨h.len, h.cap, h.big, fun hne => absurd hl hne⟩
  · unfold Go.Proofs.Ytkiiehobphkmgaa.setBd
    iterate 13 refine Sl.setAt ?_ (hne hl)
    exact h
theorem Sl.setAt2 {w : World} {A : Option Addr} {n c g o : Nat} {l : List V} {v : Value} (h : Sl w A n c l) (hne : l ≠ [] → ∀ b off, A = some ⟨b, off, none⟩ → b ≠ g) : Sl (w.setCell ⟨g, o, none⟩ v) A n c l := by
  by_cases hl : l = []
  · exact ⟨h.len, h.cap, h.big, fun k => absurd hl k⟩
  · exact h.setAt (hne hl)
set_option maxRecDepth 100000 in
set_option maxHeartbeats 2000000 in
theorem kblock_calls_fix (x y h : Int) (hx : -1048576 ≤ x ∧ x ≤ 1048576) (hy : -1048576 ≤ y ∧ y ≤ 1048576) (hh : -1048576 ≤ h ∧ h ≤ 1048576) (w : World) : Calls Try.prog 5 #[.int .i64 x, .int .i64 y, .int .i64 h, .bool false] w (RetBlk (bdK x y 0) (sqK 0 0 h) w) := by
  have HSQ := hid (squareKV_calls 0 0 h (by omega) (by omega) hh)
  generalize sqK 0 0 h = q at *
  obtain ⟨W, hW⟩ : ∃ W, W = w.alloc (.cells #[.int .i64 0, .int .i64 0, .int .i64 0, .int .i64 0, .int .i64 0, .int .i64 0, .int .i64 0, .int .i64 0, .int .i64 0, .int .i64 0, .slice none 0 0, .bool false, .int .i64 0] 27) := ⟨_, rfl⟩
  have HZ := hid (show BdZ W w.heap.size by rw [hW]; exact BdZ.of (BdAt.here w (bdK 0 0 0) none 0 0 _))
  have hB0 : Below w.heap.size w W := by rw [hW]; go_grown
  go_enter Try.func5, Try.ntmps5
  go_wp2_with fail
  rw [← hW]
  clear hW
  refine (HSQ.out _).mono ?_
  rintro e w1 ⟨A, n, c, rfl, hs, hf, hb⟩
  have HF := hid hf
  have hB := keepBelow hb hB0
  have hlt : w.heap.size < W.heap.size := HZ.out.lt
  have HLT := hid hlt
  replace HZ := hid (keepBdZ hb HZ.out)
  obtain ⟨w2, hw2⟩ : ∃ w2, w2 = w1.alloc (.cells #[.int .i64 (x * 65536), .int .i64 (y * 65536), .int .i64 0, .int .i64 0, .int .i64 0, .int .i64 0, .int .i64 0, .int .i64 0, .int .i64 0, .int .i64 0, .slice A n c, .bool false, .int .i64 0] 27) := ⟨_, rfl⟩
  obtain ⟨g, hg⟩ : ∃ g, g = w1.heap.size := ⟨_, rfl⟩
  have HK := hid (show BdAt w2 g (bdK x y 0) A n c by rw [hw2, hg]; exact BdAt.here w1 (bdK x y 0) A n c _)
  have HS := hid (show Sl w2 A n c q by rw [hw2]; exact hs.below ((Below.refl _ _).alloc (Nat.le_refl _) _))
  have HZ2 := hid (show BdZ w2 w.heap.size by rw [hw2]; exact HZ.out.alloc _)
  have hB2 : Below w.heap.size w w2 := by rw [hw2]; exact hB.alloc hB.size _
  have HGF : Hid (q ≠ [] → ∀ bx off, A = some ⟨bx, off, none⟩ → bx ≠ g) := fun hne bx off e => by
    obtain ⟨b', off', e', hc⟩ := hs.at_ hne
    have := hc.lt
    rw [e] at e'; cases e'; rw [hg]; omega
  have HNF : Hid (∀ bx off, A = some ⟨bx, off, none⟩ → w.heap.size ≤ bx) := fun bx off e => by have := hf bx off e; omega
  have hgw : w.heap.size < g := by have := hb.size; rw [hg]; omega
  obtain ⟨z0, z1, z2, z3, z4, z5, z6, z7, z8, z9, z10, z11, z12, y0, y1, y2, y3, y4, y5, y6, y7, y8, y9, y10, y11, y12⟩ := HZ2.out.all
  have yf := HZ2.out.free
  obtain ⟨k0, k1, k2, k3, k4, k5, k6, k7, k8, k9, k10, k11, k12, kf⟩ := HK.out
  have hl1 : w.heap.size < w2.heap.size := HZ2.out.lt
  have hl2 : g < w2.heap.size := HK.out.lt
  clear hs hf hb hB hB0 hlt HZ HSQ HK
  simp only [bdK] at k0 k1 k2 k3 k4 k5 k6 k7 k8 k9 k11 k12
  go_upto_if 18 with fail
  rw [← hw2, ← hg]
  clear hw2 hg
  go_wp2
  refine bodyPost_ret (v := bodyV (bdK x y 0) A n c) (by simp [results, Try.results5, go_sem, y0, y1, y2, y3, y4, y5, y6, y7, y8, y9, y10, y11, y12, hl1, bodyV, bdK]) rfl ⟨A, n, c, rfl, ?_, HNF.out, ?_⟩
  · exact HS.out.setBd (bdK x y 0) (fun bx off e h => by have := HF.out bx off e; have := HLT.out; omega)
  · go_grown
set_option maxRecDepth 100000 in
set_option maxHeartbeats 2000000 in
theorem kblock_calls_mov (x y h : Int) (hx : -1048576 ≤ x ∧ x ≤ 1048576) (hy : -1048576 ≤ y ∧ y ≤ 1048576) (hh : -1048576 ≤ h ∧ h ≤ 1048576) (w : World) : Calls Try.prog 5 #[.int .i64 x, .int .i64 y, .int .i64 h, .bool true] w (RetBlk (bdK x y 65536) (sqK 0 0 h) w) := by
  have HSQ := hid (squareKV_calls 0 0 h (by omega) (by omega) hh)
  generalize sqK 0 0 h = q at *
  obtain ⟨W, hW⟩ : ∃ W, W = w.alloc (.cells #[.int .i64 0, .int .i64 0, .int .i64 0, .int .i64 0, .int .i64 0, .int .i64 0, .int .i64 0, .int .i64 0, .int .i64 0, .int .i64 0, .slice none 0 0, .bool false, .int .i64 0] 27) := ⟨_, rfl⟩
  have HZ := hid (show BdZ W w.heap.size by rw [hW]; exact BdZ.of (BdAt.here w (bdK 0 0 0) none 0 0 _))
  have hB0 : Below w.heap.size w W := by rw [hW]; go_grown
  go_enter Try.func5, Try.ntmps5
  go_wp2_with fail
  rw [← hW]
  clear hW
  refine (HSQ.out _).mono ?_
  rintro e w1 ⟨A, n, c, rfl, hs, hf, hb⟩
  have HF := hid hf
  have hB := keepBelow hb hB0
  have hlt : w.heap.size < W.heap.size := HZ.out.lt
  have HLT := hid hlt
  replace HZ := hid (keepBdZ hb HZ.out)
  obtain ⟨w2, hw2⟩ : ∃ w2, w2 = w1.alloc (.cells #[.int .i64 (x * 65536), .int .i64 (y * 65536), .int .i64 0, .int .i64 0, .int .i64 0, .int .i64 0, .int .i64 0, .int .i64 0, .int .i64 0, .int .i64 0, .slice A n c, .bool false, .int .i64 0] 27) := ⟨_, rfl⟩
  obtain ⟨g, hg⟩ : ∃ g, g = w1.heap.size := ⟨_, rfl⟩
  have HK := hid (show BdAt w2 g (bdK x y 0) A n c by rw [hw2, hg]; exact BdAt.here w1 (bdK x y 0) A n c _)
  have HS := hid (show Sl w2 A n c q by rw [hw2]; exact hs.below ((Below.refl _ _).alloc (Nat.le_refl _) _))
  have HZ2 := hid (show BdZ w2 w.heap.size by rw [hw2]; exact HZ.out.alloc _)
  have hB2 : Below w.heap.size w w2 := by rw [hw2]; exact hB.alloc hB.size _
  have HGF : Hid (q ≠ [] → ∀ bx off, A = some ⟨bx, off, none⟩ → bx ≠ g) := fun hne bx off e => by
    obtain ⟨b', off', e', hc⟩ := hs.at_ hne
    have := hc.lt
    rw [e] at e'; cases e'; rw [hg]; omega
  have HNF : Hid (∀ bx off, A = some ⟨bx, off, none⟩ → w.heap.size ≤ bx) := fun bx off e => by have := hf bx off e; omega
  have hgw : w.heap.size < g := by have := hb.size; rw [hg]; omega
  obtain ⟨z0, z1, z2, z3, z4, z5, z6, z7, z8, z9, z10, z11, z12, y0, y1, y2, y3, y4, y5, y6, y7, y8, y9, y10, y11, y12⟩ := HZ2.out.all
  have yf := HZ2.out.free
  obtain ⟨k0, k1, k2, k3, k4, k5, k6, k7, k8, k9, k10, k11, k12, kf⟩ := HK.out
  have hl1 : w.heap.size < w2.heap.size := HZ2.out.lt
  have hl2 : g < w2.heap.size := HK.out.lt
  clear hs hf hb hB hB0 hlt HZ HSQ HK
  simp only [bdK] at k0 k1 k2 k3 k4 k5 k6 k7 k8 k9 k11 k12
  go_upto_if 18 with fail
  rw [← hw2, ← hg]
  clear hw2 hg
  go_wp2
  refine bodyPost_ret (v := bodyV (bdK x y 65536) A n c) (by simp [results, Try.results5, go_sem, y0, y1, y2, y3, y4, y5, y6, y7, y8, y9, y10, y11, y12, hl1, bodyV, bdK]) rfl ⟨A, n, c, rfl, ?_, HNF.out, ?_⟩
  · exact Sl.setBdN (Sl.setAt2 (Sl.setAt2 HS.out HGF.out) HGF.out) (bdK x y 65536) A n c (fun hne bx off e => by have := HF.out bx off e; have := HLT.out; omega)
  · go_grown
end
end Go.Proofs.Ytkiiehobphkmgaa
