/- Contracts: tourlaw2.block anywhere. -/
import Derived.Test.YtokgmcomgflloaaGreatQX27
import Derived.Test.YtokgmcomgflloaaGreatQXLB
namespace Go.Proofs.YtokgmcomgflloaaGreat
section
set_option linter.unusedVariables false
set_option linter.unusedSimpArgs false
open Go.RowKit
set_option maxRecDepth 100000 in
set_option maxHeartbeats 2000000 in
set_option maxRecDepth 100000 in
set_option maxHeartbeats 2000000 in
theorem nX (x y : Int) (hx : -1048576 ≤ x ∧ x ≤ 1048576) (hy : -1048576 ≤ y ∧ y ≤ 1048576) (w : World) : Calls Tryz.prog 61 #[.int .i64 x, .int .i64 y, .bool true] w (GU (kL x y 65536) (IL (-1) (-1) 2) w) := by
  have HSQ := hid rY;generalize IL (-1) (-1) 2 = q at *
  obtain ⟨W, hW⟩ : ∃ W, W = w.alloc (.cells #[.int .i64 0, .int .i64 0, .int .i64 0, .int .i64 0, .int .i64 0, .int .i64 0, .int .i64 0, .int .i64 0, .int .i64 0, .int .i64 0, .slice none 0 0, .bool false, .int .i64 0] 27) := ⟨_, rfl⟩;have HZ := hid (show jX W w.heap.size by rw [hW]; exact jX.of (bC.here w (kL 0 0 0) none 0 0 _));have hB0 : Below w.heap.size w W := by rw [hW]; go_grown
  go_enter Tryz.func61, Tryz.ntmps61
  go_wp2_with fail
  rw [← hW];clear hW;refine (HSQ.out _).mono ?_;rintro e w1 ⟨A, n, c, rfl, hs, hf, hb⟩;have HF := hid hf;have hB := ah hb hB0;have hlt : w.heap.size < W.heap.size := HZ.out.lt;have HLT := hid hlt;replace HZ := hid (iJ hb HZ.out);obtain ⟨w2, hw2⟩ : ∃ w2, w2 = w1.alloc (.cells #[.int .i64 (x * 65536), .int .i64 (y * 65536), .int .i64 0, .int .i64 0, .int .i64 0, .int .i64 0, .int .i64 0, .int .i64 0, .int .i64 0, .int .i64 0, .slice A n c, .bool false, .int .i64 0] 27) := ⟨_, rfl⟩;obtain ⟨g, hg⟩ : ∃ g, g = w1.heap.size := ⟨_, rfl⟩;have HK := hid (show bC w2 g (kL x y 0) A n c by rw [hw2, hg]; exact bC.here w1 (kL x y 0) A n c _);have HS := hid (show Sl w2 A n c q by rw [hw2]; exact hs.below ((Below.refl _ _).alloc (Nat.le_refl _) _));have HZ2 := hid (show jX w2 w.heap.size by rw [hw2]; exact HZ.out.alloc _);have hB2 : Below w.heap.size w w2 := by rw [hw2]; exact hB.alloc hB.size _
  have HGF : Hid (q ≠ [] → ∀ bx off, A = some ⟨bx, off, none⟩ → bx ≠ g) := fun hne bx off e => by
    obtain ⟨b', off', e', hc⟩ := hs.at_ hne;have := hc.lt;rw [e] at e'; cases e'; rw [hg]; omega
  have HNF : Hid (∀ bx off, A = some ⟨bx, off, none⟩ → w.heap.size ≤ bx) := fun bx off e => by have := hf bx off e; omega
  have hgw : w.heap.size < g := by have := hb.size; rw [hg]; omega
  obtain ⟨z0, z1, z2, z3, z4, z5, z6, z7, z8, z9, z10, z11, z12, y0, y1, y2, y3, y4, y5, y6, y7, y8, y9, y10, y11, y12⟩ := HZ2.out.all;have yf := HZ2.out.free;obtain ⟨k0, k1, k2, k3, k4, k5, k6, k7, k8, k9, k10, k11, k12, kf⟩ := HK.out;have hl1 : w.heap.size < w2.heap.size := HZ2.out.lt;have hl2 : g < w2.heap.size := HK.out.lt;clear hs hf hb hB hB0 hlt HZ HSQ HK;simp only [kL] at k0 k1 k2 k3 k4 k5 k6 k7 k8 k9 k11 k12
  go_upto_if 15 with fail
  rw [← hw2, ← hg];clear hw2 hg;go_wp2;refine bodyPost_ret (v := fP (kL x y 65536) A n c) (by simp [results, Tryz.results61, go_sem, y0, y1, y2, y3, y4, y5, y6, y7, y8, y9, y10, y11, y12, hl1, fP, kL]) rfl ⟨A, n, c, rfl, ?_, HNF.out, ?_⟩
  · exact Sl.setBdN (Sl.setAt2 (Sl.setAt2 HS.out HGF.out) HGF.out) (kL x y 65536) A n c (fun hne bx off e => by have := HF.out bx off e; have := HLT.out; omega)
  · go_grown
end
end Go.Proofs.YtokgmcomgflloaaGreat
