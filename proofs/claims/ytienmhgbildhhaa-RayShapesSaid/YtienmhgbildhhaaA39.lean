/- Parts of a proof: contracts and laws. -/
import Derived.Test.YtienmhgbildhhaaA38
namespace Go.Proofs.Ytienmhgbildhhaa
section
set_option linter.unusedVariables false
set_option linter.unusedSimpArgs false
open Go.RowKit
def bdL : Bd := ⟨0, 0, 0, 0, 0, 0, 0, 0, 0, 0, false, 0⟩
theorem squareV_calls (w : World) : Calls Try.prog 143 #[.int .i64 (-1), .int .i64 (-1), .int .i64 2] w (RetVecs (sqL (-1) (-1) 2) w) := by
  go_enter Try.func143, Try.ntmps143
  go_wp2
  go_returns
  exact ⟨_, _, _, rfl, Sl.of4 _ _ _ _ _ _ _ _ (by go_simp) (by go_simp) (by go_simp) (by go_simp) (by go_simp) (by go_simp) (by go_simp) (by go_simp) (by omega) (by omega), fun b off e => by cases e; simp, by go_grown⟩
set_option maxRecDepth 100000 in
set_option maxHeartbeats 2000000 in
theorem lblock_calls (w : World) : Calls Try.prog 85 #[.int .i64 0, .int .i64 0, .bool false] w fun e w' => ∃ A n c, e = .returned (bodyV bdL A n c) ∧ Sl w' A n c (sqL (-1) (-1) 2) ∧ Below w.heap.size w w' := by
  have HSQ := hid squareV_calls
  generalize sqL (-1) (-1) 2 = q at *
  obtain ⟨W, hW⟩ : ∃ W, W = w.alloc (.cells #[.int .i64 0, .int .i64 0, .int .i64 0, .int .i64 0, .int .i64 0, .int .i64 0, .int .i64 0, .int .i64 0, .int .i64 0, .int .i64 0, .slice none 0 0, .bool false, .int .i64 0] 27) := ⟨_, rfl⟩
  have HZ := hid (show BdZ W w.heap.size by rw [hW]; exact BdZ.of (BdAt.here w bdL none 0 0 _))
  have hB0 : Below w.heap.size w W := by rw [hW]; go_grown
  go_enter Try.func85, Try.ntmps85
  go_wp2_with fail
  rw [← hW]
  clear hW
  refine (HSQ.out _).mono ?_
  rintro e w1 ⟨A, n, c, rfl, hs, hf, hb⟩
  have HF := hid hf
  have hB := keepBelow hb hB0
  have hlt : w.heap.size < W.heap.size := HZ.out.lt
  have HLT := hid hlt
  replace HZ := hid (keepBdZ hb HZ.out)
  obtain ⟨w2, hw2⟩ : ∃ w2, w2 = w1.alloc (.cells #[.int .i64 0, .int .i64 0, .int .i64 0, .int .i64 0, .int .i64 0, .int .i64 0, .int .i64 0, .int .i64 0, .int .i64 0, .int .i64 0, .slice A n c, .bool false, .int .i64 0] 27) := ⟨_, rfl⟩
  obtain ⟨g, hg⟩ : ∃ g, g = w1.heap.size := ⟨_, rfl⟩
  have HK := hid (show BdAt w2 g bdL A n c by rw [hw2, hg]; exact BdAt.here w1 bdL A n c _)
  have HS := hid (show Sl w2 A n c q by rw [hw2]; exact hs.below ((Below.refl _ _).alloc (Nat.le_refl _) _))
  have HZ2 := hid (show BdZ w2 w.heap.size by rw [hw2]; exact HZ.out.alloc _)
  have hB2 : Below w.heap.size w w2 := by rw [hw2]; exact hB.alloc hB.size _
  obtain ⟨z0, z1, z2, z3, z4, z5, z6, z7, z8, z9, z10, z11, z12, y0, y1, y2, y3, y4, y5, y6, y7, y8, y9, y10, y11, y12⟩ := HZ2.out.all
  have yf := HZ2.out.free
  obtain ⟨k0, k1, k2, k3, k4, k5, k6, k7, k8, k9, k10, k11, k12, kf⟩ := HK.out
  have hl1 : w.heap.size < w2.heap.size := HZ2.out.lt
  clear hs hf hb hB hB0 hlt HZ HSQ HK
  simp only [bdL] at k0 k1 k2 k3 k4 k5 k6 k7 k8 k9 k11 k12
  go_upto_if 15 with fail
  rw [← hw2, ← hg]
  clear hw2 hg
  go_wp2
  refine bodyPost_ret (v := bodyV bdL A n c) (by simp [results, Try.results85, go_sem, y0, y1, y2, y3, y4, y5, y6, y7, y8, y9, y10, y11, y12, hl1, bodyV, bdL]) rfl ⟨A, n, c, rfl, ?_, ?_⟩
  · exact HS.out.setBd bdL (fun bx off e h => by have := HF.out bx off e; have := HLT.out; omega)
  · go_grown
theorem bodiesE_one (x : BE) : bodiesE [x] = bodyE x.b x.l := rfl
theorem castO_one (x : BE) (f u : V) : castO [x] f u = frStep 0 (lineR (placeL x.b x.l) f u) none := rfl
theorem sq_valid : bodyE bdL (sqL (-1) (-1) 2) = 0 := by decide
theorem sq_ray : lineR (placeL bdL (sqL (-1) (-1) 2)) (-262144, 0) (524288, 0) = some 24576 := by decide

theorem SlB.one {w : World} {g : Nat} {x : BE} (hb : BdAt w g x.b x.A x.n x.c) (hs : Sl w x.A x.n x.c x.l) : SlB w (some ⟨g, 0, none⟩) 1 1 [x] := by
  refine ⟨⟨rfl, Nat.le_refl _, by omega, fun _ => ⟨g, 0, rfl, hb.lt, fun j hj i v hv => ?_⟩⟩, fun y hy => by rw [List.mem_singleton.1 hy]; exact hs⟩
  have hj0 : j = 0 := by simpa using hj
  subst hj0
  rw [Nat.zero_mul, Nat.zero_add]
  try rw [Nat.zero_add]
  have hv : (encB x)[i]? = some v := hv
  unfold encB at hv
  match i, hv with
  | 0, hv => have e : some _ = some v := hv; cases e; exact hb.c0
  | 1, hv => have e : some _ = some v := hv; cases e; exact hb.c1
  | 2, hv => have e : some _ = some v := hv; cases e; exact hb.c2
  | 3, hv => have e : some _ = some v := hv; cases e; exact hb.c3
  | 4, hv => have e : some _ = some v := hv; cases e; exact hb.c4
  | 5, hv => have e : some _ = some v := hv; cases e; exact hb.c5
  | 6, hv => have e : some _ = some v := hv; cases e; exact hb.c6
  | 7, hv => have e : some _ = some v := hv; cases e; exact hb.c7
  | 8, hv => have e : some _ = some v := hv; cases e; exact hb.c8
  | 9, hv => have e : some _ = some v := hv; cases e; exact hb.c9
  | 10, hv => have e : some _ = some v := hv; cases e; exact hb.c10
  | 11, hv => have e : some _ = some v := hv; cases e; exact hb.c11
  | 12, hv => have e : some _ = some v := hv; cases e; exact hb.c12
  | i + 13, hv => simp at hv
set_option maxRecDepth 100000 in
set_option maxHeartbeats 2000000 in
theorem rayBegun_calls (w : World) : Calls Try.prog 39 #[] w (Ret (.bool true) w) := by
  have HBL := hid lblock_calls
  have HE : Hid (∀ A n c, castV [⟨bdL, A, n, c, sqL (-1) (-1) 2⟩] (-262144, 0) (524288, 0) = .tuple #[.int .i64 0, .int .i64 24576, .int .i64 0]) := fun A n c => by
    unfold castV
    rw [bodiesE_one, castO_one]
    dsimp only
    rw [sq_valid, sq_ray]
    rfl
  generalize sqL (-1) (-1) 2 = q at *
  go_enter Try.func39, Try.ntmps39
  go_wp2_with fail
  refine (HBL.out _).mono ?_
  rintro e w1 ⟨A, n, c, rfl, hs, hb⟩
  obtain ⟨w2, hw2⟩ : ∃ w2, w2 = w1.alloc (.cells #[.int .i64 0, .int .i64 0, .int .i64 0, .int .i64 0, .int .i64 0, .int .i64 0, .int .i64 0, .int .i64 0, .int .i64 0, .int .i64 0, .slice A n c, .bool false, .int .i64 0] 27) := ⟨_, rfl⟩
  obtain ⟨g, hg⟩ : ∃ g, g = w1.heap.size := ⟨_, rfl⟩
  have HK : Hid (BdAt w2 g bdL A n c) := by show BdAt _ _ _ _ _ _; rw [hw2, hg]; exact BdAt.here w1 bdL A n c _
  have HS : Hid (Sl w2 A n c q) := by show Sl _ _ _ _ _; rw [hw2]; exact hs.below ((Below.refl _ _).alloc (Nat.le_refl _) _)
  have hB2 : Below w.heap.size w w2 := by rw [hw2]; exact hb.alloc hb.size _
  have HC := hid (cast_calls (some ⟨g, 0, none⟩) 1 1 [⟨bdL, A, n, c, q⟩] (-262144) 0 524288 0 w2 (SlB.one HK.out HS.out))
  rw [HE.out] at HC
  clear hs hb HBL HE HK HS
  unfold bodyV
  simp only [bdL]
  go_wp2_with fail
  rw [← hw2, ← hg]
  clear hw2 hg
  refine HC.out.mono ?_
  rintro e w3 ⟨rfl, hb3⟩
  have hB3 := keepBelow hb3 hB2
  go_wp2
  go_returns
  exact ret_bool (by simp) hB3
end
end Go.Proofs.Ytienmhgbildhhaa
