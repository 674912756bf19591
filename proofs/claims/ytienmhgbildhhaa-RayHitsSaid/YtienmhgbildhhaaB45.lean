/- Parts of a proof: contracts and laws. -/
import Derived.Test.YtienmhgbildhhaaB44
import Derived.Test.YtienmhgbildhhaaB35
import Derived.Test.YtienmhgbildhhaaB34
import Derived.Test.YtienmhgbildhhaaB52
import Derived.Test.YtienmhgbildhhaaB12
import Derived.Test.YtienmhgbildhhaaB13
import Derived.Test.YtienmhgbildhhaaB11
import Derived.BigRegion
import Derived.Deep.DeepCutAuto
namespace Go.Proofs.Ytienmhgbildhhaa
section
set_option linter.unusedVariables false
set_option linter.unusedSimpArgs false
open Go.RowKit
theorem spot_calls (x y h : Int) (hx : -4000000000 ≤ x ∧ x ≤ 4000000000) (hy : -4000000000 ≤ y ∧ y ≤ 4000000000) (hh : 0 ≤ h ∧ h ≤ 1000) (w : World) : Calls Try.prog 33 #[vecV x y, .int .i64 h] w (RetVecs (spotL x y h) w) := by
  go_enter Try.func33, Try.ntmps33
  go_wp2
  go_returns
  exact ⟨_, _, _, rfl, Sl.of4 _ _ _ _ _ _ _ _ (by go_simp) (by go_simp) (by go_simp) (by go_simp) (by go_simp) (by go_simp) (by go_simp) (by go_simp) (by omega) (by omega), fun b off e => by cases e; simp, by go_grown⟩
theorem casts_ray (A : Option Addr) (n c : Nat) : castV [⟨bdK 0 0 0, A, n, c, sqK 0 0 1⟩] (-262144, 0) (524288, 0) = .tuple #[.int .i64 0, .int .i64 24576, .int .i64 0] := by
  unfold castV
  rw [bodiesE_one, castO_one]
  dsimp only
  rw [sqk_valid, sqk_ray]
  rfl
theorem casts_meet (A : Option Addr) (n c : Nat) : meetE [⟨bdK 0 0 0, A, n, c, sqK 0 0 1⟩] (sqK 2 0 1) = 0 ∧ meetL [⟨bdK 0 0 0, A, n, c, sqK 0 0 1⟩] (sqK 2 0 1) = [0] := by
  have e : meetE [⟨bdK 0 0 0, A, n, c, sqK 0 0 1⟩] (sqK 2 0 1) = 0 := by
    unfold meetE
    rw [bodiesE_one]
    dsimp only
    rw [sqk_valid]
    decide
  refine ⟨e, ?_⟩
  unfold meetL
  rw [e, if_pos rfl]
  show meetTo _ _ 1 = _
  rw [meetTo_succ (by simp)]
  simp only [List.getElem_cons_zero]
  refine (if_pos sqk_meet).trans ?_
  rfl
set_option maxRecDepth 100000 in
set_option maxHeartbeats 4000000 in
theorem casts_calls (w : World) : Calls Try.prog 29 #[] w (Ret (.bool true) w) := by
  have HBL := hid (fun w => kblock_calls_fix 0 0 1 (by omega) (by omega) (by omega) w)
  have HSQ := hid (fun w => squareKV_calls 2 0 1 (by omega) (by omega) (by omega) w)
  have HE := hid casts_ray
  have HE2 := hid casts_meet
  generalize sqK 0 0 1 = q at *
  generalize sqK 2 0 1 = q2 at *
  go_enter Try.func29, Try.ntmps29
  go_wp2_with fail
  refine (HBL.out _).mono ?_
  rintro e w1 ⟨A, n, c, rfl, hs, -, hb⟩
  obtain ⟨w2, hw2⟩ : ∃ w2, w2 = w1.alloc (.cells #[.int .i64 0, .int .i64 0, .int .i64 0, .int .i64 0, .int .i64 0, .int .i64 0, .int .i64 0, .int .i64 0, .int .i64 0, .int .i64 0, .slice A n c, .bool false, .int .i64 0] 27) := ⟨_, rfl⟩
  obtain ⟨g, hg⟩ : ∃ g, g = w1.heap.size := ⟨_, rfl⟩
  have HK : Hid (BdAt w2 g (bdK 0 0 0) A n c) := by show BdAt _ _ _ _ _ _; rw [hw2, hg]; exact BdAt.here w1 (bdK 0 0 0) A n c _
  have HS : Hid (Sl w2 A n c q) := by show Sl _ _ _ _ _; rw [hw2]; exact hs.below ((Below.refl _ _).alloc (Nat.le_refl _) _)
  have hB2 : Below w.heap.size w w2 := by rw [hw2]; exact hb.alloc hb.size _
  have HC := hid (cast_calls (some ⟨g, 0, none⟩) 1 1 [⟨bdK 0 0 0, A, n, c, q⟩] (-262144) 0 524288 0 w2 (SlB.one HK.out HS.out))
  rw [HE.out] at HC
  clear hs hb HE HK HS
  unfold bodyV
  simp only [bdK, Int.zero_mul]
  go_wp2_with fail
  rw [← hw2, ← hg]
  clear hw2 hg
  refine HC.out.mono ?_
  rintro e w3 ⟨rfl, hb3⟩
  have hB3 := keepBelow hb3 hB2
  clear hB2 hb3 HC
  go_wp2_with fail
  refine (HBL.out _).mono ?_
  rintro e v1 ⟨A', n', c', rfl, hs, -, hb⟩
  obtain ⟨v2, hw2⟩ : ∃ v2, v2 = v1.alloc (.cells #[.int .i64 0, .int .i64 0, .int .i64 0, .int .i64 0, .int .i64 0, .int .i64 0, .int .i64 0, .int .i64 0, .int .i64 0, .int .i64 0, .slice A' n' c', .bool false, .int .i64 0] 27) := ⟨_, rfl⟩
  obtain ⟨g', hg⟩ : ∃ g', g' = v1.heap.size := ⟨_, rfl⟩
  have HK : Hid (BdAt v2 g' (bdK 0 0 0) A' n' c') := by show BdAt _ _ _ _ _ _; rw [hw2, hg]; exact BdAt.here v1 (bdK 0 0 0) A' n' c' _
  have HS : Hid (Sl v2 A' n' c' q) := by show Sl _ _ _ _ _; rw [hw2]; exact hs.below ((Below.refl _ _).alloc (Nat.le_refl _) _)
  have hB2 : Below w.heap.size w v2 := by rw [hw2]; exact (keepBelow hb hB3).alloc (keepBelow hb hB3).size _
  have HB1 := hid (SlB.one (x := ⟨bdK 0 0 0, A', n', c', q⟩) HK.out HS.out)
  clear hs hb hB3 HK HS HBL
  unfold bodyV
  simp only [bdK, Int.zero_mul]
  go_wp2_with fail
  rw [← hw2, ← hg]
  clear hw2 hg
  refine (HSQ.out _).mono ?_
  rintro e w4 ⟨A4, n4, c4, rfl, hs4, -, hb4⟩
  have hB4 := keepBelow hb4 hB2
  have HM := hid (rayMeet_calls (some ⟨g', 0, none⟩) A4 1 1 n4 c4 [⟨bdK 0 0 0, A', n', c', q⟩] q2 w4 (HB1.out.below hb4) hs4)
  rw [(HE2.out A' n' c').1, (HE2.out A' n' c').2] at HM
  clear hs4 hb4 hB2 HSQ HE2 HB1
  go_wp2_with fail
  refine HM.out.mono ?_
  rintro e w5 ⟨A9, n9, c9, rfl, hi, hb5⟩
  have HI := hid hi
  have hB5 := keepBelow hb5 hB4
  clear hi hb5 hB4 HM
  have HEQ : Hid (∀ (g' : Nat) (w' : World), Below w5.heap.size w5 w' → w'.cell? ⟨g', 0, none⟩ = some (.int .i64 0) → Calls Try.prog 45 #[.slice A9 n9 c9, .slice (some ⟨g', 0, none⟩) 1 1] w' (Ret (.bool true) w')) := fun g' w' hb h0 => by
    have := equalI_calls A9 (some ⟨g', 0, none⟩) n9 c9 1 1 [0] [0] w' (HI.out.below hb) ⟨rfl, Nat.le_refl _, by omega, fun _ => ⟨g', 0, rfl, lt_of_cell h0, fun j hj => by
      have : j = 0 := by simpa using hj
      subst this
      simpa using h0⟩⟩
    rwa [decide_eq_true rfl] at this
  go_wp2_with (go_at_call 45; refine (HEQ.out _ _ ((Below.refl _ _).alloc (Nat.le_refl _) _) (by go_simp)).mono ?_; rintro e w6 ⟨rfl, hb6⟩; have hB6 := keepBelow hb6 (hB5.alloc hB5.size _))
  go_returns
  exact ret_bool (by simp) hB6
end
end Go.Proofs.Ytienmhgbildhhaa
namespace Go.Proofs.Ytienmhgbildhhaa
section
set_option linter.unusedVariables false
set_option linter.unusedSimpArgs false
open Go.RowKit
theorem lineR_pos {D : List V} {f u : V} {t : Int} (h : lineR D f u = some t) : 0 ≤ t := by
  have ok := ln_ok (rnum D f) (rden D u) D.length
  unfold lineR at h
  generalize lnF (rnum D f) (rden D u) D.length = s at ok h
  match s, ok, h with
  | none, ok, h => cases h
  | some (e, v), ok, h =>
    obtain ⟨e2, -, e1, -⟩ := ok
    have h : (if v.1 * e.2 < e.1 * v.2 then none else some (e.1 * 65536 / e.2)) = some t := h
    by_cases c : v.1 * e.2 < e.1 * v.2
    · rw [if_pos c] at h; cases h
    · rw [if_neg c] at h
      cases h
      exact Int.ediv_nonneg (by omega) (by omega)
end
end Go.Proofs.Ytienmhgbildhhaa
namespace Go.Proofs.Ytienmhgbildhhaa
section
set_option linter.unusedVariables false
set_option linter.unusedSimpArgs false
open Go.RowKit
set_option maxRecDepth 100000 in
set_option maxHeartbeats 4000000 in
end
end Go.Proofs.Ytienmhgbildhhaa
namespace Go.Proofs.Ytienmhgbildhhaa
section
set_option linter.unusedVariables false
set_option linter.unusedSimpArgs false
open Go.RowKit
theorem BdAt.far {w : World} {g : Nat} {b : Bd} {A : Option Addr} {n c : Nat} (h : BdAt w g b A n c) (k o : Nat) (v : Value) (hne : k ≠ g) : BdAt (w.setCell ⟨k, o, none⟩ v) g b A n c :=
  ⟨far1 hne h.c0, far1 hne h.c1, far1 hne h.c2, far1 hne h.c3, far1 hne h.c4, far1 hne h.c5, far1 hne h.c6, far1 hne h.c7, far1 hne h.c8, far1 hne h.c9, far1 hne h.c10, far1 hne h.c11, far1 hne h.c12, fun j => by rw [World.frozen?_setCell]; exact h.free j⟩
set_option maxRecDepth 100000 in
set_option maxHeartbeats 2000000 in
set_option maxRecDepth 100000 in
set_option maxHeartbeats 4000000 in
end
end Go.Proofs.Ytienmhgbildhhaa
