/- Parts of a proof: contracts and laws. -/
import Derived.Test.YtiaoandbdgdecaaGreatPN38
import Derived.Test.YtiaoandbdgdecaaGreatPN17
import Derived.Test.YtiaoandbdgdecaaGreatPN16
import Derived.Test.YtiaoandbdgdecaaGreatPN09
import Derived.BigRegion
import Derived.Deep.DeepCutAuto
import Derived.Test.YtiaoandbdgdecaaGreatPN13
import Derived.Test.YtiaoandbdgdecaaGreatPN10
import Derived.Test.YtiaoandbdgdecaaGreatPN42
namespace Go.Proofs.YtiaoandbdgdecaaGreat
section
set_option linter.unusedVariables false
set_option linter.unusedSimpArgs false
open Go.RowKit
theorem le_twice {z S L : Int} (hL : 0 ≤ L) (h1 : S < (L + 1) * (L + 1)) (h2 : z * z ≤ 2 * S) : z ≤ 2 * L := by
 rcases Int.lt_or_le (2 * L) z with h | h
 ·exfalso
  have m : (2 * L + 1) * (2 * L + 1) ≤ z * z := Int.mul_le_mul (by omega) (by omega) (by omega) (by omega)
  have e1 : (2 * L + 1) * (2 * L + 1) = 4 * (L * L) + 4 * L + 1 := by grind
  have e2 : (L + 1) * (L + 1) = L * L + 2 * L + 1 := by grind
  have p := sq_nonneg L
  omega
 ·exact h
theorem sum_len {x y : Int} (hx : -131072000 ≤ x ∧ x ≤ 131072000) (hy : -131072000 ≤ y ∧ y ≤ 131072000) : x + y ≤ 2 * lenZ x y ∧ x - y ≤ 2 * lenZ x y ∧ -x + y ≤ 2 * lenZ x y ∧ -x - y ≤ 2 * lenZ x y := by
 have q1 := mul_bd (x := x) (y := x) (M := 131072000) (N := 131072000) (by omega) (by omega) (by omega) (by omega)
 have q2 := mul_bd (x := y) (y := y) (M := 131072000) (N := 131072000) (by omega) (by omega) (by omega) (by omega)
 have s1 := sq_nonneg x
 have s2 := sq_nonneg y
 obtain ⟨h0, -, h2⟩ := rootZ_spec (n := x * x + y * y) (by omega) (by omega)
 change 0 ≤ lenZ x y at h0
 change x * x + y * y < (lenZ x y + 1) * (lenZ x y + 1) at h2
 have t1 := sq_nonneg (x - y)
 have t2 := sq_nonneg (x + y)
 have e1 : (x + y) * (x + y) + (x - y) * (x - y) = 2 * (x * x + y * y) := by grind
 refine ⟨le_twice h0 h2 (by omega), le_twice h0 h2 (by omega), le_twice h0 h2 ?_, le_twice h0 h2 ?_⟩
 ·have e : (-x + y) * (-x + y) = (x - y) * (x - y) := by grind
  omega
 ·have e : (-x - y) * (-x - y) = (x + y) * (x + y) := by grind
  omega
theorem clp_box {M : Int} (hM : M ≤ 65536000) {p q : V} {a b : Int} (h1 : withinB M p.1 p.2 = true) (h2 : withinB M q.1 q.2 = true) : withinB M (clpAB p q a b).1.1.1 (clpAB p q a b).1.1.2 = true ∧ withinB M (clpAB p q a b).1.2.1 (clpAB p q a b).1.2.2 = true := by
 obtain ⟨_, _, _, _⟩ := withinB_iff.1 h1
 obtain ⟨_, _, _, _⟩ := withinB_iff.1 h2
 unfold clpAB
 by_cases ha : a < 0 <;> by_cases hb : b < 0
 ·rw [if_pos ⟨ha, hb⟩]; exact ⟨h1, h2⟩
 ·have k1 := betQ_bd (D := q.1 - p.1) (a := a) (b := b) (by omega) (by omega)
  have k2 := betQ_bd (D := q.2 - p.2) (a := a) (b := b) (by omega) (by omega)
  rw [if_neg (by omega), if_pos ha]
  exact ⟨withinB_iff.2 (by dsimp only; omega), h2⟩
 ·have k1 := betQ_bd (D := q.1 - p.1) (a := a) (b := b) (by omega) (by omega)
  have k2 := betQ_bd (D := q.2 - p.2) (a := a) (b := b) (by omega) (by omega)
  rw [if_neg (by omega), if_neg ha, if_pos hb]
  exact ⟨h1, withinB_iff.2 (by dsimp only; omega)⟩
 ·rw [if_neg (by omega), if_neg ha, if_neg hb]; exact ⟨h1, h2⟩
theorem seg_box {M : Int} (hM : M ≤ 65536000) {ref inc : List V} {e : Nat} (hw : allWithin M inc = true) (h0 : 0 < inc.length) : withinB M (segZ ref inc e).1.1.1 (segZ ref inc e).1.1.2 = true ∧ withinB M (segZ ref inc e).1.2.1 (segZ ref inc e).1.2.2 = true := by
 have hk := facZ_lt (l := inc) (nrmX ref e) (nrmY ref e) h0
 have c1 := clp_box hM (p := cnP inc (facZ inc (nrmX ref e) (nrmY ref e))) (q := nxP inc (facZ inc (nrmX ref e) (nrmY ref e))) (a := clpA (cnP inc (facZ inc (nrmX ref e) (nrmY ref e))) (cnP ref e) ((nxP ref e).1 - (cnP ref e).1, (nxP ref e).2 - (cnP ref e).2)) (b := clpA (nxP inc (facZ inc (nrmX ref e) (nrmY ref e))) (cnP ref e) ((nxP ref e).1 - (cnP ref e).1, (nxP ref e).2 - (cnP ref e).2)) (allWithin_at hw hk) (allWithin_at hw (Nat.mod_lt _ h0))
 unfold segZ
 split
 ·exact clp_box hM c1.1 c1.2
 ·exact c1


theorem deepTo_dpt {l m : List V} {i : Nat} {B : Int} (hB : ∀ j, j < m.length → dpt l m i j ≤ B) : ∀ k, k < m.length → deepTo l m i k ≤ B
 | 0, h => hB 0 h
 | k + 1, h => by
  rw [deepTo]
  split
  ·exact hB _ h
  ·exact deepTo_dpt hB k (by omega)
theorem deep_fc {ref inc : List V} {e : Nat} (h0 : 0 < inc.length) : deepZ ref inc e ≤ dptZ ref e (px inc (fcTo inc (nrmX ref e) (nrmY ref e) inc.length)) (py inc (fcTo inc (nrmX ref e) (nrmY ref e) inc.length)) := by
 unfold deepZ
 refine deepTo_dpt (fun j hj => ?_) _ (by omega)
 have h := (supTo_spec inc (-nrmX ref e) (-nrmY ref e) inc.length h0).2.1 j hj
 rw [← fcTo_sup] at h
 unfold dotL at h
 show nrmX ref e * (px ref e - px inc j) + nrmY ref e * (py ref e - py inc j) ≤ dptZ _ _ _ _
 unfold dptZ
 generalize fcTo inc (nrmX ref e) (nrmY ref e) inc.length = f at *
 simp only [Int.mul_sub, Int.mul_neg] at *
 rw [Int.mul_comm (px inc j), Int.mul_comm (py inc j), Int.mul_comm (px inc f), Int.mul_comm (py inc f)] at h
 omega

end
end Go.Proofs.YtiaoandbdgdecaaGreat
namespace Go.Proofs.YtiaoandbdgdecaaGreat
section
set_option linter.unusedVariables false
set_option linter.unusedSimpArgs false
open Go.RowKit

structure PlAt (w : World) (g : Nat) (b : Bd) (l : List V) (k : Nat) : Prop where
 lt : g < w.heap.size
 x : ∀ j, j < k → w.cell? ⟨g, j * 2, none⟩ = some (.int .i64 (wX b (px l j) (py l j)))
 y : ∀ j, j < k → w.cell? ⟨g, j * 2 + 1, none⟩ = some (.int .i64 (wY b (px l j) (py l j)))
 c : ∀ j, j < l.length * 2 → ∃ v, w.cell? ⟨g, j, none⟩ = some v
 free : ∀ j, w.frozen? ⟨g, j, none⟩ = false
theorem PlAt.drew {w : World} {g : Nat} {b : Bd} {l : List V} {k : Nat} (h : PlAt w g b l k) : PlAt w.drew g b l k := ⟨h.lt, h.x, h.y, h.c, h.free⟩
theorem PlAt.set {w : World} {g : Nat} {b : Bd} {l : List V} {k : Nat} (h : PlAt w g b l k) (hk : k < l.length) :
  PlAt ((w.setCell ⟨g, k * 2, none⟩ (.int .i64 (wX b (px l k) (py l k)))).setCell ⟨g, k * 2 + 1, none⟩ (.int .i64 (wY b (px l k) (py l k)))) g b l (k + 1) := by
 obtain ⟨z0, y0⟩ := h.c (k * 2) (by omega)
 obtain ⟨z1, y1⟩ := h.c (k * 2 + 1) (by omega)
 refine ⟨by simpa using h.lt, fun j hj => ?_, fun j hj => ?_, fun j hj => ?_, fun j => by rw [World.frozen?_setCell, World.frozen?_setCell]; exact h.free j⟩
 ·by_cases e : j = k
  ·subst e; go_simp
  ·have := h.x j (by omega)
   have n1 : ¬ (k * 2 = j * 2) := by omega
   have n2 : ¬ (k * 2 + 1 = j * 2) := by omega
   have n3 : ¬ (j * 2 = k * 2) := by omega
   have n4 : ¬ (j * 2 = k * 2 + 1) := by omega
   go_simp
 ·by_cases e : j = k
  ·subst e; go_simp
  ·have := h.y j (by omega)
   have n1 : ¬ (k * 2 = j * 2 + 1) := by omega
   have n2 : ¬ (k * 2 + 1 = j * 2 + 1) := by omega
   have n3 : ¬ (j * 2 + 1 = k * 2) := by omega
   have n4 : ¬ (j * 2 + 1 = k * 2 + 1) := by omega
   go_simp
 ·obtain ⟨v, hv⟩ := h.c j hj
  by_cases e : k * 2 + 1 = j
  ·subst e; exact ⟨.int .i64 (wY b (px l k) (py l k)), by go_simp⟩
  ·by_cases e2 : k * 2 = j
   ·subst e2; exact ⟨.int .i64 (wX b (px l k) (py l k)), by go_simp⟩
   ·exact ⟨v, by go_simp⟩
theorem px_placeL {b : Bd} {l : List V} {j : Nat} (h : j < l.length) : px (placeL b l) j = wX b (px l j) (py l j) := by simp [px, py, placeL, h]
theorem py_placeL {b : Bd} {l : List V} {j : Nat} (h : j < l.length) : py (placeL b l) j = wY b (px l j) (py l j) := by simp [px, py, placeL, h]
set_option maxRecDepth 100000 in
set_option maxHeartbeats 4000000 in
end
end Go.Proofs.YtiaoandbdgdecaaGreat
namespace Go.Proofs.YtiaoandbdgdecaaGreat
section
set_option linter.unusedVariables false
set_option linter.unusedSimpArgs false
open Go.RowKit
theorem BdAt.far {w : World} {g : Nat} {b : Bd} {A : Option Addr} {n c : Nat} (h : BdAt w g b A n c) (k o : Nat) (v : Value) (hne : k ≠ g) : BdAt (w.setCell ⟨k, o, none⟩ v) g b A n c :=
 ⟨far1 hne h.c0, far1 hne h.c1, far1 hne h.c2, far1 hne h.c3, far1 hne h.c4, far1 hne h.c5, far1 hne h.c6, far1 hne h.c7, far1 hne h.c8, far1 hne h.c9, far1 hne h.c10, far1 hne h.c11, far1 hne h.c12, fun j => by rw [World.frozen?_setCell]; exact h.free j⟩
set_option maxRecDepth 100000 in
set_option maxHeartbeats 4000000 in
theorem same_calls (b : Bd) (A A' : Option Addr) (n c n' c' : Nat) (l : List V) (w : World) (hS : Sl w A n c l) (hS' : Sl w A' n' c' l) : Calls Tryz.prog 28 #[bodyV b A n c, bodyV b A' n' c'] w (Ret (.bool true) w) := by
 obtain ⟨W, hW⟩ : ∃ W, W = (w.alloc (.cells #[.int .i64 b.px, .int .i64 b.py, .int .i64 b.vx, .int .i64 b.vy, .int .i64 b.ang, .int .i64 b.spin, .int .i64 b.mass, .int .i64 b.iner, .int .i64 b.bounce, .int .i64 b.rub, .slice A n c, .bool b.asleep, .int .i64 b.calm] 58)).alloc (.cells #[.int .i64 b.px, .int .i64 b.py, .int .i64 b.vx, .int .i64 b.vy, .int .i64 b.ang, .int .i64 b.spin, .int .i64 b.mass, .int .i64 b.iner, .int .i64 b.bounce, .int .i64 b.rub, .slice A' n' c', .bool b.asleep, .int .i64 b.calm] 58) := ⟨_, rfl⟩
 have HA := hid (show BdAt W w.heap.size b A n c by rw [hW]; exact (BdAt.here w b A n c _).alloc _)
 have HA' := hid (show BdAt W (w.heap.size + 1) b A' n' c' by rw [hW]; have := BdAt.here (w.alloc (.cells #[.int .i64 b.px, .int .i64 b.py, .int .i64 b.vx, .int .i64 b.vy, .int .i64 b.ang, .int .i64 b.spin, .int .i64 b.mass, .int .i64 b.iner, .int .i64 b.bounce, .int .i64 b.rub, .slice A n c, .bool b.asleep, .int .i64 b.calm] 58)) b A' n' c' 58; simpa using this)
 have hB : Below w.heap.size w W := by rw [hW]; go_grown
 have HS := hid (hS.below hB)
 have HS' := hid (hS'.below hB)
 obtain ⟨k0, k1, k2, k3, k4, k5, k6, k7, k8, k9, k10, k11, k12, _⟩ := HA.out
 obtain ⟨m0, m1, m2, m3, m4, m5, m6, m7, m8, m9, m10, m11, m12, _⟩ := HA'.out
 have hl1 := HA.out.lt
 have hl2 := HA'.out.lt
 clear hS hS'
 go_enter Tryz.func28, Tryz.ntmps28
 go_upto_region 1 with fail
 rw [← hW]
 clear hW
 go_cut [5, 6] from 7 to 8 (fun p q wx => ∃ ga gb : Nat, p = .pointer (some ⟨ga, 0, none⟩) ∧ q = .pointer (some ⟨gb, 0, none⟩) ∧ ga ≠ gb ∧ W.heap.size ≤ ga ∧ W.heap.size ≤ gb ∧ BdAt wx ga b A n c ∧ BdAt wx gb b A' n' c' ∧ Below W.heap.size W wx)
 case first =>
  go_region
  all_goals
   clear k0 k1 k2 k3 k4 k5 k6 k7 k8 k9 k10 k11 k12 m0 m1 m2 m3 m4 m5 m6 m7 m8 m9 m10 m11 m12
   go_wp2_with fail
   go_meet
   refine ⟨_, _, rfl, rfl, by omega, by omega, by omega, ?_, ?_, by go_grown⟩
   ·refine BdAt.drew ?_
    first
     | exact (BdAt.here W b A n c 58).alloc _
     | (have := BdAt.here (W.alloc (.cells #[.int .i64 b.px, .int .i64 b.py, .int .i64 b.vx, .int .i64 b.vy, .int .i64 b.ang, .int .i64 b.spin, .int .i64 b.mass, .int .i64 b.iner, .int .i64 b.bounce, .int .i64 b.rub, .slice A' n' c', .bool b.asleep, .int .i64 b.calm] 58)) b A n c 58; simpa using this)
   ·refine BdAt.drew ?_
    first
     | exact (BdAt.here W b A' n' c' 58).alloc _
     | (have := BdAt.here (W.alloc (.cells #[.int .i64 b.px, .int .i64 b.py, .int .i64 b.vx, .int .i64 b.vy, .int .i64 b.ang, .int .i64 b.spin, .int .i64 b.mass, .int .i64 b.iner, .int .i64 b.bounce, .int .i64 b.rub, .slice A n c, .bool b.asleep, .int .i64 b.calm] 58)) b A' n' c' 58; simpa using this)
 case rest =>
  obtain ⟨ga, gb, rfl, rfl, hne, hga, hgb, h1, h2, hBc⟩ := hcut
  replace k10 := keepCell hBc k10
  replace m10 := keepCell hBc m10
  have hl3 := h1.lt
  have hl4 := h2.lt
  have n1 : ¬ ga = w.heap.size := by omega
  have n2 : ¬ w.heap.size = ga := by omega
  have n3 : ¬ gb = w.heap.size := by omega
  have n4 : ¬ w.heap.size = gb := by omega
  have n5 : ¬ ga = w.heap.size + 1 := by omega
  have n6 : ¬ w.heap.size + 1 = ga := by omega
  have n7 : ¬ gb = w.heap.size + 1 := by omega
  have n8 : ¬ w.heap.size + 1 = gb := by omega
  have n9 : ¬ gb = ga := by omega
  have u10 := h1.c10
  have uf := h1.free
  have v10 := h2.c10
  have vf := h2.free
  have H1 := hid h1
  have H2 := hid h2
  clear k0 k1 k2 k3 k4 k5 k6 k7 k8 k9 k11 k12 m0 m1 m2 m3 m4 m5 m6 m7 m8 m9 m11 m12 h1 h2
  go_wp2_with fail
  have hg1 : BdAt ((wc.setCell ⟨ga, 10, none⟩ (.slice none 0 0)).setCell ⟨gb, 10, none⟩ (.slice none 0 0)) ga b none 0 0 := (H1.out.set_slice (A' := none) (n' := 0) (c' := 0)).far gb 10 _ n9
  have hg2 : BdAt ((wc.setCell ⟨ga, 10, none⟩ (.slice none 0 0)).setCell ⟨gb, 10, none⟩ (.slice none 0 0)) gb b none 0 0 := (H2.out.far ga 10 _ hne).set_slice
  have hBe : Below W.heap.size W ((wc.setCell ⟨ga, 10, none⟩ (.slice none 0 0)).setCell ⟨gb, 10, none⟩ (.slice none 0 0)) := by go_grown
  have H1e := hid hg1
  have H2e := hid hg2
  have HSe := hid (HS.out.below hBe)
  have HSe' := hid (HS'.out.below hBe)
  clear hg1 hg2 H1 H2 u10 v10 k10 m10 uf vf
  refine (equal_calls _ _ _ _ _ _ l l _ HSe.out HSe'.out).mono ?_
  rintro e w5 ⟨rfl, hb5⟩
  rw [show decide (l = l) = true by simp]
  have g1 := keepBd hb5 H1e.out
  have g2 := keepBd hb5 H2e.out
  have hB5 : Below w.heap.size w w5 := hB.trans ((keepBelow hb5 hBe).mono hB.size)
  obtain ⟨k0, k1, k2, k3, k4, k5, k6, k7, k8, k9, k10, k11, k12, _⟩ := g1
  obtain ⟨m0, m1, m2, m3, m4, m5, m6, m7, m8, m9, m10, m11, m12, _⟩ := g2
  clear hb5 hBe HSe HSe' H1e H2e
  go_wp2
  go_returns
  exact ret_bool (by simp) hB5
end
end Go.Proofs.YtiaoandbdgdecaaGreat
namespace Go.Proofs.YtiaoandbdgdecaaGreat
section
set_option linter.unusedVariables false
set_option linter.unusedSimpArgs false
open Go.RowKit
theorem rnd_spec {W n : Int} (hn : 0 < n) : 2 * (n * rnd W n) ≤ 2 * W + n ∧ 2 * W + n < 2 * (n * rnd W n) + 2 * n := by
 have e : rnd W n = (2 * W + n) / (2 * n) := by unfold rnd; rw [if_neg (by omega)]
 rw [e]
 have h := Int.emod_add_mul_ediv (2 * W + n) (2 * n)
 have h0 := Int.emod_nonneg (2 * W + n) (show 2 * n ≠ 0 by omega)
 have h1 := Int.emod_lt_of_pos (2 * W + n) (show 0 < 2 * n by omega)
 rw [Int.mul_assoc] at h
 omega
theorem rnd_bd' {x n M : Int} (hn : 0 < n) (h1 : -(n * M) ≤ x) (h2 : x ≤ n * M) : -M ≤ rnd x n ∧ rnd x n ≤ M := by
 obtain ⟨a, b⟩ := rnd_spec (W := x) hn
 constructor
 ·rcases Int.lt_or_le (rnd x n) (-M) with h | h
  ·have := Int.mul_le_mul_of_nonneg_left (show rnd x n + 1 ≤ -M by omega) (show 0 ≤ n by omega)
   rw [Int.mul_add, Int.mul_neg] at this
   omega
  ·exact h
 ·rcases Int.lt_or_le M (rnd x n) with h | h
  ·have := Int.mul_le_mul_of_nonneg_left (show M + 1 ≤ rnd x n by omega) (show 0 ≤ n by omega)
   rw [Int.mul_add] at this
   omega
  ·exact h


theorem mulF_sm {a b : Int} (ha : -1441792 ≤ a ∧ a ≤ 1441792) (hb : -786432 ≤ b ∧ b ≤ 786432) : mulF a b = rnd (a * b) 65536 ∧ -17301504 ≤ mulF a b ∧ mulF a b ≤ 17301504 := by
 have m := mul_bd (x := a) (y := b) (M := 1441792) (N := 786432) (by omega) (by omega) (by omega) (by omega)
 have hr := rnd_bd' (x := a * b) (n := 65536) (M := 17301504) (by omega) (by omega) (by omega)
 have e : mulF a b = rnd (a * b) 65536 := by
  unfold mulF mdF
  rw [clampF_id (a := a) (by omega) (by omega), clampF_id (a := b) (by omega) (by omega), show clampF 65536 = 65536 by decide, if_neg (by omega)]
  exact clampF_id (by omega) (by omega)
 rw [e]
 exact ⟨rfl, hr⟩

theorem addF_sm {a b : Int} (ha : -549755813888 ≤ a ∧ a ≤ 549755813888) (hb : -549755813888 ≤ b ∧ b ≤ 549755813888) : addF a b = a + b := by
 unfold addF; rw [clampF_id (a := a) (by omega) (by omega), clampF_id (a := b) (by omega) (by omega)]; exact clampF_id (by omega) (by omega)
theorem subF_sm {a b : Int} (ha : -549755813888 ≤ a ∧ a ≤ 549755813888) (hb : -549755813888 ≤ b ∧ b ≤ 549755813888) : subF a b = a - b := by
 unfold subF; rw [clampF_id (a := a) (by omega) (by omega), clampF_id (a := b) (by omega) (by omega)]; exact clampF_id (by omega) (by omega)

end
end Go.Proofs.YtiaoandbdgdecaaGreat
namespace Go.Proofs.YtiaoandbdgdecaaGreat
section
set_option linter.unusedVariables false
set_option linter.unusedSimpArgs false
open Go.RowKit
theorem absZ_le {a M : Int} (h1 : -M ≤ a) (h2 : a ≤ M) : absZ a ≤ M := by unfold absZ; split <;> omega
theorem sizeL_made {l : List V} (h : allWithin 262144 l = true) {i k : Nat} (hi : i < l.length) (hk : k < l.length) : sizeL l i k ≤ 1048576 := by
 have h1 := withinB_iff.1 (allWithin_at h hi)
 have h2 := withinB_iff.1 (allWithin_at h hk)
 have e1 := absZ_le (a := px l k - px l i) (M := 524288) (by omega) (by omega)
 have e2 := absZ_le (a := py l k - py l i) (M := 524288) (by omega) (by omega)
 unfold sizeL
 omega
theorem fatBad_not {l : List V} (hw : allWithin 262144 l = true) {i k : Nat} (hi : i < l.length) (hk : k < l.length) (h : k = i ∨ k = (i + 1) % l.length ∨ 16777216 ≤ sideL l i ((i + 1) % l.length) k) : fatBad l i k = false := by
 unfold fatBad
 refine decide_eq_false ?_
 rintro ⟨n1, n2, n3⟩
 rcases h with h | h | h
 ·exact n1 h
 ·exact n2 h
 ·have a1 := sizeL_made hw hi (Nat.mod_lt (i + 1) (show 0 < l.length by omega))
  have a2 := sizeL_made hw hi hk
  omega
theorem fat_of {l : List V} (hw : allWithin 262144 l = true) (h : ∀ i, i < l.length → ∀ k, k < l.length → (k = i ∨ k = (i + 1) % l.length ∨ 16777216 ≤ sideL l i ((i + 1) % l.length) k)) : fatB l = true :=
 fatB_ok fun i hi k hk => fatBad_not hw hi hk (h i hi k hk)
theorem tri_fat {w h x : Int} (hw : w = 65536 ∨ w = 131072 ∨ w = 196608 ∨ w = 262144) (hh : h = 65536 ∨ h = 131072 ∨ h = 196608 ∨ h = 262144) (h1 : -w ≤ x) (h2 : x < w) : fatB [(-w, -h), (w, -h), (x, h)] = true := by
 have hp : 4294967296 ≤ w * h := by rcases hw with rfl | rfl | rfl | rfl <;> omega
 refine fat_of (by simp [allWithin, withinB]; omega) ?_
 intro i hi k hk
 simp only [List.length_cons, List.length_nil] at hi hk
 match i, hi, k, hk with
 | 0, _, 0, _ => exact .inl rfl
 | 0, _, 1, _ => exact .inr (.inl rfl)
 | 0, _, 2, _ => refine .inr (.inr ?_); simp [sideL, sideZ, px, py]; grind
 | 1, _, 0, _ => refine .inr (.inr ?_); simp [sideL, sideZ, px, py]; grind
 | 1, _, 1, _ => exact .inl rfl
 | 1, _, 2, _ => exact .inr (.inl rfl)
 | 2, _, 0, _ => exact .inr (.inl (by simp))
 | 2, _, 1, _ => refine .inr (.inr ?_); simp [sideL, sideZ, px, py]; grind
 | 2, _, 2, _ => exact .inl rfl
theorem made_fat {l : List V} (h : Made l) : fatB l = true := by
 obtain ⟨a, b, k, x, ha, hb, hk, h1, h2, rfl⟩ := h
 rcases hk with rfl | rfl | rfl | rfl
 ·rw [formL_nox _ _ _ _ (by decide)]; rcases ha with rfl | rfl | rfl | rfl <;> rcases hb with rfl | rfl | rfl | rfl <;> decide
 ·exact tri_fat (by omega) (by omega) h1 h2
 ·rw [formL_nox _ _ _ _ (by decide)]; rcases ha with rfl | rfl | rfl | rfl <;> rcases hb with rfl | rfl | rfl | rfl <;> decide
 ·rw [formL_nox _ _ _ _ (by decide)]; rcases ha with rfl | rfl | rfl | rfl <;> rcases hb with rfl | rfl | rfl | rfl <;> decide
theorem tri_has {w h x : Int} (hw : w = 65536 ∨ w = 131072 ∨ w = 196608 ∨ w = 262144) (hh : h = 65536 ∨ h = 131072 ∨ h = 196608 ∨ h = 262144) (h1 : -w ≤ x) (h2 : x < w) : hasB [(-w, -h), (w, -h), (x, h)] 0 0 = true := by
 refine hasB_true (made_tri _ _ _ (by omega) (by omega) (by omega) (by omega) h1 h2) (by decide) ?_
 intro i hi
 simp only [List.length_cons, List.length_nil] at hi
 match i, hi with
 | 0, _ => rcases hw with rfl | rfl | rfl | rfl <;> rcases hh with rfl | rfl | rfl | rfl <;> simp [edgeP, sideZ, px, py]
 | 1, _ => rcases hw with rfl | rfl | rfl | rfl <;> rcases hh with rfl | rfl | rfl | rfl <;> simp [edgeP, sideZ, px, py] <;> omega
 | 2, _ => rcases hw with rfl | rfl | rfl | rfl <;> rcases hh with rfl | rfl | rfl | rfl <;> simp [edgeP, sideZ, px, py] <;> omega
theorem made_has {l : List V} (h : Made l) : hasB l 0 0 = true := by
 obtain ⟨a, b, k, x, ha, hb, hk, h1, h2, rfl⟩ := h
 rcases hk with rfl | rfl | rfl | rfl
 ·rw [formL_nox _ _ _ _ (by decide)]; rcases ha with rfl | rfl | rfl | rfl <;> rcases hb with rfl | rfl | rfl | rfl <;> decide
 ·exact tri_has (by omega) (by omega) h1 h2
 ·rw [formL_nox _ _ _ _ (by decide)]; rcases ha with rfl | rfl | rfl | rfl <;> rcases hb with rfl | rfl | rfl | rfl <;> decide
 ·rw [formL_nox _ _ _ _ (by decide)]; rcases ha with rfl | rfl | rfl | rfl <;> rcases hb with rfl | rfl | rfl | rfl <;> decide
theorem made_shape {l : List V} (h : Made l) : shapeE l = 0 := by
 have hw : allWithin 2097152 l = true := by
  have := made_within h
  unfold allWithin at this ⊢
  rw [List.all_eq_true] at this ⊢
  intro p hp
  have := withinB_iff.1 (this p hp)
  exact withinB_iff.2 (by omega)
 unfold shapeE
 rw [if_neg (by simp [made_check h]), if_neg (by simp [hw]), if_neg (by simp [made_fat h, made_has h])]
theorem madeB_num {b : Bd} (h : MadeB b) : numE b = 0 := by
 obtain ⟨hpx, hpy, ang, bo, ru, asl, ca, k⟩ := h
 have a1 : withinB 58982400 b.px b.py = true := withinB_iff.2 (by omega)
 have a2 : withinB 268435456 b.vx b.vy = true := withinB_iff.2 (by rcases k with k | k <;> omega)
 have a3 : inB b.spin (-16777216) 16777216 = true := inB_iff.2 (by rcases k with k | k <;> omega)
 have a4 : inB b.ang 0 65535 = true := inB_iff.2 ang
 have a5 : inB b.mass 0 1099511627776 = true := inB_iff.2 (by rcases k with k | k <;> omega)
 have a6 : inB b.iner 0 1099511627776 = true := inB_iff.2 (by rcases k with k | k <;> omega)
 have a7 : inB b.bounce 0 65536 = true := inB_iff.2 bo
 have a8 : inB b.rub 0 65536 = true := inB_iff.2 ru
 have a9 : inB b.calm 0 1000 = true := inB_iff.2 (by omega)
 unfold numE
 rw [if_pos (by simp [a1, a2, a3, a4]), if_pos (by simp [a5, a6, a7, a8, a9])]
 rcases k with ⟨k1, k2, k3, k4, k5⟩ | ⟨k1, k2, k3, k4, k5⟩
 ·rw [if_neg (by simp [stillB, k1, k2, k3, k4, k5, asl, ca])]
 ·have m1 : (b.mass == 0) = false := by simp; omega
  have m2 : (b.iner == 0) = false := by simp; omega
  rw [if_neg (by simp [m1, m2, asl])]
theorem madeB_ok {b : Bd} {l : List V} (h : MadeB b) (hl : Made l) : bodyE b l = 0 := by
 unfold bodyE
 rw [if_neg (by simp [made_shape hl])]
 exact madeB_num h
end
end Go.Proofs.YtiaoandbdgdecaaGreat
namespace Go.Proofs.YtiaoandbdgdecaaGreat
section
set_option linter.unusedVariables false
set_option linter.unusedSimpArgs false
open Go.RowKit
theorem tab_mono : ∀ k, k < 64 → tabZ k ≤ tabZ (k + 1) := by decide
theorem tab_norm : ∀ k, k < 64 → 4000000000 ≤ tabZ k * tabZ k + tabZ (63 - k) * tabZ (63 - k) := by decide
theorem first_low {a : Int} (h0 : 0 ≤ a) (h1 : a ≤ 16384) : tabZ (a / 256).toNat ≤ firstZ a ∧ firstZ a ≤ 65536 := by
 unfold firstZ
 obtain ⟨k, hk⟩ : ∃ k, k = (a / 256).toNat := ⟨_, rfl⟩
 rw [← hk]
 have bk := tabZ_bd k
 by_cases hz : a % 256 = 0
 ·rw [if_pos hz]; omega
 ·rw [if_neg hz]
  have hm := tab_mono k (by omega)
  have bk1 := tabZ_bd (k + 1)
  obtain ⟨d, hd⟩ : ∃ d, d = tabZ (k + 1) - tabZ k := ⟨_, rfl⟩
  obtain ⟨f, hf⟩ : ∃ f, f = a % 256 := ⟨_, rfl⟩
  rw [← hd, ← hf]
  have m0 : 0 ≤ d * f := Int.mul_nonneg (by omega) (by omega)
  have m1 : d * f ≤ d * 255 := Int.mul_le_mul_of_nonneg_left (by omega) (by omega)
  rw [Int.tdiv_eq_ediv_of_nonneg (by omega)]
  generalize d * f = z at *
  omega

theorem norm_first {r : Int} (h0 : 0 ≤ r) (h1 : r < 16384) : 4000000000 ≤ firstZ r * firstZ r + firstZ (16384 - r) * firstZ (16384 - r) ∧ (0 ≤ firstZ r ∧ firstZ r ≤ 65536) ∧ (0 ≤ firstZ (16384 - r) ∧ firstZ (16384 - r) ≤ 65536) := by
 obtain ⟨a1, a2⟩ := first_low (a := r) h0 (by omega)
 obtain ⟨b1, b2⟩ := first_low (a := 16384 - r) (by omega) (by omega)
 obtain ⟨k, hk⟩ : ∃ k, k = (r / 256).toNat := ⟨_, rfl⟩
 have hk64 : k < 64 := by omega
 have hb : tabZ (63 - k) ≤ tabZ ((16384 - r) / 256).toNat := by
  by_cases hz : r % 256 = 0
  ·rw [show ((16384 - r) / 256).toNat = 63 - k + 1 by omega]; exact tab_mono _ (by omega)
  ·rw [show ((16384 - r) / 256).toNat = 63 - k by omega]; exact Int.le_refl _
 rw [← hk] at a1
 have n := tab_norm k hk64
 have t1 := tabZ_bd k
 have t2 := tabZ_bd (63 - k)
 have s1 : tabZ k * tabZ k ≤ firstZ r * firstZ r := Int.mul_le_mul a1 a1 (by omega) (by omega)
 have s2 : tabZ (63 - k) * tabZ (63 - k) ≤ firstZ (16384 - r) * firstZ (16384 - r) := Int.mul_le_mul (by omega) (by omega) (by omega) (by omega)
 exact ⟨by omega, ⟨by omega, a2⟩, ⟨by omega, b2⟩⟩
theorem norm_ang {a : Int} (h0 : 0 ≤ a) (h1 : a ≤ 65535) : 4000000000 ≤ cosZ a * cosZ a + sinZ a * sinZ a ∧ (-65536 ≤ cosZ a ∧ cosZ a ≤ 65536) ∧ (-65536 ≤ sinZ a ∧ sinZ a ≤ 65536) := by
 obtain ⟨r, hr⟩ : ∃ r, r = a % 16384 := ⟨_, rfl⟩
 obtain ⟨n, p1, p2⟩ := norm_first (r := r) (by omega) (by omega)
 have hs : sinZ a = if a / 16384 = 0 then firstZ r else if a / 16384 = 1 then firstZ (16384 - r) else if a / 16384 = 2 then - firstZ r else - firstZ (16384 - r) := by
  unfold sinZ; rw [show a % 65536 / 16384 = a / 16384 by omega, ← hr]
 have hc : cosZ a = if (a / 16384 + 1) % 4 = 0 then firstZ r else if (a / 16384 + 1) % 4 = 1 then firstZ (16384 - r) else if (a / 16384 + 1) % 4 = 2 then - firstZ r else - firstZ (16384 - r) := by
  unfold cosZ sinZ
  rw [show (a % 65536 + 16384) % 65536 / 16384 = (a / 16384 + 1) % 4 by omega, show (a % 65536 + 16384) % 16384 = r by omega]
 generalize firstZ r = x at *
 generalize firstZ (16384 - r) = y at *
 have hq : a / 16384 = 0 ∨ a / 16384 = 1 ∨ a / 16384 = 2 ∨ a / 16384 = 3 := by omega
 have e1 : -x * -x = x * x := Int.neg_mul_neg x x
 have e2 : -y * -y = y * y := Int.neg_mul_neg y y
 rcases hq with h | h | h | h
 ·have s' : sinZ a = x := by rw [hs]; (repeat' split) <;> omega
  have c' : cosZ a = y := by rw [hc]; (repeat' split) <;> omega
  rw [s', c']
  exact ⟨by omega, by omega, by omega⟩
 ·have s' : sinZ a = y := by rw [hs]; (repeat' split) <;> omega
  have c' : cosZ a = -x := by rw [hc]; (repeat' split) <;> omega
  rw [s', c']
  exact ⟨by omega, by omega, by omega⟩
 ·have s' : sinZ a = -x := by rw [hs]; (repeat' split) <;> omega
  have c' : cosZ a = -y := by rw [hc]; (repeat' split) <;> omega
  rw [s', c']
  exact ⟨by omega, by omega, by omega⟩
 ·have s' : sinZ a = -y := by rw [hs]; (repeat' split) <;> omega
  have c' : cosZ a = x := by rw [hc]; (repeat' split) <;> omega
  rw [s', c']
  exact ⟨by omega, by omega, by omega⟩

theorem turn_near {x y a : Int} (hx : -262144 ≤ x ∧ x ≤ 262144) (hy : -262144 ≤ y ∧ y ≤ 262144) (h0 : 0 ≤ a) (h1 : a ≤ 65535) :
  (-65536 ≤ 65536 * turnX x y a - (cosZ a * x - sinZ a * y) ∧ 65536 * turnX x y a - (cosZ a * x - sinZ a * y) ≤ 65536) ∧ (-65536 ≤ 65536 * turnY x y a - (sinZ a * x + cosZ a * y) ∧ 65536 * turnY x y a - (sinZ a * x + cosZ a * y) ≤ 65536) ∧ (-600000 ≤ turnX x y a ∧ turnX x y a ≤ 600000) ∧ (-600000 ≤ turnY x y a ∧ turnY x y a ≤ 600000) := by
 obtain ⟨_, bc, bs⟩ := norm_ang h0 h1
 unfold turnX turnY
 generalize cosZ a = c at *
 generalize sinZ a = s at *
 have H : ∀ u v : Int, (-262144 ≤ u ∧ u ≤ 262144) → (-65536 ≤ v ∧ v ≤ 65536) → (-32768 ≤ 65536 * mulF u v - u * v ∧ 65536 * mulF u v - u * v ≤ 32768) ∧ (-262145 ≤ mulF u v ∧ mulF u v ≤ 262145) := by
  intro u v hu hv
  obtain ⟨e, _, _⟩ := mulF_sm (a := u) (b := v) (by omega) (by omega)
  obtain ⟨r1, r2⟩ := rnd_spec (W := u * v) (n := 65536) (by omega)
  have m := mul_bd (x := u) (y := v) (M := 262144) (N := 65536) (by omega) (by omega) (by omega) (by omega)
  rw [e]
  generalize rnd (u * v) 65536 = q at *
  generalize u * v = z at *
  omega
 obtain ⟨a1, a2⟩ := H x c hx bc
 obtain ⟨b1, b2⟩ := H y s hy bs
 obtain ⟨c1, c2⟩ := H x s hx bs
 obtain ⟨d1, d2⟩ := H y c hy bc
 rw [subF_sm (by omega) (by omega), addF_sm (by omega) (by omega), Int.mul_comm c x, Int.mul_comm s y, Int.mul_comm s x, Int.mul_comm c y]
 generalize x * c = z1 at *
 generalize y * s = z2 at *
 generalize x * s = z3 at *
 generalize y * c = z4 at *
 omega

theorem wX_sm {b : Bd} (h : MadeB b) {p q : Int} (ht : -600000 ≤ turnX p q b.ang ∧ turnX p q b.ang ≤ 600000) : wX b p q = turnX p q b.ang + b.px := by
 have := h.px
 unfold wX; exact addF_sm (by omega) (by omega)
theorem wY_sm {b : Bd} (h : MadeB b) {p q : Int} (ht : -600000 ≤ turnY p q b.ang ∧ turnY p q b.ang ≤ 600000) : wY b p q = turnY p q b.ang + b.py := by
 have := h.py
 unfold wY; exact addF_sm (by omega) (by omega)
theorem within_each {l : List V} {m : Int} (h : ∀ j, j < l.length → withinB m (px l j) (py l j) = true) : allWithin m l = true := by
 unfold allWithin
 rw [List.all_eq_true]
 intro x hx
 obtain ⟨j, hj, rfl⟩ := List.mem_iff_getElem.1 hx
 have := h j hj
 simpa [px, py, hj] using this

end
end Go.Proofs.YtiaoandbdgdecaaGreat
