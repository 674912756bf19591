/- Parts of a proof: contracts and laws. -/
import Derived.Test.YtilncglnojjlaaaGreatG25
import Derived.Test.YtilncglnojjlaaaGreatG19
import Derived.Test.YtilncglnojjlaaaGreatG23
import Derived.Test.YtilncglnojjlaaaGreatG08
namespace Go.Proofs.YtilncglnojjlaaaGreat
section
set_option linter.unusedVariables false
set_option linter.unusedSimpArgs false
open Go.RowKit

theorem far_le {x1 y1 x2 y2 a b : Int} (h1 : -131072000 ≤ x1 ∧ x1 ≤ 131072000) (h2 : -131072000 ≤ y1 ∧ y1 ≤ 131072000) (h3 : -131072000 ≤ x2 ∧ x2 ≤ 131072000) (h4 : -131072000 ≤ y2 ∧ y2 ≤ 131072000) (ha : 0 ≤ a) (hab : a ≤ b) (hb : 0 < b) :
  farZ x1 y1 x2 y2 * farZ x1 y1 x2 y2 * (b * b) ≤ sqZ (b * x1 + a * (x2 - x1)) (b * y1 + a * (y2 - y1)) := by
 obtain ⟨t, ht⟩ : ∃ t, t = farT x1 y1 x2 y2 := ⟨_, rfl⟩
 obtain ⟨s, hs⟩ : ∃ s, s = sqZ (x2 - x1) (y2 - y1) := ⟨_, rfl⟩
 have bb : 0 ≤ b * b := sq_nonneg b
 have s0 : 0 ≤ s := by rw [hs]; unfold sqZ; have := sq_nonneg (x2 - x1); have := sq_nonneg (y2 - y1); omega
 unfold farZ
 rw [← ht, ← hs]
 split
 ·rename_i c
  obtain ⟨b1, b2⟩ := sqZ_bd h1 h2
  obtain ⟨-, r1, -⟩ := rootZ_spec (n := sqZ x1 y1) b1 (by omega)
  have id : sqZ (b * x1 + a * (x2 - x1)) (b * y1 + a * (y2 - y1)) = sqZ x1 y1 * (b * b) + 2 * (a * b * (-t)) + a * a * s := by rw [ht, hs]; unfold sqZ farT; grind
  have m1 := Int.mul_le_mul_of_nonneg_right r1 bb
  have m2 := Int.mul_nonneg (Int.mul_nonneg ha (show 0 ≤ b by omega)) (show 0 ≤ -t by omega)
  have m3 := Int.mul_nonneg (sq_nonneg a) s0
  omega
 ·split
  ·rename_i c1 c2
   obtain ⟨b1, b2⟩ := sqZ_bd h3 h4
   obtain ⟨-, r1, -⟩ := rootZ_spec (n := sqZ x2 y2) b1 (by omega)
   have id : sqZ (b * x1 + a * (x2 - x1)) (b * y1 + a * (y2 - y1)) = sqZ x2 y2 * (b * b) + (b - a) * (2 * (t * b) - s * (a + b)) := by rw [ht, hs]; unfold sqZ farT; grind
   have m1 := Int.mul_le_mul_of_nonneg_right r1 bb
   have m2 := Int.mul_le_mul_of_nonneg_right c2 (show 0 ≤ b by omega)
   have m4 := Int.mul_nonneg s0 (show 0 ≤ b - a by omega)
   have e4 : s * (b - a) = 2 * (s * b) - s * (a + b) := by grind
   have m3 := Int.mul_nonneg (show 0 ≤ b - a by omega) (show 0 ≤ 2 * (t * b) - s * (a + b) by omega)
   omega
  ·rename_i c1 c2
   have sp : 0 < s := by omega
   obtain ⟨d1, d2⟩ := far_third (x2 := x2) (y2 := y2) h1 h2 (by rw [← hs]; exact sp)
   rw [← hs] at d1 d2
   obtain ⟨-, r1, -⟩ := rootZ_spec (n := crsZ x1 y1 x2 y2 * crsZ x1 y1 x2 y2 / s) d1 (by omega)
   generalize rootZ (crsZ x1 y1 x2 y2 * crsZ x1 y1 x2 y2 / s) = r at *
   have r2 : r * r * s ≤ crsZ x1 y1 x2 y2 * crsZ x1 y1 x2 y2 := (Int.le_ediv_iff_mul_le sp).1 r1
   have id : s * sqZ (b * x1 + a * (x2 - x1)) (b * y1 + a * (y2 - y1)) = crsZ x1 y1 x2 y2 * crsZ x1 y1 x2 y2 * (b * b) + (a * s - b * t) * (a * s - b * t) := by rw [ht, hs]; unfold sqZ farT crsZ; grind
   have m1 := Int.mul_le_mul_of_nonneg_right r2 bb
   have m2 := sq_nonneg (a * s - b * t)
   have e1 : r * r * s * (b * b) = s * (r * r * (b * b)) := by grind
   exact Int.le_of_mul_le_mul_left (show s * (r * r * (b * b)) ≤ s * _ by rw [id]; omega) sp

theorem far_at {x1 y1 x2 y2 : Int} (h1 : -131072000 ≤ x1 ∧ x1 ≤ 131072000) (h2 : -131072000 ≤ y1 ∧ y1 ≤ 131072000) (h3 : -131072000 ≤ x2 ∧ x2 ≤ 131072000) (h4 : -131072000 ≤ y2 ∧ y2 ≤ 131072000) :
  ∃ a b : Int, 0 ≤ a ∧ a ≤ b ∧ 0 < b ∧ sqZ (b * x1 + a * (x2 - x1)) (b * y1 + a * (y2 - y1)) < (farZ x1 y1 x2 y2 + 1) * (farZ x1 y1 x2 y2 + 1) * (b * b) := by
 obtain ⟨t, ht⟩ : ∃ t, t = farT x1 y1 x2 y2 := ⟨_, rfl⟩
 obtain ⟨s, hs⟩ : ∃ s, s = sqZ (x2 - x1) (y2 - y1) := ⟨_, rfl⟩
 unfold farZ
 rw [← ht, ← hs]
 split
 ·rename_i c
  obtain ⟨b1, b2⟩ := sqZ_bd h1 h2
  obtain ⟨-, -, r1⟩ := rootZ_spec (n := sqZ x1 y1) b1 (by omega)
  exact ⟨0, 1, by omega, by omega, by omega, by simpa using r1⟩
 ·split
  ·rename_i c1 c2
   obtain ⟨b1, b2⟩ := sqZ_bd h3 h4
   obtain ⟨-, -, r1⟩ := rootZ_spec (n := sqZ x2 y2) b1 (by omega)
   refine ⟨1, 1, by omega, by omega, by omega, ?_⟩
   rw [show 1 * x1 + 1 * (x2 - x1) = x2 by omega, show 1 * y1 + 1 * (y2 - y1) = y2 by omega]
   simpa using r1
  ·rename_i c1 c2
   have sp : 0 < s := by omega
   obtain ⟨d1, d2⟩ := far_third (x2 := x2) (y2 := y2) h1 h2 (by rw [← hs]; exact sp)
   rw [← hs] at d1 d2
   obtain ⟨-, -, r1⟩ := rootZ_spec (n := crsZ x1 y1 x2 y2 * crsZ x1 y1 x2 y2 / s) d1 (by omega)
   generalize rootZ (crsZ x1 y1 x2 y2 * crsZ x1 y1 x2 y2 / s) = r at *
   refine ⟨t, s, by omega, by omega, sp, ?_⟩
   have r2 : crsZ x1 y1 x2 y2 * crsZ x1 y1 x2 y2 < (r + 1) * (r + 1) * s := (Int.ediv_lt_iff_lt_mul sp).1 r1
   have id : sqZ (s * x1 + t * (x2 - x1)) (s * y1 + t * (y2 - y1)) = s * (crsZ x1 y1 x2 y2 * crsZ x1 y1 x2 y2) := by rw [ht, hs]; unfold sqZ farT crsZ; grind
   rw [id]
   have := Int.mul_lt_mul_of_pos_left r2 sp
   have e : s * ((r + 1) * (r + 1) * s) = (r + 1) * (r + 1) * (s * s) := by grind
   omega
theorem ratio_trans {n1 d1 n2 d2 n3 d3 : Int} (h1 : 0 < d1) (h2 : 0 < d2) (h3 : 0 < d3) (a : n1 * d2 ≤ n2 * d1) (b : n2 * d3 ≤ n3 * d2) : n1 * d3 ≤ n3 * d1 := by
 have m1 := Int.mul_le_mul_of_nonneg_right a (show 0 ≤ d3 by omega)
 have m2 := Int.mul_le_mul_of_nonneg_right b (show 0 ≤ d1 by omega)
 have e1 : n1 * d2 * d3 = d2 * (n1 * d3) := by grind
 have e2 : n2 * d1 * d3 = n2 * d3 * d1 := by grind
 have e3 : n3 * d2 * d1 = d2 * (n3 * d1) := by grind
 exact Int.le_of_mul_le_mul_left (by omega) h2
theorem max_ratio (c F : Nat → Int) (hF : ∀ t, 0 ≤ F t) : ∀ N, (∃ t, t < N ∧ c t < 0) → ∃ i, i < N ∧ c i < 0 ∧ ∀ j, j < N → c j < 0 → -c j * (F i - c i) ≤ -c i * (F j - c j)
 | 0, h => by obtain ⟨t, h, _⟩ := h; omega
 | N + 1, h => by
  rcases Decidable.em (∃ t, t < N ∧ c t < 0) with g | g
  ·obtain ⟨i, i1, i2, i3⟩ := max_ratio c F hF N g
   rcases Decidable.em (c N < 0 ∧ ¬ (-c N * (F i - c i) ≤ -c i * (F N - c N))) with ⟨k1, k2⟩ | k
   ·refine ⟨N, by omega, k1, fun j hj hc => ?_⟩
    rcases Nat.lt_or_ge j N with q | q
    ·exact ratio_trans (by have := hF j; omega) (by have := hF i; omega) (by have := hF N; omega) (i3 j q hc) (by omega)
    ·have : j = N := by omega
     subst this
     exact Int.le_refl _
   ·refine ⟨i, by omega, i2, fun j hj hc => ?_⟩
    rcases Nat.lt_or_ge j N with q | q
    ·exact i3 j q hc
    ·have : j = N := by omega
     subst this
     rcases Decidable.em (-c j * (F i - c i) ≤ -c i * (F j - c j)) with r | r
     ·exact r
     ·exact absurd ⟨hc, r⟩ k
  ·obtain ⟨t, h1, h2⟩ := h
   have : t = N := by
    rcases Nat.lt_or_ge t N with q | q
    ·exact absurd ⟨t, q, h2⟩ g
    ·omega
   subst this
   refine ⟨t, by omega, h2, fun j hj hc => ?_⟩
   rcases Nat.lt_or_ge j t with q | q
   ·exact absurd ⟨j, q, hc⟩ g
   ·have : j = t := by omega
    subst this
    exact Int.le_refl _

theorem pol_cross {N : Nat} {P : Nat → V} (h : Pol N P) {v : V} (hv : ∀ t, 0 ≤ cr (vsub (P (t + 1)) (P t)) (vsub v (P t))) {t0 : Nat} (h0 : cr (P t0) (P (t0 + 1)) < 0) :
  ∃ t, t < N ∧ ∃ a b k : Int, 0 ≤ a ∧ a ≤ b ∧ 0 < b ∧ 0 ≤ k ∧ k ≤ b ∧ b * (P t).1 + a * ((P (t + 1)).1 - (P t).1) = k * v.1 ∧ b * (P t).2 + a * ((P (t + 1)).2 - (P t).2) = k * v.2 := by
 have hN := h.pos
 have perm : ∀ t, P (t % N) = P t := fun t => by
  have : ∀ q r, P (r + N * q) = P r := fun q r => by
   induction q with
   | zero => simp
   | succ q ih => rw [Nat.mul_succ, ← Nat.add_assoc, h.per]; exact ih
  have e := this (t / N) (t % N)
  rw [Nat.mod_add_div] at e
  exact e.symm
 have perm1 : ∀ t, P (t % N + 1) = P (t + 1) := fun t => by rw [← perm (t % N + 1), Nat.mod_add_mod, perm]
 obtain ⟨i, i1, i2, i3⟩ := max_ratio (fun t => cr (P t) (P (t + 1))) (fun t => cr (vsub (P (t + 1)) (P t)) (vsub v (P t))) hv N ⟨t0 % N, Nat.mod_lt _ (by omega), by (try dsimp only); rw [perm, perm1]; exact h0⟩
 try dsimp only at i2 i3
 have i3' : ∀ j, cr (P j) (P (j + 1)) < 0 → -cr (P j) (P (j + 1)) * (cr (vsub (P (i + 1)) (P i)) (vsub v (P i)) - cr (P i) (P (i + 1))) ≤ -cr (P i) (P (i + 1)) * (cr (vsub (P (j + 1)) (P j)) (vsub v (P j)) - cr (P j) (P (j + 1))) := fun j hj => by
  have := i3 (j % N) (Nat.mod_lt _ (by omega))
  rw [perm, perm1] at this
  exact this hj
 have hi := hv i
 obtain ⟨den, hden⟩ : ∃ d, d = cr (vsub (P (i + 1)) (P i)) (vsub v (P i)) - cr (P i) (P (i + 1)) := ⟨_, rfl⟩
 obtain ⟨num, hnum⟩ : ∃ d, d = -cr (P i) (P (i + 1)) := ⟨_, rfl⟩
 rw [← hden, ← hnum] at i3'
 have nd : num ≤ den := by omega
 have np : 0 < num := by omega
 have dp : 0 < den := by omega
 have G : ∀ j, 0 ≤ cr (vsub (P (j + 1)) (P j)) (vsub (num * v.1, num * v.2) (den * (P j).1, den * (P j).2)) := fun j => by
  have id : cr (vsub (P (j + 1)) (P j)) (vsub (num * v.1, num * v.2) (den * (P j).1, den * (P j).2)) = den * cr (P j) (P (j + 1)) + num * (cr (vsub (P (j + 1)) (P j)) (vsub v (P j)) - cr (P j) (P (j + 1))) := by unfold cr vsub; grind
  have hj := hv j
  rcases Int.lt_or_le (cr (P j) (P (j + 1))) 0 with g | g
  ·have := i3' j g
   rw [id]
   have e : -cr (P j) (P (j + 1)) * den = -(den * cr (P j) (P (j + 1))) := by grind
   omega
  ·have e : den * cr (P j) (P (j + 1)) + num * (cr (vsub (P (j + 1)) (P j)) (vsub v (P j)) - cr (P j) (P (j + 1))) = (den - num) * cr (P j) (P (j + 1)) + num * cr (vsub (P (j + 1)) (P j)) (vsub v (P j)) := by grind
   have m1 := Int.mul_nonneg (show 0 ≤ den - num by omega) g
   have m2 := Int.mul_nonneg (show 0 ≤ num by omega) hj
   rw [id, e]
   omega
 have Gi : cr (vsub (P (i + 1)) (P i)) (vsub (num * v.1, num * v.2) (den * (P i).1, den * (P i).2)) = 0 := by
  have id : cr (vsub (P (i + 1)) (P i)) (vsub (num * v.1, num * v.2) (den * (P i).1, den * (P i).2)) = den * cr (P i) (P (i + 1)) + num * (cr (vsub (P (i + 1)) (P i)) (vsub v (P i)) - cr (P i) (P (i + 1))) := by unfold cr vsub; grind
  rw [id, ← hden, show cr (P i) (P (i + 1)) = -num by omega]
  grind
 have t1 := h.turn (i + N - 1)
 rw [show i + N - 1 + 1 = i + N by omega, show i + N - 1 + 2 = i + 1 + N by omega, h.per, h.per] at t1
 have t2 := h.turn i
 have G1 := G (i + N - 1)
 rw [show i + N - 1 + 1 = i + N by omega, h.per] at G1
 have G2 := G (i + 1)
 rw [show i + 1 + 1 = i + 2 from rfl] at G2
 generalize P (i + N - 1) = O at *
 generalize P (i + 2) = R at *
 have e1 : cr (vsub (P i) O) (vsub (num * v.1, num * v.2) (den * (P i).1, den * (P i).2)) = cr (vsub (P i) O) (vsub (num * v.1, num * v.2) (den * O.1, den * O.2)) := by unfold cr vsub; grind
 rw [← e1] at G1
 clear e1 G i3 i3' hv perm perm1
 refine ⟨i, i1, ?_⟩
 generalize P i = p at *
 generalize P (i + 1) = q at *
 obtain ⟨Z, hZ⟩ : ∃ Z : V, Z = vsub (num * v.1, num * v.2) (den * p.1, den * p.2) := ⟨_, rfl⟩
 have Z1 : Z.1 = num * v.1 - den * p.1 := by rw [hZ]; rfl
 have Z2 : Z.2 = num * v.2 - den * p.2 := by rw [hZ]; rfl
 rw [← hZ] at G1 Gi
 have E2 : vsub (num * v.1, num * v.2) (den * q.1, den * q.2) = vsub Z (den * (vsub q p).1, den * (vsub q p).2) := by
  unfold vsub
  ext
  ·show num * v.1 - den * q.1 = Z.1 - den * (q.1 - p.1)
   rw [Z1]; grind
  ·show num * v.2 - den * q.2 = Z.2 - den * (q.2 - p.2)
   rw [Z2]; grind
 rw [E2] at G2
 clear E2 hZ
 have ee1 : (vsub q p).1 = q.1 - p.1 := rfl
 have ee2 : (vsub q p).2 = q.2 - p.2 := rfl
 rw [← ee1, ← ee2]
 generalize vsub q p = e at *
 generalize vsub p O = g at *
 generalize vsub R q = w at *
 -- cr g e * Z = cr g Z * e
 have id1 : cr g e * Z.1 = cr g Z * e.1 - cr e Z * g.1 := by unfold cr; grind
 have id2 : cr g e * Z.2 = cr g Z * e.2 - cr e Z * g.2 := by unfold cr; grind
 rw [Gi] at id1 id2
 simp only [Int.zero_mul, Int.sub_zero] at id1 id2
 refine ⟨cr g Z, den * cr g e, num * cr g e, G1, ?_, Int.mul_pos dp t1, Int.mul_nonneg (by omega) (by omega), Int.mul_le_mul_of_nonneg_right nd (by omega), ?_, ?_⟩
 ·have id3 : cr g e * cr w (vsub Z (den * e.1, den * e.2)) = (den * cr g e - cr g Z) * cr e w + cr e Z * cr g w := by unfold cr vsub; grind
  rw [Gi, Int.zero_mul, Int.add_zero] at id3
  have := Int.mul_nonneg (show 0 ≤ cr g e by omega) G2
  rw [id3] at this
  have := nn_of_mul t2 this
  omega
 ·have : cr g Z * e.1 = cr g e * (num * v.1 - den * p.1) := by rw [← id1, Z1]
  rw [this]
  grind
 ·have : cr g Z * e.2 = cr g e * (num * v.2 - den * p.2) := by rw [← id2, Z2]
  rw [this]
  grind
theorem pol_scale {N : Nat} {P : Nat → V} (h : Pol N P) {k : Int} (hk : 0 < k) : Pol N (fun t => (k * (P t).1, k * (P t).2)) := by
 refine ⟨h.pos, fun t => by (try dsimp only); rw [h.per], fun t => ?_, fun t j => ?_⟩
 ·have e : cr (vsub (k * (P (t + 1)).1, k * (P (t + 1)).2) (k * (P t).1, k * (P t).2)) (vsub (k * (P (t + 2)).1, k * (P (t + 2)).2) (k * (P (t + 1)).1, k * (P (t + 1)).2)) = k * k * cr (vsub (P (t + 1)) (P t)) (vsub (P (t + 2)) (P (t + 1))) := by unfold cr vsub; grind
  try dsimp only
  rw [e]
  exact Int.mul_pos (Int.mul_pos hk hk) (h.turn t)
 ·have e : cr (vsub (k * (P (t + 1)).1, k * (P (t + 1)).2) (k * (P t).1, k * (P t).2)) (vsub (k * (P j).1, k * (P j).2) (k * (P t).1, k * (P t).2)) = k * k * cr (vsub (P (t + 1)) (P t)) (vsub (P j) (P t)) := by unfold cr vsub; grind
  try dsimp only
  rw [e]
  exact Int.mul_nonneg (Int.mul_nonneg (by omega) (by omega)) (h.left t j)

def farE (D : List V) (t : Nat) : Int := farZ (cyP D t).1 (cyP D t).2 (cyP D (t + 1)).1 (cyP D (t + 1)).2
theorem cyP_bd {D : List V} (hw : allWithin 131072000 D = true) (h0 : 0 < D.length) (t : Nat) : (-131072000 ≤ (cyP D t).1 ∧ (cyP D t).1 ≤ 131072000) ∧ (-131072000 ≤ (cyP D t).2 ∧ (cyP D t).2 ≤ 131072000) := by
 have := withinB_iff.1 (allWithin_at hw (Nat.mod_lt t h0))
 unfold cyP
 dsimp only
 omega

theorem pol_far {D : List V} (h : Pol D.length (cyP D)) (hw : allWithin 131072000 D = true) {v : V} {k : Int} (hk : 0 < k) (hv : ∀ t, 0 ≤ cr (vsub (cyP D (t + 1)) (cyP D t)) (vsub v (k * (cyP D t).1, k * (cyP D t).2)))
  {t0 : Nat} (h0 : cr (cyP D t0) (cyP D (t0 + 1)) < 0) : ∃ t, t < D.length ∧ farE D t * farE D t * (k * k) ≤ sqZ v.1 v.2 := by
 have hN := h.pos
 obtain ⟨t, t1, a, b, κ, a0, ab, b0, k0, kb, e1, e2⟩ := pol_cross (pol_scale h hk) (v := v) (fun t => by
  have e : cr (vsub (k * (cyP D (t + 1)).1, k * (cyP D (t + 1)).2) (k * (cyP D t).1, k * (cyP D t).2)) (vsub v (k * (cyP D t).1, k * (cyP D t).2)) = k * cr (vsub (cyP D (t + 1)) (cyP D t)) (vsub v (k * (cyP D t).1, k * (cyP D t).2)) := by unfold cr vsub; grind
  try dsimp only
  rw [e]
  exact Int.mul_nonneg (by omega) (hv t)) (t0 := t0) (by
  have e : cr (k * (cyP D t0).1, k * (cyP D t0).2) (k * (cyP D (t0 + 1)).1, k * (cyP D (t0 + 1)).2) = k * k * cr (cyP D t0) (cyP D (t0 + 1)) := by unfold cr; grind
  try dsimp only
  rw [e]
  have := Int.mul_pos (Int.mul_pos hk hk) (show 0 < -cr (cyP D t0) (cyP D (t0 + 1)) by omega)
  rw [Int.mul_neg] at this
  omega)
 try dsimp only at e1 e2
 refine ⟨t, t1, ?_⟩
 obtain ⟨c1, c2⟩ := cyP_bd hw (by omega) t
 obtain ⟨c3, c4⟩ := cyP_bd hw (by omega) (t + 1)
 have f := far_le c1 c2 c3 c4 a0 ab b0
 change farE D t * farE D t * (b * b) ≤ _ at f
 generalize farE D t = r at *
 have m1 := Int.mul_le_mul_of_nonneg_right f (sq_nonneg k)
 have e3 : sqZ (b * (cyP D t).1 + a * ((cyP D (t + 1)).1 - (cyP D t).1)) (b * (cyP D t).2 + a * ((cyP D (t + 1)).2 - (cyP D t).2)) * (k * k) = κ * κ * sqZ v.1 v.2 := by
  have q1 : k * (b * (cyP D t).1 + a * ((cyP D (t + 1)).1 - (cyP D t).1)) = κ * v.1 := by rw [← e1]; grind
  have q2 : k * (b * (cyP D t).2 + a * ((cyP D (t + 1)).2 - (cyP D t).2)) = κ * v.2 := by rw [← e2]; grind
  have : sqZ (b * (cyP D t).1 + a * ((cyP D (t + 1)).1 - (cyP D t).1)) (b * (cyP D t).2 + a * ((cyP D (t + 1)).2 - (cyP D t).2)) * (k * k) = sqZ (k * (b * (cyP D t).1 + a * ((cyP D (t + 1)).1 - (cyP D t).1))) (k * (b * (cyP D t).2 + a * ((cyP D (t + 1)).2 - (cyP D t).2))) := by unfold sqZ; grind
  rw [this, q1, q2]
  unfold sqZ
  grind
 rw [e3] at m1
 have s0 : 0 ≤ sqZ v.1 v.2 := by unfold sqZ; have := sq_nonneg v.1; have := sq_nonneg v.2; omega
 have m2 : κ * κ ≤ b * b := Int.mul_le_mul kb kb k0 (by omega)
 have m3 := Int.mul_le_mul_of_nonneg_right m2 s0
 have bp := Int.mul_pos b0 b0
 have e4 : r * r * (b * b) * (k * k) = b * b * (r * r * (k * k)) := by grind
 exact Int.le_of_mul_le_mul_left (show b * b * (r * r * (k * k)) ≤ b * b * sqZ v.1 v.2 by omega) bp
theorem farTo_le (D : List V) : ∀ N t, t < N → N ≤ D.length → farTo D N ≤ farE D t
 | 0, t, h, _ => by omega
 | N + 1, t, h, hN => by
  have e : farZ (px D N) (py D N) (px D ((N + 1) % D.length)) (py D ((N + 1) % D.length)) = farE D N := by
   unfold farE cyP
   rw [Nat.mod_eq_of_lt (show N < D.length by omega)]
  rw [farTo, e]
  rcases Nat.lt_or_ge t N with g | g
  ·have := farTo_le D N t g (by omega)
   split <;> omega
  ·have : t = N := by omega
   subst this
   split <;> omega
theorem farTo_at (D : List V) : ∀ N, N ≤ D.length → farTo D N = 1073741824 ∨ ∃ t, t < N ∧ farTo D N = farE D t
 | 0, _ => .inl rfl
 | N + 1, hN => by
  have e : farZ (px D N) (py D N) (px D ((N + 1) % D.length)) (py D ((N + 1) % D.length)) = farE D N := by
   unfold farE cyP
   rw [Nat.mod_eq_of_lt (show N < D.length by omega)]
  rw [farTo, e]
  split
  ·exact .inr ⟨N, by omega, rfl⟩
  ·rcases farTo_at D N (by omega) with h | ⟨t, h1, h2⟩
   ·exact .inl h
   ·exact .inr ⟨t, by omega, h2⟩
theorem farE_bd {D : List V} (hw : allWithin 131072000 D = true) (h0 : 0 < D.length) (t : Nat) : 0 ≤ farE D t ∧ farE D t < 536870912 := by
 obtain ⟨c1, c2⟩ := cyP_bd hw h0 t
 obtain ⟨c3, c4⟩ := cyP_bd hw h0 (t + 1)
 exact farZ_bd c1 c2 c3 c4
theorem farTo_min {D : List V} (hw : allWithin 131072000 D = true) (h0 : 0 < D.length) : ∃ t, t < D.length ∧ farTo D D.length = farE D t := by
 rcases farTo_at D D.length (Nat.le_refl _) with h | h
 ·have a := farTo_le D D.length 0 h0 (Nat.le_refl _)
  have b := farE_bd hw h0 0
  omega
 ·exact h
theorem ninB_iff {D : List V} (h0 : 0 < D.length) : ninB D = true ↔ ∀ t, 0 ≤ cr (cyP D t) (cyP D (t + 1)) := by
 unfold ninB
 rw [decide_eq_true_iff]
 constructor
 ·intro h t
  have := h (t % D.length) (Nat.mod_lt _ h0)
  unfold ninC crsZ at this
  rw [Nat.mod_add_mod] at this
  exact this
 ·intro h i hi
  have := h i
  unfold cyP cr at this
  rw [Nat.mod_eq_of_lt hi] at this
  exact this

theorem half_contra {N : Nat} {P : Nat → V} (h : Pol N P) (e : V) (he : ∀ t, cr e (P t) < 0) (hc : ∀ t, 0 ≤ cr (P t) (P (t + 1))) : False := by
 have id : ∀ a b c : V, cr a c * cr e b = cr a b * cr e c + cr b c * cr e a := fun a b c => by unfold cr; grind
 have tr : ∀ a b c : V, cr e a < 0 → cr e b < 0 → cr e c < 0 → 0 ≤ cr a b → 0 ≤ cr b c → 0 ≤ cr a c := fun a b c ha hb hcc h1 h2 => by
  have := id a b c
  have m1 := Int.mul_nonneg h1 (show 0 ≤ -cr e c by omega)
  have m2 := Int.mul_nonneg h2 (show 0 ≤ -cr e a by omega)
  rw [Int.mul_neg] at m1 m2
  have m3 : 0 ≤ cr a c * -cr e b := by rw [Int.mul_neg]; omega
  exact nn_of_mul (show 0 < -cr e b by omega) m3
 have up : ∀ t k, 0 ≤ cr (P t) (P (t + k)) := fun t k => by
  induction k with
  | zero => rw [Nat.add_zero, cr_self]; omega
  | succ k ih => exact tr _ _ _ (he _) (he _) (he _) ih (hc (t + k))
 have hN := h.pos
 have z : ∀ t, t ≤ N → cr (P 0) (P t) = 0 := fun t ht => by
  have a := up 0 t
  have b := up t (N - t)
  rw [show t + (N - t) = 0 + N by omega, h.per, cr_swap] at b
  rw [Nat.zero_add] at a
  omega
 have z1 := z 1 (by omega)
 have z2 := z 2 (by omega)
 have t := h.turn 0
 have q := id (P 1) (P 0) (P 2)
 rw [z2, cr_swap (P 0) (P 1), z1] at q
 simp only [Int.neg_zero, Int.zero_mul, Int.add_zero] at q
 have q1 : cr (P 1) (P 2) = 0 := by
  rcases Int.mul_eq_zero.1 q with k | k
  ·exact k
  ·have := he 0; omega
 have e3 : cr (vsub (P 1) (P 0)) (vsub (P 2) (P 1)) = cr (P 1) (P 2) - cr (P 0) (P 2) + cr (P 0) (P 1) := by unfold cr vsub; grind
 change 0 < cr (vsub (P 1) (P 0)) (vsub (P 2) (P 1)) at t
 omega



theorem lt_of_sq {r k q : Int} (hk : 0 < k) (hq : 0 ≤ q) (h : r * r * (k * k) < q * q * (k * k)) : r < q := by
 rcases Int.lt_or_le r q with g | g
 ·exact g
 ·have := Int.mul_le_mul g g hq (by omega)
  have := Int.mul_le_mul_of_nonneg_right this (sq_nonneg k)
  omega



end
end Go.Proofs.YtilncglnojjlaaaGreat
namespace Go.Proofs.YtilncglnojjlaaaGreat
section
set_option linter.unusedVariables false
set_option linter.unusedSimpArgs false
open Go.RowKit
def nmeetB (a b : List V) : Bool := decide (bothE a b = 0) && ninB (minusL a b)
set_option maxRecDepth 100000 in
set_option maxHeartbeats 4000000 in
theorem nmeet_calls (A B : Option Addr) (n c n' c' : Nat) (a b : List V) (w : World) (hS : Sl w A n c a) (hM : Sl w B n' c' b) :
  Calls Tryz.prog 20 #[.slice A n c, .slice B n' c'] w (Ret (.tuple #[.bool (nmeetB a b), .int .i64 (bothE a b)]) w) := by
 have HMN := hid (nminus_calls A B n c n' c' a b w hS hM)
 obtain ⟨mw, ml⟩ := minus_bd a b
 have HAZ : Hid (nmeetB a b = (decide (bothE a b = 0) && ninB (minusL a b))) := rfl
 obtain ⟨m, hm⟩ : ∃ m, m = minusL a b := ⟨_, rfl⟩
 obtain ⟨E, hE⟩ : ∃ E, E = bothE a b := ⟨_, rfl⟩
 obtain ⟨Z, hZ⟩ : ∃ Z, Z = nmeetB a b := ⟨_, rfl⟩
 rw [← hm, ← hE] at HMN HAZ
 rw [← hm] at mw ml
 rw [← hZ] at HAZ
 rw [← hZ, ← hE]
 have HMW := hid mw
 clear hm hE hZ hS hM mw
 go_enter Tryz.func20, Tryz.ntmps20
 go_wp2_with fail
 refine HMN.out.mono ?_
 rintro e w1 ⟨Am, nm, cm, rfl, s1, f1, hb1⟩
 have hnm := s1.len
 subst hnm
 have HS1 := hid s1
 clear s1 f1 HMN
 by_cases hE0 : E = 0
 ·have HZ : Hid (Z = ninB m) := by show _ = _; rw [HAZ.out, hE0]; simp
  subst hE0
  have HIN := hid (ninside_calls Am m.length cm m w1 HS1.out HMW.out (by omega))
  clear HAZ
  go_wp2_with fail
  refine HIN.out.mono ?_
  rintro e w2 ⟨rfl, hb2⟩
  have hB2 := keepBelow hb2 hb1
  clear HS1 hb1 hb2 HIN
  go_wp2
  refine bodyPost_ret (v := .tuple #[.bool (ninB m), .int .i64 0]) (by simp [results, Tryz.results20, go_sem]) rfl ⟨by rw [HZ.out], hB2⟩
 ·have HZ : Hid (Z = false) := by show _ = _; rw [HAZ.out]; simp [hE0]
  have hne : (E != 0) = true := by simp [hE0]
  clear HAZ hE0
  go_wp2
  refine bodyPost_ret (v := .tuple #[.bool false, .int .i64 E]) (by simp [results, Tryz.results20, go_sem]) rfl ⟨by rw [HZ.out], hb1⟩
end
end Go.Proofs.YtilncglnojjlaaaGreat
