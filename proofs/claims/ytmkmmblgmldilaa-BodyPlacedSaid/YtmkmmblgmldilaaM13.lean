/- Plain mathematics of the law BodyPushBack. No program is in sight. -/
import Derived.Test.YtmkmmblgmldilaaJ7
import Derived.Test.YtmkmmblgmldilaaJ9
namespace Go.Proofs.Ytmkmmblgmldilaa
set_option linter.unusedVariables false
set_option linter.unusedSimpArgs false
open Go.RowKit

theorem rnd_spec {W n : Int} (hn : 0 < n) : 2 * (n * rnd W n) ≤ 2 * W + n ∧ 2 * W + n < 2 * (n * rnd W n) + 2 * n := by
  have e : rnd W n = (2 * W + n) / (2 * n) := by unfold rnd; rw [if_neg (by omega)]
  rw [e]
  have h := Int.emod_add_mul_ediv (2 * W + n) (2 * n)
  have h0 := Int.emod_nonneg (2 * W + n) (show 2 * n ≠ 0 by omega)
  have h1 := Int.emod_lt_of_pos (2 * W + n) (show 0 < 2 * n by omega)
  rw [Int.mul_assoc] at h
  omega
theorem rnd_bd' {x n M : Int} (hn : 0 < n) (h1 : -(n * M) ≤ x) (h2 : x ≤ n * M) : -M ≤ rnd x n ∧ rnd x n ≤ M := by
  obtain ⟨a, b⟩ := rnd_spec (W := x) hn
  constructor
  · rcases Int.lt_or_le (rnd x n) (-M) with h | h
    · have := Int.mul_le_mul_of_nonneg_left (show rnd x n + 1 ≤ -M by omega) (show 0 ≤ n by omega)
      rw [Int.mul_add, Int.mul_neg] at this
      omega
    · exact h
  · rcases Int.lt_or_le M (rnd x n) with h | h
    · have := Int.mul_le_mul_of_nonneg_left (show M + 1 ≤ rnd x n by omega) (show 0 ≤ n by omega)
      rw [Int.mul_add] at this
      omega
    · exact h
/-- the rounded quotients of two numbers whose sum is small -/
theorem rnd_pair {W V n K : Int} (hn : 0 < n) (h1 : -(n * K) ≤ W + V) (h2 : W + V ≤ n * K) : -K ≤ rnd W n + rnd V n ∧ rnd W n + rnd V n ≤ K + 1 := by
  obtain ⟨a, b⟩ := rnd_spec (W := W) hn
  obtain ⟨c, d⟩ := rnd_spec (W := V) hn
  have e : n * (rnd W n + rnd V n) = n * rnd W n + n * rnd V n := Int.mul_add _ _ _
  constructor
  · rcases Int.lt_or_le (rnd W n + rnd V n) (-K) with h | h
    · have := Int.mul_le_mul_of_nonneg_left (show rnd W n + rnd V n + 1 ≤ -K by omega) (show 0 ≤ n by omega)
      rw [Int.mul_add, Int.mul_neg, e] at this
      omega
    · exact h
  · rcases Int.lt_or_le (K + 1) (rnd W n + rnd V n) with h | h
    · have := Int.mul_le_mul_of_nonneg_left (show K + 2 ≤ rnd W n + rnd V n by omega) (show 0 ≤ n by omega)
      rw [Int.mul_add, e] at this
      omega
    · exact h
/-- a product of small numbers, without clamps -/
theorem mulF_sm {a b : Int} (ha : -1441792 ≤ a ∧ a ≤ 1441792) (hb : -786432 ≤ b ∧ b ≤ 786432) : mulF a b = rnd (a * b) 65536 ∧ -17301504 ≤ mulF a b ∧ mulF a b ≤ 17301504 := by
  have m := mul_bd (x := a) (y := b) (M := 1441792) (N := 786432) (by omega) (by omega) (by omega) (by omega)
  have hr := rnd_bd' (x := a * b) (n := 65536) (M := 17301504) (by omega) (by omega) (by omega)
  have e : mulF a b = rnd (a * b) 65536 := by
    unfold mulF mdF
    rw [clampF_id (a := a) (by omega) (by omega), clampF_id (a := b) (by omega) (by omega), show clampF 65536 = 65536 by decide, if_neg (by omega)]
    exact clampF_id (by omega) (by omega)
  rw [e]
  exact ⟨rfl, hr⟩
/-- a quotient through at least One -/
theorem divF_sm {a n M : Int} (hM : 0 ≤ M ∧ M ≤ 1099511627776) (ha : -M ≤ a ∧ a ≤ M) (hn : 65536 ≤ n ∧ n ≤ 1099511627776) : divF a n = rnd (a * 65536) n ∧ -M ≤ divF a n ∧ divF a n ≤ M := by
  have h1 := Int.mul_le_mul_of_nonneg_right hn.1 hM.1
  have hr := rnd_bd' (x := a * 65536) (n := n) (M := M) (by omega) (by omega) (by omega)
  have e : divF a n = rnd (a * 65536) n := by
    unfold divF mdF
    rw [if_neg (by omega), clampF_id (a := a) (by omega) (by omega), show clampF 65536 = 65536 by decide, clampF_id (a := n) (by omega) (by omega), if_neg (by omega)]
    exact clampF_id (by omega) (by omega)
  rw [e]
  exact ⟨rfl, hr⟩
theorem addF_sm {a b : Int} (ha : -549755813888 ≤ a ∧ a ≤ 549755813888) (hb : -549755813888 ≤ b ∧ b ≤ 549755813888) : addF a b = a + b := by
  unfold addF; rw [clampF_id (a := a) (by omega) (by omega), clampF_id (a := b) (by omega) (by omega)]; exact clampF_id (by omega) (by omega)
theorem subF_sm {a b : Int} (ha : -549755813888 ≤ a ∧ a ≤ 549755813888) (hb : -549755813888 ≤ b ∧ b ≤ 549755813888) : subF a b = a - b := by
  unfold subF; rw [clampF_id (a := a) (by omega) (by omega), clampF_id (a := b) (by omega) (by omega)]; exact clampF_id (by omega) (by omega)
theorem clampN_sm {n m : Int} (h1 : -m ≤ n) (h2 : n ≤ m) : clampN n m = n := by unfold clampN; rw [if_neg (by omega), if_neg (by omega)]
theorem mulF_neg {a b : Int} (ha : -1441792 ≤ a ∧ a ≤ 1441792) (hb : -786432 ≤ b ∧ b ≤ 786432) : 0 ≤ mulF a b + mulF a (-b) ∧ mulF a b + mulF a (-b) ≤ 1 := by
  rw [(mulF_sm ha hb).1, (mulF_sm ha (show -786432 ≤ -b ∧ -b ≤ 786432 by omega)).1]
  have e : a * -b = -(a * b) := Int.mul_neg _ _
  have := rnd_pair (W := a * b) (V := a * -b) (n := 65536) (K := 0) (by omega) (by omega) (by omega)
  omega
theorem crossF_neg {x y a b : Int} (hx : -1441792 ≤ x ∧ x ≤ 1441792) (hy : -1441792 ≤ y ∧ y ≤ 1441792) (ha : -786432 ≤ a ∧ a ≤ 786432) (hb : -786432 ≤ b ∧ b ≤ 786432) :
    (-34603008 ≤ crossF x y a b ∧ crossF x y a b ≤ 34603008) ∧ (-1 ≤ crossF x y a b + crossF x y (-a) (-b) ∧ crossF x y a b + crossF x y (-a) (-b) ≤ 1) ∧ (-34603008 ≤ crossF x y (-a) (-b) ∧ crossF x y (-a) (-b) ≤ 34603008) := by
  have h1 := (mulF_sm hx hb).2
  have h2 := (mulF_sm hy ha).2
  have h3 := (mulF_sm hx (show -786432 ≤ -b ∧ -b ≤ 786432 by omega)).2
  have h4 := (mulF_sm hy (show -786432 ≤ -a ∧ -a ≤ 786432 by omega)).2
  have n1 := mulF_neg hx hb
  have n2 := mulF_neg hy ha
  unfold crossF
  rw [subF_sm (by omega) (by omega), subF_sm (by omega) (by omega)]
  omega

/-- what the walk of BodyPushBack asks -/
structure BackLaw (b c : Bd) : Prop where
  vx : -2 ≤ c.vx - b.vx ∧ c.vx - b.vx ≤ 2
  vy : -2 ≤ c.vy - b.vy ∧ c.vy - b.vy ≤ 2
  spin : -2 ≤ c.spin - b.spin ∧ c.spin - b.spin ≤ 2
  px : c.px = b.px
  py : c.py = b.py
  ang : c.ang = b.ang
theorem backLaw {b : Bd} (h : MadeB b) (l : List V) {jx jy u v : Int} (hj : -786432 ≤ jx ∧ jx ≤ 786432) (hk : -786432 ≤ jy ∧ jy ≤ 786432) (hu : -786432 ≤ u ∧ u ≤ 786432) (hv : -786432 ≤ v ∧ v ≤ 786432) :
    BackLaw b (pushB (pushB b l jx jy u v) l (-jx) (-jy) u v) := by
  by_cases hc : bodyE b l ≠ 0 ∨ b.mass = 0 ∨ b.asleep = true
  · have e1 : ∀ jx jy : Int, pushB b l jx jy u v = b := fun jx jy => by unfold pushB; rw [if_pos hc]
    rw [e1, e1]
    exact ⟨by omega, by omega, by omega, rfl, rfl, rfl⟩
  · have hE : bodyE b l = 0 := by
      rcases Int.lt_trichotomy (bodyE b l) 0 with h | h | h
      · exact absurd (.inl (by omega)) hc
      · exact h
      · exact absurd (.inl (by omega)) hc
    have hm0 : b.mass ≠ 0 := fun h => hc (.inr (.inl h))
    have ha : b.asleep = false := h.asleep
    rcases h.kind with ⟨_, _, _, hm, _⟩ | ⟨hvx, hvy, hsp, hms, hin⟩
    · exact absurd hm hm0
    have hpx := h.px
    have hpy := h.py
    have rx : subF u b.px = u - b.px := subF_sm (by omega) (by omega)
    have ry : subF v b.py = v - b.py := subF_sm (by omega) (by omega)
    obtain ⟨cb, cn, cb'⟩ := crossF_neg (x := u - b.px) (y := v - b.py) (a := jx) (b := jy) (by omega) (by omega) hj hk
    obtain ⟨d1, d1b⟩ := divF_sm (a := jx) (n := b.mass) (M := 786432) (by omega) (by omega) (by omega)
    obtain ⟨d2, d2b⟩ := divF_sm (a := jy) (n := b.mass) (M := 786432) (by omega) (by omega) (by omega)
    obtain ⟨d3, d3b⟩ := divF_sm (a := -jx) (n := b.mass) (M := 786432) (by omega) (by omega) (by omega)
    obtain ⟨d4, d4b⟩ := divF_sm (a := -jy) (n := b.mass) (M := 786432) (by omega) (by omega) (by omega)
    have p1 := rnd_pair (W := jx * 65536) (V := -jx * 65536) (n := b.mass) (K := 0) (by omega) (by omega) (by omega)
    have p2 := rnd_pair (W := jy * 65536) (V := -jy * 65536) (n := b.mass) (K := 0) (by omega) (by omega) (by omega)
    rw [← d1, ← d3] at p1
    rw [← d2, ← d4] at p2
    generalize hX : crossF (u - b.px) (v - b.py) jx jy = X at *
    generalize hY : crossF (u - b.px) (v - b.py) (-jx) (-jy) = Y at *
    obtain ⟨q1, q1b⟩ := divF_sm (a := X) (n := b.iner) (M := 34603008) (by omega) (by omega) (by omega)
    obtain ⟨q2, q2b⟩ := divF_sm (a := Y) (n := b.iner) (M := 34603008) (by omega) (by omega) (by omega)
    have p3 := rnd_pair (W := X * 65536) (V := Y * 65536) (n := b.iner) (K := 1) (by omega) (by omega) (by omega)
    rw [← q1, ← q2] at p3
    obtain ⟨t1, _⟩ := divF_sm (a := divF X b.iner) (n := 411775) (M := 34603008) (by omega) (by omega) (by omega)
    obtain ⟨t2, _⟩ := divF_sm (a := divF Y b.iner) (n := 411775) (M := 34603008) (by omega) (by omega) (by omega)
    have t1b := rnd_bd' (x := divF X b.iner * 65536) (n := 411775) (M := 6000000) (by omega) (by omega) (by omega)
    have t2b := rnd_bd' (x := divF Y b.iner * 65536) (n := 411775) (M := 6000000) (by omega) (by omega) (by omega)
    have p4 := rnd_pair (W := divF X b.iner * 65536) (V := divF Y b.iner * 65536) (n := 411775) (K := 1) (by omega) (by omega) (by omega)
    rw [← t1] at t1b p4
    rw [← t2] at t2b p4
    have hT : turnF b jx jy u v = divF (divF X b.iner) 411775 := by unfold turnF; rw [rx, ry, hX]
    obtain ⟨b1, hb1⟩ : ∃ b1 : Bd, b1 = { b with vx := b.vx + divF jx b.mass, vy := b.vy + divF jy b.mass, spin := b.spin + divF (divF X b.iner) 411775 } := ⟨_, rfl⟩
    have e1 : pushB b l jx jy u v = b1 := by
      unfold pushB
      rw [if_neg hc, hT, addF_sm (by omega) (by omega), addF_sm (by omega) (by omega), addF_sm (by omega) (by omega), clampN_sm (by omega) (by omega), clampN_sm (by omega) (by omega), clampN_sm (by omega) (by omega), hb1]
    have hE1 : bodyE b1 l = 0 := by
      obtain ⟨s0, n0⟩ := bodyE_zero hE
      have nz := numE_zero n0
      unfold bodyE
      rw [if_neg (by simp [s0])]
      have n1 := n0
      unfold numE at n1 ⊢
      have f : b1.px = b.px ∧ b1.py = b.py ∧ b1.ang = b.ang ∧ b1.mass = b.mass ∧ b1.iner = b.iner ∧ b1.bounce = b.bounce ∧ b1.rub = b.rub ∧ b1.asleep = b.asleep ∧ b1.calm = b.calm := by rw [hb1]; exact ⟨rfl, rfl, rfl, rfl, rfl, rfl, rfl, rfl, rfl⟩
      obtain ⟨f1, f2, f3, f4, f5, f6, f7, f8, f9⟩ := f
      have g1 : withinB 268435456 b1.vx b1.vy = true := withinB_iff.2 (by rw [hb1]; dsimp only; omega)
      have g2 : inB b1.spin (-16777216) 16777216 = true := inB_iff.2 (by rw [hb1]; dsimp only; omega)
      have g3 : (b.mass == 0) = false := by simp [hm0]
      have g4 : (b.iner == 0) = false := by simp; omega
      rw [f1, f2, f3, f4, f5, f6, f7, f8, f9, g1, g2, ha, g3, g4]
      have m1 : withinB 58982400 b.px b.py = true := withinB_iff.2 nz.1
      have m2 : inB b.ang 0 65535 = true := inB_iff.2 nz.2.2.2.1
      have m3 : inB b.mass 0 1099511627776 = true := inB_iff.2 (by omega)
      have m4 : inB b.iner 0 1099511627776 = true := inB_iff.2 (by omega)
      have m5 : inB b.bounce 0 65536 = true := inB_iff.2 h.bounce
      have m6 : inB b.rub 0 65536 = true := inB_iff.2 h.rub
      have m7 : inB b.calm 0 1000 = true := inB_iff.2 (by rw [h.calm]; omega)
      rw [m1, m2, m3, m4, m5, m6, m7]
      simp
    have hc1 : ¬ (bodyE b1 l ≠ 0 ∨ b1.mass = 0 ∨ b1.asleep = true) := by
      rintro (h | h | h)
      · exact h hE1
      · exact hm0 (by rw [hb1] at h; exact h)
      · rw [hb1] at h; rw [show ({ b with vx := b.vx + divF jx b.mass, vy := b.vy + divF jy b.mass, spin := b.spin + divF (divF X b.iner) 411775 } : Bd).asleep = b.asleep from rfl, ha] at h; simp at h
    have hT2 : turnF b1 (-jx) (-jy) u v = divF (divF Y b.iner) 411775 := by
      have f1 : b1.px = b.px := by rw [hb1]
      have f2 : b1.py = b.py := by rw [hb1]
      have f3 : b1.iner = b.iner := by rw [hb1]
      unfold turnF; rw [f1, f2, f3, rx, ry, hY]
    have v1 : b1.vx = b.vx + divF jx b.mass := by rw [hb1]
    have v2 : b1.vy = b.vy + divF jy b.mass := by rw [hb1]
    have v3 : b1.spin = b.spin + divF (divF X b.iner) 411775 := by rw [hb1]
    have v4 : b1.mass = b.mass := by rw [hb1]
    rw [e1]
    unfold pushB
    rw [if_neg hc1, hT2, v4, addF_sm (by omega) (by omega), addF_sm (by omega) (by omega), addF_sm (by omega) (by omega), clampN_sm (by omega) (by omega), clampN_sm (by omega) (by omega), clampN_sm (by omega) (by omega)]
    exact ⟨by dsimp only; omega, by dsimp only; omega, by dsimp only; omega, by dsimp only; rw [hb1], by dsimp only; rw [hb1], by dsimp only; rw [hb1]⟩

end Go.Proofs.Ytmkmmblgmldilaa
