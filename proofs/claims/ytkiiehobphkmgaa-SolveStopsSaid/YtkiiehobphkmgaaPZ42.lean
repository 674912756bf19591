/- Parts of a proof: contracts and laws. -/
import Derived.Test.YtkiiehobphkmgaaPZ41
import Derived.Test.YtkiiehobphkmgaaPZ24
namespace Go.Proofs.Ytkiiehobphkmgaa
section
set_option linter.unusedVariables false
set_option linter.unusedSimpArgs false
open Go.RowKit
theorem rnd_specS {W n : Int} (hn : 0 < n) : 2 * (n * rnd W n) ≤ 2 * W + n ∧ 2 * W + n < 2 * (n * rnd W n) + 2 * n := by
  have e : rnd W n = (2 * W + n) / (2 * n) := by unfold rnd; rw [if_neg (by omega)]
  rw [e]
  have h := Int.emod_add_mul_ediv (2 * W + n) (2 * n)
  have h0 := Int.emod_nonneg (2 * W + n) (show 2 * n ≠ 0 by omega)
  have h1 := Int.emod_lt_of_pos (2 * W + n) (show 0 < 2 * n by omega)
  rw [Int.mul_assoc] at h
  omega
theorem mul_posS {m x : Int} (hm : 0 < m) (h : 0 ≤ m * x) : 0 ≤ x := by
  rcases Int.lt_or_le x 0 with q | q
  · have := Int.mul_neg_of_pos_of_neg hm q
    omega
  · exact q
theorem mul_bdS {a b : Int} (M : Int) (hM : 0 ≤ M) (ha : -M ≤ a ∧ a ≤ M) : ∀ K : Int, -K ≤ b → b ≤ K → -(M * K) ≤ a * b ∧ a * b ≤ M * K := fun K h1 h2 => by
  have e1 := Int.mul_nonneg (show 0 ≤ M - a by omega) (show 0 ≤ K - b by omega)
  have e2 := Int.mul_nonneg (show 0 ≤ M - a by omega) (show 0 ≤ K + b by omega)
  have e3 := Int.mul_nonneg (show 0 ≤ M + a by omega) (show 0 ≤ K - b by omega)
  have e4 := Int.mul_nonneg (show 0 ≤ M + a by omega) (show 0 ≤ K + b by omega)
  constructor <;> grind

theorem stop_core {c m I e1 e2 e3 v J X Y T D w w' g g' sp : Int} (hc : -131072 ≤ c ∧ c ≤ 131072) (hm : 65536 ≤ m ∧ m ≤ 524288) (hI : 65536 ≤ I)
    (hE1 : 2 * (m * e1) ≤ 2 * 4294967296 + m) (he1 : 0 ≤ e1) (he3 : 0 ≤ e3)
    (hE2 : 2 * (65536 * e2) ≤ 2 * (c * c) + 65536) (hE3 : 2 * (I * e3) ≤ 2 * (e2 * 65536) + I)
    (hJ0 : 0 ≤ J) (hJm : J ≤ 6029312) (hE : e1 + e3 ≤ 393216) (hJ : 2 * (-v * 65536) + (e1 + e3) < 2 * ((e1 + e3) * J) + 2 * (e1 + e3))
    (hX1 : 2 * (65536 * X) ≤ 2 * (c * J) + 65536) (hX2 : 2 * (c * J) + 65536 < 2 * (65536 * X) + 2 * 65536)
    (hY1 : 2 * (I * Y) ≤ 2 * (X * 65536) + I) (hY2 : 2 * (X * 65536) + I < 2 * (I * Y) + 2 * I)
    (hT1 : 2 * (411775 * T) ≤ 2 * (Y * 65536) + 411775) (hT2 : 2 * (Y * 65536) + 411775 < 2 * (411775 * T) + 2 * 411775)
    (hD : 2 * (J * 65536) + m < 2 * (m * D) + 2 * m)
    (hw1 : 2 * (65536 * w) ≤ 2 * (sp * 411775) + 65536) (hw2 : 2 * (sp * 411775) + 65536 < 2 * (65536 * w) + 2 * 65536)
    (hw1' : 2 * (65536 * w') ≤ 2 * ((sp + T) * 411775) + 65536) (hw2' : 2 * ((sp + T) * 411775) + 65536 < 2 * (65536 * w') + 2 * 65536)
    (hg : 2 * (65536 * g) ≤ 2 * (w * c) + 65536) (hg' : 2 * (w' * c) + 65536 < 2 * (65536 * g') + 2 * 65536) : -512 ≤ v + D + (g' - g) := by
  -- the push
  have a1 : 0 ≤ 2 * 65536 * D - 2 * (J * e1) + J + 65536 := by
    refine mul_posS (m := m) (by omega) ?_
    have h := Int.mul_le_mul_of_nonneg_left hE1 hJ0
    rw [show J * (2 * (m * e1)) = 2 * (m * (J * e1)) by grind, show J * (2 * 4294967296 + m) = 2 * 4294967296 * J + m * J by grind] at h
    rw [show m * (2 * 65536 * D - 2 * (J * e1) + J + 65536) = 131072 * (m * D) - 2 * (m * (J * e1)) + m * J + 65536 * m by grind]
    omega
  -- the turn
  have b0 : I * e3 ≤ c * c + I := by omega
  have b1 : -I ≤ I * Y - c * J ∧ I * Y - c * J ≤ I := by omega
  have b2 := (mul_bdS 131072 (by omega) hc I b1.1 b1.2).1
  have b3 := Int.mul_le_mul_of_nonneg_left b0 hJ0
  have b4 : 0 ≤ c * Y - J * e3 + J + 131072 := by
    refine mul_posS (m := I) (by omega) ?_
    rw [show I * (c * Y - J * e3 + J + 131072) = c * (I * Y - c * J) + c * c * J - J * (I * e3) + J * I + 131072 * I by grind]
    rw [show J * (c * c + I) = c * c * J + J * I by grind] at b3
    omega
  have b5 : -4 ≤ w' - w - Y ∧ w' - w - Y ≤ 4 := by omega
  have b6 := (mul_bdS 131072 (by omega) hc 4 b5.1 b5.2).1
  rw [show c * (w' - w - Y) = w' * c - w * c - c * Y by grind] at b6
  rw [show (e1 + e3) * J = J * e1 + J * e3 by grind] at hJ
  omega

def stopC (p q : Int) : Ct := ⟨0, 1, 0, p, q, 0, 65536, 0, 0, 0⟩
theorem rnd_bdS {x n M : Int} (hn : 0 < n) (h1 : -(n * M) ≤ x) (h2 : x ≤ n * M) : -M ≤ rnd x n ∧ rnd x n ≤ M := by
  obtain ⟨a, b⟩ := rnd_specS (W := x) hn
  constructor
  · rcases Int.lt_or_le (rnd x n) (-M) with h | h
    · have := Int.mul_le_mul_of_nonneg_left (show rnd x n + 1 ≤ -M by omega) (show 0 ≤ n by omega)
      rw [Int.mul_add, Int.mul_neg] at this
      omega
    · exact h
  · rcases Int.lt_or_le M (rnd x n) with h | h
    · have := Int.mul_le_mul_of_nonneg_left (show M + 1 ≤ rnd x n by omega) (show 0 ≤ n by omega)
      rw [Int.mul_add] at this
      omega
    · exact h
theorem subF_zr {a : Int} (h : -1099511627776 ≤ a ∧ a ≤ 1099511627776) : subF a 0 = a := by
  unfold subF
  rw [clampF_zeroK, Int.sub_zero, clampF_id h.1 h.2, clampF_id h.1 h.2]
theorem subF_in {a b : Int} (ha : -1099511627776 ≤ a ∧ a ≤ 1099511627776) (hb : -1099511627776 ≤ b ∧ b ≤ 1099511627776) (h : -1099511627776 ≤ a - b ∧ a - b ≤ 1099511627776) : subF a b = a - b := by
  unfold subF
  rw [clampF_id ha.1 ha.2, clampF_id hb.1 hb.2, clampF_id h.1 h.2]
theorem addF_in {a b : Int} (ha : -1099511627776 ≤ a ∧ a ≤ 1099511627776) (hb : -1099511627776 ≤ b ∧ b ≤ 1099511627776) (h : -1099511627776 ≤ a + b ∧ a + b ≤ 1099511627776) : addF a b = a + b := by
  unfold addF
  rw [clampF_id ha.1 ha.2, clampF_id hb.1 hb.2, clampF_id h.1 h.2]
theorem mulF_in {a b : Int} (ha : -1099511627776 ≤ a ∧ a ≤ 1099511627776) (hb : -1099511627776 ≤ b ∧ b ≤ 1099511627776) (h : -(65536 * 1099511627776) ≤ a * b ∧ a * b ≤ 65536 * 1099511627776) : mulF a b = rnd (a * b) 65536 := by
  obtain ⟨r1, r2⟩ := rnd_bdS (x := a * b) (n := 65536) (M := 1099511627776) (by omega) h.1 h.2
  unfold mulF mdF
  rw [if_neg (by decide), clampF_id ha.1 ha.2, clampF_id hb.1 hb.2, clampF_id (a := 65536) (by omega) (by omega), clampF_id r1 r2]
theorem divF_in {a n : Int} (ha : -68719476736 ≤ a ∧ a ≤ 68719476736) (hn : 8192 ≤ n ∧ n ≤ 1099511627776) : divF a n = rnd (a * 65536) n := by
  obtain ⟨r1, r2⟩ := rnd_bdS (x := a * 65536) (n := n) (M := 1099511627776) (by omega) (by omega) (by omega)
  unfold divF
  rw [if_neg (by omega)]
  unfold mdF
  rw [clampF_id (a := n) (by omega) (by omega), if_neg (by omega), clampF_id (a := a) (by omega) (by omega), clampF_id (a := 65536) (by omega) (by omega), clampF_id r1 r2]
theorem mulF_one {a : Int} (ha : -1099511627776 ≤ a ∧ a ≤ 1099511627776) : mulF a 65536 = a := by
  rw [mulF_in ha (by omega) (by omega)]
  have := rnd_specS (W := a * 65536) (n := 65536) (by omega)
  omega
theorem mulF_one' {a : Int} (ha : -1099511627776 ≤ a ∧ a ≤ 1099511627776) : mulF 65536 a = a := by
  rw [mulF_in (by omega) ha (by omega)]
  have := rnd_specS (W := 65536 * a) (n := 65536) (by omega)
  omega

theorem stop_push {b : Bd} {p q : Int} (hx : b.px = 0) (hy : b.py = 0) (ha : b.asleep = false)
    (hvy : -327680 ≤ b.vy ∧ b.vy ≤ 327680) (hsp : -32768 ≤ b.spin ∧ b.spin ≤ 32768) (hm : 65536 ≤ b.mass ∧ b.mass ≤ 524288) (hI : 65536 ≤ b.iner ∧ b.iner ≤ 1966080)
    (hp : -131072 ≤ p ∧ p ≤ 131072) (hq : -131072 ≤ q ∧ q ≤ 131072) :
    (-1048576 ≤ speedY b p q ∧ speedY b p q ≤ 1048576) ∧ (8192 ≤ easeN b p q 0 65536 ∧ easeN b p q 0 65536 ≤ 393216) ∧
    (speedY b p q < 0 → 0 ≤ divF (-(speedY b p q)) (easeN b p q 0 65536) ∧ divF (-(speedY b p q)) (easeN b p q 0 65536) ≤ 6029312 ∧ -512 ≤ speedY (pushR b 0 (divF (-(speedY b p q)) (easeN b p q 0 65536)) p q) p q) := by
  have pp := mul_bdS 131072 (by omega) hp 131072 hp.1 hp.2
  -- the velocity before
  have w1 := rnd_specS (W := b.spin * 411775) (n := 65536) (by omega)
  have ew : mulF b.spin 411775 = rnd (b.spin * 411775) 65536 := mulF_in (by omega) (by omega) (by omega)
  generalize rnd (b.spin * 411775) 65536 = w at w1 ew
  have wp := mul_bdS 205888 (by omega) (a := w) (by omega) 131072 hp.1 hp.2
  have g1 := rnd_specS (W := w * p) (n := 65536) (by omega)
  have eg : mulF w p = rnd (w * p) 65536 := mulF_in (by omega) (by omega) (by omega)
  generalize rnd (w * p) 65536 = g at g1 eg
  have ep : subF p b.px = p := by rw [hx]; exact subF_zr (by omega)
  have eq' : subF q b.py = q := by rw [hy]; exact subF_zr (by omega)
  have ev : speedY b p q = b.vy + g := by
    unfold speedY
    rw [ew, ep, eg, addF_in (by omega) (by omega) (by omega)]
  -- how it gives way
  have ec : crossF p q 0 65536 = p := by unfold crossF; rw [mulF_one (by omega), mulF_zr, subF_zr (by omega)]
  have s1 := rnd_specS (W := (65536 : Int) * 65536) (n := b.mass) (by omega)
  have k1 : divF 65536 b.mass = rnd (65536 * 65536) b.mass := divF_in (by omega) (by omega)
  have l1 := rnd_bdS (x := (65536 : Int) * 65536) (n := b.mass) (M := 65536) (by omega) (by omega) (by omega)
  have n1 : 8192 ≤ rnd (65536 * 65536) b.mass := by
    rcases Int.lt_or_le (rnd (65536 * 65536) b.mass) 8192 with h | h
    · have := Int.mul_le_mul_of_nonneg_left (show rnd (65536 * 65536) b.mass ≤ 8191 by omega) (show 0 ≤ b.mass by omega)
      omega
    · exact h
  generalize rnd (65536 * 65536) b.mass = e1 at s1 k1 l1 n1
  have s2 := rnd_specS (W := p * p) (n := 65536) (by omega)
  have k2 : mulF p p = rnd (p * p) 65536 := mulF_in (by omega) (by omega) (by omega)
  have q2 : 0 ≤ p * p := by rcases Int.le_total 0 p with h | h; exact Int.mul_nonneg h h; exact Int.mul_nonneg_of_nonpos_of_nonpos h h
  generalize rnd (p * p) 65536 = e2 at s2 k2
  have s3 := rnd_specS (W := e2 * 65536) (n := b.iner) (by omega)
  have k3 : divF e2 b.iner = rnd (e2 * 65536) b.iner := divF_in (by omega) (by omega)
  have l3 := rnd_bdS (x := e2 * 65536) (n := b.iner) (M := 262145) (by omega) (by omega) (by omega)
  have n3 : 0 ≤ rnd (e2 * 65536) b.iner := by
    rcases Int.lt_or_le (rnd (e2 * 65536) b.iner) 0 with h | h
    · have := Int.mul_le_mul_of_nonneg_left (show rnd (e2 * 65536) b.iner ≤ -1 by omega) (show 0 ≤ b.iner by omega)
      omega
    · exact h
  generalize rnd (e2 * 65536) b.iner = e3 at s3 k3 l3 n3
  have eE : easeN b p q 0 65536 = e1 + e3 := by
    unfold easeN
    rw [ep, eq', ec, k1, k2, k3, addF_in (by omega) (by omega) (by omega)]
  rw [ev, eE]
  refine ⟨by omega, by omega, fun hv => ?_⟩
  -- the impulse
  have s4 := rnd_specS (W := -(b.vy + g) * 65536) (n := e1 + e3) (by omega)
  have k4 : divF (-(b.vy + g)) (e1 + e3) = rnd (-(b.vy + g) * 65536) (e1 + e3) := divF_in (by omega) (by omega)
  have l4 := rnd_bdS (x := -(b.vy + g) * 65536) (n := e1 + e3) (M := 6029312) (by omega) (by omega) (by omega)
  have n4 : 0 ≤ rnd (-(b.vy + g) * 65536) (e1 + e3) := by
    rcases Int.lt_or_le (rnd (-(b.vy + g) * 65536) (e1 + e3)) 0 with h | h
    · have := Int.mul_le_mul_of_nonneg_left (show rnd (-(b.vy + g) * 65536) (e1 + e3) ≤ -1 by omega) (show 0 ≤ e1 + e3 by omega)
      omega
    · exact h
  rw [k4]
  generalize rnd (-(b.vy + g) * 65536) (e1 + e3) = J at s4 k4 l4 n4
  refine ⟨n4, l4.2, ?_⟩
  -- what it does
  have pJ := mul_bdS 131072 (by omega) hp 6029312 (b := J) (by omega) (by omega)
  have s5 := rnd_specS (W := p * J) (n := 65536) (by omega)
  have k5 : mulF p J = rnd (p * J) 65536 := mulF_in (by omega) (by omega) (by omega)
  generalize rnd (p * J) 65536 = X at s5 k5
  have s6 := rnd_specS (W := X * 65536) (n := b.iner) (by omega)
  have k6 : divF X b.iner = rnd (X * 65536) b.iner := divF_in (by omega) (by omega)
  have l6 := rnd_bdS (x := X * 65536) (n := b.iner) (M := 12058626) (by omega) (by omega) (by omega)
  generalize rnd (X * 65536) b.iner = Y at s6 k6 l6
  have s7 := rnd_specS (W := Y * 65536) (n := 411775) (by omega)
  have k7 : divF Y 411775 = rnd (Y * 65536) 411775 := divF_in (by omega) (by omega)
  generalize rnd (Y * 65536) 411775 = T at s7 k7
  have s8 := rnd_specS (W := J * 65536) (n := b.mass) (by omega)
  have k8 : divF J b.mass = rnd (J * 65536) b.mass := divF_in (by omega) (by omega)
  have l8 := rnd_bdS (x := J * 65536) (n := b.mass) (M := 6029312) (by omega) (by omega) (by omega)
  generalize rnd (J * 65536) b.mass = D at s8 k8 l8
  have s9 := rnd_specS (W := (b.spin + T) * 411775) (n := 65536) (by omega)
  have k9 : mulF (b.spin + T) 411775 = rnd ((b.spin + T) * 411775) 65536 := mulF_in (by omega) (by omega) (by omega)
  generalize rnd ((b.spin + T) * 411775) 65536 = w' at s9 k9
  have wp' := mul_bdS 268435456 (by omega) (a := w') (by omega) 131072 hp.1 hp.2
  have s10 := rnd_specS (W := w' * p) (n := 65536) (by omega)
  have k10 : mulF w' p = rnd (w' * p) 65536 := mulF_in (by omega) (by omega) (by omega)
  generalize rnd (w' * p) 65536 = g' at s10 k10
  have eC : crossF p q 0 J = X := by unfold crossF; rw [k5, mulF_zr, subF_zr (by omega)]
  have eT : turnF b 0 J p q = T := by unfold turnF; rw [ep, eq', eC, k6, k7]
  have e : speedY (pushR b 0 J p q) p q = b.vy + D + g' := by
    unfold pushR
    rw [if_neg (by rw [ha]; rintro (h | h); omega; cases h)]
    unfold speedY
    show addF (clampN (addF b.vy (divF J b.mass)) 268435456) (mulF (mulF (clampN (addF b.spin (turnF b 0 J p q)) 16777216) 411775) (subF p b.px)) = _
    rw [k8, eT, ep, addF_in (a := b.vy) (by omega) (by omega) (by omega), addF_in (a := b.spin) (by omega) (by omega) (by omega), clampN_idK (by omega), clampN_idK (by omega), k9, k10, addF_in (by omega) (by omega) (by omega)]
  rw [e]
  have := stop_core (c := p) (m := b.mass) (I := b.iner) (e1 := e1) (e2 := e2) (e3 := e3) (v := b.vy + g) (J := J) (X := X) (Y := Y) (T := T) (D := D) (w := w) (w' := w') (g := g) (g' := g') (sp := b.spin) hp hm (by omega) (by omega) (by omega) n3 (by omega) s3.1 n4 l4.2 (by omega) s4.2 s5.1 s5.2 s6.1 s6.2 s7.1 s7.2 s8.2 w1.1 w1.2 s9.1 s9.2 g1.1 s10.2
  omega
theorem speed_zero {b : Bd} (hvy : b.vy = 0) (hs : b.spin = 0) (p q : Int) : speedY b p q = 0 := by unfold speedY; rw [hvy, hs, mulF_zl, mulF_zl, addF_zz]

theorem stops_law {L : List BE} {bw b : Bd} {lw l : List V} (hL : L.map valB = [(bw, lw), (b, l)]) (hv : ∀ x ∈ L, bodyE x.b x.l = 0)
    (wm : bw.mass = 0) (wv : bw.vy = 0) (ws : bw.spin = 0) (wb : bw.bounce = 0) (wr : 0 ≤ bw.rub)
    (hx : b.px = 0) (hy : b.py = 0) (hbo : b.bounce = 0) (hru : b.rub = 0) (ha : b.asleep = false)
    (hvy : -327680 ≤ b.vy ∧ b.vy ≤ 327680) (hsp : -32768 ≤ b.spin ∧ b.spin ≤ 32768) (hm : 65536 ≤ b.mass ∧ b.mass ≤ 524288) (hI : 65536 ≤ b.iner ∧ b.iner ≤ 1966080)
    {p q : Int} (hp : -131072 ≤ p ∧ p ≤ 131072) (hq : -131072 ≤ q ∧ q ≤ 131072) :
    ∃ y : QB, (solveQ (L.map valB) [stopC p q] 4096 1).1[1]? = some y ∧ y.2 = l ∧ -512 ≤ speedY y.1 p q := by
  obtain ⟨h1, h2, h3⟩ := stop_push hx hy ha hvy hsp hm hI hp hq
  obtain ⟨Q, hQ⟩ : ∃ Q, Q = L.map valB := ⟨_, rfl⟩
  have hQ2 : Q = [(bw, lw), (b, l)] := hQ.trans hL
  have qa : qB Q 0 = bw := by rw [hQ2]; rfl
  have qb : qB Q 1 = b := by rw [hQ2]; rfl
  have hz : ∀ x, pushX Q x 0 0 = Q := fun x => by rw [hQ]; exact pushX_zero hv x
  obtain ⟨r, hr⟩ : ∃ r, r = rowQ Q 4096 (stopC p q) := ⟨_, rfl⟩
  have hw : warmTo Q [stopC p q] [r] 1 = Q := by
    rw [hQ]
    exact warmTo_zero hv (fun c hc => by rw [List.mem_singleton.1 hc]; exact ⟨rfl, rfl⟩) _ _
  have e0 : solveQ Q [stopC p q] 4096 1 = stepQ (Q, [stopC p q]) [r] 0 := by
    show iterQ (warmTo Q [stopC p q] [rowQ Q 4096 (stopC p q)] 1, [stopC p q]) [rowQ Q 4096 (stopC p q)] 1 1 = _
    rw [← hr, hw]
    rfl
  rw [← hQ, e0, stepQ_eq (x := stopC p q) (r := r) rfl rfl]
  show ∃ y : QB, (roundQ Q (stopC p q) r).1[1]? = some y ∧ y.2 = l ∧ -512 ≤ speedY y.1 p q
  -- nothing slips
  have hs : slipQ Q (stopC p q) r = (Q, stopC p q) := by
    have hz0 : slideZ Q (stopC p q) r = 0 := by
      unfold slideZ
      rw [show (stopC p q).push = 0 from rfl, mulF_zr]
      unfold clampN
      split
      · rfl
      · split <;> omega
    unfold slipQ
    split
    · rfl
    · rw [hz0, show (stopC p q).sli = 0 from rfl, subF_zz, mulF_zr, mulF_zr, hz]
      rfl
  have hro : roundQ Q (stopC p q) r = easeQ Q (stopC p q) r := by unfold roundQ; rw [hs]
  rw [hro]
  -- the velocity
  have hV : relV Q (stopC p q) 0 65536 = speedY b p q := by
    show pulV (qB Q 0) (qB Q 1) p q p q 0 65536 = _
    rw [qa, qb]
    unfold pulV dotF
    rw [mulF_zr, speed_zero wv ws, subF_zr (by omega), mulF_one (by omega), addF_in (by omega) (by omega) (by omega)]
    omega
  have hE : r.ease = easeN b p q 0 65536 := by
    rw [hr]
    show pulE (qB Q 0) (qB Q 1) p q p q 0 65536 = _
    rw [qa, qb]
    unfold pulE easeR
    rw [if_pos (.inl wm), if_neg (by rw [ha]; rintro (h | h); omega; cases h), addF_in (by omega) (by omega) (by omega)]
    omega
  have hLi : r.lift = 0 := by
    have z0 : lift0 (stopC p q) 4096 = 0 := by
      unfold lift0
      rw [show max 0 ((stopC p q).dep - 512) = 0 from rfl, mulF_zl, divF_zl]
    rw [hr]
    show liftQ Q (stopC p q) 4096 = 0
    unfold liftQ
    rw [z0]
    split
    · show addF 0 (mulF (max (qB Q 0).bounce (qB Q 1).bounce) _) = 0
      rw [qa, qb, wb, hbo, show max (0 : Int) 0 = 0 from rfl, mulF_zl, addF_zz]
    · rfl
  have hP : pressZ Q (stopC p q) r = max 0 (addF 0 (divF (subF 0 (speedY b p q)) (easeN b p q 0 65536))) := by
    unfold pressZ
    rw [hLi, hE]
    show max 0 (addF 0 (divF (subF 0 (relV Q (stopC p q) 0 65536)) _)) = _
    rw [hV]
  rw [subF_in (by omega) (by omega) (by omega), Int.zero_sub] at hP
  unfold easeQ
  rw [if_neg (by omega), hP]
  show ∃ y : QB, (pushX Q (stopC p q) (mulF 0 (subF _ 0)) (mulF 65536 (subF _ 0)))[1]? = some y ∧ _
  rcases Int.lt_or_le (speedY b p q) 0 with hn | hn
  · obtain ⟨j0, j1, j2⟩ := h3 hn
    generalize divF (-(speedY b p q)) (easeN b p q 0 65536) = J at *
    have ej : max 0 (addF 0 J) = J := by rw [addF_in (by omega) (by omega) (by omega)]; omega
    rw [ej, subF_zr (by omega), mulF_zl, mulF_one' (by omega)]
    refine ⟨(pushR b 0 J p q, l), ?_, rfl, j2⟩
    show (putQ (putQ Q 0 (pushR (qB Q 0) (-0) (-J) p q)) 1 (pushR (qB Q 1) 0 J p q))[1]? = _
    rw [qa, qb, show pushR bw (-0) (-J) p q = bw by unfold pushR; rw [if_pos (.inl wm)], hQ2]
    rfl
  · have ej : max 0 (addF 0 (divF (-(speedY b p q)) (easeN b p q 0 65536))) = 0 := by
      have s := rnd_specS (W := -(speedY b p q) * 65536) (n := easeN b p q 0 65536) (by omega)
      have k : divF (-(speedY b p q)) (easeN b p q 0 65536) = rnd (-(speedY b p q) * 65536) (easeN b p q 0 65536) := divF_in (by omega) (by omega)
      have lb := rnd_bdS (x := -(speedY b p q) * 65536) (n := easeN b p q 0 65536) (M := 8388608) (by omega) (by omega) (by omega)
      rw [k, addF_in (by omega) (by omega) (by omega)]
      rcases Int.lt_or_le 0 (rnd (-(speedY b p q) * 65536) (easeN b p q 0 65536)) with g | g
      · have := Int.mul_le_mul_of_nonneg_left (show 1 ≤ rnd (-(speedY b p q) * 65536) (easeN b p q 0 65536) by omega) (show 0 ≤ easeN b p q 0 65536 by omega)
        omega
      · omega
    rw [ej, subF_zz, mulF_zr, mulF_zr, hz, hQ2]
    exact ⟨(b, l), rfl, rfl, by show -512 ≤ speedY b p q; omega⟩
end
end Go.Proofs.Ytkiiehobphkmgaa
