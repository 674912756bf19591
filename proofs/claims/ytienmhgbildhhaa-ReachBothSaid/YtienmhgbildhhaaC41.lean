/- Parts of a proof: contracts and laws. -/
import Derived.Test.YtienmhgbildhhaaC30
import Derived.Test.YtienmhgbildhhaaC08
import Derived.Test.YtienmhgbildhhaaC40
namespace Go.Proofs.Ytienmhgbildhhaa
section
set_option linter.unusedVariables false
set_option linter.unusedSimpArgs false
open Go.RowKit

theorem pol_of {l : List V} (h : checkE l = 0) : Pol l.length (cyP l) := by
  obtain ⟨h8, h3, _, _⟩ := checkE_zero h
  have eA : ∀ x, rimA l 0 x = cyP l x := fun x => by unfold rimA cyP; rw [Nat.zero_add]
  have eE : ∀ x, rimE l 0 x = vsub (cyP l (x + 1)) (cyP l x) := fun x => by unfold rimE edgX edgY vsub cyP; rw [Nat.zero_add]
  refine ⟨h3, fun t => by unfold cyP; rw [Nat.add_mod_right], fun t => ?_, fun t j => ?_⟩
  · have hs := (rim_left h 0 t (t + 2)).2
    rw [Nat.zero_add, Nat.zero_add] at hs
    have a1 : (t + 2) % l.length ≠ t % l.length := fun g => by
      have := Nat.sub_mod_eq_zero_of_mod_eq g
      rw [show t + 2 - t = 2 by omega, Nat.mod_eq_of_lt (by omega)] at this
      omega
    have a2 : (t + 2) % l.length ≠ (t + 1) % l.length := fun g => by
      have := Nat.sub_mod_eq_zero_of_mod_eq g
      rw [show t + 2 - (t + 1) = 1 by omega, Nat.mod_eq_of_lt (by omega)] at this
      omega
    have := hs a1 a2
    rw [eA, eA, eE] at this
    have id : cr (vsub (cyP l (t + 1)) (cyP l t)) (vsub (cyP l (t + 2)) (cyP l t)) = cr (vsub (cyP l (t + 1)) (cyP l t)) (vsub (cyP l (t + 2)) (cyP l (t + 1))) := by unfold cr vsub; grind
    rwa [id] at this
  · have := (rim_left h 0 t j).1
    rwa [eA, eA, eE] at this
theorem cyP_lt {l : List V} {i : Nat} (hi : i < l.length) : cyP l i = (px l i, py l i) := by unfold cyP; rw [Nat.mod_eq_of_lt hi]


def Sep (a b : List V) (e : V) : Prop := ∀ j k, j < a.length → k < b.length → 0 < cr e (dpt2 a b j k)
theorem sep_out {a b : List V} {D : List V} (hD : Dif a b D) {e : V} (hs : Sep a b e) : ninB D = false := by
  cases q : ninB D with
  | false => rfl
  | true =>
    exfalso
    have hN := hD.pol.pos
    refine half_contra hD.pol (vneg e) (fun t => ?_) ((ninB_iff (by omega)).1 q)
    obtain ⟨j, k, h1, h2, h3⟩ := hD.mem t
    rw [h3, cr_negl]
    have := hs j k h1 h2
    omega

theorem minus_sep {a b : List V} (ha : checkE a = 0) (hb : checkE b = 0) (h0 : ninB (minusL a b) = false) :
    (∃ t, Sep a b (vsub (cyP a (t + 1)) (cyP a t))) ∨ ∃ t, Sep a b (vneg (vsub (cyP b (t + 1)) (cyP b t))) := by
  have hc := checkE_neg hb
  obtain ⟨_, a3, _, _⟩ := checkE_zero ha
  obtain ⟨_, b3, _, _⟩ := checkE_zero hb
  have hDif := minus_dif ha hb
  have e : minusL a b = mrgL a.length (negL b).length (rimA a (lowI a)) (rimA (negL b) (lowI (negL b))) (rimE a (lowI a)) (rimE (negL b) (lowI (negL b))) (a.length + (negL b).length) 0 0 := by
    unfold minusL
    rw [if_pos (by unfold bothE; rw [if_neg (by omega)]; exact hb), mnGo_eq]
  have hM : Mrg a.length (negL b).length (rimE a (lowI a)) (rimE (negL b) (lowI (negL b))) 0 0 := ⟨by omega, by omega, fun h => by omega, fun h => by omega⟩
  have hA := rim_of ha
  have hC := rim_of hc
  obtain ⟨s1, s2⟩ := mrgL_states hA hC (a.length + (negL b).length) 0 0 hM (by omega)
  rw [← e] at s1 s2
  have hN := hDif.pol.pos
  obtain ⟨t0, ht0⟩ : ∃ t0, t0 < (minusL a b).length ∧ cr (cyP (minusL a b) t0) (cyP (minusL a b) (t0 + 1)) < 0 := by
    rcases Classical.em (∃ t0, t0 < (minusL a b).length ∧ cr (cyP (minusL a b) t0) (cyP (minusL a b) (t0 + 1)) < 0) with g | g
    · exact g
    · exfalso
      have : ninB (minusL a b) = true := (ninB_iff (by omega)).2 (fun t => by
        have e1 : cyP (minusL a b) t = cyP (minusL a b) (t % (minusL a b).length) := by unfold cyP; rw [Nat.mod_mod]
        have e2 : cyP (minusL a b) (t + 1) = cyP (minusL a b) (t % (minusL a b).length + 1) := by unfold cyP; rw [Nat.mod_add_mod]
        rw [e1, e2]
        rcases Int.lt_or_le (cr (cyP (minusL a b) (t % (minusL a b).length)) (cyP (minusL a b) (t % (minusL a b).length + 1))) 0 with q | q
        · exact absurd ⟨_, Nat.mod_lt _ (by omega), q⟩ g
        · exact q)
      rw [h0] at this
      cases this
  obtain ⟨ht1, ht2⟩ := ht0
  obtain ⟨D, hD⟩ : ∃ D, D = minusL a b := ⟨_, rfl⟩
  rw [← hD] at s1 s2 ht1 ht2 hN
  -- the corner and the next one
  obtain ⟨p1, h, hlt⟩ := s2 t0 ht1
  have st := stI_succ (n := a.length) (m := (negL b).length) (E := rimE a (lowI a)) (F := rimE (negL b) (lowI (negL b))) t0 (0, 0)
  have eA : rimA a (lowI a) a.length = rimA a (lowI a) 0 := by have := hA.per 0; rwa [Nat.zero_add] at this
  have eC : rimA (negL b) (lowI (negL b)) (negL b).length = rimA (negL b) (lowI (negL b)) 0 := by have := hC.per 0; rwa [Nat.zero_add] at this
  have p2 : cyP D (t0 + 1) = vadd (rimA a (lowI a) (stI a.length (negL b).length (rimE a (lowI a)) (rimE (negL b) (lowI (negL b))) (t0 + 1) (0, 0)).1) (rimA (negL b) (lowI (negL b)) (stI a.length (negL b).length (rimE a (lowI a)) (rimE (negL b) (lowI (negL b))) (t0 + 1) (0, 0)).2) := by
    rcases Nat.lt_or_ge (t0 + 1) D.length with g | g
    · rw [cyP_lt g]; exact (s2 _ g).1
    · have e3 : t0 + 1 = D.length := by omega
      rw [e3, s1, eA, eC]
      unfold cyP
      rw [Nat.mod_self]
      exact (s2 0 (by omega)).1
  rw [st] at p2
  rw [cyP_lt ht1, p1, p2] at ht2
  obtain ⟨S, hS⟩ : ∃ S, S = stI a.length (negL b).length (rimE a (lowI a)) (rimE (negL b) (lowI (negL b))) t0 (0, 0) := ⟨_, rfl⟩
  rw [← hS] at h hlt ht2
  obtain ⟨g1, g2, g3, -⟩ := go_facts h hlt
  obtain ⟨b1, b2⟩ := takes_between hA.cyc hC.cyc h hlt
  have ed := step_edge hA hC (x := S.1) (y := S.2) g3
  change vsub (vadd (rimA a (lowI a) (stp a.length (negL b).length (rimE a (lowI a)) (rimE (negL b) (lowI (negL b))) S).1) (rimA (negL b) (lowI (negL b)) (stp a.length (negL b).length (rimE a (lowI a)) (rimE (negL b) (lowI (negL b))) S).2)) _ = _ at ed
  generalize stp a.length (negL b).length (rimE a (lowI a)) (rimE (negL b) (lowI (negL b))) S = S' at *
  obtain ⟨P, hP⟩ : ∃ P, P = vadd (rimA a (lowI a) S.1) (rimA (negL b) (lowI (negL b)) S.2) := ⟨_, rfl⟩
  obtain ⟨Q, hQ⟩ : ∃ Q, Q = vadd (rimA a (lowI a) S'.1) (rimA (negL b) (lowI (negL b)) S'.2) := ⟨_, rfl⟩
  rw [← hP, ← hQ] at ht2 ed
  have hcr : 0 < cr (vsub Q P) P := by
    have : cr (vsub Q P) P = -cr P Q := by unfold cr vsub; grind
    omega
  rw [ed] at hcr
  -- every difference is a sum of two corners
  have all : ∀ j k, j < a.length → k < b.length → ∃ x y, dpt2 a b j k = vadd (rimA a (lowI a) x) (rimA (negL b) (lowI (negL b)) y) := fun j k hj hk => by
    have l1 : lowI a < a.length := lowTo_lt a a.length (by omega) (Nat.le_refl _)
    have l2 : lowI (negL b) < b.length := by have : lowI (negL b) < (negL b).length := lowTo_lt (negL b) (negL b).length (by rw [negL_len]; omega) (Nat.le_refl _); rwa [negL_len] at this
    refine ⟨j + (a.length - lowI a), k + (b.length - lowI (negL b)), ?_⟩
    unfold rimA
    rw [negL_len, show lowI a + (j + (a.length - lowI a)) = j + a.length by omega, Nat.add_mod_right, Nat.mod_eq_of_lt hj, show lowI (negL b) + (k + (b.length - lowI (negL b))) = k + b.length by omega, Nat.add_mod_right, Nat.mod_eq_of_lt hk, neg_px, neg_py]
    unfold dpt2 vadd
    ext <;> simp <;> omega
  have split : ∀ (e : V) (x y : Nat), cr e (vadd (rimA a (lowI a) x) (rimA (negL b) (lowI (negL b)) y)) = cr e (vsub (rimA a (lowI a) x) (rimA a (lowI a) S.1)) + cr e (vsub (rimA (negL b) (lowI (negL b)) y) (rimA (negL b) (lowI (negL b)) S.2)) + cr e P := fun e x y => by rw [hP]; unfold cr vsub vadd; grind
  have sE : goE a.length (negL b).length (rimE a (lowI a)) (rimE (negL b) (lowI (negL b))) S.1 S.2 = true → 0 < cr (rimE a (lowI a) S.1) P → ∃ t, Sep a b (vsub (cyP a (t + 1)) (cyP a t)) := fun hg hp => by
    refine ⟨lowI a + S.1, fun j k hj hk => ?_⟩
    obtain ⟨x, y, exy⟩ := all j k hj hk
    have e4 : vsub (cyP a (lowI a + S.1 + 1)) (cyP a (lowI a + S.1)) = rimE a (lowI a) S.1 := rfl
    rw [e4, exy, split]
    obtain ⟨q1, q2⟩ := b1 hg
    have := hA.left S.1 x
    have := hC.cone q1 q2 y
    omega
  have sF : goF a.length (negL b).length (rimE a (lowI a)) (rimE (negL b) (lowI (negL b))) S.1 S.2 = true → 0 < cr (rimE (negL b) (lowI (negL b)) S.2) P → ∃ t, Sep a b (vneg (vsub (cyP b (t + 1)) (cyP b t))) := fun hg hp => by
    refine ⟨lowI (negL b) + S.2, fun j k hj hk => ?_⟩
    obtain ⟨x, y, exy⟩ := all j k hj hk
    have e4 : vneg (vsub (cyP b (lowI (negL b) + S.2 + 1)) (cyP b (lowI (negL b) + S.2))) = rimE (negL b) (lowI (negL b)) S.2 := by
      unfold rimE edgX edgY vneg vsub cyP
      rw [negL_len, neg_px, neg_px, neg_py, neg_py]
      ext <;> simp <;> omega
    rw [e4, exy, split]
    obtain ⟨q1, q2⟩ := b2 hg
    have := hC.left S.2 y
    have := hA.cone q1 q2 x
    omega
  unfold mev at hcr
  cases ga : goE a.length (negL b).length (rimE a (lowI a)) (rimE (negL b) (lowI (negL b))) S.1 S.2 with
  | true =>
    cases gb : goF a.length (negL b).length (rimE a (lowI a)) (rimE (negL b) (lowI (negL b))) S.1 S.2 with
    | true =>
      rw [ga, gb] at hcr
      simp only [if_true, cr_addl] at hcr
      rcases Int.lt_or_le 0 (cr (rimE a (lowI a) S.1) P) with q | q
      · exact .inl (sE ga q)
      · exact .inr (sF gb (by omega))
    | false =>
      rw [ga, gb] at hcr
      exact .inl (sE ga (by simpa using hcr))
  | false =>
    rw [ga] at hcr
    have gb : goF a.length (negL b).length (rimE a (lowI a)) (rimE (negL b) (lowI (negL b))) S.1 S.2 = true := by rw [ga] at g3; simpa using g3
    exact .inr (sF gb (by simpa using hcr))
theorem deepTo_ge {l m : List V} {i : Nat} : ∀ k j, j ≤ k → dpt l m i j ≤ deepTo l m i k
  | 0, j, h => by obtain rfl : j = 0 := by omega
                  exact Int.le_refl _
  | k + 1, j, h => by
    rw [deepTo]
    rcases Nat.lt_or_ge j (k + 1) with g | g
    · have := deepTo_ge (l := l) (m := m) (i := i) k j (by omega)
      split <;> omega
    · obtain rfl : j = k + 1 := by omega
      split <;> omega
theorem dpt_cr (l m : List V) {i k : Nat} (hi : i < l.length) : dpt l m i k = -cr (vsub (cyP l (i + 1)) (cyP l i)) (px l i - px m k, py l i - py m k) := by
  unfold dpt nrmX nrmY cr vsub cyP
  rw [Nat.mod_eq_of_lt hi]
  grind
theorem deep_neg {l m : List V} (h : checkE l = 0) (hm : 0 < m.length) {i : Nat} (hi : i < l.length) (hd : deepZ l m i < 0) : Sep l m (vsub (cyP l (i + 1)) (cyP l i)) := fun j k hj hk => by
  have := deepTo_ge (l := l) (m := m) (i := i) (m.length - 1) k (by omega)
  have hd' : deepTo l m i (m.length - 1) < 0 := hd
  have e := dpt_cr l m (k := k) hi
  have lf := (pol_of h).left i j
  rw [cyP_lt hj, cyP_lt hi] at lf
  have id : cr (vsub (cyP l (i + 1)) (cyP l i)) (dpt2 l m j k) = cr (vsub (cyP l (i + 1)) (cyP l i)) (vsub (px l j, py l j) (px l i, py l i)) + cr (vsub (cyP l (i + 1)) (cyP l i)) (px l i - px m k, py l i - py m k) := by unfold cr vsub dpt2; grind
  rw [id]
  rw [cyP_lt hi] at e ⊢
  omega
theorem deep_sep {l m : List V} (hm : 0 < m.length) {t : Nat} (h0 : 0 < l.length) (hs : Sep l m (vsub (cyP l (t + 1)) (cyP l t))) : ∃ i, i < l.length ∧ deepZ l m i < 0 := by
  have hi : t % l.length < l.length := Nat.mod_lt _ h0
  refine ⟨t % l.length, hi, ?_⟩
  obtain ⟨k, hk, ek⟩ := deepTo_mem l m (t % l.length) (m.length - 1)
  show deepTo l m (t % l.length) (m.length - 1) < 0
  rw [ek, dpt_cr l m hi]
  have := hs (t % l.length) k hi (by omega)
  have e1 : cyP l (t % l.length) = cyP l t := by unfold cyP; rw [Nat.mod_mod]
  have e2 : cyP l (t % l.length + 1) = cyP l (t + 1) := by unfold cyP; rw [Nat.mod_add_mod]
  rw [e1, e2]
  unfold dpt2 at this
  omega
theorem sep_swap {a b : List V} {e : V} (h : Sep a b e) : Sep b a (vneg e) := fun j k hj hk => by
  have := h k j hk hj
  have e2 : cr (vneg e) (dpt2 b a j k) = cr e (dpt2 a b k j) := by unfold cr vneg dpt2; grind
  rw [e2]
  exact this

theorem meets_nin {a b : List V} (ha : checkE a = 0) (hb : checkE b = 0) : meetsB a b = ninB (minusL a b) := by
  obtain ⟨_, a3, _, _⟩ := checkE_zero ha
  obtain ⟨_, b3, _, _⟩ := checkE_zero hb
  have hD := minus_dif ha hb
  cases q : ninB (minusL a b) with
  | true =>
    unfold meetsB
    rw [decide_eq_true_iff]
    refine ⟨bothE_zero.2 ⟨ha, hb⟩, fun i hi => ?_, fun i hi => ?_⟩
    · rcases Int.lt_or_le (deepZ a b i) 0 with g | g
      · have := sep_out hD (deep_neg ha (by omega) hi g)
        rw [q] at this; cases this
      · exact g
    · rcases Int.lt_or_le (deepZ b a i) 0 with g | g
      · have := sep_out hD (sep_swap (deep_neg hb (by omega) hi g))
        rw [q] at this; cases this
      · exact g
  | false =>
    unfold meetsB
    rw [decide_eq_false_iff_not]
    rintro ⟨-, g1, g2⟩
    rcases minus_sep ha hb q with ⟨t, hs⟩ | ⟨t, hs⟩
    · obtain ⟨i, hi, hd⟩ := deep_sep (by omega) (by omega) hs
      have := g1 i hi
      omega
    · have hs2 := sep_swap hs
      rw [vneg_neg] at hs2
      obtain ⟨i, hi, hd⟩ := deep_sep (by omega) (by omega) hs2
      have := g2 i hi
      omega











end
end Go.Proofs.Ytienmhgbildhhaa
