/- Parts of a proof: contracts and laws. -/
import Derived.Test.YtilncglnojjlaaaGreatG34
import Derived.Test.YtilncglnojjlaaaGreatG01
import Derived.Test.YtilncglnojjlaaaGreatG04
import Derived.Test.YtilncglnojjlaaaGreatG35
import Derived.Test.YtilncglnojjlaaaGreatG08
import Derived.Deep.DeepCutAuto
import Derived.Test.YtilncglnojjlaaaGreatG33
namespace Go.Proofs.YtilncglnojjlaaaGreat
section
set_option linter.unusedVariables false
set_option linter.unusedSimpArgs false
open Go.RowKit
set_option maxRecDepth 100000 in
set_option maxHeartbeats 4000000 in
theorem keepCf {w w' : World} {g : Nat} {x y : Int} (hb : Below w.heap.size w w') (h : Cf w g x y) : Cf w' g x y := ⟨keepCell hb h.a, keepCell hb h.b⟩
theorem Cf.lt {w : World} {g : Nat} {x y : Int} (h : Cf w g x y) : g < w.heap.size := lt_of_cell h.a
theorem Cf.far {w : World} {g k : Nat} {x y : Int} (h : Cf w g x y) (hne : g ≠ k) (o : Nat) (v : Value) : Cf (w.setCell ⟨k, o, none⟩ v) g x y := by
 obtain ⟨a, b⟩ := h
 exact ⟨by go_simp, by go_simp⟩

structure Lk (w wx : World) (gt gp gq : Nat) (fx fy ux uy tx ty ax ay bx by_ : Int) : Prop where
 f : Cf wx w.heap.size fx fy
 u : Cf wx (w.heap.size + 1) ux uy
 t : Cf wx gt tx ty
 p : Cf wx gp ax ay
 q : Cf wx gq bx by_
 b : Below w.heap.size w wx
 l1 : w.heap.size + 1 < gt
 l2 : gt < gp
 l3 : gp < gq
 lq : gq < wx.heap.size
section
variable {w wx wy : World} {gt gp gq : Nat} {fx fy ux uy tx ty ax ay bx by_ : Int}
theorem keepLk (hb : Below wx.heap.size wx wy) (h : Lk w wx gt gp gq fx fy ux uy tx ty ax ay bx by_) : Lk w wy gt gp gq fx fy ux uy tx ty ax ay bx by_ :=
 ⟨keepCf hb h.f, keepCf hb h.u, keepCf hb h.t, keepCf hb h.p, keepCf hb h.q, keepBelow hb h.b, h.l1, h.l2, h.l3, Nat.lt_of_lt_of_le h.lq hb.size⟩
theorem Lk.drew (h : Lk w wx gt gp gq fx fy ux uy tx ty ax ay bx by_) : Lk w wx.drew gt gp gq fx fy ux uy tx ty ax ay bx by_ := keepLk (Below.refl _ _).drew h
theorem Lk.far (h : Lk w wx gt gp gq fx fy ux uy tx ty ax ay bx by_) {g : Nat} (hg : gq < g) (o : Nat) (v : Value) : Lk w (wx.setCell ⟨g, o, none⟩ v) gt gp gq fx fy ux uy tx ty ax ay bx by_ := by
 have := h.l1
 have := h.l2
 have := h.l3
 exact ⟨h.f.far (by omega) _ _, h.u.far (by omega) _ _, h.t.far (by omega) _ _, h.p.far (by omega) _ _, h.q.far (by omega) _ _, h.b.setCell (p := ⟨g, o, none⟩) (by show _ ≤ g; omega) _, h.l1, h.l2, h.l3, by have := h.lq; simpa using this⟩


end
set_option maxRecDepth 100000 in
set_option maxRecDepth 100000 in
end
end Go.Proofs.YtilncglnojjlaaaGreat
namespace Go.Proofs.YtilncglnojjlaaaGreat
section
set_option linter.unusedVariables false
set_option linter.unusedSimpArgs false
open Go.RowKit
def lowV (p q : V) : Prop := p.2 < q.2 ∨ (p.2 = q.2 ∧ p.1 < q.1)
instance (p q : V) : Decidable (lowV p q) := by unfold lowV; infer_instance
def ptL (l : List V) (k : Nat) : V := (px l k, py l k)

def wrpB (o nx p : V) : Prop := nx = o ∨ cr (vsub nx o) (vsub p o) < 0 ∨ (cr (vsub nx o) (vsub p o) = 0 ∧ sqZ (nx.1 - o.1) (nx.2 - o.2) < sqZ (p.1 - o.1) (p.2 - o.2))
instance (o p q : V) : Decidable (wrpB o p q) := by unfold wrpB; infer_instance

theorem edge_max {N : Nat} {P : Nat → V} (h : Pol N P) {p : V} (hp : ∀ t, 0 ≤ cr (vsub (P (t + 1)) (P t)) (vsub p (P t))) (t : Nat) (h0 : cr (vsub (P (t + 1)) (P t)) (vsub p (P t)) = 0) :
  (p = P (t + 1) ∨ sqZ (p.1 - (P t).1) (p.2 - (P t).2) < sqZ ((P (t + 1)).1 - (P t).1) ((P (t + 1)).2 - (P t).2)) ∧
  0 < sqZ ((P (t + 1)).1 - (P t).1) ((P (t + 1)).2 - (P t).2) ∧ 0 ≤ ((P (t + 1)).1 - (P t).1) * (p.1 - (P t).1) + ((P (t + 1)).2 - (P t).2) * (p.2 - (P t).2) ∧
  ((P (t + 1)).1 - (P t).1) * (p.1 - (P t).1) + ((P (t + 1)).2 - (P t).2) * (p.2 - (P t).2) ≤ sqZ ((P (t + 1)).1 - (P t).1) ((P (t + 1)).2 - (P t).2) := by
 have hN := h.pos
 have t1 := h.turn t
 have t0 := h.turn (t + N - 1)
 rw [show t + N - 1 + 1 = t + N by omega, show t + N - 1 + 2 = t + 1 + N by omega, h.per, h.per] at t0
 have l1 := hp (t + 1)
 rw [show t + 1 + 1 = t + 2 from rfl] at l1
 have l0 := hp (t + N - 1)
 rw [show t + N - 1 + 1 = t + N by omega, h.per] at l0
 generalize P (t + N - 1) = O at *
 generalize P (t + 2) = R at *
 generalize P (t + 1) = q at *
 generalize P t = o at *
 obtain ⟨q1, q2⟩ := q
 obtain ⟨o1, o2⟩ := o
 obtain ⟨p1, p2⟩ := p
 obtain ⟨r1, r2⟩ := R
 obtain ⟨s1, s2⟩ := O
 unfold cr vsub at *
 dsimp only at *
 obtain ⟨e1, he1⟩ : ∃ e, e = q1 - o1 := ⟨_, rfl⟩
 obtain ⟨e2, he2⟩ : ∃ e, e = q2 - o2 := ⟨_, rfl⟩
 obtain ⟨v1, hv1⟩ : ∃ e, e = p1 - o1 := ⟨_, rfl⟩
 obtain ⟨v2, hv2⟩ : ∃ e, e = p2 - o2 := ⟨_, rfl⟩
 obtain ⟨f1, hf1⟩ : ∃ e, e = r1 - q1 := ⟨_, rfl⟩
 obtain ⟨f2, hf2⟩ : ∃ e, e = r2 - q2 := ⟨_, rfl⟩
 obtain ⟨g1, hg1⟩ : ∃ e, e = o1 - s1 := ⟨_, rfl⟩
 obtain ⟨g2, hg2⟩ : ∃ e, e = o2 - s2 := ⟨_, rfl⟩
 rw [show p2 - q2 = v2 - e2 by omega, show p1 - q1 = v1 - e1 by omega, ← hf1, ← hf2] at l1
 rw [show p2 - s2 = v2 + g2 by omega, show p1 - s1 = v1 + g1 by omega, ← hg1, ← hg2] at l0
 rw [← he1, ← he2, ← hf1, ← hf2] at t1
 rw [← he1, ← he2, ← hg1, ← hg2] at t0
 rw [← he1, ← he2, ← hv1, ← hv2] at h0 ⊢
 have hq : v1 = e1 → v2 = e2 → (p1, p2) = (q1, q2) := fun a b => by ext <;> dsimp only <;> omega
 clear he1 he2 hv1 hv2 hf1 hf2 hg1 hg2
 obtain ⟨d, hd⟩ : ∃ d, d = e1 * v1 + e2 * v2 := ⟨_, rfl⟩
 obtain ⟨s, hs⟩ : ∃ d, d = sqZ e1 e2 := ⟨_, rfl⟩
 rw [← hd, ← hs]
 have s0 : 0 < s := by
  rcases Classical.em (e1 = 0 ∧ e2 = 0) with ⟨a, b⟩ | a
  ·subst a b; simp at t1
  ·rw [hs]
   unfold sqZ
   have := sq_nonneg e1
   have := sq_nonneg e2
   rcases Classical.em (e1 = 0) with b | b
   ·have c : e2 ≠ 0 := fun c => a ⟨b, c⟩
    have : 0 < e2 * e2 := by
     rcases Int.lt_or_le 0 e2 with g | g
     ·exact Int.mul_pos g g
     ·exact Int.mul_pos_of_neg_of_neg (by omega) (by omega)
    omega
   ·have : 0 < e1 * e1 := by
     rcases Int.lt_or_le 0 e1 with g | g
     ·exact Int.mul_pos g g
     ·exact Int.mul_pos_of_neg_of_neg (by omega) (by omega)
    omega
 have c1 : s * v1 = d * e1 := by rw [hs, hd]; unfold sqZ; grind
 have c2 : s * v2 = d * e2 := by rw [hs, hd]; unfold sqZ; grind
 have d0 : 0 ≤ d := by
  have k1 : s * (g1 * (v2 + g2) - g2 * (v1 + g1)) = d * (g1 * e2 - g2 * e1) := by grind
  have k2 := Int.mul_nonneg (Int.le_of_lt s0) l0
  rw [k1] at k2
  exact nn_of_mul t0 k2
 have d1 : d ≤ s := by
  have k1 : s * (f1 * (v2 - e2) - f2 * (v1 - e1)) = (s - d) * (e1 * f2 - e2 * f1) := by grind
  have k2 := Int.mul_nonneg (Int.le_of_lt s0) l1
  rw [k1] at k2
  have := nn_of_mul t1 k2
  omega
 refine ⟨?_, s0, d0, d1⟩
 rcases Classical.em (d = s) with g | g
 ·left
  subst g
  exact hq (Int.eq_of_mul_eq_mul_left (by omega) c1) (Int.eq_of_mul_eq_mul_left (by omega) c2)
 ·right
  have k : s * (sqZ v1 v2) = d * d := by
   have a1 : s * (s * sqZ v1 v2) = s * (d * d) := by
    have : s * (s * sqZ v1 v2) = (s * v1) * (s * v1) + (s * v2) * (s * v2) := by unfold sqZ; grind
    rw [this, c1, c2]
    have : d * e1 * (d * e1) + d * e2 * (d * e2) = sqZ e1 e2 * (d * d) := by unfold sqZ; grind
    rw [this, hs]
   exact Int.eq_of_mul_eq_mul_left (by omega) a1
  have m1 : d * d ≤ d * s := Int.mul_le_mul_of_nonneg_left d1 d0
  have m2 : d * s < s * s := Int.mul_lt_mul_of_pos_right (by omega) s0
  rw [← k] at m1
  exact Int.lt_of_mul_lt_mul_left (show s * sqZ v1 v2 < s * s by omega) (Int.le_of_lt s0)
section
variable {l D : List V}
end


def EdgeOf (a b : List V) (P Q : V) : Prop := ∃ j k, j < a.length ∧ k < b.length ∧ P = dpt2 a b j k ∧
  (Q = dpt2 a b ((j + 1) % a.length) k ∨ Q = dpt2 a b j ((k + 1) % b.length) ∨
   (Q = dpt2 a b ((j + 1) % a.length) ((k + 1) % b.length) ∧ cr (vsub Q P) (vsub (dpt2 a b ((j + 1) % a.length) k) P) = 0))
theorem dup_add {p q : V} (hp : (p.1 = 0 ∧ p.2 = 0) ∨ dup p) (hq : (q.1 = 0 ∧ q.2 = 0) ∨ dup q) : ((vadd p q).1 = 0 ∧ (vadd p q).2 = 0) ∨ dup (vadd p q) := by
 unfold dup vadd at *
 dsimp only at *
 omega
theorem minus_steps {a b : List V} (ha : checkE a = 0) (hb : checkE b = 0) :
  (∀ j k, j < a.length → k < b.length → ¬ lowV (dpt2 a b j k) (cyP (minusL a b) 0)) ∧ (∀ t, 0 < t → t < (minusL a b).length → cyP (minusL a b) t ≠ cyP (minusL a b) 0) ∧ ∀ t, EdgeOf a b (cyP (minusL a b) t) (cyP (minusL a b) (t + 1)) := by
 have hc := checkE_neg hb
 obtain ⟨_, a3, _, _⟩ := checkE_zero ha
 obtain ⟨_, b3, _, _⟩ := checkE_zero hb
 have hDif := minus_dif ha hb
 have e : minusL a b = mrgL a.length (negL b).length (rimA a (lowI a)) (rimA (negL b) (lowI (negL b))) (rimE a (lowI a)) (rimE (negL b) (lowI (negL b))) (a.length + (negL b).length) 0 0 := by
  unfold minusL
  rw [if_pos (by unfold bothE; rw [if_neg (by omega)]; exact hb), mnGo_eq]
 have hM : Mrg a.length (negL b).length (rimE a (lowI a)) (rimE (negL b) (lowI (negL b))) 0 0 := ⟨by omega, by omega, fun h => by omega, fun h => by omega⟩
 have hA := rim_of ha
 have hC := rim_of hc
 obtain ⟨s1, s2⟩ := mrgL_states hA hC (a.length + (negL b).length) 0 0 hM (by omega)
 rw [← e] at s1 s2
 have hN := hDif.pol.pos
 have lowA := rimA_low (l := a) (by omega)
 have lowC := rimA_low (l := negL b) (by rw [negL_len]; omega)
 have memA : ∀ x, rimA a (lowI a) x = (px a ((lowI a + x) % a.length), py a ((lowI a + x) % a.length)) := fun x => rfl
 have memC : ∀ y, rimA (negL b) (lowI (negL b)) y = (-px b ((lowI (negL b) + y) % b.length), -py b ((lowI (negL b) + y) % b.length)) := fun y => by unfold rimA; rw [negL_len, neg_px, neg_py]
 have all : ∀ j k, j < a.length → k < b.length → ∃ x y, dpt2 a b j k = vadd (rimA a (lowI a) x) (rimA (negL b) (lowI (negL b)) y) := fun j k hj hk => by
  have l1 : lowI a < a.length := lowTo_lt a a.length (by omega) (Nat.le_refl _)
  have l2 : lowI (negL b) < b.length := by have : lowI (negL b) < (negL b).length := lowTo_lt (negL b) (negL b).length (by rw [negL_len]; omega) (Nat.le_refl _); rwa [negL_len] at this
  refine ⟨j + (a.length - lowI a), k + (b.length - lowI (negL b)), ?_⟩
  unfold rimA
  rw [negL_len, show lowI a + (j + (a.length - lowI a)) = j + a.length by omega, Nat.add_mod_right, Nat.mod_eq_of_lt hj, show lowI (negL b) + (k + (b.length - lowI (negL b))) = k + b.length by omega, Nat.add_mod_right, Nat.mod_eq_of_lt hk, neg_px, neg_py]
  unfold dpt2 vadd
  ext <;> simp <;> omega
 have jb : ∀ x, (lowI a + x) % a.length < a.length := fun x => Nat.mod_lt _ (by omega)
 have kb : ∀ x, (lowI (negL b) + x) % b.length < b.length := fun x => Nat.mod_lt _ (by omega)
 have jn : ∀ x, ((lowI a + x) % a.length + 1) % a.length = (lowI a + (x + 1)) % a.length := fun x => by rw [Nat.mod_add_mod, Nat.add_assoc]
 have kn : ∀ x, ((lowI (negL b) + x) % b.length + 1) % b.length = (lowI (negL b) + (x + 1)) % b.length := fun x => by rw [Nat.mod_add_mod, Nat.add_assoc]
 have both : ∀ x y, vadd (rimA a (lowI a) x) (rimA (negL b) (lowI (negL b)) y) = dpt2 a b ((lowI a + x) % a.length) ((lowI (negL b) + y) % b.length) := fun x y => by
  rw [memA, memC]
  unfold vadd dpt2
  ext <;> simp <;> omega
 clear memA memC
 generalize (fun x => (lowI a + x) % a.length) = jx at *
 obtain ⟨D, hD⟩ : ∃ D, D = minusL a b := ⟨_, rfl⟩
 rw [← hD] at s1 s2 hN hDif ⊢
 clear e
 generalize hJ : lowI a = la at *
 generalize hK : lowI (negL b) = lb at *
 generalize hAe : rimA a la = A at *
 generalize hCe : rimA (negL b) lb = C at *
 generalize hEe : rimE a la = E at *
 generalize hFe : rimE (negL b) lb = F at *
 generalize hm : (negL b).length = m at *
 generalize hn : a.length = n at *
 have eA : A n = A 0 := by have := hA.per 0; rwa [Nat.zero_add] at this
 have eC : C m = C 0 := by have := hC.per 0; rwa [Nat.zero_add] at this
 have pt : ∀ t, t ≤ D.length → cyP D t = vadd (A (stI n m E F t (0, 0)).1) (C (stI n m E F t (0, 0)).2) := fun t ht => by
  rcases Nat.lt_or_ge t D.length with g | g
  ·rw [cyP_lt g]; exact (s2 t g).1
  ·have e3 : t = D.length := by omega
   rw [e3, s1, eA, eC]
   unfold cyP
   rw [Nat.mod_self]
   exact (s2 0 (by omega)).1
 have p0 : cyP D 0 = vadd (A 0) (C 0) := pt 0 (by omega)
 have edge : ∀ t, t < D.length → vsub (cyP D (t + 1)) (cyP D t) = mev (goE n m E F (stI n m E F t (0, 0)).1 (stI n m E F t (0, 0)).2) (goF n m E F (stI n m E F t (0, 0)).1 (stI n m E F t (0, 0)).2) (E (stI n m E F t (0, 0)).1) (F (stI n m E F t (0, 0)).2) := fun t ht => by
  obtain ⟨-, h, hlt⟩ := s2 t ht
  rw [pt (t + 1) (by omega), pt t (by omega), stI_succ]
  exact step_edge hA hC (go_facts h hlt).2.2.1
 -- edges that go down are followed by such
 have dn : ∀ t, t + 1 < D.length → ddn (vsub (cyP D (t + 1)) (cyP D t)) → ddn (vsub (cyP D (t + 2)) (cyP D (t + 1))) := fun t ht hd => by
  have e1 := edge t (by omega)
  have e2 := edge (t + 1) ht
  obtain ⟨-, h, hlt⟩ := s2 t (by omega)
  obtain ⟨-, h', hlt'⟩ := s2 (t + 1) ht
  have st := stI_succ (n := n) (m := m) (E := E) (F := F) t (0, 0)
  rw [st] at e2 h' hlt'
  generalize stI n m E F t (0, 0) = S at *
  obtain ⟨g1, g2, g3, -⟩ := go_facts h hlt
  obtain ⟨g1', g2', g3', -⟩ := go_facts h' hlt'
  have q1 : (stp n m E F S).1 = if goE n m E F S.1 S.2 = true then S.1 + 1 else S.1 := rfl
  have q2 : (stp n m E F S).2 = if goF n m E F S.1 S.2 = true then S.2 + 1 else S.2 := rfl
  generalize stp n m E F S = S' at *
  rw [e1] at hd
  rw [e2]
  have addn : ∀ p q : V, ddn (vadd p q) → ddn p ∨ ddn q := fun p q h => by unfold ddn vadd at *; dsimp only at *; omega
  have dadd : ∀ p q : V, ddn p → ddn q → ddn (vadd p q) := fun p q h k => by unfold ddn vadd at *; dsimp only at *; omega
  have dled : ∀ p q : V, dle p q → ddn p → ddn q := fun p q h k => by
   rcases h with ⟨a, _⟩ | ⟨a, _, _⟩ | ⟨_, a, _⟩
   ·exact absurd k (fun k => dup_ddn a k)
   ·exact absurd k (fun k => dup_ddn a k)
   ·exact a
  have one : (goE n m E F S.1 S.2 = true ∧ ddn (E S.1)) ∨ (goF n m E F S.1 S.2 = true ∧ ddn (F S.2)) := by
   unfold mev at hd
   cases ga : goE n m E F S.1 S.2 <;> cases gb : goF n m E F S.1 S.2
   ·rw [ga, gb] at g3; simp at g3
   ·rw [ga, gb] at hd; exact .inr ⟨rfl, by simpa using hd⟩
   ·rw [ga, gb] at hd; exact .inl ⟨rfl, by simpa using hd⟩
   ·rw [ga, gb] at hd
    rcases addn _ _ (by simpa using hd) with q | q
    ·exact .inl ⟨rfl, q⟩
    ·exact .inr ⟨rfl, q⟩
  have res : (goE n m E F S'.1 S'.2 = true → ddn (E S'.1)) ∧ (goF n m E F S'.1 S'.2 = true → ddn (F S'.2)) := by
   rcases one with ⟨k1, k2⟩ | ⟨k1, k2⟩
   ·rw [if_pos k1] at q1
    refine ⟨fun g => ?_, fun g => ?_⟩
    ·have := g1' g
     rw [q1] at this ⊢
     exact dled _ _ (hA.cyc.next this) k2
    ·have := h'.j2 (by omega) (g2' g)
     rw [q1, Nat.add_sub_cancel] at this
     exact dled _ _ this k2
   ·rw [if_pos k1] at q2
    refine ⟨fun g => ?_, fun g => ?_⟩
    ·have := h'.j1 (by omega) (g1' g)
     rw [q2, Nat.add_sub_cancel] at this
     exact dled _ _ this k2
    ·have := g2' g
     rw [q2] at this ⊢
     exact dled _ _ (hC.cyc.next this) k2
  unfold mev
  cases ga : goE n m E F S'.1 S'.2 <;> cases gb : goF n m E F S'.1 S'.2
  ·rw [ga, gb] at g3'; simp at g3'
  ·simpa using res.2 gb
  ·simpa using res.1 ga
  ·simpa using dadd _ _ (res.1 ga) (res.2 gb)
 have nz : ∀ t, dup (vsub (cyP D (t + 1)) (cyP D t)) ∨ ddn (vsub (cyP D (t + 1)) (cyP D t)) := fun t => by
  have := hDif.pol.turn t
  exact dup_or (cr_ne (show cr (vsub (cyP D (t + 1)) (cyP D t)) (vsub (cyP D (t + 2)) (cyP D (t + 1))) ≠ 0 by omega)).1
 have tri : ∀ p q r : V, vsub r p = vadd (vsub q p) (vsub r q) := fun p q r => by unfold vsub vadd; ext <;> simp <;> omega
 refine ⟨fun j k hj hk => ?_, fun t ht1 ht2 hq => ?_, fun t => ?_⟩
 ·obtain ⟨x, y, exy⟩ := all j k hj hk
  have l1 := lowA x
  have l2 := lowC y
  rw [exy, p0]
  rcases dup_add l1 l2 with ⟨q1, q2⟩ | q
  ·unfold lowV vadd vsub at *; dsimp only at *; omega
  ·unfold lowV dup vadd vsub at *; dsimp only at *; omega
 ·-- the corners up to t by edges that go up, or those from t on by edges that go down
  rcases Classical.em (∃ r, r < t ∧ ddn (vsub (cyP D (r + 1)) (cyP D r))) with ⟨r, r1, r2⟩ | g
  ·have run : ∀ s, r + s < D.length → ddn (vsub (cyP D (r + s + 1)) (cyP D (r + s))) := by
    intro s
    induction s with
    | zero => intro _; exact r2
    | succ s ih => intro h; exact dn (r + s) (by omega) (ih (by omega))
   have sum : ∀ s, t + s + 1 ≤ D.length → ddn (vsub (cyP D (t + s + 1)) (cyP D t)) := by
    intro s
    induction s with
    | zero =>
     intro h
     have := run (t - r) (by omega)
     rwa [show r + (t - r) = t by omega] at this
    | succ s ih =>
     intro h
     have h1 := ih (by omega)
     have h2 := run (t - r + s + 1) (by omega)
     rw [show r + (t - r + s + 1) = t + s + 1 by omega] at h2
     rw [show t + (s + 1) + 1 = t + s + 1 + 1 by omega, tri (cyP D t) (cyP D (t + s + 1))]
     unfold ddn vadd at *; dsimp only at *; omega
   have := sum (D.length - t - 1) (by omega)
   have p := hDif.pol.per 0
   rw [Nat.zero_add] at p
   rw [show t + (D.length - t - 1) + 1 = D.length by omega, p, hq] at this
   unfold ddn vsub at this
   dsimp only at this
   omega
  ·have up : ∀ r, r < t → dup (vsub (cyP D (r + 1)) (cyP D r)) := fun r hr => by
    rcases nz r with q | q
    ·exact q
    ·exact absurd ⟨r, hr, q⟩ g
   have sum : ∀ s, s + 1 ≤ t → dup (vsub (cyP D (s + 1)) (cyP D 0)) := by
    intro s
    induction s with
    | zero => intro h; exact up 0 (by omega)
    | succ s ih =>
     intro h
     have h1 := ih (by omega)
     have h2 := up (s + 1) (by omega)
     rw [tri (cyP D 0) (cyP D (s + 1))]
     unfold dup vadd at *; dsimp only at *; omega
   have := sum (t - 1) (by omega)
   rw [show t - 1 + 1 = t by omega, hq] at this
   unfold dup vsub at this
   dsimp only at this
   omega
 ·have hlt : t % D.length < D.length := Nat.mod_lt _ (by omega)
  have e1 : cyP D t = cyP D (t % D.length) := by unfold cyP; rw [Nat.mod_mod]
  have e2 : cyP D (t + 1) = cyP D (t % D.length + 1) := by unfold cyP; rw [Nat.mod_add_mod]
  rw [e1, e2]
  generalize t % D.length = r at *
  obtain ⟨-, h, hlt'⟩ := s2 r hlt
  rw [pt r (by omega), pt (r + 1) (by omega), stI_succ]
  generalize stI n m E F r (0, 0) = S at *
  obtain ⟨g1, g2, g3, g4, g5, -⟩ := go_facts h hlt'
  unfold stp EdgeOf
  rw [hn]
  refine ⟨(la + S.1) % n, (lb + S.2) % b.length, jb _, kb _, both _ _, ?_⟩
  rw [jn, kn]
  cases ga : goE n m E F S.1 S.2 <;> cases gb : goF n m E F S.1 S.2
  ·rw [ga, gb] at g3; simp at g3
  ·simp only [Bool.false_eq_true, if_false, if_true]
   exact .inr (.inl (both _ _))
  ·simp only [Bool.false_eq_true, if_false, if_true]
   exact .inl (both _ _)
  ·simp only [if_true]
   refine .inr (.inr ⟨both _ _, ?_⟩)
   rw [← both]
   have x1 := g1 ga
   have y1 := g2 gb
   have c1 := g4 ga y1
   have c2 := g5 gb x1
   have eE := hA.edge S.1
   have eF := hC.edge S.2
   rw [eE, eF]
   have id : cr (vsub (vadd (vadd (A S.1) (E S.1)) (vadd (C S.2) (F S.2))) (vadd (A S.1) (C S.2))) (vsub (vadd (vadd (A S.1) (E S.1)) (C S.2)) (vadd (A S.1) (C S.2))) = -cr (E S.1) (F S.2) := by unfold cr vsub vadd; grind
   rw [id]
   omega

end
end Go.Proofs.YtilncglnojjlaaaGreat
