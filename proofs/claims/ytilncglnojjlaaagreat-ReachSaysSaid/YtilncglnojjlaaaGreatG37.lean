/- Parts of a proof: contracts and laws. -/
import Derived.Test.YtilncglnojjlaaaGreatG36
import Derived.Test.YtilncglnojjlaaaGreatG35
import Derived.Laws.StructEq
import Derived.Maps.AppendAt
import Derived.Test.YtilncglnojjlaaaGreatG13
import Derived.Test.YtilncglnojjlaaaGreatG34
import Derived.Test.YtilncglnojjlaaaGreatG29
import Derived.Test.YtilncglnojjlaaaGreatG21
import Derived.Test.YtilncglnojjlaaaGreatG25
import Derived.Test.YtilncglnojjlaaaGreatG26
namespace Go.Proofs.YtilncglnojjlaaaGreat
section
set_option linter.unusedVariables false
set_option linter.unusedSimpArgs false
open Go.RowKit
set_option maxRecDepth 100000 in

structure Vc (w : World) (g : Nat) (x y : Int) : Prop where
 a : w.cell? ⟨g, 0, none⟩ = some (.int .i64 x)
 b : w.cell? ⟨g, 1, none⟩ = some (.int .i64 y)
 f : ∀ j, w.frozen? ⟨g, j, none⟩ = false
theorem keepVc {w w' : World} {g : Nat} {x y : Int} (hb : Below w.heap.size w w') (h : Vc w g x y) : Vc w' g x y :=
 ⟨keepCell hb h.a, keepCell hb h.b, fun j => ((bcell hb).2 _ _ (lt_of_cell h.a)).trans (h.f j)⟩
theorem Vc.lt {w : World} {g : Nat} {x y : Int} (h : Vc w g x y) : g < w.heap.size := lt_of_cell h.a
theorem Vc.alloc {w : World} {g : Nat} {x y : Int} (h : Vc w g x y) (o : Obj) : Vc (w.alloc o) g x y := keepVc ((Below.refl _ _).alloc (Nat.le_refl _) _) h
theorem Vc.drew {w : World} {g : Nat} {x y : Int} (h : Vc w g x y) : Vc w.drew g x y := ⟨h.a, h.b, h.f⟩
theorem Vc.here (w : World) (x y : Int) (t : TypeId) : Vc (w.alloc (.cells #[.int .i64 x, .int .i64 y] t)) w.heap.size x y := ⟨by go_simp, by go_simp, fun j => by go_simp⟩
theorem Vc.put {w : World} {g : Nat} {x y : Int} (h : Vc w g x y) (u v : Int) : Vc ((w.setCell ⟨g, 0, none⟩ (.int .i64 u)).setCell ⟨g, 1, none⟩ (.int .i64 v)) g u v := by
 obtain ⟨a, b, f⟩ := h
 exact ⟨by go_simp, by go_simp, fun j => by go_simp⟩
theorem Vc.off {w : World} {g b : Nat} {x y : Int} (h : Vc w b x y) (hne : g ≠ b) (u v : Value) : Vc ((w.setCell ⟨g, 0, none⟩ u).setCell ⟨g, 1, none⟩ v) b x y := by
 have hl := h.lt
 obtain ⟨a, b', f⟩ := h
 have hne2 : ¬ b = g := fun e => hne e.symm
 exact ⟨far2 hne a, far2 hne b', fun j => by go_simp⟩
theorem Own.off {w : World} {B g : Nat} {s : Value} {l : List V} (h : Own w B s l) (hne : ∀ k, s.ownBlock = some k → k ≠ g) (o : Nat) (u : Value) : Own (w.setCell ⟨g, o, none⟩ u) B s l := by
 refine World.ownsRow.kept h (grown_setCell _ g o _) ?_
 cases hv : s.ownBlock with
 | none => exact .inl rfl
 | some k => exact .inr fun e => by cases e; exact hne _ hv rfl

structure WW (w0 : World) (gF : Nat) (s : Value) (o : List V) (F : V) (w : World) : Prop where
 vF : Vc w gF F.1 F.2
 own : Own w (gF + 1) s o
 bel : Below w0.heap.size w0 w
 le : w0.heap.size ≤ gF
theorem WW.keep {w0 : World} {gF : Nat} {s : Value} {o : List V} {F : V} {w w' : World} (hb : Below w.heap.size w w') (h : WW w0 gF s o F w) : WW w0 gF s o F w' :=
 ⟨keepVc hb h.vF, h.own.below hb, keepBelow hb h.bel, h.le⟩
theorem WW.app {w0 : World} {gF : Nat} {s s' : Value} {o o' : List V} {F : V} {w w' : World} {ob : Obj} (h : WW w0 gF s o F w) (ho : Own w' (gF + 1) s' o') (hb : Below (gF + 1) (w.alloc ob) w') : WW w0 gF s' o' F w' :=
 have h2 := h.keep ((Below.refl _ _).alloc (Nat.le_refl _) ob)
 ⟨⟨((bcell hb).1 _ _ (Nat.lt_succ_self gF)).trans h2.vF.a, ((bcell hb).1 _ _ (Nat.lt_succ_self gF)).trans h2.vF.b, fun j => ((bcell hb).2 _ _ (Nat.lt_succ_self gF)).trans (h2.vF.f j)⟩, ho, h2.bel.trans (hb.mono (Nat.le_succ_of_le h.le)), h.le⟩

structure WN (w0 : World) (gF : Nat) (s : Value) (o : List V) (F : V) (gO gN : Nat) (q nx : V) (w : World) : Prop where
 ww : WW w0 gF s o F w
 vO : Vc w gO q.1 q.2
 vN : Vc w gN nx.1 nx.2
 ob : ∀ k, s.ownBlock = some k → k < gN
 l1 : gF < gO
 l2 : gO < gN
theorem WN.keep {w0 : World} {gF : Nat} {s : Value} {o : List V} {F : V} {gO gN : Nat} {q nx : V} {w w' : World} (hb : Below w.heap.size w w') (h : WN w0 gF s o F gO gN q nx w) : WN w0 gF s o F gO gN q nx w' :=
 ⟨h.ww.keep hb, keepVc hb h.vO, keepVc hb h.vN, h.ob, h.l1, h.l2⟩
theorem WN.put {w0 : World} {gF : Nat} {s : Value} {o : List V} {F : V} {gO gN : Nat} {q nx : V} {w : World} (h : WN w0 gF s o F gO gN q nx w) (p : V) : WN w0 gF s o F gO gN q p ((w.setCell ⟨gN, 0, none⟩ (.int .i64 p.1)).setCell ⟨gN, 1, none⟩ (.int .i64 p.2)) := by
 have := h.l1
 have := h.l2
 have := h.ww.le
 refine ⟨⟨h.ww.vF.off (by omega) _ _, (h.ww.own.off (fun k hk => by have := h.ob k hk; omega) _ _).off (fun k hk => by have := h.ob k hk; omega) _ _, (h.ww.bel.setCell (p := ⟨gN, 0, none⟩) (by show _ ≤ gN; omega) _).setCell (p := ⟨gN, 1, none⟩) (by show _ ≤ gN; omega) _, h.ww.le⟩, h.vO.off (by omega) _ _, h.vN.put _ _, h.ob, h.l1, h.l2⟩
end
end Go.Proofs.YtilncglnojjlaaaGreat
namespace Go.Proofs.YtilncglnojjlaaaGreat
section
set_option linter.unusedVariables false
set_option linter.unusedSimpArgs false
open Go.RowKit
def farP (p q : V) : Int := farZ p.1 p.2 q.1 q.2

def rfar (p q r : V) : Int := farZ (q.1 - p.1) (q.2 - p.2) (r.1 - p.1) (r.2 - p.2)
def rap1 (p : V) (m : List V) : Nat → Int → Int
 | 0, b => b
 | k + 1, b => min (rap1 p m k b) (rfar p (cyP m k) (cyP m (k + 1)))
def rap2 (l m : List V) : Nat → Int → Int
 | 0, b => b
 | j + 1, b => rap1 (ptL l j) m m.length (rap2 l m j b)
def rapZ (a b : List V) : Int := rap2 b a b.length (rap2 a b a.length 1099511627776)
theorem rap1_le (p : V) (m : List V) : ∀ n b, rap1 p m n b ≤ b ∧ ∀ k, k < n → rap1 p m n b ≤ rfar p (cyP m k) (cyP m (k + 1))
 | 0, b => ⟨Int.le_refl _, fun k h => by omega⟩
 | n + 1, b => by
  obtain ⟨h1, h2⟩ := rap1_le p m n b
  rw [rap1]
  refine ⟨by omega, fun k hk => ?_⟩
  rcases Nat.lt_or_ge k n with g | g
  ·have := h2 k g; omega
  ·have : k = n := by omega
   subst this
   omega
theorem rap1_at (p : V) (m : List V) : ∀ n b, rap1 p m n b = b ∨ ∃ k, k < n ∧ rap1 p m n b = rfar p (cyP m k) (cyP m (k + 1))
 | 0, b => .inl rfl
 | n + 1, b => by
  rw [rap1]
  rcases Int.le_total (rap1 p m n b) (rfar p (cyP m n) (cyP m (n + 1))) with g | g
  ·rw [Int.min_eq_left g]
   rcases rap1_at p m n b with h | ⟨k, h1, h2⟩
   ·exact .inl h
   ·exact .inr ⟨k, by omega, h2⟩
  ·rw [Int.min_eq_right g]
   exact .inr ⟨n, by omega, rfl⟩
theorem rap2_le (l m : List V) : ∀ n b, rap2 l m n b ≤ b ∧ ∀ j, j < n → ∀ k, k < m.length → rap2 l m n b ≤ rfar (ptL l j) (cyP m k) (cyP m (k + 1))
 | 0, b => ⟨Int.le_refl _, fun k h => by omega⟩
 | n + 1, b => by
  obtain ⟨h1, h2⟩ := rap2_le l m n b
  obtain ⟨g1, g2⟩ := rap1_le (ptL l n) m m.length (rap2 l m n b)
  rw [rap2]
  refine ⟨by omega, fun j hj k hk => ?_⟩
  rcases Nat.lt_or_ge j n with g | g
  ·have := h2 j g k hk; omega
  ·have : j = n := by omega
   subst this
   exact g2 k hk
theorem rap2_at (l m : List V) : ∀ n b, rap2 l m n b = b ∨ ∃ j k, j < n ∧ k < m.length ∧ rap2 l m n b = rfar (ptL l j) (cyP m k) (cyP m (k + 1))
 | 0, b => .inl rfl
 | n + 1, b => by
  rw [rap2]
  rcases rap1_at (ptL l n) m m.length (rap2 l m n b) with h | ⟨k, h1, h2⟩
  ·rw [h]
   rcases rap2_at l m n b with g | ⟨j, k, h1, h2, h3⟩
   ·exact .inl g
   ·exact .inr ⟨j, k, by omega, h2, h3⟩
  ·exact .inr ⟨n, k, by omega, h1, h2⟩
theorem farZ_neg (a b c d : Int) : farZ (-a) (-b) (-c) (-d) = farZ a b c d := by
 have t : farT (-a) (-b) (-c) (-d) = farT a b c d := by unfold farT; grind
 have s1 : sqZ (-a) (-b) = sqZ a b := by unfold sqZ; grind
 have s2 : sqZ (-c) (-d) = sqZ c d := by unfold sqZ; grind
 have s3 : sqZ (-c - -a) (-d - -b) = sqZ (c - a) (d - b) := by unfold sqZ; grind
 have c1 : crsZ (-a) (-b) (-c) (-d) = crsZ a b c d := by unfold crsZ; grind
 unfold farZ
 rw [t, s1, s2, s3, c1]
theorem rfar_ab {a b : List V} {j k : Nat} (hj : j < a.length) (hk : k < b.length) : rfar (ptL a j) (cyP b k) (cyP b (k + 1)) = farP (dpt2 a b j k) (dpt2 a b j ((k + 1) % b.length)) := by
 unfold rfar farP
 rw [← farZ_neg]
 unfold ptL cyP dpt2
 rw [Nat.mod_eq_of_lt hk]
 congr 1 <;> (dsimp only; omega)
theorem rfar_ba {a b : List V} {j k : Nat} (hj : j < a.length) (hk : k < b.length) : rfar (ptL b k) (cyP a j) (cyP a (j + 1)) = farP (dpt2 a b j k) (dpt2 a b ((j + 1) % a.length) k) := by
 unfold rfar farP
 unfold ptL cyP dpt2
 rw [Nat.mod_eq_of_lt hj]
def in131 (p : V) : Prop := (-131072000 ≤ p.1 ∧ p.1 ≤ 131072000) ∧ (-131072000 ≤ p.2 ∧ p.2 ≤ 131072000)

theorem far_split {P M Q : V} (hP : in131 P) (hM : in131 M) (hQ : in131 Q) (h0 : cr (vsub Q P) (vsub M P) = 0) (hu : 0 < sqZ (Q.1 - P.1) (Q.2 - P.2))
  (hs0 : 0 ≤ (Q.1 - P.1) * (M.1 - P.1) + (Q.2 - P.2) * (M.2 - P.2)) (hs1 : (Q.1 - P.1) * (M.1 - P.1) + (Q.2 - P.2) * (M.2 - P.2) ≤ sqZ (Q.1 - P.1) (Q.2 - P.2)) : farP P M ≤ farP P Q ∨ farP M Q ≤ farP P Q := by
 obtain ⟨a, b, a0, ab, b0, f⟩ := far_at hP.1 hP.2 hQ.1 hQ.2
 have lePM := fun {x y : Int} (h1 : 0 ≤ x) (h2 : x ≤ y) (h3 : 0 < y) => far_le hP.1 hP.2 hM.1 hM.2 h1 h2 h3
 have leMQ := fun {x y : Int} (h1 : 0 ≤ x) (h2 : x ≤ y) (h3 : 0 < y) => far_le hM.1 hM.2 hQ.1 hQ.2 h1 h2 h3
 have nn := (farZ_bd hP.1 hP.2 hQ.1 hQ.2).1
 unfold farP
 unfold cr vsub at h0
 dsimp only at h0
 obtain ⟨p1, p2⟩ := P
 obtain ⟨m1, m2⟩ := M
 obtain ⟨q1, q2⟩ := Q
 dsimp only at *
 generalize farZ p1 p2 m1 m2 = x at *
 generalize farZ m1 m2 q1 q2 = y at *
 generalize farZ p1 p2 q1 q2 = z at *
 clear hP hM hQ
 obtain ⟨s, hs⟩ : ∃ s, s = (q1 - p1) * (m1 - p1) + (q2 - p2) * (m2 - p2) := ⟨_, rfl⟩
 obtain ⟨u, hue⟩ : ∃ s, s = sqZ (q1 - p1) (q2 - p2) := ⟨_, rfl⟩
 rw [← hs, ← hue] at hs1
 rw [← hs] at hs0
 rw [← hue] at hu
 have c1 : u * (m1 - p1) = s * (q1 - p1) := by rw [hue, hs]; unfold sqZ; grind
 have c2 : u * (m2 - p2) = s * (q2 - p2) := by rw [hue, hs]; unfold sqZ; grind
 obtain ⟨X, hX⟩ : ∃ X, X = b * p1 + a * (q1 - p1) := ⟨_, rfl⟩
 obtain ⟨Y, hY⟩ : ∃ X, X = b * p2 + a * (q2 - p2) := ⟨_, rfl⟩
 rw [← hX, ← hY] at f
 have scale : ∀ k : Int, sqZ (k * X) (k * Y) = k * k * sqZ X Y := fun k => by unfold sqZ; grind
 rcases Classical.em (a = 0) with g | g
 ·left
  have l := lePM (x := 0) (y := b) (by omega) (by omega) b0
  rw [show b * p1 + 0 * (m1 - p1) = X by rw [hX, g]; omega, show b * p2 + 0 * (m2 - p2) = Y by rw [hY, g]; omega] at l
  have := lt_of_sq (r := x) b0 (q := z + 1) (by omega) (by omega)
  omega
 ·have au : 0 < a * u := Int.mul_pos (by omega) hu
  rcases Int.lt_or_le (s * b) (a * u) with k | k
  ·right
   have us : 0 < u - s := by
    rcases Int.lt_or_le s u with r | r
    ·omega
    ·have : u * a ≤ s * b := Int.mul_le_mul r ab (by omega) (by omega)
     rw [Int.mul_comm u a] at this
     omega
   have B0 : 0 < (u - s) * b := Int.mul_pos us b0
   have A1 : a * u - s * b ≤ (u - s) * b := by
    have := Int.mul_le_mul_of_nonneg_left ab (Int.le_of_lt hu)
    have e : (u - s) * b = u * b - s * b := by grind
    rw [e, Int.mul_comm a u]
    omega
   have l := leMQ (x := a * u - s * b) (y := (u - s) * b) (by omega) A1 B0
   have e1 : (u - s) * b * m1 + (a * u - s * b) * (q1 - m1) = (u - s) * X := by
    rw [hX]
    have : (u - s) * b * m1 + (a * u - s * b) * (q1 - m1) = (u - s) * b * p1 + a * (u * (q1 - p1)) - a * (u * (m1 - p1)) + b * (u * (m1 - p1)) - b * (s * (q1 - p1)) := by grind
    rw [this, c1]
    grind
   have e2 : (u - s) * b * m2 + (a * u - s * b) * (q2 - m2) = (u - s) * Y := by
    rw [hY]
    have : (u - s) * b * m2 + (a * u - s * b) * (q2 - m2) = (u - s) * b * p2 + a * (u * (q2 - p2)) - a * (u * (m2 - p2)) + b * (u * (m2 - p2)) - b * (s * (q2 - p2)) := by grind
    rw [this, c2]
    grind
   rw [e1, e2, scale] at l
   have m := Int.mul_lt_mul_of_pos_left f (Int.mul_pos us us)
   have e3 : (u - s) * (u - s) * ((z + 1) * (z + 1) * (b * b)) = (z + 1) * (z + 1) * ((u - s) * b * ((u - s) * b)) := by grind
   have := lt_of_sq (r := y) B0 (q := z + 1) (by omega) (by omega)
   omega
  ·left
   have sp : 0 < s := by
    rcases Int.lt_or_le 0 s with r | r
    ·exact r
    ·have : s = 0 := by omega
     subst this
     simp at k
     omega
   have B0 : 0 < s * b := Int.mul_pos sp b0
   have l := lePM (x := a * u) (y := s * b) (by omega) k B0
   have e1 : s * b * p1 + a * u * (m1 - p1) = s * X := by
    rw [hX]
    have : a * u * (m1 - p1) = a * (u * (m1 - p1)) := by grind
    rw [this, c1]
    grind
   have e2 : s * b * p2 + a * u * (m2 - p2) = s * Y := by
    rw [hY]
    have : a * u * (m2 - p2) = a * (u * (m2 - p2)) := by grind
    rw [this, c2]
    grind
   rw [e1, e2, scale] at l
   have m := Int.mul_lt_mul_of_pos_left f (Int.mul_pos sp sp)
   have e3 : s * s * ((z + 1) * (z + 1) * (b * b)) = (z + 1) * (z + 1) * (s * b * (s * b)) := by grind
   have := lt_of_sq (r := x) B0 (q := z + 1) (by omega) (by omega)
   omega
theorem dpt2_in {a b : List V} (ha : checkE a = 0) (hb : checkE b = 0) {j k : Nat} (hj : j < a.length) (hk : k < b.length) : in131 (dpt2 a b j k) := by
 obtain ⟨_, _, wa, _⟩ := checkE_zero ha
 obtain ⟨_, _, wb, _⟩ := checkE_zero hb
 have h1 := withinB_iff.1 (allWithin_at wa hj)
 have h2 := withinB_iff.1 (allWithin_at wb hk)
 unfold in131 dpt2
 dsimp only
 omega

theorem pair_ge {a b D : List V} (hD : Dif a b D) (hw : allWithin 131072000 D = true) (h0 : ninB D = false) (ha : checkE a = 0) (hb : checkE b = 0) {j k j' k' : Nat} (h1 : j < a.length) (h2 : k < b.length) (h3 : j' < a.length) (h4 : k' < b.length) :
  farTo D D.length ≤ farP (dpt2 a b j k) (dpt2 a b j' k') := by
 have hN := hD.pol.pos
 have out : ∃ t0, cr (cyP D t0) (cyP D (t0 + 1)) < 0 := by
  rcases Classical.em (∃ t0, cr (cyP D t0) (cyP D (t0 + 1)) < 0) with g | g
  ·exact g
  ·exfalso
   have : ninB D = true := (ninB_iff (by omega)).2 (fun t => by
    rcases Int.lt_or_le (cr (cyP D t) (cyP D (t + 1))) 0 with q | q
    ·exact absurd ⟨_, q⟩ g
    ·exact q)
   rw [h0] at this
   cases this
 obtain ⟨t0, ht0⟩ := out
 have i1 := dpt2_in ha hb h1 h2
 have i2 := dpt2_in ha hb h3 h4
 have l1 := fun t => hD.left t j k h1 h2
 have l2 := fun t => hD.left t j' k' h3 h4
 generalize dpt2 a b j k = P at *
 generalize dpt2 a b j' k' = Q at *
 obtain ⟨x, y, x0, xy, y0, f⟩ := far_at i1.1 i1.2 i2.1 i2.2
 obtain ⟨t, t1, t2⟩ := pol_far hD.pol hw (v := (y * P.1 + x * (Q.1 - P.1), y * P.2 + x * (Q.2 - P.2))) y0 (fun t => by
  have id : cr (vsub (cyP D (t + 1)) (cyP D t)) (vsub (y * P.1 + x * (Q.1 - P.1), y * P.2 + x * (Q.2 - P.2)) (y * (cyP D t).1, y * (cyP D t).2)) = (y - x) * cr (vsub (cyP D (t + 1)) (cyP D t)) (vsub P (cyP D t)) + x * cr (vsub (cyP D (t + 1)) (cyP D t)) (vsub Q (cyP D t)) := by unfold cr vsub; grind
  rw [id]
  have m1 := Int.mul_nonneg (show 0 ≤ y - x by omega) (l1 t)
  have m2 := Int.mul_nonneg x0 (l2 t)
  omega) ht0
 have nn := (farZ_bd i1.1 i1.2 i2.1 i2.2).1
 have l := farTo_le D D.length t t1 (Nat.le_refl _)
 unfold farP
 have := lt_of_sq (r := farE D t) y0 (q := farZ P.1 P.2 Q.1 Q.2 + 1) (by omega) (by dsimp only at t2; omega)
 omega
theorem apart_eq {a b : List V} (ha : checkE a = 0) (hb : checkE b = 0) (h0 : ninB (minusL a b) = false) : rapZ a b = apartZ a b := by
 obtain ⟨-, -, steps⟩ := minus_steps ha hb
 have hD := minus_dif ha hb
 obtain ⟨hw, _⟩ := minus_bd a b
 obtain ⟨_, a3, _, _⟩ := checkE_zero ha
 obtain ⟨_, b3, _, _⟩ := checkE_zero hb
 unfold apartZ
 rw [if_pos (bothE_zero.2 ⟨ha, hb⟩), if_neg (by simp [h0])]
 generalize minusL a b = D at *
 have hN := hD.pol.pos
 obtain ⟨u1, u2⟩ := rap2_le a b a.length 1099511627776
 obtain ⟨v1, v2⟩ := rap2_le b a b.length (rap2 a b a.length 1099511627776)
 -- each pair of a corner and an edge
 have pF : ∀ j k, j < a.length → k < b.length → rapZ a b ≤ farP (dpt2 a b j k) (dpt2 a b j ((k + 1) % b.length)) := fun j k hj hk => by
  have := u2 j hj k hk
  rw [rfar_ab hj hk] at this
  unfold rapZ
  omega
 have pE : ∀ j k, j < a.length → k < b.length → rapZ a b ≤ farP (dpt2 a b j k) (dpt2 a b ((j + 1) % a.length) k) := fun j k hj hk => by
  have := v2 k hk j hj
  rw [rfar_ba hj hk] at this
  exact this
 have ma : ∀ x, x % a.length < a.length := fun x => Nat.mod_lt _ (by omega)
 have mb : ∀ x, x % b.length < b.length := fun x => Nat.mod_lt _ (by omega)
 have le : rapZ a b ≤ farTo D D.length := by
  obtain ⟨t, t1, t2⟩ := farTo_min hw (by omega)
  rw [t2]
  obtain ⟨j, k, hj, hk, e1, e2⟩ := steps t
  change rapZ a b ≤ farP (cyP D t) (cyP D (t + 1))
  rcases e2 with e2 | e2 | ⟨e2, e3⟩
  ·rw [e1, e2]; exact pE j k hj hk
  ·rw [e1, e2]; exact pF j k hj hk
  ·have hM := hD.left t ((j + 1) % a.length) k (ma _) hk
   obtain ⟨-, q1, q2, q3⟩ := edge_max hD.pol (p := dpt2 a b ((j + 1) % a.length) k) (fun r => hD.left r _ _ (ma _) hk) t e3
   have x1 := pE j k hj hk
   have x2 := pF ((j + 1) % a.length) k (ma _) hk
   rw [← e1] at x1
   rw [← e2] at x2
   rcases far_split (by rw [e1]; exact dpt2_in ha hb hj hk) (dpt2_in ha hb (ma (j + 1)) hk) (by rw [e2]; exact dpt2_in ha hb (ma _) (mb _)) e3 q1 q2 q3 with y | y
   ·omega
   ·omega
 have lt : farTo D D.length < 536870912 := by
  obtain ⟨t, t1, t2⟩ := farTo_min hw (by omega)
  rw [t2]
  exact (farE_bd hw (by omega) t).2
 have ge : farTo D D.length ≤ rapZ a b := by
  have key : ∀ {j k j' k' : Nat}, j < a.length → k < b.length → j' < a.length → k' < b.length → farTo D D.length ≤ farP (dpt2 a b j k) (dpt2 a b j' k') := fun h1 h2 h3 h4 => pair_ge hD hw h0 ha hb h1 h2 h3 h4
  rcases rap2_at b a b.length (rap2 a b a.length 1099511627776) with g | ⟨k, j, hk, hj, g⟩
  ·rcases rap2_at a b a.length 1099511627776 with r | ⟨j, k, hj, hk, r⟩
   ·unfold rapZ; rw [g, r]; omega
   ·unfold rapZ; rw [g, r, rfar_ab hj hk]; exact key hj hk hj (mb _)
  ·unfold rapZ; rw [g, rfar_ba hj hk]; exact key hj hk (ma _) hk
 omega
end
end Go.Proofs.YtilncglnojjlaaaGreat
namespace Go.Proofs.YtilncglnojjlaaaGreat
section
set_option linter.unusedVariables false
set_option linter.unusedSimpArgs false
open Go.RowKit


structure MN (w0 : World) (s : Value) (o : List V) (w : World) : Prop where
 own : Own w w0.heap.size s o
 bel : Below w0.heap.size w0 w
theorem MN.keep {w0 : World} {s : Value} {o : List V} {w w' : World} (hb : Below w.heap.size w w') (h : MN w0 s o w) : MN w0 s o w' := ⟨h.own.below hb, keepBelow hb h.bel⟩

structure MI (w0 : World) (g : Nat) (x y : Int) (s : Value) (o : List V) (w : World) : Prop where
 mn : MN w0 s o w
 a : w.cell? ⟨g, 0, none⟩ = some (.int .i64 x)
 b : w.cell? ⟨g, 1, none⟩ = some (.int .i64 y)
 ob : ∀ k, s.ownBlock = some k → k ≠ g
theorem MI.keep {w0 : World} {g : Nat} {x y : Int} {s : Value} {o : List V} {w w' : World} (hb : Below w.heap.size w w') (h : MI w0 g x y s o w) : MI w0 g x y s o w' := ⟨h.mn.keep hb, keepCell hb h.a, keepCell hb h.b, h.ob⟩
theorem MI.app {w0 : World} {g : Nat} {x y : Int} {s s' : Value} {o o' : List V} {w w' : World} (h : MI w0 g x y s o w) (ho : Own w' w0.heap.size s' o') (hg : w.grownBy w' s.ownBlock) (hat : s'.ownBlock = s.ownBlock ∨ s'.ownBlock = some w.heap.size) : MI w0 g x y s' o' w' := by
 have hne : some g ≠ s.ownBlock := fun e => h.ob g e.symm rfl
 refine ⟨⟨ho, h.mn.bel.grown hg h.mn.bel.size (fun k hk => (World.ownsRow.lt h.mn.own k hk).1)⟩, hg.cell h.a hne, hg.cell h.b hne, fun k hk => ?_⟩
 rcases hat with q | q
 ·exact h.ob k (by rw [← q]; exact hk)
 ·have := lt_of_cell h.a
  rw [q] at hk
  cases hk
  omega
end
end Go.Proofs.YtilncglnojjlaaaGreat
namespace Go.Proofs.YtilncglnojjlaaaGreat
section
set_option linter.unusedVariables false
set_option linter.unusedSimpArgs false
open Go.RowKit

theorem wpList_append_int {w : World} {ops : Array Oper} {rest : List Oper} {o : Oper} {a : Act} {Q : Exit → Act → World → Prop} (hgd : o.guard = none) (s x : Operand)
  (ho : o.op = .call { callee := .builtin .append, args := #[s, x], argTypes := #[78, 78] })
  (B : Nat) (v : Value) (r : List Int) (hs : a.eval s = v) (hown : OwnI w B v r) (b n c : Nat) (z : Int) (hx : a.eval x = .slice (some ⟨b, 0, none⟩) 1 1) (hc : w.cell? ⟨b, 0, none⟩ = some (.int .i64 z))
  (hl : r.length + 1 ≤ 8796093022208) (hB : B ≤ w.heap.size)
  (h : ∀ v' w', OwnI w' B v' (r ++ [z]) → w.grownBy w' v.ownBlock → (v'.ownBlock = v.ownBlock ∨ v'.ownBlock = some w.heap.size) → wpList Tryz.prog ops Q rest (a.put o.dst v') w') : wpList Tryz.prog ops Q (o :: rest) a w := by
 obtain ⟨i0, hi, hz0, hz1, hz2⟩ := info_parts info_int
 obtain ⟨v', w', hr, h2, h3, h4, h5⟩ := run_append_own_at (P := Tryz.prog) w B 78 o.type 3 i0 (.int .i64 0) 1 8 Tryz.underlying78 hi hz0 hz1 hz2 rfl (by decide) v r.length (r.map fun x => .int .i64 x) hown ⟨b, 0, none⟩ 1 1 [.int .i64 z] rfl (fun j u hj => by
  cases j with
  | zero => simp at hj; subst hj; simpa [Addr.add] using hc
  | succ j => simp at hj) (by simp [Value.oneCell']) (by unfold maxLen; omega) (by omega) hB
 refine wpList_plain hgd fun K hK => ?_
 unfold Oper.wp execOp
 simp only [ho, resolve, invoke, builtin, Sem.run_bind, Sem.run_pure, Result.andThen_ok, List.map_toArray, List.map_cons, List.map_nil, hs, hx, hr]
 refine hK _ _ (h v' w' ?_ h3 h5)
 unfold OwnI
 simpa using h2


end
end Go.Proofs.YtilncglnojjlaaaGreat
