/- Parts of a proof: contracts and laws. -/
import Derived.Test.YtienmhgbildhhaaB26
namespace Go.Proofs.Ytienmhgbildhhaa
section
set_option linter.unusedVariables false
set_option linter.unusedSimpArgs false
open Go.RowKit
abbrev Fr := Int × Int
def lnStep (n d : Int) : Option (Fr × Fr) → Option (Fr × Fr)
  | none => none
  | some (e, v) => if d = 0 ∧ n < 0 then none else if 0 < d ∧ n * v.2 < v.1 * d then some (e, (n, d)) else if d < 0 ∧ e.1 * -d < -n * e.2 then some ((-n, -d), v) else some (e, v)
def lnF (n d : Nat → Int) : Nat → Option (Fr × Fr)
  | 0 => some ((0, 1), (1, 1))
  | t + 1 => lnStep (n t) (d t) (lnF n d t)
def lnEnd : Option (Fr × Fr) → Option Int
  | none => none
  | some (e, v) => if v.1 * e.2 < e.1 * v.2 then none else some (e.1 * 65536 / e.2)
def LnOk (n d : Nat → Int) (k : Nat) : Option (Fr × Fr) → Prop
  | none => ∃ t, t < k ∧ d t = 0 ∧ n t < 0
  | some (e, v) => 0 < e.2 ∧ 0 < v.2 ∧ 0 ≤ e.1 ∧ v.1 ≤ v.2 ∧ (e = (0, 1) ∨ ∃ t, t < k ∧ d t < 0 ∧ n t < 0 ∧ e = (-n t, -d t)) ∧ ∀ N L, 0 < L → 0 ≤ N → N ≤ L → ((∀ t, t < k → 0 ≤ L * n t - N * d t) ↔ (e.1 * L ≤ N * e.2 ∧ N * v.2 ≤ v.1 * L))
theorem all_succ {p : Nat → Prop} {k : Nat} : (∀ t, t < k + 1 → p t) ↔ (∀ t, t < k → p t) ∧ p k :=
  ⟨fun h => ⟨fun t ht => h t (by omega), h k (by omega)⟩, fun h t ht => by
    rcases Nat.lt_or_ge t k with g | g
    · exact h.1 t g
    · rw [show t = k by omega]; exact h.2⟩
theorem ln_ok (n d : Nat → Int) : ∀ k, LnOk n d k (lnF n d k)
  | 0 => ⟨by decide, by decide, by decide, by decide, .inl rfl, fun N L hL h0 h1 => ⟨fun _ => ⟨by omega, by omega⟩, fun _ t ht => by omega⟩⟩
  | k + 1 => by
    have ih := ln_ok n d k
    rw [lnF]
    generalize lnF n d k = s at ih
    match s, ih with
    | none, ih => obtain ⟨t, ht, h⟩ := ih; exact ⟨t, by omega, h⟩
    | some (e, v), ih =>
      obtain ⟨e2, v2, e1, v1, ho, hi⟩ := ih
      rw [lnStep]
      have hc : ∀ N L : Int, 0 ≤ L * n k - N * d k ↔ N * d k ≤ n k * L := fun N L => by rw [Int.mul_comm L]; omega
      generalize hb : d k = b at *
      generalize ha : n k = a at *
      by_cases c1 : b = 0 ∧ a < 0
      · rw [if_pos c1]
        exact ⟨k, by omega, by rw [hb]; exact c1.1, by rw [ha]; exact c1.2⟩
      rw [if_neg c1]
      by_cases c2 : 0 < b ∧ a * v.2 < v.1 * b
      · rw [if_pos c2]
        have hab : a ≤ b := by
          have q := Int.mul_le_mul_of_nonneg_right v1 (show 0 ≤ b by omega)
          rw [Int.mul_comm v.2 b] at q
          exact Int.le_of_lt (Int.lt_of_mul_lt_mul_right (Int.lt_of_lt_of_le c2.2 q) (Int.le_of_lt v2))
        refine ⟨e2, c2.1, e1, hab, ?_, fun N L hL h0 h1 => ?_⟩
        · rcases ho with h | ⟨t, ht, h⟩
          · exact .inl h
          · exact .inr ⟨t, by omega, h⟩
        · rw [all_succ, hi N L hL h0 h1, ha, hb, hc]
          constructor
          · rintro ⟨⟨p, -⟩, q⟩; exact ⟨p, q⟩
          · rintro ⟨p, q⟩
            exact ⟨⟨p, ratio_trans hL c2.1 v2 q (Int.le_of_lt c2.2)⟩, q⟩
      rw [if_neg c2]
      by_cases c3 : b < 0 ∧ e.1 * -b < -a * e.2
      · rw [if_pos c3]
        have ha0 : a < 0 := by
          have q := Int.mul_nonneg e1 (show 0 ≤ -b by omega)
          rcases Int.lt_or_le a 0 with g | g
          · exact g
          · have := Int.mul_nonneg g (Int.le_of_lt e2)
            rw [Int.neg_mul] at c3
            omega
        refine ⟨by show 0 < -b; omega, v2, by show 0 ≤ -a; omega, v1, .inr ⟨k, by omega, by rw [hb]; exact c3.1, by rw [ha]; exact ha0, by rw [ha, hb]⟩, fun N L hL h0 h1 => ?_⟩
        rw [all_succ, hi N L hL h0 h1, ha, hb, hc]
        show _ ↔ -a * L ≤ N * -b ∧ _
        rw [Int.neg_mul, Int.mul_neg]
        constructor
        · rintro ⟨⟨-, q⟩, p⟩; exact ⟨by omega, q⟩
        · rintro ⟨p, q⟩
          have p2 : -a * L ≤ N * -b := by rw [Int.neg_mul, Int.mul_neg]; exact p
          exact ⟨⟨ratio_trans e2 (show 0 < -b by omega) hL (Int.le_of_lt c3.2) p2, q⟩, by omega⟩
      rw [if_neg c3]
      refine ⟨e2, v2, e1, v1, ?_, fun N L hL h0 h1 => ?_⟩
      · rcases ho with h | ⟨t, ht, h⟩
        · exact .inl h
        · exact .inr ⟨t, by omega, h⟩
      · rw [all_succ, hi N L hL h0 h1, ha, hb, hc]
        refine ⟨fun h => h.1, fun h => ⟨h, ?_⟩⟩
        rcases Int.lt_trichotomy b 0 with g | g | g
        · have q : -a * e.2 ≤ e.1 * -b := by
            rcases Int.lt_or_le (e.1 * -b) (-a * e.2) with r | r
            · exact absurd ⟨g, r⟩ c3
            · exact r
          have := ratio_trans (show 0 < -b by omega) e2 hL q h.1
          rw [Int.neg_mul, Int.mul_neg] at this
          omega
        · have q : 0 ≤ a := by
            rcases Int.lt_or_le a 0 with r | r
            · exact absurd ⟨g, r⟩ c1
            · exact r
          have := Int.mul_nonneg q (Int.le_of_lt hL)
          rw [g, Int.mul_zero]; exact this
        · have q : v.1 * b ≤ a * v.2 := by
            rcases Int.lt_or_le (a * v.2) (v.1 * b) with r | r
            · exact absurd ⟨g, r⟩ c2
            · exact r
          exact ratio_trans hL v2 g h.2 q
def rnum (D : List V) (f : V) (t : Nat) : Int := cr (vsub (cyP D (t + 1)) (cyP D t)) (vsub f (cyP D t))
def rden (D : List V) (u : V) (t : Nat) : Int := -(cr (vsub (cyP D (t + 1)) (cyP D t)) u)

def lineR (D : List V) (f u : V) : Option Int := lnEnd (lnF (rnum D f) (rden D u) D.length)

def partP (n d : Int) : Int := if d = 0 then (if 0 ≤ n then 65536 else 0) else max 0 (min 65536 (n * 65536 / d))
def partZ (n d : Int) : Int := if d < 0 then partP (-n) (-d) else partP n d
def alZ (f u p : V) : Int := (p.1 - f.1) * u.1 + (p.2 - f.2) * u.2
def wwZ (u : V) : Int := u.1 * u.1 + u.2 * u.2
def rval (D : List V) (f u : V) (t : Nat) : Int := if rden D u t = 0 then partZ (min (alZ f u (cyP D t)) (alZ f u (cyP D (t + 1)))) (wwZ u) else partZ (rnum D f t) (rden D u t)
def crsB (D : List V) (f u : V) (t : Nat) : Bool := segB (cyP D t) (cyP D (t + 1)) f (vadd f u)
def rfTo (D : List V) (f u : V) : Nat → Option Int
  | 0 => none
  | t + 1 => if crsB D f u t = true then (match rfTo D f u t with | none => some (rval D f u t) | some b => if rval D f u t < b then some (rval D f u t) else some b) else rfTo D f u t
def rinB (D : List V) (f : V) : Bool := (List.range D.length).all fun t => decide (0 ≤ rnum D f t)

def refLine (D : List V) (f u : V) : Option Int := if rinB D f = true then some 0 else rfTo D f u D.length
theorem part_in {N L : Int} (hL : 0 < L) (h0 : 0 ≤ N) (h1 : N ≤ L) : partP N L = N * 65536 / L := by
  unfold partP
  rw [if_neg (by omega)]
  have a : 0 ≤ N * 65536 / L := Int.ediv_nonneg (by omega) (by omega)
  have b : N * 65536 / L ≤ 65536 := Int.ediv_le_of_le_mul hL (by omega)
  omega
theorem partZ_pos {N L : Int} (hL : 0 < L) : partZ N L = partP N L := by unfold partZ; rw [if_neg (by omega)]
theorem partZ_neg {N L : Int} (hL : 0 < L) : partZ (-N) (-L) = partP N L := by unfold partZ; rw [if_pos (by omega), Int.neg_neg, Int.neg_neg]
section
variable {a b f u P Q : V}
theorem jac : -(cr (vsub b a) u) * cr (vsub Q P) (vsub f P) - cr (vsub b a) (vsub f a) * -(cr (vsub Q P) u) = cr u (vsub b f) * cr (vsub Q P) (vsub a P) - cr u (vsub a f) * cr (vsub Q P) (vsub b P) := by unfold cr vsub; grind
theorem jsum : -(cr (vsub b a) u) = cr u (vsub b f) - cr u (vsub a f) := by unfold cr vsub; grind
theorem jal (h : cr u (vsub a f) = 0) : wwZ u * cr (vsub Q P) (vsub a P) = wwZ u * cr (vsub Q P) (vsub f P) - alZ f u a * -(cr (vsub Q P) u) := by
  have : wwZ u * cr (vsub Q P) (vsub a P) - (wwZ u * cr (vsub Q P) (vsub f P) - alZ f u a * -(cr (vsub Q P) u)) = cr u (vsub a f) * (-(vsub Q P).2 * u.1 * 0 + ((vsub Q P).1 * u.1 + (vsub Q P).2 * u.2)) := by unfold wwZ alZ cr vsub; grind
  rw [h, Int.zero_mul] at this
  omega
theorem sep_w1 (h : segB a b f (vadd f u) = true) : ¬ (cr (vsub b a) (vsub f a) < 0 ∧ cr (vsub b a) (vsub f a) + cr (vsub b a) u < 0) ∧ ¬ (0 < cr (vsub b a) (vsub f a) ∧ 0 < cr (vsub b a) (vsub f a) + cr (vsub b a) u) := by
  refine ⟨fun g => seg_sep h (e := vsub b a) ?_ ?_ ?_ ?_, fun g => seg_sep h (e := vneg (vsub b a)) ?_ ?_ ?_ ?_⟩ <;> (unfold cr vsub at g; unfold cr vsub; (try unfold vneg); (try unfold vadd); dsimp only at *; first | grind | (simp only [Int.neg_mul, Int.mul_neg, Int.mul_sub, Int.sub_mul, Int.mul_add, Int.add_mul] at *; grind))
theorem sep_w2 (h : segB a b f (vadd f u) = true) : ¬ (cr u (vsub a f) < 0 ∧ cr u (vsub b f) < 0) ∧ ¬ (0 < cr u (vsub a f) ∧ 0 < cr u (vsub b f)) := by
  refine ⟨fun g => seg_sep h (e := vneg u) ?_ ?_ ?_ ?_, fun g => seg_sep h (e := u) ?_ ?_ ?_ ?_⟩ <;> (unfold cr vsub at g; unfold cr vsub; (try unfold vneg); (try unfold vadd); dsimp only at *; grind)
theorem sep_al (h : segB a b f (vadd f u) = true) : ¬ (alZ f u a < 0 ∧ alZ f u b < 0 ∧ alZ f u a < wwZ u ∧ alZ f u b < wwZ u) ∧ ¬ (0 < alZ f u a ∧ 0 < alZ f u b ∧ wwZ u < alZ f u a ∧ wwZ u < alZ f u b) := by
  refine ⟨fun g => seg_sep h (e := (-u.2, u.1)) ?_ ?_ ?_ ?_, fun g => seg_sep h (e := (u.2, -u.1)) ?_ ?_ ?_ ?_⟩ <;> (unfold alZ wwZ at g; unfold cr vsub; (try unfold vadd); dsimp only at *; grind)

theorem sep_pt (h : segB a b f f = true) : ¬ (cr (vsub b a) (vsub f a) < 0) ∧ ¬ (0 < cr (vsub b a) (vsub f a)) ∧ ¬ (alZ a (vsub b a) f < 0 ∧ alZ a (vsub b a) f < wwZ (vsub b a)) ∧ ¬ (0 < alZ a (vsub b a) f ∧ wwZ (vsub b a) < alZ a (vsub b a) f) := by
  refine ⟨fun g => seg_sep h (e := vsub b a) ?_ ?_ ?_ ?_, fun g => seg_sep h (e := vneg (vsub b a)) ?_ ?_ ?_ ?_, fun g => seg_sep h (e := ((vsub b a).2, -(vsub b a).1)) ?_ ?_ ?_ ?_, fun g => seg_sep h (e := (-(vsub b a).2, (vsub b a).1)) ?_ ?_ ?_ ?_⟩ <;> (simp only [alZ, wwZ, cr, vsub] at g; simp only [cr, vsub, vneg]; grind)
theorem jpt (h : cr (vsub b a) (vsub f a) = 0) : wwZ (vsub b a) * cr (vsub Q P) (vsub f P) = (wwZ (vsub b a) - alZ a (vsub b a) f) * cr (vsub Q P) (vsub a P) + alZ a (vsub b a) f * cr (vsub Q P) (vsub b P) := by
  have : wwZ (vsub b a) * cr (vsub Q P) (vsub f P) - ((wwZ (vsub b a) - alZ a (vsub b a) f) * cr (vsub Q P) (vsub a P) + alZ a (vsub b a) f * cr (vsub Q P) (vsub b P)) = cr (vsub b a) (vsub f a) * ((vsub Q P).1 * (vsub b a).1 + (vsub Q P).2 * (vsub b a).2) := by unfold wwZ alZ cr vsub; grind
  rw [h, Int.zero_mul] at this
  omega
end
theorem ww_pos {u : V} (h : u.1 ≠ 0 ∨ u.2 ≠ 0) : 0 < wwZ u := by
  unfold wwZ
  have a : 0 ≤ u.1 * u.1 := by rcases Int.le_total 0 u.1 with g | g; exact Int.mul_nonneg g g; exact Int.mul_nonneg_of_nonpos_of_nonpos g g
  have b : 0 ≤ u.2 * u.2 := by rcases Int.le_total 0 u.2 with g | g; exact Int.mul_nonneg g g; exact Int.mul_nonneg_of_nonpos_of_nonpos g g
  rcases h with h | h
  · have : u.1 * u.1 ≠ 0 := Int.mul_ne_zero h h
    omega
  · have : u.2 * u.2 ≠ 0 := Int.mul_ne_zero h h
    omega
theorem pol_edge {N : Nat} {P : Nat → V} (h : Pol N P) (t : Nat) : 0 < wwZ (vsub (P (t + 1)) (P t)) := by
  refine ww_pos ?_
  have := (cr_ne (show cr (vsub (P (t + 1)) (P t)) (vsub (P (t + 2)) (P (t + 1))) ≠ 0 by have := h.turn t; omega)).1
  unfold vsub at this ⊢
  dsimp only at this ⊢
  omega

theorem cross_in {D : List V} (h : Pol D.length (cyP D)) {f u : V} {t : Nat} (hs : crsB D f u t = true) (hno : ∃ j, rnum D f j < 0) :
    ∃ N L, 0 < L ∧ 0 ≤ N ∧ N ≤ L ∧ (∀ j, 0 ≤ L * rnum D f j - N * rden D u j) ∧ rval D f u t = N * 65536 / L := by
  have hin : ¬ ∀ j, 0 ≤ rnum D f j := fun g => by obtain ⟨j, hj⟩ := hno; have := g j; omega
  have w1 := sep_w1 hs
  have w2 := sep_w2 hs
  have w3 := sep_al hs
  have J := fun j => jac (a := cyP D t) (b := cyP D (t + 1)) (f := f) (u := u) (P := cyP D j) (Q := cyP D (j + 1))
  have K := jsum (a := cyP D t) (b := cyP D (t + 1)) (f := f) (u := u)
  have FA : ∀ j, 0 ≤ cr (vsub (cyP D (j + 1)) (cyP D j)) (vsub (cyP D t) (cyP D j)) := fun j => h.left j t
  have FB : ∀ j, 0 ≤ cr (vsub (cyP D (j + 1)) (cyP D j)) (vsub (cyP D (t + 1)) (cyP D j)) := fun j => h.left j (t + 1)
  have hn : rnum D f t = cr (vsub (cyP D (t + 1)) (cyP D t)) (vsub f (cyP D t)) := rfl
  have hd : rden D u t = -(cr (vsub (cyP D (t + 1)) (cyP D t)) u) := rfl
  have hJ : ∀ j, rden D u t * rnum D f j - rnum D f t * rden D u j = cr u (vsub (cyP D (t + 1)) f) * cr (vsub (cyP D (j + 1)) (cyP D j)) (vsub (cyP D t) (cyP D j)) - cr u (vsub (cyP D t) f) * cr (vsub (cyP D (j + 1)) (cyP D j)) (vsub (cyP D (t + 1)) (cyP D j)) := J
  rw [← hd] at K
  rw [← hn] at w1
  rw [show cr (vsub (cyP D (t + 1)) (cyP D t)) u = -rden D u t by omega] at w1
  by_cases h0 : rden D u t = 0
  · have hn0 : rnum D f t = 0 := by rw [h0] at w1; omega
    by_cases hu : u.1 = 0 ∧ u.2 = 0
    · exfalso
      have ef : vadd f u = f := by unfold vadd; rw [hu.1, hu.2, Int.add_zero, Int.add_zero]
      unfold crsB at hs
      rw [ef] at hs
      obtain ⟨-, -, p1, p2⟩ := sep_pt hs
      have gg := pol_edge h t
      refine hin fun j => ?_
      have e := jpt (a := cyP D t) (b := cyP D (t + 1)) (f := f) (P := cyP D j) (Q := cyP D (j + 1)) (hn ▸ hn0)
      have q1 := Int.mul_nonneg (show 0 ≤ wwZ (vsub (cyP D (t + 1)) (cyP D t)) - alZ (cyP D t) (vsub (cyP D (t + 1)) (cyP D t)) f by omega) (FA j)
      have q2 := Int.mul_nonneg (show 0 ≤ alZ (cyP D t) (vsub (cyP D (t + 1)) (cyP D t)) f by omega) (FB j)
      refine Int.le_of_mul_le_mul_left (a := wwZ (vsub (cyP D (t + 1)) (cyP D t))) ?_ gg
      show _ ≤ _ * cr _ _
      rw [e]
      omega
    have hw : 0 < wwZ u := ww_pos (by omega)
    have hr : cr u (vsub (cyP D t) f) = 0 ∧ cr u (vsub (cyP D (t + 1)) f) = 0 := by rw [h0] at K; omega
    have EA := fun j => jal (a := cyP D t) (f := f) (u := u) (P := cyP D j) (Q := cyP D (j + 1)) hr.1
    have EB := fun j => jal (a := cyP D (t + 1)) (f := f) (u := u) (P := cyP D j) (Q := cyP D (j + 1)) hr.2
    have EA' : ∀ j, wwZ u * cr (vsub (cyP D (j + 1)) (cyP D j)) (vsub (cyP D t) (cyP D j)) = wwZ u * rnum D f j - alZ f u (cyP D t) * rden D u j := EA
    have EB' : ∀ j, wwZ u * cr (vsub (cyP D (j + 1)) (cyP D j)) (vsub (cyP D (t + 1)) (cyP D j)) = wwZ u * rnum D f j - alZ f u (cyP D (t + 1)) * rden D u j := EB
    have hv : rval D f u t = partZ (min (alZ f u (cyP D t)) (alZ f u (cyP D (t + 1)))) (wwZ u) := by unfold rval; rw [if_pos h0]
    generalize alZ f u (cyP D t) = A at *
    generalize alZ f u (cyP D (t + 1)) = B at *
    generalize wwZ u = W at *
    have between : ∀ {x y : Int} {F G : Nat → Int}, (∀ j, 0 ≤ F j) → (∀ j, 0 ≤ G j) → (∀ j, W * F j = W * rnum D f j - x * rden D u j) → (∀ j, W * G j = W * rnum D f j - y * rden D u j) → x ≤ 0 → 0 ≤ y → False := fun {x y F G} hF hG e1 e2 hx hy => by
      refine hin fun j => ?_
      have i : (y - x) * (W * rnum D f j) = W * (y * F j + -x * G j) := by
        have := e1 j
        have := e2 j
        have i1 : W * (y * F j + -x * G j) = y * (W * F j) - x * (W * G j) := by grind
        rw [i1, e1 j, e2 j]
        grind
      have s1 := Int.mul_nonneg hy (hF j)
      have s2 := Int.mul_nonneg (show 0 ≤ -x by omega) (hG j)
      have s3 : 0 ≤ W * (y * F j + -x * G j) := Int.mul_nonneg (by omega) (by omega)
      rcases Int.lt_or_le 0 (y - x) with g | g
      · refine Int.le_of_mul_le_mul_left (a := W) ?_ hw
        rw [Int.mul_zero]
        refine Int.le_of_mul_le_mul_left (a := y - x) ?_ g
        rw [Int.mul_zero, i]
        exact s3
      · have x0 : x = 0 := by omega
        have := e1 j
        rw [x0, Int.zero_mul, Int.sub_zero] at this
        have := Int.eq_of_mul_eq_mul_left (by omega) this
        rw [← this]
        exact hF j
    by_cases hA : A ≤ 0
    · by_cases hB : 0 ≤ B
      · exact (between FA FB EA' EB' hA hB).elim
      · by_cases hA0 : A = 0
        · exact (between FB FA EB' EA' (by omega) (by omega)).elim
        · exact absurd (by omega) w3.1
    · by_cases hB : B ≤ 0
      · exact (between FB FA EB' EA' hB (by omega)).elim
      · have hm : min A B ≤ W := by
          rcases Int.lt_or_le W (min A B) with g | g
          · exact absurd (by omega) w3.2
          · exact g
        rcases Int.le_total A B with g | g
        · rw [Int.min_eq_left g] at hv hm
          exact ⟨A, W, hw, by omega, hm, fun j => by rw [← EA' j]; exact Int.mul_nonneg (by omega) (FA j), by rw [hv, partZ_pos hw, part_in hw (by omega) hm]⟩
        · rw [Int.min_eq_right g] at hv hm
          exact ⟨B, W, hw, by omega, hm, fun j => by rw [← EB' j]; exact Int.mul_nonneg (by omega) (FB j), by rw [hv, partZ_pos hw, part_in hw (by omega) hm]⟩
  · have hv : rval D f u t = partZ (rnum D f t) (rden D u t) := by unfold rval; rw [if_neg h0]
    generalize rden D u t = d at *
    generalize rnum D f t = n at *
    generalize cr u (vsub (cyP D t) f) = r at *
    generalize cr u (vsub (cyP D (t + 1)) f) = s at *
    rcases Int.lt_or_le 0 d with g | g
    · refine ⟨n, d, g, by omega, by omega, fun j => ?_, by rw [hv, partZ_pos g, part_in g (by omega) (by omega)]⟩
      rw [hJ j]
      have q1 := Int.mul_nonneg (show 0 ≤ s by omega) (FA j)
      have q2 := Int.mul_nonneg (show 0 ≤ -r by omega) (FB j)
      rw [Int.neg_mul] at q2
      omega
    · refine ⟨-n, -d, by omega, by omega, by omega, fun j => ?_, ?_⟩
      · have e := hJ j
        have q1 := Int.mul_nonneg (show 0 ≤ -s by omega) (FA j)
        have q2 := Int.mul_nonneg (show 0 ≤ r by omega) (FB j)
        rw [Int.neg_mul] at q1
        rw [Int.neg_mul, Int.neg_mul]
        omega
      · have := partZ_neg (N := -n) (L := -d) (by omega)
        rw [Int.neg_neg, Int.neg_neg] at this
        rw [hv, this, part_in (by omega) (by omega) (by omega)]

theorem enter_cross {D : List V} (h : Pol D.length (cyP D)) {f u : V} {k : Nat} (hd : rden D u k < 0) (hn : rnum D f k < 0) (hle : -rnum D f k ≤ -rden D u k) (hi : ∀ j, 0 ≤ -rden D u k * rnum D f j - -rnum D f k * rden D u j) :
    crsB D f u k = true ∧ rval D f u k = -rnum D f k * 65536 / -rden D u k := by
  have hv : rval D f u k = partZ (rnum D f k) (rden D u k) := by unfold rval; rw [if_neg (by omega)]
  have J := fun j => jac (a := cyP D k) (b := cyP D (k + 1)) (f := f) (u := u) (P := cyP D j) (Q := cyP D (j + 1))
  have hJ : ∀ j, rden D u k * rnum D f j - rnum D f k * rden D u j = cr u (vsub (cyP D (k + 1)) f) * cr (vsub (cyP D (j + 1)) (cyP D j)) (vsub (cyP D k) (cyP D j)) - cr u (vsub (cyP D k) f) * cr (vsub (cyP D (j + 1)) (cyP D j)) (vsub (cyP D (k + 1)) (cyP D j)) := J
  have K := jsum (a := cyP D k) (b := cyP D (k + 1)) (f := f) (u := u)
  have K' : rden D u k = cr u (vsub (cyP D (k + 1)) f) - cr u (vsub (cyP D k) f) := K
  have L1 : 0 ≤ cr u (vsub (cyP D k) f) := by
    obtain ⟨m, hm⟩ : ∃ m, cyP D k = cyP D (m + 1) ∧ cyP D (k + 1) = cyP D (m + 2) := by
      have := h.pos
      refine ⟨k + (D.length - 1), ?_, ?_⟩
      · rw [show k + (D.length - 1) + 1 = k + D.length by omega, h.per]
      · rw [show k + (D.length - 1) + 2 = k + 1 + D.length by omega, h.per]
    have e := hJ m
    have i := hi m
    have z : cr (vsub (cyP D (m + 1)) (cyP D m)) (vsub (cyP D k) (cyP D m)) = 0 := by rw [hm.1]; unfold cr; grind
    have p : 0 < cr (vsub (cyP D (m + 1)) (cyP D m)) (vsub (cyP D (k + 1)) (cyP D m)) := by
      have := h.turn m
      rw [hm.2]
      have e : cr (vsub (cyP D (m + 1)) (cyP D m)) (vsub (cyP D (m + 2)) (cyP D m)) = cr (vsub (cyP D (m + 1)) (cyP D m)) (vsub (cyP D (m + 2)) (cyP D (m + 1))) := by unfold cr vsub; grind
      omega
    rw [z, Int.mul_zero] at e
    rw [Int.neg_mul, Int.neg_mul] at i
    rcases Int.lt_or_le (cr u (vsub (cyP D k) f)) 0 with g | g
    · have := Int.mul_neg_of_neg_of_pos g p
      omega
    · exact g
  have L2 : cr u (vsub (cyP D (k + 1)) f) ≤ 0 := by
    have e := hJ (k + 1)
    have i := hi (k + 1)
    have z : cr (vsub (cyP D (k + 1 + 1)) (cyP D (k + 1))) (vsub (cyP D (k + 1)) (cyP D (k + 1))) = 0 := by unfold cr vsub; grind
    have p : 0 < cr (vsub (cyP D (k + 1 + 1)) (cyP D (k + 1))) (vsub (cyP D k) (cyP D (k + 1))) := by
      have := h.turn k
      have e : cr (vsub (cyP D (k + 1 + 1)) (cyP D (k + 1))) (vsub (cyP D k) (cyP D (k + 1))) = cr (vsub (cyP D (k + 1)) (cyP D k)) (vsub (cyP D (k + 2)) (cyP D (k + 1))) := by show cr (vsub (cyP D (k + 2)) (cyP D (k + 1))) _ = _; unfold cr vsub; grind
      omega
    rw [z, Int.mul_zero] at e
    rw [Int.neg_mul, Int.neg_mul] at i
    rcases Int.lt_or_le 0 (cr u (vsub (cyP D (k + 1)) f)) with g | g
    · have := Int.mul_pos g p
      omega
    · exact g
  refine ⟨?_, ?_⟩
  · have ne : (cyP D k).1 ≠ (cyP D (k + 1)).1 ∨ (cyP D k).2 ≠ (cyP D (k + 1)).2 := by
      have := (cr_ne (show cr (vsub (cyP D (k + 1)) (cyP D k)) (vsub (cyP D (k + 2)) (cyP D (k + 1))) ≠ 0 by have := h.turn k; omega)).1
      unfold vsub at this
      dsimp only at this
      omega
    refine seg_common (L := -rden D u k) (β := cr u (vsub (cyP D k) f)) (γ := -rnum D f k) (by omega) ⟨L1, by omega⟩ ⟨by omega, hle⟩ ne ?_ ?_
    · show (-rden D u k - _) * _ + _ = (-rden D u k - -rnum D f k) * f.1 + -rnum D f k * (f.1 + u.1)
      unfold rden rnum cr vsub; grind
    · show (-rden D u k - _) * _ + _ = (-rden D u k - -rnum D f k) * f.2 + -rnum D f k * (f.2 + u.2)
      unfold rden rnum cr vsub; grind
  · have := partZ_neg (N := -rnum D f k) (L := -rden D u k) (by omega)
    rw [Int.neg_neg, Int.neg_neg] at this
    rw [hv, this, part_in (by omega) (by omega) hle]
theorem rf_spec (D : List V) (f u : V) : ∀ k, match rfTo D f u k with
    | none => ∀ t, t < k → crsB D f u t = false
    | some b => (∃ t, t < k ∧ crsB D f u t = true ∧ rval D f u t = b) ∧ ∀ t, t < k → crsB D f u t = true → b ≤ rval D f u t
  | 0 => fun t ht => by omega
  | k + 1 => by
    have ih := rf_spec D f u k
    rw [rfTo]
    by_cases hc : crsB D f u k = true
    · rw [if_pos hc]
      generalize rfTo D f u k = s at ih
      match s, ih with
      | none, ih =>
        refine ⟨⟨k, by omega, hc, rfl⟩, fun t ht h => ?_⟩
        rcases Nat.lt_or_ge t k with g | g
        · rw [ih t g] at h; cases h
        · rw [show t = k by omega]; exact Int.le_refl _
      | some b, ih =>
        obtain ⟨⟨t0, g0, g1, g2⟩, ih2⟩ := ih
        dsimp only
        by_cases hl : rval D f u k < b
        · rw [if_pos hl]
          refine ⟨⟨k, by omega, hc, rfl⟩, fun t ht h => ?_⟩
          rcases Nat.lt_or_ge t k with g | g
          · have := ih2 t g h; omega
          · rw [show t = k by omega]; exact Int.le_refl _
        · rw [if_neg hl]
          refine ⟨⟨t0, by omega, g1, g2⟩, fun t ht h => ?_⟩
          rcases Nat.lt_or_ge t k with g | g
          · exact ih2 t g h
          · rw [show t = k by omega]; omega
    · rw [if_neg hc]
      generalize rfTo D f u k = s at ih
      match s, ih with
      | none, ih =>
        intro t ht
        rcases Nat.lt_or_ge t k with g | g
        · exact ih t g
        · rw [show t = k by omega]; simpa using hc
      | some b, ih =>
        obtain ⟨⟨t0, g0, g1, g2⟩, ih2⟩ := ih
        refine ⟨⟨t0, by omega, g1, g2⟩, fun t ht h => ?_⟩
        rcases Nat.lt_or_ge t k with g | g
        · exact ih2 t g h
        · rw [show t = k by omega] at h; exact absurd h hc
theorem rinB_iff {D : List V} {f : V} : rinB D f = true ↔ ∀ t, t < D.length → 0 ≤ rnum D f t := by
  unfold rinB
  rw [List.all_eq_true]
  constructor
  · intro h t ht; exact of_decide_eq_true (h t (List.mem_range.2 ht))
  · intro h t ht; exact decide_eq_true (h t (List.mem_range.1 ht))
theorem per_all {D : List V} (h0 : 0 < D.length) {p : V → V → Prop} (h : ∀ t, t < D.length → p (cyP D t) (cyP D (t + 1))) : ∀ t, p (cyP D t) (cyP D (t + 1)) := fun t => by
  have := h (t % D.length) (Nat.mod_lt _ h0)
  have e1 : cyP D (t % D.length) = cyP D t := by unfold cyP; rw [Nat.mod_mod]
  have e2 : cyP D (t % D.length + 1) = cyP D (t + 1) := by unfold cyP; rw [Nat.mod_add_mod]
  rwa [e1, e2] at this
theorem line_law {D : List V} (h : Pol D.length (cyP D)) (f u : V) : lineR D f u = refLine D f u := by
  have h3 := h.pos
  have ok := ln_ok (rnum D f) (rden D u) D.length
  unfold lineR refLine
  generalize lnF (rnum D f) (rden D u) D.length = s at ok
  by_cases hin : rinB D f = true
  · rw [if_pos hin]
    rw [rinB_iff] at hin
    match s, ok with
    | none, ok => obtain ⟨t, ht, -, g⟩ := ok; have := hin t ht; omega
    | some (e, v), ok =>
      obtain ⟨e2, v2, e1, v1, ho, hi⟩ := ok
      have := (hi 0 1 (by omega) (by omega) (by omega)).1 (fun t ht => by have := hin t ht; omega)
      have e0 : e.1 = 0 := by omega
      have v0 : 0 ≤ v.1 := by omega
      have := Int.mul_nonneg v0 (Int.le_of_lt e2)
      show (if v.1 * e.2 < e.1 * v.2 then none else some (e.1 * 65536 / e.2)) = _
      rw [e0, Int.zero_mul, Int.zero_mul, if_neg (by omega), Int.zero_ediv]
  · rw [if_neg hin]
    have hno : ∃ j, j < D.length ∧ rnum D f j < 0 := Classical.byContradiction fun g => hin (rinB_iff.2 fun t ht => by
      rcases Int.lt_or_le (rnum D f t) 0 with r | r
      · exact absurd ⟨t, ht, r⟩ g
      · exact r)
    have hno' : ∃ j, rnum D f j < 0 := by obtain ⟨j, -, q⟩ := hno; exact ⟨j, q⟩
    have rf := rf_spec D f u D.length
    have none_ok : (∀ N L : Int, 0 < L → 0 ≤ N → N ≤ L → ¬ ∀ t, t < D.length → 0 ≤ L * rnum D f t - N * rden D u t) → rfTo D f u D.length = none := fun g => by
      generalize rfTo D f u D.length = r at rf
      match r, rf with
      | none, rf => rfl
      | some b, rf =>
        obtain ⟨⟨t, ht, c, -⟩, -⟩ := rf
        obtain ⟨N, L, hL, h0, h1, hi, -⟩ := cross_in h c hno'
        exact absurd (fun j _ => hi j) (g N L hL h0 h1)
    match s, ok with
    | none, ok =>
      obtain ⟨t, ht, g1, g2⟩ := ok
      rw [none_ok fun N L hL h0 h1 g => ?_]
      · rfl
      · have := g t ht
        rw [g1, Int.mul_zero] at this
        have := Int.mul_neg_of_pos_of_neg hL g2
        omega
    | some (e, v), ok =>
      obtain ⟨e2, v2, e1, v1, ho, hi⟩ := ok
      show (if v.1 * e.2 < e.1 * v.2 then none else some (e.1 * 65536 / e.2)) = _
      by_cases hx : v.1 * e.2 < e.1 * v.2
      · rw [if_pos hx, none_ok fun N L hL h0 h1 g => ?_]
        obtain ⟨p, q⟩ := (hi N L hL h0 h1).1 g
        have := ratio_trans e2 hL v2 p q
        omega
      · rw [if_neg hx]
        have hle : e.1 ≤ e.2 := by
          have q := Int.mul_le_mul_of_nonneg_right v1 (Int.le_of_lt e2)
          refine Int.le_of_mul_le_mul_right (a := v.2) ?_ v2
          rw [Int.mul_comm e.2]
          omega
        have ins := (hi e.1 e.2 e2 e1 hle).2 ⟨Int.le_refl _, by omega⟩
        rcases ho with rfl | ⟨k, hk, hd, hn, rfl⟩
        · exfalso
          obtain ⟨j, hj, g⟩ := hno
          have := ins j hj
          simp at this
          omega
        · have ins' : ∀ j, 0 ≤ -rden D u k * rnum D f j - -rnum D f k * rden D u j := per_all (p := fun P Q => 0 ≤ -rden D u k * cr (vsub Q P) (vsub f P) - -rnum D f k * -(cr (vsub Q P) u)) (by omega) ins
          obtain ⟨c1, c2⟩ := enter_cross h hd hn hle ins'
          generalize rfTo D f u D.length = r at rf
          match r, rf with
          | none, rf => rw [rf k hk] at c1; cases c1
          | some b, rf =>
            obtain ⟨⟨t, ht, g1, g2⟩, g3⟩ := rf
            have l1 := g3 k hk c1
            obtain ⟨N, L, hL, h0, h1, hj, hv⟩ := cross_in h g1 hno'
            have l2 := ((hi N L hL h0 h1).1 fun t _ => hj t).1
            have l3 : -rnum D f k * 65536 / -rden D u k ≤ N * 65536 / L := by
              rw [Int.le_ediv_iff_mul_le hL]
              have a := Int.ediv_mul_le (-rnum D f k * 65536) (show -rden D u k ≠ 0 by omega)
              generalize -rnum D f k * 65536 / -rden D u k = x at *
              generalize -rden D u k = d' at *
              generalize -rnum D f k = n' at *
              -- x d' <= 65536 n', n' L <= N d'
              refine Int.le_of_mul_le_mul_right (a := d') ?_ e2
              have b1 := Int.mul_le_mul_of_nonneg_right a (Int.le_of_lt hL)
              have b2 : n' * L ≤ N * d' := l2
              have b3 : x * L * d' = x * d' * L := by grind
              have b4 : n' * 65536 * L = 65536 * (n' * L) := by grind
              have b5 : N * 65536 * d' = 65536 * (N * d') := by grind
              rw [b3, b5]
              rw [b4] at b1
              omega
            rw [c2] at l1
            show some _ = some b
            congr 1
            show -rnum D f k * 65536 / -rden D u k = b
            omega
end
end Go.Proofs.Ytienmhgbildhhaa
