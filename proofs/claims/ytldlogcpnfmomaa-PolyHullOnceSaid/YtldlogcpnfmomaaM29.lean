/- Plain mathematics: two monotone chains of sorted points make the same list as gift wrapping. No program is in sight. -/
import Derived.Test.YtldlogcpnfmomaaM23
namespace Go.Proofs.Ytldlogcpnfmomaa
set_option linter.unusedVariables false
set_option linter.unusedSimpArgs false
open Go.RowKit

theorem lowV_dup {a b : V} : lowV a b ↔ dup (vsub b a) := by unfold lowV dup vsub; dsimp only; omega
theorem lowV_irr (a : V) : ¬ lowV a a := by unfold lowV; omega
theorem lowV_tr {a b c : V} (h : lowV a b) (k : lowV b c) : lowV a c := by unfold lowV at *; omega
theorem lowV_as {a b : V} (h : lowV a b) : ¬ lowV b a := by unfold lowV at *; omega
theorem lowV_neg {a b : V} : lowV (vneg a) (vneg b) ↔ lowV b a := by unfold lowV vneg; dsimp only; omega
/-- twice the area of a triangle -/
def sd (a b x : V) : Int := cr (vsub b a) (vsub x a)
theorem sd_side (a b x : V) : sideZ a.1 a.2 b.1 b.2 x.1 x.2 = sd a b x := rfl
theorem sd_neg (a b x : V) : sd (vneg a) (vneg b) (vneg x) = sd a b x := by unfold sd cr vsub vneg; grind
theorem sd_l (a b : V) : sd a b a = 0 := by unfold sd cr vsub; grind
theorem sd_r (a b : V) : sd a b b = 0 := by unfold sd cr vsub; grind
/-- x lies to the left of the line from a to b, or between them on it -/
def GL (a b x : V) : Prop := 0 < sd a b x ∨ (sd a b x = 0 ∧ ¬ lowV x a ∧ ¬ lowV b x)
theorem GL.nn {a b x : V} (h : GL a b x) : 0 ≤ sd a b x := by rcases h with h | ⟨h, -⟩ <;> omega
theorem eq_of_not_low {a b : V} (h : ¬ lowV a b) (k : ¬ lowV b a) : a = b := by
  rcases lowV_or a b with q | q | q
  · exact absurd q h
  · exact q
  · exact absurd q k

/-- what stays of a stack, its top first, ahead of a point -/
def popV (q : V) : List V → List V
  | a :: b :: r => if sd b a q ≤ 0 then popV q (b :: r) else a :: b :: r
  | [a] => [a]
  | [] => []
def chF (s p : List V) : List V := p.foldl (fun s q => q :: popV q s) s
def chV (p : List V) : List V := chF [] p
def hulV (p : List V) : List V := (chV p).tail.reverse ++ (chV p.reverse).tail.reverse

def trn (a b : V) : List V → Prop
  | [] => True
  | c :: _ => 0 < sd c b a
def Stk (P : V → Prop) : List V → Prop
  | [] => True
  | [_] => True
  | a :: b :: r => lowV b a ∧ (∀ x, P x → GL b a x) ∧ trn a b r ∧ Stk P (b :: r)
theorem stk_pw {P : V → Prop} : ∀ {s : List V}, Stk P s → s.Pairwise fun a b => lowV b a
  | [], _ => List.Pairwise.nil
  | [a], _ => List.pairwise_singleton _ _
  | a :: b :: r, h => by
    have ih := stk_pw h.2.2.2
    refine List.pairwise_cons.2 ⟨fun x hx => ?_, ih⟩
    rcases List.mem_cons.1 hx with rfl | hx
    · exact h.1
    · exact lowV_tr ((List.pairwise_cons.1 ih).1 x hx) h.1
/-- the last of a list, or what stands before it -/
def lstV (a : V) : List V → V
  | [] => a
  | x :: s => lstV x s
theorem lstV_mem : ∀ (s : List V) (a : V), lstV a s ∈ a :: s
  | [], a => by simp [lstV]
  | x :: s, a => List.mem_cons_of_mem _ (lstV_mem s x)
theorem pop_spec {P : V → Prop} {q : V} (hq : ∀ x, P x → lowV x q) : ∀ (r : List V) (a : V), Stk P (a :: r) → (∀ x ∈ a :: r, P x) → (∀ x, P x → ¬ lowV x a → GL a q x) →
    ∃ b t, popV q (a :: r) = b :: t ∧ Stk P (b :: t) ∧ (∀ x, P x → ¬ lowV x b → GL b q x) ∧ (∀ x ∈ b :: t, x ∈ a :: r) ∧ lstV b t = lstV a r ∧ ∀ c t', t = c :: t' → 0 < sd c b q := by
  intro r
  induction r with
  | nil => intro a hS hP hG; exact ⟨a, [], rfl, trivial, hG, fun x hx => hx, rfl, fun c t' e => by cases e⟩
  | cons b r ih =>
    intro a hS hP hG
    rw [popV]
    by_cases hs : sd b a q ≤ 0
    · rw [if_pos hs]
      have hb := hP b (by simp)
      have ha := hP a (by simp)
      have hbq := hq b hb
      obtain ⟨c, t, h1, h2, h3, h4, h5, h6⟩ := ih b hS.2.2.2 (fun x hx => hP x (List.mem_cons_of_mem _ hx)) (fun x hx hn => by
        rcases lowV_or b x with g | g | g
        · have k := (hS.2.1 x hx).nn
          have c1 : 0 ≤ cr (vsub q b) (vsub a b) := by rw [cr_swap]; unfold sd at hs; omega
          have u := up_trans (lowV_dup.1 hbq) (lowV_dup.1 hS.1) (lowV_dup.1 g) c1 k
          rcases Int.lt_or_le 0 (sd b q x) with z | z
          · exact .inl z
          · exact .inr ⟨by unfold sd at *; omega, hn, lowV_as (hq x hx)⟩
        · subst g
          exact .inr ⟨sd_l _ _, lowV_irr _, lowV_as hbq⟩
        · exact absurd g hn)
      exact ⟨c, t, h1, h2, h3, fun x hx => List.mem_cons_of_mem _ (h4 x hx), h5, h6⟩
    · rw [if_neg hs]
      exact ⟨a, b :: r, rfl, hS, hG, fun x hx => hx, rfl, fun c t' e => by cases e; omega⟩
theorem stk_ext {P : V → Prop} {q : V} : ∀ (a : V) (r : List V), Stk P (a :: r) → lowV a q → (∀ b r', r = b :: r' → 0 < sd b a q) → Stk (fun x => P x ∨ x = q) (a :: r) := by
  intro a r
  induction r generalizing a with
  | nil => intro _ _ _; trivial
  | cons b r ih =>
    intro h hq hs
    have h0 := hs b r rfl
    refine ⟨h.1, fun x hx => ?_, h.2.2.1, ih b h.2.2.2 (lowV_tr h.1 hq) fun c r' e => ?_⟩
    · rcases hx with hx | rfl
      · exact h.2.1 x hx
      · exact .inl h0
    · subst e
      have h1 : 0 < sd c b a := h.2.2.1
      have hc : lowV c b := h.2.2.2.1
      have e1 : sd c b a = cr (vsub b c) (vsub a b) := by unfold sd cr vsub; grind
      have e2 : sd b a q = cr (vsub a b) (vsub q a) := by unfold sd cr vsub; grind
      have e3 : sd c b q = cr (vsub b c) (vsub a b) + cr (vsub b c) (vsub q a) := by unfold sd cr vsub; grind
      have u := (up_trans (lowV_dup.1 hc) (lowV_dup.1 h.1) (lowV_dup.1 hq) (by omega) (by omega)).2 (.inl (by omega))
      omega
theorem push_spec {P : V → Prop} {q b : V} {t : List V} (hq : ∀ x, P x → lowV x q) (h2 : Stk P (b :: t)) (h3 : ∀ x, P x → ¬ lowV x b → GL b q x) (hm : ∀ x ∈ b :: t, P x) (hl : ∀ x, P x → ¬ lowV x (lstV b t)) (h6 : ∀ c t', t = c :: t' → 0 < sd c b q) :
    Stk (fun x => P x ∨ x = q) (q :: b :: t) := by
  have hb := hq b (hm b (by simp))
  refine ⟨hb, fun x hx => ?_, ?_, stk_ext b t h2 hb h6⟩
  · rcases hx with hx | rfl
    · by_cases g : lowV x b
      · cases t with
        | nil => exact absurd g (hl x hx)
        | cons c t =>
          have k := (h2.2.1 x hx).nn
          have m := h6 c t rfl
          have e1 : sd c b x = cr (vsub b x) (vsub b c) := by unfold sd cr vsub; grind
          have e2 : sd c b q = cr (vsub b c) (vsub q b) := by unfold sd cr vsub; grind
          have e3 : sd b q x = cr (vsub b x) (vsub q b) := by unfold sd cr vsub; grind
          have u := (up_trans (lowV_dup.1 g) (lowV_dup.1 h2.1) (lowV_dup.1 hb) (by omega) (by omega)).2 (.inr (by omega))
          exact .inl (by omega)
      · exact h3 x hx g
    · exact .inr ⟨sd_r _ _, lowV_as hb, lowV_irr _⟩
  · cases t with
    | nil => trivial
    | cons c t => exact h6 c t rfl
theorem ch_spec : ∀ (p : List V) (P : V → Prop) (a : V) (r : List V), Stk P (a :: r) → (∀ x ∈ a :: r, P x) → (∀ x, P x → ¬ lowV x (lstV a r)) → (∀ x, P x → ¬ lowV a x) → (∀ x, P x → ∀ y ∈ p, lowV x y) → p.Pairwise lowV →
    ∃ b t, chF (a :: r) p = b :: t ∧ Stk (fun x => P x ∨ x ∈ p) (b :: t) ∧ (∀ x ∈ b :: t, P x ∨ x ∈ p) ∧ lstV b t = lstV a r ∧ b = lstV a p := by
  intro p
  induction p with
  | nil =>
    intro P a r h1 h2 h3 h4 h5 h6
    have e : (fun x => P x ∨ x ∈ ([] : List V)) = P := by funext x; simp
    exact ⟨a, r, rfl, by rw [e]; exact h1, fun x hx => .inl (h2 x hx), rfl, rfl⟩
  | cons q p ih =>
    intro P a r h1 h2 h3 h4 h5 h6
    have hq : ∀ x, P x → lowV x q := fun x hx => h5 x hx q (by simp)
    have ha := h2 a (by simp)
    obtain ⟨b, t, g1, g2, g3, g4, g5, g6⟩ := pop_spec hq r a h1 h2 (fun x hx hn => by
      have : x = a := eq_of_not_low hn (h4 x hx)
      subst this
      exact .inr ⟨sd_l _ _, lowV_irr _, lowV_as (hq x hx)⟩)
    have hm : ∀ x ∈ b :: t, P x := fun x hx => h2 x (g4 x hx)
    have k := push_spec hq g2 g3 hm (fun x hx => by rw [g5]; exact h3 x hx) g6
    have hpw := List.pairwise_cons.1 h6
    obtain ⟨c, u, i1, i2, i3, i4, i5⟩ := ih (fun x => P x ∨ x = q) q (b :: t) k (fun x hx => by
        rcases List.mem_cons.1 hx with rfl | hx
        · exact .inr rfl
        · exact .inl (hm x hx)) (fun x hx => by
        show ¬ lowV x (lstV b t)
        rw [g5]
        rcases hx with hx | rfl
        · exact h3 x hx
        · exact lowV_as (hq _ (h2 _ (lstV_mem _ _)))) (fun x hx => by
        rcases hx with hx | rfl
        · exact lowV_as (hq x hx)
        · exact lowV_irr _) (fun x hx y hy => by
        rcases hx with hx | rfl
        · exact h5 x hx y (List.mem_cons_of_mem _ hy)
        · exact hpw.1 y hy) hpw.2
    have ef : (fun x => (P x ∨ x = q) ∨ x ∈ p) = fun x => P x ∨ x ∈ q :: p := by funext x; simp [or_assoc]
    rw [ef] at i2
    refine ⟨c, u, ?_, i2, fun x hx => by have := i3 x hx; simp [or_assoc] at this ⊢; exact this, ?_, i5⟩
    · rw [← i1]
      show chF (q :: popV q (a :: r)) p = _
      rw [g1]
    · rw [i4, ← g5]; rfl
/-- one chain of sorted points: strictly increasing, all points to the left of its edges, left turns -/
structure Ch (P : V → Prop) (m : Nat) (v : Nat → V) : Prop where
  lt : ∀ i, i < m → lowV (v i) (v (i + 1))
  gl : ∀ i, i < m → ∀ x, P x → GL (v i) (v (i + 1)) x
  turn : ∀ i, i + 1 < m → 0 < sd (v i) (v (i + 1)) (v (i + 2))
  mem : ∀ i, i ≤ m → P (v i)
theorem ptL_get {l : List V} {k : Nat} (h : k < l.length) : ptL l k = l[k] := by unfold ptL px py; simp [h]
theorem stk_ch {P : V → Prop} : ∀ {s : List V}, Stk P s → ∀ i, i + 1 < s.length → lowV (ptL s (i + 1)) (ptL s i) ∧ (∀ x, P x → GL (ptL s (i + 1)) (ptL s i) x) ∧ (i + 2 < s.length → 0 < sd (ptL s (i + 2)) (ptL s (i + 1)) (ptL s i))
  | [], _, i, h => by simp at h
  | [a], _, i, h => by simp at h
  | a :: b :: r, hS, 0, _ => ⟨hS.1, hS.2.1, fun h => by
      cases r with
      | nil => simp at h
      | cons c r => exact hS.2.2.1⟩
  | a :: b :: r, hS, i + 1, h => stk_ch hS.2.2.2 i (by simpa using h) |>.imp id fun k => ⟨k.1, fun g => k.2 (by simp only [List.length_cons] at g ⊢; omega)⟩
theorem ptL_rev {s : List V} {i : Nat} (h : i < s.length) : ptL s.reverse i = ptL s (s.length - 1 - i) := by
  rw [ptL_get (by simpa using h), ptL_get (by omega), List.getElem_reverse]
theorem ch_up {p : List V} (h : p.Pairwise lowV) (h0 : p ≠ []) : Ch (· ∈ p) ((chV p).length - 1) (ptL (chV p).reverse) ∧ 0 < (chV p).length ∧ ptL (chV p).reverse 0 = ptL p 0 ∧ ptL (chV p).reverse ((chV p).length - 1) = ptL p (p.length - 1) := by
  cases p with
  | nil => exact absurd rfl h0
  | cons a p =>
    have hp := List.pairwise_cons.1 h
    obtain ⟨b, t, h1, h2, h3, h4, h5⟩ := ch_spec p (· = a) a [] trivial (fun x hx => by simpa using hx) (fun x hx => by cases hx; exact lowV_irr _) (fun x hx => by cases hx; exact lowV_irr _) (fun x hx y hy => by cases hx; exact hp.1 y hy) hp.2
    have e : (fun x => x = a ∨ x ∈ p) = (· ∈ a :: p) := by funext x; simp
    rw [e] at h2
    have hc : chV (a :: p) = b :: t := h1
    rw [hc]
    have lst : ∀ (s : List V) (y : V), ptL (y :: s) s.length = lstV y s := by
      intro s
      induction s with
      | nil => intro y; rfl
      | cons z s ih => intro y; exact ih z
    have sm : ∀ x ∈ b :: t, x ∈ a :: p := fun x hx => by have := h3 x hx; simpa using this
    refine ⟨⟨fun i hi => ?_, fun i hi x hx => ?_, fun i hi => ?_, fun i hi => ?_⟩, by simp, ?_, ?_⟩
    · have hi : i < t.length := by simpa using hi
      have := (stk_ch h2 (t.length - 1 - i) (by simp; omega)).1
      rw [ptL_rev (by simp; omega), ptL_rev (by simp; omega)]
      rw [show (b :: t).length - 1 - i = t.length - 1 - i + 1 by rw [List.length_cons]; omega, show (b :: t).length - 1 - (i + 1) = t.length - 1 - i by rw [List.length_cons]; omega]
      exact this
    · have hi : i < t.length := by simpa using hi
      have := (stk_ch h2 (t.length - 1 - i) (by simp; omega)).2.1 x hx
      rw [ptL_rev (by simp; omega), ptL_rev (by simp; omega)]
      rw [show (b :: t).length - 1 - i = t.length - 1 - i + 1 by rw [List.length_cons]; omega, show (b :: t).length - 1 - (i + 1) = t.length - 1 - i by rw [List.length_cons]; omega]
      exact this
    · have hi : i + 1 < t.length := by simpa using hi
      have := (stk_ch h2 (t.length - 2 - i) (by simp; omega)).2.2 (by simp; omega)
      rw [ptL_rev (by simp; omega), ptL_rev (by simp; omega), ptL_rev (by simp; omega)]
      rw [show (b :: t).length - 1 - i = t.length - 2 - i + 2 by rw [List.length_cons]; omega, show (b :: t).length - 1 - (i + 1) = t.length - 2 - i + 1 by rw [List.length_cons]; omega, show (b :: t).length - 1 - (i + 2) = t.length - 2 - i by rw [List.length_cons]; omega]
      exact this
    · have hi : i ≤ t.length := by simpa using hi
      rw [ptL_rev (by simp; omega)]
      exact sm _ (ptL_mem (by simp; omega))
    · rw [ptL_rev (by simp)]
      simp only [List.length_cons, Nat.add_sub_cancel, Nat.sub_zero]
      rw [lst, h4]
      rfl
    · rw [ptL_rev (by simp)]
      simp only [List.length_cons, Nat.add_sub_cancel, Nat.sub_self]
      rw [lst]
      exact h5

theorem pop_neg (q : V) : ∀ s : List V, popV (vneg q) (s.map vneg) = (popV q s).map vneg
  | [] => rfl
  | [a] => rfl
  | a :: b :: r => by
    have ih := pop_neg q (b :: r)
    rw [List.map_cons, List.map_cons, popV, popV, sd_neg]
    split
    · exact ih
    · rfl
theorem chF_neg : ∀ (p s : List V), chF (s.map vneg) (p.map vneg) = (chF s p).map vneg
  | [], s => rfl
  | q :: p, s => by
    have ih := chF_neg p (q :: popV q s)
    show chF (vneg q :: popV (vneg q) (s.map vneg)) (p.map vneg) = _
    rw [pop_neg]
    exact ih
theorem ptL_map (l : List V) (i : Nat) : ptL (l.map vneg) i = vneg (ptL l i) := by
  unfold ptL px py vneg
  rcases Nat.lt_or_ge i l.length with h | h
  · simp [h]
  · simp [h]
theorem ch_down {p : List V} (h : p.Pairwise lowV) (h0 : p ≠ []) : Ch (fun x => vneg x ∈ p) ((chV p.reverse).length - 1) (fun i => vneg (ptL (chV p.reverse).reverse i)) ∧ 0 < (chV p.reverse).length ∧ ptL (chV p.reverse).reverse 0 = ptL p (p.length - 1) ∧ ptL (chV p.reverse).reverse ((chV p.reverse).length - 1) = ptL p 0 := by
  have hpw : (p.reverse.map vneg).Pairwise lowV := by
    rw [List.pairwise_map, List.pairwise_reverse]
    exact h.imp fun {a b} k => lowV_neg.2 k
  have hne : p.reverse.map vneg ≠ [] := by simpa using h0
  have hl : 0 < p.length := List.length_pos_iff.2 h0
  obtain ⟨k1, k2, k3, k4⟩ := ch_up hpw hne
  have e : chV (p.reverse.map vneg) = (chV p.reverse).map vneg := chF_neg p.reverse []
  rw [e] at k1 k2 k3 k4
  have nn : ∀ {a b : V}, vneg a = vneg b → a = b := fun {a b} q => by rw [← vneg_neg a, q, vneg_neg]
  rw [← List.map_reverse, ptL_map, ptL_map] at k3 k4
  have e2 : (ptL (List.map vneg (chV p.reverse).reverse)) = fun i => vneg (ptL (chV p.reverse).reverse i) := by funext i; exact ptL_map _ _
  rw [← List.map_reverse, e2, List.length_map] at k1
  rw [List.length_map] at k2 k4
  have em : (fun x => x ∈ p.reverse.map vneg) = fun x => vneg x ∈ p := by
    funext x
    simp only [List.mem_map, List.mem_reverse, eq_iff_iff]
    constructor
    · rintro ⟨y, hy, rfl⟩
      rw [vneg_neg]; exact hy
    · intro hx
      exact ⟨_, hx, vneg_neg _⟩
  rw [em] at k1
  refine ⟨k1, k2, ?_, ?_⟩
  · rw [nn k3, ptL_rev hl]
    rfl
  · rw [nn k4, List.length_map, List.length_reverse, ptL_rev (by omega)]
    rw [show p.length - 1 - (p.length - 1) = 0 by omega]

theorem Ch.up {P : V → Prop} {m : Nat} {v : Nat → V} (h : Ch P m v) {i : Nat} : ∀ {j : Nat}, i < j → j ≤ m → lowV (v i) (v j)
  | 0, hij, _ => by omega
  | j + 1, hij, hj => by
    rcases Nat.lt_or_ge i j with g | g
    · exact lowV_tr (Ch.up h g (by omega)) (h.lt j (by omega))
    · rw [show i = j by omega]
      exact h.lt j (by omega)
section
variable {P : V → Prop} {m r : Nat} {v w : Nat → V}
theorem Ch.dn (h : Ch (fun x => P (vneg x)) r fun i => vneg (w i)) {i j : Nat} (hij : i < j) (hj : j ≤ r) : lowV (w j) (w i) := lowV_neg.1 (Ch.up h hij hj)
theorem Ch.dgl (h : Ch (fun x => P (vneg x)) r fun i => vneg (w i)) {i : Nat} (hi : i < r) {x : V} (hx : P x) : 0 ≤ sd (w i) (w (i + 1)) x := by
  have := (h.gl i hi (vneg x) (by show P (vneg (vneg x)); rwa [vneg_neg])).nn
  rwa [sd_neg] at this
theorem Ch.dmem (h : Ch (fun x => P (vneg x)) r fun i => vneg (w i)) {i : Nat} (hi : i ≤ r) : P (w i) := by
  have := h.mem i hi
  rwa [vneg_neg] at this
theorem chA (hu : Ch P m v) (hd : Ch (fun x => P (vneg x)) r fun i => vneg (w i)) {i k : Nat} (hi : i < m) (hk : k + 1 < r) (h1 : lowV (v i) (w (k + 1))) (h2 : lowV (w (k + 1)) (v (i + 1))) : sd (v i) (v (i + 1)) (w (k + 1)) ≠ 0 := fun h0 => by
  have d1 := hd.dn (i := k) (j := k + 1) (by omega) (by omega)
  have d2 := hd.dn (i := k + 1) (j := k + 2) (by omega) (by omega)
  have ht := hd.turn k hk
  rw [sd_neg] at ht
  have a1 := hd.dgl (i := k) (by omega) (hu.mem i (by omega))
  have b1 := hd.dgl (i := k) (by omega) (hu.mem (i + 1) (by omega))
  have a2 := hd.dgl (i := k + 1) hk (hu.mem i (by omega))
  generalize v i = a at *
  generalize v (i + 1) = b at *
  rw [show k + 1 + 1 = k + 2 from rfl] at a2
  generalize w k = f at *
  generalize w (k + 1) = x at *
  generalize w (k + 2) = g at *
  have e0 : sd a b x = cr (vsub b x) (vsub x a) := by unfold sd cr vsub; grind
  have e1 : sd f x g = cr (vsub f x) (vsub x g) := by unfold sd cr vsub; grind
  have e2 : sd f x a = cr (vsub f x) (vsub x a) := by unfold sd cr vsub; grind
  have e3 : sd f x b = cr (vsub b x) (vsub f x) := by unfold sd cr vsub; grind
  have e4 : sd x g a = cr (vsub x g) (vsub x a) := by unfold sd cr vsub; grind
  have u1 := (up_trans (lowV_dup.1 d1) (lowV_dup.1 d2) (lowV_dup.1 h1) (by omega) (by omega)).2 (.inl (by omega))
  have u2 := (up_trans (lowV_dup.1 h2) (lowV_dup.1 d1) (lowV_dup.1 h1) (by omega) (by omega)).2 (.inr (by omega))
  omega
theorem chB (hu : Ch P m v) (hd : Ch (fun x => P (vneg x)) r fun i => vneg (w i)) {i k : Nat} (hi : i + 1 < m) (hk : k < r) : v (i + 1) ≠ w (k + 1) := fun h0 => by
  have d1 := hd.dn (i := k) (j := k + 1) (by omega) (by omega)
  have l1 := hu.lt i (by omega)
  have l2 := hu.lt (i + 1) hi
  have ht := hu.turn i hi
  have a1 := hd.dgl (i := k) (by omega) (hu.mem i (by omega))
  have b1 := (hu.gl (i + 1) hi _ (hd.dmem (i := k) (by omega))).nn
  rw [show i + 1 + 1 = i + 2 from rfl] at l2 b1
  rw [← h0] at d1 a1
  generalize v i = a at *
  generalize v (i + 1) = x at *
  generalize v (i + 2) = b at *
  generalize w k = f at *
  have e1 : sd a x b = cr (vsub x a) (vsub b x) := by unfold sd cr vsub; grind
  have e2 : sd f x a = -cr (vsub x a) (vsub f x) := by unfold sd cr vsub; grind
  have e3 : sd x b f = cr (vsub b x) (vsub f x) := by unfold sd cr vsub; grind
  have u1 := (up_trans (lowV_dup.1 l1) (lowV_dup.1 l2) (lowV_dup.1 d1) (by omega) (by omega)).2 (.inl (by omega))
  omega
end
theorem dot_up {u w : V} (hu : dup u) (hw : dup w) (h : cr u w = 0) : 0 < u.1 * w.1 + u.2 * w.2 := by
  obtain ⟨a, b⟩ := u
  obtain ⟨c, d⟩ := w
  unfold dup cr at *
  dsimp only at *
  rcases hu with hb | ⟨hb, ha⟩
  · rcases hw with hd | ⟨hd, hc⟩
    · have p1 : 0 < b * d := Int.mul_pos hb hd
      have p2 : a * c * (b * d) = (a * d) * (a * d) := by
        have : a * d = b * c := by omega
        grind
      have p3 : 0 ≤ (a * d) * (a * d) := by rcases Int.le_total 0 (a * d) with q | q; exact Int.mul_nonneg q q; exact Int.mul_nonneg_of_nonpos_of_nonpos q q
      have p4 : 0 ≤ a * c := by
        rcases Int.lt_or_le (a * c) 0 with q | q
        · have := Int.mul_neg_of_neg_of_pos q p1; omega
        · exact q
      omega
    · subst hd
      have := Int.mul_pos hb hc
      omega
  · subst hb
    rcases hw with hd | ⟨hd, hc⟩
    · have := Int.mul_pos ha hd
      omega
    · subst hd
      have := Int.mul_pos ha hc
      omega
theorem gl_near {a b x : V} (h : GL a b x) (hab : lowV a b) : x = a ∨ x = b ∨ 0 < cr (vsub b a) (vsub x a) ∨ (cr (vsub b a) (vsub x a) = 0 ∧ sqZ (x.1 - a.1) (x.2 - a.2) < sqZ (b.1 - a.1) (b.2 - a.2)) := by
  rcases h with h | ⟨h, h1, h2⟩
  · exact .inr (.inr (.inl h))
  · rcases lowV_or x a with g | g | g
    · exact absurd g h1
    · exact .inl g
    · rcases lowV_or x b with k | k | k
      · refine .inr (.inr (.inr ⟨h, ?_⟩))
        have e : sd a b x = cr (vsub b x) (vsub x a) := by unfold sd cr vsub; grind
        have d := dot_up (lowV_dup.1 k) (lowV_dup.1 g) (by omega)
        have d2 := dot_up (lowV_dup.1 k) (lowV_dup.1 k) (cr_self _)
        have e2 : sqZ (b.1 - a.1) (b.2 - a.2) = sqZ (x.1 - a.1) (x.2 - a.2) + 2 * ((vsub b x).1 * (vsub x a).1 + (vsub b x).2 * (vsub x a).2) + ((vsub b x).1 * (vsub b x).1 + (vsub b x).2 * (vsub b x).2) := by unfold sqZ vsub; grind
        omega
      · exact .inr (.inl k)
      · exact absurd k h2
theorem gl_near_dn {a b x : V} (h : GL (vneg a) (vneg b) (vneg x)) (hab : lowV b a) : x = a ∨ x = b ∨ 0 < cr (vsub b a) (vsub x a) ∨ (cr (vsub b a) (vsub x a) = 0 ∧ sqZ (x.1 - a.1) (x.2 - a.2) < sqZ (b.1 - a.1) (b.2 - a.2)) := by
  have nn : ∀ {a b : V}, vneg a = vneg b → a = b := fun {a b} q => by rw [← vneg_neg a, q, vneg_neg]
  have hs : cr (vsub (vneg b) (vneg a)) (vsub (vneg x) (vneg a)) = cr (vsub b a) (vsub x a) := sd_neg a b x
  have e1 : sqZ ((vneg x).1 - (vneg a).1) ((vneg x).2 - (vneg a).2) = sqZ (x.1 - a.1) (x.2 - a.2) := by unfold sqZ vneg; grind
  have e2 : sqZ ((vneg b).1 - (vneg a).1) ((vneg b).2 - (vneg a).2) = sqZ (b.1 - a.1) (b.2 - a.2) := by unfold sqZ vneg; grind
  rcases gl_near h (lowV_neg.2 hab) with q | q | q
  · exact .inl (nn q)
  · exact .inr (.inl (nn q))
  · rw [hs, e1, e2] at q
    exact .inr (.inr q)
theorem wn_gen {l : List V} {a b : V} (ne : b ≠ a) (h : ∀ x ∈ l, x = a ∨ x = b ∨ 0 < cr (vsub b a) (vsub x a) ∨ (cr (vsub b a) (vsub x a) = 0 ∧ sqZ (x.1 - a.1) (x.2 - a.2) < sqZ (b.1 - a.1) (b.2 - a.2))) :
    ∀ k, k ≤ l.length → (wnTo l a k = a ∨ wnTo l a k ∈ l) ∧ ((∃ i, i < k ∧ ptL l i = b) → wnTo l a k = b)
  | 0, _ => ⟨.inl rfl, fun ⟨i, h, _⟩ => by omega⟩
  | k + 1, hk => by
    obtain ⟨h1, h2⟩ := wn_gen ne h k (by omega)
    have hp := ptL_mem (l := l) (k := k) (by omega)
    rw [wnTo, wnStep]
    refine ⟨?_, fun ⟨i, hi, e⟩ => ?_⟩
    · split
      · exact h1
      · split
        · exact .inr hp
        · exact h1
    · rcases Classical.em (∃ i, i < k ∧ ptL l i = b) with g | g
      · have g2 := h2 g
        rw [g2]
        split
        · rfl
        · rename_i hna
          rw [if_neg]
          rcases h _ hp with z | z | z | z
          · exact absurd z hna
          · rw [z]
            rintro (q | q | ⟨q1, q2⟩)
            · exact ne q
            · rw [cr_self] at q; omega
            · omega
          · rintro (q | q | ⟨q1, q2⟩)
            · exact ne q
            · omega
            · omega
          · rintro (q | q | ⟨q1, q2⟩)
            · exact ne q
            · omega
            · omega
      · have : i = k := by
          rcases Nat.lt_or_ge i k with q | q
          · exact absurd ⟨i, q, e⟩ g
          · omega
        subst this
        rw [e, if_neg ne]
        split
        · rfl
        · rename_i hno
          rcases h1 with q | q
          · exact absurd (.inl q) hno
          · have l1 := h _ q
            generalize wnTo l a i = nx at *
            have sw : cr (vsub nx a) (vsub b a) = -cr (vsub b a) (vsub nx a) := cr_swap _ _
            rcases l1 with z | z | z | ⟨z, z2⟩
            · exact absurd (.inl z) hno
            · exact z
            · exact absurd (.inr (.inl (by omega))) hno
            · exact absurd (.inr (.inr ⟨by omega, z2⟩)) hno
/-- a list whose cyclic neighbours follow each other when wrapping is what wrapping gives -/
theorem wrap_cyc {l D : List V} (hN : 0 < D.length) (hm : ∀ t, t < D.length → cyP D t ∈ l) (next : ∀ t, t < D.length → wnTo l (cyP D t) l.length = cyP D (t + 1)) (ne : ∀ t, t < D.length → cyP D (t + 1) ≠ cyP D t)
    (h0 : ∀ p ∈ l, ¬ lowV p (cyP D 0)) (hs : ∀ t, 0 < t → t < D.length → cyP D t ≠ cyP D 0) (hn : D.length ≤ l.length) : wrapL l = D := by
  have first : wfTo l l.length = cyP D 0 := (wf_spec (by omega) h0 l.length (Nat.le_refl _)).2 (by
    obtain ⟨k, hk, e⟩ := mem_ptL (hm 0 hN)
    exact ⟨k, hk, e⟩)
  have pt : ∀ t, (ht : t < D.length) → cyP D t = D[t] := fun t ht => by rw [cyP_lt ht]; unfold px py; simp [ht]
  have go : ∀ k t, t < D.length → D.length ≤ k + t → wrGo l (cyP D 0) k (D.take (t + 1)) (cyP D t) = D := by
    intro k
    induction k with
    | zero => intro t h1 h2; omega
    | succ k ih =>
      intro t h1 h2
      rw [wrGo, next t h1]
      rcases Nat.lt_or_ge (t + 1) D.length with g | g
      · rw [if_neg (by rintro (q | q); exact hs (t + 1) (by omega) g q; exact ne t h1 q)]
        have e : D.take (t + 1) ++ [cyP D (t + 1)] = D.take (t + 1 + 1) := by rw [pt _ g, List.take_append_getElem]
        rw [e]
        exact ih (t + 1) g (by omega)
      · have e : t + 1 = D.length := by omega
        have p0 : cyP D D.length = cyP D 0 := by unfold cyP; rw [Nat.mod_self, Nat.zero_mod]
        rw [if_pos (.inl (by rw [e, p0]))]
        exact List.take_of_length_le (by omega)
  unfold wrapL
  rw [if_neg (by omega), first]
  have e1 : D.take (0 + 1) = [cyP D 0] := by
    rw [pt 0 (by omega)]
    cases D with
    | nil => simp at hN
    | cons a D => simp
  rw [← e1]
  exact go l.length 0 (by omega) (by omega)
theorem nodup_len : ∀ (D l : List V), D.Nodup → (∀ x ∈ D, x ∈ l) → D.length ≤ l.length
  | [], l, _, _ => by simp
  | x :: D, l, h, hs => by
    have hx := hs x (by simp)
    have hd := List.nodup_cons.1 h
    have ih := nodup_len D (l.erase x) hd.2 (fun y hy => (List.mem_erase_of_ne (fun e => by subst e; exact hd.1 hy)).2 (hs y (by simp [hy])))
    rw [List.length_erase_of_mem hx] at ih
    have := List.length_pos_of_mem hx
    simp only [List.length_cons]
    omega

theorem ptL_app_l {A B : List V} {i : Nat} (h : i < A.length) : ptL (A ++ B) i = ptL A i := by
  rw [ptL_get (by rw [List.length_append]; omega), ptL_get h, List.getElem_append_left h]
theorem ptL_app_r {A B : List V} {i : Nat} (h : i < B.length) : ptL (A ++ B) (A.length + i) = ptL B i := by
  rw [ptL_get (by rw [List.length_append]; omega), ptL_get h, List.getElem_append_right (by omega)]
  simp
theorem ptL_dropLast {A : List V} {i : Nat} (h : i < A.length - 1) : ptL A.dropLast i = ptL A i := by
  rw [ptL_get (by simpa using h), ptL_get (by omega), List.getElem_dropLast]
theorem cyP_at {D : List V} {t : Nat} (h : t < D.length) : cyP D t = ptL D t := cyP_lt h
theorem cyP_wrap {D : List V} : cyP D D.length = cyP D 0 := by unfold cyP; rw [Nat.mod_self, Nat.zero_mod]
/-- what holds of the hull of some points -/
structure HulOk (l D : List V) : Prop where
  two : 2 ≤ D.length
  mem : ∀ t, t < D.length → cyP D t ∈ l
  near : ∀ t, t < D.length → ∀ x ∈ l, x = cyP D t ∨ x = cyP D (t + 1) ∨ 0 < cr (vsub (cyP D (t + 1)) (cyP D t)) (vsub x (cyP D t)) ∨ (cr (vsub (cyP D (t + 1)) (cyP D t)) (vsub x (cyP D t)) = 0 ∧ sqZ (x.1 - (cyP D t).1) (x.2 - (cyP D t).2) < sqZ ((cyP D (t + 1)).1 - (cyP D t).1) ((cyP D (t + 1)).2 - (cyP D t).2))
  ne : ∀ t, t < D.length → cyP D (t + 1) ≠ cyP D t
  low : ∀ p ∈ l, ¬ lowV p (cyP D 0)
  inj : ∀ s t, s < t → t < D.length → cyP D s ≠ cyP D t
  out : ∀ t k, t < D.length → k < D.length → k ≠ t → k ≠ (t + 1) % D.length → 0 < sd (cyP D t) (cyP D (t + 1)) (cyP D k)
theorem HulOk.mem' {l D : List V} (h : HulOk l D) : ∀ x ∈ D, x ∈ l := fun x hx => by
  obtain ⟨k, hk, e⟩ := mem_ptL hx
  rw [← e, ← cyP_at hk]
  exact h.mem k hk
theorem HulOk.len {l D : List V} (h : HulOk l D) : D.length ≤ l.length := by
  refine nodup_len D l ?_ h.mem'
  rw [List.Nodup, List.pairwise_iff_getElem]
  intro i j hi hj hij
  have := h.inj i j hij hj
  rwa [cyP_at hi, cyP_at hj, ptL_get hi, ptL_get hj] at this
theorem HulOk.wrap {l D : List V} (h : HulOk l D) : wrapL l = D := by
  have h2 := h.two
  have hnext : ∀ t, t < D.length → cyP D (t + 1) ∈ l := fun t ht => by
    rcases Nat.lt_or_ge (t + 1) D.length with g | g
    · exact h.mem _ g
    · rw [show t + 1 = D.length by omega, cyP_wrap]
      exact h.mem 0 (by omega)
  refine wrap_cyc (by omega) h.mem (fun t ht => ?_) h.ne h.low (fun t h1 ht => fun e => h.inj 0 t h1 ht e.symm) h.len
  obtain ⟨k, hk, e⟩ := mem_ptL (hnext t ht)
  exact (wn_gen (h.ne t ht) (h.near t ht) l.length (Nat.le_refl _)).2 ⟨k, hk, e⟩
theorem HulOk.self {l D : List V} (h : HulOk l D) : HulOk D D := ⟨h.two, fun t ht => by rw [cyP_at ht]; exact ptL_mem ht, fun t ht x hx => h.near t ht x (h.mem' x hx), h.ne, fun p hp => h.low p (h.mem' p hp), h.inj, h.out⟩
theorem HulOk.left {l D : List V} (h : HulOk l D) {t : Nat} (ht : t < D.length) {x : V} (hx : x ∈ l) : 0 ≤ sd (cyP D t) (cyP D (t + 1)) x := by
  rcases h.near t ht x hx with q | q | q | ⟨q, -⟩
  · rw [q, sd_l]; omega
  · rw [q, sd_r]; omega
  · unfold sd; omega
  · unfold sd; omega
theorem pw_first {p : List V} (h : p.Pairwise lowV) : ∀ x ∈ p, ¬ lowV x (ptL p 0) := fun x hx => by
  cases p with
  | nil => cases hx
  | cons a p =>
    show ¬ lowV x a
    rcases List.mem_cons.1 hx with rfl | hx
    · exact lowV_irr _
    · exact lowV_as ((List.pairwise_cons.1 h).1 x hx)
theorem hul_ok {p l : List V} (hp : p.Pairwise lowV) (hm : ∀ x, x ∈ p ↔ x ∈ l) (h2 : 2 ≤ p.length) : HulOk l (hulV p) := by
  have h0 : p ≠ [] := by rintro rfl; simp at h2
  obtain ⟨hu, u0, u1, u2⟩ := ch_up hp h0
  obtain ⟨hd, d0, d1, d2⟩ := ch_down hp h0
  obtain ⟨A, hA⟩ : ∃ A, A = (chV p).reverse := ⟨_, rfl⟩
  obtain ⟨B, hB⟩ : ∃ B, B = (chV p.reverse).reverse := ⟨_, rfl⟩
  have eA : (chV p).length = A.length := by rw [hA, List.length_reverse]
  have eB : (chV p.reverse).length = B.length := by rw [hB, List.length_reverse]
  have tr : ∀ s : List V, s.tail.reverse = s.reverse.dropLast := fun s => by simp
  have hD : hulV p = A.dropLast ++ B.dropLast := by unfold hulV; rw [tr, tr, ← hA, ← hB]
  rw [hD]
  rw [eA, ← hA] at hu u2
  rw [← hA] at u1
  rw [eA] at u0
  rw [eB, ← hB] at hd d2
  rw [← hB] at d1
  rw [eB] at d0
  clear hA hB eA eB hD
  obtain ⟨m, hM⟩ : ∃ m, m = A.length - 1 := ⟨_, rfl⟩
  obtain ⟨r, hR⟩ : ∃ r, r = B.length - 1 := ⟨_, rfl⟩
  rw [← hM] at hu u2
  rw [← hR] at hd d2
  obtain ⟨D, hD⟩ : ∃ D, D = A.dropLast ++ B.dropLast := ⟨_, rfl⟩
  rw [← hD]
  have hN : D.length = m + r := by rw [hD, List.length_append, List.length_dropLast, List.length_dropLast, hM, hR]
  have lh : lowV (ptL p 0) (ptL p (p.length - 1)) := by
    rw [ptL_get (by omega), ptL_get (by omega)]
    exact List.pairwise_iff_getElem.1 hp 0 (p.length - 1) (by omega) (by omega) (by omega)
  have m0 : 0 < m := by
    rcases Nat.eq_zero_or_pos m with q | q
    · rw [q, u1] at u2; rw [← u2] at lh; exact absurd lh (lowV_irr _)
    · exact q
  have r0 : 0 < r := by
    rcases Nat.eq_zero_or_pos r with q | q
    · rw [q, d1] at d2; rw [← d2] at lh; exact absurd lh (lowV_irr _)
    · exact q
  have vw : ptL A m = ptL B 0 := by rw [u2, d1]
  have wv : ptL B r = ptL A 0 := by rw [d2, u1]
  have atU : ∀ t, t < m → cyP D t = ptL A t := fun t ht => by
    rw [cyP_at (by omega), hD, ptL_app_l (by rw [List.length_dropLast]; omega), ptL_dropLast (by omega)]
  have atW : ∀ j, j < r → cyP D (m + j) = ptL B j := fun j hj => by
    have e : A.dropLast.length = m := by rw [List.length_dropLast, hM]
    rw [cyP_at (by omega), hD, ← e, ptL_app_r (by rw [List.length_dropLast]; omega), ptL_dropLast (by omega)]
  have atU1 : ∀ t, t < m → cyP D (t + 1) = ptL A (t + 1) := fun t ht => by
    rcases Nat.lt_or_ge (t + 1) m with g | g
    · exact atU _ g
    · have := atW 0 r0
      rw [show t + 1 = m by omega, vw]
      exact this
  have atW1 : ∀ j, j < r → cyP D (m + j + 1) = ptL B (j + 1) := fun j hj => by
    rcases Nat.lt_or_ge (j + 1) r with g | g
    · exact atW (j + 1) g
    · have e := atU 0 m0
      rw [show m + j + 1 = D.length by omega, cyP_wrap, e, show j + 1 = r by omega, wv]
  have two : ∀ t, t < D.length → t < m ∨ ∃ j, j < r ∧ t = m + j := fun t ht => by
    rcases Nat.lt_or_ge t m with g | g
    · exact .inl g
    · exact .inr ⟨t - m, by omega, by omega⟩
  have memA : ∀ i, i ≤ m → ptL A i ∈ l := fun i hi => (hm _).1 (hu.mem i hi)
  have memB : ∀ i, i ≤ r → ptL B i ∈ l := fun i hi => (hm _).1 (hd.dmem hi)
  have hmem : ∀ t, t < D.length → cyP D t ∈ l := fun t ht => by
    rcases two t ht with g | ⟨j, hj, rfl⟩
    · rw [atU t g]; exact memA t (by omega)
    · rw [atW j hj]; exact memB j (by omega)
  have hinj : ∀ s t, s < t → t < D.length → cyP D s ≠ cyP D t := fun s t hst ht => by
    rcases two t ht with g | ⟨j, hj, rfl⟩
    · rw [atU t g, atU s (by omega)]
      intro e
      have := hu.up hst (by omega)
      rw [e] at this
      exact lowV_irr _ this
    · rw [atW j hj]
      rcases two s (by omega) with g | ⟨i, hi, rfl⟩
      · rw [atU s g]
        intro e
        cases s with
        | zero =>
          have := hd.dn hj (Nat.le_refl _)
          rw [← e, wv] at this
          exact lowV_irr _ this
        | succ s =>
          cases j with
          | zero =>
            have := hu.up g (Nat.le_refl _)
            rw [e, vw] at this
            exact lowV_irr _ this
          | succ j => exact chB hu hd g (by omega) e
      · rw [atW i hi]
        intro e
        have := hd.dn (show i < j by omega) (by omega)
        rw [e] at this
        exact lowV_irr _ this
  have hne2 : ∀ t k, t < D.length → k < D.length → k ≠ t → cyP D k ≠ cyP D t := fun t k ht hk h => by
    rcases Nat.lt_or_gt_of_ne h with g | g
    · exact hinj _ _ g ht
    · exact (hinj _ _ g hk).symm
  refine ⟨by omega, hmem, fun t ht x hx => ?_, fun t ht => ?_, fun x hx => ?_, hinj, fun t k ht hk h1 h2 => ?_⟩
  · have hx' := (hm x).2 hx
    rcases two t ht with g | ⟨j, hj, rfl⟩
    · rw [atU t g, atU1 t g]
      exact gl_near (hu.gl t g x hx') (hu.lt t g)
    · rw [atW j hj, atW1 j hj]
      exact gl_near_dn (hd.gl j hj (vneg x) (by show vneg (vneg x) ∈ p; rwa [vneg_neg])) (hd.dn (Nat.lt_succ_self j) hj)
  · rcases two t ht with g | ⟨j, hj, rfl⟩
    · rw [atU t g, atU1 t g]
      intro e
      have := hu.lt t g
      rw [e] at this
      exact lowV_irr _ this
    · rw [atW j hj, atW1 j hj]
      intro e
      have := hd.dn (Nat.lt_succ_self j) hj
      rw [e] at this
      exact lowV_irr _ this
  · rw [atU 0 m0, u1]
    exact pw_first hp x ((hm x).2 hx)
  · have k1 := hne2 t k ht hk h1
    have k2 : cyP D k ≠ cyP D (t + 1) := by
      rcases Nat.lt_or_ge (t + 1) D.length with g | g
      · rw [Nat.mod_eq_of_lt g] at h2
        exact hne2 _ _ g hk h2
      · have e : t + 1 = D.length := by omega
        rw [e, Nat.mod_self] at h2
        rw [e, cyP_wrap]
        exact hne2 _ _ (by omega) hk h2
    have hx := hmem k hk
    rcases two t ht with g | ⟨j, hj, rfl⟩
    · rw [atU t g, atU1 t g] at *
      rcases hu.gl t g _ ((hm _).2 hx) with z | ⟨z, z1, z2⟩
      · exact z
      · exfalso
        have l1 : lowV (ptL A t) (cyP D k) := by
          rcases lowV_or (cyP D k) (ptL A t) with q | q | q
          · exact absurd q z1
          · exact absurd q k1
          · exact q
        have l2 : lowV (cyP D k) (ptL A (t + 1)) := by
          rcases lowV_or (cyP D k) (ptL A (t + 1)) with q | q | q
          · exact q
          · exact absurd q k2
          · exact absurd q z2
        rcases two k hk with q | ⟨i, hi, rfl⟩
        · rw [atU k q] at *
          rcases Nat.lt_or_ge k t with q1 | q1
          · exact lowV_as l1 (hu.up q1 (by omega))
          · rcases Nat.lt_or_ge (t + 1) k with q2 | q2
            · exact lowV_as l2 (hu.up q2 (by omega))
            · rcases Nat.lt_or_ge t k with q3 | q3
              · exact k2 (by rw [show k = t + 1 by omega])
              · exact k1 (by rw [show k = t by omega])
        · rw [atW i hi] at *
          cases i with
          | zero =>
            rw [← vw] at l2
            rcases Nat.lt_or_ge (t + 1) m with q2 | q2
            · exact lowV_as l2 (hu.up q2 (Nat.le_refl _))
            · rw [show t + 1 = m by omega] at l2
              exact lowV_irr _ l2
          | succ i => exact chA hu hd g hi l1 l2 z
    · rw [atW j hj, atW1 j hj] at *
      have hgl := hd.gl j hj (vneg (cyP D k)) (by show vneg (vneg _) ∈ p; rw [vneg_neg]; exact (hm _).2 hx)
      rcases hgl with z | ⟨z, z1, z2⟩
      · rwa [sd_neg] at z
      · exfalso
        rw [lowV_neg] at z1 z2
        have l1 : lowV (cyP D k) (ptL B j) := by
          rcases lowV_or (cyP D k) (ptL B j) with q | q | q
          · exact q
          · exact absurd q k1
          · exact absurd q z1
        have l2 : lowV (ptL B (j + 1)) (cyP D k) := by
          rcases lowV_or (cyP D k) (ptL B (j + 1)) with q | q | q
          · exact absurd q z2
          · exact absurd q k2
          · exact q
        rcases two k hk with q | ⟨i, hi, rfl⟩
        · rw [atU k q] at *
          cases k with
          | zero =>
            rw [← wv] at l2
            rcases Nat.lt_or_ge (j + 1) r with q2 | q2
            · exact lowV_as l2 (hd.dn q2 (Nat.le_refl _))
            · rw [show j + 1 = r by omega] at l2
              exact lowV_irr _ l2
          | succ k =>
            have hud : Ch (fun x => (fun y => vneg y ∈ p) (vneg x)) m (fun i => vneg (vneg (ptL A i))) := by
              have e1 : (fun x => (fun y => vneg y ∈ p) (vneg x)) = (· ∈ p) := by funext x; show (vneg (vneg x) ∈ p) = _; rw [vneg_neg]
              have e2 : (fun i => vneg (vneg (ptL A i))) = ptL A := by funext i; rw [vneg_neg]
              rw [e1, e2]
              exact hu
            exact chA (P := fun y => vneg y ∈ p) (w := fun i => vneg (ptL A i)) hd hud hj q (lowV_neg.2 l1) (lowV_neg.2 l2) z
        · rw [atW i hi] at *
          rcases Nat.lt_or_ge i j with q1 | q1
          · exact lowV_as l1 (hd.dn q1 (by omega))
          · rcases Nat.lt_or_ge (j + 1) i with q2 | q2
            · exact lowV_as l2 (hd.dn q2 (by omega))
            · rcases Nat.lt_or_ge j i with q3 | q3
              · exact k2 (by rw [show i = j + 1 by omega])
              · exact k1 (by rw [show i = j by omega])
/-- fewer than two different points -/
theorem hul_few {p l : List V} (hm : ∀ x, x ∈ p ↔ x ∈ l) (h2 : p.length < 2) : hulV p = [] ∧ (wrapL l).length < 3 := by
  rcases p with _ | ⟨a, _ | ⟨b, p⟩⟩
  · refine ⟨rfl, ?_⟩
    have : l = [] := by
      cases l with
      | nil => rfl
      | cons y l => have := (hm y).2 (by simp); cases this
    subst this
    simp [wrapL]
  · refine ⟨rfl, ?_⟩
    have ha : ∀ x ∈ l, x = a := fun x hx => by simpa using (hm x).2 hx
    have hl : l.length ≠ 0 := fun e => by
      have := (hm a).1 (by simp)
      rw [List.length_eq_zero_iff.1 e] at this
      cases this
    have hf : wfTo l l.length = a := ha _ (wf_spec (d := a) (by omega) (fun x hx => by rw [ha x hx]; exact lowV_irr _) l.length (Nat.le_refl _)).1
    have hw : ∀ k, k ≤ l.length → wnTo l a k = a := by
      intro k
      induction k with
      | zero => intro _; rfl
      | succ k ih =>
        intro hk
        rw [wnTo, ih (by omega), wnStep, if_pos (ha _ (ptL_mem (by omega)))]
    unfold wrapL
    rw [if_neg hl, hf]
    obtain ⟨n, hn⟩ : ∃ n, l.length = n + 1 := ⟨l.length - 1, by omega⟩
    have e : wnTo l a l.length = a := hw _ (Nat.le_refl _)
    have e2 : wrGo l a l.length [a] a = [a] := by
      have : ∀ N, wrGo l a N [a] a = [a] := fun N => by
        cases N with
        | zero => rfl
        | succ N => rw [wrGo, e, if_pos (.inl rfl)]
      exact this _
    rw [e2]
    simp
  · simp only [List.length_cons] at h2
    omega
/-- the hull's answer and its list -/
def hullE (l : List V) : Int := if 64 < l.length then 2 else if allWithin 65536000 l = false then 1 else if (wrapL l).length < 3 then 3 else if 8 < (wrapL l).length then 6 else 0
def hullL (l : List V) : List V := if hullE l = 0 then wrapL l else []
theorem hul_len {p l : List V} (hp : p.Pairwise lowV) (hm : ∀ x, x ∈ p ↔ x ∈ l) : ((hulV p).length < 3 ↔ (wrapL l).length < 3) ∧ (¬ (hulV p).length < 3 → wrapL l = hulV p) := by
  rcases Nat.lt_or_ge p.length 2 with g | g
  · obtain ⟨h1, h2⟩ := hul_few hm g
    rw [h1]
    refine ⟨⟨fun _ => h2, fun _ => by simp⟩, fun h => absurd (by simp) h⟩
  · have := (hul_ok hp hm g).wrap
    rw [this]
    exact ⟨Iff.rfl, fun _ => rfl⟩
end Go.Proofs.Ytldlogcpnfmomaa
