/- Parts of a proof: contracts and laws. -/
import Derived.Test.YtienmhgbildhhaaB10
import Derived.Test.YtienmhgbildhhaaB04
import Derived.BigQuiet
import Derived.Test.YtienmhgbildhhaaB27
import Derived.Test.YtienmhgbildhhaaB32
import Derived.Test.YtienmhgbildhhaaB42
import Derived.Test.YtienmhgbildhhaaB26
import Derived.Test.YtienmhgbildhhaaB53
namespace Go.Proofs.Ytienmhgbildhhaa
section
set_option linter.unusedVariables false
set_option linter.unusedSimpArgs false
open Go.RowKit
set_option maxRecDepth 100000 in
set_option maxHeartbeats 1000000 in
theorem equalI_calls (A B : Option Addr) (n c m c' : Nat) (l r : List Int) (w : World) (hS : SlI w A n c l) (hR : SlI w B m c' r) :
    Calls Try.prog 45 #[.slice A n c, .slice B m c'] w (Ret (.bool (decide (l = r))) w) := by
  have hn := hS.len
  have hm := hR.len
  subst hn hm
  have h1 := hS.cap
  have h2 := hS.big
  have h3 := hR.cap
  have h4 := hR.big
  by_cases hl : l.length = r.length
  · have HS := hid hS
    have HR := hid hR
    clear hS hR
    go_enter Try.func45, Try.ntmps45
    go_wp2
    go_loopw [13] (fun i wr => ∃ k : Nat, k ≤ l.length ∧ i = .int .i64 k ∧ (∀ j, j < k → l[j]? = r[j]?) ∧ Below w.heap.size w wr) (fun i _ => l.length - (intOf i).toNat)
    case atStart => exact ⟨0, Nat.zero_le _, rfl, fun j hj => absurd hj (by omega), Below.refl _ _⟩
    case round =>
      obtain ⟨k, hk, rfl, heq, hB⟩ := hrel
      have HQ := hid heq
      clear heq
      by_cases hlt : k < l.length
      · obtain ⟨b, off, rfl, hlb, hC⟩ := (HS.out.below hB).at_ (by intro h; subst h; simp at hlt)
        obtain ⟨b2, off2, rfl, hlb2, hD⟩ := (HR.out.below hB).at_ (by intro h; rw [h] at hl; simp at hl; rw [hl] at hlt; simp at hlt)
        have hlt4 : k < r.length := by omega
        have hx := hC k hlt
        have hx2 := hD k hlt4
        have hlt2 : (k : Int) < (r.length : Int) := by omega
        have hlt3 : (k : Int) < (l.length : Int) := by omega
        have e1 : l.getD k 0 = l[k] := by simp [hlt]
        have e2 : r.getD k 0 = r[k] := by simp [hlt4]
        rw [e1] at hx
        rw [e2] at hx2
        clear e1 e2
        have HL := hid (show l[k]? = some l[k] from List.getElem?_eq_getElem hlt)
        have HR2 := hid (show r[k]? = some r[k] from List.getElem?_eq_getElem hlt4)
        clear hC hD
        generalize l[k] = u at *
        generalize r[k] = v at *
        by_cases v1 : u = v
        · subst v1
          have HE := hid (show l[k]? = r[k]? by rw [HL.out, HR2.out])
          go_wp2_with fail
          go_quiet (fail)
          have hB2 := below_drewN' hB nq
          go_wp2
          exact ⟨⟨k + 1, hlt, by go_num, fun j hj => by
            by_cases e : j = k
            · subst e; exact HE.out
            · exact HQ.out j (by omega), hB2⟩, by simp [intOf]; omega⟩
        · have hne : Hid (l ≠ r) := fun h => v1 (by have h2 := HR2.out; rw [← h, HL.out] at h2; exact Option.some.inj h2)
          have v3 : (u == v) = false := by simp [v1]
          go_wp2_with fail
          go_quiet (fail)
          have hB2 := below_drewN' hB nq
          go_wp2
          go_returns
          exact ret_bool (by simp [hne.out]) hB2
      · have he : Hid (l = r) := List.ext_getElem? fun j => by
          rcases Nat.lt_or_ge j l.length with g | g
          · exact HQ.out j (by omega)
          · rw [List.getElem?_eq_none g, List.getElem?_eq_none (by omega)]
        go_wp2
        go_returns
        exact ret_bool (by simp [he.out]) hB
  · have hne : Hid (l ≠ r) := fun h => hl (by rw [h])
    have hlb : ((l.length : Int) == (r.length : Int)) = false := by simp; omega
    clear hS hR
    go_enter Try.func45, Try.ntmps45
    go_wp2
    go_returns
    exact ret_bool (by simp [hne.out]) (Below.refl _ _)
end
end Go.Proofs.Ytienmhgbildhhaa
namespace Go.Proofs.Ytienmhgbildhhaa
section
set_option linter.unusedVariables false
set_option linter.unusedSimpArgs false
open Go.RowKit
theorem lineR_none {D : List V} {f u : V} (h : lineR D f u = none) {N L : Int} (hL : 0 < L) (h0 : 0 ≤ N) (h1 : N ≤ L) : ¬ ∀ t, t < D.length → 0 ≤ L * rnum D f t - N * rden D u t := fun hin => by
  have ok := ln_ok (rnum D f) (rden D u) D.length
  unfold lineR at h
  generalize lnF (rnum D f) (rden D u) D.length = s at ok h
  match s, ok, h with
  | none, ok, h =>
    obtain ⟨t, ht, hd, hn⟩ := ok
    have := hin t ht
    rw [hd, Int.mul_zero, Int.sub_zero] at this
    have := Int.mul_pos hL (show 0 < -rnum D f t by omega)
    rw [Int.mul_neg] at this
    omega
  | some (e, v), ok, h =>
    obtain ⟨e2, v2, e1, hv, -, hx⟩ := ok
    have h : (if v.1 * e.2 < e.1 * v.2 then none else some (e.1 * 65536 / e.2)) = none := h
    by_cases c : v.1 * e.2 < e.1 * v.2
    · obtain ⟨a, b⟩ := (hx N L hL h0 h1).1 hin
      have p1 := Int.mul_le_mul_of_nonneg_right a (show 0 ≤ v.2 by omega)
      have p2 := Int.mul_le_mul_of_nonneg_right b (show 0 ≤ e.2 by omega)
      have p3 := Int.mul_lt_mul_of_pos_right c hL
      have e3 : e.1 * L * v.2 = e.1 * v.2 * L := by grind
      have e4 : v.1 * L * e.2 = v.1 * e.2 * L := by grind
      have e5 : N * e.2 * v.2 = N * v.2 * e.2 := by grind
      omega
    · rw [if_neg c] at h; cases h
theorem lineR_some {D : List V} {f u : V} {T : Int} (h : lineR D f u = some T) : ∃ N L : Int, 0 < L ∧ 0 ≤ N ∧ N ≤ L ∧ T = N * 65536 / L ∧ ∀ t, t < D.length → 0 ≤ L * rnum D f t - N * rden D u t := by
  have ok := ln_ok (rnum D f) (rden D u) D.length
  unfold lineR at h
  generalize lnF (rnum D f) (rden D u) D.length = s at ok h
  match s, ok, h with
  | none, ok, h => cases h
  | some (e, v), ok, h =>
    obtain ⟨e2, v2, e1, hv, -, hx⟩ := ok
    have h : (if v.1 * e.2 < e.1 * v.2 then none else some (e.1 * 65536 / e.2)) = some T := h
    by_cases c : v.1 * e.2 < e.1 * v.2
    · rw [if_pos c] at h; cases h
    · rw [if_neg c] at h
      cases h
      have p1 := Int.mul_le_mul_of_nonneg_right hv (show 0 ≤ e.2 by omega)
      have p2 : e.1 * v.2 ≤ e.2 * v.2 := by rw [Int.mul_comm e.2]; omega
      have hle : e.1 ≤ e.2 := Int.le_of_mul_le_mul_right p2 v2
      refine ⟨e.1, e.2, e2, e1, hle, rfl, (hx e.1 e.2 e2 e1 hle).2 ⟨by omega, by omega⟩⟩
theorem rnd_in (D : List V) (f u : V) (N L : Int) (t : Nat) : L * rnum D f t - N * rden D u t = cr (vsub (cyP D (t + 1)) (cyP D t)) (vsub (L * f.1 + N * u.1, L * f.2 + N * u.2) (L * (cyP D t).1, L * (cyP D t).2)) := by
  unfold rnum rden cr vsub
  grind

theorem line_inP {D : List V} (h0 : 0 < D.length) {f u : V} {N L : Int} : (∀ t, t < D.length → 0 ≤ L * rnum D f t - N * rden D u t) ↔ inP (cyP D) (L * f.1 + N * u.1, L * f.2 + N * u.2) L := by
  constructor
  · intro h
    exact per_all (p := fun a b => 0 ≤ cr (vsub b a) (vsub (L * f.1 + N * u.1, L * f.2 + N * u.2) (L * a.1, L * a.2))) h0 (fun t ht => by rw [← rnd_in]; exact h t ht)
  · intro h t _
    rw [rnd_in]
    exact h t
theorem pol_scY {N : Nat} {P : Nat → V} (h : Pol N P) {L : Int} (hL : 0 < L) (Y : V) : Pol N (fun t => (L * (P t).1 - Y.1, L * (P t).2 - Y.2)) := by
  have e : ∀ a b c d : Nat, cr (vsub (L * (P a).1 - Y.1, L * (P a).2 - Y.2) (L * (P b).1 - Y.1, L * (P b).2 - Y.2)) (vsub (L * (P c).1 - Y.1, L * (P c).2 - Y.2) (L * (P d).1 - Y.1, L * (P d).2 - Y.2)) = L * L * cr (vsub (P a) (P b)) (vsub (P c) (P d)) := fun a b c d => by unfold cr vsub; grind
  refine ⟨h.pos, fun t => by simp only [h.per], fun t => ?_, fun t j => ?_⟩
  · show 0 < cr (vsub _ _) (vsub _ _)
    rw [e]
    exact Int.mul_pos (Int.mul_pos hL hL) (h.turn t)
  · show 0 ≤ cr (vsub _ _) (vsub _ _)
    rw [e]
    exact Int.mul_nonneg (Int.mul_nonneg (by omega) (by omega)) (h.left t j)

theorem hull_dir {N : Nat} {P : Nat → V} (h : Pol N P) {L : Int} (hL : 0 < L) {Y : V} (hY : inP P Y L) (e : V) : ¬ ∀ t, 0 < cr e (vsub (L * (P t).1, L * (P t).2) Y) := fun hall => by
  refine half_contra (pol_scY h hL Y) (vneg e) (fun t => ?_) (fun t => ?_)
  · have := hall t
    rw [cr_negl]
    have e2 : cr e (vsub (L * (P t).1, L * (P t).2) Y) = cr e (L * (P t).1 - Y.1, L * (P t).2 - Y.2) := rfl
    omega
  · have := hY t
    have e2 : cr (L * (P t).1 - Y.1, L * (P t).2 - Y.2) (L * (P (t + 1)).1 - Y.1, L * (P (t + 1)).2 - Y.2) = L * cr (vsub (P (t + 1)) (P t)) (vsub Y (L * (P t).1, L * (P t).2)) := by unfold cr vsub; grind
    rw [e2]
    exact Int.mul_nonneg (by omega) this

def spotL (x y h : Int) : List V := [(x - h, y - h), (x + h, y - h), (x + h, y + h), (x - h, y + h)]
theorem spot_ok {x y h : Int} (hx : -60000000 ≤ x ∧ x ≤ 60000000) (hy : -60000000 ≤ y ∧ y ≤ 60000000) (hh : h = 1 ∨ h = 64) : checkE (spotL x y h) = 0 := by
  have e : spotL x y h = movL (spotL 0 0 h) x y := by
    simp only [spotL, movL, List.map_cons, List.map_nil, List.cons.injEq, Prod.mk.injEq, and_true]
    omega
  rw [e]
  refine checkE_movL (by rcases hh with rfl | rfl <;> decide) (within_le (within_movL (m := 64) (n := 60000000) (by rcases hh with rfl | rfl <;> decide) hx hy) (by omega))
theorem spot_meets {q : List V} (hq : checkE q = 0) {Y p : V} {L h : Int} (hL : 0 < L) (hY : inP (cyP q) Y L) (hs : checkE (spotL p.1 p.2 h) = 0)
    (hx : -(h * L) ≤ Y.1 - L * p.1 ∧ Y.1 - L * p.1 ≤ h * L) (hy : -(h * L) ≤ Y.2 - L * p.2 ∧ Y.2 - L * p.2 ≤ h * L) : nmeetB q (spotL p.1 p.2 h) = true := by
  unfold nmeetB
  rw [decide_eq_true (bothE_zero.2 ⟨hq, hs⟩), Bool.true_and]
  cases hn : ninB (minusL q (spotL p.1 p.2 h)) with
  | true => rfl
  | false =>
    exfalso
    have key : ∀ e : V, ¬ Sep q (spotL p.1 p.2 h) e := fun e hsep => by
      refine hull_dir (pol_of hq) hL hY e (fun t => ?_)
      have h3 := (checkE_zero hq).2.1
      have mem : ∀ k, k < 4 → 0 < L * cr e ((cyP q t).1 - px (spotL p.1 p.2 h) k, (cyP q t).2 - py (spotL p.1 p.2 h) k) := fun k hk =>
        Int.mul_pos hL (hsep (t % q.length) k (Nat.mod_lt _ (by omega)) hk)
      have m0 : 0 < L * cr e ((cyP q t).1 - (p.1 - h), (cyP q t).2 - (p.2 - h)) := mem 0 (by omega)
      have m1 : 0 < L * cr e ((cyP q t).1 - (p.1 + h), (cyP q t).2 - (p.2 - h)) := mem 1 (by omega)
      have m2 : 0 < L * cr e ((cyP q t).1 - (p.1 + h), (cyP q t).2 - (p.2 + h)) := mem 2 (by omega)
      have m3 : 0 < L * cr e ((cyP q t).1 - (p.1 - h), (cyP q t).2 - (p.2 + h)) := mem 3 (by omega)
      generalize cyP q t = c at *
      have id : ∀ s r : Int, L * cr e (c.1 - (p.1 + s * h), c.2 - (p.2 + r * h)) = cr e (vsub (L * c.1, L * c.2) Y) + (e.1 * (Y.2 - L * p.2 - r * (h * L)) - e.2 * (Y.1 - L * p.1 - s * (h * L))) := fun s r => by unfold cr vsub; grind
      have i0 := id (-1) (-1)
      have i1 := id 1 (-1)
      have i2 := id 1 1
      have i3 := id (-1) 1
      rw [show p.1 + -1 * h = p.1 - h by omega, show p.2 + -1 * h = p.2 - h by omega] at i0
      rw [show p.1 + 1 * h = p.1 + h by omega, show p.2 + -1 * h = p.2 - h by omega] at i1
      rw [show p.1 + 1 * h = p.1 + h by omega, show p.2 + 1 * h = p.2 + h by omega] at i2
      rw [show p.1 + -1 * h = p.1 - h by omega, show p.2 + 1 * h = p.2 + h by omega] at i3
      have nn : ∀ a b : Int, 0 ≤ a → b ≤ 0 → a * b ≤ 0 := fun a b ha hb => Int.mul_nonpos_of_nonneg_of_nonpos ha hb
      have pp : ∀ a b : Int, a ≤ 0 → b ≤ 0 → 0 ≤ a * b := fun a b ha hb => Int.mul_nonneg_of_nonpos_of_nonpos ha hb
      have y1 : Y.2 - L * p.2 - 1 * (h * L) ≤ 0 := by omega
      have y2 : 0 ≤ Y.2 - L * p.2 - -1 * (h * L) := by omega
      have x1 : Y.1 - L * p.1 - 1 * (h * L) ≤ 0 := by omega
      have x2 : 0 ≤ Y.1 - L * p.1 - -1 * (h * L) := by omega
      rcases Int.le_total 0 e.1 with g1 | g1 <;> rcases Int.le_total 0 e.2 with g2 | g2
      · have a1 := nn _ _ g1 y1
        have a2 := Int.mul_nonneg g2 x2
        omega
      · have a1 := nn _ _ g1 y1
        have a2 := pp _ _ g2 x1
        omega
      · have a1 := Int.mul_nonneg (show 0 ≤ -e.1 by omega) y2
        rw [Int.neg_mul] at a1
        have a2 := Int.mul_nonneg g2 x2
        omega
      · have a1 := Int.mul_nonneg (show 0 ≤ -e.1 by omega) y2
        rw [Int.neg_mul] at a1
        have a2 := pp _ _ g2 x1
        omega
    rcases minus_sep hq hs hn with ⟨t, h⟩ | ⟨t, h⟩
    · exact key _ h
    · exact key _ h

theorem stops_free {q p : List V} (hq : checkE q = 0) (hp : checkE p = 0) {u : V} (hm : checkE (movL p u.1 u.2) = 0) (h : lineR (minusL q p) (0, 0) u = none) : nmeetB q (movL p u.1 u.2) = false := by
  have hD := minus_dif hq hp
  have hM := minus_dif hq hm
  have hno := lineR_none h (N := 1) (L := 1) (by omega) (by omega) (by omega)
  obtain ⟨t, ht, hneg⟩ : ∃ t, t < (minusL q p).length ∧ 1 * rnum (minusL q p) (0, 0) t - 1 * rden (minusL q p) u t < 0 := by
    rcases Classical.em (∃ t, t < (minusL q p).length ∧ 1 * rnum (minusL q p) (0, 0) t - 1 * rden (minusL q p) u t < 0) with g | g
    · exact g
    · exact absurd (fun t ht => by
        rcases Int.lt_or_le (1 * rnum (minusL q p) (0, 0) t - 1 * rden (minusL q p) u t) 0 with g2 | g2
        · exact absurd ⟨t, ht, g2⟩ g
        · exact g2) hno
  rw [rnd_in] at hneg
  unfold nmeetB
  rw [decide_eq_true (bothE_zero.2 ⟨hq, hm⟩), Bool.true_and]
  refine sep_out hM (e := vsub (cyP (minusL q p) (t + 1)) (cyP (minusL q p) t)) (fun j k hj hk => ?_)
  rw [movL_len] at hk
  rw [dpt2_mov hk]
  have := hD.left t j k hj hk
  generalize vsub (cyP (minusL q p) (t + 1)) (cyP (minusL q p) t) = e at *
  generalize cyP (minusL q p) t = c at *
  generalize dpt2 q p j k = d at *
  have e1 : cr e (d.1 - u.1, d.2 - u.2) = cr e (vsub d c) - cr e (vsub (1 * (0 : Int) + 1 * u.1, 1 * 0 + 1 * u.2) (1 * c.1, 1 * c.2)) := by unfold cr vsub; grind
  have e2 : cr e (vsub (1 * ((0, 0) : V).1 + 1 * u.1, 1 * ((0, 0) : V).2 + 1 * u.2) (1 * c.1, 1 * c.2)) = cr e (vsub (1 * (0 : Int) + 1 * u.1, 1 * 0 + 1 * u.2) (1 * c.1, 1 * c.2)) := rfl
  omega

theorem stops_zero {q p : List V} (hq : checkE q = 0) (hp : checkE p = 0) (u : V) (h : nmeetB q p = true) : lineR (minusL q p) (0, 0) u = some 0 := by
  have hD := minus_dif hq hp
  have h3 := hD.pol.pos
  rw [line_law hD.pol]
  unfold refLine
  rw [if_pos]
  rw [rinB_iff]
  intro t ht
  unfold nmeetB at h
  rw [decide_eq_true (bothE_zero.2 ⟨hq, hp⟩), Bool.true_and] at h
  have := (ninB_iff (by omega)).1 h t
  have e : rnum (minusL q p) (0, 0) t = cr (cyP (minusL q p) t) (cyP (minusL q p) (t + 1)) := by unfold rnum cr vsub; grind
  omega
end
end Go.Proofs.Ytienmhgbildhhaa
