/- Parts of a proof: contracts and laws. -/
import Derived.Test.YtienmhgbildhhaaB10
import Derived.Test.YtienmhgbildhhaaB04
import Derived.BigQuiet
import Derived.Test.YtienmhgbildhhaaB27
import Derived.Test.YtienmhgbildhhaaB32
import Derived.Test.YtienmhgbildhhaaB42
import Derived.Test.YtienmhgbildhhaaB26
import Derived.Test.YtienmhgbildhhaaB25
namespace Go.Proofs.Ytienmhgbildhhaa
section
set_option linter.unusedVariables false
set_option linter.unusedSimpArgs false
open Go.RowKit
set_option maxRecDepth 100000 in
set_option maxHeartbeats 1000000 in
theorem equalI_calls (A B : Option Addr) (n c m c' : Nat) (l r : List Int) (w : World) (hS : SlI w A n c l) (hR : SlI w B m c' r) :
    Calls Try.prog 45 #[.slice A n c, .slice B m c'] w (Ret (.bool (decide (l = r))) w) := by
  have hn := hS.len
  have hm := hR.len
  subst hn hm
  have h1 := hS.cap
  have h2 := hS.big
  have h3 := hR.cap
  have h4 := hR.big
  by_cases hl : l.length = r.length
  · have HS := hid hS
    have HR := hid hR
    clear hS hR
    go_enter Try.func45, Try.ntmps45
    go_wp2
    go_loopw [13] (fun i wr => ∃ k : Nat, k ≤ l.length ∧ i = .int .i64 k ∧ (∀ j, j < k → l[j]? = r[j]?) ∧ Below w.heap.size w wr) (fun i _ => l.length - (intOf i).toNat)
    case atStart => exact ⟨0, Nat.zero_le _, rfl, fun j hj => absurd hj (by omega), Below.refl _ _⟩
    case round =>
      obtain ⟨k, hk, rfl, heq, hB⟩ := hrel
      have HQ := hid heq
      clear heq
      by_cases hlt : k < l.length
      · obtain ⟨b, off, rfl, hlb, hC⟩ := (HS.out.below hB).at_ (by intro h; subst h; simp at hlt)
        obtain ⟨b2, off2, rfl, hlb2, hD⟩ := (HR.out.below hB).at_ (by intro h; rw [h] at hl; simp at hl; rw [hl] at hlt; simp at hlt)
        have hlt4 : k < r.length := by omega
        have hx := hC k hlt
        have hx2 := hD k hlt4
        have hlt2 : (k : Int) < (r.length : Int) := by omega
        have hlt3 : (k : Int) < (l.length : Int) := by omega
        have e1 : l.getD k 0 = l[k] := by simp [hlt]
        have e2 : r.getD k 0 = r[k] := by simp [hlt4]
        rw [e1] at hx
        rw [e2] at hx2
        clear e1 e2
        have HL := hid (show l[k]? = some l[k] from List.getElem?_eq_getElem hlt)
        have HR2 := hid (show r[k]? = some r[k] from List.getElem?_eq_getElem hlt4)
        clear hC hD
        generalize l[k] = u at *
        generalize r[k] = v at *
        by_cases v1 : u = v
        · subst v1
          have HE := hid (show l[k]? = r[k]? by rw [HL.out, HR2.out])
          go_wp2_with fail
          go_quiet (fail)
          have hB2 := below_drewN' hB nq
          go_wp2
          exact ⟨⟨k + 1, hlt, by go_num, fun j hj => by
            by_cases e : j = k
            · subst e; exact HE.out
            · exact HQ.out j (by omega), hB2⟩, by simp [intOf]; omega⟩
        · have hne : Hid (l ≠ r) := fun h => v1 (by have h2 := HR2.out; rw [← h, HL.out] at h2; exact Option.some.inj h2)
          have v3 : (u == v) = false := by simp [v1]
          go_wp2_with fail
          go_quiet (fail)
          have hB2 := below_drewN' hB nq
          go_wp2
          go_returns
          exact ret_bool (by simp [hne.out]) hB2
      · have he : Hid (l = r) := List.ext_getElem? fun j => by
          rcases Nat.lt_or_ge j l.length with g | g
          · exact HQ.out j (by omega)
          · rw [List.getElem?_eq_none g, List.getElem?_eq_none (by omega)]
        go_wp2
        go_returns
        exact ret_bool (by simp [he.out]) hB
  · have hne : Hid (l ≠ r) := fun h => hl (by rw [h])
    have hlb : ((l.length : Int) == (r.length : Int)) = false := by simp; omega
    clear hS hR
    go_enter Try.func45, Try.ntmps45
    go_wp2
    go_returns
    exact ret_bool (by simp [hne.out]) (Below.refl _ _)
end
end Go.Proofs.Ytienmhgbildhhaa
namespace Go.Proofs.Ytienmhgbildhhaa
section
set_option linter.unusedVariables false
set_option linter.unusedSimpArgs false
open Go.RowKit
theorem lineR_none {D : List V} {f u : V} (h : lineR D f u = none) {N L : Int} (hL : 0 < L) (h0 : 0 ≤ N) (h1 : N ≤ L) : ¬ ∀ t, t < D.length → 0 ≤ L * rnum D f t - N * rden D u t := fun hin => by
  have ok := ln_ok (rnum D f) (rden D u) D.length
  unfold lineR at h
  generalize lnF (rnum D f) (rden D u) D.length = s at ok h
  match s, ok, h with
  | none, ok, h =>
    obtain ⟨t, ht, hd, hn⟩ := ok
    have := hin t ht
    rw [hd, Int.mul_zero, Int.sub_zero] at this
    have := Int.mul_pos hL (show 0 < -rnum D f t by omega)
    rw [Int.mul_neg] at this
    omega
  | some (e, v), ok, h =>
    obtain ⟨e2, v2, e1, hv, -, hx⟩ := ok
    have h : (if v.1 * e.2 < e.1 * v.2 then none else some (e.1 * 65536 / e.2)) = none := h
    by_cases c : v.1 * e.2 < e.1 * v.2
    · obtain ⟨a, b⟩ := (hx N L hL h0 h1).1 hin
      have p1 := Int.mul_le_mul_of_nonneg_right a (show 0 ≤ v.2 by omega)
      have p2 := Int.mul_le_mul_of_nonneg_right b (show 0 ≤ e.2 by omega)
      have p3 := Int.mul_lt_mul_of_pos_right c hL
      have e3 : e.1 * L * v.2 = e.1 * v.2 * L := by grind
      have e4 : v.1 * L * e.2 = v.1 * e.2 * L := by grind
      have e5 : N * e.2 * v.2 = N * v.2 * e.2 := by grind
      omega
    · rw [if_neg c] at h; cases h
theorem rnd_in (D : List V) (f u : V) (N L : Int) (t : Nat) : L * rnum D f t - N * rden D u t = cr (vsub (cyP D (t + 1)) (cyP D t)) (vsub (L * f.1 + N * u.1, L * f.2 + N * u.2) (L * (cyP D t).1, L * (cyP D t).2)) := by
  unfold rnum rden cr vsub
  grind




theorem stops_free {q p : List V} (hq : checkE q = 0) (hp : checkE p = 0) {u : V} (hm : checkE (movL p u.1 u.2) = 0) (h : lineR (minusL q p) (0, 0) u = none) : nmeetB q (movL p u.1 u.2) = false := by
  have hD := minus_dif hq hp
  have hM := minus_dif hq hm
  have hno := lineR_none h (N := 1) (L := 1) (by omega) (by omega) (by omega)
  obtain ⟨t, ht, hneg⟩ : ∃ t, t < (minusL q p).length ∧ 1 * rnum (minusL q p) (0, 0) t - 1 * rden (minusL q p) u t < 0 := by
    rcases Classical.em (∃ t, t < (minusL q p).length ∧ 1 * rnum (minusL q p) (0, 0) t - 1 * rden (minusL q p) u t < 0) with g | g
    · exact g
    · exact absurd (fun t ht => by
        rcases Int.lt_or_le (1 * rnum (minusL q p) (0, 0) t - 1 * rden (minusL q p) u t) 0 with g2 | g2
        · exact absurd ⟨t, ht, g2⟩ g
        · exact g2) hno
  rw [rnd_in] at hneg
  unfold nmeetB
  rw [decide_eq_true (bothE_zero.2 ⟨hq, hm⟩), Bool.true_and]
  refine sep_out hM (e := vsub (cyP (minusL q p) (t + 1)) (cyP (minusL q p) t)) (fun j k hj hk => ?_)
  rw [movL_len] at hk
  rw [dpt2_mov hk]
  have := hD.left t j k hj hk
  generalize vsub (cyP (minusL q p) (t + 1)) (cyP (minusL q p) t) = e at *
  generalize cyP (minusL q p) t = c at *
  generalize dpt2 q p j k = d at *
  have e1 : cr e (d.1 - u.1, d.2 - u.2) = cr e (vsub d c) - cr e (vsub (1 * (0 : Int) + 1 * u.1, 1 * 0 + 1 * u.2) (1 * c.1, 1 * c.2)) := by unfold cr vsub; grind
  have e2 : cr e (vsub (1 * ((0, 0) : V).1 + 1 * u.1, 1 * ((0, 0) : V).2 + 1 * u.2) (1 * c.1, 1 * c.2)) = cr e (vsub (1 * (0 : Int) + 1 * u.1, 1 * 0 + 1 * u.2) (1 * c.1, 1 * c.2)) := rfl
  omega

theorem stops_zero {q p : List V} (hq : checkE q = 0) (hp : checkE p = 0) (u : V) (h : nmeetB q p = true) : lineR (minusL q p) (0, 0) u = some 0 := by
  have hD := minus_dif hq hp
  have h3 := hD.pol.pos
  rw [line_law hD.pol]
  unfold refLine
  rw [if_pos]
  rw [rinB_iff]
  intro t ht
  unfold nmeetB at h
  rw [decide_eq_true (bothE_zero.2 ⟨hq, hp⟩), Bool.true_and] at h
  have := (ninB_iff (by omega)).1 h t
  have e : rnum (minusL q p) (0, 0) t = cr (cyP (minusL q p) t) (cyP (minusL q p) (t + 1)) := by unfold rnum cr vsub; grind
  omega
end
end Go.Proofs.Ytienmhgbildhhaa
