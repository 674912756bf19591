/- Parts of a proof: contracts and laws. -/
import Derived.Test.YtienmhgbildhhaaA23
import Derived.Test.YtienmhgbildhhaaA38
import Derived.Test.YtienmhgbildhhaaA39
import Derived.Test.YtienmhgbildhhaaA17
import Derived.Test.YtienmhgbildhhaaA09
import Derived.Test.YtienmhgbildhhaaA04
import Derived.BigQuiet
namespace Go.Proofs.Ytienmhgbildhhaa
section
set_option linter.unusedVariables false
set_option linter.unusedSimpArgs false
open Go.RowKit
theorem lineR_pos {D : List V} {f u : V} {t : Int} (h : lineR D f u = some t) : 0 ≤ t := by
  have ok := ln_ok (rnum D f) (rden D u) D.length
  unfold lineR at h
  generalize lnF (rnum D f) (rden D u) D.length = s at ok h
  match s, ok, h with
  | none, ok, h => cases h
  | some (e, v), ok, h =>
    obtain ⟨e2, -, e1, -⟩ := ok
    have h : (if v.1 * e.2 < e.1 * v.2 then none else some (e.1 * 65536 / e.2)) = some t := h
    by_cases c : v.1 * e.2 < e.1 * v.2
    · rw [if_pos c] at h; cases h
    · rw [if_neg c] at h
      cases h
      exact Int.ediv_nonneg (by omega) (by omega)
end
end Go.Proofs.Ytienmhgbildhhaa
namespace Go.Proofs.Ytienmhgbildhhaa
section
set_option linter.unusedVariables false
set_option linter.unusedSimpArgs false
open Go.RowKit
set_option maxRecDepth 100000 in
set_option maxHeartbeats 1000000 in
theorem equalI_calls (A B : Option Addr) (n c m c' : Nat) (l r : List Int) (w : World) (hS : SlI w A n c l) (hR : SlI w B m c' r) :
    Calls Try.prog 45 #[.slice A n c, .slice B m c'] w (Ret (.bool (decide (l = r))) w) := by
  have hn := hS.len
  have hm := hR.len
  subst hn hm
  have h1 := hS.cap
  have h2 := hS.big
  have h3 := hR.cap
  have h4 := hR.big
  by_cases hl : l.length = r.length
  · have HS := hid hS
    have HR := hid hR
    clear hS hR
    go_enter Try.func45, Try.ntmps45
    go_wp2
    go_loopw [13] (fun i wr => ∃ k : Nat, k ≤ l.length ∧ i = .int .i64 k ∧ (∀ j, j < k → l[j]? = r[j]?) ∧ Below w.heap.size w wr) (fun i _ => l.length - (intOf i).toNat)
    case atStart => exact ⟨0, Nat.zero_le _, rfl, fun j hj => absurd hj (by omega), Below.refl _ _⟩
    case round =>
      obtain ⟨k, hk, rfl, heq, hB⟩ := hrel
      have HQ := hid heq
      clear heq
      by_cases hlt : k < l.length
      · obtain ⟨b, off, rfl, hlb, hC⟩ := (HS.out.below hB).at_ (by intro h; subst h; simp at hlt)
        obtain ⟨b2, off2, rfl, hlb2, hD⟩ := (HR.out.below hB).at_ (by intro h; rw [h] at hl; simp at hl; rw [hl] at hlt; simp at hlt)
        have hlt4 : k < r.length := by omega
        have hx := hC k hlt
        have hx2 := hD k hlt4
        have hlt2 : (k : Int) < (r.length : Int) := by omega
        have hlt3 : (k : Int) < (l.length : Int) := by omega
        have e1 : l.getD k 0 = l[k] := by simp [hlt]
        have e2 : r.getD k 0 = r[k] := by simp [hlt4]
        rw [e1] at hx
        rw [e2] at hx2
        clear e1 e2
        have HL := hid (show l[k]? = some l[k] from List.getElem?_eq_getElem hlt)
        have HR2 := hid (show r[k]? = some r[k] from List.getElem?_eq_getElem hlt4)
        clear hC hD
        generalize l[k] = u at *
        generalize r[k] = v at *
        by_cases v1 : u = v
        · subst v1
          have HE := hid (show l[k]? = r[k]? by rw [HL.out, HR2.out])
          go_wp2_with fail
          go_quiet (fail)
          have hB2 := below_drewN' hB nq
          go_wp2
          exact ⟨⟨k + 1, hlt, by go_num, fun j hj => by
            by_cases e : j = k
            · subst e; exact HE.out
            · exact HQ.out j (by omega), hB2⟩, by simp [intOf]; omega⟩
        · have hne : Hid (l ≠ r) := fun h => v1 (by have h2 := HR2.out; rw [← h, HL.out] at h2; exact Option.some.inj h2)
          have v3 : (u == v) = false := by simp [v1]
          go_wp2_with fail
          go_quiet (fail)
          have hB2 := below_drewN' hB nq
          go_wp2
          go_returns
          exact ret_bool (by simp [hne.out]) hB2
      · have he : Hid (l = r) := List.ext_getElem? fun j => by
          rcases Nat.lt_or_ge j l.length with g | g
          · exact HQ.out j (by omega)
          · rw [List.getElem?_eq_none g, List.getElem?_eq_none (by omega)]
        go_wp2
        go_returns
        exact ret_bool (by simp [he.out]) hB
  · have hne : Hid (l ≠ r) := fun h => hl (by rw [h])
    have hlb : ((l.length : Int) == (r.length : Int)) = false := by simp; omega
    clear hS hR
    go_enter Try.func45, Try.ntmps45
    go_wp2
    go_returns
    exact ret_bool (by simp [hne.out]) (Below.refl _ _)
end
end Go.Proofs.Ytienmhgbildhhaa
