/- Parts of a proof: contracts and laws. -/
import Derived.Test.YtilncglnojjlaaaS04
import Derived.BigQuiet
import Derived.Test.YtilncglnojjlaaaS05
import Derived.Test.YtilncglnojjlaaaS10
import Derived.Deep.DeepCutAuto
import Derived.WalkSpells
import Derived.Laws.Bits64b
import Derived.Laws.MathBits
import Derived.Deep.WholeRow
import Derived.Maps.AppendAt
namespace Go.Proofs.Ytilncglnojjlaaa
section
set_option linter.unusedVariables false
set_option linter.unusedSimpArgs false
open Go.RowKit
theorem list_eq_of {l r : List V} (hl : l.length = r.length) (h : ∀ j, j < l.length → px l j = px r j ∧ py l j = py r j) : l = r := by
  refine List.ext_getElem hl fun j h1 h2 => ?_
  rw [px_lt h1, px_lt h2, (h j h1).1, (h j h1).2]
set_option maxRecDepth 100000 in
set_option maxHeartbeats 1000000 in
theorem equal_calls (A B : Option Addr) (n c m c' : Nat) (l r : List V) (w : World) (hS : Sl w A n c l) (hR : Sl w B m c' r) :
    Calls Try.prog 90 #[.slice A n c, .slice B m c'] w (Ret (.bool (decide (l = r))) w) := by
  have hn := hS.len
  have hm := hR.len
  subst hn hm
  have h1 := hS.cap
  have h2 := hS.big
  have h3 := hR.cap
  have h4 := hR.big
  by_cases hl : l.length = r.length
  · have HS := hid hS
    have HR := hid hR
    clear hS hR
    go_enter Try.func90, Try.ntmps90
    go_wp2
    go_loopw [13] (fun i wr => ∃ k : Nat, k ≤ l.length ∧ i = .int .i64 k ∧ (∀ j, j < k → px l j = px r j ∧ py l j = py r j) ∧ Below w.heap.size w wr) (fun i _ => l.length - (intOf i).toNat)
    case atStart => exact ⟨0, Nat.zero_le _, rfl, fun j hj => absurd hj (by omega), Below.refl _ _⟩
    case round =>
      obtain ⟨k, hk, rfl, heq, hB⟩ := hrel
      have HQ := hid heq
      clear heq
      by_cases hlt : k < l.length
      · obtain ⟨b, off, rfl, hC⟩ := (HS.out.below hB).at_ (by intro h; subst h; simp at hlt)
        obtain ⟨b2, off2, rfl, hD⟩ := (HR.out.below hB).at_ (by intro h; rw [h] at hl; simp at hl; rw [hl] at hlt; simp at hlt)
        have hx := hC.x k hlt
        have hy := hC.y k hlt
        have hx2 := hD.x k (by omega)
        have hy2 := hD.y k (by omega)
        have hlt2 : (k : Int) < (r.length : Int) := by omega
        have hlt3 : (k : Int) < (l.length : Int) := by omega
        have hlt4 : k < r.length := by omega
        clear hC hD
        by_cases hv : px l k = px r k ∧ py l k = py r k
        · obtain ⟨v1, v2⟩ := hv
          go_wp2_with fail
          go_quiet (fail)
          have hB2 := below_drewN' hB nq
          go_wp2
          exact ⟨⟨k + 1, hlt, by go_num, fun j hj => by
            by_cases e : j = k
            · subst e; exact ⟨v1, v2⟩
            · exact HQ.out j (by omega), hB2⟩, by simp [intOf]; omega⟩
        · have hne : Hid (l ≠ r) := fun h => hv (by rw [h]; exact ⟨rfl, rfl⟩)
          by_cases v1 : px l k = px r k
          · have v2 : ¬ py l k = py r k := fun h => hv ⟨v1, h⟩
            have v3 : (py l k == py r k) = false := by simp [v2]
            clear hv
            go_wp2_with fail
            go_quiet (fail)
            have hB2 := below_drewN' hB nq
            go_wp2
            go_returns
            exact ret_bool (by simp [hne.out]) hB2
          · have v3 : (px l k == px r k) = false := by simp [v1]
            clear hv
            go_wp2_with fail
            go_quiet (fail)
            have hB2 := below_drewN' hB nq
            go_wp2
            go_returns
            exact ret_bool (by simp [hne.out]) hB2
      · have he : Hid (l = r) := list_eq_of hl fun j hj => HQ.out j (by omega)
        go_wp2
        go_returns
        exact ret_bool (by simp [he.out]) hB
  · have hne : Hid (l ≠ r) := fun h => hl (by rw [h])
    have hlb : ((l.length : Int) == (r.length : Int)) = false := by simp; omega
    clear hS hR
    go_enter Try.func90, Try.ntmps90
    go_wp2
    go_returns
    exact ret_bool (by simp [hne.out]) (Below.refl _ _)
end
end Go.Proofs.Ytilncglnojjlaaa
namespace Go.Proofs.Ytilncglnojjlaaa
section
set_option linter.unusedVariables false
set_option linter.unusedSimpArgs false
open Go.RowKit

structure VZ (w : World) (g : Nat) : Prop where
  c : ∃ x y : Value, w.cell? ⟨g, 0, none⟩ = some x ∧ w.cell? ⟨g, 1, none⟩ = some y
  free : ∀ j, w.frozen? ⟨g, j, none⟩ = false
theorem keepVZ {w w' : World} {g : Nat} (hb : Below w.heap.size w w') (h : VZ w g) : VZ w' g := by
  obtain ⟨⟨x, y, h0, h1⟩, hf⟩ := h
  exact ⟨⟨x, y, keepCell hb h0, keepCell hb h1⟩, fun j => ((bcell hb).2 _ _ (lt_of_cell h0)).trans (hf j)⟩
theorem VZ.lt {w : World} {g : Nat} (h : VZ w g) : g < w.heap.size := by obtain ⟨⟨_, _, h0, _⟩, _⟩ := h; exact lt_of_cell h0
theorem VZ.alloc {w : World} {g : Nat} (h : VZ w g) (o : Obj) : VZ (w.alloc o) g := keepVZ ((Below.refl _ _).alloc (Nat.le_refl _) _) h
theorem VZ.drew {w : World} {g : Nat} (h : VZ w g) : VZ w.drew g := ⟨h.c, h.free⟩
theorem VZ.here (w : World) (a b : Int) (t : TypeId) : VZ (w.alloc (.cells #[.int .i64 a, .int .i64 b] t)) w.heap.size :=
  ⟨⟨.int .i64 a, .int .i64 b, by go_simp, by go_simp⟩, fun j => by go_simp⟩
theorem VZ.set {w : World} {g : Nat} (h : VZ w g) (a : Addr) (u : Value) : VZ (w.setCell a u) g := by
  obtain ⟨⟨x, y, h0, h1⟩, hf⟩ := h
  refine ⟨?_, fun j => by rw [World.frozen?_setCell]; exact hf j⟩
  have e : ∀ j z, w.cell? ⟨g, j, none⟩ = some z → ∃ z', (w.setCell a u).cell? ⟨g, j, none⟩ = some z' := fun j z hz => by
    by_cases ha : a = ⟨g, j, none⟩
    · subst ha; exact ⟨u, by go_simp⟩
    · exact ⟨z, by go_simp⟩
  obtain ⟨z0, e0⟩ := e 0 x h0
  obtain ⟨z1, e1⟩ := e 1 y h1
  exact ⟨z0, z1, e0, e1⟩
theorem Sl.empty' (w : World) : Sl w none 0 0 [] := ⟨rfl, by omega, by omega, fun h => absurd rfl h⟩
end
end Go.Proofs.Ytilncglnojjlaaa
