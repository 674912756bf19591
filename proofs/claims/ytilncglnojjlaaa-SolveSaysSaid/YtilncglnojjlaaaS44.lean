/- Parts of a proof: contracts and laws. -/
import Derived.Test.YtilncglnojjlaaaS37
import Derived.Test.YtilncglnojjlaaaS41
namespace Go.Proofs.Ytilncglnojjlaaa
section
set_option linter.unusedVariables false
set_option linter.unusedSimpArgs false
open Go.RowKit
set_option maxRecDepth 100000 in
set_option maxHeartbeats 1000000 in
theorem cloneBd_calls (A : Option Addr) (n c : Nat) (l : List BE) (w : World) (hS : SlE layB w A n c l) (hl : l.length ≤ 100000) : Calls Try.prog 43 #[.slice A n c] w fun e w' => ∃ s, e = .returned s ∧ OwnE layB 68 w' w.heap.size s l ∧ Below w.heap.size w w' := by
  have hcmp : ∀ w' : World, (binOp .eql 22 (.slice A n c) (.slice none 0 0)).run Try.prog w' = .ok (.bool A.isNone) w' := fun w' => Lib.run_eql_slice_nil w' 22 _ A n c 0 0 Try.underlying22
  cases A with
  | none =>
    have hl0 : l = [] := by
      rcases l with _ | ⟨a, r⟩
      · rfl
      · obtain ⟨b, off, h, _⟩ := hS.at_ (by simp); cases h
    subst hl0
    clear hS
    go_enter Try.func43, Try.ntmps43
    go_wp2
    refine bodyPost_ret (v := .slice none 0 0) (by simp [results, Try.results43, go_sem]) rfl ⟨_, rfl, OwnE.nil _ _ _ _, Below.refl _ _⟩
  | some ad =>
    have hn := hS.len
    have HS := hid hS
    clear hS
    subst hn
    have HO : Hid (OwnE layB 68 (w.alloc (.cells #[] 68)) w.heap.size (.slice (some ⟨w.heap.size, 0, none⟩) 0 0) []) := ⟨by simp [flatE], .inr ⟨w.heap.size, 0, #[], rfl, Nat.le_refl _, heap_alloc_new w _, Nat.le_refl _, Nat.zero_le _, by simp, by simp [flatE]⟩⟩
    have hb0 : Below w.heap.size w (w.alloc (.cells #[] 68)) := by go_grown
    go_enter Try.func43, Try.ntmps43
    go_wp2_with (at_builtin; refine wpList_append_S tyBody rfl _ _ rfl w.heap.size _ [] rfl HO.out _ _ _ l rfl (HS.out.below hb0) (by first | omega | (simp; omega)) (by first | omega | (simp; omega)) (by simp) ?_; intro v' w1 ho1 hg1 hat; have HO1 := hid ho1; have hb1 := hid (hb0.grown hg1 (by simp) (fun k hk => (HO.out.lt hk).1)); clear ho1 hg1 hat)
    obtain ⟨A', n', c', rfl, -, -⟩ := HO1.out.sl
    refine bodyPost_ret (v := .slice A' n' c') (by simp [results, Try.results43, go_sem]) rfl ⟨_, rfl, by simpa using HO1.out, hb1.out⟩

theorem RV.own {w w1 : World} {s : Value} {L : List BE} (ho : OwnE layB 68 w1 w.heap.size s L) (hb : Below w.heap.size w w1) (hc : ∀ x ∈ L, Sl w x.A x.n x.c x.l) (hv : ∀ x ∈ L, bodyE x.b x.l = 0) : RV w s (L.map valB) w1 := by
  refine ⟨L, rfl, hb, ?_⟩
  rcases ho.form with ⟨h1, h2⟩ | ⟨g, cap, hs, h1, h2, h3, h4, h5, h6⟩
  · exact .inl ⟨h1, h2⟩
  · refine .inr ⟨g, cap, hs, h1, h3, h4, ⟨h6, h5, fun x hx => (hc x hx).below hb, fun x hx bx off e => fun e2 => ?_⟩⟩
    have := sl_lt (hc x hx) (fun e => by have := hv x hx; rw [e] at this; exact absurd (bodyE_zero this).1 (by decide)) bx off e
    omega
end
end Go.Proofs.Ytilncglnojjlaaa
