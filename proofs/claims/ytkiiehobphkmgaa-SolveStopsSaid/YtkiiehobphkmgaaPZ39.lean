/- Parts of a proof: contracts and laws. -/
import Derived.Test.YtkiiehobphkmgaaPZ29
import Derived.Test.YtkiiehobphkmgaaPZ38
import Derived.Test.YtkiiehobphkmgaaPZ33
namespace Go.Proofs.Ytkiiehobphkmgaa
section
set_option linter.unusedVariables false
set_option linter.unusedSimpArgs false
open Go.RowKit
set_option maxRecDepth 100000 in
set_option maxHeartbeats 1000000 in
theorem cloneCt_calls (A : Option Addr) (n c : Nat) (l : List Ct) (w : World) (hS : SlE layC w A n c l) (hl : l.length ≤ 100000) : Calls Try.prog 13 #[.slice A n c] w fun e w' => ∃ s, e = .returned s ∧ OwnE layC 37 w' w.heap.size s l ∧ Below w.heap.size w w' := by
  have hcmp : ∀ w' : World, (binOp .eql 32 (.slice A n c) (.slice none 0 0)).run Try.prog w' = .ok (.bool A.isNone) w' := fun w' => Lib.run_eql_slice_nil w' 32 _ A n c 0 0 Try.underlying32
  cases A with
  | none =>
    have hl0 : l = [] := by
      rcases l with _ | ⟨a, r⟩
      · rfl
      · obtain ⟨b, off, h, _⟩ := hS.at_ (by simp); cases h
    subst hl0
    clear hS
    go_enter Try.func13, Try.ntmps13
    go_wp2
    refine bodyPost_ret (v := .slice none 0 0) (by simp [results, Try.results13, go_sem]) rfl ⟨_, rfl, OwnE.nil _ _ _ _, Below.refl _ _⟩
  | some ad =>
    have hn := hS.len
    have HS := hid hS
    clear hS
    subst hn
    have HO : Hid (OwnE layC 37 (w.alloc (.cells #[] 37)) w.heap.size (.slice (some ⟨w.heap.size, 0, none⟩) 0 0) []) := ⟨by simp [flatE], .inr ⟨w.heap.size, 0, #[], rfl, Nat.le_refl _, heap_alloc_new w _, Nat.le_refl _, Nat.zero_le _, by simp, by simp [flatE]⟩⟩
    have hb0 : Below w.heap.size w (w.alloc (.cells #[] 37)) := by go_grown
    go_enter Try.func13, Try.ntmps13
    go_wp2_with (at_builtin; refine wpList_append_S tyContact rfl _ _ rfl w.heap.size _ [] rfl HO.out _ _ _ l rfl (HS.out.below hb0) (by first | omega | (simp; omega)) (by first | omega | (simp; omega)) (by simp) ?_; intro v' w1 ho1 hg1 hat; have HO1 := hid ho1; have hb1 := hid (hb0.grown hg1 (by simp) (fun k hk => (HO.out.lt hk).1)); clear ho1 hg1 hat)
    obtain ⟨A', n', c', rfl, -, -⟩ := HO1.out.sl
    refine bodyPost_ret (v := .slice A' n' c') (by simp [results, Try.results13, go_sem]) rfl ⟨_, rfl, by simpa using HO1.out, hb1.out⟩
set_option maxRecDepth 100000 in
end
end Go.Proofs.Ytkiiehobphkmgaa
