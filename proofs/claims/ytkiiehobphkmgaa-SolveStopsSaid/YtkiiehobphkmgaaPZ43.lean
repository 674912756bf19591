/- Parts of a proof: contracts and laws. -/
import Derived.Test.YtkiiehobphkmgaaPZ24
import Derived.Test.YtkiiehobphkmgaaPZ04
import Derived.BigQuiet
import Derived.BigRegion
import Derived.Deep.DeepCutAuto
namespace Go.Proofs.Ytkiiehobphkmgaa
section
set_option linter.unusedVariables false
set_option linter.unusedSimpArgs false
open Go.RowKit
theorem BdAt.far {w : World} {g : Nat} {b : Bd} {A : Option Addr} {n c : Nat} (h : BdAt w g b A n c) (k o : Nat) (v : Value) (hne : k ≠ g) : BdAt (w.setCell ⟨k, o, none⟩ v) g b A n c :=
  ⟨far1 hne h.c0, far1 hne h.c1, far1 hne h.c2, far1 hne h.c3, far1 hne h.c4, far1 hne h.c5, far1 hne h.c6, far1 hne h.c7, far1 hne h.c8, far1 hne h.c9, far1 hne h.c10, far1 hne h.c11, far1 hne h.c12, fun j => by rw [World.frozen?_setCell]; exact h.free j⟩
def RetMade (w : World) (e : Ending) (w' : World) : Prop := ∃ b l A n c, e = .returned (bodyV b A n c) ∧ MadeB b ∧ Made l ∧ Sl w' A n c l ∧ (∀ bx off, A = some ⟨bx, off, none⟩ → w.heap.size ≤ bx) ∧ Below w.heap.size w w'
set_option maxRecDepth 100000 in
set_option maxHeartbeats 2000000 in
theorem mBody_calls (A : Option Addr) (n c : Nat) (r : List Int) (w : World) (hS : SlI w A n c r) : Calls Try.prog 4 #[.slice A n c] w (RetMade w) := by
  obtain ⟨W, hW⟩ : ∃ W, W = (w.alloc (.cells #[.int .i64 0, .int .i64 0, .int .i64 0, .int .i64 0, .int .i64 0, .int .i64 0, .int .i64 0, .int .i64 0, .int .i64 0, .int .i64 0, .slice none 0 0, .bool false, .int .i64 0] 27)).alloc (.cells #[.slice A n c] 44) := ⟨_, rfl⟩
  have HZ0 := hid (show BdZ W w.heap.size by rw [hW]; have := BdAt.here w bd0 none 0 0 27; simp only [bd0] at this; exact (BdZ.of this).alloc _)
  have hB0 : Below w.heap.size w W := by rw [hW]; go_grown
  have hsz : W.heap.size = w.heap.size + 2 := by rw [hW]; simp
  have hI := hS.below hB0
  have hs : Stm W (w.heap.size + 1) r := ⟨by omega, by rw [hW]; go_simp, A, n, c, by rw [hW]; go_simp, hI, fun hr b off e => by obtain ⟨b', off', e2, h, _⟩ := hS.at_ hr; rw [e] at e2; cases e2; omega⟩
  have HS := hid hs
  clear hs hS hI
  go_enter Try.func4, Try.ntmps4
  go_wp2_with fail
  rw [← hW]
  clear hW
  refine (mbody_calls (w.heap.size + 1) r _ HS.out).mono ?_
  rintro e w1 ⟨b, l, A1, n1, c1, rfl, hmb, hml, hs1, hf1, hg1⟩
  have HZ1 := hid (HZ0.out.grown hg1 (by omega))
  have hB1 : Below w.heap.size w w1 := hB0.trans (below_of_grown hg1 (by omega) (by omega))
  have HMB := hid hmb
  have HML := hid hml
  have HS1 := hid hs1
  have HNF : Hid (∀ bx off, A1 = some ⟨bx, off, none⟩ → w.heap.size ≤ bx) := fun bx off e => by have := hf1 bx off e; omega
  have HNZ : Hid (∀ bx off, A1 = some ⟨bx, off, none⟩ → bx ≠ w.heap.size) := fun bx off e => by have := hf1 bx off e; omega
  obtain ⟨z0, z1, z2, z3, z4, z5, z6, z7, z8, z9, z10, z11, z12, y0, y1, y2, y3, y4, y5, y6, y7, y8, y9, y10, y11, y12⟩ := HZ1.out.all
  have yf := HZ1.out.free
  have hl1 := HZ1.out.lt
  clear HZ0 hB0 hmb hml hs1 hf1 hg1 HZ1
  go_wp2
  refine bodyPost_ret (v := bodyV b A1 n1 c1) (by simp [results, Try.results4, go_sem, y0, y1, y2, y3, y4, y5, y6, y7, y8, y9, y10, y11, y12, hl1]) rfl ⟨_, _, _, _, _, rfl, HMB.out, HML.out, ?_, HNF.out, ?_⟩
  · iterate 13 refine Sl.setAt ?_ HNZ.out
    exact HS1.out
  · go_grown
end
end Go.Proofs.Ytkiiehobphkmgaa
