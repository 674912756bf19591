/- Parts of a proof: contracts and laws. -/
import Derived.Test.YtkiiehobphkmgaaPZ33
import Derived.Test.YtkiiehobphkmgaaPZ14
import Derived.Test.YtkiiehobphkmgaaPZ04
import Derived.BigQuiet
import Derived.Test.YtkiiehobphkmgaaPZ08
import Derived.Test.YtkiiehobphkmgaaPZ09
import Derived.Test.YtkiiehobphkmgaaPZ21
namespace Go.Proofs.Ytkiiehobphkmgaa
section
set_option linter.unusedVariables false
set_option linter.unusedSimpArgs false
open Go.RowKit

structure Rq (w0 : World) (g : Nat) (L : List BE) (w : World) : Prop where
  bl : BL w g L
  gr : w0.grownBy w (some g)
  lt : g < w0.heap.size
  lo : ∀ y ∈ L, ∀ bx off, y.A = some ⟨bx, off, none⟩ → bx < w0.heap.size
  sz : w0.heap.size ≤ w.heap.size
theorem keepRq {w0 : World} {g : Nat} {L : List BE} {w w' : World} (hb : Below w.heap.size w w') (h : Rq w0 g L w) : Rq w0 g L w' := ⟨keepBL hb h.bl, grown_trans h.gr (grown_of_below hb), h.lt, h.lo, Nat.le_trans h.sz hb.size⟩
theorem Rq.drew {w0 : World} {g : Nat} {L : List BE} {w : World} (h : Rq w0 g L w) : Rq w0 g L w.drew := keepRq (Below.refl _ _).drew h
theorem Rq.alloc {w0 : World} {g : Nat} {L : List BE} {w : World} (h : Rq w0 g L w) (o : Obj) : Rq w0 g L (w.alloc o) := keepRq ((Below.refl _ _).alloc (Nat.le_refl _) _) h
theorem Rq.set {w0 : World} {g : Nat} {L : List BE} {w : World} (h : Rq w0 g L w) {k o : Nat} {v : Value} (hk : w0.heap.size ≤ k) : Rq w0 g L (w.setCell ⟨k, o, none⟩ v) :=
  have hlt := h.lt
  ⟨h.bl.off (by omega) (fun y hy bx off e => by have := h.lo y hy bx off e; omega), ⟨h.gr.os, h.gr.tape, h.gr.output, by simp; exact h.gr.size, fun j hj hne => by
    have e := (grown_setCell w k o v).block j (Nat.lt_of_lt_of_le hj h.sz) (by simp; omega)
    exact e.trans (h.gr.block j hj hne)⟩, h.lt, h.lo, by simp; exact h.sz⟩
theorem Rq.setA {w0 : World} {g : Nat} {L : List BE} {w : World} (h : Rq w0 g L w) {k : Nat} (hk : k < L.length) (x : BE) (hs : Sl w x.A x.n x.c x.l) (hn : ∀ bx off, x.A = some ⟨bx, off, none⟩ → bx ≠ g) (hl : ∀ bx off, x.A = some ⟨bx, off, none⟩ → bx < w0.heap.size) : Rq w0 g (L.set k x) (setBo w g (k * 13) x.b x.A x.n x.c) :=
  ⟨h.bl.set hk x hs hn, grown_trans h.gr (setBo_grown _ _ _ _ _ _ _), h.lt, fun y hy => (List.mem_or_eq_of_mem_set hy).elim (fun q => h.lo y q) (fun q => by rw [q]; exact hl), Nat.le_trans h.sz (setBo_grown w g (k * 13) x.b x.A x.n x.c).size⟩
set_option maxRecDepth 100000 in
set_option maxHeartbeats 8000000 in

end
end Go.Proofs.Ytkiiehobphkmgaa
