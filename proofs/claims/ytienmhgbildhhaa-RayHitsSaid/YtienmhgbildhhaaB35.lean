/- Parts of a proof: contracts and laws. -/
import Derived.Test.YtienmhgbildhhaaB34
import Derived.Test.YtienmhgbildhhaaB27
import Derived.Test.YtienmhgbildhhaaB01
import Derived.Test.YtienmhgbildhhaaB19
import Derived.Test.YtienmhgbildhhaaB26
import Derived.Test.YtienmhgbildhhaaB04
import Derived.Test.YtienmhgbildhhaaB28
import Derived.Test.YtienmhgbildhhaaB11
import Derived.Deep.DeepCutAuto
namespace Go.Proofs.Ytienmhgbildhhaa
section
set_option linter.unusedVariables false
set_option linter.unusedSimpArgs false
open Go.RowKit
set_option maxRecDepth 100000 in
set_option maxHeartbeats 2000000 in
theorem bodiesE_one (x : BE) : bodiesE [x] = bodyE x.b x.l := rfl
theorem castO_one (x : BE) (f u : V) : castO [x] f u = frStep 0 (lineR (placeL x.b x.l) f u) none := rfl

theorem SlB.one {w : World} {g : Nat} {x : BE} (hb : BdAt w g x.b x.A x.n x.c) (hs : Sl w x.A x.n x.c x.l) : SlB w (some ⟨g, 0, none⟩) 1 1 [x] := by
  refine ⟨⟨rfl, Nat.le_refl _, by omega, fun _ => ⟨g, 0, rfl, hb.lt, fun j hj i v hv => ?_⟩⟩, fun y hy => by rw [List.mem_singleton.1 hy]; exact hs⟩
  have hj0 : j = 0 := by simpa using hj
  subst hj0
  rw [Nat.zero_mul, Nat.zero_add]
  try rw [Nat.zero_add]
  have hv : (encB x)[i]? = some v := hv
  unfold encB at hv
  match i, hv with
  | 0, hv => have e : some _ = some v := hv; cases e; exact hb.c0
  | 1, hv => have e : some _ = some v := hv; cases e; exact hb.c1
  | 2, hv => have e : some _ = some v := hv; cases e; exact hb.c2
  | 3, hv => have e : some _ = some v := hv; cases e; exact hb.c3
  | 4, hv => have e : some _ = some v := hv; cases e; exact hb.c4
  | 5, hv => have e : some _ = some v := hv; cases e; exact hb.c5
  | 6, hv => have e : some _ = some v := hv; cases e; exact hb.c6
  | 7, hv => have e : some _ = some v := hv; cases e; exact hb.c7
  | 8, hv => have e : some _ = some v := hv; cases e; exact hb.c8
  | 9, hv => have e : some _ = some v := hv; cases e; exact hb.c9
  | 10, hv => have e : some _ = some v := hv; cases e; exact hb.c10
  | 11, hv => have e : some _ = some v := hv; cases e; exact hb.c11
  | 12, hv => have e : some _ = some v := hv; cases e; exact hb.c12
  | i + 13, hv => simp at hv
set_option maxRecDepth 100000 in
set_option maxHeartbeats 2000000 in
end
end Go.Proofs.Ytienmhgbildhhaa
namespace Go.Proofs.Ytienmhgbildhhaa
section
set_option linter.unusedVariables false
set_option linter.unusedSimpArgs false
open Go.RowKit

set_option maxRecDepth 100000 in
set_option maxHeartbeats 8000000 in
end
end Go.Proofs.Ytienmhgbildhhaa
namespace Go.Proofs.Ytienmhgbildhhaa
section
set_option linter.unusedVariables false
set_option linter.unusedSimpArgs false
open Go.RowKit
set_option maxRecDepth 100000 in
set_option maxHeartbeats 2000000 in
set_option maxRecDepth 100000 in
set_option maxHeartbeats 4000000 in
set_option maxRecDepth 100000 in
set_option maxHeartbeats 4000000 in
end
end Go.Proofs.Ytienmhgbildhhaa
namespace Go.Proofs.Ytienmhgbildhhaa
section
set_option linter.unusedVariables false
set_option linter.unusedSimpArgs false
open Go.RowKit
set_option maxRecDepth 100000 in
set_option maxHeartbeats 4000000 in
theorem keepCf {w w' : World} {g : Nat} {x y : Int} (hb : Below w.heap.size w w') (h : Cf w g x y) : Cf w' g x y := ⟨keepCell hb h.a, keepCell hb h.b⟩
theorem Cf.lt {w : World} {g : Nat} {x y : Int} (h : Cf w g x y) : g < w.heap.size := lt_of_cell h.a
theorem Cf.far {w : World} {g k : Nat} {x y : Int} (h : Cf w g x y) (hne : g ≠ k) (o : Nat) (v : Value) : Cf (w.setCell ⟨k, o, none⟩ v) g x y := by
  obtain ⟨a, b⟩ := h
  exact ⟨by go_simp, by go_simp⟩

structure Lk (w wx : World) (gt gp gq : Nat) (fx fy ux uy tx ty ax ay bx by_ : Int) : Prop where
  f : Cf wx w.heap.size fx fy
  u : Cf wx (w.heap.size + 1) ux uy
  t : Cf wx gt tx ty
  p : Cf wx gp ax ay
  q : Cf wx gq bx by_
  b : Below w.heap.size w wx
  l1 : w.heap.size + 1 < gt
  l2 : gt < gp
  l3 : gp < gq
  lq : gq < wx.heap.size
section
variable {w wx wy : World} {gt gp gq : Nat} {fx fy ux uy tx ty ax ay bx by_ : Int}
theorem keepLk (hb : Below wx.heap.size wx wy) (h : Lk w wx gt gp gq fx fy ux uy tx ty ax ay bx by_) : Lk w wy gt gp gq fx fy ux uy tx ty ax ay bx by_ :=
  ⟨keepCf hb h.f, keepCf hb h.u, keepCf hb h.t, keepCf hb h.p, keepCf hb h.q, keepBelow hb h.b, h.l1, h.l2, h.l3, Nat.lt_of_lt_of_le h.lq hb.size⟩
theorem Lk.drew (h : Lk w wx gt gp gq fx fy ux uy tx ty ax ay bx by_) : Lk w wx.drew gt gp gq fx fy ux uy tx ty ax ay bx by_ := keepLk (Below.refl _ _).drew h
theorem Lk.far (h : Lk w wx gt gp gq fx fy ux uy tx ty ax ay bx by_) {g : Nat} (hg : gq < g) (o : Nat) (v : Value) : Lk w (wx.setCell ⟨g, o, none⟩ v) gt gp gq fx fy ux uy tx ty ax ay bx by_ := by
  have := h.l1
  have := h.l2
  have := h.l3
  exact ⟨h.f.far (by omega) _ _, h.u.far (by omega) _ _, h.t.far (by omega) _ _, h.p.far (by omega) _ _, h.q.far (by omega) _ _, h.b.setCell (p := ⟨g, o, none⟩) (by show _ ≤ g; omega) _, h.l1, h.l2, h.l3, by have := h.lq; simpa using this⟩


end
set_option maxRecDepth 100000 in
set_option maxRecDepth 100000 in
set_option maxRecDepth 100000 in
set_option maxHeartbeats 16000000 in
end
end Go.Proofs.Ytienmhgbildhhaa
namespace Go.Proofs.Ytienmhgbildhhaa
section
set_option linter.unusedVariables false
set_option linter.unusedSimpArgs false
open Go.RowKit
def lowV (p q : V) : Prop := p.2 < q.2 ∨ (p.2 = q.2 ∧ p.1 < q.1)
instance (p q : V) : Decidable (lowV p q) := by unfold lowV; infer_instance

def wrpB (o nx p : V) : Prop := nx = o ∨ cr (vsub nx o) (vsub p o) < 0 ∨ (cr (vsub nx o) (vsub p o) = 0 ∧ sqZ (nx.1 - o.1) (nx.2 - o.2) < sqZ (p.1 - o.1) (p.2 - o.2))
instance (o p q : V) : Decidable (wrpB o p q) := by unfold wrpB; infer_instance

section
variable {l D : List V}
end



end
end Go.Proofs.Ytienmhgbildhhaa
