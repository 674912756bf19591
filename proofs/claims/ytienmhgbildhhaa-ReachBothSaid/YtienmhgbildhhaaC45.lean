/- Parts of a proof: contracts and laws. -/
import Derived.Test.YtienmhgbildhhaaC44
import Derived.Test.YtienmhgbildhhaaC11
import Derived.Deep.DeepCutAuto
import Derived.Test.YtienmhgbildhhaaC41
namespace Go.Proofs.Ytienmhgbildhhaa
section
set_option linter.unusedVariables false
set_option linter.unusedSimpArgs false
open Go.RowKit
set_option maxRecDepth 100000 in
set_option maxHeartbeats 4000000 in
theorem keepCf {w w' : World} {g : Nat} {x y : Int} (hb : Below w.heap.size w w') (h : Cf w g x y) : Cf w' g x y := ⟨keepCell hb h.a, keepCell hb h.b⟩
theorem Cf.lt {w : World} {g : Nat} {x y : Int} (h : Cf w g x y) : g < w.heap.size := lt_of_cell h.a
theorem Cf.far {w : World} {g k : Nat} {x y : Int} (h : Cf w g x y) (hne : g ≠ k) (o : Nat) (v : Value) : Cf (w.setCell ⟨k, o, none⟩ v) g x y := by
  obtain ⟨a, b⟩ := h
  exact ⟨by go_simp, by go_simp⟩

structure Lk (w wx : World) (gt gp gq : Nat) (fx fy ux uy tx ty ax ay bx by_ : Int) : Prop where
  f : Cf wx w.heap.size fx fy
  u : Cf wx (w.heap.size + 1) ux uy
  t : Cf wx gt tx ty
  p : Cf wx gp ax ay
  q : Cf wx gq bx by_
  b : Below w.heap.size w wx
  l1 : w.heap.size + 1 < gt
  l2 : gt < gp
  l3 : gp < gq
  lq : gq < wx.heap.size
section
variable {w wx wy : World} {gt gp gq : Nat} {fx fy ux uy tx ty ax ay bx by_ : Int}
theorem keepLk (hb : Below wx.heap.size wx wy) (h : Lk w wx gt gp gq fx fy ux uy tx ty ax ay bx by_) : Lk w wy gt gp gq fx fy ux uy tx ty ax ay bx by_ :=
  ⟨keepCf hb h.f, keepCf hb h.u, keepCf hb h.t, keepCf hb h.p, keepCf hb h.q, keepBelow hb h.b, h.l1, h.l2, h.l3, Nat.lt_of_lt_of_le h.lq hb.size⟩
theorem Lk.drew (h : Lk w wx gt gp gq fx fy ux uy tx ty ax ay bx by_) : Lk w wx.drew gt gp gq fx fy ux uy tx ty ax ay bx by_ := keepLk (Below.refl _ _).drew h
theorem Lk.far (h : Lk w wx gt gp gq fx fy ux uy tx ty ax ay bx by_) {g : Nat} (hg : gq < g) (o : Nat) (v : Value) : Lk w (wx.setCell ⟨g, o, none⟩ v) gt gp gq fx fy ux uy tx ty ax ay bx by_ := by
  have := h.l1
  have := h.l2
  have := h.l3
  exact ⟨h.f.far (by omega) _ _, h.u.far (by omega) _ _, h.t.far (by omega) _ _, h.p.far (by omega) _ _, h.q.far (by omega) _ _, h.b.setCell (p := ⟨g, o, none⟩) (by show _ ≤ g; omega) _, h.l1, h.l2, h.l3, by have := h.lq; simpa using this⟩


end
set_option maxRecDepth 100000 in
set_option maxRecDepth 100000 in
set_option maxRecDepth 100000 in
set_option maxHeartbeats 16000000 in
end
end Go.Proofs.Ytienmhgbildhhaa
namespace Go.Proofs.Ytienmhgbildhhaa
section
set_option linter.unusedVariables false
set_option linter.unusedSimpArgs false
open Go.RowKit
def lowV (p q : V) : Prop := p.2 < q.2 ∨ (p.2 = q.2 ∧ p.1 < q.1)
instance (p q : V) : Decidable (lowV p q) := by unfold lowV; infer_instance

def wrpB (o nx p : V) : Prop := nx = o ∨ cr (vsub nx o) (vsub p o) < 0 ∨ (cr (vsub nx o) (vsub p o) = 0 ∧ sqZ (nx.1 - o.1) (nx.2 - o.2) < sqZ (p.1 - o.1) (p.2 - o.2))
instance (o p q : V) : Decidable (wrpB o p q) := by unfold wrpB; infer_instance

section
variable {l D : List V}
end



end
end Go.Proofs.Ytienmhgbildhhaa
