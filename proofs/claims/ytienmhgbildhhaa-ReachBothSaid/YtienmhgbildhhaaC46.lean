/- Parts of a proof: contracts and laws. -/
import Derived.Test.YtienmhgbildhhaaC45
import Derived.Test.YtienmhgbildhhaaC44
import Derived.Laws.StructEq
namespace Go.Proofs.Ytienmhgbildhhaa
section
set_option linter.unusedVariables false
set_option linter.unusedSimpArgs false
open Go.RowKit
set_option maxRecDepth 100000 in

structure Vc (w : World) (g : Nat) (x y : Int) : Prop where
  a : w.cell? ⟨g, 0, none⟩ = some (.int .i64 x)
  b : w.cell? ⟨g, 1, none⟩ = some (.int .i64 y)
  f : ∀ j, w.frozen? ⟨g, j, none⟩ = false
theorem keepVc {w w' : World} {g : Nat} {x y : Int} (hb : Below w.heap.size w w') (h : Vc w g x y) : Vc w' g x y :=
  ⟨keepCell hb h.a, keepCell hb h.b, fun j => ((bcell hb).2 _ _ (lt_of_cell h.a)).trans (h.f j)⟩
theorem Vc.lt {w : World} {g : Nat} {x y : Int} (h : Vc w g x y) : g < w.heap.size := lt_of_cell h.a
theorem Vc.alloc {w : World} {g : Nat} {x y : Int} (h : Vc w g x y) (o : Obj) : Vc (w.alloc o) g x y := keepVc ((Below.refl _ _).alloc (Nat.le_refl _) _) h
theorem Vc.drew {w : World} {g : Nat} {x y : Int} (h : Vc w g x y) : Vc w.drew g x y := ⟨h.a, h.b, h.f⟩
theorem Vc.here (w : World) (x y : Int) (t : TypeId) : Vc (w.alloc (.cells #[.int .i64 x, .int .i64 y] t)) w.heap.size x y := ⟨by go_simp, by go_simp, fun j => by go_simp⟩
theorem Vc.put {w : World} {g : Nat} {x y : Int} (h : Vc w g x y) (u v : Int) : Vc ((w.setCell ⟨g, 0, none⟩ (.int .i64 u)).setCell ⟨g, 1, none⟩ (.int .i64 v)) g u v := by
  obtain ⟨a, b, f⟩ := h
  exact ⟨by go_simp, by go_simp, fun j => by go_simp⟩
theorem Vc.off {w : World} {g b : Nat} {x y : Int} (h : Vc w b x y) (hne : g ≠ b) (u v : Value) : Vc ((w.setCell ⟨g, 0, none⟩ u).setCell ⟨g, 1, none⟩ v) b x y := by
  have hl := h.lt
  obtain ⟨a, b', f⟩ := h
  have hne2 : ¬ b = g := fun e => hne e.symm
  exact ⟨far2 hne a, far2 hne b', fun j => by go_simp⟩
theorem Own.off {w : World} {B g : Nat} {s : Value} {l : List V} (h : Own w B s l) (hne : ∀ k, s.ownBlock = some k → k ≠ g) (o : Nat) (u : Value) : Own (w.setCell ⟨g, o, none⟩ u) B s l := by
  refine World.ownsRow.kept h (grown_setCell _ g o _) ?_
  cases hv : s.ownBlock with
  | none => exact .inl rfl
  | some k => exact .inr fun e => by cases e; exact hne _ hv rfl

structure WW (w0 : World) (gF : Nat) (s : Value) (o : List V) (F : V) (w : World) : Prop where
  vF : Vc w gF F.1 F.2
  own : Own w (gF + 1) s o
  bel : Below w0.heap.size w0 w
  le : w0.heap.size ≤ gF
theorem WW.keep {w0 : World} {gF : Nat} {s : Value} {o : List V} {F : V} {w w' : World} (hb : Below w.heap.size w w') (h : WW w0 gF s o F w) : WW w0 gF s o F w' :=
  ⟨keepVc hb h.vF, h.own.below hb, keepBelow hb h.bel, h.le⟩
theorem WW.app {w0 : World} {gF : Nat} {s s' : Value} {o o' : List V} {F : V} {w w' : World} {ob : Obj} (h : WW w0 gF s o F w) (ho : Own w' (gF + 1) s' o') (hb : Below (gF + 1) (w.alloc ob) w') : WW w0 gF s' o' F w' :=
  have h2 := h.keep ((Below.refl _ _).alloc (Nat.le_refl _) ob)
  ⟨⟨((bcell hb).1 _ _ (Nat.lt_succ_self gF)).trans h2.vF.a, ((bcell hb).1 _ _ (Nat.lt_succ_self gF)).trans h2.vF.b, fun j => ((bcell hb).2 _ _ (Nat.lt_succ_self gF)).trans (h2.vF.f j)⟩, ho, h2.bel.trans (hb.mono (Nat.le_succ_of_le h.le)), h.le⟩

structure WN (w0 : World) (gF : Nat) (s : Value) (o : List V) (F : V) (gO gN : Nat) (q nx : V) (w : World) : Prop where
  ww : WW w0 gF s o F w
  vO : Vc w gO q.1 q.2
  vN : Vc w gN nx.1 nx.2
  ob : ∀ k, s.ownBlock = some k → k < gN
  l1 : gF < gO
  l2 : gO < gN
theorem WN.keep {w0 : World} {gF : Nat} {s : Value} {o : List V} {F : V} {gO gN : Nat} {q nx : V} {w w' : World} (hb : Below w.heap.size w w') (h : WN w0 gF s o F gO gN q nx w) : WN w0 gF s o F gO gN q nx w' :=
  ⟨h.ww.keep hb, keepVc hb h.vO, keepVc hb h.vN, h.ob, h.l1, h.l2⟩
theorem WN.put {w0 : World} {gF : Nat} {s : Value} {o : List V} {F : V} {gO gN : Nat} {q nx : V} {w : World} (h : WN w0 gF s o F gO gN q nx w) (p : V) : WN w0 gF s o F gO gN q p ((w.setCell ⟨gN, 0, none⟩ (.int .i64 p.1)).setCell ⟨gN, 1, none⟩ (.int .i64 p.2)) := by
  have := h.l1
  have := h.l2
  have := h.ww.le
  refine ⟨⟨h.ww.vF.off (by omega) _ _, (h.ww.own.off (fun k hk => by have := h.ob k hk; omega) _ _).off (fun k hk => by have := h.ob k hk; omega) _ _, (h.ww.bel.setCell (p := ⟨gN, 0, none⟩) (by show _ ≤ gN; omega) _).setCell (p := ⟨gN, 1, none⟩) (by show _ ≤ gN; omega) _, h.ww.le⟩, h.vO.off (by omega) _ _, h.vN.put _ _, h.ob, h.l1, h.l2⟩
set_option maxRecDepth 100000 in
set_option maxHeartbeats 16000000 in
end
end Go.Proofs.Ytienmhgbildhhaa
