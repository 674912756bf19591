/- Parts of a proof: contracts and laws. -/
import Derived.Test.YtiaoandbdgdecaaGreatPM15
import Derived.Test.YtiaoandbdgdecaaGreatPM12
import Derived.Test.YtiaoandbdgdecaaGreatPM19
import Derived.Test.YtiaoandbdgdecaaGreatPM22
import Derived.Test.YtiaoandbdgdecaaGreatPM05
import Derived.Test.YtiaoandbdgdecaaGreatPM14
import Derived.Test.YtiaoandbdgdecaaGreatPM07
import Derived.Test.YtiaoandbdgdecaaGreatPM04
import Derived.Test.YtiaoandbdgdecaaGreatPM16
import Derived.Test.YtiaoandbdgdecaaGreatPM03
namespace Go.Proofs.YtiaoandbdgdecaaGreat
section
set_option linter.unusedVariables false
set_option linter.unusedSimpArgs false
open Go.RowKit


structure Ej (w0 : World) (bL oL : Nat) (L : List BE) (x : Jt) (w : World) : Prop where
 j : w.cell? ⟨w0.heap.size, 0, none⟩ = some (.int .i64 x.a) ∧ w.cell? ⟨w0.heap.size, 1, none⟩ = some (.int .i64 x.b) ∧ w.cell? ⟨w0.heap.size, 2, none⟩ = some (.int .i64 x.p1) ∧ w.cell? ⟨w0.heap.size, 3, none⟩ = some (.int .i64 x.p2) ∧ w.cell? ⟨w0.heap.size, 4, none⟩ = some (.int .i64 x.q1) ∧ w.cell? ⟨w0.heap.size, 5, none⟩ = some (.int .i64 x.q2) ∧ w.cell? ⟨w0.heap.size, 6, none⟩ = some (.int .i64 x.len)
 cl : CellsE layB w bL oL L
 z1 : VZ w (w0.heap.size + 1)
 z2 : VZ w (w0.heap.size + 2)
 bel : Below w0.heap.size w0 w
 lt : bL < w0.heap.size
 sz : w0.heap.size + 2 < w.heap.size
theorem keepEj {w0 : World} {bL oL : Nat} {L : List BE} {x : Jt} {w w' : World} (hb : Below w.heap.size w w') (h : Ej w0 bL oL L x w) : Ej w0 bL oL L x w' := by
 obtain ⟨h0, h1, h2, h3, h4, h5, h6⟩ := h.j
 exact ⟨⟨keepCell hb h0, keepCell hb h1, keepCell hb h2, keepCell hb h3, keepCell hb h4, keepCell hb h5, keepCell hb h6⟩, h.cl.below hb, keepVZ hb h.z1, keepVZ hb h.z2, keepBelow hb h.bel, h.lt, Nat.lt_of_lt_of_le h.sz hb.size⟩
theorem Ej.alloc {w0 : World} {bL oL : Nat} {L : List BE} {x : Jt} {w : World} (h : Ej w0 bL oL L x w) (o : Obj) : Ej w0 bL oL L x (w.alloc o) := keepEj ((Below.refl _ _).alloc (Nat.le_refl _) _) h
theorem Ej.drew {w0 : World} {bL oL : Nat} {L : List BE} {x : Jt} {w : World} (h : Ej w0 bL oL L x w) : Ej w0 bL oL L x w.drew := keepEj (Below.refl _ _).drew h
theorem Ej.set {w0 : World} {bL oL : Nat} {L : List BE} {x : Jt} {w : World} {g o : Nat} {v : Value} (h : Ej w0 bL oL L x w) (hg : w0.heap.size + 2 < g) : Ej w0 bL oL L x (w.setCell ⟨g, o, none⟩ v) := by
 obtain ⟨h0, h1, h2, h3, h4, h5, h6⟩ := h.j
 have hlt := h.lt
 have n0 : g ≠ w0.heap.size := by omega
 have n1 : g ≠ w0.heap.size + 1 := by omega
 have n2 : g ≠ w0.heap.size + 2 := by omega
 have vz : ∀ k, g ≠ k → VZ w k → VZ (w.setCell ⟨g, o, none⟩ v) k := fun k hk hz => by
  obtain ⟨⟨a, b, c, d⟩, f⟩ := hz
  exact ⟨⟨a, b, far1 hk c, far1 hk d⟩, fun j => by rw [World.frozen?_setCell]; exact f j⟩
 exact ⟨⟨far1 n0 h0, far1 n0 h1, far1 n0 h2, far1 n0 h3, far1 n0 h4, far1 n0 h5, far1 n0 h6⟩, ⟨by simp; exact h.cl.lt, fun j hj i u hu => far1 (by omega) (h.cl.at_ j hj i u hu)⟩, vz _ n1 h.z1, vz _ n2 h.z2, h.bel.setCell (p := ⟨g, o, none⟩) (by show w0.heap.size ≤ g; omega) _, h.lt, by simp; exact h.sz⟩
theorem Ej.setBd {w0 : World} {bL oL : Nat} {L : List BE} {x : Jt} {w : World} {g : Nat} (h : Ej w0 bL oL L x w) (hg : w0.heap.size + 2 < g) (b : Bd) (A : Option Addr) (n c : Nat) : Ej w0 bL oL L x (Go.Proofs.YtiaoandbdgdecaaGreat.setBd w g b A n c) := by
 unfold Go.Proofs.YtiaoandbdgdecaaGreat.setBd
 iterate 13 refine Ej.set ?_ hg
 exact h

end
end Go.Proofs.YtiaoandbdgdecaaGreat
namespace Go.Proofs.YtiaoandbdgdecaaGreat
section
set_option linter.unusedVariables false
set_option linter.unusedSimpArgs false
open Go.RowKit
set_option maxRecDepth 100000 in
set_option maxHeartbeats 1000000 in
set_option maxRecDepth 100000 in
set_option maxHeartbeats 1000000 in
end
end Go.Proofs.YtiaoandbdgdecaaGreat
namespace Go.Proofs.YtiaoandbdgdecaaGreat
section
set_option linter.unusedVariables false
set_option linter.unusedSimpArgs false
open Go.RowKit


abbrev QB := Bd × List V
def qB (Q : List QB) (i : Int) : Bd := match Q[i.toNat]? with | some y => y.1 | none => bd0
def putQ (Q : List QB) (k : Nat) (b : Bd) : List QB := match Q[k]? with | some y => Q.set k (b, y.2) | none => Q
theorem putQ_eq {Q : List QB} {k : Nat} {y : QB} (h : Q[k]? = some y) (b : Bd) : putQ Q k b = Q.set k (b, y.2) := by unfold putQ; rw [h]


structure Like (y y' : QB) : Prop where
 l : y'.2 = y.2
 px : y'.1.px = y.1.px
 py : y'.1.py = y.1.py
 ang : y'.1.ang = y.1.ang
 mass : y'.1.mass = y.1.mass
 rest : y.1.mass = 0 → y' = y
 ok : bodyE y.1 y.2 = 0 → bodyE y'.1 y'.2 = 0
theorem Like.refl (y : QB) : Like y y := ⟨rfl, rfl, rfl, rfl, rfl, fun _ => rfl, fun h => h⟩
theorem Like.trans {y y' z : QB} (h : Like y y') (h' : Like y' z) : Like y z :=
 ⟨h'.l.trans h.l, h'.px.trans h.px, h'.py.trans h.py, h'.ang.trans h.ang, h'.mass.trans h.mass, fun e => by rw [h'.rest (by rw [h.mass]; exact e), h.rest e], fun e => h'.ok (h.ok e)⟩
theorem Like.push (y : QB) (j1 j2 u v : Int) : Like y (pushR y.1 j1 j2 u v, y.2) := by
 refine ⟨rfl, ?_, ?_, ?_, ?_, fun e => ?_, fun e => pushR_ok e _ _ _ _⟩ <;> unfold pushR
 iterate 4 (split <;> rfl)
 rw [if_pos (.inl e)]
structure LikeL (Q Q' : List QB) : Prop where
 len : Q'.length = Q.length
 at_ : ∀ (k : Nat) (y : QB), Q[k]? = some y → ∃ y', Q'[k]? = some y' ∧ Like y y'
theorem LikeL.refl (Q : List QB) : LikeL Q Q := ⟨rfl, fun k y h => ⟨y, h, .refl y⟩⟩
theorem LikeL.trans {Q Q' R : List QB} (h : LikeL Q Q') (h' : LikeL Q' R) : LikeL Q R :=
 ⟨h'.len.trans h.len, fun k y hy => by
  obtain ⟨y', e, l⟩ := h.at_ k y hy
  obtain ⟨z, e', l'⟩ := h'.at_ k y' e
  exact ⟨z, e', l.trans l'⟩⟩
theorem LikeL.put {Q : List QB} {k : Nat} {y : QB} (h : Q[k]? = some y) {b : Bd} (hb : Like y (b, y.2)) : LikeL Q (putQ Q k b) := by
 rw [putQ_eq h]
 refine ⟨by simp, fun j z hz => ?_⟩
 by_cases e : k = j
 ·subst e
  rw [h] at hz; cases hz
  have hk : k < Q.length := (List.getElem?_eq_some_iff.1 h).1
  exact ⟨_, by rw [List.getElem?_set_self hk], hb⟩
 ·exact ⟨z, by rw [List.getElem?_set_ne e]; exact hz, .refl z⟩
theorem LikeL.qB {Q Q' : List QB} (h : LikeL Q Q') (i : Int) : (Go.Proofs.YtiaoandbdgdecaaGreat.qB Q' i).px = (Go.Proofs.YtiaoandbdgdecaaGreat.qB Q i).px ∧ (Go.Proofs.YtiaoandbdgdecaaGreat.qB Q' i).py = (Go.Proofs.YtiaoandbdgdecaaGreat.qB Q i).py ∧ (Go.Proofs.YtiaoandbdgdecaaGreat.qB Q' i).ang = (Go.Proofs.YtiaoandbdgdecaaGreat.qB Q i).ang ∧ (Go.Proofs.YtiaoandbdgdecaaGreat.qB Q' i).mass = (Go.Proofs.YtiaoandbdgdecaaGreat.qB Q i).mass := by
 unfold Go.Proofs.YtiaoandbdgdecaaGreat.qB
 rcases hq : Q[i.toNat]? with _ | y
 ·have : Q'[i.toNat]? = none := by rw [List.getElem?_eq_none_iff] at hq ⊢; rw [h.len]; exact hq
  rw [this]; exact ⟨rfl, rfl, rfl, rfl⟩
 ·obtain ⟨y', e, l⟩ := h.at_ _ y hq
  rw [e]; exact ⟨l.px, l.py, l.ang, l.mass⟩
theorem LikeL.wX {Q Q' : List QB} (h : LikeL Q Q') (i : Int) (p q : Int) : Go.Proofs.YtiaoandbdgdecaaGreat.wX (Go.Proofs.YtiaoandbdgdecaaGreat.qB Q' i) p q = Go.Proofs.YtiaoandbdgdecaaGreat.wX (Go.Proofs.YtiaoandbdgdecaaGreat.qB Q i) p q := by
 obtain ⟨h1, h2, h3, h4⟩ := h.qB i
 unfold Go.Proofs.YtiaoandbdgdecaaGreat.wX; rw [h1, h3]
theorem LikeL.wY {Q Q' : List QB} (h : LikeL Q Q') (i : Int) (p q : Int) : Go.Proofs.YtiaoandbdgdecaaGreat.wY (Go.Proofs.YtiaoandbdgdecaaGreat.qB Q' i) p q = Go.Proofs.YtiaoandbdgdecaaGreat.wY (Go.Proofs.YtiaoandbdgdecaaGreat.qB Q i) p q := by
 obtain ⟨h1, h2, h3, h4⟩ := h.qB i
 unfold Go.Proofs.YtiaoandbdgdecaaGreat.wY; rw [h2, h3]




end
end Go.Proofs.YtiaoandbdgdecaaGreat
namespace Go.Proofs.YtiaoandbdgdecaaGreat
section
set_option linter.unusedVariables false
set_option linter.unusedSimpArgs false
open Go.RowKit

structure Pj (w0 : World) (g : Nat) (L : List BE) (x : Jt) (p1 p2 q1 q2 v1 v2 : Int) (w : World) : Prop where
 j : w.cell? ⟨w0.heap.size, 0, none⟩ = some (.int .i64 x.a) ∧ w.cell? ⟨w0.heap.size, 1, none⟩ = some (.int .i64 x.b) ∧ w.cell? ⟨w0.heap.size, 2, none⟩ = some (.int .i64 x.p1) ∧ w.cell? ⟨w0.heap.size, 3, none⟩ = some (.int .i64 x.p2) ∧ w.cell? ⟨w0.heap.size, 4, none⟩ = some (.int .i64 x.q1) ∧ w.cell? ⟨w0.heap.size, 5, none⟩ = some (.int .i64 x.q2) ∧ w.cell? ⟨w0.heap.size, 6, none⟩ = some (.int .i64 x.len)
 p : w.cell? ⟨w0.heap.size + 1, 0, none⟩ = some (.int .i64 p1) ∧ w.cell? ⟨w0.heap.size + 1, 1, none⟩ = some (.int .i64 p2)
 q : w.cell? ⟨w0.heap.size + 2, 0, none⟩ = some (.int .i64 q1) ∧ w.cell? ⟨w0.heap.size + 2, 1, none⟩ = some (.int .i64 q2)
 v : w.cell? ⟨w0.heap.size + 3, 0, none⟩ = some (.int .i64 v1) ∧ w.cell? ⟨w0.heap.size + 3, 1, none⟩ = some (.int .i64 v2)
 bl : BL w g L
 bel : Below w0.heap.size w0 w
 lt : g < w0.heap.size
 lo : ∀ y ∈ L, ∀ bx off, y.A = some ⟨bx, off, none⟩ → bx < w0.heap.size
 sz : w0.heap.size + 3 < w.heap.size
theorem keepPj {w0 : World} {g : Nat} {L : List BE} {x : Jt} {p1 p2 q1 q2 v1 v2 : Int} {w w' : World} (hb : Below w.heap.size w w') (h : Pj w0 g L x p1 p2 q1 q2 v1 v2 w) : Pj w0 g L x p1 p2 q1 q2 v1 v2 w' := by
 obtain ⟨h0, h1, h2, h3, h4, h5, h6⟩ := h.j
 exact ⟨⟨keepCell hb h0, keepCell hb h1, keepCell hb h2, keepCell hb h3, keepCell hb h4, keepCell hb h5, keepCell hb h6⟩, ⟨keepCell hb h.p.1, keepCell hb h.p.2⟩, ⟨keepCell hb h.q.1, keepCell hb h.q.2⟩, ⟨keepCell hb h.v.1, keepCell hb h.v.2⟩, keepBL hb h.bl, keepBelow hb h.bel, h.lt, h.lo, Nat.lt_of_lt_of_le h.sz hb.size⟩
theorem Pj.alloc {w0 : World} {g : Nat} {L : List BE} {x : Jt} {p1 p2 q1 q2 v1 v2 : Int} {w : World} (h : Pj w0 g L x p1 p2 q1 q2 v1 v2 w) (o : Obj) : Pj w0 g L x p1 p2 q1 q2 v1 v2 (w.alloc o) := keepPj ((Below.refl _ _).alloc (Nat.le_refl _) _) h
theorem Pj.drew {w0 : World} {g : Nat} {L : List BE} {x : Jt} {p1 p2 q1 q2 v1 v2 : Int} {w : World} (h : Pj w0 g L x p1 p2 q1 q2 v1 v2 w) : Pj w0 g L x p1 p2 q1 q2 v1 v2 w.drew := keepPj (Below.refl _ _).drew h

theorem BL.off {w : World} {g k o : Nat} {v : Value} {L : List BE} (h : BL w g L) (hk : k ≠ g) (hne : ∀ x ∈ L, ∀ bx off, x.A = some ⟨bx, off, none⟩ → bx ≠ k) : BL (w.setCell ⟨k, o, none⟩ v) g L :=
 ⟨⟨by simp; exact h.cl.lt, fun j hj i u hu => far1 hk (h.cl.at_ j hj i u hu)⟩, fun j => by rw [World.frozen?_setCell]; exact h.free j, fun x hx => (h.co x hx).setAt (hne x hx), h.ne⟩
theorem Pj.set {w0 : World} {g : Nat} {L : List BE} {x : Jt} {p1 p2 q1 q2 v1 v2 : Int} {w : World} {k o : Nat} {v : Value} (h : Pj w0 g L x p1 p2 q1 q2 v1 v2 w) (hk : w0.heap.size + 3 < k) : Pj w0 g L x p1 p2 q1 q2 v1 v2 (w.setCell ⟨k, o, none⟩ v) := by
 obtain ⟨h0, h1, h2, h3, h4, h5, h6⟩ := h.j
 have hlt := h.lt
 have n0 : k ≠ w0.heap.size := by omega
 have n1 : k ≠ w0.heap.size + 1 := by omega
 have n2 : k ≠ w0.heap.size + 2 := by omega
 have n3 : k ≠ w0.heap.size + 3 := by omega
 exact ⟨⟨far1 n0 h0, far1 n0 h1, far1 n0 h2, far1 n0 h3, far1 n0 h4, far1 n0 h5, far1 n0 h6⟩, ⟨far1 n1 h.p.1, far1 n1 h.p.2⟩, ⟨far1 n2 h.q.1, far1 n2 h.q.2⟩, ⟨far1 n3 h.v.1, far1 n3 h.v.2⟩, h.bl.off (by omega) (fun y hy bx off e => by have := h.lo y hy bx off e; omega), h.bel.setCell (p := ⟨k, o, none⟩) (by show w0.heap.size ≤ k; omega) _, h.lt, h.lo, by simp; exact h.sz⟩
theorem Pj.setBd {w0 : World} {g : Nat} {L : List BE} {x : Jt} {p1 p2 q1 q2 v1 v2 : Int} {w : World} {k : Nat} (h : Pj w0 g L x p1 p2 q1 q2 v1 v2 w) (hk : w0.heap.size + 3 < k) (b : Bd) (A : Option Addr) (n c : Nat) : Pj w0 g L x p1 p2 q1 q2 v1 v2 (Go.Proofs.YtiaoandbdgdecaaGreat.setBd w k b A n c) := by
 unfold Go.Proofs.YtiaoandbdgdecaaGreat.setBd
 iterate 13 refine Pj.set ?_ hk
 exact h
end
end Go.Proofs.YtiaoandbdgdecaaGreat
namespace Go.Proofs.YtiaoandbdgdecaaGreat
section
set_option linter.unusedVariables false
set_option linter.unusedSimpArgs false
open Go.ChangeShapes Go.WideShapes Go.ChangeAt Go.RowKit Go.Deep Go.Joins
section
variable {H : Type} {enc : TypeId × Value → H} {W : World} {held : Bool} {base : Nat} {sp : Nat → Bool}
set_option maxRecDepth 100000 in
set_option maxRecDepth 100000 in

set_option maxRecDepth 100000 in

end
end
end Go.Proofs.YtiaoandbdgdecaaGreat
