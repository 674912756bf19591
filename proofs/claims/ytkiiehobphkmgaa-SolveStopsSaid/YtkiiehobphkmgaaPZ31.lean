/- Parts of a proof: contracts and laws. -/
import Derived.Test.YtkiiehobphkmgaaPZ28
import Derived.Test.YtkiiehobphkmgaaPZ20
import Derived.Test.YtkiiehobphkmgaaPZ14
import Derived.Test.YtkiiehobphkmgaaPZ27
namespace Go.Proofs.Ytkiiehobphkmgaa
section
set_option linter.unusedVariables false
set_option linter.unusedSimpArgs false
open Go.RowKit
theorem cells_b0 {w : World} {g k : Nat} {L : List BE} {x : BE} (h : CellsE layB w g 0 L) (hk : k < L.length) (hx : x = L[k]) : w.cell? ⟨g, k * 13, none⟩ = some (.int .i64 x.b.px) ∧ w.cell? ⟨g, k * 13 + 1, none⟩ = some (.int .i64 x.b.py) ∧ w.cell? ⟨g, k * 13 + 2, none⟩ = some (.int .i64 x.b.vx) ∧ w.cell? ⟨g, k * 13 + 3, none⟩ = some (.int .i64 x.b.vy) ∧ w.cell? ⟨g, k * 13 + 4, none⟩ = some (.int .i64 x.b.ang) ∧ w.cell? ⟨g, k * 13 + 5, none⟩ = some (.int .i64 x.b.spin) ∧ w.cell? ⟨g, k * 13 + 6, none⟩ = some (.int .i64 x.b.mass) ∧ w.cell? ⟨g, k * 13 + 7, none⟩ = some (.int .i64 x.b.iner) ∧ w.cell? ⟨g, k * 13 + 8, none⟩ = some (.int .i64 x.b.bounce) ∧ w.cell? ⟨g, k * 13 + 9, none⟩ = some (.int .i64 x.b.rub) ∧ w.cell? ⟨g, k * 13 + 10, none⟩ = some (.slice x.A x.n x.c) ∧ w.cell? ⟨g, k * 13 + 11, none⟩ = some (.bool x.b.asleep) ∧ w.cell? ⟨g, k * 13 + 12, none⟩ = some (.int .i64 x.b.calm) := by
  have := cells_bd h hk hx
  simpa only [Nat.zero_add] using this

structure Pj (w0 : World) (g : Nat) (L : List BE) (x : Jt) (p1 p2 q1 q2 v1 v2 : Int) (w : World) : Prop where
  j : w.cell? ⟨w0.heap.size, 0, none⟩ = some (.int .i64 x.a) ∧ w.cell? ⟨w0.heap.size, 1, none⟩ = some (.int .i64 x.b) ∧ w.cell? ⟨w0.heap.size, 2, none⟩ = some (.int .i64 x.p1) ∧ w.cell? ⟨w0.heap.size, 3, none⟩ = some (.int .i64 x.p2) ∧ w.cell? ⟨w0.heap.size, 4, none⟩ = some (.int .i64 x.q1) ∧ w.cell? ⟨w0.heap.size, 5, none⟩ = some (.int .i64 x.q2) ∧ w.cell? ⟨w0.heap.size, 6, none⟩ = some (.int .i64 x.len)
  p : w.cell? ⟨w0.heap.size + 1, 0, none⟩ = some (.int .i64 p1) ∧ w.cell? ⟨w0.heap.size + 1, 1, none⟩ = some (.int .i64 p2)
  q : w.cell? ⟨w0.heap.size + 2, 0, none⟩ = some (.int .i64 q1) ∧ w.cell? ⟨w0.heap.size + 2, 1, none⟩ = some (.int .i64 q2)
  v : w.cell? ⟨w0.heap.size + 3, 0, none⟩ = some (.int .i64 v1) ∧ w.cell? ⟨w0.heap.size + 3, 1, none⟩ = some (.int .i64 v2)
  bl : BL w g L
  bel : Below w0.heap.size w0 w
  lt : g < w0.heap.size
  lo : ∀ y ∈ L, ∀ bx off, y.A = some ⟨bx, off, none⟩ → bx < w0.heap.size
  sz : w0.heap.size + 3 < w.heap.size
theorem keepPj {w0 : World} {g : Nat} {L : List BE} {x : Jt} {p1 p2 q1 q2 v1 v2 : Int} {w w' : World} (hb : Below w.heap.size w w') (h : Pj w0 g L x p1 p2 q1 q2 v1 v2 w) : Pj w0 g L x p1 p2 q1 q2 v1 v2 w' := by
  obtain ⟨h0, h1, h2, h3, h4, h5, h6⟩ := h.j
  exact ⟨⟨keepCell hb h0, keepCell hb h1, keepCell hb h2, keepCell hb h3, keepCell hb h4, keepCell hb h5, keepCell hb h6⟩, ⟨keepCell hb h.p.1, keepCell hb h.p.2⟩, ⟨keepCell hb h.q.1, keepCell hb h.q.2⟩, ⟨keepCell hb h.v.1, keepCell hb h.v.2⟩, keepBL hb h.bl, keepBelow hb h.bel, h.lt, h.lo, Nat.lt_of_lt_of_le h.sz hb.size⟩
theorem Pj.alloc {w0 : World} {g : Nat} {L : List BE} {x : Jt} {p1 p2 q1 q2 v1 v2 : Int} {w : World} (h : Pj w0 g L x p1 p2 q1 q2 v1 v2 w) (o : Obj) : Pj w0 g L x p1 p2 q1 q2 v1 v2 (w.alloc o) := keepPj ((Below.refl _ _).alloc (Nat.le_refl _) _) h
theorem Pj.drew {w0 : World} {g : Nat} {L : List BE} {x : Jt} {p1 p2 q1 q2 v1 v2 : Int} {w : World} (h : Pj w0 g L x p1 p2 q1 q2 v1 v2 w) : Pj w0 g L x p1 p2 q1 q2 v1 v2 w.drew := keepPj (Below.refl _ _).drew h

theorem BL.off {w : World} {g k o : Nat} {v : Value} {L : List BE} (h : BL w g L) (hk : k ≠ g) (hne : ∀ x ∈ L, ∀ bx off, x.A = some ⟨bx, off, none⟩ → bx ≠ k) : BL (w.setCell ⟨k, o, none⟩ v) g L :=
  ⟨⟨by simp; exact h.cl.lt, fun j hj i u hu => far1 hk (h.cl.at_ j hj i u hu)⟩, fun j => by rw [World.frozen?_setCell]; exact h.free j, fun x hx => (h.co x hx).setAt (hne x hx), h.ne⟩
theorem Pj.set {w0 : World} {g : Nat} {L : List BE} {x : Jt} {p1 p2 q1 q2 v1 v2 : Int} {w : World} {k o : Nat} {v : Value} (h : Pj w0 g L x p1 p2 q1 q2 v1 v2 w) (hk : w0.heap.size + 3 < k) : Pj w0 g L x p1 p2 q1 q2 v1 v2 (w.setCell ⟨k, o, none⟩ v) := by
  obtain ⟨h0, h1, h2, h3, h4, h5, h6⟩ := h.j
  have hlt := h.lt
  have n0 : k ≠ w0.heap.size := by omega
  have n1 : k ≠ w0.heap.size + 1 := by omega
  have n2 : k ≠ w0.heap.size + 2 := by omega
  have n3 : k ≠ w0.heap.size + 3 := by omega
  exact ⟨⟨far1 n0 h0, far1 n0 h1, far1 n0 h2, far1 n0 h3, far1 n0 h4, far1 n0 h5, far1 n0 h6⟩, ⟨far1 n1 h.p.1, far1 n1 h.p.2⟩, ⟨far1 n2 h.q.1, far1 n2 h.q.2⟩, ⟨far1 n3 h.v.1, far1 n3 h.v.2⟩, h.bl.off (by omega) (fun y hy bx off e => by have := h.lo y hy bx off e; omega), h.bel.setCell (p := ⟨k, o, none⟩) (by show w0.heap.size ≤ k; omega) _, h.lt, h.lo, by simp; exact h.sz⟩
theorem Pj.setBd {w0 : World} {g : Nat} {L : List BE} {x : Jt} {p1 p2 q1 q2 v1 v2 : Int} {w : World} {k : Nat} (h : Pj w0 g L x p1 p2 q1 q2 v1 v2 w) (hk : w0.heap.size + 3 < k) (b : Bd) (A : Option Addr) (n c : Nat) : Pj w0 g L x p1 p2 q1 q2 v1 v2 (Go.Proofs.Ytkiiehobphkmgaa.setBd w k b A n c) := by
  unfold Go.Proofs.Ytkiiehobphkmgaa.setBd
  iterate 13 refine Pj.set ?_ hk
  exact h
theorem checkE_len4 {l : List V} (h : checkE l = 0) : l.length ≤ 8 := by
  unfold checkE at h
  by_cases hc : 8 < l.length
  · rw [if_pos hc] at h; cases h
  · omega
theorem setBo_far {w : World} {g o k o' : Nat} {u : Value} {b : Bd} {A : Option Addr} {n c : Nat} (hne : g ≠ k) (h : w.cell? ⟨k, o', none⟩ = some u) : (setBo w g o b A n c).cell? ⟨k, o', none⟩ = some u := by
  unfold setBo
  iterate 13 refine far1 hne ?_
  exact h
theorem both_map {L : List BE} {ka kb : Nat} (hka : ka < L.length) (hkb : kb < L.length) (hab : ka ≠ kb) (p1 p2 q1 q2 j1 j2 : Int) (xa xb : BE) (ha : valB xa = (pushR L[ka].b (-j1) (-j2) p1 p2, L[ka].l)) (hb : valB xb = (pushR L[kb].b j1 j2 q1 q2, L[kb].l)) : ((L.set ka xa).set kb xb).map valB = bothQ (L.map valB) ka kb p1 p2 q1 q2 j1 j2 := by
  have e1 : (L.map valB)[ka]? = some (valB L[ka]) := by rw [List.getElem?_map, List.getElem?_eq_getElem hka]; rfl
  have e2 : (L.map valB)[kb]? = some (valB L[kb]) := by rw [List.getElem?_map, List.getElem?_eq_getElem hkb]; rfl
  unfold bothQ
  rw [qB_at rfl e1, qB_at rfl e2, putQ_eq e1, putQ_eq (y := valB L[kb]) (by rw [List.getElem?_set_ne hab]; exact e2), List.map_set, List.map_set, ha, hb]
  rfl
end
end Go.Proofs.Ytkiiehobphkmgaa
