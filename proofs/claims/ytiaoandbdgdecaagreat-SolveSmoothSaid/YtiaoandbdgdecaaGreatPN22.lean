/- Parts of a proof: contracts and laws. -/
import Derived.Test.YtiaoandbdgdecaaGreatPN20
import Derived.Test.YtiaoandbdgdecaaGreatPN21
import Derived.Test.YtiaoandbdgdecaaGreatPN13
import Derived.Test.YtiaoandbdgdecaaGreatPN10
import Derived.Test.YtiaoandbdgdecaaGreatPN02
import Derived.Test.YtiaoandbdgdecaaGreatPN12
import Derived.Test.YtiaoandbdgdecaaGreatPN11
import Derived.Test.YtiaoandbdgdecaaGreatPN14
namespace Go.Proofs.YtiaoandbdgdecaaGreat
section
set_option linter.unusedVariables false
set_option linter.unusedSimpArgs false
open Go.RowKit

structure Rw where
 t1 : Int
 t2 : Int
 ease : Int
 slip : Int
 lift : Int
 bound : Int
def relV (Q : List QB) (x : Ct) (v1 v2 : Int) : Int := pulV (qB Q x.a) (qB Q x.b) x.px x.py x.px x.py v1 v2
def relE (Q : List QB) (x : Ct) (v1 v2 : Int) : Int := pulE (qB Q x.a) (qB Q x.b) x.px x.py x.px x.py v1 v2
def lift0 (x : Ct) (st : Int) : Int := divF (mulF (max 0 (x.dep - 512)) 8192) st
def liftQ (Q : List QB) (x : Ct) (st : Int) : Int := if relV Q x x.nx x.ny < -32768 then addF (lift0 x st) (mulF (max (qB Q x.a).bounce (qB Q x.b).bounce) (-(relV Q x x.nx x.ny))) else lift0 x st
def rowQ (Q : List QB) (st : Int) (x : Ct) : Rw := ⟨-x.ny, x.nx, relE Q x x.nx x.ny, relE Q x (-x.ny) x.nx, liftQ Q x st, min (qB Q x.a).rub (qB Q x.b).rub⟩
def pushX (Q : List QB) (x : Ct) (j1 j2 : Int) : List QB := bothQ Q x.a.toNat x.b.toNat x.px x.py x.px x.py j1 j2
def warmQ (Q : List QB) (x : Ct) (r : Rw) : List QB := pushX Q x (addF (mulF x.nx x.push) (mulF r.t1 x.sli)) (addF (mulF x.ny x.push) (mulF r.t2 x.sli))
def slideZ (Q : List QB) (x : Ct) (r : Rw) : Int := clampN (subF x.sli (divF (relV Q x r.t1 r.t2) r.slip)) (mulF r.bound x.push)
def slipQ (Q : List QB) (x : Ct) (r : Rw) : List QB × Ct :=
 if r.slip = 0 then (Q, x) else (pushX Q x (mulF r.t1 (subF (slideZ Q x r) x.sli)) (mulF r.t2 (subF (slideZ Q x r) x.sli)), { x with sli := slideZ Q x r })
def pressZ (Q : List QB) (x : Ct) (r : Rw) : Int := max 0 (addF x.push (divF (subF r.lift (relV Q x x.nx x.ny)) r.ease))
def easeQ (Q : List QB) (x : Ct) (r : Rw) : List QB × Ct :=
 if r.ease = 0 then (Q, x) else (pushX Q x (mulF x.nx (subF (pressZ Q x r) x.push)) (mulF x.ny (subF (pressZ Q x r) x.push)), { x with push := pressZ Q x r })
def roundQ (Q : List QB) (x : Ct) (r : Rw) : List QB × Ct := easeQ (slipQ Q x r).1 (slipQ Q x r).2 r
def rowsQ (Q : List QB) (C : List Ct) (st : Int) : List Rw := C.map (rowQ Q st)
def warmTo (Q : List QB) (C : List Ct) (R : List Rw) : Nat → List QB
 | 0 => Q
 | k + 1 => match C[k]?, R[k]? with | some x, some r => warmQ (warmTo Q C R k) x r | _, _ => warmTo Q C R k
theorem warmTo_succ {Q : List QB} {C : List Ct} {R : List Rw} {k : Nat} {x : Ct} {r : Rw} (hx : C[k]? = some x) (hr : R[k]? = some r) : warmTo Q C R (k + 1) = warmQ (warmTo Q C R k) x r := by rw [warmTo, hx, hr]
def stepQ (S : List QB × List Ct) (R : List Rw) (i : Nat) : List QB × List Ct := match S.2[i]?, R[i]? with | some x, some r => ((roundQ S.1 x r).1, S.2.set i (roundQ S.1 x r).2) | _, _ => S
theorem stepQ_eq {S : List QB × List Ct} {R : List Rw} {i : Nat} {x : Ct} {r : Rw} (hx : S.2[i]? = some x) (hr : R[i]? = some r) : stepQ S R i = ((roundQ S.1 x r).1, S.2.set i (roundQ S.1 x r).2) := by unfold stepQ; rw [hx, hr]
def iterQ (S : List QB × List Ct) (R : List Rw) (n : Nat) : Nat → List QB × List Ct
 | 0 => S
 | k + 1 => stepQ (iterQ S R n k) R (k % n)
def solveQ (Q : List QB) (C : List Ct) (st : Int) (r : Nat) : List QB × List Ct := iterQ (warmTo Q C (rowsQ Q C st) C.length, C) (rowsQ Q C st) C.length (r * C.length)

theorem mulF_nnS {a b : Int} (ha : 0 ≤ a) (hb : 0 ≤ b) : 0 ≤ mulF a b := by
 have c0 : ∀ {z : Int}, 0 ≤ z → 0 ≤ clampF z := fun {z} h => by unfold clampF; split <;> (try split) <;> omega
 unfold mulF mdF
 split
 ·omega
 ·refine c0 ?_
  have h1 := Int.mul_nonneg (c0 ha) (c0 hb)
  rw [show clampF 65536 = 65536 from rfl]
  unfold rnd
  rw [if_neg (by omega)]
  exact Int.ediv_nonneg (by omega) (by omega)
theorem pushX_like {Q : List QB} {x : Ct} (h : CtOk Q.length x) (j1 j2 : Int) : LikeL Q (pushX Q x j1 j2) := by
 obtain ⟨⟨h1, h2, h3, -⟩, -⟩ := h
 exact bothQ_like (by omega) (by omega) (by omega) _ _ _ _ _ _
theorem slipQ_ok {n : Nat} {Q : List QB} {x : Ct} {r : Rw} (h : CtOk n x) (hb : 0 ≤ r.bound) : CtOk n (slipQ Q x r).2 := by
 unfold slipQ
 split
 ·exact h
 ·have h1 := mulF_nnS hb h.2.2.2.2.1.1
  have h2 := mulF_bd r.bound x.push
  have h3 := clampN_in' (n := subF x.sli (divF (relV Q x r.t1 r.t2) r.slip)) h1
  obtain ⟨a, b, c, d, e, f⟩ := h
  exact ⟨a, b, c, d, e, by show -1099511627776 ≤ slideZ Q x r ∧ slideZ Q x r ≤ 1099511627776; unfold slideZ; omega⟩
theorem slipQ_like {Q : List QB} {x : Ct} {r : Rw} (h : CtOk Q.length x) : LikeL Q (slipQ Q x r).1 := by
 unfold slipQ
 split
 ·exact .refl Q
 ·exact pushX_like h _ _
theorem addF_bdS (a b : Int) : -1099511627776 ≤ addF a b ∧ addF a b ≤ 1099511627776 := clampF_bd _
theorem easeQ_ok {n : Nat} {Q : List QB} {x : Ct} {r : Rw} (h : CtOk n x) : CtOk n (easeQ Q x r).2 := by
 unfold easeQ
 split
 ·exact h
 ·have h2 := addF_bdS x.push (divF (subF r.lift (relV Q x x.nx x.ny)) r.ease)
  obtain ⟨a, b, c, d, e, f⟩ := h
  exact ⟨a, b, c, d, by show 0 ≤ pressZ Q x r ∧ pressZ Q x r ≤ 1099511627776; unfold pressZ; omega, f⟩
theorem easeQ_like {Q : List QB} {x : Ct} {r : Rw} (h : CtOk Q.length x) : LikeL Q (easeQ Q x r).1 := by
 unfold easeQ
 split
 ·exact .refl Q
 ·exact pushX_like h _ _
theorem roundQ_ok {n : Nat} {Q : List QB} {x : Ct} {r : Rw} (h : CtOk n x) (hb : 0 ≤ r.bound) : CtOk n (roundQ Q x r).2 := easeQ_ok (slipQ_ok h hb)
theorem roundQ_like {Q : List QB} {x : Ct} {r : Rw} (h : CtOk Q.length x) (hb : 0 ≤ r.bound) : LikeL Q (roundQ Q x r).1 := by
 have h1 := slipQ_like (r := r) h
 exact h1.trans (easeQ_like (by rw [h1.len]; exact slipQ_ok h hb))
theorem warmQ_like {Q : List QB} {x : Ct} {r : Rw} (h : CtOk Q.length x) : LikeL Q (warmQ Q x r) := pushX_like h _ _
theorem warmTo_like {Q : List QB} {C : List Ct} {R : List Rw} (h : ∀ x ∈ C, CtOk Q.length x) : ∀ k, LikeL Q (warmTo Q C R k)
 | 0 => .refl Q
 | k + 1 => by
  have ih := warmTo_like (R := R) h k
  rcases hc : C[k]? with _ | x
  ·rw [warmTo, hc]; exact ih
  ·rcases hr : R[k]? with _ | r
   ·rw [warmTo, hc, hr]; exact ih
   ·rw [warmTo_succ hc hr]
    exact ih.trans (warmQ_like (by rw [ih.len]; exact h x (List.mem_of_getElem? hc)))

structure Okay (Q : List QB) (n : Nat) (S : List QB × List Ct) : Prop where
 like : LikeL Q S.1
 len : S.2.length = n
 ok : ∀ x ∈ S.2, CtOk Q.length x
theorem stepQ_okay {Q : List QB} {n : Nat} {S : List QB × List Ct} {R : List Rw} (hR : ∀ r ∈ R, 0 ≤ r.bound) (h : Okay Q n S) (i : Nat) : Okay Q n (stepQ S R i) := by
 rcases hc : S.2[i]? with _ | x
 ·have : stepQ S R i = S := by unfold stepQ; rw [hc]
  rw [this]; exact h
 ·rcases hr : R[i]? with _ | r
  ·have : stepQ S R i = S := by unfold stepQ; rw [hc, hr]
   rw [this]; exact h
  ·rw [stepQ_eq hc hr]
   have hb := hR r (List.mem_of_getElem? hr)
   have hx := h.ok x (List.mem_of_getElem? hc)
   refine ⟨h.like.trans (roundQ_like (by rw [h.like.len]; exact hx) hb), by simp [h.len], fun y hy => ?_⟩
   rcases List.mem_or_eq_of_mem_set hy with q | q
   ·exact h.ok y q
   ·rw [q]; exact roundQ_ok hx hb
theorem iterQ_okay {Q : List QB} {n : Nat} {S : List QB × List Ct} {R : List Rw} (hR : ∀ r ∈ R, 0 ≤ r.bound) (h : Okay Q n S) (m : Nat) : ∀ k, Okay Q n (iterQ S R m k)
 | 0 => h
 | k + 1 => stepQ_okay hR (iterQ_okay hR h m k) _
theorem iterQ_add (S : List QB × List Ct) (R : List Rw) {n : Nat} (t : Nat) {m : Nat} (hm : m < n) : iterQ S R n (t * n + m + 1) = stepQ (iterQ S R n (t * n + m)) R m := by
 show stepQ _ R ((t * n + m) % n) = _
 rw [Nat.mul_comm, Nat.mul_add_mod, Nat.mod_eq_of_lt hm]
end
end Go.Proofs.YtiaoandbdgdecaaGreat
namespace Go.Proofs.YtiaoandbdgdecaaGreat
section
set_option linter.unusedVariables false
set_option linter.unusedSimpArgs false
open Go.RowKit
theorem cells_b0 {w : World} {g k : Nat} {L : List BE} {x : BE} (h : CellsE layB w g 0 L) (hk : k < L.length) (hx : x = L[k]) : w.cell? ⟨g, k * 13, none⟩ = some (.int .i64 x.b.px) ∧ w.cell? ⟨g, k * 13 + 1, none⟩ = some (.int .i64 x.b.py) ∧ w.cell? ⟨g, k * 13 + 2, none⟩ = some (.int .i64 x.b.vx) ∧ w.cell? ⟨g, k * 13 + 3, none⟩ = some (.int .i64 x.b.vy) ∧ w.cell? ⟨g, k * 13 + 4, none⟩ = some (.int .i64 x.b.ang) ∧ w.cell? ⟨g, k * 13 + 5, none⟩ = some (.int .i64 x.b.spin) ∧ w.cell? ⟨g, k * 13 + 6, none⟩ = some (.int .i64 x.b.mass) ∧ w.cell? ⟨g, k * 13 + 7, none⟩ = some (.int .i64 x.b.iner) ∧ w.cell? ⟨g, k * 13 + 8, none⟩ = some (.int .i64 x.b.bounce) ∧ w.cell? ⟨g, k * 13 + 9, none⟩ = some (.int .i64 x.b.rub) ∧ w.cell? ⟨g, k * 13 + 10, none⟩ = some (.slice x.A x.n x.c) ∧ w.cell? ⟨g, k * 13 + 11, none⟩ = some (.bool x.b.asleep) ∧ w.cell? ⟨g, k * 13 + 12, none⟩ = some (.int .i64 x.b.calm) := by
 have := cells_bd h hk hx
 simpa only [Nat.zero_add] using this

structure Pj (w0 : World) (g : Nat) (L : List BE) (x : Jt) (p1 p2 q1 q2 v1 v2 : Int) (w : World) : Prop where
 j : w.cell? ⟨w0.heap.size, 0, none⟩ = some (.int .i64 x.a) ∧ w.cell? ⟨w0.heap.size, 1, none⟩ = some (.int .i64 x.b) ∧ w.cell? ⟨w0.heap.size, 2, none⟩ = some (.int .i64 x.p1) ∧ w.cell? ⟨w0.heap.size, 3, none⟩ = some (.int .i64 x.p2) ∧ w.cell? ⟨w0.heap.size, 4, none⟩ = some (.int .i64 x.q1) ∧ w.cell? ⟨w0.heap.size, 5, none⟩ = some (.int .i64 x.q2) ∧ w.cell? ⟨w0.heap.size, 6, none⟩ = some (.int .i64 x.len)
 p : w.cell? ⟨w0.heap.size + 1, 0, none⟩ = some (.int .i64 p1) ∧ w.cell? ⟨w0.heap.size + 1, 1, none⟩ = some (.int .i64 p2)
 q : w.cell? ⟨w0.heap.size + 2, 0, none⟩ = some (.int .i64 q1) ∧ w.cell? ⟨w0.heap.size + 2, 1, none⟩ = some (.int .i64 q2)
 v : w.cell? ⟨w0.heap.size + 3, 0, none⟩ = some (.int .i64 v1) ∧ w.cell? ⟨w0.heap.size + 3, 1, none⟩ = some (.int .i64 v2)
 bl : BL w g L
 bel : Below w0.heap.size w0 w
 lt : g < w0.heap.size
 lo : ∀ y ∈ L, ∀ bx off, y.A = some ⟨bx, off, none⟩ → bx < w0.heap.size
 sz : w0.heap.size + 3 < w.heap.size
theorem keepPj {w0 : World} {g : Nat} {L : List BE} {x : Jt} {p1 p2 q1 q2 v1 v2 : Int} {w w' : World} (hb : Below w.heap.size w w') (h : Pj w0 g L x p1 p2 q1 q2 v1 v2 w) : Pj w0 g L x p1 p2 q1 q2 v1 v2 w' := by
 obtain ⟨h0, h1, h2, h3, h4, h5, h6⟩ := h.j
 exact ⟨⟨keepCell hb h0, keepCell hb h1, keepCell hb h2, keepCell hb h3, keepCell hb h4, keepCell hb h5, keepCell hb h6⟩, ⟨keepCell hb h.p.1, keepCell hb h.p.2⟩, ⟨keepCell hb h.q.1, keepCell hb h.q.2⟩, ⟨keepCell hb h.v.1, keepCell hb h.v.2⟩, keepBL hb h.bl, keepBelow hb h.bel, h.lt, h.lo, Nat.lt_of_lt_of_le h.sz hb.size⟩
theorem Pj.alloc {w0 : World} {g : Nat} {L : List BE} {x : Jt} {p1 p2 q1 q2 v1 v2 : Int} {w : World} (h : Pj w0 g L x p1 p2 q1 q2 v1 v2 w) (o : Obj) : Pj w0 g L x p1 p2 q1 q2 v1 v2 (w.alloc o) := keepPj ((Below.refl _ _).alloc (Nat.le_refl _) _) h
theorem Pj.drew {w0 : World} {g : Nat} {L : List BE} {x : Jt} {p1 p2 q1 q2 v1 v2 : Int} {w : World} (h : Pj w0 g L x p1 p2 q1 q2 v1 v2 w) : Pj w0 g L x p1 p2 q1 q2 v1 v2 w.drew := keepPj (Below.refl _ _).drew h

theorem BL.off {w : World} {g k o : Nat} {v : Value} {L : List BE} (h : BL w g L) (hk : k ≠ g) (hne : ∀ x ∈ L, ∀ bx off, x.A = some ⟨bx, off, none⟩ → bx ≠ k) : BL (w.setCell ⟨k, o, none⟩ v) g L :=
 ⟨⟨by simp; exact h.cl.lt, fun j hj i u hu => far1 hk (h.cl.at_ j hj i u hu)⟩, fun j => by rw [World.frozen?_setCell]; exact h.free j, fun x hx => (h.co x hx).setAt (hne x hx), h.ne⟩
theorem Pj.set {w0 : World} {g : Nat} {L : List BE} {x : Jt} {p1 p2 q1 q2 v1 v2 : Int} {w : World} {k o : Nat} {v : Value} (h : Pj w0 g L x p1 p2 q1 q2 v1 v2 w) (hk : w0.heap.size + 3 < k) : Pj w0 g L x p1 p2 q1 q2 v1 v2 (w.setCell ⟨k, o, none⟩ v) := by
 obtain ⟨h0, h1, h2, h3, h4, h5, h6⟩ := h.j
 have hlt := h.lt
 have n0 : k ≠ w0.heap.size := by omega
 have n1 : k ≠ w0.heap.size + 1 := by omega
 have n2 : k ≠ w0.heap.size + 2 := by omega
 have n3 : k ≠ w0.heap.size + 3 := by omega
 exact ⟨⟨far1 n0 h0, far1 n0 h1, far1 n0 h2, far1 n0 h3, far1 n0 h4, far1 n0 h5, far1 n0 h6⟩, ⟨far1 n1 h.p.1, far1 n1 h.p.2⟩, ⟨far1 n2 h.q.1, far1 n2 h.q.2⟩, ⟨far1 n3 h.v.1, far1 n3 h.v.2⟩, h.bl.off (by omega) (fun y hy bx off e => by have := h.lo y hy bx off e; omega), h.bel.setCell (p := ⟨k, o, none⟩) (by show w0.heap.size ≤ k; omega) _, h.lt, h.lo, by simp; exact h.sz⟩
theorem Pj.setBd {w0 : World} {g : Nat} {L : List BE} {x : Jt} {p1 p2 q1 q2 v1 v2 : Int} {w : World} {k : Nat} (h : Pj w0 g L x p1 p2 q1 q2 v1 v2 w) (hk : w0.heap.size + 3 < k) (b : Bd) (A : Option Addr) (n c : Nat) : Pj w0 g L x p1 p2 q1 q2 v1 v2 (Go.Proofs.YtiaoandbdgdecaaGreat.setBd w k b A n c) := by
 unfold Go.Proofs.YtiaoandbdgdecaaGreat.setBd
 iterate 13 refine Pj.set ?_ hk
 exact h
theorem checkE_len4 {l : List V} (h : checkE l = 0) : l.length ≤ 8 := by
 unfold checkE at h
 by_cases hc : 8 < l.length
 ·rw [if_pos hc] at h; cases h
 ·omega
theorem setBo_far {w : World} {g o k o' : Nat} {u : Value} {b : Bd} {A : Option Addr} {n c : Nat} (hne : g ≠ k) (h : w.cell? ⟨k, o', none⟩ = some u) : (setBo w g o b A n c).cell? ⟨k, o', none⟩ = some u := by
 unfold setBo
 iterate 13 refine far1 hne ?_
 exact h
theorem both_map {L : List BE} {ka kb : Nat} (hka : ka < L.length) (hkb : kb < L.length) (hab : ka ≠ kb) (p1 p2 q1 q2 j1 j2 : Int) (xa xb : BE) (ha : valB xa = (pushR L[ka].b (-j1) (-j2) p1 p2, L[ka].l)) (hb : valB xb = (pushR L[kb].b j1 j2 q1 q2, L[kb].l)) : ((L.set ka xa).set kb xb).map valB = bothQ (L.map valB) ka kb p1 p2 q1 q2 j1 j2 := by
 have e1 : (L.map valB)[ka]? = some (valB L[ka]) := by rw [List.getElem?_map, List.getElem?_eq_getElem hka]; rfl
 have e2 : (L.map valB)[kb]? = some (valB L[kb]) := by rw [List.getElem?_map, List.getElem?_eq_getElem hkb]; rfl
 unfold bothQ
 rw [qB_at rfl e1, qB_at rfl e2, putQ_eq e1, putQ_eq (y := valB L[kb]) (by rw [List.getElem?_set_ne hab]; exact e2), List.map_set, List.map_set, ha, hb]
 rfl
end
end Go.Proofs.YtiaoandbdgdecaaGreat
namespace Go.Proofs.YtiaoandbdgdecaaGreat
section
set_option linter.unusedVariables false
set_option linter.unusedSimpArgs false
open Go.ChangeShapes Go.WideShapes Go.ChangeAt Go.RowKit Go.Deep Go.Joins
section
variable {H : Type} {enc : TypeId × Value → H} {W : World} {held : Bool} {base : Nat} {sp : Nat → Bool}
set_option maxRecDepth 100000 in
set_option maxRecDepth 100000 in

set_option maxRecDepth 100000 in

end
end
end Go.Proofs.YtiaoandbdgdecaaGreat
namespace Go.Proofs.YtiaoandbdgdecaaGreat
section
set_option linter.unusedVariables false
set_option linter.unusedSimpArgs false
open Go.RowKit
set_option maxRecDepth 100000 in
theorem run_eqVJ (x y u v : Int) (w : World) : (Op.equalIn 10000 27 (.agg #[.int .i64 x, .int .i64 y]) (.agg #[.int .i64 u, .int .i64 v])).run Tryz.prog w = .ok (x == u && y == v) w := by
 have hS : Tryz.prog.underlying 27 = some (.struct (Tryz.prog.fieldsOf 27)) := by kernel_rfl
 have hp : Tryz.prog.stoodInHeld 27 = false := by kernel_rfl
 rw [show (10000 : Nat) = 9999 + 1 from rfl, run_equalIn_agg w 9999 27 _ _ hS hp]
 simp only [Program.fieldsOf, Tryz.underlying27]
 go_simp
 by_cases h1 : x = u <;> by_cases h2 : y = v <;> simp [h1, h2]

structure Vg (w : World) (g : Nat) (x y : Int) : Prop where
 a : w.cell? ⟨g, 0, none⟩ = some (.int .i64 x)
 b : w.cell? ⟨g, 1, none⟩ = some (.int .i64 y)
theorem keepVg {w w' : World} {g : Nat} {x y : Int} (hb : Below w.heap.size w w') (h : Vg w g x y) : Vg w' g x y := ⟨keepCell hb h.a, keepCell hb h.b⟩
theorem Vg.drew {w : World} {g : Nat} {x y : Int} (h : Vg w g x y) : Vg w.drew g x y := ⟨h.a, h.b⟩
theorem Vg.next {w w' : World} {g k : Nat} {x y : Int} (h : Vg w g x y) (hg : w.grownBy w' (some k)) (hne : g ≠ k) : Vg w' g x y :=
 ⟨(World.cell?_of_block (hg.block g (lt_of_cell h.a) (by simpa using hne))).trans h.a, (World.cell?_of_block (hg.block g (lt_of_cell h.a) (by simpa using hne))).trans h.b⟩
structure Jg (w : World) (g : Nat) (x : Jt) : Prop where
 c0 : w.cell? ⟨g, 0, none⟩ = some (.int .i64 x.a)
 c1 : w.cell? ⟨g, 1, none⟩ = some (.int .i64 x.b)
 c2 : w.cell? ⟨g, 2, none⟩ = some (.int .i64 x.p1)
 c3 : w.cell? ⟨g, 3, none⟩ = some (.int .i64 x.p2)
 c4 : w.cell? ⟨g, 4, none⟩ = some (.int .i64 x.q1)
 c5 : w.cell? ⟨g, 5, none⟩ = some (.int .i64 x.q2)
 c6 : w.cell? ⟨g, 6, none⟩ = some (.int .i64 x.len)
theorem keepJg {w w' : World} {g : Nat} {x : Jt} (hb : Below w.heap.size w w') (h : Jg w g x) : Jg w' g x :=
 ⟨keepCell hb h.c0, keepCell hb h.c1, keepCell hb h.c2, keepCell hb h.c3, keepCell hb h.c4, keepCell hb h.c5, keepCell hb h.c6⟩
theorem Jg.alloc {w : World} {g : Nat} {x : Jt} (h : Jg w g x) (o : Obj) : Jg (w.alloc o) g x := keepJg ((Below.refl _ _).alloc (Nat.le_refl _) _) h
theorem Vg.alloc {w : World} {g : Nat} {x y : Int} (h : Vg w g x y) (o : Obj) : Vg (w.alloc o) g x y := keepVg ((Below.refl _ _).alloc (Nat.le_refl _) _) h
theorem Jg.drew {w : World} {g : Nat} {x : Jt} (h : Jg w g x) : Jg w.drew g x := keepJg (Below.refl _ _).drew h
theorem Jg.next {w w' : World} {g k : Nat} {x : Jt} (h : Jg w g x) (hg : w.grownBy w' (some k)) (hne : g ≠ k) : Jg w' g x :=
 have e := hg.block g (lt_of_cell h.c0) (by simpa using hne)
 ⟨(World.cell?_of_block e).trans h.c0, (World.cell?_of_block e).trans h.c1, (World.cell?_of_block e).trans h.c2, (World.cell?_of_block e).trans h.c3, (World.cell?_of_block e).trans h.c4, (World.cell?_of_block e).trans h.c5, (World.cell?_of_block e).trans h.c6⟩

structure RJ (w0 : World) (s : Value) (L' : List BE) (w : World) : Prop where
 own : OwnE layB 58 w w0.heap.size s L'
 co : ∀ x ∈ L', Sl w x.A x.n x.c x.l ∧ x.l ≠ [] ∧ ∀ bx off, x.A = some ⟨bx, off, none⟩ → w0.heap.size ≤ bx ∧ some bx ≠ s.ownBlock
 bel : Below w0.heap.size w0 w
theorem sl_grownR {w w' : World} {A : Option Addr} {n c : Nat} {l : List V} {row : Option Nat} (h : Sl w A n c l) (hg : w.grownBy w' row) (hne : ∀ b off, A = some ⟨b, off, none⟩ → some b ≠ row) : Sl w' A n c l := by
 cases row with
 | none => exact h.below ⟨hg.os, hg.tape, hg.output, hg.size, fun k hk => hg.block k hk (by simp)⟩
 | some g => exact h.grown hg (fun b off e => fun e2 => hne b off e (by rw [e2]))
theorem sl_lt {w : World} {A : Option Addr} {n c : Nat} {l : List V} (h : Sl w A n c l) (hl : l ≠ []) : ∀ bx off, A = some ⟨bx, off, none⟩ → bx < w.heap.size := fun bx off e => by
 obtain ⟨b', off', e', hc⟩ := h.at_ hl
 rw [e] at e'; cases e'; exact hc.lt
theorem RJ.set {w0 wb : World} {s : Value} {L' : List BE} {w : World} (hb : RJ w0 s L' wb) (h : RJ w0 s L' w) {k o : Nat} {v : Value} (hk : wb.heap.size ≤ k) : RJ w0 s L' (w.setCell ⟨k, o, none⟩ v) := by
 have hs := hb.bel.size
 refine ⟨h.own.off (fun j hj => by have := (hb.own.lt hj).2; omega) o v, fun x hx => ?_, h.bel.setCell (p := ⟨k, o, none⟩) (by show w0.heap.size ≤ k; omega) _⟩
 obtain ⟨h1, h2, h3⟩ := h.co x hx
 exact ⟨h1.setAt (fun bx off e => by have := sl_lt (hb.co x hx).1 h2 bx off e; omega), h2, h3⟩
theorem RJ.push {w0 wb : World} {s s' : Value} {L' : List BE} {w w7 : World} {o : Obj} {y : BE} (hb : RJ w0 s L' wb) (h : RJ w0 s L' w) (hS : Sl w y.A y.n y.c y.l) (hl : y.l ≠ []) (hf : ∀ bx off, y.A = some ⟨bx, off, none⟩ → wb.heap.size ≤ bx)
  (ho : OwnE layB 58 w7 w0.heap.size s' (L' ++ [y])) (hg : (w.alloc o).grownBy w7 s.ownBlock) (hat : s'.ownBlock = s.ownBlock ∨ s'.ownBlock = some (w.alloc o).heap.size) : RJ w0 s' (L' ++ [y]) w7 := by
 have hsb := hb.bel.size
 have hsw := h.bel.size
 have hsa : (w.alloc o).heap.size = w.heap.size + 1 := by simp
 have hga : w.grownBy (w.alloc o) s.ownBlock := World.grownBy_alloc _ _ _
 have hg7 : w.grownBy w7 s.ownBlock := grown_trans hga hg
 have nblk : ∀ {z : BE}, Sl w z.A z.n z.c z.l → z.l ≠ [] → (∀ bx off, z.A = some ⟨bx, off, none⟩ → some bx ≠ s.ownBlock) → ∀ bx off, z.A = some ⟨bx, off, none⟩ → some bx ≠ s'.ownBlock := fun {z} hs hne hno bx off e e2 => by
  have := sl_lt hs hne bx off e
  rcases hat with q | q
  ·exact hno bx off e (e2.trans q)
  ·rw [q, hsa] at e2; cases e2; omega
 have hnw : ∀ bx off, y.A = some ⟨bx, off, none⟩ → some bx ≠ s.ownBlock := fun bx off e e2 => by have := hf bx off e; have := (hb.own.lt e2.symm).2; omega
 refine ⟨ho, fun x hx => ?_, h.bel.grown hg7 (by omega) (fun k hk => (hb.own.lt hk).1)⟩
 rcases List.mem_append.1 hx with hx | hx
 ·obtain ⟨h1, h2, h3⟩ := h.co x hx
  exact ⟨sl_grownR h1 hg7 (fun bx off e => (h3 bx off e).2), h2, fun bx off e => ⟨(h3 bx off e).1, nblk h1 h2 (fun bx off e => (h3 bx off e).2) bx off e⟩⟩
 ·rw [List.mem_singleton.1 hx]
  exact ⟨sl_grownR hS hg7 hnw, hl, fun bx off e => ⟨by have := hf bx off e; omega, nblk hS hl hnw bx off e⟩⟩


structure Rj (w0 : World) (B g : Nat) (L : List BE) (w : World) : Prop where
 bl : BL w g L
 bel : Below w0.heap.size w0 w
 ge : w0.heap.size ≤ g
 gB : g < B
 hi : ∀ y ∈ L, ∀ bx off, y.A = some ⟨bx, off, none⟩ → bx < B
 Bw : B ≤ w.heap.size
theorem keepRj {w0 : World} {B g : Nat} {L : List BE} {w w' : World} (hb : Below w.heap.size w w') (h : Rj w0 B g L w) : Rj w0 B g L w' :=
 ⟨keepBL hb h.bl, keepBelow hb h.bel, h.ge, h.gB, h.hi, Nat.le_trans h.Bw hb.size⟩
theorem Rj.drew {w0 : World} {B g : Nat} {L : List BE} {w : World} (h : Rj w0 B g L w) : Rj w0 B g L w.drew := keepRj (Below.refl _ _).drew h
theorem Rj.alloc {w0 : World} {B g : Nat} {L : List BE} {w : World} (h : Rj w0 B g L w) (o : Obj) : Rj w0 B g L (w.alloc o) := keepRj ((Below.refl _ _).alloc (Nat.le_refl _) _) h
theorem Rj.set {w0 : World} {B g : Nat} {L : List BE} {w : World} (h : Rj w0 B g L w) {k o : Nat} {v : Value} (hk : B ≤ k) : Rj w0 B g L (w.setCell ⟨k, o, none⟩ v) :=
 ⟨h.bl.off (by have := h.gB; omega) (fun y hy bx off e => by have := h.hi y hy bx off e; omega), h.bel.setCell (p := ⟨k, o, none⟩) (by show w0.heap.size ≤ k; have := h.gB; have := h.ge; omega) _, h.ge, h.gB, h.hi, by simp; exact h.Bw⟩
theorem Rj.of {w0 : World} {g : Nat} {L : List BE} {w : World} (h : BL w g L) (hB : Below w0.heap.size w0 w) (hg : w0.heap.size ≤ g) (hv : ∀ x ∈ L, bodyE x.b x.l = 0) : Rj w0 w.heap.size g L w :=
 ⟨h, hB, hg, h.cl.lt, fun y hy => sl_lt (h.co y hy) (fun e => by have := hv y hy; rw [e] at this; exact absurd (bodyE_zero this).1 (by decide)), Nat.le_refl _⟩
theorem Rj.next {w0 : World} {B g : Nat} {L : List BE} {w w' : World} (h : Rj w0 B g L w) (hg : w.grownBy w' (some g)) : Below w0.heap.size w0 w' := h.bel.trans (below_of_grown hg h.bel.size h.ge)
end
end Go.Proofs.YtiaoandbdgdecaaGreat
namespace Go.Proofs.YtiaoandbdgdecaaGreat
section
set_option linter.unusedVariables false
set_option linter.unusedSimpArgs false
open Go.RowKit

structure Rq (w0 : World) (g : Nat) (L : List BE) (w : World) : Prop where
 bl : BL w g L
 gr : w0.grownBy w (some g)
 lt : g < w0.heap.size
 lo : ∀ y ∈ L, ∀ bx off, y.A = some ⟨bx, off, none⟩ → bx < w0.heap.size
 sz : w0.heap.size ≤ w.heap.size
theorem keepRq {w0 : World} {g : Nat} {L : List BE} {w w' : World} (hb : Below w.heap.size w w') (h : Rq w0 g L w) : Rq w0 g L w' := ⟨keepBL hb h.bl, grown_trans h.gr (grown_of_below hb), h.lt, h.lo, Nat.le_trans h.sz hb.size⟩
theorem Rq.drew {w0 : World} {g : Nat} {L : List BE} {w : World} (h : Rq w0 g L w) : Rq w0 g L w.drew := keepRq (Below.refl _ _).drew h
theorem Rq.alloc {w0 : World} {g : Nat} {L : List BE} {w : World} (h : Rq w0 g L w) (o : Obj) : Rq w0 g L (w.alloc o) := keepRq ((Below.refl _ _).alloc (Nat.le_refl _) _) h
theorem Rq.set {w0 : World} {g : Nat} {L : List BE} {w : World} (h : Rq w0 g L w) {k o : Nat} {v : Value} (hk : w0.heap.size ≤ k) : Rq w0 g L (w.setCell ⟨k, o, none⟩ v) :=
 have hlt := h.lt
 ⟨h.bl.off (by omega) (fun y hy bx off e => by have := h.lo y hy bx off e; omega), ⟨h.gr.os, h.gr.tape, h.gr.output, by simp; exact h.gr.size, fun j hj hne => by
  have e := (grown_setCell w k o v).block j (Nat.lt_of_lt_of_le hj h.sz) (by simp; omega)
  exact e.trans (h.gr.block j hj hne)⟩, h.lt, h.lo, by simp; exact h.sz⟩
theorem Rq.setA {w0 : World} {g : Nat} {L : List BE} {w : World} (h : Rq w0 g L w) {k : Nat} (hk : k < L.length) (x : BE) (hs : Sl w x.A x.n x.c x.l) (hn : ∀ bx off, x.A = some ⟨bx, off, none⟩ → bx ≠ g) (hl : ∀ bx off, x.A = some ⟨bx, off, none⟩ → bx < w0.heap.size) : Rq w0 g (L.set k x) (setBo w g (k * 13) x.b x.A x.n x.c) :=
 ⟨h.bl.set hk x hs hn, grown_trans h.gr (setBo_grown _ _ _ _ _ _ _), h.lt, fun y hy => (List.mem_or_eq_of_mem_set hy).elim (fun q => h.lo y q) (fun q => by rw [q]; exact hl), Nat.le_trans h.sz (setBo_grown w g (k * 13) x.b x.A x.n x.c).size⟩
set_option maxRecDepth 100000 in
set_option maxHeartbeats 8000000 in

end
end Go.Proofs.YtiaoandbdgdecaaGreat
