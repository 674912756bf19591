/- Parts of a proof: contracts and laws. -/
import Derived.Test.YtkiiehobphkmgaaPZ28
import Derived.Test.YtkiiehobphkmgaaPZ29
namespace Go.Proofs.Ytkiiehobphkmgaa
section
set_option linter.unusedVariables false
set_option linter.unusedSimpArgs false
open Go.RowKit

structure Rw where
  t1 : Int
  t2 : Int
  ease : Int
  slip : Int
  lift : Int
  bound : Int
def relV (Q : List QB) (x : Ct) (v1 v2 : Int) : Int := pulV (qB Q x.a) (qB Q x.b) x.px x.py x.px x.py v1 v2
def relE (Q : List QB) (x : Ct) (v1 v2 : Int) : Int := pulE (qB Q x.a) (qB Q x.b) x.px x.py x.px x.py v1 v2
def lift0 (x : Ct) (st : Int) : Int := divF (mulF (max 0 (x.dep - 512)) 8192) st
def liftQ (Q : List QB) (x : Ct) (st : Int) : Int := if relV Q x x.nx x.ny < -32768 then addF (lift0 x st) (mulF (max (qB Q x.a).bounce (qB Q x.b).bounce) (-(relV Q x x.nx x.ny))) else lift0 x st
def rowQ (Q : List QB) (st : Int) (x : Ct) : Rw := ⟨-x.ny, x.nx, relE Q x x.nx x.ny, relE Q x (-x.ny) x.nx, liftQ Q x st, min (qB Q x.a).rub (qB Q x.b).rub⟩
def pushX (Q : List QB) (x : Ct) (j1 j2 : Int) : List QB := bothQ Q x.a.toNat x.b.toNat x.px x.py x.px x.py j1 j2
def warmQ (Q : List QB) (x : Ct) (r : Rw) : List QB := pushX Q x (addF (mulF x.nx x.push) (mulF r.t1 x.sli)) (addF (mulF x.ny x.push) (mulF r.t2 x.sli))
def slideZ (Q : List QB) (x : Ct) (r : Rw) : Int := clampN (subF x.sli (divF (relV Q x r.t1 r.t2) r.slip)) (mulF r.bound x.push)
def slipQ (Q : List QB) (x : Ct) (r : Rw) : List QB × Ct :=
  if r.slip = 0 then (Q, x) else (pushX Q x (mulF r.t1 (subF (slideZ Q x r) x.sli)) (mulF r.t2 (subF (slideZ Q x r) x.sli)), { x with sli := slideZ Q x r })
def pressZ (Q : List QB) (x : Ct) (r : Rw) : Int := max 0 (addF x.push (divF (subF r.lift (relV Q x x.nx x.ny)) r.ease))
def easeQ (Q : List QB) (x : Ct) (r : Rw) : List QB × Ct :=
  if r.ease = 0 then (Q, x) else (pushX Q x (mulF x.nx (subF (pressZ Q x r) x.push)) (mulF x.ny (subF (pressZ Q x r) x.push)), { x with push := pressZ Q x r })
def roundQ (Q : List QB) (x : Ct) (r : Rw) : List QB × Ct := easeQ (slipQ Q x r).1 (slipQ Q x r).2 r
def rowsQ (Q : List QB) (C : List Ct) (st : Int) : List Rw := C.map (rowQ Q st)
def warmTo (Q : List QB) (C : List Ct) (R : List Rw) : Nat → List QB
  | 0 => Q
  | k + 1 => match C[k]?, R[k]? with | some x, some r => warmQ (warmTo Q C R k) x r | _, _ => warmTo Q C R k
theorem warmTo_succ {Q : List QB} {C : List Ct} {R : List Rw} {k : Nat} {x : Ct} {r : Rw} (hx : C[k]? = some x) (hr : R[k]? = some r) : warmTo Q C R (k + 1) = warmQ (warmTo Q C R k) x r := by rw [warmTo, hx, hr]
def stepQ (S : List QB × List Ct) (R : List Rw) (i : Nat) : List QB × List Ct := match S.2[i]?, R[i]? with | some x, some r => ((roundQ S.1 x r).1, S.2.set i (roundQ S.1 x r).2) | _, _ => S
theorem stepQ_eq {S : List QB × List Ct} {R : List Rw} {i : Nat} {x : Ct} {r : Rw} (hx : S.2[i]? = some x) (hr : R[i]? = some r) : stepQ S R i = ((roundQ S.1 x r).1, S.2.set i (roundQ S.1 x r).2) := by unfold stepQ; rw [hx, hr]
def iterQ (S : List QB × List Ct) (R : List Rw) (n : Nat) : Nat → List QB × List Ct
  | 0 => S
  | k + 1 => stepQ (iterQ S R n k) R (k % n)
def solveQ (Q : List QB) (C : List Ct) (st : Int) (r : Nat) : List QB × List Ct := iterQ (warmTo Q C (rowsQ Q C st) C.length, C) (rowsQ Q C st) C.length (r * C.length)

theorem mulF_nnS {a b : Int} (ha : 0 ≤ a) (hb : 0 ≤ b) : 0 ≤ mulF a b := by
  have c0 : ∀ {z : Int}, 0 ≤ z → 0 ≤ clampF z := fun {z} h => by unfold clampF; split <;> (try split) <;> omega
  unfold mulF mdF
  split
  · omega
  · refine c0 ?_
    have h1 := Int.mul_nonneg (c0 ha) (c0 hb)
    rw [show clampF 65536 = 65536 from rfl]
    unfold rnd
    rw [if_neg (by omega)]
    exact Int.ediv_nonneg (by omega) (by omega)
theorem pushX_like {Q : List QB} {x : Ct} (h : CtOk Q.length x) (j1 j2 : Int) : LikeL Q (pushX Q x j1 j2) := by
  obtain ⟨⟨h1, h2, h3, -⟩, -⟩ := h
  exact bothQ_like (by omega) (by omega) (by omega) _ _ _ _ _ _
theorem slipQ_ok {n : Nat} {Q : List QB} {x : Ct} {r : Rw} (h : CtOk n x) (hb : 0 ≤ r.bound) : CtOk n (slipQ Q x r).2 := by
  unfold slipQ
  split
  · exact h
  · have h1 := mulF_nnS hb h.2.2.2.2.1.1
    have h2 := mulF_bd r.bound x.push
    have h3 := clampN_in' (n := subF x.sli (divF (relV Q x r.t1 r.t2) r.slip)) h1
    obtain ⟨a, b, c, d, e, f⟩ := h
    exact ⟨a, b, c, d, e, by show -1099511627776 ≤ slideZ Q x r ∧ slideZ Q x r ≤ 1099511627776; unfold slideZ; omega⟩
theorem slipQ_like {Q : List QB} {x : Ct} {r : Rw} (h : CtOk Q.length x) : LikeL Q (slipQ Q x r).1 := by
  unfold slipQ
  split
  · exact .refl Q
  · exact pushX_like h _ _
theorem addF_bdS (a b : Int) : -1099511627776 ≤ addF a b ∧ addF a b ≤ 1099511627776 := clampF_bd _
theorem easeQ_ok {n : Nat} {Q : List QB} {x : Ct} {r : Rw} (h : CtOk n x) : CtOk n (easeQ Q x r).2 := by
  unfold easeQ
  split
  · exact h
  · have h2 := addF_bdS x.push (divF (subF r.lift (relV Q x x.nx x.ny)) r.ease)
    obtain ⟨a, b, c, d, e, f⟩ := h
    exact ⟨a, b, c, d, by show 0 ≤ pressZ Q x r ∧ pressZ Q x r ≤ 1099511627776; unfold pressZ; omega, f⟩
theorem easeQ_like {Q : List QB} {x : Ct} {r : Rw} (h : CtOk Q.length x) : LikeL Q (easeQ Q x r).1 := by
  unfold easeQ
  split
  · exact .refl Q
  · exact pushX_like h _ _
theorem roundQ_ok {n : Nat} {Q : List QB} {x : Ct} {r : Rw} (h : CtOk n x) (hb : 0 ≤ r.bound) : CtOk n (roundQ Q x r).2 := easeQ_ok (slipQ_ok h hb)
theorem roundQ_like {Q : List QB} {x : Ct} {r : Rw} (h : CtOk Q.length x) (hb : 0 ≤ r.bound) : LikeL Q (roundQ Q x r).1 := by
  have h1 := slipQ_like (r := r) h
  exact h1.trans (easeQ_like (by rw [h1.len]; exact slipQ_ok h hb))
theorem warmQ_like {Q : List QB} {x : Ct} {r : Rw} (h : CtOk Q.length x) : LikeL Q (warmQ Q x r) := pushX_like h _ _
theorem warmTo_like {Q : List QB} {C : List Ct} {R : List Rw} (h : ∀ x ∈ C, CtOk Q.length x) : ∀ k, LikeL Q (warmTo Q C R k)
  | 0 => .refl Q
  | k + 1 => by
    have ih := warmTo_like (R := R) h k
    rcases hc : C[k]? with _ | x
    · rw [warmTo, hc]; exact ih
    · rcases hr : R[k]? with _ | r
      · rw [warmTo, hc, hr]; exact ih
      · rw [warmTo_succ hc hr]
        exact ih.trans (warmQ_like (by rw [ih.len]; exact h x (List.mem_of_getElem? hc)))

structure Okay (Q : List QB) (n : Nat) (S : List QB × List Ct) : Prop where
  like : LikeL Q S.1
  len : S.2.length = n
  ok : ∀ x ∈ S.2, CtOk Q.length x
theorem stepQ_okay {Q : List QB} {n : Nat} {S : List QB × List Ct} {R : List Rw} (hR : ∀ r ∈ R, 0 ≤ r.bound) (h : Okay Q n S) (i : Nat) : Okay Q n (stepQ S R i) := by
  rcases hc : S.2[i]? with _ | x
  · have : stepQ S R i = S := by unfold stepQ; rw [hc]
    rw [this]; exact h
  · rcases hr : R[i]? with _ | r
    · have : stepQ S R i = S := by unfold stepQ; rw [hc, hr]
      rw [this]; exact h
    · rw [stepQ_eq hc hr]
      have hb := hR r (List.mem_of_getElem? hr)
      have hx := h.ok x (List.mem_of_getElem? hc)
      refine ⟨h.like.trans (roundQ_like (by rw [h.like.len]; exact hx) hb), by simp [h.len], fun y hy => ?_⟩
      rcases List.mem_or_eq_of_mem_set hy with q | q
      · exact h.ok y q
      · rw [q]; exact roundQ_ok hx hb
theorem iterQ_okay {Q : List QB} {n : Nat} {S : List QB × List Ct} {R : List Rw} (hR : ∀ r ∈ R, 0 ≤ r.bound) (h : Okay Q n S) (m : Nat) : ∀ k, Okay Q n (iterQ S R m k)
  | 0 => h
  | k + 1 => stepQ_okay hR (iterQ_okay hR h m k) _
theorem iterQ_add (S : List QB × List Ct) (R : List Rw) {n : Nat} (t : Nat) {m : Nat} (hm : m < n) : iterQ S R n (t * n + m + 1) = stepQ (iterQ S R n (t * n + m)) R m := by
  show stepQ _ R ((t * n + m) % n) = _
  rw [Nat.mul_comm, Nat.mul_add_mod, Nat.mod_eq_of_lt hm]
end
end Go.Proofs.Ytkiiehobphkmgaa
