/- Parts of a proof: contracts and laws. -/
import Derived.Test.YtkiiehobphkmgaaPZ22
import Derived.Test.YtkiiehobphkmgaaPZ26
import Derived.Test.YtkiiehobphkmgaaPZ27
namespace Go.Proofs.Ytkiiehobphkmgaa
section
set_option linter.unusedVariables false
set_option linter.unusedSimpArgs false
open Go.RowKit

def pulE (a b : Bd) (p1 p2 q1 q2 v1 v2 : Int) : Int := addF (easeR a p1 p2 v1 v2) (easeR b q1 q2 v1 v2)
def pulV (a b : Bd) (p1 p2 q1 q2 v1 v2 : Int) : Int := dotF (subF (speedX b q1 q2) (speedX a p1 p2)) (subF (speedY b q1 q2) (speedY a p1 p2)) v1 v2

abbrev QB := Bd × List V
def qB (Q : List QB) (i : Int) : Bd := match Q[i.toNat]? with | some y => y.1 | none => bd0
def putQ (Q : List QB) (k : Nat) (b : Bd) : List QB := match Q[k]? with | some y => Q.set k (b, y.2) | none => Q
theorem putQ_eq {Q : List QB} {k : Nat} {y : QB} (h : Q[k]? = some y) (b : Bd) : putQ Q k b = Q.set k (b, y.2) := by unfold putQ; rw [h]
theorem qB_at {Q : List QB} {i : Int} {k : Nat} {y : QB} (hi : i = k) (h : Q[k]? = some y) : qB Q i = y.1 := by unfold qB; rw [hi, Int.toNat_natCast, h]

def bothQ (Q : List QB) (ka kb : Nat) (p1 p2 q1 q2 j1 j2 : Int) : List QB := putQ (putQ Q ka (pushR (qB Q ka) (-j1) (-j2) p1 p2)) kb (pushR (qB Q kb) j1 j2 q1 q2)

structure Like (y y' : QB) : Prop where
  l : y'.2 = y.2
  px : y'.1.px = y.1.px
  py : y'.1.py = y.1.py
  ang : y'.1.ang = y.1.ang
  mass : y'.1.mass = y.1.mass
  rest : y.1.mass = 0 → y' = y
  ok : bodyE y.1 y.2 = 0 → bodyE y'.1 y'.2 = 0
theorem Like.refl (y : QB) : Like y y := ⟨rfl, rfl, rfl, rfl, rfl, fun _ => rfl, fun h => h⟩
theorem Like.trans {y y' z : QB} (h : Like y y') (h' : Like y' z) : Like y z :=
  ⟨h'.l.trans h.l, h'.px.trans h.px, h'.py.trans h.py, h'.ang.trans h.ang, h'.mass.trans h.mass, fun e => by rw [h'.rest (by rw [h.mass]; exact e), h.rest e], fun e => h'.ok (h.ok e)⟩
theorem Like.push (y : QB) (j1 j2 u v : Int) : Like y (pushR y.1 j1 j2 u v, y.2) := by
  refine ⟨rfl, ?_, ?_, ?_, ?_, fun e => ?_, fun e => pushR_ok e _ _ _ _⟩ <;> unfold pushR
  iterate 4 (split <;> rfl)
  rw [if_pos (.inl e)]
structure LikeL (Q Q' : List QB) : Prop where
  len : Q'.length = Q.length
  at_ : ∀ (k : Nat) (y : QB), Q[k]? = some y → ∃ y', Q'[k]? = some y' ∧ Like y y'
theorem LikeL.refl (Q : List QB) : LikeL Q Q := ⟨rfl, fun k y h => ⟨y, h, .refl y⟩⟩
theorem LikeL.trans {Q Q' R : List QB} (h : LikeL Q Q') (h' : LikeL Q' R) : LikeL Q R :=
  ⟨h'.len.trans h.len, fun k y hy => by
    obtain ⟨y', e, l⟩ := h.at_ k y hy
    obtain ⟨z, e', l'⟩ := h'.at_ k y' e
    exact ⟨z, e', l.trans l'⟩⟩
theorem LikeL.put {Q : List QB} {k : Nat} {y : QB} (h : Q[k]? = some y) {b : Bd} (hb : Like y (b, y.2)) : LikeL Q (putQ Q k b) := by
  rw [putQ_eq h]
  refine ⟨by simp, fun j z hz => ?_⟩
  by_cases e : k = j
  · subst e
    rw [h] at hz; cases hz
    have hk : k < Q.length := (List.getElem?_eq_some_iff.1 h).1
    exact ⟨_, by rw [List.getElem?_set_self hk], hb⟩
  · exact ⟨z, by rw [List.getElem?_set_ne e]; exact hz, .refl z⟩
theorem LikeL.qB {Q Q' : List QB} (h : LikeL Q Q') (i : Int) : (Go.Proofs.Ytkiiehobphkmgaa.qB Q' i).px = (Go.Proofs.Ytkiiehobphkmgaa.qB Q i).px ∧ (Go.Proofs.Ytkiiehobphkmgaa.qB Q' i).py = (Go.Proofs.Ytkiiehobphkmgaa.qB Q i).py ∧ (Go.Proofs.Ytkiiehobphkmgaa.qB Q' i).ang = (Go.Proofs.Ytkiiehobphkmgaa.qB Q i).ang ∧ (Go.Proofs.Ytkiiehobphkmgaa.qB Q' i).mass = (Go.Proofs.Ytkiiehobphkmgaa.qB Q i).mass := by
  unfold Go.Proofs.Ytkiiehobphkmgaa.qB
  rcases hq : Q[i.toNat]? with _ | y
  · have : Q'[i.toNat]? = none := by rw [List.getElem?_eq_none_iff] at hq ⊢; rw [h.len]; exact hq
    rw [this]; exact ⟨rfl, rfl, rfl, rfl⟩
  · obtain ⟨y', e, l⟩ := h.at_ _ y hq
    rw [e]; exact ⟨l.px, l.py, l.ang, l.mass⟩
theorem LikeL.wX {Q Q' : List QB} (h : LikeL Q Q') (i : Int) (p q : Int) : Go.Proofs.Ytkiiehobphkmgaa.wX (Go.Proofs.Ytkiiehobphkmgaa.qB Q' i) p q = Go.Proofs.Ytkiiehobphkmgaa.wX (Go.Proofs.Ytkiiehobphkmgaa.qB Q i) p q := by
  obtain ⟨h1, h2, h3, h4⟩ := h.qB i
  unfold Go.Proofs.Ytkiiehobphkmgaa.wX; rw [h1, h3]
theorem bothQ_like {Q : List QB} {ka kb : Nat} (ha : ka < Q.length) (hb : kb < Q.length) (hab : ka ≠ kb) (p1 p2 q1 q2 j1 j2 : Int) : LikeL Q (bothQ Q ka kb p1 p2 q1 q2 j1 j2) := by
  have e1 : Q[ka]? = some Q[ka] := List.getElem?_eq_getElem ha
  have e2 : Q[kb]? = some Q[kb] := List.getElem?_eq_getElem hb
  unfold bothQ
  rw [qB_at rfl e1, qB_at rfl e2]
  refine (LikeL.put e1 (Like.push _ _ _ _ _)).trans (LikeL.put (y := Q[kb]) ?_ (Like.push _ _ _ _ _))
  rw [putQ_eq e1, List.getElem?_set_ne hab]; exact e2



theorem bodiesE_okJ {L : List BE} (h : L.length ≤ 64) (hv : ∀ x ∈ L, bodyE x.b x.l = 0) : bodiesE L = 0 := by
  unfold bodiesE
  rw [if_neg (by omega)]
  have : ∀ k, k ≤ L.length → bodiesTo L k = 0 := fun k => by
    induction k with
    | zero => intro _; rfl
    | succ k ih =>
      intro hk
      rw [bodiesTo_succ (by omega), if_neg (by rw [ih (by omega)]; simp)]
      exact hv _ (List.getElem_mem _)
  exact this _ (Nat.le_refl _)

theorem like_valid {L L' : List BE} (h : LikeL (L.map valB) (L'.map valB)) (hv : ∀ x ∈ L, bodyE x.b x.l = 0) : ∀ x ∈ L', bodyE x.b x.l = 0 := fun x hx => by
  obtain ⟨k, hk, rfl⟩ := List.getElem_of_mem hx
  have hk' : k < L.length := by have := h.len; simp at this; omega
  obtain ⟨y', e, l⟩ := h.at_ k (valB L[k]) (by rw [List.getElem?_map, List.getElem?_eq_getElem hk']; rfl)
  rw [List.getElem?_map, List.getElem?_eq_getElem hk] at e
  have e : some (valB L'[k]) = some y' := e
  cases e
  exact l.ok (hv _ (List.getElem_mem _))
theorem dotF_bd (a b c d : Int) : -1099511627776 ≤ dotF a b c d ∧ dotF a b c d ≤ 1099511627776 := clampF_bd _
end
end Go.Proofs.Ytkiiehobphkmgaa
