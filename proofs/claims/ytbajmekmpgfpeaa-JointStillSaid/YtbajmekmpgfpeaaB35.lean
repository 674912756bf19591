/- Parts of a proof: contracts and laws. -/
import Derived.Test.YtbajmekmpgfpeaaB25
import Derived.Test.YtbajmekmpgfpeaaB33
import Derived.Test.YtbajmekmpgfpeaaB34
namespace Go.Proofs.Ytbajmekmpgfpeaa
section
set_option linter.unusedVariables false
set_option linter.unusedSimpArgs false
open Go.RowKit

def pulE (a b : Bd) (p1 p2 q1 q2 v1 v2 : Int) : Int := addF (easeR a p1 p2 v1 v2) (easeR b q1 q2 v1 v2)
def pulV (a b : Bd) (p1 p2 q1 q2 v1 v2 : Int) : Int := dotF (subF (speedX b q1 q2) (speedX a p1 p2)) (subF (speedY b q1 q2) (speedY a p1 p2)) v1 v2
def pulJ (a b : Bd) (p1 p2 q1 q2 v1 v2 gap st : Int) : Int := divF (subF (-(pulV a b p1 p2 q1 q2 v1 v2)) (divF (mulF gap 16384) st)) (pulE a b p1 p2 q1 q2 v1 v2)

abbrev QB := Bd × List V
def qB (Q : List QB) (i : Int) : Bd := match Q[i.toNat]? with | some y => y.1 | none => bd0
def putQ (Q : List QB) (k : Nat) (b : Bd) : List QB := match Q[k]? with | some y => Q.set k (b, y.2) | none => Q
theorem putQ_eq {Q : List QB} {k : Nat} {y : QB} (h : Q[k]? = some y) (b : Bd) : putQ Q k b = Q.set k (b, y.2) := by unfold putQ; rw [h]
theorem qB_at {Q : List QB} {i : Int} {k : Nat} {y : QB} (hi : i = k) (h : Q[k]? = some y) : qB Q i = y.1 := by unfold qB; rw [hi, Int.toNat_natCast, h]

def bothQ (Q : List QB) (ka kb : Nat) (p1 p2 q1 q2 j1 j2 : Int) : List QB := putQ (putQ Q ka (pushR (qB Q ka) (-j1) (-j2) p1 p2)) kb (pushR (qB Q kb) j1 j2 q1 q2)
def pullQ (Q : List QB) (ka kb : Nat) (p1 p2 q1 q2 v1 v2 gap st : Int) : List QB :=
  if pulE (qB Q ka) (qB Q kb) p1 p2 q1 q2 v1 v2 = 0 then Q
  else bothQ Q ka kb p1 p2 q1 q2 (mulF v1 (pulJ (qB Q ka) (qB Q kb) p1 p2 q1 q2 v1 v2 gap st)) (mulF v2 (pulJ (qB Q ka) (qB Q kb) p1 p2 q1 q2 v1 v2 gap st))

structure Like (y y' : QB) : Prop where
  l : y'.2 = y.2
  px : y'.1.px = y.1.px
  py : y'.1.py = y.1.py
  ang : y'.1.ang = y.1.ang
  mass : y'.1.mass = y.1.mass
  rest : y.1.mass = 0 → y' = y
  ok : bodyE y.1 y.2 = 0 → bodyE y'.1 y'.2 = 0
theorem Like.refl (y : QB) : Like y y := ⟨rfl, rfl, rfl, rfl, rfl, fun _ => rfl, fun h => h⟩
theorem Like.trans {y y' z : QB} (h : Like y y') (h' : Like y' z) : Like y z :=
  ⟨h'.l.trans h.l, h'.px.trans h.px, h'.py.trans h.py, h'.ang.trans h.ang, h'.mass.trans h.mass, fun e => by rw [h'.rest (by rw [h.mass]; exact e), h.rest e], fun e => h'.ok (h.ok e)⟩
theorem Like.push (y : QB) (j1 j2 u v : Int) : Like y (pushR y.1 j1 j2 u v, y.2) := by
  refine ⟨rfl, ?_, ?_, ?_, ?_, fun e => ?_, fun e => pushR_ok e _ _ _ _⟩ <;> unfold pushR
  iterate 4 (split <;> rfl)
  rw [if_pos (.inl e)]
structure LikeL (Q Q' : List QB) : Prop where
  len : Q'.length = Q.length
  at_ : ∀ (k : Nat) (y : QB), Q[k]? = some y → ∃ y', Q'[k]? = some y' ∧ Like y y'
theorem LikeL.refl (Q : List QB) : LikeL Q Q := ⟨rfl, fun k y h => ⟨y, h, .refl y⟩⟩
theorem LikeL.trans {Q Q' R : List QB} (h : LikeL Q Q') (h' : LikeL Q' R) : LikeL Q R :=
  ⟨h'.len.trans h.len, fun k y hy => by
    obtain ⟨y', e, l⟩ := h.at_ k y hy
    obtain ⟨z, e', l'⟩ := h'.at_ k y' e
    exact ⟨z, e', l.trans l'⟩⟩
theorem LikeL.put {Q : List QB} {k : Nat} {y : QB} (h : Q[k]? = some y) {b : Bd} (hb : Like y (b, y.2)) : LikeL Q (putQ Q k b) := by
  rw [putQ_eq h]
  refine ⟨by simp, fun j z hz => ?_⟩
  by_cases e : k = j
  · subst e
    rw [h] at hz; cases hz
    have hk : k < Q.length := (List.getElem?_eq_some_iff.1 h).1
    exact ⟨_, by rw [List.getElem?_set_self hk], hb⟩
  · exact ⟨z, by rw [List.getElem?_set_ne e]; exact hz, .refl z⟩
theorem LikeL.qB {Q Q' : List QB} (h : LikeL Q Q') (i : Int) : (Go.Proofs.Ytbajmekmpgfpeaa.qB Q' i).px = (Go.Proofs.Ytbajmekmpgfpeaa.qB Q i).px ∧ (Go.Proofs.Ytbajmekmpgfpeaa.qB Q' i).py = (Go.Proofs.Ytbajmekmpgfpeaa.qB Q i).py ∧ (Go.Proofs.Ytbajmekmpgfpeaa.qB Q' i).ang = (Go.Proofs.Ytbajmekmpgfpeaa.qB Q i).ang ∧ (Go.Proofs.Ytbajmekmpgfpeaa.qB Q' i).mass = (Go.Proofs.Ytbajmekmpgfpeaa.qB Q i).mass := by
  unfold Go.Proofs.Ytbajmekmpgfpeaa.qB
  rcases hq : Q[i.toNat]? with _ | y
  · have : Q'[i.toNat]? = none := by rw [List.getElem?_eq_none_iff] at hq ⊢; rw [h.len]; exact hq
    rw [this]; exact ⟨rfl, rfl, rfl, rfl⟩
  · obtain ⟨y', e, l⟩ := h.at_ _ y hq
    rw [e]; exact ⟨l.px, l.py, l.ang, l.mass⟩
theorem LikeL.wX {Q Q' : List QB} (h : LikeL Q Q') (i : Int) (p q : Int) : Go.Proofs.Ytbajmekmpgfpeaa.wX (Go.Proofs.Ytbajmekmpgfpeaa.qB Q' i) p q = Go.Proofs.Ytbajmekmpgfpeaa.wX (Go.Proofs.Ytbajmekmpgfpeaa.qB Q i) p q := by
  obtain ⟨h1, h2, h3, h4⟩ := h.qB i
  unfold Go.Proofs.Ytbajmekmpgfpeaa.wX; rw [h1, h3]
theorem LikeL.wY {Q Q' : List QB} (h : LikeL Q Q') (i : Int) (p q : Int) : Go.Proofs.Ytbajmekmpgfpeaa.wY (Go.Proofs.Ytbajmekmpgfpeaa.qB Q' i) p q = Go.Proofs.Ytbajmekmpgfpeaa.wY (Go.Proofs.Ytbajmekmpgfpeaa.qB Q i) p q := by
  obtain ⟨h1, h2, h3, h4⟩ := h.qB i
  unfold Go.Proofs.Ytbajmekmpgfpeaa.wY; rw [h2, h3]
theorem bothQ_like {Q : List QB} {ka kb : Nat} (ha : ka < Q.length) (hb : kb < Q.length) (hab : ka ≠ kb) (p1 p2 q1 q2 j1 j2 : Int) : LikeL Q (bothQ Q ka kb p1 p2 q1 q2 j1 j2) := by
  have e1 : Q[ka]? = some Q[ka] := List.getElem?_eq_getElem ha
  have e2 : Q[kb]? = some Q[kb] := List.getElem?_eq_getElem hb
  unfold bothQ
  rw [qB_at rfl e1, qB_at rfl e2]
  refine (LikeL.put e1 (Like.push _ _ _ _ _)).trans (LikeL.put (y := Q[kb]) ?_ (Like.push _ _ _ _ _))
  rw [putQ_eq e1, List.getElem?_set_ne hab]; exact e2
theorem pullQ_like {Q : List QB} {ka kb : Nat} (ha : ka < Q.length) (hb : kb < Q.length) (hab : ka ≠ kb) (p1 p2 q1 q2 v1 v2 gap st : Int) : LikeL Q (pullQ Q ka kb p1 p2 q1 q2 v1 v2 gap st) := by
  unfold pullQ
  split
  · exact .refl Q
  · exact bothQ_like ha hb hab _ _ _ _ _ _

def jdX (Q : List QB) (x : Jt) : Int := subF (wX (qB Q x.b) x.q1 x.q2) (wX (qB Q x.a) x.p1 x.p2)
def jdY (Q : List QB) (x : Jt) : Int := subF (wY (qB Q x.b) x.q1 x.q2) (wY (qB Q x.a) x.p1 x.p2)
def pullX (Q : List QB) (x : Jt) (v1 v2 gap st : Int) : List QB := pullQ Q x.a.toNat x.b.toNat (wX (qB Q x.a) x.p1 x.p2) (wY (qB Q x.a) x.p1 x.p2) (wX (qB Q x.b) x.q1 x.q2) (wY (qB Q x.b) x.q1 x.q2) v1 v2 gap st
def wayX (d1 d2 : Int) : Int := if d1 = 0 ∧ d2 = 0 then 65536 else unitX d1 d2
def wayY (d1 d2 : Int) : Int := if d1 = 0 ∧ d2 = 0 then 0 else unitY d1 d2
def jointQ (Q : List QB) (x : Jt) (st : Int) : List QB :=
  if x.len = 0 then pullX (pullX Q x 65536 0 (jdX Q x) st) x 0 65536 (jdY Q x) st
  else pullX Q x (wayX (jdX Q x) (jdY Q x)) (wayY (jdX Q x) (jdY Q x)) (lenV (jdX Q x) (jdY Q x) - x.len) st

def jointsQ (Q : List QB) (J : List Jt) (st : Int) : Nat → List QB
  | 0 => Q
  | k + 1 => match J[k]? with | some x => jointQ (jointsQ Q J st k) x st | none => jointsQ Q J st k
def roundsQ (Q : List QB) (J : List Jt) (st : Int) : Nat → List QB
  | 0 => Q
  | k + 1 => jointsQ (roundsQ Q J st k) J st J.length
theorem jointsQ_succ {Q : List QB} {J : List Jt} {st : Int} {k : Nat} {x : Jt} (h : J[k]? = some x) : jointsQ Q J st (k + 1) = jointQ (jointsQ Q J st k) x st := by
  show (match J[k]? with | some x => jointQ (jointsQ Q J st k) x st | none => jointsQ Q J st k) = _
  rw [h]
def FitJ (n : Nat) (x : Jt) : Prop := 0 ≤ x.a ∧ x.a < x.b ∧ x.b < (n : Int)
theorem pullX_like {Q : List QB} {x : Jt} (h : FitJ Q.length x) (v1 v2 gap st : Int) : LikeL Q (pullX Q x v1 v2 gap st) := by
  obtain ⟨h1, h2, h3⟩ := h
  exact pullQ_like (by omega) (by omega) (by omega) _ _ _ _ _ _ _ _
theorem jointQ_like {Q : List QB} {x : Jt} (h : FitJ Q.length x) (st : Int) : LikeL Q (jointQ Q x st) := by
  unfold jointQ
  split
  · have h1 := pullX_like h 65536 0 (jdX Q x) st
    exact h1.trans (pullX_like (by rw [h1.len]; exact h) _ _ _ _)
  · exact pullX_like h _ _ _ _
theorem jointsQ_like {Q : List QB} {J : List Jt} (h : ∀ x ∈ J, FitJ Q.length x) (st : Int) : ∀ k, LikeL Q (jointsQ Q J st k)
  | 0 => .refl Q
  | k + 1 => by
    have ih := jointsQ_like h st k
    rcases hj : J[k]? with _ | x
    · have : jointsQ Q J st (k + 1) = jointsQ Q J st k := by
        show (match J[k]? with | some x => jointQ (jointsQ Q J st k) x st | none => jointsQ Q J st k) = _
        rw [hj]
      rw [this]; exact ih
    · rw [jointsQ_succ hj]
      refine ih.trans (jointQ_like ?_ st)
      rw [ih.len]; exact h x (List.mem_of_getElem? hj)
theorem roundsQ_like {Q : List QB} {J : List Jt} (h : ∀ x ∈ J, FitJ Q.length x) (st : Int) : ∀ k, LikeL Q (roundsQ Q J st k)
  | 0 => .refl Q
  | k + 1 => by
    have ih := roundsQ_like h st k
    exact ih.trans (jointsQ_like (by rw [ih.len]; exact h) st _)

theorem bodiesE_okJ {L : List BE} (h : L.length ≤ 64) (hv : ∀ x ∈ L, bodyE x.b x.l = 0) : bodiesE L = 0 := by
  unfold bodiesE
  rw [if_neg (by omega)]
  have : ∀ k, k ≤ L.length → bodiesTo L k = 0 := fun k => by
    induction k with
    | zero => intro _; rfl
    | succ k ih =>
      intro hk
      rw [bodiesTo_succ (by omega), if_neg (by rw [ih (by omega)]; simp)]
      exact hv _ (List.getElem_mem _)
  exact this _ (Nat.le_refl _)
theorem bdOf_val (L : List BE) (i : Int) : bdOf L i = qB (L.map valB) i := by
  unfold bdOf qB
  rw [List.getElem?_map]
  rcases L[i.toNat]? with _ | y <;> rfl
theorem massAt_val (L : List BE) {i : Int} (h : i.toNat < L.length) : massAt L i = (qB (L.map valB) i).mass := by
  unfold massAt qB
  rw [List.getElem?_map, List.getElem?_eq_getElem h]; rfl

theorem like_valid {L L' : List BE} (h : LikeL (L.map valB) (L'.map valB)) (hv : ∀ x ∈ L, bodyE x.b x.l = 0) : ∀ x ∈ L', bodyE x.b x.l = 0 := fun x hx => by
  obtain ⟨k, hk, rfl⟩ := List.getElem_of_mem hx
  have hk' : k < L.length := by have := h.len; simp at this; omega
  obtain ⟨y', e, l⟩ := h.at_ k (valB L[k]) (by rw [List.getElem?_map, List.getElem?_eq_getElem hk']; rfl)
  rw [List.getElem?_map, List.getElem?_eq_getElem hk] at e
  have e : some (valB L'[k]) = some y' := e
  cases e
  exact l.ok (hv _ (List.getElem_mem _))
theorem like_joint {L L' : List BE} (h : LikeL (L.map valB) (L'.map valB)) (h64 : L.length ≤ 64) (hv : ∀ x ∈ L, bodyE x.b x.l = 0) {x : Jt} (hx : jtE L x = 0) : jointsE L' [x] = 0 := by
  have hlen : L'.length = L.length := by have := h.len; simpa using this
  obtain ⟨⟨h1, h2, h3⟩, -, -, -, -⟩ := jtE_zero hx
  have hb : bodiesE L' = 0 := bodiesE_okJ (by omega) (like_valid h hv)
  have hj : jtE L' x = 0 := by
    unfold jtE at hx ⊢
    rw [hlen]
    have e : ∀ i : Int, i.toNat < L.length → massAt L' i = massAt L i := fun i hi => by
      rw [massAt_val L' (by omega), massAt_val L hi, (h.qB i).2.2.2]
    rw [e x.a (by omega), e x.b (by omega)]
    exact hx
  unfold jointsE
  rw [if_neg (by simp [hb]), if_neg (by simp)]
  show jtTo L' [x] (0 + 1) = 0
  rw [jtTo_succ (by simp) rfl]
  exact hj
theorem dotF_bd (a b c d : Int) : -1099511627776 ≤ dotF a b c d ∧ dotF a b c d ≤ 1099511627776 := clampF_bd _
end
end Go.Proofs.Ytbajmekmpgfpeaa
