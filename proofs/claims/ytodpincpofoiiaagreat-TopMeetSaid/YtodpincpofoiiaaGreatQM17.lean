/- Parts of a proof: contracts and laws. -/
import Derived.Test.YtodpincpofoiiaaGreatQM10
import Derived.Test.YtodpincpofoiiaaGreatQM15
import Derived.Test.YtodpincpofoiiaaGreatQM16
import Derived.Test.YtodpincpofoiiaaGreatQM03
import Derived.Test.YtodpincpofoiiaaGreatQM09
import Derived.Test.YtodpincpofoiiaaGreatQM04
import Derived.Test.YtodpincpofoiiaaGreatQM02
import Derived.Test.YtodpincpofoiiaaGreatQM13
set_option maxRecDepth 100000
set_option maxHeartbeats 16000000
namespace Go.Proofs.YtodpincpofoiiaaGreat
section
set_option linter.unusedVariables false
set_option linter.unusedSimpArgs false
open Go.RowKit


structure Ej (w0 : World) (bL oL : Nat) (L : List BE) (x : Jt) (w : World) : Prop where
 j:w.cell? ⟨w0.heap.size,0,none⟩=some (.int .i64 x.a)∧w.cell? ⟨w0.heap.size,1,none⟩=some (.int .i64 x.b)∧w.cell? ⟨w0.heap.size,2,none⟩=some (.int .i64 x.p1)∧w.cell? ⟨w0.heap.size,3,none⟩=some (.int .i64 x.p2)∧w.cell? ⟨w0.heap.size,4,none⟩=some (.int .i64 x.q1)∧w.cell? ⟨w0.heap.size,5,none⟩=some (.int .i64 x.q2)∧w.cell? ⟨w0.heap.size,6,none⟩=some (.int .i64 x.len)
 cl:CellsE layB w bL oL L
 z1:VZ w (w0.heap.size+1)
 z2:VZ w (w0.heap.size+2)
 bel:Below w0.heap.size w0 w
 lt:bL<w0.heap.size
 sz:w0.heap.size+2<w.heap.size
theorem keepEj {w0:World} {bL oL:Nat} {L:List BE} {x:Jt} {w w':World} (hb:Below w.heap.size w w') (h:Ej w0 bL oL L x w):Ej w0 bL oL L x w':=by
 obtain ⟨h0,h1,h2,h3,h4,h5,h6⟩:=h.j
 exact ⟨⟨keepCell hb h0,keepCell hb h1,keepCell hb h2,keepCell hb h3,keepCell hb h4,keepCell hb h5,keepCell hb h6⟩,h.cl.below hb,keepVZ hb h.z1,keepVZ hb h.z2,keepBelow hb h.bel,h.lt,Nat.lt_of_lt_of_le h.sz hb.size⟩
theorem Ej.alloc {w0:World} {bL oL:Nat} {L:List BE} {x:Jt} {w:World} (h:Ej w0 bL oL L x w) (o:Obj):Ej w0 bL oL L x (w.alloc o):=keepEj Ba h
theorem Ej.drew {w0:World} {bL oL:Nat} {L:List BE} {x:Jt} {w:World} (h:Ej w0 bL oL L x w):Ej w0 bL oL L x w.drew:=keepEj (Below.refl _ _).drew h
theorem Ej.set {w0:World} {bL oL:Nat} {L:List BE} {x:Jt} {w:World} {g o:Nat} {v:Value} (h:Ej w0 bL oL L x w) (hg:w0.heap.size+2<g):Ej w0 bL oL L x (w.setCell ⟨g,o,none⟩ v):=by
 obtain ⟨h0,h1,h2,h3,h4,h5,h6⟩:=h.j
 have hlt:=h.lt
 have n0:g≠w0.heap.size:=by omega
 have n1:g≠w0.heap.size+1:=by omega
 have n2:g≠w0.heap.size+2:=by omega
 have vz:∀ k,g≠k→VZ w k→VZ (w.setCell ⟨g,o,none⟩ v) k:=fun k hk hz=>by
  obtain ⟨⟨a,b,c,d⟩,f⟩:=hz
  exact ⟨⟨a,b,far1 hk c,far1 hk d⟩,fun j=>by rw [World.frozen?_setCell];exact f j⟩
 exact ⟨⟨far1 n0 h0,far1 n0 h1,far1 n0 h2,far1 n0 h3,far1 n0 h4,far1 n0 h5,far1 n0 h6⟩,⟨by simp;exact h.cl.lt,fun j hj i u hu=>far1 (by omega) (h.cl.at_ j hj i u hu)⟩,vz _ n1 h.z1,vz _ n2 h.z2,h.bel.setCell (p:=⟨g,o,none⟩) (by show w0.heap.size≤g;omega) _,h.lt,by simp;exact h.sz⟩
theorem Ej.setBd {w0:World} {bL oL:Nat} {L:List BE} {x:Jt} {w:World} {g:Nat} (h:Ej w0 bL oL L x w) (hg:w0.heap.size+2<g) (b:Bd) (A:Option Addr) (n c:Nat):Ej w0 bL oL L x (Go.Proofs.YtodpincpofoiiaaGreat.setBd w g b A n c):=by
 unfold Go.Proofs.YtodpincpofoiiaaGreat.setBd
 iterate 13 refine Ej.set ?_ hg
 exact h

def lenV (x y:Int):Int:=clampF (lenZ (clampF x) (clampF y))
end
end Go.Proofs.YtodpincpofoiiaaGreat
namespace Go.Proofs.YtodpincpofoiiaaGreat
section
set_option linter.unusedVariables false
set_option linter.unusedSimpArgs false
open Go.RowKit
def dotF (a b c d:Int):Int:=addF (mulF a c) (mulF b d)
end
end Go.Proofs.YtodpincpofoiiaaGreat
namespace Go.Proofs.YtodpincpofoiiaaGreat
section
set_option linter.unusedVariables false
set_option linter.unusedSimpArgs false
open Go.RowKit

def pulE (a b:Bd) (p1 p2 q1 q2 v1 v2:Int):Int:=addF (easeR a p1 p2 v1 v2) (easeR b q1 q2 v1 v2)
def pulV (a b:Bd) (p1 p2 q1 q2 v1 v2:Int):Int:=dotF (subF (speedX b q1 q2) (speedX a p1 p2)) (subF (speedY b q1 q2) (speedY a p1 p2)) v1 v2
def pulJ (a b:Bd) (p1 p2 q1 q2 v1 v2 gap st:Int):Int:=divF (subF (-(pulV a b p1 p2 q1 q2 v1 v2)) (divF (mulF gap 16384) st)) (pulE a b p1 p2 q1 q2 v1 v2)

abbrev QB:=Bd × List V
def qB (Q:List QB) (i:Int):Bd:=match Q[i.toNat]? with | some y=>y.1 | none=>bd0
def putQ (Q:List QB) (k:Nat) (b:Bd):List QB:=match Q[k]? with | some y=>Q.set k (b,y.2) | none=>Q
theorem putQ_eq {Q:List QB} {k:Nat} {y:QB} (h:Q[k]? = some y) (b:Bd):putQ Q k b=Q.set k (b,y.2):=by unfold putQ;rw [h]
theorem qB_at {Q:List QB} {i:Int} {k:Nat} {y:QB} (hi:i=k) (h:Q[k]? = some y):qB Q i=y.1:=by unfold qB;rw [hi,Int.toNat_natCast,h]

def bothQ (Q:List QB) (ka kb:Nat) (p1 p2 q1 q2 j1 j2:Int):List QB:=putQ (putQ Q ka (pushR (qB Q ka) (-j1) (-j2) p1 p2)) kb (pushR (qB Q kb) j1 j2 q1 q2)
def pullQ (Q:List QB) (ka kb:Nat) (p1 p2 q1 q2 v1 v2 gap st:Int):List QB :=
 if pulE (qB Q ka) (qB Q kb) p1 p2 q1 q2 v1 v2=0 then Q
 else bothQ Q ka kb p1 p2 q1 q2 (mulF v1 (pulJ (qB Q ka) (qB Q kb) p1 p2 q1 q2 v1 v2 gap st)) (mulF v2 (pulJ (qB Q ka) (qB Q kb) p1 p2 q1 q2 v1 v2 gap st))

structure Like (y y' : QB) : Prop where
 l:y'.2=y.2
 px:y'.1.px=y.1.px
 py:y'.1.py=y.1.py
 ang:y'.1.ang=y.1.ang
 mass:y'.1.mass=y.1.mass
 rest:y.1.mass=0→y'=y
 ok:bodyE y.1 y.2=0→bodyE y'.1 y'.2=0
theorem Like.refl (y:QB):Like y y:=⟨rfl,rfl,rfl,rfl,rfl,fun _=>rfl,fun h=>h⟩
theorem Like.trans {y y' z:QB} (h:Like y y') (h':Like y' z):Like y z :=
 ⟨h'.l.trans h.l,h'.px.trans h.px,h'.py.trans h.py,h'.ang.trans h.ang,h'.mass.trans h.mass,fun e=>by rw [h'.rest (by rw [h.mass];exact e),h.rest e],fun e=>h'.ok (h.ok e)⟩
theorem Like.push (y:QB) (j1 j2 u v:Int):Like y (pushR y.1 j1 j2 u v,y.2):=by
 refine ⟨rfl,?_,?_,?_,?_,fun e=>?_,fun e=>pushR_ok e _ _ _ _⟩ <;> unfold pushR
 iterate 4 (split <;> rfl)
 rw [if_pos (.inl e)]
structure LikeL (Q Q' : List QB) : Prop where
 len:Q'.length=Q.length
 at_:∀ (k:Nat) (y:QB),Q[k]? = some y→∃ y',Q'[k]? = some y'∧Like y y'
theorem LikeL.refl (Q:List QB):LikeL Q Q:=⟨rfl,fun k y h=>⟨y,h,.refl y⟩⟩
theorem LikeL.trans {Q Q' R:List QB} (h:LikeL Q Q') (h':LikeL Q' R):LikeL Q R :=
 ⟨h'.len.trans h.len,fun k y hy=>by
  obtain ⟨y',e,l⟩:=h.at_ k y hy
  obtain ⟨z,e',l'⟩:=h'.at_ k y' e
  exact ⟨z,e',l.trans l'⟩⟩
theorem LikeL.put {Q:List QB} {k:Nat} {y:QB} (h:Q[k]? = some y) {b:Bd} (hb:Like y (b,y.2)):LikeL Q (putQ Q k b):=by
 rw [putQ_eq h]
 refine ⟨by simp,fun j z hz=>?_⟩
 by_cases e:k=j
 ·subst e
  rw [h] at hz;cases hz
  have hk:k<Q.length:=(List.getElem?_eq_some_iff.1 h).1
  exact ⟨_,by rw [List.getElem?_set_self hk],hb⟩
 ·exact ⟨z,by rw [List.getElem?_set_ne e];exact hz,.refl z⟩
theorem LikeL.qB {Q Q':List QB} (h:LikeL Q Q') (i:Int):(Go.Proofs.YtodpincpofoiiaaGreat.qB Q' i).px=(Go.Proofs.YtodpincpofoiiaaGreat.qB Q i).px∧(Go.Proofs.YtodpincpofoiiaaGreat.qB Q' i).py=(Go.Proofs.YtodpincpofoiiaaGreat.qB Q i).py∧(Go.Proofs.YtodpincpofoiiaaGreat.qB Q' i).ang=(Go.Proofs.YtodpincpofoiiaaGreat.qB Q i).ang∧(Go.Proofs.YtodpincpofoiiaaGreat.qB Q' i).mass=(Go.Proofs.YtodpincpofoiiaaGreat.qB Q i).mass:=by
 unfold Go.Proofs.YtodpincpofoiiaaGreat.qB
 rcases hq:Q[i.toNat]? with _ | y
 ·have : Q'[i.toNat]? = none := by rw [List.getElem?_eq_none_iff] at hq ⊢; rw [h.len]; exact hq
  rw [this];exact ⟨rfl,rfl,rfl,rfl⟩
 ·obtain ⟨y', e, l⟩ := h.at_ _ y hq
  rw [e];exact ⟨l.px,l.py,l.ang,l.mass⟩
theorem LikeL.wX {Q Q':List QB} (h:LikeL Q Q') (i:Int) (p q:Int):Go.Proofs.YtodpincpofoiiaaGreat.wX (Go.Proofs.YtodpincpofoiiaaGreat.qB Q' i) p q=Go.Proofs.YtodpincpofoiiaaGreat.wX (Go.Proofs.YtodpincpofoiiaaGreat.qB Q i) p q:=by
 obtain ⟨h1,h2,h3,h4⟩:=h.qB i
 unfold Go.Proofs.YtodpincpofoiiaaGreat.wX;rw [h1,h3]
theorem LikeL.wY {Q Q':List QB} (h:LikeL Q Q') (i:Int) (p q:Int):Go.Proofs.YtodpincpofoiiaaGreat.wY (Go.Proofs.YtodpincpofoiiaaGreat.qB Q' i) p q=Go.Proofs.YtodpincpofoiiaaGreat.wY (Go.Proofs.YtodpincpofoiiaaGreat.qB Q i) p q:=by
 obtain ⟨h1,h2,h3,h4⟩:=h.qB i
 unfold Go.Proofs.YtodpincpofoiiaaGreat.wY;rw [h2,h3]
theorem bothQ_like {Q:List QB} {ka kb:Nat} (ha:ka<Q.length) (hb:kb<Q.length) (hab:ka≠kb) (p1 p2 q1 q2 j1 j2:Int):LikeL Q (bothQ Q ka kb p1 p2 q1 q2 j1 j2):=by
 have e1:Q[ka]? = some Q[ka]:=List.getElem?_eq_getElem ha
 have e2:Q[kb]? = some Q[kb]:=List.getElem?_eq_getElem hb
 unfold bothQ
 rw [qB_at rfl e1,qB_at rfl e2]
 refine (LikeL.put e1 (Like.push _ _ _ _ _)).trans (LikeL.put (y:=Q[kb]) ?_ (Like.push _ _ _ _ _))
 rw [putQ_eq e1,List.getElem?_set_ne hab];exact e2
theorem pullQ_like {Q:List QB} {ka kb:Nat} (ha:ka<Q.length) (hb:kb<Q.length) (hab:ka≠kb) (p1 p2 q1 q2 v1 v2 gap st:Int):LikeL Q (pullQ Q ka kb p1 p2 q1 q2 v1 v2 gap st):=by
 unfold pullQ
 split
 ·exact .refl Q
 ·exact bothQ_like ha hb hab _ _ _ _ _ _

def jdX (Q:List QB) (x:Jt):Int:=subF (wX (qB Q x.b) x.q1 x.q2) (wX (qB Q x.a) x.p1 x.p2)
def jdY (Q:List QB) (x:Jt):Int:=subF (wY (qB Q x.b) x.q1 x.q2) (wY (qB Q x.a) x.p1 x.p2)
def pullX (Q:List QB) (x:Jt) (v1 v2 gap st:Int):List QB:=pullQ Q x.a.toNat x.b.toNat (wX (qB Q x.a) x.p1 x.p2) (wY (qB Q x.a) x.p1 x.p2) (wX (qB Q x.b) x.q1 x.q2) (wY (qB Q x.b) x.q1 x.q2) v1 v2 gap st
def wayX (d1 d2:Int):Int:=if d1=0∧d2=0 then 65536 else unitX d1 d2
def wayY (d1 d2:Int):Int:=if d1=0∧d2=0 then 0 else unitY d1 d2
def jointQ (Q:List QB) (x:Jt) (st:Int):List QB :=
 if x.len=0 then pullX (pullX Q x 65536 0 (jdX Q x) st) x 0 65536 (jdY Q x) st
 else pullX Q x (wayX (jdX Q x) (jdY Q x)) (wayY (jdX Q x) (jdY Q x)) (lenV (jdX Q x) (jdY Q x)-x.len) st

def jointsQ (Q : List QB) (J : List Jt) (st : Int) : Nat → List QB
 | 0=>Q
 | k+1=>match J[k]? with | some x=>jointQ (jointsQ Q J st k) x st | none=>jointsQ Q J st k
def roundsQ (Q : List QB) (J : List Jt) (st : Int) : Nat → List QB
 | 0=>Q
 | k+1=>jointsQ (roundsQ Q J st k) J st J.length
theorem jointsQ_succ {Q:List QB} {J:List Jt} {st:Int} {k:Nat} {x:Jt} (h:J[k]? = some x):jointsQ Q J st (k+1)=jointQ (jointsQ Q J st k) x st:=by
 show (match J[k]? with | some x=>jointQ (jointsQ Q J st k) x st | none=>jointsQ Q J st k)=_
 rw [h]
def FitJ (n:Nat) (x:Jt):Prop:=0≤x.a∧x.a<x.b∧x.b<(n:Int)
theorem pullX_like {Q:List QB} {x:Jt} (h:FitJ Q.length x) (v1 v2 gap st:Int):LikeL Q (pullX Q x v1 v2 gap st):=by
 obtain ⟨h1,h2,h3⟩:=h
 exact pullQ_like (by omega) (by omega) (by omega) _ _ _ _ _ _ _ _
theorem jointQ_like {Q:List QB} {x:Jt} (h:FitJ Q.length x) (st:Int):LikeL Q (jointQ Q x st):=by
 unfold jointQ
 split
 ·have h1 := pullX_like h 65536 0 (jdX Q x) st
  exact h1.trans (pullX_like (by rw [h1.len];exact h) _ _ _ _)
 ·exact pullX_like h _ _ _ _
theorem jointsQ_like {Q : List QB} {J : List Jt} (h : ∀ x ∈ J, FitJ Q.length x) (st : Int) : ∀ k, LikeL Q (jointsQ Q J st k)
 | 0=>.refl Q
 | k+1=>by
  have ih:=jointsQ_like h st k
  rcases hj:J[k]? with _ | x
  ·have:jointsQ Q J st (k+1)=jointsQ Q J st k:=by
    show (match J[k]? with | some x=>jointQ (jointsQ Q J st k) x st | none=>jointsQ Q J st k)=_
    rw [hj]
   rw [this];exact ih
  ·rw [jointsQ_succ hj]
   refine ih.trans (jointQ_like ?_ st)
   rw [ih.len];exact h x (List.mem_of_getElem? hj)
theorem roundsQ_like {Q : List QB} {J : List Jt} (h : ∀ x ∈ J, FitJ Q.length x) (st : Int) : ∀ k, LikeL Q (roundsQ Q J st k)
 | 0=>.refl Q
 | k+1=>by
  have ih:=roundsQ_like h st k
  exact ih.trans (jointsQ_like (by rw [ih.len];exact h) st _)

theorem bodiesE_okJ {L:List BE} (h:L.length≤64) (hv:∀ x ∈ L,bodyE x.b x.l=0):bodiesE L=0:=by
 unfold bodiesE
 rw [if_neg (by omega)]
 have:∀ k,k≤L.length→bodiesTo L k=0:=fun k=>by
  induction k with
  | zero=>intro _;rfl
  | succ k ih =>
   intro hk
   rw [bodiesTo_succ (by omega),if_neg (by rw [ih (by omega)];simp)]
   exact hv _ (List.getElem_mem _)
 exact this _ (Nat.le_refl _)

end
end Go.Proofs.YtodpincpofoiiaaGreat
namespace Go.Proofs.YtodpincpofoiiaaGreat
section
set_option linter.unusedVariables false
set_option linter.unusedSimpArgs false
open Go.RowKit
theorem cells_b0 {w:World} {g k:Nat} {L:List BE} {x:BE} (h:CellsE layB w g 0 L) (hk:k<L.length) (hx:x=L[k]):w.cell? ⟨g,k*13,none⟩=some (.int .i64 x.b.px)∧w.cell? ⟨g,k*13+1,none⟩=some (.int .i64 x.b.py)∧w.cell? ⟨g,k*13+2,none⟩=some (.int .i64 x.b.vx)∧w.cell? ⟨g,k*13+3,none⟩=some (.int .i64 x.b.vy)∧w.cell? ⟨g,k*13+4,none⟩=some (.int .i64 x.b.ang)∧w.cell? ⟨g,k*13+5,none⟩=some (.int .i64 x.b.spin)∧w.cell? ⟨g,k*13+6,none⟩=some (.int .i64 x.b.mass)∧w.cell? ⟨g,k*13+7,none⟩=some (.int .i64 x.b.iner)∧w.cell? ⟨g,k*13+8,none⟩=some (.int .i64 x.b.bounce)∧w.cell? ⟨g,k*13+9,none⟩=some (.int .i64 x.b.rub)∧w.cell? ⟨g,k*13+10,none⟩=some (.slice x.A x.n x.c)∧w.cell? ⟨g,k*13+11,none⟩=some (.bool x.b.asleep)∧w.cell? ⟨g,k*13+12,none⟩=some (.int .i64 x.b.calm):=by
 have:=cells_bd h hk hx
 simpa only [Nat.zero_add] using this

structure Pj (w0 : World) (g : Nat) (L : List BE) (x : Jt) (p1 p2 q1 q2 v1 v2 : Int) (w : World) : Prop where
 j:w.cell? ⟨w0.heap.size,0,none⟩=some (.int .i64 x.a)∧w.cell? ⟨w0.heap.size,1,none⟩=some (.int .i64 x.b)∧w.cell? ⟨w0.heap.size,2,none⟩=some (.int .i64 x.p1)∧w.cell? ⟨w0.heap.size,3,none⟩=some (.int .i64 x.p2)∧w.cell? ⟨w0.heap.size,4,none⟩=some (.int .i64 x.q1)∧w.cell? ⟨w0.heap.size,5,none⟩=some (.int .i64 x.q2)∧w.cell? ⟨w0.heap.size,6,none⟩=some (.int .i64 x.len)
 p:w.cell? ⟨w0.heap.size+1,0,none⟩=some (.int .i64 p1)∧w.cell? ⟨w0.heap.size+1,1,none⟩=some (.int .i64 p2)
 q:w.cell? ⟨w0.heap.size+2,0,none⟩=some (.int .i64 q1)∧w.cell? ⟨w0.heap.size+2,1,none⟩=some (.int .i64 q2)
 v:w.cell? ⟨w0.heap.size+3,0,none⟩=some (.int .i64 v1)∧w.cell? ⟨w0.heap.size+3,1,none⟩=some (.int .i64 v2)
 bl:BL w g L
 bel:Below w0.heap.size w0 w
 lt:g<w0.heap.size
 lo:∀ y ∈ L,∀ bx off,y.A=some ⟨bx,off,none⟩→bx<w0.heap.size
 sz:w0.heap.size+3<w.heap.size
theorem keepPj {w0:World} {g:Nat} {L:List BE} {x:Jt} {p1 p2 q1 q2 v1 v2:Int} {w w':World} (hb:Below w.heap.size w w') (h:Pj w0 g L x p1 p2 q1 q2 v1 v2 w):Pj w0 g L x p1 p2 q1 q2 v1 v2 w':=by
 obtain ⟨h0,h1,h2,h3,h4,h5,h6⟩:=h.j
 exact ⟨⟨keepCell hb h0,keepCell hb h1,keepCell hb h2,keepCell hb h3,keepCell hb h4,keepCell hb h5,keepCell hb h6⟩,⟨keepCell hb h.p.1,keepCell hb h.p.2⟩,⟨keepCell hb h.q.1,keepCell hb h.q.2⟩,⟨keepCell hb h.v.1,keepCell hb h.v.2⟩,keepBL hb h.bl,keepBelow hb h.bel,h.lt,h.lo,Nat.lt_of_lt_of_le h.sz hb.size⟩
theorem Pj.alloc {w0:World} {g:Nat} {L:List BE} {x:Jt} {p1 p2 q1 q2 v1 v2:Int} {w:World} (h:Pj w0 g L x p1 p2 q1 q2 v1 v2 w) (o:Obj):Pj w0 g L x p1 p2 q1 q2 v1 v2 (w.alloc o):=keepPj Ba h
theorem Pj.drew {w0:World} {g:Nat} {L:List BE} {x:Jt} {p1 p2 q1 q2 v1 v2:Int} {w:World} (h:Pj w0 g L x p1 p2 q1 q2 v1 v2 w):Pj w0 g L x p1 p2 q1 q2 v1 v2 w.drew:=keepPj (Below.refl _ _).drew h

theorem BL.off {w:World} {g k o:Nat} {v:Value} {L:List BE} (h:BL w g L) (hk:k≠g) (hne:∀ x ∈ L,∀ bx off,x.A=some ⟨bx,off,none⟩→bx≠k):BL (w.setCell ⟨k,o,none⟩ v) g L :=
 ⟨⟨by simp;exact h.cl.lt,fun j hj i u hu=>far1 hk (h.cl.at_ j hj i u hu)⟩,fun j=>by rw [World.frozen?_setCell];exact h.free j,fun x hx=>(h.co x hx).setAt (hne x hx),h.ne⟩
theorem Pj.set {w0:World} {g:Nat} {L:List BE} {x:Jt} {p1 p2 q1 q2 v1 v2:Int} {w:World} {k o:Nat} {v:Value} (h:Pj w0 g L x p1 p2 q1 q2 v1 v2 w) (hk:w0.heap.size+3<k):Pj w0 g L x p1 p2 q1 q2 v1 v2 (w.setCell ⟨k,o,none⟩ v):=by
 obtain ⟨h0,h1,h2,h3,h4,h5,h6⟩:=h.j
 have hlt:=h.lt
 have n0:k≠w0.heap.size:=by omega
 have n1:k≠w0.heap.size+1:=by omega
 have n2:k≠w0.heap.size+2:=by omega
 have n3:k≠w0.heap.size+3:=by omega
 exact ⟨⟨far1 n0 h0,far1 n0 h1,far1 n0 h2,far1 n0 h3,far1 n0 h4,far1 n0 h5,far1 n0 h6⟩,⟨far1 n1 h.p.1,far1 n1 h.p.2⟩,⟨far1 n2 h.q.1,far1 n2 h.q.2⟩,⟨far1 n3 h.v.1,far1 n3 h.v.2⟩,h.bl.off (by omega) (fun y hy bx off e=>by have:=h.lo y hy bx off e;omega),h.bel.setCell (p:=⟨k,o,none⟩) (by show w0.heap.size≤k;omega) _,h.lt,h.lo,by simp;exact h.sz⟩
theorem Pj.setBd {w0:World} {g:Nat} {L:List BE} {x:Jt} {p1 p2 q1 q2 v1 v2:Int} {w:World} {k:Nat} (h:Pj w0 g L x p1 p2 q1 q2 v1 v2 w) (hk:w0.heap.size+3<k) (b:Bd) (A:Option Addr) (n c:Nat):Pj w0 g L x p1 p2 q1 q2 v1 v2 (Go.Proofs.YtodpincpofoiiaaGreat.setBd w k b A n c):=by
 unfold Go.Proofs.YtodpincpofoiiaaGreat.setBd
 iterate 13 refine Pj.set ?_ hk
 exact h
theorem checkE_len4 {l:List V} (h:checkE l=0):l.length≤8:=by
 unfold checkE at h
 by_cases hc:8<l.length
 ·rw [if_pos hc] at h;cases h
 ·omega
end
end Go.Proofs.YtodpincpofoiiaaGreat
namespace Go.Proofs.YtodpincpofoiiaaGreat
section
set_option linter.unusedVariables false
set_option linter.unusedSimpArgs false
open Go.ChangeShapes Go.WideShapes Go.ChangeAt Go.RowKit Go.Deep Go.Joins
section
variable {H:Type} {enc:TypeId × Value→H} {W:World} {held:Bool} {base:Nat} {sp:Nat→Bool}


end
end
end Go.Proofs.YtodpincpofoiiaaGreat
namespace Go.Proofs.YtodpincpofoiiaaGreat
section
set_option linter.unusedVariables false
set_option linter.unusedSimpArgs false
open Go.RowKit
def runE (L:List BE) (J:List Jt) (st r:Int):Int:=if jointsE L J≠0 then jointsE L J else if st<1∨65536<st∨r<0∨32<r then 1 else 0
def runQ (L:List BE) (J:List Jt) (st r:Int):List QB:=if runE L J st r=0 then roundsQ (L.map valB) J st r.toNat else []
def RetRun (E:Int) (Q:List QB) (w:World) (e:Ending) (w':World):Prop:=∃ (A:Option Addr) (n c:Nat) (L':List BE),e = .returned (.tuple #[.slice A n c,.int .i64 E])∧SlB w' A n c L'∧L'.map valB=Q∧Below w.heap.size w w'

structure Vg (w : World) (g : Nat) (x y : Int) : Prop where
 a:w.cell? ⟨g,0,none⟩=some (.int .i64 x)
 b:w.cell? ⟨g,1,none⟩=some (.int .i64 y)
theorem keepVg {w w':World} {g:Nat} {x y:Int} (hb:Below w.heap.size w w') (h:Vg w g x y):Vg w' g x y:=⟨keepCell hb h.a,keepCell hb h.b⟩
theorem Vg.drew {w:World} {g:Nat} {x y:Int} (h:Vg w g x y):Vg w.drew g x y:=⟨h.a,h.b⟩
theorem Vg.next {w w':World} {g k:Nat} {x y:Int} (h:Vg w g x y) (hg:w.grownBy w' (some k)) (hne:g≠k):Vg w' g x y :=
 ⟨(World.cell?_of_block (hg.block g (lt_of_cell h.a) (by simpa using hne))).trans h.a,(World.cell?_of_block (hg.block g (lt_of_cell h.a) (by simpa using hne))).trans h.b⟩
structure Jg (w : World) (g : Nat) (x : Jt) : Prop where
 c0:w.cell? ⟨g,0,none⟩=some (.int .i64 x.a)
 c1:w.cell? ⟨g,1,none⟩=some (.int .i64 x.b)
 c2:w.cell? ⟨g,2,none⟩=some (.int .i64 x.p1)
 c3:w.cell? ⟨g,3,none⟩=some (.int .i64 x.p2)
 c4:w.cell? ⟨g,4,none⟩=some (.int .i64 x.q1)
 c5:w.cell? ⟨g,5,none⟩=some (.int .i64 x.q2)
 c6:w.cell? ⟨g,6,none⟩=some (.int .i64 x.len)
theorem keepJg {w w':World} {g:Nat} {x:Jt} (hb:Below w.heap.size w w') (h:Jg w g x):Jg w' g x :=
 ⟨keepCell hb h.c0,keepCell hb h.c1,keepCell hb h.c2,keepCell hb h.c3,keepCell hb h.c4,keepCell hb h.c5,keepCell hb h.c6⟩
theorem Jg.alloc {w:World} {g:Nat} {x:Jt} (h:Jg w g x) (o:Obj):Jg (w.alloc o) g x:=keepJg Ba h
theorem Vg.alloc {w:World} {g:Nat} {x y:Int} (h:Vg w g x y) (o:Obj):Vg (w.alloc o) g x y:=keepVg Ba h
theorem Jg.drew {w:World} {g:Nat} {x:Jt} (h:Jg w g x):Jg w.drew g x:=keepJg (Below.refl _ _).drew h
theorem Jg.next {w w':World} {g k:Nat} {x:Jt} (h:Jg w g x) (hg:w.grownBy w' (some k)) (hne:g≠k):Jg w' g x :=
 have e:=hg.block g (lt_of_cell h.c0) (by simpa using hne)
 ⟨(World.cell?_of_block e).trans h.c0,(World.cell?_of_block e).trans h.c1,(World.cell?_of_block e).trans h.c2,(World.cell?_of_block e).trans h.c3,(World.cell?_of_block e).trans h.c4,(World.cell?_of_block e).trans h.c5,(World.cell?_of_block e).trans h.c6⟩

structure RJ (w0 : World) (s : Value) (L' : List BE) (w : World) : Prop where
 own:OwnE layB 27 w w0.heap.size s L'
 co:∀ x ∈ L',Sl w x.A x.n x.c x.l∧x.l≠[]∧∀ bx off,x.A=some ⟨bx,off,none⟩→w0.heap.size≤bx∧some bx≠s.ownBlock
 bel:Below w0.heap.size w0 w
theorem keepRJ {w0:World} {s:Value} {L':List BE} {w w':World} (hb:Below w.heap.size w w') (h:RJ w0 s L' w):RJ w0 s L' w' :=
 ⟨h.own.below hb,fun x hx=>⟨(h.co x hx).1.below hb,(h.co x hx).2⟩,keepBelow hb h.bel⟩
theorem sl_grownR {w w':World} {A:Option Addr} {n c:Nat} {l:List V} {row:Option Nat} (h:Sl w A n c l) (hg:w.grownBy w' row) (hne:∀ b off,A=some ⟨b,off,none⟩→some b≠row):Sl w' A n c l:=by
 cases row with
 | none=>exact h.below ⟨hg.os,hg.tape,hg.output,hg.size,fun k hk=>hg.block k hk (by simp)⟩
 | some g=>exact h.grown hg (fun b off e=>fun e2=>hne b off e (by rw [e2]))
theorem sl_lt {w:World} {A:Option Addr} {n c:Nat} {l:List V} (h:Sl w A n c l) (hl:l≠[]):∀ bx off,A=some ⟨bx,off,none⟩→bx<w.heap.size:=fun bx off e=>by
 obtain ⟨b',off',e',hc⟩:=h.at_ hl
 rw [e] at e';cases e';exact hc.lt
theorem RJ.set {w0 wb:World} {s:Value} {L':List BE} {w:World} (hb:RJ w0 s L' wb) (h:RJ w0 s L' w) {k o:Nat} {v:Value} (hk:wb.heap.size≤k):RJ w0 s L' (w.setCell ⟨k,o,none⟩ v):=by
 have hs:=hb.bel.size
 refine ⟨h.own.off (fun j hj=>by have:=(hb.own.lt hj).2;omega) o v,fun x hx=>?_,h.bel.setCell (p:=⟨k,o,none⟩) (by show w0.heap.size≤k;omega) _⟩
 obtain ⟨h1,h2,h3⟩:=h.co x hx
 exact ⟨h1.setAt (fun bx off e=>by have:=sl_lt (hb.co x hx).1 h2 bx off e;omega),h2,h3⟩
theorem RJ.push {w0 wb : World} {s s' : Value} {L' : List BE} {w w7 : World} {o : Obj} {y : BE} (hb : RJ w0 s L' wb) (h : RJ w0 s L' w) (hS : Sl w y.A y.n y.c y.l) (hl : y.l ≠ []) (hf : ∀ bx off, y.A = some ⟨bx, off, none⟩ → wb.heap.size ≤ bx)
  (ho:OwnE layB 27 w7 w0.heap.size s' (L' ++ [y])) (hg:(w.alloc o).grownBy w7 s.ownBlock) (hat:s'.ownBlock=s.ownBlock∨s'.ownBlock=some (w.alloc o).heap.size):RJ w0 s' (L' ++ [y]) w7:=by
 have hsb:=hb.bel.size
 have hsw:=h.bel.size
 have hsa:(w.alloc o).heap.size=w.heap.size+1:=by simp
 have hga:w.grownBy (w.alloc o) s.ownBlock:=World.grownBy_alloc _ _ _
 have hg7:w.grownBy w7 s.ownBlock:=grown_trans hga hg
 have nblk:∀ {z:BE},Sl w z.A z.n z.c z.l→z.l≠[]→(∀ bx off,z.A=some ⟨bx,off,none⟩→some bx≠s.ownBlock)→∀ bx off,z.A=some ⟨bx,off,none⟩→some bx≠s'.ownBlock:=fun {z} hs hne hno bx off e e2=>by
  have:=sl_lt hs hne bx off e
  rcases hat with q | q
  ·exact hno bx off e (e2.trans q)
  ·rw [q,hsa] at e2;cases e2;omega
 have hnw:∀ bx off,y.A=some ⟨bx,off,none⟩→some bx≠s.ownBlock:=fun bx off e e2=>by have:=hf bx off e;have:=(hb.own.lt e2.symm).2;omega
 refine ⟨ho,fun x hx=>?_,h.bel.grown hg7 (by omega) (fun k hk=>(hb.own.lt hk).1)⟩
 rcases List.mem_append.1 hx with hx | hx
 ·obtain ⟨h1, h2, h3⟩ := h.co x hx
  exact ⟨sl_grownR h1 hg7 (fun bx off e=>(h3 bx off e).2),h2,fun bx off e=>⟨(h3 bx off e).1,nblk h1 h2 (fun bx off e=>(h3 bx off e).2) bx off e⟩⟩
 ·rw [List.mem_singleton.1 hx]
  exact ⟨sl_grownR hS hg7 hnw,hl,fun bx off e=>⟨by have:=hf bx off e;omega,nblk hS hl hnw bx off e⟩⟩

def RV (w0:World) (v:Value) (Q:List QB) (w:World):Prop:=∃ L1:List BE,L1.map valB=Q∧Below w0.heap.size w0 w∧((v = .slice none 0 0∧L1=[])∨∃ g cap,v = .slice (some ⟨g,0,none⟩) L1.length cap∧w0.heap.size≤g∧L1.length≤cap∧cap≤maxLen∧BL w g L1)
theorem RJ.rv {w0:World} {s:Value} {L':List BE} {w:World} (h:RJ w0 s L' w):RV w0 s (L'.map valB) w:=by
 refine ⟨L',rfl,h.bel,?_⟩
 rcases h.own.form with ⟨h1,h2⟩ | ⟨g,cap,hv,h1,h2,h3,h4,h5,h6⟩
 ·exact .inl ⟨h1,h2⟩
 ·refine .inr ⟨g, cap, hv, h1, h3, h4, ⟨h6, h5, fun x hx => (h.co x hx).1, fun x hx bx off e => fun e2 => ?_⟩⟩
  have:=((h.co x hx).2.2 bx off e).2
  rw [hv,e2] at this
  exact this rfl
theorem RV.ret {w0:World} {v:Value} {Q:List QB} {w:World} (h:RV w0 v Q w) (hl:Q.length≤64):∃ A n c L',v = .slice A n c∧SlB w A n c L'∧L'.map valB=Q∧Below w0.heap.size w0 w:=by
 obtain ⟨L1,hq,hB,⟨rfl,rfl⟩ | ⟨g,cap,rfl,h1,h2,h3,hbl⟩⟩:=h
 ·exact ⟨none,0,0,[],rfl,⟨SlE.nil _ _,fun x hx=>by cases hx⟩,hq,hB⟩
 ·exact ⟨_,_,_,L1,rfl,⟨⟨rfl,h2,by unfold maxLen at h3;omega,fun _=>⟨g,0,rfl,hbl.cl⟩⟩,hbl.co⟩,hq,hB⟩

structure Rj (w0 : World) (B g : Nat) (L : List BE) (w : World) : Prop where
 bl:BL w g L
 bel:Below w0.heap.size w0 w
 ge:w0.heap.size≤g
 gB:g<B
 hi:∀ y ∈ L,∀ bx off,y.A=some ⟨bx,off,none⟩→bx<B
 Bw:B≤w.heap.size
theorem keepRj {w0:World} {B g:Nat} {L:List BE} {w w':World} (hb:Below w.heap.size w w') (h:Rj w0 B g L w):Rj w0 B g L w' :=
 ⟨keepBL hb h.bl,keepBelow hb h.bel,h.ge,h.gB,h.hi,Nat.le_trans h.Bw hb.size⟩
theorem Rj.drew {w0:World} {B g:Nat} {L:List BE} {w:World} (h:Rj w0 B g L w):Rj w0 B g L w.drew:=keepRj (Below.refl _ _).drew h
theorem Rj.alloc {w0:World} {B g:Nat} {L:List BE} {w:World} (h:Rj w0 B g L w) (o:Obj):Rj w0 B g L (w.alloc o):=keepRj Ba h
theorem Rj.set {w0:World} {B g:Nat} {L:List BE} {w:World} (h:Rj w0 B g L w) {k o:Nat} {v:Value} (hk:B≤k):Rj w0 B g L (w.setCell ⟨k,o,none⟩ v) :=
 ⟨h.bl.off (by have:=h.gB;omega) (fun y hy bx off e=>by have:=h.hi y hy bx off e;omega),h.bel.setCell (p:=⟨k,o,none⟩) (by show w0.heap.size≤k;have:=h.gB;have:=h.ge;omega) _,h.ge,h.gB,h.hi,by simp;exact h.Bw⟩
theorem Rj.of {w0:World} {g:Nat} {L:List BE} {w:World} (h:BL w g L) (hB:Below w0.heap.size w0 w) (hg:w0.heap.size≤g) (hv:∀ x ∈ L,bodyE x.b x.l=0):Rj w0 w.heap.size g L w :=
 ⟨h,hB,hg,h.cl.lt,fun y hy=>sl_lt (h.co y hy) (fun e=>by have:=hv y hy;rw [e] at this;exact absurd (bodyE_zero this).1 (by decide)),Nat.le_refl _⟩
theorem Rj.next {w0:World} {B g:Nat} {L:List BE} {w w':World} (h:Rj w0 B g L w) (hg:w.grownBy w' (some g)):Below w0.heap.size w0 w':=h.bel.trans (below_of_grown hg h.bel.size h.ge)
end
end Go.Proofs.YtodpincpofoiiaaGreat
