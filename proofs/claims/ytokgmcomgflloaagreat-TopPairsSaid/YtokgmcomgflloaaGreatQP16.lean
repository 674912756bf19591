/- Parts of a proof: contracts and laws. -/
import Derived.Test.YtokgmcomgflloaaGreatQP13
import Derived.Test.YtokgmcomgflloaaGreatQP15
import Derived.Test.YtokgmcomgflloaaGreatQP09
import Derived.Test.YtokgmcomgflloaaGreatQP03
import Derived.Test.YtokgmcomgflloaaGreatQP02
import Derived.Test.YtokgmcomgflloaaGreatQP10
set_option maxRecDepth 100000
set_option maxHeartbeats 16000000
namespace Go.Proofs.YtokgmcomgflloaaGreat
section
set_option linter.unusedVariables false
set_option linter.unusedSimpArgs false
open Go.RowKit
variable {w0 w w':World}

def Qz (a b:Bd) (p1 p2 q1 q2 v1 v2:Int):Int:=fV (PE a p1 p2 v1 v2) (PE b q1 q2 v1 v2)
def Rb (a b:Bd) (p1 p2 q1 q2 v1 v2:Int):Int:=Ti (iN (KF b q1 q2) (KF a p1 p2)) (iN (KE b q1 q2) (KE a p1 p2)) v1 v2
def RF (a b:Bd) (p1 p2 q1 q2 v1 v2 gap st:Int):Int:=oo (iN (-(Rb a b p1 p2 q1 q2 v1 v2)) (oo (bH gap 16384) st)) (Qz a b p1 p2 q1 q2 v1 v2)

abbrev QB:=Bd × List V
def qB (Q:List QB) (i:Int):Bd:=match Q[i.toNat]? with | some y=>y.1 | none=>G9
def MQ (Q:List QB) (k:Nat) (b:Bd):List QB:=match Q[k]? with | some y=>Q.set k (b,y.2) | none=>Q
theorem Hy {Q:List QB} {k:Nat} {y:QB} (h:Q[k]? = some y) (b:Bd):MQ Q k b=Q.set k (b,y.2):=by unfold MQ;rw [h]
theorem PN {Q:List QB} {i:Int} {k:Nat} {y:QB} (hi:i=k) (h:Q[k]? = some y):qB Q i=y.1:=by unfold qB;rw [hi,Int.toNat_natCast,h]

def Io (Q:List QB) (ka kb:Nat) (p1 p2 q1 q2 j1 j2:Int):List QB:=MQ (MQ Q ka (zk (qB Q ka) (-j1) (-j2) p1 p2)) kb (zk (qB Q kb) j1 j2 q1 q2)
def Kw (Q:List QB) (ka kb:Nat) (p1 p2 q1 q2 v1 v2 gap st:Int):List QB :=
 if Qz (qB Q ka) (qB Q kb) p1 p2 q1 q2 v1 v2=0 then Q
 else Io Q ka kb p1 p2 q1 q2 (bH v1 (RF (qB Q ka) (qB Q kb) p1 p2 q1 q2 v1 v2 gap st)) (bH v2 (RF (qB Q ka) (qB Q kb) p1 p2 q1 q2 v1 v2 gap st))

structure Like (y y' : QB) : Prop where
 l:y'.2=y.2
 px:y'.1.px=y.1.px
 py:y'.1.py=y.1.py
 ang:y'.1.ang=y.1.ang
 mass:y'.1.mass=y.1.mass
 rest:y.1.mass=0→y'=y
 ok:bG y.1 y.2=0→bG y'.1 y'.2=0
theorem Like.refl (y:QB):Like y y:=⟨rfl,rfl,rfl,rfl,rfl,fun _=>rfl,fun h=>h⟩
theorem Like.trans {y y' z:QB} (h:Like y y') (h':Like y' z):Like y z :=
 ⟨h'.l.trans h.l,h'.px.trans h.px,h'.py.trans h.py,h'.ang.trans h.ang,h'.mass.trans h.mass,fun e=>by rw [h'.rest (by rw [h.mass];exact e),h.rest e],fun e=>h'.ok (h.ok e)⟩
theorem Like.push (y:QB) (j1 j2 u v:Int):Like y (zk y.1 j1 j2 u v,y.2):=by
 refine ⟨rfl,?_,?_,?_,?_,fun e=>?_,fun e=>Kv e _ _ _ _⟩ <;> unfold zk
 iterate 4 (split <;> rfl)
 rw [if_pos (.inl e)]
structure iT (Q Q' : List QB) : Prop where
 len:Q'.length=Q.length
 at_:∀ (k:Nat) (y:QB),Q[k]? = some y→∃ y',Q'[k]? = some y'∧Like y y'
theorem iT.refl (Q:List QB):iT Q Q:=⟨rfl,fun k y h=>⟨y,h,.refl y⟩⟩
theorem iT.trans {Q Q' R:List QB} (h:iT Q Q') (h':iT Q' R):iT Q R :=
 ⟨h'.len.trans h.len,fun k y hy=>by
  obtain ⟨y',e,l⟩:=h.at_ k y hy
  obtain ⟨z,e',l'⟩:=h'.at_ k y' e
  exact ⟨z,e',l.trans l'⟩⟩
theorem iT.put {Q:List QB} {k:Nat} {y:QB} (h:Q[k]? = some y) {b:Bd} (hb:Like y (b,y.2)):iT Q (MQ Q k b):=by
 rw [Hy h];refine ⟨by simp,fun j z hz=>?_⟩
 by_cases e:k=j
 ·subst e;rw [h] at hz;cases hz;have hk:k<Q.length:=(List.getElem?_eq_some_iff.1 h).1;exact ⟨_,by rw [List.getElem?_set_self hk],hb⟩
 ·exact ⟨z,by rw [List.getElem?_set_ne e];exact hz,.refl z⟩
theorem iT.qB {Q Q':List QB} (h:iT Q Q') (i:Int):(Go.Proofs.YtokgmcomgflloaaGreat.qB Q' i).px=(Go.Proofs.YtokgmcomgflloaaGreat.qB Q i).px∧(Go.Proofs.YtokgmcomgflloaaGreat.qB Q' i).py=(Go.Proofs.YtokgmcomgflloaaGreat.qB Q i).py∧(Go.Proofs.YtokgmcomgflloaaGreat.qB Q' i).ang=(Go.Proofs.YtokgmcomgflloaaGreat.qB Q i).ang∧(Go.Proofs.YtokgmcomgflloaaGreat.qB Q' i).mass=(Go.Proofs.YtokgmcomgflloaaGreat.qB Q i).mass:=by
 unfold Go.Proofs.YtokgmcomgflloaaGreat.qB
 rcases hq:Q[i.toNat]? with _ | y
 ·have : Q'[i.toNat]? = none := by rw [List.getElem?_eq_none_iff] at hq ⊢; rw [h.len]; exact hq
  rw [this];exact ⟨rfl,rfl,rfl,rfl⟩
 ·obtain ⟨y', e, l⟩ := h.at_ _ y hq;rw [e];exact ⟨l.px,l.py,l.ang,l.mass⟩
theorem iT.wX {Q Q':List QB} (h:iT Q Q') (i:Int) (p q:Int):Go.Proofs.YtokgmcomgflloaaGreat.wX (Go.Proofs.YtokgmcomgflloaaGreat.qB Q' i) p q=Go.Proofs.YtokgmcomgflloaaGreat.wX (Go.Proofs.YtokgmcomgflloaaGreat.qB Q i) p q:=by
 obtain ⟨h1,h2,h3,h4⟩:=h.qB i;unfold Go.Proofs.YtokgmcomgflloaaGreat.wX;rw [h1,h3]
theorem iT.wY {Q Q':List QB} (h:iT Q Q') (i:Int) (p q:Int):Go.Proofs.YtokgmcomgflloaaGreat.wY (Go.Proofs.YtokgmcomgflloaaGreat.qB Q' i) p q=Go.Proofs.YtokgmcomgflloaaGreat.wY (Go.Proofs.YtokgmcomgflloaaGreat.qB Q i) p q:=by
 obtain ⟨h1,h2,h3,h4⟩:=h.qB i;unfold Go.Proofs.YtokgmcomgflloaaGreat.wY;rw [h2,h3]
theorem GD {Q:List QB} {ka kb:Nat} (ha:ka<Q.length) (hb:kb<Q.length) (hab:ka≠kb) (p1 p2 q1 q2 j1 j2:Int):iT Q (Io Q ka kb p1 p2 q1 q2 j1 j2):=by
 have e1:Q[ka]? = some Q[ka]:=List.getElem?_eq_getElem ha;have e2:Q[kb]? = some Q[kb]:=List.getElem?_eq_getElem hb;unfold Io;rw [PN rfl e1,PN rfl e2];refine (iT.put e1 (Like.push _ _ _ _ _)).trans (iT.put (y:=Q[kb]) ?_ (Like.push _ _ _ _ _));rw [Hy e1,List.getElem?_set_ne hab];exact e2
theorem FD {Q:List QB} {ka kb:Nat} (ha:ka<Q.length) (hb:kb<Q.length) (hab:ka≠kb) (p1 p2 q1 q2 v1 v2 gap st:Int):iT Q (Kw Q ka kb p1 p2 q1 q2 v1 v2 gap st):=by
 unfold Kw
 split
 ·exact .refl Q
 ·exact GD ha hb hab _ _ _ _ _ _

def RI (Q:List QB) (x:Jt):Int:=iN (wX (qB Q x.b) x.q1 x.q2) (wX (qB Q x.a) x.p1 x.p2)
def Sj (Q:List QB) (x:Jt):Int:=iN (wY (qB Q x.b) x.q1 x.q2) (wY (qB Q x.a) x.p1 x.p2)
def Hl (Q:List QB) (x:Jt) (v1 v2 gap st:Int):List QB:=Kw Q x.a.toNat x.b.toNat (wX (qB Q x.a) x.p1 x.p2) (wY (qB Q x.a) x.p1 x.p2) (wX (qB Q x.b) x.q1 x.q2) (wY (qB Q x.b) x.q1 x.q2) v1 v2 gap st
def SV (d1 d2:Int):Int:=if d1=0∧d2=0 then 65536 else RZ d1 d2
def Td (d1 d2:Int):Int:=if d1=0∧d2=0 then 0 else RY d1 d2
def sP (Q:List QB) (x:Jt) (st:Int):List QB :=
 if x.len=0 then Hl (Hl Q x 65536 0 (RI Q x) st) x 0 65536 (Sj Q x) st
 else Hl Q x (SV (RI Q x) (Sj Q x)) (Td (RI Q x) (Sj Q x)) (xQ (RI Q x) (Sj Q x)-x.len) st

def iE (Q : List QB) (J : List Jt) (st : Int) : Nat → List QB
 | 0=>Q
 | k+1=>match J[k]? with | some x=>sP (iE Q J st k) x st | none=>iE Q J st k
def lI (Q : List QB) (J : List Jt) (st : Int) : Nat → List QB
 | 0=>Q
 | k+1=>iE (lI Q J st k) J st J.length
theorem AQ {Q:List QB} {J:List Jt} {st:Int} {k:Nat} {x:Jt} (h:J[k]? = some x):iE Q J st (k+1)=sP (iE Q J st k) x st:=by
 show (match J[k]? with | some x=>sP (iE Q J st k) x st | none=>iE Q J st k)=_;rw [h]
def LC (n:Nat) (x:Jt):Prop:=0≤x.a∧x.a<x.b∧x.b<(n:Int)
theorem qN {Q:List QB} {x:Jt} (h:LC Q.length x) (v1 v2 gap st:Int):iT Q (Hl Q x v1 v2 gap st):=by
 obtain ⟨h1,h2,h3⟩:=h;exact FD (by omega) (by omega) (by omega) _ _ _ _ _ _ _ _
theorem Ea {Q:List QB} {x:Jt} (h:LC Q.length x) (st:Int):iT Q (sP Q x st):=by
 unfold sP
 split
 ·have h1 := qN h 65536 0 (RI Q x) st;exact h1.trans (qN (by rw [h1.len];exact h) _ _ _ _)
 ·exact qN h _ _ _ _
theorem rG {Q : List QB} {J : List Jt} (h : ∀ x ∈ J, LC Q.length x) (st : Int) : ∀ k, iT Q (iE Q J st k)
 | 0=>.refl Q
 | k+1=>by
  have ih:=rG h st k
  rcases hj:J[k]? with _ | x
  ·have:iE Q J st (k+1)=iE Q J st k:=by
    show (match J[k]? with | some x=>sP (iE Q J st k) x st | none=>iE Q J st k)=_;rw [hj]
   rw [this];exact ih
  ·rw [AQ hj];refine ih.trans (Ea ?_ st);rw [ih.len];exact h x (List.mem_of_getElem? hj)
theorem rZ {Q : List QB} {J : List Jt} (h : ∀ x ∈ J, LC Q.length x) (st : Int) : ∀ k, iT Q (lI Q J st k)
 | 0=>.refl Q
 | k+1=>by
  have ih:=rZ h st k
  exact ih.trans (rG (by rw [ih.len];exact h) st _)

theorem uo {L:List BE} (h:L.length≤64) (hv:∀ x ∈ L,bG x.b x.l=0):aX L=0:=by
 unfold aX;rw [if_neg (by omega)]
 have:∀ k,k≤L.length→fB L k=0:=fun k=>by
  induction k with
  | zero=>intro _;rfl
  | succ k ih =>
   intro hk;rw [jP (by omega),if_neg (by rw [ih (by omega)];simp)];exact hv _ (List.getElem_mem _)
 exact this _ (Nat.le_refl _)

theorem kP {g k:Nat} {L:List BE} {x:BE} (h:aM jc w g 0 L) (hk:k<L.length) (hx:x=L[k]):w.cell? ⟨g,k*13,none⟩=some (.int .i64 x.b.px)∧w.cell? ⟨g,k*13+1,none⟩=some (.int .i64 x.b.py)∧w.cell? ⟨g,k*13+2,none⟩=some (.int .i64 x.b.vx)∧w.cell? ⟨g,k*13+3,none⟩=some (.int .i64 x.b.vy)∧w.cell? ⟨g,k*13+4,none⟩=some (.int .i64 x.b.ang)∧w.cell? ⟨g,k*13+5,none⟩=some (.int .i64 x.b.spin)∧w.cell? ⟨g,k*13+6,none⟩=some (.int .i64 x.b.mass)∧w.cell? ⟨g,k*13+7,none⟩=some (.int .i64 x.b.iner)∧w.cell? ⟨g,k*13+8,none⟩=some (.int .i64 x.b.bounce)∧w.cell? ⟨g,k*13+9,none⟩=some (.int .i64 x.b.rub)∧w.cell? ⟨g,k*13+10,none⟩=some (.slice x.A x.n x.c)∧w.cell? ⟨g,k*13+11,none⟩=some (.bool x.b.asleep)∧w.cell? ⟨g,k*13+12,none⟩=some (.int .i64 x.b.calm):=by
 have:=dP h hk hx;simpa only [Nat.zero_add] using this

structure Pj (w0 : World) (g : Nat) (L : List BE) (x : Jt) (p1 p2 q1 q2 v1 v2 : Int) (w : World) : Prop where
 j:w.cell? ⟨w0.heap.size,0,none⟩=some (.int .i64 x.a)∧w.cell? ⟨w0.heap.size,1,none⟩=some (.int .i64 x.b)∧w.cell? ⟨w0.heap.size,2,none⟩=some (.int .i64 x.p1)∧w.cell? ⟨w0.heap.size,3,none⟩=some (.int .i64 x.p2)∧w.cell? ⟨w0.heap.size,4,none⟩=some (.int .i64 x.q1)∧w.cell? ⟨w0.heap.size,5,none⟩=some (.int .i64 x.q2)∧w.cell? ⟨w0.heap.size,6,none⟩=some (.int .i64 x.len)
 p:w.cell? ⟨w0.heap.size+1,0,none⟩=some (.int .i64 p1)∧w.cell? ⟨w0.heap.size+1,1,none⟩=some (.int .i64 p2)
 q:w.cell? ⟨w0.heap.size+2,0,none⟩=some (.int .i64 q1)∧w.cell? ⟨w0.heap.size+2,1,none⟩=some (.int .i64 q2)
 v:w.cell? ⟨w0.heap.size+3,0,none⟩=some (.int .i64 v1)∧w.cell? ⟨w0.heap.size+3,1,none⟩=some (.int .i64 v2)
 bl:BL w g L
 bel:Below w0.heap.size w0 w
 lt:g<w0.heap.size
 lo:∀ y ∈ L,∀ bx off,y.A=some ⟨bx,off,none⟩→bx<w0.heap.size
 sz:w0.heap.size+3<w.heap.size
theorem MR {g:Nat} {L:List BE} {x:Jt} {p1 p2 q1 q2 v1 v2:Int} {w w':World} (hb:Below w.heap.size w w') (h:Pj w0 g L x p1 p2 q1 q2 v1 v2 w):Pj w0 g L x p1 p2 q1 q2 v1 v2 w':=by
 obtain ⟨h0,h1,h2,h3,h4,h5,h6⟩:=h.j;exact ⟨⟨keepCell hb h0,keepCell hb h1,keepCell hb h2,keepCell hb h3,keepCell hb h4,keepCell hb h5,keepCell hb h6⟩,⟨keepCell hb h.p.1,keepCell hb h.p.2⟩,⟨keepCell hb h.q.1,keepCell hb h.q.2⟩,⟨keepCell hb h.v.1,keepCell hb h.v.2⟩,iB hb h.bl,aj hb h.bel,h.lt,h.lo,Nat.lt_of_lt_of_le h.sz hb.size⟩
theorem Pj.alloc {g:Nat} {L:List BE} {x:Jt} {p1 p2 q1 q2 v1 v2:Int} {w:World} (h:Pj w0 g L x p1 p2 q1 q2 v1 v2 w) (o:Obj):Pj w0 g L x p1 p2 q1 q2 v1 v2 (w.alloc o):=MR Ba h
theorem Pj.drew {g:Nat} {L:List BE} {x:Jt} {p1 p2 q1 q2 v1 v2:Int} {w:World} (h:Pj w0 g L x p1 p2 q1 q2 v1 v2 w):Pj w0 g L x p1 p2 q1 q2 v1 v2 w.drew:=MR (Below.refl _ _).drew h

theorem BL.off {g k o:Nat} {v:Value} {L:List BE} (h:BL w g L) (hk:k≠g) (hne:∀ x ∈ L,∀ bx off,x.A=some ⟨bx,off,none⟩→bx≠k):BL (w.setCell ⟨k,o,none⟩ v) g L :=
 ⟨⟨by simp;exact h.cl.lt,fun j hj i u hu=>aZ hk (h.cl.at_ j hj i u hu)⟩,fun j=>by rw [World.frozen?_setCell];exact h.free j,fun x hx=>(h.co x hx).setAt (hne x hx),h.ne⟩
theorem Pj.set {g:Nat} {L:List BE} {x:Jt} {p1 p2 q1 q2 v1 v2:Int} {w:World} {k o:Nat} {v:Value} (h:Pj w0 g L x p1 p2 q1 q2 v1 v2 w) (hk:w0.heap.size+3<k):Pj w0 g L x p1 p2 q1 q2 v1 v2 (w.setCell ⟨k,o,none⟩ v):=by
 obtain ⟨h0,h1,h2,h3,h4,h5,h6⟩:=h.j;have hlt:=h.lt;have n0:k≠w0.heap.size:=by omega
 have n1:k≠w0.heap.size+1:=by omega
 have n2:k≠w0.heap.size+2:=by omega
 have n3:k≠w0.heap.size+3:=by omega
 exact ⟨⟨aZ n0 h0,aZ n0 h1,aZ n0 h2,aZ n0 h3,aZ n0 h4,aZ n0 h5,aZ n0 h6⟩,⟨aZ n1 h.p.1,aZ n1 h.p.2⟩,⟨aZ n2 h.q.1,aZ n2 h.q.2⟩,⟨aZ n3 h.v.1,aZ n3 h.v.2⟩,h.bl.off (by omega) (fun y hy bx off e=>by have:=h.lo y hy bx off e;omega),h.bel.setCell (p:=⟨k,o,none⟩) (by show w0.heap.size≤k;omega) _,h.lt,h.lo,by simp;exact h.sz⟩
theorem Pj.setBd {g:Nat} {L:List BE} {x:Jt} {p1 p2 q1 q2 v1 v2:Int} {w:World} {k:Nat} (h:Pj w0 g L x p1 p2 q1 q2 v1 v2 w) (hk:w0.heap.size+3<k) (b:Bd) (A:Option Addr) (n c:Nat):Pj w0 g L x p1 p2 q1 q2 v1 v2 (Go.Proofs.YtokgmcomgflloaaGreat.setBd w k b A n c):=by
 unfold Go.Proofs.YtokgmcomgflloaaGreat.setBd
 iterate 13 refine Pj.set ?_ hk
 exact h
theorem uH {l:List V} (h:aP l=0):l.length≤8:=by
 unfold aP at h
 by_cases hc:8<l.length
 ·rw [if_pos hc] at h;cases h
 ·omega
end
section
set_option linter.unusedVariables false
set_option linter.unusedSimpArgs false
open Go.ChangeShapes Go.WideShapes Go.ChangeAt Go.RowKit Go.Deep Go.Joins
variable {w0 w w':World}
section
variable {w0 w w':World}
variable {H:Type} {enc:TypeId × Value→H} {W:World} {held:Bool} {base:Nat} {sp:Nat→Bool}


end
end
section
set_option linter.unusedVariables false
set_option linter.unusedSimpArgs false
open Go.RowKit
variable {w0 w w':World}
def yT (L:List BE) (J:List Jt) (st r:Int):Int:=if dK L J≠0 then dK L J else if st<1∨65536<st∨r<0∨32<r then 1 else 0
def Gf (L:List BE) (J:List Jt) (st r:Int):List QB:=if yT L J st r=0 then lI (L.map dw) J st r.toNat else []
def GL (E:Int) (Q:List QB) (w:World) (e:Ending) (w':World):Prop:=∃ (A:Option Addr) (n c:Nat) (L':List BE),e = .returned (.tuple #[.slice A n c,.int .i64 E])∧kM w' A n c L'∧L'.map dw=Q∧Below w.heap.size w w'

structure Vg (w : World) (g : Nat) (x y : Int) : Prop where
 a:w.cell? ⟨g,0,none⟩=some (.int .i64 x)
 b:w.cell? ⟨g,1,none⟩=some (.int .i64 y)
theorem Qc {g:Nat} {x y:Int} (hb:Below w.heap.size w w') (h:Vg w g x y):Vg w' g x y:=⟨keepCell hb h.a,keepCell hb h.b⟩
theorem Vg.drew {g:Nat} {x y:Int} (h:Vg w g x y):Vg w.drew g x y:=⟨h.a,h.b⟩
theorem Vg.next {g k:Nat} {x y:Int} (h:Vg w g x y) (hg:w.grownBy w' (some k)) (hne:g≠k):Vg w' g x y :=
 ⟨(World.cell?_of_block (hg.block g (lt_of_cell h.a) (by simpa using hne))).trans h.a,(World.cell?_of_block (hg.block g (lt_of_cell h.a) (by simpa using hne))).trans h.b⟩
structure Jg (w : World) (g : Nat) (x : Jt) : Prop where
 c0:w.cell? ⟨g,0,none⟩=some (.int .i64 x.a)
 c1:w.cell? ⟨g,1,none⟩=some (.int .i64 x.b)
 c2:w.cell? ⟨g,2,none⟩=some (.int .i64 x.p1)
 c3:w.cell? ⟨g,3,none⟩=some (.int .i64 x.p2)
 c4:w.cell? ⟨g,4,none⟩=some (.int .i64 x.q1)
 c5:w.cell? ⟨g,5,none⟩=some (.int .i64 x.q2)
 c6:w.cell? ⟨g,6,none⟩=some (.int .i64 x.len)
theorem M5 {g:Nat} {x:Jt} (hb:Below w.heap.size w w') (h:Jg w g x):Jg w' g x :=
 ⟨keepCell hb h.c0,keepCell hb h.c1,keepCell hb h.c2,keepCell hb h.c3,keepCell hb h.c4,keepCell hb h.c5,keepCell hb h.c6⟩
theorem Jg.alloc {g:Nat} {x:Jt} (h:Jg w g x) (o:Obj):Jg (w.alloc o) g x:=M5 Ba h
theorem Vg.alloc {g:Nat} {x y:Int} (h:Vg w g x y) (o:Obj):Vg (w.alloc o) g x y:=Qc Ba h
theorem Jg.drew {g:Nat} {x:Jt} (h:Jg w g x):Jg w.drew g x:=M5 (Below.refl _ _).drew h
theorem Jg.next {g k:Nat} {x:Jt} (h:Jg w g x) (hg:w.grownBy w' (some k)) (hne:g≠k):Jg w' g x :=
 have e:=hg.block g (lt_of_cell h.c0) (by simpa using hne)
 ⟨(World.cell?_of_block e).trans h.c0,(World.cell?_of_block e).trans h.c1,(World.cell?_of_block e).trans h.c2,(World.cell?_of_block e).trans h.c3,(World.cell?_of_block e).trans h.c4,(World.cell?_of_block e).trans h.c5,(World.cell?_of_block e).trans h.c6⟩

structure RJ (w0 : World) (s : Value) (L' : List BE) (w : World) : Prop where
 own:aN jc 27 w w0.heap.size s L'
 co:∀ x ∈ L',Sl w x.A x.n x.c x.l∧x.l≠[]∧∀ bx off,x.A=some ⟨bx,off,none⟩→w0.heap.size≤bx∧some bx≠s.ownBlock
 bel:Below w0.heap.size w0 w
theorem La {s:Value} {L':List BE} {w w':World} (hb:Below w.heap.size w w') (h:RJ w0 s L' w):RJ w0 s L' w' :=
 ⟨h.own.below hb,fun x hx=>⟨(h.co x hx).1.below hb,(h.co x hx).2⟩,aj hb h.bel⟩
theorem jl {A:Option Addr} {n c:Nat} {l:List V} {row:Option Nat} (h:Sl w A n c l) (hg:w.grownBy w' row) (hne:∀ b off,A=some ⟨b,off,none⟩→some b≠row):Sl w' A n c l:=by
 cases row with
 | none=>exact h.below ⟨hg.os,hg.tape,hg.output,hg.size,fun k hk=>hg.block k hk (by simp)⟩
 | some g=>exact h.grown hg (fun b off e=>fun e2=>hne b off e (by rw [e2]))
theorem pY {A:Option Addr} {n c:Nat} {l:List V} (h:Sl w A n c l) (hl:l≠[]):∀ bx off,A=some ⟨bx,off,none⟩→bx<w.heap.size:=fun bx off e=>by
 obtain ⟨b',off',e',hc⟩:=h.at_ hl;rw [e] at e';cases e';exact hc.lt
theorem RJ.set {w0 wb:World} {s:Value} {L':List BE} {w:World} (hb:RJ w0 s L' wb) (h:RJ w0 s L' w) {k o:Nat} {v:Value} (hk:wb.heap.size≤k):RJ w0 s L' (w.setCell ⟨k,o,none⟩ v):=by
 have hs:=hb.bel.size;refine ⟨h.own.off (fun j hj=>by have:=(hb.own.lt hj).2;omega) o v,fun x hx=>?_,h.bel.setCell (p:=⟨k,o,none⟩) (by show w0.heap.size≤k;omega) _⟩;obtain ⟨h1,h2,h3⟩:=h.co x hx;exact ⟨h1.setAt (fun bx off e=>by have:=pY (hb.co x hx).1 h2 bx off e;omega),h2,h3⟩
theorem RJ.push {w0 wb : World} {s s' : Value} {L' : List BE} {w w7 : World} {o : Obj} {y : BE} (hb : RJ w0 s L' wb) (h : RJ w0 s L' w) (hS : Sl w y.A y.n y.c y.l) (hl : y.l ≠ []) (hf : ∀ bx off, y.A = some ⟨bx, off, none⟩ → wb.heap.size ≤ bx)
  (ho:aN jc 27 w7 w0.heap.size s' (L' ++ [y])) (hg:(w.alloc o).grownBy w7 s.ownBlock) (hat:s'.ownBlock=s.ownBlock∨s'.ownBlock=some (w.alloc o).heap.size):RJ w0 s' (L' ++ [y]) w7:=by
 have hsb:=hb.bel.size;have hsw:=h.bel.size;have hsa:(w.alloc o).heap.size=w.heap.size+1:=by simp
 have hga:w.grownBy (w.alloc o) s.ownBlock:=World.grownBy_alloc _ _ _;have hg7:w.grownBy w7 s.ownBlock:=aQ hga hg
 have nblk:∀ {z:BE},Sl w z.A z.n z.c z.l→z.l≠[]→(∀ bx off,z.A=some ⟨bx,off,none⟩→some bx≠s.ownBlock)→∀ bx off,z.A=some ⟨bx,off,none⟩→some bx≠s'.ownBlock:=fun {z} hs hne hno bx off e e2=>by
  have:=pY hs hne bx off e
  rcases hat with q | q
  ·exact hno bx off e (e2.trans q)
  ·rw [q,hsa] at e2;cases e2;omega
 have hnw:∀ bx off,y.A=some ⟨bx,off,none⟩→some bx≠s.ownBlock:=fun bx off e e2=>by have:=hf bx off e;have:=(hb.own.lt e2.symm).2;omega
 refine ⟨ho,fun x hx=>?_,h.bel.grown hg7 (by omega) (fun k hk=>(hb.own.lt hk).1)⟩
 rcases List.mem_append.1 hx with hx | hx
 ·obtain ⟨h1, h2, h3⟩ := h.co x hx;exact ⟨jl h1 hg7 (fun bx off e=>(h3 bx off e).2),h2,fun bx off e=>⟨(h3 bx off e).1,nblk h1 h2 (fun bx off e=>(h3 bx off e).2) bx off e⟩⟩
 ·rw [List.mem_singleton.1 hx];exact ⟨jl hS hg7 hnw,hl,fun bx off e=>⟨by have:=hf bx off e;omega,nblk hS hl hnw bx off e⟩⟩

def RV (w0:World) (v:Value) (Q:List QB) (w:World):Prop:=∃ L1:List BE,L1.map dw=Q∧Below w0.heap.size w0 w∧((v = .slice none 0 0∧L1=[])∨∃ g cap,v = .slice (some ⟨g,0,none⟩) L1.length cap∧w0.heap.size≤g∧L1.length≤cap∧cap≤maxLen∧BL w g L1)
theorem RJ.rv {s:Value} {L':List BE} {w:World} (h:RJ w0 s L' w):RV w0 s (L'.map dw) w:=by
 refine ⟨L',rfl,h.bel,?_⟩
 rcases h.own.form with ⟨h1,h2⟩ | ⟨g,cap,hv,h1,h2,h3,h4,h5,h6⟩
 ·exact .inl ⟨h1,h2⟩
 ·refine .inr ⟨g, cap, hv, h1, h3, h4, ⟨h6, h5, fun x hx => (h.co x hx).1, fun x hx bx off e => fun e2 => ?_⟩⟩;have:=((h.co x hx).2.2 bx off e).2;rw [hv,e2] at this;exact this rfl
theorem RV.ret {v:Value} {Q:List QB} {w:World} (h:RV w0 v Q w) (hl:Q.length≤64):∃ A n c L',v = .slice A n c∧kM w A n c L'∧L'.map dw=Q∧Below w0.heap.size w0 w:=by
 obtain ⟨L1,hq,hB,⟨rfl,rfl⟩ | ⟨g,cap,rfl,h1,h2,h3,hbl⟩⟩:=h
 ·exact ⟨none,0,0,[],rfl,⟨dN.nil _ _,fun x hx=>by cases hx⟩,hq,hB⟩
 ·exact ⟨_,_,_,L1,rfl,⟨⟨rfl,h2,by unfold maxLen at h3;omega,fun _=>⟨g,0,rfl,hbl.cl⟩⟩,hbl.co⟩,hq,hB⟩

structure Rj (w0 : World) (B g : Nat) (L : List BE) (w : World) : Prop where
 bl:BL w g L
 bel:Below w0.heap.size w0 w
 ge:w0.heap.size≤g
 gB:g<B
 hi:∀ y ∈ L,∀ bx off,y.A=some ⟨bx,off,none⟩→bx<B
 Bw:B≤w.heap.size
theorem Nj {B g:Nat} {L:List BE} {w w':World} (hb:Below w.heap.size w w') (h:Rj w0 B g L w):Rj w0 B g L w' :=
 ⟨iB hb h.bl,aj hb h.bel,h.ge,h.gB,h.hi,Nat.le_trans h.Bw hb.size⟩
theorem Rj.drew {B g:Nat} {L:List BE} {w:World} (h:Rj w0 B g L w):Rj w0 B g L w.drew:=Nj (Below.refl _ _).drew h
theorem Rj.alloc {B g:Nat} {L:List BE} {w:World} (h:Rj w0 B g L w) (o:Obj):Rj w0 B g L (w.alloc o):=Nj Ba h
theorem Rj.set {B g:Nat} {L:List BE} {w:World} (h:Rj w0 B g L w) {k o:Nat} {v:Value} (hk:B≤k):Rj w0 B g L (w.setCell ⟨k,o,none⟩ v) :=
 ⟨h.bl.off (by have:=h.gB;omega) (fun y hy bx off e=>by have:=h.hi y hy bx off e;omega),h.bel.setCell (p:=⟨k,o,none⟩) (by show w0.heap.size≤k;have:=h.gB;have:=h.ge;omega) _,h.ge,h.gB,h.hi,by simp;exact h.Bw⟩
theorem Rj.of {g:Nat} {L:List BE} {w:World} (h:BL w g L) (hB:Below w0.heap.size w0 w) (hg:w0.heap.size≤g) (hv:∀ x ∈ L,bG x.b x.l=0):Rj w0 w.heap.size g L w :=
 ⟨h,hB,hg,h.cl.lt,fun y hy=>pY (h.co y hy) (fun e=>by have:=hv y hy;rw [e] at this;exact absurd (fA this).1 (by decide)),Nat.le_refl _⟩
theorem Rj.next {B g:Nat} {L:List BE} {w w':World} (h:Rj w0 B g L w) (hg:w.grownBy w' (some g)):Below w0.heap.size w0 w':=h.bel.trans (jv hg h.bel.size h.ge)
theorem pU (A:Option Addr) (n c:Nat) (l:List Ct) (w:World) (hS:dN iC w A n c l) (hl:l.length≤100000):Calls Tryz.prog 114 #[.slice A n c] w fun e w'=>∃ s,e = .returned s∧aN iC 106 w' w.heap.size s l∧Below w.heap.size w w':=by
 have hcmp:∀ w':World,(binOp .eql 31 (.slice A n c) (.slice none 0 0)).run Tryz.prog w' = .ok (.bool A.isNone) w':=fun w'=>Lib.run_eql_slice_nil w' 31 _ A n c 0 0 Tryz.underlying31
 cases A with
 | none =>
  have hl0:l=[]:=by
   rcases l with _ | ⟨a,r⟩
   ·rfl
   ·obtain ⟨b,off,h,_⟩:=hS.at_ (by simp);cases h
  subst hl0;clear hS
  go_enter Tryz.func114,Tryz.ntmps114
  go_wp2;refine bodyPost_ret (v:=.slice none 0 0) (by simp [results,Tryz.results114,go_sem]) rfl ⟨_,rfl,aN.nil _ _ _ _,Below.refl _ _⟩
 | some ad =>
  have hn:=hS.len;have HS:=hid hS;clear hS;subst hn;have HO:Hid (aN iC 106 (w.alloc (.cells #[] 106)) w.heap.size (.slice (some ⟨w.heap.size,0,none⟩) 0 0) []):=⟨by simp [eY],.inr ⟨w.heap.size,0,#[],rfl,Nat.le_refl _,heap_alloc_new w _,Nat.le_refl _,Nat.zero_le _,by simp,by simp [eY]⟩⟩;have hb0:Below w.heap.size w (w.alloc (.cells #[] 106)):=by go_grown
  go_enter Tryz.func114,Tryz.ntmps114
  go_wp2_with (at_builtin;refine jY IL rfl _ _ rfl w.heap.size _ [] rfl HO.out _ _ _ l rfl (HS.out.below hb0) (by first | omega | (simp;omega)) (by first | omega | (simp;omega)) (by simp) ?_;intro v' w1 ho1 hg1 hat;have HO1:=hid ho1;have hb1:=hid (hb0.grown hg1 (by simp) (fun k hk=>(HO.out.lt hk).1));clear ho1 hg1 hat)
  obtain ⟨A',n',c',rfl,-,-⟩:=HO1.out.sl;refine bodyPost_ret (v:=.slice A' n' c') (by simp [results,Tryz.results114,go_sem]) rfl ⟨_,rfl,by simpa using HO1.out,hb1.out⟩
structure Kg (w : World) (g : Nat) (x : Ct) : Prop where
 c0:w.cell? ⟨g,0,none⟩=some (.int .i64 x.a)
 c1:w.cell? ⟨g,1,none⟩=some (.int .i64 x.b)
 c2:w.cell? ⟨g,2,none⟩=some (.int .i64 x.id)
 c3:w.cell? ⟨g,3,none⟩=some (.int .i64 x.px)
 c4:w.cell? ⟨g,4,none⟩=some (.int .i64 x.py)
 c5:w.cell? ⟨g,5,none⟩=some (.int .i64 x.nx)
 c6:w.cell? ⟨g,6,none⟩=some (.int .i64 x.ny)
 c7:w.cell? ⟨g,7,none⟩=some (.int .i64 x.dep)
 c8:w.cell? ⟨g,8,none⟩=some (.int .i64 x.push)
 c9:w.cell? ⟨g,9,none⟩=some (.int .i64 x.sli)
theorem QD {g:Nat} {x:Ct} (hb:Below w.heap.size w w') (h:Kg w g x):Kg w' g x:=⟨keepCell hb h.c0,keepCell hb h.c1,keepCell hb h.c2,keepCell hb h.c3,keepCell hb h.c4,keepCell hb h.c5,keepCell hb h.c6,keepCell hb h.c7,keepCell hb h.c8,keepCell hb h.c9⟩
theorem Kg.drew {g:Nat} {x:Ct} (h:Kg w g x):Kg w.drew g x:=QD (Below.refl _ _).drew h

theorem aM.set_push {g i:Nat} {C:List Ct} {x:Ct} (h:aM iC w g 0 C) (hi:i<C.length) (hxi:C[i]=x) (v:Int):aM iC (w.setCell ⟨g,i*10+8,none⟩ (.int .i64 v)) g 0 (C.set i { x with push:=v }):=by
 refine ⟨by simp;exact h.lt,fun j hj k u hu=>?_⟩;have hlen:∀ x:Ct,(o9 x).length=10:=fun _=>rfl
 have hj':j<C.length:=by simpa using hj
 by_cases e:j=i
 ·subst e;have hu:(o9 { x with push:=v })[k]? = some u:=by have hu2:(o9 (C.set j { x with push:=v })[j])[k]? = some u:=hu;rwa [List.getElem_set_self] at hu2
  show (w.setCell ⟨g,j*10+8,none⟩ (.int .i64 v)).cell? ⟨g,0+j*10+k,none⟩=some u;rw [Nat.zero_add]
  by_cases e2:k=8
  ·subst e2;have hu:some (Value.int .i64 v)=some u:=hu
   cases hu
   have h2:=h.at_ j hj' 8 _ (show (o9 C[j])[8]? = some (.int .i64 C[j].push) from rfl);rw [Nat.zero_add] at h2;exact dA h2
  ·have hu2:(o9 C[j])[k]? = some u:=by
    rw [hxi]
    have hk:k<10:=by
     rcases Nat.lt_or_ge k 10 with q | q
     ·exact q
     ·rw [List.getElem?_eq_none (by rw [hlen];exact q)] at hu;cases hu
    rw [← hu]
    match k,hk,e2 with
    | 0,_,_ | 1,_,_ | 2,_,_ | 3,_,_ | 4,_,_ | 5,_,_ | 6,_,_ | 7,_,_ | 9,_,_=>rfl
    | 8,_,e2=>exact (e2 rfl).elim
   have h2:w.cell? ⟨g,0+j*10+k,none⟩=some u:=h.at_ j hj' k u hu2;rw [Nat.zero_add] at h2;exact aR h2 (by omega)
 ·have hu : (o9 C[j])[k]? = some u := by have hu2 : (o9 (C.set i { x with push := v })[j])[k]? = some u := hu; rwa [List.getElem_set_ne (by omega)] at hu2
  have hk:k<10:=by
   rcases Nat.lt_or_ge k 10 with q | q
   ·exact q
   ·rw [List.getElem?_eq_none (by rw [hlen];exact q)] at hu;cases hu
  have h2:w.cell? ⟨g,0+j*10+k,none⟩=some u:=h.at_ j hj' k u hu;show (w.setCell ⟨g,i*10+8,none⟩ (.int .i64 v)).cell? ⟨g,0+j*10+k,none⟩=some u;exact aR h2 (by omega)
theorem aM.set_sli {g i:Nat} {C:List Ct} {x:Ct} (h:aM iC w g 0 C) (hi:i<C.length) (hxi:C[i]=x) (v:Int):aM iC (w.setCell ⟨g,i*10+9,none⟩ (.int .i64 v)) g 0 (C.set i { x with sli:=v }):=by
 refine ⟨by simp;exact h.lt,fun j hj k u hu=>?_⟩;have hlen:∀ x:Ct,(o9 x).length=10:=fun _=>rfl
 have hj':j<C.length:=by simpa using hj
 by_cases e:j=i
 ·subst e;have hu:(o9 { x with sli:=v })[k]? = some u:=by have hu2:(o9 (C.set j { x with sli:=v })[j])[k]? = some u:=hu;rwa [List.getElem_set_self] at hu2
  show (w.setCell ⟨g,j*10+9,none⟩ (.int .i64 v)).cell? ⟨g,0+j*10+k,none⟩=some u;rw [Nat.zero_add]
  by_cases e2:k=9
  ·subst e2;have hu:some (Value.int .i64 v)=some u:=hu
   cases hu
   have h2:=h.at_ j hj' 9 _ (show (o9 C[j])[9]? = some (.int .i64 C[j].sli) from rfl);rw [Nat.zero_add] at h2;exact dA h2
  ·have hu2:(o9 C[j])[k]? = some u:=by
    rw [hxi]
    have hk:k<10:=by
     rcases Nat.lt_or_ge k 10 with q | q
     ·exact q
     ·rw [List.getElem?_eq_none (by rw [hlen];exact q)] at hu;cases hu
    rw [← hu]
    match k,hk,e2 with
    | 0,_,_ | 1,_,_ | 2,_,_ | 3,_,_ | 4,_,_ | 5,_,_ | 6,_,_ | 7,_,_ | 8,_,_=>rfl
    | 9,_,e2=>exact (e2 rfl).elim
   have h2:w.cell? ⟨g,0+j*10+k,none⟩=some u:=h.at_ j hj' k u hu2;rw [Nat.zero_add] at h2;exact aR h2 (by omega)
 ·have hu : (o9 C[j])[k]? = some u := by have hu2 : (o9 (C.set i { x with sli := v })[j])[k]? = some u := hu; rwa [List.getElem_set_ne (by omega)] at hu2
  have hk:k<10:=by
   rcases Nat.lt_or_ge k 10 with q | q
   ·exact q
   ·rw [List.getElem?_eq_none (by rw [hlen];exact q)] at hu;cases hu
  have h2:w.cell? ⟨g,0+j*10+k,none⟩=some u:=h.at_ j hj' k u hu;show (w.setCell ⟨g,i*10+9,none⟩ (.int .i64 v)).cell? ⟨g,0+j*10+k,none⟩=some u;exact aR h2 (by omega)

structure Cy (w0 : World) (gO gq n cap : Nat) (L : List Ct) (w : World) : Prop where
 co:w.cell? ⟨gO,0,none⟩=some (.slice (some ⟨gq,0,none⟩) n cap)
 cl:aM iC w gq 0 L
 cf:∀ j,w.frozen? ⟨gq,j,none⟩=false
 bel:Below w0.heap.size w0 w
 lo:w0.heap.size≤gq∧gq<gO
 ln:L.length=n
theorem Cy.keep {gO gq n cap:Nat} {L:List Ct} {w w':World} (hb:Below w.heap.size w w') (h:Cy w0 gO gq n cap L w):Cy w0 gO gq n cap L w' :=
 ⟨keepCell hb h.co,h.cl.below hb,fun j=>((cO hb).2 _ _ h.cl.lt).trans (h.cf j),aj hb h.bel,h.lo,h.ln⟩
theorem Cy.set2 {gO gq n cap k:Nat} {L:List Ct} {w:World} {x:Ct} (h:Cy w0 gO gq n cap L w) (hk:k<L.length) (hx:L[k]=x) (p s:Int) :
  Cy w0 gO gq n cap (L.set k { x with push:=p,sli:=s }) ((w.setCell ⟨gq,k*10+8,none⟩ (.int .i64 p)).setCell ⟨gq,k*10+9,none⟩ (.int .i64 s)):=by
 obtain ⟨l1,l2⟩:=h.lo;have h1:=aM.set_push h.cl hk hx p;have h2:=aM.set_sli (x:={ x with push:=p }) h1 (by simpa using hk) (by simp) s;rw [List.set_set] at h2;refine ⟨aZ (by omega) (aZ (by omega) h.co),h2,fun j=>by rw [World.frozen?_setCell,World.frozen?_setCell];exact h.cf j,?_,h.lo,by simpa using h.ln⟩;exact (h.bel.setCell (p:=⟨gq,_,none⟩) l1 _).setCell (p:=⟨gq,_,none⟩) l1 _

def FH (l:List Ct) (w:World) (e:Ending) (w':World):Prop:=∃ A n c,e = .returned (.slice A n c)∧dN iC w' A n c l∧Below w.heap.size w w'
theorem Cy.sl {gO gq n cap:Nat} {L:List Ct} {w:World} (h:Cy w0 gO gq n cap L w) (h1:n≤cap) (h2:cap≤maxLen):dN iC w (some ⟨gq,0,none⟩) n cap L:=⟨h.ln.symm,h1,h2,fun _=>⟨gq,0,rfl,h.cl⟩⟩
def Q5 (C:List Ct) (k:Nat):Bool:=if k=0 then true else match C[k-1]?,C[k]? with
 | some x,some y=>decide (SK x y<0)
 | _,_=>true
def Eo (C:List Ct) (n:Nat):Bool:=(List.range n).all (Q5 C)
def jM (gx gy st:Int):Prop:=(if gy<gx then gy else gx) < -16777216∨(if gy > gx then gy else gx) > 16777216∨st<1∨st > 65536
instance (gx gy st:Int):Decidable (jM gx gy st):=by unfold jM;infer_instance
def jg (L:List BE) (J:List Jt) (C:List Ct) (gx gy st:Int):Int :=
 if bI L C≠0 then bI L C else if dK L J≠0 then dK L J else if Eo C C.length=false then 9 else if jM gx gy st then 1 else 0
theorem wG {L:List BE} {J:List Jt} {C:List Ct} {gx gy st:Int} (h:jg L J C gx gy st=0):bI L C=0∧dK L J=0∧Eo C C.length=true∧¬ jM gx gy st:=by
 unfold jg at h
 by_cases h1:bI L C=0
 ·rw [if_neg (by simpa using h1)] at h
  by_cases h2:dK L J=0
  ·rw [if_neg (by simpa using h2)] at h
   cases h3:Eo C C.length with
   | false=>rw [if_pos h3] at h;omega
   | true =>
    rw [if_neg (by rw [h3];simp)] at h
    by_cases h4:jM gx gy st
    ·rw [if_pos h4] at h;omega
    ·exact ⟨h1,h2,rfl,h4⟩
  ·rw [if_pos h2] at h;exact absurd h h2
 ·rw [if_pos h1] at h;exact absurd h h1
theorem C8 {L:List BE} {J:List Jt} {C:List Ct} {gx gy st:Int} {n:Nat} (hn:n=L.length) (h:jg L J C gx gy st=0):(∀ x ∈ J,0≤x.a∧x.a<(n:Int)∧0≤x.b∧x.b<(n:Int))∧(∀ x ∈ C,0≤x.a∧x.a<(n:Int)∧0≤x.b∧x.b<(n:Int)):=by
 obtain ⟨h1,h2,-,-⟩:=wG h;subst hn;refine ⟨fun x hx=>?_,fun x hx=>?_⟩
 ·have := Di ((ni h2).2.2 x hx);omega
 ·have := (kS h1).2.2 x hx;unfold Gp at this;omega

theorem yA (A:Option Addr) (n c:Nat) (l:List Jt) (w:World) (hS:dN kF w A n c l) (hl:l.length≤100000):Calls Tryz.prog 42 #[.slice A n c] w fun e w'=>∃ s,e = .returned s∧aN kF 37 w' w.heap.size s l∧Below w.heap.size w w':=by
 have hcmp:∀ w':World,(binOp .eql 30 (.slice A n c) (.slice none 0 0)).run Tryz.prog w' = .ok (.bool A.isNone) w':=fun w'=>Lib.run_eql_slice_nil w' 30 _ A n c 0 0 Tryz.underlying30
 cases A with
 | none =>
  have hl0:l=[]:=by
   rcases l with _ | ⟨a,r⟩
   ·rfl
   ·obtain ⟨b,off,h,_⟩:=hS.at_ (by simp);cases h
  subst hl0;clear hS
  go_enter Tryz.func42,Tryz.ntmps42
  go_wp2;refine bodyPost_ret (v:=.slice none 0 0) (by simp [results,Tryz.results42,go_sem]) rfl ⟨_,rfl,aN.nil _ _ _ _,Below.refl _ _⟩
 | some ad =>
  have hn:=hS.len;have HS:=hid hS;clear hS;subst hn;have HO:Hid (aN kF 37 (w.alloc (.cells #[] 37)) w.heap.size (.slice (some ⟨w.heap.size,0,none⟩) 0 0) []):=⟨by simp [eY],.inr ⟨w.heap.size,0,#[],rfl,Nat.le_refl _,heap_alloc_new w _,Nat.le_refl _,Nat.zero_le _,by simp,by simp [eY]⟩⟩;have hb0:Below w.heap.size w (w.alloc (.cells #[] 37)):=by go_grown
  go_enter Tryz.func42,Tryz.ntmps42
  go_wp2_with (at_builtin;refine jY Iy rfl _ _ rfl w.heap.size _ [] rfl HO.out _ _ _ l rfl (HS.out.below hb0) (by first | omega | (simp;omega)) (by first | omega | (simp;omega)) (by simp) ?_;intro v' w1 ho1 hg1 hat;have HO1:=hid ho1;have hb1:=hid (hb0.grown hg1 (by simp) (fun k hk=>(HO.out.lt hk).1));clear ho1 hg1 hat)
  obtain ⟨A',n',c',rfl,-,-⟩:=HO1.out.sl;refine bodyPost_ret (v:=.slice A' n' c') (by simp [results,Tryz.results42,go_sem]) rfl ⟨_,rfl,by simpa using HO1.out,hb1.out⟩
end
end Go.Proofs.YtokgmcomgflloaaGreat
