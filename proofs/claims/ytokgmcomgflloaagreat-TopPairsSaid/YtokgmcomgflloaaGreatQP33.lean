/- Parts of a proof: contracts and laws. -/
import Derived.Test.YtokgmcomgflloaaGreatQP32
set_option maxRecDepth 100000
set_option maxHeartbeats 16000000
namespace Go.Proofs.YtokgmcomgflloaaGreat
section
set_option linter.unusedVariables false
set_option linter.unusedSimpArgs false
open Go.RowKit

def cr (p q:V):Int:=p.1*q.2-p.2*q.1
def dup (p:V):Prop:=0<p.2∨(p.2=0∧0<p.1)
def vC (p:V):Prop:=p.2<0∨(p.2=0∧p.1<0)
def lQ (p:V):V:=(-p.1,-p.2)
def bC (p q:V):V:=(p.1-q.1,p.2-q.2)
def eB (p q:V):V:=(p.1+q.1,p.2+q.2)
theorem gG (p q:V):cr q p = -cr p q:=by unfold cr;grind
theorem OJ (p:V):cr p p=0:=by unfold cr;grind
theorem jd (p q:V):cr (lQ p) q = -cr p q:=by unfold cr lQ;grind
theorem nC (p q:V):cr p (lQ q) = -cr p q:=by unfold cr lQ;grind
theorem Qi (p q r:V):cr p (eB q r)=cr p q+cr p r:=by unfold cr eB;grind
theorem Ir (p q r:V):cr (eB p q) r=cr p r+cr q r:=by unfold cr eB;grind
theorem rF {p:V} (h:vC p):dup (lQ p):=by unfold dup vC lQ at *;dsimp only;omega
theorem sw {p:V} (h:dup p):vC (lQ p):=by unfold dup vC lQ at *;dsimp only;omega
theorem LQ (p:V):lQ (lQ p)=p:=by unfold lQ;simp
theorem fE {p:V} (h:dup p) (k:vC p):False:=by unfold dup vC at *;omega
theorem Kq {p:V} (h:p.1≠0∨p.2≠0):dup p∨vC p:=by unfold dup vC;omega
theorem P7 {p q:V} (h:cr p q≠0):(p.1≠0∨p.2≠0)∧(q.1≠0∨q.2≠0):=by
 unfold cr at h
 constructor
 ·rcases Decidable.em (p.1 = 0 ∧ p.2 = 0) with ⟨a, b⟩ | g
  ·rw [a,b] at h;simp at h
  ·omega
 ·rcases Decidable.em (q.1 = 0 ∧ q.2 = 0) with ⟨a, b⟩ | g
  ·rw [a,b] at h;simp at h
  ·omega
theorem uN {a b:Int} (hb:0<b) (h:0<a*b):0<a:=by
 rcases Int.lt_or_le 0 a with g | g
 ·exact g
 ·have := Int.mul_nonneg (show 0 ≤ -a by omega) (show 0 ≤ b by omega);rw [Int.neg_mul] at this;omega
theorem oW {a b:Int} (hb:0<b) (h:0≤a*b):0≤a:=by
 rcases Int.lt_or_le a 0 with g | g
 ·have := Int.mul_pos (show 0 < -a by omega) hb;rw [Int.neg_mul] at this;omega
 ·exact g

theorem sG {e f g:V} (he:dup e) (hf:dup f) (hg:dup g) (h1:0≤cr e f) (h2:0≤cr f g):0≤cr e g∧((0<cr e f∨0<cr f g)→0<cr e g):=by
 have idy:cr e g*f.2=cr e f*g.2+cr f g*e.2:=by unfold cr;grind
 have idx:cr e g*f.1=cr e f*g.1+cr f g*e.1:=by unfold cr;grind
 have e0:0≤e.2:=by unfold dup at he;omega
 have g0:0≤g.2:=by unfold dup at hg;omega
 rcases hf with hf | ⟨hf0,hf1⟩
 ·have m1 := Int.mul_nonneg h1 g0;have m2:=Int.mul_nonneg h2 e0;refine ⟨oW hf (by omega),fun h=>uN hf ?_⟩
  have key:g.2=0→cr f g<0:=fun k=>by
   have g1:0<g.1:=by unfold dup at hg;omega
   have:=Int.mul_pos hf g1;unfold cr;rw [k];omega
  have gp:0<g.2:=by
   rcases Int.lt_or_le 0 g.2 with k | k
   ·exact k
   ·have:=key (by omega);omega
  rcases h with h | h
  ·have:=Int.mul_pos h gp;omega
  ·rcases Int.lt_or_le 0 e.2 with k | k
   ·have:=Int.mul_pos h k;omega
   ·have e2 : e.2 = 0 := by omega
    have e1:0<e.1:=by unfold dup at he;omega
    have:0<cr e f:=by have:=Int.mul_pos e1 hf;unfold cr;rw [e2];omega
    have:=Int.mul_pos this gp;omega
 ·have c1 : cr e f = -(e.2 * f.1) := by unfold cr; rw [hf0]; omega
  have e2:e.2=0:=by
   rcases Int.lt_or_le 0 e.2 with k | k
   ·have:=Int.mul_pos k hf1;omega
   ·omega
  have e1:0<e.1:=by unfold dup at he;omega
  have c2:cr e g=e.1*g.2:=by unfold cr;rw [e2];omega
  have c3:cr f g=f.1*g.2:=by unfold cr;rw [hf0];omega
  refine ⟨by rw [c2];exact Int.mul_nonneg (by omega) g0,fun h=>?_⟩;rw [e2] at c1;simp at c1
  rcases h with h | h
  ·omega
  ·rw [c2];rw [c3] at h;exact Int.mul_pos e1 (uN hf1 (by rw [Int.mul_comm];exact h))
theorem oz {e f g:V} (he:vC e) (hf:vC f) (hg:vC g) (h1:0≤cr e f) (h2:0≤cr f g):0≤cr e g∧((0<cr e f∨0<cr f g)→0<cr e g):=by
 have h:=sG (rF he) (rF hf) (rF hg) (by rw [jd,nC];omega) (by rw [jd,nC];omega);simp only [jd,nC,Int.neg_neg] at h;exact h

def dle (e f:V):Prop:=(dup e∧vC f)∨(dup e∧dup f∧0≤cr e f)∨(vC e∧vC f∧0≤cr e f)

structure JA (n : Nat) (E : Nat → V) : Prop where
 pos:2≤n
 per:∀ x,E (x+n)=E x
 turn:∀ x,0<cr (E x) (E (x+1))
 first:dup (E 0)
 last:vC (E (n-1))
 mono:∀ x,x+1<n→dup (E (x+1))→dup (E x)
theorem JA.or {n:Nat} {E:Nat→V} (h:JA n E) (x:Nat):dup (E x)∨vC (E x):=Kq (P7 (show cr (E x) (E (x+1))≠0 by have:=h.turn x;omega)).1
theorem JA.next {n:Nat} {E:Nat→V} (h:JA n E) {x:Nat} (hx:x+1<n):dle (E x) (E (x+1)):=by
 have t:=h.turn x
 rcases h.or (x+1) with g | g
 ·exact .inr (.inl ⟨h.mono x hx g,g,by omega⟩)
 ·rcases h.or x with k | k
  ·exact .inl ⟨k,g⟩
  ·exact .inr (.inr ⟨k,g,by omega⟩)
theorem kL {e f g:V} (h1:dle e f) (h2:dle f g):dle e g:=by
 rcases h1 with ⟨a,b⟩ | ⟨a,b,c⟩ | ⟨a,b,c⟩
 ·rcases h2 with ⟨p, q⟩ | ⟨p, q, r⟩ | ⟨p, q, r⟩
  ·exact absurd b (fun h=>fE p h)
  ·exact absurd b (fun h=>fE p h)
  ·exact .inl ⟨a,q⟩
 ·rcases h2 with ⟨p, q⟩ | ⟨p, q, r⟩ | ⟨p, q, r⟩
  ·exact .inl ⟨a,q⟩
  ·exact .inr (.inl ⟨a,q,(sG a b q c r).1⟩)
  ·exact absurd p (fun h=>fE b h)
 ·rcases h2 with ⟨p, q⟩ | ⟨p, q, r⟩ | ⟨p, q, r⟩
  ·exact absurd b (fun h=>fE p h)
  ·exact absurd b (fun h=>fE p h)
  ·exact .inr (.inr ⟨a,q,(oz a b q c r).1⟩)

theorem Lp {e g f:V} (he:dup e) (hf:vC f) (hg:dle g e) (ht:0<cr g f):0<cr e f:=by
 have gu:dup g:=by
  rcases hg with ⟨a,_⟩ | ⟨a,_,_⟩ | ⟨_,b,_⟩
  ·exact a
  ·exact a
  ·exact absurd b (fun h=>fE he h)
 have gc:0≤cr g e:=by
  rcases hg with ⟨_,b⟩ | ⟨_,_,c⟩ | ⟨_,b,_⟩
  ·exact absurd b (fun h=>fE he h)
  ·exact c
  ·exact absurd b (fun h=>fE he h)
 have h1:cr (lQ f) g=cr g f:=by rw [jd,gG];omega
 have h:=(sG (rF hf) gu he (by rw [h1];omega) gc).2 (.inl (by rw [h1];exact ht));rw [jd,gG e f] at h;omega

theorem nV {n m:Nat} {E F:Nat→V} (hE:JA n E) (hF:JA m F) {x y:Nat} (hx:x<n) (hy:y<m) (J1:1≤y→dle (F (y-1)) (E x)) (J2:1≤x→dle (E (x-1)) (F y)) :
  (0≤cr (E x) (F y)→dle (E x) (F y))∧(cr (E x) (F y)≤0→dle (F y) (E x)):=by
 have s:=gG (E x) (F y)
 rcases hE.or x with a | a
 ·rcases hF.or y with b | b
  ·exact ⟨fun h=>.inr (.inl ⟨a,b,h⟩),fun h=>.inr (.inl ⟨b,a,by omega⟩)⟩
  ·have y1:1≤y:=by
    rcases Nat.eq_zero_or_pos y with h | h
    ·subst h;exact absurd b (fun h=>fE hF.first h)
    ·exact h
   have t:=hF.turn (y-1);rw [show y-1+1=y by omega] at t;have:=Lp a b (J1 y1) t;exact ⟨fun _=>.inl ⟨a,b⟩,fun h=>by omega⟩
 ·rcases hF.or y with b | b
  ·have x1:1≤x:=by
    rcases Nat.eq_zero_or_pos x with h | h
    ·subst h;exact absurd a (fun h=>fE hE.first h)
    ·exact h
   have t:=hE.turn (x-1);rw [show x-1+1=x by omega] at t;have:=Lp b a (J2 x1) t;exact ⟨fun h=>by omega,fun _=>.inl ⟨b,a⟩⟩
  ·exact ⟨fun h=>.inr (.inr ⟨a,b,h⟩),fun h=>.inr (.inr ⟨b,a,by omega⟩)⟩

theorem jN {n m:Nat} {E F:Nat→V} (hE:JA n E) (hF:JA m F) {x y:Nat} (hx:x<n) (hy:y≤m) (J1:1≤y→dle (F (y-1)) (E x)) (hc:y<m→dle (E x) (F y)) :
  0≤cr (F (y+m-1)) (E x)∧0≤cr (E x) (F y):=by
 have hp:=hF.pos;have tc:=hF.turn (m-1);have p0:=hF.per 0;rw [Nat.zero_add] at p0;rw [show m-1+1=m by omega,p0] at tc
 rcases Nat.lt_or_ge y m with hym | hym
 ·have hle := hc hym
  have c2:0≤cr (E x) (F y):=by
   rcases hle with ⟨a,b⟩ | ⟨_,_,c⟩ | ⟨_,_,c⟩
   ·have y1:1≤y:=by
     rcases Nat.eq_zero_or_pos y with h | h
     ·subst h;exact absurd b (fun h=>fE hF.first h)
     ·exact h
    have t:=hF.turn (y-1);rw [show y-1+1=y by omega] at t;exact Int.le_of_lt (Lp a b (J1 y1) t)
   ·exact c
   ·exact c
  refine ⟨?_,c2⟩
  rcases Nat.eq_zero_or_pos y with h | h
  ·subst h;rw [show 0+m-1=m-1 by omega]
   have eu:dup (E x):=by
    rcases hle with ⟨a,_⟩ | ⟨a,_,_⟩ | ⟨_,b,_⟩
    ·exact a
    ·exact a
    ·exact absurd b (fun h=>fE hF.first h)
   have k1:cr (F 0) (lQ (F (m-1)))=cr (F (m-1)) (F 0):=by rw [nC,gG];omega
   have k:=(sG eu hF.first (rF hF.last) c2 (by rw [k1];omega)).1;rw [nC,gG (F (m-1)) (E x)] at k;omega
  ·rw [show y + m - 1 = (y - 1) + m by omega, hF.per];have t:=hF.turn (y-1);rw [show y-1+1=y by omega] at t
   rcases J1 h with ⟨a,b⟩ | ⟨_,_,c⟩ | ⟨_,_,c⟩
   ·have fd:vC (F y):=by
     rcases hle with ⟨_,q⟩ | ⟨p,_,_⟩ | ⟨_,q,_⟩
     ·exact q
     ·exact absurd b (fun h=>fE p h)
     ·exact q
    have k1:cr (F y) (lQ (F (y-1)))=cr (F (y-1)) (F y):=by rw [nC,gG];omega
    have k:=(oz b fd (sw a) c2 (by rw [k1];omega)).1;rw [nC,gG (F (y-1)) (E x)] at k;omega
   ·exact c
   ·exact c
 ·have hye : y = m := by omega
  subst hye;rw [show y+y-1=(y-1)+y by omega,hF.per,p0]
  have ed:vC (E x)∧0≤cr (F (y-1)) (E x):=by
   rcases J1 (by omega) with ⟨a,_⟩ | ⟨a,_,_⟩ | ⟨_,b,c⟩
   ·exact absurd hF.last (fun h=>fE a h)
   ·exact absurd hF.last (fun h=>fE a h)
   ·exact ⟨b,c⟩
  refine ⟨ed.2,?_⟩;have k1:cr (lQ (F 0)) (F (y-1))=cr (F (y-1)) (F 0):=by rw [jd,gG];omega
  have k:=(oz (sw hF.first) hF.last ed.1 (by rw [k1];omega) ed.2).1;rw [jd,gG (E x) (F 0)] at k;omega

theorem JV {g f e v:V} (ht:0<cr g f) (h1:0≤cr g v) (h2:0≤cr f v) (h3:0≤cr g e) (h4:0≤cr e f):0≤cr e v:=by
 have id:cr e v*cr g f=cr g v*cr e f+cr f v*cr g e:=by unfold cr;grind
 have m1:=Int.mul_nonneg h1 h4;have m2:=Int.mul_nonneg h2 h3;exact oW ht (by omega)

structure Gj (n : Nat) (A E : Nat → V) : Prop where
 cyc:JA n E
 edge:∀ x,A (x+1)=eB (A x) (E x)
 per:∀ x,A (x+n)=A x
 left:∀ x j,0≤cr (E x) (bC (A j) (A x))
theorem Gj.left' {n:Nat} {A E:Nat→V} (h:Gj n A E) (x j:Nat):0≤cr (E (x+n-1)) (bC (A j) (A x)):=by
 have hp:=h.cyc.pos;have e:=h.edge (x+n-1);rw [show x+n-1+1=x+n by omega,h.per] at e;have:=h.left (x+n-1) j;rw [e];have id:cr (E (x+n-1)) (bC (A j) (eB (A (x+n-1)) (E (x+n-1))))=cr (E (x+n-1)) (bC (A j) (A (x+n-1))):=by unfold cr bC eB;grind
 rw [id];exact this

theorem Gj.cone {n:Nat} {A E:Nat→V} (h:Gj n A E) {x:Nat} {e:V} (h1:0≤cr (E (x+n-1)) e) (h2:0≤cr e (E x)) (j:Nat):0≤cr e (bC (A j) (A x)):=by
 have hp:=h.cyc.pos;have t:=h.cyc.turn (x+n-1);rw [show x+n-1+1=x+n by omega,h.cyc.per] at t;exact JV t (h.left' x j) (h.left x j) h1 h2

structure J6 (n m : Nat) (E F : Nat → V) (x y : Nat) : Prop where
 hx:x≤n
 hy:y≤m
 j1:1≤y→x<n→dle (F (y-1)) (E x)
 j2:1≤x→y<m→dle (E (x-1)) (F y)
def tq (n m:Nat) (E F:Nat→V) (x y:Nat):Bool:=y == m || (decide (x<n) && decide (0≤cr (E x) (F y)))
def tV (n m:Nat) (E F:Nat→V) (x y:Nat):Bool:=x == n || (decide (y<m) && decide (cr (E x) (F y)≤0))

theorem vQ {n m:Nat} {A C E F:Nat→V} (hA:Gj n A E) (hC:Gj m C F) {x y:Nat} (h:J6 n m E F x y) (hlt:x<n∨y<m) :
  ∃ x' y',x'=(if tq n m E F x y=true then x+1 else x)∧y'=(if tV n m E F x y=true then y+1 else y)∧J6 n m E F x' y'∧x+y<x'+y'∧x'≤x+1∧y'≤y+1 ∧
  ∀ j k,0≤cr (bC (eB (A x') (C y')) (eB (A x) (C y))) (bC (eB (A j) (C k)) (eB (A x) (C y))):=by
 obtain ⟨hx,hy,j1,j2⟩:=h;have split:∀ (e:V) (j k:Nat),cr e (bC (eB (A j) (C k)) (eB (A x) (C y)))=cr e (bC (A j) (A x))+cr e (bC (C k) (C y)):=by intro e j k;unfold cr bC eB;grind
 have stepE:bC (eB (A (x+1)) (C y)) (eB (A x) (C y))=E x:=by rw [hA.edge];unfold bC eB;ext <;> simp <;> omega
 have stepF:bC (eB (A x) (C (y+1))) (eB (A x) (C y))=F y:=by rw [hC.edge];unfold bC eB;ext <;> simp <;> omega
 have stepB:bC (eB (A (x+1)) (C (y+1))) (eB (A x) (C y))=eB (E x) (F y):=by rw [hA.edge,hC.edge];unfold bC eB;ext <;> simp <;> omega
 have takeE:x<n→(y<m→dle (E x) (F y))→∀ j k,0≤cr (E x) (bC (eB (A j) (C k)) (eB (A x) (C y))):=by
  intro h1 h2 j k;obtain ⟨b1,b2⟩:=jN hA.cyc hC.cyc h1 hy (fun g=>j1 g h1) h2;have:=hA.left x j;have:=hC.cone b1 b2 k;rw [split];omega
 have takeF:y<m→(x<n→dle (F y) (E x))→∀ j k,0≤cr (F y) (bC (eB (A j) (C k)) (eB (A x) (C y))):=by
  intro h1 h2 j k;obtain ⟨b1,b2⟩:=jN hC.cyc hA.cyc h1 hx (fun g=>j2 g h1) h2;have:=hC.left y k;have:=hA.cone b1 b2 j;rw [split];omega
 rcases Nat.lt_or_ge x n with hxn | hxn
 ·rcases Nat.lt_or_ge y m with hym | hym
  ·obtain ⟨o1, o2⟩ := nV hA.cyc hC.cyc hxn hym (fun g => j1 g hxn) (fun g => j2 g hym)
   have e1:tq n m E F x y=decide (0≤cr (E x) (F y)):=by
    unfold tq;rw [show (y == m)=false by simp;omega];simp [hxn]
   have e2:tV n m E F x y=decide (cr (E x) (F y)≤0):=by
    unfold tV;rw [show (x == n)=false by simp;omega];simp [hym]
   rw [e1,e2]
   rcases Int.lt_trichotomy (cr (E x) (F y)) 0 with hs | hs | hs
   ·refine ⟨x, y + 1, by simp; omega, by simp; omega, ⟨hx, by omega, fun _ _ => o2 (by omega), fun g1 g2 => ?_⟩, by omega, by omega, by omega, ?_⟩
    ·exact kL (j2 g1 hym) (hC.cyc.next g2)
    ·rw [stepF];exact takeF hym (fun _=>o2 (by omega))
   ·refine ⟨x + 1, y + 1, by simp; omega, by simp; omega, ⟨by omega, by omega, fun _ g2 => ?_, fun _ g2 => ?_⟩, by omega, by omega, by omega, ?_⟩
    ·exact kL (o2 (by omega)) (hA.cyc.next g2)
    ·exact kL (o1 (by omega)) (hC.cyc.next g2)
    ·rw [stepB];intro j k;rw [Ir];have:=takeE hxn (fun _=>o1 (by omega)) j k;have:=takeF hym (fun _=>o2 (by omega)) j k;omega
   ·refine ⟨x + 1, y, by simp; omega, by simp; omega, ⟨by omega, hy, fun g1 g2 => ?_, fun _ _ => o1 (by omega)⟩, by omega, by omega, by omega, ?_⟩
    ·exact kL (j1 g1 hxn) (hA.cyc.next g2)
    ·rw [stepE];exact takeE hxn (fun _=>o1 (by omega))
  ·have hye : y = m := by omega
   have e1:tq n m E F x y=true:=by unfold tq;simp [hye]
   have e2:tV n m E F x y=false:=by
    unfold tV;rw [show (x == n)=false by simp;omega];simp;omega
   rw [e1,e2];refine ⟨x+1,y,by simp,by simp,⟨by omega,hy,fun g1 g2=>?_,fun _ g2=>by omega⟩,by omega,by omega,by omega,?_⟩
   ·exact kL (j1 g1 hxn) (hA.cyc.next g2)
   ·rw [stepE];exact takeE hxn (fun g=>by omega)
 ·have hxe : x = n := by omega
  have hym:y<m:=by omega
  have e1:tq n m E F x y=false:=by
   unfold tq;rw [show (y == m)=false by simp;omega];simp;omega
  have e2:tV n m E F x y=true:=by unfold tV;simp [hxe]
  rw [e1,e2];refine ⟨x,y+1,by simp,by simp,⟨hx,by omega,fun _ g2=>by omega,fun g1 g2=>?_⟩,by omega,by omega,by omega,?_⟩
  ·exact kL (j2 g1 hym) (hC.cyc.next g2)
  ·rw [stepF];exact takeF hym (fun g=>by omega)

def kV (n m : Nat) (A C E F : Nat → V) : Nat → Nat → Nat → List V
 | 0,_,_=>[]
 | f+1,x,y=>if x<n∨y<m then eB (A x) (C y) :: kV n m A C E F f (if tq n m E F x y=true then x+1 else x) (if tV n m E F x y=true then y+1 else y) else []

def Nu (P : V → Prop) (z : V) : List V → Prop
 | []=>True
 | c :: r=>(∀ p,P p→0≤cr (bC (r.headD z) c) (bC p c))∧Nu P z r
theorem zO {n m:Nat} {A C E F:Nat→V} (hA:Gj n A E) (hC:Gj m C F) {f x y:Nat} (h:J6 n m E F x y) (hf:n+m≤f+x+y):(kV n m A C E F f x y).headD (eB (A 0) (C 0))=eB (A x) (C y):=by
 have hx:=h.hx;have hy:=h.hy;have zA:A n=A 0:=by have:=hA.per 0;rwa [Nat.zero_add] at this
 have zC:C m=C 0:=by have:=hC.per 0;rwa [Nat.zero_add] at this
 cases f with
 | zero=>rw [show x=n by omega,show y=m by omega,zA,zC];rfl
 | succ f =>
  rw [kV]
  split
  ·rfl
  ·rw [show x=n by omega,show y=m by omega,zA,zC];rfl
theorem I5 {n m : Nat} {A C E F : Nat → V} (hA : Gj n A E) (hC : Gj m C F) : ∀ (f x y : Nat), J6 n m E F x y → n + m ≤ f + x + y →
  Nu (fun p=>∃ j k,p=eB (A j) (C k)) (eB (A 0) (C 0)) (kV n m A C E F f x y)∧(kV n m A C E F f x y).length+(x+y)≤n+m∧n≤(kV n m A C E F f x y).length+x∧m≤(kV n m A C E F f x y).length+y:=by
 intro f
 induction f with
 | zero =>
  intro x y h hf;have hx:=h.hx;have hy:=h.hy;exact ⟨trivial,by simp [kV];omega,by simp [kV];omega,by simp [kV];omega⟩
 | succ f ih =>
  intro x y h hf;have hx:=h.hx;have hy:=h.hy;rw [kV]
  split
  ·rename_i hlt;obtain ⟨x',y',ex,ey,h',l1,l2,l3,hg⟩:=vQ hA hC h hlt;rw [← ex,← ey];obtain ⟨g1,g2,g3,g4⟩:=ih x' y' h' (by omega);refine ⟨⟨?_,g1⟩,by rw [List.length_cons];omega,by rw [List.length_cons];omega,by rw [List.length_cons];omega⟩;rintro p ⟨j,k,rfl⟩;rw [zO hA hC h' (by omega)];exact hg j k
  ·exact ⟨trivial,by simp;omega,by simp;omega,by simp;omega⟩
theorem DY {P : V → Prop} {z : V} : ∀ {l : List V}, Nu P z l → ∀ i, i < l.length → ∀ p, P p → 0 ≤ cr (bC (if i + 1 < l.length then (px l (i + 1), py l (i + 1)) else z) (px l i, py l i)) (bC p (px l i, py l i))
 | [],_,i,hi=>by simp at hi
 | c :: r,h,i,hi=>by
  intro p hp
  cases i with
  | zero =>
   have:=h.1 p hp
   cases r with
   | nil=>simpa [px,py] using this
   | cons d r=>simpa [px,py] using this
  | succ i =>
   have:=DY h.2 i (by simpa using hi) p hp
   simpa [px,py] using this
theorem LU {L:List V} {z:V} (h:L≠[]):L.headD z=(px L 0,py L 0):=by
 cases L with
 | nil=>exact absurd rfl h
 | cons p r=>rfl

def eG (l:List V) (i x:Nat):V:=(px l ((i+x) % l.length),py l ((i+x) % l.length))
def fG (l:List V) (i x:Nat):V:=(mM l i x,nG l i x)
theorem JD (l:List V):∀ k,∀ j,j<k→¬ yx l j (j5 l k):=by
 intro k
 induction k with
 | zero=>intro j hj;omega
 | succ k ih =>
  intro j hj;rw [j5]
  split
  ·rename_i h
   rcases Nat.lt_or_ge j k with g | g
   ·have := ih j g;unfold yx at *
    omega
   ·have : j = k := by omega
    subst this;unfold yx;omega
  ·rename_i h
   rcases Nat.lt_or_ge j k with g | g
   ·exact ih j g
   ·have : j = k := by omega
    subst this;exact h
theorem ML {l:List V} {j:Nat} (hj:j<l.length):¬ yx l j (fC l):=JD l l.length j hj
theorem wE {l:List V} (h:aP l=0) (i x j:Nat):0≤cr (fG l i x) (bC (eG l i j) (eG l i x))∧((i+j) % l.length≠(i+x) % l.length→(i+j) % l.length≠(i+x+1) % l.length→0<cr (fG l i x) (bC (eG l i j) (eG l i x))):=by
 obtain ⟨h8,h3,_,hr⟩:=aU h;have hs:=hr ((i+x) % l.length) (Nat.mod_lt _ (by omega)) ((i+j) % l.length) (Nat.mod_lt _ (by omega));have hm:((i+x) % l.length+1) % l.length=(i+x+1) % l.length:=by rw [Nat.mod_add_mod]
 have e:cr (fG l i x) (bC (eG l i j) (eG l i x))=dH l ((i+x) % l.length) ((i+x+1) % l.length) ((i+j) % l.length):=by
  unfold cr fG eG bC dH fQ mM nG;rfl
 unfold fP at hs;rw [hm,← e] at hs;rw [decide_eq_false_iff_not] at hs
 have z1:(i+j) % l.length=(i+x) % l.length→cr (fG l i x) (bC (eG l i j) (eG l i x))=0:=fun g=>by
  unfold eG bC cr;rw [g];simp
 have z2:(i+j) % l.length=(i+x+1) % l.length→cr (fG l i x) (bC (eG l i j) (eG l i x))=0:=fun g=>by
  unfold eG bC cr fG mM nG;rw [g];grind
 refine ⟨?_,fun g1 g2=>by omega⟩
 rcases Decidable.em ((i+j) % l.length=(i+x) % l.length) with g | g
 ·rw [z1 g];omega
 ·rcases Decidable.em ((i + j) % l.length = (i + x + 1) % l.length) with k | k
  ·rw [z2 k];omega
  ·omega
theorem Lr {l:List V} (h3:0<l.length) (j:Nat):(bC (eG l (fC l) j) (eG l (fC l) 0)).1=0∧(bC (eG l (fC l) j) (eG l (fC l) 0)).2=0∨dup (bC (eG l (fC l) j) (eG l (fC l) 0)):=by
 have hl:fC l<l.length:=jW l l.length h3 (Nat.le_refl _);have:=ML (l:=l) (j:=(fC l+j) % l.length) (Nat.mod_lt _ h3);unfold eG bC dup;rw [Nat.add_zero,Nat.mod_eq_of_lt hl];unfold yx at this;dsimp only;omega
theorem sU {l:List V} (h:aP l=0):Gj l.length (eG l (fC l)) (fG l (fC l)):=by
 obtain ⟨h8,h3,_,_⟩:=aU h;obtain ⟨i,hi⟩:∃ i,i=fC l:=⟨_,rfl⟩;have low:=Lr (l:=l) (by omega);rw [← hi] at low ⊢;have perA:∀ x,eG l i (x+l.length)=eG l i x:=fun x=>by unfold eG;rw [← Nat.add_assoc,Nat.add_mod_right]
 have perE:∀ x,fG l i (x+l.length)=fG l i x:=fun x=>by
  unfold fG mM nG;rw [show i+(x+l.length)+1=i+x+1+l.length by omega,show i+(x+l.length)=i+x+l.length by omega,Nat.add_mod_right,Nat.add_mod_right]
 have edge:∀ x,eG l i (x+1)=eB (eG l i x) (fG l i x):=fun x=>by
  unfold eG fG mM nG eB;rw [← Nat.add_assoc]
  ext <;> simp <;> omega
 have left:∀ x j,0≤cr (fG l i x) (bC (eG l i j) (eG l i x)):=fun x j=>(wE h i x j).1
 have turn:∀ x,0<cr (fG l i x) (fG l i (x+1)):=fun x=>by
  have hs:=(wE h i x (x+2)).2
  have a1:(i+(x+2)) % l.length≠(i+x) % l.length:=fun g=>by
   have:=Nat.sub_mod_eq_zero_of_mod_eq g;rw [show i+(x+2)-(i+x)=2 by omega,Nat.mod_eq_of_lt (by omega)] at this;omega
  have a2:(i+(x+2)) % l.length≠(i+x+1) % l.length:=fun g=>by
   have:=Nat.sub_mod_eq_zero_of_mod_eq g;rw [show i+(x+2)-(i+x+1)=1 by omega,Nat.mod_eq_of_lt (by omega)] at this;omega
  have:=hs a1 a2;rw [show x+2=x+1+1 from rfl,edge (x+1),edge x] at this;have id:cr (fG l i x) (bC (eB (eB (eG l i x) (fG l i x)) (fG l i (x+1))) (eG l i x))=cr (fG l i x) (fG l i (x+1)):=by unfold cr bC eB;grind
  rwa [id] at this
 have nz:∀ x,(fG l i x).1≠0∨(fG l i x).2≠0:=fun x=>(P7 (show cr (fG l i x) (fG l i (x+1))≠0 by have:=turn x;omega)).1
 have first:dup (fG l i 0):=by
  have e:=edge 0;rw [Nat.zero_add] at e;have:=low 1;rw [e] at this;have id:bC (eB (eG l i 0) (fG l i 0)) (eG l i 0)=fG l i 0:=by unfold bC eB;ext <;> simp <;> omega
  rw [id] at this;have nz0:=nz 0
  rcases this with ⟨a,b⟩ | g
  ·omega
  ·exact g
 have last:vC (fG l i (l.length-1)):=by
  have e:=edge (l.length-1);have p:=perA 0;rw [Nat.zero_add] at p;rw [show l.length-1+1=l.length by omega,p] at e;have lo:=low (l.length-1);rw [e] at lo;have id:bC (eG l i (l.length-1)) (eB (eG l i (l.length-1)) (fG l i (l.length-1)))=lQ (fG l i (l.length-1)):=by unfold bC eB lQ;ext <;> simp <;> omega
  rw [id] at lo;have:=nz (l.length-1)
  rcases lo with ⟨a,b⟩ | lo
  ·unfold lQ at a b;dsimp only at a b;omega
  ·have:=sw lo;rwa [LQ] at this
 have mono:∀ x,x+1<l.length→dup (fG l i (x+1))→dup (fG l i x):=fun x hx hu=>by
  rcases Kq (nz x) with g | g
  ·exact g
  ·exfalso
   -- the corner between is lowest,too
   have e:=edge x;have h1:=left x 0;have h2:=left (x+1) 0;have t:=turn x;have lo:=low (x+1);obtain ⟨G,hG⟩:∃ G,G=fG l i x:=⟨_,rfl⟩;obtain ⟨F,hF⟩:∃ F,F=fG l i (x+1):=⟨_,rfl⟩;obtain ⟨P,hP⟩:∃ P,P=eG l i x:=⟨_,rfl⟩;obtain ⟨O,hO⟩:∃ O,O=eG l i 0:=⟨_,rfl⟩;obtain ⟨Q,hQ⟩:∃ Q,Q=eG l i (x+1):=⟨_,rfl⟩
   have nQ:¬ ((bC Q O).1=0∧(bC Q O).2=0):=by
    rintro ⟨z1,z2⟩;rw [hQ,hO] at z1 z2;have s0:=(wE h i 0 (x+1)).2;have hi':i<l.length:=by rw [hi];exact jW l l.length (by omega) (Nat.le_refl _)
    have b1:(i+(x+1)) % l.length≠(i+0) % l.length:=fun g=>by
     have:=Nat.sub_mod_eq_zero_of_mod_eq g;rw [show i+(x+1)-(i+0)=x+1 by omega,Nat.mod_eq_of_lt (by omega)] at this;omega
    have zc:cr (fG l i 0) (bC (eG l i (x+1)) (eG l i 0))=0:=by unfold cr;rw [z1,z2];simp
    rcases Decidable.em ((i+(x+1)) % l.length=(i+0+1) % l.length) with k | k
    ·have : eG l i (x + 1) = eG l i (0 + 1) := by unfold eG; rw [k]
     rw [this,edge 0] at z1 z2;have:=nz 0;unfold bC eB at z1 z2;dsimp only at z1 z2;omega
    ·have := s0 b1 k;omega
   rw [← hG,← hP,← hO] at h1;rw [← hF,← hQ,← hO] at h2;rw [← hG,← hF] at t;rw [← hQ,← hO] at lo;rw [← hQ,← hP,← hG] at e;rw [← hF] at hu;rw [← hG] at g;have up:dup (bC Q O):=by rcases lo with k | k;exact absurd k nQ;exact k
   have h1':0≤cr G (bC O Q):=by
    have:cr G (bC O Q)=cr G (bC O P):=by rw [e];unfold cr bC eB;grind
    rw [this];exact h1
   -- D (O-Q)=a F-b G
   have d2:cr G F*(bC O Q).2=cr G (bC O Q)*F.2-cr F (bC O Q)*G.2:=by unfold cr;grind
   have d1:cr G F*(bC O Q).1=cr G (bC O Q)*F.1-cr F (bC O Q)*G.1:=by unfold cr;grind
   have o1:(bC O Q).1 = -(bC Q O).1:=by unfold bC;dsimp only;omega
   have o2:(bC O Q).2 = -(bC Q O).2:=by unfold bC;dsimp only;omega
   generalize bC O Q=R at *
   generalize bC Q O=T at *
   have F0:0≤F.2:=by unfold dup at hu;omega
   have G0:G.2≤0:=by unfold vC at g;omega
   have m1:=Int.mul_nonneg h1' F0;have m2:=Int.mul_nonneg h2 (show 0 ≤ -G.2 by omega);rw [Int.mul_neg] at m2;have R0:0≤R.2:=oW t (by rw [Int.mul_comm];omega);have R20:R.2=0:=by unfold dup at up;omega
   have R1:R.1<0:=by unfold dup at up;omega
   rw [R20] at d2;simp at d2
   have n1:cr G F*R.1<0:=by
    have:=Int.mul_pos t (show 0 < -R.1 by omega);rw [Int.mul_neg] at this;omega
   have z1:cr G R*F.2=0:=by omega
   have z2:cr F R*G.2=0:=by omega
   have k1:0≤cr G R*F.1:=by
    rcases Int.mul_eq_zero.1 z1 with k | k
    ·rw [k];simp
    ·exact Int.mul_nonneg h1' (by unfold dup at hu;omega)
   have k2:cr F R*G.1≤0:=by
    rcases Int.mul_eq_zero.1 z2 with k | k
    ·rw [k];simp
    ·have := Int.mul_nonneg h2 (show 0 ≤ -G.1 by unfold vC at g; omega);rw [Int.mul_neg] at this;omega
   omega
 exact ⟨⟨by omega,perE,turn,first,last,mono⟩,edge,perA,left⟩
theorem IB {l:List V} (i j k:Nat):dH (negL l) i j k=dH l i j k:=by
 unfold dH fQ;simp only [Fq,Fh];grind
theorem wQ {l:List V} (h:aP l=0):aP (negL l)=0:=by
 obtain ⟨h8,h3,hw,hr⟩:=aU h;refine oM (by rw [fD];exact h8) (by rw [fD];exact h3) (nW hw) ?_;rw [fD];intro i hi k hk;rw [fD] at hk;have:=hr i hi k hk;unfold fP at *
 rw [fD,IB];exact this
theorem G6 (a c:List V) (i k:Nat):∀ f x y,jD a c i k f x y=kV a.length c.length (eG a i) (eG c k) (fG a i) (fG c k) f x y:=by
 intro f
 induction f with
 | zero=>intro x y;rfl
 | succ f ih =>
  intro x y;rw [jD,kV]
  split
  ·rw [ih];rfl
  ·rfl

theorem ER {a b : List V} (ha : aP a = 0) (hb : aP b = 0) : 3 ≤ (bX a b).length ∧ (bX a b).length ≤ a.length + b.length ∧
  ∀ i, i < (bX a b).length → ∀ j k, j < a.length → k < b.length →
   0≤qO (px (bX a b) ((i+1) % (bX a b).length)-px (bX a b) i) (py (bX a b) ((i+1) % (bX a b).length)-py (bX a b) i) (px a j-px b k-px (bX a b) i) (py a j-py b k-py (bX a b) i):=by
 have hc:=wQ hb;obtain ⟨_,a3,_,_⟩:=aU ha;obtain ⟨_,c3,_,_⟩:=aU hc
 have e:bX a b=kV a.length (negL b).length (eG a (fC a)) (eG (negL b) (fC (negL b))) (fG a (fC a)) (fG (negL b) (fC (negL b))) (a.length+(negL b).length) 0 0:=by
  unfold bX;rw [if_pos (by unfold iY;rw [if_neg (by omega)];exact hb),G6]
 have hM:J6 a.length (negL b).length (fG a (fC a)) (fG (negL b) (fC (negL b))) 0 0:=⟨by omega,by omega,fun h=>by omega,fun h=>by omega⟩;obtain ⟨g1,g2,g3,g4⟩:=I5 (sU ha) (sU hc) (a.length+(negL b).length) 0 0 hM (by omega);have hh:=zO (sU ha) (sU hc) (f:=a.length+(negL b).length) hM (by omega);rw [← e] at g1 g2 g3 g4 hh;rw [fD] at g2 g4 c3;refine ⟨by omega,by omega,fun i hi j k hj hk=>?_⟩
 have:=DY g1 i hi (eB (px a j,py a j) (px (negL b) k,py (negL b) k)) (by
  refine ⟨j+(a.length-fC a),k+(b.length-fC (negL b)),?_⟩;have l1:=jW a a.length (by omega) (Nat.le_refl _);have l2:=jW (negL b) (negL b).length (by rw [fD];omega) (Nat.le_refl _);have l1':fC a<a.length:=l1;have l2':fC (negL b)<b.length:=by have:fC (negL b)<(negL b).length:=l2;rwa [fD] at this
  unfold eG
  rw [fD,show fC a+(j+(a.length-fC a))=j+a.length by omega,Nat.add_mod_right,Nat.mod_eq_of_lt hj,show fC (negL b)+(k+(b.length-fC (negL b)))=k+b.length by omega,Nat.add_mod_right,Nat.mod_eq_of_lt hk])
 have he:(if i+1<(bX a b).length then (px (bX a b) (i+1),py (bX a b) (i+1)) else eB (eG a (fC a) 0) (eG (negL b) (fC (negL b)) 0))=(px (bX a b) ((i+1) % (bX a b).length),py (bX a b) ((i+1) % (bX a b).length)):=by
  split
  ·rename_i h;rw [Nat.mod_eq_of_lt h]
  ·rw [show i + 1 = (bX a b).length by omega, Nat.mod_self, ← hh];exact LU (by intro g;rw [g] at hi;simp at hi)
 rw [he] at this;unfold cr bC eB at this;dsimp only at this;rw [Fq,Fh] at this;unfold qO;rw [show px a j-px b k=px a j + -px b k by omega,show py a j-py b k=py a j + -py b k by omega];exact this
end
end Go.Proofs.YtokgmcomgflloaaGreat
