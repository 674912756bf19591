/- Parts of a proof: contracts and laws. -/
import Derived.Test.YtodpincpofoiiaaGreatQM39
set_option maxRecDepth 100000
set_option maxHeartbeats 16000000
namespace Go.Proofs.YtodpincpofoiiaaGreat
section
set_option linter.unusedVariables false
set_option linter.unusedSimpArgs false
open Go.RowKit

def cr (p q:V):Int:=p.1*q.2-p.2*q.1
def dup (p:V):Prop:=0<p.2∨(p.2=0∧0<p.1)
def ddn (p:V):Prop:=p.2<0∨(p.2=0∧p.1<0)
def vneg (p:V):V:=(-p.1,-p.2)
def vsub (p q:V):V:=(p.1-q.1,p.2-q.2)
def vadd (p q:V):V:=(p.1+q.1,p.2+q.2)
theorem cr_swap (p q:V):cr q p = -cr p q:=by unfold cr;grind
theorem cr_self (p:V):cr p p=0:=by unfold cr;grind
theorem cr_negl (p q:V):cr (vneg p) q = -cr p q:=by unfold cr vneg;grind
theorem cr_negr (p q:V):cr p (vneg q) = -cr p q:=by unfold cr vneg;grind
theorem cr_add (p q r:V):cr p (vadd q r)=cr p q+cr p r:=by unfold cr vadd;grind
theorem cr_addl (p q r:V):cr (vadd p q) r=cr p r+cr q r:=by unfold cr vadd;grind
theorem dup_neg {p:V} (h:ddn p):dup (vneg p):=by unfold dup ddn vneg at *;dsimp only;omega
theorem ddn_neg {p:V} (h:dup p):ddn (vneg p):=by unfold dup ddn vneg at *;dsimp only;omega
theorem vneg_neg (p:V):vneg (vneg p)=p:=by unfold vneg;simp
theorem dup_ddn {p:V} (h:dup p) (k:ddn p):False:=by unfold dup ddn at *;omega
theorem dup_or {p:V} (h:p.1≠0∨p.2≠0):dup p∨ddn p:=by unfold dup ddn;omega
theorem cr_ne {p q:V} (h:cr p q≠0):(p.1≠0∨p.2≠0)∧(q.1≠0∨q.2≠0):=by
 unfold cr at h
 constructor
 ·rcases Decidable.em (p.1 = 0 ∧ p.2 = 0) with ⟨a, b⟩ | g
  ·rw [a,b] at h;simp at h
  ·omega
 ·rcases Decidable.em (q.1 = 0 ∧ q.2 = 0) with ⟨a, b⟩ | g
  ·rw [a,b] at h;simp at h
  ·omega
theorem posV_of_mul {a b:Int} (hb:0<b) (h:0<a*b):0<a:=by
 rcases Int.lt_or_le 0 a with g | g
 ·exact g
 ·have := Int.mul_nonneg (show 0 ≤ -a by omega) (show 0 ≤ b by omega)
  rw [Int.neg_mul] at this
  omega
theorem nn_of_mul {a b:Int} (hb:0<b) (h:0≤a*b):0≤a:=by
 rcases Int.lt_or_le a 0 with g | g
 ·have := Int.mul_pos (show 0 < -a by omega) hb
  rw [Int.neg_mul] at this
  omega
 ·exact g

theorem up_trans {e f g:V} (he:dup e) (hf:dup f) (hg:dup g) (h1:0≤cr e f) (h2:0≤cr f g):0≤cr e g∧((0<cr e f∨0<cr f g)→0<cr e g):=by
 have idy:cr e g*f.2=cr e f*g.2+cr f g*e.2:=by unfold cr;grind
 have idx:cr e g*f.1=cr e f*g.1+cr f g*e.1:=by unfold cr;grind
 have e0:0≤e.2:=by unfold dup at he;omega
 have g0:0≤g.2:=by unfold dup at hg;omega
 rcases hf with hf | ⟨hf0,hf1⟩
 ·have m1 := Int.mul_nonneg h1 g0
  have m2:=Int.mul_nonneg h2 e0
  refine ⟨nn_of_mul hf (by omega),fun h=>posV_of_mul hf ?_⟩
  have key:g.2=0→cr f g<0:=fun k=>by
   have g1:0<g.1:=by unfold dup at hg;omega
   have:=Int.mul_pos hf g1
   unfold cr
   rw [k]
   omega
  have gp:0<g.2:=by
   rcases Int.lt_or_le 0 g.2 with k | k
   ·exact k
   ·have:=key (by omega);omega
  rcases h with h | h
  ·have:=Int.mul_pos h gp;omega
  ·rcases Int.lt_or_le 0 e.2 with k | k
   ·have:=Int.mul_pos h k;omega
   ·have e2 : e.2 = 0 := by omega
    have e1:0<e.1:=by unfold dup at he;omega
    have:0<cr e f:=by have:=Int.mul_pos e1 hf;unfold cr;rw [e2];omega
    have:=Int.mul_pos this gp
    omega
 ·have c1 : cr e f = -(e.2 * f.1) := by unfold cr; rw [hf0]; omega
  have e2:e.2=0:=by
   rcases Int.lt_or_le 0 e.2 with k | k
   ·have:=Int.mul_pos k hf1;omega
   ·omega
  have e1:0<e.1:=by unfold dup at he;omega
  have c2:cr e g=e.1*g.2:=by unfold cr;rw [e2];omega
  have c3:cr f g=f.1*g.2:=by unfold cr;rw [hf0];omega
  refine ⟨by rw [c2];exact Int.mul_nonneg (by omega) g0,fun h=>?_⟩
  rw [e2] at c1
  simp at c1
  rcases h with h | h
  ·omega
  ·rw [c2]
   rw [c3] at h
   exact Int.mul_pos e1 (posV_of_mul hf1 (by rw [Int.mul_comm];exact h))
theorem dn_trans {e f g:V} (he:ddn e) (hf:ddn f) (hg:ddn g) (h1:0≤cr e f) (h2:0≤cr f g):0≤cr e g∧((0<cr e f∨0<cr f g)→0<cr e g):=by
 have h:=up_trans (dup_neg he) (dup_neg hf) (dup_neg hg) (by rw [cr_negl,cr_negr];omega) (by rw [cr_negl,cr_negr];omega)
 simp only [cr_negl,cr_negr,Int.neg_neg] at h
 exact h

def dle (e f:V):Prop:=(dup e∧ddn f)∨(dup e∧dup f∧0≤cr e f)∨(ddn e∧ddn f∧0≤cr e f)

structure Cyc (n : Nat) (E : Nat → V) : Prop where
 pos:2≤n
 per:∀ x,E (x+n)=E x
 turn:∀ x,0<cr (E x) (E (x+1))
 first:dup (E 0)
 last:ddn (E (n-1))
 mono:∀ x,x+1<n→dup (E (x+1))→dup (E x)
theorem Cyc.or {n:Nat} {E:Nat→V} (h:Cyc n E) (x:Nat):dup (E x)∨ddn (E x):=dup_or (cr_ne (show cr (E x) (E (x+1))≠0 by have:=h.turn x;omega)).1
theorem Cyc.next {n:Nat} {E:Nat→V} (h:Cyc n E) {x:Nat} (hx:x+1<n):dle (E x) (E (x+1)):=by
 have t:=h.turn x
 rcases h.or (x+1) with g | g
 ·exact .inr (.inl ⟨h.mono x hx g,g,by omega⟩)
 ·rcases h.or x with k | k
  ·exact .inl ⟨k,g⟩
  ·exact .inr (.inr ⟨k,g,by omega⟩)
theorem dle_trans {e f g:V} (h1:dle e f) (h2:dle f g):dle e g:=by
 rcases h1 with ⟨a,b⟩ | ⟨a,b,c⟩ | ⟨a,b,c⟩
 ·rcases h2 with ⟨p, q⟩ | ⟨p, q, r⟩ | ⟨p, q, r⟩
  ·exact absurd b (fun h=>dup_ddn p h)
  ·exact absurd b (fun h=>dup_ddn p h)
  ·exact .inl ⟨a,q⟩
 ·rcases h2 with ⟨p, q⟩ | ⟨p, q, r⟩ | ⟨p, q, r⟩
  ·exact .inl ⟨a,q⟩
  ·exact .inr (.inl ⟨a,q,(up_trans a b q c r).1⟩)
  ·exact absurd p (fun h=>dup_ddn b h)
 ·rcases h2 with ⟨p, q⟩ | ⟨p, q, r⟩ | ⟨p, q, r⟩
  ·exact absurd b (fun h=>dup_ddn p h)
  ·exact absurd b (fun h=>dup_ddn p h)
  ·exact .inr (.inr ⟨a,q,(dn_trans a b q c r).1⟩)

theorem up_dn {e g f:V} (he:dup e) (hf:ddn f) (hg:dle g e) (ht:0<cr g f):0<cr e f:=by
 have gu:dup g:=by
  rcases hg with ⟨a,_⟩ | ⟨a,_,_⟩ | ⟨_,b,_⟩
  ·exact a
  ·exact a
  ·exact absurd b (fun h=>dup_ddn he h)
 have gc:0≤cr g e:=by
  rcases hg with ⟨_,b⟩ | ⟨_,_,c⟩ | ⟨_,b,_⟩
  ·exact absurd b (fun h=>dup_ddn he h)
  ·exact c
  ·exact absurd b (fun h=>dup_ddn he h)
 have h1:cr (vneg f) g=cr g f:=by rw [cr_negl,cr_swap];omega
 have h:=(up_trans (dup_neg hf) gu he (by rw [h1];omega) gc).2 (.inl (by rw [h1];exact ht))
 rw [cr_negl,cr_swap e f] at h
 omega

theorem merge_order {n m:Nat} {E F:Nat→V} (hE:Cyc n E) (hF:Cyc m F) {x y:Nat} (hx:x<n) (hy:y<m) (J1:1≤y→dle (F (y-1)) (E x)) (J2:1≤x→dle (E (x-1)) (F y)) :
  (0≤cr (E x) (F y)→dle (E x) (F y))∧(cr (E x) (F y)≤0→dle (F y) (E x)):=by
 have s:=cr_swap (E x) (F y)
 rcases hE.or x with a | a
 ·rcases hF.or y with b | b
  ·exact ⟨fun h=>.inr (.inl ⟨a,b,h⟩),fun h=>.inr (.inl ⟨b,a,by omega⟩)⟩
  ·have y1:1≤y:=by
    rcases Nat.eq_zero_or_pos y with h | h
    ·subst h;exact absurd b (fun h=>dup_ddn hF.first h)
    ·exact h
   have t:=hF.turn (y-1)
   rw [show y-1+1=y by omega] at t
   have:=up_dn a b (J1 y1) t
   exact ⟨fun _=>.inl ⟨a,b⟩,fun h=>by omega⟩
 ·rcases hF.or y with b | b
  ·have x1:1≤x:=by
    rcases Nat.eq_zero_or_pos x with h | h
    ·subst h;exact absurd a (fun h=>dup_ddn hE.first h)
    ·exact h
   have t:=hE.turn (x-1)
   rw [show x-1+1=x by omega] at t
   have:=up_dn b a (J2 x1) t
   exact ⟨fun h=>by omega,fun _=>.inl ⟨b,a⟩⟩
  ·exact ⟨fun h=>.inr (.inr ⟨a,b,h⟩),fun h=>.inr (.inr ⟨b,a,by omega⟩)⟩

theorem merge_between {n m:Nat} {E F:Nat→V} (hE:Cyc n E) (hF:Cyc m F) {x y:Nat} (hx:x<n) (hy:y≤m) (J1:1≤y→dle (F (y-1)) (E x)) (hc:y<m→dle (E x) (F y)) :
  0≤cr (F (y+m-1)) (E x)∧0≤cr (E x) (F y):=by
 have hp:=hF.pos
 have tc:=hF.turn (m-1)
 have p0:=hF.per 0
 rw [Nat.zero_add] at p0
 rw [show m-1+1=m by omega,p0] at tc
 rcases Nat.lt_or_ge y m with hym | hym
 ·have hle := hc hym
  have c2:0≤cr (E x) (F y):=by
   rcases hle with ⟨a,b⟩ | ⟨_,_,c⟩ | ⟨_,_,c⟩
   ·have y1:1≤y:=by
     rcases Nat.eq_zero_or_pos y with h | h
     ·subst h;exact absurd b (fun h=>dup_ddn hF.first h)
     ·exact h
    have t:=hF.turn (y-1)
    rw [show y-1+1=y by omega] at t
    exact Int.le_of_lt (up_dn a b (J1 y1) t)
   ·exact c
   ·exact c
  refine ⟨?_,c2⟩
  rcases Nat.eq_zero_or_pos y with h | h
  ·subst h
   rw [show 0+m-1=m-1 by omega]
   have eu:dup (E x):=by
    rcases hle with ⟨a,_⟩ | ⟨a,_,_⟩ | ⟨_,b,_⟩
    ·exact a
    ·exact a
    ·exact absurd b (fun h=>dup_ddn hF.first h)
   have k1:cr (F 0) (vneg (F (m-1)))=cr (F (m-1)) (F 0):=by rw [cr_negr,cr_swap];omega
   have k:=(up_trans eu hF.first (dup_neg hF.last) c2 (by rw [k1];omega)).1
   rw [cr_negr,cr_swap (F (m-1)) (E x)] at k
   omega
  ·rw [show y + m - 1 = (y - 1) + m by omega, hF.per]
   have t:=hF.turn (y-1)
   rw [show y-1+1=y by omega] at t
   rcases J1 h with ⟨a,b⟩ | ⟨_,_,c⟩ | ⟨_,_,c⟩
   ·have fd:ddn (F y):=by
     rcases hle with ⟨_,q⟩ | ⟨p,_,_⟩ | ⟨_,q,_⟩
     ·exact q
     ·exact absurd b (fun h=>dup_ddn p h)
     ·exact q
    have k1:cr (F y) (vneg (F (y-1)))=cr (F (y-1)) (F y):=by rw [cr_negr,cr_swap];omega
    have k:=(dn_trans b fd (ddn_neg a) c2 (by rw [k1];omega)).1
    rw [cr_negr,cr_swap (F (y-1)) (E x)] at k
    omega
   ·exact c
   ·exact c
 ·have hye : y = m := by omega
  subst hye
  rw [show y+y-1=(y-1)+y by omega,hF.per,p0]
  have ed:ddn (E x)∧0≤cr (F (y-1)) (E x):=by
   rcases J1 (by omega) with ⟨a,_⟩ | ⟨a,_,_⟩ | ⟨_,b,c⟩
   ·exact absurd hF.last (fun h=>dup_ddn a h)
   ·exact absurd hF.last (fun h=>dup_ddn a h)
   ·exact ⟨b,c⟩
  refine ⟨ed.2,?_⟩
  have k1:cr (vneg (F 0)) (F (y-1))=cr (F (y-1)) (F 0):=by rw [cr_negl,cr_swap];omega
  have k:=(dn_trans (ddn_neg hF.first) hF.last ed.1 (by rw [k1];omega) ed.2).1
  rw [cr_negl,cr_swap (E x) (F 0)] at k
  omega

theorem cone_left {g f e v:V} (ht:0<cr g f) (h1:0≤cr g v) (h2:0≤cr f v) (h3:0≤cr g e) (h4:0≤cr e f):0≤cr e v:=by
 have id:cr e v*cr g f=cr g v*cr e f+cr f v*cr g e:=by unfold cr;grind
 have m1:=Int.mul_nonneg h1 h4
 have m2:=Int.mul_nonneg h2 h3
 exact nn_of_mul ht (by omega)

structure Rim (n : Nat) (A E : Nat → V) : Prop where
 cyc:Cyc n E
 edge:∀ x,A (x+1)=vadd (A x) (E x)
 per:∀ x,A (x+n)=A x
 left:∀ x j,0≤cr (E x) (vsub (A j) (A x))
theorem Rim.left' {n:Nat} {A E:Nat→V} (h:Rim n A E) (x j:Nat):0≤cr (E (x+n-1)) (vsub (A j) (A x)):=by
 have hp:=h.cyc.pos
 have e:=h.edge (x+n-1)
 rw [show x+n-1+1=x+n by omega,h.per] at e
 have:=h.left (x+n-1) j
 rw [e]
 have id:cr (E (x+n-1)) (vsub (A j) (vadd (A (x+n-1)) (E (x+n-1))))=cr (E (x+n-1)) (vsub (A j) (A (x+n-1))):=by unfold cr vsub vadd;grind
 rw [id]
 exact this

theorem Rim.cone {n:Nat} {A E:Nat→V} (h:Rim n A E) {x:Nat} {e:V} (h1:0≤cr (E (x+n-1)) e) (h2:0≤cr e (E x)) (j:Nat):0≤cr e (vsub (A j) (A x)):=by
 have hp:=h.cyc.pos
 have t:=h.cyc.turn (x+n-1)
 rw [show x+n-1+1=x+n by omega,h.cyc.per] at t
 exact cone_left t (h.left' x j) (h.left x j) h1 h2

structure Mrg (n m : Nat) (E F : Nat → V) (x y : Nat) : Prop where
 hx:x≤n
 hy:y≤m
 j1:1≤y→x<n→dle (F (y-1)) (E x)
 j2:1≤x→y<m→dle (E (x-1)) (F y)
def goE (n m:Nat) (E F:Nat→V) (x y:Nat):Bool:=y == m || (decide (x<n) && decide (0≤cr (E x) (F y)))
def goF (n m:Nat) (E F:Nat→V) (x y:Nat):Bool:=x == n || (decide (y<m) && decide (cr (E x) (F y)≤0))

theorem merge_step {n m:Nat} {A C E F:Nat→V} (hA:Rim n A E) (hC:Rim m C F) {x y:Nat} (h:Mrg n m E F x y) (hlt:x<n∨y<m) :
  ∃ x' y',x'=(if goE n m E F x y=true then x+1 else x)∧y'=(if goF n m E F x y=true then y+1 else y)∧Mrg n m E F x' y'∧x+y<x'+y'∧x'≤x+1∧y'≤y+1 ∧
  ∀ j k,0≤cr (vsub (vadd (A x') (C y')) (vadd (A x) (C y))) (vsub (vadd (A j) (C k)) (vadd (A x) (C y))):=by
 obtain ⟨hx,hy,j1,j2⟩:=h
 have split:∀ (e:V) (j k:Nat),cr e (vsub (vadd (A j) (C k)) (vadd (A x) (C y)))=cr e (vsub (A j) (A x))+cr e (vsub (C k) (C y)):=by intro e j k;unfold cr vsub vadd;grind
 have stepE:vsub (vadd (A (x+1)) (C y)) (vadd (A x) (C y))=E x:=by rw [hA.edge];unfold vsub vadd;ext <;> simp <;> omega
 have stepF:vsub (vadd (A x) (C (y+1))) (vadd (A x) (C y))=F y:=by rw [hC.edge];unfold vsub vadd;ext <;> simp <;> omega
 have stepB:vsub (vadd (A (x+1)) (C (y+1))) (vadd (A x) (C y))=vadd (E x) (F y):=by rw [hA.edge,hC.edge];unfold vsub vadd;ext <;> simp <;> omega
 have takeE:x<n→(y<m→dle (E x) (F y))→∀ j k,0≤cr (E x) (vsub (vadd (A j) (C k)) (vadd (A x) (C y))):=by
  intro h1 h2 j k
  obtain ⟨b1,b2⟩:=merge_between hA.cyc hC.cyc h1 hy (fun g=>j1 g h1) h2
  have:=hA.left x j
  have:=hC.cone b1 b2 k
  rw [split]
  omega
 have takeF:y<m→(x<n→dle (F y) (E x))→∀ j k,0≤cr (F y) (vsub (vadd (A j) (C k)) (vadd (A x) (C y))):=by
  intro h1 h2 j k
  obtain ⟨b1,b2⟩:=merge_between hC.cyc hA.cyc h1 hx (fun g=>j2 g h1) h2
  have:=hC.left y k
  have:=hA.cone b1 b2 j
  rw [split]
  omega
 rcases Nat.lt_or_ge x n with hxn | hxn
 ·rcases Nat.lt_or_ge y m with hym | hym
  ·obtain ⟨o1, o2⟩ := merge_order hA.cyc hC.cyc hxn hym (fun g => j1 g hxn) (fun g => j2 g hym)
   have e1:goE n m E F x y=decide (0≤cr (E x) (F y)):=by
    unfold goE
    rw [show (y == m)=false by simp;omega]
    simp [hxn]
   have e2:goF n m E F x y=decide (cr (E x) (F y)≤0):=by
    unfold goF
    rw [show (x == n)=false by simp;omega]
    simp [hym]
   rw [e1,e2]
   rcases Int.lt_trichotomy (cr (E x) (F y)) 0 with hs | hs | hs
   ·refine ⟨x, y + 1, by simp; omega, by simp; omega, ⟨hx, by omega, fun _ _ => o2 (by omega), fun g1 g2 => ?_⟩, by omega, by omega, by omega, ?_⟩
    ·exact dle_trans (j2 g1 hym) (hC.cyc.next g2)
    ·rw [stepF];exact takeF hym (fun _=>o2 (by omega))
   ·refine ⟨x + 1, y + 1, by simp; omega, by simp; omega, ⟨by omega, by omega, fun _ g2 => ?_, fun _ g2 => ?_⟩, by omega, by omega, by omega, ?_⟩
    ·exact dle_trans (o2 (by omega)) (hA.cyc.next g2)
    ·exact dle_trans (o1 (by omega)) (hC.cyc.next g2)
    ·rw [stepB]
     intro j k
     rw [cr_addl]
     have:=takeE hxn (fun _=>o1 (by omega)) j k
     have:=takeF hym (fun _=>o2 (by omega)) j k
     omega
   ·refine ⟨x + 1, y, by simp; omega, by simp; omega, ⟨by omega, hy, fun g1 g2 => ?_, fun _ _ => o1 (by omega)⟩, by omega, by omega, by omega, ?_⟩
    ·exact dle_trans (j1 g1 hxn) (hA.cyc.next g2)
    ·rw [stepE];exact takeE hxn (fun _=>o1 (by omega))
  ·have hye : y = m := by omega
   have e1:goE n m E F x y=true:=by unfold goE;simp [hye]
   have e2:goF n m E F x y=false:=by
    unfold goF
    rw [show (x == n)=false by simp;omega]
    simp;omega
   rw [e1,e2]
   refine ⟨x+1,y,by simp,by simp,⟨by omega,hy,fun g1 g2=>?_,fun _ g2=>by omega⟩,by omega,by omega,by omega,?_⟩
   ·exact dle_trans (j1 g1 hxn) (hA.cyc.next g2)
   ·rw [stepE];exact takeE hxn (fun g=>by omega)
 ·have hxe : x = n := by omega
  have hym:y<m:=by omega
  have e1:goE n m E F x y=false:=by
   unfold goE
   rw [show (y == m)=false by simp;omega]
   simp;omega
  have e2:goF n m E F x y=true:=by unfold goF;simp [hxe]
  rw [e1,e2]
  refine ⟨x,y+1,by simp,by simp,⟨hx,by omega,fun _ g2=>by omega,fun g1 g2=>?_⟩,by omega,by omega,by omega,?_⟩
  ·exact dle_trans (j2 g1 hym) (hC.cyc.next g2)
  ·rw [stepF];exact takeF hym (fun g=>by omega)

def mrgL (n m : Nat) (A C E F : Nat → V) : Nat → Nat → Nat → List V
 | 0,_,_=>[]
 | f+1,x,y=>if x<n∨y<m then vadd (A x) (C y) :: mrgL n m A C E F f (if goE n m E F x y=true then x+1 else x) (if goF n m E F x y=true then y+1 else y) else []

def goodL (P : V → Prop) (z : V) : List V → Prop
 | []=>True
 | c :: r=>(∀ p,P p→0≤cr (vsub (r.headD z) c) (vsub p c))∧goodL P z r
theorem mrgL_head {n m:Nat} {A C E F:Nat→V} (hA:Rim n A E) (hC:Rim m C F) {f x y:Nat} (h:Mrg n m E F x y) (hf:n+m≤f+x+y):(mrgL n m A C E F f x y).headD (vadd (A 0) (C 0))=vadd (A x) (C y):=by
 have hx:=h.hx
 have hy:=h.hy
 have zA:A n=A 0:=by have:=hA.per 0;rwa [Nat.zero_add] at this
 have zC:C m=C 0:=by have:=hC.per 0;rwa [Nat.zero_add] at this
 cases f with
 | zero=>rw [show x=n by omega,show y=m by omega,zA,zC];rfl
 | succ f =>
  rw [mrgL]
  split
  ·rfl
  ·rw [show x=n by omega,show y=m by omega,zA,zC];rfl
theorem mrgL_good {n m : Nat} {A C E F : Nat → V} (hA : Rim n A E) (hC : Rim m C F) : ∀ (f x y : Nat), Mrg n m E F x y → n + m ≤ f + x + y →
  goodL (fun p=>∃ j k,p=vadd (A j) (C k)) (vadd (A 0) (C 0)) (mrgL n m A C E F f x y)∧(mrgL n m A C E F f x y).length+(x+y)≤n+m∧n≤(mrgL n m A C E F f x y).length+x∧m≤(mrgL n m A C E F f x y).length+y:=by
 intro f
 induction f with
 | zero =>
  intro x y h hf
  have hx:=h.hx
  have hy:=h.hy
  exact ⟨trivial,by simp [mrgL];omega,by simp [mrgL];omega,by simp [mrgL];omega⟩
 | succ f ih =>
  intro x y h hf
  have hx:=h.hx
  have hy:=h.hy
  rw [mrgL]
  split
  ·rename_i hlt
   obtain ⟨x',y',ex,ey,h',l1,l2,l3,hg⟩:=merge_step hA hC h hlt
   rw [← ex,← ey]
   obtain ⟨g1,g2,g3,g4⟩:=ih x' y' h' (by omega)
   refine ⟨⟨?_,g1⟩,by rw [List.length_cons];omega,by rw [List.length_cons];omega,by rw [List.length_cons];omega⟩
   rintro p ⟨j,k,rfl⟩
   rw [mrgL_head hA hC h' (by omega)]
   exact hg j k
  ·exact ⟨trivial,by simp;omega,by simp;omega,by simp;omega⟩
theorem goodL_at {P : V → Prop} {z : V} : ∀ {l : List V}, goodL P z l → ∀ i, i < l.length → ∀ p, P p → 0 ≤ cr (vsub (if i + 1 < l.length then (px l (i + 1), py l (i + 1)) else z) (px l i, py l i)) (vsub p (px l i, py l i))
 | [],_,i,hi=>by simp at hi
 | c :: r,h,i,hi=>by
  intro p hp
  cases i with
  | zero =>
   have:=h.1 p hp
   cases r with
   | nil=>simpa [px,py] using this
   | cons d r=>simpa [px,py] using this
  | succ i =>
   have:=goodL_at h.2 i (by simpa using hi) p hp
   simpa [px,py] using this
theorem headD_px {L:List V} {z:V} (h:L≠[]):L.headD z=(px L 0,py L 0):=by
 cases L with
 | nil=>exact absurd rfl h
 | cons p r=>rfl

def rimA (l:List V) (i x:Nat):V:=(px l ((i+x) % l.length),py l ((i+x) % l.length))
def rimE (l:List V) (i x:Nat):V:=(edgX l i x,edgY l i x)
theorem lowTo_low (l:List V):∀ k,∀ j,j<k→¬ lowB l j (lowTo l k):=by
 intro k
 induction k with
 | zero=>intro j hj;omega
 | succ k ih =>
  intro j hj
  rw [lowTo]
  split
  ·rename_i h
   rcases Nat.lt_or_ge j k with g | g
   ·have := ih j g
    unfold lowB at *
    omega
   ·have : j = k := by omega
    subst this
    unfold lowB
    omega
  ·rename_i h
   rcases Nat.lt_or_ge j k with g | g
   ·exact ih j g
   ·have : j = k := by omega
    subst this
    exact h
theorem lowI_low {l:List V} {j:Nat} (hj:j<l.length):¬ lowB l j (lowI l):=lowTo_low l l.length j hj
theorem rim_left {l:List V} (h:checkE l=0) (i x j:Nat):0≤cr (rimE l i x) (vsub (rimA l i j) (rimA l i x))∧((i+j) % l.length≠(i+x) % l.length→(i+j) % l.length≠(i+x+1) % l.length→0<cr (rimE l i x) (vsub (rimA l i j) (rimA l i x))):=by
 obtain ⟨h8,h3,_,hr⟩:=checkE_zero h
 have hs:=hr ((i+x) % l.length) (Nat.mod_lt _ (by omega)) ((i+j) % l.length) (Nat.mod_lt _ (by omega))
 have hm:((i+x) % l.length+1) % l.length=(i+x+1) % l.length:=by rw [Nat.mod_add_mod]
 have e:cr (rimE l i x) (vsub (rimA l i j) (rimA l i x))=sideL l ((i+x) % l.length) ((i+x+1) % l.length) ((i+j) % l.length):=by
  unfold cr rimE rimA vsub sideL sideZ edgX edgY
  rfl
 unfold edgeBad at hs
 rw [hm,← e] at hs
 rw [decide_eq_false_iff_not] at hs
 have z1:(i+j) % l.length=(i+x) % l.length→cr (rimE l i x) (vsub (rimA l i j) (rimA l i x))=0:=fun g=>by
  unfold rimA vsub cr
  rw [g]
  simp
 have z2:(i+j) % l.length=(i+x+1) % l.length→cr (rimE l i x) (vsub (rimA l i j) (rimA l i x))=0:=fun g=>by
  unfold rimA vsub cr rimE edgX edgY
  rw [g]
  grind
 refine ⟨?_,fun g1 g2=>by omega⟩
 rcases Decidable.em ((i+j) % l.length=(i+x) % l.length) with g | g
 ·rw [z1 g];omega
 ·rcases Decidable.em ((i + j) % l.length = (i + x + 1) % l.length) with k | k
  ·rw [z2 k];omega
  ·omega
theorem rimA_low {l:List V} (h3:0<l.length) (j:Nat):(vsub (rimA l (lowI l) j) (rimA l (lowI l) 0)).1=0∧(vsub (rimA l (lowI l) j) (rimA l (lowI l) 0)).2=0∨dup (vsub (rimA l (lowI l) j) (rimA l (lowI l) 0)):=by
 have hl:lowI l<l.length:=lowTo_lt l l.length h3 (Nat.le_refl _)
 have:=lowI_low (l:=l) (j:=(lowI l+j) % l.length) (Nat.mod_lt _ h3)
 unfold rimA vsub dup
 rw [Nat.add_zero,Nat.mod_eq_of_lt hl]
 unfold lowB at this
 dsimp only
 omega
theorem rim_of {l:List V} (h:checkE l=0):Rim l.length (rimA l (lowI l)) (rimE l (lowI l)):=by
 obtain ⟨h8,h3,_,_⟩:=checkE_zero h
 obtain ⟨i,hi⟩:∃ i,i=lowI l:=⟨_,rfl⟩
 have low:=rimA_low (l:=l) (by omega)
 rw [← hi] at low ⊢
 have perA:∀ x,rimA l i (x+l.length)=rimA l i x:=fun x=>by unfold rimA;rw [← Nat.add_assoc,Nat.add_mod_right]
 have perE:∀ x,rimE l i (x+l.length)=rimE l i x:=fun x=>by
  unfold rimE edgX edgY
  rw [show i+(x+l.length)+1=i+x+1+l.length by omega,show i+(x+l.length)=i+x+l.length by omega,Nat.add_mod_right,Nat.add_mod_right]
 have edge:∀ x,rimA l i (x+1)=vadd (rimA l i x) (rimE l i x):=fun x=>by
  unfold rimA rimE edgX edgY vadd
  rw [← Nat.add_assoc]
  ext <;> simp <;> omega
 have left:∀ x j,0≤cr (rimE l i x) (vsub (rimA l i j) (rimA l i x)):=fun x j=>(rim_left h i x j).1
 have turn:∀ x,0<cr (rimE l i x) (rimE l i (x+1)):=fun x=>by
  have hs:=(rim_left h i x (x+2)).2
  have a1:(i+(x+2)) % l.length≠(i+x) % l.length:=fun g=>by
   have:=Nat.sub_mod_eq_zero_of_mod_eq g
   rw [show i+(x+2)-(i+x)=2 by omega,Nat.mod_eq_of_lt (by omega)] at this
   omega
  have a2:(i+(x+2)) % l.length≠(i+x+1) % l.length:=fun g=>by
   have:=Nat.sub_mod_eq_zero_of_mod_eq g
   rw [show i+(x+2)-(i+x+1)=1 by omega,Nat.mod_eq_of_lt (by omega)] at this
   omega
  have:=hs a1 a2
  rw [show x+2=x+1+1 from rfl,edge (x+1),edge x] at this
  have id:cr (rimE l i x) (vsub (vadd (vadd (rimA l i x) (rimE l i x)) (rimE l i (x+1))) (rimA l i x))=cr (rimE l i x) (rimE l i (x+1)):=by unfold cr vsub vadd;grind
  rwa [id] at this
 have nz:∀ x,(rimE l i x).1≠0∨(rimE l i x).2≠0:=fun x=>(cr_ne (show cr (rimE l i x) (rimE l i (x+1))≠0 by have:=turn x;omega)).1
 have first:dup (rimE l i 0):=by
  have e:=edge 0
  rw [Nat.zero_add] at e
  have:=low 1
  rw [e] at this
  have id:vsub (vadd (rimA l i 0) (rimE l i 0)) (rimA l i 0)=rimE l i 0:=by unfold vsub vadd;ext <;> simp <;> omega
  rw [id] at this
  have nz0:=nz 0
  rcases this with ⟨a,b⟩ | g
  ·omega
  ·exact g
 have last:ddn (rimE l i (l.length-1)):=by
  have e:=edge (l.length-1)
  have p:=perA 0
  rw [Nat.zero_add] at p
  rw [show l.length-1+1=l.length by omega,p] at e
  have lo:=low (l.length-1)
  rw [e] at lo
  have id:vsub (rimA l i (l.length-1)) (vadd (rimA l i (l.length-1)) (rimE l i (l.length-1)))=vneg (rimE l i (l.length-1)):=by unfold vsub vadd vneg;ext <;> simp <;> omega
  rw [id] at lo
  have:=nz (l.length-1)
  rcases lo with ⟨a,b⟩ | lo
  ·unfold vneg at a b;dsimp only at a b;omega
  ·have:=ddn_neg lo;rwa [vneg_neg] at this
 have mono:∀ x,x+1<l.length→dup (rimE l i (x+1))→dup (rimE l i x):=fun x hx hu=>by
  rcases dup_or (nz x) with g | g
  ·exact g
  ·exfalso
   -- the corner between is lowest,too
   have e:=edge x
   have h1:=left x 0
   have h2:=left (x+1) 0
   have t:=turn x
   have lo:=low (x+1)
   obtain ⟨G,hG⟩:∃ G,G=rimE l i x:=⟨_,rfl⟩
   obtain ⟨F,hF⟩:∃ F,F=rimE l i (x+1):=⟨_,rfl⟩
   obtain ⟨P,hP⟩:∃ P,P=rimA l i x:=⟨_,rfl⟩
   obtain ⟨O,hO⟩:∃ O,O=rimA l i 0:=⟨_,rfl⟩
   obtain ⟨Q,hQ⟩:∃ Q,Q=rimA l i (x+1):=⟨_,rfl⟩
   have nQ:¬ ((vsub Q O).1=0∧(vsub Q O).2=0):=by
    rintro ⟨z1,z2⟩
    rw [hQ,hO] at z1 z2
    have s0:=(rim_left h i 0 (x+1)).2
    have hi':i<l.length:=by rw [hi];exact lowTo_lt l l.length (by omega) (Nat.le_refl _)
    have b1:(i+(x+1)) % l.length≠(i+0) % l.length:=fun g=>by
     have:=Nat.sub_mod_eq_zero_of_mod_eq g
     rw [show i+(x+1)-(i+0)=x+1 by omega,Nat.mod_eq_of_lt (by omega)] at this
     omega
    have zc:cr (rimE l i 0) (vsub (rimA l i (x+1)) (rimA l i 0))=0:=by unfold cr;rw [z1,z2];simp
    rcases Decidable.em ((i+(x+1)) % l.length=(i+0+1) % l.length) with k | k
    ·have : rimA l i (x + 1) = rimA l i (0 + 1) := by unfold rimA; rw [k]
     rw [this,edge 0] at z1 z2
     have:=nz 0
     unfold vsub vadd at z1 z2
     dsimp only at z1 z2
     omega
    ·have := s0 b1 k
     omega
   rw [← hG,← hP,← hO] at h1
   rw [← hF,← hQ,← hO] at h2
   rw [← hG,← hF] at t
   rw [← hQ,← hO] at lo
   rw [← hQ,← hP,← hG] at e
   rw [← hF] at hu
   rw [← hG] at g
   have up:dup (vsub Q O):=by rcases lo with k | k;exact absurd k nQ;exact k
   have h1':0≤cr G (vsub O Q):=by
    have:cr G (vsub O Q)=cr G (vsub O P):=by rw [e];unfold cr vsub vadd;grind
    rw [this];exact h1
   -- D (O-Q)=a F-b G
   have d2:cr G F*(vsub O Q).2=cr G (vsub O Q)*F.2-cr F (vsub O Q)*G.2:=by unfold cr;grind
   have d1:cr G F*(vsub O Q).1=cr G (vsub O Q)*F.1-cr F (vsub O Q)*G.1:=by unfold cr;grind
   have o1:(vsub O Q).1 = -(vsub Q O).1:=by unfold vsub;dsimp only;omega
   have o2:(vsub O Q).2 = -(vsub Q O).2:=by unfold vsub;dsimp only;omega
   generalize vsub O Q=R at *
   generalize vsub Q O=T at *
   have F0:0≤F.2:=by unfold dup at hu;omega
   have G0:G.2≤0:=by unfold ddn at g;omega
   have m1:=Int.mul_nonneg h1' F0
   have m2:=Int.mul_nonneg h2 (show 0 ≤ -G.2 by omega)
   rw [Int.mul_neg] at m2
   have R0:0≤R.2:=nn_of_mul t (by rw [Int.mul_comm];omega)
   have R20:R.2=0:=by unfold dup at up;omega
   have R1:R.1<0:=by unfold dup at up;omega
   rw [R20] at d2
   simp at d2
   have n1:cr G F*R.1<0:=by
    have:=Int.mul_pos t (show 0 < -R.1 by omega)
    rw [Int.mul_neg] at this
    omega
   have z1:cr G R*F.2=0:=by omega
   have z2:cr F R*G.2=0:=by omega
   have k1:0≤cr G R*F.1:=by
    rcases Int.mul_eq_zero.1 z1 with k | k
    ·rw [k];simp
    ·exact Int.mul_nonneg h1' (by unfold dup at hu;omega)
   have k2:cr F R*G.1≤0:=by
    rcases Int.mul_eq_zero.1 z2 with k | k
    ·rw [k];simp
    ·have := Int.mul_nonneg h2 (show 0 ≤ -G.1 by unfold ddn at g; omega)
     rw [Int.mul_neg] at this
     omega
   omega
 exact ⟨⟨by omega,perE,turn,first,last,mono⟩,edge,perA,left⟩
theorem negL_side {l:List V} (i j k:Nat):sideL (negL l) i j k=sideL l i j k:=by
 unfold sideL sideZ
 simp only [neg_px,neg_py]
 grind
theorem checkE_neg {l:List V} (h:checkE l=0):checkE (negL l)=0:=by
 obtain ⟨h8,h3,hw,hr⟩:=checkE_zero h
 refine checkE_ok (by rw [negL_len];exact h8) (by rw [negL_len];exact h3) (negL_within hw) ?_
 rw [negL_len]
 intro i hi k hk
 rw [negL_len] at hk
 have:=hr i hi k hk
 unfold edgeBad at *
 rw [negL_len,negL_side]
 exact this
theorem mnGo_eq (a c:List V) (i k:Nat):∀ f x y,mnGo a c i k f x y=mrgL a.length c.length (rimA a i) (rimA c k) (rimE a i) (rimE c k) f x y:=by
 intro f
 induction f with
 | zero=>intro x y;rfl
 | succ f ih =>
  intro x y
  rw [mnGo,mrgL]
  split
  ·rw [ih]
   rfl
  ·rfl

theorem minus_good {a b : List V} (ha : checkE a = 0) (hb : checkE b = 0) : 3 ≤ (minusL a b).length ∧ (minusL a b).length ≤ a.length + b.length ∧
  ∀ i, i < (minusL a b).length → ∀ j k, j < a.length → k < b.length →
   0≤crsZ (px (minusL a b) ((i+1) % (minusL a b).length)-px (minusL a b) i) (py (minusL a b) ((i+1) % (minusL a b).length)-py (minusL a b) i) (px a j-px b k-px (minusL a b) i) (py a j-py b k-py (minusL a b) i):=by
 have hc:=checkE_neg hb
 obtain ⟨_,a3,_,_⟩:=checkE_zero ha
 obtain ⟨_,c3,_,_⟩:=checkE_zero hc
 have e:minusL a b=mrgL a.length (negL b).length (rimA a (lowI a)) (rimA (negL b) (lowI (negL b))) (rimE a (lowI a)) (rimE (negL b) (lowI (negL b))) (a.length+(negL b).length) 0 0:=by
  unfold minusL
  rw [if_pos (by unfold bothE;rw [if_neg (by omega)];exact hb),mnGo_eq]
 have hM:Mrg a.length (negL b).length (rimE a (lowI a)) (rimE (negL b) (lowI (negL b))) 0 0:=⟨by omega,by omega,fun h=>by omega,fun h=>by omega⟩
 obtain ⟨g1,g2,g3,g4⟩:=mrgL_good (rim_of ha) (rim_of hc) (a.length+(negL b).length) 0 0 hM (by omega)
 have hh:=mrgL_head (rim_of ha) (rim_of hc) (f:=a.length+(negL b).length) hM (by omega)
 rw [← e] at g1 g2 g3 g4 hh
 rw [negL_len] at g2 g4 c3
 refine ⟨by omega,by omega,fun i hi j k hj hk=>?_⟩
 have:=goodL_at g1 i hi (vadd (px a j,py a j) (px (negL b) k,py (negL b) k)) (by
  refine ⟨j+(a.length-lowI a),k+(b.length-lowI (negL b)),?_⟩
  have l1:=lowTo_lt a a.length (by omega) (Nat.le_refl _)
  have l2:=lowTo_lt (negL b) (negL b).length (by rw [negL_len];omega) (Nat.le_refl _)
  have l1':lowI a<a.length:=l1
  have l2':lowI (negL b)<b.length:=by have:lowI (negL b)<(negL b).length:=l2;rwa [negL_len] at this
  unfold rimA
  rw [negL_len,show lowI a+(j+(a.length-lowI a))=j+a.length by omega,Nat.add_mod_right,Nat.mod_eq_of_lt hj,show lowI (negL b)+(k+(b.length-lowI (negL b)))=k+b.length by omega,Nat.add_mod_right,Nat.mod_eq_of_lt hk])
 have he:(if i+1<(minusL a b).length then (px (minusL a b) (i+1),py (minusL a b) (i+1)) else vadd (rimA a (lowI a) 0) (rimA (negL b) (lowI (negL b)) 0))=(px (minusL a b) ((i+1) % (minusL a b).length),py (minusL a b) ((i+1) % (minusL a b).length)):=by
  split
  ·rename_i h;rw [Nat.mod_eq_of_lt h]
  ·rw [show i + 1 = (minusL a b).length by omega, Nat.mod_self, ← hh]
   exact headD_px (by intro g;rw [g] at hi;simp at hi)
 rw [he] at this
 unfold cr vsub vadd at this
 dsimp only at this
 rw [neg_px,neg_py] at this
 unfold crsZ
 rw [show px a j-px b k=px a j + -px b k by omega,show py a j-py b k=py a j + -py b k by omega]
 exact this
end
end Go.Proofs.YtodpincpofoiiaaGreat
