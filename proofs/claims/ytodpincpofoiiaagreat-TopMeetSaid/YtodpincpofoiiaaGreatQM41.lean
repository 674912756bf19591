/- Parts of a proof: contracts and laws. -/
import Derived.Test.YtodpincpofoiiaaGreatQM40
import Derived.Test.YtodpincpofoiiaaGreatQM39
import Derived.Test.YtodpincpofoiiaaGreatQM24
import Derived.Test.YtodpincpofoiiaaGreatQM09
set_option maxRecDepth 100000
set_option maxHeartbeats 16000000
namespace Go.Proofs.YtodpincpofoiiaaGreat
section
set_option linter.unusedVariables false
set_option linter.unusedSimpArgs false
open Go.RowKit

structure Pol (N : Nat) (P : Nat → V) : Prop where
 pos:3≤N
 per:∀ t,P (t+N)=P t
 turn:∀ t,0<cr (vsub (P (t+1)) (P t)) (vsub (P (t+2)) (P (t+1)))
 left:∀ t j,0≤cr (vsub (P (t+1)) (P t)) (vsub (P j) (P t))
section
variable {n m:Nat} {A C E F:Nat→V}
theorem go_facts {x y : Nat} (h : Mrg n m E F x y) (hlt : x < n ∨ y < m) : (goE n m E F x y = true → x < n) ∧ (goF n m E F x y = true → y < m) ∧ (goE n m E F x y = true ∨ goF n m E F x y = true) ∧
  (goE n m E F x y=true→y<m→0≤cr (E x) (F y))∧(goF n m E F x y=true→x<n→cr (E x) (F y)≤0)∧(goE n m E F x y=false→x<n→cr (E x) (F y)<0)∧(goF n m E F x y=false→y<m→0<cr (E x) (F y)):=by
 have hx:=h.hx
 have hy:=h.hy
 unfold goE goF
 simp only [Bool.or_eq_true,Bool.and_eq_true,beq_iff_eq,decide_eq_true_iff,Bool.or_eq_false_iff,Bool.and_eq_false_iff,beq_eq_false_iff_ne,decide_eq_false_iff_not]
 refine ⟨?_,?_,?_,?_,?_,?_,?_⟩ <;> omega

def mev (a b:Bool) (e f:V):V:=if a=true then (if b=true then vadd e f else e) else f
theorem step_edge (hA:Rim n A E) (hC:Rim m C F) {x y:Nat} {a b:Bool} (hab:a=true∨b=true) :
  vsub (vadd (A (if a=true then x+1 else x)) (C (if b=true then y+1 else y))) (vadd (A x) (C y))=mev a b (E x) (F y):=by
 cases a <;> cases b
 ·simp at hab
 ·simp only [mev,Bool.false_eq_true,if_false,if_true];rw [hC.edge];unfold vsub vadd;ext <;> simp <;> omega
 ·simp only [mev,Bool.false_eq_true,if_false,if_true];rw [hA.edge];unfold vsub vadd;ext <;> simp <;> omega
 ·simp only [mev,if_true];rw [hC.edge,hA.edge];unfold vsub vadd;ext <;> simp <;> omega
theorem takes_between (hA:Cyc n E) (hC:Cyc m F) {x y:Nat} (h:Mrg n m E F x y) (hlt:x<n∨y<m) :
  (goE n m E F x y=true→0≤cr (F (y+m-1)) (E x)∧0≤cr (E x) (F y))∧(goF n m E F x y=true→0≤cr (E (x+n-1)) (F y)∧0≤cr (F y) (E x)):=by
 obtain ⟨g1,g2,-,g4,g5,-,-⟩:=go_facts h hlt
 constructor
 ·intro hg
  have hx:=g1 hg
  exact merge_between hA hC hx h.hy (fun k=>h.j1 k hx) (fun k=>(merge_order hA hC hx k (fun q=>h.j1 q hx) (fun q=>h.j2 q k)).1 (g4 hg k))
 ·intro hg
  have hy:=g2 hg
  exact merge_between hC hA hy h.hx (fun k=>h.j2 k hy) (fun k=>(merge_order hA hC k hy (fun q=>h.j1 q k) (fun q=>h.j2 q hy)).2 (g5 hg k))

theorem merge_turn (hA : Cyc n E) (hC : Cyc m F) {x y x' y' : Nat} (h : Mrg n m E F x y) (hlt : x < n ∨ y < m) (h' : Mrg n m E F x' y') (hlt' : x' < n ∨ y' < m)
  (hx:goE n m E F x y=true→E (x'+n-1)=E x∧E x'=E (x+1)) (hy:goF n m E F x y=true→F (y'+m-1)=F y∧F y'=F (y+1))
  (s1:goE n m E F x y=true→goF n m E F x y=false→goF n m E F x' y'=true→0<cr (E x) (F y')) (s2:goF n m E F x y=true→goE n m E F x y=false→goE n m E F x' y'=true→0<cr (F y) (E x')) :
  0<cr (mev (goE n m E F x y) (goF n m E F x y) (E x) (F y)) (mev (goE n m E F x' y') (goF n m E F x' y') (E x') (F y')):=by
 obtain ⟨-,-,g3,-⟩:=go_facts h hlt
 obtain ⟨-,-,g3',-⟩:=go_facts h' hlt'
 obtain ⟨b1,b2⟩:=takes_between hA hC h' hlt'
 have tE:=hA.turn x
 have tF:=hC.turn y
 unfold mev
 cases ha:goE n m E F x y <;> cases hb:goF n m E F x y <;> cases ha':goE n m E F x' y' <;> cases hb':goF n m E F x' y'
 all_goals simp only [ha,hb,ha',hb',Bool.false_eq_true,or_self,forall_const,true_implies,false_implies,reduceCtorEq] at g3 g3' b1 b2 hx hy s1 s2
 all_goals simp only [Bool.false_eq_true,if_false,if_true,cr_add,cr_addl]
 all_goals first
  | (simp at g3;done)
  | (simp at g3';done)
  | skip
 -- F,then F
 ·rw [hy.2];exact tF
 -- F,then E
 ·exact s2
 -- F,then both
 ·rw [hy.1] at b1;rw [← hy.2] at tF;omega
 -- E,then F
 ·exact s1
 -- E,then E
 ·rw [hx.2];exact tE
 -- E,then both
 ·rw [hx.1] at b2;rw [← hx.2] at tE;omega
 -- both,then F
 ·rw [hx.1] at b2;rw [← hy.2] at tF;omega
 -- both,then E
 ·rw [hy.1] at b1;rw [← hx.2] at tE;omega
 -- both,then both
 ·rw [hx.1] at b2;rw [hy.1] at b1;rw [← hx.2] at tE;rw [← hy.2] at tF;omega

def stp (n m:Nat) (E F:Nat→V) (s:Nat × Nat):Nat × Nat:=(if goE n m E F s.1 s.2=true then s.1+1 else s.1,if goF n m E F s.1 s.2=true then s.2+1 else s.2)
def stI (n m : Nat) (E F : Nat → V) : Nat → Nat × Nat → Nat × Nat
 | 0,s=>s
 | i+1,s=>stI n m E F i (stp n m E F s)
theorem stI_succ (i:Nat) (s:Nat × Nat):stI n m E F (i+1) s=stp n m E F (stI n m E F i s):=by
 induction i generalizing s with
 | zero=>rfl
 | succ i ih=>rw [stI,ih,stI]
theorem mrgL_states (hA : Rim n A E) (hC : Rim m C F) : ∀ (f x y : Nat), Mrg n m E F x y → n + m ≤ f + x + y → stI n m E F (mrgL n m A C E F f x y).length (x, y) = (n, m) ∧
  ∀ i, i < (mrgL n m A C E F f x y).length → (px (mrgL n m A C E F f x y) i, py (mrgL n m A C E F f x y) i) = vadd (A (stI n m E F i (x, y)).1) (C (stI n m E F i (x, y)).2) ∧
   Mrg n m E F (stI n m E F i (x,y)).1 (stI n m E F i (x,y)).2∧((stI n m E F i (x,y)).1<n∨(stI n m E F i (x,y)).2<m):=by
 intro f
 induction f with
 | zero =>
  intro x y h hf
  have hx:=h.hx
  have hy:=h.hy
  refine ⟨?_,fun i hi=>by simp [mrgL] at hi⟩
  simp only [mrgL,List.length_nil,stI]
  rw [show x=n by omega,show y=m by omega]
 | succ f ih =>
  intro x y h hf
  have hx:=h.hx
  have hy:=h.hy
  rw [mrgL]
  split
  ·rename_i hlt
   obtain ⟨x',y',ex,ey,h',l1,l2,l3,hg⟩:=merge_step hA hC h hlt
   rw [← ex,← ey]
   have es:stp n m E F (x,y)=(x',y'):=by unfold stp;rw [← ex,← ey]
   obtain ⟨i1,i2⟩:=ih x' y' h' (by omega)
   refine ⟨by rw [List.length_cons,stI,es];exact i1,fun i hi=>?_⟩
   cases i with
   | zero=>exact ⟨rfl,h,hlt⟩
   | succ i =>
    have:=i2 i (by simpa using hi)
    rw [stI,es]
    simpa [px,py] using this
  ·refine ⟨?_, fun i hi => by simp at hi⟩
   simp only [List.length_nil,stI]
   rw [show x=n by omega,show y=m by omega]
end

def cyP (D:List V) (t:Nat):V:=(px D (t % D.length),py D (t % D.length))

def dpt2 (a b:List V) (j k:Nat):V:=(px a j-px b k,py a j-py b k)

structure Dif (a b : List V) (D : List V) : Prop where
 pol:Pol D.length (cyP D)
 mem:∀ t,∃ j k,j<a.length∧k<b.length∧cyP D t=dpt2 a b j k
 left:∀ t j k,j<a.length→k<b.length→0≤cr (vsub (cyP D (t+1)) (cyP D t)) (vsub (dpt2 a b j k) (cyP D t))
theorem rimA_mem {l:List V} (h0:0<l.length) (i x:Nat):∃ j,j<l.length∧rimA l i x=(px l j,py l j):=⟨(i+x) % l.length,Nat.mod_lt _ h0,rfl⟩
theorem minus_dif {a b:List V} (ha:checkE a=0) (hb:checkE b=0):Dif a b (minusL a b):=by
 have hc:=checkE_neg hb
 obtain ⟨_,a3,_,_⟩:=checkE_zero ha
 obtain ⟨_,b3,_,_⟩:=checkE_zero hb
 obtain ⟨N3,_,gl⟩:=minus_good ha hb
 have e:minusL a b=mrgL a.length (negL b).length (rimA a (lowI a)) (rimA (negL b) (lowI (negL b))) (rimE a (lowI a)) (rimE (negL b) (lowI (negL b))) (a.length+(negL b).length) 0 0:=by
  unfold minusL
  rw [if_pos (by unfold bothE;rw [if_neg (by omega)];exact hb),mnGo_eq]
 have hM:Mrg a.length (negL b).length (rimE a (lowI a)) (rimE (negL b) (lowI (negL b))) 0 0:=⟨by omega,by omega,fun h=>by omega,fun h=>by omega⟩
 have hA:=rim_of ha
 have hC:=rim_of hc
 obtain ⟨s1,s2⟩:=mrgL_states hA hC (a.length+(negL b).length) 0 0 hM (by omega)
 rw [← e] at s1 s2
 obtain ⟨D,hD⟩:∃ D,D=minusL a b:=⟨_,rfl⟩
 rw [← hD] at s1 s2 N3 gl ⊢
 clear e hD
 obtain ⟨A,hAe⟩:∃ A,A=rimA a (lowI a):=⟨_,rfl⟩
 obtain ⟨C,hCe⟩:∃ C,C=rimA (negL b) (lowI (negL b)):=⟨_,rfl⟩
 obtain ⟨E,hEe⟩:∃ E,E=rimE a (lowI a):=⟨_,rfl⟩
 obtain ⟨F,hFe⟩:∃ F,F=rimE (negL b) (lowI (negL b)):=⟨_,rfl⟩
 have memA:∀ x,∃ j,j<a.length∧A x=(px a j,py a j):=fun x=>by rw [hAe];exact rimA_mem (by omega) _ _
 have memC:∀ y,∃ k,k<b.length∧C y=(-px b k,-py b k):=fun y=>by
  rw [hCe]
  obtain ⟨k,h1,h2⟩:=rimA_mem (l:=negL b) (by rw [negL_len];omega) (lowI (negL b)) y
  rw [negL_len] at h1
  rw [neg_px,neg_py] at h2
  exact ⟨k,h1,h2⟩
 rw [← hAe,← hEe] at hA
 rw [← hCe,← hFe] at hC
 rw [← hAe,← hCe,← hEe,← hFe] at s2
 rw [← hEe,← hFe] at s1 hM
 clear hAe hCe hEe hFe
 obtain ⟨m,hm⟩:∃ m,m=(negL b).length:=⟨_,rfl⟩
 obtain ⟨n,hn⟩:∃ n,n=a.length:=⟨_,rfl⟩
 rw [← hm] at hC
 rw [← hn] at hA
 rw [← hm,← hn] at s1 s2 hM
 obtain ⟨N,hN⟩:∃ N,N=D.length:=⟨_,rfl⟩
 rw [← hN] at s1 s2 N3
 have nP:=hA.cyc.pos
 have mP:=hC.cyc.pos
 -- the corners by the states
 have eA:A n=A 0:=by have:=hA.per 0;rwa [Nat.zero_add] at this
 have eC:C m=C 0:=by have:=hC.per 0;rwa [Nat.zero_add] at this
 have pt:∀ t,t≤N→cyP D t=vadd (A (stI n m E F t (0,0)).1) (C (stI n m E F t (0,0)).2):=fun t ht=>by
  rcases Nat.lt_or_ge t N with g | g
  ·unfold cyP
   rw [← hN,Nat.mod_eq_of_lt g]
   exact (s2 t g).1
  ·have : t = N := by omega
   subst this
   rw [s1]
   unfold cyP
   rw [← hN,Nat.mod_self,eA,eC]
   exact (s2 0 (by omega)).1
 have per:∀ t,cyP D (t+N)=cyP D t:=fun t=>by unfold cyP;rw [← hN,Nat.add_mod_right]
 have perm:∀ t,cyP D t=cyP D (t % N):=fun t=>by unfold cyP;rw [← hN,Nat.mod_mod]
 have edge:∀ t,t<N→vsub (cyP D (t+1)) (cyP D t)=mev (goE n m E F (stI n m E F t (0,0)).1 (stI n m E F t (0,0)).2) (goF n m E F (stI n m E F t (0,0)).1 (stI n m E F t (0,0)).2) (E (stI n m E F t (0,0)).1) (F (stI n m E F t (0,0)).2):=fun t ht=>by
  obtain ⟨-,h,hlt⟩:=s2 t ht
  rw [pt (t+1) (by omega),pt t (by omega),stI_succ]
  exact step_edge hA hC (go_facts h hlt).2.2.1
 have tr0:∀ t,t<N→0<cr (vsub (cyP D (t+1)) (cyP D t)) (vsub (cyP D (t+2)) (cyP D (t+1))):=fun t ht=>by
  obtain ⟨-,h,hlt⟩:=s2 t ht
  have st:=stI_succ (n:=n) (m:=m) (E:=E) (F:=F) t (0,0)
  obtain ⟨S,hS⟩:∃ S,S=stI n m E F t (0,0):=⟨_,rfl⟩
  have ed:=edge t ht
  rw [← hS] at h hlt st ed
  obtain ⟨g1,g2,g3,g4,g5,g6,g7⟩:=go_facts h hlt
  rcases Nat.lt_or_ge (t+1) N with ht' | ht'
  ·have ed' := edge (t + 1) ht'
   obtain ⟨-,h',hlt'⟩:=s2 (t+1) ht'
   obtain ⟨g1',g2',-⟩:=go_facts h' hlt'
   rw [st] at h' hlt' ed' g1' g2'
   rw [ed,ed']
   have q1:(stp n m E F S).1=if goE n m E F S.1 S.2=true then S.1+1 else S.1:=rfl
   have q2:(stp n m E F S).2=if goF n m E F S.1 S.2=true then S.2+1 else S.2:=rfl
   refine merge_turn hA.cyc hC.cyc h hlt h' hlt' ?_ ?_ ?_ ?_
   ·intro ha
    rw [if_pos ha] at q1
    rw [q1,show S.1+1+n-1=S.1+n by omega,hA.cyc.per]
    exact ⟨rfl,rfl⟩
   ·intro hb
    rw [if_pos hb] at q2
    rw [q2,show S.2+1+m-1=S.2+m by omega,hC.cyc.per]
    exact ⟨rfl,rfl⟩
   ·intro ha hb hb'
    have y':=g2' hb'
    rw [if_neg (by simp [hb])] at q2
    rw [q2] at y' ⊢
    exact g7 hb y'
   ·intro hb ha ha'
    have x':=g1' ha'
    rw [if_neg (by simp [ha])] at q1
    rw [q1] at x' ⊢
    have:=g6 ha x'
    rw [cr_swap]
    omega
  ·have htN : t + 1 = N := by omega
   have ed':=edge 0 (by omega)
   have e0:vsub (cyP D (t+2)) (cyP D (t+1))=vsub (cyP D 1) (cyP D 0):=by
    have p0:=per 0
    have p1:=per 1
    rw [Nat.zero_add] at p0
    rw [show t+2=1+N by omega,htN,p0,p1]
   rw [Nat.zero_add] at ed'
   rw [e0,ed,ed']
   have fin:stp n m E F S=(n,m):=by rw [← st,htN];exact s1
   have q1:(if goE n m E F S.1 S.2=true then S.1+1 else S.1)=n:=by have:=congrArg Prod.fst fin;exact this
   have q2:(if goF n m E F S.1 S.2=true then S.2+1 else S.2)=m:=by have:=congrArg Prod.snd fin;exact this
   have E0:E n=E 0:=by have:=hA.cyc.per 0;rwa [Nat.zero_add] at this
   have F0:F m=F 0:=by have:=hC.cyc.per 0;rwa [Nat.zero_add] at this
   show 0<cr _ (mev (goE n m E F 0 0) (goF n m E F 0 0) (E 0) (F 0))
   refine merge_turn hA.cyc hC.cyc h hlt hM (by omega) ?_ ?_ ?_ ?_
   ·intro ha
    rw [if_pos ha] at q1
    rw [show 0+n-1=S.1 by omega,show S.1+1=n by omega,E0]
    exact ⟨rfl,rfl⟩
   ·intro hb
    rw [if_pos hb] at q2
    rw [show 0+m-1=S.2 by omega,show S.2+1=m by omega,F0]
    exact ⟨rfl,rfl⟩
   ·intro ha hb hb'
    rw [if_pos ha] at q1
    rw [if_neg (by simp [hb])] at q2
    have j:=h.j1 (by omega) (g1 ha)
    rw [q2] at j
    have ed:ddn (E S.1)∧0≤cr (F (m-1)) (E S.1):=by
     rcases j with ⟨p,_⟩ | ⟨p,_,_⟩ | ⟨_,b,c⟩
     ·exact absurd hC.cyc.last (fun q=>dup_ddn p q)
     ·exact absurd hC.cyc.last (fun q=>dup_ddn p q)
     ·exact ⟨b,c⟩
    have tc:=hC.cyc.turn (m-1)
    rw [show m-1+1=m by omega,F0] at tc
    have k1:cr (vneg (F 0)) (F (m-1))=cr (F (m-1)) (F 0):=by rw [cr_negl,cr_swap];omega
    have k:=(dn_trans (ddn_neg hC.cyc.first) hC.cyc.last ed.1 (by rw [k1];omega) ed.2).2 (.inl (by rw [k1];exact tc))
    rw [cr_negl,cr_swap (E S.1) (F 0)] at k
    omega
   ·intro hb ha ha'
    rw [if_pos hb] at q2
    rw [if_neg (by simp [ha])] at q1
    have j:=h.j2 (by omega) (g2 hb)
    rw [q1] at j
    have ed:ddn (F S.2)∧0≤cr (E (n-1)) (F S.2):=by
     rcases j with ⟨p,_⟩ | ⟨p,_,_⟩ | ⟨_,b,c⟩
     ·exact absurd hA.cyc.last (fun q=>dup_ddn p q)
     ·exact absurd hA.cyc.last (fun q=>dup_ddn p q)
     ·exact ⟨b,c⟩
    have tc:=hA.cyc.turn (n-1)
    rw [show n-1+1=n by omega,E0] at tc
    have k1:cr (vneg (E 0)) (E (n-1))=cr (E (n-1)) (E 0):=by rw [cr_negl,cr_swap];omega
    have k:=(dn_trans (ddn_neg hA.cyc.first) hA.cyc.last ed.1 (by rw [k1];omega) ed.2).2 (.inl (by rw [k1];exact tc))
    rw [cr_negl,cr_swap (F S.2) (E 0)] at k
    omega
 have perm1:∀ t,cyP D (t+1)=cyP D (t % N+1):=fun t=>by unfold cyP;rw [← hN,Nat.mod_add_mod]
 have perm2:∀ t,cyP D (t+2)=cyP D (t % N+2):=fun t=>by unfold cyP;rw [← hN,Nat.mod_add_mod]
 have hlen:b.length=m:=by rw [hm,negL_len]
 have mem:∀ t,∃ j k,j<a.length∧k<b.length∧cyP D t=dpt2 a b j k:=fun t=>by
  have hlt:t % N<N:=Nat.mod_lt _ (by omega)
  obtain ⟨j,j1,j2⟩:=memA (stI n m E F (t % N) (0,0)).1
  obtain ⟨k,k1,k2⟩:=memC (stI n m E F (t % N) (0,0)).2
  refine ⟨j,k,j1,k1,?_⟩
  rw [perm,pt _ (by omega),j2,k2]
  unfold vadd dpt2
  rfl
 have left:∀ t j k,j<a.length→k<b.length→0≤cr (vsub (cyP D (t+1)) (cyP D t)) (vsub (dpt2 a b j k) (cyP D t)):=fun t j k hj hk=>by
  have:=gl (t % N) (by rw [← hN];exact Nat.mod_lt _ (by omega)) j k hj hk
  rw [← hN,Nat.mod_add_mod] at this
  unfold cr vsub cyP dpt2
  rw [← hN]
  exact this
 refine ⟨⟨by rw [← hN];exact N3,fun t=>by rw [← hN];exact per t,fun t=>?_,fun t j=>?_⟩,mem,left⟩
 ·rw [perm t, perm1 t, perm2 t]
  exact tr0 _ (Nat.mod_lt _ (by omega))
 ·obtain ⟨j', k', h1, h2, h3⟩ := mem j
  rw [h3]
  exact left t j' k' h1 h2
end
end Go.Proofs.YtodpincpofoiiaaGreat
namespace Go.Proofs.YtodpincpofoiiaaGreat
section
set_option linter.unusedVariables false
set_option linter.unusedSimpArgs false
open Go.RowKit


theorem ratio_trans {n1 d1 n2 d2 n3 d3:Int} (h1:0<d1) (h2:0<d2) (h3:0<d3) (a:n1*d2≤n2*d1) (b:n2*d3≤n3*d2):n1*d3≤n3*d1:=by
 have m1:=Int.mul_le_mul_of_nonneg_right a (show 0≤d3 by omega)
 have m2:=Int.mul_le_mul_of_nonneg_right b (show 0≤d1 by omega)
 have e1:n1*d2*d3=d2*(n1*d3):=by grind
 have e2:n2*d1*d3=n2*d3*d1:=by grind
 have e3:n3*d2*d1=d2*(n3*d1):=by grind
 exact Int.le_of_mul_le_mul_left (by omega) h2



theorem ninB_iff {D:List V} (h0:0<D.length):ninB D=true↔∀ t,0≤cr (cyP D t) (cyP D (t+1)):=by
 unfold ninB
 rw [decide_eq_true_iff]
 constructor
 ·intro h t
  have:=h (t % D.length) (Nat.mod_lt _ h0)
  unfold ninC crsZ at this
  rw [Nat.mod_add_mod] at this
  exact this
 ·intro h i hi
  have:=h i
  unfold cyP cr at this
  rw [Nat.mod_eq_of_lt hi] at this
  exact this

theorem half_contra {N:Nat} {P:Nat→V} (h:Pol N P) (e:V) (he:∀ t,cr e (P t)<0) (hc:∀ t,0≤cr (P t) (P (t+1))):False:=by
 have id:∀ a b c:V,cr a c*cr e b=cr a b*cr e c+cr b c*cr e a:=fun a b c=>by unfold cr;grind
 have tr:∀ a b c:V,cr e a<0→cr e b<0→cr e c<0→0≤cr a b→0≤cr b c→0≤cr a c:=fun a b c ha hb hcc h1 h2=>by
  have:=id a b c
  have m1:=Int.mul_nonneg h1 (show 0 ≤ -cr e c by omega)
  have m2:=Int.mul_nonneg h2 (show 0 ≤ -cr e a by omega)
  rw [Int.mul_neg] at m1 m2
  have m3:0≤cr a c * -cr e b:=by rw [Int.mul_neg];omega
  exact nn_of_mul (show 0 < -cr e b by omega) m3
 have up:∀ t k,0≤cr (P t) (P (t+k)):=fun t k=>by
  induction k with
  | zero=>rw [Nat.add_zero,cr_self];omega
  | succ k ih=>exact tr _ _ _ (he _) (he _) (he _) ih (hc (t+k))
 have hN:=h.pos
 have z:∀ t,t≤N→cr (P 0) (P t)=0:=fun t ht=>by
  have a:=up 0 t
  have b:=up t (N-t)
  rw [show t+(N-t)=0+N by omega,h.per,cr_swap] at b
  rw [Nat.zero_add] at a
  omega
 have z1:=z 1 (by omega)
 have z2:=z 2 (by omega)
 have t:=h.turn 0
 have q:=id (P 1) (P 0) (P 2)
 rw [z2,cr_swap (P 0) (P 1),z1] at q
 simp only [Int.neg_zero,Int.zero_mul,Int.add_zero] at q
 have q1:cr (P 1) (P 2)=0:=by
  rcases Int.mul_eq_zero.1 q with k | k
  ·exact k
  ·have:=he 0;omega
 have e3:cr (vsub (P 1) (P 0)) (vsub (P 2) (P 1))=cr (P 1) (P 2)-cr (P 0) (P 2)+cr (P 0) (P 1):=by unfold cr vsub;grind
 change 0<cr (vsub (P 1) (P 0)) (vsub (P 2) (P 1)) at t
 omega






end
end Go.Proofs.YtodpincpofoiiaaGreat
namespace Go.Proofs.YtodpincpofoiiaaGreat
section
set_option linter.unusedVariables false
set_option linter.unusedSimpArgs false
open Go.RowKit

theorem pol_of {l:List V} (h:checkE l=0):Pol l.length (cyP l):=by
 obtain ⟨h8,h3,_,_⟩:=checkE_zero h
 have eA:∀ x,rimA l 0 x=cyP l x:=fun x=>by unfold rimA cyP;rw [Nat.zero_add]
 have eE:∀ x,rimE l 0 x=vsub (cyP l (x+1)) (cyP l x):=fun x=>by unfold rimE edgX edgY vsub cyP;rw [Nat.zero_add]
 refine ⟨h3,fun t=>by unfold cyP;rw [Nat.add_mod_right],fun t=>?_,fun t j=>?_⟩
 ·have hs := (rim_left h 0 t (t + 2)).2
  rw [Nat.zero_add,Nat.zero_add] at hs
  have a1:(t+2) % l.length≠t % l.length:=fun g=>by
   have:=Nat.sub_mod_eq_zero_of_mod_eq g
   rw [show t+2-t=2 by omega,Nat.mod_eq_of_lt (by omega)] at this
   omega
  have a2:(t+2) % l.length≠(t+1) % l.length:=fun g=>by
   have:=Nat.sub_mod_eq_zero_of_mod_eq g
   rw [show t+2-(t+1)=1 by omega,Nat.mod_eq_of_lt (by omega)] at this
   omega
  have:=hs a1 a2
  rw [eA,eA,eE] at this
  have id:cr (vsub (cyP l (t+1)) (cyP l t)) (vsub (cyP l (t+2)) (cyP l t))=cr (vsub (cyP l (t+1)) (cyP l t)) (vsub (cyP l (t+2)) (cyP l (t+1))):=by unfold cr vsub;grind
  rwa [id] at this
 ·have := (rim_left h 0 t j).1
  rwa [eA,eA,eE] at this
theorem cyP_lt {l:List V} {i:Nat} (hi:i<l.length):cyP l i=(px l i,py l i):=by unfold cyP;rw [Nat.mod_eq_of_lt hi]

def inP (P:Nat→V) (v:V) (k:Int):Prop:=∀ t,0≤cr (vsub (P (t+1)) (P t)) (vsub v (k*(P t).1,k*(P t).2))

def Sep (a b:List V) (e:V):Prop:=∀ j k,j<a.length→k<b.length→0<cr e (dpt2 a b j k)
theorem sep_out {a b:List V} {D:List V} (hD:Dif a b D) {e:V} (hs:Sep a b e):ninB D=false:=by
 cases q:ninB D with
 | false=>rfl
 | true =>
  exfalso
  have hN:=hD.pol.pos
  refine half_contra hD.pol (vneg e) (fun t=>?_) ((ninB_iff (by omega)).1 q)
  obtain ⟨j,k,h1,h2,h3⟩:=hD.mem t
  rw [h3,cr_negl]
  have:=hs j k h1 h2
  omega

theorem minus_sep {a b:List V} (ha:checkE a=0) (hb:checkE b=0) (h0:ninB (minusL a b)=false) :
  (∃ t,Sep a b (vsub (cyP a (t+1)) (cyP a t)))∨∃ t,Sep a b (vneg (vsub (cyP b (t+1)) (cyP b t))):=by
 have hc:=checkE_neg hb
 obtain ⟨_,a3,_,_⟩:=checkE_zero ha
 obtain ⟨_,b3,_,_⟩:=checkE_zero hb
 have hDif:=minus_dif ha hb
 have e:minusL a b=mrgL a.length (negL b).length (rimA a (lowI a)) (rimA (negL b) (lowI (negL b))) (rimE a (lowI a)) (rimE (negL b) (lowI (negL b))) (a.length+(negL b).length) 0 0:=by
  unfold minusL
  rw [if_pos (by unfold bothE;rw [if_neg (by omega)];exact hb),mnGo_eq]
 have hM:Mrg a.length (negL b).length (rimE a (lowI a)) (rimE (negL b) (lowI (negL b))) 0 0:=⟨by omega,by omega,fun h=>by omega,fun h=>by omega⟩
 have hA:=rim_of ha
 have hC:=rim_of hc
 obtain ⟨s1,s2⟩:=mrgL_states hA hC (a.length+(negL b).length) 0 0 hM (by omega)
 rw [← e] at s1 s2
 have hN:=hDif.pol.pos
 obtain ⟨t0,ht0⟩:∃ t0,t0<(minusL a b).length∧cr (cyP (minusL a b) t0) (cyP (minusL a b) (t0+1))<0:=by
  rcases Classical.em (∃ t0,t0<(minusL a b).length∧cr (cyP (minusL a b) t0) (cyP (minusL a b) (t0+1))<0) with g | g
  ·exact g
  ·exfalso
   have:ninB (minusL a b)=true:=(ninB_iff (by omega)).2 (fun t=>by
    have e1:cyP (minusL a b) t=cyP (minusL a b) (t % (minusL a b).length):=by unfold cyP;rw [Nat.mod_mod]
    have e2:cyP (minusL a b) (t+1)=cyP (minusL a b) (t % (minusL a b).length+1):=by unfold cyP;rw [Nat.mod_add_mod]
    rw [e1,e2]
    rcases Int.lt_or_le (cr (cyP (minusL a b) (t % (minusL a b).length)) (cyP (minusL a b) (t % (minusL a b).length+1))) 0 with q | q
    ·exact absurd ⟨_,Nat.mod_lt _ (by omega),q⟩ g
    ·exact q)
   rw [h0] at this
   cases this
 obtain ⟨ht1,ht2⟩:=ht0
 obtain ⟨D,hD⟩:∃ D,D=minusL a b:=⟨_,rfl⟩
 rw [← hD] at s1 s2 ht1 ht2 hN
 -- the corner and the next one
 obtain ⟨p1,h,hlt⟩:=s2 t0 ht1
 have st:=stI_succ (n:=a.length) (m:=(negL b).length) (E:=rimE a (lowI a)) (F:=rimE (negL b) (lowI (negL b))) t0 (0,0)
 have eA:rimA a (lowI a) a.length=rimA a (lowI a) 0:=by have:=hA.per 0;rwa [Nat.zero_add] at this
 have eC:rimA (negL b) (lowI (negL b)) (negL b).length=rimA (negL b) (lowI (negL b)) 0:=by have:=hC.per 0;rwa [Nat.zero_add] at this
 have p2:cyP D (t0+1)=vadd (rimA a (lowI a) (stI a.length (negL b).length (rimE a (lowI a)) (rimE (negL b) (lowI (negL b))) (t0+1) (0,0)).1) (rimA (negL b) (lowI (negL b)) (stI a.length (negL b).length (rimE a (lowI a)) (rimE (negL b) (lowI (negL b))) (t0+1) (0,0)).2):=by
  rcases Nat.lt_or_ge (t0+1) D.length with g | g
  ·rw [cyP_lt g];exact (s2 _ g).1
  ·have e3 : t0 + 1 = D.length := by omega
   rw [e3,s1,eA,eC]
   unfold cyP
   rw [Nat.mod_self]
   exact (s2 0 (by omega)).1
 rw [st] at p2
 rw [cyP_lt ht1,p1,p2] at ht2
 obtain ⟨S,hS⟩:∃ S,S=stI a.length (negL b).length (rimE a (lowI a)) (rimE (negL b) (lowI (negL b))) t0 (0,0):=⟨_,rfl⟩
 rw [← hS] at h hlt ht2
 obtain ⟨g1,g2,g3,-⟩:=go_facts h hlt
 obtain ⟨b1,b2⟩:=takes_between hA.cyc hC.cyc h hlt
 have ed:=step_edge hA hC (x:=S.1) (y:=S.2) g3
 change vsub (vadd (rimA a (lowI a) (stp a.length (negL b).length (rimE a (lowI a)) (rimE (negL b) (lowI (negL b))) S).1) (rimA (negL b) (lowI (negL b)) (stp a.length (negL b).length (rimE a (lowI a)) (rimE (negL b) (lowI (negL b))) S).2)) _=_ at ed
 generalize stp a.length (negL b).length (rimE a (lowI a)) (rimE (negL b) (lowI (negL b))) S=S' at *
 obtain ⟨P,hP⟩:∃ P,P=vadd (rimA a (lowI a) S.1) (rimA (negL b) (lowI (negL b)) S.2):=⟨_,rfl⟩
 obtain ⟨Q,hQ⟩:∃ Q,Q=vadd (rimA a (lowI a) S'.1) (rimA (negL b) (lowI (negL b)) S'.2):=⟨_,rfl⟩
 rw [← hP,← hQ] at ht2 ed
 have hcr:0<cr (vsub Q P) P:=by
  have:cr (vsub Q P) P = -cr P Q:=by unfold cr vsub;grind
  omega
 rw [ed] at hcr
 -- every difference is a sum of two corners
 have all:∀ j k,j<a.length→k<b.length→∃ x y,dpt2 a b j k=vadd (rimA a (lowI a) x) (rimA (negL b) (lowI (negL b)) y):=fun j k hj hk=>by
  have l1:lowI a<a.length:=lowTo_lt a a.length (by omega) (Nat.le_refl _)
  have l2:lowI (negL b)<b.length:=by have:lowI (negL b)<(negL b).length:=lowTo_lt (negL b) (negL b).length (by rw [negL_len];omega) (Nat.le_refl _);rwa [negL_len] at this
  refine ⟨j+(a.length-lowI a),k+(b.length-lowI (negL b)),?_⟩
  unfold rimA
  rw [negL_len,show lowI a+(j+(a.length-lowI a))=j+a.length by omega,Nat.add_mod_right,Nat.mod_eq_of_lt hj,show lowI (negL b)+(k+(b.length-lowI (negL b)))=k+b.length by omega,Nat.add_mod_right,Nat.mod_eq_of_lt hk,neg_px,neg_py]
  unfold dpt2 vadd
  ext <;> simp <;> omega
 have split:∀ (e:V) (x y:Nat),cr e (vadd (rimA a (lowI a) x) (rimA (negL b) (lowI (negL b)) y))=cr e (vsub (rimA a (lowI a) x) (rimA a (lowI a) S.1))+cr e (vsub (rimA (negL b) (lowI (negL b)) y) (rimA (negL b) (lowI (negL b)) S.2))+cr e P:=fun e x y=>by rw [hP];unfold cr vsub vadd;grind
 have sE:goE a.length (negL b).length (rimE a (lowI a)) (rimE (negL b) (lowI (negL b))) S.1 S.2=true→0<cr (rimE a (lowI a) S.1) P→∃ t,Sep a b (vsub (cyP a (t+1)) (cyP a t)):=fun hg hp=>by
  refine ⟨lowI a+S.1,fun j k hj hk=>?_⟩
  obtain ⟨x,y,exy⟩:=all j k hj hk
  have e4:vsub (cyP a (lowI a+S.1+1)) (cyP a (lowI a+S.1))=rimE a (lowI a) S.1:=rfl
  rw [e4,exy,split]
  obtain ⟨q1,q2⟩:=b1 hg
  have:=hA.left S.1 x
  have:=hC.cone q1 q2 y
  omega
 have sF:goF a.length (negL b).length (rimE a (lowI a)) (rimE (negL b) (lowI (negL b))) S.1 S.2=true→0<cr (rimE (negL b) (lowI (negL b)) S.2) P→∃ t,Sep a b (vneg (vsub (cyP b (t+1)) (cyP b t))):=fun hg hp=>by
  refine ⟨lowI (negL b)+S.2,fun j k hj hk=>?_⟩
  obtain ⟨x,y,exy⟩:=all j k hj hk
  have e4:vneg (vsub (cyP b (lowI (negL b)+S.2+1)) (cyP b (lowI (negL b)+S.2)))=rimE (negL b) (lowI (negL b)) S.2:=by
   unfold rimE edgX edgY vneg vsub cyP
   rw [negL_len,neg_px,neg_px,neg_py,neg_py]
   ext <;> simp <;> omega
  rw [e4,exy,split]
  obtain ⟨q1,q2⟩:=b2 hg
  have:=hC.left S.2 y
  have:=hA.cone q1 q2 x
  omega
 unfold mev at hcr
 cases ga:goE a.length (negL b).length (rimE a (lowI a)) (rimE (negL b) (lowI (negL b))) S.1 S.2 with
 | true =>
  cases gb:goF a.length (negL b).length (rimE a (lowI a)) (rimE (negL b) (lowI (negL b))) S.1 S.2 with
  | true =>
   rw [ga,gb] at hcr
   simp only [if_true,cr_addl] at hcr
   rcases Int.lt_or_le 0 (cr (rimE a (lowI a) S.1) P) with q | q
   ·exact .inl (sE ga q)
   ·exact .inr (sF gb (by omega))
  | false =>
   rw [ga,gb] at hcr
   exact .inl (sE ga (by simpa using hcr))
 | false =>
  rw [ga] at hcr
  have gb:goF a.length (negL b).length (rimE a (lowI a)) (rimE (negL b) (lowI (negL b))) S.1 S.2=true:=by rw [ga] at g3;simpa using g3
  exact .inr (sF gb (by simpa using hcr))
theorem deepTo_ge {l m : List V} {i : Nat} : ∀ k j, j ≤ k → dpt l m i j ≤ deepTo l m i k
  | 0, j, h => by obtain rfl : j = 0 := by omega
                  exact Int.le_refl _
  | k+1,j,h=>by
    rw [deepTo]
    rcases Nat.lt_or_ge j (k+1) with g | g
    · have := deepTo_ge (l := l) (m := m) (i := i) k j (by omega)
      split <;> omega
    · obtain rfl : j = k + 1 := by omega
      split <;> omega
theorem dpt_cr (l m:List V) {i k:Nat} (hi:i<l.length):dpt l m i k = -cr (vsub (cyP l (i+1)) (cyP l i)) (px l i-px m k,py l i-py m k):=by
 unfold dpt nrmX nrmY cr vsub cyP
 rw [Nat.mod_eq_of_lt hi]
 grind
theorem deep_neg {l m:List V} (h:checkE l=0) (hm:0<m.length) {i:Nat} (hi:i<l.length) (hd:deepZ l m i<0):Sep l m (vsub (cyP l (i+1)) (cyP l i)):=fun j k hj hk=>by
 have:=deepTo_ge (l:=l) (m:=m) (i:=i) (m.length-1) k (by omega)
 have hd':deepTo l m i (m.length-1)<0:=hd
 have e:=dpt_cr l m (k:=k) hi
 have lf:=(pol_of h).left i j
 rw [cyP_lt hj,cyP_lt hi] at lf
 have id:cr (vsub (cyP l (i+1)) (cyP l i)) (dpt2 l m j k)=cr (vsub (cyP l (i+1)) (cyP l i)) (vsub (px l j,py l j) (px l i,py l i))+cr (vsub (cyP l (i+1)) (cyP l i)) (px l i-px m k,py l i-py m k):=by unfold cr vsub dpt2;grind
 rw [id]
 rw [cyP_lt hi] at e ⊢
 omega
theorem deep_sep {l m:List V} (hm:0<m.length) {t:Nat} (h0:0<l.length) (hs:Sep l m (vsub (cyP l (t+1)) (cyP l t))):∃ i,i<l.length∧deepZ l m i<0:=by
 have hi:t % l.length<l.length:=Nat.mod_lt _ h0
 refine ⟨t % l.length,hi,?_⟩
 obtain ⟨k,hk,ek⟩:=deepTo_mem l m (t % l.length) (m.length-1)
 show deepTo l m (t % l.length) (m.length-1)<0
 rw [ek,dpt_cr l m hi]
 have:=hs (t % l.length) k hi (by omega)
 have e1:cyP l (t % l.length)=cyP l t:=by unfold cyP;rw [Nat.mod_mod]
 have e2:cyP l (t % l.length+1)=cyP l (t+1):=by unfold cyP;rw [Nat.mod_add_mod]
 rw [e1,e2]
 unfold dpt2 at this
 omega
theorem sep_swap {a b:List V} {e:V} (h:Sep a b e):Sep b a (vneg e):=fun j k hj hk=>by
 have:=h k j hk hj
 have e2:cr (vneg e) (dpt2 b a j k)=cr e (dpt2 a b k j):=by unfold cr vneg dpt2;grind
 rw [e2]
 exact this

theorem meets_nin {a b:List V} (ha:checkE a=0) (hb:checkE b=0):meetsB a b=ninB (minusL a b):=by
 obtain ⟨_,a3,_,_⟩:=checkE_zero ha
 obtain ⟨_,b3,_,_⟩:=checkE_zero hb
 have hD:=minus_dif ha hb
 cases q:ninB (minusL a b) with
 | true =>
  unfold meetsB
  rw [decide_eq_true_iff]
  refine ⟨bothE_zero.2 ⟨ha,hb⟩,fun i hi=>?_,fun i hi=>?_⟩
  ·rcases Int.lt_or_le (deepZ a b i) 0 with g | g
   ·have := sep_out hD (deep_neg ha (by omega) hi g)
    rw [q] at this;cases this
   ·exact g
  ·rcases Int.lt_or_le (deepZ b a i) 0 with g | g
   ·have := sep_out hD (sep_swap (deep_neg hb (by omega) hi g))
    rw [q] at this;cases this
   ·exact g
 | false =>
  unfold meetsB
  rw [decide_eq_false_iff_not]
  rintro ⟨-,g1,g2⟩
  rcases minus_sep ha hb q with ⟨t,hs⟩ | ⟨t,hs⟩
  ·obtain ⟨i, hi, hd⟩ := deep_sep (by omega) (by omega) hs
   have:=g1 i hi
   omega
  ·have hs2 := sep_swap hs
   rw [vneg_neg] at hs2
   obtain ⟨i,hi,hd⟩:=deep_sep (by omega) (by omega) hs2
   have:=g2 i hi
   omega











end
end Go.Proofs.YtodpincpofoiiaaGreat
namespace Go.Proofs.YtodpincpofoiiaaGreat
section
set_option linter.unusedVariables false
set_option linter.unusedSimpArgs false
open Go.RowKit
abbrev Fr:=Int × Int
def lnStep (n d : Int) : Option (Fr × Fr) → Option (Fr × Fr)
 | none=>none
 | some (e,v)=>if d=0∧n<0 then none else if 0<d∧n*v.2<v.1*d then some (e,(n,d)) else if d<0∧e.1 * -d < -n*e.2 then some ((-n,-d),v) else some (e,v)
def lnF (n d : Nat → Int) : Nat → Option (Fr × Fr)
 | 0=>some ((0,1),(1,1))
 | t+1=>lnStep (n t) (d t) (lnF n d t)
def lnEnd : Option (Fr × Fr) → Option Int
 | none=>none
 | some (e,v)=>if v.1*e.2<e.1*v.2 then none else some (e.1*65536 / e.2)
def LnOk (n d : Nat → Int) (k : Nat) : Option (Fr × Fr) → Prop
 | none=>∃ t,t<k∧d t=0∧n t<0
 | some (e,v)=>0<e.2∧0<v.2∧0≤e.1∧v.1≤v.2∧(e=(0,1)∨∃ t,t<k∧d t<0∧n t<0∧e=(-n t,-d t))∧∀ N L,0<L→0≤N→N≤L→((∀ t,t<k→0≤L*n t-N*d t)↔(e.1*L≤N*e.2∧N*v.2≤v.1*L))
theorem all_succ {p:Nat→Prop} {k:Nat}:(∀ t,t<k+1→p t)↔(∀ t,t<k→p t)∧p k :=
 ⟨fun h=>⟨fun t ht=>h t (by omega),h k (by omega)⟩,fun h t ht=>by
  rcases Nat.lt_or_ge t k with g | g
  ·exact h.1 t g
  ·rw [show t=k by omega];exact h.2⟩
theorem ln_ok (n d : Nat → Int) : ∀ k, LnOk n d k (lnF n d k)
 | 0=>⟨by decide,by decide,by decide,by decide,.inl rfl,fun N L hL h0 h1=>⟨fun _=>⟨by omega,by omega⟩,fun _ t ht=>by omega⟩⟩
 | k+1=>by
  have ih:=ln_ok n d k
  rw [lnF]
  generalize lnF n d k=s at ih
  match s,ih with
  | none,ih=>obtain ⟨t,ht,h⟩:=ih;exact ⟨t,by omega,h⟩
  | some (e,v),ih =>
   obtain ⟨e2,v2,e1,v1,ho,hi⟩:=ih
   rw [lnStep]
   have hc:∀ N L:Int,0≤L*n k-N*d k↔N*d k≤n k*L:=fun N L=>by rw [Int.mul_comm L];omega
   generalize hb:d k=b at *
   generalize ha:n k=a at *
   by_cases c1:b=0∧a<0
   ·rw [if_pos c1]
    exact ⟨k,by omega,by rw [hb];exact c1.1,by rw [ha];exact c1.2⟩
   rw [if_neg c1]
   by_cases c2:0<b∧a*v.2<v.1*b
   ·rw [if_pos c2]
    have hab:a≤b:=by
     have q:=Int.mul_le_mul_of_nonneg_right v1 (show 0≤b by omega)
     rw [Int.mul_comm v.2 b] at q
     exact Int.le_of_lt (Int.lt_of_mul_lt_mul_right (Int.lt_of_lt_of_le c2.2 q) (Int.le_of_lt v2))
    refine ⟨e2,c2.1,e1,hab,?_,fun N L hL h0 h1=>?_⟩
    ·rcases ho with h | ⟨t, ht, h⟩
     ·exact .inl h
     ·exact .inr ⟨t,by omega,h⟩
    ·rw [all_succ, hi N L hL h0 h1, ha, hb, hc]
     constructor
     ·rintro ⟨⟨p,-⟩,q⟩;exact ⟨p,q⟩
     ·rintro ⟨p, q⟩
      exact ⟨⟨p,ratio_trans hL c2.1 v2 q (Int.le_of_lt c2.2)⟩,q⟩
   rw [if_neg c2]
   by_cases c3:b<0∧e.1 * -b < -a*e.2
   ·rw [if_pos c3]
    have ha0:a<0:=by
     have q:=Int.mul_nonneg e1 (show 0 ≤ -b by omega)
     rcases Int.lt_or_le a 0 with g | g
     ·exact g
     ·have := Int.mul_nonneg g (Int.le_of_lt e2)
      rw [Int.neg_mul] at c3
      omega
    refine ⟨by show 0 < -b;omega,v2,by show 0 ≤ -a;omega,v1,.inr ⟨k,by omega,by rw [hb];exact c3.1,by rw [ha];exact ha0,by rw [ha,hb]⟩,fun N L hL h0 h1=>?_⟩
    rw [all_succ,hi N L hL h0 h1,ha,hb,hc]
    show _ ↔ -a*L≤N * -b∧_
    rw [Int.neg_mul,Int.mul_neg]
    constructor
    ·rintro ⟨⟨-,q⟩,p⟩;exact ⟨by omega,q⟩
    ·rintro ⟨p, q⟩
     have p2 : -a*L≤N * -b:=by rw [Int.neg_mul,Int.mul_neg];exact p
     exact ⟨⟨ratio_trans e2 (show 0 < -b by omega) hL (Int.le_of_lt c3.2) p2,q⟩,by omega⟩
   rw [if_neg c3]
   refine ⟨e2,v2,e1,v1,?_,fun N L hL h0 h1=>?_⟩
   ·rcases ho with h | ⟨t, ht, h⟩
    ·exact .inl h
    ·exact .inr ⟨t,by omega,h⟩
   ·rw [all_succ, hi N L hL h0 h1, ha, hb, hc]
    refine ⟨fun h=>h.1,fun h=>⟨h,?_⟩⟩
    rcases Int.lt_trichotomy b 0 with g | g | g
    ·have q : -a*e.2≤e.1 * -b:=by
      rcases Int.lt_or_le (e.1 * -b) (-a*e.2) with r | r
      ·exact absurd ⟨g,r⟩ c3
      ·exact r
     have:=ratio_trans (show 0 < -b by omega) e2 hL q h.1
     rw [Int.neg_mul,Int.mul_neg] at this
     omega
    ·have q:0≤a:=by
      rcases Int.lt_or_le a 0 with r | r
      ·exact absurd ⟨g,r⟩ c1
      ·exact r
     have:=Int.mul_nonneg q (Int.le_of_lt hL)
     rw [g,Int.mul_zero];exact this
    ·have q:v.1*b≤a*v.2:=by
      rcases Int.lt_or_le (a*v.2) (v.1*b) with r | r
      ·exact absurd ⟨g,r⟩ c2
      ·exact r
     exact ratio_trans hL v2 g h.2 q
def rnum (D:List V) (f:V) (t:Nat):Int:=cr (vsub (cyP D (t+1)) (cyP D t)) (vsub f (cyP D t))
def rden (D:List V) (u:V) (t:Nat):Int := -(cr (vsub (cyP D (t+1)) (cyP D t)) u)

def lineR (D:List V) (f u:V):Option Int:=lnEnd (lnF (rnum D f) (rden D u) D.length)


section
variable {a b f u P Q:V}

end


theorem per_all {D:List V} (h0:0<D.length) {p:V→V→Prop} (h:∀ t,t<D.length→p (cyP D t) (cyP D (t+1))):∀ t,p (cyP D t) (cyP D (t+1)):=fun t=>by
 have:=h (t % D.length) (Nat.mod_lt _ h0)
 have e1:cyP D (t % D.length)=cyP D t:=by unfold cyP;rw [Nat.mod_mod]
 have e2:cyP D (t % D.length+1)=cyP D (t+1):=by unfold cyP;rw [Nat.mod_add_mod]
 rwa [e1,e2] at this
end
end Go.Proofs.YtodpincpofoiiaaGreat
