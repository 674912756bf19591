/- Parts of a proof: contracts and laws. -/
import Derived.Test.YtokgmcomgflloaaGreatQP33
import Derived.Test.YtokgmcomgflloaaGreatQP32
import Derived.Test.YtokgmcomgflloaaGreatQP20
import Derived.Test.YtokgmcomgflloaaGreatQP09
set_option maxRecDepth 100000
set_option maxHeartbeats 16000000
namespace Go.Proofs.YtokgmcomgflloaaGreat
section
set_option linter.unusedVariables false
set_option linter.unusedSimpArgs false
open Go.RowKit

structure TF (N : Nat) (P : Nat → V) : Prop where
 pos:3≤N
 per:∀ t,P (t+N)=P t
 turn:∀ t,0<cr (bC (P (t+1)) (P t)) (bC (P (t+2)) (P (t+1)))
 left:∀ t j,0≤cr (bC (P (t+1)) (P t)) (bC (P j) (P t))
section
variable {n m:Nat} {A C E F:Nat→V}
theorem mF {x y : Nat} (h : J6 n m E F x y) (hlt : x < n ∨ y < m) : (tq n m E F x y = true → x < n) ∧ (tV n m E F x y = true → y < m) ∧ (tq n m E F x y = true ∨ tV n m E F x y = true) ∧
  (tq n m E F x y=true→y<m→0≤cr (E x) (F y))∧(tV n m E F x y=true→x<n→cr (E x) (F y)≤0)∧(tq n m E F x y=false→x<n→cr (E x) (F y)<0)∧(tV n m E F x y=false→y<m→0<cr (E x) (F y)):=by
 have hx:=h.hx;have hy:=h.hy;unfold tq tV;simp only [Bool.or_eq_true,Bool.and_eq_true,beq_iff_eq,decide_eq_true_iff,Bool.or_eq_false_iff,Bool.and_eq_false_iff,beq_eq_false_iff_ne,decide_eq_false_iff_not];refine ⟨?_,?_,?_,?_,?_,?_,?_⟩ <;> omega

def Ob (a b:Bool) (e f:V):V:=if a=true then (if b=true then eB e f else e) else f
theorem Jm (hA:Gj n A E) (hC:Gj m C F) {x y:Nat} {a b:Bool} (hab:a=true∨b=true) :
  bC (eB (A (if a=true then x+1 else x)) (C (if b=true then y+1 else y))) (eB (A x) (C y))=Ob a b (E x) (F y):=by
 cases a <;> cases b
 ·simp at hab
 ·simp only [Ob,Bool.false_eq_true,if_false,if_true];rw [hC.edge];unfold bC eB;ext <;> simp <;> omega
 ·simp only [Ob,Bool.false_eq_true,if_false,if_true];rw [hA.edge];unfold bC eB;ext <;> simp <;> omega
 ·simp only [Ob,if_true];rw [hC.edge,hA.edge];unfold bC eB;ext <;> simp <;> omega
theorem yu (hA:JA n E) (hC:JA m F) {x y:Nat} (h:J6 n m E F x y) (hlt:x<n∨y<m) :
  (tq n m E F x y=true→0≤cr (F (y+m-1)) (E x)∧0≤cr (E x) (F y))∧(tV n m E F x y=true→0≤cr (E (x+n-1)) (F y)∧0≤cr (F y) (E x)):=by
 obtain ⟨g1,g2,-,g4,g5,-,-⟩:=mF h hlt
 constructor
 ·intro hg;have hx:=g1 hg;exact jN hA hC hx h.hy (fun k=>h.j1 k hx) (fun k=>(nV hA hC hx k (fun q=>h.j1 q hx) (fun q=>h.j2 q k)).1 (g4 hg k))
 ·intro hg;have hy:=g2 hg;exact jN hC hA hy h.hx (fun k=>h.j2 k hy) (fun k=>(nV hA hC k hy (fun q=>h.j1 q k) (fun q=>h.j2 q hy)).2 (g5 hg k))

theorem xI (hA : JA n E) (hC : JA m F) {x y x' y' : Nat} (h : J6 n m E F x y) (hlt : x < n ∨ y < m) (h' : J6 n m E F x' y') (hlt' : x' < n ∨ y' < m)
  (hx:tq n m E F x y=true→E (x'+n-1)=E x∧E x'=E (x+1)) (hy:tV n m E F x y=true→F (y'+m-1)=F y∧F y'=F (y+1))
  (s1:tq n m E F x y=true→tV n m E F x y=false→tV n m E F x' y'=true→0<cr (E x) (F y')) (s2:tV n m E F x y=true→tq n m E F x y=false→tq n m E F x' y'=true→0<cr (F y) (E x')) :
  0<cr (Ob (tq n m E F x y) (tV n m E F x y) (E x) (F y)) (Ob (tq n m E F x' y') (tV n m E F x' y') (E x') (F y')):=by
 obtain ⟨-,-,g3,-⟩:=mF h hlt;obtain ⟨-,-,g3',-⟩:=mF h' hlt';obtain ⟨b1,b2⟩:=yu hA hC h' hlt';have tE:=hA.turn x;have tF:=hC.turn y;unfold Ob
 cases ha:tq n m E F x y <;> cases hb:tV n m E F x y <;> cases ha':tq n m E F x' y' <;> cases hb':tV n m E F x' y'
 all_goals simp only [ha,hb,ha',hb',Bool.false_eq_true,or_self,forall_const,true_implies,false_implies,reduceCtorEq] at g3 g3' b1 b2 hx hy s1 s2
 all_goals simp only [Bool.false_eq_true,if_false,if_true,Qi,Ir]
 all_goals first
  | (simp at g3;done)
  | (simp at g3';done)
  | skip
 -- F,then F
 ·rw [hy.2];exact tF
 -- F,then E
 ·exact s2
 -- F,then both
 ·rw [hy.1] at b1;rw [← hy.2] at tF;omega
 -- E,then F
 ·exact s1
 -- E,then E
 ·rw [hx.2];exact tE
 -- E,then both
 ·rw [hx.1] at b2;rw [← hx.2] at tE;omega
 -- both,then F
 ·rw [hx.1] at b2;rw [← hy.2] at tF;omega
 -- both,then E
 ·rw [hy.1] at b1;rw [← hx.2] at tE;omega
 -- both,then both
 ·rw [hx.1] at b2;rw [hy.1] at b1;rw [← hx.2] at tE;rw [← hy.2] at tF;omega

def Qv (n m:Nat) (E F:Nat→V) (s:Nat × Nat):Nat × Nat:=(if tq n m E F s.1 s.2=true then s.1+1 else s.1,if tV n m E F s.1 s.2=true then s.2+1 else s.2)
def tK (n m : Nat) (E F : Nat → V) : Nat → Nat × Nat → Nat × Nat
 | 0,s=>s
 | i+1,s=>tK n m E F i (Qv n m E F s)
theorem Dv (i:Nat) (s:Nat × Nat):tK n m E F (i+1) s=Qv n m E F (tK n m E F i s):=by
 induction i generalizing s with
 | zero=>rfl
 | succ i ih=>rw [tK,ih,tK]
theorem Dc (hA : Gj n A E) (hC : Gj m C F) : ∀ (f x y : Nat), J6 n m E F x y → n + m ≤ f + x + y → tK n m E F (kV n m A C E F f x y).length (x, y) = (n, m) ∧
  ∀ i, i < (kV n m A C E F f x y).length → (px (kV n m A C E F f x y) i, py (kV n m A C E F f x y) i) = eB (A (tK n m E F i (x, y)).1) (C (tK n m E F i (x, y)).2) ∧
   J6 n m E F (tK n m E F i (x,y)).1 (tK n m E F i (x,y)).2∧((tK n m E F i (x,y)).1<n∨(tK n m E F i (x,y)).2<m):=by
 intro f
 induction f with
 | zero =>
  intro x y h hf;have hx:=h.hx;have hy:=h.hy;refine ⟨?_,fun i hi=>by simp [kV] at hi⟩;simp only [kV,List.length_nil,tK];rw [show x=n by omega,show y=m by omega]
 | succ f ih =>
  intro x y h hf;have hx:=h.hx;have hy:=h.hy;rw [kV]
  split
  ·rename_i hlt;obtain ⟨x',y',ex,ey,h',l1,l2,l3,hg⟩:=vQ hA hC h hlt;rw [← ex,← ey];have es:Qv n m E F (x,y)=(x',y'):=by unfold Qv;rw [← ex,← ey]
   obtain ⟨i1,i2⟩:=ih x' y' h' (by omega);refine ⟨by rw [List.length_cons,tK,es];exact i1,fun i hi=>?_⟩
   cases i with
   | zero=>exact ⟨rfl,h,hlt⟩
   | succ i =>
    have:=i2 i (by simpa using hi);rw [tK,es];simpa [px,py] using this
  ·refine ⟨?_, fun i hi => by simp at hi⟩;simp only [List.length_nil,tK];rw [show x=n by omega,show y=m by omega]
end

def kN (D:List V) (t:Nat):V:=(px D (t % D.length),py D (t % D.length))

def mU (a b:List V) (j k:Nat):V:=(px a j-px b k,py a j-py b k)

structure Tv (a b : List V) (D : List V) : Prop where
 pol:TF D.length (kN D)
 mem:∀ t,∃ j k,j<a.length∧k<b.length∧kN D t=mU a b j k
 left:∀ t j k,j<a.length→k<b.length→0≤cr (bC (kN D (t+1)) (kN D t)) (bC (mU a b j k) (kN D t))
theorem CP {l:List V} (h0:0<l.length) (i x:Nat):∃ j,j<l.length∧eG l i x=(px l j,py l j):=⟨(i+x) % l.length,Nat.mod_lt _ h0,rfl⟩
theorem Jc {a b:List V} (ha:aP a=0) (hb:aP b=0):Tv a b (bX a b):=by
 have hc:=wQ hb;obtain ⟨_,a3,_,_⟩:=aU ha;obtain ⟨_,b3,_,_⟩:=aU hb;obtain ⟨N3,_,gl⟩:=ER ha hb
 have e:bX a b=kV a.length (negL b).length (eG a (fC a)) (eG (negL b) (fC (negL b))) (fG a (fC a)) (fG (negL b) (fC (negL b))) (a.length+(negL b).length) 0 0:=by
  unfold bX;rw [if_pos (by unfold iY;rw [if_neg (by omega)];exact hb),G6]
 have hM:J6 a.length (negL b).length (fG a (fC a)) (fG (negL b) (fC (negL b))) 0 0:=⟨by omega,by omega,fun h=>by omega,fun h=>by omega⟩;have hA:=sU ha;have hC:=sU hc;obtain ⟨s1,s2⟩:=Dc hA hC (a.length+(negL b).length) 0 0 hM (by omega);rw [← e] at s1 s2;obtain ⟨D,hD⟩:∃ D,D=bX a b:=⟨_,rfl⟩;rw [← hD] at s1 s2 N3 gl ⊢;clear e hD;obtain ⟨A,hAe⟩:∃ A,A=eG a (fC a):=⟨_,rfl⟩;obtain ⟨C,hCe⟩:∃ C,C=eG (negL b) (fC (negL b)):=⟨_,rfl⟩;obtain ⟨E,hEe⟩:∃ E,E=fG a (fC a):=⟨_,rfl⟩;obtain ⟨F,hFe⟩:∃ F,F=fG (negL b) (fC (negL b)):=⟨_,rfl⟩;have memA:∀ x,∃ j,j<a.length∧A x=(px a j,py a j):=fun x=>by rw [hAe];exact CP (by omega) _ _
 have memC:∀ y,∃ k,k<b.length∧C y=(-px b k,-py b k):=fun y=>by
  rw [hCe];obtain ⟨k,h1,h2⟩:=CP (l:=negL b) (by rw [fD];omega) (fC (negL b)) y;rw [fD] at h1;rw [Fq,Fh] at h2;exact ⟨k,h1,h2⟩
 rw [← hAe,← hEe] at hA;rw [← hCe,← hFe] at hC;rw [← hAe,← hCe,← hEe,← hFe] at s2;rw [← hEe,← hFe] at s1 hM;clear hAe hCe hEe hFe;obtain ⟨m,hm⟩:∃ m,m=(negL b).length:=⟨_,rfl⟩;obtain ⟨n,hn⟩:∃ n,n=a.length:=⟨_,rfl⟩;rw [← hm] at hC;rw [← hn] at hA;rw [← hm,← hn] at s1 s2 hM;obtain ⟨N,hN⟩:∃ N,N=D.length:=⟨_,rfl⟩;rw [← hN] at s1 s2 N3;have nP:=hA.cyc.pos;have mP:=hC.cyc.pos
 -- the corners by the states
 have eA:A n=A 0:=by have:=hA.per 0;rwa [Nat.zero_add] at this
 have eC:C m=C 0:=by have:=hC.per 0;rwa [Nat.zero_add] at this
 have pt:∀ t,t≤N→kN D t=eB (A (tK n m E F t (0,0)).1) (C (tK n m E F t (0,0)).2):=fun t ht=>by
  rcases Nat.lt_or_ge t N with g | g
  ·unfold kN;rw [← hN,Nat.mod_eq_of_lt g];exact (s2 t g).1
  ·have : t = N := by omega
   subst this;rw [s1];unfold kN;rw [← hN,Nat.mod_self,eA,eC];exact (s2 0 (by omega)).1
 have per:∀ t,kN D (t+N)=kN D t:=fun t=>by unfold kN;rw [← hN,Nat.add_mod_right]
 have perm:∀ t,kN D t=kN D (t % N):=fun t=>by unfold kN;rw [← hN,Nat.mod_mod]
 have edge:∀ t,t<N→bC (kN D (t+1)) (kN D t)=Ob (tq n m E F (tK n m E F t (0,0)).1 (tK n m E F t (0,0)).2) (tV n m E F (tK n m E F t (0,0)).1 (tK n m E F t (0,0)).2) (E (tK n m E F t (0,0)).1) (F (tK n m E F t (0,0)).2):=fun t ht=>by
  obtain ⟨-,h,hlt⟩:=s2 t ht;rw [pt (t+1) (by omega),pt t (by omega),Dv];exact Jm hA hC (mF h hlt).2.2.1
 have tr0:∀ t,t<N→0<cr (bC (kN D (t+1)) (kN D t)) (bC (kN D (t+2)) (kN D (t+1))):=fun t ht=>by
  obtain ⟨-,h,hlt⟩:=s2 t ht;have st:=Dv (n:=n) (m:=m) (E:=E) (F:=F) t (0,0);obtain ⟨S,hS⟩:∃ S,S=tK n m E F t (0,0):=⟨_,rfl⟩;have ed:=edge t ht;rw [← hS] at h hlt st ed;obtain ⟨g1,g2,g3,g4,g5,g6,g7⟩:=mF h hlt
  rcases Nat.lt_or_ge (t+1) N with ht' | ht'
  ·have ed' := edge (t + 1) ht';obtain ⟨-,h',hlt'⟩:=s2 (t+1) ht';obtain ⟨g1',g2',-⟩:=mF h' hlt';rw [st] at h' hlt' ed' g1' g2';rw [ed,ed'];have q1:(Qv n m E F S).1=if tq n m E F S.1 S.2=true then S.1+1 else S.1:=rfl
   have q2:(Qv n m E F S).2=if tV n m E F S.1 S.2=true then S.2+1 else S.2:=rfl
   refine xI hA.cyc hC.cyc h hlt h' hlt' ?_ ?_ ?_ ?_
   ·intro ha;rw [if_pos ha] at q1;rw [q1,show S.1+1+n-1=S.1+n by omega,hA.cyc.per];exact ⟨rfl,rfl⟩
   ·intro hb;rw [if_pos hb] at q2;rw [q2,show S.2+1+m-1=S.2+m by omega,hC.cyc.per];exact ⟨rfl,rfl⟩
   ·intro ha hb hb';have y':=g2' hb';rw [if_neg (by simp [hb])] at q2;rw [q2] at y' ⊢;exact g7 hb y'
   ·intro hb ha ha';have x':=g1' ha';rw [if_neg (by simp [ha])] at q1;rw [q1] at x' ⊢;have:=g6 ha x';rw [gG];omega
  ·have htN : t + 1 = N := by omega
   have ed':=edge 0 (by omega)
   have e0:bC (kN D (t+2)) (kN D (t+1))=bC (kN D 1) (kN D 0):=by
    have p0:=per 0;have p1:=per 1;rw [Nat.zero_add] at p0;rw [show t+2=1+N by omega,htN,p0,p1]
   rw [Nat.zero_add] at ed';rw [e0,ed,ed'];have fin:Qv n m E F S=(n,m):=by rw [← st,htN];exact s1
   have q1:(if tq n m E F S.1 S.2=true then S.1+1 else S.1)=n:=by have:=congrArg Prod.fst fin;exact this
   have q2:(if tV n m E F S.1 S.2=true then S.2+1 else S.2)=m:=by have:=congrArg Prod.snd fin;exact this
   have E0:E n=E 0:=by have:=hA.cyc.per 0;rwa [Nat.zero_add] at this
   have F0:F m=F 0:=by have:=hC.cyc.per 0;rwa [Nat.zero_add] at this
   show 0<cr _ (Ob (tq n m E F 0 0) (tV n m E F 0 0) (E 0) (F 0));refine xI hA.cyc hC.cyc h hlt hM (by omega) ?_ ?_ ?_ ?_
   ·intro ha;rw [if_pos ha] at q1;rw [show 0+n-1=S.1 by omega,show S.1+1=n by omega,E0];exact ⟨rfl,rfl⟩
   ·intro hb;rw [if_pos hb] at q2;rw [show 0+m-1=S.2 by omega,show S.2+1=m by omega,F0];exact ⟨rfl,rfl⟩
   ·intro ha hb hb';rw [if_pos ha] at q1;rw [if_neg (by simp [hb])] at q2;have j:=h.j1 (by omega) (g1 ha);rw [q2] at j
    have ed:vC (E S.1)∧0≤cr (F (m-1)) (E S.1):=by
     rcases j with ⟨p,_⟩ | ⟨p,_,_⟩ | ⟨_,b,c⟩
     ·exact absurd hC.cyc.last (fun q=>fE p q)
     ·exact absurd hC.cyc.last (fun q=>fE p q)
     ·exact ⟨b,c⟩
    have tc:=hC.cyc.turn (m-1);rw [show m-1+1=m by omega,F0] at tc;have k1:cr (lQ (F 0)) (F (m-1))=cr (F (m-1)) (F 0):=by rw [jd,gG];omega
    have k:=(oz (sw hC.cyc.first) hC.cyc.last ed.1 (by rw [k1];omega) ed.2).2 (.inl (by rw [k1];exact tc));rw [jd,gG (E S.1) (F 0)] at k;omega
   ·intro hb ha ha';rw [if_pos hb] at q2;rw [if_neg (by simp [ha])] at q1;have j:=h.j2 (by omega) (g2 hb);rw [q1] at j
    have ed:vC (F S.2)∧0≤cr (E (n-1)) (F S.2):=by
     rcases j with ⟨p,_⟩ | ⟨p,_,_⟩ | ⟨_,b,c⟩
     ·exact absurd hA.cyc.last (fun q=>fE p q)
     ·exact absurd hA.cyc.last (fun q=>fE p q)
     ·exact ⟨b,c⟩
    have tc:=hA.cyc.turn (n-1);rw [show n-1+1=n by omega,E0] at tc;have k1:cr (lQ (E 0)) (E (n-1))=cr (E (n-1)) (E 0):=by rw [jd,gG];omega
    have k:=(oz (sw hA.cyc.first) hA.cyc.last ed.1 (by rw [k1];omega) ed.2).2 (.inl (by rw [k1];exact tc));rw [jd,gG (F S.2) (E 0)] at k;omega
 have perm1:∀ t,kN D (t+1)=kN D (t % N+1):=fun t=>by unfold kN;rw [← hN,Nat.mod_add_mod]
 have perm2:∀ t,kN D (t+2)=kN D (t % N+2):=fun t=>by unfold kN;rw [← hN,Nat.mod_add_mod]
 have hlen:b.length=m:=by rw [hm,fD]
 have mem:∀ t,∃ j k,j<a.length∧k<b.length∧kN D t=mU a b j k:=fun t=>by
  have hlt:t % N<N:=Nat.mod_lt _ (by omega);obtain ⟨j,j1,j2⟩:=memA (tK n m E F (t % N) (0,0)).1;obtain ⟨k,k1,k2⟩:=memC (tK n m E F (t % N) (0,0)).2;refine ⟨j,k,j1,k1,?_⟩;rw [perm,pt _ (by omega),j2,k2];unfold eB mU;rfl
 have left:∀ t j k,j<a.length→k<b.length→0≤cr (bC (kN D (t+1)) (kN D t)) (bC (mU a b j k) (kN D t)):=fun t j k hj hk=>by
  have:=gl (t % N) (by rw [← hN];exact Nat.mod_lt _ (by omega)) j k hj hk;rw [← hN,Nat.mod_add_mod] at this;unfold cr bC kN mU;rw [← hN];exact this
 refine ⟨⟨by rw [← hN];exact N3,fun t=>by rw [← hN];exact per t,fun t=>?_,fun t j=>?_⟩,mem,left⟩
 ·rw [perm t, perm1 t, perm2 t];exact tr0 _ (Nat.mod_lt _ (by omega))
 ·obtain ⟨j', k', h1, h2, h3⟩ := mem j;rw [h3];exact left t j' k' h1 h2
theorem kZ {n1 d1 n2 d2 n3 d3:Int} (h1:0<d1) (h2:0<d2) (h3:0<d3) (a:n1*d2≤n2*d1) (b:n2*d3≤n3*d2):n1*d3≤n3*d1:=by
 have m1:=Int.mul_le_mul_of_nonneg_right a (show 0≤d3 by omega);have m2:=Int.mul_le_mul_of_nonneg_right b (show 0≤d1 by omega);have e1:n1*d2*d3=d2*(n1*d3):=by grind
 have e2:n2*d1*d3=n2*d3*d1:=by grind
 have e3:n3*d2*d1=d2*(n3*d1):=by grind
 exact Int.le_of_mul_le_mul_left (by omega) h2



theorem LH {D:List V} (h0:0<D.length):qQ D=true↔∀ t,0≤cr (kN D t) (kN D (t+1)):=by
 unfold qQ;rw [decide_eq_true_iff]
 constructor
 ·intro h t;have:=h (t % D.length) (Nat.mod_lt _ h0);unfold IK qO at this;rw [Nat.mod_add_mod] at this;exact this
 ·intro h i hi;have:=h i;unfold kN cr at this;rw [Nat.mod_eq_of_lt hi] at this;exact this

theorem Db {N:Nat} {P:Nat→V} (h:TF N P) (e:V) (he:∀ t,cr e (P t)<0) (hc:∀ t,0≤cr (P t) (P (t+1))):False:=by
 have id:∀ a b c:V,cr a c*cr e b=cr a b*cr e c+cr b c*cr e a:=fun a b c=>by unfold cr;grind
 have tr:∀ a b c:V,cr e a<0→cr e b<0→cr e c<0→0≤cr a b→0≤cr b c→0≤cr a c:=fun a b c ha hb hcc h1 h2=>by
  have:=id a b c;have m1:=Int.mul_nonneg h1 (show 0 ≤ -cr e c by omega);have m2:=Int.mul_nonneg h2 (show 0 ≤ -cr e a by omega);rw [Int.mul_neg] at m1 m2;have m3:0≤cr a c * -cr e b:=by rw [Int.mul_neg];omega
  exact oW (show 0 < -cr e b by omega) m3
 have up:∀ t k,0≤cr (P t) (P (t+k)):=fun t k=>by
  induction k with
  | zero=>rw [Nat.add_zero,OJ];omega
  | succ k ih=>exact tr _ _ _ (he _) (he _) (he _) ih (hc (t+k))
 have hN:=h.pos
 have z:∀ t,t≤N→cr (P 0) (P t)=0:=fun t ht=>by
  have a:=up 0 t;have b:=up t (N-t);rw [show t+(N-t)=0+N by omega,h.per,gG] at b;rw [Nat.zero_add] at a;omega
 have z1:=z 1 (by omega);have z2:=z 2 (by omega);have t:=h.turn 0;have q:=id (P 1) (P 0) (P 2);rw [z2,gG (P 0) (P 1),z1] at q;simp only [Int.neg_zero,Int.zero_mul,Int.add_zero] at q
 have q1:cr (P 1) (P 2)=0:=by
  rcases Int.mul_eq_zero.1 q with k | k
  ·exact k
  ·have:=he 0;omega
 have e3:cr (bC (P 1) (P 0)) (bC (P 2) (P 1))=cr (P 1) (P 2)-cr (P 0) (P 2)+cr (P 0) (P 1):=by unfold cr bC;grind
 change 0<cr (bC (P 1) (P 0)) (bC (P 2) (P 1)) at t
 omega






theorem KD {l:List V} {i:Nat} (hi:i<l.length):kN l i=(px l i,py l i):=by unfold kN;rw [Nat.mod_eq_of_lt hi]


def Sep (a b:List V) (e:V):Prop:=∀ j k,j<a.length→k<b.length→0<cr e (mU a b j k)
theorem Ou {a b:List V} {D:List V} (hD:Tv a b D) {e:V} (hs:Sep a b e):qQ D=false:=by
 cases q:qQ D with
 | false=>rfl
 | true =>
  exfalso;have hN:=hD.pol.pos;refine Db hD.pol (lQ e) (fun t=>?_) ((LH (by omega)).1 q);obtain ⟨j,k,h1,h2,h3⟩:=hD.mem t;rw [h3,jd];have:=hs j k h1 h2;omega













abbrev Fr:=Int × Int
def sO (n d : Int) : Option (Fr × Fr) → Option (Fr × Fr)
 | none=>none
 | some (e,v)=>if d=0∧n<0 then none else if 0<d∧n*v.2<v.1*d then some (e,(n,d)) else if d<0∧e.1 * -d < -n*e.2 then some ((-n,-d),v) else some (e,v)
def Cj (n d : Nat → Int) : Nat → Option (Fr × Fr)
 | 0=>some ((0,1),(1,1))
 | t+1=>sO (n t) (d t) (Cj n d t)
def RN : Option (Fr × Fr) → Option Int
 | none=>none
 | some (e,v)=>if v.1*e.2<e.1*v.2 then none else some (e.1*65536 / e.2)
def QX (n d : Nat → Int) (k : Nat) : Option (Fr × Fr) → Prop
 | none=>∃ t,t<k∧d t=0∧n t<0
 | some (e,v)=>0<e.2∧0<v.2∧0≤e.1∧v.1≤v.2∧(e=(0,1)∨∃ t,t<k∧d t<0∧n t<0∧e=(-n t,-d t))∧∀ N L,0<L→0≤N→N≤L→((∀ t,t<k→0≤L*n t-N*d t)↔(e.1*L≤N*e.2∧N*v.2≤v.1*L))
theorem all_succ {p:Nat→Prop} {k:Nat}:(∀ t,t<k+1→p t)↔(∀ t,t<k→p t)∧p k :=
 ⟨fun h=>⟨fun t ht=>h t (by omega),h k (by omega)⟩,fun h t ht=>by
  rcases Nat.lt_or_ge t k with g | g
  ·exact h.1 t g
  ·rw [show t=k by omega];exact h.2⟩
theorem PV (n d : Nat → Int) : ∀ k, QX n d k (Cj n d k)
 | 0=>⟨by decide,by decide,by decide,by decide,.inl rfl,fun N L hL h0 h1=>⟨fun _=>⟨by omega,by omega⟩,fun _ t ht=>by omega⟩⟩
 | k+1=>by
  have ih:=PV n d k
  rw [Cj]
  generalize Cj n d k=s at ih
  match s,ih with
  | none,ih=>obtain ⟨t,ht,h⟩:=ih;exact ⟨t,by omega,h⟩
  | some (e,v),ih =>
   obtain ⟨e2,v2,e1,v1,ho,hi⟩:=ih
   rw [sO]
   have hc:∀ N L:Int,0≤L*n k-N*d k↔N*d k≤n k*L:=fun N L=>by rw [Int.mul_comm L];omega
   generalize hb:d k=b at *
   generalize ha:n k=a at *
   by_cases c1:b=0∧a<0
   ·rw [if_pos c1]
    exact ⟨k,by omega,by rw [hb];exact c1.1,by rw [ha];exact c1.2⟩
   rw [if_neg c1]
   by_cases c2:0<b∧a*v.2<v.1*b
   ·rw [if_pos c2]
    have hab:a≤b:=by
     have q:=Int.mul_le_mul_of_nonneg_right v1 (show 0≤b by omega);rw [Int.mul_comm v.2 b] at q;exact Int.le_of_lt (Int.lt_of_mul_lt_mul_right (Int.lt_of_lt_of_le c2.2 q) (Int.le_of_lt v2))
    refine ⟨e2,c2.1,e1,hab,?_,fun N L hL h0 h1=>?_⟩
    ·rcases ho with h | ⟨t, ht, h⟩
     ·exact .inl h
     ·exact .inr ⟨t,by omega,h⟩
    ·rw [all_succ, hi N L hL h0 h1, ha, hb, hc]
     constructor
     ·rintro ⟨⟨p,-⟩,q⟩;exact ⟨p,q⟩
     ·rintro ⟨p, q⟩;exact ⟨⟨p,kZ hL c2.1 v2 q (Int.le_of_lt c2.2)⟩,q⟩
   rw [if_neg c2]
   by_cases c3:b<0∧e.1 * -b < -a*e.2
   ·rw [if_pos c3]
    have ha0:a<0:=by
     have q:=Int.mul_nonneg e1 (show 0 ≤ -b by omega)
     rcases Int.lt_or_le a 0 with g | g
     ·exact g
     ·have := Int.mul_nonneg g (Int.le_of_lt e2);rw [Int.neg_mul] at c3;omega
    refine ⟨by show 0 < -b;omega,v2,by show 0 ≤ -a;omega,v1,.inr ⟨k,by omega,by rw [hb];exact c3.1,by rw [ha];exact ha0,by rw [ha,hb]⟩,fun N L hL h0 h1=>?_⟩;rw [all_succ,hi N L hL h0 h1,ha,hb,hc];show _ ↔ -a*L≤N * -b∧_;rw [Int.neg_mul,Int.mul_neg]
    constructor
    ·rintro ⟨⟨-,q⟩,p⟩;exact ⟨by omega,q⟩
    ·rintro ⟨p, q⟩;have p2 : -a*L≤N * -b:=by rw [Int.neg_mul,Int.mul_neg];exact p
     exact ⟨⟨kZ e2 (show 0 < -b by omega) hL (Int.le_of_lt c3.2) p2,q⟩,by omega⟩
   rw [if_neg c3];refine ⟨e2,v2,e1,v1,?_,fun N L hL h0 h1=>?_⟩
   ·rcases ho with h | ⟨t, ht, h⟩
    ·exact .inl h
    ·exact .inr ⟨t,by omega,h⟩
   ·rw [all_succ, hi N L hL h0 h1, ha, hb, hc];refine ⟨fun h=>h.1,fun h=>⟨h,?_⟩⟩
    rcases Int.lt_trichotomy b 0 with g | g | g
    ·have q : -a*e.2≤e.1 * -b:=by
      rcases Int.lt_or_le (e.1 * -b) (-a*e.2) with r | r
      ·exact absurd ⟨g,r⟩ c3
      ·exact r
     have:=kZ (show 0 < -b by omega) e2 hL q h.1;rw [Int.neg_mul,Int.mul_neg] at this;omega
    ·have q:0≤a:=by
      rcases Int.lt_or_le a 0 with r | r
      ·exact absurd ⟨g,r⟩ c1
      ·exact r
     have:=Int.mul_nonneg q (Int.le_of_lt hL);rw [g,Int.mul_zero];exact this
    ·have q:v.1*b≤a*v.2:=by
      rcases Int.lt_or_le (a*v.2) (v.1*b) with r | r
      ·exact absurd ⟨g,r⟩ c2
      ·exact r
     exact kZ hL v2 g h.2 q
def pG (D:List V) (f:V) (t:Nat):Int:=cr (bC (kN D (t+1)) (kN D t)) (bC f (kN D t))
def pK (D:List V) (u:V) (t:Nat):Int := -(cr (bC (kN D (t+1)) (kN D t)) u)

def rP (D:List V) (f u:V):Option Int:=RN (Cj (pG D f) (pK D u) D.length)


section
variable {a b f u P Q:V}

end


end
end Go.Proofs.YtokgmcomgflloaaGreat
