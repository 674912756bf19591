/- Parts of a proof: contracts and laws. -/
import Derived.Test.YtiaoandbdgdecaaGreatPK46
import Derived.Test.YtiaoandbdgdecaaGreatPK08
import Derived.Test.YtiaoandbdgdecaaGreatPK26
set_option maxRecDepth 100000
set_option maxHeartbeats 16000000
namespace Go.Proofs.YtiaoandbdgdecaaGreat
section
set_option linter.unusedVariables false
set_option linter.unusedSimpArgs false
open Go.RowKit

theorem pol_of {l:List V} (h:checkE l=0):Pol l.length (cyP l):=by
 obtain ⟨h8,h3,_,_⟩:=checkE_zero h
 have eA:∀ x,rimA l 0 x=cyP l x:=fun x=>by unfold rimA cyP;rw [Nat.zero_add]
 have eE:∀ x,rimE l 0 x=vsub (cyP l (x+1)) (cyP l x):=fun x=>by unfold rimE edgX edgY vsub cyP;rw [Nat.zero_add]
 refine ⟨h3,fun t=>by unfold cyP;rw [Nat.add_mod_right],fun t=>?_,fun t j=>?_⟩
 ·have hs := (rim_left h 0 t (t + 2)).2
  rw [Nat.zero_add,Nat.zero_add] at hs
  have a1:(t+2) % l.length≠t % l.length:=fun g=>by
   have:=Nat.sub_mod_eq_zero_of_mod_eq g
   rw [show t+2-t=2 by omega,Nat.mod_eq_of_lt (by omega)] at this
   omega
  have a2:(t+2) % l.length≠(t+1) % l.length:=fun g=>by
   have:=Nat.sub_mod_eq_zero_of_mod_eq g
   rw [show t+2-(t+1)=1 by omega,Nat.mod_eq_of_lt (by omega)] at this
   omega
  have:=hs a1 a2
  rw [eA,eA,eE] at this
  have id:cr (vsub (cyP l (t+1)) (cyP l t)) (vsub (cyP l (t+2)) (cyP l t))=cr (vsub (cyP l (t+1)) (cyP l t)) (vsub (cyP l (t+2)) (cyP l (t+1))):=by unfold cr vsub;grind
  rwa [id] at this
 ·have := (rim_left h 0 t j).1
  rwa [eA,eA,eE] at this
theorem cyP_lt {l:List V} {i:Nat} (hi:i<l.length):cyP l i=(px l i,py l i):=by unfold cyP;rw [Nat.mod_eq_of_lt hi]
theorem cyP_ex {l:List V} (h0:0<l.length) (t:Nat):∃ i,i<l.length∧cyP l t=(px l i,py l i):=⟨t % l.length,Nat.mod_lt _ h0,rfl⟩

def inP (P:Nat→V) (v:V) (k:Int):Prop:=∀ t,0≤cr (vsub (P (t+1)) (P t)) (vsub v (k*(P t).1,k*(P t).2))
theorem inP_one {P:Nat→V} {v:V}:inP P v 1↔∀ t,0≤cr (vsub (P (t+1)) (P t)) (vsub v (P t)):=by unfold inP;simp
theorem has_iff {l:List V} (h:checkE l=0) {p q:Int} (hw:withinB 65536000 p q=true):insB l p q=true↔inP (cyP l) (p,q) 1:=by
 obtain ⟨h8,h3,_,_⟩:=checkE_zero h
 rw [← has_eq h,hasB_iff,inP_one]
 have e:∀ t,cr (vsub (cyP l (t+1)) (cyP l t)) (vsub (p,q) (cyP l t))=edgeP l (t % l.length) p q:=fun t=>by
  unfold cr vsub cyP edgeP sideZ
  rw [Nat.mod_add_mod]
 constructor
 ·rintro ⟨_, _, g⟩ t
  rw [e]
  exact g _ (Nat.mod_lt _ (by omega))
 ·intro g
  refine ⟨h,hw,fun i hi=>?_⟩
  have:=g i
  rwa [e,Nat.mod_eq_of_lt hi] at this

def Sep (a b:List V) (e:V):Prop:=∀ j k,j<a.length→k<b.length→0<cr e (dpt2 a b j k)
theorem pol_shift {N:Nat} {P:Nat→V} (h:Pol N P) (u:V):Pol N (fun t=>vsub (P t) u):=by
 have e:∀ p q:V,vsub (vsub p u) (vsub q u)=vsub p q:=fun p q=>by unfold vsub;ext <;> simp <;> omega
 exact ⟨h.pos,fun t=>by (try dsimp only);rw [h.per],fun t=>by (try dsimp only);rw [e,e];exact h.turn t,fun t j=>by (try dsimp only);rw [e,e];exact h.left t j⟩
theorem sep_out {a b:List V} {D:List V} (hD:Dif a b D) {e:V} (hs:Sep a b e):ninB D=false:=by
 cases q:ninB D with
 | false=>rfl
 | true =>
  exfalso
  have hN:=hD.pol.pos
  refine half_contra hD.pol (vneg e) (fun t=>?_) ((ninB_iff (by omega)).1 q)
  obtain ⟨j,k,h1,h2,h3⟩:=hD.mem t
  rw [h3,cr_negl]
  have:=hs j k h1 h2
  omega

theorem minus_sep {a b:List V} (ha:checkE a=0) (hb:checkE b=0) (h0:ninB (minusL a b)=false) :
  (∃ t,Sep a b (vsub (cyP a (t+1)) (cyP a t)))∨∃ t,Sep a b (vneg (vsub (cyP b (t+1)) (cyP b t))):=by
 have hc:=checkE_neg hb
 obtain ⟨_,a3,_,_⟩:=checkE_zero ha
 obtain ⟨_,b3,_,_⟩:=checkE_zero hb
 have hDif:=minus_dif ha hb
 have e:minusL a b=mrgL a.length (negL b).length (rimA a (lowI a)) (rimA (negL b) (lowI (negL b))) (rimE a (lowI a)) (rimE (negL b) (lowI (negL b))) (a.length+(negL b).length) 0 0:=by
  unfold minusL
  rw [if_pos (by unfold bothE;rw [if_neg (by omega)];exact hb),mnGo_eq]
 have hM:Mrg a.length (negL b).length (rimE a (lowI a)) (rimE (negL b) (lowI (negL b))) 0 0:=⟨by omega,by omega,fun h=>by omega,fun h=>by omega⟩
 have hA:=rim_of ha
 have hC:=rim_of hc
 obtain ⟨s1,s2⟩:=mrgL_states hA hC (a.length+(negL b).length) 0 0 hM (by omega)
 rw [← e] at s1 s2
 have hN:=hDif.pol.pos
 obtain ⟨t0,ht0⟩:∃ t0,t0<(minusL a b).length∧cr (cyP (minusL a b) t0) (cyP (minusL a b) (t0+1))<0:=by
  rcases Classical.em (∃ t0,t0<(minusL a b).length∧cr (cyP (minusL a b) t0) (cyP (minusL a b) (t0+1))<0) with g | g
  ·exact g
  ·exfalso
   have:ninB (minusL a b)=true:=(ninB_iff (by omega)).2 (fun t=>by
    have e1:cyP (minusL a b) t=cyP (minusL a b) (t % (minusL a b).length):=by unfold cyP;rw [Nat.mod_mod]
    have e2:cyP (minusL a b) (t+1)=cyP (minusL a b) (t % (minusL a b).length+1):=by unfold cyP;rw [Nat.mod_add_mod]
    rw [e1,e2]
    rcases Int.lt_or_le (cr (cyP (minusL a b) (t % (minusL a b).length)) (cyP (minusL a b) (t % (minusL a b).length+1))) 0 with q | q
    ·exact absurd ⟨_,Nat.mod_lt _ (by omega),q⟩ g
    ·exact q)
   rw [h0] at this
   cases this
 obtain ⟨ht1,ht2⟩:=ht0
 obtain ⟨D,hD⟩:∃ D,D=minusL a b:=⟨_,rfl⟩
 rw [← hD] at s1 s2 ht1 ht2 hN
 -- the corner and the next one
 obtain ⟨p1,h,hlt⟩:=s2 t0 ht1
 have st:=stI_succ (n:=a.length) (m:=(negL b).length) (E:=rimE a (lowI a)) (F:=rimE (negL b) (lowI (negL b))) t0 (0,0)
 have eA:rimA a (lowI a) a.length=rimA a (lowI a) 0:=by have:=hA.per 0;rwa [Nat.zero_add] at this
 have eC:rimA (negL b) (lowI (negL b)) (negL b).length=rimA (negL b) (lowI (negL b)) 0:=by have:=hC.per 0;rwa [Nat.zero_add] at this
 have p2:cyP D (t0+1)=vadd (rimA a (lowI a) (stI a.length (negL b).length (rimE a (lowI a)) (rimE (negL b) (lowI (negL b))) (t0+1) (0,0)).1) (rimA (negL b) (lowI (negL b)) (stI a.length (negL b).length (rimE a (lowI a)) (rimE (negL b) (lowI (negL b))) (t0+1) (0,0)).2):=by
  rcases Nat.lt_or_ge (t0+1) D.length with g | g
  ·rw [cyP_lt g];exact (s2 _ g).1
  ·have e3 : t0 + 1 = D.length := by omega
   rw [e3,s1,eA,eC]
   unfold cyP
   rw [Nat.mod_self]
   exact (s2 0 (by omega)).1
 rw [st] at p2
 rw [cyP_lt ht1,p1,p2] at ht2
 obtain ⟨S,hS⟩:∃ S,S=stI a.length (negL b).length (rimE a (lowI a)) (rimE (negL b) (lowI (negL b))) t0 (0,0):=⟨_,rfl⟩
 rw [← hS] at h hlt ht2
 obtain ⟨g1,g2,g3,-⟩:=go_facts h hlt
 obtain ⟨b1,b2⟩:=takes_between hA.cyc hC.cyc h hlt
 have ed:=step_edge hA hC (x:=S.1) (y:=S.2) g3
 change vsub (vadd (rimA a (lowI a) (stp a.length (negL b).length (rimE a (lowI a)) (rimE (negL b) (lowI (negL b))) S).1) (rimA (negL b) (lowI (negL b)) (stp a.length (negL b).length (rimE a (lowI a)) (rimE (negL b) (lowI (negL b))) S).2)) _=_ at ed
 generalize stp a.length (negL b).length (rimE a (lowI a)) (rimE (negL b) (lowI (negL b))) S=S' at *
 obtain ⟨P,hP⟩:∃ P,P=vadd (rimA a (lowI a) S.1) (rimA (negL b) (lowI (negL b)) S.2):=⟨_,rfl⟩
 obtain ⟨Q,hQ⟩:∃ Q,Q=vadd (rimA a (lowI a) S'.1) (rimA (negL b) (lowI (negL b)) S'.2):=⟨_,rfl⟩
 rw [← hP,← hQ] at ht2 ed
 have hcr:0<cr (vsub Q P) P:=by
  have:cr (vsub Q P) P = -cr P Q:=by unfold cr vsub;grind
  omega
 rw [ed] at hcr
 -- every difference is a sum of two corners
 have all:∀ j k,j<a.length→k<b.length→∃ x y,dpt2 a b j k=vadd (rimA a (lowI a) x) (rimA (negL b) (lowI (negL b)) y):=fun j k hj hk=>by
  have l1:lowI a<a.length:=lowTo_lt a a.length (by omega) (Nat.le_refl _)
  have l2:lowI (negL b)<b.length:=by have:lowI (negL b)<(negL b).length:=lowTo_lt (negL b) (negL b).length (by rw [negL_len];omega) (Nat.le_refl _);rwa [negL_len] at this
  refine ⟨j+(a.length-lowI a),k+(b.length-lowI (negL b)),?_⟩
  unfold rimA
  rw [negL_len,show lowI a+(j+(a.length-lowI a))=j+a.length by omega,Nat.add_mod_right,Nat.mod_eq_of_lt hj,show lowI (negL b)+(k+(b.length-lowI (negL b)))=k+b.length by omega,Nat.add_mod_right,Nat.mod_eq_of_lt hk,neg_px,neg_py]
  unfold dpt2 vadd
  ext <;> simp <;> omega
 have split:∀ (e:V) (x y:Nat),cr e (vadd (rimA a (lowI a) x) (rimA (negL b) (lowI (negL b)) y))=cr e (vsub (rimA a (lowI a) x) (rimA a (lowI a) S.1))+cr e (vsub (rimA (negL b) (lowI (negL b)) y) (rimA (negL b) (lowI (negL b)) S.2))+cr e P:=fun e x y=>by rw [hP];unfold cr vsub vadd;grind
 have sE:goE a.length (negL b).length (rimE a (lowI a)) (rimE (negL b) (lowI (negL b))) S.1 S.2=true→0<cr (rimE a (lowI a) S.1) P→∃ t,Sep a b (vsub (cyP a (t+1)) (cyP a t)):=fun hg hp=>by
  refine ⟨lowI a+S.1,fun j k hj hk=>?_⟩
  obtain ⟨x,y,exy⟩:=all j k hj hk
  have e4:vsub (cyP a (lowI a+S.1+1)) (cyP a (lowI a+S.1))=rimE a (lowI a) S.1:=rfl
  rw [e4,exy,split]
  obtain ⟨q1,q2⟩:=b1 hg
  have:=hA.left S.1 x
  have:=hC.cone q1 q2 y
  omega
 have sF:goF a.length (negL b).length (rimE a (lowI a)) (rimE (negL b) (lowI (negL b))) S.1 S.2=true→0<cr (rimE (negL b) (lowI (negL b)) S.2) P→∃ t,Sep a b (vneg (vsub (cyP b (t+1)) (cyP b t))):=fun hg hp=>by
  refine ⟨lowI (negL b)+S.2,fun j k hj hk=>?_⟩
  obtain ⟨x,y,exy⟩:=all j k hj hk
  have e4:vneg (vsub (cyP b (lowI (negL b)+S.2+1)) (cyP b (lowI (negL b)+S.2)))=rimE (negL b) (lowI (negL b)) S.2:=by
   unfold rimE edgX edgY vneg vsub cyP
   rw [negL_len,neg_px,neg_px,neg_py,neg_py]
   ext <;> simp <;> omega
  rw [e4,exy,split]
  obtain ⟨q1,q2⟩:=b2 hg
  have:=hC.left S.2 y
  have:=hA.cone q1 q2 x
  omega
 unfold mev at hcr
 cases ga:goE a.length (negL b).length (rimE a (lowI a)) (rimE (negL b) (lowI (negL b))) S.1 S.2 with
 | true =>
  cases gb:goF a.length (negL b).length (rimE a (lowI a)) (rimE (negL b) (lowI (negL b))) S.1 S.2 with
  | true =>
   rw [ga,gb] at hcr
   simp only [if_true,cr_addl] at hcr
   rcases Int.lt_or_le 0 (cr (rimE a (lowI a) S.1) P) with q | q
   ·exact .inl (sE ga q)
   ·exact .inr (sF gb (by omega))
  | false =>
   rw [ga,gb] at hcr
   exact .inl (sE ga (by simpa using hcr))
 | false =>
  rw [ga] at hcr
  have gb:goF a.length (negL b).length (rimE a (lowI a)) (rimE (negL b) (lowI (negL b))) S.1 S.2=true:=by rw [ga] at g3;simpa using g3
  exact .inr (sF gb (by simpa using hcr))
theorem deepTo_ge {l m : List V} {i : Nat} : ∀ k j, j ≤ k → dpt l m i j ≤ deepTo l m i k
  | 0, j, h => by obtain rfl : j = 0 := by omega
                  exact Int.le_refl _
  | k+1,j,h=>by
    rw [deepTo]
    rcases Nat.lt_or_ge j (k+1) with g | g
    · have := deepTo_ge (l := l) (m := m) (i := i) k j (by omega)
      split <;> omega
    · obtain rfl : j = k + 1 := by omega
      split <;> omega
theorem dpt_cr (l m:List V) {i k:Nat} (hi:i<l.length):dpt l m i k = -cr (vsub (cyP l (i+1)) (cyP l i)) (px l i-px m k,py l i-py m k):=by
 unfold dpt nrmX nrmY cr vsub cyP
 rw [Nat.mod_eq_of_lt hi]
 grind
theorem deep_neg {l m:List V} (h:checkE l=0) (hm:0<m.length) {i:Nat} (hi:i<l.length) (hd:deepZ l m i<0):Sep l m (vsub (cyP l (i+1)) (cyP l i)):=fun j k hj hk=>by
 have:=deepTo_ge (l:=l) (m:=m) (i:=i) (m.length-1) k (by omega)
 have hd':deepTo l m i (m.length-1)<0:=hd
 have e:=dpt_cr l m (k:=k) hi
 have lf:=(pol_of h).left i j
 rw [cyP_lt hj,cyP_lt hi] at lf
 have id:cr (vsub (cyP l (i+1)) (cyP l i)) (dpt2 l m j k)=cr (vsub (cyP l (i+1)) (cyP l i)) (vsub (px l j,py l j) (px l i,py l i))+cr (vsub (cyP l (i+1)) (cyP l i)) (px l i-px m k,py l i-py m k):=by unfold cr vsub dpt2;grind
 rw [id]
 rw [cyP_lt hi] at e ⊢
 omega
theorem deep_sep {l m:List V} (hm:0<m.length) {t:Nat} (h0:0<l.length) (hs:Sep l m (vsub (cyP l (t+1)) (cyP l t))):∃ i,i<l.length∧deepZ l m i<0:=by
 have hi:t % l.length<l.length:=Nat.mod_lt _ h0
 refine ⟨t % l.length,hi,?_⟩
 obtain ⟨k,hk,ek⟩:=deepTo_mem l m (t % l.length) (m.length-1)
 show deepTo l m (t % l.length) (m.length-1)<0
 rw [ek,dpt_cr l m hi]
 have:=hs (t % l.length) k hi (by omega)
 have e1:cyP l (t % l.length)=cyP l t:=by unfold cyP;rw [Nat.mod_mod]
 have e2:cyP l (t % l.length+1)=cyP l (t+1):=by unfold cyP;rw [Nat.mod_add_mod]
 rw [e1,e2]
 unfold dpt2 at this
 omega
theorem sep_swap {a b:List V} {e:V} (h:Sep a b e):Sep b a (vneg e):=fun j k hj hk=>by
 have:=h k j hk hj
 have e2:cr (vneg e) (dpt2 b a j k)=cr e (dpt2 a b k j):=by unfold cr vneg dpt2;grind
 rw [e2]
 exact this

theorem meets_nin {a b:List V} (ha:checkE a=0) (hb:checkE b=0):meetsB a b=ninB (minusL a b):=by
 obtain ⟨_,a3,_,_⟩:=checkE_zero ha
 obtain ⟨_,b3,_,_⟩:=checkE_zero hb
 have hD:=minus_dif ha hb
 cases q:ninB (minusL a b) with
 | true =>
  unfold meetsB
  rw [decide_eq_true_iff]
  refine ⟨bothE_zero.2 ⟨ha,hb⟩,fun i hi=>?_,fun i hi=>?_⟩
  ·rcases Int.lt_or_le (deepZ a b i) 0 with g | g
   ·have := sep_out hD (deep_neg ha (by omega) hi g)
    rw [q] at this;cases this
   ·exact g
  ·rcases Int.lt_or_le (deepZ b a i) 0 with g | g
   ·have := sep_out hD (sep_swap (deep_neg hb (by omega) hi g))
    rw [q] at this;cases this
   ·exact g
 | false =>
  unfold meetsB
  rw [decide_eq_false_iff_not]
  rintro ⟨-,g1,g2⟩
  rcases minus_sep ha hb q with ⟨t,hs⟩ | ⟨t,hs⟩
  ·obtain ⟨i, hi, hd⟩ := deep_sep (by omega) (by omega) hs
   have:=g1 i hi
   omega
  ·have hs2 := sep_swap hs
   rw [vneg_neg] at hs2
   obtain ⟨i,hi,hd⟩:=deep_sep (by omega) (by omega) hs2
   have:=g2 i hi
   omega

def boxB (x1 y1 x2 y2 p q:Int):Bool:=decide (min x1 x2≤p∧p≤max x1 x2∧min y1 y2≤q∧q≤max y1 y2)
def sgV (a b p:V):Int:=cmpZ (sideZ a.1 a.2 b.1 b.2 p.1 p.2) 0
def onV (a b p:V) (s:Int):Bool:=decide (s=0) && boxB a.1 a.2 b.1 b.2 p.1 p.2
def segB (a b c d:V):Bool:=(decide (sgV a b c*sgV a b d<0) && decide (sgV c d a*sgV c d b<0)) || (onV a b c (sgV a b c) || (onV a b d (sgV a b d) || (onV c d a (sgV c d a) || onV c d b (sgV c d b))))
theorem sg_zero {a b p:V}:sgV a b p=0↔cr (vsub b a) (vsub p a)=0:=cmpZ_zero
theorem sg_neg {a b p:V}:sgV a b p<0↔cr (vsub b a) (vsub p a)<0:=cmpZ_neg
theorem sg_pos {a b p:V}:0<sgV a b p↔0<cr (vsub b a) (vsub p a):=cmpZ_pos
theorem mul_neg_iff {x y:Int}:x*y<0↔(x<0∧0<y)∨(0<x∧y<0):=by
 constructor
 ·intro h
  rcases Int.lt_trichotomy x 0 with g | g | g
  ·refine .inl ⟨g, ?_⟩
   rcases Int.lt_or_le 0 y with k | k
   ·exact k
   ·have:=Int.mul_nonneg_of_nonpos_of_nonpos (Int.le_of_lt g) k;omega
  ·rw [g] at h;simp at h
  ·refine .inr ⟨g, ?_⟩
   rcases Int.lt_or_le y 0 with k | k
   ·exact k
   ·have:=Int.mul_nonneg (Int.le_of_lt g) k;omega
 ·rintro (⟨a, b⟩ | ⟨a, b⟩)
  ·exact Int.mul_neg_of_neg_of_pos a b
  ·exact Int.mul_neg_of_pos_of_neg a b

theorem on_between {a b p:V} (h:onV a b p (sgV a b p)=true) (e:V):¬ (0<cr e (vsub a p)∧0<cr e (vsub b p)):=by
 unfold onV at h
 simp only [Bool.and_eq_true,decide_eq_true_iff] at h
 obtain ⟨h0,hb⟩:=h
 rw [sg_zero] at h0
 unfold boxB at hb
 rw [decide_eq_true_iff] at hb
 rintro ⟨g1,g2⟩
 -- (b-a) (p-a) parallel
 have k1:cr e (vsub a p)*(b.1-a.1)+cr e (vsub b a)*(p.1-a.1)*(-1)*(-1)=cr e (vsub a p)*(b.1-a.1)+cr e (vsub b a)*(p.1-a.1):=by grind
 have idx:(b.1-a.1)*cr e (vsub a p) = -((p.1-a.1)*cr e (vsub b a))+e.1*(-(cr (vsub b a) (vsub p a))):=by unfold cr vsub;grind
 have idy:(b.2-a.2)*cr e (vsub a p) = -((p.2-a.2)*cr e (vsub b a))+e.2*(-(cr (vsub b a) (vsub p a))):=by unfold cr vsub;grind
 rw [h0] at idx idy
 simp only [Int.neg_zero,Int.mul_zero,Int.add_zero] at idx idy
 have eb:cr e (vsub b p)=cr e (vsub a p)+cr e (vsub b a):=by unfold cr vsub;grind
 rw [eb] at g2
 have hz:a.1=p.1→a.2=p.2→cr e (vsub a p)=0:=fun h1 h2=>by unfold cr vsub;rw [h1,h2];grind
 clear k1
 generalize cr e (vsub a p)=u at *
 generalize cr e (vsub b a)=w at *
 -- u > 0,u+w > 0,(b-a) u = -(p-a) w,p between a and b
 have one:∀ A B Q:Int,min A B≤Q→Q≤max A B→(B-A)*u = -((Q-A)*w)→A=B:=fun A B Q m1 m2 hq=>by
  rcases Int.lt_trichotomy A B with g | g | g
  ·exfalso
   have q0:0≤Q-A:=by omega
   have q1:Q-A≤B-A:=by omega
   have s1:=Int.mul_pos (show 0<B-A by omega) g1
   have s2:=Int.mul_nonneg q0 (show 0≤u+w by omega)
   have s3:=Int.mul_le_mul_of_nonneg_right q1 (show 0≤u by omega)
   have e1:(Q-A)*(u+w)=(Q-A)*u+(Q-A)*w:=by grind
   rcases Int.lt_or_le 0 (Q-A) with r | r
   ·have:=Int.mul_pos r g2;omega
   ·have : Q - A = 0 := by omega
    rw [this] at hq
    simp at hq
    omega
  ·exact g
  ·exfalso
   have q0:0≤A-Q:=by omega
   have q1:A-Q≤A-B:=by omega
   have s1:=Int.mul_pos (show 0<A-B by omega) g1
   have s3:=Int.mul_le_mul_of_nonneg_right q1 (show 0≤u by omega)
   have e1:(A-Q)*(u+w)=(A-Q)*u-(Q-A)*w:=by grind
   have e2:(A-B)*u = -((B-A)*u):=by grind
   rcases Int.lt_or_le 0 (A-Q) with r | r
   ·have:=Int.mul_pos r g2;omega
   ·have : Q - A = 0 := by omega
    rw [this] at hq
    simp at hq
    omega
 have x:=one a.1 b.1 p.1 (by omega) (by omega) idx
 have y:=one a.2 b.2 p.2 (by omega) (by omega) idy
 have:=hz (by omega) (by omega)
 omega

theorem seg_sep {a b c d:V} (h:segB a b c d=true) {e:V} (h1:0<cr e (vsub a c)) (h2:0<cr e (vsub a d)) (h3:0<cr e (vsub b c)) (h4:0<cr e (vsub b d)):False:=by
 unfold segB at h
 simp only [Bool.or_eq_true,Bool.and_eq_true,decide_eq_true_iff] at h
 have fl:∀ p q:V,cr (vneg e) (vsub q p)=cr e (vsub p q):=fun p q=>by unfold cr vneg vsub;grind
 rcases h with ⟨g1,g2⟩ | h | h | h | h
 ·rw [mul_neg_iff, sg_neg, sg_neg, sg_pos, sg_pos] at g1 g2
  have i1:cr (vsub d c) (vsub b c)*a.1-cr (vsub d c) (vsub a c)*b.1=cr (vsub b a) (vsub c a)*d.1-cr (vsub b a) (vsub d a)*c.1:=by unfold cr vsub;grind
  have i2:cr (vsub d c) (vsub b c)*a.2-cr (vsub d c) (vsub a c)*b.2=cr (vsub b a) (vsub c a)*d.2-cr (vsub b a) (vsub d a)*c.2:=by unfold cr vsub;grind
  have i3:cr (vsub d c) (vsub b c)-cr (vsub d c) (vsub a c)=cr (vsub b a) (vsub c a)-cr (vsub b a) (vsub d a):=by unfold cr vsub;grind
  generalize cr (vsub d c) (vsub b c)=s at *
  generalize cr (vsub d c) (vsub a c)=r at *
  generalize cr (vsub b a) (vsub c a)=p at *
  generalize cr (vsub b a) (vsub d a)=q at *
  have key:s*p*cr e (vsub a d)-s*q*cr e (vsub a c)-r*p*cr e (vsub b d)+r*q*cr e (vsub b c)=0:=by
   have e1 : s * p * cr e (vsub a d) - s * q * cr e (vsub a c) - r * p * cr e (vsub b d) + r * q * cr e (vsub b c)
     = e.1*((p-q)*(s*a.2-r*b.2)-(s-r)*(p*d.2-q*c.2))-e.2*((p-q)*(s*a.1-r*b.1)-(s-r)*(p*d.1-q*c.1)):=by unfold cr vsub;grind
   rw [e1,i1,i2,i3]
   grind
  rcases g2 with ⟨k1,k2⟩ | ⟨k1,k2⟩
  ·have pq : 0 < p ∧ q < 0 := by omega
   have m1:=Int.mul_pos (Int.mul_pos k2 pq.1) h2
   have m2:=Int.mul_pos (Int.mul_pos k2 (show 0 < -q by omega)) h1
   have m3:=Int.mul_pos (Int.mul_pos (show 0 < -r by omega) pq.1) h4
   have m4:=Int.mul_pos (Int.mul_pos (show 0 < -r by omega) (show 0 < -q by omega)) h3
   have n2:s * -q*cr e (vsub a c) = -(s*q*cr e (vsub a c)):=by grind
   have n3 : -r*p*cr e (vsub b d) = -(r*p*cr e (vsub b d)):=by grind
   have n4 : -r * -q*cr e (vsub b c)=r*q*cr e (vsub b c):=by grind
   omega
  ·have pq : p < 0 ∧ 0 < q := by omega
   have m1:=Int.mul_pos (Int.mul_pos (show 0 < -s by omega) (show 0 < -p by omega)) h2
   have m2:=Int.mul_pos (Int.mul_pos (show 0 < -s by omega) pq.2) h1
   have m3:=Int.mul_pos (Int.mul_pos k1 (show 0 < -p by omega)) h4
   have m4:=Int.mul_pos (Int.mul_pos k1 pq.2) h3
   have n1 : -s * -p*cr e (vsub a d)=s*p*cr e (vsub a d):=by grind
   have n2 : -s*q*cr e (vsub a c) = -(s*q*cr e (vsub a c)):=by grind
   have n3:r * -p*cr e (vsub b d) = -(r*p*cr e (vsub b d)):=by grind
   omega
 ·exact on_between h e ⟨h1,h3⟩
 ·exact on_between h e ⟨h2,h4⟩
 ·exact on_between h (vneg e) ⟨by rw [fl];exact h1,by rw [fl];exact h2⟩
 ·exact on_between h (vneg e) ⟨by rw [fl];exact h3,by rw [fl];exact h4⟩
theorem conv_box {L β A B x:Int} (hL:0<L) (h0:0≤β) (h1:β≤L) (h:(L-β)*A+β*B=L*x):min A B≤x∧x≤max A B:=by
 have k1:∀ m:Int,m≤A→m≤B→m≤x:=fun m a b=>by
  have p:=Int.mul_le_mul_of_nonneg_left a (show 0≤L-β by omega)
  have q:=Int.mul_le_mul_of_nonneg_left b h0
  have e:(L-β)*m+β*m=L*m:=by grind
  exact Int.le_of_mul_le_mul_left (show L*m≤L*x by omega) hL
 have k2:∀ m:Int,A≤m→B≤m→x≤m:=fun m a b=>by
  have p:=Int.mul_le_mul_of_nonneg_left a (show 0≤L-β by omega)
  have q:=Int.mul_le_mul_of_nonneg_left b h0
  have e:(L-β)*m+β*m=L*m:=by grind
  exact Int.le_of_mul_le_mul_left (show L*x≤L*m by omega) hL
 exact ⟨k1 _ (by omega) (by omega),k2 _ (by omega) (by omega)⟩

theorem line_box {A B Q A' B' Q':Int} (hne:A≠B) (hl:(B-A)*(Q'-A')=(Q-A)*(B'-A')) (h1:min A B≤Q) (h2:Q≤max A B):min A' B'≤Q'∧Q'≤max A' B':=by
 rcases Int.lt_or_gt_of_ne hne with g | g
 ·exact conv_box (L:=B-A) (β:=Q-A) (by omega) (by omega) (by omega) (by grind)
 ·exact conv_box (L:=A-B) (β:=A-Q) (by omega) (by omega) (by omega) (by grind)
theorem onV_of {a b p:V} (h0:cr (vsub b a) (vsub p a)=0) (hx:min a.1 b.1≤p.1∧p.1≤max a.1 b.1) (hy:min a.2 b.2≤p.2∧p.2≤max a.2 b.2):onV a b p (sgV a b p)=true:=by
 unfold onV boxB
 rw [sg_zero.2 h0]
 simp only [decide_true,Bool.true_and,decide_eq_true_iff]
 omega

theorem seg_line {a b c d : V} (hab : a.1 ≠ b.1 ∨ a.2 ≠ b.2) (h1 : cr (vsub b a) (vsub c a) = 0) (h2 : cr (vsub b a) (vsub d a) = 0)
  (ox:min a.1 b.1≤max c.1 d.1∧min c.1 d.1≤max a.1 b.1) (oy:min a.2 b.2≤max c.2 d.2∧min c.2 d.2≤max a.2 b.2) :
  onV a b c (sgV a b c)=true∨onV a b d (sgV a b d)=true∨onV c d a (sgV c d a)=true:=by
 have l1:(b.1-a.1)*(c.2-a.2)=(c.1-a.1)*(b.2-a.2):=by unfold cr vsub at h1;grind
 have l2:(b.1-a.1)*(d.2-a.2)=(d.1-a.1)*(b.2-a.2):=by unfold cr vsub at h2;grind
 have l3:cr (vsub b a) (vsub d c)=0:=by
  have:cr (vsub b a) (vsub d c)=cr (vsub b a) (vsub d a)-cr (vsub b a) (vsub c a):=by unfold cr vsub;grind
  omega
 rcases hab with hx | hy
 ·rcases Decidable.em (min a.1 b.1 ≤ c.1 ∧ c.1 ≤ max a.1 b.1) with g | g
  ·exact .inl (onV_of h1 g (line_box hx l1 g.1 g.2))
  ·rcases Decidable.em (min a.1 b.1 ≤ d.1 ∧ d.1 ≤ max a.1 b.1) with k | k
   ·exact .inr (.inl (onV_of h2 k (line_box hx l2 k.1 k.2)))
   ·refine .inr (.inr ?_)
    have q:min c.1 d.1≤a.1∧a.1≤max c.1 d.1:=by omega
    have hcd:c.1≠d.1:=by omega
    have l4:(d.1-c.1)*(a.2-c.2)=(a.1-c.1)*(d.2-c.2):=by
     have m:(b.1-a.1)*((d.1-c.1)*(a.2-c.2))=(b.1-a.1)*((a.1-c.1)*(d.2-c.2)):=by
      have e3:(b.1-a.1)*(d.2-c.2)=(d.1-c.1)*(b.2-a.2):=by unfold cr vsub at l3;grind
      grind
     exact Int.eq_of_mul_eq_mul_left (by omega) m
    exact onV_of (by unfold cr vsub;grind) q (line_box hcd l4 q.1 q.2)
 ·have l1' : (b.2 - a.2) * (c.1 - a.1) = (c.2 - a.2) * (b.1 - a.1) := by grind
  have l2':(b.2-a.2)*(d.1-a.1)=(d.2-a.2)*(b.1-a.1):=by grind
  rcases Decidable.em (min a.2 b.2≤c.2∧c.2≤max a.2 b.2) with g | g
  ·exact .inl (onV_of h1 (line_box hy l1' g.1 g.2) g)
  ·rcases Decidable.em (min a.2 b.2 ≤ d.2 ∧ d.2 ≤ max a.2 b.2) with k | k
   ·exact .inr (.inl (onV_of h2 (line_box hy l2' k.1 k.2) k))
   ·refine .inr (.inr ?_)
    have q:min c.2 d.2≤a.2∧a.2≤max c.2 d.2:=by omega
    have hcd:c.2≠d.2:=by omega
    have l4:(d.2-c.2)*(a.1-c.1)=(a.2-c.2)*(d.1-c.1):=by
     have m:(b.2-a.2)*((d.2-c.2)*(a.1-c.1))=(b.2-a.2)*((a.2-c.2)*(d.1-c.1)):=by
      have e3:(b.1-a.1)*(d.2-c.2)=(d.1-c.1)*(b.2-a.2):=by unfold cr vsub at l3;grind
      grind
     exact Int.eq_of_mul_eq_mul_left (by omega) m
    exact onV_of (by unfold cr vsub;grind) (line_box hcd l4 q.1 q.2) q

theorem seg_common {a b c d : V} {L β γ : Int} (hL : 0 < L) (hβ : 0 ≤ β ∧ β ≤ L) (hγ : 0 ≤ γ ∧ γ ≤ L) (hab : a.1 ≠ b.1 ∨ a.2 ≠ b.2)
  (e1:(L-β)*a.1+β*b.1=(L-γ)*c.1+γ*d.1) (e2:(L-β)*a.2+β*b.2=(L-γ)*c.2+γ*d.2):segB a b c d=true:=by
 have pq:(L-γ)*cr (vsub b a) (vsub c a)+γ*cr (vsub b a) (vsub d a)=0:=by
  have:(L-γ)*cr (vsub b a) (vsub c a)+γ*cr (vsub b a) (vsub d a)=(b.1-a.1)*((L-γ)*c.2+γ*d.2-L*a.2)-(b.2-a.2)*((L-γ)*c.1+γ*d.1-L*a.1):=by unfold cr vsub;grind
  rw [this,← e1,← e2]
  grind
 have rs:(L-β)*cr (vsub d c) (vsub a c)+β*cr (vsub d c) (vsub b c)=0:=by
  have:(L-β)*cr (vsub d c) (vsub a c)+β*cr (vsub d c) (vsub b c)=(d.1-c.1)*((L-β)*a.2+β*b.2-L*c.2)-(d.2-c.2)*((L-β)*a.1+β*b.1-L*c.1):=by unfold cr vsub;grind
  rw [this,e1,e2]
  grind
 have i3:cr (vsub d c) (vsub b c)-cr (vsub d c) (vsub a c)=cr (vsub b a) (vsub c a)-cr (vsub b a) (vsub d a):=by unfold cr vsub;grind
 have opp:∀ {x y g:Int},0≤g→g≤L→(L-g)*x+g*y=0→x≠0→y≠0→(x<0∧0<y)∨(0<x∧y<0):=fun {x y g} g0 g1 h hx hy=>by
  rcases Int.lt_or_gt_of_ne hx with k | k
  ·refine .inl ⟨k, ?_⟩
   rcases Int.lt_or_le 0 y with q | q
   ·exact q
   ·exfalso
    have m1:=Int.mul_nonneg (show 0≤L-g by omega) (show 0 ≤ -x by omega)
    have m2:=Int.mul_nonneg g0 (show 0 ≤ -y by omega)
    rw [Int.mul_neg] at m1 m2
    have z1:(L-g)*x=0:=by omega
    have z2:g*y=0:=by omega
    rcases Int.mul_eq_zero.1 z1 with t | t
    ·rcases Int.mul_eq_zero.1 z2 with u | u
     ·omega
     ·omega
    ·omega
  ·refine .inr ⟨k, ?_⟩
   rcases Int.lt_or_le y 0 with q | q
   ·exact q
   ·exfalso
    have m1:=Int.mul_nonneg (show 0≤L-g by omega) (show 0≤x by omega)
    have m2:=Int.mul_nonneg g0 q
    have z1:(L-g)*x=0:=by omega
    have z2:g*y=0:=by omega
    rcases Int.mul_eq_zero.1 z1 with t | t
    ·rcases Int.mul_eq_zero.1 z2 with u | u
     ·omega
     ·omega
    ·omega
 unfold segB
 simp only [Bool.or_eq_true,Bool.and_eq_true,decide_eq_true_iff]
 by_cases p0:cr (vsub b a) (vsub c a)=0
 ·by_cases q0 : cr (vsub b a) (vsub d a) = 0
  ·-- all on one line
   obtain ⟨X,hX⟩:∃ X,X=(L-β)*a.1+β*b.1:=⟨_,rfl⟩
   have ov:∀ A B C D:Int,(L-β)*A+β*B=(L-γ)*C+γ*D→min A B≤max C D∧min C D≤max A B:=fun A B C D h=>by
    have k1:(L-β)*A+β*B≤L*max A B:=by
     have p:=Int.mul_le_mul_of_nonneg_left (show A≤max A B by omega) (show 0≤L-β by omega)
     have q:=Int.mul_le_mul_of_nonneg_left (show B≤max A B by omega) hβ.1
     have e:(L-β)*max A B+β*max A B=L*max A B:=by grind
     omega
    have k2:L*min A B≤(L-β)*A+β*B:=by
     have p:=Int.mul_le_mul_of_nonneg_left (show min A B≤A by omega) (show 0≤L-β by omega)
     have q:=Int.mul_le_mul_of_nonneg_left (show min A B≤B by omega) hβ.1
     have e:(L-β)*min A B+β*min A B=L*min A B:=by grind
     omega
    have k3:(L-γ)*C+γ*D≤L*max C D:=by
     have p:=Int.mul_le_mul_of_nonneg_left (show C≤max C D by omega) (show 0≤L-γ by omega)
     have q:=Int.mul_le_mul_of_nonneg_left (show D≤max C D by omega) hγ.1
     have e:(L-γ)*max C D+γ*max C D=L*max C D:=by grind
     omega
    have k4:L*min C D≤(L-γ)*C+γ*D:=by
     have p:=Int.mul_le_mul_of_nonneg_left (show min C D≤C by omega) (show 0≤L-γ by omega)
     have q:=Int.mul_le_mul_of_nonneg_left (show min C D≤D by omega) hγ.1
     have e:(L-γ)*min C D+γ*min C D=L*min C D:=by grind
     omega
    exact ⟨Int.le_of_mul_le_mul_left (show L*min A B≤L*max C D by omega) hL,Int.le_of_mul_le_mul_left (show L*min C D≤L*max A B by omega) hL⟩
   rcases seg_line hab p0 q0 (ov _ _ _ _ e1) (ov _ _ _ _ e2) with g | g | g
   ·exact .inr (.inl g)
   ·exact .inr (.inr (.inl g))
   ·exact .inr (.inr (.inr (.inl g)))
  ·refine .inr (.inl ?_)
   rw [p0] at pq
   have g0:γ=0:=by
    rcases Int.mul_eq_zero.1 (show γ*cr (vsub b a) (vsub d a)=0 by simpa using pq) with t | t
    ·exact t
    ·exact absurd t q0
   subst g0
   exact onV_of p0 (conv_box hL hβ.1 hβ.2 (by rw [e1];grind)) (conv_box hL hβ.1 hβ.2 (by rw [e2];grind))
 ·by_cases q0 : cr (vsub b a) (vsub d a) = 0
  ·refine .inr (.inr (.inl ?_))
   rw [q0] at pq
   have g0:L-γ=0:=by
    rcases Int.mul_eq_zero.1 (show (L-γ)*cr (vsub b a) (vsub c a)=0 by simpa using pq) with t | t
    ·exact t
    ·exact absurd t p0
   have g1:γ=L:=by omega
   subst g1
   exact onV_of q0 (conv_box hL hβ.1 hβ.2 (by rw [e1];grind)) (conv_box hL hβ.1 hβ.2 (by rw [e2];grind))
  ·have o1 := opp hγ.1 hγ.2 pq p0 q0
   by_cases r0:cr (vsub d c) (vsub a c)=0
   ·have s0 : cr (vsub d c) (vsub b c) ≠ 0 := by omega
    rw [r0] at rs
    have b0:β=0:=by
     rcases Int.mul_eq_zero.1 (show β*cr (vsub d c) (vsub b c)=0 by simpa using rs) with t | t
     ·exact t
     ·exact absurd t s0
    subst b0
    exact .inr (.inr (.inr (.inl (onV_of r0 (conv_box hL hγ.1 hγ.2 (by rw [← e1];grind)) (conv_box hL hγ.1 hγ.2 (by rw [← e2];grind))))))
   ·by_cases s0 : cr (vsub d c) (vsub b c) = 0
    ·rw [s0] at rs
     have b0:L-β=0:=by
      rcases Int.mul_eq_zero.1 (show (L-β)*cr (vsub d c) (vsub a c)=0 by simpa using rs) with t | t
      ·exact t
      ·exact absurd t r0
     have b1:β=L:=by omega
     subst b1
     exact .inr (.inr (.inr (.inr (onV_of s0 (conv_box hL hγ.1 hγ.2 (by rw [← e1];grind)) (conv_box hL hγ.1 hγ.2 (by rw [← e2];grind))))))
    ·have o2 := opp hβ.1 hβ.2 rs r0 s0
     refine .inl ⟨?_,?_⟩
     ·rw [mul_neg_iff,sg_neg,sg_neg,sg_pos,sg_pos];exact o1
     ·rw [mul_neg_iff,sg_neg,sg_neg,sg_pos,sg_pos];exact o2

def rmeetB (a b:List V):Bool:=insB a (px b 0) (py b 0) || (insB b (px a 0) (py a 0) || ((List.range a.length).any fun i=>(List.range b.length).any fun k=>segB (cyP a i) (cyP a (i+1)) (cyP b k) (cyP b (k+1))))

theorem pol_mean {N:Nat} {P:Nat→V} (h:Pol N P) (hc:∀ t,0≤cr (P t) (P (t+1))):∃ (i:Nat) (w0 w1 w2:Int),0≤w0∧0≤w1∧0≤w2∧0<w0+w1+w2∧w0*(P 0).1+w1*(P i).1+w2*(P (i+1)).1=0∧w0*(P 0).2+w1*(P i).2+w2*(P (i+1)).2=0:=by
 by_cases hz:(P 0).1=0∧(P 0).2=0
 ·exact ⟨0,1,0,0,by omega,by omega,by omega,by omega,by rw [hz.1];simp,by rw [hz.2];simp⟩
 ·obtain ⟨t,ht⟩:∃ t,0<cr (vsub (P (t+1)) (P t)) (P 0):=by
   rcases Classical.em (∃ t,0<cr (vsub (P (t+1)) (P t)) (P 0)) with g | g
   ·exact g
   ·exfalso
    have le:∀ t,cr (P (t+1)) (P 0)≤cr (P t) (P 0):=fun t=>by
     rcases Int.lt_or_le 0 (cr (vsub (P (t+1)) (P t)) (P 0)) with q | q
     ·exact absurd ⟨t,q⟩ g
     ·have : cr (vsub (P (t + 1)) (P t)) (P 0) = cr (P (t + 1)) (P 0) - cr (P t) (P 0) := by unfold cr vsub; grind
      omega
    have le2:∀ k t,cr (P (t+k)) (P 0)≤cr (P t) (P 0):=fun k t=>by
     induction k with
     | zero=>exact Int.le_refl _
     | succ k ih=>have:=le (t+k);rw [← Nat.add_assoc];omega
    have hN:=h.pos
    have eq:∀ t,t≤N→cr (P t) (P 0)=0:=fun t ht=>by
     have a:=le2 t 0
     have b:=le2 (N-t) t
     rw [show t+(N-t)=0+N by omega,h.per,cr_self] at b
     rw [Nat.zero_add,cr_self] at a
     omega
    have z1:=eq 1 (by omega)
    have z2:=eq 2 (by omega)
    have tn:=h.turn 0
    change 0<cr (vsub (P 1) (P 0)) (vsub (P 2) (P 1)) at tn
    have k1:cr (P 1) (P 2)*(P 0).1=cr (P 1) (P 0)*(P 2).1-cr (P 2) (P 0)*(P 1).1:=by unfold cr;grind
    have k2:cr (P 1) (P 2)*(P 0).2=cr (P 1) (P 0)*(P 2).2-cr (P 2) (P 0)*(P 1).2:=by unfold cr;grind
    rw [z1,z2] at k1 k2
    simp only [Int.zero_mul,Int.sub_self] at k1 k2
    have c0:cr (P 1) (P 2)=0:=by
     rcases Int.mul_eq_zero.1 k1 with q | q
     ·exact q
     ·rcases Int.mul_eq_zero.1 k2 with q' | q'
      ·exact q'
      ·exact absurd ⟨q,q'⟩ hz
    have e3:cr (vsub (P 1) (P 0)) (vsub (P 2) (P 1))=cr (P 1) (P 2)+cr (P 2) (P 0)-cr (P 1) (P 0):=by unfold cr vsub;grind
    omega
  obtain ⟨M,hM⟩:∃ M,M=cr (P t) (P (t+1))+1:=⟨_,rfl⟩
  have M0:0<M:=by have:=hc t;omega
  have sh:=pol_shift h (-(M*(P 0).1),-(M*(P 0).2))
  obtain ⟨i,-,a,b,k,a0,ab,b0,k0,kb,e1,e2⟩:=pol_cross sh (v:=(M*(P 0).1,M*(P 0).2)) (fun s=>by
   have id:cr (vsub (vsub (P (s+1)) (-(M*(P 0).1),-(M*(P 0).2))) (vsub (P s) (-(M*(P 0).1),-(M*(P 0).2)))) (vsub (M*(P 0).1,M*(P 0).2) (vsub (P s) (-(M*(P 0).1),-(M*(P 0).2))))=cr (P s) (P (s+1)):=by unfold cr vsub;grind
   rw [id];exact hc s) (t0:=t) (by
   have id:cr (vsub (P t) (-(M*(P 0).1),-(M*(P 0).2))) (vsub (P (t+1)) (-(M*(P 0).1),-(M*(P 0).2)))=cr (P t) (P (t+1))-M*cr (vsub (P (t+1)) (P t)) (P 0):=by unfold cr vsub;grind
   rw [id]
   have:=Int.mul_le_mul_of_nonneg_left (show 1≤cr (vsub (P (t+1)) (P t)) (P 0) by omega) (show 0≤M by omega)
   omega)
  refine ⟨i,(b-k)*M,b-a,a,Int.mul_nonneg (by omega) (by omega),by omega,a0,by have:=Int.mul_nonneg (show 0≤b-k by omega) (show 0≤M by omega);omega,?_,?_⟩
  ·unfold vsub at e1;dsimp only at e1;grind
  ·unfold vsub at e2;dsimp only at e2;grind

theorem inP_mean {N:Nat} {P:Nat→V} (h:Pol N P) {i j k:Nat} {u v w:Int} (hu:0≤u) (hv:0≤v) (hw:0≤w):inP P (u*(P i).1+v*(P j).1+w*(P k).1,u*(P i).2+v*(P j).2+w*(P k).2) (u+v+w):=fun t=>by
 have a:=Int.mul_nonneg hu (h.left t i)
 have b:=Int.mul_nonneg hv (h.left t j)
 have c:=Int.mul_nonneg hw (h.left t k)
 have id : cr (vsub (P (t + 1)) (P t)) (vsub (u * (P i).1 + v * (P j).1 + w * (P k).1, u * (P i).2 + v * (P j).2 + w * (P k).2) ((u + v + w) * (P t).1, (u + v + w) * (P t).2))
   = u*cr (vsub (P (t+1)) (P t)) (vsub (P i) (P t))+v*cr (vsub (P (t+1)) (P t)) (vsub (P j) (P t))+w*cr (vsub (P (t+1)) (P t)) (vsub (P k) (P t)):=by unfold cr vsub;grind
 rw [id]
 omega

theorem pol_between {N:Nat} {P:Nat→V} (h:Pol N P) {Y q:V} {l:Int} (hl:0<l) (hY:inP P Y l) (hq:¬ inP P q 1) :
  ∃ t,∃ a b k:Int,0≤a∧a≤b∧0<b∧0≤k∧k≤b∧l*(b*(P t).1+a*((P (t+1)).1-(P t).1))=l*b*q.1+k*(Y.1-l*q.1)∧l*(b*(P t).2+a*((P (t+1)).2-(P t).2))=l*b*q.2+k*(Y.2-l*q.2):=by
 obtain ⟨t0,ht0⟩:∃ t0,cr (vsub (P (t0+1)) (P t0)) (vsub q (P t0))<0:=by
  rcases Classical.em (∃ t0,cr (vsub (P (t0+1)) (P t0)) (vsub q (P t0))<0) with g | g
  ·exact g
  ·exact absurd (inP_one.2 (fun t=>by
    rcases Int.lt_or_le (cr (vsub (P (t+1)) (P t)) (vsub q (P t))) 0 with r | r
    ·exact absurd ⟨t,r⟩ g
    ·exact r)) hq
 have sc:=pol_scale (pol_shift h q) hl
 obtain ⟨t,-,a,b,k,a0,ab,b0,k0,kb,e1,e2⟩:=pol_cross sc (v:=(Y.1-l*q.1,Y.2-l*q.2)) (fun s=>by
  have id:cr (vsub (l*(vsub (P (s+1)) q).1,l*(vsub (P (s+1)) q).2) (l*(vsub (P s) q).1,l*(vsub (P s) q).2)) (vsub (Y.1-l*q.1,Y.2-l*q.2) (l*(vsub (P s) q).1,l*(vsub (P s) q).2))=l*cr (vsub (P (s+1)) (P s)) (vsub Y (l*(P s).1,l*(P s).2)):=by unfold cr vsub;grind
  try dsimp only
  rw [id];exact Int.mul_nonneg (by omega) (hY s)) (t0:=t0) (by
  have id:cr (l*(vsub (P t0) q).1,l*(vsub (P t0) q).2) (l*(vsub (P (t0+1)) q).1,l*(vsub (P (t0+1)) q).2)=l*l*cr (vsub (P (t0+1)) (P t0)) (vsub q (P t0)):=by unfold cr vsub;grind
  try dsimp only
  rw [id]
  have:=Int.mul_pos (Int.mul_pos hl hl) (show 0 < -cr (vsub (P (t0+1)) (P t0)) (vsub q (P t0)) by omega)
  rw [Int.mul_neg] at this
  omega)
 try dsimp only at e1 e2
 refine ⟨t,a,b,k,a0,ab,b0,k0,kb,?_,?_⟩
 ·unfold vsub at e1;dsimp only at e1;grind
 ·unfold vsub at e2;dsimp only at e2;grind
theorem first_out (p : Nat → Prop) (i : Nat) (hi : p i) : ∀ n, ¬ p (i + n) → ∃ r, p r ∧ ¬ p (r + 1)
 | 0,h=>absurd hi h
 | n+1,h=>by
  rcases Classical.em (p (i+n)) with g | g
  ·exact ⟨i+n,g,h⟩
  ·exact first_out p i hi n g
theorem cyP_ne {l:List V} (h:checkE l=0) (t:Nat):(cyP l t).1≠(cyP l (t+1)).1∨(cyP l t).2≠(cyP l (t+1)).2:=by
 have tn:=(pol_of h).turn t
 have:=(cr_ne (show cr (vsub (cyP l (t+1)) (cyP l t)) (vsub (cyP l (t+2)) (cyP l (t+1)))≠0 by omega)).1
 unfold vsub at this
 dsimp only at this
 omega

theorem meet_eq {a b:List V} (ha:checkE a=0) (hb:checkE b=0):rmeetB a b=meetsB a b:=by
 obtain ⟨_,a3,wa,_⟩:=checkE_zero ha
 obtain ⟨_,b3,wb,_⟩:=checkE_zero hb
 have hA:=pol_of ha
 have hB:=pol_of hb
 have hD:=minus_dif ha hb
 have N3:=hD.pol.pos
 have insA:insB a (px b 0) (py b 0)=true↔inP (cyP a) (cyP b 0) 1:=by rw [cyP_lt (by omega)];exact has_iff ha (allWithin_at wb (by omega))
 have insB':insB b (px a 0) (py a 0)=true↔inP (cyP b) (cyP a 0) 1:=by rw [cyP_lt (by omega)];exact has_iff hb (allWithin_at wa (by omega))
 rw [meets_nin ha hb,Bool.eq_iff_iff]
 constructor
 ·intro hm
  cases q:ninB (minusL a b) with
  | true=>rfl
  | false =>
   exfalso
   obtain ⟨e,he⟩:∃ e,Sep a b e:=by
    rcases minus_sep ha hb q with ⟨t,h⟩ | ⟨t,h⟩
    ·exact ⟨_,h⟩
    ·exact ⟨_,h⟩
   have sep:∀ s t,0<cr e (vsub (cyP a s) (cyP b t)):=fun s t=>by
    obtain ⟨i,i1,i2⟩:=cyP_ex (l:=a) (by omega) s
    obtain ⟨k,k1,k2⟩:=cyP_ex (l:=b) (by omega) t
    have:=he i k i1 k1
    rw [i2,k2]
    exact this
   have inn:∀ {P Q:List V} (hP:Pol P.length (cyP P)) (f:V),inP (cyP P) (cyP Q 0) 1→(∀ s,0<cr f (vsub (cyP P s) (cyP Q 0)))→False:=fun {P Q} hP f h1 h2=>by
    refine half_contra (pol_shift hP (cyP Q 0)) (vneg f) (fun t=>by rw [cr_negl];have:=h2 t;omega) (fun t=>?_)
    have:=inP_one.1 h1 t
    have id:cr (vsub (cyP P t) (cyP Q 0)) (vsub (cyP P (t+1)) (cyP Q 0))=cr (vsub (cyP P (t+1)) (cyP P t)) (vsub (cyP Q 0) (cyP P t)):=by unfold cr vsub;grind
    rw [id];exact this
   unfold rmeetB at hm
   simp only [Bool.or_eq_true,List.any_eq_true,List.mem_range] at hm
   rcases hm with h | h | ⟨i,hi,k,hk,h⟩
   ·exact inn hA e (insA.1 h) (fun s=>sep s 0)
   ·refine inn hB (vneg e) (insB'.1 h) (fun s => ?_)
    have:=sep 0 s
    have id:cr (vneg e) (vsub (cyP b s) (cyP a 0))=cr e (vsub (cyP a 0) (cyP b s)):=by unfold cr vneg vsub;grind
    rw [id];exact this
   ·exact seg_sep h (sep _ _) (sep _ _) (sep _ _) (sep _ _)
 ·intro hin
  have hc:=(ninB_iff (by omega)).1 hin
  rcases Classical.em (inP (cyP a) (cyP b 0) 1) with g1 | g1
  ·unfold rmeetB;rw [insA.2 g1];rfl
  rcases Classical.em (inP (cyP b) (cyP a 0) 1) with g2 | g2
  ·unfold rmeetB;rw [insB'.2 g2];simp
  -- a common point
  obtain ⟨i,w0,w1,w2,c0,c1,c2,cs,m1,m2⟩:=pol_mean hD.pol hc
  obtain ⟨j0,k0,j0l,k0l,d0⟩:=hD.mem 0
  obtain ⟨j1,k1,j1l,k1l,d1⟩:=hD.mem i
  obtain ⟨j2,k2,j2l,k2l,d2⟩:=hD.mem (i+1)
  rw [d0,d1,d2] at m1 m2
  unfold dpt2 at m1 m2
  dsimp only at m1 m2
  have za:=inP_mean hA (i:=j0) (j:=j1) (k:=j2) c0 c1 c2
  have zb:=inP_mean hB (i:=k0) (j:=k1) (k:=k2) c0 c1 c2
  rw [cyP_lt j0l,cyP_lt j1l,cyP_lt j2l] at za
  rw [cyP_lt k0l,cyP_lt k1l,cyP_lt k2l] at zb
  dsimp only at za zb
  obtain ⟨Z,hZ⟩:∃ Z:V,Z=(w0*px a j0+w1*px a j1+w2*px a j2,w0*py a j0+w1*py a j1+w2*py a j2):=⟨_,rfl⟩
  have hZ':(w0*px b k0+w1*px b k1+w2*px b k2,w0*py b k0+w1*py b k1+w2*py b k2)=Z:=by
   rw [hZ]
   ext
   ·show w0 * px b k0 + w1 * px b k1 + w2 * px b k2 = w0 * px a j0 + w1 * px a j1 + w2 * px a j2
    grind
   ·show w0 * py b k0 + w1 * py b k1 + w2 * py b k2 = w0 * py a j0 + w1 * py a j1 + w2 * py a j2
    grind
  rw [← hZ] at za
  rw [hZ'] at zb
  generalize w0+w1+w2=κ at *
  clear hZ hZ' m1 m2 d0 d1 d2
  -- where the way from the first corner of b enters a
  obtain ⟨s,x,y,k,x0,xy,y0,kk0,kk1,f1,f2⟩:=pol_between hA cs za g1
  have yb:inP (cyP b) (κ*(y*(cyP a s).1+x*((cyP a (s+1)).1-(cyP a s).1)),κ*(y*(cyP a s).2+x*((cyP a (s+1)).2-(cyP a s).2))) (κ*y):=fun t=>by
   rw [f1,f2]
   have p1:=Int.mul_nonneg (Int.mul_nonneg (show 0≤y-k by omega) (show 0≤κ by omega)) (hB.left t 0)
   have p2:=Int.mul_nonneg kk0 (zb t)
   have id : cr (vsub (cyP b (t + 1)) (cyP b t)) (vsub (κ * y * (cyP b 0).1 + k * (Z.1 - κ * (cyP b 0).1), κ * y * (cyP b 0).2 + k * (Z.2 - κ * (cyP b 0).2)) (κ * y * (cyP b t).1, κ * y * (cyP b t).2))
     = (y-k)*κ*cr (vsub (cyP b (t+1)) (cyP b t)) (vsub (cyP b 0) (cyP b t))+k*cr (vsub (cyP b (t+1)) (cyP b t)) (vsub Z (κ*(cyP b t).1,κ*(cyP b t).2)):=by unfold cr vsub;grind
   rw [id]
   omega
  -- an edge of a with a point in b and an end outside
  obtain ⟨r,l,α,q,l0,α0,αl,hq,hout,hY⟩:∃ (r:Nat) (l α:Int) (q:Bool),0<l∧0≤α∧α≤l∧True∧¬ inP (cyP b) (if q=true then cyP a r else cyP a (r+1)) 1∧inP (cyP b) ((l-α)*(cyP a r).1+α*(cyP a (r+1)).1,(l-α)*(cyP a r).2+α*(cyP a (r+1)).2) l:=by
   have yb':inP (cyP b) ((κ*y-κ*x)*(cyP a s).1+κ*x*(cyP a (s+1)).1,(κ*y-κ*x)*(cyP a s).2+κ*x*(cyP a (s+1)).2) (κ*y):=by
    have e1:(κ*y-κ*x)*(cyP a s).1+κ*x*(cyP a (s+1)).1=κ*(y*(cyP a s).1+x*((cyP a (s+1)).1-(cyP a s).1)):=by grind
    have e2:(κ*y-κ*x)*(cyP a s).2+κ*x*(cyP a (s+1)).2=κ*(y*(cyP a s).2+x*((cyP a (s+1)).2-(cyP a s).2)):=by grind
    rw [e1,e2];exact yb
   rcases Classical.em (inP (cyP b) (cyP a s) 1) with h1 | h1
   ·have per:¬ inP (cyP b) (cyP a (s+(a.length-s % a.length))) 1:=by
     have e:cyP a (s+(a.length-s % a.length))=cyP a 0:=by
      have:=Nat.mod_add_div s a.length
      have hm:=Nat.mod_lt s (show 0<a.length by omega)
      have e5:s+(a.length-s % a.length)=a.length*(s / a.length+1):=by rw [Nat.mul_add];omega
      rw [e5]
      unfold cyP
      rw [Nat.mul_mod_right,Nat.zero_mod]
     rw [e];exact g2
    obtain ⟨r,r1,r2⟩:=first_out (fun t=>inP (cyP b) (cyP a t) 1) s h1 _ per
    refine ⟨r,1,0,false,by omega,by omega,by omega,trivial,by simpa using r2,?_⟩
    simp only [Int.sub_zero,Int.one_mul,Int.zero_mul,Int.add_zero]
    exact r1
   ·exact ⟨s,κ*y,κ*x,true,Int.mul_pos cs y0,Int.mul_nonneg (by omega) x0,Int.mul_le_mul_of_nonneg_left xy (by omega),trivial,by simpa using h1,yb'⟩
  obtain ⟨t,u,v,g,u0,uv,v0,gg0,gg1,e1,e2⟩:=pol_between hB l0 hY hout
  have seg:segB (cyP a r) (cyP a (r+1)) (cyP b t) (cyP b (t+1))=true:=by
   have lv:=Int.mul_pos l0 v0
   have lu:0≤l*u∧l*u≤l*v:=⟨Int.mul_nonneg (by omega) u0,Int.mul_le_mul_of_nonneg_left uv (by omega)⟩
   cases q with
   | true =>
    simp only [if_true] at e1 e2
    have gα:0≤g*α∧g*α≤l*v:=⟨Int.mul_nonneg gg0 α0,by rw [Int.mul_comm l v];exact Int.mul_le_mul gg1 αl α0 (by omega)⟩
    exact seg_common (L:=l*v) (β:=g*α) (γ:=l*u) lv gα lu (cyP_ne ha r) (by grind) (by grind)
   | false =>
    simp only [Bool.false_eq_true,if_false] at e1 e2
    have gα:0≤g*(l-α)∧g*(l-α)≤l*v:=⟨Int.mul_nonneg gg0 (by omega),by rw [Int.mul_comm l v];exact Int.mul_le_mul gg1 (by omega) (by omega) (by omega)⟩
    exact seg_common (L:=l*v) (β:=l*v-g*(l-α)) (γ:=l*u) lv (by omega) lu (cyP_ne ha r) (by grind) (by grind)
  unfold rmeetB
  simp only [Bool.or_eq_true,List.any_eq_true,List.mem_range]
  refine .inr (.inr ⟨r % a.length,Nat.mod_lt _ (by omega),t % b.length,Nat.mod_lt _ (by omega),?_⟩)
  have m1:∀ (l:List V) (t:Nat),cyP l (t % l.length)=cyP l t:=fun l t=>by unfold cyP;rw [Nat.mod_mod]
  have m2:∀ (l:List V) (t:Nat),cyP l (t % l.length+1)=cyP l (t+1):=fun l t=>by unfold cyP;rw [Nat.mod_add_mod]
  rw [m1,m1,m2,m2]
  exact seg
end
end Go.Proofs.YtiaoandbdgdecaaGreat
