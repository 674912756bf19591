/- Parts of a proof: contracts and laws. -/
import Derived.Test.YtokgmcomgflloaaGreatQX09
import Derived.Test.YtokgmcomgflloaaGreatQX08
import Derived.Test.YtokgmcomgflloaaGreatQX03
import Derived.BigQuiet
import Derived.Test.YtokgmcomgflloaaGreatQX06
set_option maxRecDepth 100000
set_option maxHeartbeats 16000000
namespace Go.Proofs.YtokgmcomgflloaaGreat
section
set_option linter.unusedVariables false
set_option linter.unusedSimpArgs false
open Go.RowKit
variable {w0 w w':World}

theorem bC.away {g:Nat} {b:Bd} {A:Option Addr} {n c:Nat} (h:bC w g b A n c) (k o:Nat) (v:Value) (hne:k≠g):bC (w.setCell ⟨k,o,none⟩ v) g b A n c :=
 ⟨aW hne h.c0,aW hne h.c1,aW hne h.c2,aW hne h.c3,aW hne h.c4,aW hne h.c5,aW hne h.c6,aW hne h.c7,aW hne h.c8,aW hne h.c9,aW hne h.c10,aW hne h.c11,aW hne h.c12,fun j=>by rw [World.frozen?_setCell];exact h.free j⟩
theorem aF (n l h:Int) (w:World):Calls Tryz.prog 66 #[.int .i64 n,.int .i64 l,.int .i64 h] w (dw (.bool (dU n l h)) w):=by
 go_enter Tryz.func66,Tryz.ntmps66
 go_wp2
 all_goals
  go_returns
  exact ⟨by simp [dU, *] <;> omega,by go_grown⟩

theorem Ci (a b c d p q:Int):bS c d p q a b=bS a b c d p q:=by unfold bS;grind
theorem jP (l:List V) (i k m:Nat):eD l k m i=eD l i k m:=Ci _ _ _ _ _ _
theorem zO {x y:Int} (hx:0<x) (h:0<x*y):0<y:=by
 rcases Int.lt_trichotomy y 0 with h1 | h1 | h1
 ·have:=Int.mul_neg_of_pos_of_neg hx h1;omega
 ·subst h1;simp at h
 ·exact h1
theorem sG {x y:Int} (hx:0<x) (h:0≤x*y):0≤y:=by
 rcases Int.lt_or_le y 0 with h1 | h1
 ·have:=Int.mul_neg_of_pos_of_neg hx h1;omega
 ·exact h1

theorem Gf (ax ay bx b_y cx cy dx dy ex ey:Int):bS ax ay bx b_y dx dy*bS ax ay cx cy ex ey=bS ax ay bx b_y cx cy*bS ax ay dx dy ex ey+bS ax ay bx b_y ex ey*bS ax ay cx cy dx dy:=by
 unfold bS;generalize bx-ax=b1;generalize b_y-ay=b2;generalize cx-ax=c1;generalize cy-ay=c2;generalize dx-ax=d1;generalize dy-ay=d2;generalize ex-ax=e1;generalize ey-ay=e2;grind
theorem jg {l:List V} (h:jJ l l.length) {i k:Nat} (hi:i<l.length) (hk:k<l.length) (h1:k≠i) (h2:k≠(i+1) % l.length):0<eD l i ((i+1) % l.length) k:=by
 have:=h i hi k hk;simp only [fD,decide_eq_false_iff_not] at this;omega
theorem pF {l:List V} (h:jJ l l.length):yu l l.length:=by
 intro i hi k hik hk
 -- by induction on m,from k+1 on
 have key:∀ d m,m=k+1+d→m<l.length→0<eD l i k m:=by
  intro d
  induction d with
  | zero =>
   intro m hm hml;have e:=jg h (i:=k) (k:=i) hk hi (by omega) (by rw [Nat.mod_eq_of_lt (by omega)];omega);rw [Nat.mod_eq_of_lt (by omega)] at e;rw [hm,← jP];simpa using e
  | succ d ih =>
   intro m hm hml;have h1:=ih (k+1+d) rfl (by omega);have h2:=jg h (i:=k+1+d) (k:=i) (by omega) hi (by omega) (by rw [Nat.mod_eq_of_lt (by omega)];omega);rw [Nat.mod_eq_of_lt (by omega),show k+1+d+1=m by omega,jP] at h2
   by_cases e:k=i+1
   ·have h3 := jg h (i := i) (k := m) hi hml (by omega) (by rw [Nat.mod_eq_of_lt (by omega)]; omega);rw [Nat.mod_eq_of_lt (by omega)] at h3;rw [e];exact h3
   ·have h3 := jg h (i := i) (k := k) hi hk (by omega) (by rw [Nat.mod_eq_of_lt (by omega)]; omega);have h4:=jg h (i:=i) (k:=k+1+d) hi (by omega) (by omega) (by rw [Nat.mod_eq_of_lt (by omega)];omega);have h5:=jg h (i:=i) (k:=m) hi hml (by omega) (by rw [Nat.mod_eq_of_lt (by omega)];omega);rw [Nat.mod_eq_of_lt (by omega)] at h3 h4 h5;have hp:=Gf (px l i) (py l i) (px l (i+1)) (py l (i+1)) (px l k) (py l k) (px l (k+1+d)) (py l (k+1+d)) (px l m) (py l m)
    have hq:0<eD l i (i+1) (k+1+d)*eD l i k m:=by
     show 0<bS _ _ _ _ _ _*bS _ _ _ _ _ _;rw [hp];have m1:=Int.mul_pos h3 h2;have m2:=Int.mul_pos h5 h1;unfold eD at m1 m2;omega
    exact zO h4 hq
 intro m hkm hm;exact key (m-k-1) m (by omega) hm
theorem wR {l:List V} (h3:3≤l.length) (h:yu l l.length):jJ l l.length:=by
 intro i hi k hk;refine jr ?_
 by_cases h1:k=i
 ·exact .inl h1
 by_cases h2:k=(i+1) % l.length
 ·exact .inr (.inl h2)
 refine .inr (.inr ?_)
 by_cases e:i+1=l.length
 ·have e2 : (i + 1) % l.length = 0 := by rw [e, Nat.mod_self]
  rw [e2] at h2 ⊢;have:=h 0 (by omega) k (by omega) hk i (by omega) hi;rwa [← jP,← jP] at this
 ·rw [Nat.mod_eq_of_lt (by omega)] at h2 ⊢
  by_cases hlt:k<i
  ·have := h k hk i hlt hi (i + 1) (by omega) (by omega);rwa [← jP] at this
  ·exact h i hi (i+1) (by omega) (by omega) k (by omega) hk
theorem sS (l:List V):bF l=iT l:=by
 by_cases h8:8<l.length
 ·rw [bF,if_pos h8,iT,if_pos h8]
 by_cases h3:l.length<3
 ·rw [bF,if_neg h8,if_pos h3,iT,if_neg h8,if_pos h3]
 cases hw:aT 65536000 l with
 | false=>rw [bF,if_neg h8,if_neg h3,if_pos hw,iT,if_neg h8,if_neg h3,if_pos hw]
 | true =>
  rcases vL l with h | h | h | h
  ·rw [h,wU (by omega) (by omega) hw (pF (dX h).2.2.2)]
  ·exfalso;rw [bF,if_neg h8,if_neg h3,if_neg (by simp [hw])] at h
   split at h <;> omega
  ·exfalso;rw [bF,if_neg h8,if_neg h3,if_neg (by simp [hw])] at h
   split at h <;> omega
  ·by_cases hz : iT l = 0
   ·have := uF (by omega) (by omega) hw (wR (by omega) (zC hz).2.2.2);omega
   ·rw [h];unfold iT at hz ⊢;rw [if_neg h8,if_neg h3,if_neg (by simp [hw])] at hz ⊢
    split at hz
    ·exact absurd rfl hz
    ·rename_i hh;rw [if_neg hh]

theorem I7 (ax ay bx b_y cx cy px' py' ex ey fx fy:Int) :
  bS ax ay bx b_y cx cy*bS ex ey fx fy px' py'=bS bx b_y cx cy px' py'*bS ex ey fx fy ax ay+bS cx cy ax ay px' py'*bS ex ey fx fy bx b_y+bS ax ay bx b_y px' py'*bS ex ey fx fy cx cy:=by
 unfold bS;grind
theorem kZ {l:List V} (h:jJ l l.length) {i j:Nat} (hi:i<l.length) (hj:j<l.length):0≤eD l i ((i+1) % l.length) j:=by
 by_cases h1:j=i
 ·subst h1;unfold eD bS;simp
 by_cases h2:j=(i+1) % l.length
 ·subst h2;unfold eD bS;rw [Int.mul_comm];omega
 ·exact Int.le_of_lt (jg h hi hj h1 h2)
theorem has_eq {l:List V} {p q:Int} (hE:bF l=0):hasB l p q=sH l p q:=by
 obtain ⟨h8,h3,hw,hr⟩:=dX hE;have ht:=pF hr;rw [Bool.eq_iff_iff,Ef,Fb]
 constructor
 ·rintro ⟨_, hp, ha⟩;refine ⟨hp,?_⟩
  -- the first m from 2 on of which p is not to the left
  have s1:0≤cK l 0 1 p q:=by
   have:=ha 0 (by omega);rwa [oN,Nat.mod_eq_of_lt (by omega)] at this
  have sn:cK l 0 (l.length-1) p q≤0:=by
   have:=ha (l.length-1) (by omega);rw [oN,show l.length-1+1=l.length by omega,Nat.mod_self] at this;unfold cK;have e:bS (px l 0) (py l 0) (px l (l.length-1)) (py l (l.length-1)) p q = - bS (px l (l.length-1)) (py l (l.length-1)) (px l 0) (py l 0) p q:=by unfold bS;grind
   omega
  have down:∀ e,e+2≤l.length→(∃ m,2≤m∧m<l.length∧0≤cK l 0 (m-1) p q∧cK l 0 m p q≤0)∨cK l 0 (l.length-1-e) p q≤0:=by
   intro e
   induction e with
   | zero=>intro _;right;simpa using sn
   | succ e ih =>
    intro he
    rcases ih (by omega) with h | h
    ·exact .inl h
    ·rcases Int.lt_or_le (cK l 0 (l.length - 1 - (e + 1)) p q) 0 with h2 | h2
     ·exact .inr (by omega)
     ·exact .inl ⟨l.length-1-e,by omega,by omega,by rw [show l.length-1-e-1=l.length-1-(e+1) by omega];exact h2,h⟩
  obtain ⟨m,hm2,hm,a,b⟩:∃ m,2≤m∧m<l.length∧0≤cK l 0 (m-1) p q∧cK l 0 m p q≤0:=by
   rcases down (l.length-3) (by omega) with h | h
   ·exact h
   ·refine ⟨2, by omega, by omega, s1, ?_⟩;rwa [show l.length-1-(l.length-3)=2 by omega] at h
  refine ⟨m,hm2,hm,decide_eq_true ⟨a,?_,?_⟩⟩
  ·have := ha (m - 1) (by omega);rwa [oN,show m-1+1=m by omega,Nat.mod_eq_of_lt hm] at this
  ·have e : cK l m 0 p q = - cK l 0 m p q := by unfold cK bS; grind
   omega
 ·rintro ⟨hp, m, hm2, hm, h⟩;obtain ⟨a,b,c⟩:=of_decide_eq_true h;refine ⟨hE,hp,fun i hi=>?_⟩;have T:=ht 0 (by omega) (m-1) (by omega) (by omega) m (by omega) hm;have e:=I7 (px l 0) (py l 0) (px l (m-1)) (py l (m-1)) (px l m) (py l m) p q (px l i) (py l i) (px l ((i+1) % l.length)) (py l ((i+1) % l.length));have m1:=Int.mul_nonneg b (kZ hr hi (show 0<l.length by omega));have m2:=Int.mul_nonneg c (kZ hr hi (show m-1<l.length by omega));have m3:=Int.mul_nonneg a (kZ hr hi hm);refine sG T ?_;show 0≤bS _ _ _ _ _ _*bS _ _ _ _ _ _;rw [e];unfold cK eD at *
  omega
end
end Go.Proofs.YtokgmcomgflloaaGreat
