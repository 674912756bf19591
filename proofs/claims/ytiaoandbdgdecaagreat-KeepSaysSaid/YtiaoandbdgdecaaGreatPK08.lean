/- Parts of a proof: contracts and laws. -/
import Derived.Test.YtiaoandbdgdecaaGreatPK04
import Derived.Test.YtiaoandbdgdecaaGreatPK07
import Derived.Test.YtiaoandbdgdecaaGreatPK03
import Derived.BigQuiet
import Derived.Deep.DeepCutAuto
import Derived.WalkSpells
import Derived.Laws.Bits64b
import Derived.Laws.MathBits
import Derived.Deep.WholeRow
import Derived.Maps.AppendAt
import Derived.Test.YtiaoandbdgdecaaGreatPK06
set_option maxRecDepth 100000
set_option maxHeartbeats 16000000
namespace Go.Proofs.YtiaoandbdgdecaaGreat
section
set_option linter.unusedVariables false
set_option linter.unusedSimpArgs false
open Go.RowKit

structure VZ (w : World) (g : Nat) : Prop where
 c:∃ x y:Value,w.cell? ⟨g,0,none⟩=some x∧w.cell? ⟨g,1,none⟩=some y
 free:∀ j,w.frozen? ⟨g,j,none⟩=false
theorem keepVZ {w w':World} {g:Nat} (hb:Below w.heap.size w w') (h:VZ w g):VZ w' g:=by
 obtain ⟨⟨x,y,h0,h1⟩,hf⟩:=h
 exact ⟨⟨x,y,keepCell hb h0,keepCell hb h1⟩,fun j=>((bcell hb).2 _ _ (lt_of_cell h0)).trans (hf j)⟩
theorem VZ.lt {w:World} {g:Nat} (h:VZ w g):g<w.heap.size:=by obtain ⟨⟨_,_,h0,_⟩,_⟩:=h;exact lt_of_cell h0
theorem VZ.alloc {w:World} {g:Nat} (h:VZ w g) (o:Obj):VZ (w.alloc o) g:=keepVZ Ba h
theorem VZ.drew {w:World} {g:Nat} (h:VZ w g):VZ w.drew g:=⟨h.c,h.free⟩
theorem VZ.here (w:World) (a b:Int) (t:TypeId):VZ (w.alloc (.cells #[.int .i64 a,.int .i64 b] t)) w.heap.size :=
 ⟨⟨.int .i64 a,.int .i64 b,by go_simp,by go_simp⟩,fun j=>by go_simp⟩
theorem VZ.set {w:World} {g:Nat} (h:VZ w g) (a:Addr) (u:Value):VZ (w.setCell a u) g:=by
 obtain ⟨⟨x,y,h0,h1⟩,hf⟩:=h
 refine ⟨?_,fun j=>by rw [World.frozen?_setCell];exact hf j⟩
 have e:∀ j z,w.cell? ⟨g,j,none⟩=some z→∃ z',(w.setCell a u).cell? ⟨g,j,none⟩=some z':=fun j z hz=>by
  by_cases ha:a=⟨g,j,none⟩
  ·subst ha;exact ⟨u,by go_simp⟩
  ·exact ⟨z,by go_simp⟩
 obtain ⟨z0,e0⟩:=e 0 x h0
 obtain ⟨z1,e1⟩:=e 1 y h1
 exact ⟨z0,z1,e0,e1⟩
theorem Sl.empty' (w:World):Sl w none 0 0 []:=⟨rfl,by omega,by omega,fun h=>absurd rfl h⟩
end
end Go.Proofs.YtiaoandbdgdecaaGreat
namespace Go.Proofs.YtiaoandbdgdecaaGreat
section
set_option linter.unusedVariables false
set_option linter.unusedSimpArgs false
open Go.RowKit



structure BdZ (w : World) (g : Nat) : Prop where
 c:∀ j,j<13→∃ v,w.cell? ⟨g,j,none⟩=some v
 free:∀ j,w.frozen? ⟨g,j,none⟩=false
theorem BdZ.lt {w:World} {g:Nat} (h:BdZ w g):g<w.heap.size:=by
 obtain ⟨v,hv⟩:=h.c 0 (by omega)
 exact lt_of_cell hv
theorem keepBdZ {w w':World} {g:Nat} (hb:Below w.heap.size w w') (h:BdZ w g):BdZ w' g :=
 ⟨fun j hj=>by obtain ⟨v,hv⟩:=h.c j hj;exact ⟨v,keepCell hb hv⟩,fun j=>((bcell hb).2 _ _ h.lt).trans (h.free j)⟩
theorem BdZ.alloc {w:World} {g:Nat} (h:BdZ w g) (o:Obj):BdZ (w.alloc o) g:=keepBdZ Ba h
theorem BdZ.drew {w:World} {g:Nat} (h:BdZ w g):BdZ w.drew g:=⟨h.c,h.free⟩
theorem BdZ.of {w:World} {g:Nat} {b:Bd} {A:Option Addr} {n c:Nat} (h:BdAt w g b A n c):BdZ w g :=
 ⟨fun j hj=>match j,hj with
  | 0,_=>⟨_,h.c0⟩ | 1,_=>⟨_,h.c1⟩ | 2,_=>⟨_,h.c2⟩ | 3,_=>⟨_,h.c3⟩ | 4,_=>⟨_,h.c4⟩ | 5,_=>⟨_,h.c5⟩ | 6,_=>⟨_,h.c6⟩ | 7,_=>⟨_,h.c7⟩ | 8,_=>⟨_,h.c8⟩ | 9,_=>⟨_,h.c9⟩ | 10,_=>⟨_,h.c10⟩ | 11,_=>⟨_,h.c11⟩ | 12,_=>⟨_,h.c12⟩,h.free⟩
theorem BdZ.all {w:World} {g:Nat} (h:BdZ w g):∃ z0 z1 z2 z3 z4 z5 z6 z7 z8 z9 z10 z11 z12:Value,w.cell? ⟨g,0,none⟩=some z0∧w.cell? ⟨g,1,none⟩=some z1∧w.cell? ⟨g,2,none⟩=some z2∧w.cell? ⟨g,3,none⟩=some z3∧w.cell? ⟨g,4,none⟩=some z4∧w.cell? ⟨g,5,none⟩=some z5∧w.cell? ⟨g,6,none⟩=some z6∧w.cell? ⟨g,7,none⟩=some z7∧w.cell? ⟨g,8,none⟩=some z8∧w.cell? ⟨g,9,none⟩=some z9∧w.cell? ⟨g,10,none⟩=some z10∧w.cell? ⟨g,11,none⟩=some z11∧w.cell? ⟨g,12,none⟩=some z12:=by
 obtain ⟨z0,h0⟩:=h.c 0 (by omega)
 obtain ⟨z1,h1⟩:=h.c 1 (by omega)
 obtain ⟨z2,h2⟩:=h.c 2 (by omega)
 obtain ⟨z3,h3⟩:=h.c 3 (by omega)
 obtain ⟨z4,h4⟩:=h.c 4 (by omega)
 obtain ⟨z5,h5⟩:=h.c 5 (by omega)
 obtain ⟨z6,h6⟩:=h.c 6 (by omega)
 obtain ⟨z7,h7⟩:=h.c 7 (by omega)
 obtain ⟨z8,h8⟩:=h.c 8 (by omega)
 obtain ⟨z9,h9⟩:=h.c 9 (by omega)
 obtain ⟨z10,h10⟩:=h.c 10 (by omega)
 obtain ⟨z11,h11⟩:=h.c 11 (by omega)
 obtain ⟨z12,h12⟩:=h.c 12 (by omega)
 exact ⟨z0,z1,z2,z3,z4,z5,z6,z7,z8,z9,z10,z11,z12,h0,h1,h2,h3,h4,h5,h6,h7,h8,h9,h10,h11,h12⟩
theorem Sl.setAt {w:World} {A:Option Addr} {n c g o:Nat} {l:List V} {v:Value} (h:Sl w A n c l) (hne:∀ b off,A=some ⟨b,off,none⟩→b≠g):Sl (w.setCell ⟨g,o,none⟩ v) A n c l:=h.grown (grown_setCell _ _ _ _) hne
theorem BdZ.set {w:World} {g:Nat} (h:BdZ w g) (a:Addr) (u:Value):BdZ (w.setCell a u) g:=⟨fun j hj=>by
  obtain ⟨v,hv⟩:=h.c j hj
  by_cases e:a=⟨g,j,none⟩
  ·subst e;exact ⟨u,by go_simp⟩
  ·exact ⟨v,by go_simp⟩,fun j=>by rw [World.frozen?_setCell];exact h.free j⟩

def setBd (w:World) (g:Nat) (b:Bd) (A:Option Addr) (n c:Nat):World:=(((((((((((((w.setCell ⟨g,0,none⟩ (.int .i64 b.px)).setCell ⟨g,1,none⟩ (.int .i64 b.py)).setCell ⟨g,2,none⟩ (.int .i64 b.vx)).setCell ⟨g,3,none⟩ (.int .i64 b.vy)).setCell ⟨g,4,none⟩ (.int .i64 b.ang)).setCell ⟨g,5,none⟩ (.int .i64 b.spin)).setCell ⟨g,6,none⟩ (.int .i64 b.mass)).setCell ⟨g,7,none⟩ (.int .i64 b.iner)).setCell ⟨g,8,none⟩ (.int .i64 b.bounce)).setCell ⟨g,9,none⟩ (.int .i64 b.rub)).setCell ⟨g,10,none⟩ (.slice A n c)).setCell ⟨g,11,none⟩ (.bool b.asleep)).setCell ⟨g,12,none⟩ (.int .i64 b.calm))
theorem BdZ.setBd {w:World} {g k:Nat} (h:BdZ w k) (b:Bd) (A:Option Addr) (n c:Nat):BdZ (Go.Proofs.YtiaoandbdgdecaaGreat.setBd w g b A n c) k:=(((((((((((((h.set _ _).set _ _).set _ _).set _ _).set _ _).set _ _).set _ _).set _ _).set _ _).set _ _).set _ _).set _ _).set _ _)
theorem Sl.setBd {w:World} {A A':Option Addr} {n c n' c' g:Nat} {l:List V} (h:Sl w A n c l) (b:Bd) (hne:∀ bx off,A=some ⟨bx,off,none⟩→bx≠g):Sl (Go.Proofs.YtiaoandbdgdecaaGreat.setBd w g b A' n' c') A n c l:=(Sl.setAt (Sl.setAt (Sl.setAt (Sl.setAt (Sl.setAt (Sl.setAt (Sl.setAt (Sl.setAt (Sl.setAt (Sl.setAt (Sl.setAt (Sl.setAt (Sl.setAt h hne) hne) hne) hne) hne) hne) hne) hne) hne) hne) hne) hne) hne)

def bd0:Bd:=⟨0,0,0,0,0,0,0,0,0,0,false,0⟩
end
end Go.Proofs.YtiaoandbdgdecaaGreat
namespace Go.Proofs.YtiaoandbdgdecaaGreat
section
set_option linter.unusedVariables false
set_option linter.unusedSimpArgs false
open Go.RowKit
theorem keepSl {w w':World} {A:Option Addr} {n c:Nat} {l:List V} (hb:Below w.heap.size w w') (h:Sl w A n c l):Sl w' A n c l:=h.below hb
theorem Sl.drew' {w:World} {A:Option Addr} {n c:Nat} {l:List V} (h:Sl w A n c l):Sl w.drew A n c l:=⟨h.len,h.cap,h.big,fun hl=>by obtain ⟨b,off,e,hc⟩:=h.at_ hl;exact ⟨b,off,e,⟨hc.lt,hc.x,hc.y⟩⟩⟩
theorem bodyE_zero {b:Bd} {l:List V} (h:bodyE b l=0):shapeE l=0∧numE b=0:=by
 unfold bodyE at h
 split at h
 ·rename_i h1;exact absurd h h1
 ·rename_i h1;exact ⟨by simpa using h1,h⟩
theorem inB_iff {n l h:Int}:inB n l h=true↔l≤n∧n≤h:=by simp [inB]
theorem numE_zero {b:Bd} (h:numE b=0):(-58982400≤b.px∧b.px≤58982400 ∧ -58982400≤b.py∧b.py≤58982400)∧(-268435456≤b.vx∧b.vx≤268435456 ∧ -268435456≤b.vy∧b.vy≤268435456)∧(-16777216≤b.spin∧b.spin≤16777216)∧(0≤b.ang∧b.ang≤65535)∧(0≤b.mass∧b.mass≤1099511627776)∧(0≤b.iner∧b.iner≤1099511627776):=by
 unfold numE at h
 split at h
 ·rename_i h1
  split at h
  ·rename_i h2
   simp only [Bool.and_eq_true] at h1 h2
   exact ⟨withinB_iff.1 h1.1.1.1,withinB_iff.1 h1.1.1.2,inB_iff.1 h1.1.2,inB_iff.1 h1.2,inB_iff.1 h2.1.1.1.1,inB_iff.1 h2.1.1.1.2⟩
  ·omega
 ·omega
end
end Go.Proofs.YtiaoandbdgdecaaGreat
namespace Go.Proofs.YtiaoandbdgdecaaGreat
section
set_option linter.unusedVariables false
set_option linter.unusedSimpArgs false
open Go.RowKit

theorem BdAt.away {w:World} {g:Nat} {b:Bd} {A:Option Addr} {n c:Nat} (h:BdAt w g b A n c) (k o:Nat) (v:Value) (hne:k≠g):BdAt (w.setCell ⟨k,o,none⟩ v) g b A n c :=
 ⟨far1 hne h.c0,far1 hne h.c1,far1 hne h.c2,far1 hne h.c3,far1 hne h.c4,far1 hne h.c5,far1 hne h.c6,far1 hne h.c7,far1 hne h.c8,far1 hne h.c9,far1 hne h.c10,far1 hne h.c11,far1 hne h.c12,fun j=>by rw [World.frozen?_setCell];exact h.free j⟩
end
end Go.Proofs.YtiaoandbdgdecaaGreat
namespace Go.Proofs.YtiaoandbdgdecaaGreat
section
set_option linter.unusedVariables false
set_option linter.unusedSimpArgs false
open Go.RowKit
theorem rbetween_calls (n l h:Int) (w:World):Calls Tryz.prog 86 #[.int .i64 n,.int .i64 l,.int .i64 h] w (Ret (.bool (inB n l h)) w):=by
 go_enter Tryz.func86,Tryz.ntmps86
 go_wp2
 all_goals
  go_returns
  exact ⟨by simp [inB, *] <;> omega,by go_grown⟩

end
end Go.Proofs.YtiaoandbdgdecaaGreat
namespace Go.Proofs.YtiaoandbdgdecaaGreat
section
set_option linter.unusedVariables false
set_option linter.unusedSimpArgs false
open Go.RowKit
theorem sideZ_cyc (a b c d p q:Int):sideZ c d p q a b=sideZ a b c d p q:=by unfold sideZ;grind
theorem sideL_cyc (l:List V) (i k m:Nat):sideL l k m i=sideL l i k m:=sideZ_cyc _ _ _ _ _ _
theorem pos_of_mul {x y:Int} (hx:0<x) (h:0<x*y):0<y:=by
 rcases Int.lt_trichotomy y 0 with h1 | h1 | h1
 ·have:=Int.mul_neg_of_pos_of_neg hx h1;omega
 ·subst h1;simp at h
 ·exact h1
theorem nonneg_of_mul {x y:Int} (hx:0<x) (h:0≤x*y):0≤y:=by
 rcases Int.lt_or_le y 0 with h1 | h1
 ·have:=Int.mul_neg_of_pos_of_neg hx h1;omega
 ·exact h1

theorem plucker (ax ay bx b_y cx cy dx dy ex ey:Int):sideZ ax ay bx b_y dx dy*sideZ ax ay cx cy ex ey=sideZ ax ay bx b_y cx cy*sideZ ax ay dx dy ex ey+sideZ ax ay bx b_y ex ey*sideZ ax ay cx cy dx dy:=by
 unfold sideZ
 generalize bx-ax=b1;generalize b_y-ay=b2;generalize cx-ax=c1;generalize cy-ay=c2;generalize dx-ax=d1;generalize dy-ay=d2;generalize ex-ax=e1;generalize ey-ay=e2
 grind
theorem edge_pos {l:List V} (h:rowsOk l l.length) {i k:Nat} (hi:i<l.length) (hk:k<l.length) (h1:k≠i) (h2:k≠(i+1) % l.length):0<sideL l i ((i+1) % l.length) k:=by
 have:=h i hi k hk
 simp only [edgeBad,decide_eq_false_iff_not] at this
 omega
theorem tri_of_rows {l:List V} (h:rowsOk l l.length):tri1 l l.length:=by
 intro i hi k hik hk
 -- by induction on m,from k+1 on
 have key:∀ d m,m=k+1+d→m<l.length→0<sideL l i k m:=by
  intro d
  induction d with
  | zero =>
   intro m hm hml
   have e:=edge_pos h (i:=k) (k:=i) hk hi (by omega) (by rw [Nat.mod_eq_of_lt (by omega)];omega)
   rw [Nat.mod_eq_of_lt (by omega)] at e
   rw [hm,← sideL_cyc]
   simpa using e
  | succ d ih =>
   intro m hm hml
   have h1:=ih (k+1+d) rfl (by omega)
   have h2:=edge_pos h (i:=k+1+d) (k:=i) (by omega) hi (by omega) (by rw [Nat.mod_eq_of_lt (by omega)];omega)
   rw [Nat.mod_eq_of_lt (by omega),show k+1+d+1=m by omega,sideL_cyc] at h2
   by_cases e:k=i+1
   ·have h3 := edge_pos h (i := i) (k := m) hi hml (by omega) (by rw [Nat.mod_eq_of_lt (by omega)]; omega)
    rw [Nat.mod_eq_of_lt (by omega)] at h3
    rw [e];exact h3
   ·have h3 := edge_pos h (i := i) (k := k) hi hk (by omega) (by rw [Nat.mod_eq_of_lt (by omega)]; omega)
    have h4:=edge_pos h (i:=i) (k:=k+1+d) hi (by omega) (by omega) (by rw [Nat.mod_eq_of_lt (by omega)];omega)
    have h5:=edge_pos h (i:=i) (k:=m) hi hml (by omega) (by rw [Nat.mod_eq_of_lt (by omega)];omega)
    rw [Nat.mod_eq_of_lt (by omega)] at h3 h4 h5
    have hp:=plucker (px l i) (py l i) (px l (i+1)) (py l (i+1)) (px l k) (py l k) (px l (k+1+d)) (py l (k+1+d)) (px l m) (py l m)
    have hq:0<sideL l i (i+1) (k+1+d)*sideL l i k m:=by
     show 0<sideZ _ _ _ _ _ _*sideZ _ _ _ _ _ _
     rw [hp]
     have m1:=Int.mul_pos h3 h2
     have m2:=Int.mul_pos h5 h1
     unfold sideL at m1 m2
     omega
    exact pos_of_mul h4 hq
 intro m hkm hm
 exact key (m-k-1) m (by omega) hm
theorem rows_of_tri {l:List V} (h3:3≤l.length) (h:tri1 l l.length):rowsOk l l.length:=by
 intro i hi k hk
 refine edgeBad_not ?_
 by_cases h1:k=i
 ·exact .inl h1
 by_cases h2:k=(i+1) % l.length
 ·exact .inr (.inl h2)
 refine .inr (.inr ?_)
 by_cases e:i+1=l.length
 ·have e2 : (i + 1) % l.length = 0 := by rw [e, Nat.mod_self]
  rw [e2] at h2 ⊢
  have:=h 0 (by omega) k (by omega) hk i (by omega) hi
  rwa [← sideL_cyc,← sideL_cyc] at this
 ·rw [Nat.mod_eq_of_lt (by omega)] at h2 ⊢
  by_cases hlt:k<i
  ·have := h k hk i hlt hi (i + 1) (by omega) (by omega)
   rwa [← sideL_cyc] at this
  ·exact h i hi (i+1) (by omega) (by omega) k (by omega) hk
theorem check_eq_poly (l:List V):checkE l=polyE l:=by
 by_cases h8:8<l.length
 ·rw [checkE,if_pos h8,polyE,if_pos h8]
 by_cases h3:l.length<3
 ·rw [checkE,if_neg h8,if_pos h3,polyE,if_neg h8,if_pos h3]
 cases hw:allWithin 65536000 l with
 | false=>rw [checkE,if_neg h8,if_neg h3,if_pos hw,polyE,if_neg h8,if_neg h3,if_pos hw]
 | true =>
  rcases checkE_cases l with h | h | h | h
  ·rw [h,polyE_ok (by omega) (by omega) hw (tri_of_rows (checkE_zero h).2.2.2)]
  ·exfalso
   rw [checkE,if_neg h8,if_neg h3,if_neg (by simp [hw])] at h
   split at h <;> omega
  ·exfalso
   rw [checkE,if_neg h8,if_neg h3,if_neg (by simp [hw])] at h
   split at h <;> omega
  ·by_cases hz : polyE l = 0
   ·have := checkE_ok (by omega) (by omega) hw (rows_of_tri (by omega) (polyE_zero hz).2.2.2)
    omega
   ·rw [h]
    unfold polyE at hz ⊢
    rw [if_neg h8,if_neg h3,if_neg (by simp [hw])] at hz ⊢
    split at hz
    ·exact absurd rfl hz
    ·rename_i hh
     rw [if_neg hh]
theorem supTo_spec (l:List V) (u v:Int) (k:Nat) (hk:0<k):supTo l u v k<k∧(∀ j,j<k→dotL l u v j≤dotL l u v (supTo l u v k))∧(∀ j,j<supTo l u v k→dotL l u v j<dotL l u v (supTo l u v k)):=by
 induction k with
 | zero=>omega
 | succ k ih =>
  by_cases e:k=0
  ·subst e
   have:supTo l u v 1=0:=by simp [supTo]
   rw [this]
   exact ⟨by omega,fun j hj=>by rw [show j=0 by omega];omega,fun j hj=>by omega⟩
  ·obtain ⟨a, b, c⟩ := ih (by omega)
   simp only [supTo]
   split
   ·rename_i hlt
    refine ⟨by omega,fun j hj=>?_,fun j hj=>?_⟩
    ·by_cases e2 : j = k
     ·subst e2;omega
     ·have:=b j (by omega);omega
    ·have:=b j (by omega);omega
   ·rename_i hlt
    refine ⟨by omega,fun j hj=>?_,c⟩
    by_cases e2:j=k
    ·subst e2;omega
    ·exact b j (by omega)
theorem far_eq (l:List V) (u v:Int) (h3:3≤l.length) (r:Int) (h:farIs l u v r):(supTo l u v l.length:Int)=r:=by
 obtain ⟨a,b,c⟩:=supTo_spec l u v l.length (by omega)
 have ok:okTo l u v (supTo l u v l.length) l.length=true:=by
  rw [okTo_iff]
  intro j hj
  have h1:=b j hj
  refine decide_eq_true ?_
  by_cases e:dotL l u v j=dotL l u v (supTo l u v l.length)
  ·refine .inr ⟨e, ?_⟩
   rcases Nat.lt_or_ge j (supTo l u v l.length) with h2 | h2
   ·have:=c j h2;omega
   ·exact h2
  ·left;omega
 rcases h with ⟨i,rfl,hi,hn,hok⟩ | ⟨rfl,hn⟩
 ·rw [okTo_iff] at hok
  have h1:=of_decide_eq_true (hok _ a)
  have h2:=b i hi
  rcases h1 with h1 | ⟨h1,h1'⟩
  ·omega
  ·rcases Nat.lt_or_ge i (supTo l u v l.length) with h4 | h4
   ·have:=c i h4;omega
   ·omega
 ·have := hn _ a
  rw [ok] at this
  cases this

theorem bary (ax ay bx b_y cx cy px' py' ex ey fx fy:Int) :
  sideZ ax ay bx b_y cx cy*sideZ ex ey fx fy px' py'=sideZ bx b_y cx cy px' py'*sideZ ex ey fx fy ax ay+sideZ cx cy ax ay px' py'*sideZ ex ey fx fy bx b_y+sideZ ax ay bx b_y px' py'*sideZ ex ey fx fy cx cy:=by
 unfold sideZ
 grind
theorem edge_nonneg {l:List V} (h:rowsOk l l.length) {i j:Nat} (hi:i<l.length) (hj:j<l.length):0≤sideL l i ((i+1) % l.length) j:=by
 by_cases h1:j=i
 ·subst h1;unfold sideL sideZ;simp
 by_cases h2:j=(i+1) % l.length
 ·subst h2;unfold sideL sideZ;rw [Int.mul_comm];omega
 ·exact Int.le_of_lt (edge_pos h hi hj h1 h2)
theorem has_eq {l:List V} {p q:Int} (hE:checkE l=0):hasB l p q=insB l p q:=by
 obtain ⟨h8,h3,hw,hr⟩:=checkE_zero hE
 have ht:=tri_of_rows hr
 rw [Bool.eq_iff_iff,hasB_iff,insB_iff]
 constructor
 ·rintro ⟨_, hp, ha⟩
  refine ⟨hp,?_⟩
  -- the first m from 2 on of which p is not to the left
  have s1:0≤sideP l 0 1 p q:=by
   have:=ha 0 (by omega)
   rwa [edgeP,Nat.mod_eq_of_lt (by omega)] at this
  have sn:sideP l 0 (l.length-1) p q≤0:=by
   have:=ha (l.length-1) (by omega)
   rw [edgeP,show l.length-1+1=l.length by omega,Nat.mod_self] at this
   unfold sideP
   have e:sideZ (px l 0) (py l 0) (px l (l.length-1)) (py l (l.length-1)) p q = - sideZ (px l (l.length-1)) (py l (l.length-1)) (px l 0) (py l 0) p q:=by unfold sideZ;grind
   omega
  have down:∀ e,e+2≤l.length→(∃ m,2≤m∧m<l.length∧0≤sideP l 0 (m-1) p q∧sideP l 0 m p q≤0)∨sideP l 0 (l.length-1-e) p q≤0:=by
   intro e
   induction e with
   | zero=>intro _;right;simpa using sn
   | succ e ih =>
    intro he
    rcases ih (by omega) with h | h
    ·exact .inl h
    ·rcases Int.lt_or_le (sideP l 0 (l.length - 1 - (e + 1)) p q) 0 with h2 | h2
     ·exact .inr (by omega)
     ·exact .inl ⟨l.length-1-e,by omega,by omega,by rw [show l.length-1-e-1=l.length-1-(e+1) by omega];exact h2,h⟩
  obtain ⟨m,hm2,hm,a,b⟩:∃ m,2≤m∧m<l.length∧0≤sideP l 0 (m-1) p q∧sideP l 0 m p q≤0:=by
   rcases down (l.length-3) (by omega) with h | h
   ·exact h
   ·refine ⟨2, by omega, by omega, s1, ?_⟩
    rwa [show l.length-1-(l.length-3)=2 by omega] at h
  refine ⟨m,hm2,hm,decide_eq_true ⟨a,?_,?_⟩⟩
  ·have := ha (m - 1) (by omega)
   rwa [edgeP,show m-1+1=m by omega,Nat.mod_eq_of_lt hm] at this
  ·have e : sideP l m 0 p q = - sideP l 0 m p q := by unfold sideP sideZ; grind
   omega
 ·rintro ⟨hp, m, hm2, hm, h⟩
  obtain ⟨a,b,c⟩:=of_decide_eq_true h
  refine ⟨hE,hp,fun i hi=>?_⟩
  have T:=ht 0 (by omega) (m-1) (by omega) (by omega) m (by omega) hm
  have e:=bary (px l 0) (py l 0) (px l (m-1)) (py l (m-1)) (px l m) (py l m) p q (px l i) (py l i) (px l ((i+1) % l.length)) (py l ((i+1) % l.length))
  have m1:=Int.mul_nonneg b (edge_nonneg hr hi (show 0<l.length by omega))
  have m2:=Int.mul_nonneg c (edge_nonneg hr hi (show m-1<l.length by omega))
  have m3:=Int.mul_nonneg a (edge_nonneg hr hi hm)
  refine nonneg_of_mul T ?_
  show 0≤sideZ _ _ _ _ _ _*sideZ _ _ _ _ _ _
  rw [e]
  unfold sideP sideL at *
  omega
end
end Go.Proofs.YtiaoandbdgdecaaGreat
